import Derived.Test.YtcfjfbeadhnknaaGreatDoorTG
namespace Go.Proofs.YtcfjfbeadhnknaaGreatDoor
set_option linter.unusedVariables false
set_option linter.unusedSimpArgs false
set_option linter.unusedSectionVars false
set_option linter.constructorNameAsVariable false
set_option maxRecDepth 100000
namespace Lt
section
set_option linter.unusedVariables false
set_option linter.unusedSimpArgs false
set_option linter.unusedSectionVars false
set_option linter.constructorNameAsVariable false
abbrev qX:=Nat×Nat×List Nat×Nat
def T6(e:qX):Value:=.agg #[.int .i64 e.1,.int .i64 e.2.1]
def KV(e:qX):Value:=.agg #[ae e.2.2.1.length (e.2.2.1.map λt=>.int .i64 (Int.ofNat t)),.int .i64 e.2.2.2]
theorem V8:∀l:List qX,ym (l.map KU)=some (l.map λe=>(T6 e,KV e))
 |[]=>rfl
 |e::l=>by
  show ob (ym (l.map KU)) _=_
  rw[V8 l]
  rfl
theorem Zj(a b:Int)(e:qX):jd [.int .i64 a,.int .i64 b] [.int .i64 e.1,.int .i64 e.2.1]=some (decide (a=(e.1 :Int)/\b=(e.2.1 :Int))):=by
 unfold jd
 unfold jd
 unfold jd
 by_cases h1:a=(e.1 :Int)
 ·by_cases h2:b=(e.2.1 :Int)
  ·simp_all
  ·simp_all
 ·simp[h1]
def pU(a b:Int)(e:qX):Bool:=decide (a=(e.1 :Int)/\b=(e.2.1 :Int))
theorem PE(a b:Int):∀(l:List qX)(i:Nat),∃j,ug [.int .i64 a,.int .i64 b] (l.map λe=>(T6 e,KV e)) i=some ((l.find? (pU a b)).map λe=>(j,KV e))
 |[],i=>⟨0,rfl⟩
 |e::l,i=>by
  rw[iF,List.find?_cons]
  show∃j,(ob (jd [.int .i64 a,.int .i64 b] [.int .i64 e.1,.int .i64 e.2.1]) λq=>cond q _ _)=_
  rw[Zj]
  show∃j,cond (pU a b e) _ _=_
  cases h:pU a b e with
  |true=>simp
  |false=>
   obtain⟨j,hj⟩:=PE a b l (i+1)
   exact⟨j,hj⟩
def oh:List qX:=[(0,256,[3,4],1),(0,257,[3,4],1),(0,259,[3],1),(0,274,[3],1),(0,296,[3],1),(0,531,[3],1),(0,270,[2],0),(0,271,[2],0),(0,272,[2],0),(0,305,[2],0),(0,315,[2],0),(0,33432,[2],0),(0,306,[2],20),(0,282,[5],1),(0,283,[5],1),(1,256,[3,4],1),(1,257,[3,4],1),(1,259,[3],1),(1,274,[3],1),(1,296,[3],1),(1,531,[3],1),(1,270,[2],0),(1,271,[2],0),(1,272,[2],0),(1,305,[2],0),(1,315,[2],0),(1,33432,[2],0),(1,306,[2],20),(1,282,[5],1),(1,283,[5],1),(2,33434,[5],1),(2,33437,[5],1),(2,37378,[5],1),(2,37386,[5],1),(2,34850,[3],1),(2,37383,[3],1),(2,37384,[3],1),(2,37385,[3],1),(2,40961,[3],1),(2,41986,[3],1),(2,36864,[7],4),(2,37121,[7],4),(2,40960,[7],4),(2,37377,[10],1),(2,37380,[10],1),(2,36867,[2],20),(2,36868,[2],20),(2,40962,[3,4],1),(2,40963,[3,4],1),(2,34855,[3],0),(2,37510,[7],0),(2,37520,[2],0),(2,41728,[7],1),(2,42016,[2],33),(2,42034,[5],4),(3,0,[1],4),(3,5,[1],1),(3,6,[5],1),(3,1,[2],2),(3,3,[2],2),(3,2,[5],3),(3,4,[5],3),(3,7,[5],3),(3,18,[2],0),(3,29,[2],11),(4,1,[2],4),(4,2,[7],4),(5,45056,[7],4),(5,45313,[4],1),(5,45569,[4],1),(5,45570,[4],1),(5,45572,[5],1),(5,45574,[5],1),(5,45573,[10],1),(5,45576,[10],1)]
theorem afd(w:Nat):Ms w=some (xu oh):=rfl
def T5(e:qX):(Int×Int)×List Int×Int:=(((e.1 :Int),(e.2.1 :Int)),e.2.2.1.map (λn:Nat=>(n:Int)),(e.2.2.2 :Int))
theorem adV:T7=oh.map T5:=by decide
theorem adT(d t:Int):KW d t=(oh.find? (pU d t)).map λe=>(e.2.2.1.map (λn:Nat=>(n:Int)),(e.2.2.2 :Int)):=by
 unfold KW
 rw[adV]
 generalize oh=l
 induction l with
 |nil=>rfl
 |cons e l ih=>
  rw[iF,List.find?_cons]
  unfold T5
  rw[List.lookup_cons]
  have:((d,t)==(((e.1 :Int),(e.2.1 :Int))))=pU d t e:=by
   unfold pU
   grind
  rw[this]
  cases pU d t e with
  |true=>rfl
  |false=>exact ih
theorem Q3{α:Type}[BEq α](l:List α)(x:α):(db (λy=>x==y) l<0)=(l.any (λy=>x==y)=false):=by
 rw[wR]
 simp
theorem afS{w:Nat}(l:List Int)(x:Int)(hl:l.length<2^40)(hw:l.length<w):MX w (aA dw l) x=some (db (λy=>x==y) l):=by
 refine mB l (λy=>x==y) (ev:=λi (g:Value->Int->Int->Int->Option Int)=>g (aA dw l) x l.length i) ?_ ?_ hw
 ·intro i g h
  simp
  rw[bu oR h]
  simp[dw]
  rw[aM (by omega) (by omega)]
  grind
 simp
theorem afv{w:Nat}(l:List Int)(x:Int)(hl:l.length<2^40)(hw:l.length<w):FO w (aA dw l) x=some (l.contains x):=by
 unfold FO
 rw[afS l x hl hw]
 congr 1
 have:=Q3 l x
 rw[(show l.contains x=l.any (λy=>x==y) from by rw[List.contains_eq_any_beq])]
 cases h:l.any (λy=>x==y) with
 |true=>simp_all
 |false=>simp_all
def Ao(p:Int×Int):List Value:=[.int .i64 p.1,.int .i64 p.2]
theorem adi(p:Int×Int):(Ao p).length=2:=rfl
theorem af4{w:Nat}(l:List (Int×Int))(a b:Int)(hl:l.length<2^40)(hw:l.length<w):Na w (aA Ao l) a b=some (db (λy=>(a,b)==y) l):=by
 refine mB l (λy=>(a,b)==y) (ev:=λi (g:Value->Int->Int->Int->Int->Option Int)=>g (aA Ao l) l.length i a b) ?_ ?_ hw
 ·intro i g h
  have e1:((i:Int)<(l.length:Int)):=by omega
  simp only[aT,e1,bP]
  rw[bu adi h]
  simp only[(show∀(x:Int×Int)(r:List Value),Ao x++r=.int .i64 x.1 ::.int .i64 x.2 ::r fromλ_ _=>rfl),bT]
  rw[aM (by omega) (by omega)]
  have hb:((a,b)==l[i])=(decide (a=l[i].1)&&decide (b=l[i].2)):=by
   rw[im,beq_iff_eq,bt,bZ,bZ,Prod.ext_iff]
  rw[hb]
  by_cases e2:a=l[i].1
  ·by_cases e3:b=l[i].2
   ·simp
   ·simp
  ·simp
 ·intro g
  simp
theorem afu{w:Nat}(hw:20<=w)(a b:Int):FN w a b=some (o8.contains (a,b)):=by
 unfold FN MW
 have e:ae 8 (List.drop 0 [Value.int IntKind.i64 0,Value.int IntKind.i64 34665,Value.int IntKind.i64 0,Value.int IntKind.i64 34853,Value.int IntKind.i64 1,Value.int IntKind.i64 513,Value.int IntKind.i64 1,Value.int IntKind.i64 514,Value.int IntKind.i64 2,Value.int IntKind.i64 37500,Value.int IntKind.i64 2,Value.int IntKind.i64 40965,Value.int IntKind.i64 5,Value.int IntKind.i64 45057,Value.int IntKind.i64 5,Value.int IntKind.i64 45058])=aA Ao o8:=rfl
 rw[e,af4 _ _ _ (by decide) (by show 8<w;omega)]
 congr 1
 have:=Q3 o8 (a,b)
 rw[(show o8.contains (a,b)=o8.any (λy=>(a,b)==y) from by rw[List.contains_eq_any_beq])]
 cases h:o8.any (λy=>(a,b)==y) with
 |true=>simp_all
 |false=>simp_all
theorem adU{d t:Int}{e:qX}(h:oh.find? (pU d t)=some e):e.2.2.1.length<=2:=by
 have:∀e∈oh,e.2.2.1.length<=2:=by decide
 grind
theorem afe{w:Nat}(hw:20<=w)(d:Int)(t:aI)(hl:t.data.length<2^40):Bi w (xu oh) d t.tag t.ty t.aw (ag t.data)=some (rA d t):=by
 unfold Bi rA
 simp only[aT,qn]
 by_cases h1:d<0
 ·rw[au h1]
  have:¬(0<=d):=by omega
  simp[this]
 rw[ai h1]
 by_cases h2:d<6
 case neg=>simp[h2]
 by_cases h3:t.tag<0
 ·rw[au h3]
  have:¬(0<=t.tag):=by omega
  simp[this]
 rw[ai h3]
 by_cases h4:65535<t.tag
 ·rw[au h4]
  have:¬(t.tag<=65535):=by omega
  simp[this]
 rw[ai h4]
 have h5:0<=d/\d<6/\0<=t.tag/\t.tag<=65535:=by omega
 rw[afu hw,xQ _ _ _ _ hl]
 simp only[az,h5,and_self,bd]
 cases hr:o8.contains (d,t.tag) with
 |true=>rfl
 |false=>
  cases hm:ej t.ty t.aw t.data with
  |false=>rfl
  |true=>
   rw[adT]
   obtain⟨j,hj⟩:=PE d t.tag oh 0
   have hL:∀(zs:List Value)(K:Bool->List Value->Option Bool),zT p9.T 402 (xu oh) (.agg (Array.mk [.int .i64 d,.int .i64 t.tag])) zs K=match oh.find? (pU d t.tag) with
    |none=>K false (zs.map zN)
    |some e=>K true [ae e.2.2.1.length (e.2.2.1.map λt=>.int .i64 (Int.ofNat t)),.int .i64 e.2.2.2]:=by
    intro zs K
    unfold zT xu
    simp only
    rw[V8]
    simp
    rw[hj]
    cases oh.find? (pU d t.tag) with
    |none=>rfl
    |some e=>rfl
   rw[hL]
   cases hf:oh.find? (pU d t.tag) with
   |none=>rfl
   |some e=>
    have hle:=adU hf
    simp only[bh,qU]
    have e1:ae e.2.2.1.length (e.2.2.1.map λt=>Value.int .i64 (Int.ofNat t))=aA dw (e.2.2.1.map (λn:Nat=>(n:Int))):=by
     unfold aA
     rw[cH]
     congr 1
     generalize e.2.2.1 =l
     induction l with
     |nil=>rfl
     |cons a l ih=>rw[iF,iF,ih];rfl
    rw[e1,afv _ _ (by rw[cH];omega) (by rw[cH];omega)]
    cases(e.2.2.1.map (λn:Nat=>(n:Int))).contains t.ty with
    |false=>rfl
    |true=>
     by_cases h0:e.2.2.2 =0
     ·simp[h0]
     ·have h0':¬((e.2.2.2 :Int)=0):=by omega
      rw[(show((e.2.2.2 :Int)==0)=false from by simpa using h0')]
      simp_all
      rfl
theorem TV:∀{l:List aI},(∀i (hi:i+1<l.length),l[i].tag<l[i+1].tag)->fI l=true
 |[],_=>rfl
 |[a],_=>rfl
 |a::b::l,h=>by
  simp[fI]
  exact⟨h 0 (by simp),TV λi hi=>h (i+1) (by grind)⟩
theorem adS(d:Int)(l:List aI):cV d l=((List.range l.length).all (λi=>(decide (i=0)||decide ((l[i -1]?.map aI.tag).getD 0<(l[i]?.map aI.tag).getD 0))&&((l[i]?.map (rA d)).getD true))&&decide (0<=d/\d<6)):=by
 unfold cV
 congr 1
 rw[im]
 simp
 constructor
 ·rintro ⟨h1,h2⟩ i hi
  refine⟨?_,?_⟩
  ·by_cases q:i=0
   ·grind
   ·right
    rw[cW hi,cW (show i -1<l.length by omega)]
    exact u7 h1 (by omega) hi
  grind
 ·intro h
  refine⟨?_,λx hx=>?_⟩
  ·refine TV λi hi=>?_
   grind
  ·obtain⟨i,hi,rfl⟩:=List.getElem_of_mem hx
   grind
theorem ZE{δ:Type}{z:δ}{F:δ->δ}{w:Nat}(m:Nat)(ok:Nat->Bool)(r:Bool)(ev:Nat->δ->Option Bool)(hs:∀i g,i<m->ev i (F g)=if ok i=true then ev (i+1) g else some false)(he:∀g,ev m (F g)=some r)(hw:m<w):
 ev 0 (lp z F w)=some ((List.range m).all ok&&r):=by
 have key:∀(d i v:Nat),i+d=m->d<v->ev i (lp z F v)=some (((List.range d).all λj=>ok (i+j))&&r):=by
  intro d
  induction d with
  |zero=>
   intro i v hi hv
   rw[dQ z F (by omega),show i=m by omega,he]
   rfl
  |succ d ih=>
   intro i v hi hv
   rw[dQ z F (by omega),hs i _ (by omega),tV]
   by_cases h:ok i=true
   ·rw[ih (i+1) (v -1) (by omega) (by omega)]
    simp[h]
    grind
   grind
 grind
theorem rO{w:Nat}(hw:20<=w)(d:Int)(l:List aI)(hl:l.length<2^40)(hd:∀t∈l,t.data.length<2^40)(hlw:l.length<w):oq w d (ay l)=some (cV d l):=by
 unfold oq ay
 rw[afd,adS]
 simp only[az]
 refine ZE l.length _ (decide (0<=d/\d<6)) (ev:=λi (g:Int->Value->Value->Value->Int->Int->Option Bool)=>g d (aA cq l) (xu oh) (aA cq l) l.length i) ?_ ?_ hlw
 ·intro i g h
  have e1:((i:Int)<(l.length:Int)):=by omega
  simp only[aT,e1,aB,bP]
  rw[bu gY h]
  have tt:∀(t:aI)(r:List Value),cq t++r=.int .i64 t.tag::.int .i64 t.ty::.int .i64 t.aw::ag t.data::r:=λ_ _=>rfl
  simp only[tt,bh,bQ]
  rw[afe hw d l[i] (hd _ (cM h)),cW h]
  simp only[az,bT,jg,qU]
  rw[aM (n:=(i:Int)+1) (by omega) (by omega)]
  by_cases h0:i=0
  ·have e2:¬((0:Int)<(i:Int)):=by omega
   have e3:decide (i=0)=true:=by simp[h0]
   simp only[e2,bM,aC,e3,Bool.true_or]
   cases rA d l[i]<;>rfl
  ·have e2:((0:Int)<(i:Int)):=by omega
   simp_all
   rw[aM (by omega) (by omega),lK (by omega),show((i:Int) -1).toNat=i -1 by omega]
   rw[bu gY (show i -1<l.length by omega),cW (show i -1<l.length by omega)]
   simp_all
   by_cases h3:l[i -1].tag<l[i].tag
   ·simp only[h3,bd,aC,eD]
    cases rA d l[i]<;>rfl
   ·simp[h3]
 ·intro g
  have e1:¬((l.length:Int)<(l.length:Int)):=by omega
  by_cases h1:d<0
  ·have:¬(0<=d):=by omega
   simp[this]
  ·have:0<=d:=by omega
   simp[h1,this]
end
section
set_option linter.unusedVariables false
set_option linter.unusedSimpArgs false
set_option linter.unusedSectionVars false
set_option linter.constructorNameAsVariable false
def eV(l:List UInt8):List Value:=[ag l]
structure Hand(w:Nat):Prop where
 may:∀o ds,ds.length<1000000000->(∀d∈ds,∃(sh:List aX)(s:Nat),cD sh s d=true)->kJ ds<=w->vr w o (cU ds)=some true
 set:∀(l:List aI)(x:aI),fI l=true->l.length<2^20->l.length+2<w->(∀t∈l,t.data.length<=1000000000)->x.data.length<=1000000000->Bn w (ay l) x.tag x.ty x.aw (ag x.data)=some (ay (jW l x))
 drop:∀(l:List aI)(t:Int),fI l=true->l.length<2^20->l.length+2<w->(∀t∈l,t.data.length<=1000000000)->xU w (ay l) t=some (ay (oL l t))
 cut:∀b:List UInt8,b.length<=65519->BA w (ag b)=some (aA eV (fW b),0)
 cat:∀a b c d:List UInt8,0<a.length->a.length+b.length+c.length+d.length<2^29->tw w (ag a) (ag b) (ag c) (d.map aV)=some ((d++(a++(b++c))).map aV)
theorem q9(w:Nat)(l:List UInt8)(hl:l.length<=1000000000):nz w (ag l)=some (ag l):=by
 unfold nz
 by_cases h:l.length=0
 ·have e:Nat.beq l.length 0=true:=by rw[h];rfl
  rw[my h];rfl
 ·have e:Nat.beq l.length 0=false:=by simp[h]
  unfold Mq Ez
  rw[gV,gR]
  have e1:Nat.blt 0 l.length=true:=by simp;omega
  have hn:=nextslicecap_le (need:=0+l.length) (old:=0) (by omega)
  have e4:(Builtin.nextslicecap (0+l.length) 0).ble 5000000000=true:=by rw[iO];omega
  simp_all
  rw[uk _ _ rfl]
theorem W9(w:Nat)(l:List aI)(h:l.length≠0)(hl:l.length<=1000000000):FR w (ay l)=some (l.flatMap cq):=by
 unfold FR ay
 rw[zr gY]
 have hn:=nextslicecap_le (need:=0+l.length) (old:=0) (by omega)
 have e4:(Builtin.nextslicecap (0+l.length) 0).ble 5000000000=true:=by rw[iO];omega
 have e5:(l.flatMap cq).length.beq (l.length*4)=true:=by rw[dH gY];exact mQ _
 simp_all
theorem rE{w:Nat}(l:List aI)(hl:l.length<=100000000)(hd:∀t∈l,t.data.length<=1000000000)(hw:l.length<w):lZ w (ay l)=some (ay l):=by
 unfold lZ
 rw[(show∀K:Nat->Option Value,aq (ay l) K=K l.length fromλK=>cd cq l K)]
 by_cases h:l.length=0
 ·have e:Nat.beq l.length 0=true:=by rw[h];rfl
  rw[my h];rfl
 have e:Nat.beq l.length 0=false:=by simp[h]
 rw[e]
 unfold MC
 rw[W9 w l h (by omega)]
 have hfl:=dH gY l
 simp only[az,hfl,jG _ (show 0<4 by decide)]
 refine ia (ev:=λi (g:Int->Int->List Value->Option Value)=>g (l.length:Int) i (l.flatMap cq)) l.length ?_ ?_ hw
 ·intro i g hi
  have e1:((i:Int)<(l.length:Int)):=by omega
  have e2:i*4<(l.flatMap cq).length:=by omega
  have e3:0+i*4+1+2+1<=(l.flatMap cq).length:=by omega
  have hdr:(l.flatMap cq).drop (0+i*4+1+2)=ag l[i].data::(l.drop (i+1)).flatMap cq:=by
   rw[show 0+i*4+1+2=i*4+3 by omega,<-List.drop_drop,oO gY,dk hi]
   rfl
  simp only[aT,e1,bd,aB,bP,mn,e2,gC,e3]
  rw[hdr]
  simp only[bh]
  rw[q9 w _ (hd _ (cM hi))]
  simp only[az,aB,D8,bT]
  rw[aM (by omega) (by omega)]
  have hset:(l.flatMap cq).set (0+i*4+1+2) (ag l[i].data)=l.flatMap cq:=by
   have hg:(l.flatMap cq)[0+i*4+1+2]'(by omega)=ag l[i].data:=by
    have:=dk (l:=l.flatMap cq) (i:=0+i*4+1+2) (by omega)
    rw[hdr] at this
    exact(List.cons.inj this).1.symm
   rw[<-hg]
   exact List.set_getElem_self _
  rw[hset]
  rfl
 ·intro g
  simp only[aT,(show¬((l.length:Int)<(l.length:Int)) from by omega),bM,aC]
  unfold ay aA
  rw[hfl,jG _ (show 0<4 by decide)]
theorem max_eq{w:Nat}(a:Int)(l:List Int)(hl:l.length<2^40)(hw:l.length+1<w):FU w (aA dw (a::l))=some (l.foldl (λm x=>if m<x then x else m) a):=by
 unfold FU
 simp only[aT,cm]
 refine np (ev:=λi s (g:Value->Int->Int->Option Int)=>g (aA dw (a::l)) s ((i+1:Nat):Int)) (Inv:=λi s=>(l.drop i).foldl (λm x=>if m<x then x else m) s=l.foldl (λm x=>if m<x then x else m) a) l.length a (by rfl) ?_ ?_ (by omega)
 ·rintro i g s hi h1
  rw[dk hi] at h1
  refine⟨_,h1,?_⟩
  simp only[(show∀K:Nat->Option Int,aq (aA dw (a::l)) K=K (l.length+1) fromλK=>cd dw (a::l) K),(show(((i+1:Nat):Int)<((l.length+1:Nat):Int)) from by omega),bP]
  rw[bu oR (show i+1<(a::l).length by simp;omega)]
  simp
  rw[aM (by omega) (by omega)]
  rfl
 simp
theorem PQ:∀(l:List Int)(a:Int),0<l.foldl (λm x=>if m<x then x else m) a↔(0<a\/∃x∈l,0<x)
 |[],a=>by simp
 |b::l,a=>by
  rw[List.foldl_cons,PQ l]
  by_cases h:a<b
  ·rw[au h]
   constructor
   ·simp_all
   grind
  grind
theorem Ny{w:Nat}(hw:20<=w)(a:Int)(l:List Int)(hl:l.length<10):xL w (aA dw (a::l))=some (decide (0<a\/∃x∈l,0<x)):=by
 unfold xL
 rw[max_eq a l (by omega) (by omega)]
 simp only[az,aT]
 congr 1
 rw[im,bZ,bZ]
 exact PQ l a
structure jI(x:dr)(m:Nat):Prop where
 rows:qC x m
 d0:∀t∈x.ct,t.data.length<=m
 d2:∀t∈x.bI,t.data.length<=m
 d3:∀t∈x.bN,t.data.length<=m
 d4:∀t∈x.bn,t.data.length<=m
 d1:∀t∈x.first,t.data.length<=m
 ZT:x.bH.length<=m
 th:x.cP.length<=m
theorem U1{w m:Nat}{x:dr}(h:jI x m)(hm:m<2^26)(hw:m+20<w):
 Bk w x.order (ay x.ct) (ay x.bI) (ay x.bN) (ay x.bn) (ay x.first) (ag x.bH) (ag x.cP)=some (iJ x):=by
 obtain⟨⟨r0,r2,r3,r4,r1⟩,d0,d2,d3,d4,d1,hmk,hth⟩:=h
 have q0:=rO (w:=w) (by omega) 0 x.ct (by omega) (λt ht=>by have:=d0 t ht;omega) (by omega)
 have q2:=rO (w:=w) (by omega) 2 x.bI (by omega) (λt ht=>by have:=d2 t ht;omega) (by omega)
 have q3:=rO (w:=w) (by omega) 3 x.bN (by omega) (λt ht=>by have:=d3 t ht;omega) (by omega)
 have q4:=rO (w:=w) (by omega) 4 x.bn (by omega) (λt ht=>by have:=d4 t ht;omega) (by omega)
 have q1:=rO (w:=w) (by omega) 1 x.first (by omega) (λt ht=>by have:=d1 t ht;omega) (by omega)
 have hlr:∀(l:List aI)(K:Nat->Option Int),aq (ay l) K=K l.length:=λl K=>cd cq l K
 have hs:=Ny (w:=w) (by omega) (x.ct.length:Int) [(x.bI.length:Int),(x.bN.length:Int),(x.bn.length:Int),(x.bH.length:Int)] (by simp)
 have e:aA dw [(x.ct.length:Int),(x.bI.length:Int),(x.bN.length:Int),(x.bn.length:Int),(x.bH.length:Int)]=ae 5 (List.drop 0 [Value.int IntKind.i64 (Int.ofNat x.ct.length),Value.int IntKind.i64 (Int.ofNat x.bI.length),Value.int IntKind.i64 (Int.ofNat x.bN.length),Value.int IntKind.i64 (Int.ofNat x.bn.length),Value.int IntKind.i64 (Int.ofNat x.bH.length)]):=rfl
 rw[e] at hs
 have hany:(decide ((0:Int)<(x.ct.length:Int)\/∃y∈[(x.bI.length:Int),(x.bN.length:Int),(x.bn.length:Int),(x.bH.length:Int)],0<y))=!decide (x.ct.length=0/\x.bI.length=0/\x.bN.length=0/\x.bn.length=0/\x.bH.length=0):=by
  rw[im,bZ,vP,gJ]
  simp only[cQ,mP,mS,exists_eq_or_imp,exists_eq_left]
  omega
 rw[hany] at hs
 simp only[cm] at hs
 have h95:Nv w x.order (ay x.ct) (ay x.bI) (ay x.bN) (ay x.bn) (ay x.first) (ag x.bH) (ag x.cP)=some (0,ay x.ct,2,ay x.bI,3,ay x.bN,4,ay x.bn,1,ay x.first):=rfl
 unfold Bk iJ Lr
 simp only[h95,az,q0,q2,q3,q4,q1,hlr,cJ,hs,cu,aT,cm]
 have fin:(bif !cV 0 x.ct then some (6:Int) else bif !cV 2 x.bI then some 6 else bif !cV 3 x.bN then some 6 else bif !cV 4 x.bn then some 6 else bif !cV 1 x.first then some 6 else bif decide ((65536:Int)<(x.bH.length:Int)) then some 6 else bif !(!decide (x.ct.length=0/\x.bI.length=0/\x.bN.length=0/\x.bn.length=0/\x.bH.length=0)) then some 6 else some 0)=
  some (if(cV 0 x.ct&&(cV 2 x.bI&&(cV 3 x.bN&&(cV 4 x.bn&&cV 1 x.first))))=false then 6 else if 65536<x.bH.length\/(x.ct.length=0/\x.bI.length=0/\x.bN.length=0/\x.bn.length=0/\x.bH.length=0) then 6 else 0):=by
  cases cV 0 x.ct<;>cases cV 2 x.bI<;>cases cV 3 x.bN<;>cases cV 4 x.bn<;>cases cV 1 x.first<;>try rfl
  simp_all
  by_cases c1:65536<x.bH.length
  ·rw[au (by omega),au (.inl c1)]
  ·rw[ai (by omega)]
   by_cases c2:(x.ct.length=0/\x.bI.length=0/\x.bN.length=0/\x.bn.length=0/\x.bH.length=0)<;>grind
 by_cases o1:x.order=1
 ·have:¬¬(x.order=1\/x.order=2):=by omega
  rw[ai this]
  simp only[o1,bd,bO,aC,hs,az]
  exact fin
 ·by_cases o2:x.order=2
  ·have:¬¬(x.order=1\/x.order=2):=by omega
   rw[ai this]
   simp only[o2,show decide ((2:Int)=1)=false from rfl,gp,aB,bd,bO,aC,hs,az]
   exact fin
  ·have:¬(x.order=1\/x.order=2):=by omega
   rw[au this]
   simp only[o1,o2,bM,gp,aB]
end
section
set_option linter.unusedVariables false
set_option linter.unusedSimpArgs false
set_option linter.unusedSectionVars false
set_option linter.constructorNameAsVariable false
theorem Z0(w:Nat)(b:List UInt8)(hb:b.length<=1000000000):FV w (ag b)=some ((jx b).tag,(jx b).ty,(jx b).aw,ag (jx b).data):=by
 unfold FV
 rw[q9 w b hb]
 rfl
theorem afm{w m:Nat}(A:Hand w){x:dr}(h:jI x m)(hm:m<=70000)(hw:m+20<w)(hp:fI x.bI=true)(a b c d:Value)(o:Int):
 FC w o a (ay x.bI) b (ay x.bn) c (ag x.bH) d=some (dT (jE x),dS (jE x),dB (jE x)):=by
 obtain⟨⟨r0,r2,r3,r4,r1⟩,d0,d2,d3,d4,d1,hmk,hth⟩:=h
 have q4:=rE (w:=w) x.bn (by omega) (λt ht=>by have:=d4 t ht;omega) (by omega)
 have hs:=A.set x.bI (jx x.bH) hp (by omega) (by omega) (λt ht=>by have:=d2 t ht;omega) (by show x.bH.length<=_;omega)
 have hlr:∀(l:List aI)(K:Nat->Option (Value×Value×Value)),aq (ay l) K=K l.length:=λl K=>cd cq l K
 unfold FC LB
 rw[(rE (w:=w) x.bI (by omega) (λt ht=>by have:=d2 t ht;omega) (by omega))]
 simp only[cJ,hlr,aT,cm]
 unfold jE
 by_cases a1:x.bH.length=0
 ·have e1:¬((0:Int)<(x.bH.length:Int)):=by omega
  simp only[e1,aC,au a1]
  by_cases a2:x.bn.length=0
  ·have e2:¬((0:Int)<(x.bn.length:Int)):=by omega
   simp only[e2,aC,au a2]
   rfl
  ·have e2:((0:Int)<(x.bn.length:Int)):=by omega
   simp only[e2,aB,ai a2,q4,az]
   rfl
 ·have e1:((0:Int)<(x.bH.length:Int)):=by omega
  simp only[e1,aB,ai a1]
  rw[Z0 w _ (by omega)]
  simp only[az]
  rw[hs]
  by_cases a2:x.bn.length=0
  ·have e2:¬((0:Int)<(x.bn.length:Int)):=by omega
   simp only[e2,aC,au a2]
   rfl
  ·have e2:((0:Int)<(x.bn.length:Int)):=by omega
   simp only[e2,aB,ai a2,q4,az]
   rfl
theorem agD{w:Nat}(hw:10<=w):pc w (ae 0 [])=some ():=by
 obtain⟨v,rfl⟩:=vU hw
 rfl
theorem agE{w:Nat}(hw:10<=w)(t:Int)(a b c:Value):pc w (ae 1 [.int .i64 t,a,b,c])=some ():=by
 obtain⟨v,rfl⟩:=vU hw
 rfl
theorem agF{w:Nat}(hw:10<=w)(a b c d e f:Value):pc w (ae 2 [.int .i64 34665,a,b,c,.int .i64 34853,d,e,f])=some ():=by
 obtain⟨v,rfl⟩:=vU hw
 rfl
set_option maxHeartbeats 1000000 in
theorem US{w m:Nat}(A:Hand w){x:dr}(h:jI x m)(hm:m<=70000)(hw:m+20<w):
 Bb w x.order (ay x.ct) (ay x.bI) (ay x.bN) (ay x.bn) (ay x.first) (ag x.bH) (ag x.cP)=some (if iJ x=0 then(x.order,cU (eM x).dO,0) else(0,ae 0 [],iJ x)):=by
 unfold Bb AK pV pW pX
 rw[U1 h (by omega) hw]
 simp only[az,cu]
 by_cases hc:iJ x=0
 case neg=>rw[ai hc];simp only[hc,bM,gp,aB]
 rw[au hc]
 simp only[hc,bd,bO,aC]
 have hp:=(xn (sD hc).2.2.1).1
 have q196:=λa b c d o=>afm A h hm hw hp a b c d o
 obtain⟨⟨r0,r2,r3,r4,r1⟩,d0,d2,d3,d4,d1,hmk,hth⟩:=h
 have q0:=rE (w:=w) x.ct (by omega) (λt ht=>by have:=d0 t ht;omega) (by omega)
 have q3:=rE (w:=w) x.bN (by omega) (λt ht=>by have:=d3 t ht;omega) (by omega)
 have q1:=rE (w:=w) x.first (by omega) (λt ht=>by have:=d1 t ht;omega) (by omega)
 have qt:=q9 w x.cP (by omega)
 have hlr:∀(l:List aI)(K:Nat->Option (Int×Value×Int)),aq (ay l) K=K l.length:=λl K=>cd cq l K
 have s3:=Ny (w:=w) (by omega) (x.bI.length:Int) [(x.bn.length:Int),(x.bH.length:Int)] (by simp)
 have e3:aA dw [(x.bI.length:Int),(x.bn.length:Int),(x.bH.length:Int)]=ae 3 (List.drop 0 [Value.int IntKind.i64 (Int.ofNat x.bI.length),Value.int IntKind.i64 (Int.ofNat x.bn.length),Value.int IntKind.i64 (Int.ofNat x.bH.length)]):=rfl
 have a3:(decide ((0:Int)<(x.bI.length:Int)\/∃y∈[(x.bn.length:Int),(x.bH.length:Int)],0<y))=!decide (x.bI.length=0/\x.bn.length=0/\x.bH.length=0):=by
  rw[im,bZ,vP,gJ]
  simp only[cQ,mP,mS,exists_eq_or_imp,exists_eq_left]
  omega
 rw[e3,a3] at s3
 have s2:=Ny (w:=w) (by omega) (x.first.length:Int) [(x.cP.length:Int)] (by simp)
 have e2:aA dw [(x.first.length:Int),(x.cP.length:Int)]=ae 2 (List.drop 0 [Value.int IntKind.i64 (Int.ofNat x.first.length),Value.int IntKind.i64 (Int.ofNat x.cP.length)]):=rfl
 have a2:(decide ((0:Int)<(x.first.length:Int)\/∃y∈[(x.cP.length:Int)],0<y))=!decide (x.first.length=0/\x.cP.length=0):=by
  rw[im,bZ,vP,gJ]
  simp only[cQ,mP,mS,exists_eq_left]
  omega
 rw[e2,a2] at s2
 have n0:=agD (w:=w) (by omega)
 have n1:=λt a b c=>agE (w:=w) (by omega) t a b c
 have n2:=λa b c d e f=>agF (w:=w) (by omega) a b c d e f
 simp only[eS,cm] at s2 s3
 simp only[q0,q3,q1,qt,q196,az,hlr,cJ,s3,s2,eS,oC,pA,fo,fU,bY,List.length_nil,Nat.reduceAdd,Nat.reduceDiv,n0,n1,n2,aT,cm]
 unfold eM jC nh
 by_cases c1:x.bI.length=0/\x.bn.length=0/\x.bH.length=0
 ·rw[ff c1]
  by_cases c2:x.bN.length=0
  ·have f2:¬((0:Int)<(x.bN.length:Int)):=by omega
   by_cases c3:x.first.length=0/\x.cP.length=0
   ·rw[ff c3]
    simp only[f2,bM,bO,aC,au c1,au c2,au c3]
    rfl
   ·rw[fe c3]
    simp only[f2,bM,bO,gp,aB,aC,au c1,au c2,ai c3]
    rfl
  ·have f2:((0:Int)<(x.bN.length:Int)):=by omega
   by_cases c3:x.first.length=0/\x.cP.length=0
   ·rw[ff c3]
    simp only[f2,bd,bO,aB,aC,au c1,ai c2,au c3]
    rfl
   ·rw[fe c3]
    simp only[f2,bd,bO,gp,aB,aC,au c1,ai c2,ai c3]
    rfl
 ·rw[fe c1]
  have tk:∀r:cA,gG (.cons 34665 (jE x) r)=.int .i64 34665::dT (jE x)::dS (jE x)::dB (jE x)::gG r:=by
   intro r
   show Value.int .i64 34665::(cZ (jE x)++gG r)=_
   rw[pJ]
   rfl
  have td:∀(t:List aI)(r:cA)(b:List UInt8),cZ (.mk t r b)=[ay t,ae (bX r) (gG r),ag b]:=λ_ _ _=>rfl
  by_cases c2:x.bN.length=0
  ·have f2:¬((0:Int)<(x.bN.length:Int)):=by omega
   by_cases c3:x.first.length=0/\x.cP.length=0
   ·rw[ff c3]
    simp only[f2,bM,bO,gp,aB,aC,ai c1,au c2,au c3]
    unfold cU aA
    simp only[dV,mN,td,tk]
    rfl
   ·rw[fe c3]
    simp only[f2,bM,bO,gp,aB,aC,ai c1,au c2,ai c3]
    unfold cU aA
    simp only[dV,mN,td,tk]
    rfl
  ·have f2:((0:Int)<(x.bN.length:Int)):=by omega
   by_cases c3:x.first.length=0/\x.cP.length=0
   ·rw[ff c3]
    simp only[f2,bd,bO,gp,aB,aC,ai c1,ai c2,au c3]
    unfold cU aA
    simp only[dV,mN,td,tk]
    rfl
   ·rw[fe c3]
    simp only[f2,bd,bO,gp,aB,aC,ai c1,ai c2,ai c3]
    unfold cU aA
    simp only[dV,mN,td,tk]
    rfl
end
section
set_option linter.unusedVariables false
set_option linter.unusedSimpArgs false
set_option linter.unusedSectionVars false
set_option linter.constructorNameAsVariable false
noncomputable section
def ET(w:Nat):Value->Int->Int->Option (Value×Bool):=
 λ(x0:Value)(x1 x2:Int)=>aq x0 λ(x3:Nat)=>lp (λ(x4:Value)(x5 x6 x7:Int)(x8:Value)(x9 x10:Int)(x11:List Value)=>none) (λ(x12:Value->Int->Int->Int->Value->Int->Int->List Value->Option (Value×Bool))(x13:Value)(x14 x15 x16:Int)(x17:Value)(x18 x19:Int)(x20:List Value)=>bif ak x19 x18 then aD x19 λ(x21:Nat)=>aO 5 x21 x17 λ(x22:List Value)=>af x22 λ(x23:Value)(x24:List Value)=>ax IntKind.i64 x23 λ(x25:Int)=>af x24 λ(x26:Value)(x27:List Value)=>ax IntKind.i64 x26 λ(x28:Int)=>af x27 λ(x29:Value)(x30:List Value)=>ax IntKind.i64 x29 λ(x31:Int)=>af x30 λ(x32:Value)(x33:List Value)=>ax IntKind.i64 x32 λ(x34:Int)=>af x33 λ(x35:Value)(x36:List Value)=>ax IntKind.i64 x35 λ(x37:Int)=>bif ak 0 x19 then bif !aj (ah IntKind.i64 (x31.add x14)) x16 then some (ae 0 [],false) else bif ak x28 1 then some (ae 0 [],false) else bif ak (ah IntKind.i64 (x15.sub x16)) x28 then some (ae 0 [],false) else bif aG x20.length&&(aG ([Value.int IntKind.i64 (ah IntKind.i64 (x31.add x14))].length/1)&&[Value.int IntKind.i64 (ah IntKind.i64 (x31.add x14))].length.beq ([Value.int IntKind.i64 (ah IntKind.i64 (x31.add x14))].length/1*1)) then x12 x13 x14 x15 (ah IntKind.i64 (x16.add x28)) x17 x18 (ah IntKind.i64 (x19.add 1)) (x20++[Value.int IntKind.i64 (ah IntKind.i64 (x31.add x14))]) else none else bif !aj x31 x16 then some (ae 0 [],false) else bif ak x28 1 then some (ae 0 [],false) else bif ak (ah IntKind.i64 (x15.sub x16)) x28 then some (ae 0 [],false) else bif aG x20.length&&(aG ([Value.int IntKind.i64 x31].length/1)&&[Value.int IntKind.i64 x31].length.beq ([Value.int IntKind.i64 x31].length/1*1)) then x12 x13 x14 x15 (ah IntKind.i64 (x16.add x28)) x17 x18 (ah IntKind.i64 (x19.add 1)) (x20++[Value.int IntKind.i64 x31]) else none else aq x13 λ(x38:Nat)=>bif aj (Int.ofNat x38) 0 then some (ae 0 [],false) else bif !aj x16 x15 then some (ae 0 [],false) else bif aG x20.length&&(aG ([Value.int IntKind.i64 x16].length/1)&&[Value.int IntKind.i64 x16].length.beq ([Value.int IntKind.i64 x16].length/1*1)) then some (ae ((x20++[Value.int IntKind.i64 x16]).length/1) (x20++[Value.int IntKind.i64 x16]),true) else none) w x0 x1 x2 0 x0 (Int.ofNat x3) 0 []
end
end
section
set_option linter.unusedVariables false
set_option linter.unusedSimpArgs false
set_option linter.unusedSectionVars false
set_option linter.constructorNameAsVariable false
noncomputable section
def E1(w:Nat):Value->Option (Int×Bool):=
 λ(x0:Value)=>ob (vv w x0) λ(x1:Int×Value×Value×Int)=>bif !aj x1.snd.snd.snd 0 then some (0,false) else ob (tI w) λ(x2:Value)=>ob (vA w x0 x2) λ(x3:Int×Value×Value×Int)=>aq x3.snd.snd.fst λ(x4:Nat)=>lp (λ(x5:Value)(x6 x7:Int)=>none) (λ(x8:Value->Int->Int->Option (Int×Bool))(x9:Value)(x10 x11:Int)=>bif ak x11 x10 then aD x11 λ(x12:Nat)=>aO 5 x12 x9 λ(x13:List Value)=>af x13 λ(x14:Value)(x15:List Value)=>ax IntKind.i64 x14 λ(x16:Int)=>af x15 λ(x17:Value)(x18:List Value)=>ax IntKind.i64 x17 λ(x19:Int)=>af x18 λ(x20:Value)(x21:List Value)=>ax IntKind.i64 x20 λ(x22:Int)=>af x21 λ(x23:Value)(x24:List Value)=>ax IntKind.i64 x23 λ(x25:Int)=>af x24 λ(x26:Value)(x27:List Value)=>ax IntKind.i64 x26 λ(x28:Int)=>bif aj x16 3 then bif aj x19 0 then bif aj x22 45058 then some (ah IntKind.i64 (Int.add 4 x25),true) else x8 x9 x10 (ah IntKind.i64 (x11.add 1)) else x8 x9 x10 (ah IntKind.i64 (x11.add 1)) else x8 x9 x10 (ah IntKind.i64 (x11.add 1)) else some (0,false)) w x3.snd.snd.fst (Int.ofNat x4) 0
def EV(w:Nat):Value->Int->Int->Int->Int->Int->Int->Option (Value×Bool):=
 λ(x0:Value)(x1 x2 x3 x4 x5 x6:Int)=>ob (vv w x0) λ(x7:Int×Value×Value×Int)=>bif !aj x7.snd.snd.snd 0 then some (ae 0 [],false) else bif ak x1 0 then some (ae 0 [],false) else aq x7.snd.fst λ(x8:Nat)=>bif !ak x1 (Int.ofNat x8) then some (ae 0 [],false) else ob (Be w x2 x3 x4 x5 x6 x7.fst) λ(x9:Value×Bool)=>ob (E1 w x0) λ(x10:Int×Bool)=>bif !x9.snd then some (ae 0 [],false) else bif !x10.snd then some (ae 0 [],false) else aq x0 λ(x11:Nat)=>bif Nat.blt 0 1&&Nat.beq 1 1&&Nat.ble 1 10000&&(x11.ble x11&&x11.ble 1000000000) then dN 1 x0 λ(x12:Nat)(x13:List Value)=>bif x13.length.beq (x12*1)&&(0+x12.min x11*1).ble (rep x11 (Value.int IntKind.u8 0).cells.toList,5).fst.length then aD (ah IntKind.i64 (Int.add x10.fst (ah IntKind.i64 (Int.mul 16 x1)))) λ(x14:Nat)=>bif x11.ble x11&&x14.ble x11 then dN 1 x9.fst λ(x15:Nat)(x16:List Value)=>bif x16.length.beq (x15*1)&&((bif x11.beq x14 then 0 else 0+x14*1)+x15.min (x11 -x14)*1).ble (aU 0 (List.take (x12.min x11*1) x13) (rep x11 (Value.int IntKind.u8 0).cells.toList,5).fst,5).fst.length then some (ae x11 (List.drop 0 (aU (bif x11.beq x14 then 0 else 0+x14*1) (List.take (x15.min (x11 -x14)*1) x16) (aU 0 (List.take (x12.min x11*1) x13) (rep x11 (Value.int IntKind.u8 0).cells.toList,5).fst,5).fst)),true) else none else none else none else none
def xF(w:Nat):Value->Int->Option (Int×Bool):=
 λ(x0:Value)(x1:Int)=>bif ak x1 0 then some (0,false) else aq x0 λ(x2:Nat)=>bif ak (Int.ofNat x2) x1 then some (0,false) else aq x0 λ(x3:Nat)=>aD x1 λ(x4:Nat)=>bif x3.ble x3&&x4.ble x3 then gD 1 x4 x3 x0 λ(x5:Value)=>ob (vy w x5) λ(x6:Value×Int×Int×Int)=>bif !aj x6.snd.snd.snd 0 then some (0,false) else some (ah IntKind.i64 (x1.add x6.snd.fst),true) else none
def A1(w:Nat):Value->Option (Value×Int):=findF w (xF w)
def ES(w:Nat):Value->Option (Value×Int):=
 λ(x0:Value)=>ob (A1 w x0) λ(x1:Value×Int)=>bif !aj x1.snd 0 then some (ae 0 [],x1.snd) else ob (vq w x0) λ(x2:Int×Value×Value×Value×Value×Value×Value×Value×Value×Value×Value×Int×Int×Int)=>bif !aj x2.snd.snd.snd.snd.snd.snd.snd.snd.snd.snd.snd.snd.snd 0 then some (ae 0 [],x2.snd.snd.snd.snd.snd.snd.snd.snd.snd.snd.snd.snd.snd) else ob (vv w x2.snd.snd.snd.snd.snd.snd.snd.snd.snd.snd.fst) λ(x3:Int×Value×Value×Int)=>bif !aj x3.snd.snd.snd 0 then some (ae 0 [],x3.snd.snd.snd) else aq x1.fst λ(x4:Nat)=>bif x4.ble x4&&Nat.ble 1 x4 then gD 1 1 x4 x1.fst λ(x5:Value)=>aq x5 λ(x6:Nat)=>lp (λ(x7 x8:Value)(x9 x10 x11:Int)(x12 x13 x14 x15 x16 x17 x18 x19 x20 x21:Value)(x22 x23 x24:Int)(x25 x26:Value)(x27:List Value)=>none) (λ(x28:Value->Value->Int->Int->Int->Value->Value->Value->Value->Value->Value->Value->Value->Value->Value->Int->Int->Int->Value->Value->List Value->Option (Value×Int))(x29 x30:Value)(x31 x32 x33:Int)(x34 x35 x36 x37 x38 x39 x40 x41 x42 x43:Value)(x44 x45 x46:Int)(x47 x48:Value)(x49:List Value)=>bif ak x32 x31 then aD (ah IntKind.i64 (x32.add 1)) λ(x50:Nat)=>aO 1 x50 x30 λ(x51:List Value)=>af x51 λ(x52:Value)(x53:List Value)=>ax IntKind.i64 x52 λ(x54:Int)=>aD x32 λ(x55:Nat)=>aO 1 x55 x30 λ(x56:List Value)=>af x56 λ(x57:Value)(x58:List Value)=>ax IntKind.i64 x57 λ(x59:Int)=>bif aG x49.length&&(aG 1&&(List.take 1 (List.drop 0 [Value.int IntKind.i64 (ah IntKind.i64 (x54.sub x59))])).length.beq 1) then x28 x29 x30 x31 (ah IntKind.i64 (x32.add 1)) x33 x34 x35 x36 x37 x38 x39 x40 x41 x42 x43 x44 x45 x46 x47 x48 (x49++List.take 1 (List.drop 0 [Value.int IntKind.i64 (ah IntKind.i64 (x54.sub x59))])) else none else ob (A5 w (ae (x49.length/1) x49) (ah IntKind.i64 (x44.add 4)) x47) λ(x60:Value×Bool)=>aq x60.fst λ(x61:Nat)=>lp (λ(x62:Value)(x63:Bool)(x64 x65:Value)(x66 x67 x68:Int)(x69 x70 x71 x72 x73 x74 x75 x76 x77 x78:Value)(x79 x80:Int)=>none) (λ(x81:Value->Bool->Value->Value->Int->Int->Int->Value->Value->Value->Value->Value->Value->Value->Value->Value->Value->Int->Int->Option (Value×Int))(x82:Value)(x83:Bool)(x84 x85:Value)(x86 x87 x88:Int)(x89 x90 x91 x92 x93 x94 x95 x96 x97 x98:Value)(x99 x100:Int)=>bif ak x87 x86 then aD x87 λ(x101:Nat)=>aO 5 x101 x85 λ(x102:List Value)=>af x102 λ(x103:Value)(x104:List Value)=>ax IntKind.i64 x103 λ(x105:Int)=>af x104 λ(x106:Value)(x107:List Value)=>ax IntKind.i64 x106 λ(x108:Int)=>af x107 λ(x109:Value)(x110:List Value)=>ax IntKind.i64 x109 λ(x111:Int)=>af x110 λ(x112:Value)(x113:List Value)=>ax IntKind.i64 x112 λ(x114:Int)=>af x113 λ(x115:Value)(x116:List Value)=>ax IntKind.i64 x115 λ(x117:Int)=>ob (EV w x84 x87 x105 x108 x111 x114 x117) λ(x118:Value×Bool)=>bif !x118.snd then bif !x118.snd then some (ae 0 [],4) else aq x82 λ(x119:Nat)=>bif Nat.blt 0 1&&Nat.beq 1 1&&Nat.ble 1 10000&&(x119.ble x119&&x119.ble 1000000000) then dN 1 x82 λ(x120:Nat)(x121:List Value)=>bif x121.length.beq (x120*1)&&(0+x120.min x119*1).ble (rep x119 (Value.int IntKind.u8 0).cells.toList,5).fst.length then aD x99 λ(x122:Nat)=>bif x119.ble x119&&x122.ble x119 then dN 1 x118.fst λ(x123:Nat)(x124:List Value)=>bif x124.length.beq (x123*1)&&((bif x119.beq x122 then 0 else 0+x122*1)+x123.min (x119 -x122)*1).ble (aU 0 (List.take (x120.min x119*1) x121) (rep x119 (Value.int IntKind.u8 0).cells.toList,5).fst,5).fst.length then some (ae x119 (List.drop 0 (aU (bif x119.beq x122 then 0 else 0+x122*1) (List.take (x123.min (x119 -x122)*1) x124) (aU 0 (List.take (x120.min x119*1) x121) (rep x119 (Value.int IntKind.u8 0).cells.toList,5).fst,5).fst)),0) else none else none else none else none else x81 x82 x118.snd x118.fst x85 x86 (ah IntKind.i64 (x87.add 1)) x88 x89 x90 x91 x92 x93 x94 x95 x96 x97 x98 x99 x100 else bif !x83 then some (ae 0 [],4) else aq x82 λ(x125:Nat)=>bif Nat.blt 0 1&&Nat.beq 1 1&&Nat.ble 1 10000&&(x125.ble x125&&x125.ble 1000000000) then dN 1 x82 λ(x126:Nat)(x127:List Value)=>bif x127.length.beq (x126*1)&&(0+x126.min x125*1).ble (rep x125 (Value.int IntKind.u8 0).cells.toList,5).fst.length then aD x99 λ(x128:Nat)=>bif x125.ble x125&&x128.ble x125 then dN 1 x84 λ(x129:Nat)(x130:List Value)=>bif x130.length.beq (x129*1)&&((bif x125.beq x128 then 0 else 0+x128*1)+x129.min (x125 -x128)*1).ble (aU 0 (List.take (x126.min x125*1) x127) (rep x125 (Value.int IntKind.u8 0).cells.toList,5).fst,5).fst.length then some (ae x125 (List.drop 0 (aU (bif x125.beq x128 then 0 else 0+x128*1) (List.take (x129.min (x125 -x128)*1) x130) (aU 0 (List.take (x126.min x125*1) x127) (rep x125 (Value.int IntKind.u8 0).cells.toList,5).fst,5).fst)),0) else none else none else none else none) w x29 x60.snd x43 x60.fst (Int.ofNat x61) 0 x33 x34 x35 x36 x37 x38 x39 x40 x41 x42 x43 x44 x45) w x0 x1.fst (Int.ofNat x6) 0 x2.fst x2.snd.fst x2.snd.snd.fst x2.snd.snd.snd.fst x2.snd.snd.snd.snd.fst x2.snd.snd.snd.snd.snd.fst x2.snd.snd.snd.snd.snd.snd.fst x2.snd.snd.snd.snd.snd.snd.snd.fst x2.snd.snd.snd.snd.snd.snd.snd.snd.fst x2.snd.snd.snd.snd.snd.snd.snd.snd.snd.fst x2.snd.snd.snd.snd.snd.snd.snd.snd.snd.snd.fst x2.snd.snd.snd.snd.snd.snd.snd.snd.snd.snd.snd.fst x2.snd.snd.snd.snd.snd.snd.snd.snd.snd.snd.snd.snd.fst x3.fst x3.snd.fst x3.snd.snd.fst [] else none
def LU(w:Nat):Value->Option (Bool):=
 λ(x0:Value)=>ob (EO w x0) λ(x1:Bool)=>bif x1 then ob (vi w) λ(x2:Bool)=>some x2 else ob (vj w x0) λ(x3:Value×Int)=>ob (AW w x0) λ(x4:Value×Int)=>ob (AZ w x0) λ(x5:Value×Int)=>ob (vk w x0) λ(x6:Int)=>bif !aj x3.snd x6 then some false else bif !aj x4.snd x3.snd then some false else bif !aj x5.snd x3.snd then some false else bif !aj x3.snd 0 then aq x3.fst λ(x7:Nat)=>aq x4.fst λ(x8:Nat)=>aq x5.fst λ(x9:Nat)=>bif aj (ah IntKind.i64 ((ah IntKind.i64 ((Int.ofNat x7).add (Int.ofNat x8))).add (Int.ofNat x9))) 0 then ob (vi w) λ(x10:Bool)=>some x10 else some false else ob (A1 w x3.fst) λ(x11:Value×Int)=>bif !aj x11.snd 0 then some false else aq x4.fst λ(x12:Nat)=>aq x0 λ(x13:Nat)=>bif !aj (Int.ofNat x12) (Int.ofNat x13) then some false else aq x11.fst λ(x14:Nat)=>aq x4.fst λ(x15:Nat)=>bif !aj (Int.ofNat x14) (ah IntKind.i64 ((Int.ofNat x15).add 1)) then some false else aq x4.fst λ(x16:Nat)=>aO 1 x16 x11.fst λ(x17:List Value)=>af x17 λ(x18:Value)(x19:List Value)=>ax IntKind.i64 x18 λ(x20:Int)=>aq x3.fst λ(x21:Nat)=>bif !aj x20 (Int.ofNat x21) then some false else lp (λ(x22 x23 x24 x25:Value)(x26:Int)(x27:Value)=>none) (λ(x28:Value->Value->Value->Value->Int->Value->Option Bool)(x29 x30 x31 x32:Value)(x33:Int)(x34:Value)=>aq x30 λ(x35:Nat)=>bif ak x33 (Int.ofNat x35) then aD x33 λ(x36:Nat)=>aO 1 x36 x32 λ(x37:List Value)=>af x37 λ(x38:Value)(x39:List Value)=>ax IntKind.i64 x38 λ(x40:Int)=>bif ak x40 0 then some false else aD x33 λ(x41:Nat)=>aO 1 x41 x32 λ(x42:List Value)=>af x42 λ(x43:Value)(x44:List Value)=>ax IntKind.i64 x43 λ(x45:Int)=>aD (ah IntKind.i64 (x33.add 1)) λ(x46:Nat)=>aO 1 x46 x32 λ(x47:List Value)=>af x47 λ(x48:Value)(x49:List Value)=>ax IntKind.i64 x48 λ(x50:Int)=>bif ak x50 x45 then some false else aD (ah IntKind.i64 (x33.add 1)) λ(x51:Nat)=>aO 1 x51 x32 λ(x52:List Value)=>af x52 λ(x53:Value)(x54:List Value)=>ax IntKind.i64 x53 λ(x55:Int)=>aq x29 λ(x56:Nat)=>bif ak (Int.ofNat x56) x55 then some false else aD x33 λ(x57:Nat)=>aO 1 x57 x32 λ(x58:List Value)=>af x58 λ(x59:Value)(x60:List Value)=>ax IntKind.i64 x59 λ(x61:Int)=>aD (ah IntKind.i64 (x33.add 1)) λ(x62:Nat)=>aO 1 x62 x32 λ(x63:List Value)=>af x63 λ(x64:Value)(x65:List Value)=>ax IntKind.i64 x64 λ(x66:Int)=>aq x29 λ(x67:Nat)=>aD x66 λ(x68:Nat)=>aD x61 λ(x69:Nat)=>bif x68.ble x67&&x69.ble x68 then gD 1 x69 x68 x29 λ(x70:Value)=>aD x33 λ(x71:Nat)=>aO 1 x71 x30 λ(x72:List Value)=>af x72 λ(x73:Value)(x74:List Value)=>ob (AX w x70 x73) λ(x75:Bool)=>bif !x75 then some false else x28 x29 x30 x31 x32 (ah IntKind.i64 (x33.add 1)) x34 else none else aq x30 λ(x76:Nat)=>bif aj (Int.ofNat x76) 1 then aq x31 λ(x77:Nat)=>bif aj (Int.ofNat x77) 0 then ob (vi w) λ(x78:Bool)=>some x78 else some false else ob (Fj w x34) λ(x79:Value)=>ob (ES w x29) λ(x80:Value×Int)=>aq x79 λ(x81:Nat)=>aq x30 λ(x82:Nat)=>bif !aj (Int.ofNat x81) (Int.ofNat x82) then some false else bif !aj x80.snd 0 then some false else ob (AX w x80.fst x29) λ(x83:Bool)=>bif !x83 then some false else aO 13 0 x79 λ(x84:List Value)=>af (List.drop 11 x84) λ(x85:Value)(x86:List Value)=>ax IntKind.i64 x85 λ(x87:Int)=>aq x29 λ(x88:Nat)=>ob (ET w x31 (ah IntKind.i64 (x87.add 4)) (Int.ofNat x88)) λ(x89:Value×Bool)=>bif !x89.snd then some false else aq x89.fst λ(x90:Nat)=>aq x32 λ(x91:Nat)=>bif !aj (Int.ofNat x90) (Int.ofNat x91) then some false else lp (λ(x92 x93:Value)(x94:Int)=>none) (λ(x95:Value->Value->Int->Option Bool)(x96 x97:Value)(x98:Int)=>aq x97 λ(x99:Nat)=>bif ak x98 (Int.ofNat x99) then aD x98 λ(x100:Nat)=>aO 1 x100 x97 λ(x101:List Value)=>af x101 λ(x102:Value)(x103:List Value)=>ax IntKind.i64 x102 λ(x104:Int)=>aD x98 λ(x105:Nat)=>aO 1 x105 x96 λ(x106:List Value)=>af x106 λ(x107:Value)(x108:List Value)=>ax IntKind.i64 x107 λ(x109:Int)=>bif !aj x104 x109 then some false else x95 x96 x97 (ah IntKind.i64 (x98.add 1)) else ob (vi w) λ(x110:Bool)=>some x110) w x32 x89.fst 0) w x3.fst x4.fst x5.fst x11.fst 0 x0
end
end
section
set_option linter.unusedVariables false
set_option linter.unusedSimpArgs false
set_option linter.unusedSectionVars false
set_option linter.constructorNameAsVariable false
theorem ada{t:aI}{m:Nat}(h:ej t.ty t.aw t.data=true)(hd:t.data.length<=m):bF t.ty t.aw<=m:=by
 have:=xf h
 grind
theorem zd{m:Nat}:∀(l:List aI)(e:Nat),(∀t∈l,ej t.ty t.aw t.data=true/\t.data.length<=m)->ca e l<=e+l.length*(m+1)
 |[],e,_=>by simp[ca]
 |t::l,e,h=>by
  have h1:=h t (by simp)
  have ho:=ada h1.1 h1.2
  have ih:=λe=>zd l e λt ht=>h t (by grind)
  have hev:=uu e
  rw[bY,Pc]
  grind
theorem agI(no:Nat)(l:List aI)(e:Nat):(cS no e l).length<=l.length:=NC no l e
mutual
theorem O8{sh:List aX}{m B:Nat}(hB:24*m+40+m*(m+1)+m<=B):∀(d:aS)(s e:Nat),cD sh s d=true->iw m d->bq e d<=e+dE d*B
 | .mk tags subs blob,s,e,hh,hd=>by
  have hd:tags.length<=m/\bX subs<=m/\blob.length<=m/\(∀t∈tags,t.data.length<=m)/\iy m subs:=hd
  simp[cD] at hh
  obtain⟨⟨n1,n2⟩,ht,hbl,hr,hss⟩:=hh
  have htg:∀t∈tags,ej t.ty t.aw t.data=true/\t.data.length<=m:=λt h=>by
   simp[jY] at ht
   simp_all
  have hN:bB (.mk tags subs blob)<=2*m+2:=by
   show tags.length+bX subs+(if blob.length=0 then 0 else 2)<=2*m+2
   grind
  have h1:=zd tags (aE e+(6+12*bB (.mk tags subs blob))) htg
  have h2:=Pb hB subs (aN sh s) (ca (aE e+(6+12*bB (.mk tags subs blob))) tags) hss hd.2.2.2.2
  have h3:=uu e
  have h4:=uu (dZ (ca (aE e+(6+12*bB (.mk tags subs blob))) tags) subs)
  have h5:tags.length*(m+1)<=m*(m+1):=yy _ hd.1
  rw[dE,lE,bq]
  grind
theorem Pb{sh:List aX}{m B:Nat}(hB:24*m+40+m*(m+1)+m<=B):∀(r:cA)(S:aX)(e:Nat),iV sh S r=true->iy m r->dZ e r<=e+iA r*B
 | .nil,S,e,_,_=>by unfold dZ;omega
 | .cons t d r,S,e,hh,hd=>by
  simp[iV] at hh
  have h1:=O8 hB d _ e hh.2.1 hd.1
  have h2:=Pb hB r S (bq e d) hh.2.2 hd.2
  rw[dZ,iA,lE]
  omega
end
mutual
theorem Vv{m:Nat}:∀(d:aS)(no e:Nat),iw m d->(fS no e d).length<=dE d*(m+2)
 | .mk tags subs blob,no,e,hd=>by
  have hd:tags.length<=m/\bX subs<=m/\blob.length<=m/\(∀t∈tags,t.data.length<=m)/\iy m subs:=hd
  have h1:=agI no tags (aE e+(6+12*bB (.mk tags subs blob)))
  have h2:=Vx subs (no+1) (ca (aE e+(6+12*bB (.mk tags subs blob))) tags) hd.2.2.2.2
  rw[dE,fS]
  grind
theorem Vx{m:Nat}:∀(r:cA)(no e:Nat),iy m r->(ky no e r).length<=iA r*(m+2)
 | .nil,no,e,_=>by unfold ky;simp
 | .cons t d r,no,e,hd=>by
  have h1:=Vv d no e hd.1
  have h2:=Vx r (no+dE d) (bq e d) hd.2
  rw[ky,iA,lE,aR]
  omega
end
theorem O7{sh:List aX}{m B:Nat}(hB:24*m+40+m*(m+1)+m<=B):∀(ds:List aS)(s:Int)(e:Nat),gw sh s ds=true->nJ m ds->ef e ds<=e+iK ds*B
 |[],s,e,_,_=>by simp[ef]
 |d::ds,s,e,hh,hd=>by
  simp[gw] at hh
  have h1:=O8 hB d _ e hh.2.1 (hd d (by simp))
  have h2:=O7 hB ds _ (bq e d) hh.2.2 λd h=>hd d (by grind)
  rw[ef,iK,lE]
  omega
theorem GA{m:Nat}:∀(ds:List aS)(no e:Nat),nJ m ds->(jk no e ds).length<=iK ds*(m+2)
 |[],no,e,_=>by simp[jk]
 |d::ds,no,e,hd=>by
  have h1:=Vv d no e (hd d (by simp))
  have h2:=GA ds (no+dE d) (bq e d) λd h=>hd d (by grind)
  rw[jk,iK,lE,aR]
  omega
theorem I2{sh:List aX}:∀{ds:List aS}{s:Int},gw sh s ds=true->∀d∈ds,∃s,cD sh s d=true
 |[],_,_,d,h=>by grind
 |a::ds,s,hh,d,h=>by
  simp[gw] at hh
  rcases cQ.1 h with rfl|h
  ·grind
  ·exact I2 hh.2.2 d h
structure dM(w:Nat):Prop where
 hand:Hand w
 kg:200000<=w
theorem NN{w:Nat}(W:dM w){sh:List aX}{o:Int}{ds:List aS}(ok:iQ sh)(sO:qG w (cf sh)=some true)(s0:0<sh.length)(bJ:∀s,s<sh.length->(aN sh s).bJ.length<=10000)(ho:o=1\/o=2)(cF:ds≠[])(je:ds.length<=10000)(hd:nJ 10000 ds)(jQ:kJ ds<=10)(hc:iK ds<=8)(hh:gw sh 0 ds=true):oF w 10000 sh o ds:=by
 have hb:=W.kg
 have h1:=O7 (B:=100360040) (by simp) ds 0 8 hh hd
 have h2:=GA ds 0 8 hd
 have h5:(eY ⟨o,ds⟩).length=(jk 0 8 ds).length+1:=rfl
 exact⟨(by simp),(by omega),(by omega),ok,sO,s0,bJ,ho,cF,je,hd,by omega,hh,by omega,by omega,by omega,by omega,(W.hand.may o ds (by omega) (λd hd=>by obtain⟨s,h⟩:=I2 hh d hd;exact⟨sh,s,h⟩) (by omega))⟩
theorem PB(s:Nat)(hs:s<da.length):(aN da s).bJ.length<=10000:=by
 have:s=0\/s=1\/s=2\/s=3\/s=4:=by simp[da] at hs;omega
 rcases this with rfl|rfl|rfl|rfl|rfl<;>decide
theorem aes{m:Nat}{l:List aI}{x:aI}(h:∀t∈l,t.data.length<=m)(hx:x.data.length<=m):∀t∈jW l x,t.data.length<=m:=by
 intro t ht
 rcases UF ht with rfl|ht<;>grind
theorem ag3{x:dr}{m:Nat}(h:jI x m)(h1:1<=m):iw (m+1) (jE x)/\dE (jE x)<=2/\fX (jE x)<=2:=by
 obtain⟨⟨r0,r2,r3,r4,r1⟩,d0,d2,d3,d4,d1,hmk,hth⟩:=h
 unfold jE
 have hl:=UE x.bI (jx x.bH)
 have hsub:iy (m+1) (if x.bn.length=0 then .nil else .cons 40965 (.mk x.bn .nil []) .nil)/\bX (if x.bn.length=0 then .nil else .cons 40965 (.mk x.bn .nil []) .nil)<=1/\iA (if x.bn.length=0 then .nil else .cons 40965 (.mk x.bn .nil []) .nil)<=1/\jM (if x.bn.length=0 then .nil else .cons 40965 (.mk x.bn .nil []) .nil)<=1:=by
  split
  ·exact⟨trivial,by decide,by decide,by decide⟩
  ·refine⟨⟨⟨by omega,by show 0<=_;omega,by show 0<=_;omega,λt ht=>by have:=d4 t ht;omega,trivial⟩,trivial⟩,by simp[bX],by simp[iA,dE],by simp[jM,fX]⟩
 refine⟨⟨?_,by omega,by show 0<=_;omega,?_,hsub.1⟩,by rw[dE];omega,by rw[fX];omega⟩
 ·grind
 ·split
  ·grind
  ·exact aes (λt ht=>by have:=d2 t ht;omega) (by show x.bH.length<=_;omega)
theorem VR{x:dr}{m:Nat}(h:jI x m)(h1:2<=m):nJ (m+1) (eM x).dO/\iK (eM x).dO<=5/\kJ (eM x).dO<=3/\(eM x).dO.length<=2:=by
 obtain⟨t1,t2,t3⟩:=ag3 h (by omega)
 obtain⟨⟨r0,r2,r3,r4,r1⟩,d0,d2,d3,d4,d1,hmk,hth⟩:=h
 have hg:iy (m+1) (nh x)/\bX (nh x)<=1/\iA (nh x)<=1/\jM (nh x)<=1:=by
  unfold nh
  split
  ·exact⟨trivial,by decide,by decide,by decide⟩
  ·exact⟨⟨⟨by omega,by show 0<=_;omega,by show 0<=_;omega,λt ht=>by have:=d3 t ht;omega,trivial⟩,trivial⟩,by simp[bX],by simp[iA,dE],by simp[jM,fX]⟩
 have hs:iy (m+1) (jC x)/\bX (jC x)<=2/\iA (jC x)<=3/\jM (jC x)<=2:=by
  unfold jC
  split
  ·exact⟨hg.1,by omega,by omega,by omega⟩
  ·refine⟨⟨t1,hg.1⟩,by rw[bX];omega,by rw[iA];omega,by rw[jM];omega⟩
 have h0:iw (m+1) (.mk x.ct (jC x) []):=⟨by omega,by omega,by show 0<=_;omega,λt ht=>by have:=d0 t ht;omega,hs.1⟩
 unfold eM
 by_cases c:x.first.length=0/\x.cP.length=0
 ·simp only[au c]
  refine⟨λd hd=>?_,by simp only[iK,dE];omega,by simp only[kJ,fX];omega,by simp⟩
  rw[oB.1 hd];exact h0
 ·simp only[ai c]
  refine⟨λd hd=>?_,by simp only[iK,dE,iA];omega,by simp only[kJ,fX,jM];omega,by simp⟩
  simp_all
  rcases hd with rfl|rfl
  ·exact h0
  ·exact(⟨by omega,by show 0<=_;omega,by omega,λt ht=>by have:=d1 t ht;omega,trivial⟩)
theorem iw.mono{m m':Nat}(h:m<=m'):∀{d:aS},iw m d->iw m' d:=by
 have key:(∀d:aS,iw m d->iw m' d)/\∀r:cA,iy m r->iy m' r:=by
  refine⟨λd=>?_,λr=>?_⟩
  ·exact aS.rec (motive_2:=λr=>iy m r->iy m' r) (λtags subs blob ih hd=>by
    have hd:tags.length<=m/\bX subs<=m/\blob.length<=m/\(∀t∈tags,t.data.length<=m)/\iy m subs:=hd
    exact⟨by omega,by omega,by omega,λt ht=>by have:=hd.2.2.2.1 t ht;omega,ih hd.2.2.2.2⟩) (λ_=>trivial) (λt d r i1 i2 hd=>⟨i1 hd.1,i2 hd.2⟩) d
  ·exact cA.rec (motive_1:=λd=>iw m d->iw m' d) (λtags subs blob ih hd=>by
    have hd:tags.length<=m/\bX subs<=m/\blob.length<=m/\(∀t∈tags,t.data.length<=m)/\iy m subs:=hd
    exact⟨by omega,by omega,by omega,λt ht=>by have:=hd.2.2.2.1 t ht;omega,ih hd.2.2.2.2⟩) (λ_=>trivial) (λt d r i1 i2 hd=>⟨i1 hd.1,i2 hd.2⟩) r
 grind
theorem CY{w:Nat}(W:dM w){x:dr}(h:jI x 9000)(hc:iJ x=0):oF w 10000 da x.order (eM x).dO:=by
 obtain⟨a,b,c,d⟩:=VR h (by simp)
 have hr:=h.rows
 refine NN W ID (afr (by have:=W.kg;omega)) (by decide) PB (sD hc).1 (by simp[eM]) (by omega) (λd hd=>(a d hd).mono (by simp)) (by omega) (by omega) (VU hc ?_)
 unfold qC at hr⊢
 omega
theorem ag8(x:dr):(⟨x.order,(eM x).dO⟩:mj)=eM x:=rfl
theorem Mk(w:Nat):Bd w=some (cf da):=rfl
theorem agt{w:Nat}(W:dM w){x:dr}(h:jI x 9000):Gw w x.order (ay x.ct) (ay x.bI) (ay x.bN) (ay x.bn) (ay x.first) (ag x.bH) (ag x.cP)=some (if iJ x=0 then(ag (ed (eM x) da),0) else(ae 0 [],iJ x)):=by
 have hb:=W.kg
 unfold Gw
 rw[US W.hand h (by simp) (by omega)]
 by_cases hc:iJ x=0
 ·rw[au hc,au hc]
  rw[Mk]
  simp
  rw[UT (CY W h hc)]
  rfl
 simp_all
theorem ags{w:Nat}(W:dM w){x:dr}(h:jI x 9000):Gv w x.order (ay x.ct) (ay x.bI) (ay x.bN) (ay x.bn) (ay x.first) (ag x.bH) (ag x.cP)=some (if iJ x=0 then(65527 -(gP (eM x):Int),0) else(0,iJ x)):=by
 have hb:=W.kg
 unfold Gv
 rw[US W.hand h (by simp) (by omega)]
 simp
 by_cases hc:iJ x=0
 ·rw[au hc,au hc]
  have T:=CY W h hc
  have:=T.he
  rw[T.cw]
  simp
  rw[aM (by omega) (by omega)]
  rfl
 grind
theorem OI(a:List Int)(b:List UInt8)(h:a=b.map λc=>(c.toNat:Int)):bm a=b.map aV:=by
 subst h
 unfold bm
 rw[List.map_map]
 rfl
theorem M8{w:Nat}(W:dM w){x:dr}(h:jI x 9000):Br w x.order (ay x.ct) (ay x.bI) (ay x.bN) (ay x.bn) (ay x.first) (ag x.bH) (ag x.cP)=some (match iI x with| .ok b=>(ag b,0)| .error e=>(ae 0 [],e)):=by
 unfold Br yK iI
 rw[ags W h,agt W h]
 by_cases hc:iJ x=0
 case neg=>
  simp_all
 rw[au hc,au hc,ai (by omega)]
 simp only[az,aT]
 by_cases h2:65533<6+gP (eM x)
 ·have:(65527:Int) -(gP (eM x):Int)<0:=by omega
  simp_all
 ·have h3:¬((65527:Int) -(gP (eM x):Int)<0):=by omega
  simp only[h3,bM,ai h2]
  unfold ui
  have hl:=yj (CY W h hc).hh
  have hpos:8<=gP (eM x):=pK _ _
  simp only[show aj 0 0=true from rfl]
  rw[sB]
  have r2:((ed (eM x) da).map λb=>(b.toNat:Int)).isEmpty=false:=by
   cases q:ed (eM x) da with
   |nil=>rw[q] at hl;simp at hl;omega
   |cons _ _=>rfl
  simp only[(show aG ((ed (eM x) da).map λb=>(b.toNat:Int)).length=true from by simp;omega),r2,aB,aC]
  rw[OI _ (nc++ed (eM x) da) (by rw[gq];rfl),uk _ _ (by simp[nc];omega)]
theorem UU{w:Nat}{sh:List aX}{o:Int}{ds:List aS}(T:oF w 10000 sh o ds):vl w o (cU ds) (cf sh)=some (if 65533<4+gP ⟨o,ds⟩ then(ae 0 [],7) else(ag (gy++ed ⟨o,ds⟩ sh),0)):=by
 unfold vl sU
 rw[UT T]
 have hl:(ed ⟨o,ds⟩ sh).length=gP ⟨o,ds⟩:=yj T.hh
 have he:gP ⟨o,ds⟩<=1000000000:=T.he
 have hpos:8<=gP ⟨o,ds⟩:=pK _ _
 simp only[az,show aj 0 0=true from rfl]
 rw[sB]
 have r2:((ed ⟨o,ds⟩ sh).map λb=>(b.toNat:Int)).isEmpty=false:=by
  cases q:ed ⟨o,ds⟩ sh with
  |nil=>grind
  |cons _ _=>rfl
 simp only[cH,hl,(show aG (gP ⟨o,ds⟩)=true from by simp;omega),r2,aB,aC,mn,qn]
 split
 ·rfl
 ·rw[OI _ (gy++ed ⟨o,ds⟩ sh) (by rw[gq];rfl),uk _ _ (by simp[gy];omega)]
end
section
set_option linter.unusedVariables false
set_option linter.unusedSimpArgs false
set_option linter.unusedSectionVars false
set_option linter.constructorNameAsVariable false
theorem LW(w:Nat)(m:Int):xE w m=some (iR m):=by
 unfold xE iR
 simp
 grind
theorem U4(w:Nat)(m:Int):xO w m=some (oe m):=by
 unfold xO oe
 by_cases h1:m<208
 ·have:¬(208<=m/\m<=215):=by omega
  simp_all
 ·by_cases h2:m<216
  ·have:(208<=m/\m<=215):=by omega
   simp_all
  ·have:¬(208<=m/\m<=215):=by omega
   simp[h2,this]
theorem UX(w:Nat)(m:Int):Bf w m=some (kZ m):=by
 unfold Bf kZ
 rw[LW,U4]
 simp
 grind
theorem Hn{b:UInt8}:ah IntKind.i64 (b.toNat:Int)=(b.toNat:Int):=by
 have:=b.toNat_lt
 exact aM (by simp) (by omega)
theorem ag7{w:Nat}(l:List UInt8)(hl:l.length<2^60):Bm w (ag l)=some (match l.getLast? with|some b=>if b=255 then 1 else 0|none=>0):=by
 unfold Bm
 by_cases h:l.length=0
 ·rw[my h];rfl
 ·have e1:((0:Int)<(l.length:Int)):=by omega
  simp_all
  rw[aM (by omega) (by omega),lK (by omega),show((l.length:Int) -1).toNat=l.length -1 by omega,nX (show l.length -1<l.length by omega)]
  simp
  have hg:l.getLast? =some l[l.length -1]:=by
   rw[List.getLast?_eq_getElem?,cW (by omega)]
  rw[hg]
  simp only
  by_cases h5:l[l.length -1]=255
  ·rw[au h5,au (by rw[h5];rfl)]
  ·rw[ai h5,ai (by intro q;exact h5 (nE.1 (by have:(255:UInt8).toNat=255:=rfl;omega)))]
theorem UW{w:Nat}(l:List UInt8)(hl:l.length<2^60)(hw:l.length<w):xI w (ag l)=some (gh l:Int):=by
 have key:∀(z:Value->Int->Option Int)(F:(Value->Int->Option Int)->Value->Int->Option Int)(hF:F=λ(x3:Value->Int->Option Int)(x4:Value)(x5:Int)=>aq x4 λ(x6:Nat)=>bif ak (ah IntKind.i64 (x5.add 1)) (Int.ofNat x6) then aD x5 λ(x7:Nat)=>aO 1 x7 x4 λ(x8:List Value)=>af x8 λ(x9:Value)(x10:List Value)=>ax IntKind.u8 x9 λ(x11:Int)=>bif aj x11 255 then aD (ah IntKind.i64 (x5.add 1)) λ(x12:Nat)=>aO 1 x12 x4 λ(x13:List Value)=>af x13 λ(x14:Value)(x15:List Value)=>ax IntKind.u8 x14 λ(x16:Int)=>bif !aj x16 0 then aD (ah IntKind.i64 (x5.add 1)) λ(x17:Nat)=>aO 1 x17 x4 λ(x18:List Value)=>af x18 λ(x19:Value)(x20:List Value)=>ax IntKind.u8 x19 λ(x21:Int)=>ob (xO w (ah IntKind.i64 x21)) λ(x22:Bool)=>bif !x22 then some x5 else x3 x4 (ah IntKind.i64 (x5.add 1)) else x3 x4 (ah IntKind.i64 (x5.add 1)) else x3 x4 (ah IntKind.i64 (x5.add 1)) else aq x4 λ(x23:Nat)=>ob (Bm w x4) λ(x24:Int)=>some (ah IntKind.i64 ((Int.ofNat x23).sub x24))),
  ∀(d i v:Nat),i+d+1=l.length->d<v->lp z F v (ag l) (i:Int)=some ((i+gh (l.drop i):Nat):Int):=by
  intro z F hF d
  induction d with
  |zero=>
   intro i v hi hv
   rw[dQ z F (by omega),hF]
   simp only[cJ,bT]
   rw[aM (by omega) (by omega)]
   have e1:¬((i:Int)+1<(l.length:Int)):=by omega
   have hlt:i<l.length:=by omega
   have hll:l.drop i=[l[i]]:=by rw[dk hlt,tS (by omega)]
   have hg:l.getLast? =some l[i]:=by
    rw[List.getLast?_eq_getElem?,show l.length -1=i by omega,cW hlt]
   simp only[aT,cm,e1,bM,aC]
   rw[ag7 l hl,hll,hg]
   simp only[az,jg]
   by_cases h5:l[i]=255
   ·rw[au h5,h5,aen,aM (by omega) (by omega)]
    congr 1;omega
   ·rw[ai h5,AS h5,aM (by omega) (by omega)]
    congr 1
    show(l.length:Int) -0=((i+(0+1):Nat):Int)
    omega
  |succ d ih=>
   intro i v hi hv
   have hlt:i<l.length:=by omega
   have hlt2:i+1<l.length:=by omega
   have hll:l.drop i=l[i]::l[i+1]::l.drop (i+2):=by rw[dk hlt,dk hlt2]
   have hll2:l.drop (i+1)=l[i+1]::l.drop (i+2):=dk hlt2
   have ih:=ih (i+1) (v -1) (by omega) (by omega)
   rw[hll2] at ih
   rw[hll,dQ z F (by omega)]
   generalize lp z F (v -1)=g at ih⊢
   rw[hF]
   have e1:((i:Int)+1<(l.length:Int)):=by omega
   simp only[cJ,bT]
   rw[aM (by omega) (by omega)]
   simp only[aT,cm,e1,bd,aB,bP]
   rw[show(i:Int)+1=((i+1:Nat):Int) by omega]
   simp only[bP]
   rw[nX hlt,nX hlt2]
   simp only[bh,pF,cu,U4,Hn,az]
   by_cases h5:l[i]=255
   ·have e5:((l[i].toNat:Int)=255):=by rw[h5];rfl
    rw[h5,LL] at*
    simp only[show(((255:UInt8).toNat:Int)=255) from rfl,bd,aB]
    by_cases h6:l[i+1]=0
    ·have e6:((l[i+1].toNat:Int)=0):=by rw[h6];rfl
     have:¬(l[i+1]≠0/\oe (l[i+1].toNat:Int)=false):=λq=>q.1 h6
     rw[ai this]
     simp only[e6,bd,bO,aC]
     rw[ih]
     congr 2;omega
    ·have e6:¬((l[i+1].toNat:Int)=0):=by
      intro q;exact h6 (nE.1 (by have:(0:UInt8).toNat=0:=rfl;omega))
     simp only[e6,bM,gp,aB]
     rw[nX hlt2]
     simp only[bh,pF,Hn]
     cases hr:oe (l[i+1].toNat:Int) with
     |true=>
      have:¬(l[i+1]≠0/\true=false):=λq=>by cases q.2
      rw[ai this]
      simp only[bO,aC]
      rw[ih]
      congr 2;omega
     |false=>
      rw[au ⟨h6,rfl⟩]
      rfl
   ·have e5:¬((l[i].toNat:Int)=255):=by
     intro q;exact h5 (nE.1 (by have:(255:UInt8).toNat=255:=rfl;omega))
    rw[AS h5]
    simp only[e5,bM,aC]
    rw[ih]
    congr 2;omega
 by_cases h0:l.length=0
 ·rw[my h0]
  unfold xI
  rw[dQ _ _ (by omega)]
  rfl
 ·unfold xI
  refine Eq.trans (key _ _ rfl (l.length -1) 0 w (by omega) (by omega)) ?_
  rw[eS,gI]
def cO(s:bE):List Value:=[.int .i64 s.bW,ag s.data,ag s.scan]
theorem jA(s:bE):(cO s).length=3:=rfl
def dK(l:List bE):Value:=aA cO l
theorem Dw(w:Nat)(n:Int)(b:List UInt8)(p:Nat)(hb:b.length<2^60)(hp:p<=b.length):vm w n (ag b) (p:Int)=some (if((b.length -p:Nat):Int)<n then .inr ((b.length:Int),3,ag b,(p:Int)) else .inl (ag b,(p:Int))):=by
 unfold vm
 simp only[cJ,jg,cm]
 rw[aM (by omega) (by omega)]
 simp
 grind
theorem aeJ(w:Nat)(b:List UInt8)(p:Nat)(hb:b.length<2^60)(hp:p<=b.length):tu w (ag b) (p:Int)=some (match b.drop p with
 |[]=>.inr ((b.length:Int),3,ag b,(p:Int))
 |[x]=>if x=255 then .inr ((b.length:Int),3,ag b,(p:Int)) else .inr ((p:Int),2,ag b,(p:Int))
 |x::m::_=>if x≠255 then .inr ((p:Int),2,ag b,(p:Int)) else if((decide (p=0)!=decide (m=216))||!(iR m.toNat||kZ m.toNat))=true then .inr ((p:Int),2,ag b,(p:Int)) else .inl ((m.toNat:Int),ag b,((p+2:Nat):Int))):=by
 unfold tu EH
 rw[Dw w 1 b p hb hp]
 simp only[az]
 by_cases h1:p<b.length
 case neg=>
  rw[au (by omega),tS (by omega)]
  rfl
 rw[ai (by omega),dk h1]
 simp only[iD,bP]
 rw[nX h1]
 simp only[bh,pF,cu]
 by_cases h2:b[p]=255
 case neg=>
  have e2:¬((b[p].toNat:Int)=255):=by
   intro q;exact h2 (nE.1 (by have:(255:UInt8).toNat=255:=rfl;omega))
  simp only[e2,bM,gp,aB]
  generalize b.drop (p+1)=r
  cases r with
  |nil=>simp only;rw[ai h2]
  |cons m r=>simp only;rw[au h2]
 have e2:((b[p].toNat:Int)=255):=by rw[h2];rfl
 simp only[e2,bd,aC]
 rw[Dw w 2 b p hb hp]
 simp only[az]
 by_cases h3:p+1<b.length
 case neg=>
  rw[au (by omega),tS (show b.length<=p+1 by omega),h2]
  simp
 rw[ai (by omega),dk h3,h2]
 simp only[iD,bT,ne_eq,gQ]
 rw[aM (by omega) (by omega),show(p:Int)+1=((p+1:Nat):Int) by omega]
 simp only[bP]
 rw[nX h3]
 simp only[bh,pF,Hn,UX]
 generalize b[p+1]=m
 have hp0:decide ((p:Int)=0)=decide (p=0):=by
  rw[im,bZ,bZ];omega
 have h216:decide ((m.toNat:Int)=216)=decide (m=216):=by
  rw[im,bZ,bZ]
  constructor
  ·intro q;exact nE.1 (by have:(216:UInt8).toNat=216:=rfl;omega)
  ·rintro rfl;rfl
 have h217:decide ((m.toNat:Int)=217)=decide (m=217):=by
  rw[im,bZ,bZ]
  constructor
  ·intro q;exact nE.1 (by have:(217:UInt8).toNat=217:=rfl;omega)
  ·rintro rfl;rfl
 have hal:iR (m.toNat:Int)=(decide (m=216)||decide (m=217)):=by
  rw[<-h216,<-h217]
  unfold iR
  simp
 rw[hp0,h216,h217,hal,aM (by omega) (by omega)]
 by_cases c0:p=0
 ·by_cases c1:m=216
  ·subst c1;simp[c0]
  ·simp[c0,c1]
 ·by_cases c1:m=216
  ·subst c1;simp[c0]
  ·by_cases c2:m=217
   ·subst c2;simp[c0]
   ·cases kZ (m.toNat:Int)<;>simp[c0,c1,c2]
theorem Z4(b:List UInt8)(p:Nat)(h:p+1<b.length):oP b p 2 2=some ((b[p].toNat*256+b[p+1].toNat:Nat):Int):=by
 have:=wM (l:=b) (p:=p) (.inr (.inl rfl)) (.inr rfl) (by omega)
 rw[show((2:Nat):Int)=2 from rfl] at this
 rw[this]
 have:gN b p 2 2=[b[p],b[p+1]]:=by
  unfold gN
  rw[dk (by omega),dk (show p+1<b.length by omega)]
  rfl
 rw[this]
 unfold gX
 simp
theorem aeH{w:Nat}(m:Int)(b:List UInt8)(p:Nat)(hb:b.length<2^29)(hp:p<=b.length)(hw:b.length+10<w):tq w m (ag b) (p:Int)=some (if iR m=true then .inl (m,ag [],ag [],ag b,(p:Int)) else match b.drop p with
 |x::y::t=>if x.toNat*256+y.toNat<2 then .inr ((p:Int),2,ag b,(p:Int)) else if b.length -p<x.toNat*256+y.toNat then .inr ((b.length:Int),3,ag b,(p:Int)) else
  .inl (m,ag ((b.drop (p+2)).take (x.toNat*256+y.toNat -2)),ag ((b.drop (p+(x.toNat*256+y.toNat))).take (if m=218 then gh (b.drop (p+(x.toNat*256+y.toNat))) else 0)),ag b,((p+(x.toNat*256+y.toNat)+(if m=218 then gh (b.drop (p+(x.toNat*256+y.toNat))) else 0):Nat):Int))
 |_=>.inr ((b.length:Int),3,ag b,(p:Int))):=by
 unfold tq
 rw[LW]
 simp only[az]
 cases ha:iR m with
 |true=>rfl
 |false=>
 simp only[aC,kC,gQ]
 rw[Dw w 2 b p (by omega) hp]
 simp only[az]
 by_cases h3:p+1<b.length
 case neg=>
  rw[au (by omega)]
  have hl:(b.drop p).length<=1:=by rw[eu];omega
  split
  ·rename_i q;rw[q] at hl;simp at hl
  ·rfl
 rw[ai (by omega),dk (show p<b.length by omega),dk h3]
 simp only[iD]
 rw[A9 (by omega) b (by omega) _ _ _ (by omega),Z4 b p h3]
 simp only[az,aT]
 have hx:=b[p].toNat_lt
 have hy:=b[p+1].toNat_lt
 generalize hn:b[p].toNat*256+b[p+1].toNat=n
 by_cases c1:n<2
 ·have:((n:Int)<2):=by omega
  simp_all
 have e4:¬((n:Int)<2):=by omega
 simp only[e4,bM,aC,ai c1]
 rw[Dw w (n:Int) b p (by omega) hp]
 simp only[az]
 by_cases c2:b.length -p<n
 ·have:((b.length -p:Nat):Int)<(n:Int):=by omega
  rw[au this,au c2]
  rfl
 rw[ai (by omega),ai c2]
 simp only[iD,bT,cJ]
 rw[aM (n:=(p:Int)+(n:Int)) (by omega) (by omega),aM (n:=(p:Int)+2) (by omega) (by omega),show(p:Int)+(n:Int)=((p+n:Nat):Int) by omega,show(p:Int)+2=((p+2:Nat):Int) by omega]
 have e6:p+n<=b.length:=by omega
 have e7:p+2<=p+n:=by omega
 simp only[bP,gC,e6,e7,aK,bd,jF,aB]
 rw[mu b e6,show p+n -(p+2)=n -2 by omega,q9 w _ (by rw[dI,eu];omega)]
 simp only[az,cu]
 by_cases c3:m=218
 ·simp only[c3,bd,aB,dL]
  rw[mu b (aK _),eE (by rw[eu];omega),UW _ (by rw[eu];omega) (by rw[eu];omega)]
  simp only[az]
  have hs:=EI (b.drop (p+n))
  rw[eu] at hs
  rw[aM (by omega) (by omega),show((p+n:Nat):Int)+(gh (b.drop (p+n)):Int)=((p+n+gh (b.drop (p+n)):Nat):Int) by omega]
  have e8:p+n+gh (b.drop (p+n))<=b.length:=by omega
  have e9:p+n<=p+n+gh (b.drop (p+n)):=by omega
  simp only[bP,e8,e9,bd,jF,aB]
  rw[mu b e8,G3,q9 w _ (by rw[dI,eu];omega)]
  simp only[az]
 ·simp_all
  rfl
end
section
set_option linter.unusedVariables false
set_option linter.unusedSimpArgs false
set_option linter.unusedSectionVars false
set_option linter.constructorNameAsVariable false
theorem step_eq{β:Type}{w:Nat}(b:List UInt8)(p:Nat)(hb:b.length<2^29)(hp:p<=b.length)(hw:b.length+10<w)(G:Int×Value×Value×Value×Int->Option β)(E:Int×Int×Value×Int->Option β):
 match kM (decide (p=0)) (b.drop p) with
 | .short=>∃q,(ob (tu w (ag b) (p:Int)) λx14=>dc x14 (λx15=>ob (tq w x15.fst x15.snd.fst x15.snd.snd) λx16=>dc x16 G E) E)=E ((b.length:Int),3,ag b,q)
 | .form k=>∃q,(ob (tu w (ag b) (p:Int)) λx14=>dc x14 (λx15=>ob (tq w x15.fst x15.snd.fst x15.snd.snd) λx16=>dc x16 G E) E)=E (((p+k:Nat):Int),2,ag b,q)
 | .last s t=>∃q:Nat,(ob (tu w (ag b) (p:Int)) λx14=>dc x14 (λx15=>ob (tq w x15.fst x15.snd.fst x15.snd.snd) λx16=>dc x16 G E) E)=G (s.bW,ag s.data,ag s.scan,ag b,(q:Int))/\b.drop q=t/\p+2<=q/\q<=b.length/\s.bW=217
 | .more s t=>∃q:Nat,(ob (tu w (ag b) (p:Int)) λx14=>dc x14 (λx15=>ob (tq w x15.fst x15.snd.fst x15.snd.snd) λx16=>dc x16 G E) E)=G (s.bW,ag s.data,ag s.scan,ag b,(q:Int))/\b.drop q=t/\p+2<=q/\q<=b.length/\s.bW≠217:=by
 rw[aeJ w b p (by omega) hp]
 have hlen:(b.drop p).length=b.length -p:=eu
 have hd2:b.drop (p+2)=(b.drop p).drop 2:=by rw[List.drop_drop]
 generalize hr:b.drop p=r at hlen hd2
 cases r with
 |nil=>exact⟨_,rfl⟩
 |cons x r=>
  cases r with
  |nil=>
   dsimp only[kM]
   by_cases h1:x=255
   ·simp_all
    exact⟨_,rfl⟩
   ·simp_all
    exact⟨_,rfl⟩
  |cons m t=>
   have h2:p+2<=b.length:=by simp at hlen;omega
   dsimp only[kM]
   by_cases h1:x=255
   case neg=>
    have h1':x≠255:=h1
    simp_all
    exact⟨_,rfl⟩
   have h1':¬(x≠255):=λq=>q h1
   simp only[ai h1']
   by_cases h3:((decide (p=0)!=decide (m=216))||!(iR m.toNat||kZ m.toNat))=true
   ·simp_all
    exact⟨_,rfl⟩
   simp only[ai h3,az,iD]
   have hdt:b.drop (p+2)=t:=hd2
   by_cases h4:m=217
   ·subst h4
    have:iR ((217:UInt8).toNat:Int)=true:=rfl
    exact⟨p+2,rfl,hdt,aK _,h2,by first|rfl|trivial⟩
   simp only[ai h4]
   by_cases h5:m=216
   ·subst h5
    have:iR ((216:UInt8).toNat:Int)=true:=rfl
    exact⟨p+2,rfl,hdt,aK _,h2,by decide⟩
   simp only[ai h5]
   have hal:iR (m.toNat:Int)=false:=by
    unfold iR
    rw[fe]
    rintro (e|e)
    ·exact h5 (nE.1 (by have:(216:UInt8).toNat=216:=rfl;omega))
    ·exact h4 (nE.1 (by have:(217:UInt8).toNat=217:=rfl;omega))
   have h218:((m.toNat:Int)=218)=(m=218):=by
    apply propext
    constructor
    ·intro q;exact nE.1 (by have:(218:UInt8).toNat=218:=rfl;omega)
    ·rintro rfl;rfl
   have hm217:(m.toNat:Int)≠217:=by
    intro q;exact h4 (nE.1 (by have:(217:UInt8).toNat=217:=rfl;omega))
   rw[aeH _ b (p+2) hb h2 hw,hdt]
   simp only[hal,kC,gQ,h218,az]
   have htl:t.length=b.length -(p+2):=by rw[<-hdt,eu]
   cases t with
   |nil=>simp only[BR];exact⟨_,rfl⟩
   |cons a t=>
    cases t with
    |nil=>simp only[BR];exact⟨_,rfl⟩
    |cons c t=>
     simp only
     generalize a.toNat*256+c.toNat=n
     by_cases c1:n<2
     ·simp only[au c1,BR]
      exact⟨_,rfl⟩
     simp only[ai c1]
     by_cases c2:(a::c::t).length<n
     ·have c2':b.length -(p+2)<n:=by omega
      simp_all
      exact⟨_,rfl⟩
     have c2':¬(b.length -(p+2)<n):=by omega
     simp only[ai c2,ai c2',iD]
     have e1:b.drop (p+2+n)=(a::c::t).drop n:=by rw[<-hdt,List.drop_drop]
     have e2:b.drop (p+2+2)=(a::c::t).drop 2:=by rw[<-hdt,List.drop_drop]
     rw[e1,e2]
     have hk:(if m=218 then gh ((a::c::t).drop n) else 0)<=b.length -(p+2+n):=by
      have:=EI ((a::c::t).drop n)
      rw[<-e1,eu] at this
      rw[<-e1]
      split<;>omega
     refine⟨_,rfl,?_,by omega,by omega,hm217⟩
     rw[<-List.drop_drop,e1]
theorem Gp{w:Nat}(b:List UInt8)(hb:b.length<2^28)(hw:b.length+10<w):vy w (ag b)=some (match ofM b with| .ok l e=>(dK l,(e:Int),0,0)| .bad a e=>(ae 0 [],0,(a:Int),e)):=by
 have key:∀(f:Nat)(l:List bE)(p v:Nat),(b.drop p).length<f->p<=b.length->f+1<v->(p=0↔l=[])->(∀s,l.getLast? =some s->s.bW≠217)->l.length<=p->
  ∀(z:Int->Int->Int->Value->Int->List Value->R6)(F:(Int->Int->Int->Value->Int->List Value->R6)->Int->Int->Int->Value->Int->List Value->R6),(∀g a c d e k x,F g a c d e k x=(bif aj (Int.ofNat (x.length/3)) 0 then rL w e k x g a c d else aD (ah .i64 ((Int.ofNat (x.length/3)).sub 1)) λo=>bif Nat.beq 3 3&&(o*3).blt x.length then af (List.drop (0+o*3+0) x) λp q=>ax .i64 p λr=>bif !aj r 217 then rL w e k x g a c d else bif aj k k then some (ae (x.length/3) x,k,0,0) else none else none))->
  lp z F v 0 0 0 (ag b) (p:Int) (l.flatMap cO)=some (match lU b.length f (decide (p=0)) (b.drop p) with| .ok l' e=>(dK (l++l'),(e:Int),0,0)| .bad a e=>(ae 0 [],0,(a:Int),e)):=by
  intro f
  induction f with
  |zero=>intro l p v h;omega
  |succ f ih=>
   intro l p v h hp hv h0 hlast hlp z F hF
   have je:(b.drop p).length=b.length -p:=eu
   have hfl:(l.flatMap cO).length=l.length*3:=dH jA l
   have hr:aG (l.length*3)=true:=by simp;omega
   have hrefl:∀n:Int,aj n n=true:=λn=>by simp
   rw[dQ z F (by omega),hF]
   have hst:=step_eq (w:=w) b p (by omega) hp hw (λk=>bif aG (l.flatMap cO).length&&(aG 1&&(List.take 3 (List.drop 0 [Value.int .i64 k.1,k.2.1,k.2.2.1])).length.beq 3) then lp z F (v -1) 0 0 0 k.2.2.2.1 k.2.2.2.2 (l.flatMap cO++List.take 3 (List.drop 0 [Value.int .i64 k.1,k.2.1,k.2.2.1])) else none) xx
   have red:(bif aj (Int.ofNat ((l.flatMap cO).length/3)) 0 then rL w (ag b) p (l.flatMap cO) (lp z F (v -1)) 0 0 0 else aD (ah .i64 ((Int.ofNat ((l.flatMap cO).length/3)).sub 1)) λo=>bif Nat.beq 3 3&&(o*3).blt (l.flatMap cO).length then af (List.drop (0+o*3+0) (l.flatMap cO)) λs q=>ax .i64 s λr=>bif !aj r 217 then rL w (ag b) p (l.flatMap cO) (lp z F (v -1)) 0 0 0 else bif aj p p then some (ae ((l.flatMap cO).length/3) (l.flatMap cO),p,0,0) else none else none)=rL w (ag b) p (l.flatMap cO) (lp z F (v -1)) 0 0 0:=by
    rw[hfl,jG _ (show 0<3 by decide)]
    by_cases q:l=[]
    ·subst q;rfl
    ·have hpos:0<l.length:=List.length_pos_iff.2 q
     have e1:aj (Int.ofNat l.length) 0=false:=by simp;omega
     rw[e1,aC,jg,cm,aM (by omega) (by omega),lK (by omega),show((l.length:Int) -1).toNat=l.length -1 by omega]
     have e2:(Nat.beq 3 3&&((l.length -1)*3).blt (l.length*3))=true:=by
      simp;omega
     rw[e2,aB,show 0+(l.length -1)*3+0=(l.length -1)*3 by omega,oO jA,dk (show l.length -1<l.length by omega),dV]
     have tg:∀(s:bE)(r:List Value),cO s++r=.int .i64 s.bW::ag s.data::ag s.scan::r:=λ_ _=>rfl
     simp only[tg,bh,bQ]
     have hm:l[l.length -1].bW≠217:=hlast _ (by rw[List.getLast?_eq_getElem?,cW (by omega)])
     have e3:(!aj l[l.length -1].bW 217)=true:=by simp[hm]
     rw[e3,aB]
   refine Eq.trans red ?_
   clear red
   unfold rL
   unfold lU
   generalize hs:kM (decide (p=0)) (b.drop p)=sr at hst
   cases sr with
   |short=>
    obtain⟨q,e⟩:=hst
    rw[e]
    unfold xx
    simp only[hrefl,aB]
   |form k=>
    obtain⟨q,e⟩:=hst
    rw[e]
    unfold xx
    simp only[hrefl,aB]
    rw[je,show b.length -(b.length -p)+k=p+k by omega]
   |last s t=>
    obtain⟨q,e,e1,e2,e3,e4⟩:=hst
    rw[e]
    rw[hfl] at*
    simp only[hr,show aG 1=true from rfl,eS,oC,pA,bY,List.length_nil,eD]
    rw[show Nat.beq (0+1+1+1) 3=true from rfl,aB,dQ z F (by omega),hF]
    have hfl2:(l.flatMap cO++[Value.int .i64 s.bW,ag s.data,ag s.scan])=(l++[s]).flatMap cO:=by
     rw[fw,dV];rfl
    rw[hfl2]
    have hfl3:((l++[s]).flatMap cO).length=(l.length+1)*3:=by rw[dH jA,aR];rfl
    rw[hfl3,jG _ (show 0<3 by decide)]
    have e5:aj (Int.ofNat (l.length+1)) 0=false:=by simp;omega
    rw[e5,aC,jg,cm,aM (by omega) (by omega),lK (by omega),show(((l.length+1:Nat):Int) -1).toNat=l.length by omega]
    have e6:(Nat.beq 3 3&&(l.length*3).blt ((l.length+1)*3))=true:=by simp
    rw[e6,aB,show 0+l.length*3+0=l.length*3 by omega,oO jA,List.drop_left]
    have tg:∀(s:bE)(r:List Value),cO s++r=.int .i64 s.bW::ag s.data::ag s.scan::r:=λ_ _=>rfl
    simp only[dV,tg,bh,bQ,e4]
    rw[show(!aj 217 217)=false from rfl,aC,hrefl,aB]
    have e7:b.length -t.length=q:=by rw[<-e1,eu];omega
    rw[e7]
    congr 1
    unfold dK aA
    rw[aR]
    rfl
   |more s t=>
    obtain⟨q,e,e1,e2,e3,e4⟩:=hst
    rw[e]
    rw[hfl] at*
    simp only[hr,show aG 1=true from rfl,eS,oC,pA,bY,List.length_nil,eD]
    rw[show Nat.beq (0+1+1+1) 3=true from rfl,aB]
    have hfl2:(l.flatMap cO++[Value.int .i64 s.bW,ag s.data,ag s.scan])=(l++[s]).flatMap cO:=by
     rw[fw,dV];rfl
    have hdq:(b.drop q).length=b.length -q:=eu
    have:=ih (l++[s]) q (v -1) (by omega) e3 (by omega) (by constructor;intro;omega;intro q;simp at q) (λs' h'=>by simp at h';rw[<-h'];exact e4) (by rw[aR];simp;omega) z F hF
    rw[hfl2,this,e1]
    have hq0:decide (q=0)=false:=by simp;omega
    rw[hq0]
    cases lU b.length f false t with
    |ok l' e=>simp
    |bad a e=>rfl
 unfold vy ofM rL xx
 refine Eq.trans (key (b.length+1) [] 0 w (by simp) (by omega) (by omega) (by simp) (λs h=>by simp at h) (by simp) _ _ (λ_ _ _ _ _ _ _=>rfl)) ?_
 rfl
end
section
set_option linter.unusedVariables false
set_option linter.unusedSimpArgs false
set_option linter.unusedSectionVars false
set_option linter.constructorNameAsVariable false
theorem LO{w:Nat}(l:List bE)(p:bE->Bool)(P:Int->Value->Value->Option Bool)(hP:∀s∈l,P s.bW (ag s.data) (ag s.scan)=some (p s))(hl:l.length<2^40)(hw:l.length<w):
 (aq (dK l) λx1=>lp (λx2 (x3 x4:Int)=>none) (λx5 (x6:Value) (x7 x8:Int)=>bif ak x8 x7 then aD x8 λx9=>aO 3 x9 x6 λx10=>af x10 λx11 (x12:List Value)=>ax .i64 x11 λx13=>af x12 λx14 (x15:List Value)=>af x15 λx16 (x17:List Value)=>ob (P x13 x14 x16) λx18=>bif x18 then some x8 else x5 x6 x7 (ah .i64 (x8.add 1)) else some (-1)) w (dK l) (Int.ofNat x1) 0)=some (db p l):=by
 refine mB l p (ev:=λi (g:Value->Int->Int->Option Int)=>g (aA cO l) l.length i) ?_ ?_ hw
 ·intro i g h
  simp_all
  rw[bu jA h]
  simp[(show∀(s:bE)(r:List Value),cO s++r=.int .i64 s.bW::ag s.data::ag s.scan::r fromλ_ _=>rfl)]
  rw[hP _ (cM h),aM (by omega) (by omega)]
  simp
 simp
theorem I6{α:Type}(p:α->Bool)(l:List α):(!decide (db p l<0))=l.any p:=by
 have:=wR p l
 cases h:l.any p with
 |true=>grind
 |false=>grind
theorem aeC{w:Nat}(l:List bE)(hl:l.length<2^40)(hw:l.length<w):EN w (dK l)=some (l.any λs=>s.bW==218):=by
 unfold EN Ml
 rw[LO l (λs=>s.bW==218) (Fp w) (λs _=>by unfold Fp;rw[cu];rfl) hl hw]
 simp[I6]
theorem aeF(w:Nat)(m:Int)(a b:Value):AY w m a b=some (pE m):=by
 unfold AY Mo pE
 by_cases h1:m<224
 ·have:¬(224<=m/\m<=239):=by omega
  simp_all
 ·by_cases h2:m<240
  ·have:(224<=m/\m<=239):=by omega
   simp[h1,h2,this]
  ·have:¬(224<=m/\m<=239):=by omega
   simp[h2,this]
theorem aeB{w:Nat}(l:List bE)(hl:l.length<2^40)(hw:l.length<w):EP w (dK l)=some (l.any λs=>pE s.bW):=by
 unfold EP Mm
 rw[LO l (λs=>pE s.bW) (AY w) (λs _=>aeF w _ _ _) hl hw]
 simp[I6]
theorem DD(L:Nat):∀(f:Nat)(first:Bool)(r:List UInt8)(l:List bE)(e:Nat),lU L f first r=.ok l e->l.length<=f
 |0,_,_,_,_,h=>by cases h
 |f+1,first,r,l,e,h=>by
  unfold lU at h
  split at h
  ·grind
  ·grind
  ·grind
  ·split at h
   ·rename_i q
    cases h
    have:=DD L f _ _ _ _ q
    simp_all
   grind
theorem Ni{w:Nat}(b:List UInt8)(hb:b.length<2^28)(hw:b.length+10<w):xX w (ag b)=some (mZ b):=by
 unfold xX LS mZ
 rw[Gp b hb hw]
 cases h:ofM b with
 |bad a e=>
  have he:e≠0:=by
   have:∀(L f:Nat)(first:Bool)(r:List UInt8)(a:Nat)(e:Int),r.length<f->lU L f first r=.bad a e->e≠0:=by
    intro L f
    induction f with
    |zero=>omega
    |succ f ih=>
     intro first r a e hr h
     unfold lU at h
     split at h
     ·cases h;decide
     ·cases h;decide
     ·cases h
     ·rename_i s t hs
      split at h
      ·cases h
      ·refine ih false t a e ?_ h
       cases first with
       |true=>
        obtain⟨h1,h2⟩:=Uy hs
        have hs2:2<=(cL s).length:=by unfold cL;split<;>simp<;>omega
        have:=bV List.length h2
        rw[aR] at this
        omega
       |false=>
        obtain⟨h1,h2⟩:=Uz hs
        have hs2:2<=(cL s).length:=by unfold cL;split<;>simp<;>omega
        have:=bV List.length h2
        rw[aR] at this
        omega
   exact this _ _ _ _ _ _ (by omega) h
  simp_all
 |ok l e=>
  have hl:=DD _ _ _ _ _ _ h
  have he:=(RD h).2.1
  simp only[az,aC,cJ,aT,cm]
  by_cases h1:e=b.length
  ·have e1:¬((b.length:Int)<(b.length:Int)):=by omega
   simp_all
   rw[aeC l (by omega) (by omega)]
   cases l.any (λs=>s.bW==218) with
   |false=>rfl
   |true=>
    simp
    rw[aeB l (by omega) (by omega)]
    simp only[az]
    congr 1
    rw[List.not_any_eq_all_not]
  ·have e1:((e:Int)<(b.length:Int)):=by omega
   simp only[e1,bd,aB,h1,az]
   rfl
theorem BY:∀l:List UInt8,pw (l.map aV)=some (l.map λb=>(b.toNat:Int))
 |[]=>rfl
 |b::l=>by
  show ob (pw (l.map aV)) _=_
  rw[BY l]
  rfl
theorem Du(l:List UInt8):(mkStr (l.map λb=>(b.toNat:Int))).data.toList=l:=by
 unfold mkStr
 simp
 conv=>rhs;rw[<-List.map_id l]
 apply List.map_congr_left
 simp
theorem agc(w:Nat)(a b:List UInt8):Gn w (ag a) (ag b)=some (decide (a=b)):=by
 unfold Gn
 rw[gV,gR,BY]
 simp
 rw[gV,gR,BY]
 simp
 rw[Du,Du,Cx]
 grind
theorem A3(w:Nat)(a p:List UInt8):xC w (ag a) (ag p)=some (p.isPrefixOf a):=by
 unfold xC
 simp only[cJ,aT,cm]
 by_cases h:p.length<=a.length
 ·have e1:¬((a.length:Int)<(p.length:Int)):=by omega
  simp only[e1,aB,gC,h]
  rw[mu a h,agc]
  simp
  congr 1
  rw[im,bZ,qe]
  constructor
  ·intro q;rw[<-q];exact List.take_prefix _ _
  ·intro q;exact(List.prefix_iff_eq_take.1 q).symm
 ·have e1:((a.length:Int)<(p.length:Int)):=by omega
  simp only[e1,bd,bO,aC]
  congr 1
  rw[eq_comm,Bool.eq_false_iff]
  intro q
  exact h (List.IsPrefix.length_le (qe.1 q))
theorem Nj(w:Nat)(a:List UInt8):BC w (ag a)=some (gy.isPrefixOf a):=by
 unfold BC AN
 have:ae 4 (List.drop 0 [Value.int IntKind.u8 77,Value.int IntKind.u8 80,Value.int IntKind.u8 70,Value.int IntKind.u8 0])=ag gy:=rfl
 rw[this,A3]
 rfl
theorem ae8{w:Nat}(s:bE)(h1:s.scan.length<2^60)(hw:s.scan.length<w):Fs w s.bW (ag s.data) (ag s.scan)=some (mI s):=by
 unfold Fs mI
 rw[UX,UW _ h1 hw]
 simp only[az,cJ,aT,cm,cu]
 cases kZ s.bW with
 |false=>rfl
 |true=>
  by_cases c1:s.data.length<=65533
  ·have e1:¬((65533:Int)<(s.data.length:Int)):=by omega
   simp only[e1,bM,gp,aB,c1]
   by_cases c2:s.scan.length=0
   ·have e2:((s.scan.length:Int)=0):=by omega
    rw[my c2];rfl
   ·have e2:¬((s.scan.length:Int)=0):=by omega
    have e3:s.scan.isEmpty=false:=by
     cases q:s.scan with
     |nil=>rw[q] at c2;exact absurd rfl c2
     |cons _ _=>rfl
    simp only[e2,bM,aC,e3,yx]
    by_cases c3:s.bW=218
    ·simp only[c3,bd,aB,eD]
     congr 1
     rw[im,bZ,bZ]
     omega
    ·simp_all
  ·have e1:((65533:Int)<(s.data.length:Int)):=by omega
   simp[e1,bd,bO,aC,c1,bM]
theorem UY(w:Nat)(s:bE)(m:Int)(h1:s.data.length+s.scan.length<2^60):Bg w s.bW (ag s.data) (ag s.scan) m=some (lL s m):=by
 unfold Bg lL
 simp_all
 rw[aM (by omega) (by omega)]
 by_cases c1:s.bW=m
 ·simp_all
  congr 1
  rw[im,bZ,bt,List.isEmpty_iff,List.isEmpty_iff]
  constructor
  ·intro q;exact⟨my (by omega),my (by omega)⟩
  grind
 grind
theorem Js:∀(t:List bE),jh t=true↔∃(h:t≠[]),lL (t.getLast h) 217=true/\∀s∈t.dropLast,mI s=true
 |[]=>by simp[jh]
 |[s]=>by simp[jh]
 |s::s'::t=>by
  simp only[jh,bt,(Js (s'::t))]
  grind
def wi(l:List bE)(m:Nat):Prop:=∀s∈l,s.data.length+s.scan.length<=m
theorem aeK{w m:Nat}(l:List bE)(hm:m<2^59)(hs:wi l m)(hl:l.length<2^40)(hw:l.length<w/\m<w)(h:mD l=true):EW w (dK l)=some true:=by
 cases l with
 |nil=>cases h
 |cons s t=>
  simp[mD] at h
  obtain⟨h1,h2⟩:=h
  obtain⟨cF,h3,h4⟩:=(Js t).1 h2
  have hpos:=List.length_pos_iff.2 cF
  have hlr:∀K:Nat->Option Bool,aq (dK (s::t)) K=K (t.length+1):=λK=>cd cO (s::t) K
  have tg:∀(s:bE)(r:List Value),cO s++r=.int .i64 s.bW::ag s.data::ag s.scan::r:=λ_ _=>rfl
  unfold EW
  simp at hl hw
  simp only[hlr,jg,cm]
  rw[aM (by omega) (by omega)]
  have e1:¬((t.length:Int)<1):=by omega
  simp[e1]
  unfold dK
  rw[bu jA (show 0<(s::t).length by simp)]
  simp_all
  have b1:=hs s (by simp)
  rw[UY w s 216 (by omega)]
  rw[bu jA (show t.length<(s::t).length by simp)]
  have e2:(s::t)[t.length]=t.getLast cF:=by
   rw[List.getLast_eq_getElem]
   simp only[List.getElem_cons]
   rw[dif_neg (by omega)]
  simp_all
  have b2:=hs (t.getLast cF) (by simp)
  rw[UY w _ 217 (by omega)]
  have e4:1<=t.length:=hpos
  simp_all
  rw[sE jA (s::t) (show t.length<=(s::t).length by simp)]
  have e5:((s::t).drop 1).take (t.length -1)=t.dropLast:=by
   rw[List.drop_one,List.tail_cons,List.dropLast_eq_take]
  rw[e5]
  unfold LV Mn
  have:=LO (w:=w) t.dropLast (λs=>!mI s) (Fq w) (λx hx=>by
   unfold Fq
   have b3:=hs x (by simp[(λx hx=>List.dropLast_subset t hx) x hx])
   rw[ae8 x (by omega) (by omega)]
   rfl) (by rw[List.length_dropLast];omega) (by rw[List.length_dropLast];omega)
  unfold dK at this
  rw[this]
  simp only[az,aT,I6]
  have:(t.dropLast.any λs=>!mI s)=false:=by
   rw[List.any_eq_false]
   intro x hx
   rw[h4 x hx];simp
  rw[this]
  rfl
theorem NU{l:List bE}(h:mD l=true){s:bE}(hs:s∈l):0<=s.bW/\s.bW<256/\(iR s.bW=true->s.data=[]/\s.scan=[])/\s.data.length<=65533:=by
 cases l with
 |nil=>grind
 |cons a t=>
  simp[mD] at h
  obtain⟨h1,h2⟩:=h
  obtain⟨cF,h3,h4⟩:=(Js t).1 h2
  have bare:∀(x:bE)(m:Int),lL x m=true->x.bW=m/\x.data=[]/\x.scan=[]:=λx m q=>by
   unfold lL at q
   simp_all
  rcases cQ.1 hs with rfl|hs
  ·grind
  ·have:=List.dropLast_concat_getLast cF
   rw[<-this] at hs
   rcases fK.1 hs with hs|hs
   ·have q:=h4 s hs
    unfold mI kZ at q
    grind
   grind
theorem ac9(n:Nat):aW n 2 2=[UInt8.ofNat (n/256%256),UInt8.ofNat (n%256)]:=rfl
theorem Vm{w m:Nat}(A:Hand w)(l:List bE)(hm:m<2^27)(hs:wi l m)(hl:l.length<2^27)(hw:l.length<w/\m<w/\20<=w)(h:mD l=true)(hb:(cT l).length<2^28):vz w (dK l)=some (ag (cT l),0):=by
 unfold vz
 rw[aeK l (by omega) hs (by omega) ⟨hw.1,hw.2.1⟩ h]
 have hlr:∀K:Nat->Option (Value×Int),aq (dK l) K=K l.length:=λK=>cd cO l K
 rw[hlr]
 unfold dK
 refine np (σ:=List UInt8) (ev:=λi s (g:Value->Int->Int->List Value->Option (Value×Int))=>g (aA cO l) l.length i (s.map aV)) (Inv:=λi s=>s++cT (l.drop i)=cT l) l.length [] ?_ ?_ ?_ (by omega)
 ·rfl
 ·rintro i g s hi hI
  rw[dk hi,kA] at hI
  refine⟨s++cL l[i],by rw[<-hI,dD],?_⟩
  have hmem:=cM hi
  obtain⟨m1,m2,m3,m4⟩:=NU h hmem
  have hsz:=hs _ hmem
  have e1:((i:Int)<(l.length:Int)):=by omega
  have hlen:=bV List.length hI
  simp only[aR] at hlen
  simp only[aT,e1,bd,aB,bP]
  rw[bu jA hi]
  have tg:∀(s:bE)(r:List Value),cO s++r=.int .i64 s.bW::ag s.data::ag s.scan::r:=λ_ _=>rfl
  simp only[tg,bh,bQ]
  have hw8:ah IntKind.u8 l[i].bW=((UInt8.ofNat l[i].bW.toNat).toNat:Int):=by
   rw[oH,IntKind.wrap_u8,vW]
   omega
  have e2:Value.int IntKind.u8 255=aV 255:=rfl
  have e3:Value.int IntKind.u8 ((UInt8.ofNat l[i].bW.toNat).toNat:Int)=aV (UInt8.ofNat l[i].bW.toNat):=rfl
  have r1:aG s.length=true:=by simp;omega
  simp only[hw8,e2,e3,cH,r1,show aG 2=true from rfl,eS,oC,pA,bY,List.length_nil,eD]
  rw[show Nat.beq (0+1+1) 2=true from rfl,aB,LW]
  simp only[az,cJ,bT,cm]
  rw[aM (n:=(i:Int)+1) (by omega) (by omega)]
  cases ha:iR l[i].bW with
  |true=>
   simp only[aB]
   have:cL l[i]=[255,UInt8.ofNat l[i].bW.toNat]:=by unfold cL;rw[au ha]
   rw[this,gq]
   rfl
  |false=>
   simp only[aC]
   have hsb:cL l[i]=[255,UInt8.ofNat l[i].bW.toNat]++(aW (l[i].data.length+2) 2 2++(l[i].data++l[i].scan)):=by
    unfold cL
    rw[ha,ac9,qh (show(l[i].data.length+2)/256<256 by omega)]
    simp
   rw[aM (n:=(l[i].data.length:Int)+2) (by omega) (by omega),rN (by omega),au (show fZ 2 2=true from rfl)]
   have hp:o7 ((l[i].data.length:Int)+2) (2:Int).toNat 2=some (aW (l[i].data.length+2) 2 2):=by
    unfold o7
    rw[au ⟨by omega,by show _<((256^2:Nat):Int);omega⟩]
    congr 1
   rw[hp]
   simp only[az]
   have hc:=A.cat (aW (l[i].data.length+2) 2 2) l[i].data l[i].scan (s++[255,UInt8.ofNat l[i].bW.toNat]) (by rw[er];omega) (by rw[er,aR];simp only[bY,List.length_nil];omega)
   rw[gq] at hc
   have hc:tw w (ag (aW (l[i].data.length+2) 2 2)) (ag l[i].data) (ag l[i].scan) (s.map aV++[aV 255,aV (UInt8.ofNat l[i].bW.toNat)])=_:=hc
   rw[hc]
   simp only[az]
   rw[hsb]
   simp only[dD]
   rfl
 ·rintro g s hI
  rw[qQ] at hI
  simp only[cT,mN,dX] at hI
  subst hI
  have e1:¬((l.length:Int)<(l.length:Int)):=by omega
  simp only[aT,e1,bM,aC]
  rw[uk _ _ (by rw[kE,cH])]
  rfl
end
section
set_option linter.unusedVariables false
set_option linter.unusedSimpArgs false
set_option linter.unusedSectionVars false
set_option linter.constructorNameAsVariable false
noncomputable def Ro(w:Nat)(rest ch:Value)(cs:List Value):Option (Value×Int):=
 aq ch λ(x31:Nat)=>lp (λ(x32 x33:Value)(x34 x35:Int)(x36:List Value)=>none) (λ(x37:Value->Value->Int->Int->List Value->Option (Value×Int))(x38 x39:Value)(x40 x41:Int)(x42:List Value)=>bif ak x41 x40 then aD x41 λ(x43:Nat)=>aO 1 x43 x39 λ(x44:List Value)=>af x44 λ(x45:Value)(x46:List Value)=>ob (xY w 226 x45 x42) λ(x47:List Value)=>x37 x38 x39 x40 (ah .i64 (x41.add 1)) x47 else aq x38 λ(x48:Nat)=>bif x48.ble x48&&Nat.ble 1 x48 then gD 3 1 x48 x38 λ(x49:Value)=>dN 3 x49 λ(x50:Nat)(x51:List Value)=>bif aG x42.length&&(aG x50&&x51.length.beq (x50*3)) then ob (vz w (ae ((x42++x51).length/3) (x42++x51))) λ(x52:Value×Int)=>some (x52.fst,x52.snd) else none else none) w rest ch (Int.ofNat x31) 0 cs
theorem WI(l:List UInt8):(eV l).length=1:=rfl
theorem UA(l:List bE):ae ((l.flatMap cO).length/3) (l.flatMap cO)=dK l:=by
 unfold dK aA
 rw[dH jA,jG _ (show 0<3 by decide)]
theorem Vl(w:Nat)(m:Int)(d:List UInt8)(P:List bE)(h:P.length<300000000):xY w m (ag d) (P.flatMap cO)=some ((P++([⟨m,d,[]⟩]:List bE)).flatMap cO):=by
 unfold xY AP
 simp only[(dH jA P),(show aG (P.length*3)=true from by simp;omega)]
 rw[fw]
 rfl
theorem ZV{w m:Nat}(A:Hand w)(s0:bE)(r P:List bE)(ch:List (List UInt8))(L:List bE)(hL:L=P++(ch.map (λc=>⟨226,c,[]⟩)++r))(hm:m<2^27)(hs:wi L m)(hl:L.length<2^27)(hw:L.length<w/\m<w/\20<=w)(h:mD L=true)(hb:(cT L).length<2^28):Ro w (dK (s0::r)) (aA eV ch) (P.flatMap cO)=some (ag (cT L),0):=by
 have hLl:L.length=P.length+(ch.length+r.length):=by rw[hL];simp
 unfold Ro
 refine np (σ:=List bE) (ev:=λi s (g:Value->Value->Int->Int->List Value->Option (Value×Int))=>g (dK (s0::r)) (aA eV ch) ch.length i (s.flatMap cO)) (Inv:=λi s=>s++((ch.drop i).map (λc=>⟨226,c,[]⟩)++r)=L) ch.length P ?_ ?_ ?_ (by omega)
 ·rw[eS,<-hL]
 ·rintro i g s hi hI
  rw[dk hi,iF] at hI
  refine⟨s++[⟨226,ch[i],[]⟩],by rw[<-hI];simp,?_⟩
  have hlen:=bV List.length hI
  simp at hlen
  have e1:((i:Int)<(ch.length:Int)):=by omega
  simp only[aT,e1,aB,bP]
  rw[bu WI hi]
  have tg:∀(b:List UInt8)(r:List Value),eV b++r=ag b::r:=λ_ _=>rfl
  simp only[tg,bh]
  rw[Vl w 226 ch[i] s (by omega)]
  simp only[bT]
  rw[aM (by omega) (by omega)]
  rfl
 ·rintro g s hI
  simp at hI
  have hlen:=bV List.length hI
  simp at hlen
  have e1:¬((ch.length:Int)<(ch.length:Int)):=by omega
  simp only[aT,e1,aC]
  have hlr:∀K:Nat->Option (Value×Int),aq (dK (s0::r)) K=K (r.length+1):=λK=>cd cO (s0::r) K
  simp only[hlr,gC,(by omega),aK,bd,jF,aB]
  unfold dK
  rw[sE jA (s0::r) (show r.length+1<=(s0::r).length by simp)]
  have e3:((s0::r).drop 1).take (r.length+1 -1)=r:=by simp
  rw[e3,zr jA]
  have hf2:(r.flatMap cO).length=r.length*3:=dH jA r
  have r1:aG (s.length*3)=true:=by simp;omega
  have r2:aG r.length=true:=by simp;omega
  rw[(dH jA s),hf2,r1,r2,mQ]
  rw[<-fw,hI,UA,Vm A L hm hs hl hw h hb]
  rfl
theorem LP:∀{r:List bE}{s:bE},s∈r->(cL s).length<=(cT r).length
 |[],s,h=>by grind
 |a::r,s,h=>by
  rw[kA,aR]
  rcases cQ.1 h with rfl|h
  ·simp
  ·have:=LP h;omega
theorem U6{w m:Nat}(W:dM w){x:mU}{aL:List UInt8}(h:we x aL)(hx:jI x.aF 9000)(hm:m<2^24)(hc:x.core.length<=m/\x.cj.length<=m/\x.cn.length<=m)(hw:2*m+200000<w)(a b:Int):
 xP w x.aF.order (ay x.aF.ct) (ay x.aF.bI) (ay x.aF.bN) (ay x.aF.bn) (ay x.aF.first) (ag x.aF.bH) (ag x.aF.cP) (ag x.cj) (ag x.core) (ag x.cn) a b=some (ag (eJ x aL),0):=by
 have hb:=W.kg
 have hA:=W.hand
 obtain⟨-,hp1,hp2,hp3,-⟩:=yM h.app h.rows
 obtain⟨r,c1,c2,c3,c4,c5,c6⟩:=CI h.core
 have hmayL:=I8 h.core hp2 h.cj (by rcases h.cn with q|q;omega;exact q.2)
 have hcl:(⟨216,[],[]⟩::r:List bE).length<=x.core.length+1:=DD _ _ _ _ _ _ c1
 have hrl:r.length<=x.core.length:=by simpa using hcl
 have hchl:(fW x.cj).length<=1:=by unfold fW;split<;>simp
 have hLdef:jf x aL=[⟨216,[],[]⟩,⟨225,aL,[]⟩]++((if x.cn.length=0 then[] else[⟨226,x.cn,[]⟩])++((fW x.cj).map (λc=>⟨226,c,[]⟩)++r)):=by unfold jf;rw[c2];rfl
 have hLl:(jf x aL).length<=x.core.length+4:=by
  rw[hLdef]
  simp only[aR,cH,bY,List.length_nil]
  split<;>simp<;>omega
 have hwr:∀s∈r,(cL s).length<=x.core.length:=by
  intro s hs
  have:=bV List.length c4
  rw[kA,aR] at this
  have hle:=LP hs
  omega
 have hmayC:mD (⟨216,[],[]⟩::r)=true:=by
  show(true&&jh r)=true
  rw[c3];rfl
 have hsegs:wi (jf x aL) (m+70000):=by
  intro s hs
  rw[hLdef] at hs
  rcases fK.1 hs with hs|hs
  ·simp only[cQ,mP,mS] at hs
   rcases hs with rfl|rfl
   ·simp
   ·simp only[List.length_nil];omega
  ·rcases fK.1 hs with hs|hs
   ·split at hs
    ·cases hs
    ·rw[oB.1 hs];simp only[List.length_nil];omega
   ·rcases fK.1 hs with hs|hs
    ·obtain⟨c,hc',rfl⟩:=mg.1 hs
     have:=OS h.cj hc'
     simp only[List.length_nil];omega
    ·have h1:=hwr s hs
     by_cases ha:iR s.bW=true
     ·obtain⟨-,-,q,-⟩:=NU hmayC (mO _ hs)
      obtain⟨q1,q2⟩:=q ha
      rw[q1,q2];simp
     ·unfold cL at h1
      rw[ai ha] at h1
      simp at h1
      omega
 have hwl:(cT (jf x aL)).length<2^28:=by
  have e:cT (jf x aL)=cL ⟨216,[],[]⟩++(cL ⟨225,aL,[]⟩++(cT (if x.cn.length=0 then[] else[⟨226,x.cn,[]⟩])++(cT ((fW x.cj).map (λc=>⟨226,c,[]⟩))++cT r))):=by
   rw[hLdef];simp[cT]
  have k1:(cL ⟨216,[],[]⟩).length=2:=rfl
  have k2:(cL ⟨225,aL,[]⟩).length<=aL.length+4:=by unfold cL;split<;>simp<;>omega
  have k3:(cT (if x.cn.length=0 then[] else[⟨226,x.cn,[]⟩])).length<=x.cn.length+4:=by
   split
   ·simp[cT]
   ·simp only[cT,dV,mN,dX]
    unfold cL;split<;>simp<;>omega
  have k4:(cT ((fW x.cj).map (λc=>⟨226,c,[]⟩))).length<=x.cj.length+30:=by
   unfold fW
   split
   ·simp[cT]
   ·simp[cT]
    unfold cL;split<;>simp[fM]<;>omega
  have k5:(cT r).length<=x.core.length:=by
   have:=bV List.length c4
   rw[kA,aR] at this
   omega
  rw[e]
  simp only[aR,k1]
  omega
 have hcut:=hA.cut x.cj h.cj
 have h32:=M8 W hx
 rw[h.app] at h32
 have hmb:x.core.length<2^28:=by omega
 have h50:=Ni (w:=w) x.core hmb (by omega)
 rw[h.core] at h50
 have h52:=Gp (w:=w) x.core hmb (by omega)
 rw[c1] at h52
 have ix0:∀(K:List Value->Option (Value×Int)),aO 3 0 (dK (⟨216,[],[]⟩::r)) K=K (.int .i64 216::ag []::ag []::r.flatMap cO):=by
  intro K
  unfold dK
  rw[bu jA (show 0<(⟨216,[],[]⟩::r:List bE).length by simp)]
  rfl
 have h53:Nk w 225 (ag aL) [Value.int .i64 216,ag [],ag []]=some ([⟨216,[],[]⟩,⟨225,aL,[]⟩].flatMap cO):=rfl
 have fin:=λP hL=>ZV (m:=m+70000) hA ⟨216,[],[]⟩ r P (fW x.cj) (jf x aL) hL (by omega) hsegs (by omega) ⟨by omega,by omega,by omega⟩ hmayL hwl
 unfold xP Ly LJ
 rw[h32]
 simp only[az,show aj 0 0=true from rfl,bO,aC]
 rw[hcut]
 simp only[az,show aj 0 0=true from rfl,bO,aC]
 rw[h50]
 simp only[az,bO,aC,cJ]
 by_cases hmp:x.cn.length=0
 ·have e1:ak 0 (Int.ofNat x.cn.length)=false:=by rw[hmp];rfl
  have e2:ak 65533 (Int.ofNat x.cn.length)=false:=by rw[hmp];rfl
  simp only[e1,e2,aC]
  rw[h52]
  simp only[az,ix0,bh,bQ]
  rw[h53]
  simp only[az]
  exact fin _ (by rw[hLdef,au hmp];rfl)
 ·have e1:ak 0 (Int.ofNat x.cn.length)=true:=by simp;omega
  obtain⟨m1,m2⟩:=h.cn.resolve_left hmp
  have e2:ak 65533 (Int.ofNat x.cn.length)=false:=by simp;omega
  simp only[e1,aB]
  rw[Nj,m1]
  simp only[az,bO,aC,e2]
  rw[h52]
  simp only[az,ix0,bh,bQ]
  rw[h53]
  simp only[az]
  rw[Vl w 226 x.cn _ (by simp)]
  simp only[az]
  exact fin _ (by rw[hLdef,ai hmp];simp)
end
section
set_option linter.unusedVariables false
set_option linter.unusedSimpArgs false
set_option linter.unusedSectionVars false
set_option linter.constructorNameAsVariable false
def eB(T:List Nat):List Value:=T.map λn:Nat=>.int .u64 (n:Int)
theorem Wi{T:List Nat}{i:Nat}(h:i<T.length):(eB T).drop i=.int .u64 (T[i]:Int)::eB (T.drop (i+1)):=by
 unfold eB
 rw[<-List.map_drop,dk h,iF]
def CA(T:List Nat)(p:Nat):Bool:=((T[p/64]?).getD 0).testBit (p%64)
def gx(S:List bk)(p:Nat):Bool:=S.any λs=>decide (s.at_<=p/\p<s.at_+s.cw)
structure Tk(T:List Nat)(L:Nat)(P:Nat->Bool):Prop where
 len:T.length=L/64+1
 lt:∀n∈T,n<2^64
 bit:∀p,p<L->CA T p=P p
theorem Q7(p:Nat)(hp:p<2^60):ah IntKind.u64 (((BitVec.ofInt 64 (ah IntKind.u64 (p:Int))&&&BitVec.ofInt 64 63).toNat:Nat):Int)=((p%64:Nat):Int):=by
 rw[sn (n:=(p:Int)) (by simp) (by omega)]
 have e:(BitVec.ofInt 64 (p:Int)&&&BitVec.ofInt 64 63).toNat=p%64:=by
  rw[BitVec.ofInt_natCast,BitVec.toNat_and,BitVec.toNat_ofNat,qh (by omega)]
  exact Nat.and_two_pow_sub_one_eq_mod p 6
 rw[e]
 exact sn (by omega) (by omega)
theorem WB(n k:Nat)(hn:n<2^64)(hk:k<64):aj (((BitVec.ofInt 64 ((n:Int).fdiv (2^min ((k:Int)).toNat 64))&&&BitVec.ofInt 64 1).toNat:Nat):Int) 1=n.testBit k:=by
 rw[mM,kc (by omega)]
 have e:(n:Int).fdiv (2^k)=((n/2^k:Nat):Int):=by grind
 rw[e,BitVec.ofInt_natCast,cu]
 grind
theorem or_eq(n k:Nat)(hn:n<2^64)(hk:k<64):ah IntKind.u64 (((BitVec.ofInt 64 (n:Int)|||BitVec.ofInt 64 (ah IntKind.u64 (Int.mul 1 (2^min ((k:Int)).toNat 64)))).toNat:Nat):Int)=((n|||2^k:Nat):Int)/\n|||2^k<2^64:=by
 have hk2:2^k<2^64:=Nat.pow_lt_pow_right (by simp) hk
 have hor:=Nat.or_lt_two_pow hn hk2
 refine⟨?_,hor⟩
 rw[mM,kc (by omega),nU,Int.one_mul,(show(2:Int)^k=((2^k:Nat):Int) from(Int.natCast_pow 2 k).symm),sn (n:=((2^k:Nat):Int)) (Int.natCast_nonneg _) (by grind),BitVec.ofInt_natCast,BitVec.ofInt_natCast,BitVec.toNat_or,BitVec.toNat_ofNat,BitVec.toNat_ofNat,qh hn,qh hk2]
 exact sn (by simp) (by omega)
theorem Ib(p:Nat)(hp:p<2^60):(p:Int).fdiv (2^6)=((p/64:Nat):Int):=by grind
theorem afZ(w:Nat){T:List Nat}{L:Nat}{P:Nat->Bool}(H:Tk T L P)(hL:L<2^50)(p:Nat)(hp:p<L)(b:Value)(o:Int)(sh:Value)(c:Nat)(no so:Int)(S:List Value):
 Gd w (p:Int) b o sh T.length c no so (eB T) S=some (P p,b,o,sh,T.length,c,no,so,eB T,S):=by
 have hlt:p/64<T.length:=by rw[H.len];omega
 have hb:=H.bit p hp
 unfold CA at hb
 rw[cW hlt,qj] at hb
 unfold Gd xv
 rw[Ib p (by omega)]
 simp only[bP,mn,hlt,bd,aB,gA,gI]
 rw[Wi hlt]
 simp only[bh,bQ]
 rw[(Q7 p (by omega))]
 simp only[aT,(show¬(((p%64:Nat):Int)<0) from by omega),bM,aC]
 have hx:=WB T[p/64] (p%64) (H.lt _ (cM hlt)) (by omega)
 rw[hb] at hx
 have hle:(BitVec.ofInt 64 ((T[p/64]:Int).fdiv (2^min (((p%64:Nat):Int)).toNat 64))&&&BitVec.ofInt 64 1).toNat<=1:=by
  rw[BitVec.toNat_and]
  have:(BitVec.ofInt 64 1).toNat=1:=rfl
  rw[this,Nat.and_one_is_mod]
  omega
 rw[(λz hz=>sn (by omega) (by omega)) _ hle,hx]
theorem aer{T:List Nat}{L:Nat}{P:Nat->Bool}(H:Tk T L P){p:Nat}(hp:p<L):Tk (T.set (p/64) ((T[p/64]?).getD 0|||2^(p%64))) L (λq=>P q||decide (q=p)):=by
 have hlt:p/64<T.length:=by rw[H.len];omega
 have hw:(T[p/64]?).getD 0<2^64:=by
  rw[cW hlt]
  exact H.lt _ (cM hlt)
 refine⟨by rw[List.length_set,H.len],λn hn=>?_,λq hq=>?_⟩
 ·rcases List.mem_or_eq_of_mem_set hn with h|h
  ·exact H.lt n h
  ·rw[h];exact Nat.or_lt_two_pow hw (Nat.pow_lt_pow_right (by simp) (by omega))
 ·have hb:=H.bit q hq
  unfold CA at hb⊢
  grind
theorem F1{w:Nat}{T:List Nat}{L:Nat}{S S':List bk}{x:bk}(H:Tk T L (gx S))(hL:L<2^50)(hw:L+2<w)(ht:kP L S x=.ok S')(hS:S.length<100000000)(b:List UInt8)(hb:b.length=L)(o:Int)(sh:Value)(c:Nat)(no so:Int):
 S'=S++[x]/\∃T',Tk T' L (gx S')/\T'.length=T.length/\qH w x.nB x.dir x.tag (x.at_:Int) (x.cw:Int) (ag b) o sh T.length c no so (eB T) (S.flatMap bR)=some (.inl (ag b,o,sh,T.length,c,no,so,eB T',S'.flatMap bR)):=by
 unfold kP at ht
 split at ht
 case isFalse=>cases ht
 rename_i h1
 split at ht
 ·cases ht
 rename_i h2
 injection ht with ht
 subst ht
 refine⟨rfl,?_⟩
 obtain⟨he,hr⟩:=h1
 have hcl:∀q,x.at_<=q->q<x.at_+x.cw->gx S q=false:=by
  intro q q1 q2
  unfold gx
  rw[List.any_eq_false]
  intro s hs
  simp only[bZ]
  intro hq
  apply h2
  unfold CF
  rw[List.any_eq_true]
  exact⟨s,hs,by simp only[bZ];omega⟩
 have hfin:∀q,(gx (S++[x]) q)=(gx S q||decide (x.at_<=q/\q<x.at_+x.cw)):=by
  intro q
  unfold gx
  rw[List.any_append]
  simp
 have H0:Tk T L (λq=>gx S q||decide (x.at_<=q/\q<x.at_+0)):=by
  refine⟨H.len,H.lt,λq hq=>?_⟩
  rw[H.bit q hq]
  have:decide (x.at_<=q/\q<x.at_+0)=false:=by simp
  rw[this,Bool.or_false]
 unfold qH LF LI xv
 have hmod:(x.at_:Int).tmod 2=0:=by
  rw[Int.tmod_eq_emod_of_nonneg (by omega)]
  omega
 rw[hmod]
 simp only[show aj 0 0=true from rfl,aB,cJ]
 rw[Gc w ⟨by simp only[oz];omega,by simp only[oz];omega⟩ (by omega)]
 have hroom:(0<=(x.at_:Int)/\0<=(x.cw:Int)/\(x.at_:Int)<=Int.ofNat b.length/\(x.cw:Int)<=Int.ofNat b.length -(x.at_:Int)):=by
  simp only[oz];omega
 simp only[az,hroom,and_self,bd]
 have h232:eR w true 4=some (.inl ()):=rfl
 rw[h232]
 simp only[az,iD]
 generalize hG:lp _ _=G
 have hF:=ZG hG
 clear hG
 have key:∀(d k v:Nat)(T:List Nat),k+d=x.cw->d<v->Tk T L (λq=>gx S q||decide (x.at_<=q/\q<x.at_+k))->
  ∃T',Tk T' L (gx (S++[x]))/\T'.length=T.length/\G v ((x.at_+k:Nat):Int) (ag b) o sh T.length c no so x.nB x.dir x.tag (x.at_:Int) (x.cw:Int) (eB T) (S.flatMap bR)=some (.inl (ag b,o,sh,T.length,c,no,so,eB T',(S++[x]).flatMap bR)):=by
  intro d
  induction d with
  |zero=>
   intro k v T hk hv HT
   obtain⟨u,rfl⟩:∃u,v=u+1:=⟨v -1,by omega⟩
   refine⟨T,⟨HT.len,HT.lt,λq hq=>?_⟩,rfl,?_⟩
   ·rw[HT.bit q hq,hfin,show k=x.cw by omega]
   ·simp only[hF]
    rw[bT,aM (by omega) (by omega)]
    have e1:¬(((x.at_+k:Nat):Int)<(x.at_:Int)+(x.cw:Int)):=by omega
    have hr1:aG (S.length*5)=true:=by simp;omega
    simp only[aT,e1,bM,aC,vD,hr1,show aG 1=true from rfl,eS,oC,pA,bY,List.length_nil,eD]
    rw[show Nat.beq (0+1+1+1+1+1) 5=true from rfl,aB,fw]
    rfl
  |succ d ih=>
   intro k v T hk hv HT
   obtain⟨u,rfl⟩:∃u,v=u+1:=⟨v -1,by omega⟩
   have hpL:x.at_+k<L:=by omega
   have hlt:(x.at_+k)/64<T.length:=by rw[HT.len];omega
   have H2:=aer HT hpL
   have H3:Tk (T.set ((x.at_+k)/64) ((T[(x.at_+k)/64]?).getD 0|||2^((x.at_+k)%64))) L (λq=>gx S q||decide (x.at_<=q/\q<x.at_+(k+1))):=by
    refine⟨H2.len,H2.lt,λq hq=>?_⟩
    rw[H2.bit q hq,Bool.or_assoc]
    congr 1
    rw[im,rW,bZ,bZ,bZ]
    omega
   obtain⟨T',t1,t2,t3⟩:=ih (k+1) u _ (by omega) (by omega) H3
   refine⟨T',t1,by rw[t2,List.length_set],?_⟩
   simp only[hF]
   rw[bT,aM (n:=(x.at_:Int)+(x.cw:Int)) (by omega) (by omega)]
   have e1:(((x.at_+k:Nat):Int)<(x.at_:Int)+(x.cw:Int)):=by omega
   simp only[aT,e1,bd,aB]
   have hno:(gx S (x.at_+k)||decide (x.at_<=x.at_+k/\x.at_+k<x.at_+k))=false:=by
    rw[hcl _ (by omega) (by omega)]
    simp
   rw[afZ w HT hL (x.at_+k) hpL,hno]
   simp only[az]
   have h232:eR w (!false) 5=some (.inl ()):=rfl
   rw[h232]
   simp only[az,iD]
   rw[Ib _ (by omega)]
   simp only[bP,mn,hlt,bd,aB,gA,gI]
   rw[Wi hlt]
   simp only[bh,bQ]
   rw[Q7 _ (by omega)]
   have e2:¬((((x.at_+k)%64:Nat):Int)<0):=by omega
   simp only[e2,bM,aC]
   obtain⟨o1,o2⟩:=or_eq T[(x.at_+k)/64] ((x.at_+k)%64) (HT.lt _ (cM hlt)) (by omega)
   rw[o1]
   have e3:(x.at_+k)/64+1<=(eB T).length:=by unfold eB;rw[cH];omega
   simp only[show∀n:Int,(SV.i IntKind.u64 n).cells.length.beq 1=true fromλ_=>rfl,eD,gC,e3,bd,aB,D8,bT]
   rw[aM (by omega) (by omega),show((x.at_+k:Nat):Int)+1=((x.at_+(k+1):Nat):Int) by omega]
   have hset:(eB T).set ((x.at_+k)/64) (Value.int IntKind.u64 ((T[(x.at_+k)/64]|||2^((x.at_+k)%64):Nat):Int))=eB (T.set ((x.at_+k)/64) ((T[(x.at_+k)/64]?).getD 0|||2^((x.at_+k)%64))):=by
    unfold eB
    rw[cW hlt,qj,<-List.map_set]
   rw[hset]
   rw[List.length_set] at t3
   exact t3
 exact key x.cw 0 w T (by omega) (by omega) H0
end
section
set_option linter.unusedVariables false
set_option linter.unusedSimpArgs false
set_option linter.unusedSectionVars false
set_option linter.constructorNameAsVariable false
theorem F0{w:Nat}(hw:5<=w)(b:List UInt8)(hb:b.length<2^50){o:Int}(ho:o=1\/o=2)(p s:Nat)(hs:s=2\/s=4)(hp:p+s<=b.length):mJ w (ag b) o (p:Int) (s:Int)=some (cc b p s o:Int):=by
 have:=wM (s:=s) (by omega) ho (by omega)
 unfold mJ cc
 rw[A9 hw b (by omega) _ _ _ (by omega),this]
 simp
structure ql(w L:Nat)(b:List UInt8)(o:Int):Prop where
 len:b.length=L
 small:L<2^29
 wide:L+200000<w
 ord:o=1\/o=2
theorem pg{L:Nat}{S S':List bk}{x:bk}(h:kP L S x=.ok S'):S'=S++[x]/\x.at_%2=0/\x.at_+x.cw<=L:=by
 unfold kP at h
 grind
theorem afQ{w L:Nat}{b:List UInt8}{o:Int}(R:ql w L b o){T:List Nat}{S S':List bk}{x:bj}{t:aI}{dir:Nat}(H:Tk T L (gx S))(h:rI b o dir S x=.ok (t,S'))(hs:x.slot<4294967296)(hS:S'.length<100000000)(sh:Value)(c:Nat)(no so:Int):
 (∃u,S'=S++u)/\∃T' so',Tk T' L (gx S')/\T'.length=T.length/\
  F4 w x.tag x.ty x.aw (x.slot:Int) (dir:Int) (ag b) o sh T.length c no so (eB T) (S.flatMap bR)=some (.inl (t.tag,t.ty,t.aw,ag t.data,ag b,o,sh,T.length,c,no,so',eB T',S'.flatMap bR)):=by
 have hsm:=R.small
 have hlen:=R.len
 have hw:=R.wide
 have h232:eR w true 6=some (.inl ()):=rfl
 unfold rI at h
 split at h
 ·cases h
 rename_i h1
 have hk:=zI x.ty
 have e1:0<(kindOf x.ty).1 :=by omega
 have e2:¬(x.aw<1):=by omega
 have e3:¬(65536<x.aw):=by omega
 unfold F4 Ew
 rw[Vf]
 simp only[az,aT,e1,e2,e3,bd,bM,gp,aB]
 rw[h232]
 rw[Vg]
 simp only[az]
 split at h
 ·rename_i h0
  have e4:¬(0<((bF x.ty x.aw:Nat):Int)):=by omega
  simp only[e4,bM,aC]
  rw[af3 (by omega) _ _ _ _ _ R.ord]
  have hl:0<iW x.ty x.aw/\iW x.ty x.aw<=4:=by
   unfold bF at h0
   have hpos:0<iW x.ty x.aw:=by
    unfold iW
    rw[ai (by omega)]
    exact Int.mul_pos (by omega) e1
   split at h0<;>omega
  have hv:GP x.ty x.aw (x.slot:Int) o=(oZ x.ty x.aw (aW x.slot 4 o) o).map λd=>(d,((aW x.slot 4 o).drop d.length).all (·==0)):=by
   unfold GP
   rw[au ⟨by omega,by omega,hl.1,hl.2⟩,mM]
  rw[hv]
  split at h
  case h_2=>cases h
  rename_i d hd
  injection h with h
  cases h
  rw[hd]
  simp only[qU,az]
  rw[h232]
  refine⟨⟨[],(dX _).symm⟩,?_⟩
  cases((aW x.slot 4 o).drop d.length).all (·==0)<;>exact⟨T,_,H,rfl,rfl⟩
 ·rename_i h0
  have e4:(0<((bF x.ty x.aw:Nat):Int)):=by omega
  simp only[e4,bd,aB]
  split at h
  ·cases h
  rename_i S2 ht
  split at h
  case h_2=>cases h
  rename_i d hd
  injection h with h
  cases h
  obtain⟨a1,a2,a3⟩:=pg ht
  obtain⟨_,T',t1,t2,t3⟩:=F1 (w:=w) H (by omega) (by omega) (by rw[<-hlen];exact ht) (by rw[a1,aR] at hS;omega) b hlen o sh c no so
  refine⟨⟨_,a1⟩,T',so,t1,t2,?_⟩
  dsimp only at t3 a3
  rw[t3]
  simp only[az,iD,cJ,bP,gC,aK,bd,eD]
  have e5:x.slot<=b.length:=by omega
  simp[e5]
  rw[mu _ (aK _),eE (by rw[eu];omega),Vh _ _ _ (by rw[eu];omega) (by rw[eu];omega) _ R.ord,hd]
  simp
  rw[h232]
  simp
theorem afs{w L:Nat}{b:List UInt8}{o:Int}(R:ql w L b o)(hL:8<=L)(ho:ll b=o)(h42:cc b 2 2 o=42){T:List Nat}(H:Tk T L (gx []))(sh:Value)(c:Nat)(no so:Int):
 ∃T',Tk T' L (gx [⟨1,-1,0,0,8⟩])/\T'.length=T.length/\
  FK w (ag b) 0 sh T.length c no so (eB T) []=some (.inl ((cc b 4 4 o:Int),ag b,o,sh,T.length,c,no,so,eB T',[⟨1,-1,0,0,8⟩].flatMap bR)):=by
 have hsm:=R.small
 have hlen:=R.len
 have hw:=R.wide
 have ht:kP L [] ⟨1,-1,0,0,8⟩=.ok [⟨1,-1,0,0,8⟩]:=by
  unfold kP
  rw[au ⟨rfl,by show 0+8<=L;omega⟩]
  rfl
 obtain⟨_,T',t1,t2,t3⟩:=F1 (w:=w) H (by omega) (by omega) ht (by decide) b hlen o sh c no so
 refine⟨T',t1,t2,?_⟩
 have h288:=F0 (w:=w) (by omega) b (by omega) R.ord 2 2 (.inl rfl) (by omega)
 have h4:=F0 (w:=w) (by omega) b (by omega) R.ord 4 4 (.inr rfl) (by omega)
 have e1:¬(Int.ofNat b.length<8):=by simp;omega
 have e2:2<=b.length:=by omega
 have h232:∀n,eR w true n=some (.inl ()):=λ_=>rfl
 unfold FK AQ
 simp only[cJ,aT,e1,bM,gp,h232,az,iD,gC,e2,bd,eD,aB]
 rw[show decide (0<=2)=true from rfl,mu _ e2,gV,gR,BY]
 simp only[az]
 rw[Du,eS]
 have hor:(b.take 2=[73,73]/\o=1)\/(b.take 2=[77,77]/\o=2):=by
  unfold ll at ho
  split at ho
  ·rename_i q;exact .inl ⟨q,ho.symm⟩
  ·split at ho
   ·rename_i q;exact .inr ⟨q,ho.symm⟩
   ·have:=R.ord;omega
 have h42b:aj ((cc b 2 2 o:Nat):Int) 42=true:=by rw[h42];rfl
 rcases hor with⟨q,rfl⟩|⟨q,rfl⟩
 ·rw[q,show mm [73,73] (ByteArray.mk #[73,73]).data.toList=true from rfl]
  rw[show(2:Int)=((2:Nat):Int) from rfl,h288]
  simp only[az]
  rw[h42b,h232]
  simp
  refine Eq.trans (bV (λz=>ob z _) t3) ?_
  simp
  rw[show(4:Int)=((4:Nat):Int) from rfl,h4]
  rfl
 ·rw[q,show mm [77,77] (ByteArray.mk #[73,73]).data.toList=false from rfl,show mm [77,77] (ByteArray.mk #[77,77]).data.toList=true from rfl,aB]
  rw[(show mJ w (ag b) 2 2 2=some (cc b 2 2 2:Int) from h288)]
  simp only[az]
  rw[h42b,h232]
  simp
  refine Eq.trans (bV (λz=>ob z _) t3) ?_
  simp
  rw[(show mJ w (ag b) 2 4 4=some (cc b 4 4 2:Int) from h4)]
  rfl
end
section
set_option linter.unusedVariables false
set_option linter.unusedSimpArgs false
set_option linter.unusedSectionVars false
set_option linter.constructorNameAsVariable false
theorem Iq(b:List UInt8)(o:Int):∀(n p:Nat),(jO b o p n).length=n
 |0,_=>rfl
 |n+1,p=>by show(jO b o (p+12) n).length+1=n+1;rw[Iq]
theorem Po(b:List UInt8)(o:Int):∀(n p i:Nat)(h:i<(jO b o p n).length),(jO b o p n)[i]=zg b (p+12*i) o
 |0,_,i,h=>absurd h (Nat.not_lt_zero _)
 |n+1,p,0,h=>rfl
 |n+1,p,i+1,h=>by
  show(jO b o (p+12) n)[i]'(by simpa[jO] using h)=_
  rw[Po b o n (p+12) i]
  grind
theorem TQ:∀{l:List bj},eL l=true->∀{i:Nat}(h:i+1<l.length),l[i].tag<l[i+1].tag
 |[],_,i,h=>by grind
 |[_],_,i,h=>by grind
 |a::b::l,hr,i,h=>by
  simp[eL] at hr
  cases i with
  |zero=>grind
  |succ i=>exact TQ hr.2 (by grind)
theorem CV(l:List bj){c:List Value}(h:c=l.flatMap bK):ae (c.length/4) c=aA bK l:=by
 rw[h,dH kK,jG _ (by simp)]
 rfl
theorem XO{l:List bj}{i:Nat}(h:i<l.length):(l.take (i+1)).flatMap bK=(l.take i).flatMap bK++bK l[i]:=by
 rw[iN h,fw]
 simp
theorem Rv(b:List UInt8)(p s:Nat)(o:Int):cc b p s o<256^s:=by
 unfold cc oP
 split
 ·rw[qj]
  have hl:(gN b p s o).length<=s:=by
   unfold gN;split<;>simp<;>omega
  exact oD (JB (gN b p s o)) (Nat.pow_le_pow_right (by simp) hl)
 grind
theorem Rw(b:List UInt8)(p:Nat){o:Int}(h:o=1\/o=2):cc b p 2 o<65536:=Rv b p 2 o
theorem Dz(b:List UInt8)(p:Nat)(o:Int):cc b p 4 o<4294967296:=Rv b p 4 o
theorem afO{w L:Nat}{b:List UInt8}{o:Int}(R:ql w L b o){T:List Nat}{S S':List bk}{at_ dir:Nat}(H:Tk T L (gx S))(h0:at_%2=0)(h1:at_+2<=L)(hn:cc b at_ 2 o≠0)(ht:kP L S ⟨2,dir,0,at_,6+12*cc b at_ 2 o⟩=.ok S')
 (hr:eL (jO b o (at_+2) (cc b at_ 2 o))=true) (hS:S.length<100000000) (hd:dir<2^40) (sh:Value) (c:Nat) (no so:Int):
 ∃T',Tk T' L (gx S')/\T'.length=T.length/\
  F2 w (at_:Int) (dir:Int) (ag b) o sh T.length c no so (eB T) (S.flatMap bR)=some (.inl (aA bK (jO b o (at_+2) (cc b at_ 2 o)),ag b,o,sh,T.length,c,no,so,eB T',S'.flatMap bR)):=by
 have hsm:=R.small
 have hlen:=R.len
 have hw:=R.wide
 obtain⟨a1,a2,a3⟩:=pg ht
 obtain⟨n,hnn⟩:∃n,cc b at_ 2 o=n:=⟨_,rfl⟩
 have hn2:n<65536:=by rw[<-hnn];exact Rw b at_ R.ord
 obtain⟨_,T',t1,t2,t3⟩:=F1 (w:=w) H (by omega) (by omega) ht hS b hlen o sh c no so
 refine⟨T',t1,t2,?_⟩
 have h288:=F0 (w:=w) (by omega) b (by omega) R.ord at_ 2 (.inl rfl) (by omega)
 have h232:∀k,eR w true k=some (.inl ()):=λ_=>rfl
 have hmod:(at_:Int).tmod 2=0:=by
  rw[Int.tmod_eq_emod_of_nonneg (by omega)]
  omega
 rw[hnn] at hn t3 h288 hr a3⊢
 dsimp only at t3 a3
 unfold F2 Lv AJ
 rw[hmod,show aj 0 0=true from rfl,aB,cJ,Gc w ⟨by simp only[oz];omega,by simp only[oz];omega⟩ (by omega)]
 have hroom:(0<=(at_:Int)/\(0:Int)<=2/\(at_:Int)<=Int.ofNat b.length/\(2:Int)<=Int.ofNat b.length -(at_:Int)):=by
  simp only[oz];omega
 rw[ff hroom]
 simp only[az]
 rw[h232]
 simp only[az,iD]
 have h288':mJ w (ag b) o (at_:Int) 2=some (n:Int):=h288
 rw[h288']
 simp only[az]
 rw[show ak 0 (n:Int)=true by rw[aT,bZ];omega,h232]
 simp only[az,iD]
 rw[nU,aM (n:=(12:Int)*(n:Int)) (by omega) (by omega),bT,aM (n:=(6:Int)+12*(n:Int)) (by omega) (by omega),show(6:Int)+12*(n:Int)=((6+12*n:Nat):Int) by omega,t3]
 simp only[az,iD]
 obtain⟨E,hE⟩:∃E,E=jO b o (at_+2) n:=⟨_,rfl⟩
 rw[<-hE] at hr⊢
 have hat:at_+6+12*n<=L:=by omega
 have h232:eR w true 2=some (.inl ()):=rfl
 generalize eB T'=U
 generalize S'.flatMap bR=V
 generalize T.length=tl
 have hEl:E.length=n:=by rw[hE,Iq]
 refine ia (ev:=λi (g:Int->Int->Int->Value->Int->Value->Nat->Nat->Int->Int->List Value->List Value->List Value->Option (Value×Value×Int×Value×Nat×Nat×Int×Int×List Value×List Value⊕Int×Value×Int×Value×Nat×Nat×Int×Int×List Value×List Value))=>g at_ n i (ag b) o sh tl c no so U V ((E.take i).flatMap bK)) n ?_ ?_ (by omega)
 ·intro i g hi
  have e1:((i:Int)<(n:Int)):=by omega
  simp only[aT,e1,bd,aB,bT,nU]
  have hat2:at_<2^30:=by omega
  rw[aM (n:=(at_:Int)+2) (by omega) (by omega),aM (n:=(12:Int)*(i:Int)) (by omega) (by omega),aM (n:=(at_:Int)+2+12*(i:Int)) (by omega) (by omega),show(at_:Int)+2+12*(i:Int)=((at_+2+12*i:Nat):Int) by omega,af0 (by omega) b (by omega) _ o R.ord,au (by omega)]
  simp only[az]
  have hgi:E[i]'(by omega)=zg b (at_+2+12*i) o:=by
   subst hE
   exact Po b o n (at_+2) i _
  have hiE:i<E.length:=by omega
  have hci:bK E[i]=[.int .i64 (cc b (at_+2+12*i) 2 o:Int),.int .i64 (cc b (at_+2+12*i+2) 2 o:Int),.int .i64 (cc b (at_+2+12*i+4) 4 o:Int),.int .i64 (cc b (at_+2+12*i+8) 4 o:Int)]:=by
   rw[hgi];rfl
  have hcl:((E.take i).flatMap bK).length=i*4:=by
   rw[dH kK,dI,kc (by omega)]
  have hr1:aG (i*4)=true:=by simp;omega
  have hfin:∀(A:Option (Value×Value×Int×Value×Nat×Nat×Int×Int×List Value×List Value⊕Int×Value×Int×Value×Nat×Nat×Int×Int×List Value×List Value)),(bif aG ((E.take i).flatMap bK).length&&(aG 1&&(List.take 4 (List.drop 0 [Value.int IntKind.i64 (cc b (at_+2+12*i) 2 o:Int),Value.int IntKind.i64 (cc b (at_+2+12*i+2) 2 o:Int),Value.int IntKind.i64 (cc b (at_+2+12*i+4) 4 o:Int),Value.int IntKind.i64 (cc b (at_+2+12*i+8) 4 o:Int)])).length.beq 4) then g at_ n (ah IntKind.i64 ((i:Int)+1)) (ag b) o sh tl c no so U V ((E.take i).flatMap bK++List.take 4 (List.drop 0 [Value.int IntKind.i64 (cc b (at_+2+12*i) 2 o:Int),Value.int IntKind.i64 (cc b (at_+2+12*i+2) 2 o:Int),Value.int IntKind.i64 (cc b (at_+2+12*i+4) 4 o:Int),Value.int IntKind.i64 (cc b (at_+2+12*i+8) 4 o:Int)])) else A)=g at_ n ((i+1:Nat):Int) (ag b) o sh tl c no so U V ((E.take (i+1)).flatMap bK):=by
   intro A
   rw[hcl,hr1,show aG 1=true from rfl,XO hiE,hci,aM (by omega) (by omega)]
   rfl
  rcases i with _|i
  ·have e0:aj ((0:Nat):Int) 0=true:=rfl
   rw[e0,aB]
   exact hfin none
  ·have e0:aj ((i+1:Nat):Int) 0=false:=by rw[cu,gJ];omega
   rw[e0,aC,jg,aM (by omega) (by omega),show((i+1:Nat):Int) -1=(i:Int) by omega,bP,hcl]
   have e2:i*4<(i+1)*4:=by omega
   have hpi:i<E.length:=by omega
   have htk:List.drop (0+i*4+0) ((E.take (i+1)).flatMap bK)=bK E[i]:=by
    rw[show 0+i*4+0=i*4 by omega,oO kK,List.drop_take,show i+1 -i=1 by omega,dk hpi,oC,pA]
    simp
   have hlt:=TQ hr (i:=i) (by omega)
   have hg1:(E[i+1]'(by omega)).tag=(cc b (at_+2+12*(i+1)) 2 o:Int):=by rw[hgi];rfl
   rw[hg1] at hlt
   simp only[mn,e2,bd,jZ,show Nat.beq 4 4=true from rfl,aB]
   rw[htk]
   unfold bK
   simp only[bh,bQ,hlt,bd]
   rw[h232]
   simp only[az,iD]
   rw[hcl] at hfin
   exact hfin none
 ·intro g
  have e1:¬((n:Int)<(n:Int)):=by omega
  simp only[aT,e1,bM,aC]
  rw[eE (by omega),CV E rfl]
theorem afI{w:Nat}(l:List iv)(n a b c:Int)(hl:l.length<2^40)(hw:l.length<w):MQ w (gE l) n a b c=some (db (λx=>x.tag==n) l):=by
 refine mB l (λx=>x.tag==n) (ev:=λi (g:Value->List Value->Int->Int->Option Int)=>g (aA lP l) [.int .i64 n,.int .i64 a,.int .i64 b,.int .i64 c] l.length i) ?_ ?_ hw
 ·intro i g h
  simp_all
  rw[bu sR h]
  unfold lP M9
  simp only[fo,bh,bQ,az,cu]
  rw[aM (by omega) (by omega)]
  by_cases e2:l[i].tag=n<;>grind
 ·intro g
  simp
theorem afJ{w:Nat}(l:List iv)(n a b c:Int)(hl:l.length<2^40)(hw:l.length<w):MR w (gE l) n a b c=some (db (λx=>x.tag==n) l):=by
 refine mB l (λx=>x.tag==n) (ev:=λi (g:Value->List Value->Int->Int->Option Int)=>g (aA lP l) [.int .i64 n,.int .i64 a,.int .i64 b,.int .i64 c] l.length i) ?_ ?_ hw
 ·intro i g h
  simp_all
  rw[bu sR h]
  unfold lP MV
  simp only[fo,bh,bQ,az,cu]
  rw[aM (by omega) (by omega)]
  by_cases e2:l[i].tag=n<;>grind
 ·intro g
  simp
theorem af1{w:Nat}(l:List iv)(n a b c:Int)(hl:l.length<2^40)(hw:l.length<w):Gf w (gE l) n a b c=some (l.any λx=>x.tag==n):=by
 unfold Gf
 rw[afI l n a b c hl hw]
 simp
 have:=wR (λx:iv=>x.tag==n) l
 grind
theorem IG{α:Type}(p:α->Bool){l:List α}{i:Nat}(h:i<l.length):(l.take (i+1)).filter p=(l.take i).filter p++(if p l[i]=true then[l[i]] else[]):=by
 rw[iN h]
 grind
theorem XU{α:Type}(p:α->Bool)(l:List α)(i:Nat):((l.take i).filter p).length<=l.length:=by grind
theorem afP{w:Nat}(E:List bj)(S:aX)(hS:ua S)(hl:S.bJ.length<2^40)(hw:S.bJ.length<w)(hE:E.length<100000000)(hEw:E.length<w):
 F3 w (aA bK E) (gE S.bJ) S.at_ S.cw S.next=some (aA bK (E.filter λx=>fj S x.tag),aA bK (E.filter λx=>ft S x.tag),aA bK (E.filter λx=>!eC S x.tag)):=by
 unfold F3 xz vc
 rw[cd]
 refine ia (ev:=λi (g:Value->Int->Int->Value->Int->Int->Int->List Value->List Value->List Value->Option (Value×Value×Value))=>g (aA bK E) E.length i (gE S.bJ) S.at_ S.cw S.next (((E.take i).filter λx=>fj S x.tag).flatMap bK) (((E.take i).filter λx=>ft S x.tag).flatMap bK) (((E.take i).filter λx=>!eC S x.tag).flatMap bK)) E.length ?_ ?_ hEw
 ·intro i g hi
  have e1:((i:Int)<(E.length:Int)):=by omega
  simp only[aT,e1,bd,aB,bP]
  rw[bu kK hi]
  unfold bK
  simp only[fo,bh,bQ]
  rw[af1 S.bJ _ _ _ _ hl hw]
  simp only[az]
  have hlk:(S.bJ.any λx=>x.tag==E[i].tag)=fj S E[i].tag:=rfl
  rw[hlk,IG _ hi,IG _ hi,IG _ hi]
  have hr1:∀p:bj->Bool,aG (List.flatMap bK ((E.take i).filter p)).length=true:=by
   intro p
   have:=XU p E i
   rw[dH kK]
   simp;omega
  have hr1':∀p:bj->Bool,aG (List.flatMap (λx:bj=>[Value.int .i64 x.tag,Value.int .i64 x.ty,Value.int .i64 x.aw,Value.int .i64 (x.slot:Int)]) ((E.take i).filter p)).length=true:=hr1
  simp only[hr1',show aG 1=true from rfl,eD,eS,oC,pA,bY,List.length_nil,aB,bT]
  rw[aM (by omega) (by omega)]
  have hp:=hS.pair
  cases hk:fj S E[i].tag with
  |true=>
   have hnp:ft S E[i].tag=false:=by
    unfold fj at hk
    rw[List.any_eq_true] at hk
    obtain⟨x,hx,he⟩:=hk
    rw[<-eq_of_beq he]
    exact(hS.bJ x hx).2.2
   have hno:eC S E[i].tag=true:=by unfold eC;rw[hk];rfl
   simp[hnp,hno]
  |false=>
   have hno:eC S E[i].tag=ft S E[i].tag:=by unfold eC;rw[hk];rfl
   rw[hno]
   by_cases h1:(0:Int)<S.at_
   ·have hb:ft S E[i].tag=(decide (E[i].tag=S.at_)||decide (E[i].tag=S.cw)):=by
     unfold ft
     rw[ff (by omega:S.at_≠0)]
     rfl
    rw[hb]
    simp only[cu]
    by_cases h2:E[i].tag=S.at_
    ·simp[h1,h2]
    ·by_cases h3:E[i].tag=S.cw
     ·simp[h1,h2,h3]
     ·simp[h1,h2,h3]
   ·have hb:ft S E[i].tag=false:=by
     unfold ft
     have:¬(S.at_≠0):=λq=>by have:=hp q;omega
     rw[fe this]
     rfl
    rw[hb]
    simp[h1]
 ·intro g
  have e1:¬((E.length:Int)<(E.length:Int)):=by omega
  simp only[aT,e1,bM,aC,qT]
  rw[CV _ rfl,CV _ rfl,CV _ rfl]
end
section
set_option linter.unusedVariables false
set_option linter.unusedSimpArgs false
set_option linter.unusedSectionVars false
set_option linter.constructorNameAsVariable false
def vZ(sh:List aX)(b:List UInt8)(o:Int)(L:Nat)(f:Nat)(rec:qY):Prop:=
 ∀(at_ s no:Nat)(Sp:List bk)(d:aS)(next no':Nat)(S':List bk)(T:List Nat)(so:Int)(c:Nat),
  ko b o sh f at_ s no Sp=.ok (d,next,no',S')->s<sh.length->at_<4294967296->S'.length<100000000->no'<2^40->Tk T L (gx Sp)->
  ∃T' so',Tk T' L (gx S')/\T'.length=T.length/\
   rec at_ s (ag b) o (cf sh) T.length c no so (eB T) (Sp.flatMap bR)=some (.inl (dT d,dS d,dB d,(next:Int),ag b,o,cf sh,T.length,c,(no':Int),so',eB T',S'.flatMap bR))
theorem adD{b:List UInt8}{o:Int}{no:Nat}{S S':List bk}{x:bj}{t:aI}(h:rI b o no S x=.ok (t,S')):∃u,S'=S++u:=by
 unfold rI at h
 split at h
 ·grind
 split at h
 ·split at h
  ·simp_all
  grind
 ·split at h
  ·grind
  rename_i S2 ht
  split at h
  ·cases h;exact⟨_,(pg ht).1⟩
  grind
theorem xh{own:Int->Bool}{b:List UInt8}{o:Int}{no:Nat}:∀{E:List bj}{S S':List bk}{ts:List aI},jU own b o no E S=.ok (ts,S')->∃u,S'=S++u
 |[],S,S',ts,h=>by rw[jU] at h;cases h;exact⟨[],(dX _).symm⟩
 |x::E,S,S',ts,h=>by
  rw[jU] at h
  split at h
  ·split at h
   ·exact xh h
   grind
  split at h
  ·grind
  rename_i hv
  split at h
  ·grind
  rename_i ht
  injection h with h
  cases h
  obtain⟨u,rfl⟩:=adD hv
  obtain⟨v,rfl⟩:=xh ht
  simp
theorem Az{rd:Nat->Nat->Nat->List bk->Except Int (aS×Nat×Nat×List bk)}(hrd:∀a s no S d n no' S',rd a s no S=.ok (d,n,no',S')->no<=no'/\∃u,S'=S++u){Sh:aX}:∀{K:List bj}{no no':Nat}{S S':List bk}{r:cA},lX rd Sh K no S=.ok (r,no',S')->no<=no'/\∃u,S'=S++u
 |[],no,no',S,S',r,h=>by rw[lX] at h;cases h;exact⟨aK _,[],(dX _).symm⟩
 |x::K,no,no',S,S',r,h=>by
  rw[lX] at h
  split at h
  ·grind
  split at h
  ·grind
  split at h
  ·grind
  rename_i hr
  injection h with h
  cases h
  obtain⟨a2,v,rfl⟩:=Az hrd hr
  grind
theorem Ay{b:List UInt8}{o:Int}{sh:List aX}:∀(f a s no:Nat)(S:List bk)(d:aS)(n no':Nat)(S':List bk),ko b o sh f a s no S=.ok (d,n,no',S')->no<=no'/\∃u,S'=S++u
 |0,a,s,no,S,d,n,no',S',h=>by rw[ko] at h;cases h
 |f+1,a,s,no,S,d,n,no',S',h=>by
  rw[ko] at h
  split at h
  case isFalse=>cases h
  split at h
  ·cases h
  split at h
  ·cases h
  rename_i S1 h1
  split at h
  case isFalse=>cases h
  split at h
  ·cases h
  rename_i h2
  split at h
  ·cases h
  split at h
  ·cases h
  rename_i S3 h3
  obtain⟨u1,e1⟩:∃u,S1=S++u:=⟨_,(pg h1).1⟩
  obtain⟨u2,e2⟩:=xh h2
  obtain⟨k,u3,e3⟩:=Az (Ay f) h3
  split at h
  ·split at h
   ·cases h
   split at h
   ·cases h
   rename_i h4
   injection h with h
   cases h
   obtain⟨u4,e4⟩:∃u,S'=S3++u:=⟨_,(pg h4).1⟩
   refine⟨by omega,u1++u2++u3++u4,?_⟩
   rw[e4,e3,e2,e1]
   simp
  ·injection h with h
   cases h
   refine⟨by omega,u1++u2++u3,?_⟩
   rw[e3,e2,e1]
   simp
theorem agX(l:List (Int×aS))(r:cA)(h:l=aP r):ae ((l.flatMap gm).length/4) (l.flatMap gm)=ae (bX r) (gG r):=by
 rw[h,dH tL,jG _ (by simp),tN,NH]
theorem ZC{w L:Nat}{b:List UInt8}{o:Int}(R:ql w L b o){sh:List aX}(hsh:iQ sh){s:Nat}(hs:s<sh.length)(hlk:(aN sh s).bJ.length<100000){f:Nat}{rec:qY}(hrec:vZ sh b o L f rec){at_ dir no no':Nat}{E P K:List bj}{S S3 S4:List bk}{subs:cA}{blob:List UInt8}{T:List Nat}
 (hK:∀x∈K,fj (aN sh s) x.tag=true/\x.slot<4294967296) (hKl:K.length<70000) (hat:at_+6+12*E.length<=L)
 (h3:lX (ko b o sh f) (aN sh s) K no S=.ok (subs,no',S3))
 (hfin:(∃p q,P=[p,q]/\q.slot≠0/\p.slot<4294967296/\q.slot<4294967296/\kP L S3 ⟨4,dir,0,p.slot,q.slot⟩=.ok S4/\blob=(b.drop p.slot).take q.slot)\/(P.length≠2/\S4=S3/\blob=[]))
 (hS:S4.length<100000000) (hno:no'<2^40) (H:Tk T L (gx S)) (so:Int) (c:Nat) (tc:List Value):
 ∃T' so',Tk T' L (gx S4)/\T'.length=T.length/\
  QZ w rec at_ dir (aA bK E) (aA bK P) (aA bK K) K.length 0 (ag b) o (cf sh) T.length c no so (ae 0 []) (gE (aN sh s).bJ) (aN sh s).at_ (aN sh s).cw (aN sh s).next (eB T) (S.flatMap bR) tc []=
   some (.inl (ae (tc.length/4) tc,ae (bX subs) (gG subs),ag blob,(cc b (at_+2+12*E.length) 4 o:Int),ag b,o,cf sh,T.length,c,(no':Int),so',eB T',S4.flatMap bR)):=by
 have hsm:=R.small
 have hlen:=R.len
 have hw:=R.wide
 have h232:∀n,eR w true n=some (.inl ()):=λ_=>rfl
 have hS34:S3.length<=S4.length:=by
  rcases hfin with⟨p,q,_,_,_,_,ht,_⟩|⟨_,e,_⟩
  ·rw[(pg ht).1,aR];omega
  ·rw[e];exact aK _
 obtain⟨tl,htl⟩:∃tl,T.length=tl:=⟨_,rfl⟩
 rw[htl]
 have key:∀(k i v no:Nat)(S:List bk)(T:List Nat)(so:Int)(r:cA)(D:List (Int×aS)),i+k=K.length->k<v->D.length=i->lX (ko b o sh f) (aN sh s) (K.drop i) no S=.ok (r,no',S3)->D++aP r=aP subs->Tk T L (gx S)->T.length=tl->
  ∃T' so',Tk T' L (gx S4)/\T'.length=tl/\
   lp zQ (uP w rec) v at_ dir (aA bK E) (aA bK P) (aA bK K) K.length i (ag b) o (cf sh) tl c no so (ae 0 []) (gE (aN sh s).bJ) (aN sh s).at_ (aN sh s).cw (aN sh s).next (eB T) (S.flatMap bR) tc (D.flatMap gm)=
    some (.inl (ae (tc.length/4) tc,ae (bX subs) (gG subs),ag blob,(cc b (at_+2+12*E.length) 4 o:Int),ag b,o,cf sh,tl,c,(no':Int),so',eB T',S4.flatMap bR)):=by
  intro k
  induction k with
  |zero=>
   intro i v no S T so r D hi hv hD hr hDr HT hTl
   rw[show K.drop i=[] from vQ (by omega),lX] at hr
   injection hr with hr
   cases hr
   rw[show aP cA.nil=[] from rfl,dX] at hDr
   have e1:¬((i:Int)<(K.length:Int)):=by omega
   have hD2:=agX D subs hDr
   rw[dQ zQ (uP w rec) (by omega)]
   unfold uP
   simp only[aT,e1,bM,aC]
   rw[cd]
   have hnx:=F0 (w:=w) (by omega) b (by omega) R.ord (at_+2+12*E.length) 4 (.inr rfl) (by omega)
   have haw:ah IntKind.i64 ((ah IntKind.i64 ((at_:Int).add 2)).add (ah IntKind.i64 (Int.mul 12 (Int.ofNat E.length))))=((at_+2+12*E.length:Nat):Int):=by
    rw[bT,bT,nU,cm,aM (n:=(at_:Int)+2) (by omega) (by omega),aM (n:=(12:Int)*(E.length:Int)) (by omega) (by omega),aM (by omega) (by omega)]
    omega
   rcases hfin with⟨p,q,rfl,hq,hp4,hq4,ht,rfl⟩|⟨hP,rfl,rfl⟩
   ·rw[show aj (Int.ofNat [p,q].length) 2=true from rfl,aB]
    have x0:∀(K:List Value->si),aO 4 0 (aA bK [p,q]) K=K (bK p++([q].flatMap bK)):=λK=>bu kK (by show 0<2;omega) K
    have x1:∀(K:List Value->si),aO 4 1 (aA bK [p,q]) K=K (bK q++([].flatMap bK)):=λK=>bu kK (by show 1<2;omega) K
    have d0:∀(y:bj)(r:List Value),List.drop 3 (bK y++r)=Value.int .i64 (y.slot:Int)::r:=λ_ _=>rfl
    rw[x0,d0]
    simp only[bh,bQ]
    rw[x1,d0]
    simp only[bh,bQ]
    rw[ff (show(0:Int)<(q.slot:Int) by omega),h232]
    simp only[az,iD]
    obtain⟨a1,a2,a3⟩:=pg ht
    obtain⟨_,T',t1,t2,t3⟩:=F1 (w:=w) HT (by omega) (by omega) ht (by rw[a1,aR] at hS;omega) b hlen o (cf sh) c (no':Int) so
    dsimp only at t3 a3
    refine⟨T',so,t1,by rw[t2,hTl],?_⟩
    rw[hTl] at t3
    rw[t3]
    simp only[az,iD,cJ]
    rw[bT,aM (n:=(p.slot:Int)+(q.slot:Int)) (by omega) (by omega),show(p.slot:Int)+(q.slot:Int)=((p.slot+q.slot:Nat):Int) by omega,bP,bP]
    have e3:p.slot+q.slot<=b.length:=by omega
    have e4:p.slot<=p.slot+q.slot:=by omega
    simp only[gC,e3,e4,bd,jF,aB]
    rw[mu _ e3,show p.slot+q.slot -p.slot=q.slot by omega,q9 w _ (by rw[dI,eu];omega)]
    simp only[az]
    rw[cd,haw]
    have hnx':mJ w (ag b) o ((at_+2+12*E.length:Nat):Int) 4=some (cc b (at_+2+12*E.length) 4 o:Int):=hnx
    rw[hnx']
    simp only[az]
    rw[hD2]
   ·have e2:aj (Int.ofNat P.length) 2=false:=by rw[cu,gJ,cm];omega
    rw[e2,aC,cd,haw]
    have hnx':mJ w (ag b) o ((at_+2+12*E.length:Nat):Int) 4=some (cc b (at_+2+12*E.length) 4 o:Int):=hnx
    rw[hnx']
    simp only[az]
    rw[hD2]
    exact⟨T,so,HT,hTl,rfl⟩
  |succ k ih=>
   intro i v no S T so r D hi hv hD hr hDr HT hTl
   have hiK:i<K.length:=by omega
   have hmem:=cM hiK
   obtain⟨k1,k2⟩:=hK _ hmem
   rw[dk hiK,lX] at hr
   split at hr
   ·cases hr
   rename_i d next no1 S1 hd
   split at hr
   ·cases hr
   rename_i hnx
   split at hr
   ·cases hr
   rename_i r2 no2 S2 hr2
   injection hr with hr
   cases hr
   have hnx:next=0:=qb.1 hnx
   subst hnx
   obtain⟨m1,u,m2⟩:=Az (Ay f) hr2
   have e1:((i:Int)<(K.length:Int)):=by omega
   rw[dQ zQ (uP w rec) (by omega)]
   rcases Jo (aN sh s) K[i].tag with⟨_,q⟩|⟨j,hj,q1,_,q3⟩
   ·rw[k1] at q;cases q
   have hsx:=hsh.bJ s hs _ (cM hj)
   rw[q3] at hd
   have hsn:(((aN sh s).bJ[j].shape.toNat:Nat):Int)=(aN sh s).bJ[j].shape:=mf (by omega)
   obtain⟨T1,so1,t1,t2,t3⟩:=hrec K[i].slot _ no S d 0 no1 S1 T so c hd (by omega) k2 (by have:=bV List.length m2;rw[aR] at this;omega) (by omega) HT
   rw[hTl] at t2 t3
   obtain⟨T',so',v1,v2,v3⟩:=ih (i+1) (v -1) no1 S1 T1 so1 r2 (D++[(K[i].tag,d)]) (by omega) (by omega) (by rw[aR,hD];rfl) hr2 (by rw[<-hDr];simp[aP]) t1 t2
   refine⟨T',so',v1,v2,?_⟩
   rw[<-v3]
   generalize hg:lp zQ (uP w rec) (v -1)=g
   unfold uP
   simp only[aT,e1,bd,aB,bP]
   rw[bu kK hiK]
   have tg:∀(y:bj)(r:List Value),bK y++r=Value.int .i64 y.tag::.int .i64 y.ty::.int .i64 y.aw::.int .i64 (y.slot:Int)::r:=λ_ _=>rfl
   rw[tg]
   simp only[bh,bQ]
   rw[afJ _ _ _ _ _ (by omega) (by omega),q1]
   simp only[az,bP]
   rw[show gE (aN sh s).bJ=aA lP (aN sh s).bJ from rfl,bu sR hj]
   have dl:∀(y:iv)(r:List Value),List.drop 1 (lP y++r)=Value.int .i64 y.shape::r:=λ_ _=>rfl
   rw[dl]
   simp only[bh,bQ]
   rw[<-hsn,t3]
   simp only[az,iD]
   rw[show aj ((0:Nat):Int) 0=true from rfl,h232]
   simp only[az,iD]
   have hr1:aG (D.flatMap gm).length=true:=by
    rw[dH tL];simp;omega
   rw[hr1,bT,aM (by omega) (by omega),show(i:Int)+1=((i+1:Nat):Int) by omega,fw]
   have hsc:[(K[i].tag,d)].flatMap gm=[Value.int .i64 K[i].tag,dT d,dS d,dB d]:=by
    show gm (K[i].tag,d)++[]=_
    unfold gm
    rw[pJ]
    rfl
   rw[hsc]
   rfl
 exact key K.length 0 w no S T so subs [] (by omega) (by omega) rfl (by rw[eS];exact h3) rfl H htl
end
section
set_option linter.unusedVariables false
set_option linter.unusedSimpArgs false
set_option linter.unusedSectionVars false
set_option linter.constructorNameAsVariable false
theorem ag1{w L:Nat}{b:List UInt8}{o:Int}(R:ql w L b o){sh:List aX}(hsh:iQ sh){s:Nat}(hs:s<sh.length)(hlk:(aN sh s).bJ.length<100000){f:Nat}{rec:qY}(hrec:vZ sh b o L f rec){at_ dir no no':Nat}{E:List bj}{S S2 S3 S4:List bk}{tags:List aI}{subs:cA}{blob:List UInt8}{T:List Nat}
 (hE:∀x∈E,x.slot<4294967296) (hEl:E.length<65536) (hat:at_+6+12*E.length<=L)
 (h2:jU (eC (aN sh s)) b o dir E S=.ok (tags,S2))
 (hP1:(E.filter λx=>ft (aN sh s) x.tag).length≠1)
 (h3:lX (ko b o sh f) (aN sh s) (E.filter λx=>fj (aN sh s) x.tag) no S2=.ok (subs,no',S3))
 (hfin:(∃p q,(E.filter λx=>ft (aN sh s) x.tag)=[p,q]/\q.slot≠0/\p.slot<4294967296/\q.slot<4294967296/\kP L S3 ⟨4,dir,0,p.slot,q.slot⟩=.ok S4/\blob=(b.drop p.slot).take q.slot)\/((E.filter λx=>ft (aN sh s) x.tag).length≠2/\S4=S3/\blob=[]))
 (hS:S4.length<100000000) (hno:no'<2^40) (hdir:dir<2^40) (H:Tk T L (gx S)) (so:Int) (c:Nat):
 ∃T' so',Tk T' L (gx S4)/\T'.length=T.length/\
  VL w rec at_ dir (aA bK E) (aA bK (E.filter λx=>fj (aN sh s) x.tag)) (aA bK (E.filter λx=>ft (aN sh s) x.tag)) (aA bK (E.filter λx=>!eC (aN sh s) x.tag)) (aA bK E) E.length 0 (ag b) o (cf sh) T.length c no so (ae 0 []) (gE (aN sh s).bJ) (aN sh s).at_ (aN sh s).cw (aN sh s).next (eB T) (S.flatMap bR) [] []=
   some (.inl (ay tags,ae (bX subs) (gG subs),ag blob,(cc b (at_+2+12*E.length) 4 o:Int),ag b,o,cf sh,T.length,c,(no':Int),so',eB T',S4.flatMap bR)):=by
 have hsm:=R.small
 have hlen:=R.len
 have hw:=R.wide
 have h232:∀n,eR w true n=some (.inl ()):=λ_=>rfl
 obtain⟨tl,htl⟩:∃tl,T.length=tl:=⟨_,rfl⟩
 rw[htl]
 have hS24:S2.length<=S4.length:=by
  obtain⟨_,u,e⟩:=Az (Ay f) h3
  have e:=bV List.length e
  rw[aR] at e
  rcases hfin with⟨p,q,_,_,_,_,ht,_⟩|⟨_,e',_⟩
  ·rw[(pg ht).1,aR];omega
  ·rw[e'];omega
 have key:∀(k i v:Nat)(S:List bk)(T:List Nat)(so:Int)(ts D:List aI),i+k=E.length->k<v->D.length<=i->jU (eC (aN sh s)) b o dir (E.drop i) S=.ok (ts,S2)->D++ts=tags->Tk T L (gx S)->T.length=tl->
  ∃T' so',Tk T' L (gx S4)/\T'.length=tl/\
   lp yg (rT w rec) v at_ dir (aA bK E) (aA bK (E.filter λx=>fj (aN sh s) x.tag)) (aA bK (E.filter λx=>ft (aN sh s) x.tag)) (aA bK ((E.drop i).filter λx=>!eC (aN sh s) x.tag)) (aA bK E) E.length i (ag b) o (cf sh) tl c no so (ae 0 []) (gE (aN sh s).bJ) (aN sh s).at_ (aN sh s).cw (aN sh s).next (eB T) (S.flatMap bR) (D.flatMap cq) []=
    some (.inl (ay tags,ae (bX subs) (gG subs),ag blob,(cc b (at_+2+12*E.length) 4 o:Int),ag b,o,cf sh,tl,c,(no':Int),so',eB T',S4.flatMap bR)):=by
  intro k
  induction k with
  |zero=>
   intro i v S T so ts D hi hv hD hr hDr HT hTl
   rw[show E.drop i=[] from vQ (by omega),jU] at hr
   injection hr with hr
   cases hr
   rw[dX] at hDr
   subst hDr
   have e1:¬((i:Int)<(E.length:Int)):=by omega
   rw[dQ yg (rT w rec) (by omega)]
   unfold rT AO
   simp only[aT,e1,bM,aC]
   rw[cd]
   have e2:aj (Int.ofNat (E.filter λx=>ft (aN sh s) x.tag).length) 1=false:=by rw[cu,gJ,cm];omega
   rw[e2,show(!false)=true from rfl,h232]
   simp only[az,iD]
   rw[cd]
   have hKl:=List.length_filter_le (λx:bj=>fj (aN sh s) x.tag) E
   obtain⟨T',so',t1,t2,t3⟩:=ZC R hsh hs hlk hrec (at_:=at_) (dir:=dir) (E:=E) (P:=E.filter λx=>ft (aN sh s) x.tag) (K:=E.filter λx=>fj (aN sh s) x.tag) (T:=T)
    (λx hx=>⟨(oA.1 hx).2,hE x (oA.1 hx).1⟩) (by omega) hat h3 hfin hS hno HT so c (D.flatMap cq)
   rw[hTl] at t2 t3
   refine⟨T',so',t1,t2,?_⟩
   have htg:ae ((D.flatMap cq).length/4) (D.flatMap cq)=ay D:=by
    rw[dH gY,jG _ (by decide)]
    rfl
   rw[htg] at t3
   exact t3
  |succ k ih=>
   intro i v S T so ts D hi hv hD hr hDr HT hTl
   have hiE:i<E.length:=by omega
   have hmem:=cM hiE
   have e1:((i:Int)<(E.length:Int)):=by omega
   have tg:∀(y:bj)(r:List Value),bK y++r=Value.int .i64 y.tag::.int .i64 y.ty::.int .i64 y.aw::.int .i64 (y.slot:Int)::r:=λ_ _=>rfl
   rw[dk hiE,jU] at hr
   rw[dQ yg (rT w rec) (by omega)]
   by_cases ho:eC (aN sh s) E[i].tag=true
   ·rw[au ho] at hr
    split at hr
    case isFalse=>cases hr
    rename_i h41
    obtain⟨T',so',v1,v2,v3⟩:=ih (i+1) (v -1) S T so ts D (by omega) (by omega) (by omega) hr hDr HT hTl
    refine⟨T',so',v1,v2,?_⟩
    rw[<-v3]
    generalize hg:lp yg (rT w rec) (v -1)=g
    have hfl:(E.drop i).filter (λx=>!eC (aN sh s) x.tag)=(E.drop (i+1)).filter (λx=>!eC (aN sh s) x.tag):=by
     rw[dk hiE,kb,ho]
     rfl
    rw[hfl]
    generalize hX:(E.drop (i+1)).filter (λx=>!eC (aN sh s) x.tag)=X
    unfold rT AO
    simp only[aT,e1,bd,aB,bP]
    rw[bu kK hiE,tg]
    simp only[bh,bQ]
    rw[cd,h41.1,h41.2]
    have hnx:ah IntKind.i64 ((i:Int).add 1)=((i+1:Nat):Int):=by rw[bT,aM (by omega) (by omega)];rfl
    have hend:(bif aj 4 4 then ob (eR w (aj 1 1) 6) λ(x112:PUnit⊕Int)=>dc x112 (λ(x113:PUnit)=>g (at_:Int) (dir:Int) (aA bK E) (aA bK (E.filter λx=>fj (aN sh s) x.tag)) (aA bK (E.filter λx=>ft (aN sh s) x.tag)) (aA bK X) (aA bK E) (E.length:Int) (ah IntKind.i64 ((i:Int).add 1)) (ag b) o (cf sh) tl c no so (ae 0 []) (gE (aN sh s).bJ) (aN sh s).at_ (aN sh s).cw (aN sh s).next (eB T) (S.flatMap bR) (D.flatMap cq) []) λ(x114:Int)=>some (Sum.inr (x114,ag b,o,cf sh,tl,c,(no:Int),so,eB T,S.flatMap bR)) else(none:si))=g (at_:Int) (dir:Int) (aA bK E) (aA bK (E.filter λx=>fj (aN sh s) x.tag)) (aA bK (E.filter λx=>ft (aN sh s) x.tag)) (aA bK X) (aA bK E) (E.length:Int) ((i+1:Nat):Int) (ag b) o (cf sh) tl c no so (ae 0 []) (gE (aN sh s).bJ) (aN sh s).at_ (aN sh s).cw (aN sh s).next (eB T) (S.flatMap bR) (D.flatMap cq) []:=by
     rw[hnx]
     rfl
    rcases X with _|⟨y,X⟩
    ·have e5:decide ((0:Int)<Int.ofNat ([]:List bj).length)=false:=rfl
     rw[e5,aC]
     exact hend
    ·have e5:decide ((0:Int)<Int.ofNat (y::X).length)=true:=by rw[bZ,cm,bY];omega
     have hy:eC (aN sh s) y.tag=false:=by
      have:=(oA.1 (show y∈(E.drop (i+1)).filter (λx=>!eC (aN sh s) x.tag) by rw[hX];exact nC)).2
      simpa using this
     have cF:¬(E[i].tag=y.tag):=λq=>by rw[q,hy] at ho;cases ho
     have x0:∀(K:List Value->si),aO 4 0 (aA bK (y::X)) K=K (bK y++(X.flatMap bK)):=λK=>bu kK (l:=y::X) (m:=0) (by rw[bY];omega) K
     rw[e5,aB,x0,tg]
     simp only[bh,bQ,cu,cF,bM,aC]
     have hend2:=hend
     simp only[cu] at hend2
     exact hend2
   ·rw[ai ho] at hr
    split at hr
    ·cases hr
    rename_i t S1 hv1
    split at hr
    ·cases hr
    rename_i ts2 S2' ht
    injection hr with hr
    cases hr
    obtain⟨u,hu⟩:=xh ht
    obtain⟨_,T1,so1,t1,t2,t3⟩:=afQ (w:=w) (dir:=dir) R HT hv1 (hE _ hmem) (by have:=bV List.length hu;rw[aR] at this;omega) (cf sh) c (no:Int) so
    rw[hTl] at t2 t3
    obtain⟨T',so',v1,v2,v3⟩:=ih (i+1) (v -1) S1 T1 so1 ts2 (D++[t]) (by omega) (by omega) (by rw[aR,vT];omega) ht (by rw[<-hDr];simp) t1 t2
    refine⟨T',so',v1,v2,?_⟩
    rw[<-v3]
    generalize hg:lp yg (rT w rec) (v -1)=g
    have ho':eC (aN sh s) E[i].tag=false:=by simpa using ho
    have hfl:(E.drop i).filter (λx=>!eC (aN sh s) x.tag)=E[i]::(E.drop (i+1)).filter (λx=>!eC (aN sh s) x.tag):=by
     rw[dk hiE,kb,ho']
     rfl
    rw[hfl]
    generalize hX:(E.drop (i+1)).filter (λx=>!eC (aN sh s) x.tag)=X
    unfold rT AO
    simp only[aT,e1,bd,aB,bP]
    rw[bu kK hiE,tg]
    simp only[bh,bQ]
    rw[cd]
    have e5:decide ((0:Int)<Int.ofNat (E[i]::X).length)=true:=by rw[bZ,cm,bY];omega
    have x0:∀(K:List Value->si),aO 4 0 (aA bK (E[i]::X)) K=K (bK E[i]++(X.flatMap bK)):=λK=>bu kK (l:=E[i]::X) (m:=0) (by rw[bY];omega) K
    rw[e5,aB,x0,tg]
    simp only[bh,bQ,cu,bd,aB]
    rw[t3]
    simp only[az,iD]
    have hr1:aG (D.flatMap cq).length=true:=by
     rw[dH gY];simp;omega
    rw[hr1,cd]
    have e6:1<=(E[i]::X).length:=by rw[bY];omega
    simp only[show aG 1=true from rfl,eD,eS,oC,pA,bY,List.length_nil,gC,aK,bd,show Nat.beq (0+1+1+1+1) 4=true from rfl,aB,bT]
    have e7:1<=X.length+1:=by omega
    have e8:decide (1<=X.length+1)=true:=ff e7
    rw[e8,aB,sE kK (E[i]::X) (a:=1) (b:=X.length+1) (by rw[bY];omega),show X.length+1 -1=X.length by omega,List.drop_succ_cons,eS,eE (aK _),aM (n:=(i:Int)+1) (by omega) (by omega),show(i:Int)+1=((i+1:Nat):Int) by omega,fw]
    have htc:[t].flatMap cq=[Value.int .i64 t.tag,.int .i64 t.ty,.int .i64 t.aw,ag t.data]:=rfl
    rw[htc]
 have hfin0:=key E.length 0 w S T so tags [] (by omega) (by omega) (aK _) (by rw[eS];exact h2) rfl H htl
 rw[eS] at hfin0
 exact hfin0
end
section
set_option linter.unusedVariables false
set_option linter.unusedSimpArgs false
set_option linter.unusedSectionVars false
set_option linter.constructorNameAsVariable false
theorem Pp(b:List UInt8)(o:Int):∀(n p:Nat),∀x∈jO b o p n,x.slot<4294967296
 |0,_,x,h=>by cases h
 |n+1,p,x,h=>by
  rcases cQ.1 (h) with rfl|h
  ·exact Dz b (p+8) o
  ·exact Pp b o n (p+12) x h
theorem agM{w L:Nat}{b:List UInt8}{o:Int}(R:ql w L b o){sh:List aX}(hsh:iQ sh)(hlk:∀s,s<sh.length->(aN sh s).bJ.length<100000){f:Nat}{rec:qY}(hrec:vZ sh b o L f rec):vZ sh b o L (f+1) (GF w rec):=by
 have hsm:=R.small
 have hlen:=R.len
 have hw:=R.wide
 intro at_ s no Sp d next no' S' T so c h hs hat hS hno HT
 rw[ko] at h
 split at h
 case isFalse=>cases h
 rename_i h0
 split at h
 ·cases h
 rename_i hn
 split at h
 ·cases h
 rename_i S1 h1
 split at h
 case isFalse=>cases h
 rename_i hr
 split at h
 ·cases h
 rename_i tags S2 h2
 split at h
 ·cases h
 rename_i hP1
 split at h
 ·cases h
 rename_i subs no2 S3 h3
 rw[hlen] at h0 h1
 obtain⟨a1,_,a3⟩:=pg h1
 obtain⟨u2,e2⟩:=xh h2
 obtain⟨k,u3,e3⟩:=Az (Ay f) h3
 obtain⟨n,hnn⟩:∃n,cc b at_ 2 o=n:=⟨_,rfl⟩
 have hn2:n<65536:=by rw[<-hnn];exact Rw b at_ R.ord
 obtain⟨E,hE⟩:∃E,jO b o (at_+2) n=E:=⟨_,rfl⟩
 have hEl:E.length=n:=by rw[<-hE,Iq]
 have hEs:∀x∈E,x.slot<4294967296:=by rw[<-hE];exact Pp b o n _
 rw[hnn,hE] at h
 dsimp only at a3
 have hS13:Sp.length<=S3.length:=by
  rw[e3,e2,a1];simp only[aR];omega
 have hend:∃S4 blob,((∃p q,(E.filter λx=>ft (aN sh s) x.tag)=[p,q]/\q.slot≠0/\p.slot<4294967296/\q.slot<4294967296/\kP L S3 ⟨4,(no:Int),0,p.slot,q.slot⟩=.ok S4/\blob=(b.drop p.slot).take q.slot)\/((E.filter λx=>ft (aN sh s) x.tag).length≠2/\S4=S3/\blob=[]))/\
  d=.mk tags subs blob/\next=cc b (at_+2+12*n) 4 o/\no'=no2/\S'=S4:=by
  split at h
  ·rename_i p q hpq
   split at h
   ·cases h
   rename_i hq
   split at h
   ·cases h
   rename_i S4 ht
   injection h with h
   cases h
   refine⟨_,_,.inl ⟨p,q,hpq,hq,?_,?_,by rw[<-hlen];exact ht,rfl⟩,rfl,rfl,rfl,rfl⟩
   ·exact hEs p (oA.1 (show p∈E.filter λx=>ft (aN sh s) x.tag by rw[hpq];simp)).1
   ·exact hEs q (oA.1 (show q∈E.filter λx=>ft (aN sh s) x.tag by rw[hpq];simp)).1
  ·rename_i hno2
   injection h with h
   cases h
   refine⟨_,_,.inr ⟨λq=>?_,rfl,rfl⟩,rfl,rfl,rfl,rfl⟩
   rcases hF:(E.filter λx=>ft (aN sh s) x.tag) with _|⟨x,_|⟨y,_|⟨z,l⟩⟩⟩<;>grind
 obtain⟨S4,blob,hfin,rfl,rfl,rfl,rfl⟩:=hend
 have hS34:S3.length<=S'.length:=by
  rcases hfin with⟨p,q,_,_,_,_,ht,_⟩|⟨_,e',_⟩
  ·rw[(pg ht).1,aR];omega
  ·rw[e'];omega
 obtain⟨T1,t1,t2,t3⟩:=afO R HT h0.1 h0.2 hn h1 hr (by omega) (by omega) (cf sh) c (ah .i64 ((no:Int).add 1)) so
 rw[hnn] at t3 hn h1 hr h2 hP1 h3
 rw[hE] at t3 h2 hP1 h3
 have haw:ah IntKind.i64 ((no:Int).add 1)=((no+1:Nat):Int):=by rw[bT,aM (by omega) (by omega)];rfl
 rw[haw] at t3
 obtain⟨T',so',v1,v2,v3⟩:=ag1 R hsh hs (hlk s hs) hrec (at_:=at_) (dir:=no) hEs (by omega) (by omega) h2 hP1 h3 hfin hS hno (by omega) t1 so c
 rw[t2] at v2 v3
 refine⟨T',so',v1,v2,?_⟩
 unfold GF
 rw[bP,show cf sh=aA jj sh from rfl,bu yc hs]
 have hsg:sh[s]=aN sh s:=by unfold aN;rw[cW hs];rfl
 have tg:∀(S:aX)(r:List Value),jj S++r=gE S.bJ::.int .i64 S.at_::.int .i64 S.cw::.int .i64 S.next::r:=λ_ _=>rfl
 rw[hsg,tg]
 simp only[bh,bQ]
 rw[show aj (no:Int) (no:Int)=true by rw[cu,bZ],aB,haw,show aA jj sh=cf sh from rfl,t3]
 simp only[az,iD]
 rw[afP E _ (hsh.ok s) (by have:=hlk s hs;omega) (by have:=hlk s hs;omega) (by omega) (by omega)]
 simp only[az]
 rw[cd]
 rw[hEl] at v3
 rw[hEl]
 exact v3
theorem O0{w L:Nat}{b:List UInt8}{o:Int}(R:ql w L b o){sh:List aX}(hsh:iQ sh)(hlk:∀s,s<sh.length->(aN sh s).bJ.length<100000)(z:qY):
 ∀(f n:Nat),f<=n->vZ sh b o L f (pM z (GF w) n)
 |0,n,_=>by
  intro at_ s no Sp d next no' S' T so c h
  cases h
 |f+1,n+1,h=>by
  exact agM R hsh hlk (O0 R hsh hlk z f n (by omega))
theorem aft{w L:Nat}{b:List UInt8}{o:Int}(R:ql w L b o){sh:List aX}(hsh:iQ sh)(hlk:∀s,s<sh.length->(aN sh s).bJ.length<100000){f:Nat}(hf:f<=w):vZ sh b o L f (FM w):=O0 R hsh hlk _ f w hf
end
section
set_option linter.unusedVariables false
set_option linter.unusedSimpArgs false
set_option linter.unusedSectionVars false
set_option linter.constructorNameAsVariable false
theorem TC{rd:Nat->Nat->Nat->List bk->Except Int (aS×Nat×Nat×List bk)}(hrd:∀a s no S d n no' S',rd a s no S=.ok (d,n,no',S')->no'+S.length<=no+S'.length){Sh:aX}:∀{K:List bj}{no no':Nat}{S S':List bk}{r:cA},lX rd Sh K no S=.ok (r,no',S')->no'+S.length<=no+S'.length
 |[],no,no',S,S',r,h=>by rw[lX] at h;cases h;exact aK _
 |x::K,no,no',S,S',r,h=>by
  rw[lX] at h
  split at h
  ·grind
  rename_i hd
  split at h
  ·grind
  split at h
  ·grind
  rename_i hr
  injection h with h
  cases h
  have a1:=hrd _ _ _ _ _ _ _ _ hd
  have a2:=TC hrd hr
  omega
theorem TB{b:List UInt8}{o:Int}{sh:List aX}:∀(f a s no:Nat)(S:List bk)(d:aS)(n no':Nat)(S':List bk),ko b o sh f a s no S=.ok (d,n,no',S')->no'+S.length<=no+S'.length
 |0,a,s,no,S,d,n,no',S',h=>by rw[ko] at h;cases h
 |f+1,a,s,no,S,d,n,no',S',h=>by
  rw[ko] at h
  split at h
  case isFalse=>cases h
  split at h
  ·cases h
  split at h
  ·cases h
  rename_i S1 h1
  split at h
  case isFalse=>cases h
  split at h
  ·cases h
  rename_i h2
  split at h
  ·cases h
  split at h
  ·cases h
  rename_i S3 h3
  have e1:=bV List.length (pg h1).1
  rw[aR,vT] at e1
  obtain⟨u2,e2⟩:=xh h2
  have e2:=bV List.length e2
  rw[aR] at e2
  have e3:=TC (TB f) h3
  split at h
  ·split at h
   ·cases h
   split at h
   ·cases h
   rename_i h4
   injection h with h
   cases h
   have e4:=bV List.length (pg h4).1
   rw[aR] at e4
   omega
  ·injection h with h
   cases h
   omega
theorem adC{b:List UInt8}{o:Int}{sh:List aX}:∀(f a s no:Nat)(S:List bk)(d:aS)(n no':Nat)(S':List bk),ko b o sh f a s no S=.ok (d,n,no',S')->n<4294967296
 |0,a,s,no,S,d,n,no',S',h=>by rw[ko] at h;cases h
 |f+1,a,s,no,S,d,n,no',S',h=>by
  rw[ko] at h
  split at h
  case isFalse=>cases h
  split at h
  ·cases h
  split at h
  ·cases h
  split at h
  case isFalse=>cases h
  split at h
  ·cases h
  split at h
  ·cases h
  split at h
  ·cases h
  split at h
  ·split at h
   ·cases h
   split at h
   ·cases h
   injection h with h
   cases h
   exact Dz _ _ _
  ·injection h with h
   cases h
   exact Dz _ _ _
theorem TA{b:List UInt8}{o:Int}{sh:List aX}:∀(f:Nat)(first:Bool)(a:Nat)(s:Int)(no:Nat)(S:List bk)(ds:List aS)(S':List bk),oa b o sh f first a s no S=.ok (ds,S')->∃u,S'=S++u
 |0,first,a,s,no,S,ds,S',h=>by rw[oa] at h;cases h
 |f+1,first,a,s,no,S,ds,S',h=>by
  rw[oa] at h
  split at h
  ·simp_all
  split at h
  ·grind
  split at h
  ·grind
  rename_i hd
  split at h
  ·grind
  rename_i hc
  injection h with h
  cases h
  obtain⟨_,u,rfl⟩:=Ay _ _ _ _ _ _ _ _ _ hd
  obtain⟨v,rfl⟩:=TA f _ _ _ _ _ _ _ hc
  simp
theorem OJ{w L:Nat}{b:List UInt8}{o:Int}(R:ql w L b o){sh:List aX}(hsh:iQ sh)(hlk:∀s,s<sh.length->(aN sh s).bJ.length<100000)(hl:sh.length<100000){S':List bk}(hS:S'.length<100000000)(c:Nat)(tl:Nat):
 ∀(f v at_:Nat)(s:Int)(no:Nat)(Sp:List bk)(D ds:List aS)(T:List Nat)(so:Int),f<v->D.length+f<=sh.length+2->oa b o sh f D.isEmpty at_ s no Sp=.ok (ds,S')->at_<4294967296->s<sh.length->no<=Sp.length->Tk T L (gx Sp)->T.length=tl->
  ∃T' so' no',lp CC (wB w) v (at_:Int) s (ag b) o (cf sh) tl c (no:Int) so o 0 (eB T) (Sp.flatMap bR) (D.flatMap cZ)=some (o,0,ag b,o,cf sh,tl,c,no',so',(D++ds).flatMap cZ,eB T',S'.flatMap bR)
 |0,v,at_,s,no,Sp,D,ds,T,so,_,_,h,_,_,_,_,_=>by rw[oa] at h;cases h
 |f+1,v,at_,s,no,Sp,D,ds,T,so,hv,hD,h,hat,hs,hno,HT,hTl=>by
  have hw:=R.wide
  have h232:∀n,eR w true n=some (.inl ()):=λ_=>rfl
  rw[oa] at h
  rw[dQ CC (wB w) (by omega)]
  split at h
  ·rename_i h0
   injection h with h
   cases h
   rw[h0.1]
   have hDe:D.length≠0:=by
    intro q
    have:D=[]:=qS.1 q
    rw[this] at h0
    exact absurd h0.2 (by decide)
   refine⟨T,so,(no:Int),?_⟩
   unfold wB Ex AL
   have e1:ak 0 ((0:Nat):Int)=false:=rfl
   have e2:aj (Int.ofNat ((D.flatMap cZ).length/3)) 0=false:=by
    rw[dH kX,cu,gJ,cm];omega
   simp_all
  ·rename_i h0
   split at h
   ·cases h
   rename_i hs0
   split at h
   ·cases h
   rename_i d next no1 S1 hd
   split at h
   ·cases h
   rename_i ds2 S2 hc
   injection h with h
   cases h
   have hst:(s.toNat:Int)=s:=mf (by omega)
   have hsl:s.toNat<sh.length:=by omega
   obtain⟨u,hu⟩:=TA _ _ _ _ _ _ _ _ hc
   have hu:=bV List.length hu
   rw[aR] at hu
   have hcn:=TB _ _ _ _ _ _ _ _ _ hd
   obtain⟨T1,so1,t1,t2,t3⟩:=aft R hsh hlk (f:=sh.length) (by omega) at_ s.toNat no Sp d next no1 S1 T so c hd hsl hat (by omega) (by omega) HT
   rw[hTl] at t2 t3
   rw[hst] at t3
   have hnx:=hsh.next s.toNat hsl
   obtain⟨T',so',no',v3⟩:=OJ R hsh hlk hl hS c tl f (v -1) next (aN sh s.toNat).next no1 S1 (D++[d]) ds2 T1 so1 (by omega) (by rw[aR,vT];omega) (by
    have:(D++[d]).isEmpty=false:=by cases D<;>rfl
    rw[this];exact hc) (adC _ _ _ _ _ _ _ _ _ hd) (by omega) (by omega) t1 t2
   refine⟨T',so',no',?_⟩
   rw[dD] at v3
   rw[show D++d::ds2=D++([d]++ds2) from rfl,<-v3]
   generalize hg:lp CC (wB w) (v -1)=g
   have hsn:(!ak s 0)=true:=by rw[aT,fe (by omega:¬s<0)];rfl
   have hr1:aG (D.flatMap cZ).length=true:=by
    rw[dH kX];simp;omega
   have hsg:sh[s.toNat]=aN sh s.toNat:=by unfold aN;rw[cW hsl];rfl
   have tg:∀(S:aX)(r:List Value),(jj S++r).drop 3=.int .i64 S.next::r:=λ_ _=>rfl
   have hdc:List.take 3 (List.drop 0 [dT d,dS d,dB d])=[d].flatMap cZ:=by
    rw[dV,mN,dX,pJ];rfl
   have x0:∀(K:List Value->Option (Int×Int×Value×Int×Value×Nat×Nat×Int×Int×List Value×List Value×List Value)),aD s (λx58=>aO 4 x58 (cf sh) K)=K (jj (aN sh s.toNat)++(sh.drop (s.toNat+1)).flatMap jj):=by
    intro K
    rw[<-hst,bP,show cf sh=aA jj sh from rfl,mM,bu yc hsl,hsg]
   unfold wB Ex AL
   have fin:∀(A:Int->Option (Int×Int×Value×Int×Value×Nat×Nat×Int×Int×List Value×List Value×List Value))(B:Int×Value×Int×Value×Nat×Nat×Int×Int×List Value×List Value->Option (Int×Int×Value×Int×Value×Nat×Nat×Int×Int×List Value×List Value×List Value)),
    (ob (eR w (!ak s 0) 2) λ(x43:PUnit⊕Int)=>dc x43 (λ(x44:PUnit)=>ob (FM w (at_:Int) s (ag b) o (cf sh) tl c (no:Int) so (eB T) (Sp.flatMap bR)) λx45=>dc x45 (λ(x46:Value×Value×Value×Int×Value×Int×Value×Nat×Nat×Int×Int×List Value×List Value)=>bif aG (D.flatMap cZ).length&&(aG 1&&(List.take 3 (List.drop 0 [x46.fst,x46.snd.fst,x46.snd.snd.fst])).length.beq 3) then aD s λ(x47:Nat)=>aO 4 x47 x46.snd.snd.snd.snd.snd.snd.fst λ(x48:List Value)=>af (List.drop 3 x48) λ(x49:Value)(x50:List Value)=>ax IntKind.i64 x49 λ(x51:Int)=>g x46.snd.snd.snd.fst x51 x46.snd.snd.snd.snd.fst x46.snd.snd.snd.snd.snd.fst x46.snd.snd.snd.snd.snd.snd.fst x46.snd.snd.snd.snd.snd.snd.snd.fst x46.snd.snd.snd.snd.snd.snd.snd.snd.fst x46.snd.snd.snd.snd.snd.snd.snd.snd.snd.fst x46.snd.snd.snd.snd.snd.snd.snd.snd.snd.snd.fst o 0 x46.snd.snd.snd.snd.snd.snd.snd.snd.snd.snd.snd.fst x46.snd.snd.snd.snd.snd.snd.snd.snd.snd.snd.snd.snd (D.flatMap cZ++List.take 3 (List.drop 0 [x46.fst,x46.snd.fst,x46.snd.snd.fst])) else none) B) A)=g (next:Int) (aN sh s.toNat).next (ag b) o (cf sh) tl c (no1:Int) so1 o 0 (eB T1) (S1.flatMap bR) ((D++[d]).flatMap cZ):=by
    intro A B
    rw[hsn,h232]
    simp only[az,iD]
    rw[t3]
    simp only[az,iD]
    rw[hr1,hdc,x0,tg]
    simp only[bh,bQ]
    rw[fw,show[d].flatMap cZ=cZ d++[] from rfl,dX,kX]
    rfl
   by_cases hp:0<at_
   ·have e1:ak 0 (at_:Int)=true:=by rw[aT,bZ];omega
    rw[e1,aB]
    exact fin _ _
   ·have e1:ak 0 (at_:Int)=false:=by rw[aT,gJ];omega
    have hDe:D=[]:=by
     cases D with
     |nil=>rfl
     |cons a l=>exact absurd ⟨by omega,rfl⟩ h0
    have e2:aj (Int.ofNat ((D.flatMap cZ).length/3)) 0=true:=by rw[hDe];rfl
    rw[e1,aC,e2,aB]
    exact fin _ _
theorem TM:∀n:Nat,rep n (Value.int IntKind.u64 0).cells.toList=eB (List.replicate n 0)
 |0=>rfl
 |n+1=>by
  show _++rep n _=_
  rw[TM n]
  rfl
theorem ahq(L:Nat):Tk (List.replicate (L/64+1) 0) L (gx []):=by
 refine⟨tT,λn hn=>(by grind),λp hp=>?_⟩
 ·unfold CA gx
  grind
theorem Mc{w:Nat}{b:List UInt8}{sh:List aX}(hb:b.length<2^29)(hw:b.length+200000<w)(hsh:iQ sh)(hlk:∀s,s<sh.length->(aN sh s).bJ.length<100000)(hl:sh.length<100000)(h0:0<sh.length)(sO:qG w (cf sh)=some true){o:Int}{ds:List aS}{S:List bk}(hS:S.length<100000000)(h:vO b sh=.ok (⟨o,ds⟩,S)):
 xH w (ag b) (cf sh)=some (o,cU ds,aA bR S,0):=by
 unfold vO at h
 split at h
 ·cases h
 split at h
 ·cases h
 rename_i h42
 split at h
 ·cases h
 rename_i ds1 Sx hc
 injection h with h
 injection h with h1 h2
 injection h1 with h1 h3
 subst h1 h2 h3
 have ho:ll b=1\/ll b=2:=by
  have:ll b≠0:=λq=>h42 (.inl q)
  unfold ll at this⊢
  split
  ·exact .inl rfl
  ·split
   ·exact .inr rfl
   ·rename_i a c;rw[ai a,ai c] at this;exact absurd rfl this
 have R:ql w b.length b (ll b):=⟨rfl,hb,hw,ho⟩
 obtain⟨T1,t1,t2,t3⟩:=afs R (by omega) rfl (qb.1 λq=>h42 (.inr q)) (ahq b.length) (cf sh) (b.length/64+1) 0 0
 rw[tT] at t2 t3
 obtain⟨T2,so2,no2,v3⟩:=OJ R hsh hlk hl hS (b.length/64+1) (b.length/64+1) (sh.length+2) w (cc b 4 4 (ll b)) 0 0 [⟨1,-1,0,0,8⟩] [] ds1 T1 0 (by omega) (by simp) hc (Dz _ _ _) (by omega) (by omega) t1 t2
 have h180:Fv w (ag b) (cf sh)=some (ag b,0,cf sh,b.length/64+1,b.length/64+1,0,0,eB (List.replicate (b.length/64+1) 0),[]):=by
  unfold Fv
  rw[cJ,cm,Ib _ (by omega),bT,aM (by omega) (by omega),show((b.length/64:Nat):Int)+1=((b.length/64+1:Nat):Int) by omega]
  simp only[bP]
  have e1:b.length/64+1<=1000000000:=by omega
  simp only[gC,aK,e1,bd,jF,jZ]
  rw[TM]
  rfl
 have h181:Fw w (ag b) 0 (cf sh) (b.length/64+1) (b.length/64+1) 0 0 (eB (List.replicate (b.length/64+1) 0)) []=some (ll b,0,ag b,ll b,cf sh,b.length/64+1,b.length/64+1,no2,so2,ds1.flatMap cZ,eB T2,Sx.flatMap bR):=by
  unfold Fw AL
  rw[sO]
  rw[t3]
  exact v3
 unfold xH
 rw[h180]
 simp
 rw[h181]
 simp only[az]
 rw[VA Sx _ rfl,dH kX,jG _ (by decide)]
 rfl
end
section
set_option linter.unusedVariables false
set_option linter.unusedSimpArgs false
set_option linter.unusedSectionVars false
set_option linter.constructorNameAsVariable false
theorem U5(w:Nat)(a b c t:Int)(d:Value):vp w a b c d t=some (if a<t then-1 else if t<a then 1 else 0):=by
 unfold vp MH F5
 by_cases h:a<t
 ·simp[h]
 ·by_cases h2:t<a
  ·simp[h,h2]
  ·simp[h,h2]
theorem Mt{w:Nat}(l:List aI)(t:Int)(hr:fI l=true)(hl:l.length<2^40)(hw:l.length+2<w):
 ∃i:Nat,xK w (ay l) t=some ((i:Int),(iB l t).isSome)/\i<=l.length/\(∀h:(iB l t).isSome=true,∃h':i<l.length,iB l t=some l[i])/\(∀x (h:x<l.length),x<i->l[x].tag<t)/\∀x (h:x<l.length),i<=x->t<=l[x].tag:=by
 have key:∀(k i j v:Nat),j=i+k->j<=l.length->k+1<v->(∀x (h:x<l.length),x<i->l[x].tag<t)->(∀x (h:x<l.length),j<=x->t<=l[x].tag)->
  ∀(z:Value->Int->Int->Int->Int->Option (Int×Bool))(F:(Value->Int->Int->Int->Int->Option (Int×Bool))->Value->Int->Int->Int->Int->Option (Int×Bool)),
  (∀(x8:Value->Int->Int->Int->Int->Option (Int×Bool))(x9:Value)(x10 x11 x12 x13:Int),F x8 x9 x10 x11 x12 x13=bif ak x12 x13 then aD (ah IntKind.i64 ((ah IntKind.u64 (ah IntKind.i64 (x12.add x13))).fdiv (2^1))) λ(x14:Nat)=>aO 4 x14 x9 λ(x15:List Value)=>af x15 λ(x16:Value)(x17:List Value)=>ax IntKind.i64 x16 λ(x18:Int)=>af x17 λ(x19:Value)(x20:List Value)=>ax IntKind.i64 x19 λ(x21:Int)=>af x20 λ(x22:Value)(x23:List Value)=>ax IntKind.i64 x22 λ(x24:Int)=>af x23 λ(x25:Value)(x26:List Value)=>ob (vp w x18 x21 x24 x25 x10) λ(x27:Int)=>bif ak x27 0 then x8 x9 x10 x11 (ah IntKind.i64 ((ah IntKind.i64 ((ah IntKind.u64 (ah IntKind.i64 (x12.add x13))).fdiv (2^1))).add 1)) x13 else x8 x9 x10 x11 x12 (ah IntKind.i64 ((ah IntKind.u64 (ah IntKind.i64 (x12.add x13))).fdiv (2^1))) else bif ak x12 x11 then aD x12 λ(x28:Nat)=>aO 4 x28 x9 λ(x29:List Value)=>af x29 λ(x30:Value)(x31:List Value)=>ax IntKind.i64 x30 λ(x32:Int)=>af x31 λ(x33:Value)(x34:List Value)=>ax IntKind.i64 x33 λ(x35:Int)=>af x34 λ(x36:Value)(x37:List Value)=>ax IntKind.i64 x36 λ(x38:Int)=>af x37 λ(x39:Value)(x40:List Value)=>ob (vp w x32 x35 x38 x39 x10) λ(x41:Int)=>some (x12,aj x41 0) else some (x12,false))->
  ∃i':Nat,lp z F v (ay l) t l.length i j=some ((i':Int),(iB l t).isSome)/\i'<=l.length/\(∀h:(iB l t).isSome=true,∃h':i'<l.length,iB l t=some l[i'])/\(∀x (h:x<l.length),x<i'->l[x].tag<t)/\∀x (h:x<l.length),i'<=x->t<=l[x].tag:=by
  intro k
  induction k using Nat.strongRecOn with
  |ind k ih=>
   intro i j v hj hjl hv h1 h2 z F hF
   have tg:∀(y:aI)(r:List Value),cq y++r=Value.int .i64 y.tag::.int .i64 y.ty::.int .i64 y.aw::ag y.data::r:=λ_ _=>rfl
   rw[dQ z F (by omega),hF]
   by_cases hk:k=0
   ·subst hk
    have e1:¬((i:Int)<(j:Int)):=by omega
    simp only[aT,e1,bM,aC]
    by_cases hi:i<l.length
    ·have e2:((i:Int)<(l.length:Int)):=by omega
     simp only[e2,bd,aB,bP]
     rw[show ay l=aA cq l from rfl,bu gY hi,tg]
     simp only[bh,bQ]
     rw[U5]
     simp only[az]
     have hge:=h2 i hi (by omega)
     by_cases he:l[i].tag=t
     ·have hf:iB l t=some l[i]:=by
       unfold iB
       rw[List.find?_eq_some_iff_getElem]
       refine⟨by simp[he],i,hi,rfl,λx hx=>?_⟩
       have:=h1 x (by omega) hx
       simp;omega
      refine⟨i,?_,by omega,λ_=>⟨hi,hf⟩,h1,λx h q=>h2 x h (by omega)⟩
      rw[hf,ai (by omega),ai (by omega)]
      rfl
     ·have hf:iB l t=none:=by
       unfold iB
       rw[List.find?_eq_none]
       intro y hy
       obtain⟨x,hx,rfl⟩:=List.mem_iff_getElem.1 hy
       have a:=λq=>h1 x hx q
       have b:x=i\/x<i\/i<x:=by omega
       rcases b with rfl|b|b
       ·simpa using he
       ·have:=h1 x hx b;simp;omega
       ·have:=u7 hr b hx;simp;omega
      refine⟨i,?_,by omega,(λh=>by rw[hf] at h;cases h),h1,λx h q=>h2 x h (by omega)⟩
      rw[hf,ai (by omega),au (by omega)]
      rfl
    ·have e2:¬((i:Int)<(l.length:Int)):=by omega
     simp only[e2,bM,aC]
     have hf:iB l t=none:=by
      unfold iB
      rw[List.find?_eq_none]
      intro y hy
      obtain⟨x,hx,rfl⟩:=List.mem_iff_getElem.1 hy
      have:=h1 x hx (by omega)
      simp;omega
     exact⟨i,by rw[hf];rfl,by omega,(λh=>by rw[hf] at h;cases h),h1,λx h q=>h2 x h (by omega)⟩
   ·have e1:((i:Int)<(j:Int)):=by omega
    obtain⟨m,hm⟩:∃m,(i+j)/2=m:=⟨_,rfl⟩
    have hmi:i<=m/\m<j:=by omega
    have haw:ah IntKind.i64 ((ah IntKind.u64 (ah IntKind.i64 ((i:Int).add (j:Int)))).fdiv (2^1))=(m:Int):=by
     rw[bT,aM (n:=(i:Int)+(j:Int)) (by omega) (by omega),sn (by omega) (by omega),show((2:Int)^1)=2 from rfl,Int.fdiv_eq_ediv_of_nonneg _ (by decide),show((i:Int)+(j:Int))/2=(m:Int) by omega,aM (by omega) (by omega)]
    simp only[aT,e1,bd,aB]
    rw[haw,bP,show ay l=aA cq l from rfl,bu gY (by omega:m<l.length),tg]
    simp only[bh,bQ]
    rw[U5]
    simp only[az]
    by_cases hlt:l[m].tag<t
    ·rw[au hlt,show decide ((-1:Int)<0)=true from rfl,aB,bT,aM (by omega) (by omega),show(m:Int)+1=((m+1:Nat):Int) by omega]
     refine ih (j -(m+1)) (by omega) (m+1) j (v -1) (by omega) hjl (by omega) (λx hx hxm=>?_) h2 z F hF
     by_cases hxe:x=m
     ·subst hxe;exact hlt
     ·have:=u7 hr (show x<m by omega) (show m<l.length by omega);omega
    ·rw[ai hlt]
     have e3:∀(A B:Option (Int×Bool)),(bif decide ((if t<l[m].tag then(1:Int) else 0)<0) then A else B)=B:=by
      intro A B
      split<;>rfl
     rw[e3]
     refine ih (m -i) (by omega) i m (v -1) (by omega) (by omega) (by omega) h1 (λx hx hxm=>?_) z F hF
     by_cases hxe:x=m
     ·subst hxe;omega
     ·have:=u7 hr (show m<x by omega) hx;omega
 obtain⟨i,a,b,c⟩:=key l.length 0 l.length w (by omega) (aK _) (by omega) (λ_ _ h=>by omega) (λx h h'=>by omega) _ _ (λ_ _ _ _ _ _=>rfl)
 refine⟨i,?_,b,c⟩
 unfold xK MG EE
 refine Eq.trans (bV (λz=>ob z _) a) rfl
theorem E6{w:Nat}(l:List aI)(t:Int)(hr:fI l=true)(hl:l.length<2^40)(hw:l.length+2<w)(hd:∀t∈l,t.data.length<=1000000000):
 A8 w (ay l) t=some (match iB l t with|some x=>(x.ty,x.aw,ag x.data,true)|none=>(0,0,ae 0 [],false)):=by
 obtain⟨i,a,b,c,_⟩:=Mt l t hr hl hw
 unfold A8
 rw[a]
 simp only[az]
 cases hf:iB l t with
 |none=>rfl
 |some x=>
  obtain⟨h',e⟩:=c (by grind)
  rw[hf] at e
  injection e with e
  rw[bP,show ay l=aA cq l from rfl,bu gY h',(show∀(y:aI)(r:List Value),List.drop 1 (cq y++r)=.int .i64 y.ty::.int .i64 y.aw::ag y.data::r fromλ_ _=>rfl)]
  simp
  unfold tB
  rw[q9 w _ (hd _ (cM h')),<-e]
  rfl
end
section
set_option linter.unusedVariables false
set_option linter.unusedSimpArgs false
set_option linter.unusedSectionVars false
set_option linter.constructorNameAsVariable false
def wU(l:List aI):List (Int×aS)->List aI
 |[]=>l
 |(_,.mk tags _ _)::r=>wU tags r
theorem QQ:∀(s:cA)(l:List aI),wV l s=wU l (aP s)
 | .nil,l=>rfl
 | .cons _ (.mk tags _ _) r,l=>by
  rw[wV,QQ r tags]
  rfl
theorem wE(tags:List aI)(subs:cA)(blob:List UInt8):cZ (.mk tags subs blob)=[ay tags,ae (bX subs) (gG subs),ag blob]:=by rw[cZ]
def Wp(m:Nat)(l:List (Int×aS)):Prop:=∀p∈l,iw m p.2
theorem ado{w m:Nat}(hm:m<=1000000)(hw:m+20<w)(L:List (Int×aS))(hL:L.length<=m)(hS:Wp m L)(o:Int)(a b c e f g:Value)(i0:List aI):
 lp Te (D4 w) w (aA gm L) L.length 0 o a b c (ay i0) e f g=some (true,o,a,b,c,ay (wU i0 L),e,f,g):=by
 refine np (ev:=λi s (k:Ch)=>k (aA gm L) L.length i o a b c (ay s) e f g) (Inv:=λi s=>wU s (L.drop i)=wU i0 L) L.length i0 (by rw[eS]) ?_ ?_ (by omega)
 ·intro i g s hi hI
  have hsm:=hS _ (cM hi)
  rw[dk hi] at hI
  have e1:((i:Int)<(L.length:Int)):=by omega
  have sg:∀(p:Int×aS)(r:List Value),gm p++r=.int .i64 p.1 ::dT p.2 ::dS p.2 ::dB p.2 ::r:=by
   intro p r
   unfold gm
   rw[pJ]
   rfl
  obtain⟨⟨tags,subs,blob⟩,hd⟩:∃d,L[i].2 =d:=⟨_,rfl⟩
  have hsm2:tags.length<=m/\bX subs<=m/\blob.length<=m/\(∀t∈tags,t.data.length<=m)/\iy m subs:=by rw[hd] at hsm;exact hsm
  refine⟨tags,?_,?_⟩
  ·rw[<-hI,show L[i]=(L[i].1,L[i].2) from rfl,hd]
   rfl
  ·unfold D4 AM
   simp only[aT,e1,bP]
   rw[bu tL hi,sg]
   simp only[bh]
   rw[hd,show dT (.mk tags subs blob)=ay tags from rfl,rE tags (by omega) (λt ht=>by have:=hsm2.2.2.2.1 t ht;omega) (by omega)]
   simp only[bT]
   rw[aM (by omega) (by omega)]
   rfl
 ·intro g s hI
  rw[qQ,wU] at hI
  unfold D4 AM
  simp
  rw[hI]
theorem afp{w m:Nat}(A:Hand w)(hm:m<=1000000)(hw:m+20<w){r r':dr}{d:aS}(hd:iw m d)(hr:∀tags subs blob,d=.mk tags subs blob->fI tags=true)(h:qA r d=some r'):
 FJ w (dT d) (dS d) (dB d) r.order (ay r.ct) (ay r.bI) (ay r.bN) (ay r.bn) (ay r.first) (ag r.bH) (ag r.cP)=some (true,r'.order,ay r'.ct,ay r'.bI,ay r'.bN,ay r'.bn,ay r'.first,ag r'.bH,ag r'.cP):=by
 obtain⟨tags,subs,blob⟩:=d
 have hsm2:tags.length<=m/\bX subs<=m/\blob.length<=m/\(∀t∈tags,t.data.length<=m)/\iy m subs:=hd
 have hrt:=hr tags subs blob rfl
 have hsl:=tN subs
 have hdrop:=A.drop tags 37500 hrt (by omega) (by omega) (λt ht=>by have:=hsm2.2.2.2.1 t ht;omega)
 have hlp:=ado hm hw (aP subs) (by omega) (λp hp=>wj hsm2.2.2.2.2 p hp) r.order (ay r.ct) (ay (oL tags 37500)) (ay r.bN) (ay r.first)
 unfold FJ AM
 rw[show dT (.mk tags subs blob)=ay tags from rfl,show dS (.mk tags subs blob)=ae (bX subs) (gG subs) from rfl,(E6 tags 37500 hrt (by omega) (by omega) (λt ht=>by have:=hsm2.2.2.2.1 t ht;omega)),BQ]
 simp only[qA,QQ] at h
 cases hf:iB tags 37500 with
 |some v=>
  rw[hf] at h
  simp only at h
  split at h
  case isFalse=>cases h
  rename_i h7
  injection h with h
  subst h
  simp
  rw[h7,hdrop]
  exact hlp _ _ _
 |none=>
  rw[hf] at h
  injection h with h
  subst h
  rw[hdrop]
  simp only[XQ]
  exact hlp _ _ _
theorem Z6{w m:Nat}(hm:m<=1000000)(hw:m+20<w)(ds:List aS)(hl:ds.length<=m)(hS:nJ m ds)(r x:dr)(hx:uB r ds=x)(hc:iJ x=0)(hE:jI x m)(A B C D E F G:Value):
 lp RA (DC w) w (aA cZ ds) ds.length 0 0 A B C D E F G r.order (ay r.ct) (ay r.bI) (ay r.bN) (ay r.bn) (ay r.first) (ag r.bH) (ag r.cP)=some (x.order,ay x.ct,ay x.bI,ay x.bN,ay x.bn,ay x.first,ag x.bH,ag x.cP,0):=by
 refine np (σ:=dr) (ev:=λi s (k:Ce)=>k (aA cZ ds) ds.length i 0 A B C D E F G s.order (ay s.ct) (ay s.bI) (ay s.bN) (ay s.bn) (ay s.first) (ag s.bH) (ag s.cP)) (Inv:=λi s=>uB s (ds.drop i)=x) ds.length r hx ?_ ?_ (by omega)
 ·intro i g s hi hI
  have hsm:=hS _ (cM hi)
  rw[dk hi] at hI
  obtain⟨⟨tags,subs,blob⟩,hd⟩:∃d,ds[i]=d:=⟨_,rfl⟩
  rw[hd] at hI hsm
  have hsm2:tags.length<=m/\bX subs<=m/\blob.length<=m/\(∀t∈tags,t.data.length<=m)/\iy m subs:=hsm
  refine⟨_,hI,?_⟩
  unfold DC
  simp_all
  rw[bu kX hi,hd,za]
  simp
  rw[show dT (.mk tags subs blob)=ay tags from rfl,show dB (.mk tags subs blob)=ag blob from rfl,rE tags (by omega) (λt ht=>by have:=hsm2.2.2.2.1 t ht;omega) (by omega),q9 w blob (by omega),aM (by omega) (by omega)]
  rfl
 ·intro g s hI
  rw[qQ,uB] at hI
  subst hI
  unfold DC
  simp
  rw[U1 hE (by omega) hw,hc]
  rfl
def qM(r:dr):List (Int×aS)->Option dr
 |[]=>some r
 |(tag,d)::s=>if tag=34853 then qM {r with bN:=(match d with| .mk tags _ _=>tags)} s else(qA r d).bind λr=>qM r s
theorem NG:∀(s:cA)(r:dr),qL r s=qM r (aP s)
 | .nil,r=>rfl
 | .cons tag (.mk tags a b) s,r=>by
  show(if tag=34853 then qL {r with bN:=tags} s else(qA r (.mk tags a b)).bind λr=>qL r s)=(if tag=34853 then qM {r with bN:=tags} (aP s) else(qA r (.mk tags a b)).bind λr=>qM r (aP s))
  split
  ·exact NG s _
  ·congr 1
   funext r
   exact NG s r
theorem agW(r:dr)(tag:Int)(d:aS)(s:List (Int×aS)):qM r ((tag,d)::s)=if tag=34853 then qM {r with bN:=(match d with| .mk tags _ _=>tags)} s else(qA r d).bind λr=>qM r s:=by
 rfl
def Cp(d:aS):Prop:=∀tags subs blob,d=.mk tags subs blob->fI tags=true
theorem afc{w m:Nat}(A:Hand w)(hm:m<=1000000)(hw:m+20<w){o:Int}{ds:List aS}{x:dr}(h200:tC w o (cU ds) (cf da)=some 0)(h:w7 ⟨o,ds⟩=some x)(hE:jI x m)(hl:ds.length<=m)(hS:nJ m ds)(hr:∀d∈ds,∀tags subs blob,d=.mk tags subs blob->∀p∈aP subs,Cp p.2):
 Fu w o (cU ds)=some (x.order,ay x.ct,ay x.bI,ay x.bN,ay x.bn,ay x.first,ag x.bH,ag x.cP,0):=by
 unfold w7 at h
 rcases ds with _|⟨⟨tags,subs,blob⟩,ds⟩
 ·cases h
 simp only at h
 rw[NG] at h
 obtain⟨r1,hr1,h⟩:=Option.bind_eq_some_iff.1 h
 split at h
 case isFalse=>cases h
 rename_i hc
 injection h with h
 have hsm2:tags.length<=m/\bX subs<=m/\blob.length<=m/\(∀t∈tags,t.data.length<=m)/\iy m subs:=hS _ nC
 have hrs:=hr _ nC tags subs blob rfl
 have hsl:=tN subs
 rw[bY] at hl
 have e0:∀(K:List Value->Option (Int×Value×Value×Value×Value×Value×Value×Value×Int)),aO 3 0 (cU (.mk tags subs blob::ds)) K=K (cZ (.mk tags subs blob)++ds.flatMap cZ):=λK=>bu kX (m:=0) (by rw[bY];omega) K
 have d0:∀r:List Value,List.drop 0 (cZ (.mk tags subs blob)++r)=ay tags::ae (bX subs) (gG subs)::ag blob::r:=by intro r;rw[wE];rfl
 have d1:∀r:List Value,List.drop 1 (cZ (.mk tags subs blob)++r)=ae (bX subs) (gG subs)::ag blob::r:=by intro r;rw[wE];rfl
 unfold Fu
 rw[Mk]
 simp only[az]
 rw[h200]
 simp only[az]
 rw[show(!aj 0 0)=false from rfl,aC,e0,d0]
 simp only[bh]
 rw[rE tags (by omega) (λt ht=>by have:=hsm2.2.2.2.1 t ht;omega) (by omega)]
 simp only[az]
 rw[e0,d1]
 simp only[bh]
 rw[BQ,cd]
 have main:lp Rz (DB w) w (aA gm (aP subs)) (aP subs).length 0 o (cU (.mk tags subs blob::ds)) 0 (ae 0 []) (ae 0 []) (ae 0 []) (ae 0 []) (ae 0 []) (ae 0 []) (ae 0 []) o (ay tags) (ay []) (ay []) (ay []) (ay []) (ag []) (ag [])=some (x.order,ay x.ct,ay x.bI,ay x.bN,ay x.bn,ay x.first,ag x.bH,ag x.cP,0):=by
  refine np (σ:=dr) (ev:=λi s (k:Cd)=>k (aA gm (aP subs)) (aP subs).length i o (cU (.mk tags subs blob::ds)) 0 (ae 0 []) (ae 0 []) (ae 0 []) (ae 0 []) (ae 0 []) (ae 0 []) (ae 0 []) s.order (ay s.ct) (ay s.bI) (ay s.bN) (ay s.bn) (ay s.first) (ag s.bH) (ag s.cP)) (Inv:=λi s=>qM s ((aP subs).drop i)=some r1) (aP subs).length ⟨o,tags,[],[],[],[],[],[]⟩ ?_ ?_ ?_ (by omega)
  ·exact hr1
  ·intro i g s hi hI
   have hmem:=cM hi
   have hsm:=wj hsm2.2.2.2.2 _ hmem
   have hri:=hrs _ hmem
   rw[dk hi] at hI
   have e1:((i:Int)<((aP subs).length:Int)):=by omega
   have sg:∀(p:Int×aS)(r:List Value),gm p++r=.int .i64 p.1 ::dT p.2 ::dS p.2 ::dB p.2 ::r:=by
    intro p r
    unfold gm
    rw[pJ]
    rfl
   rw[agW] at hI
   unfold DB
   simp_all
   rw[bu tL hi,sg]
   simp
   by_cases hg:(aP subs)[i].1 =34853
   ·rw[au hg] at hI
    simp_all
    refine⟨_,hI,?_⟩
    obtain⟨⟨tags2,subs2,blob2⟩,hd⟩:∃d,(aP subs)[i].2 =d:=⟨_,rfl⟩
    rw[hd] at hsm⊢
    have hsm3:tags2.length<=m/\bX subs2<=m/\blob2.length<=m/\(∀t∈tags2,t.data.length<=m)/\iy m subs2:=hsm
    rw[show dT (.mk tags2 subs2 blob2)=ay tags2 from rfl,rE tags2 (by omega) (λt ht=>by have:=hsm3.2.2.2.1 t ht;omega) (by omega)]
    rw[aM (by omega) (by omega)]
    rfl
   ·rw[ai hg] at hI
    simp_all
    obtain⟨s2,hs2,hI⟩:=Option.bind_eq_some_iff.1 hI
    refine⟨s2,hI,?_⟩
    rw[afp A hm hw hsm hri hs2]
    simp only[az,bO,aC,bT]
    rw[aM (by omega) (by omega)]
    rfl
  ·intro g s hI
   rw[qQ,qM] at hI
   injection hI with hI
   subst hI
   have e1:¬(((aP subs).length:Int)<((aP subs).length:Int)):=by omega
   unfold DB
   simp
   rw[show cU (.mk tags subs blob::ds)=aA cZ (.mk tags subs blob::ds) from rfl,cd]
   have e2:1<=(aS.mk tags subs blob::ds).length:=by rw[bY];omega
   simp only[gC,aK,e2,bd,jF,aB]
   rw[sE kX _ (aK _),List.drop_succ_cons,eS,eE (by rw[bY];omega),cd]
   exact Z6 hm hw ds (by omega) (λd hd=>hS d (mO _ hd)) s x h (by rw[<-h];exact hc) hE _ _ _ _ _ _ _
 exact main
theorem aeQ{w m:Nat}(A:Hand w)(hm:m<=1000000)(hw:m+20<w){b:List UInt8}{o:Int}{ds:List aS}{S:List bk}{x:dr}(h117:xH w (ag b) (cf da)=some (o,cU ds,aA bR S,0))(h200:tC w o (cU ds) (cf da)=some 0)(h:w7 ⟨o,ds⟩=some x)(hE:jI x m)(hl:ds.length<=m)(hS:nJ m ds)(hr:∀d∈ds,∀tags subs blob,d=.mk tags subs blob->∀p∈aP subs,Cp p.2):
 A7 w (ag b)=some (x.order,ay x.ct,ay x.bI,ay x.bN,ay x.bn,ay x.first,ag x.bH,ag x.cP,0):=by
 unfold A7 ED
 rw[Mk]
 simp
 rw[h117]
 simp
 rw[afc A hm hw h200 h hE hl hS hr]
 rfl
end
section
set_option linter.unusedVariables false
set_option linter.unusedSimpArgs false
set_option linter.unusedSectionVars false
set_option linter.constructorNameAsVariable false
theorem Vn(w:Nat)(b:List UInt8):BD w (ag b)=some (nc.isPrefixOf b):=by
 unfold BD
 have:ae 6 (List.drop 0 [Value.int IntKind.u8 69,Value.int IntKind.u8 120,Value.int IntKind.u8 105,Value.int IntKind.u8 102,Value.int IntKind.u8 0,Value.int IntKind.u8 0])=ag nc:=rfl
 rw[this,A3]
 rfl
theorem LZ(w:Nat)(b:List UInt8):A6 w (ag b)=some (fM.isPrefixOf b):=by
 unfold A6
 have:ae 12 (List.drop 0 [Value.int IntKind.u8 73,Value.int IntKind.u8 67,Value.int IntKind.u8 67,Value.int IntKind.u8 95,Value.int IntKind.u8 80,Value.int IntKind.u8 82,Value.int IntKind.u8 79,Value.int IntKind.u8 70,Value.int IntKind.u8 73,Value.int IntKind.u8 76,Value.int IntKind.u8 69,Value.int IntKind.u8 0])=ag fM:=rfl
 rw[this,A3]
 rfl
theorem agn{w:Nat}{b k:List UInt8}(hk:b=nc++k)(hb:b.length<=65533){o:Int}{a1 a2 a3 a4 a5 a6 a7:Value}(h:A7 w (ag k)=some (o,a1,a2,a3,a4,a5,a6,a7,0)):yb w (ag b)=some (o,a1,a2,a3,a4,a5,a6,a7,0):=by
 have hp:nc.isPrefixOf b=true:=by rw[hk,qe];exact rY _ _
 have hl:6<=b.length:=by rw[hk,aR];have:nc.length=6:=rfl;omega
 have e1:¬((65533:Int)<(b.length:Int)):=by omega
 have e2:¬((b.length:Int)<(6:Int)):=by omega
 unfold yb Ma Mb ED
 rw[cJ]
 simp[e1]
 simp[e2]
 rw[Vn,hp]
 simp[hl]
 rw[mu _ (aK _),eE (by rw[eu];omega),show b.drop 6=k by rw[hk];rfl,h]
 rfl
theorem aeR{w:Nat}{c:List UInt8}(h1:1<=c.length)(h2:c.length<=65519):E5 w (ag (fM++1::1::c)) ((0:Nat):Int) 1=some true:=by
 have hp:fM.isPrefixOf (fM++1::1::c)=true:=by rw[qe];exact rY _ _
 have hl:(fM++1::1::c).length=c.length+14:=by rw[aR];show 12+_=_;simp;omega
 have i12:(fM++1::1::c)[12]'(by omega)=1:=rfl
 have i13:(fM++1::1::c)[13]'(by omega)=1:=rfl
 unfold E5
 rw[cJ,LZ,hp]
 simp only[az,aC]
 rw[nX (by omega:12<_),i12]
 unfold aV
 simp only[bh,bQ]
 rw[show aj (ah IntKind.i64 ((1:UInt8).toNat:Int)) (ah IntKind.i64 (Int.add ((0:Nat):Int) 1))=true from rfl]
 rw[nX (by omega:13<_),i13]
 unfold aV
 simp only[bh,bQ]
 rw[show aj (ah IntKind.i64 ((1:UInt8).toNat:Int)) 1=true from rfl]
 simp only[bO]
 rw[hl,jg,cm,aM (by omega) (by omega),show((c.length+14:Nat):Int) -14=(c.length:Int) by omega]
 simp only[cu,aT]
 by_cases h:(c.length:Int)=65519
 ·simp[h]
 ·have e1:¬((c.length:Int)<1):=by omega
  have e3:(((0:Nat):Int)=ah IntKind.i64 (Int.sub 1 1)):=rfl
  simp only[h,e1,(show((c.length:Int)<65519) from by omega),bM,bd,gp,aB,aC]
  rw[ff e3,aB]
theorem ago{w:Nat}(hw:20<w){b:List UInt8}(hb:b.length<=65519):Gs w (aA eV (fW b))=some (ag b,0):=by
 have hbl:∀l:List (List UInt8),∀K:Nat->Option (Value×Int),aq (aA eV l) K=K l.length:=λl K=>cd eV l K
 unfold Gs fW
 by_cases h0:b.length=0
 ·rw[au h0,hbl,hbl,dQ _ _ (by omega)]
  have:b=[]:=qS.1 h0
  subst this
  rfl
 ·rw[ai h0,hbl,hbl,dQ _ _ (by omega)]
  have x0:∀(K:List Value->Option (Value×Int)),aO 1 0 (aA eV [fM++1::1::b]) K=K (eV (fM++1::1::b)++([].flatMap eV)):=λK=>bu (k:=1) (λ_=>rfl) (m:=0) (by show 0<1;omega) K
  have hl:(fM++1::1::b).length=b.length+14:=by rw[aR];show 12+_=_;simp;omega
  have e1:¬((Int.ofNat (fM++1::1::b).length)<14):=by rw[cm];omega
  have e14:14<=(fM++1::1::b).length:=by omega
  rw[show(0:Int)=((0:Nat):Int) from rfl,bP,x0]
  rw[show eV (fM++1::1::b)++([].flatMap eV)=[ag (fM++1::1::b)] from rfl]
  simp only[bh]
  rw[cJ]
  simp only[aT,e1,aC]
  rw[hbl,show Int.ofNat [fM++1::1::b].length=1 from rfl,aeR (by omega) hb]
  rw[cJ]
  simp only[gC,e14,bd,aB]
  rw[mu _ (aK _),eE (by rw[eu];omega),show(fM++1::1::b).drop 14=b from rfl,gV,gR,gA]
  have hr1:aG b.length=true:=by simp;omega
  rw[hr1]
  rw[show ah IntKind.i64 (Int.add ((0:Nat):Int) 1)=1 from rfl,dQ _ _ (by omega)]
  simp
  rw[nP]
def yi(m:Int)(p:List UInt8->Bool):List bE->Bool
 |[]=>false
 |s::_=>decide (s.bW=m)&&p s.data
theorem om{β:Type}(s:bE)(r:List bE)(K:List Value->Option β):aO 3 0 (dK (s::r)) K=K (cO s++r.flatMap cO):=bu jA (by simp) K
theorem EJ{β:Type}(s:bE)(r:List bE)(K:Value->Option β):gD 3 1 (s::r).length (dK (s::r)) K=K (dK r):=by
 rw[show dK (s::r)=aA cO (s::r) from rfl,sE jA _ (aK _),eE (by simp)]
 rfl
theorem rM{β:Type}(l:List bE)(K:Nat->Option β):aq (dK l) K=K l.length:=cd cO l K
theorem agi{w:Nat}{m:Int}{s:bE}{r:List bE}(h1:s.bW=m)(h2:nc.isPrefixOf s.data=true)(x2:Int)(x3 x4 x5 x6 x7 x8 x9 x10 x11 x12:Value)(x13 x14:Int):Gq w m (dK (s::r)) x2 x3 x4 x5 x6 x7 x8 x9 x10 x11 x12 x13 x14=some (ag s.data,true,dK r,x2,x3,x4,x5,x6,x7,x8,x9,x10,x11,x12,x13,x14):=by
 have e1:aj (Int.ofNat (s::r).length) 0=false:=by rw[cu,gJ,cm,bY];omega
 have e2:1<=(s::r).length:=by rw[bY];omega
 have c2:∀q:List Value,cO s++q=.int .i64 s.bW::ag s.data::ag s.scan::q:=λ_=>rfl
 unfold Gq tj
 rw[rM,e1,om,(show∀q:List Value,List.drop 0 (cO s++q)=.int .i64 s.bW::ag s.data::ag s.scan::q fromλ_=>rfl)]
 simp only[bh,bQ]
 rw[h1,show aj m m=true by rw[cu,bZ],om,(show∀q:List Value,List.drop 1 (cO s++q)=ag s.data::ag s.scan::q fromλ_=>rfl)]
 simp only[bh]
 rw[Vn,h2]
 simp only[az,bO,aC]
 rw[om,c2]
 simp only[bh,bQ]
 rw[rM]
 simp only[gC,aK,e2,bd,jF,aB]
 rw[EJ]
theorem age{w:Nat}{m:Int}{s:bE}{r:List bE}(h1:s.bW=m)(h2:gy.isPrefixOf s.data=true)(x2:Int)(x3 x4 x5 x6 x7 x8 x9 x10 x11 x12:Value)(x13 x14:Int):xZ w m (dK (s::r)) x2 x3 x4 x5 x6 x7 x8 x9 x10 x11 x12 x13 x14=some (ag s.data,true,dK r,x2,x3,x4,x5,x6,x7,x8,x9,x10,x11,x12,x13,x14):=by
 have e1:aj (Int.ofNat (s::r).length) 0=false:=by rw[cu,gJ,cm,bY];omega
 have e2:1<=(s::r).length:=by rw[bY];omega
 have c2:∀q:List Value,cO s++q=.int .i64 s.bW::ag s.data::ag s.scan::q:=λ_=>rfl
 unfold xZ tj
 rw[rM,e1,om,(show∀q:List Value,List.drop 0 (cO s++q)=.int .i64 s.bW::ag s.data::ag s.scan::q fromλ_=>rfl)]
 simp only[bh,bQ]
 rw[h1,show aj m m=true by rw[cu,bZ],om,(show∀q:List Value,List.drop 1 (cO s++q)=ag s.data::ag s.scan::q fromλ_=>rfl)]
 simp only[bh]
 rw[Nj,h2]
 simp only[az,bO,aC]
 rw[om,c2]
 simp only[bh,bQ]
 rw[rM]
 simp only[gC,aK,e2,bd,jF,aB]
 rw[EJ]
theorem agd{w:Nat}{m:Int}{l:List bE}(h:yi m (λd=>gy.isPrefixOf d) l=false)(x2:Int)(x3 x4 x5 x6 x7 x8 x9 x10 x11 x12:Value)(x13 x14:Int):xZ w m (dK l) x2 x3 x4 x5 x6 x7 x8 x9 x10 x11 x12 x13 x14=some (ae 0 [],false,dK l,x2,x3,x4,x5,x6,x7,x8,x9,x10,x11,x12,x13,x14):=by
 unfold xZ tj
 rw[rM]
 cases l with
 |nil=>rfl
 |cons s r=>
  have h:(decide (s.bW=m)&&gy.isPrefixOf s.data)=false:=h
  rw[(show aj (Int.ofNat (s::r).length) 0=false from by rw[cu,gJ,cm,bY];omega),aC,om,(show∀q:List Value,List.drop 0 (cO s++q)=.int .i64 s.bW::ag s.data::ag s.scan::q fromλ_=>rfl)]
  simp only[bh,bQ,cu]
  by_cases hm:s.bW=m
  ·rw[ff hm,eD] at h
   rw[om,(show∀q:List Value,List.drop 1 (cO s++q)=ag s.data::ag s.scan::q fromλ_=>rfl)]
   simp
   rw[Nj,h]
   simp
  ·rw[fe hm,gp,aB]
theorem agh{w:Nat}{m:Int}{s:bE}{r:List bE}(h1:s.bW=m)(h2:fM.isPrefixOf s.data=true)(x2:Int)(x3 x4 x5 x6 x7 x8 x9 x10 x11 x12:Value)(x13 x14:Int):tH w m (dK (s::r)) x2 x3 x4 x5 x6 x7 x8 x9 x10 x11 x12 x13 x14=some (ag s.data,true,dK r,x2,x3,x4,x5,x6,x7,x8,x9,x10,x11,x12,x13,x14):=by
 have e1:aj (Int.ofNat (s::r).length) 0=false:=by rw[cu,gJ,cm,bY];omega
 have e2:1<=(s::r).length:=by rw[bY];omega
 have c2:∀q:List Value,cO s++q=.int .i64 s.bW::ag s.data::ag s.scan::q:=λ_=>rfl
 unfold tH tj
 rw[rM,e1,om,(show∀q:List Value,List.drop 0 (cO s++q)=.int .i64 s.bW::ag s.data::ag s.scan::q fromλ_=>rfl)]
 simp only[bh,bQ]
 rw[h1,show aj m m=true by rw[cu,bZ],om,(show∀q:List Value,List.drop 1 (cO s++q)=ag s.data::ag s.scan::q fromλ_=>rfl)]
 simp only[bh]
 rw[LZ,h2]
 simp only[az,bO,aC]
 rw[om,c2]
 simp only[bh,bQ]
 rw[rM]
 simp only[gC,aK,e2,bd,jF,aB]
 rw[EJ]
theorem agf{w:Nat}{m:Int}{l:List bE}(h:yi m (λd=>fM.isPrefixOf d) l=false)(x2:Int)(x3 x4 x5 x6 x7 x8 x9 x10 x11 x12:Value)(x13 x14:Int):tH w m (dK l) x2 x3 x4 x5 x6 x7 x8 x9 x10 x11 x12 x13 x14=some (ae 0 [],false,dK l,x2,x3,x4,x5,x6,x7,x8,x9,x10,x11,x12,x13,x14):=by
 unfold tH tj
 rw[rM]
 cases l with
 |nil=>rfl
 |cons s r=>
  have h:(decide (s.bW=m)&&fM.isPrefixOf s.data)=false:=h
  rw[(show aj (Int.ofNat (s::r).length) 0=false from by rw[cu,gJ,cm,bY];omega),aC,om,(show∀q:List Value,List.drop 0 (cO s++q)=.int .i64 s.bW::ag s.data::ag s.scan::q fromλ_=>rfl)]
  simp only[bh,bQ,cu]
  by_cases hm:s.bW=m
  ·rw[ff hm,eD] at h
   rw[om,(show∀q:List Value,List.drop 1 (cO s++q)=ag s.data::ag s.scan::q fromλ_=>rfl)]
   simp
   rw[LZ,h]
   simp
  grind
theorem agl{w:Nat}(cs:List (List UInt8))(hcs:∀c∈cs,fM.isPrefixOf c=true)(hl:cs.length<1000)(hw:2000<w){r:List bE}(h:yi 226 (λd=>fM.isPrefixOf d) r=false)(x1:Int)(x2 x3 x4 x5 x6 x7 x8 x9 x10 x11:Value)(x12 x13:Int):
 ya w (dK (cs.map (λc=>⟨226,c,[]⟩)++r)) x1 x2 x3 x4 x5 x6 x7 x8 x9 x10 x11 x12 x13=some (dK r,x1,x2,x3,x4,x5,x6,x7,x8,x9,x10,x11,x12,x13,cs.flatMap eV):=by
 obtain⟨tk,htk⟩:∃tk:List (List UInt8)->Value×Bool×Value×Int×Value×Value×Value×Value×Value×Value×Value×Value×Value×Value×Int×Int,tk=λl=>match l with
  |[]=>(ae 0 [],false,dK r,x1,x2,x3,x4,x5,x6,x7,x8,x9,x10,x11,x12,x13)
  |c::l=>(ag c,true,dK (l.map (λc=>(⟨226,c,[]⟩:bE))++r),x1,x2,x3,x4,x5,x6,x7,x8,x9,x10,x11,x12,x13):=⟨_,rfl⟩
 have ht:∀l:List (List UInt8),(∀c∈l,fM.isPrefixOf c=true)->tH w 226 (dK (l.map (λc=>(⟨226,c,[]⟩:bE))++r)) x1 x2 x3 x4 x5 x6 x7 x8 x9 x10 x11 x12 x13=some (tk l):=by
  intro l hl
  rw[htk]
  cases l with
  |nil=>exact agf h _ _ _ _ _ _ _ _ _ _ _ _ _
  |cons c l=>
   have:=agh (w:=w) (s:=⟨226,c,[]⟩) (r:=l.map (λc=>(⟨226,c,[]⟩:bE))++r) rfl (hl c nC) x1 x2 x3 x4 x5 x6 x7 x8 x9 x10 x11 x12 x13
   exact this
 unfold ya
 rw[ht cs hcs]
 refine np (ev:=λi _ (g:Value->Bool->Value->Int->Value->Value->Value->Value->Value->Value->Value->Value->Value->Value->Int->Int->List Value->Option (Value×Int×Value×Value×Value×Value×Value×Value×Value×Value×Value×Value×Int×Int×List Value))=>g (tk (cs.drop i)).1 (tk (cs.drop i)).2.1 (tk (cs.drop i)).2.2.1 (tk (cs.drop i)).2.2.2.1 (tk (cs.drop i)).2.2.2.2.1 (tk (cs.drop i)).2.2.2.2.2.1 (tk (cs.drop i)).2.2.2.2.2.2.1 (tk (cs.drop i)).2.2.2.2.2.2.2.1 (tk (cs.drop i)).2.2.2.2.2.2.2.2.1 (tk (cs.drop i)).2.2.2.2.2.2.2.2.2.1 (tk (cs.drop i)).2.2.2.2.2.2.2.2.2.2.1 (tk (cs.drop i)).2.2.2.2.2.2.2.2.2.2.2.1 (tk (cs.drop i)).2.2.2.2.2.2.2.2.2.2.2.2.1 (tk (cs.drop i)).2.2.2.2.2.2.2.2.2.2.2.2.2.1 (tk (cs.drop i)).2.2.2.2.2.2.2.2.2.2.2.2.2.2.1 (tk (cs.drop i)).2.2.2.2.2.2.2.2.2.2.2.2.2.2.2 ((cs.take i).flatMap eV)) (Inv:=λ_ _=>True) cs.length () trivial ?_ ?_ (by omega)
 ·intro i g _ hi _
  refine⟨(),trivial,?_⟩
  have hfl:((cs.take i).flatMap eV).length=i:=by
   rw[dH (k:=1) (λ_=>rfl),dI,kc (by omega),gA]
  simp only[(show tk (cs.drop i)=(ag cs[i],true,dK ((cs.drop (i+1)).map (λc=>(⟨226,c,[]⟩:bE))++r),x1,x2,x3,x4,x5,x6,x7,x8,x9,x10,x11,x12,x13) from by rw[(dk hi),htk])]
  rw[hfl,(show aG i=true from by simp;omega),ht _ (λc hc=>hcs c (qf hc)),iN hi,fw]
  rfl
 ·intro g _ _
  simp_all
theorem agm{w:Nat}(r:List bE)(hl:r.length<2^40)(hw:r.length<w)(h:∀s∈r,pE s.bW=false)(x1:Int)(x2 x3 x4 x5 x6 x7 x8 x9 x10 x11:Value)(x12 x13:Int):
 Nn w (dK r) x1 x2 x3 x4 x5 x6 x7 x8 x9 x10 x11 x12 x13=some (false,dK r,x1,x2,x3,x4,x5,x6,x7,x8,x9,x10,x11,x12,x13):=by
 refine ia (ev:=λi (g:Value->Int->Int->Value->Int->Value->Value->Value->Value->Value->Value->Value->Value->Value->Value->Int->Int->Option (Bool×Value×Int×Value×Value×Value×Value×Value×Value×Value×Value×Value×Value×Int×Int))=>g (dK r) r.length i (dK r) x1 x2 x3 x4 x5 x6 x7 x8 x9 x10 x11 x12 x13) r.length ?_ ?_ hw
 ·intro i g hi
  have c2:∀(s:bE)(q:List Value),cO s++q=.int .i64 s.bW::ag s.data::ag s.scan::q:=λ_ _=>rfl
  have ha:=h _ (cM hi)
  unfold pE at ha
  simp
  rw[show dK r=aA cO r from rfl,bu jA hi,aM (by omega) (by omega)]
  simp_all
 simp
end
section
set_option linter.unusedVariables false
set_option linter.unusedSimpArgs false
set_option linter.unusedSectionVars false
set_option linter.constructorNameAsVariable false
noncomputable def Rn(w:Nat)(aL q:Value)(a1:Int)(a2 a3 a4 a5 a6 a7 a8 a9 a10 a11:Value)(a12 a13:Int):Option (Int×Value×Value×Value×Value×Value×Value×Value×Value×Value×Value×Int×Int×Int):=
 ob (ya w q a1 a2 a3 a4 a5 a6 a7 a8 a9 a10 a11 a12 a13) λx=>AI w x (aL,true,q,0,q,q,q,q,q,q,q,q,q,q,0,0)
theorem ZU{w m:Nat}(A:Hand w){aL:List UInt8}{cs:List (List UInt8)}{r:List bE}{core:List UInt8}{cj:List UInt8}(hcs:cs=fW cj)(hicc:cj.length<=65519)
 (hm:m<2^26) (hw:2*m+200000<w) (hr:∀s∈r,pE s.bW=false) (hr1:r.length≠0) (hcore:mZ core=true) (hcw:cT (⟨216,[],[]⟩::r)=core) (hmay:mD (⟨216,[],[]⟩::r)=true) (hseg:wi (⟨216,[],[]⟩::r) m) (hlen:r.length<=m) (hcl:core.length<=m)
 {o:Int} {b1 b2 b3 b4 b5 b6 b7:Value} (h60:yb w (ag aL)=some (o,b1,b2,b3,b4,b5,b6,b7,0)) (a1:Int) (a2 a3 a4 a5 a6 a7 a8 a9 a10 a11:Value) (a12 a13:Int):
 Rn w (ag aL) (dK (cs.map (λc=>(⟨226,c,[]⟩:bE))++r)) a1 a2 a3 a4 a5 a6 a7 a8 a9 a10 a11 a12 a13=some (o,b1,b2,b3,b4,b5,b6,b7,ag cj,ag core,a11,a12,a13,0):=by
 have hq:yi 226 (λd=>fM.isPrefixOf d) r=false:=by
  cases r with
  |nil=>rfl
  |cons s r=>
   have:=hr s nC
   unfold pE at this
   rw[gJ] at this
   show(decide (s.bW=226)&&_)=false
   rw[fe (by omega)]
   rfl
 have hpre:∀c∈cs,fM.isPrefixOf c=true:=by
  intro c hc
  rw[hcs] at hc
  unfold fW at hc
  split at hc
  ·cases hc
  ·rw[oB.1 hc,qe]
   exact rY _ _
 have hchl:cs.length<=1:=by rw[hcs];unfold fW;split<;>simp
 have e0:aj 0 0=true:=rfl
 unfold Rn AI xw Ey
 rw[agl cs hpre (by omega) (by omega) hq]
 simp only[az]
 rw[agm r (by omega) (by omega) hr]
 rw[h60]
 have hcv:ae ((cs.flatMap eV).length/1) (cs.flatMap eV)=aA eV (fW cj):=by
  rw[dH (k:=1) (λ_=>rfl),kE,gA,hcs]
  rfl
 rw[hcv,ago (by omega) hicc]
 simp only[az,e0,bO,aC]
 rw[show dK r=aA cO r from rfl,zr jA,dH jA]
 have e1:(1+r.length).ble 1=false:=by rw[gC,gJ];omega
 have r2:aG r.length=true:=by simp;omega
 have hn:=nextslicecap_le (need:=1+r.length) (old:=1) (by omega)
 have r3:(Builtin.nextslicecap (1+r.length) 1).ble 5000000000=true:=by rw[iO];omega
 rw[e1,r2,r3]
 rw[show List.take 3 (List.drop 0 [Value.int IntKind.i64 216,ae 0 [],ae 0 []])++r.flatMap cO=(⟨216,[],[]⟩::r:List bE).flatMap cO from rfl,UA,Vm A _ (by omega) hseg (by rw[bY];omega) ⟨by rw[bY];omega,by omega,by omega⟩ hmay (by rw[hcw];omega),hcw]
 simp
 rw[Ni core (by omega) (by omega),hcore]
 rfl
theorem adP{sh:List aX}{s:Nat}{d:aS}(h:cD sh s d=true):Cp d:=by
 rintro tags subs blob rfl
 simp only[cD,jY] at h
 grind
theorem adQ{sh:List aX}{s:Nat}{tags:List aI}{subs:cA}{blob:List UInt8}(h:cD sh s (.mk tags subs blob)=true):∀p∈aP subs,Cp p.2 :=by
 simp[cD] at h
 intro p hp
 exact adP (I3 h.2.2.2.2 p hp).2
theorem jI.more{x:dr}{m k:Nat}(h:jI x m)(hk:m<=k):jI x k:=by
 obtain⟨⟨r0,r2,r3,r4,r1⟩,d0,d2,d3,d4,d1,hmk,hth⟩:=h
 exact⟨⟨by omega,by omega,by omega,by omega,by omega⟩,λt ht=>by have:=d0 t ht;omega,λt ht=>by have:=d2 t ht;omega,λt ht=>by have:=d3 t ht;omega,λt ht=>by have:=d4 t ht;omega,λt ht=>by have:=d1 t ht;omega,by omega,by omega⟩
theorem Ww{w:Nat}(W:dM w){x:dr}{b:List UInt8}(h:iI x=.ok b)(hx:jI x 9000)(hw:800000<w):yb w (ag b)=some (x.order,ay x.ct,ay x.bI,ay x.bN,ay x.bn,ay x.first,ag x.bH,ag x.cP,0):=by
 have hr:=hx.rows
 obtain⟨-,-,hp2,hp3,hp4⟩:=yM h (by unfold qC at hr⊢;omega)
 have hce:iJ x=0:=by
  unfold iI at h
  split at h<;>grind
 have TR:=CY W hx hce
 have hl:(ed (eM x) da).length<=65533:=by
  rw[hp3,aR] at hp2
  omega
 obtain⟨-,k1,k2,-⟩:=VR hx (by decide)
 have hsp:=GA (eM x).dO 0 8 TR.hd
 have hsp3:(eY (eM x)).length=(jk 0 8 (eM x).dO).length+1:=rfl
 have h114:=aeQ W.hand (by omega) (by omega) (Mc (b:=ed (eM x) da) (by omega) (by omega) ID (λs hs=>by have:=PB s hs;omega) (by decide) (by decide) TR.sO (S:=eY (eM x)) (by omega) (by rw[hp4];rfl)) TR.check (by rw[ag8];exact RE hce) (hx.more (by omega)) TR.je TR.hd (λd hd tags subs blob he p hp=>by
  obtain⟨s,hs⟩:=I2 TR.hh d hd
  rw[he] at hs
  exact adQ hs p hp)
 exact agn hp3 hp2 h114
theorem Xj{core:List UInt8}{r:List bE}(c4:cT (⟨216,[],[]⟩::r)=core)(hmay:mD (⟨216,[],[]⟩::r)=true):wi (⟨216,[],[]⟩::r) core.length:=by
 intro s hs
 rcases cQ.1 hs with rfl|hs2
 ·simp
 ·have h1:=LP hs
  by_cases ha:iR s.bW=true
  ·obtain⟨-,-,q,-⟩:=NU hmay hs
   grind
  ·unfold cL at h1
   grind
theorem Qd{x:mU}{aL:List UInt8}{r:List bE}(c2:yY x.core=⟨216,[],[]⟩::r)(c4:cT (⟨216,[],[]⟩::r)=x.core):(eJ x aL).length<=100+aL.length+x.cn.length+x.cj.length+x.core.length:=by
 have e:eJ x aL=cL ⟨216,[],[]⟩++(cL ⟨225,aL,[]⟩++(cT (if x.cn.length=0 then[] else[⟨226,x.cn,[]⟩])++(cT ((fW x.cj).map (λc=>⟨226,c,[]⟩))++cT r))):=by
  unfold eJ jf
  rw[c2]
  simp[cT]
 have k1:(cL ⟨216,[],[]⟩).length=2:=rfl
 have k2:(cL ⟨225,aL,[]⟩).length<=aL.length+4:=by unfold cL;split<;>simp<;>omega
 have k3:(cT (if x.cn.length=0 then[] else[⟨226,x.cn,[]⟩])).length<=x.cn.length+4:=by
  split
  ·simp[cT]
  ·simp[cT]
   unfold cL;split<;>simp<;>omega
 have k4:(cT ((fW x.cj).map (λc=>⟨226,c,[]⟩))).length<=x.cj.length+30:=by
  unfold fW
  split
  ·simp[cT]
  ·simp[cT]
   unfold cL;split<;>simp[fM]<;>omega
 have k5:(cT r).length<=x.core.length:=by
  have:=bV List.length c4
  rw[kA,aR] at this
  omega
 simp_all
 omega
theorem WZ(w:Nat)(l:List UInt8)(hl:l.length<=1000000000):Gr w (ag l)=some (ag l):=by
 unfold Gr
 rw[cJ]
 by_cases h:l.length=0
 ·have:l=[]:=qS.1 h
  subst this
  rfl
 ·have e1:Nat.beq l.length 0=false:=by
   rw[Bool.eq_false_iff];intro q;exact h (bU q)
  rw[e1]
  have hn:=nextslicecap_le (need:=0+l.length) (old:=0) (by omega)
  have e5:(0+l.length).ble 0=false:=by rw[gC,gJ];omega
  have e6:Nat.blt 0 l.length=true:=by rw[mn,bZ];omega
  have r1:aG l.length=true:=by simp;omega
  unfold Nl Ez
  rw[cJ,e6,gV,gR,e5,r1,(show(Builtin.nextslicecap (0+l.length) 0).ble 5000000000=true from by rw[iO];omega)]
  simp
  rw[nP]
theorem U9{w m:Nat}(y:List UInt8)(hy:y.length<2^26)(W:dM w){x:mU}{aL:List UInt8}(h:we x aL)(hx:jI x.aF 9000)(hm:m<2^24)(hc:x.core.length<=m/\x.cj.length<=m/\x.cn.length<=m)(hw:2*m+800000+y.length<w):
 vq w (ag (eJ x aL++y))=some (x.aF.order,ay x.aF.ct,ay x.aF.bI,ay x.aF.bN,ay x.aF.bn,ay x.aF.first,ag x.aF.bH,ag x.aF.cP,ag x.cj,ag x.core,ag x.cn,if x.cn.length=0 then 0 else((aL.length+10:Nat):Int),((eJ x aL).length:Int),0):=by
 have hb:=W.kg
 have hA:=W.hand
 obtain⟨-,hp1,hp2,hp3,hp4⟩:=yM h.app h.rows
 have hrd:ofM (eJ x aL++y)=.ok (jf x aL) (eJ x aL).length:=RF (I8 h.core hp2 h.cj (by rcases h.cn with q|q;omega;exact q.2)) y
 obtain⟨r,c1,c2,c3,c4,c5,c6⟩:=CI h.core
 have hrl:r.length<=x.core.length:=by simpa using(DD _ _ _ _ _ _ c1)
 have hmayC:mD (⟨216,[],[]⟩::r)=true:=by
  show(true&&jh r)=true
  rw[c3];rfl
 have hr0:r.length≠0:=by
  obtain⟨s,hs,_⟩:=c5
  intro q
  rw[qS.1 q] at hs
  cases hs
 have h60:=Ww W h.app hx (by omega)
 have himl:=Qd (aL:=aL) c2 c4
 have hi3:=h.cj
 have htail:=λq=>ZU (m:=m) hA (aL:=aL) (cs:=fW x.cj) (r:=r) (core:=x.core) (cj:=x.cj) rfl h.cj (by omega) (by omega) c6 hr0 h.core c4 hmayC (λs hs=>by have:=Xj c4 hmayC s hs;omega) (by omega) (by omega) h60 0 (ae 0 []) (ae 0 []) (ae 0 []) (ae 0 []) (ae 0 []) (ae 0 []) (ae 0 []) (ae 0 []) (ae 0 []) q
 have hL:jf x aL=⟨216,[],[]⟩::⟨225,aL,[]⟩::((if x.cn.length=0 then[] else[⟨226,x.cn,[]⟩])++((fW x.cj).map (λc=>⟨226,c,[]⟩)++r)):=by unfold jf;rw[c2];rfl
 unfold vq xw AI Ey
 rw[Gp _ (by rw[aR];omega) (by rw[aR];omega),hrd]
 simp only[az,(rfl),bO,aC]
 rw[hL,rM]
 have hbl:∀(s:bE)(l:List bE),((s::l).length.ble (s::l).length&&Nat.ble 1 (s::l).length)=true:=by
  intro s l
  rw[gC,gC,ff (aK _),ff (by rw[bY];omega)]
  rfl
 rw[hbl,aB,EJ,agi (s:=⟨225,aL,[]⟩) rfl hp1]
 simp only[az,bO,aC]
 by_cases hmp:x.cn.length=0
 ·rw[au hmp,au hmp,fU]
  have hno:yi 226 (λd=>gy.isPrefixOf d) ((fW x.cj).map (λc=>(⟨226,c,[]⟩:bE))++r)=false:=by
   unfold fW
   split
   ·show yi 226 _ r=false
    cases r with
    |nil=>rfl
    |cons s r=>
     have:=c6 s nC
     unfold pE at this
     rw[gJ] at this
     show(decide (s.bW=226)&&_)=false
     rw[fe (by omega)]
     rfl
   ·rfl
  rw[agd hno]
  have:x.cn=[]:=qS.1 hmp
  rw[this]
  exact htail (ae 0 []) 0 ((eJ x aL).length:Int)
 ·rw[ai hmp,ai hmp]
  obtain⟨m1,m2⟩:=h.cn.resolve_left hmp
  rw[show[⟨226,x.cn,[]⟩]++((fW x.cj).map (λc=>⟨226,c,[]⟩)++r)=(⟨226,x.cn,[]⟩:bE)::((fW x.cj).map (λc=>⟨226,c,[]⟩)++r) from rfl,age (s:=⟨226,x.cn,[]⟩) rfl m1]
  simp only[az,aB]
  rw[WZ w _ (by omega)]
  simp only[az]
  rw[cJ,bT,bT,cm,aM (n:=(6:Int)+(aL.length:Int)) (by omega) (by omega),aM (by omega) (by omega),show(6:Int)+(aL.length:Int)+4=((aL.length+10:Nat):Int) by omega]
  exact htail (ag x.cn) ((aL.length+10:Nat):Int) ((eJ x aL).length:Int)
theorem afB{w m:Nat}(W:dM w){x:mU}{aL:List UInt8}(h:we x aL)(hx:jI x.aF 9000)(hm:m<2^24)(hc:x.core.length<=m/\x.cj.length<=m/\x.cn.length<=m)(hw:2*m+800000<w):
 vq w (ag (eJ x aL))=some (x.aF.order,ay x.aF.ct,ay x.aF.bI,ay x.aF.bN,ay x.aF.bn,ay x.aF.first,ag x.aF.bH,ag x.aF.cP,ag x.cj,ag x.core,ag x.cn,if x.cn.length=0 then 0 else((aL.length+10:Nat):Int),((eJ x aL).length:Int),0):=by
 have:=U9 [] (by decide) W h hx hm hc (by simpa using hw)
 rwa[dX] at this
end
end Lt
end Go.Proofs.YtcfjfbeadhnknaaGreatDoor

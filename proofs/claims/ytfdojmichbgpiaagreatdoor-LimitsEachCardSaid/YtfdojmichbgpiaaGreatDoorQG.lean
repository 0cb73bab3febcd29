import Derived.Still
import Derived.Test.YtfdojmichbgpiaaGreatDoorQF
namespace Go.Proofs.YtfdojmichbgpiaaGreatDoor
section
def RJ(d:Int):List ((Int×Int)×List Int×Int):=
 ([0x0100,0x0101].map λt=>((d,t),[3,4],1))++([0x0103,0x0112,0x0128,0x0213].map λt=>((d,t),[3],1))++
 ([0x010e,0x010f,0x0110,0x0131,0x013b,0x8298].map λt=>((d,t),[2],0))++[((d,0x0132),[2],20),((d,0x011a),[5],1),((d,0x011b),[5],1)]
def aeG(d:Int):List ((Int×Int)×List Int×Int):=
 ([0x829a,0x829d,0x9202,0x920a].map λt=>((d,t),[5],1))++([0x8822,0x9207,0x9208,0x9209,0xa001,0xa402].map λt=>((d,t),[3],1))++
 ([0x9000,0x9101,0xa000].map λt=>((d,t),[7],4))++([0x9201,0x9204].map λt=>((d,t),[10],1))++([0x9003,0x9004].map λt=>((d,t),[2],20))++
 ([0xa002,0xa003].map λt=>((d,t),[3,4],1))++[((d,0x8827),[3],0),((d,0x9286),[7],0),((d,0x9290),[2],0),((d,0xa300),[7],1),((d,0xa420),[2],33),((d,0xa432),[5],4)]
def ZY(d:Int):List ((Int×Int)×List Int×Int):=
 [((d,0x00),[1],4),((d,0x05),[1],1),((d,0x06),[5],1)]++([0x01,0x03].map λt=>((d,t),[2],2))++([0x02,0x04,0x07].map λt=>((d,t),[5],3))++
 [((d,0x12),[2],0),((d,0x1d),[2],11)]
def ait(d:Int):List ((Int×Int)×List Int×Int):=
 [((d,0xb000),[7],4)]++([0xb101,0xb201,0xb202].map λt=>((d,t),[4],1))++([0xb204,0xb206].map λt=>((d,t),[5],1))++([0xb205,0xb208].map λt=>((d,t),[10],1))
def U2:List ((Int×Int)×List Int×Int):=
 RJ 0++RJ 1++aeG 2++ZY 3++[((4,1),[2],4),((4,2),[7],4)]++ait 5
def Ml(d t:Int):Option (List Int×Int):=U2.lookup (d,t)
def o6:List (Int×Int):=[(0,0x8769),(0,0x8825),(1,0x0201),(1,0x0202),(2,0x927c),(2,0xa005),(5,0xb001),(5,0xb002)]
def sc(d:Int)(x:aI):Bool:=
 decide (0<=d/\d<6/\0<=x.tag/\x.tag<=65535)&&!o6.contains (d,x.tag)&&dW x.ty x.au x.data&&
  (match Ml d x.tag with
   |none=>true
   |some (l,c)=>l.contains x.ty&&(c==0||c==x.au))
def dz(d:Int)(l:List aI):Bool:=fD l&&l.all (sc d)&&decide (0<=d/\d<6)
structure di where
 order:Int
 cP:List aI
 bR:List aI
 bZ:List aI
 bp:List aI
 first:List aI
 bQ:List UInt8
 dq:List UInt8
 deriving DecidableEq
def hU(x:di):Int:=
 if¬(x.order=1\/x.order=2) then 1
 else if(dz 0 x.cP&&(dz 2 x.bR&&(dz 3 x.bZ&&(dz 4 x.bp&&dz 1 x.first))))=false then 6
 else if 65536<x.bQ.length\/(x.cP.length=0/\x.bR.length=0/\x.bZ.length=0/\x.bp.length=0/\x.bQ.length=0) then 6
 else 0
variable{x:di}
theorem tM(h:hU x=0):(x.order=1\/x.order=2)/\dz 0 x.cP=true/\dz 2 x.bR=true/\dz 3 x.bZ=true/\dz 4 x.bp=true/\dz 1 x.first=true/\x.bQ.length<=65536/\
 ¬(x.cP.length=0/\x.bR.length=0/\x.bZ.length=0/\x.bp.length=0/\x.bQ.length=0):=by
 unfold hU at h
 grind
def iI(l:List aI)(tag:Int):Option aI:=l.find? λx=>x.tag==tag
def oQ(l:List aI)(tag:Int):List aI:=l.filter λx=>x.tag !=tag
def jG(l:List aI)(x:aI):List aI:=(l.filter λy=>decide (y.tag<x.tag))++x::l.filter λy=>decide (x.tag<y.tag)
theorem F4:∀{a:aI}{l:List aI},fD (a::l)=true->fD l=true/\∀y∈l,a.tag<y.tag
 |a,[],_=>⟨rfl,λy h=>by cases h⟩
 |a,b::l,h=>by
  simp[fD] at h;obtain⟨h1,h2⟩:=F4 h.2
  grind
theorem Mb{a:aI}:∀{l:List aI},fD l=true->(∀y∈l,a.tag<y.tag)->fD (a::l)=true
 |[],_,_=>rfl
 |b::l,h,g=>by simp[fD];simp_all
variable{α:Type} {p:α->Bool}
theorem yv:∀{l:List α},(∀y∈l,p y=true)->l.filter p=l
 |[],_=>rfl
 |a::l,h=>by simp_all
theorem filter_nil:∀{l:List α},(∀y∈l,p y=false)->l.filter p=[]
 |[],_=>rfl
 |a::l,h=>by simp_all
theorem WD(t:Int):∀{l:List aI},fD l=true->(∀y∈l,y.tag≠t)->(l.filter λy=>decide (y.tag<t))++(l.filter λy=>decide (t<y.tag))=l
 |[],_,_=>rfl
 |a::l,h,hn=>by
  obtain⟨h1,h2⟩:=F4 h;have h0:=hn a (by simp);by_cases c:a.tag<t
  ·rw[jK,ar (by grind),jK,ai (by simp;omega),jg,(WD t h1 λy hy=>hn y (by simp[hy]))]
  ·rw[jK,ai (by grind),jK,ar (by simp;omega)];rw[filter_nil (λy hy=>by have:=h2 y hy;simp;omega),yv (λy hy=>by have:=h2 y hy;simp;omega)];rfl
theorem VE(x:aI):∀{l:List aI},fD l=true->fD (jG l x)=true
 |[],_=>rfl
 |a::l,h=>by
  obtain⟨h1,h2⟩:=F4 h;have ih:=VE x h1;unfold jG at ih⊢;by_cases c:a.tag<x.tag
  ·rw[jK,ar (by simpa using c),jK,ai (by simp;omega)];refine Mb ih λy hy=>?_;rcases eM.1 hy with hy|hy
   ·exact h2 y (oE.1 hy).1
   ·rcases cj.1 hy with rfl|hy
    ·exact c
    ·exact h2 y (oE.1 hy).1
  ·have e:((a::l).filter λy=>decide (y.tag<x.tag))=[]:=filter_nil λy hy=>by
    rcases cj.1 hy with rfl|hy<;>grind
   rw[e];refine Mb ?_ (λy hy=>by simpa using(oE.1 hy).2);rw[jK];split
   ·rename_i q;refine Mb ?_ λy hy=>h2 y (oE.1 hy).1;rw[yv λy hy=>by have:=h2 y hy;simp at q⊢;omega];exact h1
   ·rename_i q;rw[yv λy hy=>by have:=h2 y hy;simp at q⊢;omega];exact h1
variable{l:List aI}
theorem VD{x y:aI}(h:y∈jG l x):y=x\/y∈l:=by
 rcases eM.1 h with h|h
 ·grind
 grind
theorem VC(l:List aI)(x:aI):(jG l x).length<=l.length+1:=by
 unfold jG;have h1:∀l:List aI,(l.filter λy=>decide (y.tag<x.tag)).length+(l.filter λy=>decide (x.tag<y.tag)).length<=l.length:=by
  intro l;induction l with
  |nil=>simp
  |cons a l ih=>grind
 grind
theorem drop_set{x:aI}(h:fD l=true)(hn:∀y∈l,y.tag≠x.tag):oQ (jG l x) x.tag=l:=by unfold oQ jG;rw[List.filter_append,jK,ai (by simp),yv λy hy=>by simpa using hn y (oE.1 hy).1,yv (p:=λy:aI=>y.tag !=x.tag) λy hy=>by simpa using hn y (oE.1 hy).1];exact WD x.tag h hn
theorem Zx(x:aI)(l:List aI):iI (jG l x) x.tag=some x:=by
 unfold iI jG
 grind
variable{t:Int}
theorem Zw(hn:∀y∈l,y.tag≠t):iI l t=none:=by
 unfold iI
 grind
theorem Y5(hn:∀y∈l,y.tag≠t):oQ l t=l:=yv λy hy=>by simpa using hn y hy
def da:List aV:=[⟨[⟨34665,2⟩,⟨34853,3⟩],0,0,1⟩,⟨[],513,514,-1⟩,⟨[⟨40965,4⟩],0,0,-1⟩,⟨[],0,0,-1⟩,⟨[],0,0,-1⟩]
def iY(b:List UInt8):aI:=⟨37500,7,b.length,b⟩
def je(x:di):aO:=.mk (if x.bQ.length=0 then x.bR else jG x.bR (iY x.bQ)) (if x.bp.length=0 then .nil else .cons 40965 (.mk x.bp .nil []) .nil) []
def mS(x:di):cF:=if x.bZ.length=0 then .nil else .cons 34853 (.mk x.bZ .nil []) .nil
def jd(x:di):cF:=if x.bR.length=0/\x.bp.length=0/\x.bQ.length=0 then mS x else .cons 34665 (je x) (mS x)
def eC(x:di):lR:=⟨x.order,.mk x.cP (jd x) []::(if x.first.length=0/\x.dq.length=0 then[] else[.mk x.first .nil x.dq])⟩
theorem JX:iu da:=by
 have key:∀s,aJ da s=S9\/s<5:=by
  intro s;by_cases h:s<5
  ·exact .inr h
  ·left;unfold aJ;rw[lN (by simp[da];omega)];rfl
 refine⟨λs=>?_,λs hs x hx=>?_,λs hs=>?_⟩
 ·rcases key s with h|h
  ·rw[h];exact⟨λx hx=>(by cases hx),λh=>absurd rfl h⟩
  ·have:s=0\/s=1\/s=2\/s=3\/s=4:=by omega
   rcases this with rfl|rfl|rfl|rfl|rfl
   ·refine⟨λx hx=>?_,λh=>absurd rfl h⟩;have hx:x∈[(⟨34665,2⟩:gU),⟨34853,3⟩]:=hx;simp_all;rcases hx with rfl|rfl<;>exact⟨by decide,by decide,rfl⟩
   ·refine⟨λx hx=>(by cases hx),λ_=>⟨by decide,by decide,by decide⟩⟩
   ·refine⟨λx hx=>?_,λh=>absurd rfl h⟩;have hx:x∈[(⟨40965,4⟩:gU)]:=hx;simp at hx;rcases hx with rfl
    exact⟨by decide,by decide,rfl⟩
   ·exact⟨λx hx=>(by cases hx),λh=>absurd rfl h⟩
   ·exact⟨λx hx=>(by cases hx),λh=>absurd rfl h⟩
 ·have:s=0\/s=1\/s=2\/s=3\/s=4:=by simp[da] at hs;omega
  rcases this with rfl|rfl|rfl|rfl|rfl
  ·have hx:x∈[(⟨34665,2⟩:gU),⟨34853,3⟩]:=hx;simp_all;rcases hx with rfl|rfl<;>exact⟨by decide,by decide⟩
  ·cases hx
  ·have hx:x∈[(⟨40965,4⟩:gU)]:=hx;simp at hx;rcases hx with rfl;exact⟨by decide,by decide⟩
  ·cases hx
  ·cases hx
 ·have:s=0\/s=1\/s=2\/s=3\/s=4:=by simp[da] at hs;omega
  rcases this with rfl|rfl|rfl|rfl|rfl
  ·right;exact⟨by decide,by decide⟩
  all_goals left;decide
variable{d:Int}
theorem EW{x:aI}(h:sc d x=true):0<=x.tag/\x.tag<=65535/\o6.contains (d,x.tag)=false/\dW x.ty x.au x.data=true:=by
 unfold sc at h
 grind
theorem zg(h:dz d l=true):fD l=true/\∀x∈l,sc d x=true:=by
 unfold dz at h
 grind
variable{S:aV}
theorem Ae(h:dz d l=true)(ho:∀t,ej S t=true->o6.contains (d,t)=true):jI S l=true:=by
 obtain⟨h1,h2⟩:=zg h;unfold jI;rw[bg,jf];refine⟨h1,λt ht=>?_⟩;obtain⟨a,b,c,e⟩:=EW (h2 t ht);have:ej S t.tag=false:=by grind
 rw[this,e];simp[my];omega
theorem E1(h:S.bG=[])(ha:S.at_=0)(t:Int):ej S t=false:=by
 unfold ej eS eZ
 grind
theorem aeu(t:Int)(h:ej (aJ da 0) t=true):o6.contains (0,t)=true:=by
 have:t=34665\/t=34853:=by
  have h:(([(⟨34665,2⟩:gU),⟨34853,3⟩].any λx=>x.tag==t)||(decide ((0:Int)≠0)&&(decide (t=0)||decide (t=0))))=true:=h
  grind
 rcases this with rfl|rfl<;>rfl
theorem Lv(t:Int)(h:ej (aJ da 1) t=true):o6.contains (1,t)=true:=by
 have:t=513\/t=514:=by have h:(([]:List gU).any (λx=>x.tag==t)||(decide ((513:Int)≠0)&&(decide (t=513)||decide (t=514))))=true:=h;simp_all
 rcases this with rfl|rfl<;>rfl
theorem um(t:Int)(h:ej (aJ da 2) t=true):t=40965:=by
 have h:(([(⟨40965,4⟩:gU)].any λx=>x.tag==t)||(decide ((0:Int)≠0)&&(decide (t=0)||decide (t=0))))=true:=h
 grind
theorem aew(t:Int):ej (aJ da 3) t=false:=E1 rfl rfl t
theorem aex(t:Int):ej (aJ da 4) t=false:=E1 rfl rfl t
theorem abw{b:List UInt8}(h1:b.length≠0)(h2:b.length<=65536):dW (iY b).ty (iY b).au (iY b).data=true:=by
 unfold dW iY;have:(kindOf 7).1 =1:=rfl
 grind
def qX(x:di)(m:Nat):Prop:=x.cP.length<=m/\x.bR.length<=m/\x.bZ.length<=m/\x.bp.length<=m/\x.first.length<=m
theorem LB(h:dz 2 x.bR=true):∀y∈x.bR,y.tag≠37500:=by intro y hy e;have:=(EW ((zg h).2 y hy)).2.2.1;rw[e] at this;cases this
theorem WX(h:hU x=0)(hm:qX x 65000)(hp:¬(x.bR.length=0/\x.bp.length=0/\x.bQ.length=0)):cK da 2 (je x)=true:=by
 obtain⟨-,-,h2,-,h4,-,hmk,-⟩:=tM h;obtain⟨-,m2,-,m4,-⟩:=hm;have hl:=VC x.bR (iY x.bQ);have ht:jI (aJ da 2) (if x.bQ.length=0 then x.bR else jG x.bR (iY x.bQ))=true:=by
  have h0:=Ae h2 λt q=>by rw[um t q];rfl
  split
  ·exact h0
  ·rename_i hmk0;unfold jI at h0⊢;rw[bg,jf] at h0⊢;refine⟨VE _ h0.1,λt ht=>?_⟩;rcases VD ht with rfl|ht
   ·rw[abw hmk0 hmk];have:ej (aJ da 2) (iY x.bQ).tag=false:=by
     cases q:ej (aJ da 2) (iY x.bQ).tag with
     |false=>rfl
     |true=>exact absurd (um _ q) (show¬((37500:Int)=40965) by decide)
    rfl
   ·exact h0.2 t ht
 unfold je cK;rw[ht];have hn:1<=bF (.mk (if x.bQ.length=0 then x.bR else jG x.bR (iY x.bQ)) (if x.bp.length=0 then .nil else .cons 40965 (.mk x.bp .nil []) .nil) [])/\
  bF (.mk (if x.bQ.length=0 then x.bR else jG x.bR (iY x.bQ)) (if x.bp.length=0 then .nil else .cons 40965 (.mk x.bp .nil []) .nil) [])<=65535:=by
  have hl0:1<=(jG x.bR (iY x.bQ)).length:=by unfold jG;simp;omega
  by_cases a:x.bQ.length=0
  ·by_cases b:x.bp.length=0
   ·rw[ar a,ar b];simp only[bF,cm,List.length_nil,gj];omega
   ·rw[ar a,ai b];simp only[bF,cm,List.length_nil,gj];omega
  ·by_cases b:x.bp.length=0
   ·rw[ai a,ar b];simp only[bF,cm,List.length_nil,gj];omega
   ·rw[ai a,ai b];simp only[bF,cm,List.length_nil,gj];omega
 rw[fS hn];by_cases b:x.bp.length=0
 ·rw[ar b];rfl
 ·rw[ai b];have hi:cK da 4 (.mk x.bp .nil [])=true:=by
   unfold cK;rw[Ae h4 λt q=>by rw[aex] at q;cases q];have:1<=bF (.mk x.bp .nil [])/\bF (.mk x.bp .nil [])<=65535:=by simp only[bF,cm,List.length_nil,gj];omega
   rw[fS this];rfl
  show((nh [40965]&&(true&&(cK da 4 (.mk x.bp .nil [])&&true))))=true;rw[hi];rfl
theorem Ry(h:hU x=0)(hm:qX x 65000)(hp:x.bZ.length≠0):cK da 3 (.mk x.bZ .nil [])=true:=by
 obtain⟨-,-,-,h3,-,-,-,-⟩:=tM h;obtain⟨-,-,m3,-,-⟩:=hm;unfold cK;rw[Ae h3 λt q=>by rw[aew] at q;cases q];have:1<=bF (.mk x.bZ .nil [])/\bF (.mk x.bZ .nil [])<=65535:=by simp[bF,cm];omega
 rw[fS this];rfl
theorem Xa(h:hU x=0)(hm:qX x 65000):fK da 0 (eC x).eK=true:=by
 obtain⟨-,h0,-,-,-,h1,-,ca⟩:=tM h;have hm':=hm;obtain⟨m0,m2,m3,m4,m1⟩:=hm';have hsub:(nh (kx (jd x))&&iB da (aJ da 0) (jd x))=true:=by
  unfold jd mS;by_cases a:x.bR.length=0/\x.bp.length=0/\x.bQ.length=0
  ·rw[ar a];by_cases b:x.bZ.length=0
   ·rw[ar b];rfl
   ·rw[ai b];show((nh [34853]&&(true&&(cK da 3 (.mk x.bZ .nil [])&&true))))=true;rw[Ry h hm b];rfl
  ·rw[ai a];by_cases b:x.bZ.length=0
   ·rw[ar b];show((nh [34665]&&(true&&(cK da 2 (je x)&&true))))=true;rw[WX h hm a];rfl
   ·rw[ai b];show((nh [34665,34853]&&(true&&(cK da 2 (je x)&&(true&&(cK da 3 (.mk x.bZ .nil [])&&true))))))=true;rw[WX h hm a,Ry h hm b];rfl
 have hs2:cm (jd x)<=2/\(x.cP.length=0->1<=cm (jd x)):=by
  unfold jd mS;by_cases a:x.bR.length=0/\x.bp.length=0/\x.bQ.length=0
  ·rw[ar a];by_cases b:x.bZ.length=0
   ·rw[ar b];simp only[cm];omega
   ·rw[ai b];simp only[cm];omega
  ·rw[ai a];by_cases b:x.bZ.length=0
   ·rw[ar b];simp only[cm];omega
   ·rw[ai b];simp only[cm];omega
 have hd0:cK da 0 (.mk x.cP (jd x) [])=true:=by
  unfold cK;rw[Ae h0 aeu,hsub];have:1<=bF (.mk x.cP (jd x) [])/\bF (.mk x.cP (jd x) [])<=65535:=by simp[bF];omega
  rw[fS this];rfl
 unfold eC;have hx:∀ds,fK da 0 (.mk x.cP (jd x) []::ds)=(decide ((0:Int)<=0)&&(cK da 0 (.mk x.cP (jd x) [])&&fK da 1 ds)):=λds=>rfl;simp only;rw[hx,hd0];by_cases a:x.first.length=0/\x.dq.length=0
 ·rw[ar a];rfl
 ·rw[ai a];have hd1:cK da 1 (.mk x.first .nil x.dq)=true:=by
   unfold cK;rw[Ae h1 Lv];have:1<=bF (.mk x.first .nil x.dq)/\bF (.mk x.first .nil x.dq)<=65535:=by simp only[bF,cm];split<;>omega
   rw[fS this];have:decide ((aJ da 1).at_≠0)=true:=rfl;rw[this];simp[iB,nh,kx]
  have hx:fK da 1 [.mk x.first .nil x.dq]=(decide ((0:Int)<=1)&&(cK da 1 (.mk x.first .nil x.dq)&&true)):=rfl;rw[hx,hd1];rfl
def yK(l:List aI):cF->List aI
 | .nil=>l
 | .cons _ (.mk tags _ _) r=>yK tags r
def qW(r:di):aO->Option di
 | .mk tags subs _=>match iI tags 37500 with
  |some v=>if v.ty=7 then some {r with bR:=oQ tags 37500,bQ:=v.data,bp:=yK r.bp subs} else none
  |none=>some {r with bR:=oQ tags 37500,bQ:=[],bp:=yK r.bp subs}
def rq(r:di):cF->Option di
 | .nil=>some r
 | .cons tag d s=>if tag=34853 then rq {r with bZ:=(match d with| .mk tags _ _=>tags)} s else(qW r d).bind λr=>rq r s
def vX(r:di):List aO->di
 |[]=>r
 | .mk tags _ blob::ds=>vX {r with first:=tags,dq:=blob} ds
def yS(t:lR):Option di:=match t.eK with
 |[]=>none
 | .mk tags subs _::ds=>(rq ⟨t.order,tags,[],[],[],[],[],[]⟩ subs).bind λr=>if hU (vX r ds)=0 then some (vX r ds) else none
theorem mf{l:List α}(h:l.length=0):l=[]:=qu.1 h
theorem aeH(h:dz 2 x.bR=true)(r:di)(hi:r.bp=[]):qW r (je x)=some {r with bR:=x.bR,bQ:=x.bQ,bp:=x.bp}:=by
 have hl:yK r.bp (if x.bp.length=0 then .nil else .cons 40965 (.mk x.bp .nil []) .nil)=x.bp:=by
  split
  ·rename_i q;rw[mf q];exact hi
  ·rfl
 unfold je qW;simp only;rw[hl];by_cases a:x.bQ.length=0
 ·rw[ar a,Zw (LB h),Y5 (LB h),mf a]
 ·rw[ai a];have e1:=Zx (iY x.bQ) x.bR;have e2:=drop_set (x:=iY x.bQ) (zg h).1 (LB h);rw[(show(iY x.bQ).tag=37500 from rfl)] at e1 e2;rw[e1,e2];rfl
theorem Tj(h:hU x=0):yS (eC x)=some x:=by
 obtain⟨-,-,h2,-,-,-,-,-⟩:=tM h;have hs:rq ⟨x.order,x.cP,[],[],[],[],[],[]⟩ (jd x)=some {x with first:=[],dq:=[]}:=by
  have hg:∀r:di,r.bZ=[]->rq r (mS x)=some {r with bZ:=x.bZ}:=by
   intro r hr;unfold mS;split
   ·rename_i q;rw[mf q,<-hr];rfl
   ·rfl
  unfold jd;split
  ·rename_i q;rw[hg _ rfl,mf q.1,mf q.2.1,mf q.2.2]
  ·show(if(34665:Int)=34853 then rq _ (mS x) else(qW _ (je x)).bind λr=>rq r (mS x))=_;rw[aeH h2 _ rfl];exact hg _ rfl
 have hf:vX {x with first:=[],dq:=[]} (if x.first.length=0/\x.dq.length=0 then[] else[.mk x.first .nil x.dq])=x:=by
  split
  ·rename_i q;show di.mk _ _ _ _ _ [] _ []=x;rw[<-mf q.1,<-mf q.2]
  ·rfl
 unfold yS eC;simp only;rw[hs];simp only[Option.bind];rw[hf,ar h]
end
section
structure gB where
 attr:Int
 size:Int
 at_:Int
 fV:Int
 fW:Int
 deriving DecidableEq
def ou(p:gB):Bool:=decide ((0<=p.attr/\p.attr<4294967296)/\(0<=p.size/\p.size<4294967296)/\(0<=p.at_/\p.at_<4294967296)/\(0<=p.fV/\p.fV<65536)/\(0<=p.fW/\p.fW<65536))
def fZ(o:Int)(p:gB):List UInt8:=aU p.attr.toNat 4 o++(aU p.size.toNat 4 o++(aU p.at_.toNat 4 o++(aU p.fV.toNat 2 o++aU p.fW.toNat 2 o)))
theorem FB(o:Int)(p:gB):(fZ o p).length=16:=by simp[fZ,eh]
theorem wC(o:Int):∀l:List gB,(l.flatMap (fZ o)).length=16*l.length
 |[]=>rfl
 |p::l=>by rw[ff,aR,FB,wC o l,cQ];omega
def LC(b:List UInt8)(p:Nat)(o:Int):gB:=⟨cn b p 4 o,cn b (p+4) 4 o,cn b (p+8) 4 o,cn b (p+12) 2 o,cn b (p+14) 2 o⟩
def placesOf(b:List UInt8)(o:Int):Nat->Nat->List gB
 |_,0=>[]
 |p,n+1=>LC b p o::placesOf b o (p+16) n
variable{b:List UInt8} {o:Int}
theorem aeK{pre post:List UInt8}{k:Nat}{p:gB}(e:b=pre++(fZ o p++post))(hk:k=pre.length)(ho:o=1\/o=2)(h:ou p=true):LC b k o=p:=by
 unfold ou at h;simp at h;obtain⟨a1,a2,a3,a4,a5⟩:=h;have e0:b=pre++(aU p.attr.toNat 4 o++(aU p.size.toNat 4 o++(aU p.at_.toNat 4 o++(aU p.fV.toNat 2 o++(aU p.fW.toNat 2 o++post))))):=by rw[e];simp[fZ]
 have e1:b=(pre++aU p.attr.toNat 4 o)++(aU p.size.toNat 4 o++(aU p.at_.toNat 4 o++(aU p.fV.toNat 2 o++(aU p.fW.toNat 2 o++post)))):=by rw[e0];simp
 have e2:b=(pre++aU p.attr.toNat 4 o++aU p.size.toNat 4 o)++(aU p.at_.toNat 4 o++(aU p.fV.toNat 2 o++(aU p.fW.toNat 2 o++post))):=by rw[e0];simp
 have h3:=oo (p:=k+8) e2 (by simp[eh,hk]) (.inr (.inr rfl)) ho (by omega);have e3:b=(pre++aU p.attr.toNat 4 o++aU p.size.toNat 4 o++aU p.at_.toNat 4 o)++(aU p.fV.toNat 2 o++(aU p.fW.toNat 2 o++post)):=by rw[e0];simp
 have h4:=oo (p:=k+12) e3 (by simp[eh,hk]) (.inr (.inl rfl)) ho (by omega);have e4:b=(pre++aU p.attr.toNat 4 o++aU p.size.toNat 4 o++aU p.at_.toNat 4 o++aU p.fV.toNat 2 o)++(aU p.fW.toNat 2 o++post):=by rw[e0];simp
 have h5:=oo (p:=k+14) e4 (by simp[eh,hk]) (.inr (.inl rfl)) ho (by omega);unfold LC;rw[(oo e0 hk (.inr (.inr rfl)) ho (by omega)),(oo (p:=k+4) e1 (by simp[eh,hk]) (.inr (.inr rfl)) ho (by omega)),h3,h4,h5];rw[lM a1.1,lM a2.1,lM a3.1,lM a4.1,lM a5.1]
theorem Ut(ho:o=1\/o=2):∀(l:List gB)(pre post:List UInt8)(k:Nat),b=pre++(l.flatMap (fZ o)++post)->k=pre.length->(∀p∈l,ou p=true)->placesOf b o k l.length=l
 |[],_,_,_,_,_,_=>rfl
 |p::l,pre,post,k,e,hk,h=>by
  rw[ff,dY] at e;rw[cQ,placesOf,aeK e hk ho (h p (by simp))]
  congr 1
  exact Ut ho l (pre++fZ o p) post (k+16) (by grind) (by simp[FB,hk]) λy hy=>h y (by grind)
def ju:List aV:=[⟨[],0,0,1⟩,⟨[],0,0,-1⟩]
def nQ:List aV:=[⟨[],0,0,-1⟩]
variable{sh:List aV}
theorem Uv(h:∀s∈sh,s.bG=[]/\s.at_=0)(hn:∀s,s<sh.length->(aJ sh s).next<0\/((s:Int)<(aJ sh s).next/\(aJ sh s).next<sh.length)):iu sh:=by
 have key:∀s,(aJ sh s).bG=[]/\(aJ sh s).at_=0:=by
  intro s;unfold aJ;cases q:sh[s]? with
  |none=>exact⟨rfl,rfl⟩
  |some x=>grind
 refine⟨λs=>⟨λx hx=>?_,λq=>absurd (key s).2 q⟩,λs _ x hx=>?_,hn⟩<;>grind
theorem Qm:iu ju:=by
 refine Uv (λs hs=>?_) λs hs=>?_
 ·simp[ju] at hs
  grind
 ·have:s=0\/s=1:=by simp[ju] at hs;omega
  rcases this with rfl|rfl<;>decide
theorem XR:iu nQ:=by
 refine Uv (λs hs=>?_) λs hs=>?_
 ·simp[nQ] at hs
  grind
 ·have:s=0:=by simp[nQ] at hs;omega
  rcases this with rfl
  decide
def km(o:Int)(l:List gB):aO:=.mk [⟨45056,7,4,[48,49,48,48]⟩,⟨45057,4,1,fj l.length 4⟩,⟨45058,7,((16*l.length:Nat):Int),l.flatMap (fZ o)⟩] .nil []
def fX(o:Int)(l:List gB)(view:List aI):lR:=⟨o,km o l::(if view.length=0 then[] else[.mk view .nil []])⟩
def kT(o:Int)(view:List aI):lR:=⟨o,[.mk view .nil []]⟩
def ko:List UInt8:=[77,80,70,0]
def mT(o:Int)(l:List gB)(view:List aI):Except Int (List UInt8):=
 if¬(o=1\/o=2)\/l.length<2 then .error 1
 else if l.all ou=false then .error 1
 else if dz 5 view=false then .error 6
 else if 65536<16*l.length then .error 7
 else if 65533<4+gJ (fX o l view) then .error 7
 else .ok (ko++fe (fX o l view) ju)
def Am(o:Int)(view:List aI):Except Int (List UInt8):=
 if¬(o=1\/o=2)\/view.length=0 then .error 1
 else if dz 5 view=false then .error 6
 else if 65533<4+gJ (kT o view) then .error 7
 else .ok (ko++fe (kT o view) nQ)
theorem X3{n:Nat}:dW 4 1 (fj n 4)=true:=by unfold dW;have:(kindOf 4).1 =4:=rfl;simp[this,tK]
variable{view:List aI}
theorem Xv{S:aV}{s:Nat}(hS:aJ sh s=S)(hl:S.bG=[])(ha:S.at_=0)(h:dz 5 view=true)(h0:view.length≠0)(hm:view.length<=65000):cK sh s (.mk view .nil [])=true:=by
 unfold cK;rw[hS,Ae h λt q=>by rw[E1 hl ha] at q;cases q];have:1<=bF (.mk view .nil [])/\bF (.mk view .nil [])<=65535:=by simp[bF,cm];omega
 rw[fS this];rfl
variable{l:List gB}
theorem RS(hl:2<=l.length/\16*l.length<=65536)(hv:dz 5 view=true)(hm:view.length<=65000):fK ju 0 (fX o l view).eK=true:=by
 have hd:cK ju 0 (km o l)=true:=by
  unfold km cK;have ht:jI (aJ ju 0) [⟨45056,7,4,[48,49,48,48]⟩,⟨45057,4,1,fj l.length 4⟩,⟨45058,7,((16*l.length:Nat):Int),l.flatMap (fZ o)⟩]=true:=by
   unfold jI;have m3:dW 7 ((16*l.length:Nat):Int) (l.flatMap (fZ o))=true:=by unfold dW;have:(kindOf 7).1 =1:=rfl;rw[wC];simp_all;omega
   rw[bg,jf];refine⟨by simp[fD],λt ht=>?_⟩;simp at ht;rw[(λt=>E1 rfl rfl t)];rcases ht with rfl|rfl|rfl
   ·rfl
   ·rfl
   ·simp_all;rfl
  rw[ht];rfl
 unfold fX;have hx:∀ds,fK ju 0 (km o l::ds)=(decide ((0:Int)<=0)&&(cK ju 0 (km o l)&&fK ju 1 ds)):=λds=>rfl;rw[hx,hd];by_cases a:view.length=0
 ·rw[ar a];rfl
 ·rw[ai a];have hx:fK ju 1 [.mk view .nil []]=(decide ((0:Int)<=1)&&(cK ju 1 (.mk view .nil [])&&true)):=rfl;rw[hx,Xv rfl rfl rfl hv a hm];rfl
theorem Xu(hv:dz 5 view=true)(h0:view.length≠0)(hm:view.length<=65000):fK nQ 0 (kT o view).eK=true:=by have hx:fK nQ 0 [.mk view .nil []]=(decide ((0:Int)<=0)&&(cK nQ 0 (.mk view .nil [])&&true)):=rfl;show fK nQ 0 [.mk view .nil []]=true;rw[hx,Xv rfl rfl rfl hv h0 hm];rfl
def indexOf(t:lR):Option (Int×List gB×List aI):=match t.eK with
 | .mk [a,b,c] _ _::ds=>
  if a.tag=45056/\a.ty=7/\a.data=[48,49,48,48]/\b.tag=45057/\b.ty=4/\b.data.length=4/\c.tag=45058/\c.ty=7/\2<=gF b.data/\c.data.length=16*gF b.data then
   match ds with
   |[]=>some (t.order,placesOf c.data t.order 0 (gF b.data),[])
   | .mk view _ _::_=>if dz 5 view=true then some (t.order,placesOf c.data t.order 0 (gF b.data),view) else none
  else none
 |_=>none
theorem aad(ho:o=1\/o=2)(hl:2<=l.length/\16*l.length<=65536)(hp:l.all ou=true)(hv:dz 5 view=true):indexOf (fX o l view)=some (o,l,view):=by
 have hb:gF (fj l.length 4)=l.length:=KX 4 _ (by omega);unfold fX km indexOf;simp only;rw[ar ⟨trivial,trivial,trivial,trivial,trivial,tK _ _,trivial,trivial,by rw[hb];exact hl.1,by rw[wC,hb]⟩,hb,(Ut ho l [] [] 0 (by simp) rfl λp hp'=>jf.1 hp p hp')]
 grind
theorem ahB{t:lR}(h:¬65533<4+gJ t):gJ t<4294967296:=by omega
theorem aac(h:mT o l view=.ok b)(hm:view.length<=65000):
 ∃r,b=ko++r/\r=fe (fX o l view) ju/\xg r ju=.ok (fX o l view,gK (fX o l view))/\indexOf (fX o l view)=some (o,l,view)/\b.length<=65533:=by
 unfold mT at h;split at h
 ·cases h
 ·rename_i h1;split at h
  ·cases h
  ·rename_i h2;split at h
   ·cases h
   ·rename_i h3;split at h
    ·cases h
    ·rename_i h4;split at h
     ·cases h
     ·rename_i h5;cases h;have ho:o=1\/o=2:=by omega
      have hv:dz 5 view=true:=by simpa using h3
      have hh:=RS (o:=o) (l:=l) ⟨by omega,by omega⟩ hv hm;refine⟨_,rfl,rfl,Xw ho Qm (by decide) (by simp[fX]) hh (ahB h5),aad ho ⟨by omega,by omega⟩ (by simpa using h2) hv,?_⟩;rw[aR,(Ah hh)];have:ko.length=4:=rfl;omega
end
section
structure bE where
 bX:Int
 data:List UInt8
 scan:List UInt8
 deriving DecidableEq
def oy(m:Int):Bool:=decide (208<=m/\m<=215)
def iw(m:Int):Bool:=decide (m=216\/m=217)
def kL(m:Int):Bool:=decide (192<=m/\m<=254)&&!oy m&&!iw m
def fE:List UInt8->Nat
 |[]=>0
 |b::t=>if b=255 then(match t with
  |[]=>0
  |c::_=>if c≠0/\oy c.toNat=false then 0 else fE t+1) else fE t+1
theorem Gw:∀l,fE l<=l.length
 |[]=>aB _
 |b::t=>by
  have ih:=Gw t;unfold fE
  grind
inductive Pq where
 |ok (l:List bE) (end_:Nat)
 |bad (at_:Nat) (e:Int)
 deriving DecidableEq
inductive XI where
 |last (s:bE) (rest:List UInt8)
 |more (s:bE) (rest:List UInt8)
 |short
 |form (behind:Nat)
def kv(first:Bool):List UInt8->XI
 |[]=>.short
 |[x]=>if x=255 then .short else .form 0
 |x::m::t=>
  if x≠255 then .form 0
  else if(first !=decide (m=216))||!(iw m.toNat||kL m.toNat) then .form 0
  else if m=217 then .last ⟨217,[],[]⟩ t
  else if m=216 then .more ⟨216,[],[]⟩ t
  else match t with
   |a::b::_=>
    let n:=a.toNat*256+b.toNat
    if n<2 then .form 2
    else if t.length<n then .short
    else
     let r:=t.drop n
     let k:=if m=218 then fE r else 0
     .more ⟨m.toNat,(t.drop 2).take (n -2),r.take k⟩ (r.drop k)
   |_=>.short
def lG(L:Nat):Nat->Bool->List UInt8->Pq
 |0,_,_=>.bad 0 0
 |f+1,first,r=>match kv first r with
  | .short=>.bad L 3
  | .form k=>.bad (L -r.length+k) 2
  | .last s t=>.ok [s] (L -t.length)
  | .more s t=>match lG L f false t with
   | .ok l e=>.ok (s::l) e
   |x=>x
def ofM(b:List UInt8):Pq:=lG b.length (b.length+1) true b
def mr(s:bE):Bool:=kL s.bX&&decide (s.data.length<=65533)&&(s.scan.isEmpty||(decide (s.bX=218)&&decide (fE s.scan=s.scan.length)))
def ll(s:bE)(m:Int):Bool:=decide (s.bX=m)&&s.data.isEmpty&&s.scan.isEmpty
def iJ:List bE->Bool
 |[]=>false
 |[s]=>ll s 217
 |s::t=>mr s&&iJ t
def mj:List bE->Bool
 |[]=>false
 |s::t=>ll s 216&&iJ t
def dF(s:bE):List UInt8:=
 if iw s.bX then[255,UInt8.ofNat s.bX.toNat]
 else[255,UInt8.ofNat s.bX.toNat,UInt8.ofNat ((s.data.length+2)/256),UInt8.ofNat ((s.data.length+2)%256)]++s.data++s.scan
def dc(l:List bE):List UInt8:=l.flatMap dF
theorem pf(s:bE)(l:List bE):dc (s::l)=dF s++dc l:=rfl
theorem abl:∀{l:List bE},iJ l=true->∃(m:UInt8)(t:List UInt8),dc l=255::m::t/\m≠0/\oy m.toNat=false
 |[],h=>by cases h
 |s::t,h=>by
  have key:(192<=s.bX/\s.bX<=254/\oy s.bX=false):=by
   cases t with
   |nil=>simp[iJ,ll] at h;rw[h.1.1];decide
   |cons s' t=>simp[iJ,mr,kL] at h;exact⟨h.1.1.1.1.1.1,h.1.1.1.1.1.2,h.1.1.1.1.2⟩
  obtain⟨k1,k2,k3⟩:=key;have hm:((UInt8.ofNat s.bX.toNat).toNat:Int)=s.bX:=by rw[xw];omega
  refine⟨UInt8.ofNat s.bX.toNat,?_⟩;have e:∃t',dF s=255::UInt8.ofNat s.bX.toNat::t':=by unfold dF;split<;>simp_all
  obtain⟨t',e⟩:=e;refine⟨t'++dc t,by rw[pf,e];rfl,?_,by rw[hm];exact k3⟩;intro h0;rw[h0] at hm;simp at hm;omega
theorem M4:∀(l:List UInt8)(m:UInt8)(t:List UInt8),fE l=l.length->m≠0->oy m.toNat=false->fE (l++255::m::t)=l.length
 |[],m,t,_,h1,h2=>by unfold fE;simp_all
 |b::l,m,t,h,h1,h2=>by
  have hl:fE l=l.length/\(b=255->∃c r,l=c::r/\¬(c≠0/\oy c.toNat=false)):=by
   unfold fE at h
   grind
  have ih:=M4 l m t hl.1 h1 h2;rw[jg];unfold fE
  grind
variable{s:bE}
theorem afB(x:List UInt8)(h:ll s 217=true):kv false (dF s++x)=.last s x:=by obtain⟨m,d,c⟩:=s;simp[ll] at h;obtain⟨⟨rfl,rfl⟩,rfl⟩:=h;rfl
theorem afA(x:List UInt8)(h:ll s 216=true):kv true (dF s++x)=.more s x:=by obtain⟨m,d,c⟩:=s;simp[ll] at h;obtain⟨⟨rfl,rfl⟩,rfl⟩:=h;rfl
theorem afC(h:mr s=true)(m:UInt8)(t:List UInt8)(h1:m≠0)(h2:oy m.toNat=false):kv false (dF s++255::m::t)=.more s (255::m::t):=by
 obtain⟨k,d,c⟩:=s;simp[mr,kL,List.isEmpty_iff] at h;obtain⟨⟨⟨⟨⟨a1,a2⟩,a3⟩,a4⟩,a5⟩,a6⟩:=h;have hm:((UInt8.ofNat k.toNat).toNat:Int)=k:=by rw[xw];omega
 have n216:UInt8.ofNat k.toNat≠216:=by intro e;rw[e] at hm;rw[<-hm] at a4;exact absurd a4 (by decide)
 have n217:UInt8.ofNat k.toNat≠217:=by intro e;rw[e] at hm;rw[<-hm] at a4;exact absurd a4 (by decide)
 unfold dF;rw[ai (by simp[a4])];simp;dsimp only[kv];rw[ai (by simp)];have hh:kL ((UInt8.ofNat k.toNat).toNat:Int)=true:=by rw[hm];simp[kL,a1,a2,a3,a4]
 rw[(show((false !=decide (UInt8.ofNat k.toNat=216))||!(iw ((UInt8.ofNat k.toNat).toNat:Int)||kL ((UInt8.ofNat k.toNat).toNat:Int)))=false from by rw[hh,fR n216];simp),ai (by simp),ai n217,ai n216];have hn:(UInt8.ofNat ((d.length+2)/256)).toNat*256+(UInt8.ofNat ((d.length+2)%256)).toNat=d.length+2:=by rw[xw,xw];omega
 rw[hn,ai (by omega),ai (by simp)];have e1:(UInt8.ofNat ((d.length+2)/256)::UInt8.ofNat ((d.length+2)%256)::(d++(c++255::m::t))).drop (d.length+2)=c++255::m::t:=by simp
 rw[e1];have e2:(if UInt8.ofNat k.toNat=218 then fE (c++255::m::t) else 0)=c.length:=by
  rcases a6 with rfl|⟨a6,a7⟩
  ·split
   ·exact M4 [] m t rfl h1 h2
   ·rfl
  ·rw[ar (by rw[a6];rfl),M4 c m t a7 h1 h2]
 rw[e2];simp;omega
variable{l:List bE}
theorem aiy(h:iJ l=true):l.length<=(dc l).length:=by
 induction l with
 |nil=>simp
 |cons s t ih=>
  rw[pf,aR,cQ];have:1<=(dF s).length:=by unfold dF;split<;>simp<;>omega
  cases t with
  |nil=>grind
  |cons s' t=>have:=ih (by simp[iJ] at h;exact h.2);omega
theorem Tg(L:Nat)(x:List UInt8):∀(l:List bE)(f:Nat),iJ l=true->l.length<f->lG L f false (dc l++x)=.ok l (L -x.length)
 |[],_,h,_=>by cases h
 |[s],f+1,h,_=>by
  have:dc [s]=dF s:=by simp[dc]
  rw[this];unfold lG;rw[afB x h]
 |s::s'::t,f+1,h,hf=>by have h':=((bg _ _).mp h).2;obtain⟨m,u,e,h1,h2⟩:=abl h';have ih:=Tg L x (s'::t) f h' (by grind);rw[pf,dY];unfold lG;rw[e] at ih⊢;rw[jg,jg] at ih⊢;rw[afC (((bg _ _).mp h).1) m (u++x) h1 h2];simp_all
 |_::_,0,_,hf=>by grind
theorem abB(h:mj l=true)(x:List UInt8):ofM (dc l++x)=.ok l (dc l).length:=by
 cases l with
 |nil=>cases h
 |cons s t=>
  simp[mj] at h;unfold ofM;rw[pf,dY];unfold lG;rw[afA _ h.1];have hl:t.length<(dF s++(dc t++x)).length:=by
   have:=aiy h.2;have:1<=(dF s).length:=by unfold dF;split<;>simp<;>omega
   grind
  simp only[Tg _ x t _ h.2 hl]
  grind
end
section
theorem Xg(a b:UInt8):UInt8.ofNat ((a.toNat*256+b.toNat)/256)=a/\UInt8.ofNat ((a.toNat*256+b.toNat)%256)=b:=by have hb:=b.toNat_lt;rw[(show(a.toNat*256+b.toNat)/256=a.toNat from by omega)];simp
theorem aim(m:UInt8):UInt8.ofNat ((m.toNat:Int)).toNat=m:=by simp
variable{t:List UInt8}
theorem Cl{b:UInt8}(h:b≠255):fE (b::t)=fE t+1:=by
 conv=>lhs;unfold fE
 grind
theorem afz:fE [255]=0:=rfl
theorem MZ(c:UInt8)(r:List UInt8):fE (255::c::r)=if c≠0/\oy c.toNat=false then 0 else fE (c::r)+1:=by rw[fE,ar rfl]
theorem Vu:∀l:List UInt8,fE (l.take (fE l))=fE l
 |[]=>rfl
 |b::t=>by
  have ih:=Vu t;by_cases hb:b=255
  ·subst hb;cases t with
   |nil=>rfl
   |cons c r=>
    rw[MZ];by_cases hc:c≠0/\oy c.toNat=false
    ·rw[ar hc];rfl
    ·rw[ai hc,nA];have h5:c≠255:=by
      intro h5;apply hc;rw[h5];exact⟨by decide,rfl⟩
     rw[Cl h5] at ih⊢;rw[nA] at ih⊢;rw[MZ,ai hc,ih]
  ·rw[Cl hb,nA,Cl hb,ih]
variable{l:List UInt8} {s:bE}
theorem Vw(h:kv true l=.more s t):ll s 216=true/\l=dF s++t:=by
 cases l with
 |nil=>cases h
 |cons x l=>
  cases l with
  |nil=>dsimp only[kv] at h;split at h<;>grind
  |cons m l=>
   dsimp only[kv] at h;split at h
   ·cases h
   ·rename_i h1;split at h
    ·cases h
    ·rename_i h2;split at h
     ·cases h
     ·rename_i h3;split at h
      ·rename_i h4;injection h with h5 h6;subst h5 h6 h4;refine⟨rfl,?_⟩;have:x=255:=qp.1 h1;subst this;rfl
      ·rename_i h4;exfalso;apply h2;rw[fR h4];rfl
theorem Vv{f:Bool}(h:kv f l=.last s t):ll s 217=true/\l=dF s++t:=by
 cases l with
 |nil=>cases h
 |cons x l=>
  cases l with
  |nil=>dsimp only[kv] at h;split at h<;>grind
  |cons m l=>
   dsimp only[kv] at h;split at h
   ·cases h
   ·rename_i h1;split at h
    ·cases h
    ·rename_i h2;split at h
     ·rename_i h3;injection h with h5 h6;subst h5 h6 h3;refine⟨rfl,?_⟩;have:x=255:=qp.1 h1;subst this;rfl
     ·split at h
      ·cases h
      ·split at h
       ·split at h
        ·cases h
        ·split at h
         ·cases h
         ·cases h
       ·cases h
theorem Vx(h:kv false l=.more s t):mr s=true/\l=dF s++t:=by
 cases l with
 |nil=>cases h
 |cons x l=>
  cases l with
  |nil=>
   dsimp only[kv] at h;split at h
   ·cases h
   ·cases h
  |cons m l=>
   dsimp only[kv] at h;split at h
   ·cases h
   ·rename_i h1;split at h
    ·cases h
    ·rename_i h2;split at h
     ·cases h
     ·rename_i h3;split at h
      ·rename_i h4;exfalso;apply h2;rw[fS h4];rfl
      ·rename_i h4;have hx:x=255:=qp.1 h1;have hm:kL (m.toNat:Int)=true:=by
        cases q:kL (m.toNat:Int) with
        |true=>rfl
        |false=>
         exfalso;apply h2;rw[q,fR h4];have:iw (m.toNat:Int)=false:=by
          unfold iw;rw[fR]
          rintro (e|e)
          ·exact h4 (nC.1 (by have:(216:UInt8).toNat=216:=rfl;omega))
          ·exact h3 (nC.1 (by have:(217:UInt8).toNat=217:=rfl;omega))
         rw[this];rfl
       cases l with
       |nil=>cases h
       |cons a l=>
        cases l with
        |nil=>cases h
        |cons b l=>
         dsimp only at h;split at h
         ·cases h
         ·rename_i h5;split at h
          ·cases h
          ·rename_i h6;injection h with h7 h8;have hb:=b.toNat_lt;have ha:=a.toNat_lt;have hs:=Gw ((a::b::l).drop (a.toNat*256+b.toNat));have e0:(a::b::l).drop (a.toNat*256+b.toNat)=l.drop (a.toNat*256+b.toNat -2):=by
            obtain⟨k,hk⟩:∃k,a.toNat*256+b.toNat=k+2:=⟨a.toNat*256+b.toNat -2,by omega⟩;rw[hk];rfl
           have hlen:l.length+2>=a.toNat*256+b.toNat:=by simpa using h6
           rw[e0] at hs h7 h8;have hd:((a::b::l).drop 2)=l:=rfl;rw[hd] at h7;have ik:(l.take (a.toNat*256+b.toNat -2)).length+2=a.toNat*256+b.toNat:=by rw[dH];omega
           have hal:iw (m.toNat:Int)=false:=by simp only[kL,bg,sZ] at hm;exact hm.2
           subst h7 h8;constructor
           ·unfold mr;simp only[hm,fP,bg,bV,qn,List.isEmpty_iff];refine⟨by omega,?_⟩;by_cases hq:m=218
            ·right;rw[ar hq];refine⟨by rw[hq];rfl,?_⟩;rw[Vu,dH];omega
            ·left;rw[ai hq];rfl
           ·unfold dF;rw[ai (by simp[hal])];simp only[ik,aim,(Xg a b).1,(Xg a b).2,hx,jg,iF,dY];rw[mD,mD]
theorem Th(L:Nat):∀(f:Nat)(r:List UInt8)(l:List bE)(e:Nat),r.length<=L->lG L f false r=.ok l e->iJ l=true/\∃x,r=dc l++x/\e=L -x.length
 |0,_,_,_,_,h=>by cases h
 |f+1,r,l,e,hr,h=>by
  unfold lG at h;split at h
  ·cases h
  ·cases h
  ·rename_i s t hs;cases h;obtain⟨h1,h2⟩:=Vv hs;exact⟨h1,t,by rw[h2];simp[dc],rfl⟩
  ·rename_i s t hs;obtain⟨h1,h2⟩:=Vx hs;split at h
   ·rename_i l' e' h3;cases h;obtain⟨a,x,b,c⟩:=Th L f t l' _ (by rw[h2] at hr;simp at hr;omega) h3;refine⟨?_,x,by rw[pf,dY,<-b,h2],c⟩;cases l' with
    |nil=>cases a
    |cons s' l'=>simp[iJ,h1,a]
   ·rename_i q;rw[h] at q;exact absurd rfl (q _ _)
variable{b:List UInt8}
theorem Ti{l:List bE}{e:Nat}(h:ofM b=.ok l e):mj l=true/\e<=b.length/\dc l=b.take e/\∃r,l=⟨216,[],[]⟩::r/\iJ r=true:=by
 unfold ofM at h;unfold lG at h;split at h
 ·cases h
 ·cases h
 ·rename_i s t hs;obtain⟨h1,h2⟩:=Vv hs;rw[h2] at hs;have:s=⟨217,[],[]⟩:=by
   obtain⟨m,d,c⟩:=s;simp[ll] at h1;obtain⟨⟨rfl,rfl⟩,rfl⟩:=h1;rfl
  rw[this] at hs;cases hs
 ·rename_i s t hs;obtain⟨h1,h2⟩:=Vw hs;have hs0:s=⟨216,[],[]⟩:=by
   obtain⟨m,d,c⟩:=s;simp[ll] at h1;obtain⟨⟨rfl,rfl⟩,rfl⟩:=h1;rfl
  split at h
  ·rename_i l' e' h3;cases h;obtain⟨a,x,k,c⟩:=Th b.length b.length t l' _ (by rw[h2];simp) h3;have hb:b=(dF s++dc l')++x:=by rw[dY,<-k,<-h2]
   have hl:b.length=(dF s++dc l').length+x.length:=by rw[hb,aR]
   refine⟨by simp[mj,h1,a],by omega,?_,l',by rw[hs0],a⟩;rw[pf,(show e=(dF s++dc l').length from by omega)];rw[hb,List.take_left]
  ·rename_i q;rw[h] at q;exact absurd rfl (q _ _)
def pC(m:Int):Bool:=decide (224<=m/\m<=239)
def nW(b:List UInt8):Bool:=match ofM b with
 | .ok l e=>decide (e=b.length)&&(l.any (λs=>s.bX==218)&&l.all λs=>!pC s.bX)
 |_=>false
def mR:List UInt8:=[69,120,105,102,0,0]
def fm:List UInt8:=[73,67,67,95,80,82,79,70,73,76,69,0]
def iy(x:di):Except Int (List UInt8):=
 if hU x≠0 then .error (hU x) else if 65533<6+gJ (eC x) then .error 7 else .ok (mR++fe (eC x) da)
def PQ(b:List UInt8):Option di:=
 if 65533<b.length then none else if mR.isPrefixOf b=true then(match xg (b.drop 6) da with| .ok (t,_)=>yS t| .error _=>none) else none
theorem AQ{x:di}(h:iy x=.ok b)(hm:qX x 65000):PQ b=some x/\mR.isPrefixOf b=true/\b.length<=65533/\b=mR++fe (eC x) da/\xg (fe (eC x) da) da=.ok (eC x,gK (eC x)):=by
 unfold iy at h;split at h
 ·cases h
 ·rename_i h1;have h1:=qp.1 h1;split at h
  ·cases h
  ·rename_i h2;injection h with h;have hh:=Xa h1 hm;have hw:=Xw (tM h1).1 JX (by decide) (by simp[eC]) hh (by omega);have hl:b.length<=65533:=by rw[<-h,aR,(Ah hh)];have:mR.length=6:=rfl;omega
   refine⟨?_,(by rw[<-h];rw[uW];exact List.prefix_append _ _),hl,h.symm,hw⟩;unfold PQ;rw[ai (by omega),<-h];have:(mR++fe (eC x) da).drop 6=fe (eC x) da:=rfl;rw[this,hw];exact Tj h1
def fJ(b:List UInt8):List (List UInt8):=if b.length=0 then[] else[fm++1::1::b]
structure qy where
 aS:di
 cV:List UInt8
 core:List UInt8
 dN:List UInt8
 at_:Nat
 cA:Nat
def D8(b:List UInt8):List bE:=match ofM b with
 | .ok l _=>l
 |_=>[]
def mc(x:qy)(bC:List UInt8):List bE:=
 ⟨216,[],[]⟩::⟨225,bC,[]⟩::((if x.dN.length=0 then[] else[⟨226,x.dN,[]⟩])++((fJ x.cV).map (λc=>⟨226,c,[]⟩)++(D8 x.core).tail))
theorem D9(h:nW b=true):∃r,ofM b=.ok (⟨216,[],[]⟩::r) b.length/\D8 b=⟨216,[],[]⟩::r/\iJ r=true/\dc (⟨216,[],[]⟩::r)=b/\(∃s∈r,s.bX=218)/\∀s∈r,pC s.bX=false:=by
 unfold nW at h;split at h
 ·rename_i l e q;simp at h;obtain⟨h1,⟨s,hs,hm⟩,h3⟩:=h;obtain⟨a,b1,c,r,hr,hmid⟩:=Ti q;subst hr;refine⟨r,by rw[q,h1],by unfold D8;rw[q],hmid,by rw[c,h1,rG],?_,λs hs=>h3 s (by grind)⟩
  grind
 grind
theorem KM{l:List bE}(h:mr s=true)(hl:iJ l=true):iJ (s::l)=true:=by
 cases l with
 |nil=>cases hl
 |cons s' l=>simp[iJ,h,hl]
theorem Ma{m:Int}{d:List UInt8}(hm:m=225\/m=226)(h:d.length<=65533):mr ⟨m,d,[]⟩=true:=by
 unfold mr;rcases hm with rfl|rfl
 ·simp;exact⟨rfl,h⟩
 ·simp;exact⟨rfl,h⟩
theorem Qz{c:List UInt8}(hb:b.length<=65519)(h:c∈fJ b):c.length<=65533:=by
 unfold fJ at h;split at h
 ·grind
 ·rw[kC.1 h];have:fm.length=12:=rfl
  grind
variable{bC:List UInt8} {x:qy}
theorem RM(hc:nW x.core=true)(hcam:bC.length<=65533)(hi:x.cV.length<=65519)(hm:x.dN.length<=65533):mj (mc x bC)=true:=by
 obtain⟨r,-,h1,h2,-⟩:=D9 hc;unfold mc;rw[h1];refine KM (Ma (.inl rfl) hcam) ?_;have k:iJ ((fJ x.cV).map (λc=>⟨226,c,[]⟩)++r)=true:=by
  have hl:=λc=>Qz (c:=c) hi;generalize fJ x.cV=cs at hl⊢;induction cs with
  |nil=>grind
  |cons c cs ih=>exact KM (Ma (.inr rfl) (hl c (by simp))) (ih λc hc=>hl c (by grind))
 split
 ·grind
 ·exact KM (Ma (.inr rfl) hm) k
def jB(x:qy)(bC:List UInt8):List UInt8:=dc (mc x bC)
structure Dn(x:qy)(bC:List UInt8):Prop where
 app:iy x.aS=.ok bC
 rows:qX x.aS 65000
 cV:x.cV.length<=65519
 core:nW x.core=true
 dN:x.dN.length=0\/(ko.isPrefixOf x.dN=true/\x.dN.length<=65533)
theorem Z8(h:Dn x bC):ofM (jB x bC)=.ok (mc x bC) (jB x bC).length:=by obtain⟨-,-,hl,-⟩:=AQ h.app h.rows;have:=abB (RM h.core hl h.cV (by rcases h.dN with q|q;omega;exact q.2)) [];rw[eH] at this;exact this
end
namespace Lt
section
noncomputable def dj(m:Nat->Nat->Option Value)(w w':World)(b i:Nat):Option Value:=
 if b<w.heap.size then m b i else fc w' b i
def Kn(m:Nat->Nat->Option Value)(w:World):Prop:=∀b i v,m b i=some v->fc w b i=some v
variable{m:Nat->Nat->Option Value} {w w':World}
theorem Kn.below(h:Kn m w)(B:RowKit.Below w.heap.size w w'):Kn m w':=λb i v hv=>
 (oe (B.block b (oU (h b i v hv)))).trans (h b i v hv)
theorem Kn.new(h:Kn m w)(B:RowKit.Below w.heap.size w w'):Kn (dj m w w') w':=λb i v hv=>by
 unfold dj at hv;split at hv
 ·exact h.below B b i v hv
 ·exact hv
theorem Kn.mono(h:Kn m w):∀b i v,m b i=some v->dj m w w' b i=some v:=λb i v hv=>by unfold dj;rw[ar (oU (h b i v hv))];exact hv
def IT(v:Value):Prop:=aY v\/∃xs,v=.tuple xs/\∀x∈xs.toList,aY x
theorem IT.rel{v:Value}(h:IT v){ρ:Ren}{x:Value}(r:aF ρ v x):bj ρ.lit v x:=by
 rcases h with h|⟨xs,rfl,h⟩
 ·exact h.rel r
 ·cases r with
  |tuple r=>exact .aH (aY.FX h r)
variable{P:Program} {args:List Value} {f:FuncId} {pv:Value}
theorem BZ(hp:∀a∈args,aY a)
 (C:∀(m:Nat->Nat->Option Value)(args':Array Value)(w:World),Kn m w->aP m args args'.toList->
  Calls P f args' w λe w'=>∃v',e=.returned v'/\RowKit.Below w.heap.size w w'/\bj (dj m w w') pv v'):mI P f args pv:=by
 intro h nx ρ args' cs w A H N;obtain⟨e,w',fr,⟨v',rfl,B,L⟩,c,hfn,l1,l2,l3,fn,l4,l5⟩:=C ρ.lit args' w H.lit (aY.FX (ρ:=ρ) hp A) cs;have hm:Kn ρ.lit w:=H.lit
 let ρ2:Ren:=⟨ρ.cq,dj ρ.lit w w'⟩
 have E:Ext ρ ρ2:=⟨λ_ _ h=>h,λb i u hu=>hm.mono b i u hu⟩;refine⟨ρ2,fr,w',fn,v',c,l1,l2,l3,⟨hfn,l4⟩,l5,(show bj ρ2.lit pv v' from L).to,⟨?_,H.inj,hm.new B,?_⟩,⟨B.os,B.tape,B.output,B.size,λb hb _=>B.block b hb,λb _ ho=>ho,aB _,λ_ _=>rfl,E.lit,λb i u hu=>?_⟩⟩
 ·intro o ob ho;obtain⟨L,l1,l2⟩:=H.obj o ob ho;exact⟨L,l1,(l2.mono E).block (B.block _ l2.lt)⟩
 ·intro b i u hu o ob L ho hL;have hu:dj ρ.lit w w' b i=some u:=hu;unfold dj at hu;split at hu
  ·exact H.free b i u hu o ob L ho hL
  ·obtain⟨L1,l1,l2⟩:=H.obj o ob ho;obtain rfl:=bu (l1.symm.trans hL);have:=l2.lt;omega
 ·have hu:dj ρ.lit w w' b i=some u:=hu;unfold dj at hu;split at hu
  ·exact .inl hu
  ·exact .inr (.inl (by omega))
theorem xU(R:mI P f args pv)(hp:IT pv)(hm:Kn m w){args':Array Value}(A:aP m args args'.toList):
 Calls P f args' w λe w'=>∃v',e=.returned v'/\RowKit.Below w.heap.size w w'/\bj (dj m w w') pv v':=by
 intro cs
 let ρ:Ren:=⟨λ_=>none,m⟩
 have H0:bh ρ .nil w:=⟨λo ob ho=>(by rw[Tr.get_nil] at ho;cases ho),λo o' L L' ob ob' h1=>(by rw[Tr.get_nil] at h1;cases h1),hm,λb i v hv o ob L ho=>(by rw[Tr.get_nil] at ho;cases ho)⟩;obtain⟨ρ',fr,w',fn,v',s,a1,a2,a3,a4,a5,a6,a7,M⟩:=R .nil 0 ρ args' cs w (show aP ρ.lit args args'.toList from A).to H0 (λ_ _ _=>rfl);refine⟨.returned v',w',fr,⟨v',rfl,⟨M.os,M.tape,M.output,M.size,λb hb=>M.block b hb sk⟩,bj.mono (λb i u hu=>?_) (hp.rel a6)⟩,s,a4.1,a1,a2,a3,fn,a4.2,a5⟩;unfold dj;rcases M.eU b i u hu with h|h|h
 ·have h:m b i=some u:=h;rw[ar (oU (hm b i u h))];exact h
 ·rw[ai (by omega)];exact a7.lit b i u hu
 ·exact absurd h sk
end
section
def rF:List Value->Option (List Int)
 |[]=>some []
 | .int .u8 b::l=>ob (rF l) λxs=>some (b::xs)
 |_=>none
theorem Xl:∀{l:List Value}{xs:List Int},rF l=some xs->xs.length=l.length/\∀i,i<xs.length->l[i]? =some (.int .u8 (xs.getD i 0))
 |[],_,e=>by cases e;exact⟨rfl,λi h=>by simp at h⟩
 |v::l,xs,e=>by
  unfold rF at e;split at e
  ·rename_i q;cases q
  ·rename_i b l' q;cases q;replace e:=af e;obtain⟨ys,h1,e⟩:=e;cases e;obtain⟨k1,k2⟩:=Xl h1;refine⟨by simp[k1],λi h=>?_⟩;cases i with
   |zero=>simp
   |succ i=>simp at h;simpa using k2 i h
  ·cases e
variable{β:Type}
def jQ(x:Value)(K:List Int->Option β):Option β:=match x with
 | .func (.via n _ 0 true) cs _=>cond (Nat.ble n cs.toList.length) (ob (rF (cs.toList.take n)) K) none
 |_=>none
theorem A7{m:Nat->Nat->Option Value}{w:World}(hm:Kn m w){x v:Value}{K:List Int->Option β}{b:β}(e:jQ x K=some b)(h:bj m x v):
 ∃(xs:List Int),K xs=some b/\((∃a c,v=.slice (some a) xs.length c/\xs.length<=c/\∀i,i<xs.length->w.cell? (a.add i)=some (.int .u8 (xs.getD i 0)))\/(xs=[]/\∃c,v=.slice none 0 c)):=by
 unfold jQ at e;split at e
 case h_2=>cases e
 rename_i n p cs ys;obtain⟨e1,e2⟩:=aT e;clear e;have e1:=cI e1;replace e2:=af e2;obtain⟨xs,h1,h2⟩:=e2;obtain⟨k1,k2⟩:=Xl h1;have hl:xs.length=n:=by rw[k1,dH];omega
 refine⟨xs,h2,?_⟩;cases h with
 |gH r q hs hn=>
  rename_i c a zs;subst hl;refine .inl ⟨a,c,rfl,hn,λi hi=>?_⟩;have h3:=k2 i hi;have h4:cs.toList[i]? =some (.int .u8 (xs.getD i 0)):=by rw[<-h3,List.getElem?_take_of_lt hi]
  obtain⟨y,y1,y2⟩:=aP.get r h4;cases y2;have h5:=BD rfl (hm _ _ _ (q i _ y1));rw[<-h5];obtain⟨blk,off,sp⟩:=a;have hs:sp=none:=hs;subst hs;unfold Addr.add;split
  ·rename_i h0;subst h0;rfl
  ·rfl
 |@fN c a=>
  have:xs=[]:=jJ hl;subst this;rcases a with _|a
  ·exact .inr ⟨rfl,c,rfl⟩
  ·exact .inl ⟨a,c,rfl,gZ _,λi hi=>by simp at hi⟩
end
end Lt
end Go.Proofs.YtfdojmichbgpiaaGreatDoor

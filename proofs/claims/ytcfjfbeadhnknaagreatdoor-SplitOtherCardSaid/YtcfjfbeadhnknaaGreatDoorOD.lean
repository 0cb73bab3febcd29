import Derived.Sort.AssemblyPlain
import Derived.BigFrameIn
import Derived.Laws.EntriesVeiled
import Derived.Shelf.Spec.SlicesInsert
import Derived.Test.YtcfjfbeadhnknaaGreatDoorOShelf
import Derived.Test.YtcfjfbeadhnknaaGreatDoorOC
namespace Go.Proofs.YtcfjfbeadhnknaaGreatDoor
set_option linter.unusedVariables false
set_option linter.unusedSimpArgs false
set_option linter.unusedSectionVars false
set_option linter.constructorNameAsVariable false
set_option maxRecDepth 100000
set_option maxHeartbeats 8000000
namespace Lt
theorem kY{ls r:H1 bq}{pv:Qu}(e:jY .v ls=some (pv,r)):ls=.v pv::r:=by
 cases ls with
 |nil=>cases e
 |cons l ls=>cases l<;>first|(cases e;rfl)|cases e
theorem tI{k:IntKind}{ls r:H1 bq}{pv:Qu}(e:jY (.i k) ls=some (pv,r)):∃n,ls=.i n::r/\pv=.int k n:=by
 cases ls with
 |nil=>cases e
 |cons l ls=>cases l<;>first|(cases e;exact⟨_,rfl,rfl⟩)|cases e
theorem gJ{t:VT}{ts:H1 VT}{ls r:H1 bq}{us:H1 Qu}(e:fR (t::ts) ls=some (us,r)):∃pv r1 us',jY t ls=some (pv,r1)/\fR ts r1=some (us',r)/\us=pv::us':=by unfold fR at e;replace e:=ax e;obtain⟨⟨a,b⟩,h1,e⟩:=e;replace e:=ax e;obtain⟨⟨c,d⟩,h2,e⟩:=e;cases e;exact⟨a,b,c,h1,h2,rfl⟩
theorem nK{ls r:H1 bq}{us:H1 Qu}(e:fR [] ls=some (us,r)):us=[]/\ls=r:=by unfold fR at e;cases e;exact⟨rfl,rfl⟩
noncomputable def Cx(w:Nat):Qu->Int->Zh Int:=λx c=>jV x λxs=>cond xs.isEmpty none (some (Lib.indexByte (Lib.bytesOf xs) c.toNat.toUInt8))
theorem afZ(w:Nat):cQ Tryz.prog 369 [.v,.i .u8] (.i .i64) (Cx w):=by
 refine .mk λls r e hl us hu=>?_;obtain⟨x,r1,us1,h1,h2,rfl⟩:=gJ hu;obtain⟨y,r2,us2,h3,h4,rfl⟩:=gJ h2;obtain⟨rfl,rfl⟩:=nK h4;obtain rfl:=kY h1;obtain⟨c,rfl,rfl⟩:=tI h3;replace e:Cx w x c=some r:=e;refine⟨λz hz=>by simp[gP,VT.ks,wT] at hz,.int .i64 r,rfl,λm args' w hm A=>?_⟩;obtain⟨l⟩:=args';replace A:bD m _ l:=A;obtain⟨_,_,rfl,a0,A⟩:=A.inv;obtain⟨_,_,rfl,a1,A⟩:=A.inv;obtain rfl:=A.dY;cases a1;obtain⟨xs,h5,⟨a,cp,rfl,_,hc⟩|⟨rfl,cp,rfl⟩⟩:=xu hm e a0
 ·replace h5:cond xs.isEmpty none (some (Lib.indexByte (Lib.bytesOf xs) c.toNat.toUInt8))=some r:=h5;cases he:xs.isEmpty with
  |true=>rw[he] at h5;cases h5
  |false=>
  rw[he] at h5;cases h5;refine(Tryz.bytes_IndexByte_at a xs.length cp xs c w rfl hc).mono ?_
  rintro e w' ⟨rfl,rfl⟩
  exact⟨_,rfl,fq _ _,.int _ _⟩
 ·cases h5
end Lt
section
open Go.Shelf Go.RowKit Go.Lib Go.Sort
abbrev E4:=Int×Int×Int×Int
def fM(x:E4):H1 Qu:=[.int .i64 x.1,.int .i64 x.2.1,.int .i64 x.2.2.1,.int .i64 x.2.2.2]
def qj(x y:E4):Int:=Lib.compareInt x.1 y.1
theorem aaC(x y:E4)(W:Hx):Calls Tryz.prog 333 #[.agg #[.int .i64 x.1,.int .i64 x.2.1,.int .i64 x.2.2.1,.int .i64 x.2.2.2],.agg #[.int .i64 y.1,.int .i64 y.2.1,.int .i64 y.2.2.1,.int .i64 y.2.2.2]] W λe w'=>e=.returned (.int .i64 (Lib.compareInt x.1 y.1))/\∃q os',w'=grow (W.drewN q) os':=by
 have hcon:=λW'=>AnyG.cmp_Compare_int Tryz.aaD x.1 y.1 W';change∀W',Calls Tryz.prog 293 _ _ _ at hcon;generalize Lib.compareInt x.1 y.1 =r at hcon⊢
 go_enter Tryz.func333,Tryz.ntmps333
 go_wp2_with (go_at_call 293;refine(hcon _).mono ?_;rintro e w' ⟨rfl,rfl⟩)
 go_ret
 exact⟨rfl,0,_,by rw[alloc_eq_grow,alloc_eq_grow,grow_grow];rfl⟩
theorem EA(x y:E4):ltOf qj x y=decide (x.1 <y.1):=by
 unfold ltOf qj Lib.compareInt;by_cases h1:x.1 <y.1
 ·simp[h1]
 ·by_cases h2:y.1 <x.1 <;>simp[h1,h2]
theorem Zg:SWO (ltOf qj) where
 irrefl x:=by rw[EA];simp
 trans x y z h1 h2:=by rw[EA] at*;simp at*;omega
 ntrans x y z h1 h2:=by rw[EA] at*;simp at*;omega
def wS:H1 Qu->Zh (H1 E4)
 |[]=>some []
 | .int .i64 a::.int .i64 b::.int .i64 c::.int .i64 d::l=>Lt.ob (wS l) λxs=>some ((a,b,c,d)::xs)
 |_=>none
theorem ZG:∀{l:H1 Qu}{xs:H1 E4},wS l=some xs->l=xs.flatMap fM
 |[],_,e=>by cases e;rfl
 |v::l,xs,e=>by
  unfold wS at e;split at e
  ·rename_i q;cases q
  ·rename_i a b c d l' q;cases q;replace e:=Lt.ax e;obtain⟨ys,h1,e⟩:=e;cases e;rw[dG,<-ZG h1];rfl
  ·cases e
theorem AE:∀l:H1 E4,(l.flatMap fM).length=4*l.length
 |[]=>rfl
 |x::l=>by rw[dG,aP,AE l,cc];show 4+_=_;omega
theorem Ku:∀(l:H1 E4)(t:Nat),t<l.length*4->(l.flatMap fM)[t]? =some (fM (l[t/4]!))[t%4]!
 |[],t,h=>by simp at h
 |x::l,t,h=>by
  rw[dG];by_cases q:t<4
  ·rw[rQ (by exact q),Nat.div_eq_of_lt q,qO q];rw[cw (by exact q)];show some _=some (fM x)[t]!;rw[getElem!_pos _ t (by exact q)]
  ·have q:4<=t:=by omega
   rw[uJ (by exact q)];show(l.flatMap fM)[t -4]? =_;rw[Ku l (t -4) (by simp at h;omega)];have e1:t/4=(t -4)/4+1:=by omega
   have e2:(t -4)%4=t%4:=by omega
   rw[e1,e2];simp
theorem abC{l:H1 E4}{v:Qu}(h:v∈l.flatMap fM):∃n,v=.int .i64 n:=by obtain⟨x,_,hx⟩:=List.mem_flatMap.1 h;simp only[fM,cX,nu,nA] at hx;rcases hx with rfl|rfl|rfl|rfl<;>exact⟨_,rfl⟩
noncomputable def kx(l:H1 E4):H1 E4:=(pdq (ltOf qj) l.toArray 0 l.length (Lib.bitLen l.length) true true).toList
theorem YZ(l:H1 E4):(kx l).length=l.length/\(kx l).Perm l/\SortedIn (ltOf qj) 0 l.length (kx l).toArray:=by
 have:=pdq_sorts (ltOf qj) Zg l.toArray 0 l.length (Lib.bitLen l.length) true true (gU _) (by simp) (.inl rfl);obtain⟨⟨h1,_,h3⟩,h4⟩:=this;have hl:(kx l).length=l.length:=by unfold kx;rw[Array.length_toList,h1];simp
 refine⟨hl,?_,by unfold kx;simpa using h4⟩;have e1:((pdq (ltOf qj) l.toArray 0 l.length (Lib.bitLen l.length) true true).extract 0 l.length)=pdq (ltOf qj) l.toArray 0 l.length (Lib.bitLen l.length) true true:=by
  have:l.length=(pdq (ltOf qj) l.toArray 0 l.length (Lib.bitLen l.length) true true).size:=by rw[h1];simp
  conv=>lhs;arg 3;rw[this]
  simp
 rw[e1] at h3;have e2:(l.toArray.extract 0 l.length)=l.toArray:=by
  have:l.length=l.toArray.size:=by simp
  rw[this];exact Array.extract_size
 rw[e2] at h3;unfold kx;simpa using h3
end
section
open Go.Shelf Go.RowKit Go.Lib Go.Sort
theorem alH(w:Hx)(blk off n:Nat)(d:Array E4)(os:Array Obj):
 (sortWorldK fM 4 w blk off n d os).os=w.os/\(sortWorldK fM 4 w blk off n d os).tape=w.tape/\(sortWorldK fM 4 w blk off n d os).output=w.output/\w.heap.size<=(sortWorldK fM 4 w blk off n d os).heap.size/\
 (∀b,b<w.heap.size->b≠blk->(sortWorldK fM 4 w blk off n d os).heap[b]? =w.heap[b]?)/\
 ∀cz t fz,w.heap[blk]? =some (.cells cz t fz)->(sortWorldK fM 4 w blk off n d os).heap[blk]? =some (.cells (putCells id off (flatK fM 4 d) cz) t fz):=by
 refine⟨rfl,rfl,rfl,?_,λb hb cA=>?_,λcz t fz h=>?_⟩
 ·show w.heap.size<=(w.heap.modify blk _++os).size;simp
 ·show(w.heap.modify blk _++os)[b]? =_;rw[Array.getElem?_append_left (by simpa using hb),Array.getElem?_modify,aq (Ne.symm cA)]
 ·have hb:blk<w.heap.size:=by
   rcases gY blk w.heap.size with q|q
   ·exact q
   ·rw[Array.getElem?_eq_none q] at h;cases h
  show(w.heap.modify blk (onCells (putCells id off (flatK fM 4 d)))++os)[blk]? =_;rw[Array.getElem?_append_left (by simpa using hb),Array.getElem?_modify,ay rfl,h];rfl
theorem RX(l:H1 E4)(t:Nat)(h:t<l.length*4):(flatK fM 4 l.toArray)[t]! =(fM l[t/4]!)[t%4]! :=by rw[get_flatK _ _ _ _ (by simpa using h)];simp
namespace Lt
def alG:HT:=⟨2,⟨[(0,.gr 0 4),(1,.fn 333 [])],[(0,.grow 4 385)],1⟩,1,⟨[(0,.aH [])],[(0,.grow 4 385)],1⟩⟩
noncomputable def uy(w:Nat):H1 Qu->Zh (H1 Qu):=λcs=>ob (wS cs) λl=>cond (l.isEmpty||!aF l.length) none (some ((kx l).flatMap fM))
theorem ac4{β:Type}{f:Fn [.c] (Zh β)}{ls:H1 bq}{r:β}(e:iI [.c] f ls=some r):∃cs,ls=[.c cs]:=by
 match ls,e with
 |[.c cs],_=>exact⟨cs,rfl⟩
 |[],e=>cases e
 | .i _::_,e=>cases e
 | .b _::_,e=>cases e
 | .s _::_,e=>cases e
 | .v _::_,e=>cases e
 | .n _::_,e=>cases e
 | .c _::_::_,e=>cases e
theorem acs{m:Nat->Nat->Zh Qu}{c ws:H1 Qu}(h:PW (aK m) c ws)(hi:∀v∈c,∃n,v=.int .i64 n):ws=c:=by
 apply rP;intro i;cases hc:c[i]? with
 |none=>rw[List.getElem?_eq_none_iff] at hc;rw[kR (by rw[<-h.1];exact hc)]
 |some u=>obtain⟨v,a,b⟩:=h.get hc;obtain⟨q,rfl⟩:=hi u (ou hc);cases b;exact a
theorem acr{m:Nat->Nat->Zh Qu}{c:H1 Qu}(hi:∀v∈c,∃n,v=.int .i64 n):PW (aK m) c c:=⟨rfl,λi x y a b=>by rw[a] at b;cases b;obtain⟨q,rfl⟩:=hi x (ou a);exact .int _ _⟩
theorem afO(w:Nat):nB Tryz.prog 332 alG (uy w):=by
 intro ls r st so e hst hso B σ w1 args' hn _ R M;obtain⟨cs,rfl⟩:=ac4 e;replace e:uy w cs=some r:=e;cases hst;cases hso;unfold uy at e;replace e:=ax e;obtain⟨l,hl,e⟩:=e;have hcs:=ZG hl;cases he:(l.isEmpty||!aF l.length) with
 |true=>rw[he] at e;cases e
 |false=>
 rw[he] at e;cases e;rw[Bool.or_eq_false_iff] at he;have hpos:0<l.length:=by cases l<;>simp_all
 have hlim:l.length<4611686018427387904:=by
  have:=he.2;unfold aF at this;have:Nat.ble l.length 1000000000=true:=by simpa using this
  have:=dW this;omega
 have hclen:cs.length=4*l.length:=by rw[hcs,AE]
 obtain⟨sl,sp,ss⟩:=YZ l;have d0:=R 0 (.gr 0 4) rfl;have d1:=R 1 (.fn 333 []) rfl;obtain⟨al⟩:=args';obtain⟨v0,v1,rfl⟩:∃a b,al=[a,b]:=by
  match al,hn with
  |[a,b],_=>exact⟨a,b,rfl⟩
 replace d0:DV σ (.gr 0 4) v0:=d0;replace d1:DV σ (.fn 333 []) v1:=d1;have hv1:v1=.func (.func 333) #[] #[]:=by
  cases d1 with
  |fn g _=>have:=kC g.symm;subst this;rfl
 subst hv1;obtain⟨_,k2,k3⟩:=M.obj 0 (.grow 4 cs 385) rfl;rcases k3 with⟨_,g2⟩|⟨o,n,cz',g1,⟨fz,q1,q2⟩,g3,g4,g5,g6⟩
 ·rw[g2] at hclen;simp at hclen;omega
 have hn:n=l.length:=by omega
 subst hn;have isI:∀{l':H1 E4},∀v∈l'.flatMap fM,∃n,v=.int .i64 n:=λv hv=>abC hv;have hws:=acs g6 (by rw[hcs];exact isI);obtain⟨cp,hcp,rfl⟩:∃c,c*4=o.2 /\v0=.slice (some ⟨o.1,0,none⟩) l.length c:=by
  cases d0 with
  |jJ g=>rw[g1] at g;cases g
  |gr g hc _=>rw[g1] at g;cases g;exact⟨_,hc,rfl⟩
 have hblk:o.1 <w1.heap.size:=by
  rcases gY o.1 w1.heap.size with q|q
  ·exact q
  ·rw[Array.getElem?_eq_none q] at q1;cases q1
 have cellv:∀(i:Nat)(v:Qu),(l.flatMap fM)[i]? =some v->cz'[i]? =some v:=by
  intro i v hv;rw[<-hcs,<-hws,o6] at hv;split at hv
  ·simpa using hv
  ·cases hv
 have hH:HoldsK fM 4 w1 o.1 0 l.toArray:=by
  intro j hj;have hj:j<l.length*4:=by simpa using hj
  have p:=cellv j _ (Ku l j hj);constructor
  ·rw[RX l j hj];show w1.cell? ⟨o.1,0+j,none⟩=some _;rw[fI];unfold World.cell?;simp only[q1];exact p
  ·unfold World.frozen?;simp only[q1];have hb:j<cz'.size:=by
    rcases gY j cz'.size with z|z
    ·exact z
    ·rw[Array.getElem?_eq_none z] at p;cases p
   rcases q2 with rfl|q2
   ·simp
   ·simp;omega
 have eg:∀args w,(callFunc 333 args).run Tryz.prog w=.ok (.enter 333 args) w:=enters_of Tryz.func333 (by kernel_rfl) rfl;refine(AnyQ.slices_SortFunc_eq Tryz.alE 4 Tryz.isAgg385 Tryz.sizeOf385 fM (λ_=>rfl) (λx v hv=>by simp[fM] at hv;rcases hv with rfl|rfl|rfl|rfl<;>rfl) qj Zg 333 #[] o.1 0 cp l.toArray w1 eg
  (λ_ _ _ _ x y=>aaC x y _) hH hblk (by simpa using hlim)).mono ?_
 rintro x w' ⟨rfl,n',os,rfl⟩
 have hD:pdq (ltOf qj) l.toArray 0 l.toArray.size (Lib.bitLen l.toArray.size) true true=(kx l).toArray:=by unfold kx;simp
 rw[hD];obtain⟨s1,s2,s3,s4,s5,s6⟩:=alH w1 o.1 0 n' (kx l).toArray os;have hb':=s6 cz' _ fz q1;have hsz:(putCells id 0 (flatK fM 4 (kx l).toArray) cz').size=cz'.size:=by simp[putCells]
 have hrow:((putCells id 0 (flatK fM 4 (kx l).toArray) cz').toList.take ((kx l).flatMap fM).length)=(kx l).flatMap fM:=by
  apply rP;intro i;have hl2:((kx l).flatMap fM).length=4*l.length:=by rw[AE,sl]
  rw[o6];split
  ·rename_i hi;rw[Ku _ _ (by omega)];have hi2:i<cz'.size:=by omega
   unfold putCells;rw[lR,Array.getElem?_mapIdx,zI hi2,rR,ay ⟨by omega,by simp;omega⟩];rw[Nat.sub_zero,RX _ _ (by omega)];rfl
  ·rename_i hi;rw[kR (by omega)]
 refine⟨σ,.tuple #[],rfl,λsv hsv=>?_,?_⟩
 ·have hsv:some (SV.aH [])=some sv:=hsv;cases hsv;exact .aH rfl λi x y h=>by simp at h
 ·refine(M.put (so':=.grow 4 ((kx l).flatMap fM) 385) (w':=sortWorldK fM 4 w1 o.1 0 n' (kx l).toArray os) rfl g1 ⟨s1,s2,s3,s4,λb hb ho=>s5 b hb ho⟩ ⟨by decide,iV.2 λx hx=>by obtain⟨q,rfl⟩:=isI x hx;rfl,.inr ⟨o,l.length,_,g1,⟨fz,hb',?_⟩,by rw[hsz];exact g3,by rw[AE,sl];omega,by rw[hsz,AE,sl];omega,by rw[hrow];exact acr isI⟩⟩).less (λi s h=>h) λ_ h=>h;unfold uQ;rw[hsz];exact q2
end Lt
end
section
open Go.Shelf Go.RowKit Go.Lib Go.Sort
theorem JD(T:TypeId)(R:Nat->Zh Qu)(B b q:Nat)(bs:H1 Qu)(w:Hx)(h:LibA.IsBuffer T R 5 B b q bs w):
 Calls Tryz.prog 120 #[.pointer (some ⟨b,q,none⟩)] w λe w'=>∃v,e=.returned v/\w'.ownsRow B 5 1 v bs.length bs/\∃n,w'=w.drewN n:=by
 have mixed:Tryz.prog.follows .mixedOrders=true:=by kernel_rfl
 obtain⟨hB,lr,hc⟩:=h.cases;rcases hc with⟨hnil,hbk⟩|⟨g,cap,cur,hbk,hBg,hg,hnc,hcm,hcs,htk,hgb⟩
 ·subst hnil;have c0:=hbk.c0;have c1:=hbk.c1
  go_enter Tryz.func120,Tryz.ntmps120
  go_wp2
  go_region_o
  all_goals(go_wp2;go_ret;exact⟨_,rfl,World.ownsRow_nil _ _ _ _,1,rfl⟩)
 ·have c0:=hbk.c0;have c1:=hbk.c1;have hcm':=hcm;unfold maxLen at hcm'
  go_enter Tryz.func120,Tryz.ntmps120
  go_wp2
  go_region_o
  all_goals(go_wp2;go_ret;exact⟨_,rfl,⟨by simp,.inr ⟨g,cap,cur,rfl,hBg,hg,hnc,hcm,by simpa using hcs,by simpa using htk⟩⟩,1,rfl⟩)
namespace Lt
theorem adA{m:Nat->Nat->Zh Qu}{w w1 w':Hx}(hm:Kn m w)(B:RowKit.Below w.heap.size w w1):∀b i v,cJ m w1 w' b i=some v->cJ m w w' b i=some v:=λb i v hv=>by
 unfold cJ at hv⊢;have:=B.size;by_cases h1:b<w.heap.size
 ·rw[ay (by omega)] at hv;rw[ay h1];exact hv
 ·by_cases h2:b<w1.heap.size
  ·rw[ay h2] at hv;exact absurd (mq (hm b i v hv)) h1
  ·rw[aq h2] at hv;rw[aq h1];exact hv
def bk(l:H1 Int):H1 Qu:=l.map λx=>.int .u8 x
theorem JJ(l:H1 Int):aZ (bk l)=true:=iV.2 λx hx=>by obtain⟨b,_,rfl⟩:=mK.1 hx;rfl
theorem Ez{m:Nat->Nat->Zh Qu}:∀l:H1 Int,bD m (bk l) (bk l)
 |[]=>.nil
 |_::l=>.cons (.int _ _) (Ez l)
theorem VD{m:Nat->Nat->Zh Qu}{w w':Hx}{B:Nat}{e:TypeId}(hB0:w.heap.size<=B){l:H1 Qu}{v:Qu}(h:w'.ownsRow B e 1 v l.length l)(hr:bD (cJ m w w') l l)(ho:aZ l=true):aK (cJ m w w') (ae l.length l) v:=by
 obtain⟨_,⟨rfl,hn⟩|⟨g,cap,cur,rfl,hB,hg,hnc,_,hcs,htk⟩⟩:=h
 ·have:l=[]:=kC hn;subst this;exact .fW
 ·refine .kv (ys:=l) hr.1 hr.2 (λi y hy=>?_) rfl hnc ho;unfold cJ;rw[aq (by show¬g<_;omega),sq hg];have:l[i]? =cur.toList[i]? :=by
   rw[<-htk,zK];rcases gY i (l.length*1) with q|q
   ·exact q
   ·rw[kR (by omega)] at hy;cases hy
  rw[this] at hy;simpa using hy
theorem Fk{m:Nat->Nat->Zh Qu}{w w':Hx}{B:Nat}(hB0:w.heap.size<=B){l:H1 Int}{v:Qu}(h:w'.ownsRow B 5 1 v l.length (bk l)):aK (cJ m w w') (ae l.length (bk l)) v:=by have hl:(bk l).length=l.length:=cH ..;rw[<-hl] at h⊢;exact VD hB0 h (Ez l) (JJ l)
noncomputable def tU(S:Int->Qu->Qu->Zh (Qu×Int))(o:Int)(d s:Qu):Zh (Qu×Int):=
 ob (S o d s) λr=>cond (aj r.2 0) (jV r.1 λxs=>cond (aF xs.length) (cond (Nat.blt 65533 (4+xs.length)) (some (ae 0 [],7)) (cond xs.isEmpty none (some (ae (4+xs.length) (bk ([77,80,70,0]++xs)),0)))) none) (some (ae 0 [],r.2))
theorem adn{m:Nat->Nat->Zh Qu}{w:Hx}(hm:Kn m w){S:Int->Qu->Qu->Zh (Qu×Int)}{o:Int}{d s dv sv:Qu}{r:Qu×Int}(e:tU S o d s=some r)(q:Qu×Int)(hq:S o d s=some q)
 (HC:∀w1,RowKit.Below w.heap.size w w1->Calls Tryz.prog 182 #[.agg #[.int .i64 o,dv],sv] w1 λe w'=>∃b,e=.returned (.tuple #[b,.int .i64 q.2])/\RowKit.Below w1.heap.size w1 w'/\aK (cJ m w w') q.1 b):
 Calls Tryz.prog 166 #[.agg #[.int .i64 o,dv],sv] w λe w'=>∃b,e=.returned (.tuple #[b,.int .i64 r.2])/\RowKit.Below w.heap.size w w'/\aK (cJ m w w') r.1 b:=by
 unfold tU at e;rw[hq] at e;obtain⟨b0,c⟩:=q;replace e:cond (aj c 0) (jV b0 λxs=>cond (aF xs.length) (cond (Nat.blt 65533 (4+xs.length)) (some (ae 0 [],7)) (cond xs.isEmpty none (some (ae (4+xs.length) (bk ([77,80,70,0]++xs)),0)))) none) (some (ae 0 [],c))=some r:=e;have HE:=Lib.hid e;clear e hq
 go_enter Tryz.func166,Tryz.ntmps166
 go_wp2_with fail
 refine(HC _ ((fq _ _).alloc (aM _) _)).mono ?_
 rintro e2 w2 ⟨b,rfl,hb,hl⟩
 have HB:=Lib.hid hb;have HL:=Lib.hid hl;clear hb hl;by_cases hz:c=0
 case neg=>
  have hr:r=(ae 0 [],c):=by
   have:=HE.out;have h1:aj c 0=false:=by
    cases hb:aj c 0 with
    |false=>rfl
    |true=>exfalso;apply hz;cases c<;>first|exact bX _ (bT hb)|cases hb
   rw[h1] at this;exact(jC this).symm
  have HR:=Lib.hid hr;have BB:RowKit.Below w.heap.size w w2:=((fq _ _).alloc (aM _) _).trans (HB.out.mono (by simp));have HBB:=Lib.hid BB;clear hr BB
  go_wp2_with fail
  all_goals first
   |(exfalso;rename_i hq;simp at hq;omega)
   |(go_ret2
     rw[HR.out];exact⟨_,rfl,HBB.out,.fW⟩)
 subst hz;have e':=HE.out;have e'':jV b0 (λxs=>cond (aF xs.length) (cond (Nat.blt 65533 (4+xs.length)) (some (ae 0 [],7)) (cond xs.isEmpty none (some (ae (4+xs.length) (bk ([77,80,70,0]++xs)),0)))) none)=some r:=e';have BB:RowKit.Below w.heap.size w w2:=((fq _ _).alloc (aM _) _).trans (HB.out.mono (by simp));obtain⟨xs,hx,⟨a,cp,rfl,hcp,hcell⟩|⟨rfl,cp,rfl⟩⟩:=xu (hm.new BB) e'' HL.out
 case inr=>exfalso;replace hx:cond (Nat.blt 65533 4) (some (ae 0 [],(7:Int))) (none:Zh (Qu×Int))=some r:=hx;cases hx
 clear e' e'';obtain⟨hroom,hx2⟩:=aW hx;clear hx;have hx:=hx2;clear hx2;have hsmall:xs.length<=1000000000:=dW hroom;have hw64:wrap64 (4+(xs.length:Int))=4+(xs.length:Int):=by unfold wrap64;omega
 clear hroom;have HX:=Lib.hid hx;have HC2:=Lib.hid hcell;have BB':=Lib.hid BB;clear hx hcell BB;have hbelow:0<xs.length->a.block<w2.heap.size:=λh0=>by have:=HC2.out 0 h0;rw[show a.add 0=a from rfl] at this;exact ja _ _ this
 by_cases hlong:65533<4+xs.length
 case pos=>
  have hr:r=(ae 0 [],7):=by have:=HX.out;rw[show Nat.blt 65533 (4+xs.length)=true from zL hlong] at this;exact(jC this).symm
  have HR:=Lib.hid hr;clear hr hbelow
  go_wp2_with fail
  all_goals first
   |(exfalso;rename_i hq;simp at hq;omega)
   |(go_ret2
     rw[HR.out];exact⟨_,rfl,BB'.out,.fW⟩)
 have cA:xs≠[]:=by
  rintro rfl
  have:=HX.out;replace this:cond (Nat.blt 65533 4) (some (ae 0 [],(7:Int))) (none:Zh (Qu×Int))=some r:=this;cases this
 have hr:r=(ae (4+xs.length) (bk ([77,80,70,0]++xs)),0):=by
  have:=HX.out;have h1:Nat.blt 65533 (4+xs.length)=false:=by
   cases hb:Nat.blt 65533 (4+xs.length) with
   |false=>rfl
   |true=>exact absurd (fb hb) hlong
  have h2:xs.isEmpty=false:=by cases xs<;>simp_all
  rw[h1,h2] at this;exact(jC this).symm
 have hpos:0<xs.length:=by cases xs<;>simp_all
 have HR:=Lib.hid hr;have HP:=Lib.hid hpos;have HBl:=Lib.hid (hbelow hpos);clear hr hpos hbelow cA
 go_wp2_with fail
 all_goals try(exfalso;rename_i hq;simp at hq;omega)
 have three:LibA.Three (w2.alloc (Obj.cells #[Value.slice none 0 0,Value.int IntKind.i64 0,Value.int IntKind.i8 0] 335)) w2.heap.size 0 335 (λ_=>none) (.slice none 0 0) (.int .i64 0) (.int .i8 0):=LibA.three_whole (heap_alloc_new w2 _);have buf:=LibA.zero_isBuffer (e:=5) (aM w2.heap.size) three;refine(Tryz.Buffer_WriteString_at 335 (λ_=>none) w2.heap.size w2.heap.size 0 [] _ _ buf (by simp) (λv hv=>by cases hv) (by decide)).mono ?_
 rintro e3 w3 ⟨rfl,hI,hb3,_⟩
 have HI:=Lib.hid hI;have HB3:=Lib.hid hb3;clear hI hb3 three buf
 go_wp2_with fail
 have hsrc:∀j v,(bk xs)[j]? =some v->w3.cell? (a.add j)=some v:=by
  intro j v hv;have hj:j<xs.length:=by
   rcases gY j xs.length with q|q
   ·exact q
   ·rw[kR (by simp[bk];omega)] at hv;cases hv
  have:=HC2.out j hj;have hv2:v=.int .u8 (xs.getD j 0):=by unfold bk at hv;rw[List.getElem?_map,cw hj] at hv;rw[wW,cw hj];simpa using hv.symm
  rw[hv2,<-this];have hbl:(a.add j).block=a.block:=by unfold Addr.add;split<;>rfl
  exact jl (((HB3.out.block _ (by rw[hbl];exact HBl.out)).trans (RowKit.Below.heap_alloc _ _ _ (by rw[hbl];exact HBl.out))))
 refine(Tryz.Buffer_Write_at 335 (λ_=>none) w2.heap.size w2.heap.size 0 _ (bk xs) a xs.length cp w3 HI.out (Nat.le_of_lt HI.out.lt) ?_ (by simp[bk]) (λh=>by have:=HBl.out;omega) hsrc ?_ ?_).mono ?_
 ·intro v hv;have hv:v∈Lib.byteCells [77,80,70,0]:=by simpa using hv
  simp[Lib.byteCells] at hv;rcases hv with rfl|rfl|rfl|rfl<;>rfl
 ·intro v hv;obtain⟨b,_,rfl⟩:=mK.1 hv;rfl
 ·simp[Lib.byteCells];omega
 rintro e4 w4 ⟨rfl,hI4,hb4,_⟩
 have HI4:=Lib.hid hI4;have HB4:=Lib.hid hb4;clear hI4 hb4 hsrc
 go_wp2_with fail
 refine(JD 335 (λ_=>none) w2.heap.size w2.heap.size 0 _ w4 HI4.out).mono ?_
 rintro e5 w5 ⟨v,rfl,hv,k,rfl⟩
 have HV:=Lib.hid hv;clear hv
 go_wp2_with fail
 go_ret2
 rw[HR.out];have hcells:(([]++Lib.byteCells [77,80,70,0])++bk xs:H1 Qu)=bk ([77,80,70,0]++xs):=by simp[Lib.byteCells,bk]
 have HV':=HV.out;rw[show(([]++Lib.byteCells (ByteArray.mk #[77,80,70,0]).data.toList)++bk xs:H1 Qu)=bk ([77,80,70,0]++xs) from hcells] at HV';have hlen:(bk ([77,80,70,0]++xs)).length=([77,80,70,0]++xs:H1 Int).length:=by simp[bk]
 rw[hlen] at HV';have hl2:([77,80,70,0]++xs:H1 Int).length=4+xs.length:=by simp;omega
 have B3:RowKit.Below w.heap.size w (w4.drewN k):=by have b1:=BB'.out;have b2:=b1.trans (((fq w2.heap.size w2).alloc (aM _) (Obj.cells #[Value.slice none 0 0,Value.int IntKind.i64 0,Value.int IntKind.i8 0] 335)).mono b1.size);have b3:=b2.trans (HB3.out.mono b1.size);have b4:=b3.trans (HB4.out.mono b1.size);exact⟨b4.os,b4.tape,b4.output,b4.size,b4.block⟩
 refine⟨v,rfl,B3,?_⟩;have:=Fk (m:=m) BB'.out.size HV';rw[hl2] at this;exact this
end Lt
end
namespace Lt
theorem DW{ts:H1 VT}{ls r:H1 bq}{pv:Qu}(e:jY (.agg ts) ls=some (pv,r)):∃vs,fR ts ls=some (vs,r)/\pv=.agg ⟨vs⟩:=by
 have e:(ob (fR ts ls) λr=>some (Value.agg ⟨r.1⟩,r.2))=some (pv,r):=by unfold jY at e;exact e
 replace e:=ax e;obtain⟨⟨a,b⟩,h1,e⟩:=e;cases e;exact⟨a,h1,rfl⟩
abbrev nE:VT:=.aH [.v,.i .i64]
theorem xQ{v:Qu}{i:Int}(h:aZ [v]=true):fF (gP (VT.ks nE) (show bL (VT.ks nE) from(v,i))):=by intro x hx;have hx:bq.v x∈[bq.v v,bq.i i]:=hx;simp at hx;rw[hx];exact h
theorem ZM{P:Program}{g:FuncId}{us:H1 Qu}{q:Qu×Int}(R:xf P g us λm v=>∃pv,jY nE (gP (VT.ks nE) (show bL (VT.ks nE) from q))=some (pv,[])/\fF (gP (VT.ks nE) (show bL (VT.ks nE) from q))/\aK m pv v){m:Nat->Nat->Zh Qu}{w:Hx}(hm:Kn m w){args':Array Qu}(A:bD m us args'.toList):
 ∀w1,RowKit.Below w.heap.size w w1->Calls P g args' w1 λe w'=>∃b,e=.returned (.tuple #[b,.int .i64 q.2])/\RowKit.Below w1.heap.size w1 w'/\aK (cJ m w w') q.1 b:=by
 intro w1 B;refine(R m args' w1 (hm.below B) A).mono ?_
 rintro e w' ⟨v',rfl,hb,pv,h1,_,hl⟩
 have h1:some (Value.tuple ⟨[q.1,.int .i64 q.2]⟩,([]:H1 bq))=some (pv,[]):=h1;cases h1;cases hl with
 |aH hl0 hl=>rename_i xs;obtain⟨xs⟩:=xs;obtain⟨_,_,rfl,a0,A⟩:=PW.inv (show bD (cJ m w1 w') [q.1,.int .i64 q.2] xs from⟨hl0,hl⟩);obtain⟨_,_,rfl,a1,A⟩:=PW.inv A;obtain rfl:=A.dY;cases a1;exact⟨_,rfl,hb,aK.mono (adA hm B) a0⟩
theorem zG{P:Program}{g:FuncId}{us:H1 Qu}{r:Qu×Int}
 (C:∀(m:Nat->Nat->Zh Qu)(args':Array Qu)(w:Hx),Kn m w->bD m us args'.toList->Calls P g args' w λe w'=>∃b,e=.returned (.tuple #[b,.int .i64 r.2])/\RowKit.Below w.heap.size w w'/\aK (cJ m w w') r.1 b):Qb P g us (.tuple #[r.1,.int .i64 r.2]):=
 λm args' w hm A=>(C m args' w hm A).mono λe w' ⟨b,h1,h2,h3⟩=>⟨_,h1,h2,have q:bD (cJ m w w') [r.1,.int .i64 r.2] [b,.int .i64 r.2]:=.cons h3 (.cons (.int _ _) .nil);.aH q.1 q.2⟩
theorem DC{x:Qu}{K:H1 Int->Zh (Qu×Int)}{r:Qu×Int}(e:jV x K=some r)(h:∀xs r,K xs=some r->aZ [r.1]=true):aZ [r.1]=true:=by
 unfold jV at e;split at e
 ·obtain⟨_,e⟩:=aW e;obtain⟨xs,_,e⟩:=ax e;exact h _ _ e
 ·cases e
theorem adm{S:Int->Qu->Qu->Zh (Qu×Int)}{o:Int}{d s:Qu}{r:Qu×Int}(e:tU S o d s=some r):aZ [r.1]=true:=by
 obtain⟨q,_,e⟩:=ax e;cases hc:aj q.2 0 with
 |false=>rw[hc] at e;cases e;rfl
 |true=>
  rw[hc] at e;refine DC e λxs r e=>?_;obtain⟨_,e⟩:=aW e;cases hb:Nat.blt 65533 (4+xs.length) with
  |true=>rw[hb] at e;cases e;rfl
  |false=>
   rw[hb] at e;cases he:xs.isEmpty with
   |true=>rw[he] at e;cases e
   |false=>rw[he] at e;cases e;rfl
theorem UN{S:Int->Qu->Qu->Zh (Qu×Int)}(F:cQ Tryz.prog 182 [.agg [.i .i64,.v],.v] nE S):cQ Tryz.prog 166 [.agg [.i .i64,.v],.v] nE (tU S):=by
 refine .mk λls r e hl us hu=>?_;have hu0:=hu;obtain⟨x,r1,us1,h1,h2,rfl⟩:=gJ hu;obtain⟨y,r2,us2,h3,h4,rfl⟩:=gJ h2;obtain⟨rfl,rfl⟩:=nK h4;obtain⟨vs,h5,rfl⟩:=DW h1;obtain⟨z,r3,us3,h6,h7,rfl⟩:=gJ h5;obtain⟨z2,r4,us4,h8,h9,rfl⟩:=gJ h7;obtain⟨rfl,rfl⟩:=nK h9;obtain⟨o,rfl,rfl⟩:=tI h6;obtain rfl:=kY h8;obtain rfl:=kY h3;replace e:tU S o z2 y=some r:=e;have e0:=e;unfold tU at e0;replace e0:=ax e0;obtain⟨q,hq,_⟩:=e0;refine⟨xQ (adm e),_,rfl,zG λm args' w hm A=>?_⟩;have A0:=A;obtain⟨al⟩:=args';replace A:bD m _ al:=A;obtain⟨_,_,rfl,a0,A⟩:=PW.inv A;obtain⟨_,_,rfl,a1,A⟩:=PW.inv A;obtain rfl:=A.dY;cases a0 with
 |agg l0 a0=>rename_i xs;obtain⟨xs⟩:=xs;obtain⟨_,_,rfl,b0,a0⟩:=PW.inv (show bD m [.int .i64 o,z2] xs from⟨l0,a0⟩);obtain⟨_,_,rfl,b1,a0⟩:=PW.inv a0;obtain rfl:=a0.dY;cases b0;exact adn hm e q hq (ZM (F [.i o,.v z2,.v y] q hq hl _ hu0) hm A0)
section
open Go.Shelf Go.RowKit Go.Lib Go.Sort
abbrev xg:VT:=.aH [.i .i64,.i .i64]
abbrev Dv:VT:=.agg [.i .i64,.v,.v,.v,.v,.v,.v,.v]
theorem ab6{P:Program}{g:FuncId}{us:H1 Qu}{q:Int×Int}(R:xf P g us λm v=>∃pv,jY xg (gP (VT.ks xg) (show bL (VT.ks xg) from q))=some (pv,[])/\fF (gP (VT.ks xg) (show bL (VT.ks xg) from q))/\aK m pv v){m:Nat->Nat->Zh Qu}{w:Hx}(hm:Kn m w){args':Array Qu}(A:bD m us args'.toList):
 ∀w1,RowKit.Below w.heap.size w w1->Calls P g args' w1 λe w'=>e=.returned (.tuple #[.int .i64 q.1,.int .i64 q.2])/\RowKit.Below w1.heap.size w1 w':=by
 intro w1 B;refine(R m args' w1 (hm.below B) A).mono ?_
 rintro e w' ⟨v',rfl,hb,pv,h1,_,hl⟩
 have h1:some (Value.tuple ⟨[.int .i64 q.1,.int .i64 q.2]⟩,([]:H1 bq))=some (pv,[]):=h1;cases h1;cases hl with
 |aH hl0 hl=>rename_i xs;obtain⟨xs⟩:=xs;obtain⟨_,_,rfl,a0,A⟩:=PW.inv (show bD (cJ m w1 w') [.int .i64 q.1,.int .i64 q.2] xs from⟨hl0,hl⟩);obtain⟨_,_,rfl,a1,A⟩:=PW.inv A;obtain rfl:=A.dY;cases a0;cases a1;exact⟨rfl,hb⟩
theorem KL{a b:Int}(h:aj a b=true):a=b:=by cases a<;>cases b<;>first|exact bX _ (bT h)|exact(bX _ (bT h).symm)|cases h
theorem ab2(a:Int):aj a a=true:=by cases a<;>exact nv _
theorem SA{a b:Int}(h:a≠b):aj a b=false:=by
 cases hb:aj a b with
 |false=>rfl
 |true=>exact absurd (KL hb) h
def qX:H1 Int:=[69,120,105,102,0,0]
noncomputable def u0(q:Qu×Int):Zh (Qu×Int):=
 cond (aj q.2 0) (jV q.1 λxs=>cond (aF xs.length) (cond xs.isEmpty none (some (ae (6+xs.length) (bk (qX++xs)),0))) none) (some (ae 0 [],q.2))
noncomputable def z8(L:Int->Qu->Qu->Qu->Qu->Qu->Qu->Qu->Zh (Int×Int))(W:Int->Qu->Qu->Qu->Qu->Qu->Qu->Qu->Zh (Qu×Int))(o:Int)(a b c d e f g:Qu):Zh (Qu×Int):=
 ob (L o a b c d e f g) λl=>cond (aj l.2 0) (cond (ak l.1 0) (some (ae 0 [],7)) (ob (W o a b c d e f g) u0)) (some (ae 0 [],l.2))
theorem Z9{m:Nat->Nat->Zh Qu}{w:Hx}(hm:Kn m w){o:Int}{a b c d e f g:Qu}{r:Qu×Int}(l:Int×Int)
 (HL:∀w1,RowKit.Below w.heap.size w w1->Calls Tryz.prog 116 #[.agg #[.int .i64 o,a,b,c,d,e,f,g]] w1 λe w'=>e=.returned (.tuple #[.int .i64 l.1,.int .i64 l.2])/\RowKit.Below w1.heap.size w1 w')
 (HR:(l.2 ≠0/\r=(ae 0 [],l.2))\/(l.2 =0/\l.1 <0/\r=(ae 0 [],7))\/(l.2 =0/\¬l.1 <0/\∃q,u0 q=some r/\
  ∀w1,RowKit.Below w.heap.size w w1->Calls Tryz.prog 117 #[.agg #[.int .i64 o,a,b,c,d,e,f,g]] w1 λe w'=>∃b,e=.returned (.tuple #[b,.int .i64 q.2])/\RowKit.Below w1.heap.size w1 w'/\aK (cJ m w w') q.1 b)):
 Calls Tryz.prog 62 #[.agg #[.int .i64 o,a,b,c,d,e,f,g]] w λe w'=>∃b,e=.returned (.tuple #[b,.int .i64 r.2])/\RowKit.Below w.heap.size w w'/\aK (cJ m w w') r.1 b:=by
 obtain⟨l1,l2⟩:=l
 go_enter Tryz.func62,Tryz.ntmps62
 go_wp2_with fail
 refine(HL _ ((fq _ _).alloc (aM _) _)).mono ?_
 rintro e2 w2 ⟨rfl,hb⟩
 have BB:RowKit.Below w.heap.size w w2:=((fq _ _).alloc (aM _) _).trans (hb.mono (by simp));have cell0:∀i,i<8->w2.cell? ⟨w.heap.size,i,none⟩=(#[Value.int .i64 o,a,b,c,d,e,f,g]:Array Qu)[i]? :=λi hi=>by
  rw[jl (w':=w2) (w:=w.alloc (Obj.cells #[Value.int .i64 o,a,b,c,d,e,f,g] 28)) (a:=⟨w.heap.size,i,none⟩) (hb.block _ (by simp))];unfold World.cell?;show(match(w.alloc _).heap[w.heap.size]? with|some (.cells c _ _)=>c[i]? |_=>none)=_
  rw[heap_alloc_new]
 rcases HR with⟨h1,hr⟩|⟨h1,h2,hr⟩|⟨h1,h2,q,hq,HW⟩
 ·have HRR:=Lib.hid hr;have HBB:=Lib.hid BB;clear hb hr BB cell0 HL
  go_wp2_with fail
  all_goals first
   |(exfalso;rename_i hq;simp at hq;omega)
   |(go_ret2
     rw[HRR.out];exact⟨_,rfl,HBB.out,.fW⟩)
 ·have HRR:=Lib.hid hr;have HBB:=Lib.hid BB;have h1:l2=0:=h1;subst h1;clear hb hr BB cell0 HL
  go_wp2_with fail
  all_goals first
   |(exfalso;rename_i hq;simp at hq;omega)
   |(go_ret2
     rw[HRR.out];exact⟨_,rfl,HBB.out,.fW⟩)
 ·have h1:l2=0:=h1;subst h1;have HBB:=Lib.hid BB;have HQ:=Lib.hid hq;have c0:=cell0 0 (by omega);have c1:=cell0 1 (by omega);have c2:=cell0 2 (by omega);have c3:=cell0 3 (by omega);have c4:=cell0 4 (by omega);have c5:=cell0 5 (by omega);have c6:=cell0 6 (by omega);have c7:=cell0 7 (by omega);clear hb hq BB cell0 HL
  go_wp2_with fail
  all_goals try(exfalso;rename_i hq;simp at hq;omega)
  refine(HW _ HBB.out).mono ?_
  rintro e3 w3 ⟨v,rfl,hb3,hl3⟩
  obtain⟨q1,q2⟩:=q;have B3:RowKit.Below w.heap.size w w3:=HBB.out.trans (hb3.mono HBB.out.size);have HB3:=Lib.hid B3;have HL3:=Lib.hid hl3;clear hb3 hl3 B3 HBB c0 c1 c2 c3 c4 c5 c6 c7 HW;by_cases hz:q2=0
  case neg=>
   have hr:r=(ae 0 [],q2):=by have:=HQ.out;unfold u0 at this;rw[SA hz] at this;exact(jC this).symm
   have HRR:=Lib.hid hr;clear hr
   go_wp2_with fail
   all_goals first
    |(exfalso;rename_i hq;simp at hq;omega)
    |(go_ret2
      rw[HRR.out];exact⟨_,rfl,HB3.out,.fW⟩)
  subst hz;have e'':jV q1 (λxs=>cond (aF xs.length) (cond xs.isEmpty none (some (ae (6+xs.length) (bk (qX++xs)),(0:Int)))) none)=some r:=HQ.out;obtain⟨xs,hx,⟨ad,cp,rfl,hcp,hcell⟩|⟨rfl,cp,rfl⟩⟩:=xu (hm.new HB3.out) e'' HL3.out
  case inr=>exfalso;cases hx
  clear e'';obtain⟨hroom,hx2⟩:=aW hx;clear hx;have hsmall:xs.length<=1000000000:=dW hroom;clear hroom;have cA:xs≠[]:=by rintro rfl;cases hx2
  have hr:r=(ae (6+xs.length) (bk (qX++xs)),0):=by
   have h2:xs.isEmpty=false:=by cases xs<;>simp_all
   rw[h2] at hx2;exact(jC hx2).symm
  have hpos:0<xs.length:=by cases xs<;>simp_all
  have HC2:=Lib.hid hcell;clear hcell hx2 cA;have hbelow:ad.block<w3.heap.size:=by have:=HC2.out 0 hpos;rw[show ad.add 0=ad from rfl] at this;exact ja _ _ this
  have HRR:=Lib.hid hr;have HP:=Lib.hid hpos;have HBl:=Lib.hid hbelow;clear hr hpos hbelow
  go_wp2_with fail
  all_goals try(exfalso;rename_i hq;simp at hq;omega)
  have three:LibA.Three (w3.alloc (Obj.cells #[Value.slice none 0 0,Value.int IntKind.i64 0,Value.int IntKind.i8 0] 196)) w3.heap.size 0 196 (λ_=>none) (.slice none 0 0) (.int .i64 0) (.int .i8 0):=LibA.three_whole (heap_alloc_new w3 _);have buf:=LibA.zero_isBuffer (e:=5) (aM w3.heap.size) three;refine(Tryz.Buffer_WriteString_at 196 (λ_=>none) w3.heap.size w3.heap.size 0 [] _ _ buf (by simp) (λv hv=>by cases hv) (by decide)).mono ?_
  rintro e4 w4 ⟨rfl,hI,hb4,_⟩
  have HI:=Lib.hid hI;have HB4:=Lib.hid hb4;clear hI hb4 three buf
  go_wp2_with fail
  have hsrc:∀j v,(bk xs)[j]? =some v->w4.cell? (ad.add j)=some v:=by
   intro j v hv;have hj:j<xs.length:=by
    rcases gY j xs.length with q|q
    ·exact q
    ·rw[kR (by simp[bk];omega)] at hv;cases hv
   have:=HC2.out j hj;have hv2:v=.int .u8 (xs.getD j 0):=by unfold bk at hv;rw[List.getElem?_map,cw hj] at hv;rw[wW,cw hj];simpa using hv.symm
   rw[hv2,<-this];have hbl:(ad.add j).block=ad.block:=by unfold Addr.add;split<;>rfl
   exact jl (((HB4.out.block _ (by rw[hbl];exact HBl.out)).trans (RowKit.Below.heap_alloc _ _ _ (by rw[hbl];exact HBl.out))))
  refine(Tryz.Buffer_Write_at 196 (λ_=>none) w3.heap.size w3.heap.size 0 _ (bk xs) ad xs.length cp w4 HI.out (Nat.le_of_lt HI.out.lt) ?_ (by simp[bk]) (λh=>by have:=HBl.out;omega) hsrc ?_ ?_).mono ?_
  ·intro v hv;have hv:v∈Lib.byteCells [69,120,105,102,0,0]:=by simpa using hv
   simp[Lib.byteCells] at hv;rcases hv with rfl|rfl|rfl|rfl|rfl<;>rfl
  ·intro v hv;obtain⟨b,_,rfl⟩:=mK.1 hv;rfl
  ·simp[Lib.byteCells];omega
  rintro e5 w5 ⟨rfl,hI5,hb5,_⟩
  have HI5:=Lib.hid hI5;have HB5:=Lib.hid hb5;clear hI5 hb5 hsrc
  go_wp2_with fail
  refine(JD 196 (λ_=>none) w3.heap.size w3.heap.size 0 _ w5 HI5.out).mono ?_
  rintro e6 w6 ⟨v,rfl,hv,k,rfl⟩
  have HV:=Lib.hid hv;clear hv
  go_wp2_with fail
  go_ret2
  rw[HRR.out];have hcells:(([]++Lib.byteCells [69,120,105,102,0,0])++bk xs:H1 Qu)=bk (qX++xs):=by simp[Lib.byteCells,bk,qX]
  have HV':=HV.out;rw[show(([]++Lib.byteCells (ByteArray.mk #[69,120,105,102,0,0]).data.toList)++bk xs:H1 Qu)=bk (qX++xs) from hcells] at HV';have hlen:(bk (qX++xs)).length=(qX++xs:H1 Int).length:=by simp[bk]
  rw[hlen] at HV';have hl2:(qX++xs:H1 Int).length=6+xs.length:=by simp[qX];omega
  have B6:RowKit.Below w.heap.size w (w5.drewN k):=by have b1:=HB3.out;have b2:=b1.trans (((fq w3.heap.size w3).alloc (aM _) (Obj.cells #[Value.slice none 0 0,Value.int IntKind.i64 0,Value.int IntKind.i8 0] 196)).mono b1.size);have b3:=b2.trans (HB4.out.mono b1.size);have b4:=b3.trans (HB5.out.mono b1.size);exact⟨b4.os,b4.tape,b4.output,b4.size,b4.block⟩
  refine⟨v,rfl,B6,?_⟩;have:=Fk (m:=m) HB3.out.size HV';rw[hl2] at this;exact this
end
theorem amC{ls:H1 bq}{us:H1 Qu}(hu:fR [Dv] ls=some (us,[])):∃o a b c d e f g,ls=[.i o,.v a,.v b,.v c,.v d,.v e,.v f,.v g]/\us=[.agg ⟨[.int .i64 o,a,b,c,d,e,f,g]⟩]:=by obtain⟨x,r1,us1,h1,h2,rfl⟩:=gJ hu;obtain⟨rfl,rfl⟩:=nK h2;obtain⟨vs,h5,rfl⟩:=DW h1;obtain⟨z0,s0,t0,k0,g0,rfl⟩:=gJ h5;obtain⟨z1,s1,t1,k1,g1,rfl⟩:=gJ g0;obtain⟨z2,s2,t2,k2,g2,rfl⟩:=gJ g1;obtain⟨z3,s3,t3,k3,g3,rfl⟩:=gJ g2;obtain⟨z4,s4,t4,k4,g4,rfl⟩:=gJ g3;obtain⟨z5,s5,t5,k5,g5,rfl⟩:=gJ g4;obtain⟨z6,s6,t6,k6,g6,rfl⟩:=gJ g5;obtain⟨z7,s7,t7,k7,g7,rfl⟩:=gJ g6;obtain⟨rfl,rfl⟩:=nK g7;obtain⟨o,rfl,rfl⟩:=tI k0;obtain rfl:=kY k1;obtain rfl:=kY k2;obtain rfl:=kY k3;obtain rfl:=kY k4;obtain rfl:=kY k5;obtain rfl:=kY k6;obtain rfl:=kY k7;exact⟨o,_,_,_,_,_,_,_,rfl,rfl⟩
theorem Z6{q r:Qu×Int}(e:u0 q=some r):aZ [r.1]=true:=by
 unfold u0 at e;cases hc:aj q.2 0 with
 |false=>rw[hc] at e;cases e;rfl
 |true=>
  rw[hc] at e;refine DC e λxs r e=>?_;obtain⟨_,e⟩:=aW e;cases he:xs.isEmpty with
  |true=>rw[he] at e;cases e
  |false=>rw[he] at e;cases e;rfl
theorem SB{a b:Int}:ak a b=true↔a<b:=by rw[show ak a b=decide (a<b) from nO a b,cm]
theorem LZ{L:Int->Qu->Qu->Qu->Qu->Qu->Qu->Qu->Zh (Int×Int)}{W:Int->Qu->Qu->Qu->Qu->Qu->Qu->Qu->Zh (Qu×Int)}
 (FL:cQ Tryz.prog 116 [Dv] xg L) (FW:cQ Tryz.prog 117 [Dv] nE W):cQ Tryz.prog 62 [Dv] nE (z8 L W):=by
 refine .mk λls r e hl us hu=>?_;have hu0:=hu;obtain⟨o,a,b,c,d,x5,f,g,rfl,rfl⟩:=amC hu;obtain⟨r,hr'⟩:∃r0:Qu×Int,r0=r:=⟨r,rfl⟩;subst hr';replace e:z8 L W o a b c d x5 f g=some r:=e;unfold z8 at e;replace e:=ax e;obtain⟨l,hL,e⟩:=e;have fl3:=FL [.i o,.v a,.v b,.v c,.v d,.v x5,.v f,.v g] l hL hl _ hu0;have goal:aZ [r.1]=true/\∀(m:Nat->Nat->Zh Qu)(args':Array Qu)(w:Hx),Kn m w->bD m [Value.agg ⟨[.int .i64 o,a,b,c,d,x5,f,g]⟩] args'.toList->
  ((l.2 ≠0/\r=(ae 0 [],l.2))\/(l.2 =0/\l.1 <0/\r=(ae 0 [],7))\/(l.2 =0/\¬l.1 <0/\∃q,u0 q=some r/\
  ∀w1,RowKit.Below w.heap.size w w1->Calls Tryz.prog 117 args' w1 λe w'=>∃b,e=.returned (.tuple #[b,.int .i64 q.2])/\RowKit.Below w1.heap.size w1 w'/\aK (cJ m w w') q.1 b)):=by
  by_cases h1:l.2 =0
  ·rw[h1,ab2,aC] at e;cases h2:ak l.1 0 with
   |true=>rw[h2,aC] at e;cases e;exact⟨rfl,λm args' w hm A=>.inr (.inl ⟨h1,SB.1 h2,rfl⟩)⟩
   |false=>rw[h2,aD] at e;replace e:=ax e;obtain⟨q,hq,e⟩:=e;exact⟨Z6 e,λm args' w hm A=>.inr (.inr ⟨h1,λh=>(by rw[SB.2 h] at h2;cases h2),q,e,ZM (FW [.i o,.v a,.v b,.v c,.v d,.v x5,.v f,.v g] q hq hl _ hu0) hm A⟩)⟩
  ·rw[SA h1,aD] at e;cases e;exact⟨rfl,λm args' w hm A=>.inl ⟨h1,rfl⟩⟩
 refine⟨xQ goal.1,_,rfl,zG λm args' w hm A=>?_⟩;have A0:=A;have G:=goal.2 m args' w hm A;have HL:=ab6 fl3 hm A;obtain⟨al⟩:=args';replace A:bD m _ al:=A;obtain⟨_,_,rfl,a0,A⟩:=PW.inv A;obtain rfl:=A.dY;cases a0 with
 |agg l0 a0=>rename_i xs;obtain⟨xs⟩:=xs;obtain⟨_,_,rfl,b0,a0⟩:=PW.inv (show bD m [.int .i64 o,a,b,c,d,x5,f,g] xs from⟨l0,a0⟩);obtain⟨_,_,rfl,b1,a0⟩:=PW.inv a0;obtain⟨_,_,rfl,b2,a0⟩:=PW.inv a0;obtain⟨_,_,rfl,b3,a0⟩:=PW.inv a0;obtain⟨_,_,rfl,b4,a0⟩:=PW.inv a0;obtain⟨_,_,rfl,b5,a0⟩:=PW.inv a0;obtain⟨_,_,rfl,b6,a0⟩:=PW.inv a0;obtain⟨_,_,rfl,b7,a0⟩:=PW.inv a0;obtain rfl:=a0.dY;cases b0;exact Z9 hm l HL G
end Lt
section
open Go.Shelf Go.RowKit Go.Lib
attribute [local go_sem] Oper.semAt_some
structure gI(B:Nat)(W W':World):Prop where
 os:W'.os=W.os
 tape:W'.tape=W.tape
 output:W'.output=W.output
 size:W.heap.size<=W'.heap.size
 block:∀k,k<W.heap.size->k≠B->W'.heap[k]? =W.heap[k]?
theorem gI.refl(B:Nat)(W:Hx):gI B W W:=⟨rfl,rfl,rfl,aM _,λ_ _ _=>rfl⟩
theorem gI.trans{B:Nat}{W W' W'':Hx}(h:gI B W W')(k:gI B W' W''):gI B W W'':=⟨k.os.trans h.os,k.tape.trans h.tape,k.output.trans h.output,fE h.size k.size,λb hb hn=>(k.block b (o9 hb h.size) hn).trans (h.block b hb hn)⟩
theorem gI.of{B n:Nat}{W W':Hx}(h:RowKit.Below n W W')(hn:W.heap.size<=n):gI B W W':=⟨h.os,h.tape,h.output,h.size,λk hk _=>h.block k (by omega)⟩
theorem gI.cell{B:Nat}{W W':Hx}(h:gI B W W'){a:Addr}{v:Qu}(c:W.cell? a=some v)(hn:a.block≠B):W'.cell? a=some v:=(jl (h.block _ (ja _ _ c) hn)).trans c
end
section
open Go.Shelf Go.RowKit Go.Lib
attribute [local go_sem] Oper.semAt_some
namespace Lt
def rowOf:Qu->Zh (Nat×H1 Qu)
 | .func (.via n ps 0 true) cs ys=>cond (Nat.beq ps.size 0&&Nat.beq ys.size 0) (some (n,cs.toList)) none
 |_=>none
theorem FQ{x:Qu}{n:Nat}{cs:H1 Qu}(h:rowOf x=some (n,cs)):x=ae n cs:=by
 unfold rowOf at h;split at h
 ·rename_i n' ps c ys;obtain⟨q,h⟩:=aW h;cases h;simp only[bt] at q;rw[show ps=#[] from Array.eq_empty_of_size_eq_zero (bT q.1),show ys=#[] from Array.eq_empty_of_size_eq_zero (bT q.2)];rfl
 ·cases h
def fV(x:Qu):Bool:=(rowOf x).isSome
theorem qZ{m:Nat->Nat->Zh Qu}{s v:Qu}(h:fV s=true)(l:aK m s v):∃a n c,v=.slice a n c:=by unfold fV at h;obtain⟨⟨n,cs⟩,h⟩:=Option.isSome_iff_exists.1 h;have:=FQ h;subst this;cases l<;>exact⟨_,_,_,rfl⟩
def vL(f:Qu->Qu->Qu->Bool):H1 Qu->Bool
 |[]=>true
 | .int .i64 _::t::s::b::r=>((fV t&&(fV s&&fV b))&&f t s b)&&vL f r
 |_=>false
noncomputable def mr(E:Qu->Qu->Qu->Bool):Nat->Qu->Qu->Qu->Bool
 |0,_,_,_=>false
 |f+1,t,s,b=>E t s b&&(match rowOf s with
  |some (n,cs)=>Nat.beq cs.length (n*4)&&Nat.blt n 1000000000&&vL (mr E f) cs
  |none=>false)
theorem TQ{f:Qu->Qu->Qu->Bool}:∀{cs:H1 Qu}(n i:Nat),vL f cs=true->cs.length=n*4->i<n->∃a t s b,cs[4*i]? =some (.int .i64 a)/\cs[4*i+1]? =some t/\cs[4*i+2]? =some s/\cs[4*i+3]? =some b/\(fV t&&(fV s&&fV b))=true/\f t s b=true
 |[],0,i,_,_,h=>by omega
 |[],n+1,i,_,hl,_=>by simp at hl
 |x::l,n,i,h,hl,hi=>by
  unfold vL at h;split at h
  ·rename_i q;cases q
  ·rename_i a t s b r q;cases q;rw[bt,bt] at h;cases i with
   |zero=>exact⟨a,t,s,b,rfl,rfl,rfl,rfl,h.1⟩
   |succ i=>obtain⟨n,rfl⟩:∃k,n=k+1:=⟨n -1,by omega⟩;obtain⟨a',t',s',b',h0,h1,h2,h3,h4⟩:=TQ (cs:=r) n i h.2 (by simp at hl;omega) (by omega);exact⟨a',t',s',b',by rw[show 4*(i+1)=(4*i)+4 by omega];exact h0,by rw[show 4*(i+1)+1=(4*i+1)+4 by omega];exact h1,by rw[show 4*(i+1)+2=(4*i+2)+4 by omega];exact h2,by rw[show 4*(i+1)+3=(4*i+3)+4 by omega];exact h3,h4⟩
  ·cases h
termination_by cs=>cs.length
theorem FP{m:Nat->Nat->Zh Qu}{s v:Qu}{n:Nat}{cs:H1 Qu}(h:rowOf s=some (n,cs))(l:aK m s v):
 ∃a c,v=.slice a n c/\(0<n->∃b o ys,a=some ⟨b,o,none⟩/\n<=c/\bD m cs ys/\∀i y,ys[i]? =some y->∀W,Kn m W->W.cell? ⟨b,o+i,none⟩=some y):=by
 have:=FQ h;subst this;cases l with
 |kv r1 r2 q hs hn ho=>rename_i c a ys;have r:bD m cs ys:=⟨r1,r2⟩;obtain⟨b,o,sp⟩:=a;cases hs;refine⟨_,c,rfl,λ_=>⟨b,o,ys,rfl,hn,r,λi y hy W hW=>?_⟩⟩;obtain⟨x,hx⟩:∃x,cs[i]? =some x:=⟨_,cw (by rw[bD.length (show bD m cs ys from r)];exact(mJ.1 hy).1)⟩;obtain⟨y',h1,h2⟩:=bD.get (show bD m cs ys from r) hx;rw[hy] at h1;cases h1;exact Ew h2.Ue (hW _ _ _ (q i y hy))
 |fW=>exact⟨_,_,rfl,λh=>absurd h (Nat.lt_irrefl 0)⟩
theorem yu{m:Nat->Nat->Zh Qu}{s v:Qu}{n:Nat}{cs:H1 Qu}(h:rowOf s=some (n,cs))(l:aK m s v){i:Nat}{x:Qu}(hx:cs[i]? =some x):gz x:=by
 have:=FQ h;subst this;cases l with
 |kv _ _ _ _ _ ho=>exact iV.1 ho x (ou hx)
 |fW=>simp at hx
theorem Kn.u9{m:Nat->Nat->Zh Qu}{n₀ B:Nat}{W W':Hx}(h:Kn m W)(hm:∀b i v,m b i=some v->b<n₀)(hB:n₀<=B)(b:gI B W W'):Kn m W':=λx i v hv=>
 (q9 (b.block x (mq (h x i v hv)) (by have:=hm x i v hv;omega))).trans (h x i v hv)
end Lt
theorem Rk(n₀ l B Y E:Nat)(m:Nat->Nat->Zh Qu)(J:Hx->Prop)(ok:Qu->Qu->Qu->Bool)(hB:n₀<=B)(hY:n₀<=Y)(hE:n₀<=E)(hBY:B≠Y)(hBE:B≠E)(hm:∀b i v,m b i=some v->b<n₀)
 (hJ:∀W W',J W->gI B W W'->J W')
 (hy:∀W (k:Int) t s b x0 x1 x2,ok t s b=true->Lt.gz t->Lt.gz s->Lt.gz b->Lt.aK m t x0->Lt.aK m s x1->Lt.aK m b x2->J W->Lt.Kn m W->n₀<=W.heap.size->YieldAt Fence.wide 0 Tryz.prog l #[.int .i64 k,.agg #[x0,x1,x2]] W λe W'=>e=.returned (.bool true)/\J W'/\RowKit.Below W.heap.size W W'):
 ∀(f:Nat)(t s b x0 x1 x2:Qu),Lt.mr ok f t s b=true->Lt.gz t->Lt.gz s->Lt.gz b->Lt.aK m t x0->Lt.aK m s x1->Lt.aK m b x2->∀(W:Hx)(k:Int),Lt.Kn m W->n₀<=W.heap.size->
  W.cell? ⟨B,0,none⟩=some (.int .i64 k)->W.frozen? ⟨B,0,none⟩=false->W.cell? ⟨Y,0,none⟩=some (.func (.yield l) #[] #[])->
  W.cell? ⟨E,0,none⟩=some (.func (.func 441) #[] #[.pointer (some ⟨B,0,none⟩),.pointer (some ⟨Y,0,none⟩),.pointer (some ⟨E,0,none⟩)])->J W->
  CallsIn Fence.wide 0 Tryz.prog 441 #[.agg #[x0,x1,x2],.pointer (some ⟨B,0,none⟩),.pointer (some ⟨Y,0,none⟩),.pointer (some ⟨E,0,none⟩)] W λe W'=>
   e=.returned (.bool true)/\J W'/\gI B W W'/\∃k',W'.cell? ⟨B,0,none⟩=some (.int .i64 k')/\W'.frozen? ⟨B,0,none⟩=false
 |0,t,s,b,x0,x1,x2,h,_,_,_,_,_,_,W,k,_,_,_,_,_,_,_=>by cases h
 |f+1,t,s,b,x0,x1,x2,h,pt,ps,pb,l0,l1,l2,W,k,hk,hn,cB,fB,cY,cE,hj=>by
  unfold Lt.mr at h;rw[bt] at h;obtain⟨h1,h2⟩:=h;have zB:B<W.heap.size:=ja _ _ cB;have zY:Y<W.heap.size:=ja _ _ cY;have zE:E<W.heap.size:=ja _ _ cE;refine callsIn_of_wp Tryz.func441 rfl trivial ?_ rfl;simp only[Tryz.ntmps441,p9,cc,List.length_nil,Nat.reduceAdd,Nat.reduceSub,pW,pX,pZ,pY,fy,eD];obtain⟨W1,hW1⟩:∃W1,W1=(W.setCell ⟨B,0,none⟩ (.int .i64 (wrap64 (k+1)))).alloc (.cells #[x0,x1,x2] 261):=⟨_,rfl⟩;have b1:gI B W W1:=by rw[hW1];refine⟨rfl,rfl,rfl,by simp,λk hk cA=>?_⟩;rw[Below.heap_alloc _ _ _ (by simpa using hk)];exact Below.heap_setCell _ _ _ k (λe=>cA (by rw[e]))
  have z1:W1.heap.size=W.heap.size+1:=by rw[hW1];simp
  obtain⟨fn,tmps,assign,body,hyv,hR⟩:=hy W1 (wrap64 (wrap64 (k+1) -1)) t s b x0 x1 x2 h1 pt ps pb l0 l1 l2 (hJ _ _ hj b1) (hk.u9 hm hB b1) (by omega);have c1:W1.cell? ⟨W.heap.size,1,none⟩=some x1:=by have q:=World.alloc_heap_new (W.setCell ⟨B,0,none⟩ (.int .i64 (wrap64 (k+1)))) (.cells #[x0,x1,x2] 261);rw[show(W.setCell ⟨B,0,none⟩ (.int .i64 (wrap64 (k+1)))).heap.size=W.heap.size by simp] at q;rw[hW1];unfold World.cell?;simp only[q];rfl
  rw[hW1] at hyv hR
  gi_wp2
  refine⟨rfl,hR.mono ?_⟩
  rintro e W2 ⟨rfl,j2,bl⟩
  rw[<-hW1] at bl;have b2:gI B W W2:=b1.trans (gI.of bl (aM _));have c2:W2.cell? ⟨W.heap.size,1,none⟩=some x1:=(bl.cell (p:=⟨W.heap.size,1,none⟩) (by show W.heap.size<_;omega)).trans c1;cases hr:Lt.rowOf s with
  |none=>rw[hr] at h2;cases h2
  |some q=>
  obtain⟨n,cs⟩:=q;rw[hr] at h2;simp only[bt] at h2;obtain⟨⟨h3,h4⟩,h5⟩:=h2;replace h3:=bT h3;replace h4:=Lt.fb h4;obtain⟨pa,c,rfl,hrow⟩:=Lt.FP hr l1;have cB2:W2.cell? ⟨B,0,none⟩=some (.int .i64 (wrap64 (k+1))):=by refine(bl.cell (p:=⟨B,0,none⟩) (by show B<_;omega)).trans ?_;rw[hW1];refine(jl (a:=⟨B,0,none⟩) (Below.heap_alloc _ _ _ (by simpa using zB))).trans ?_;exact World.cell?_setCell_same' _ _ _ (by rw[cB];rfl)
  have fB2:W2.frozen? ⟨B,0,none⟩=false:=by refine(bl.frozen (p:=⟨B,0,none⟩) (by show B<_;omega)).trans ?_;rw[hW1];refine(World.frozen?_of_block (a:=⟨B,0,none⟩) (Below.heap_alloc _ _ _ (by simpa using zB))).trans ?_;rw[World.frozen?_setCell];exact fB
  gi_wp2
  gi_loopw [19] (λp wr=>∃i:Nat,p=.int .i64 i/\i<=n/\J wr/\gI B W wr/\∃k',wr.cell? ⟨B,0,none⟩=some (.int .i64 k')/\wr.frozen? ⟨B,0,none⟩=false)
   (λp wr=>n -(Lib.intOf p).toNat)
  case atStart=>exact⟨0,rfl,gU _,j2,b2,_,cB2,fB2⟩
  case round=>
   obtain⟨i,rfl,hi,jr,br,k',cr,fr⟩:=hrel;rcases gY i n with hin|hin
   ·obtain⟨ab,ao,ys,rfl,hc,ry,hcell⟩:=hrow (by omega);obtain⟨a',t',s',b',e0,e1,e2,e3,eo,e4⟩:=Lt.TQ n i h5 h3 hin;obtain⟨y0,g0,r0⟩:=Lt.bD.get ry e0;obtain⟨y1,g1,r1⟩:=Lt.bD.get ry e1;obtain⟨y2,g2,r2⟩:=Lt.bD.get ry e2;obtain⟨y3,g3,r3⟩:=Lt.bD.get ry e3;have hkr:=hk.u9 hm hB br;have k0:=hcell _ _ g0 wr hkr;have k1:=hcell _ _ g1 wr hkr;have k2:=hcell _ _ g2 wr hkr;have k3:=hcell _ _ g3 wr hkr;rw[show ao+4*i=ao+i*4 by omega] at k0;rw[show ao+(4*i+1)=ao+i*4+1 by omega] at k1;rw[show ao+(4*i+2)=ao+i*4+2 by omega] at k2;rw[show ao+(4*i+3)=ao+i*4+3 by omega] at k3;cases r0;simp only[bt] at eo;obtain⟨p1,n1,c1,rfl⟩:=Lt.qZ eo.1 r1;obtain⟨p2,n2,c2,rfl⟩:=Lt.qZ eo.2.1 r2;obtain⟨p3,n3,c3,rfl⟩:=Lt.qZ eo.2.2 r3;clear hyv hR;have cEr:=br.cell cE (Ne.symm hBE);have cYr:=br.cell cY (Ne.symm hBY);have zEr:E<wr.heap.size:=ja _ _ cEr;obtain⟨W3,hW3⟩:∃W3,W3=wr.alloc (.cells #[.int .i64 a',.slice p1 n1 c1,.slice p2 n2 c2,.slice p3 n3 c3] 346):=⟨_,rfl⟩;have bl3:RowKit.Below wr.heap.size wr W3:=by rw[hW3];exact(fq _ wr).alloc (aM _) _
    have b3:gI B wr W3:=gI.of bl3 (aM _);have zBr:B<wr.heap.size:=ja _ _ cr;have ih:=Rk n₀ l B Y E m J ok hB hY hE hBY hBE hm hJ hy f t' s' b' _ _ _ e4 (Lt.yu hr l1 e1) (Lt.yu hr l1 e2) (Lt.yu hr l1 e3) r1 r2 r3 W3 k' (hkr.u9 hm hB b3) (fE hn (fE br.size b3.size)) ((bl3.cell (p:=⟨B,0,none⟩) zBr).trans cr) ((bl3.frozen (p:=⟨B,0,none⟩) zBr).trans fr) (b3.cell cYr (Ne.symm hBY)) (b3.cell cEr (Ne.symm hBE)) (hJ _ _ jr b3);rw[hW3] at ih
    gi_wp2
    refine⟨trivial,rfl,ih.mono ?_⟩
    rintro e W4 ⟨rfl,j4,b4,k4,c4,f4⟩
    gi_wp2
    exact⟨⟨i+1,by simp,by omega,j4,br.trans (b3.trans (by rw[hW3];exact b4)),k4,c4,f4⟩,by simp[Lib.intOf];omega⟩
   ·obtain rfl:i=n:=by omega
    gi_wp2
    go_ret
    exact⟨rfl,jr,br,k',cr,fr⟩
end
section
open Go.Shelf Go.RowKit Go.Lib
attribute [local go_sem] Oper.semAt_some
namespace Lt
def sy(f:Qu->Qu->Qu->Bool):H1 Qu->Bool
 |[]=>true
 |t::s::b::r=>((fV t&&(fV s&&fV b))&&f t s b)&&sy f r
 |_=>false
theorem TO{f:Qu->Qu->Qu->Bool}:∀{cs:H1 Qu}(n i:Nat),sy f cs=true->cs.length=n*3->i<n->∃t s b,cs[3*i]? =some t/\cs[3*i+1]? =some s/\cs[3*i+2]? =some b/\(fV t&&(fV s&&fV b))=true/\f t s b=true
 |[],0,i,_,_,h=>by omega
 |[],n+1,i,_,hl,_=>by simp at hl
 |x::l,n,i,h,hl,hi=>by
  unfold sy at h;split at h
  ·rename_i q;cases q
  ·rename_i t s b r q;cases q;rw[bt,bt] at h;cases i with
   |zero=>exact⟨_,s,b,rfl,rfl,rfl,h.1⟩
   |succ i=>obtain⟨n,rfl⟩:∃k,n=k+1:=⟨n -1,by omega⟩;obtain⟨t',s',b',h1,h2,h3,h4⟩:=TO (cs:=r) n i h.2 (by simp at hl;omega) (by omega);exact⟨t',s',b',by rw[show 3*(i+1)=(3*i)+3 by omega];exact h1,by rw[show 3*(i+1)+1=(3*i+1)+3 by omega];exact h2,by rw[show 3*(i+1)+2=(3*i+2)+3 by omega];exact h3,h4⟩
  ·cases h
termination_by cs=>cs.length
end Lt
theorem qS(W:Hx)(v:Qu)(t:TypeId):(W.alloc (.cells #[v] t)).cell? ⟨W.heap.size,0,none⟩=some v/\(W.alloc (.cells #[v] t)).frozen? ⟨W.heap.size,0,none⟩=false:=by
 have q:=World.alloc_heap_new W (.cells #[v] t);constructor
 ·unfold World.cell?;simp only[q];rfl
 ·unfold World.frozen?;simp only[q];rfl
theorem aa0(X l:Nat)(m:Nat->Nat->Zh Qu)(J:Hx->Prop)(ok:Qu->Qu->Qu->Bool)(W:Hx)(hX:X<W.heap.size)(hk:Lt.Kn m W)(hJ:∀B W' W'',W.heap.size<=B->J W'->gI B W' W''->J W'')
 (hy:∀W' (k:Int) t s b x0 x1 x2,ok t s b=true->Lt.gz t->Lt.gz s->Lt.gz b->Lt.aK m t x0->Lt.aK m s x1->Lt.aK m b x2->J W'->Lt.Kn m W'->W.heap.size<=W'.heap.size->YieldAt Fence.wide 0 Tryz.prog l #[.int .i64 k,.agg #[x0,x1,x2]] W' λe W''=>e=.returned (.bool true)/\J W''/\RowKit.Below W'.heap.size W' W'')
 (f:Nat) {v x:Qu} {n:Nat} {cs:H1 Qu} (hr:Lt.rowOf v=some (n,cs)) (h3:cs.length=n*3) (h5:Lt.sy (Lt.mr ok f) cs=true) (h4:n<1000000000) (pv:Lt.gz v) (lv:Lt.aK m v x) (c0:W.cell? ⟨X,1,none⟩=some x) (hj:J W):
 CallsIn Fence.wide 0 Tryz.prog 440 #[.func (.yield l) #[] #[],.pointer (some ⟨X,0,none⟩)] W λe W'=>(∃v,e=.returned v)/\J W'/\RowKit.Below W.heap.size W W':=by
 obtain⟨pa,c,rfl,hrow⟩:=Lt.FP hr lv;refine callsIn_of_wp Tryz.func440 rfl trivial ?_ rfl;simp only[Tryz.ntmps440,p9,cc,List.length_nil,Nat.reduceAdd,Nat.reduceSub,pW,pX,pZ,pY,fy,eD];obtain⟨V,hV⟩:∃V,V=Value.func (.func 441) #[] #[.pointer (some ⟨W.heap.size+1,0,none⟩),.pointer (some ⟨W.heap.size,0,none⟩),.pointer (some ⟨W.heap.size+1+1,0,none⟩)]:=⟨_,rfl⟩;have q1:=qS W (.func (.yield l) #[] #[]) 522;have q2:=qS (W.alloc (.cells #[.func (.yield l) #[] #[]] 522)) (.int .i64 0) 3;have q3:=qS ((W.alloc (.cells #[.func (.yield l) #[] #[]] 522)).alloc (.cells #[.int .i64 0] 3)) V 438;obtain⟨W1,hW1⟩:∃W1,W1=((W.alloc (.cells #[.func (.yield l) #[] #[]] 522)).alloc (.cells #[.int .i64 0] 3)).alloc (.cells #[V] 438):=⟨_,rfl⟩;have bl1:RowKit.Below W.heap.size W W1:=by rw[hW1];exact(((fq _ W).alloc (aM _) _).alloc (by simp) _).alloc (by simp;omega) _
 have z1:W1.heap.size=W.heap.size+3:=by rw[hW1];simp
 have b2:RowKit.Below (W.heap.size+2) ((W.alloc (.cells #[.func (.yield l) #[] #[]] 522)).alloc (.cells #[.int .i64 0] 3)) W1:=by rw[hW1];exact(fq _ _).alloc (by simp) _
 have b1:RowKit.Below (W.heap.size+1) (W.alloc (.cells #[.func (.yield l) #[] #[]] 522)) W1:=by rw[hW1];exact((fq _ _).alloc (by simp) _).alloc (by simp) _
 simp only[jm] at q2 q3;rw[<-hW1] at q3;obtain⟨q3,q4⟩:=q3;have q5:=(b2.cell (p:=⟨W.heap.size+1,0,none⟩) (by show W.heap.size+1<W.heap.size+2;omega)).trans q2.1;have q6:=(b2.frozen (p:=⟨W.heap.size+1,0,none⟩) (by show W.heap.size+1<W.heap.size+2;omega)).trans q2.2;have q7:=(b1.cell (p:=⟨W.heap.size,0,none⟩) (by show W.heap.size<W.heap.size+1;omega)).trans q1.1;have c1:=(bl1.cell (p:=⟨X,1,none⟩) hX).trans c0;clear q1 q2 b1 b2;have c2:=c1;rw[hW1,hV] at c2
 gi_wp2
 have hW2:=hW1;rw[hV] at hW2;rw[<-hW2];have hm:∀b i v,m b i=some v->b<W.heap.size:=λb i v h=>Lt.mq (hk b i v h);have b01:gI (W.heap.size+1) W W1:=gI.of bl1 (aM _)
 gi_loopw [11] (λp wr=>∃i:Nat,p=.int .i64 i/\i<=n/\J wr/\gI (W.heap.size+1) W1 wr/\∃k',wr.cell? ⟨W.heap.size+1,0,none⟩=some (.int .i64 k')/\wr.frozen? ⟨W.heap.size+1,0,none⟩=false)
  (λp wr=>n -(Lib.intOf p).toNat)
 case atStart=>exact⟨0,rfl,gU _,hJ _ _ _ (by omega) hj b01,gI.refl _ _,_,q5,q6⟩
 case round=>
  obtain⟨i,rfl,hi,jr,br,k',cr,fr⟩:=hrel;rcases gY i n with hin|hin
  ·obtain⟨ab,ao,ys,rfl,hc,ry,hcell⟩:=hrow (by omega);obtain⟨t',s',b',e1,e2,e3,eo,e4⟩:=Lt.TO n i h5 h3 hin;obtain⟨y1,g1,r1⟩:=Lt.bD.get ry e1;obtain⟨y2,g2,r2⟩:=Lt.bD.get ry e2;obtain⟨y3,g3,r3⟩:=Lt.bD.get ry e3;have hkr:=(hk.u9 hm (qb _) b01).u9 hm (qb _) br;have k1:=hcell _ _ g1 wr hkr;have k2:=hcell _ _ g2 wr hkr;have k3:=hcell _ _ g3 wr hkr;rw[show ao+3*i=ao+i*3 by omega] at k1;rw[show ao+(3*i+1)=ao+i*3+1 by omega] at k2;rw[show ao+(3*i+2)=ao+i*3+2 by omega] at k3;simp only[bt] at eo;obtain⟨p1,n1,c1,rfl⟩:=Lt.qZ eo.1 r1;obtain⟨p2,n2,c2,rfl⟩:=Lt.qZ eo.2.1 r2;obtain⟨p3,n3,c3,rfl⟩:=Lt.qZ eo.2.2 r3;have cEr:=br.cell q3 (by show W.heap.size+1+1≠_;omega);have cYr:=br.cell q7 (by show W.heap.size≠_;omega);rw[hV] at cEr;have zEr:=ja _ _ cEr;obtain⟨W3,hW3⟩:∃W3,W3=wr.alloc (.cells #[.slice p1 n1 c1,.slice p2 n2 c2,.slice p3 n3 c3] 261):=⟨_,rfl⟩;have bl3:RowKit.Below wr.heap.size wr W3:=by rw[hW3];exact(fq _ wr).alloc (aM _) _
   have b3:gI (W.heap.size+1) wr W3:=gI.of bl3 (aM _);have zBr:=ja _ _ cr;have ih:=Rk W.heap.size l (W.heap.size+1) W.heap.size (W.heap.size+1+1) m J ok (qb _) (aM _) (by omega) (by omega) (by omega) hm (λW' W''=>hJ _ W' W'' (qb _)) hy f t' s' b' _ _ _ e4 (Lt.yu hr lv e1) (Lt.yu hr lv e2) (Lt.yu hr lv e3) r1 r2 r3 W3 k' (hkr.u9 hm (qb _) b3)
    (fE b01.size (fE br.size b3.size)) ((bl3.cell zBr).trans cr) ((bl3.frozen zBr).trans fr) (b3.cell cYr (by show W.heap.size≠_;omega)) (b3.cell cEr (by show W.heap.size+1+1≠_;omega)) (hJ _ _ _ (qb _) jr b3)
   rw[hW3] at ih;clear hW1 hW2 hV
   gi_wp2
   refine⟨trivial,rfl,ih.mono ?_⟩
   rintro e W4 ⟨rfl,j4,b4,k4,c4,f4⟩
   gi_wp2
   exact⟨⟨i+1,by simp,by omega,j4,br.trans (b3.trans (by rw[hW3];exact b4)),k4,c4,f4⟩,by simp[Lib.intOf];omega⟩
  ·obtain rfl:i=n:=by omega
   gi_wp2
   go_end0
   exact⟨⟨_,rfl⟩,jr,bl1.trans ⟨br.os,br.tape,br.output,br.size,λk hk=>br.block k (by omega) (by omega)⟩⟩
end
section
open Go.Shelf Go.RowKit Go.Lib
attribute [local go_sem] Oper.semAt_some
theorem aaZ(o:Int)(x:Qu)(hx:∃a n c,x=.slice a n c)(w:Hx):Calls Tryz.prog 383 #[.agg #[.int .i64 o,x]] w λe w'=>e=.returned (.func (.func 440) #[] #[.pointer (some ⟨w.heap.size,0,none⟩)])/\w'=w.alloc (.cells #[.int .i64 o,x] 217):=by
 obtain⟨a,n,c,rfl⟩:=hx
 go_enter Tryz.func383,Tryz.ntmps383
 go_wp2_with fail
 go_ret
 exact⟨rfl,rfl⟩
theorem adt{m:Nat->Nat->Zh Qu}{w:Hx}(hk:Lt.Kn m w)(ok:Qu->Qu->Qu->Bool)(hok:∀t s b,ok t s b=true->Lt.fV t=true/\Lt.fV s=true/\Lt.fV b=true)
 (hE:∀W' t s b x0 x1 x2,ok t s b=true->Lt.gz t->Lt.gz s->Lt.gz b->Lt.aK m t x0->Lt.aK m s x1->Lt.aK m b x2->Lt.Kn m W'->Calls Tryz.prog 258 #[.agg #[x0,x1,x2]] W' λe W''=>∃k:Int,e=.returned (.int .i64 k)/\1<=k/\k<=65535/\RowKit.Below W'.heap.size W' W'')
 (hC:∀W' t s b x0,ok t s b=true->Lt.gz t->Lt.aK m t x0->Lt.Kn m W'->Calls Tryz.prog 384 #[x0,.func (.func 385) #[] #[]] W' λe W''=>e=.returned (.bool false)/\RowKit.Below W'.heap.size W' W'')
 (f:Nat) {v x:Qu} {n:Nat} {cs:H1 Qu} (hr:Lt.rowOf v=some (n,cs)) (h3:cs.length=n*3) (h5:Lt.sy (Lt.mr ok f) cs=true) (h4:n<1000000000) (pv:Lt.gz v) (lv:Lt.aK m v x) (o:Int):
 Calls Tryz.prog 321 #[.agg #[.int .i64 o,x]] w λe w'=>e=.returned (.bool true)/\RowKit.Below w.heap.size w w':=by
 obtain⟨pa,nn,c,rfl⟩:=Lt.qZ (by unfold Lt.fV;rw[hr];rfl) lv;refine(callsIn_wide (n:=0)).1 ?_;refine callsIn_of_wp_marks Tryz.func321 rfl trivial ?_ rfl;simp only[Tryz.ntmps321,p9,cc,List.length_nil,Nat.reduceAdd,Nat.reduceSub,pW,pX,pZ,pY,fy,eD]
 gi_wp2
 refine⟨trivial,rfl,(callsIn_wide.2 (aaZ o _ ⟨_,_,_,rfl⟩ _)).mono ?_⟩
 rintro e w' ⟨rfl,rfl⟩
 have q1:=qS (w.alloc (.cells #[.int .i64 o,.slice pa nn c] 217)) (.bool false) 4;have q2:=World.alloc_heap_new ((w.alloc (.cells #[.int .i64 o,.slice pa nn c] 217)).alloc (.cells #[.bool false] 4)) (.cells #[.int .i64 o,.slice pa nn c] 217);simp only[jm] at q1 q2;obtain⟨w1,hw1⟩:∃w1,w1=((w.alloc (.cells #[.int .i64 o,.slice pa nn c] 217)).alloc (.cells #[.bool false] 4)).alloc (.cells #[.int .i64 o,.slice pa nn c] 217):=⟨_,rfl⟩;have bw:RowKit.Below w.heap.size w w1:=by rw[hw1];exact(((fq _ w).alloc (aM _) _).alloc (by simp) _).alloc (by simp;omega) _
 have z1:w.heap.size+3<=w1.heap.size:=by rw[hw1];simp
 have bb:RowKit.Below (w.heap.size+2) ((w.alloc (.cells #[.int .i64 o,.slice pa nn c] 217)).alloc (.cells #[.bool false] 4)) w1:=by rw[hw1];exact(fq _ _).alloc (by simp) _
 rw[<-hw1] at q2;have q3:=(bb.cell (p:=⟨w.heap.size+1,0,none⟩) (by show w.heap.size+1<w.heap.size+2;omega)).trans q1.1;have q4:=(bb.frozen (p:=⟨w.heap.size+1,0,none⟩) (by show w.heap.size+1<w.heap.size+2;omega)).trans q1.2;have q5:w1.cell? ⟨w.heap.size+1+1,1,none⟩=some (.slice pa nn c):=by unfold World.cell?;simp only[q2];rfl
 rw[<-hw1];simp only[jm];clear q1 q2 bb hw1
 gi_wp2
 refine Bz (gf:=440) (lb:=#[.pointer (some ⟨w.heap.size+1+1,0,none⟩)]) rfl (enters_of Tryz.func440 (by kernel_rfl) rfl) ?_;intro fn W1 hW1;refine(callsIn_wide (n:=0)).1 ?_;generalize hR0:iX fn _ _ _ _ _ .ready=R0 at hW1⊢;have bl:RowKit.Below w1.heap.size w1 W1:=by rw[hW1];exact((fq _ w1).alloc (aM _) _).alloc (by simp) _
 have z2:w1.heap.size+2<=W1.heap.size:=by rw[hW1];simp
 have d1:W1.heap[w1.heap.size]? =some (.deferred (some [])):=by rw[hW1];exact(Below.heap_alloc _ _ _ (by simp)).trans (World.alloc_heap_new w1 _)
 have d2:W1.heap[w1.heap.size+1]? =some (.loop R0):=by have:=World.alloc_heap_new (w1.alloc (.deferred (some []))) (.loop R0);rw[jm] at this;rw[hW1];exact this
 have hk1:Lt.Kn m W1:=(hk.below bw).below bl;refine(aa0 (w.heap.size+1+1) (w1.heap.size+1) m (λW=>W.heap[w1.heap.size+1]? =some (.loop R0)/\W.heap[w1.heap.size]? =some (.deferred (some []))/\W.cell? ⟨w.heap.size+1,0,none⟩=some (.bool false)/\W.frozen? ⟨w.heap.size+1,0,none⟩=false) ok W1 (by omega) hk1 ?hJ ?hy f hr h3 h5 h4 pv lv ((bl.cell (p:=⟨w.heap.size+1+1,1,none⟩) (by show w.heap.size+1+1<_;omega)).trans q5)
  ⟨d2,d1,(bl.cell (p:=⟨w.heap.size+1,0,none⟩) (by show w.heap.size+1<_;omega)).trans q3,(bl.frozen (p:=⟨w.heap.size+1,0,none⟩) (by show w.heap.size+1<_;omega)).trans q4⟩).mono ?_
 case hJ=>
  rintro B W' W'' hB ⟨j1,j2,j3,j4⟩ hb
  have s1:=ja _ _ j3;have t1:∀k o,k<W1.heap.size->W'.heap[k]? =some o->W''.heap[k]? =some o:=λk o hk ho=>(hb.block k (fw.1 ho).1 (by omega)).trans ho;exact⟨t1 _ _ (by omega) j1,t1 _ _ (by omega) j2,hb.cell j3 (by show w.heap.size+1≠B;omega),(World.frozen?_of_block (a:=⟨w.heap.size+1,0,none⟩) (hb.block _ s1 (by show w.heap.size+1≠B;omega))).trans j4⟩
 case hy=>
  intro W' k t s b x0 x1 x2 ho pt ps pb l0 l1 l2 hj hkn hs;obtain⟨j1,j2,j3,j4⟩:=hj;obtain⟨i0,i1,i2⟩:=hok t s b ho;obtain⟨p0,n0,c0,rfl⟩:=Lt.qZ i0 l0;obtain⟨p1,n1,c1,rfl⟩:=Lt.qZ i1 l1;obtain⟨p2,n2,c2,rfl⟩:=Lt.qZ i2 l2;rw[<-hR0] at j1;refine FN (n:=0) (R:=λW=>(W.heap[w1.heap.size+1]? =some (.loop R0)/\W.heap[w1.heap.size]? =some (.deferred (some []))/\W.cell? ⟨w.heap.size+1,0,none⟩=some (.bool false)/\W.frozen? ⟨w.heap.size+1,0,none⟩=false)/\RowKit.Below W'.heap.size W' W) j1 rfl ?_;rw[hR0] at j1⊢;generalize iX fn _ _ _ _ _ .busy=R1;clear hW1
  gi_wp2
  have ls:w1.heap.size+1<W'.heap.size:=(fw.1 j1).1;refine⟨(Below.heap_alloc _ _ _ ls).trans j1,?_⟩;obtain⟨W3,hW3⟩:∃W3,W3=(W'.alloc (.cells #[.slice p0 n0 c0,.slice p1 n1 c1,.slice p2 n2 c2] 261)).putObj (w1.heap.size+1) (.loop R1):=⟨_,rfl⟩;have b3:gI (w1.heap.size+1) W' W3:=by rw[hW3];exact⟨rfl,rfl,rfl,by simp,λk hk cA=>(World.putObj_heap_other cA).trans (Below.heap_alloc _ _ _ hk)⟩
  have kl:W3.heap[w1.heap.size+1]? =some (.loop R1):=by rw[hW3];exact World.putObj_heap_same (by simp;omega)
  have ka:W3.heap[W'.heap.size]? =some (.cells #[.slice p0 n0 c0,.slice p1 n1 c1,.slice p2 n2 c2] 261):=by rw[hW3];exact(World.putObj_heap_other (by omega)).trans (World.alloc_heap_new W' _)
  have hm:∀b i v,m b i=some v->b<w.heap.size:=λb i v h=>Lt.mq (hk b i v h);have m3:=hkn.u9 hm (by omega) b3;have e0:W3.cell? ⟨W'.heap.size,0,none⟩=some (.slice p0 n0 c0):=by unfold World.cell?;simp only[ka];rfl
  have e1:W3.cell? ⟨W'.heap.size,1,none⟩=some (.slice p1 n1 c1):=by unfold World.cell?;simp only[ka];rfl
  have e2:W3.cell? ⟨W'.heap.size,2,none⟩=some (.slice p2 n2 c2):=by unfold World.cell?;simp only[ka];rfl
  have z3:W'.heap.size<W3.heap.size:=(fw.1 ka).1;rw[<-hW3];clear hW3
  gi_wp2
  refine⟨trivial,rfl,(CallsIn.inRound _ (callsIn_wide.2 (hE W3 t s b _ _ _ ho pt ps pb l0 l1 l2 m3))).mono ?_⟩
  rintro e W4 ⟨k4,rfl,g1,g2,b4⟩
  have e3:=(b4.cell (p:=⟨W'.heap.size,0,none⟩) z3).trans e0;have z4:=ja _ _ e3
  gi_wp2
  refine⟨trivial,rfl,(CallsIn.inRound _ (callsIn_wide.2 (hC W4 t s b _ ho pt l0 (m3.below b4)))).mono ?_⟩
  rintro e W5 ⟨rfl,b5⟩
  gi_wp2
  have bb:∀k,k<W3.heap.size->W5.heap[k]? =W3.heap[k]? :=λk hk=>(b5.block k (o9 hk b4.size)).trans (b4.block k hk);have kl5:=(bb _ (Nat.lt_trans ls z3)).trans kl;have s5:W3.heap.size<=W5.heap.size:=fE b4.size b5.size;have k5:∀k,k<W'.heap.size->(W5.putObj (w1.heap.size+1) (.loop R0)).heap[k]? =W'.heap[k]? :=λk hk=>by
   by_cases q:k=w1.heap.size+1
   ·rw[q,j1];exact World.putObj_heap_same (by omega)
   ·exact(World.putObj_heap_other q).trans ((bb k (by omega)).trans (b3.block k hk q))
  have sj:=ja _ _ j3;refine⟨kl5,⟨(k5 _ ls).trans j1,(k5 _ (by omega)).trans j2,(jl (a:=⟨w.heap.size+1,0,none⟩) (k5 _ sj)).trans j3,(World.frozen?_of_block (a:=⟨w.heap.size+1,0,none⟩) (k5 _ sj)).trans j4⟩,⟨?_,?_,?_,by simp;omega,k5⟩⟩
  ·exact b5.os.trans (b4.os.trans b3.os)
  ·exact b5.tape.trans (b4.tape.trans b3.tape)
  ·exact b5.output.trans (b4.output.trans b3.output)
 rintro e W2 ⟨⟨v,rfl⟩,⟨j1,j2,j3,j4⟩,bl2⟩
 refine⟨⟨_,rfl⟩,j1,?_⟩;generalize iX fn _ _ _ _ _ .exhausted=R9;obtain⟨W3,hW3⟩:∃W3,W3=W2.putObj (w1.heap.size+1) (.loop R9):=⟨_,rfl⟩;have pk:∀k,k≠w1.heap.size+1->W3.heap[k]? =W2.heap[k]? :=λk hk=>by rw[hW3];exact World.putObj_heap_other hk
 have c3:W3.cell? ⟨w.heap.size+1,0,none⟩=some (.bool false):=(jl (a:=⟨w.heap.size+1,0,none⟩) (pk _ (by show w.heap.size+1≠_;omega))).trans j3;have f3:W3.frozen? ⟨w.heap.size+1,0,none⟩=false:=(World.frozen?_of_block (a:=⟨w.heap.size+1,0,none⟩) (pk _ (by show w.heap.size+1≠_;omega))).trans j4;have k3:W3.heap[w1.heap.size]? =some (.deferred (some [])):=(pk _ (by omega)).trans j2;have bl3:RowKit.Below w.heap.size w W3:=by refine bw.trans ((bl.mono (by omega)).trans ((bl2.mono (by omega)).trans ?_));rw[hW3];exact⟨rfl,rfl,rfl,by simp,λk hk=>World.putObj_heap_other (by omega)⟩
 rw[<-hW3];clear hW3 hW1
 gi_wp2
 have z5:w.heap.size+1<w1.heap.size:=by omega
 have kD:(W3.setCell ⟨w.heap.size+1,0,none⟩ (.bool true)).heap[w1.heap.size]? =some (.deferred (some [])):=(Below.heap_setCell _ _ _ _ (by show _≠w.heap.size+1;omega)).trans k3;refine⟨by simp,.inl ⟨_,_,rfl,run_takeDeferred kD,?_⟩⟩;obtain⟨W4,hW4⟩:∃W4,W4=(W3.setCell ⟨w.heap.size+1,0,none⟩ (.bool true)).putObj w1.heap.size (.deferred none):=⟨_,rfl⟩;have c4:W4.cell? ⟨w.heap.size+1,0,none⟩=some (.bool true):=by rw[hW4];exact(jl (a:=⟨w.heap.size+1,0,none⟩) (World.putObj_heap_other (by show w.heap.size+1≠_;omega))).trans (World.cell?_setCell_same' _ _ _ (by rw[c3];rfl))
 have bl4:RowKit.Below w.heap.size w W4:=by rw[hW4];exact(bl3.setCell (p:=⟨w.heap.size+1,0,none⟩) (by show _<=w.heap.size+1;omega) _).trans ⟨rfl,rfl,rfl,by simp,λk hk=>World.putObj_heap_other (by omega)⟩
 rw[<-hW4];refine⟨.bool true,?_,rfl,bl4⟩;clear hW4;simp[results,Tryz.f321,cU,go_sem,c4]
end
namespace Lt
section
open Go.Shelf Go.RowKit Go.Lib
def mY(E:Qu->Qu->Qu->Zh Int)(C:Qu->Zh Bool)(t s b:Qu):Bool:=
 (fV t&&(fV s&&fV b))&&((match E t s b with
  |some k=>decide (1<=k)&&decide (k<=65535)
  |none=>false)&&(match C t with
  |some false=>true
  |_=>false))
noncomputable def EC(w:Nat)(E:Qu->Qu->Qu->Zh Int)(C:Qu->Zh Bool)(_:Int)(v:Qu):Zh Bool:=match rowOf v with
 |some (n,cs)=>cond (Nat.beq cs.length (n*3)&&(Nat.blt n 1000000000&&sy (mr (mY E C) w) cs)) (some true) none
 |none=>none
theorem S5{P:Program}{g:FuncId}{us:H1 Qu}{k:Int}(R:xf P g us λm v=>∃pv,jY (.i .i64) (gP (VT.ks (.i .i64)) (show bL (VT.ks (.i .i64)) from k))=some (pv,[])/\fF (gP (VT.ks (.i .i64)) (show bL (VT.ks (.i .i64)) from k))/\aK m pv v){m:Nat->Nat->Zh Qu}{w:Hx}(hm:Kn m w){args':Array Qu}(A:bD m us args'.toList):
 Calls P g args' w λe w'=>e=.returned (.int .i64 k)/\RowKit.Below w.heap.size w w':=
 (R m args' w hm A).mono λe w' ⟨v',h1,h2,pv,h3,_,h4⟩=>by have h3:some (Value.int .i64 k,([]:H1 bq))=some (pv,[]):=h3;cases h3;cases h4;exact⟨h1,h2⟩
theorem QL{P:Program}{g:FuncId}{us:H1 Qu}{k:Bool}(R:xf P g us λm v=>∃pv,jY .b (gP (VT.ks .b) (show bL (VT.ks .b) from k))=some (pv,[])/\fF (gP (VT.ks .b) (show bL (VT.ks .b) from k))/\aK m pv v){m:Nat->Nat->Zh Qu}{w:Hx}(hm:Kn m w){args':Array Qu}(A:bD m us args'.toList):
 Calls P g args' w λe w'=>e=.returned (.bool k)/\RowKit.Below w.heap.size w w':=
 (R m args' w hm A).mono λe w' ⟨v',h1,h2,pv,h3,_,h4⟩=>by have h3:some (Value.bool k,([]:H1 bq))=some (pv,[]):=h3;cases h3;cases h4;exact⟨h1,h2⟩
theorem adr{E:Qu->Qu->Qu->Zh Int}{C:Qu->Zh Bool}(HE:cQ Tryz.prog 258 [.agg [.v,.v,.v]] (.i .i64) E)(HC:cQ Tryz.prog 384 [.v,.fn 385 []] .b C)(w:Nat):cQ Tryz.prog 321 [.agg [.i .i64,.v]] .b (EC w E C):=by
 refine .mk λls r e hl us hu=>?_;obtain⟨x,r1,us1,h1,h2,rfl⟩:=gJ hu;obtain⟨rfl,rfl⟩:=nK h2;obtain⟨vs,h5,rfl⟩:=DW h1;obtain⟨z,r3,us3,h6,h7,rfl⟩:=gJ h5;obtain⟨z2,r4,us4,h8,h9,rfl⟩:=gJ h7;obtain⟨rfl,rfl⟩:=nK h9;obtain⟨o,rfl,rfl⟩:=tI h6;obtain rfl:=kY h8;replace e:EC w E C o z2=some r:=e;have pz:=hl z2 (by simp);unfold EC at e;split at e
 ·rename_i n cs hr;obtain⟨q,e⟩:=aW e;cases e;simp only[bt] at q;obtain⟨q1,q2,q3⟩:=q;refine⟨λz hz=>by simp[gP,VT.ks,wT] at hz,.bool true,rfl,λm args' W hm A=>?_⟩
  ·obtain⟨al⟩:=args';replace A:bD m _ al:=A;obtain⟨_,_,rfl,a0,A⟩:=PW.inv A;obtain rfl:=A.dY;cases a0 with
   |agg l0 a0=>
    rename_i xs;obtain⟨xs⟩:=xs;obtain⟨_,_,rfl,b0,a0⟩:=PW.inv (show bD m [.int .i64 o,z2] xs from⟨l0,a0⟩);obtain⟨_,_,rfl,b1,a0⟩:=PW.inv a0;obtain rfl:=a0.dY;cases b0;have hok:∀t s b,mY E C t s b=true->(fV t=true/\fV s=true/\fV b=true)/\(∃k,E t s b=some k/\1<=k/\k<=65535)/\C t=some false:=λt s b h=>by
     unfold mY at h;simp only[bt] at h;obtain⟨h1,h2,h3⟩:=h;refine⟨h1,?_,?_⟩
     ·split at h2
      ·rename_i k hk;simp at h2;exact⟨k,hk,h2⟩
      ·cases h2
     ·split at h3
      ·assumption
      ·cases h3
    refine(adt hm (mY E C) (λt s b h=>(hok t s b h).1) ?_ ?_ w hr (bT q1) q3 (fb q2) pz b1 o).mono λe w' ⟨h1,h2⟩=>⟨_,h1,h2,.bool _⟩
    ·intro W' t s b x0 x1 x2 h pt ps pb l0 l1 l2 hk;obtain⟨⟨i0,i1,i2⟩,⟨k,hE,k1,k2⟩,_⟩:=hok t s b h;have f3:=HE [.v t,.v s,.v b] k hE (λx hx=>by
      simp only[cX,bq.v.injEq,nu,nA] at hx;rcases hx with rfl|rfl|rfl
      ·exact pt
      ·exact ps
      ·exact pb) _ rfl
     exact(S5 f3 hk (.cons (.EM (.cons l0 (.cons l1 (.cons l2 .nil)))) .nil)).mono λe w' ⟨h1,h2⟩=>⟨k,h1,k1,k2,h2⟩
    ·intro W' t s b x0 h pt l0 hk;obtain⟨⟨i0,i1,i2⟩,_,hC⟩:=hok t s b h;have f3:=HC [.v t] false hC (λx hx=>by
      simp only[cX,bq.v.injEq,nu,nA] at hx;subst hx;exact pt) _ rfl
     exact QL f3 hk (.cons l0 (.cons .fn0 .nil))
 ·cases e
end
end Lt
section
open Go.Shelf Go.RowKit Go.Lib
attribute [local go_sem] Oper.semAt_some
theorem VH(a:Zh Addr)(n c:Nat)(w:Hx):Calls Tryz.prog 168 #[.slice a n c] w λe w'=>e=.returned (.func (.func 234) #[] #[.pointer (some ⟨w.heap.size,0,none⟩)])/\w'=w.alloc (.cells #[.slice a n c] 26):=by
 go_enter Tryz.func168,Tryz.ntmps168
 go_wp2_with fail
 go_ret
 exact⟨rfl,rfl⟩
theorem ahi(X l:Nat)(a:Zh Addr)(c:Nat)(W:Hx)(c0:W.cell? ⟨X,0,none⟩=some (.slice a 0 c)):
 CallsIn Fence.wide 0 Tryz.prog 234 #[.func (.yield l) #[] #[],.pointer (some ⟨X,0,none⟩)] W λe W'=>(∃v,e=.returned v)/\W'=W:=by
 refine callsIn_of_wp Tryz.func234 rfl trivial ?_ rfl;simp only[Tryz.ntmps234,p9,cc,List.length_nil,Nat.reduceAdd,Nat.reduceSub,pW,pX,pZ,pY,fy,eD]
 gi_wp2
 refine wpIn_loop_once ?_
 gi_wp2
 go_end0
 exact⟨⟨_,rfl⟩,rfl⟩
theorem ahj(X l n c:Nat)(b o:Nat)(h0:0<n)(h1:n<=65519)(hc:n<=c)(J:Hx->Prop)(W:Hx)(c0:W.cell? ⟨X,0,none⟩=some (.slice (some ⟨b,o,none⟩) n c))
 (hy:YieldAt Fence.wide 0 Tryz.prog l #[.slice (some ⟨b,o,none⟩) n n] W λe W2=>e=.returned (.bool true)/\W2.cell? ⟨X,0,none⟩=some (.slice (some ⟨b,o,none⟩) n c)/\W2.frozen? ⟨X,0,none⟩=false/\∀v,J (W2.setCell ⟨X,0,none⟩ v)):
 CallsIn Fence.wide 0 Tryz.prog 234 #[.func (.yield l) #[] #[],.pointer (some ⟨X,0,none⟩)] W λe W'=>(∃v,e=.returned v)/\J W':=by
 obtain⟨fn,tmps,assign,body,hyv,hR⟩:=hy;refine callsIn_of_wp Tryz.func234 rfl trivial ?_ rfl;simp only[Tryz.ntmps234,p9,cc,List.length_nil,Nat.reduceAdd,Nat.reduceSub,pW,pX,pZ,pY,fy,eD]
 gi_wp2
 refine wpIn_loop_rounds 2 ?_;rw[roundsIn_succ];have hmin:min (n:Int) 65519=n:=by omega
 have hnat:(n:Int).toNat=n:=rfl
 gi_wp2
 refine⟨rfl,hR.mono ?_⟩
 rintro e W2 ⟨rfl,c2,f2,hJ⟩
 by_cases hcn:c=n;all_goals
  gi_wp2
  rw[roundsIn_succ]
  gi_wp2
  go_end0
  exact⟨⟨_,rfl⟩,hJ _⟩
end
section
open Go.Shelf Go.RowKit Go.Lib
attribute [local go_sem] Oper.semAt_some
def mU:H1 Int:=[73,67,67,95,80,82,79,70,73,76,69,0,1,1]
def Chunk(W:Hx)(A:Nat)(xs:H1 Int):Prop:=∃g cp gb cap cur,W.cell? ⟨A+1,0,none⟩=some (.slice (some ⟨g,0,none⟩) 1 cp)/\1<=cp/\A<=g/\g≠A+1+1/\W.cell? ⟨g,0,none⟩=some (.slice (some ⟨gb,0,none⟩) (14+xs.length) cap)/\
 A<=gb/\gb≠A+1+1/\W.heap[gb]? =some (.cells cur 5 (0,0))/\14+xs.length<=cap/\cur.toList.take (14+xs.length)=Lt.bk (mU++xs)
theorem Chunk.tR{W W':Hx}{A:Nat}{xs:H1 Int}(h:Chunk W A xs)(e:∀q,q<W.heap.size->q≠A+1+1->W'.heap[q]? =W.heap[q]?):Chunk W' A xs:=by obtain⟨g,cp,gb,cap,cur,y1,y2,y3,y4,y5,y6,y7,y8,y9⟩:=h;exact⟨g,cp,gb,cap,cur,(jl (a:=⟨A+1,0,none⟩) (e _ (ja _ _ y1) (by show A+1≠_;omega))).trans y1,y2,y3,y4,(jl (a:=⟨g,0,none⟩) (e _ (ja _ _ y5) y4)).trans y5,y6,y7,(e _ (fw.1 y8).1 y7).trans y8,y9⟩
theorem tE(l:H1 Int):∀v∈Lt.bk l,v.oneCell'=true:=λv hv=>by obtain⟨b,_,rfl⟩:=mK.1 hv;rfl
theorem aaQ{m:Nat->Nat->Zh Qu}{w:Hx}(hk:Lt.Kn m w){xs:H1 Int}{b o c:Nat}(h0:0<xs.length)(h1:xs.length<=65519)(hc:xs.length<=c)(hcell:∀i,i<xs.length->w.cell? ⟨b,o+i,none⟩=some (.int .u8 (xs.getD i 0)))
 (HN:∀W,RowKit.Below w.heap.size w W->Calls Tryz.prog 167 #[.int .i64 xs.length] W λe W'=>e=.returned (.int .i64 1)/\RowKit.Below W.heap.size W W'):
 Calls Tryz.prog 109 #[.slice (some ⟨b,o,none⟩) xs.length c] w λe w'=>∃v,e=.returned (.tuple #[v,.int .i64 0])/\RowKit.Below w.heap.size w w'/\Lt.aK (Lt.cJ m w w') (Lt.ae 1 [Lt.ae (14+xs.length) (Lt.bk (mU++xs))]) v:=by
 refine(callsIn_wide (n:=0)).1 ?_;refine callsIn_of_wp_marks Tryz.func109 rfl trivial ?_ rfl;simp only[Tryz.ntmps109,p9,cc,List.length_nil,Nat.reduceAdd,Nat.reduceSub,pW,pX,pZ,pY,fy,eD]
 gi_wp2
 refine⟨trivial,rfl,(callsIn_wide.2 (HN _ (fq _ _))).mono ?_⟩
 rintro e w1 ⟨rfl,b1⟩
 gi_wp2
 refine⟨trivial,rfl,(callsIn_wide.2 (VH _ _ _ _)).mono ?_⟩
 rintro e w2 ⟨rfl,rfl⟩
 gi_wp2
 have q1:=qS w1 (.int .i64 1) 3;have q2:=qS (w1.alloc (.cells #[.int .i64 1] 3)) (.slice none 0 0) 35;have q3:=qS ((w1.alloc (.cells #[.int .i64 1] 3)).alloc (.cells #[.slice none 0 0] 35)) (.slice (some ⟨b,o,none⟩) xs.length c) 26;obtain⟨w2,hw2⟩:∃w2,w2=((w1.alloc (.cells #[.int .i64 1] 3)).alloc (.cells #[.slice none 0 0] 35)).alloc (.cells #[.slice (some ⟨b,o,none⟩) xs.length c] 26):=⟨_,rfl⟩;have bw:RowKit.Below w1.heap.size w1 w2:=by rw[hw2];exact(((fq _ w1).alloc (aM _) _).alloc (by simp) _).alloc (by simp;omega) _
 have z2:w1.heap.size+3<=w2.heap.size:=by rw[hw2];simp
 have z2':w2.heap.size<=w1.heap.size+3:=by rw[hw2];simp
 have bb1:RowKit.Below (w1.heap.size+1) (w1.alloc (.cells #[.int .i64 1] 3)) w2:=by rw[hw2];exact((fq _ _).alloc (by simp) _).alloc (by simp) _
 have bb2:RowKit.Below (w1.heap.size+2) ((w1.alloc (.cells #[.int .i64 1] 3)).alloc (.cells #[.slice none 0 0] 35)) w2:=by rw[hw2];exact(fq _ _).alloc (by simp) _
 simp only[jm] at q2 q3;rw[<-hw2] at q3;have e1:=(bb1.cell (p:=⟨w1.heap.size,0,none⟩) (by show w1.heap.size<w1.heap.size+1;omega)).trans q1.1;have e2:=(bb2.cell (p:=⟨w1.heap.size+1,0,none⟩) (by show w1.heap.size+1<w1.heap.size+2;omega)).trans q2.1;have f2:=(bb2.frozen (p:=⟨w1.heap.size+1,0,none⟩) (by show w1.heap.size+1<w1.heap.size+2;omega)).trans q2.2;obtain⟨e3,f3⟩:=q3;rw[<-hw2];clear q1 q2 bb1 bb2 hw2;refine Bz (gf:=234) (lb:=#[.pointer (some ⟨w1.heap.size+1+1,0,none⟩)]) rfl (enters_of Tryz.func234 (by kernel_rfl) rfl) ?_;intro fn W1 hW1;refine(callsIn_wide (n:=0)).1 ?_;generalize hR0:iX fn _ _ _ _ _ .ready=R0 at hW1⊢;have bl:RowKit.Below w2.heap.size w2 W1:=by rw[hW1];exact((fq _ w2).alloc (aM _) _).alloc (by simp) _
 have z3:w2.heap.size+2<=W1.heap.size:=by rw[hW1];simp
 have d1:W1.heap[w2.heap.size]? =some (.deferred (some [])):=by rw[hW1];exact(Below.heap_alloc _ _ _ (by simp)).trans (World.alloc_heap_new w2 _)
 have d2:W1.heap[w2.heap.size+1]? =some (.loop R0):=by have:=World.alloc_heap_new (w2.alloc (.deferred (some []))) (.loop R0);rw[jm] at this;rw[hW1];exact this
 clear hW1;refine(ahj (w1.heap.size+1+1) (w2.heap.size+1) xs.length c b o h0 h1 hc (λW=>W.heap[w2.heap.size+1]? =some (.loop R0)/\W.heap[w2.heap.size]? =some (.deferred (some []))/\RowKit.Below w1.heap.size w1 W/\
  Chunk W w1.heap.size xs) W1 ((bl.cell (p:=⟨w1.heap.size+1+1,0,none⟩) (by show w1.heap.size+1+1<_;omega)).trans e3) ?hy).mono ?_
 case hy=>
  rw[<-hR0] at d2;refine(FN (n:=0) (R:=λW=>W.cell? ⟨w1.heap.size+1+1,0,none⟩=some (.slice (some ⟨b,o,none⟩) xs.length c)/\W.frozen? ⟨w1.heap.size+1+1,0,none⟩=false/\W.heap[w2.heap.size+1]? =some (.loop R0)/\W.heap[w2.heap.size]? =some (.deferred (some []))/\RowKit.Below w1.heap.size w1 W/\
   Chunk W w1.heap.size xs) d2 rfl ?_).mono ?_
  ·rw[hR0] at d2⊢;generalize iX fn _ _ _ _ _ .busy=R1;have D2:=Lib.hid d2;clear d2
   gi_wp2
   refine⟨D2.out,?_⟩;obtain⟨W2,hW2⟩:∃W2,W2=W1.putObj (w2.heap.size+1) (.loop R1):=⟨_,rfl⟩;have b2:gI (w2.heap.size+1) W1 W2:=by rw[hW2];exact⟨rfl,rfl,rfl,by simp,λk hk cA=>World.putObj_heap_other cA⟩
   have kl:W2.heap[w2.heap.size+1]? =some (.loop R1):=by rw[hW2];exact World.putObj_heap_same (by omega)
   have kd:=(b2.block w2.heap.size (by omega) (by omega)).trans d1;have bA:gI (w2.heap.size+1) w2 W2:=(gI.of bl (aM _)).trans b2;have g1:=bA.cell e1 (by show w1.heap.size≠_;omega);have g2:=bA.cell e2 (by show w1.heap.size+1≠_;omega);have g3:=bA.cell e3 (by show w1.heap.size+1+1≠_;omega);have h2:W2.frozen? ⟨w1.heap.size+1,0,none⟩=false:=(World.frozen?_of_block (a:=⟨w1.heap.size+1,0,none⟩) (bA.block _ (by show w1.heap.size+1<_;omega) (by show w1.heap.size+1≠_;omega))).trans f2;have h3:W2.frozen? ⟨w1.heap.size+1+1,0,none⟩=false:=(World.frozen?_of_block (a:=⟨w1.heap.size+1+1,0,none⟩) (bA.block _ (by show w1.heap.size+1+1<_;omega) (by show w1.heap.size+1+1≠_;omega))).trans f3;have zW:w2.heap.size+2<=W2.heap.size:=fE z3 b2.size;have b1W:RowKit.Below w1.heap.size w1 W2:=⟨bA.os.trans bw.os,bA.tape.trans bw.tape,bA.output.trans bw.output,fE bw.size bA.size,λk hk=>(bA.block k (by omega) (by omega)).trans (bw.block k hk)⟩;rw[<-hW2];clear hW2;have z1:w1.heap.size<W2.heap.size:=by omega
   have z1o:w1.heap.size+1<W2.heap.size:=by omega
   gi_wp2
   have three:LibA.Three (W2.alloc (Obj.cells #[.slice none 0 0,.int .i64 0,.int .i8 0] 264)) W2.heap.size 0 264 (λ_=>none) (.slice none 0 0) (.int .i64 0) (.int .i8 0):=LibA.three_whole (heap_alloc_new W2 _);have buf:=LibA.zero_isBuffer (e:=5) (aM W2.heap.size) three;refine⟨trivial,rfl,(CallsIn.inRound _ (callsIn_wide.2 (Tryz.Buffer_WriteString_at 264 (λ_=>none) W2.heap.size W2.heap.size 0 [] _ _ buf (by simp) (λv hv=>by cases hv) (by decide)))).mono ?_⟩
   rintro e W3 ⟨rfl,hI3,b3,_⟩
   have bl3:RowKit.Below W2.heap.size W2 W3:=((fq _ W2).alloc (aM _) _).trans b3;have hI3:LibA.IsBuffer 264 (λ_=>none) 5 W2.heap.size W2.heap.size 0 (Lt.bk [73,67,67,95,80,82,79,70,73,76,69,0]) W3:=by simpa[Lib.byteCells,Lt.bk] using hI3
   have HI3:=Lib.hid hI3;clear hI3 three buf b3;have g13:=(bl3.cell (p:=⟨w1.heap.size,0,none⟩) z1).trans g1;have g23:=(bl3.cell (p:=⟨w1.heap.size+1,0,none⟩) z1o).trans g2
   gi_wp2
   refine⟨trivial,rfl,(CallsIn.inRound _ (callsIn_wide.2 (Tryz.Buffer_WriteByte_at 264 (λ_=>none) W2.heap.size W2.heap.size 0 _ 1 W3 HI3.out bl3.size (tE _) (by decide)))).mono ?_⟩
   rintro e W4 ⟨rfl,hI4,b4,_⟩
   have bl4:=bl3.trans b4;have hI4:LibA.IsBuffer 264 (λ_=>none) 5 W2.heap.size W2.heap.size 0 (Lt.bk [73,67,67,95,80,82,79,70,73,76,69,0,1]) W4:=hI4;have HI4:=Lib.hid hI4;clear hI4 b4 g13 g23;have g14:=(bl4.cell (p:=⟨w1.heap.size,0,none⟩) z1).trans g1
   gi_wp2
   refine⟨trivial,rfl,(CallsIn.inRound _ (callsIn_wide.2 (Tryz.Buffer_WriteByte_at 264 (λ_=>none) W2.heap.size W2.heap.size 0 _ 1 W4 HI4.out bl4.size (tE _) (by decide)))).mono ?_⟩
   rintro e W5 ⟨rfl,hI5,b5,_⟩
   have bl5:=bl4.trans b5;have hI5:LibA.IsBuffer 264 (λ_=>none) 5 W2.heap.size W2.heap.size 0 (Lt.bk mU) W5:=hI5;have HI5:=Lib.hid hI5;clear hI5 b5 g14
   gi_wp2
   have src:RowKit.Below w.heap.size w W5:=b1.trans ((b1W.mono b1.size).trans (bl5.mono (by have:=b1.size;omega)));have hsrc:∀j v,(Lt.bk xs)[j]? =some v->W5.cell? (Addr.add ⟨b,o,none⟩ j)=some v:=λj v hv=>by
    have hj:j<xs.length:=by
     rcases gY j xs.length with q|q
     ·exact q
     ·rw[kR (by simp[Lt.bk];omega)] at hv;cases hv
    have hv2:v=.int .u8 (xs.getD j 0):=by unfold Lt.bk at hv;rw[List.getElem?_map,cw hj] at hv;rw[wW,cw hj];simpa using hv.symm
    have hc:=hcell j hj;rw[hv2,Addr.add_lit];exact(src.cell (ja _ _ hc)).trans hc
   refine⟨trivial,rfl,(CallsIn.inRound _ (callsIn_wide.2 (Tryz.Buffer_Write_at 264 (λ_=>none) W2.heap.size W2.heap.size 0 _ (Lt.bk xs) ⟨b,o,none⟩ xs.length xs.length W5 HI5.out bl5.size (tE _) (by simp[Lt.bk]) ?cA hsrc (tE _) ?hlim))).mono ?_⟩
   case cA=>have q:b<w.heap.size:=ja _ _ (hcell 0 h0);have:=b1.size;show b≠W2.heap.size;omega
   case hlim=>simp[Lt.bk,mU];omega
   rintro e W6 ⟨rfl,hI6,b6,_⟩
   have bl6:=bl5.trans b6;have HI6:=Lib.hid hI6;clear hI6 b6 hsrc src;have g26:=(bl6.cell (p:=⟨w1.heap.size+1,0,none⟩) z1o).trans g2;have h26:=(bl6.frozen (p:=⟨w1.heap.size+1,0,none⟩) z1o).trans h2;have mixed:Tryz.prog.follows .mixedOrders=true:=by kernel_rfl
   gi_wp2
   have hID:LibA.IsBuffer 264 (λ_=>none) 5 W2.heap.size W2.heap.size 0 (Lt.bk mU++Lt.bk xs) W6.drew:=HI6.out;have HB:=(JD 264 (λ_=>none) W2.heap.size W2.heap.size 0 _ _ hID).mono (R':=λe W7=>∃g cap cur,e=.returned (.slice (some ⟨g,0,none⟩) (14+xs.length) cap)/\W2.heap.size<=g/\W7.heap[g]? =some (.cells cur 5 (0,0))/\14+xs.length<=cap/\cur.toList.take (14+xs.length)=Lt.bk (mU++xs)/\∃n,W7=W6.drew.drewN n) ?hB
   case hB=>
    rintro e W7 ⟨v,rfl,⟨_,⟨rfl,hn⟩|⟨g,cap,cur,rfl,hB,hg,hnc,_,hcs,htk⟩⟩,k,rfl⟩
    ·simp[Lt.bk,mU] at hn
    ·have hl:(Lt.bk mU++Lt.bk xs).length=14+xs.length:=by simp[Lt.bk,mU];omega
     rw[hl] at hnc htk⊢;refine⟨g,cap,cur,rfl,hB,hg,hnc,?_,k,rfl⟩;rw[gy] at htk;rw[htk];simp[Lt.bk]
   have HB:=Lib.hid HB;clear hID;have zO6:w1.heap.size+1<W6.heap.size:=ja _ _ g26;have hbt:¬281474976710656<Builtin.nextslicecap 1 0*Tryz.t26.bytes:=by decide
   have hw1:∀(k:Nat)(Xc Yc:Obj),(((W6.drewN k).alloc Xc).alloc Yc).cell? ⟨w1.heap.size+1,0,none⟩=some (.slice none 0 0):=λk Xc Yc=>(jl (a:=⟨w1.heap.size+1,0,none⟩) ((Below.heap_alloc _ _ _ (by simp;omega)).trans (Below.heap_alloc _ _ _ zO6))).trans g26;have hw2:∀(k:Nat)(Xc Yc:Obj),(((W6.drewN k).alloc Xc).alloc Yc).frozen? ⟨w1.heap.size+1,0,none⟩=false:=λk Xc Yc=>(World.frozen?_of_block (a:=⟨w1.heap.size+1,0,none⟩) ((Below.heap_alloc _ _ _ (by simp;omega)).trans (Below.heap_alloc _ _ _ zO6))).trans h26;have AK:∀(k:Nat)(Xc:Obj),((W6.drewN k).alloc Xc).cell? ⟨w1.heap.size+1,0,none⟩=some (.slice none 0 0):=λk Xc=>(jl (a:=⟨w1.heap.size+1,0,none⟩) (Below.heap_alloc _ _ _ zO6)).trans g26;have b1s:=b1.size;have zD:w2.heap.size+1<W2.heap.size:=by omega
   have s26:=bl6.size;have fin:∀(k g cap cp:Nat)(cur zs:Array Qu)(Wf:Hx),W2.heap.size<=g->W6.heap[g]? =some (.cells cur 5 (0,0))->14+xs.length<=cap->cur.toList.take (14+xs.length)=Lt.bk (mU++xs)->1<=cp->Wf.os=W6.os->Wf.tape=W6.tape->Wf.output=W6.output->
    Wf.heap=((((W6.drewN k).alloc (.cells #[.slice (some ⟨g,0,none⟩) (14+xs.length) cap] 26)).alloc (.cells (#[.slice (some ⟨g,0,none⟩) (14+xs.length) cap]++zs) 26)).setCell ⟨w1.heap.size+1,0,none⟩ (.slice (some ⟨W6.heap.size+1,0,none⟩) 1 cp)).heap->
    Wf.heap[w2.heap.size+1]? =some (.loop R1)/\(Wf.putObj (w2.heap.size+1) (.loop R0)).cell? ⟨w1.heap.size+1+1,0,none⟩=some (.slice (some ⟨b,o,none⟩) xs.length c)/\(Wf.putObj (w2.heap.size+1) (.loop R0)).frozen? ⟨w1.heap.size+1+1,0,none⟩=false/\(Wf.putObj (w2.heap.size+1) (.loop R0)).heap[w2.heap.size+1]? =some (.loop R0)/\(Wf.putObj (w2.heap.size+1) (.loop R0)).heap[w2.heap.size]? =some (.deferred (some []))/\RowKit.Below w1.heap.size w1 (Wf.putObj (w2.heap.size+1) (.loop R0))/\
     Chunk (Wf.putObj (w2.heap.size+1) (.loop R0)) w1.heap.size xs:=by
    intro k g cap cp cur zs Wf p1 p2 p3 p4 p5 p6 p7 p8 hh;have lg:g<W6.heap.size:=(fw.1 p2).1;have e6:∀q,q<W6.heap.size->q≠w1.heap.size+1->Wf.heap[q]? =W6.heap[q]? :=λq h1 h2=>by rw[hh,Below.heap_setCell _ _ _ q h2,Below.heap_alloc _ _ _ (by simp;omega),Below.heap_alloc _ _ _ (by exact h1)];rfl
    have e0:∀q,q<W2.heap.size->q≠w1.heap.size+1->Wf.heap[q]? =W2.heap[q]? :=λq h1 h2=>(e6 q (by omega) h2).trans (bl6.block q h1);have eN:Wf.heap[W6.heap.size+1]? =some (.cells (#[.slice (some ⟨g,0,none⟩) (14+xs.length) cap]++zs) 26):=by have q:=World.alloc_heap_new ((W6.drewN k).alloc (.cells #[.slice (some ⟨g,0,none⟩) (14+xs.length) cap] 26)) (.cells (#[.slice (some ⟨g,0,none⟩) (14+xs.length) cap]++zs) 26);rw[hh,Below.heap_setCell _ _ _ _ (by show W6.heap.size+1≠w1.heap.size+1;omega)];rw[jm] at q;exact q
    have eO:Wf.cell? ⟨w1.heap.size+1,0,none⟩=some (.slice (some ⟨W6.heap.size+1,0,none⟩) 1 cp):=by refine(jl (a:=⟨w1.heap.size+1,0,none⟩) (by rw[hh])).trans (World.cell?_setCell_same' _ _ _ ?_);rw[hw1];rfl
    have eg:=(e6 g lg (by omega)).trans p2;have po:∀q,q≠w2.heap.size+1->(Wf.putObj (w2.heap.size+1) (.loop R0)).heap[q]? =Wf.heap[q]? :=λq h=>World.putObj_heap_other h;have kf:=(e0 _ zD (by omega)).trans kl;refine⟨kf,?_,?_,World.putObj_heap_same (fw.1 kf).1,(po _ (by omega)).trans ((e0 _ (by omega) (by omega)).trans kd),⟨?_,?_,?_,?_,λq hq=>?_⟩,W6.heap.size+1,cp,g,cap,cur,?_,p5,by omega,by omega,?_,by omega,by omega,(po g (by omega)).trans eg,p3,p4⟩
    ·exact(jl (a:=⟨w1.heap.size+1+1,0,none⟩) ((po _ (by show w1.heap.size+1+1≠_;omega)).trans (e0 _ (by show w1.heap.size+1+1<_;omega) (by show w1.heap.size+1+1≠_;omega)))).trans g3
    ·exact(World.frozen?_of_block (a:=⟨w1.heap.size+1+1,0,none⟩) ((po _ (by show w1.heap.size+1+1≠_;omega)).trans (e0 _ (by show w1.heap.size+1+1<_;omega) (by show w1.heap.size+1+1≠_;omega)))).trans h3
    ·exact p6.trans (bl6.os.trans b1W.os)
    ·exact p7.trans (bl6.tape.trans b1W.tape)
    ·exact p8.trans (bl6.output.trans b1W.output)
    ·have:=(fw.1 eN).1;simp only[World.putObj_size];omega
    ·exact(po q (by omega)).trans ((e0 q (by omega) (by omega)).trans (b1W.block q hq))
    ·exact(jl (a:=⟨w1.heap.size+1,0,none⟩) (po _ (by show w1.heap.size+1≠_;omega))).trans eO
    ·refine(jl (a:=⟨W6.heap.size+1,0,none⟩) (po _ (by show W6.heap.size+1≠_;omega))).trans ?_;unfold World.cell?;simp only[eN];show(#[_]++zs)[0]? =_;rw[Array.getElem?_append_left (by simp)];rfl
   gi_region_with_o (refine⟨trivial,rfl,(CallsIn.inRound _ (callsIn_wide.2 HB.out)).mono ?_⟩;rintro e W7 ⟨g,cap,cur,rfl,hg1,hg2,hg3,hg4,k,rfl⟩;have hq:((W6.drewN (1+k)).alloc (.cells #[.slice (some ⟨g,0,none⟩) (14+xs.length) cap] 26)).cell? ⟨W6.heap.size,0,none⟩=some (.slice (some ⟨g,0,none⟩) (14+xs.length) cap):=(qS _ _ _).1)
   all_goals
    exact fin (1+k) g cap ((Question.appendCap 1 0 26).cut (W6.tape (W6.drewN (1+k)).drawn (.appendCap 1 0 26))) cur (Builtin.zeroCells #[.slice none 0 0] ((Question.appendCap 1 0 26).cut (W6.tape (W6.drewN (1+k)).drawn (.appendCap 1 0 26)) -1)) _ hg1 hg2 hg3 hg4 (by simp[Question.cut]) rfl rfl rfl rfl
  ·rintro e W ⟨rfl,x1,x2,x3,x4,x5,x6⟩
   have st:∀v q,q≠w1.heap.size+1+1->(W.setCell ⟨w1.heap.size+1+1,0,none⟩ v).heap[q]? =W.heap[q]? :=λv q h=>Below.heap_setCell _ _ _ q h;exact⟨rfl,x1,x2,λv=>⟨(st v _ (by omega)).trans x3,(st v _ (by omega)).trans x4,x5.setCell (p:=⟨w1.heap.size+1+1,0,none⟩) (by show _<=w1.heap.size+1+1;omega) _,x6.tR λq _ h=>st v q h⟩⟩
 rintro e W2 ⟨⟨v,rfl⟩,j1,j2,j3,j4⟩
 refine⟨⟨_,rfl⟩,j1,?_⟩;generalize iX fn _ _ _ _ _ .exhausted=R9;obtain⟨W3,hW3⟩:∃W3,W3=W2.putObj (w2.heap.size+1) (.loop R9):=⟨_,rfl⟩;have pk:∀k,k≠w2.heap.size+1->W3.heap[k]? =W2.heap[k]? :=λk hk=>by rw[hW3];exact World.putObj_heap_other hk
 obtain⟨g,cp,gb,cap,cur,y1,y2,y3,y4,y5,y6,y7,y8,y9,y10⟩:=j4;have c3:W3.cell? ⟨w1.heap.size+1,0,none⟩=some (.slice (some ⟨g,0,none⟩) 1 cp):=(jl (a:=⟨w1.heap.size+1,0,none⟩) (pk _ (by show w1.heap.size+1≠_;omega))).trans y1;have g3:W3.cell? ⟨g,0,none⟩=some (.slice (some ⟨gb,0,none⟩) (14+xs.length) cap):=by refine(jl (a:=⟨g,0,none⟩) (pk _ λq=>?_)).trans y5;have q:g=w2.heap.size+1:=q;have:=ja _ _ y5;unfold World.cell? at y5;rw[q,j1] at y5;cases y5
 have h3:W3.heap[gb]? =some (.cells cur 5 (0,0)):=by refine(pk _ λq=>?_).trans y8;rw[q,j1] at y8;cases y8
 have k3:W3.heap[w2.heap.size]? =some (.deferred (some [])):=(pk _ (by omega)).trans j2;have bl3:RowKit.Below w1.heap.size w1 W3:=by refine j3.trans ?_;rw[hW3];exact⟨rfl,rfl,rfl,by simp,λk hk=>World.putObj_heap_other (by omega)⟩
 rw[<-hW3];clear hW3
 gi_wp2
 refine⟨by simp,.inl ⟨_,_,rfl,run_takeDeferred k3,?_⟩⟩;refine⟨.tuple #[.slice (some ⟨g,0,none⟩) 1 cp,.int .i64 0],by simp[results,Tryz.f109,cU,go_sem],_,rfl,?_,?_⟩
 ·exact b1.trans ((bl3.mono b1.size).trans ⟨rfl,rfl,rfl,by simp,λk hk=>World.putObj_heap_other (by have:=b1.size;omega)⟩)
 ·have b1s:=b1.size;have e4:∀(q:Nat)(cs:Array Qu)(t:TypeId)(fz:Nat×Nat),W3.heap[q]? =some (Obj.cells cs t fz)->(W3.putObj w2.heap.size (.deferred none)).heap[q]? =W3.heap[q]? :=λq cs t fz h=>World.putObj_heap_other λe=>(by rw[e,k3] at h;cases h);refine .row (ys:=[.slice (some ⟨gb,0,none⟩) (14+xs.length) cap]) (.cons ?_ .nil) (λi y hy=>?_) rfl y2 rfl
  ·refine .row (ys:=Lt.bk (mU++xs)) (Lt.Ez _) (λi y hy=>?_) rfl y9 (Lt.JJ _);unfold Lt.cJ;rw[aq (by show¬gb<_;omega),Lt.sq ((e4 gb _ _ _ h3).trans h3)];rw[<-y10,o6] at hy;split at hy
   ·simpa using hy
   ·cases hy
  ·have hi:i=0:=by
    cases i with
    |zero=>rfl
    |succ i=>cases hy
   subst hi;cases hy;unfold Lt.cJ;rw[aq (by show¬g<_;omega)];obtain⟨cs,t,fz,hc⟩:∃cs t fz,W3.heap[g]? =some (.cells cs t fz):=by
    unfold World.cell? at g3;split at g3
    ·rename_i q;exact⟨_,_,_,q⟩
    ·cases g3
   rw[Lt.sq ((e4 g _ _ _ hc).trans hc)];unfold World.cell? at g3;simpa[hc] using g3
end
section
open Go.Shelf Go.RowKit Go.Lib
attribute [local go_sem] Oper.semAt_some
theorem JO{w:Hx}{a:Zh Addr}{c:Nat}(HN:∀W,RowKit.Below w.heap.size w W->Calls Tryz.prog 167 #[.int .i64 0] W λe W'=>e=.returned (.int .i64 0)/\RowKit.Below W.heap.size W W'):
 Calls Tryz.prog 109 #[.slice a 0 c] w λe w'=>e=.returned (.tuple #[.slice none 0 0,.int .i64 0])/\RowKit.Below w.heap.size w w':=by
 refine(callsIn_wide (n:=0)).1 ?_;refine callsIn_of_wp_marks Tryz.func109 rfl trivial ?_ rfl;simp only[Tryz.ntmps109,p9,cc,List.length_nil,Nat.reduceAdd,Nat.reduceSub,pW,pX,pZ,pY,fy,eD]
 gi_wp2
 refine⟨trivial,rfl,(callsIn_wide.2 (HN _ (fq _ _))).mono ?_⟩
 rintro e w1 ⟨rfl,b1⟩
 gi_wp2
 refine⟨trivial,rfl,(callsIn_wide.2 (VH _ _ _ _)).mono ?_⟩
 rintro e w2 ⟨rfl,rfl⟩
 gi_wp2
 have q2:=qS (w1.alloc (.cells #[.int .i64 0] 3)) (.slice none 0 0) 35;have q3:=qS ((w1.alloc (.cells #[.int .i64 0] 3)).alloc (.cells #[.slice none 0 0] 35)) (.slice a 0 c) 26;obtain⟨w2,hw2⟩:∃w2,w2=((w1.alloc (.cells #[.int .i64 0] 3)).alloc (.cells #[.slice none 0 0] 35)).alloc (.cells #[.slice a 0 c] 26):=⟨_,rfl⟩;have bw:RowKit.Below w1.heap.size w1 w2:=by rw[hw2];exact(((fq _ w1).alloc (aM _) _).alloc (by simp) _).alloc (by simp;omega) _
 have z2:w1.heap.size+3<=w2.heap.size:=by rw[hw2];simp
 have bb2:RowKit.Below (w1.heap.size+2) ((w1.alloc (.cells #[.int .i64 0] 3)).alloc (.cells #[.slice none 0 0] 35)) w2:=by rw[hw2];exact(fq _ _).alloc (by simp) _
 simp only[jm] at q2 q3;rw[<-hw2] at q3;have e2:=(bb2.cell (p:=⟨w1.heap.size+1,0,none⟩) (by show w1.heap.size+1<w1.heap.size+2;omega)).trans q2.1;obtain⟨e3,f3⟩:=q3;rw[<-hw2];clear q2 bb2 hw2;refine Bz (gf:=234) (lb:=#[.pointer (some ⟨w1.heap.size+1+1,0,none⟩)]) rfl (enters_of Tryz.func234 (by kernel_rfl) rfl) ?_;intro fn W1 hW1;refine(callsIn_wide (n:=0)).1 ?_;generalize hR0:iX fn _ _ _ _ _ .ready=R0 at hW1⊢;have bl:RowKit.Below w2.heap.size w2 W1:=by rw[hW1];exact((fq _ w2).alloc (aM _) _).alloc (by simp) _
 have d1:W1.heap[w2.heap.size]? =some (.deferred (some [])):=by rw[hW1];exact(Below.heap_alloc _ _ _ (by simp)).trans (World.alloc_heap_new w2 _)
 have d2:W1.heap[w2.heap.size+1]? =some (.loop R0):=by have:=World.alloc_heap_new (w2.alloc (.deferred (some []))) (.loop R0);rw[jm] at this;rw[hW1];exact this
 clear hW1;refine(ahi (w1.heap.size+1+1) (w2.heap.size+1) a c W1 ((bl.cell (p:=⟨w1.heap.size+1+1,0,none⟩) (by show w1.heap.size+1+1<_;omega)).trans e3)).mono ?_
 rintro e W2 ⟨⟨v,rfl⟩,rfl⟩
 refine⟨⟨_,rfl⟩,d2,?_⟩;generalize iX fn _ _ _ _ _ .exhausted=R9;obtain⟨W3,hW3⟩:∃W3,W3=W2.putObj (w2.heap.size+1) (.loop R9):=⟨_,rfl⟩;have pk:∀k,k≠w2.heap.size+1->W3.heap[k]? =W2.heap[k]? :=λk hk=>by rw[hW3];exact World.putObj_heap_other hk
 have c3:W3.cell? ⟨w1.heap.size+1,0,none⟩=some (.slice none 0 0):=(jl (a:=⟨w1.heap.size+1,0,none⟩) (pk _ (by show w1.heap.size+1≠_;omega))).trans ((bl.cell (p:=⟨w1.heap.size+1,0,none⟩) (by show w1.heap.size+1<_;omega)).trans e2);have k3:W3.heap[w2.heap.size]? =some (.deferred (some [])):=(pk _ (by omega)).trans d1;have bl3:RowKit.Below w1.heap.size w1 W3:=by refine bw.trans ((bl.mono (by omega)).trans ?_);rw[hW3];exact⟨rfl,rfl,rfl,by simp,λk hk=>World.putObj_heap_other (by omega)⟩
 rw[<-hW3];clear hW3
 gi_wp2
 refine⟨by simp,.inl ⟨_,_,rfl,run_takeDeferred k3,?_⟩⟩;exact⟨.tuple #[.slice none 0 0,.int .i64 0],by simp[results,Tryz.f109,go_sem],rfl,b1.trans ((bl3.mono b1.size).trans ⟨rfl,rfl,rfl,by simp,λk hk=>World.putObj_heap_other (by have:=b1.size;omega)⟩)⟩
namespace Lt
noncomputable def Al(N:Int->Zh Int)(x:Qu):Zh (Qu×Int):=jV x λxs=>ob (N xs.length) λk=>
 cond xs.isEmpty (cond (aj k 0) (some (ae 0 [],0)) none) (cond (aj k 1&&Nat.ble xs.length 65519) (some (ae 1 [ae (14+xs.length) (bk (mU++xs))],0)) none)
theorem Q1{N:Int->Zh Int}{xs:H1 Int}{r:Qu×Int}(e:(ob (N xs.length) λk=>cond xs.isEmpty (cond (aj k 0) (some (ae 0 [],(0:Int))) none) (cond (aj k 1&&Nat.ble xs.length 65519) (some (ae 1 [ae (14+xs.length) (bk (mU++xs))],0)) none))=some r):
 (xs=[]/\N 0=some 0/\r=(ae 0 [],0))\/(0<xs.length/\xs.length<=65519/\N xs.length=some 1/\r=(ae 1 [ae (14+xs.length) (bk (mU++xs))],0)):=by
 replace e:=ax e;obtain⟨k,hk,e⟩:=e;cases xs with
 |nil=>
  left;cases hb:aj k 0 with
  |false=>simp[hb] at e
  |true=>have:=KL hb;subst this;exact⟨rfl,hk,(jC (show some _=some r from e)).symm⟩
 |cons a xs=>right;obtain⟨q,e2⟩:=aW (show cond (aj k 1&&Nat.ble (a::xs).length 65519) _ none=some r from e);rw[bt] at q;have:=KL q.1;subst this;exact⟨by simp,dW q.2,hk,(jC e2).symm⟩
theorem aaK{N:Int->Zh Int}{x:Qu}{r:Qu×Int}(e:Al N x=some r):aZ [r.1]=true:=DC e λxs r e=>by rcases Q1 e with⟨_,_,rfl⟩|⟨_,_,_,rfl⟩<;>rfl
theorem aaP{N:Int->Zh Int}(HN:cQ Tryz.prog 167 [.i .i64] (.i .i64) N):cQ Tryz.prog 109 [.v] nE (Al N):=by
 refine .mk λls r e hl us hu=>?_;obtain⟨x,r1,us1,h1,h2,rfl⟩:=gJ hu;obtain⟨rfl,rfl⟩:=nK h2;obtain rfl:=kY h1;replace e:Al N x=some r:=e;have hc:∀(n k:Int),N n=some k->∀W,Calls Tryz.prog 167 #[.int .i64 n] W λe W'=>e=.returned (.int .i64 k)/\RowKit.Below W.heap.size W W':=λn k hk W=>by exact S5 (HN [.i n] k hk (λx hx=>by simp at hx) _ rfl) (m:=λ_ _=>none) (λ_ _ _ h=>by cases h) (.cons (.int _ _) .nil)
 refine⟨xQ (aaK e),_,rfl,zG λm args' w hm A=>?_⟩
 ·obtain⟨al⟩:=args';replace A:bD m _ al:=A;obtain⟨_,_,rfl,a0,A⟩:=PW.inv A;obtain rfl:=A.dY;obtain⟨xs,hK,hv⟩:=xu hm e a0;rcases Q1 hK with⟨rfl,k0,rfl⟩|⟨k1,k2,k3,rfl⟩
  ·rcases hv with⟨a,c,rfl,_⟩|⟨_,c,rfl⟩
   ·exact(JO λW _=>hc 0 0 k0 W).mono λe w' ⟨h1,h2⟩=>⟨_,h1,h2,.fW⟩
   ·exact(JO λW _=>hc 0 0 k0 W).mono λe w' ⟨h1,h2⟩=>⟨_,h1,h2,.fW⟩
  ·rcases hv with⟨⟨b,o,sp⟩,c,rfl,h3,h4⟩|⟨rfl,c,rfl⟩
   ·have hs:∀n v,aK m x v->v=.slice (some ⟨b,o,sp⟩) n c->0<n->sp=none:=by
     intro n v h q p;cases h<;>cases q
     ·assumption
     all_goals first|(cases p;done)|(rename_i z;cases z<;>first|assumption|(cases p;done))
    have hs:=hs _ _ a0 rfl k1;subst hs;exact aaQ hm k1 k2 h3 (λi hi=>by rw[<-h4 i hi,Addr.add_lit]) λW _=>hc _ 1 k3 W
   ·simp at k1
end Lt
end
section
open Go.Shelf Go.RowKit Go.Lib
theorem abU(n:Nat)(hn:n<=1000000000)(w:Hx):Calls Tryz.prog 115 #[.slice none 0 0,.int .i64 n] w λe w'=>∃v,e=.returned v/\RowKit.Below w.heap.size w w'/\w'.ownsRow w.heap.size 5 1 v 0 []:=by
 have mixed:Tryz.prog.follows .mixedOrders=true:=by kernel_rfl
 go_enter Tryz.func115,Tryz.ntmps115
 by_cases h0:n=0
 ·subst h0
  go_wp2
  go_ret
  exact⟨_,rfl,fq _ _,World.ownsRow_nil _ _ _ _⟩
 ·have hb:Tryz.t5.bytes=1:=rfl;have hc:=Lt.EH (n:=n) (c:=0) (by omega) (by omega);have g1:¬281474976710656<Builtin.nextslicecap n 0*Tryz.t5.bytes:=by rw[hb];omega
  have g2:((n:Int)*(Tryz.t5.bytes:Int))<=281474976710656:=by rw[hb];omega
  have g3:(n:Int)<=9223372036854775807:=by omega
  go_wp2
  go_ret
  generalize hq:(Question.appendCap n 0 5).cut _=cp;have hcp:n<=cp/\cp<=maxLen:=by have hlt:=Nat.mod_lt (w.tape w.drawn (.appendCap n 0 5)) (show 0<2^63 -n by omega);rw[<-hq];unfold Question.cut maxLen;simp only;omega
  refine⟨_,rfl,((fq _ w).alloc (aM _) _).drew,rfl,.inr ⟨_,cp,_,rfl,aM _,World.alloc_heap_new w _,gU _,hcp.2,?_,by simp⟩⟩;simp[Builtin.zeroCells];omega
end
section
open Go.Shelf Go.RowKit Go.Lib
structure Ds(w:World)(r:Option Addr×Nat×Nat×List Value):Prop where
 len:r.2.2.2.length=r.2.1
 cell:∀a,r.1 =some a->∀j u,r.2.2.2[j]? =some u->w.cell? (a.add j)=some u
 nil:r.1 =none->r.2.1 =0
 one:∀u∈r.2.2.2,u.oneCell'=true
def jP(rows:H1 (Zh Addr×Nat×Nat×H1 Qu)):Nat:=(rows.map λr=>r.2.1).sum
def rY(rows:H1 (Zh Addr×Nat×Nat×H1 Qu)):H1 Qu:=rows.flatMap λr=>r.2.2.2
theorem ZA:(Tryz.prog.info? 5).map (λi=>(i.zero,i.size,i.bytes))=some (some (.int .u8 0),1,1):=by kernel_rfl
theorem Fm{w:Hx}{B:Nat}{e:TypeId}{k:Nat}{v:Qu}{n:Nat}{xs:H1 Qu}(h:w.ownsRow B e k v n xs){q:Nat}(hq:v.ownBlock=some q):B<=q:=by
 obtain⟨_,⟨rfl,_⟩|⟨g,cp,_,rfl,hB,_⟩⟩:=h
 ·cases hq
 ·cases hq;exact hB
theorem Z7{p a:Zh Addr}{n cp c:Nat}(h:n<=cp)(w:Hx):(Builtin.append_ #[26,26] 26 #[.slice p n cp,.slice a 0 c]).run Tryz.prog w=.ok (.slice p n cp) w:=by obtain⟨i,h1,_,h2,_⟩:=info_parts ZA;have A:Lt.uN Tryz.prog w #[26,26] #[.slice p n cp,.slice a 0 c] 26 26 5 (.slice 5) i p n cp (.slice a 0 c) 0:=⟨rfl,rfl,rfl,rfl,Tryz.underlying26,Tryz.underlying26,h1,.inl ⟨rfl,rfl⟩⟩;have:=Lt.u5 A (rt:=26) (by omega) (vs:=#[]) (by cases a<;>simp[Lt.pA,Lt.oN,Builtin.firstCells,h2,Lt.Ey]) (w':=w) (by cases p<;>rfl);simpa using this
theorem Q0(w:Hx)(b o c:Nat)(rows:H1 (Zh Addr×Nat×Nat×H1 Qu))(hk:rows.length<=c)(hc:∀i (h:i<rows.length),w.cell? ⟨b,o+i,none⟩=some (.slice rows[i].1 rows[i].2.1 rows[i].2.2.1))(hr:∀r∈rows,Ds w r)(hs:jP rows<=1000000000)(hl:rows.length<=1000):
 Calls Tryz.prog 61 #[.slice (some ⟨b,o,none⟩) rows.length c] w λe w'=>∃v,e=.returned v/\RowKit.Below w.heap.size w w'/\w'.ownsRow w.heap.size 5 1 v (jP rows) (rY rows):=by
 have mixed:Tryz.prog.follows .mixedOrders=true:=by kernel_rfl
 go_enter Tryz.func61,Tryz.ntmps61
 go_wp2
 go_loopw [3,11] (λs p wr=>∃i:Nat,p=.int .i64 i/\i<=rows.length/\s=.int .i64 (jP (rows.take i))/\wr=w) (λs p wr=>rows.length -(Lib.intOf p).toNat)
 case atStart=>exact⟨0,rfl,gU _,rfl,rfl⟩
 case round=>
  obtain⟨i,rfl,hi,rfl,hw⟩:=hrel;have hw:=hw.symm;subst hw;rcases gY i rows.length with hin|hin
  ·have h0:=hc i hin;have hs1:jP (rows.take (i+1))=jP (rows.take i)+rows[i].2.1 :=by
    unfold jP;rw[List.take_add_one,cw hin,fY,List.sum_append];simp
   have hle:jP (rows.take (i+1))<=jP rows:=by
    unfold jP
    conv=>rhs;rw[<-kF (i+1) rows]
    rw[fY,List.sum_append];omega
   go_wp2_with fail
   refine⟨⟨i+1,by simp,by omega,?_,trivial⟩,by simp[Lib.intOf];omega⟩;rw[hs1];simp
  ·obtain rfl:i=rows.length:=by omega
   rw[mL]
   go_wp2_with (go_at_call 115;refine(abU (jP rows) hs _).mono ?_;rintro e w1 ⟨v,rfl,b1,o1⟩)
   obtain⟨ti,t1,t2,t3,t4⟩:=info_parts ZA
   go_loopw [6,27] (λs p wr=>∃i:Nat,p=.int .i64 i/\i<=rows.length/\wr.ownsRow w.heap.size 5 1 s (jP (rows.take i)) (rY (rows.take i))/\RowKit.Below w.heap.size w wr) (λs p wr=>rows.length -(Lib.intOf p).toNat)
   case atStart=>exact⟨0,rfl,gU _,o1,b1⟩
   case round=>
    obtain⟨i,rfl,hi,ho,hb⟩:=hrel;rcases gY i rows.length with hin|hin
    ·have hr0:=hr rows[i] (cx hin);have h0:=hc i hin;have h0:=(hb.cell (ja _ _ h0)).trans h0;have hs1:jP (rows.take (i+1))=jP (rows.take i)+rows[i].2.1 :=by
      unfold jP;rw[List.take_add_one,cw hin,fY,List.sum_append];simp
     have hc1:rY (rows.take (i+1))=rY (rows.take i)++rows[i].2.2.2 :=by unfold rY;rw[List.take_add_one,cw hin,fo];simp
     have hle:jP (rows.take (i+1))<=jP rows:=by
      unfold jP
      conv=>rhs;rw[<-kF (i+1) rows]
      rw[fY,List.sum_append];omega
     rw[hs1] at hle;generalize hR:rows[i]=r at*;obtain⟨a,n,c',xs⟩:=r;obtain⟨r1,r2,r3,r4⟩:=hr0;simp only at r1 r2 r3 r4 hle h0 hs1 hc1;cases a with
     |none=>
      have r3:=r3 rfl;subst r3;have:xs=[]:=kC r1;subst this;obtain⟨p,n',cp,rfl,hcp⟩:∃p n' cp,u6=.slice p n' cp/\n'<=cp:=by
       obtain⟨_,⟨rfl,_⟩|⟨g,cp,_,rfl,_,_,h,_⟩⟩:=ho
       ·exact⟨_,_,_,rfl,aM _⟩
       ·exact⟨_,_,_,rfl,h⟩
      go_wp2_with (at_builtin;refine wpList_append_run _ rfl _ _ 26 26 rfl _ _ rfl rfl _ _ (Z7 hcp _) ?_)
      refine⟨⟨i+1,by simp,by omega,?_,hb⟩,by simp[Lib.intOf];omega⟩;rw[hs1,hc1];simpa using ho
     |some a=>
      have cell':∀j u,xs[j]? =some u->wr.cell? (a.add j)=some u:=λj u hu=>(hb.cell (ja _ _ (r2 a rfl j u hu))).trans (r2 a rfl j u hu)
      go_wp2_with (at_builtin;go_loud (refine wpList_append_own _ rfl _ _ 26 rfl w.heap.size 5 ti (.int .u8 0) 1 1 Tryz.underlying26 t1 t2 t3 t4 rfl (by decide) _ _ _ rfl ho a n c' xs rfl (by omega) cell' r4 (by unfold maxLen;omega) (by omega) hb.size ?_;intro v' w' ho' hg hnil))
      refine⟨⟨i+1,by simp,by omega,?_,?_⟩,by simp[Lib.intOf];omega⟩
      ·rw[hs1,hc1];exact ho'
      ·exact hb.grown hg hb.size λq e=>Fm ho e
    ·obtain rfl:i=rows.length:=by omega
     rw[mL] at ho
     go_wp2
     go_ret
     exact⟨_,rfl,hb,ho⟩
end
namespace Lt
section
open Go.Shelf Go.RowKit Go.Lib
def aaH:HT:=⟨1,⟨[(0,.wK 0 0 4 4)],[(0,.cells [.gr 1 1,.v,.v,.v] 26),(1,.grow 1 5)],2⟩,0,⟨[(0,.gr 0 1)],[(0,.grow 1 5)],1⟩⟩
noncomputable def uk(w:Nat):Qu->Qu->Qu->H1 Qu->Zh (H1 Qu):=λa b c d=>ob (rK d) λds=>jV a λxs=>jV b λys=>jV c λzs=>
 cond (Nat.blt 0 (ds++(xs++(ys++zs))).length&&Nat.ble (ds++(xs++(ys++zs))).length 1000000000) (some (bk (ds++(xs++(ys++zs))))) none
theorem ZD:∀{l:H1 Qu}{xs:H1 Int},rK l=some xs->l=bk xs
 |[],_,e=>by cases e;rfl
 |v::l,xs,e=>by
  unfold rK at e;split at e
  ·rename_i q;cases q
  ·rename_i b l' q;cases q;replace e:=ax e;obtain⟨ys,h1,e⟩:=e;cases e;rw[ZD h1];rfl
  ·cases e
theorem FR{β:Type}{m:Nat->Nat->Zh Qu}{w:Hx}(hm:Kn m w){x y:Qu}{K:H1 Int->Zh β}{b:β}(e:jV x K=some b)(r:aK m x y):
 ∃xs p c,K xs=some b/\y=.slice p xs.length c/\Ds w (p,xs.length,c,bk xs):=by
 have cells:∀(xs:H1 Int)(a:Addr),(∀i,i<xs.length->w.cell? (a.add i)=some (.int .u8 (xs.getD i 0)))->∀j u,(bk xs)[j]? =some u->w.cell? (a.add j)=some u:=λxs a h j u hu=>by
  have hj:j<xs.length:=by
   rcases gY j xs.length with q|q
   ·exact q
   ·rw[kR (by simp[bk];omega)] at hu;cases hu
  rw[h j hj];unfold bk at hu;rw[List.getElem?_map,cw hj] at hu;rw[wW,cw hj];simpa using hu
 obtain⟨xs,hK,⟨a,c,rfl,_,hc⟩|⟨rfl,c,rfl⟩⟩:=xu hm e r
 ·exact⟨xs,some a,c,hK,rfl,by simp[bk],λq hq=>by cases hq;exact cells xs a hc,(λq=>by cases q),tE _⟩
 ·exact⟨[],none,c,hK,rfl,rfl,(λ_ q=>by cases q),λ_=>rfl,tE _⟩
theorem ac5{β:Type}{f:Fn [.v,.v,.v,.c] (Zh β)}{ls:H1 bq}{r:β}(e:iI [.v,.v,.v,.c] f ls=some r):∃a b c d,ls=[.v a,.v b,.v c,.c d]:=by
 rcases ls with _|⟨l0,_|⟨l1,_|⟨l2,_|⟨l3,_|⟨l4,ls⟩⟩⟩⟩⟩
 ·cases e
 ·cases l0<;>cases e
 ·cases l0<;>(try cases e)<;>cases l1<;>cases e
 ·cases l0<;>(try cases e)<;>cases l1<;>(try cases e)<;>cases l2<;>cases e
 ·cases l0<;>(try(cases e;done))<;>cases l1<;>(try(cases e;done))<;>cases l2<;>(try(cases e;done))<;>cases l3<;>first|exact⟨_,_,_,_,rfl⟩|(cases e;done)
 ·cases l0<;>(try(cases e;done))<;>cases l1<;>(try(cases e;done))<;>cases l2<;>(try(cases e;done))<;>cases l3<;>cases e
theorem aee(w:Nat):nB Tryz.prog 61 aaH (uk w):=by
 intro ls r st so e hst hso B0 σ w1 args' hn ha R M;obtain⟨a,b,c,d,rfl⟩:=ac5 e;replace e:uk w a b c d=some r:=e;cases hst;cases hso;unfold uk at e;replace e:=ax e;obtain⟨ds,hd,e⟩:=e;have hds:=ZD hd;subst hds;have d0:=R 0 (.sl 0 0 4 4) rfl;obtain⟨al⟩:=args';obtain⟨v0,rfl⟩:∃v,al=[v]:=by
  match al,hn with
  |[v],_=>exact⟨v,rfl⟩
 replace d0:DV σ (.sl 0 0 4 4) v0:=d0;obtain⟨o0,m0,cz,k1,⟨fz,q1,q2⟩,k3⟩:=M.obj 0 (.cells [.gr 1 1,.v a,.v b,.v c] 26) rfl;have hv0:v0=.slice (some ⟨o0.1,0,none⟩) 4 4:=by
  cases d0 with
  |sl g _=>rw[k1] at g;cases g;rfl
 subst hv0;obtain⟨y0,l0,t0,x0,k3⟩:=k3.inv;obtain⟨y1,l1,t1,x1,k3⟩:=k3.inv;obtain⟨y2,l2,t2,x2,k3⟩:=k3.inv;obtain⟨y3,l3,t3,x3,k3⟩:=k3.inv;have t4:=k3.dY;subst t4 t3 t2 t1;have ms:∀{x y:Qu},DV σ (.v x) y->aK σ.lit x y:=λd=>by cases d;assumption
 obtain⟨k5,k5',k6⟩:=M.obj 1 (.grow 1 (bk ds) 5) rfl;have hm:Kn σ.lit w1:=M.lit;obtain⟨xs,p1,n1,e1,rfl,t1⟩:=FR hm e (ms x1);obtain⟨ys,p2,n2,e2,rfl,t2⟩:=FR hm e1 (ms x2);obtain⟨zs,p3,n3,e3,rfl,t3⟩:=FR hm e2 (ms x3);obtain⟨q,e4⟩:=aW e3;rw[bt] at q;have hr:=jC e4;have hr1:=fb q.1;have hr2:=dW q.2;generalize hrs:ds++(xs++(ys++zs))=rs at hr hr1 hr2;subst hr;obtain⟨p0,n0,rfl,t0'⟩:∃p c,y0=.slice p ds.length c/\Ds w1 (p,ds.length,c,bk ds):=by
  cases x0 with
  |jJ g=>
   rcases k6 with⟨_,hd0⟩|⟨o,n,_,g1,_⟩
   ·have:ds=[]:=by cases ds<;>simp_all[bk]
    subst this;exact⟨none,0,rfl,rfl,(λ_ q=>by cases q),λ_=>rfl,tE _⟩
   ·rw[g] at g1;cases g1
  |gr g hc hn'=>
   rename_i gn gc go;rcases k6 with⟨g1,_⟩|⟨o',n',cs,g1,⟨fz1,b1,b2⟩,b3,hlen,b4,b5⟩
   ·rw[g] at g1;cases g1
   ·have g9:=g.symm.trans g1;simp only[tb,Prod.mk.injEq] at g9;obtain⟨ho,hnn⟩:=g9;have hn:(bk ds).length=ds.length:=by simp[bk]
    refine⟨_,_,by rw[show gn=ds.length from(by rw[hnn,<-hn,hlen,gy])],by simp[bk],λq hq j u hu=>?_,(λq=>by cases q),tE _⟩;cases hq;obtain⟨u',a1,a2⟩:=b5.get hu;obtain⟨n8,_,h8⟩:=mK.1 (ou hu);subst h8;cases a2;rw[Addr.add_lit,ho];unfold World.cell?;simp only[b1];rw[o6] at a1;split at a1
    ·simpa using a1
    ·cases a1
 have hcell:∀(i:Nat)(v:Qu),cz.toList[i]? =some v->w1.cell? ⟨o0.1,0+i,none⟩=some v:=λi v hv=>by unfold World.cell?;simp only[q1];simpa using hv
 have hN:jP [(p0,ds.length,n0,bk ds),(p1,xs.length,n1,bk xs),(p2,ys.length,n2,bk ys),(p3,zs.length,n3,bk zs)]=rs.length:=by rw[<-hrs];simp[jP]
 have hC:rY [(p0,ds.length,n0,bk ds),(p1,xs.length,n1,bk xs),(p2,ys.length,n2,bk ys),(p3,zs.length,n3,bk zs)]=bk rs:=by rw[<-hrs];simp[rY,bk]
 refine(Q0 w1 o0.1 0 4 [(p0,ds.length,n0,bk ds),(p1,xs.length,n1,bk xs),(p2,ys.length,n2,bk ys),(p3,zs.length,n3,bk zs)] (by simp)
  (λi hi=>by
   have:i=0\/i=1\/i=2\/i=3:=by simp at hi;omega
   rcases this with rfl|rfl|rfl|rfl<;>exact hcell _ _ (by rw[t0];rfl))
  (λr hr=>by
   simp only[cX,nu,nA] at hr;rcases hr with rfl|rfl|rfl|rfl
   ·exact t0'
   ·exact t1
   ·exact t2
   ·exact t3)
  (by rw[hN];exact hr2) (by simp)).mono ?_
 rintro x w' ⟨v,rfl,Bl,O⟩
 rw[hN,hC] at O;obtain⟨_,⟨_,h0⟩|⟨g,cap,cur,rfl,hB,hg,hnc,_,hcs,htk⟩⟩:=O
 ·omega
 rw[gy] at hcs htk;have hlr:(bk rs).length=rs.length:=by simp[bk]
 have all0:∀{i:Nat}{s:SO},(Tr.nil.set 0 (SO.grow 1 (bk rs) 5)).get i=some s->i=0/\s=.grow 1 (bk rs) 5:=λ{i s} hs=>by
  rw[Tr.fN] at hs;split at hs
  ·rename_i q;cases hs;exact⟨q,rfl⟩
  ·rw[Tr.get_nil] at hs;cases hs
 let σ':Ren:=⟨λid=>if id=0 then some (some (g,cur.size),rs.length) else none,σ.lit⟩
 have own:∀{b:Nat},Own σ' (hG (Tr.nil.set 0 (SO.grow 1 (bk rs) 5))) b->b=g:=λ⟨i,s,o,n,q,k,r⟩=>by obtain⟨rfl,_⟩:=all0 q;have k:some (some (g,cur.size),rs.length)=some (some o,n):=k;cases k;exact r.symm
 refine⟨σ',_,rfl,λsv hsv=>?_,⟨λi s hs=>?_,λi j s s' o o' n n' a1 a2 _ _ _=>by rw[(all0 a1).1,(all0 a2).1],λi hi=>aq (by have hi:1<=i:=hi;omega),λb i v h=>?_,λb i v h q=>?_,M.base.trans (.Ly Bl) λ_ q=>q.elim,λb q=>.inr (by rw[own q];exact fE M.base.size hB),M.lP,λk hk=>absurd hk (by rw[ha];exact Nat.not_lt_zero k),M.mW⟩⟩
 ·have hsv:some (SV.gr 0 1)=some sv:=hsv;cases hsv;exact .gr (σ:=σ') (o:=(g,cur.size)) rfl (by rw[hcs,gy]) hnc
 ·obtain⟨rfl,rfl⟩:=all0 hs;refine⟨by decide,JJ _,.inr ⟨(g,cur.size),rs.length,cur,rfl,⟨(0,0),hg,Ls _⟩,rfl,by rw[hlr,gy],by rw[hlr,hcs];exact hnc,?_⟩⟩;rw[hlr,htk];exact Ez rs
 ·rw[q9 (Bl.block b (mq (M.lit b i v h)))];exact M.lit b i v h
 ·have:=mq (M.lit b i v h);rw[own q] at this;omega
end
end Lt
section
open Go.Shelf Go.RowKit Go.Lib
theorem ud:∀(vs:H1 Qu)(n:Nat)(c:H1 Qu),n+vs.length<=c.length->Lt.aX n vs c=c.take n++(vs++c.drop (n+vs.length))
 |[],n,c,_=>by simp[Lt.aX]
 |v::vs,n,c,h=>by simp only[cc] at h;rw[Lt.aX,ud vs (n+1) _ (by simp;omega),List.take_add_one,List.take_set_of_le (aM _),List.getElem?_set_self (by omega),List.drop_set_of_lt (by omega)];simp[show n+1+vs.length=n+(vs.length+1) by omega]
structure oD(b:Nat)(cs:Array Value)(t:TypeId)(fz:Nat×Nat)(w w':World):Prop where
 os:w'.os=w.os
 tape:w'.tape=w.tape
 output:w'.output=w.output
 size:w'.heap.size=w.heap.size
 block:∀k,k≠b->w'.heap[k]? =w.heap[k]?
 at_:w'.heap[b]? =some (.cells cs t fz)
theorem FX{P:Program}{w:Hx}{T e ty:TypeId}{size:Nat}(hu:P.underlying T=some (.slice e))(hs:∀w,(sizeOf e).run P w=.ok size w){b1 o1 n1 c1 b2 o2 n2 c2 k:Nat}(hk:k=Nat.min n2 n1){cs1 cs2:Array Qu}{t1 t2:TypeId}{fz1 fz2:Nat×Nat}
 (h1:w.heap[b1]? =some (.cells cs1 t1 fz1)) (hz:Lt.uQ fz1 cs1.size) (h2:w.heap[b2]? =some (.cells cs2 t2 fz2)) (g1:o1+k*size<=cs1.size) (g2:o2+k*size<=cs2.size) (ho:∀v∈(cs2.toList.drop o2).take (k*size),v.oneCell'=true):
 ∃w',(Builtin.copy_ #[T,T] ty #[.slice (some ⟨b1,o1,none⟩) n1 c1,.slice (some ⟨b2,o2,none⟩) n2 c2]).run P w=.ok (.int .i64 k) w'/\oD b1 ⟨Lt.aX o1 ((cs2.toList.drop o2).take (k*size)) cs1.toList⟩ t1 fz1 w w':=by
 subst hk;obtain⟨vs,p1,p2⟩:=Lt.BH P h2 g2;have hl:vs.toList.length=Nat.min n2 n1*size:=by rw[p2,dk,eu];simp;omega
 obtain⟨w',q1,q2,q3,q4,q5,q6,q7⟩:=Lt.BI P (k:=o1) vs.toList 0 w cs1 h1 hz (by omega) (λv hv=>ho v (p2▸hv));refine⟨w',?_,⟨q5,q6,q7,q4,q3,by rw[q2,p2];rfl⟩⟩;have hf:(Builtin.firstCells size (Nat.min n2 n1) (.slice (some ⟨b2,o2,none⟩) n2 c2)).run P w=.ok vs w:=by unfold Builtin.firstCells;exact p1
 unfold Builtin.copy_;simp only[List.getElem?_toArray,List.getElem?_cons_zero,List.getElem?_cons_succ,cU,run_underlying hu,hs,eA,Builtin.lenOf,eE,hf,q1];rfl
end
section
open Go.Shelf Go.RowKit Go.Lib
theorem zr:(Tryz.prog.info? 136).map (λi=>(i.zero,i.size,i.bytes))=some (some (.agg #[.int .i64 0,.int .i64 0,.int .i64 0,.slice none 0 0]),4,48):=by kernel_rfl
theorem C1(w:Hx):(sizeOf 136).run Tryz.prog w=.ok 4 w:=by obtain⟨i,h1,_,h2,_⟩:=info_parts zr;simp[sizeOf,typeInfo,h1,h2]
structure uT(w:World)(g n cp:Nat)(cur:Array Value):Prop where
 at_:w.heap[g]? =some (.cells cur 136 (0,0))
 size:cur.size=cp*4
 le:n<=cp
 few:n<1000000000
 one:∀v∈cur.toList.take (n*4),v.oneCell'=true
theorem uT.aZ{w:Hx}{g n cp:Nat}{cur:Array Qu}(h:uT w g n cp cur){i:Nat}(hi:i<=n):∀v∈(cur.toList.drop (i*4)).take ((n -i)*4),v.oneCell'=true:=λv hv=>h.one v (by
 have:(cur.toList.drop (i*4)).take ((n -i)*4)=(cur.toList.take (n*4)).drop (i*4):=by rw[List.drop_take];congr 1;omega
 rw[this] at hv;exact qN hv)
theorem ach{L X S:H1 Qu}{i n:Nat}(hX:X.length=4)(hS:S.length=(n -i)*4)(h1:(i+1)*4+S.length<=L.length)(hi:i<=n):
 (Lt.aX (i*4) ((X.drop 0).take (1*4)) (Lt.aX ((i+1)*4) S L)).take ((n+1)*4)=L.take (i*4)++(X++S):=by
 have hx:(X.drop 0).take (1*4)=X:=by rw[er,eQ (by omega)]
 have a1:∀D,(L.take ((i+1)*4)++(S++D)).take (i*4)=L.take (i*4):=λD=>by rw[List.take_append_of_le_length (by rw[dk];omega),List.take_take,lI (by omega)]
 have a2:∀D,(L.take ((i+1)*4)++(S++D)).drop (i*4+X.length)=S++D:=λD=>by rw[List.drop_left' (by rw[dk];omega)]
 rw[hx,ud X _ _ (by rw[Lt.nZ];omega),ud S _ _ h1,a1,a2];rw[<-ed X,<-ed (L.take _),List.take_left' (by simp only[aP,dk];omega)]
theorem acn{w:Hx}{g n cp i vb:Nat}{cur:Array Qu}{X:H1 Qu}(hr:uT w g n cp cur)(hX:X.length=4)(hx1:∀v∈X,v.oneCell'=true)(hv:w.heap[vb]? =some (.cells ⟨X⟩ 136 (0,0)))(cA:vb≠g)(hi:i<n)(hc:n+1<=cp):
 Calls Tryz.prog 372 #[.slice (some ⟨g,0,none⟩) n cp,.int .i64 i,.slice (some ⟨vb,0,none⟩) 1 1] w λe w'=>∃cur',e=.returned (.slice (some ⟨g,0,none⟩) (n+1) cp)/\oD g cur' 136 (0,0) w w'/\cur'.toList.take ((n+1)*4)=cur.toList.take (i*4)++(X++(cur.toList.drop (i*4)).take ((n -i)*4)):=by
 have h1:=hr.aZ (Nat.le_of_lt hi);obtain⟨hg,hsz,hn,hm,_⟩:=hr;have mixed:Tryz.prog.follows .mixedOrders=true:=by kernel_rfl
 have hcs:cur.toList.length=cp*4:=hsz;have hov:∀lb cb,(callFunc 433 #[.slice (some ⟨vb,0,none⟩) 1 1,.slice (some ⟨g,(i+1)*4,none⟩) lb cb]).run Tryz.prog w=.ok (.value (.bool false)) w:=λlb cb=>by
  rw[run_callFunc_extern Tryz.func433 (by kernel_rfl) (by kernel_rfl) (by kernel_rfl) (e:=Extern.SlicesOverlaps.overlaps #[25,25] #[4]) (by kernel_rfl),
   Lib.run_overlaps_apart w 25 4 136 Tryz.underlying25 4 C1 ⟨vb,0,none⟩ ⟨g,(i+1)*4,none⟩ 1 1 lb cb cA 136 136 4 (cp*4) (by simp[World.shape?,hv,hX]) (by simp[World.shape?,hg,hsz]) (by omega) (by simp[World.frozen?,hv]) (by simp[World.frozen?,hv])]
  rfl
 obtain⟨w1,p1,p2⟩:=FX (P:=Tryz.prog) (ty:=3) (T:=25) (w:=w.drew) Tryz.underlying25 C1 (b1:=g) (o1:=(i+1)*4) (n1:=n -i) (c1:=cp -(i+1)) (b2:=g) (o2:=i*4) (n2:=n+1 -i) (c2:=cp -i) (k:=n -i) (by simp only[Nat.min_def];split<;>omega) hg (.inl rfl) hg (by omega) (by omega) h1;have hl1:((cur.toList.drop (i*4)).take ((n -i)*4)).length=(n -i)*4:=by rw[dk,eu];omega
 have e1:=ud ((cur.toList.drop (i*4)).take ((n -i)*4)) ((i+1)*4) cur.toList (by omega);have hv1:w1.heap[vb]? =some (.cells ⟨X⟩ 136 (0,0)):=(p2.block vb cA).trans hv;obtain⟨w2,q1,q2⟩:=FX (P:=Tryz.prog) (ty:=3) (T:=25) (w:=w1) Tryz.underlying25 C1 (b1:=g) (o1:=i*4) (n1:=n+1 -i) (c1:=cp -i) (b2:=vb) (o2:=0) (n2:=1) (c2:=1) (k:=1) (by simp only[Nat.min_def];split<;>omega) p2.at_ (.inl rfl) hv1 (by simp[Lt.nZ];omega) (by simp[hX]) (λv h=>hx1 v (qN (uL h)))
 go_enter Tryz.func372,Tryz.ntmps372
 have n1:¬((i:Int)=(n:Int)):=by omega
 have n2:¬(cp:Int)<(n:Int)+1:=by omega
 have n3:¬cp=i+1:=by omega
 have n4:¬cp=i:=by omega
 have n5:IntKind.i64.wrap ((i:Int)+1)=(i:Int)+1:=by rw[IntKind.wrap_i64];omega
 have n6:(0:Int)<=(i:Int)+1:=by omega
 have n7:((i:Int)+1).toNat=i+1:=by omega
 have n8:(i:Int)+1<=(n:Int)+1:=by omega
 have n9:(i:Int)<=(n:Int)+1:=by omega
 have n10:n+1 -(i+1)=n -i:=by omega
 go_wp2_with (simp only[hov])
 go_region_law_o (refine step_copy_runI rfl _ _ 25 25 rfl _ _ (by simp[Act.eval,Act.put]) (by simp[Act.eval,Act.put]) p1 ?_)
 go_wp2_with (at_builtin;refine wpList_copy_runI _ rfl _ _ 25 25 rfl _ _ rfl rfl q1 ?_)
 go_ret
 refine⟨_,rfl,⟨q2.os.trans p2.os,q2.tape.trans p2.tape,q2.output.trans p2.output,q2.size.trans p2.size,λk hk=>(q2.block k hk).trans (p2.block k hk),q2.at_⟩,?_⟩;exact ach hX hl1 (by omega) (by omega)
end
section
open Go.Shelf Go.RowKit Go.Lib
theorem aci{L X S Z:H1 Qu}{i n:Nat}(hX:X.length=4)(hS:S.length=(n -i)*4)(hL:L.length=i*4)(hZ:(n+1 -i)*4<=Z.length)(hi:i<=n):
 (Lt.aX ((i+1)*4) S (Lt.aX (i*4) ((X.drop 0).take (1*4)) (L++Z))).take ((n+1)*4)=L++(X++S):=by
 have hx:(X.drop 0).take (1*4)=X:=by rw[er,eQ (by omega)]
 have a0:(L++Z).length=i*4+Z.length:=by rw[aP,hL]
 have a1:(L++Z).take (i*4)=L:=List.take_left' hL;have a2:(L++(X++(L++Z).drop (i*4+X.length))).take ((i+1)*4)=L++X:=by rw[<-ed,List.take_left' (by rw[aP];omega)]
 rw[hx,ud X _ _ (by omega),a1,ud S _ _ (by simp only[aP,eu];omega),a2];rw[<-ed,List.take_left' (by simp only[aP];omega),ed]
theorem acm{w:Hx}{g n cp i vb:Nat}{cur:Array Qu}{X:H1 Qu}(hr:uT w g n cp cur)(hX:X.length=4)(hx1:∀v∈X,v.oneCell'=true)(hv:w.heap[vb]? =some (.cells ⟨X⟩ 136 (0,0)))(hi:i<n)(hc:cp<n+1):
 Calls Tryz.prog 372 #[.slice (some ⟨g,0,none⟩) n cp,.int .i64 i,.slice (some ⟨vb,0,none⟩) 1 1] w λe w'=>∃cur' cp',e=.returned (.slice (some ⟨w.heap.size,0,none⟩) (n+1) cp')/\n+1<=cp'/\RowKit.Below w.heap.size w w'/\w'.heap[w.heap.size]? =some (.cells cur' 136 (0,0))/\
  cur'.toList.take ((n+1)*4)=cur.toList.take (i*4)++(X++(cur.toList.drop (i*4)).take ((n -i)*4)):=by
 have h1:=hr.aZ (Nat.le_of_lt hi);obtain⟨hg,hsz,hn,hn9,_⟩:=hr;have mixed:Tryz.prog.follows .mixedOrders=true:=by kernel_rfl
 have hcs:cur.toList.length=cp*4:=hsz;obtain⟨inf,i1,i2,i3,i4⟩:=info_parts zr;obtain⟨old,o1,o2⟩:=Lt.BH Tryz.prog (w:=Lt.jt w) (b:=g) (k:=0) (n:=i*4) hg (by omega);have A:Lt.uN Tryz.prog w #[25,3] #[.slice (some ⟨g,0,none⟩) i cp,.int .i64 ((n:Int)+1 -i)] 25 3 136 (.int .i64) inf (some ⟨g,0,none⟩) i cp (.int .i64 ((n:Int)+1 -i)) (n+1 -i):=
  ⟨rfl,rfl,rfl,rfl,Tryz.underlying25,Tryz.underlying3,i1,.inr ⟨rfl,⟨_,by congr 1;simp;omega⟩,by omega,by rw[i4];omega⟩⟩
 have hcap:=Lt.EH (n:=i+(n+1 -i)) (c:=cp) (by omega) (by omega);obtain⟨cap,k1,k2⟩:=Lt.Jq (rt:=25) A (by omega) (by omega) (by rw[i4];omega) (old:=old) (vs:=Builtin.zeroCells (.agg #[.int .i64 0,.int .i64 0,.int .i64 0,.slice none 0 0]:Qu).cells (n+1 -i)) (z:=.agg #[.int .i64 0,.int .i64 0,.int .i64 0,.slice none 0 0]) (by rw[i3];exact o1) (by
  rw[i3];simp[Lt.pA,Lt.oN,zeroValue,typeInfo,i1,i2];intro h;omega) i2
 obtain⟨wa,hwa⟩:∃wa:Hx,wa={Lt.jt w with heap:=w.heap.push (.cells (old++Builtin.zeroCells (.agg #[.int .i64 0,.int .i64 0,.int .i64 0,.slice none 0 0]:Qu).cells (n+1 -i)++Builtin.zeroCells (.agg #[.int .i64 0,.int .i64 0,.int .i64 0,.slice none 0 0]:Qu).cells (cap -(i+(n+1 -i)))) 136)}:=⟨_,rfl⟩;rw[<-hwa] at k2;rw[show i+(n+1 -i)=n+1 by omega] at k1 k2;have ba:RowKit.Below w.heap.size w wa:=by rw[hwa];exact⟨rfl,rfl,rfl,by simp[Lt.jt],λk hk=>by simp[Lt.jt,Array.getElem?_push,Nat.ne_of_lt hk]⟩
 have sz:wa.heap.size=w.heap.size+1:=by rw[hwa];simp
 have aa:wa.heap[w.heap.size]? =some (.cells (old++Builtin.zeroCells (.agg #[.int .i64 0,.int .i64 0,.int .i64 0,.slice none 0 0]:Qu).cells (n+1 -i)++Builtin.zeroCells (.agg #[.int .i64 0,.int .i64 0,.int .i64 0,.slice none 0 0]:Qu).cells (cap -(i+(n+1 -i)))) 136 (0,0)):=by rw[hwa];simp
 have ol:old.size=i*4:=by show old.toList.length=_;rw[o2,er,dk];omega
 generalize hZ:Builtin.zeroCells (.agg #[.int .i64 0,.int .i64 0,.int .i64 0,.slice none 0 0]:Qu).cells (n+1 -i)=Z1 at aa;generalize hY:Builtin.zeroCells (.agg #[.int .i64 0,.int .i64 0,.int .i64 0,.slice none 0 0]:Qu).cells _=Z2 at aa;have l1:Z1.size=(n+1 -i)*4:=by rw[<-hZ];simp[Builtin.zeroCells,Value.cells]
 have l2:Z2.size=(cap -(n+1))*4:=by rw[<-hY];simp[Builtin.zeroCells,Value.cells];omega
 have la:(old++Z1++Z2).size=cap*4:=by simp only[Array.size_append,ol,l1,l2];omega
 have lg:g<w.heap.size:=(fw.1 hg).1;have lv:vb<w.heap.size:=(fw.1 hv).1;obtain⟨w1,p1,p2⟩:=FX (P:=Tryz.prog) (ty:=3) (T:=25) (w:=wa) Tryz.underlying25 C1 (b1:=w.heap.size) (o1:=i*4) (n1:=n+1 -i) (c1:=cap -i) (b2:=vb) (o2:=0) (n2:=1) (c2:=1) (k:=1) (by simp only[Nat.min_def];split<;>omega) aa (.inl rfl) ((ba.block vb lv).trans hv) (by rw[la];omega) (by simp[hX]) (λv h=>hx1 v (qN (uL h)));obtain⟨w2,q1,q2⟩:=FX (P:=Tryz.prog) (ty:=3) (T:=25) (w:=w1.drew) Tryz.underlying25 C1 (b1:=w.heap.size) (o1:=(i+1)*4) (n1:=n -i) (c1:=cap -(i+1)) (b2:=g) (o2:=i*4) (n2:=n -i) (c2:=cp -i) (k:=n -i) (by simp[Nat.min_def]) p2.at_ (.inl rfl) ((p2.block g (by omega)).trans ((ba.block g lg).trans hg)) (by
  show _<=(Lt.aX _ _ _).length;rw[Lt.nZ];show _<=(old++Z1++Z2).size;rw[la];omega) (by omega) h1
 clear hwa hZ hY
 go_enter Tryz.func372,Tryz.ntmps372
 have n1:¬((i:Int)=(n:Int)):=by omega
 have n2:(cp:Int)<(n:Int)+1:=by omega
 have n3:¬cap=i+1:=by omega
 have n4:¬cap=i:=by omega
 have n4':¬cp=i:=by omega
 have n5:IntKind.i64.wrap ((i:Int)+1)=(i:Int)+1:=by rw[IntKind.wrap_i64];omega
 have n6:(0:Int)<=(i:Int)+1:=by omega
 have n7:((i:Int)+1).toNat=i+1:=by omega
 have n8:(i:Int)+1<=(n:Int)+1:=by omega
 have n9:(i:Int)<=(n:Int)+1:=by omega
 have n10:n+1 -(i+1)=n -i:=by omega
 have n11:i<=n:=by omega
 go_wp2_with (first|(at_builtin;refine wpList_append_run _ rfl _ _ 25 3 rfl _ _ rfl rfl _ _ k2 ?_)|(at_builtin;refine wpList_copy_runI _ rfl _ _ 25 25 rfl _ _ rfl rfl p1 ?_))
 go_region_law_o (refine step_copy_runI rfl _ _ 25 25 rfl _ _ (by simp[Act.eval,Act.put]) (by simp[Act.eval,Act.put]) q1 ?_)
 go_wp2
 go_ret
 have wb:∀{cs:Array Qu}{a b:Hx},oD w.heap.size cs 136 (0,0) a b->RowKit.Below w.heap.size a b:=λh=>⟨h.os,h.tape,h.output,ta h.size.symm,λk hk=>h.block k (by omega)⟩;refine⟨_,cap,rfl,by omega,ba.trans ((wb p2).trans ((fq _ w1).drew.trans (wb q2))),q2.at_,?_⟩;show(Lt.aX _ _ (Lt.aX _ _ (old++Z1++Z2).toList)).take _=_;have o3:old.toList=cur.toList.take (i*4):=by rw[o2,er]
 rw[Array.toList_append,Array.toList_append,ed,o3];have hz1:Z1.toList.length=(n+1 -i)*4:=l1;exact aci hX (by rw[dk,eu];omega) (by rw[dk];omega) (by rw[aP];omega) (by omega)
end
section
open Go.Shelf Go.RowKit Go.Lib
theorem ack{w:Hx}{B n vb:Nat}{v:Qu}{cs X:H1 Qu}(ho:w.ownsRow B 136 4 v n cs)(hB:B<=w.heap.size)(hn:n<1000000000)(hX:X.length=4)(hx1:∀v∈X,v.oneCell'=true)(hv:w.heap[vb]? =some (.cells ⟨X⟩ 136 (0,0))):
 Calls Tryz.prog 372 #[v,.int .i64 n,.slice (some ⟨vb,0,none⟩) 1 1] w λe w'=>∃v',e=.returned v'/\w'.ownsRow B 136 4 v' (n+1) (cs++X)/\w.grownBy w' v.ownBlock:=by
 have mixed:Tryz.prog.follows .mixedOrders=true:=by kernel_rfl
 obtain⟨inf,i1,i2,i3,i4⟩:=info_parts zr;have cell:∀j u,X[j]? =some u->w.cell? (Addr.add ⟨vb,0,none⟩ j)=some u:=λj u hu=>by rw[Addr.add_lit];unfold World.cell?;simp only[hv];simpa using hu
 have ho':=ho;rcases ho.2 with⟨rfl,rfl⟩|⟨g,cp,cur,rfl,_,_,hle,_⟩
 ·go_enter Tryz.func372,Tryz.ntmps372
  go_wp2_with (at_builtin;refine wpList_append_own _ rfl _ _ 25 rfl B 136 inf _ 4 48 Tryz.underlying25 i1 i2 i3 i4 rfl (by decide) _ _ _ rfl ho' ⟨vb,0,none⟩ 1 1 X rfl (by omega) cell hx1 (by unfold maxLen;omega) (by omega) hB ?_;intro v' w' h1 h2 h3)
  go_ret
  exact⟨_,rfl,h1,h2⟩
 ·by_cases hcp:cp=n;all_goals
   go_enter Tryz.func372,Tryz.ntmps372
   go_wp2_with (at_builtin;refine wpList_append_own _ rfl _ _ 25 rfl B 136 inf _ 4 48 Tryz.underlying25 i1 i2 i3 i4 rfl (by decide) _ _ _ rfl ho' ⟨vb,0,none⟩ 1 1 X rfl (by omega) cell hx1 (by unfold maxLen;omega) (by omega) hB ?_;intro v' w' h1 h2 h3)
   go_ret
   exact⟨_,rfl,h1,h2⟩
def tq(w:Hx)(B:Nat)(v:Qu)(n:Nat)(cs:H1 Qu):Prop:=(v=.slice none 0 0/\n=0/\cs=[])\/∃g cp cur,v=.slice (some ⟨g,0,none⟩) n cp/\n<=cp/\B<=g/\w.heap[g]? =some (.cells cur 136 (0,0))/\cur.toList.take (n*4)=cs
theorem acj{w:Hx}{B n i vb:Nat}{v:Qu}{cs X:H1 Qu}(ho:w.ownsRow B 136 4 v n cs)(h1:∀v∈cs,v.oneCell'=true)(hB:B<=w.heap.size)(hn:n<1000000000)(hi:i<=n)(hX:X.length=4)(hx1:∀v∈X,v.oneCell'=true)(hv:w.heap[vb]? =some (.cells ⟨X⟩ 136 (0,0)))(cA:v.ownBlock≠some vb):
 Calls Tryz.prog 372 #[v,.int .i64 i,.slice (some ⟨vb,0,none⟩) 1 1] w λe w'=>∃v',e=.returned v'/\tq w' B v' (n+1) (cs.take (i*4)++(X++cs.drop (i*4)))/\w.grownBy w' v.ownBlock:=by
 rcases gY i n with hin|hin
 ·rcases ho with⟨hl,⟨_,h0⟩|⟨g,cp,cur,rfl,hg1,hg2,hg3,hg4,hg5,hg6⟩⟩
  ·omega
  have T:uT w g n cp cur:=⟨hg2,hg5,hg3,hn,by rw[hg6];exact h1⟩;have e1:cur.toList.take (i*4)=cs.take (i*4):=by rw[<-hg6,List.take_take,lI (by omega)]
  have e2:(cur.toList.drop (i*4)).take ((n -i)*4)=cs.drop (i*4):=by rw[<-hg6,List.drop_take];congr 1;omega
  rcases gY cp (n+1) with hcp|hcp
  ·refine(acm T hX hx1 hv hin hcp).mono ?_
   rintro e w' ⟨cur',cp',rfl,a1,a2,a3,a4⟩
   rw[e1,e2] at a4;exact⟨_,rfl,.inr ⟨_,cp',cur',rfl,a1,hB,a3,a4⟩,⟨a2.os,a2.tape,a2.output,a2.size,λk hk _=>a2.block k hk⟩⟩
  ·refine(acn T hX hx1 hv (λe=>cA (by rw[e];rfl)) hin hcp).mono ?_
   rintro e w' ⟨cur',rfl,a1,a2⟩
   rw[e1,e2] at a2;exact⟨_,rfl,.inr ⟨_,cp,cur',rfl,hcp,hg1,a1.at_,a2⟩,⟨a1.os,a1.tape,a1.output,ta a1.size.symm,λk _ hk=>a1.block k (λe=>hk (by rw[e];rfl))⟩⟩
 ·obtain rfl:i=n:=by omega
  refine(ack ho hB hn hX hx1 hv).mono ?_
  rintro e w' ⟨v',rfl,h2,h3⟩
  have hl:=ho.1;rw[eQ (by omega),rO (by omega),dP];rcases h2 with⟨_,⟨_,h0⟩|⟨g,cp,cur,rfl,a1,a2,a3,_,_,a6⟩⟩
  ·omega
  ·exact⟨_,rfl,.inr ⟨g,cp,cur,rfl,a3,a1,a2,a6⟩,h3⟩
end
section
open Go.Shelf Go.RowKit Go.Lib
theorem Zb{P:Program}{ops:Array Oper}{o:Oper}{a:Act}{w:Hx}{K:Act->Hx->Prop}{Q:Exit->Act->Hx->Prop}{E:Prop}
 (hg:o.guard=none) (d x:Operand) (dT sT:TypeId) (hop:o.op=Op.call {callee:=Callee.builtin Builtin.append,args:=#[d,x],argTypes:=#[dT,sT]})
 (v u:Qu) (hd:a.eval d=v) (hx:a.eval x=u) {v':Qu} {w':Hx} (hr:(Builtin.append_ #[dT,sT] o.type #[v,u]).run P w=.ok v' w') (hK:K (a.put o.dst v') w'):
 if Region.wanted o (yielded ops a.tmps)=true then Oper.wp P o a w K Q else E:=by
 have hw:Region.wanted o (yielded ops a.tmps)=true:=by simp[Region.wanted,hg]
 rw[ay hw];unfold Oper.wp;simp[execOp,hop,resolve,invoke,builtin,hd,hx,hr,Result.andThen];exact hK
theorem aix{w:Hx}{g off n c:Nat}{cur:Array Qu}(hg:w.heap[g]? =some (.cells cur 136 (0,0)))(hn:n=1)(hle:off+4<=cur.size)(ty:TypeId):
 ∃w',(Builtin.clear_ #[25] ty #[.slice (some ⟨g,off,none⟩) n c]).run Tryz.prog w=.ok (.tuple #[]) w'/\oD g ⟨Lt.aX off [.int .i64 0,.int .i64 0,.int .i64 0,.slice none 0 0] cur.toList⟩ 136 (0,0) w w':=by
 subst hn;obtain⟨inf,i1,i2,i3,i4⟩:=info_parts zr;obtain⟨w',q1,q2,q3,q4,q5,q6,q7⟩:=Lt.BI Tryz.prog (k:=off) [.int .i64 0,.int .i64 0,.int .i64 0,.slice none 0 0] 0 w cur hg (.inl rfl) (by simpa using hle) (λv hv=>by simp at hv;rcases hv with rfl|rfl<;>rfl)
 refine⟨w',?_,⟨q5,q6,q7,q4,q3,q2⟩⟩;have hz:∀w,(zeroValue 136).run Tryz.prog w=.ok (.agg #[.int .i64 0,.int .i64 0,.int .i64 0,.slice none 0 0]) w:=λw=>by simp[zeroValue,typeInfo,i1,i2]
 have e:(Builtin.zeroCells (.agg #[.int .i64 0,.int .i64 0,.int .i64 0,.slice none 0 0]:Qu).cells 1).toList=[.int .i64 0,.int .i64 0,.int .i64 0,.slice none 0 0]:=by simp[Builtin.zeroCells,Value.cells,List.range_succ]
 simp only[Builtin.clear_,List.getElem?_toArray,List.getElem?_cons_zero,cU,run_underlying Tryz.underlying25,eA,hz,e,q1];rfl
theorem aaX{w:Hx}{g n cp k:Nat}{cur:Array Qu}(T:uT w g n cp cur)(hk:k<n):
 Calls Tryz.prog 454 #[.slice (some ⟨g,0,none⟩) n cp,.int .i64 k,.int .i64 (k+1)] w λe w'=>∃cur',e=.returned (.slice (some ⟨g,0,none⟩) (n -1) cp)/\oD g cur' 136 (0,0) w w'/\
  cur'.toList.take ((n -1)*4)=cur.toList.take (k*4)++(cur.toList.drop ((k+1)*4)).take ((n -(k+1))*4):=by
 have h1:=T.aZ (i:=k+1) hk;obtain⟨hg,hsz,hn,hf,_⟩:=T;have mixed:Tryz.prog.follows .mixedOrders=true:=by kernel_rfl
 have hcs:cur.toList.length=cp*4:=hsz;obtain⟨inf,i1,i2,i3,i4⟩:=info_parts zr;have hl1:((cur.toList.drop ((k+1)*4)).take ((n -(k+1))*4)).length=(n -(k+1))*4:=by rw[dk,eu];omega
 obtain⟨xp,hxp⟩:∃xp:Addr,xp=if cp=k+1 then⟨g,0,none⟩ else⟨g,(k+1)*4,none⟩:=⟨_,rfl⟩;obtain⟨w1,p1,p2⟩:∃w1,(Builtin.append_ #[25,25] 25 #[.slice (some ⟨g,0,none⟩) k cp,.slice (some xp) (n -(k+1)) (cp -(k+1))]).run Tryz.prog w.drew=.ok (.slice (some ⟨g,0,none⟩) (n -1) cp) w1/\oD g ⟨Lt.aX (k*4) ((cur.toList.drop ((k+1)*4)).take ((n -(k+1))*4)) cur.toList⟩ 136 (0,0) w.drew w1:=by
  obtain⟨vs,o1,o2⟩:∃vs,(loadCells xp ((n -(k+1))*4)).run Tryz.prog w.drew=.ok vs w.drew/\vs.toList=(cur.toList.drop ((k+1)*4)).take ((n -(k+1))*4):=by
   by_cases hq:cp=k+1
   ·have:n -(k+1)=0:=by omega
    rw[this];exact⟨#[],Lt.Ey _ _ _,by simp⟩
   ·rw[hxp,aq hq];exact Lt.BH Tryz.prog (w:=w.drew) hg (by omega)
  obtain⟨w',q1,q2,q3,q4,q5,q6,q7⟩:=Lt.BI Tryz.prog (k:=k*4) vs.toList 0 w.drew cur hg (.inl rfl) (by rw[o2];omega) (by rw[o2];exact h1);have A:Lt.uN Tryz.prog w.drew #[25,25] #[.slice (some ⟨g,0,none⟩) k cp,.slice (some xp) (n -(k+1)) (cp -(k+1))] 25 25 136 (.slice 136) inf (some ⟨g,0,none⟩) k cp (.slice (some xp) (n -(k+1)) (cp -(k+1))) (n -(k+1)):=
   ⟨rfl,rfl,rfl,rfl,Tryz.underlying25,Tryz.underlying25,i1,.inl ⟨rfl,rfl⟩⟩
  have r:=Lt.u5 A (rt:=25) (by omega) (vs:=vs) (by rw[i3];exact o1) (w':=w') (by rw[i3];simpa[Lt.zn,Addr.add_lit] using q1);rw[show k+(n -(k+1))=n -1 by omega] at r;exact⟨w',r,⟨q5,q6,q7,q4,q3,by rw[q2,o2];simp⟩⟩
 have hp2:=p2.at_;obtain⟨w2,c1,c2⟩:=aix (w:=w1) (g:=g) (off:=(n -1)*4) (n:=1) (c:=cp -(n -1)) hp2 rfl (by simp[Lt.nZ];omega) 0;have hls:(Lt.aX ((n -1)*4) [.int .i64 0,.int .i64 0,.int .i64 0,.slice none 0 0] (Lt.aX (k*4) ((cur.toList.drop ((k+1)*4)).take ((n -(k+1))*4)) cur.toList)).take ((n -1)*4)=cur.toList.take (k*4)++(cur.toList.drop ((k+1)*4)).take ((n -(k+1))*4):=by
  have e:(n -1)*4=k*4+(n -(k+1))*4:=by omega
  generalize(cur.toList.drop ((k+1)*4)).take ((n -(k+1))*4)=S at hl1⊢;have h3:(cur.toList.take (k*4)).length=k*4:=by rw[dk];omega
  rw[ud _ _ _ (by simp[Lt.nZ];omega),List.take_left' (by simp[Lt.nZ];omega),ud S _ _ (by omega),<-ed,e,<-hl1,List.take_left' (by simp[h3])]
 go_enter Tryz.func454,Tryz.ntmps454
 have n1:((k:Int)+1).toNat=k+1:=by omega
 have n2:n -(n -1)=1:=by omega
 have n3:¬cp=n -1:=by omega
 have n4:¬cp=k:=by omega
 have n5:((k:Int)=(k:Int)+1)=False:=eq_false (by omega);have n6:(k:Int)<=(k:Int)+1:=by omega
 have n7:(k:Int)+1<=(n:Int):=by omega
 have n8:(k:Int)<=(cp:Int):=by omega
 have n9:(n:Int)<=(cp:Int):=by omega
 have n10:(0:Int)<=(k:Int)+1:=by omega
 have n11:(k:Int)<=(n:Int):=by omega
 by_cases hq:cp=k+1
 ·rw[ay hq] at hxp;subst hxp;obtain rfl:n=k+1:=by omega
  subst hq;simp only[Nat.sub_self,Nat.add_sub_cancel,IW] at p1 p2 c1 c2 hl1 hls n3 n2⊢
  go_wp2
  go_region_law_o (refine Zb rfl _ _ 25 25 rfl _ _ (by simp[Act.eval,Act.put]) (by simp[Act.eval,Act.put]) p1 ?_)
  go_wp2
  go_ret
  exact⟨_,rfl,⟨c2.os.trans p2.os,c2.tape.trans p2.tape,c2.output.trans p2.output,c2.size.trans p2.size,λk hk=>(c2.block k hk).trans (p2.block k hk),c2.at_⟩,hls⟩
 ·rw[aq hq] at hxp;subst hxp
  go_wp2
  go_region_law_o (refine Zb rfl _ _ 25 25 rfl _ _ (by simp[Act.eval,Act.put]) (by simp[Act.eval,Act.put]) p1 ?_)
  go_wp2
  go_ret
  exact⟨_,rfl,⟨c2.os.trans p2.os,c2.tape.trans p2.tape,c2.output.trans p2.output,c2.size.trans p2.size,λk hk=>(c2.block k hk).trans (p2.block k hk),c2.at_⟩,hls⟩
end
section
open Go.Shelf Go.RowKit Go.Lib
theorem aaA{w:Hx}{a:Zh Addr}{n c:Nat}{xs:H1 Qu}(hs:a=none->n=0)(hc:∀x,a=some x->∀j u,xs[j]? =some u->w.cell? (x.add j)=some u)(hl:xs.length=n*4)(hn:n<1000000000)(h1:∀v∈xs,v.oneCell'=true):
 Calls Tryz.prog 315 #[.slice a n c] w λe w'=>∃v,e=.returned v/\w'.ownsRow w.heap.size 136 4 v n xs/\RowKit.Below w.heap.size w w':=by
 have mixed:Tryz.prog.follows .mixedOrders=true:=by kernel_rfl
 obtain⟨inf,i1,i2,i3,i4⟩:=info_parts zr;have q22:∀(w:Hx)(a:Zh Addr)(n c n' c':Nat),(binOp .eql 25 (.slice a n c) (.slice none n' c')).run Tryz.prog w=.ok (.bool a.isNone) w:=λw a n c n' c'=>Lib.run_eql_slice_nil w _ _ a n c n' c' Tryz.underlying25;cases a with
 |none=>
  obtain rfl:=hs rfl;have:=kC (by omega:xs.length=0);subst this;clear hc
  go_enter Tryz.func315,Tryz.ntmps315
  go_wp2
  go_ret
  exact⟨_,rfl,World.ownsRow_nil _ _ _ _,fq _ _⟩
 |some a=>
  have A:Aside (∀j u,xs[j]? =some u->w.cell? (a.add j)=some u):=hc _ rfl;clear hc
  go_enter Tryz.func315,Tryz.ntmps315
  go_wp2_with (at_builtin;refine wpList_append_own _ rfl _ _ 25 rfl w.heap.size 136 inf _ 4 48 Tryz.underlying25 i1 i2 i3 i4 rfl (by decide) _ _ _ rfl (World.ownsRow_made w #[] 0 (aM _) (gU _) rfl) a n c xs rfl ?qc1 ?qc2 ?qc3 ?qc4 ?qc5 ?qc6 ?_)
  case qc1=>omega
  case qc2=>exactλj u hj=>Lib.cell?_alloc_some _ (A.out j u hj)
  case qc3=>exact h1
  case qc4=>unfold maxLen;omega
  case qc5=>omega
  case qc6=>simp
  intro v' w1 hown hgrow hnil
  go_wp2
  go_ret
  refine⟨v',rfl,by simpa using hown,?_⟩;exact((Below.refl _ w).alloc (aM _) _).grown hgrow (by simp) (by intro k hk;simp[Value.ownBlock] at hk;omega)
end
namespace Lt
section
open Go.Shelf Go.RowKit Go.Lib
abbrev pc:=Int->Int->Qu->Zh (Int×Int×Qu)
abbrev qQ:=Qu->Int->Zh (Int×Bool)
abbrev nF:VT:=.agg [.i .i64,.i .i64,.v]
theorem Calls.get{P:Program}{g:FuncId}{args:Array Qu}{w:Hx}{R:Ending->Hx->Prop}(h:Calls P g args w R):∃e w',R e w':=(h []).imp λ_ ⟨w',_,r,_⟩=>⟨w',r⟩
theorem Fj{P:Program}{g:FuncId}{O:pc}(HO:cQ P g [nF] nF O){a b:Int}{d:Qu}{r:Int×Int×Qu}(e:O a b d=some r)(hd:gz d/\aZ [d]=true){m0:Nat->Nat->Zh Qu}{W0:Hx}{y0:Qu}(hm0:Kn m0 W0)(L0:aK m0 d y0):
 (gz r.2.2 /\aZ [r.2.2]=true)/\∀{m:Nat->Nat->Zh Qu}{W:Hx}{y:Qu},Kn m W->aK m d y->Calls P g #[.agg #[.int .i64 a,.int .i64 b,y]] W λe W'=>∃z,e=.returned (.agg #[.int .i64 r.1,.int .i64 r.2.1,z])/\RowKit.Below W.heap.size W W'/\aK (cJ m W W') r.2.2 z:=by
 obtain⟨a',b',d'⟩:=r;have key:∀{m:Nat->Nat->Zh Qu}{W:Hx}{y:Qu},Kn m W->aK m d y->Calls P g #[.agg #[.int .i64 a,.int .i64 b,y]] W λe W'=>aZ [d']=true/\∃z,e=.returned (.agg #[.int .i64 a',.int .i64 b',z])/\RowKit.Below W.heap.size W W'/\aK (cJ m W W') d' z:=by
  intro m W y hm L;refine(HO [.i a,.i b,.v d] (a',b',d') e (λx hx=>by simp at hx;rw[hx];exact hd.2) _ rfl m _ W hm (.cons (.EM (.cons (.int _ _) (.cons (.int _ _) (.cons L .nil)))) .nil)).mono λe w' ⟨v',q1,q2,pv,f2,f1,q3⟩=>?_;have f2:some (Value.agg #[.int .i64 a',.int .i64 b',d'],([]:H1 bq))=some (pv,[]):=f2;cases f2;refine⟨f1 d' (by show bq.v d'∈[bq.i a',bq.i b',bq.v d'];simp),?_⟩;subst q1;cases q3 with
  |@agg xs xs' h0 h=>
  obtain⟨xl⟩:=xs';obtain⟨_,_,rfl,h1,T1⟩:=PW.inv (show bD (cJ m W w') [.int .i64 a',.int .i64 b',d'] xl from⟨h0,h⟩);cases h1;obtain⟨_,_,rfl,h2,T2⟩:=PW.inv T1;cases h2;obtain⟨_,_,rfl,h3,T3⟩:=PW.inv T2;obtain rfl:=T3.dY;exact⟨_,rfl,q2,h3⟩
 obtain⟨_,_,on,_⟩:=Calls.get (key hm0 L0);exact⟨⟨on,on⟩,λhm L=>(key hm L).mono λ_ _ h=>h.2⟩
theorem Ju{P:Program}{g:FuncId}{A:qQ}(HA:cQ P g [.v,.i .i64] (.aH [.i .i64,.b]) A){x:Qu}{t:Int}{r:Int×Bool}(e:A x t=some r)(hx:gz x/\aZ [x]=true):
 ∀{m:Nat->Nat->Zh Qu}{W:Hx}{y:Qu},Kn m W->aK m x y->Calls P g #[y,.int .i64 t] W λe W'=>e=.returned (.tuple #[.int .i64 r.1,.bool r.2])/\RowKit.Below W.heap.size W W':=by
 obtain⟨k,q⟩:=r;intro m W y hm L;refine(HA [.v x,.i t] (k,q) e (λz hz=>by simp at hz;rw[hz];exact hx.2) _ rfl m _ W hm (.cons L (.cons (.int _ _) .nil))).mono λe w' ⟨v',q1,q2,pv,f2,_,q3⟩=>?_;have f2:some (Value.tuple #[.int .i64 k,.bool q],([]:H1 bq))=some (pv,[]):=f2;cases f2;subst q1;cases q3 with
 |@aH xs xs' h0 h=>
 obtain⟨xl⟩:=xs';obtain⟨_,_,rfl,h1,T1⟩:=PW.inv (show bD (cJ m W w') [.int .i64 k,.bool q] xl from⟨h0,h⟩);cases h1;obtain⟨_,_,rfl,h2,T2⟩:=PW.inv T1;cases h2;obtain rfl:=T2.dY;exact⟨rfl,q2⟩
end
section
open Go.Shelf Go.RowKit Go.Lib
noncomputable def nV(O:pc):H1 Qu->Zh (H1 Qu)
 |[]=>some []
 | .int .i64 t::.int .i64 a::.int .i64 b::d::r=>cond (aZ [d]) (ob (O a b d) λp=>ob (nV O r) λs=>some (.int .i64 t::.int .i64 p.1 ::.int .i64 p.2.1 ::p.2.2 ::s)) none
 |_=>none
theorem VE{O:pc}{l r:H1 Qu}(h:0<l.length)(e:nV O l=some r):∃t a b d l' p r',l=.int .i64 t::.int .i64 a::.int .i64 b::d::l'/\aZ [d]=true/\O a b d=some p/\nV O l'=some r'/\r=.int .i64 t::.int .i64 p.1 ::.int .i64 p.2.1 ::p.2.2 ::r':=by
 unfold nV at e;split at e
 ·simp at h
 ·obtain⟨h1,e⟩:=aW e;replace e:=ax e;obtain⟨p,h2,e⟩:=e;replace e:=ax e;obtain⟨s,h3,e⟩:=e;exact⟨_,_,_,_,_,p,s,rfl,h1,h2,h3,(jC e).symm⟩
 ·cases e
structure Di(m:Nat->Nat->Option Value)(w:World)(v:Value)(n:Nat)(cs:List Value)(wr:World):Prop where
 below:RowKit.Below w.heap.size w wr
 row:∃(m':Nat->Nat->Option Value)(xs:List Value),wr.ownsRow w.heap.size 136 4 v n xs/\bD m' cs xs/\Kn m' wr/\(∀q,v.ownBlock=some q->∀i,m' q i=none)/\(∀b i u,m b i=some u->m' b i=some u)/\(∀b i u,m' b i=some u->cJ m w wr b i=some u)
theorem ownsRow_form{w:Hx}{B:Nat}{e:TypeId}{k:Nat}{v:Qu}{n:Nat}{xs:H1 Qu}(h:w.ownsRow B e k v n xs):∃p cp,v=.slice p n cp/\n<=cp:=by
 obtain⟨_,⟨rfl,rfl⟩|⟨g,cp,_,rfl,_,_,h,_⟩⟩:=h
 ·exact⟨_,_,rfl,aM _⟩
 ·exact⟨_,_,rfl,h⟩
theorem aK.nU{m:Nat->Nat->Zh Qu}{x y:Qu}(h:aK m x y)(o:aZ [x]=true):y.oneCell'=true:=by cases h<;>first|rfl|cases o
theorem al7(w:Hx)(a b c:Qu){y:Qu}(h:y.oneCell'=true):(store ⟨w.heap.size,3,none⟩ y).run Tryz.prog (w.alloc (.cells #[a,b,c,.slice none 0 0] 136))=.ok () (w.alloc (.cells #[a,b,c,y] 136)):=by rw[run_store _ _ _ _ _ h];simp[go_sem]
theorem IT{w:Hx}{g k:Nat}{cur:Array Qu}{t:TypeId}{fz:Nat×Nat}(h:w.heap[g]? =some (.cells cur t fz))(v:Qu):oD g ⟨cur.toList.set k v⟩ t fz w (w.setCell ⟨g,k,none⟩ v):=
 ⟨rfl,rfl,rfl,XP _ _ _,λ_ hk=>XN v hk,by rw[XO h];cases cur;simp⟩
theorem Ix{w:Hx}{g o:Nat}{cur:Array Qu}{t:TypeId}(h:w.heap[g]? =some (.cells cur t (0,0)))(hl:o+4<=cur.size)(a b:Int){z:Qu}(hz:z.oneCell'=true):
 (∃v,w.cell? ⟨g,o+1,none⟩=some v)/\(∃v,w.cell? ⟨g,o+2,none⟩=some v)/\(∀k,w.frozen? ⟨g,k,none⟩=false)/\(∃v,(w.setCell ⟨g,o+1,none⟩ (.int .i64 a)).cell? ⟨g,o+2,none⟩=some v)/\
 ∃w',(store ⟨g,o+3,none⟩ z).run Tryz.prog ((w.setCell ⟨g,o+1,none⟩ (.int .i64 a)).setCell ⟨g,o+2,none⟩ (.int .i64 b))=.ok () w'/\oD g ⟨((cur.toList.set (o+1) (.int .i64 a)).set (o+2) (.int .i64 b)).set (o+3) z⟩ t (0,0) w w':=by
 have c:∀{W:Hx}{cs:Array Qu}(k:Nat),W.heap[g]? =some (.cells cs t (0,0))->W.cell? ⟨g,k,none⟩=cs[k]? :=λk h=>by unfold World.cell?;simp[h]
 have f:∀{W:Hx}{cs:Array Qu}(k:Nat),W.heap[g]? =some (.cells cs t (0,0))->W.frozen? ⟨g,k,none⟩=false:=λk h=>by unfold World.frozen?;simp[h]
 have q1:=IT (k:=o+1) h (.int .i64 a);have q2:=IT (k:=o+2) q1.at_ (.int .i64 b);have q3:=IT (k:=o+3) q2.at_ z;refine⟨⟨cur[o+1],by rw[c _ h];simp⟩,⟨cur[o+2],by rw[c _ h];simp⟩,λk=>f k h,?_,((w.setCell ⟨g,o+1,none⟩ (.int .i64 a)).setCell ⟨g,o+2,none⟩ (.int .i64 b)).setCell ⟨g,o+3,none⟩ z,?_,⟨rfl,rfl,rfl,q3.size.trans (q2.size.trans q1.size),λk hk=>(q3.block k hk).trans ((q2.block k hk).trans (q1.block k hk)),q3.at_⟩⟩
 ·rw[c _ q1.at_];exact⟨(cur.toList.set (o+1) (.int .i64 a))[o+2]'(by simp;omega),by simp⟩
 ·have e:((w.setCell ⟨g,o+1,none⟩ (.int .i64 a)).setCell ⟨g,o+2,none⟩ (.int .i64 b)).cell? ⟨g,o+3,none⟩=some (((cur.toList.set (o+1) (.int .i64 a)).set (o+2) (.int .i64 b))[o+3]'(by simp;omega)):=by rw[c _ q2.at_];simp
  rw[run_store _ _ _ _ _ hz,e];simp[f _ q2.at_]
theorem bD.adC{m:Nat->Nat->Zh Qu}{a b:H1 Qu}(h:bD m a b){j:Nat}{u:Qu}(e:b[j]? =some u):KX u=false:=by have:=(mJ.1 e).1;have hl:=h.1;exact(h.2 j a[j] u (by simp) e).Ue
structure ZW(O:pc)(m:Nat->Nat->Option Value)(w:World)(v:Value)(n:Nat)(res:List Value)(i:Nat)(wr:World):Prop where
 below:RowKit.Below w.heap.size w wr
 row:∃(m':Nat->Nat->Option Value)(done rest rest' xs:List Value),wr.ownsRow w.heap.size 136 4 v n xs/\bD m' (done++rest) xs/\Kn m' wr/\(∀q,v.ownBlock=some q->∀i,m' q i=none)/\(∀b i u,m b i=some u->m' b i=some u)/\(∀b i u,b<w.heap.size->m' b i=some u->m b i=some u)/\
  done.length=i*4/\nV O rest=some rest'/\done++rest'=res/\(∀x∈done++rest,gz x)
theorem bD.split{m:Nat->Nat->Zh Qu}{a b ys:H1 Qu}(h:bD m (a++b) ys):∃y z,ys=y++z/\bD m a y/\bD m b z:=
 ⟨ys.take a.length,ys.drop a.length,(kF ..).symm,by have:=PW.take h a.length;rwa[List.take_left'] at this;rfl,by have:=PW.drop h a.length;rwa[List.drop_left'] at this;rfl⟩
theorem bD.join{m:Nat->Nat->Zh Qu}{a b y z:H1 Qu}(h:bD m a y)(k:bD m b z):bD m (a++b) (y++z):=PW.append h k
theorem bD.len{m:Nat->Nat->Zh Qu}{a b:H1 Qu}(h:bD m a b):a.length=b.length:=h.1
theorem bD.mono{m m':Nat->Nat->Zh Qu}{xs ys:H1 Qu}(h:bD m xs ys)(e:∀b i v,m b i=some v->m' b i=some v):bD m' xs ys:=PW.mono (λ_ _=>aK.mono e) h
theorem Fl{O:pc}(HO:cQ Tryz.prog 267 [nF] nF O){m:Nat->Nat->Zh Qu}{w:Hx}{a:Zh Addr}{n c:Nat}{cs xs res:H1 Qu}(hm:Kn m w)(hL:bD m cs xs)(hp:∀x∈cs,gz x)(he:nV O cs=some res)
 (hs:a=none->n=0) (hc:∀x,a=some x->∀j u,xs[j]? =some u->m x.block (x.off+j)=some u) (hsp:∀x,a=some x->0<n->x.spot=none) (hl:xs.length=n*4) (hn:n<1000000000) (h1:∀v∈xs,v.oneCell'=true):
 Calls Tryz.prog 371 #[.slice a n c] w λe w'=>∃v,e=.returned v/\Di m w v n res w':=by
 have mixed:Tryz.prog.follows .mixedOrders=true:=by kernel_rfl
 have hcl:Aside (∀x,a=some x->∀j u,xs[j]? =some u->w.cell? (x.add j)=some u):=λx hx j u hu=>by
  obtain⟨b,o,sp⟩:=x;obtain rfl:=hsp _ hx (by have:=(mJ.1 hu).1;omega);rw[Addr.add_lit];refine Ew ?_ (hm _ _ _ (hc _ hx j u hu));obtain⟨i1,hi1⟩:=mJ.1 hu;have hj:j<cs.length:=by rw[hL.len];exact i1
  exact bD.adC hL hu
 clear hc
 go_enter Tryz.func371,Tryz.ntmps371
 go_wp2_with (go_at_call 315;refine(aaA hs hcl hl hn h1).mono ?_;rintro e w1 ⟨v,rfl,o1,b1⟩;obtain⟨p,cp,rfl,hcp⟩:=ownsRow_form o1)
 go_loopw [10] (λq wr=>∃i:Nat,q=.int .i64 i/\i<=n/\ZW O m w (.slice p n cp) n res i wr) (λq wr=>n -(Lib.intOf q).toNat)
 case atStart=>exact⟨0,rfl,gU _,b1,m,[],cs,res,xs,o1,hL,hm.below b1,λq hq i=>(by
  have:=Fm o1 hq;cases e:m q i with
  |none=>rfl
  |some u=>have:=mq (hm _ _ _ e);omega),λ_ _ _ h=>h,λ_ _ _ _ h=>h,rfl,he,rfl,hp⟩
 case round=>
  obtain⟨i,rfl,hi,⟨bl,m',done,rest,rest',ys,o2,L2,k2,z2,e2,n2,d2,r2,q2,p2⟩⟩:=hrel;rcases gY i n with hin|hin
  ·have hlen:=L2.len;obtain⟨y1,y2,rfl,La,Lb⟩:=L2.split;have hb:0<rest.length:=by have:=o2.1;simp at hlen this;omega
   obtain⟨t,va,vb,d,l',r,r',rfl,od,e3,e4,rfl⟩:=VE hb r2;obtain⟨_,_,rfl,l1,Lc⟩:=PW.inv Lb;cases l1;obtain⟨_,_,rfl,l1,Ld⟩:=PW.inv Lc;cases l1;obtain⟨_,_,rfl,l1,Le⟩:=PW.inv Ld;cases l1;obtain⟨y,y3,rfl,l1,Lf⟩:=PW.inv Le;clear Lb Lc Ld Le;have hd:gz d/\aZ [d]=true:=⟨p2 d (by simp),od⟩;obtain⟨hd',own⟩:=Fj HO e3 hd k2 l1;have hy:y1.length=i*4:=by rw[<-La.len];exact d2
   obtain⟨g,cur,rfl,hg1,hmx,hg2,hsz,hcur⟩:∃g cur,p=some ⟨g,0,none⟩/\w.heap.size<=g/\cp<=maxLen/\wr.heap[g]? =some (.cells cur 136 (0,0))/\cur.size=cp*4/\cur.toList.take (n*4)=y1++(.int .i64 t::.int .i64 va::.int .i64 vb::y::y3):=by
    obtain⟨_,⟨_,h⟩|⟨g,cp',cur,e,h1,h2,h3,h4,h5,h6⟩⟩:=o2
    ·omega
    ·cases e;exact⟨g,cur,rfl,h1,h4,h2,h5,h6⟩
   have cl:∀k,(cur.toList.take (n*4))[i*4+k]? =(Value.int .i64 t::.int .i64 va::.int .i64 vb::y::y3)[k]? :=λk=>by rw[hcur,uJ (by omega)];congr 1;omega
   have ce:∀k,k<4->wr.cell? ⟨g,i*4+k,none⟩=(Value.int .i64 t::.int .i64 va::.int .i64 vb::y::y3)[k]? :=λk hk=>by rw[<-cl k,zK (by omega)];unfold World.cell?;simp[hg2]
   have c0:wr.cell? ⟨g,i*4,none⟩=some (.int .i64 t):=ce 0 (by omega);have c1:wr.cell? ⟨g,i*4+1,none⟩=some (.int .i64 va):=ce 1 (by omega);have c2:wr.cell? ⟨g,i*4+2,none⟩=some (.int .i64 vb):=ce 2 (by omega);have c3:wr.cell? ⟨g,i*4+3,none⟩=some y:=ce 3 (by omega);clear ce cl;have hy1:y.oneCell'=true:=aK.nU l1 od;have hst:=al7 wr (.int .i64 t) (.int .i64 va) (.int .i64 vb) hy1;have hin':(i:Int)<(n:Int):=by omega
   have ba:RowKit.Below wr.heap.size wr (wr.alloc (.cells #[.int .i64 t,.int .i64 va,.int .i64 vb,y] 136)):=(fq _ wr).alloc (aM _) _;have kz:Kn m' (wr.alloc (.cells #[.int .i64 t,.int .i64 va,.int .i64 vb,y] 136)):=k2.below ba;have gl:g<wr.heap.size:=(fw.1 hg2).1
   go_wp2_with (go_at_call 267;refine(own kz l1).mono ?_;rintro e wy ⟨z,rfl,by1,lz⟩;have bz:RowKit.Below wr.heap.size wr wy:=ba.trans (by1.mono (by simp));have hz1:z.oneCell'=true:=aK.nU lz hd'.2;have hgy:=(bz.block g gl).trans hg2;obtain⟨⟨v1,s1⟩,⟨v2,s2⟩,sf,⟨v3,s3⟩,wz,s4,s5⟩:=Ix hgy (o:=i*4) (by omega) r.1 r.2.1 hz1;have mo:=kz.mono (w':=wy);have kn:=kz.new by1;obtain⟨m2,hm2⟩:∃m2,m2=cJ m' (wr.alloc (.cells #[.int .i64 t,.int .i64 va,.int .i64 vb,y] 136)) wy:=⟨_,rfl⟩;rw[<-hm2] at mo kn lz;have lo:∀b i,b<wr.heap.size->m2 b i=m' b i:=λb i hb=>(by rw[hm2];unfold cJ;rw[ay (by simp;omega)]);clear ba kz hgy hm2)
   have hd1:∀k (u:Qu) (x:H1 Qu),(y1++x).set (i*4+k) u=y1++x.set k u:=λk u x=>by rw[List.set_append_right _ _ (by omega)];congr 2;omega
   have hc2:((((cur.toList.set (i*4+1) (.int .i64 r.1)).set (i*4+2) (.int .i64 r.2.1)).set (i*4+3) z).take (n*4))=y1++(.int .i64 t::.int .i64 r.1 ::.int .i64 r.2.1 ::z::y3):=by rw[List.take_set,List.take_set,List.take_set,hcur,hd1,hd1,hd1];rfl
   have bw:RowKit.Below w.heap.size w wz:=bl.trans ((bz.mono bl.size).trans ⟨s5.os,s5.tape,s5.output,ta s5.size.symm,λk hk=>s5.block k (by omega)⟩);have g9:∀i,m2 g i=none:=λi=>(lo g i gl).trans (z2 g rfl i);refine⟨⟨i+1,by simp,by omega,bw,m2,done++[.int .i64 t,.int .i64 r.1,.int .i64 r.2.1,r.2.2],l',r',y1++(.int .i64 t::.int .i64 r.1 ::.int .i64 r.2.1 ::z::y3),?_,?_,?_,?_,?_,?_,?_,e4,?_,?_⟩,by simp[Lib.intOf];omega⟩
   ·refine⟨?_,.inr ⟨g,cp,_,rfl,hg1,s5.at_,hcp,hmx,?_,hc2⟩⟩
    ·have:=o2.1;simp at this⊢;omega
    ·simpa using hsz
   ·rw[ed];exact(La.mono mo).join (.cons (.int _ _) (.cons (.int _ _) (.cons (.int _ _) (.cons lz (bD.mono Lf mo)))))
   ·intro b j u hu;have hb:b≠g:=λe=>by rw[e,g9] at hu;cases hu
    exact(q9 (s5.block b hb)).trans (kn b j u hu)
   ·rintro q ⟨⟩;exact g9
   ·exactλb j u h=>mo _ _ _ (e2 _ _ _ h)
   ·exactλb j u hb h=>n2 _ _ _ hb ((lo b j (by have:=bl.size;omega)).symm.trans h)
   ·simp;omega
   ·rw[ed];exact q2
   ·intro x hx;simp only[ed,fQ,cX,nu,nA,eD,fy] at hx p2;rcases hx with hx|rfl|rfl|rfl|rfl|hx
    ·exact p2 x (.inl hx)
    ·rfl
    ·rfl
    ·rfl
    ·exact hd'.1
    ·exact p2 x (.inr (.inr (.inr (.inr (.inr hx)))))
  ·have hr:rest=[]:=kC (by have h1:=L2.len;have h2:=o2.1;simp at h1;omega);subst hr;obtain rfl:rest'=[]:=(jC r2).symm;rw[dP] at q2 L2;subst q2;obtain rfl:i=n:=by omega
   go_wp2
   go_ret
   refine⟨_,rfl,bl,m',ys,o2,L2,k2,z2,e2,λb j u h=>?_⟩;unfold cJ;split
   ·exact n2 _ _ _ ‹_› h
   ·exact k2 _ _ _ h
end
section
open Go.Shelf Go.RowKit Go.Lib
theorem bD.nU{m:Nat->Nat->Zh Qu}{a b:H1 Qu}(h:bD m a b)(o:aZ a=true)(v:Qu)(hv:v∈b):v.oneCell'=true:=by obtain⟨i,hi⟩:=List.mem_iff_getElem?.1 hv;have:=(mJ.1 hi).1;have hl:=h.1;exact(h.2 i a[i] v (by simp) hi).nU (iV.1 o _ (cx _))
abbrev Dk(c:H1 Qu):Prop:=(∀x∈c,gz x)/\aZ c=true
theorem Dk.of{c:H1 Qu}(h:aZ c=true):Dk c:=⟨iV.1 h,h⟩
theorem yc(a b:H1 Qu)(h:aZ a=true)(k:aZ b=true):aZ (a++b)=true:=iV.2 λx hx=>(fQ.1 hx).elim (iV.1 h x) (iV.1 k x)
theorem FU{m:Nat->Nat->Zh Qu}{x v:Qu}{n:Nat}{cs:H1 Qu}(h:rowOf x=some (n,cs))(l:aK m x v)(hl:cs.length=n*4):
 ∃a c xs,v=.slice a n c/\bD m cs xs/\(a=none->n=0)/\(∀x,a=some x->∀j u,xs[j]? =some u->m x.block (x.off+j)=some u)/\(∀x,a=some x->0<n->x.spot=none)/\Dk cs:=by
 have:=FQ h;subst this;cases l with
 |kv r1 r2 q hs hn ho=>exact⟨_,_,_,rfl,⟨r1,r2⟩,(λh=>by cases h),(λx h=>by cases h;exact q),(λx h _=>by cases h;exact hs),.of ho⟩
 |fW=>exact⟨_,_,[],rfl,.nil,λ_=>rfl,λ_ _ j u h=>by simp at h,(λ_ _ h=>absurd h (Nat.lt_irrefl 0)),.of rfl⟩
theorem Bk{P:Program}{g:FuncId}{O:pc}(HO:cQ P g [nF] nF O){m:Nat->Nat->Zh Qu}{w:Hx}(hm:Kn m w):∀{l xs r:H1 Qu},bD m l xs->(∀x∈l,gz x)->nV O l=some r->Dk r/\r.length=l.length
 |[],_,r,_,_,e=>by cases e;exact⟨.of rfl,rfl⟩
 |[_],_,_,_,_,e=>by unfold nV at e;split at e<;>first|(rename_i q;cases q;done)|cases e
 |[_,_],_,_,_,_,e=>by unfold nV at e;split at e<;>first|(rename_i q;cases q;done)|cases e
 |[_,_,_],_,_,_,_,e=>by unfold nV at e;split at e<;>first|(rename_i q;cases q;done)|cases e
 |x0::x1::x2::x3::l,xs,r,L,p,e=>by obtain⟨t,a,b,d,l',q,r',h1,h2,h3,h4,rfl⟩:=VE (by simp) e;cases h1;obtain⟨_,_,rfl,_,L⟩:=PW.inv L;obtain⟨_,_,rfl,_,L⟩:=PW.inv L;obtain⟨_,_,rfl,_,L⟩:=PW.inv L;obtain⟨_,_,rfl,l3,L⟩:=PW.inv L;obtain⟨i1,i2⟩:=Bk HO hm L (λx hx=>p x (by simp[hx])) h4;have hd:=(Fj HO h3 ⟨p x3 (by simp),h2⟩ hm l3).1;exact⟨.of (yc [.int .i64 t,.int .i64 q.1,.int .i64 q.2.1] _ rfl (yc [q.2.2] r' hd.2 i1.2)),by simp[i2]⟩
theorem Mh{l:H1 Qu}(h:aZ l=true)(k:Nat):aZ (l.take k)=true:=re h λ_ q=>uL q
theorem Vq{l:H1 Qu}(h:aZ l=true)(k:Nat):aZ (l.drop k)=true:=re h λ_ q=>qN q
theorem Di.shown{m:Nat->Nat->Zh Qu}{w wr:Hx}{v:Qu}{n:Nat}{cs:H1 Qu}(h:Di m w v n cs wr)(ho:aZ cs=true):aK (λb i=>fJ wr b i) (ae n cs) v:=by
 obtain⟨m',xs,⟨hl,⟨rfl,rfl⟩|⟨g,cp,cur,rfl,h1,h2,h3,h4,h5,h6⟩⟩,L,k,_⟩:=h.row
 ·have:cs=[]:=kC (by rw[L.len];omega);subst this;exact .fW
 ·refine .row (L.mono λb i u hu=>k b i u hu) (λi y hy=>?_) rfl h3 ho;rw[sq h2,fI];rw[<-h6] at hy;rw[o6] at hy;split at hy
  ·simpa using hy
  ·cases hy
noncomputable def xA(O:pc)(A:qQ)(x:Qu)(t:Int):Zh Qu:=ob (rowOf x) λp=>cond (Nat.beq p.2.length (p.1 *4)&&Nat.blt p.1 1000000000) (ob (nV O p.2) λres=>ob (A (ae p.1 res) t) λq=>cond q.2 (cond (decide (0<=q.1)&&Nat.blt q.1.toNat p.1) (some (ae (p.1 -1) (res.take (q.1.toNat*4)++(res.drop ((q.1.toNat+1)*4)).take ((p.1 -(q.1.toNat+1))*4)))) none) (some (ae p.1 res))) none
theorem FV{m m':Nat->Nat->Zh Qu}{w W:Hx}{v:Qu}{n:Nat}{cs ys:H1 Qu}(R:tq W w.heap.size v n ys)(L:bD m' cs ys)(k:Kn m' W)(e:∀b i u,b<w.heap.size->m' b i=some u->m b i=some u)(ho:aZ cs=true):aK (cJ m w W) (ae n cs) v:=by
 have mo:∀b i u,m' b i=some u->cJ m w W b i=some u:=λb i u h=>by
  unfold cJ;split
  ·exact e _ _ _ ‹_› h
  ·exact k _ _ _ h
 rcases R with⟨rfl,rfl,rfl⟩|⟨g,cp,cur,rfl,h1,h2,h3,h4⟩
 ·rw[show cs=[] from kC L.1];exact .fW
 ·refine .row (L.mono mo) (λi y hy=>?_) rfl h1 ho;show cJ m w W g (0+i)=_;unfold cJ;rw[aq (by omega),sq h3,fI];rw[<-h4,o6] at hy;split at hy
  ·simpa using hy
  ·cases hy
theorem ahe{w:Hx}{B:Nat}{v:Qu}{n:Nat}{xs:H1 Qu}(h:w.ownsRow B 136 4 v n xs):tq w B v n xs:=by
 obtain⟨hl,⟨rfl,rfl⟩|⟨g,cp,cur,rfl,h1,h2,h3,_,_,h6⟩⟩:=h
 ·exact .inl ⟨rfl,rfl,kC (by omega)⟩
 ·exact .inr ⟨g,cp,cur,rfl,h3,h1,h2,h6⟩
theorem yh{w w':Hx}{B:Nat}{v:Qu}{n:Nat}{xs:H1 Qu}(h:w.ownsRow B 136 4 v n xs)(b:RowKit.Below w.heap.size w w'):w'.ownsRow B 136 4 v n xs:=by
 obtain⟨hl,h|⟨g,cp,cur,h0,h1,h2,h3⟩⟩:=h
 ·exact⟨hl,.inl h⟩
 ·exact⟨hl,.inr ⟨g,cp,cur,h0,h1,(b.block g (fw.1 h2).1).trans h2,h3⟩⟩
theorem aaW{w:Hx}{B n k:Nat}{v:Qu}{ys:H1 Qu}(o:w.ownsRow B 136 4 v n ys)(h1:∀v∈ys,v.oneCell'=true)(hk:k<n)(hn:n<1000000000):
 Calls Tryz.prog 454 #[v,.int .i64 k,.int .i64 (k+1)] w λe w'=>∃v',e=.returned v'/\tq w' B v' (n -1) (ys.take (k*4)++(ys.drop ((k+1)*4)).take ((n -(k+1))*4))/\w.grownBy w' v.ownBlock:=by
 rcases o with⟨hl,⟨_,h0⟩|⟨g,cp,cur,rfl,hg1,hg2,hg3,hg4,hg5,hg6⟩⟩
 ·omega
 have T:uT w g n cp cur:=⟨hg2,hg5,hg3,hn,by rw[hg6];exact h1⟩;have e1:cur.toList.take (k*4)=ys.take (k*4):=by rw[<-hg6,List.take_take,lI (by omega)]
 have e2:(cur.toList.drop ((k+1)*4)).take ((n -(k+1))*4)=(ys.drop ((k+1)*4)).take ((n -(k+1))*4):=by rw[<-hg6,List.drop_take,List.take_take,show min ((n -(k+1))*4) (n*4 -(k+1)*4)=(n -(k+1))*4 by omega]
 refine(aaX T hk).mono ?_
 rintro e w' ⟨cur',rfl,a1,a2⟩
 rw[e1,e2] at a2;exact⟨_,rfl,.inr ⟨_,cp,cur',rfl,by omega,hg1,a1.at_,a2⟩,⟨a1.os,a1.tape,a1.output,ta a1.size.symm,λk _ hk=>a1.block k (λe=>hk (by rw[e];rfl))⟩⟩
theorem Kn.grown{m:Nat->Nat->Zh Qu}{w w':Hx}{q:Zh Nat}(h:Kn m w)(g:w.grownBy w' q)(z:∀b,q=some b->∀i,m b i=none):Kn m w':=λb i u hu=>by have hb:=mq (h b i u hu);refine(q9 (g.block b hb λe=>?_)).trans (h b i u hu);have:=z b (by first|exact e|exact e.symm) i;rw[this] at hu;cases hu
theorem Di.back{m m':Nat->Nat->Zh Qu}{w W:Hx}(k:Kn m' W)(e:∀b i u,m' b i=some u->b<w.heap.size->m b i=some u):∀b i u,m' b i=some u->cJ m w W b i=some u:=λb i u h=>by
 unfold cJ;split
 ·exact e _ _ _ h ‹_›
 ·exact k _ _ _ h
theorem aa7{O:pc}{A:qQ}(HO:cQ Tryz.prog 267 [nF] nF O)(HA:cQ Tryz.prog 266 [.v,.i .i64] (.aH [.i .i64,.b]) A){x r:Qu}{t:Int}(e:xA O A x t=some r)(hx:gz x):
 (gz r/\aZ [r]=true)/\∀{m:Nat->Nat->Zh Qu}{w:Hx}{y:Qu},Kn m w->aK m x y->Calls Tryz.prog 397 #[y,.int .i64 t] w λe w'=>∃v',e=.returned v'/\RowKit.Below w.heap.size w w'/\aK (cJ m w w') r v':=by
 have mixed:Tryz.prog.follows .mixedOrders=true:=by kernel_rfl
 unfold xA at e;replace e:=ax e;obtain⟨⟨n,cs⟩,hr,e⟩:=e;obtain⟨q,e⟩:=aW e;rw[bt] at q;have hl:cs.length=n*4:=bT q.1;have hn:n<1000000000:=fb q.2;replace e:=ax e;obtain⟨res,ho,e⟩:=e;replace e:=ax e;obtain⟨⟨k,is⟩,ha,e⟩:=e;have hat:=@Ju _ _ _ HA _ _ _ ha ⟨rfl,rfl⟩;cases is with
 |false=>
  cases e;refine⟨⟨rfl,rfl⟩,λ{m w y} hm L=>?_⟩;obtain⟨a,c,xs,rfl,L2,h1,h2,h3,hcp⟩:=FU hr L hl;obtain⟨pr,lr⟩:=Bk HO hm L2 hcp.1 ho
  go_enter Tryz.func397,Tryz.ntmps397
  go_wp2_with (first|(go_at_call 371;refine(Fl HO hm L2 hcp.1 ho h1 h2 h3 (by rw[<-L2.len];exact hl) hn (L2.nU hcp.2)).mono ?_;rintro e w1 ⟨v,rfl,o1⟩;obtain⟨p,cp,rfl,hcp⟩:=(show∃p cp,v=.slice p n cp/\n<=cp from by obtain⟨_,_,o,_⟩:=o1.row;exact ownsRow_form o))|(go_at_call 266;refine(hat (λ_ _ _ h=>h) (o1.shown pr.2)).mono ?_;rintro e w2 ⟨rfl,b2⟩))
  go_ret
  obtain⟨m',ys,o,L3,k3,z3,e3,n3⟩:=o1.row;refine⟨_,rfl,o1.below.trans (b2.mono o1.below.size),?_⟩;exact FV (ahe (yh o b2)) L3 (k3.below b2) (λb i u hb h=>by have:=n3 b i u h;unfold cJ at this;rwa[ay hb] at this) pr.2
 |true=>
  obtain⟨q2,e⟩:=aW e;cases e;rw[bt] at q2;obtain⟨k,rfl⟩:∃k':Nat,k=k':=⟨k.toNat,by have:=ny q2.1;simp at this;omega⟩;have hk:k<n:=by have:=fb q2.2;simpa using this
  refine⟨⟨rfl,rfl⟩,λ{m w y} hm L=>?_⟩;obtain⟨a,c,xs,rfl,L2,h1,h2,h3,hcp⟩:=FU hr L hl;obtain⟨pr,lr⟩:=Bk HO hm L2 hcp.1 ho
  go_enter Tryz.func397,Tryz.ntmps397
  have n5:IntKind.i64.wrap ((k:Int)+1)=(k:Int)+1:=by rw[IntKind.wrap_i64];omega
  go_wp2_with (first|(go_at_call 371;refine(Fl HO hm L2 hcp.1 ho h1 h2 h3 (by rw[<-L2.len];exact hl) hn (L2.nU hcp.2)).mono ?_;rintro e w1 ⟨v,rfl,o1⟩;obtain⟨p,cp,rfl,hcp⟩:=(show∃p cp,v=.slice p n cp/\n<=cp from by obtain⟨_,_,o,_⟩:=o1.row;exact ownsRow_form o))|(go_at_call 266;refine(hat (λ_ _ _ h=>h) (o1.shown pr.2)).mono ?_;rintro e w2 ⟨rfl,b2⟩)|(go_at_call 454;obtain⟨m',ys,o,L3,k3,z3,e3,n3⟩:=o1.row;refine(aaW (yh o b2) (L3.nU pr.2) hk hn).mono ?_;rintro e w3 ⟨v',rfl,R,G⟩))
  go_ret
  refine⟨_,rfl,?_,FV R (bD.join (L3.take _) ((L3.drop _).take _)) ((k3.below b2).grown G z3) (λb i u hb h=>by have:=n3 b i u h;unfold cJ at this;rwa[ay hb] at this) (yc _ _ (Mh pr.2 _) (Mh (Vq pr.2 _) _))⟩;exact(o1.below.trans (b2.mono o1.below.size)).grown G (o1.below.trans (b2.mono o1.below.size)).size λq e=>Fm o e
end
section
open Go.Shelf Go.RowKit Go.Lib
theorem aa6{O:pc}{A:qQ}(HO:cQ Tryz.prog 267 [nF] nF O)(HA:cQ Tryz.prog 266 [.v,.i .i64] (.aH [.i .i64,.b]) A):cQ Tryz.prog 397 [.v,.i .i64] .v (xA O A):=by
 refine .mk λls r e hl us hu=>?_;obtain⟨x,r1,us1,h1,h2,rfl⟩:=gJ hu;obtain⟨y,r2,us2,h3,h4,rfl⟩:=gJ h2;obtain⟨rfl,rfl⟩:=nK h4;obtain rfl:=kY h1;obtain⟨t,rfl,rfl⟩:=tI h3;replace e:xA O A x t=some r:=e;have px:=hl x (by simp);obtain⟨p1,W⟩:=aa7 HO HA e px;refine⟨λz hz=>?_,r,rfl,λm args' w hm A=>?_⟩
 ·have hz:bq.v z∈[bq.v r]:=hz;rw[bq.v.inj (nt.1 hz)];exact p1.2
 ·obtain⟨al⟩:=args';replace A:bD m _ al:=A;obtain⟨_,_,rfl,a0,A⟩:=PW.inv A;obtain⟨_,_,rfl,a1,A⟩:=PW.inv A;obtain rfl:=A.dY;cases a1;exact W hm a0
theorem QM{w w1:Hx}{T:TypeId}{c0 c1 c2 c3:Qu}(b:RowKit.Below (w.alloc (.cells #[c0,c1,c2,c3] T)).heap.size (w.alloc (.cells #[c0,c1,c2,c3] T)) w1):
 w1.cell? ⟨w.heap.size,0,none⟩=some c0/\w1.cell? ⟨w.heap.size,1,none⟩=some c1/\w1.cell? ⟨w.heap.size,2,none⟩=some c2/\w1.cell? ⟨w.heap.size,3,none⟩=some c3/\w1.heap[w.heap.size]? =some (.cells #[c0,c1,c2,c3] T (0,0)):=by
 have h:w1.heap[w.heap.size]? =some (.cells #[c0,c1,c2,c3] T (0,0)):=(b.block _ (by simp)).trans (World.alloc_heap_new w _);refine⟨?_,?_,?_,?_,h⟩<;>(unfold World.cell?;simp[h])
theorem YW{m':Nat->Nat->Zh Qu}{wr:Hx}{B:Nat}{v:Qu}{n:Nat}{cs ys:H1 Qu}(o:wr.ownsRow B 136 4 v n ys)(L:bD m' cs ys)(k:Kn m' wr)(ho:aZ cs=true):aK (λb i=>fJ wr b i) (ae n cs) v:=by
 obtain⟨hl,⟨rfl,rfl⟩|⟨g,cp,cur,rfl,h1,h2,h3,h4,h5,h6⟩⟩:=o
 ·have:cs=[]:=kC (by rw[L.len];omega);subst this;exact .fW
 ·refine .row (L.mono λb i u hu=>k b i u hu) (λi y hy=>?_) rfl h3 ho;rw[sq h2,fI];rw[<-h6,o6] at hy;split at hy
  ·simpa using hy
  ·cases hy
theorem ahd{w w':Hx}{B n b:Nat}{v:Qu}{xs cs:H1 Qu}{T:TypeId}(h:w.ownsRow B 136 4 v n xs)(s:oD b ⟨cs⟩ T (0,0) w w')(hb:b<B):w'.ownsRow B 136 4 v n xs:=by
 obtain⟨hl,h|⟨g,cp,cur,h0,h1,h2,h3⟩⟩:=h
 ·exact⟨hl,.inl h⟩
 ·exact⟨hl,.inr ⟨g,cp,cur,h0,h1,(s.block g (by omega)).trans h2,h3⟩⟩
theorem XT{m m':Nat->Nat->Zh Qu}{w w1 w2 w3:Hx}{v vd z':Qu}{n:Nat}{res ys:H1 Qu}{X:Obj}{T:TypeId}{cs:H1 Qu}(hm:Kn m w)(fZ:RowKit.Below (w.alloc X).heap.size (w.alloc X) w1)(o:w1.ownsRow (w.alloc X).heap.size 136 4 v n ys)(L3:bD m' res ys)(k3:Kn m' w1)(z3:∀q,v.ownBlock=some q->∀i,m' q i=none)
 (n3:∀b i u,m' b i=some u->cJ m (w.alloc X) w1 b i=some u) (b2:RowKit.Below w1.heap.size w1 w2) (lz:aK (cJ m' w1 w2) vd z') (s5:oD w.heap.size ⟨cs⟩ T (0,0) w2 w3):
 ∃m2,w3.ownsRow (w.alloc X).heap.size 136 4 v n ys/\bD m2 res ys/\aK m2 vd z'/\Kn m2 w3/\(∀q,v.ownBlock=some q->∀i,m2 q i=none)/\(∀b i u,b<w.heap.size->m2 b i=some u->m b i=some u)/\RowKit.Below w.heap.size w w3:=by
 have hs:(w.alloc X).heap.size=w.heap.size+1:=by simp
 have lo:∀b i u,b<(w.alloc X).heap.size->m' b i=some u->m b i=some u:=λb i u hb h=>by have:=n3 b i u h;unfold cJ at this;rwa[ay hb] at this
 have hbx:∀i,cJ m' w1 w2 w.heap.size i=none:=λi=>by
  unfold cJ;rw[ay (by have:=fZ.size;omega)];cases h:m' w.heap.size i with
  |none=>rfl
  |some u=>have:=mq (hm _ _ _ (lo _ _ _ (by omega) h));omega
 have kn:=k3.new b2;refine⟨cJ m' w1 w2,ahd (yh o b2) s5 (by omega),L3.mono k3.mono,lz,λb i u hu=>?_,λq hq i=>?_,λb i u hb h=>?_,?_⟩
 ·exact(q9 (s5.block b λe=>by rw[e,hbx] at hu;cases hu)).trans (kn b i u hu)
 ·have:=z3 q hq i;unfold cJ;rw[ay (o.lt q hq).2];exact this
 ·unfold cJ at h;rw[ay (by have:=fZ.size;omega)] at h;exact lo _ _ _ (by omega) h
 ·have c:RowKit.Below w.heap.size w (w.alloc X):=(fq _ w).alloc (aM _) _;exact c.trans ((fZ.mono (by omega)).trans ((b2.mono (by have:=fZ.size;omega)).trans ⟨s5.os,s5.tape,s5.output,ta s5.size.symm,λk hk=>s5.block k (by omega)⟩))
theorem DD{w:Hx}{g:Nat}{T:TypeId}{c0 c1 c2 c3:Qu}(h:w.heap[g]? =some (.cells ⟨[c0,c1,c2,c3]⟩ T (0,0))):w.cell? ⟨g,0,none⟩=some c0/\w.cell? ⟨g,1,none⟩=some c1/\w.cell? ⟨g,2,none⟩=some c2/\w.cell? ⟨g,3,none⟩=some c3:=by refine⟨?_,?_,?_,?_⟩<;>(unfold World.cell?;simp[h])
theorem tq.mono{w:Hx}{B B':Nat}{v:Qu}{n:Nat}{cs:H1 Qu}(h:tq w B v n cs)(hB:B'<=B):tq w B' v n cs:=by
 rcases h with h|⟨g,cp,cur,h0,h1,h2,h3⟩
 ·exact .inl h
 ·exact .inr ⟨g,cp,cur,h0,h1,fE hB h2,h3⟩
theorem Vo{m:Nat->Nat->Zh Qu}{x y:Qu}(h:aK m x y)(o:y.oneCell'=true):aZ [x]=true:=by cases h<;>first|rfl|cases o
theorem Vs{res:H1 Qu}{t va vb:Int}{vd:Qu}(ho:aZ res=true)(hv:aZ [vd]=true)(i j:Nat):aZ (res.take i++([.int .i64 t,.int .i64 va,.int .i64 vb,vd]++res.drop j))=true:=
 yc _ _ (Mh ho _) (yc _ _ (yc [.int .i64 t,.int .i64 va,.int .i64 vb] [vd] rfl hv) (Vq ho _))
theorem aja{m m2:Nat->Nat->Zh Qu}{w w3 w4:Hx}{B n k:Nat}{v vd z':Qu}{res ys:H1 Qu}{t va vb:Int}(r1:w3.ownsRow B 136 4 v n ys)(hB:B=w.heap.size+1)(r2:bD m2 res ys)(r3:aK m2 vd z')(r4:Kn m2 w3)(r5:∀q,v.ownBlock=some q->∀i,m2 q i=none)(r6:∀b i u,b<w.heap.size->m2 b i=some u->m b i=some u)(r7:RowKit.Below w.heap.size w w3)(b4:RowKit.Below w3.heap.size w3 w4)(ho:aZ res=true)(hz:z'.oneCell'=true)(hn:n<1000000000)(hk:k<=n)(h3:B<=w3.heap.size):
 Calls Tryz.prog 372 #[v,.int .i64 k,.slice (some ⟨w4.heap.size,0,none⟩) 1 1] (w4.alloc (.cells #[.int .i64 t,.int .i64 va,.int .i64 vb,z'] 136)) λe w'=>∃v',e=.returned v'/\RowKit.Below w.heap.size w w'/\aK (cJ m w w') (ae (n+1) (res.take (k*4)++([.int .i64 t,.int .i64 va,.int .i64 vb,vd]++res.drop (k*4)))) v':=by
 have c:RowKit.Below w4.heap.size w4 (w4.alloc (.cells #[.int .i64 t,.int .i64 va,.int .i64 vb,z'] 136)):=(fq _ w4).alloc (aM _) _;have o4:=yh r1 b4;have h4:=b4.size;have hz':(w4.alloc (.cells #[.int .i64 t,.int .i64 va,.int .i64 vb,z'] 136)).heap.size=w4.heap.size+1:=by simp
 refine(acj (B:=B) (X:=[.int .i64 t,.int .i64 va,.int .i64 vb,z']) (yh o4 c) (r2.nU ho) (by omega) hn hk rfl (λv h=>?_) (World.alloc_heap_new w4 _) λe=>?_).mono ?_
 ·simp only[cX,nu,nA] at h;rcases h with rfl|rfl|rfl|rfl
  ·rfl
  ·rfl
  ·rfl
  ·exact hz
 ·have:=(o4.lt _ e).2;omega
 ·rintro e w' ⟨v',rfl,R,G⟩
  have k5:=(r4.below b4).below c;have bw:RowKit.Below w.heap.size w (w4.alloc (.cells #[.int .i64 t,.int .i64 va,.int .i64 vb,z'] 136)):=r7.trans ((b4.mono (by omega)).trans (c.mono (by omega)));refine⟨v',rfl,bw.grown G bw.size λq e=>?_,FV (tq.mono R (by omega)) (bD.join (r2.take _) (bD.join (PW.cons (.int _ _) (.cons (.int _ _) (.cons (.int _ _) (.cons r3 .nil)))) (r2.drop _))) (k5.grown G r5) r6 (Vs ho (Vo r3 hz) _ _)⟩;have:=Fm r1 e;omega
theorem al6{w:Hx}{g o:Nat}{cur:Array Qu}{t:TypeId}(h:w.heap[g]? =some (.cells cur t (0,0)))(hl:o+4<=cur.size)(c a b:Int){z:Qu}(hz:z.oneCell'=true):
 (∃v,w.cell? ⟨g,o,none⟩=some v)/\(∀k,w.frozen? ⟨g,k,none⟩=false)/\(∃v,(w.setCell ⟨g,o,none⟩ (.int .i64 c)).cell? ⟨g,o+1,none⟩=some v)/\(∃v,((w.setCell ⟨g,o,none⟩ (.int .i64 c)).setCell ⟨g,o+1,none⟩ (.int .i64 a)).cell? ⟨g,o+2,none⟩=some v)/\
 ∃w',(store ⟨g,o+3,none⟩ z).run Tryz.prog (((w.setCell ⟨g,o,none⟩ (.int .i64 c)).setCell ⟨g,o+1,none⟩ (.int .i64 a)).setCell ⟨g,o+2,none⟩ (.int .i64 b))=.ok () w'/\oD g ⟨(((cur.toList.set o (.int .i64 c)).set (o+1) (.int .i64 a)).set (o+2) (.int .i64 b)).set (o+3) z⟩ t (0,0) w w':=by
 have q0:=IT (k:=o) h (.int .i64 c);obtain⟨⟨v1,s1⟩,_,_,⟨v2,s2⟩,w',s3,s4⟩:=Ix q0.at_ (o:=o) (by show _<=(cur.toList.set _ _).length;simpa using hl) a b hz;refine⟨⟨cur[o],?_⟩,λk=>?_,⟨v1,s1⟩,⟨v2,s2⟩,w',s3,⟨s4.os.trans q0.os,s4.tape.trans q0.tape,s4.output.trans q0.output,s4.size.trans q0.size,λk hk=>(s4.block k hk).trans (q0.block k hk),s4.at_⟩⟩
 ·unfold World.cell?;simp[h]
 ·unfold World.frozen?;simp[h]
theorem ajd{m m2:Nat->Nat->Zh Qu}{w w3 w4:Hx}{B n k cp:Nat}{p:Zh Addr}{vd z':Qu}{res ys:H1 Qu}{t va vb:Int}(r1:w3.ownsRow B 136 4 (.slice p n cp) n ys)(hB:B=w.heap.size+1)(r2:bD m2 res ys)(r3:aK m2 vd z')(r4:Kn m2 w3)(r5:∀q,(Value.slice p n cp).ownBlock=some q->∀i,m2 q i=none)(r6:∀b i u,b<w.heap.size->m2 b i=some u->m b i=some u)(r7:RowKit.Below w.heap.size w w3)(b4:RowKit.Below w3.heap.size w3 w4)(ho:aZ res=true)(hz:z'.oneCell'=true)(hk:k<n)(h3:B<=w3.heap.size):
 ∃g,p=some ⟨g,0,none⟩/\(∃v,w4.cell? ⟨g,k*4,none⟩=some v)/\(∀k,w4.frozen? ⟨g,k,none⟩=false)/\(∃v,(w4.setCell ⟨g,k*4,none⟩ (.int .i64 t)).cell? ⟨g,k*4+1,none⟩=some v)/\(∃v,((w4.setCell ⟨g,k*4,none⟩ (.int .i64 t)).setCell ⟨g,k*4+1,none⟩ (.int .i64 va)).cell? ⟨g,k*4+2,none⟩=some v)/\
 ∃w',(store ⟨g,k*4+3,none⟩ z').run Tryz.prog (((w4.setCell ⟨g,k*4,none⟩ (.int .i64 t)).setCell ⟨g,k*4+1,none⟩ (.int .i64 va)).setCell ⟨g,k*4+2,none⟩ (.int .i64 vb))=.ok () w'/\RowKit.Below w.heap.size w w'/\aK (cJ m w w') (ae n (res.take (k*4)++([.int .i64 t,.int .i64 va,.int .i64 vb,vd]++res.drop ((k+1)*4)))) (.slice (some ⟨g,0,none⟩) n cp):=by
 obtain⟨hl,⟨_,h0⟩|⟨g,cp',cur,e,hg1,hg2,hg3,hg4,hg5,hg6⟩⟩:=yh r1 b4
 ·omega
 cases e;obtain⟨a1,a2,a3,a4,w5,a5,a6⟩:=al6 hg2 (o:=k*4) (by omega) t va vb hz;have g9:=r5 g rfl;have k4:=r4.below b4;have hs4:=b4.size;refine⟨g,rfl,a1,a2,a3,a4,w5,a5,r7.trans ((b4.mono (by omega)).trans ⟨a6.os,a6.tape,a6.output,ta a6.size.symm,λj hj=>a6.block j (by omega)⟩),?_⟩;refine FV (.inr ⟨g,cp,_,rfl,hg3,by omega,a6.at_,rfl⟩) ?_ (λb i u hu=>(q9 (a6.block b λe=>by rw[e,g9] at hu;cases hu)).trans (k4 b i u hu)) r6 (Vs ho (Vo r3 hz) _ _);have hT:((((cur.toList.set (k*4) (.int .i64 t)).set (k*4+1) (.int .i64 va)).set (k*4+2) (.int .i64 vb)).set (k*4+3) z').take (n*4)=ys.take (k*4)++([.int .i64 t,.int .i64 va,.int .i64 vb,z']++ys.drop ((k+1)*4)):=by
  rw[List.take_set,List.take_set,List.take_set,List.take_set,hg6];have e0:ys=ys.take (k*4)++ys.drop (k*4):=(kF _ _).symm;have e1:(ys.take (k*4)).length=k*4:=by rw[dk];omega
  have e2:(ys.drop (k*4)).length=(n -k)*4:=by rw[eu];omega
  have e3:ys.drop ((k+1)*4)=(ys.drop (k*4)).drop 4:=by rw[List.drop_drop];congr 1;omega
  rw[e3]
  conv=>lhs;rw[e0]
  generalize ys.take (k*4)=P at*;generalize ys.drop (k*4)=Q at*;have hd:∀j (u:Qu) (x:H1 Qu),(P++x).set (k*4+j) u=P++x.set j u:=λj u x=>by rw[List.set_append_right _ _ (by omega)];congr 2;omega
  rw[show(P++Q).set (k*4) (.int .i64 t)=P++Q.set 0 (.int .i64 t) from hd 0 _ _,hd,hd,hd]
  match Q,e2 with
  |x0::x1::x2::x3::Q,_=>rfl
  |[],h=>simp at h;omega
  |[_],h=>simp at h;omega
  |[_,_],h=>simp at h;omega
  |[_,_,_],h=>simp at h;omega
 show bD m2 _ (List.take (n*4) (List.set _ _ _));rw[hT];exact bD.join (r2.take _) (bD.join (PW.cons (.int _ _) (.cons (.int _ _) (.cons (.int _ _) (.cons r3 .nil)))) (r2.drop _))
noncomputable def yD(O:pc)(A:qQ)(x:Qu)(t a b:Int)(d:Qu):Zh Qu:=ob (rowOf x) λp=>cond (Nat.beq p.2.length (p.1 *4)&&Nat.blt p.1 1000000000&&aZ [d]) (ob (nV O p.2) λres=>ob (O a b d) λv=>ob (A (ae p.1 res) t) λq=>cond q.2
 (cond (decide (0<=q.1)&&Nat.blt q.1.toNat p.1) (some (ae p.1 (res.take (q.1.toNat*4)++([.int .i64 t,.int .i64 v.1,.int .i64 v.2.1,v.2.2]++res.drop ((q.1.toNat+1)*4))))) none)
 (cond (decide (0<=q.1)&&Nat.ble q.1.toNat p.1) (some (ae (p.1 +1) (res.take (q.1.toNat*4)++([.int .i64 t,.int .i64 v.1,.int .i64 v.2.1,v.2.2]++res.drop (q.1.toNat*4))))) none)) none
theorem aje{O:pc}{A:qQ}(HO:cQ Tryz.prog 267 [nF] nF O)(HA:cQ Tryz.prog 266 [.v,.i .i64] (.aH [.i .i64,.b]) A){x r d:Qu}{t a b:Int}(e:yD O A x t a b d=some r)(hx:gz x)(hd:gz d):
 (gz r/\aZ [r]=true)/\∀{m:Nat->Nat->Zh Qu}{w:Hx}{y z:Qu},Kn m w->aK m x y->aK m d z->Calls Tryz.prog 317 #[y,.agg #[.int .i64 t,.int .i64 a,.int .i64 b,z]] w λe w'=>∃v',e=.returned v'/\RowKit.Below w.heap.size w w'/\aK (cJ m w w') r v':=by
 have mixed:Tryz.prog.follows .mixedOrders=true:=by kernel_rfl
 unfold yD at e;replace e:=ax e;obtain⟨⟨n,cs⟩,hr,e⟩:=e;obtain⟨q,e⟩:=aW e;rw[bt,bt] at q;have hl:cs.length=n*4:=bT q.1.1;have hn:n<1000000000:=fb q.1.2;have od:=q.2;replace e:=ax e;obtain⟨res,ho,e⟩:=e;replace e:=ax e;obtain⟨⟨va,vb,vd⟩,hv,e⟩:=e;replace e:=ax e;obtain⟨⟨k,is⟩,ha,e⟩:=e;have hat:=@Ju _ _ _ HA _ _ _ ha ⟨rfl,rfl⟩;cases is with
 |false=>
  obtain⟨q2,e⟩:=aW e;cases e;rw[bt] at q2;obtain⟨k,rfl⟩:∃k':Nat,k=k':=⟨k.toNat,by have:=ny q2.1;simp at this;omega⟩;have hk:k<=n:=by have:=dW q2.2;simpa using this
  refine⟨⟨rfl,rfl⟩,λ{m w y z} hm L Lz=>?_⟩;obtain⟨s,c,xs,rfl,L2,h1,h2,h3,hcp⟩:=FU hr L hl;obtain⟨pr,lr⟩:=Bk HO hm L2 hcp.1 ho;obtain⟨pv,own⟩:=Fj HO hv ⟨hd,od⟩ hm Lz
  go_enter Tryz.func317,Tryz.ntmps317
  have hz1:z.oneCell'=true:=Lz.nU od;have b0:RowKit.Below w.heap.size w (w.alloc (.cells #[.int .i64 t,.int .i64 a,.int .i64 b,z] 136)):=(fq _ w).alloc (aM _) _
  go_wp2_with (first|(go_at_call 371;refine(Fl HO (w:=w.alloc (.cells #[.int .i64 t,.int .i64 a,.int .i64 b,z] 136)) (hm.below b0) L2 hcp.1 ho h1 h2 h3 (by rw[<-L2.len];exact hl) hn (L2.nU hcp.2)).mono ?_;rintro e w1 ⟨v,rfl,o1⟩;obtain⟨p,cp,rfl,hcp⟩:=(show∃p cp,v=.slice p n cp/\n<=cp from by obtain⟨_,_,o,_⟩:=o1.row;exact ownsRow_form o);obtain⟨bx0,bx1,bx2,bx3,bx⟩:=QM o1.below;obtain⟨m',ys,o,L3,k3,z3,e3,n3⟩:=o1.row)|(go_at_call 267;refine(own k3 (Lz.mono e3)).mono ?_;rintro e w2 ⟨z',rfl,b2,lz⟩;have hz2:z'.oneCell'=true:=aK.nU lz pv.2;have bl1:=(fw.1 bx).1;have hbx:=(b2.block _ bl1).trans bx;have by0:=(jl (a:=⟨w.heap.size,0,none⟩) (b2.block _ bl1)).trans bx0;obtain⟨⟨v1,s1⟩,⟨v2,s2⟩,sf,⟨v3,s3⟩,w3,s4,s5⟩:=Ix hbx (o:=0) (by simp) va vb hz2;simp only[fI] at s1 s2 s3 s4 s5;clear hbx;replace s5:oD w.heap.size ⟨[.int .i64 t,.int .i64 va,.int .i64 vb,z']⟩ 136 (0,0) w2 w3:=s5;obtain⟨f0,f1,f2,f3⟩:=DD s5.at_)|(go_at_call 266;obtain⟨m2,r1,r2,r3,r4,r5,r6,r7⟩:=XT hm o1.below o L3 k3 z3 n3 b2 lz s5;refine(hat (λ_ _ _ h=>h) (YW r1 r2 r4 pr.2)).mono ?_;rintro e w4 ⟨rfl,b4⟩;have hb4:=(b4.block _ (fw.1 s5.at_).1).trans s5.at_;obtain⟨g0,g1,g2,g3⟩:=DD hb4;clear hb4)|(go_at_call 372;refine(aja r1 (by simp) r2 r3 r4 r5 r6 r7 b4 pr.2 hz2 hn hk (by have:=o1.below.size;have:=b2.size;have:=s5.size;omega)).mono ?_;rintro e w5 ⟨v',rfl,b5,l5⟩))
  go_ret
  exact⟨_,rfl,b5,l5⟩
 |true=>
  obtain⟨q2,e⟩:=aW e;cases e;rw[bt] at q2;obtain⟨k,rfl⟩:∃k':Nat,k=k':=⟨k.toNat,by have:=ny q2.1;simp at this;omega⟩;have hk:k<n:=by have:=fb q2.2;simpa using this
  have hk':(k:Int)<(n:Int):=by omega
  refine⟨⟨rfl,rfl⟩,λ{m w y z} hm L Lz=>?_⟩;obtain⟨s,c,xs,rfl,L2,h1,h2,h3,hcp⟩:=FU hr L hl;obtain⟨pr,lr⟩:=Bk HO hm L2 hcp.1 ho;obtain⟨pv,own⟩:=Fj HO hv ⟨hd,od⟩ hm Lz
  go_enter Tryz.func317,Tryz.ntmps317
  have hz1:z.oneCell'=true:=Lz.nU od;have b0:RowKit.Below w.heap.size w (w.alloc (.cells #[.int .i64 t,.int .i64 a,.int .i64 b,z] 136)):=(fq _ w).alloc (aM _) _
  go_wp2_with (first|(go_at_call 371;refine(Fl HO (w:=w.alloc (.cells #[.int .i64 t,.int .i64 a,.int .i64 b,z] 136)) (hm.below b0) L2 hcp.1 ho h1 h2 h3 (by rw[<-L2.len];exact hl) hn (L2.nU hcp.2)).mono ?_;rintro e w1 ⟨v,rfl,o1⟩;obtain⟨p,cp,rfl,hcp⟩:=(show∃p cp,v=.slice p n cp/\n<=cp from by obtain⟨_,_,o,_⟩:=o1.row;exact ownsRow_form o);obtain⟨bx0,bx1,bx2,bx3,bx⟩:=QM o1.below;obtain⟨m',ys,o,L3,k3,z3,e3,n3⟩:=o1.row)|(go_at_call 267;refine(own k3 (Lz.mono e3)).mono ?_;rintro e w2 ⟨z',rfl,b2,lz⟩;have hz2:z'.oneCell'=true:=aK.nU lz pv.2;have bl1:=(fw.1 bx).1;have hbx:=(b2.block _ bl1).trans bx;have by0:=(jl (a:=⟨w.heap.size,0,none⟩) (b2.block _ bl1)).trans bx0;obtain⟨⟨v1,s1⟩,⟨v2,s2⟩,sf,⟨v3,s3⟩,w3,s4,s5⟩:=Ix hbx (o:=0) (by simp) va vb hz2;simp only[fI] at s1 s2 s3 s4 s5;clear hbx;replace s5:oD w.heap.size ⟨[.int .i64 t,.int .i64 va,.int .i64 vb,z']⟩ 136 (0,0) w2 w3:=s5;obtain⟨f0,f1,f2,f3⟩:=DD s5.at_)|(go_at_call 266;obtain⟨m2,r1,r2,r3,r4,r5,r6,r7⟩:=XT hm o1.below o L3 k3 z3 n3 b2 lz s5;refine(hat (λ_ _ _ h=>h) (YW r1 r2 r4 pr.2)).mono ?_;rintro e w4 ⟨rfl,b4⟩;have hb4:=(b4.block _ (fw.1 s5.at_).1).trans s5.at_;obtain⟨g0,g1,g2,g3⟩:=DD hb4;clear hb4;obtain⟨g,rfl,⟨x1,y1⟩,y2,⟨x3,y3⟩,⟨x4,y4⟩,w5,y5,b5,l5⟩:=ajd (t:=t) (va:=va) (vb:=vb) r1 (by simp) r2 r3 r4 r5 r6 r7 b4 pr.2 hz2 hk (by have:=o1.below.size;have:=b2.size;have:=s5.size;omega)))
  go_ret
  exact⟨_,rfl,b5,l5⟩
end
section
open Go.Shelf Go.RowKit Go.Lib
theorem ajb{O:pc}{A:qQ}(HO:cQ Tryz.prog 267 [nF] nF O)(HA:cQ Tryz.prog 266 [.v,.i .i64] (.aH [.i .i64,.b]) A):cQ Tryz.prog 317 [.v,.agg [.i .i64,.i .i64,.i .i64,.v]] .v (yD O A):=by
 refine .mk λls r e hl us hu=>?_;obtain⟨x,r1,us1,h1,h2,rfl⟩:=gJ hu;obtain⟨y,r2,us2,h3,h4,rfl⟩:=gJ h2;obtain⟨rfl,rfl⟩:=nK h4;obtain rfl:=kY h1;obtain⟨vs,h5,rfl⟩:=DW h3;obtain⟨y0,r3,us3,i0,h6,rfl⟩:=gJ h5;obtain⟨y1,r4,us4,i1,h7,rfl⟩:=gJ h6;obtain⟨y2,r5,us5,i2,h8,rfl⟩:=gJ h7;obtain⟨d,r6,us6,i3,h9,rfl⟩:=gJ h8;obtain⟨rfl,rfl⟩:=nK h9;obtain⟨t,rfl,rfl⟩:=tI i0;obtain⟨a,rfl,rfl⟩:=tI i1;obtain⟨b,rfl,rfl⟩:=tI i2;obtain rfl:=kY i3;replace e:yD O A x t a b d=some r:=e;have px:=hl x (by simp);have pd:=hl d (by simp);obtain⟨p1,W⟩:=aje HO HA e px pd;refine⟨λz hz=>?_,r,rfl,λm args' w hm A=>?_⟩
 ·have hz:bq.v z∈[bq.v r]:=hz;rw[bq.v.inj (nt.1 hz)];exact p1.2
 ·obtain⟨al⟩:=args';replace A:bD m _ al:=A;obtain⟨_,_,rfl,a0,A⟩:=PW.inv A;obtain⟨_,_,rfl,a1,A⟩:=PW.inv A;obtain rfl:=A.dY;cases a1 with
  |@agg _ xs' h0 h=>
  obtain⟨xl⟩:=xs';obtain⟨_,_,rfl,j0,T0⟩:=PW.inv (show bD m [.int .i64 t,.int .i64 a,.int .i64 b,d] xl from⟨h0,h⟩);cases j0;obtain⟨_,_,rfl,j1,T1⟩:=PW.inv T0;cases j1;obtain⟨_,_,rfl,j2,T2⟩:=PW.inv T1;cases j2;obtain⟨_,_,rfl,j3,T3⟩:=PW.inv T2;obtain rfl:=T3.dY;exact W hm a0 j3
end
end Lt
end Go.Proofs.YtcfjfbeadhnknaaGreatDoor

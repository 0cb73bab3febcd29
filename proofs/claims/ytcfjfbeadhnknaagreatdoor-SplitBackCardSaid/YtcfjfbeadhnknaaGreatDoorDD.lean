import Derived.Sort.AssemblyPlain
import Derived.BigFrameIn
import Derived.Laws.EntriesVeiled
import Derived.Shelf.Spec.SlicesInsert
import Derived.Test.YtcfjfbeadhnknaaGreatDoorDShelf
import Derived.Test.YtcfjfbeadhnknaaGreatDoorDC
namespace Go.Proofs.YtcfjfbeadhnknaaGreatDoor
set_option linter.unusedVariables false
set_option linter.unusedSimpArgs false
set_option linter.unusedSectionVars false
set_option linter.constructorNameAsVariable false
set_option maxRecDepth 100000
set_option maxHeartbeats 8000000
namespace Lt
theorem kX{ls r:qr bt}{pv:H1}(e:kb .v ls=some (pv,r)):ls=.v pv::r:=by
 cases ls with
 |nil=>cases e
 |cons l ls=>cases l<;>first|(cases e;rfl)|cases e
theorem tC{k:IntKind}{ls r:qr bt}{pv:H1}(e:kb (.i k) ls=some (pv,r)):∃n,ls=.i n::r/\pv=.int k n:=by
 cases ls with
 |nil=>cases e
 |cons l ls=>cases l<;>first|(cases e;exact⟨_,rfl,rfl⟩)|cases e
theorem gM{t:VT}{ts:qr VT}{ls r:qr bt}{us:qr H1}(e:fV (t::ts) ls=some (us,r)):∃pv r1 us',kb t ls=some (pv,r1)/\fV ts r1=some (us',r)/\us=pv::us':=by unfold fV at e;replace e:=ax e;obtain⟨⟨a,b⟩,h1,e⟩:=e;replace e:=ax e;obtain⟨⟨c,d⟩,h2,e⟩:=e;cases e;exact⟨a,b,c,h1,h2,rfl⟩
theorem nF{ls r:qr bt}{us:qr H1}(e:fV [] ls=some (us,r)):us=[]/\ls=r:=by unfold fV at e;cases e;exact⟨rfl,rfl⟩
noncomputable def Cu(w:Nat):H1->Int->Hx Int:=λx c=>jY x λxs=>cond xs.isEmpty none (some (Lib.indexByte (Lib.bytesOf xs) c.toNat.toUInt8))
theorem afy(w:Nat):cS Tryz.prog 369 [.v,.i .u8] (.i .i64) (Cu w):=by
 refine .mk λls r e hl us hu=>?_;obtain⟨x,r1,us1,h1,h2,rfl⟩:=gM hu;obtain⟨y,r2,us2,h3,h4,rfl⟩:=gM h2;obtain⟨rfl,rfl⟩:=nF h4;obtain rfl:=kX h1;obtain⟨c,rfl,rfl⟩:=tC h3;replace e:Cu w x c=some r:=e;refine⟨λz hz=>by simp[gS,VT.ks,wQ] at hz,.int .i64 r,rfl,λm args' w hm A=>?_⟩;obtain⟨l⟩:=args';replace A:bI m _ l:=A;obtain⟨_,_,rfl,a0,A⟩:=A.inv;obtain⟨_,_,rfl,a1,A⟩:=A.inv;obtain rfl:=A.ee;cases a1;obtain⟨xs,h5,⟨a,cp,rfl,_,hc⟩|⟨rfl,cp,rfl⟩⟩:=xq hm e a0
 ·replace h5:cond xs.isEmpty none (some (Lib.indexByte (Lib.bytesOf xs) c.toNat.toUInt8))=some r:=h5;cases he:xs.isEmpty with
  |true=>rw[he] at h5;cases h5
  |false=>
  rw[he] at h5;cases h5;refine(Tryz.bytes_IndexByte_at a xs.length cp xs c w rfl hc).mono ?_
  rintro e w' ⟨rfl,rfl⟩
  exact⟨_,rfl,ft _ _,.int _ _⟩
 ·cases h5
end Lt
section
open Go.Shelf Go.RowKit Go.Lib Go.Sort
abbrev E4:=Int×Int×Int×Int
def fM(x:E4):qr H1:=[.int .i64 x.1,.int .i64 x.2.1,.int .i64 x.2.2.1,.int .i64 x.2.2.2]
def qh(x y:E4):Int:=Lib.compareInt x.1 y.1
theorem Z8(x y:E4)(W:jp):Calls Tryz.prog 333 #[.agg #[.int .i64 x.1,.int .i64 x.2.1,.int .i64 x.2.2.1,.int .i64 x.2.2.2],.agg #[.int .i64 y.1,.int .i64 y.2.1,.int .i64 y.2.2.1,.int .i64 y.2.2.2]] W λe w'=>e=.returned (.int .i64 (Lib.compareInt x.1 y.1))/\∃q os',w'=grow (W.drewN q) os':=by
 have hcon:=λW'=>AnyG.cmp_Compare_int Tryz.Z9 x.1 y.1 W';change∀W',Calls Tryz.prog 293 _ _ _ at hcon;generalize Lib.compareInt x.1 y.1 =r at hcon⊢
 go_enter Tryz.func333,Tryz.ntmps333
 go_wp2_with (go_at_call 293;refine(hcon _).mono ?_;rintro e w' ⟨rfl,rfl⟩)
 go_ret
 exact⟨rfl,0,_,by rw[alloc_eq_grow,alloc_eq_grow,grow_grow];rfl⟩
theorem EA(x y:E4):ltOf qh x y=decide (x.1 <y.1):=by
 unfold ltOf qh Lib.compareInt;by_cases h1:x.1 <y.1
 ·simp[h1]
 ·by_cases h2:y.1 <x.1 <;>simp[h1,h2]
theorem YP:SWO (ltOf qh) where
 irrefl x:=by rw[EA];simp
 trans x y z h1 h2:=by rw[EA] at*;simp at*;omega
 ntrans x y z h1 h2:=by rw[EA] at*;simp at*;omega
def wP:qr H1->Hx (qr E4)
 |[]=>some []
 | .int .i64 a::.int .i64 b::.int .i64 c::.int .i64 d::l=>Lt.ob (wP l) λxs=>some ((a,b,c,d)::xs)
 |_=>none
theorem Zb:∀{l:qr H1}{xs:qr E4},wP l=some xs->l=xs.flatMap fM
 |[],_,e=>by cases e;rfl
 |v::l,xs,e=>by
  unfold wP at e;split at e
  ·rename_i q;cases q
  ·rename_i a b c d l' q;cases q;replace e:=Lt.ax e;obtain⟨ys,h1,e⟩:=e;cases e;rw[dN,<-Zb h1];rfl
  ·cases e
theorem Az:∀l:qr E4,(l.flatMap fM).length=4*l.length
 |[]=>rfl
 |x::l=>by rw[dN,aT,Az l,bW];show 4+_=_;omega
theorem Kr:∀(l:qr E4)(t:Nat),t<l.length*4->(l.flatMap fM)[t]? =some (fM (l[t/4]!))[t%4]!
 |[],t,h=>by simp at h
 |x::l,t,h=>by
  rw[dN];by_cases q:t<4
  ·rw[wT (by exact q),Nat.div_eq_of_lt q,qH q];rw[cG (by exact q)];show some _=some (fM x)[t]!;rw[getElem!_pos _ t (by exact q)]
  ·have q:4<=t:=by omega
   rw[uL (by exact q)];show(l.flatMap fM)[t -4]? =_;rw[Kr l (t -4) (by simp at h;omega)];have e1:t/4=(t -4)/4+1:=by omega
   have e2:(t -4)%4=t%4:=by omega
   rw[e1,e2];simp
theorem aa4{l:qr E4}{v:H1}(h:v∈l.flatMap fM):∃n,v=.int .i64 n:=by obtain⟨x,_,hx⟩:=List.mem_flatMap.1 h;simp only[fM,cZ,nk,nr] at hx;rcases hx with rfl|rfl|rfl|rfl<;>exact⟨_,rfl⟩
noncomputable def kv(l:qr E4):qr E4:=(pdq (ltOf qh) l.toArray 0 l.length (Lib.bitLen l.length) true true).toList
theorem Yz(l:qr E4):(kv l).length=l.length/\(kv l).Perm l/\SortedIn (ltOf qh) 0 l.length (kv l).toArray:=by
 have:=pdq_sorts (ltOf qh) YP l.toArray 0 l.length (Lib.bitLen l.length) true true (ib _) (by simp) (.inl rfl);obtain⟨⟨h1,_,h3⟩,h4⟩:=this;have hl:(kv l).length=l.length:=by unfold kv;rw[Array.length_toList,h1];simp
 refine⟨hl,?_,by unfold kv;simpa using h4⟩;have e1:((pdq (ltOf qh) l.toArray 0 l.length (Lib.bitLen l.length) true true).extract 0 l.length)=pdq (ltOf qh) l.toArray 0 l.length (Lib.bitLen l.length) true true:=by
  have:l.length=(pdq (ltOf qh) l.toArray 0 l.length (Lib.bitLen l.length) true true).size:=by rw[h1];simp
  conv=>lhs;arg 3;rw[this]
  simp
 rw[e1] at h3;have e2:(l.toArray.extract 0 l.length)=l.toArray:=by
  have:l.length=l.toArray.size:=by simp
  rw[this];exact Array.extract_size
 rw[e2] at h3;unfold kv;simpa using h3
end
section
open Go.Shelf Go.RowKit Go.Lib Go.Sort
theorem alr(w:jp)(blk off n:Nat)(d:Array E4)(os:Array Obj):
 (sortWorldK fM 4 w blk off n d os).os=w.os/\(sortWorldK fM 4 w blk off n d os).tape=w.tape/\(sortWorldK fM 4 w blk off n d os).output=w.output/\w.heap.size<=(sortWorldK fM 4 w blk off n d os).heap.size/\
 (∀b,b<w.heap.size->b≠blk->(sortWorldK fM 4 w blk off n d os).heap[b]? =w.heap[b]?)/\
 ∀cz t fz,w.heap[blk]? =some (.cells cz t fz)->(sortWorldK fM 4 w blk off n d os).heap[blk]? =some (.cells (putCells id off (flatK fM 4 d) cz) t fz):=by
 refine⟨rfl,rfl,rfl,?_,λb hb cL=>?_,λcz t fz h=>?_⟩
 ·show w.heap.size<=(w.heap.modify blk _++os).size;simp
 ·show(w.heap.modify blk _++os)[b]? =_;rw[Array.getElem?_append_left (by simpa using hb),Array.getElem?_modify,aq (Ne.symm cL)]
 ·have hb:blk<w.heap.size:=by
   rcases ia blk w.heap.size with q|q
   ·exact q
   ·rw[Array.getElem?_eq_none q] at h;cases h
  show(w.heap.modify blk (onCells (putCells id off (flatK fM 4 d)))++os)[blk]? =_;rw[Array.getElem?_append_left (by simpa using hb),Array.getElem?_modify,ay rfl,h];rfl
theorem RQ(l:qr E4)(t:Nat)(h:t<l.length*4):(flatK fM 4 l.toArray)[t]! =(fM l[t/4]!)[t%4]! :=by rw[get_flatK _ _ _ _ (by simpa using h)];simp
namespace Lt
def alq:HT:=⟨2,⟨[(0,.gr 0 4),(1,.fn 333 [])],[(0,.grow 4 385)],1⟩,1,⟨[(0,.aG [])],[(0,.grow 4 385)],1⟩⟩
noncomputable def uu(w:Nat):qr H1->Hx (qr H1):=λcs=>ob (wP cs) λl=>cond (l.isEmpty||!aH l.length) none (some ((kv l).flatMap fM))
theorem acA{β:Type}{f:Fn [.c] (Hx β)}{ls:qr bt}{r:β}(e:iM [.c] f ls=some r):∃cs,ls=[.c cs]:=by
 match ls,e with
 |[.c cs],_=>exact⟨cs,rfl⟩
 |[],e=>cases e
 | .i _::_,e=>cases e
 | .b _::_,e=>cases e
 | .s _::_,e=>cases e
 | .v _::_,e=>cases e
 | .n _::_,e=>cases e
 | .c _::_::_,e=>cases e
theorem abX{m:Nat->Nat->Hx H1}{c ws:qr H1}(h:PW (aN m) c ws)(hi:∀v∈c,∃n,v=.int .i64 n):ws=c:=by
 apply rH;intro i;cases hc:c[i]? with
 |none=>rw[List.getElem?_eq_none_iff] at hc;rw[kQ (by rw[<-h.1];exact hc)]
 |some u=>obtain⟨v,a,b⟩:=h.get hc;obtain⟨q,rfl⟩:=hi u (nZ hc);cases b;exact a
theorem abW{m:Nat->Nat->Hx H1}{c:qr H1}(hi:∀v∈c,∃n,v=.int .i64 n):PW (aN m) c c:=⟨rfl,λi x y a b=>by rw[a] at b;cases b;obtain⟨q,rfl⟩:=hi x (nZ a);exact .int _ _⟩
theorem afn(w:Nat):nt Tryz.prog 332 alq (uu w):=by
 intro ls r st so e hst hso B σ w1 args' hn _ R M;obtain⟨cs,rfl⟩:=acA e;replace e:uu w cs=some r:=e;cases hst;cases hso;unfold uu at e;replace e:=ax e;obtain⟨l,hl,e⟩:=e;have hcs:=Zb hl;cases he:(l.isEmpty||!aH l.length) with
 |true=>rw[he] at e;cases e
 |false=>
 rw[he] at e;cases e;rw[Bool.or_eq_false_iff] at he;have hpos:0<l.length:=by cases l<;>simp_all
 have hlim:l.length<4611686018427387904:=by
  have:=he.2;unfold aH at this;have:Nat.ble l.length 1000000000=true:=by simpa using this
  have:=ed this;omega
 have hclen:cs.length=4*l.length:=by rw[hcs,Az]
 obtain⟨sl,sp,ss⟩:=Yz l;have d0:=R 0 (.gr 0 4) rfl;have d1:=R 1 (.fn 333 []) rfl;obtain⟨al⟩:=args';obtain⟨v0,v1,rfl⟩:∃a b,al=[a,b]:=by
  match al,hn with
  |[a,b],_=>exact⟨a,b,rfl⟩
 replace d0:DV σ (.gr 0 4) v0:=d0;replace d1:DV σ (.fn 333 []) v1:=d1;have hv1:v1=.func (.func 333) #[] #[]:=by
  cases d1 with
  |fn g _=>have:=kP g.symm;subst this;rfl
 subst hv1;obtain⟨_,k2,k3⟩:=M.obj 0 (.grow 4 cs 385) rfl;rcases k3 with⟨_,g2⟩|⟨o,n,cz',g1,⟨fz,q1,q2⟩,g3,g4,g5,g6⟩
 ·rw[g2] at hclen;simp at hclen;omega
 have hn:n=l.length:=by omega
 subst hn;have isI:∀{l':qr E4},∀v∈l'.flatMap fM,∃n,v=.int .i64 n:=λv hv=>aa4 hv;have hws:=abX g6 (by rw[hcs];exact isI);obtain⟨cp,hcp,rfl⟩:∃c,c*4=o.2 /\v0=.slice (some ⟨o.1,0,none⟩) l.length c:=by
  cases d0 with
  |jP g=>rw[g1] at g;cases g
  |gr g hc _=>rw[g1] at g;cases g;exact⟨_,hc,rfl⟩
 have hblk:o.1 <w1.heap.size:=by
  rcases ia o.1 w1.heap.size with q|q
  ·exact q
  ·rw[Array.getElem?_eq_none q] at q1;cases q1
 have cellv:∀(i:Nat)(v:H1),(l.flatMap fM)[i]? =some v->cz'[i]? =some v:=by
  intro i v hv;rw[<-hcs,<-hws,pX] at hv;split at hv
  ·simpa using hv
  ·cases hv
 have hH:HoldsK fM 4 w1 o.1 0 l.toArray:=by
  intro j hj;have hj:j<l.length*4:=by simpa using hj
  have p:=cellv j _ (Kr l j hj);constructor
  ·rw[RQ l j hj];show w1.cell? ⟨o.1,0+j,none⟩=some _;rw[fU];unfold World.cell?;simp only[q1];exact p
  ·unfold World.frozen?;simp only[q1];have hb:j<cz'.size:=by
    rcases ia j cz'.size with z|z
    ·exact z
    ·rw[Array.getElem?_eq_none z] at p;cases p
   rcases q2 with rfl|q2
   ·simp
   ·simp;omega
 have eg:∀args w,(callFunc 333 args).run Tryz.prog w=.ok (.enter 333 args) w:=enters_of Tryz.func333 (by kernel_rfl) rfl;refine(AnyQ.slices_SortFunc_eq Tryz.alo 4 Tryz.isAgg385 Tryz.sizeOf385 fM (λ_=>rfl) (λx v hv=>by simp[fM] at hv;rcases hv with rfl|rfl|rfl|rfl<;>rfl) qh YP 333 #[] o.1 0 cp l.toArray w1 eg
  (λ_ _ _ _ x y=>Z8 x y _) hH hblk (by simpa using hlim)).mono ?_
 rintro x w' ⟨rfl,n',os,rfl⟩
 have hD:pdq (ltOf qh) l.toArray 0 l.toArray.size (Lib.bitLen l.toArray.size) true true=(kv l).toArray:=by unfold kv;simp
 rw[hD];obtain⟨s1,s2,s3,s4,s5,s6⟩:=alr w1 o.1 0 n' (kv l).toArray os;have hb':=s6 cz' _ fz q1;have hsz:(putCells id 0 (flatK fM 4 (kv l).toArray) cz').size=cz'.size:=by simp[putCells]
 have hrow:((putCells id 0 (flatK fM 4 (kv l).toArray) cz').toList.take ((kv l).flatMap fM).length)=(kv l).flatMap fM:=by
  apply rH;intro i;have hl2:((kv l).flatMap fM).length=4*l.length:=by rw[Az,sl]
  rw[pX];split
  ·rename_i hi;rw[Kr _ _ (by omega)];have hi2:i<cz'.size:=by omega
   unfold putCells;rw[mC,Array.getElem?_mapIdx,zH hi2,rJ,ay ⟨by omega,by simp;omega⟩];rw[Nat.sub_zero,RQ _ _ (by omega)];rfl
  ·rename_i hi;rw[kQ (by omega)]
 refine⟨σ,.tuple #[],rfl,λsv hsv=>?_,?_⟩
 ·have hsv:some (SV.aG [])=some sv:=hsv;cases hsv;exact .aG rfl λi x y h=>by simp at h
 ·refine(M.put (so':=.grow 4 ((kv l).flatMap fM) 385) (w':=sortWorldK fM 4 w1 o.1 0 n' (kv l).toArray os) rfl g1 ⟨s1,s2,s3,s4,λb hb ho=>s5 b hb ho⟩ ⟨by decide,iW.2 λx hx=>by obtain⟨q,rfl⟩:=isI x hx;rfl,.inr ⟨o,l.length,_,g1,⟨fz,hb',?_⟩,by rw[hsz];exact g3,by rw[Az,sl];omega,by rw[hsz,Az,sl];omega,by rw[hrow];exact abW isI⟩⟩).less (λi s h=>h) λ_ h=>h;unfold uS;rw[hsz];exact q2
end Lt
end
section
open Go.Shelf Go.RowKit Go.Lib Go.Sort
theorem Jz(T:TypeId)(R:Nat->Hx H1)(B b q:Nat)(bs:qr H1)(w:jp)(h:LibA.IsBuffer T R 5 B b q bs w):
 Calls Tryz.prog 120 #[.pointer (some ⟨b,q,none⟩)] w λe w'=>∃v,e=.returned v/\w'.ownsRow B 5 1 v bs.length bs/\∃n,w'=w.drewN n:=by
 have mixed:Tryz.prog.follows .mixedOrders=true:=by kernel_rfl
 obtain⟨hB,lr,hc⟩:=h.cases;rcases hc with⟨hnil,hbk⟩|⟨g,cap,cur,hbk,hBg,hg,hnc,hcm,hcs,htk,hgb⟩
 ·subst hnil;have c0:=hbk.c0;have c1:=hbk.c1
  go_enter Tryz.func120,Tryz.ntmps120
  go_wp2
  go_region_o
  all_goals(go_wp2;go_ret;exact⟨_,rfl,World.ownsRow_nil _ _ _ _,1,rfl⟩)
 ·have c0:=hbk.c0;have c1:=hbk.c1;have hcm':=hcm;unfold maxLen at hcm'
  go_enter Tryz.func120,Tryz.ntmps120
  go_wp2
  go_region_o
  all_goals(go_wp2;go_ret;exact⟨_,rfl,⟨by simp,.inr ⟨g,cap,cur,rfl,hBg,hg,hnc,hcm,by simpa using hcs,by simpa using htk⟩⟩,1,rfl⟩)
namespace Lt
theorem ac3{m:Nat->Nat->Hx H1}{w w1 w':jp}(hm:Kn m w)(B:RowKit.Below w.heap.size w w1):∀b i v,cO m w1 w' b i=some v->cO m w w' b i=some v:=λb i v hv=>by
 unfold cO at hv⊢;have:=B.size;by_cases h1:b<w.heap.size
 ·rw[ay (by omega)] at hv;rw[ay h1];exact hv
 ·by_cases h2:b<w1.heap.size
  ·rw[ay h2] at hv;exact absurd (mP (hm b i v hv)) h1
  ·rw[aq h2] at hv;rw[aq h1];exact hv
def bm(l:qr Int):qr H1:=l.map λx=>.int .u8 x
theorem JF(l:qr Int):bh (bm l)=true:=iW.2 λx hx=>by obtain⟨b,_,rfl⟩:=mF.1 hx;rfl
theorem Ez{m:Nat->Nat->Hx H1}:∀l:qr Int,bI m (bm l) (bm l)
 |[]=>.nil
 |_::l=>.cons (.int _ _) (Ez l)
theorem Vq{m:Nat->Nat->Hx H1}{w w':jp}{B:Nat}{e:TypeId}(hB0:w.heap.size<=B){l:qr H1}{v:H1}(h:w'.ownsRow B e 1 v l.length l)(hr:bI (cO m w w') l l)(ho:bh l=true):aN (cO m w w') (ae l.length l) v:=by
 obtain⟨_,⟨rfl,hn⟩|⟨g,cap,cur,rfl,hB,hg,hnc,_,hcs,htk⟩⟩:=h
 ·have:l=[]:=kP hn;subst this;exact .gy
 ·refine .lC (ys:=l) hr.1 hr.2 (λi y hy=>?_) rfl hnc ho;unfold cO;rw[aq (by show¬g<_;omega),tO hg];have:l[i]? =cur.toList[i]? :=by
   rw[<-htk,zJ];rcases ia i (l.length*1) with q|q
   ·exact q
   ·rw[kQ (by omega)] at hy;cases hy
  rw[this] at hy;simpa using hy
theorem Fh{m:Nat->Nat->Hx H1}{w w':jp}{B:Nat}(hB0:w.heap.size<=B){l:qr Int}{v:H1}(h:w'.ownsRow B 5 1 v l.length (bm l)):aN (cO m w w') (ae l.length (bm l)) v:=by have hl:(bm l).length=l.length:=cD ..;rw[<-hl] at h⊢;exact Vq hB0 h (Ez l) (JF l)
noncomputable def tQ(S:Int->H1->H1->Hx (H1×Int))(o:Int)(d s:H1):Hx (H1×Int):=
 ob (S o d s) λr=>cond (aj r.2 0) (jY r.1 λxs=>cond (aH xs.length) (cond (Nat.blt 65533 (4+xs.length)) (some (ae 0 [],7)) (cond xs.isEmpty none (some (ae (4+xs.length) (bm ([77,80,70,0]++xs)),0)))) none) (some (ae 0 [],r.2))
theorem acP{m:Nat->Nat->Hx H1}{w:jp}(hm:Kn m w){S:Int->H1->H1->Hx (H1×Int)}{o:Int}{d s dv sv:H1}{r:H1×Int}(e:tQ S o d s=some r)(q:H1×Int)(hq:S o d s=some q)
 (HC:∀w1,RowKit.Below w.heap.size w w1->Calls Tryz.prog 182 #[.agg #[.int .i64 o,dv],sv] w1 λe w'=>∃b,e=.returned (.tuple #[b,.int .i64 q.2])/\RowKit.Below w1.heap.size w1 w'/\aN (cO m w w') q.1 b):
 Calls Tryz.prog 166 #[.agg #[.int .i64 o,dv],sv] w λe w'=>∃b,e=.returned (.tuple #[b,.int .i64 r.2])/\RowKit.Below w.heap.size w w'/\aN (cO m w w') r.1 b:=by
 unfold tQ at e;rw[hq] at e;obtain⟨b0,c⟩:=q;replace e:cond (aj c 0) (jY b0 λxs=>cond (aH xs.length) (cond (Nat.blt 65533 (4+xs.length)) (some (ae 0 [],7)) (cond xs.isEmpty none (some (ae (4+xs.length) (bm ([77,80,70,0]++xs)),0)))) none) (some (ae 0 [],c))=some r:=e;have HE:=Lib.hid e;clear e hq
 go_enter Tryz.func166,Tryz.ntmps166
 go_wp2_with fail
 refine(HC _ ((ft _ _).alloc (aM _) _)).mono ?_
 rintro e2 w2 ⟨b,rfl,hb,hl⟩
 have HB:=Lib.hid hb;have HL:=Lib.hid hl;clear hb hl;by_cases hz:c=0
 case neg=>
  have hr:r=(ae 0 [],c):=by
   have:=HE.out;have h1:aj c 0=false:=by
    cases hb:aj c 0 with
    |false=>rfl
    |true=>exfalso;apply hz;cases c<;>first|exact bY _ (bX hb)|cases hb
   rw[h1] at this;exact(jH this).symm
  have HR:=Lib.hid hr;have BB:RowKit.Below w.heap.size w w2:=((ft _ _).alloc (aM _) _).trans (HB.out.mono (by simp));have HBB:=Lib.hid BB;clear hr BB
  go_wp2_with fail
  all_goals first
   |(exfalso;rename_i hq;simp at hq;omega)
   |(go_ret2
     rw[HR.out];exact⟨_,rfl,HBB.out,.gy⟩)
 subst hz;have e':=HE.out;have e'':jY b0 (λxs=>cond (aH xs.length) (cond (Nat.blt 65533 (4+xs.length)) (some (ae 0 [],7)) (cond xs.isEmpty none (some (ae (4+xs.length) (bm ([77,80,70,0]++xs)),0)))) none)=some r:=e';have BB:RowKit.Below w.heap.size w w2:=((ft _ _).alloc (aM _) _).trans (HB.out.mono (by simp));obtain⟨xs,hx,⟨a,cp,rfl,hcp,hcell⟩|⟨rfl,cp,rfl⟩⟩:=xq (hm.new BB) e'' HL.out
 case inr=>exfalso;replace hx:cond (Nat.blt 65533 4) (some (ae 0 [],(7:Int))) (none:Hx (H1×Int))=some r:=hx;cases hx
 clear e' e'';obtain⟨hroom,hx2⟩:=bd hx;clear hx;have hx:=hx2;clear hx2;have hsmall:xs.length<=1000000000:=ed hroom;have hw64:wrap64 (4+(xs.length:Int))=4+(xs.length:Int):=by unfold wrap64;omega
 clear hroom;have HX:=Lib.hid hx;have HC2:=Lib.hid hcell;have BB':=Lib.hid BB;clear hx hcell BB;have hbelow:0<xs.length->a.block<w2.heap.size:=λh0=>by have:=HC2.out 0 h0;rw[show a.add 0=a from rfl] at this;exact jb _ _ this
 by_cases hlong:65533<4+xs.length
 case pos=>
  have hr:r=(ae 0 [],7):=by have:=HX.out;rw[show Nat.blt 65533 (4+xs.length)=true from C6 hlong] at this;exact(jH this).symm
  have HR:=Lib.hid hr;clear hr hbelow
  go_wp2_with fail
  all_goals first
   |(exfalso;rename_i hq;simp at hq;omega)
   |(go_ret2
     rw[HR.out];exact⟨_,rfl,BB'.out,.gy⟩)
 have cL:xs≠[]:=by
  rintro rfl
  have:=HX.out;replace this:cond (Nat.blt 65533 4) (some (ae 0 [],(7:Int))) (none:Hx (H1×Int))=some r:=this;cases this
 have hr:r=(ae (4+xs.length) (bm ([77,80,70,0]++xs)),0):=by
  have:=HX.out;have h1:Nat.blt 65533 (4+xs.length)=false:=by
   cases hb:Nat.blt 65533 (4+xs.length) with
   |false=>rfl
   |true=>exact absurd (fb hb) hlong
  have h2:xs.isEmpty=false:=by cases xs<;>simp_all
  rw[h1,h2] at this;exact(jH this).symm
 have hpos:0<xs.length:=by cases xs<;>simp_all
 have HR:=Lib.hid hr;have HP:=Lib.hid hpos;have HBl:=Lib.hid (hbelow hpos);clear hr hpos hbelow cL
 go_wp2_with fail
 all_goals try(exfalso;rename_i hq;simp at hq;omega)
 have three:LibA.Three (w2.alloc (Obj.cells #[Value.slice none 0 0,Value.int IntKind.i64 0,Value.int IntKind.i8 0] 335)) w2.heap.size 0 335 (λ_=>none) (.slice none 0 0) (.int .i64 0) (.int .i8 0):=LibA.three_whole (heap_alloc_new w2 _);have buf:=LibA.zero_isBuffer (e:=5) (aM w2.heap.size) three;refine(Tryz.Buffer_WriteString_at 335 (λ_=>none) w2.heap.size w2.heap.size 0 [] _ _ buf (by simp) (λv hv=>by cases hv) (by decide)).mono ?_
 rintro e3 w3 ⟨rfl,hI,hb3,_⟩
 have HI:=Lib.hid hI;have HB3:=Lib.hid hb3;clear hI hb3 three buf
 go_wp2_with fail
 have hsrc:∀j v,(bm xs)[j]? =some v->w3.cell? (a.add j)=some v:=by
  intro j v hv;have hj:j<xs.length:=by
   rcases ia j xs.length with q|q
   ·exact q
   ·rw[kQ (by simp[bm];omega)] at hv;cases hv
  have:=HC2.out j hj;have hv2:v=.int .u8 (xs.getD j 0):=by unfold bm at hv;rw[List.getElem?_map,cG hj] at hv;rw[wS,cG hj];simpa using hv.symm
  rw[hv2,<-this];have hbl:(a.add j).block=a.block:=by unfold Addr.add;split<;>rfl
  exact jq (((HB3.out.block _ (by rw[hbl];exact HBl.out)).trans (RowKit.Below.heap_alloc _ _ _ (by rw[hbl];exact HBl.out))))
 refine(Tryz.Buffer_Write_at 335 (λ_=>none) w2.heap.size w2.heap.size 0 _ (bm xs) a xs.length cp w3 HI.out (Nat.le_of_lt HI.out.lt) ?_ (by simp[bm]) (λh=>by have:=HBl.out;omega) hsrc ?_ ?_).mono ?_
 ·intro v hv;have hv:v∈Lib.byteCells [77,80,70,0]:=by simpa using hv
  simp[Lib.byteCells] at hv;rcases hv with rfl|rfl|rfl|rfl<;>rfl
 ·intro v hv;obtain⟨b,_,rfl⟩:=mF.1 hv;rfl
 ·simp[Lib.byteCells];omega
 rintro e4 w4 ⟨rfl,hI4,hb4,_⟩
 have HI4:=Lib.hid hI4;have HB4:=Lib.hid hb4;clear hI4 hb4 hsrc
 go_wp2_with fail
 refine(Jz 335 (λ_=>none) w2.heap.size w2.heap.size 0 _ w4 HI4.out).mono ?_
 rintro e5 w5 ⟨v,rfl,hv,k,rfl⟩
 have HV:=Lib.hid hv;clear hv
 go_wp2_with fail
 go_ret2
 rw[HR.out];have hcells:(([]++Lib.byteCells [77,80,70,0])++bm xs:qr H1)=bm ([77,80,70,0]++xs):=by simp[Lib.byteCells,bm]
 have HV':=HV.out;rw[show(([]++Lib.byteCells (ByteArray.mk #[77,80,70,0]).data.toList)++bm xs:qr H1)=bm ([77,80,70,0]++xs) from hcells] at HV';have hlen:(bm ([77,80,70,0]++xs)).length=([77,80,70,0]++xs:qr Int).length:=by simp[bm]
 rw[hlen] at HV';have hl2:([77,80,70,0]++xs:qr Int).length=4+xs.length:=by simp;omega
 have B3:RowKit.Below w.heap.size w (w4.drewN k):=by have b1:=BB'.out;have b2:=b1.trans (((ft w2.heap.size w2).alloc (aM _) (Obj.cells #[Value.slice none 0 0,Value.int IntKind.i64 0,Value.int IntKind.i8 0] 335)).mono b1.size);have b3:=b2.trans (HB3.out.mono b1.size);have b4:=b3.trans (HB4.out.mono b1.size);exact⟨b4.os,b4.tape,b4.output,b4.size,b4.block⟩
 refine⟨v,rfl,B3,?_⟩;have:=Fh (m:=m) BB'.out.size HV';rw[hl2] at this;exact this
end Lt
end
namespace Lt
theorem DW{ts:qr VT}{ls r:qr bt}{pv:H1}(e:kb (.agg ts) ls=some (pv,r)):∃vs,fV ts ls=some (vs,r)/\pv=.agg ⟨vs⟩:=by
 have e:(ob (fV ts ls) λr=>some (Value.agg ⟨r.1⟩,r.2))=some (pv,r):=by unfold kb at e;exact e
 replace e:=ax e;obtain⟨⟨a,b⟩,h1,e⟩:=e;cases e;exact⟨a,h1,rfl⟩
abbrev ny:VT:=.aG [.v,.i .i64]
theorem xQ{v:H1}{i:Int}(h:bh [v]=true):fE (gS (VT.ks ny) (show bO (VT.ks ny) from(v,i))):=by intro x hx;have hx:bt.v x∈[bt.v v,bt.i i]:=hx;simp at hx;rw[hx];exact h
theorem Zg{P:Program}{g:FuncId}{us:qr H1}{q:H1×Int}(R:xc P g us λm v=>∃pv,kb ny (gS (VT.ks ny) (show bO (VT.ks ny) from q))=some (pv,[])/\fE (gS (VT.ks ny) (show bO (VT.ks ny) from q))/\aN m pv v){m:Nat->Nat->Hx H1}{w:jp}(hm:Kn m w){args':Array H1}(A:bI m us args'.toList):
 ∀w1,RowKit.Below w.heap.size w w1->Calls P g args' w1 λe w'=>∃b,e=.returned (.tuple #[b,.int .i64 q.2])/\RowKit.Below w1.heap.size w1 w'/\aN (cO m w w') q.1 b:=by
 intro w1 B;refine(R m args' w1 (hm.below B) A).mono ?_
 rintro e w' ⟨v',rfl,hb,pv,h1,_,hl⟩
 have h1:some (Value.tuple ⟨[q.1,.int .i64 q.2]⟩,([]:qr bt))=some (pv,[]):=h1;cases h1;cases hl with
 |aG hl0 hl=>rename_i xs;obtain⟨xs⟩:=xs;obtain⟨_,_,rfl,a0,A⟩:=PW.inv (show bI (cO m w1 w') [q.1,.int .i64 q.2] xs from⟨hl0,hl⟩);obtain⟨_,_,rfl,a1,A⟩:=PW.inv A;obtain rfl:=A.ee;cases a1;exact⟨_,rfl,hb,aN.mono (ac3 hm B) a0⟩
theorem zF{P:Program}{g:FuncId}{us:qr H1}{r:H1×Int}
 (C:∀(m:Nat->Nat->Hx H1)(args':Array H1)(w:jp),Kn m w->bI m us args'.toList->Calls P g args' w λe w'=>∃b,e=.returned (.tuple #[b,.int .i64 r.2])/\RowKit.Below w.heap.size w w'/\aN (cO m w w') r.1 b):P6 P g us (.tuple #[r.1,.int .i64 r.2]):=
 λm args' w hm A=>(C m args' w hm A).mono λe w' ⟨b,h1,h2,h3⟩=>⟨_,h1,h2,have q:bI (cO m w w') [r.1,.int .i64 r.2] [b,.int .i64 r.2]:=.cons h3 (.cons (.int _ _) .nil);.aG q.1 q.2⟩
theorem DA{x:H1}{K:qr Int->Hx (H1×Int)}{r:H1×Int}(e:jY x K=some r)(h:∀xs r,K xs=some r->bh [r.1]=true):bh [r.1]=true:=by
 unfold jY at e;split at e
 ·obtain⟨_,e⟩:=bd e;obtain⟨xs,_,e⟩:=ax e;exact h _ _ e
 ·cases e
theorem acO{S:Int->H1->H1->Hx (H1×Int)}{o:Int}{d s:H1}{r:H1×Int}(e:tQ S o d s=some r):bh [r.1]=true:=by
 obtain⟨q,_,e⟩:=ax e;cases hc:aj q.2 0 with
 |false=>rw[hc] at e;cases e;rfl
 |true=>
  rw[hc] at e;refine DA e λxs r e=>?_;obtain⟨_,e⟩:=bd e;cases hb:Nat.blt 65533 (4+xs.length) with
  |true=>rw[hb] at e;cases e;rfl
  |false=>
   rw[hb] at e;cases he:xs.isEmpty with
   |true=>rw[he] at e;cases e
   |false=>rw[he] at e;cases e;rfl
theorem Uy{S:Int->H1->H1->Hx (H1×Int)}(F:cS Tryz.prog 182 [.agg [.i .i64,.v],.v] ny S):cS Tryz.prog 166 [.agg [.i .i64,.v],.v] ny (tQ S):=by
 refine .mk λls r e hl us hu=>?_;have hu0:=hu;obtain⟨x,r1,us1,h1,h2,rfl⟩:=gM hu;obtain⟨y,r2,us2,h3,h4,rfl⟩:=gM h2;obtain⟨rfl,rfl⟩:=nF h4;obtain⟨vs,h5,rfl⟩:=DW h1;obtain⟨z,r3,us3,h6,h7,rfl⟩:=gM h5;obtain⟨z2,r4,us4,h8,h9,rfl⟩:=gM h7;obtain⟨rfl,rfl⟩:=nF h9;obtain⟨o,rfl,rfl⟩:=tC h6;obtain rfl:=kX h8;obtain rfl:=kX h3;replace e:tQ S o z2 y=some r:=e;have e0:=e;unfold tQ at e0;replace e0:=ax e0;obtain⟨q,hq,_⟩:=e0;refine⟨xQ (acO e),_,rfl,zF λm args' w hm A=>?_⟩;have A0:=A;obtain⟨al⟩:=args';replace A:bI m _ al:=A;obtain⟨_,_,rfl,a0,A⟩:=PW.inv A;obtain⟨_,_,rfl,a1,A⟩:=PW.inv A;obtain rfl:=A.ee;cases a0 with
 |agg l0 a0=>rename_i xs;obtain⟨xs⟩:=xs;obtain⟨_,_,rfl,b0,a0⟩:=PW.inv (show bI m [.int .i64 o,z2] xs from⟨l0,a0⟩);obtain⟨_,_,rfl,b1,a0⟩:=PW.inv a0;obtain rfl:=a0.ee;cases b0;exact acP hm e q hq (Zg (F [.i o,.v z2,.v y] q hq hl _ hu0) hm A0)
section
open Go.Shelf Go.RowKit Go.Lib Go.Sort
abbrev xd:VT:=.aG [.i .i64,.i .i64]
abbrev Dt:VT:=.agg [.i .i64,.v,.v,.v,.v,.v,.v,.v]
theorem abB{P:Program}{g:FuncId}{us:qr H1}{q:Int×Int}(R:xc P g us λm v=>∃pv,kb xd (gS (VT.ks xd) (show bO (VT.ks xd) from q))=some (pv,[])/\fE (gS (VT.ks xd) (show bO (VT.ks xd) from q))/\aN m pv v){m:Nat->Nat->Hx H1}{w:jp}(hm:Kn m w){args':Array H1}(A:bI m us args'.toList):
 ∀w1,RowKit.Below w.heap.size w w1->Calls P g args' w1 λe w'=>e=.returned (.tuple #[.int .i64 q.1,.int .i64 q.2])/\RowKit.Below w1.heap.size w1 w':=by
 intro w1 B;refine(R m args' w1 (hm.below B) A).mono ?_
 rintro e w' ⟨v',rfl,hb,pv,h1,_,hl⟩
 have h1:some (Value.tuple ⟨[.int .i64 q.1,.int .i64 q.2]⟩,([]:qr bt))=some (pv,[]):=h1;cases h1;cases hl with
 |aG hl0 hl=>rename_i xs;obtain⟨xs⟩:=xs;obtain⟨_,_,rfl,a0,A⟩:=PW.inv (show bI (cO m w1 w') [.int .i64 q.1,.int .i64 q.2] xs from⟨hl0,hl⟩);obtain⟨_,_,rfl,a1,A⟩:=PW.inv A;obtain rfl:=A.ee;cases a0;cases a1;exact⟨rfl,hb⟩
theorem KI{a b:Int}(h:aj a b=true):a=b:=by cases a<;>cases b<;>first|exact bY _ (bX h)|exact(bY _ (bX h).symm)|cases h
theorem abw(a:Int):aj a a=true:=by cases a<;>exact np _
theorem Sr{a b:Int}(h:a≠b):aj a b=false:=by
 cases hb:aj a b with
 |false=>rfl
 |true=>exact absurd (KI hb) h
def qR:qr Int:=[69,120,105,102,0,0]
noncomputable def u7(q:H1×Int):Hx (H1×Int):=
 cond (aj q.2 0) (jY q.1 λxs=>cond (aH xs.length) (cond xs.isEmpty none (some (ae (6+xs.length) (bm (qR++xs)),0))) none) (some (ae 0 [],q.2))
noncomputable def zV(L:Int->H1->H1->H1->H1->H1->H1->H1->Hx (Int×Int))(W:Int->H1->H1->H1->H1->H1->H1->H1->Hx (H1×Int))(o:Int)(a b c d e f g:H1):Hx (H1×Int):=
 ob (L o a b c d e f g) λl=>cond (aj l.2 0) (cond (ak l.1 0) (some (ae 0 [],7)) (ob (W o a b c d e f g) u7)) (some (ae 0 [],l.2))
theorem ZC{m:Nat->Nat->Hx H1}{w:jp}(hm:Kn m w){o:Int}{a b c d e f g:H1}{r:H1×Int}(l:Int×Int)
 (HL:∀w1,RowKit.Below w.heap.size w w1->Calls Tryz.prog 116 #[.agg #[.int .i64 o,a,b,c,d,e,f,g]] w1 λe w'=>e=.returned (.tuple #[.int .i64 l.1,.int .i64 l.2])/\RowKit.Below w1.heap.size w1 w')
 (HR:(l.2 ≠0/\r=(ae 0 [],l.2))\/(l.2 =0/\l.1 <0/\r=(ae 0 [],7))\/(l.2 =0/\¬l.1 <0/\∃q,u7 q=some r/\
  ∀w1,RowKit.Below w.heap.size w w1->Calls Tryz.prog 117 #[.agg #[.int .i64 o,a,b,c,d,e,f,g]] w1 λe w'=>∃b,e=.returned (.tuple #[b,.int .i64 q.2])/\RowKit.Below w1.heap.size w1 w'/\aN (cO m w w') q.1 b)):
 Calls Tryz.prog 62 #[.agg #[.int .i64 o,a,b,c,d,e,f,g]] w λe w'=>∃b,e=.returned (.tuple #[b,.int .i64 r.2])/\RowKit.Below w.heap.size w w'/\aN (cO m w w') r.1 b:=by
 obtain⟨l1,l2⟩:=l
 go_enter Tryz.func62,Tryz.ntmps62
 go_wp2_with fail
 refine(HL _ ((ft _ _).alloc (aM _) _)).mono ?_
 rintro e2 w2 ⟨rfl,hb⟩
 have BB:RowKit.Below w.heap.size w w2:=((ft _ _).alloc (aM _) _).trans (hb.mono (by simp));have cell0:∀i,i<8->w2.cell? ⟨w.heap.size,i,none⟩=(#[Value.int .i64 o,a,b,c,d,e,f,g]:Array H1)[i]? :=λi hi=>by
  rw[jq (w':=w2) (w:=w.alloc (Obj.cells #[Value.int .i64 o,a,b,c,d,e,f,g] 28)) (a:=⟨w.heap.size,i,none⟩) (hb.block _ (by simp))];unfold World.cell?;show(match(w.alloc _).heap[w.heap.size]? with|some (.cells c _ _)=>c[i]? |_=>none)=_
  rw[heap_alloc_new]
 rcases HR with⟨h1,hr⟩|⟨h1,h2,hr⟩|⟨h1,h2,q,hq,HW⟩
 ·have HRR:=Lib.hid hr;have HBB:=Lib.hid BB;clear hb hr BB cell0 HL
  go_wp2_with fail
  all_goals first
   |(exfalso;rename_i hq;simp at hq;omega)
   |(go_ret2
     rw[HRR.out];exact⟨_,rfl,HBB.out,.gy⟩)
 ·have HRR:=Lib.hid hr;have HBB:=Lib.hid BB;have h1:l2=0:=h1;subst h1;clear hb hr BB cell0 HL
  go_wp2_with fail
  all_goals first
   |(exfalso;rename_i hq;simp at hq;omega)
   |(go_ret2
     rw[HRR.out];exact⟨_,rfl,HBB.out,.gy⟩)
 ·have h1:l2=0:=h1;subst h1;have HBB:=Lib.hid BB;have HQ:=Lib.hid hq;have c0:=cell0 0 (by omega);have c1:=cell0 1 (by omega);have c2:=cell0 2 (by omega);have c3:=cell0 3 (by omega);have c4:=cell0 4 (by omega);have c5:=cell0 5 (by omega);have c6:=cell0 6 (by omega);have c7:=cell0 7 (by omega);clear hb hq BB cell0 HL
  go_wp2_with fail
  all_goals try(exfalso;rename_i hq;simp at hq;omega)
  refine(HW _ HBB.out).mono ?_
  rintro e3 w3 ⟨v,rfl,hb3,hl3⟩
  obtain⟨q1,q2⟩:=q;have B3:RowKit.Below w.heap.size w w3:=HBB.out.trans (hb3.mono HBB.out.size);have HB3:=Lib.hid B3;have HL3:=Lib.hid hl3;clear hb3 hl3 B3 HBB c0 c1 c2 c3 c4 c5 c6 c7 HW;by_cases hz:q2=0
  case neg=>
   have hr:r=(ae 0 [],q2):=by have:=HQ.out;unfold u7 at this;rw[Sr hz] at this;exact(jH this).symm
   have HRR:=Lib.hid hr;clear hr
   go_wp2_with fail
   all_goals first
    |(exfalso;rename_i hq;simp at hq;omega)
    |(go_ret2
      rw[HRR.out];exact⟨_,rfl,HB3.out,.gy⟩)
  subst hz;have e'':jY q1 (λxs=>cond (aH xs.length) (cond xs.isEmpty none (some (ae (6+xs.length) (bm (qR++xs)),(0:Int)))) none)=some r:=HQ.out;obtain⟨xs,hx,⟨ad,cp,rfl,hcp,hcell⟩|⟨rfl,cp,rfl⟩⟩:=xq (hm.new HB3.out) e'' HL3.out
  case inr=>exfalso;cases hx
  clear e'';obtain⟨hroom,hx2⟩:=bd hx;clear hx;have hsmall:xs.length<=1000000000:=ed hroom;clear hroom;have cL:xs≠[]:=by rintro rfl;cases hx2
  have hr:r=(ae (6+xs.length) (bm (qR++xs)),0):=by
   have h2:xs.isEmpty=false:=by cases xs<;>simp_all
   rw[h2] at hx2;exact(jH hx2).symm
  have hpos:0<xs.length:=by cases xs<;>simp_all
  have HC2:=Lib.hid hcell;clear hcell hx2 cL;have hbelow:ad.block<w3.heap.size:=by have:=HC2.out 0 hpos;rw[show ad.add 0=ad from rfl] at this;exact jb _ _ this
  have HRR:=Lib.hid hr;have HP:=Lib.hid hpos;have HBl:=Lib.hid hbelow;clear hr hpos hbelow
  go_wp2_with fail
  all_goals try(exfalso;rename_i hq;simp at hq;omega)
  have three:LibA.Three (w3.alloc (Obj.cells #[Value.slice none 0 0,Value.int IntKind.i64 0,Value.int IntKind.i8 0] 196)) w3.heap.size 0 196 (λ_=>none) (.slice none 0 0) (.int .i64 0) (.int .i8 0):=LibA.three_whole (heap_alloc_new w3 _);have buf:=LibA.zero_isBuffer (e:=5) (aM w3.heap.size) three;refine(Tryz.Buffer_WriteString_at 196 (λ_=>none) w3.heap.size w3.heap.size 0 [] _ _ buf (by simp) (λv hv=>by cases hv) (by decide)).mono ?_
  rintro e4 w4 ⟨rfl,hI,hb4,_⟩
  have HI:=Lib.hid hI;have HB4:=Lib.hid hb4;clear hI hb4 three buf
  go_wp2_with fail
  have hsrc:∀j v,(bm xs)[j]? =some v->w4.cell? (ad.add j)=some v:=by
   intro j v hv;have hj:j<xs.length:=by
    rcases ia j xs.length with q|q
    ·exact q
    ·rw[kQ (by simp[bm];omega)] at hv;cases hv
   have:=HC2.out j hj;have hv2:v=.int .u8 (xs.getD j 0):=by unfold bm at hv;rw[List.getElem?_map,cG hj] at hv;rw[wS,cG hj];simpa using hv.symm
   rw[hv2,<-this];have hbl:(ad.add j).block=ad.block:=by unfold Addr.add;split<;>rfl
   exact jq (((HB4.out.block _ (by rw[hbl];exact HBl.out)).trans (RowKit.Below.heap_alloc _ _ _ (by rw[hbl];exact HBl.out))))
  refine(Tryz.Buffer_Write_at 196 (λ_=>none) w3.heap.size w3.heap.size 0 _ (bm xs) ad xs.length cp w4 HI.out (Nat.le_of_lt HI.out.lt) ?_ (by simp[bm]) (λh=>by have:=HBl.out;omega) hsrc ?_ ?_).mono ?_
  ·intro v hv;have hv:v∈Lib.byteCells [69,120,105,102,0,0]:=by simpa using hv
   simp[Lib.byteCells] at hv;rcases hv with rfl|rfl|rfl|rfl|rfl<;>rfl
  ·intro v hv;obtain⟨b,_,rfl⟩:=mF.1 hv;rfl
  ·simp[Lib.byteCells];omega
  rintro e5 w5 ⟨rfl,hI5,hb5,_⟩
  have HI5:=Lib.hid hI5;have HB5:=Lib.hid hb5;clear hI5 hb5 hsrc
  go_wp2_with fail
  refine(Jz 196 (λ_=>none) w3.heap.size w3.heap.size 0 _ w5 HI5.out).mono ?_
  rintro e6 w6 ⟨v,rfl,hv,k,rfl⟩
  have HV:=Lib.hid hv;clear hv
  go_wp2_with fail
  go_ret2
  rw[HRR.out];have hcells:(([]++Lib.byteCells [69,120,105,102,0,0])++bm xs:qr H1)=bm (qR++xs):=by simp[Lib.byteCells,bm,qR]
  have HV':=HV.out;rw[show(([]++Lib.byteCells (ByteArray.mk #[69,120,105,102,0,0]).data.toList)++bm xs:qr H1)=bm (qR++xs) from hcells] at HV';have hlen:(bm (qR++xs)).length=(qR++xs:qr Int).length:=by simp[bm]
  rw[hlen] at HV';have hl2:(qR++xs:qr Int).length=6+xs.length:=by simp[qR];omega
  have B6:RowKit.Below w.heap.size w (w5.drewN k):=by have b1:=HB3.out;have b2:=b1.trans (((ft w3.heap.size w3).alloc (aM _) (Obj.cells #[Value.slice none 0 0,Value.int IntKind.i64 0,Value.int IntKind.i8 0] 196)).mono b1.size);have b3:=b2.trans (HB4.out.mono b1.size);have b4:=b3.trans (HB5.out.mono b1.size);exact⟨b4.os,b4.tape,b4.output,b4.size,b4.block⟩
  refine⟨v,rfl,B6,?_⟩;have:=Fh (m:=m) HB3.out.size HV';rw[hl2] at this;exact this
end
theorem amo{ls:qr bt}{us:qr H1}(hu:fV [Dt] ls=some (us,[])):∃o a b c d e f g,ls=[.i o,.v a,.v b,.v c,.v d,.v e,.v f,.v g]/\us=[.agg ⟨[.int .i64 o,a,b,c,d,e,f,g]⟩]:=by obtain⟨x,r1,us1,h1,h2,rfl⟩:=gM hu;obtain⟨rfl,rfl⟩:=nF h2;obtain⟨vs,h5,rfl⟩:=DW h1;obtain⟨z0,s0,t0,k0,g0,rfl⟩:=gM h5;obtain⟨z1,s1,t1,k1,g1,rfl⟩:=gM g0;obtain⟨z2,s2,t2,k2,g2,rfl⟩:=gM g1;obtain⟨z3,s3,t3,k3,g3,rfl⟩:=gM g2;obtain⟨z4,s4,t4,k4,g4,rfl⟩:=gM g3;obtain⟨z5,s5,t5,k5,g5,rfl⟩:=gM g4;obtain⟨z6,s6,t6,k6,g6,rfl⟩:=gM g5;obtain⟨z7,s7,t7,k7,g7,rfl⟩:=gM g6;obtain⟨rfl,rfl⟩:=nF g7;obtain⟨o,rfl,rfl⟩:=tC k0;obtain rfl:=kX k1;obtain rfl:=kX k2;obtain rfl:=kX k3;obtain rfl:=kX k4;obtain rfl:=kX k5;obtain rfl:=kX k6;obtain rfl:=kX k7;exact⟨o,_,_,_,_,_,_,_,rfl,rfl⟩
theorem Zz{q r:H1×Int}(e:u7 q=some r):bh [r.1]=true:=by
 unfold u7 at e;cases hc:aj q.2 0 with
 |false=>rw[hc] at e;cases e;rfl
 |true=>
  rw[hc] at e;refine DA e λxs r e=>?_;obtain⟨_,e⟩:=bd e;cases he:xs.isEmpty with
  |true=>rw[he] at e;cases e
  |false=>rw[he] at e;cases e;rfl
theorem Ss{a b:Int}:ak a b=true↔a<b:=by rw[show ak a b=decide (a<b) from nK a b,cf]
theorem LQ{L:Int->H1->H1->H1->H1->H1->H1->H1->Hx (Int×Int)}{W:Int->H1->H1->H1->H1->H1->H1->H1->Hx (H1×Int)}
 (FL:cS Tryz.prog 116 [Dt] xd L) (FW:cS Tryz.prog 117 [Dt] ny W):cS Tryz.prog 62 [Dt] ny (zV L W):=by
 refine .mk λls r e hl us hu=>?_;have hu0:=hu;obtain⟨o,a,b,c,d,x5,f,g,rfl,rfl⟩:=amo hu;obtain⟨r,hr'⟩:∃r0:H1×Int,r0=r:=⟨r,rfl⟩;subst hr';replace e:zV L W o a b c d x5 f g=some r:=e;unfold zV at e;replace e:=ax e;obtain⟨l,hL,e⟩:=e;have fl3:=FL [.i o,.v a,.v b,.v c,.v d,.v x5,.v f,.v g] l hL hl _ hu0;have goal:bh [r.1]=true/\∀(m:Nat->Nat->Hx H1)(args':Array H1)(w:jp),Kn m w->bI m [Value.agg ⟨[.int .i64 o,a,b,c,d,x5,f,g]⟩] args'.toList->
  ((l.2 ≠0/\r=(ae 0 [],l.2))\/(l.2 =0/\l.1 <0/\r=(ae 0 [],7))\/(l.2 =0/\¬l.1 <0/\∃q,u7 q=some r/\
  ∀w1,RowKit.Below w.heap.size w w1->Calls Tryz.prog 117 args' w1 λe w'=>∃b,e=.returned (.tuple #[b,.int .i64 q.2])/\RowKit.Below w1.heap.size w1 w'/\aN (cO m w w') q.1 b)):=by
  by_cases h1:l.2 =0
  ·rw[h1,abw,aE] at e;cases h2:ak l.1 0 with
   |true=>rw[h2,aE] at e;cases e;exact⟨rfl,λm args' w hm A=>.inr (.inl ⟨h1,Ss.1 h2,rfl⟩)⟩
   |false=>rw[h2,aD] at e;replace e:=ax e;obtain⟨q,hq,e⟩:=e;exact⟨Zz e,λm args' w hm A=>.inr (.inr ⟨h1,λh=>(by rw[Ss.2 h] at h2;cases h2),q,e,Zg (FW [.i o,.v a,.v b,.v c,.v d,.v x5,.v f,.v g] q hq hl _ hu0) hm A⟩)⟩
  ·rw[Sr h1,aD] at e;cases e;exact⟨rfl,λm args' w hm A=>.inl ⟨h1,rfl⟩⟩
 refine⟨xQ goal.1,_,rfl,zF λm args' w hm A=>?_⟩;have A0:=A;have G:=goal.2 m args' w hm A;have HL:=abB fl3 hm A;obtain⟨al⟩:=args';replace A:bI m _ al:=A;obtain⟨_,_,rfl,a0,A⟩:=PW.inv A;obtain rfl:=A.ee;cases a0 with
 |agg l0 a0=>rename_i xs;obtain⟨xs⟩:=xs;obtain⟨_,_,rfl,b0,a0⟩:=PW.inv (show bI m [.int .i64 o,a,b,c,d,x5,f,g] xs from⟨l0,a0⟩);obtain⟨_,_,rfl,b1,a0⟩:=PW.inv a0;obtain⟨_,_,rfl,b2,a0⟩:=PW.inv a0;obtain⟨_,_,rfl,b3,a0⟩:=PW.inv a0;obtain⟨_,_,rfl,b4,a0⟩:=PW.inv a0;obtain⟨_,_,rfl,b5,a0⟩:=PW.inv a0;obtain⟨_,_,rfl,b6,a0⟩:=PW.inv a0;obtain⟨_,_,rfl,b7,a0⟩:=PW.inv a0;obtain rfl:=a0.ee;cases b0;exact ZC hm l HL G
end Lt
section
open Go.Shelf Go.RowKit Go.Lib
attribute [local go_sem] Oper.semAt_some
structure gK(B:Nat)(W W':World):Prop where
 os:W'.os=W.os
 tape:W'.tape=W.tape
 output:W'.output=W.output
 size:W.heap.size<=W'.heap.size
 block:∀k,k<W.heap.size->k≠B->W'.heap[k]? =W.heap[k]?
theorem gK.refl(B:Nat)(W:jp):gK B W W:=⟨rfl,rfl,rfl,aM _,λ_ _ _=>rfl⟩
theorem gK.trans{B:Nat}{W W' W'':jp}(h:gK B W W')(k:gK B W' W''):gK B W W'':=⟨k.os.trans h.os,k.tape.trans h.tape,k.output.trans h.output,fH h.size k.size,λb hb hn=>(k.block b (o6 hb h.size) hn).trans (h.block b hb hn)⟩
theorem gK.of{B n:Nat}{W W':jp}(h:RowKit.Below n W W')(hn:W.heap.size<=n):gK B W W':=⟨h.os,h.tape,h.output,h.size,λk hk _=>h.block k (by omega)⟩
theorem gK.cell{B:Nat}{W W':jp}(h:gK B W W'){a:Addr}{v:H1}(c:W.cell? a=some v)(hn:a.block≠B):W'.cell? a=some v:=(jq (h.block _ (jb _ _ c) hn)).trans c
end
section
open Go.Shelf Go.RowKit Go.Lib
attribute [local go_sem] Oper.semAt_some
namespace Lt
def rowOf:H1->Hx (Nat×qr H1)
 | .func (.via n ps 0 true) cs ys=>cond (Nat.beq ps.size 0&&Nat.beq ys.size 0) (some (n,cs.toList)) none
 |_=>none
theorem FN{x:H1}{n:Nat}{cs:qr H1}(h:rowOf x=some (n,cs)):x=ae n cs:=by
 unfold rowOf at h;split at h
 ·rename_i n' ps c ys;obtain⟨q,h⟩:=bd h;cases h;simp only[bB] at q;rw[show ps=#[] from Array.eq_empty_of_size_eq_zero (bX q.1),show ys=#[] from Array.eq_empty_of_size_eq_zero (bX q.2)];rfl
 ·cases h
def fZ(x:H1):Bool:=(rowOf x).isSome
theorem qT{m:Nat->Nat->Hx H1}{s v:H1}(h:fZ s=true)(l:aN m s v):∃a n c,v=.slice a n c:=by unfold fZ at h;obtain⟨⟨n,cs⟩,h⟩:=Option.isSome_iff_exists.1 h;have:=FN h;subst this;cases l<;>exact⟨_,_,_,rfl⟩
def vJ(f:H1->H1->H1->Bool):qr H1->Bool
 |[]=>true
 | .int .i64 _::t::s::b::r=>((fZ t&&(fZ s&&fZ b))&&f t s b)&&vJ f r
 |_=>false
noncomputable def mm(E:H1->H1->H1->Bool):Nat->H1->H1->H1->Bool
 |0,_,_,_=>false
 |f+1,t,s,b=>E t s b&&(match rowOf s with
  |some (n,cs)=>Nat.beq cs.length (n*4)&&Nat.blt n 1000000000&&vJ (mm E f) cs
  |none=>false)
theorem TG{f:H1->H1->H1->Bool}:∀{cs:qr H1}(n i:Nat),vJ f cs=true->cs.length=n*4->i<n->∃a t s b,cs[4*i]? =some (.int .i64 a)/\cs[4*i+1]? =some t/\cs[4*i+2]? =some s/\cs[4*i+3]? =some b/\(fZ t&&(fZ s&&fZ b))=true/\f t s b=true
 |[],0,i,_,_,h=>by omega
 |[],n+1,i,_,hl,_=>by simp at hl
 |x::l,n,i,h,hl,hi=>by
  unfold vJ at h;split at h
  ·rename_i q;cases q
  ·rename_i a t s b r q;cases q;rw[bB,bB] at h;cases i with
   |zero=>exact⟨a,t,s,b,rfl,rfl,rfl,rfl,h.1⟩
   |succ i=>obtain⟨n,rfl⟩:∃k,n=k+1:=⟨n -1,by omega⟩;obtain⟨a',t',s',b',h0,h1,h2,h3,h4⟩:=TG (cs:=r) n i h.2 (by simp at hl;omega) (by omega);exact⟨a',t',s',b',by rw[show 4*(i+1)=(4*i)+4 by omega];exact h0,by rw[show 4*(i+1)+1=(4*i+1)+4 by omega];exact h1,by rw[show 4*(i+1)+2=(4*i+2)+4 by omega];exact h2,by rw[show 4*(i+1)+3=(4*i+3)+4 by omega];exact h3,h4⟩
  ·cases h
termination_by cs=>cs.length
theorem FM{m:Nat->Nat->Hx H1}{s v:H1}{n:Nat}{cs:qr H1}(h:rowOf s=some (n,cs))(l:aN m s v):
 ∃a c,v=.slice a n c/\(0<n->∃b o ys,a=some ⟨b,o,none⟩/\n<=c/\bI m cs ys/\∀i y,ys[i]? =some y->∀W,Kn m W->W.cell? ⟨b,o+i,none⟩=some y):=by
 have:=FN h;subst this;cases l with
 |lC r1 r2 q hs hn ho=>rename_i c a ys;have r:bI m cs ys:=⟨r1,r2⟩;obtain⟨b,o,sp⟩:=a;cases hs;refine⟨_,c,rfl,λ_=>⟨b,o,ys,rfl,hn,r,λi y hy W hW=>?_⟩⟩;obtain⟨x,hx⟩:∃x,cs[i]? =some x:=⟨_,cG (by rw[bI.length (show bI m cs ys from r)];exact(oW.1 hy).1)⟩;obtain⟨y',h1,h2⟩:=bI.get (show bI m cs ys from r) hx;rw[hy] at h1;cases h1;exact Ew h2.TY (hW _ _ _ (q i y hy))
 |gy=>exact⟨_,_,rfl,λh=>absurd h (Nat.lt_irrefl 0)⟩
theorem yr{m:Nat->Nat->Hx H1}{s v:H1}{n:Nat}{cs:qr H1}(h:rowOf s=some (n,cs))(l:aN m s v){i:Nat}{x:H1}(hx:cs[i]? =some x):gD x:=by
 have:=FN h;subst this;cases l with
 |lC _ _ _ _ _ ho=>exact iW.1 ho x (nZ hx)
 |gy=>simp at hx
theorem Kn.vc{m:Nat->Nat->Hx H1}{n₀ B:Nat}{W W':jp}(h:Kn m W)(hm:∀b i v,m b i=some v->b<n₀)(hB:n₀<=B)(b:gK B W W'):Kn m W':=λx i v hv=>
 (r8 (b.block x (mP (h x i v hv)) (by have:=hm x i v hv;omega))).trans (h x i v hv)
end Lt
theorem Q8(n₀ l B Y E:Nat)(m:Nat->Nat->Hx H1)(J:jp->Prop)(ok:H1->H1->H1->Bool)(hB:n₀<=B)(hY:n₀<=Y)(hE:n₀<=E)(hBY:B≠Y)(hBE:B≠E)(hm:∀b i v,m b i=some v->b<n₀)
 (hJ:∀W W',J W->gK B W W'->J W')
 (hy:∀W (k:Int) t s b x0 x1 x2,ok t s b=true->Lt.gD t->Lt.gD s->Lt.gD b->Lt.aN m t x0->Lt.aN m s x1->Lt.aN m b x2->J W->Lt.Kn m W->n₀<=W.heap.size->YieldAt Fence.wide 0 Tryz.prog l #[.int .i64 k,.agg #[x0,x1,x2]] W λe W'=>e=.returned (.bool true)/\J W'/\RowKit.Below W.heap.size W W'):
 ∀(f:Nat)(t s b x0 x1 x2:H1),Lt.mm ok f t s b=true->Lt.gD t->Lt.gD s->Lt.gD b->Lt.aN m t x0->Lt.aN m s x1->Lt.aN m b x2->∀(W:jp)(k:Int),Lt.Kn m W->n₀<=W.heap.size->
  W.cell? ⟨B,0,none⟩=some (.int .i64 k)->W.frozen? ⟨B,0,none⟩=false->W.cell? ⟨Y,0,none⟩=some (.func (.yield l) #[] #[])->
  W.cell? ⟨E,0,none⟩=some (.func (.func 441) #[] #[.pointer (some ⟨B,0,none⟩),.pointer (some ⟨Y,0,none⟩),.pointer (some ⟨E,0,none⟩)])->J W->
  CallsIn Fence.wide 0 Tryz.prog 441 #[.agg #[x0,x1,x2],.pointer (some ⟨B,0,none⟩),.pointer (some ⟨Y,0,none⟩),.pointer (some ⟨E,0,none⟩)] W λe W'=>
   e=.returned (.bool true)/\J W'/\gK B W W'/\∃k',W'.cell? ⟨B,0,none⟩=some (.int .i64 k')/\W'.frozen? ⟨B,0,none⟩=false
 |0,t,s,b,x0,x1,x2,h,_,_,_,_,_,_,W,k,_,_,_,_,_,_,_=>by cases h
 |f+1,t,s,b,x0,x1,x2,h,pt,ps,pb,l0,l1,l2,W,k,hk,hn,cB,fB,cY,cE,hj=>by
  unfold Lt.mm at h;rw[bB] at h;obtain⟨h1,h2⟩:=h;have zB:B<W.heap.size:=jb _ _ cB;have zY:Y<W.heap.size:=jb _ _ cY;have zE:E<W.heap.size:=jb _ _ cE;refine callsIn_of_wp Tryz.func441 rfl trivial ?_ rfl;simp only[Tryz.ntmps441,p9,bW,List.length_nil,Nat.reduceAdd,Nat.reduceSub,pU,pV,pZ,pW,eK,ec];obtain⟨W1,hW1⟩:∃W1,W1=(W.setCell ⟨B,0,none⟩ (.int .i64 (wrap64 (k+1)))).alloc (.cells #[x0,x1,x2] 261):=⟨_,rfl⟩;have b1:gK B W W1:=by rw[hW1];refine⟨rfl,rfl,rfl,by simp,λk hk cL=>?_⟩;rw[Below.heap_alloc _ _ _ (by simpa using hk)];exact Below.heap_setCell _ _ _ k (λe=>cL (by rw[e]))
  have z1:W1.heap.size=W.heap.size+1:=by rw[hW1];simp
  obtain⟨fn,tmps,assign,body,hyv,hR⟩:=hy W1 (wrap64 (wrap64 (k+1) -1)) t s b x0 x1 x2 h1 pt ps pb l0 l1 l2 (hJ _ _ hj b1) (hk.vc hm hB b1) (by omega);have c1:W1.cell? ⟨W.heap.size,1,none⟩=some x1:=by have q:=World.alloc_heap_new (W.setCell ⟨B,0,none⟩ (.int .i64 (wrap64 (k+1)))) (.cells #[x0,x1,x2] 261);rw[show(W.setCell ⟨B,0,none⟩ (.int .i64 (wrap64 (k+1)))).heap.size=W.heap.size by simp] at q;rw[hW1];unfold World.cell?;simp only[q];rfl
  rw[hW1] at hyv hR
  gi_wp2
  refine⟨rfl,hR.mono ?_⟩
  rintro e W2 ⟨rfl,j2,bl⟩
  rw[<-hW1] at bl;have b2:gK B W W2:=b1.trans (gK.of bl (aM _));have c2:W2.cell? ⟨W.heap.size,1,none⟩=some x1:=(bl.cell (p:=⟨W.heap.size,1,none⟩) (by show W.heap.size<_;omega)).trans c1;cases hr:Lt.rowOf s with
  |none=>rw[hr] at h2;cases h2
  |some q=>
  obtain⟨n,cs⟩:=q;rw[hr] at h2;simp only[bB] at h2;obtain⟨⟨h3,h4⟩,h5⟩:=h2;replace h3:=bX h3;replace h4:=Lt.fb h4;obtain⟨pa,c,rfl,hrow⟩:=Lt.FM hr l1;have cB2:W2.cell? ⟨B,0,none⟩=some (.int .i64 (wrap64 (k+1))):=by refine(bl.cell (p:=⟨B,0,none⟩) (by show B<_;omega)).trans ?_;rw[hW1];refine(jq (a:=⟨B,0,none⟩) (Below.heap_alloc _ _ _ (by simpa using zB))).trans ?_;exact World.cell?_setCell_same' _ _ _ (by rw[cB];rfl)
  have fB2:W2.frozen? ⟨B,0,none⟩=false:=by refine(bl.frozen (p:=⟨B,0,none⟩) (by show B<_;omega)).trans ?_;rw[hW1];refine(World.frozen?_of_block (a:=⟨B,0,none⟩) (Below.heap_alloc _ _ _ (by simpa using zB))).trans ?_;rw[World.frozen?_setCell];exact fB
  gi_wp2
  gi_loopw [19] (λp wr=>∃i:Nat,p=.int .i64 i/\i<=n/\J wr/\gK B W wr/\∃k',wr.cell? ⟨B,0,none⟩=some (.int .i64 k')/\wr.frozen? ⟨B,0,none⟩=false)
   (λp wr=>n -(Lib.intOf p).toNat)
  case atStart=>exact⟨0,rfl,ib _,j2,b2,_,cB2,fB2⟩
  case round=>
   obtain⟨i,rfl,hi,jr,br,k',cr,fr⟩:=hrel;rcases ia i n with hin|hin
   ·obtain⟨ab,ao,ys,rfl,hc,ry,hcell⟩:=hrow (by omega);obtain⟨a',t',s',b',e0,e1,e2,e3,eo,e4⟩:=Lt.TG n i h5 h3 hin;obtain⟨y0,g0,r0⟩:=Lt.bI.get ry e0;obtain⟨y1,g1,r1⟩:=Lt.bI.get ry e1;obtain⟨y2,g2,r2⟩:=Lt.bI.get ry e2;obtain⟨y3,g3,r3⟩:=Lt.bI.get ry e3;have hkr:=hk.vc hm hB br;have k0:=hcell _ _ g0 wr hkr;have k1:=hcell _ _ g1 wr hkr;have k2:=hcell _ _ g2 wr hkr;have k3:=hcell _ _ g3 wr hkr;rw[show ao+4*i=ao+i*4 by omega] at k0;rw[show ao+(4*i+1)=ao+i*4+1 by omega] at k1;rw[show ao+(4*i+2)=ao+i*4+2 by omega] at k2;rw[show ao+(4*i+3)=ao+i*4+3 by omega] at k3;cases r0;simp only[bB] at eo;obtain⟨p1,n1,c1,rfl⟩:=Lt.qT eo.1 r1;obtain⟨p2,n2,c2,rfl⟩:=Lt.qT eo.2.1 r2;obtain⟨p3,n3,c3,rfl⟩:=Lt.qT eo.2.2 r3;clear hyv hR;have cEr:=br.cell cE (Ne.symm hBE);have cYr:=br.cell cY (Ne.symm hBY);have zEr:E<wr.heap.size:=jb _ _ cEr;obtain⟨W3,hW3⟩:∃W3,W3=wr.alloc (.cells #[.int .i64 a',.slice p1 n1 c1,.slice p2 n2 c2,.slice p3 n3 c3] 346):=⟨_,rfl⟩;have bl3:RowKit.Below wr.heap.size wr W3:=by rw[hW3];exact(ft _ wr).alloc (aM _) _
    have b3:gK B wr W3:=gK.of bl3 (aM _);have zBr:B<wr.heap.size:=jb _ _ cr;have ih:=Q8 n₀ l B Y E m J ok hB hY hE hBY hBE hm hJ hy f t' s' b' _ _ _ e4 (Lt.yr hr l1 e1) (Lt.yr hr l1 e2) (Lt.yr hr l1 e3) r1 r2 r3 W3 k' (hkr.vc hm hB b3) (fH hn (fH br.size b3.size)) ((bl3.cell (p:=⟨B,0,none⟩) zBr).trans cr) ((bl3.frozen (p:=⟨B,0,none⟩) zBr).trans fr) (b3.cell cYr (Ne.symm hBY)) (b3.cell cEr (Ne.symm hBE)) (hJ _ _ jr b3);rw[hW3] at ih
    gi_wp2
    refine⟨trivial,rfl,ih.mono ?_⟩
    rintro e W4 ⟨rfl,j4,b4,k4,c4,f4⟩
    gi_wp2
    exact⟨⟨i+1,by simp,by omega,j4,br.trans (b3.trans (by rw[hW3];exact b4)),k4,c4,f4⟩,by simp[Lib.intOf];omega⟩
   ·obtain rfl:i=n:=by omega
    gi_wp2
    go_ret
    exact⟨rfl,jr,br,k',cr,fr⟩
end
section
open Go.Shelf Go.RowKit Go.Lib
attribute [local go_sem] Oper.semAt_some
namespace Lt
def sc(f:H1->H1->H1->Bool):qr H1->Bool
 |[]=>true
 |t::s::b::r=>((fZ t&&(fZ s&&fZ b))&&f t s b)&&sc f r
 |_=>false
theorem TD{f:H1->H1->H1->Bool}:∀{cs:qr H1}(n i:Nat),sc f cs=true->cs.length=n*3->i<n->∃t s b,cs[3*i]? =some t/\cs[3*i+1]? =some s/\cs[3*i+2]? =some b/\(fZ t&&(fZ s&&fZ b))=true/\f t s b=true
 |[],0,i,_,_,h=>by omega
 |[],n+1,i,_,hl,_=>by simp at hl
 |x::l,n,i,h,hl,hi=>by
  unfold sc at h;split at h
  ·rename_i q;cases q
  ·rename_i t s b r q;cases q;rw[bB,bB] at h;cases i with
   |zero=>exact⟨_,s,b,rfl,rfl,rfl,h.1⟩
   |succ i=>obtain⟨n,rfl⟩:∃k,n=k+1:=⟨n -1,by omega⟩;obtain⟨t',s',b',h1,h2,h3,h4⟩:=TD (cs:=r) n i h.2 (by simp at hl;omega) (by omega);exact⟨t',s',b',by rw[show 3*(i+1)=(3*i)+3 by omega];exact h1,by rw[show 3*(i+1)+1=(3*i+1)+3 by omega];exact h2,by rw[show 3*(i+1)+2=(3*i+2)+3 by omega];exact h3,h4⟩
  ·cases h
termination_by cs=>cs.length
end Lt
theorem qL(W:jp)(v:H1)(t:TypeId):(W.alloc (.cells #[v] t)).cell? ⟨W.heap.size,0,none⟩=some v/\(W.alloc (.cells #[v] t)).frozen? ⟨W.heap.size,0,none⟩=false:=by
 have q:=World.alloc_heap_new W (.cells #[v] t);constructor
 ·unfold World.cell?;simp only[q];rfl
 ·unfold World.frozen?;simp only[q];rfl
theorem aaw(X l:Nat)(m:Nat->Nat->Hx H1)(J:jp->Prop)(ok:H1->H1->H1->Bool)(W:jp)(hX:X<W.heap.size)(hk:Lt.Kn m W)(hJ:∀B W' W'',W.heap.size<=B->J W'->gK B W' W''->J W'')
 (hy:∀W' (k:Int) t s b x0 x1 x2,ok t s b=true->Lt.gD t->Lt.gD s->Lt.gD b->Lt.aN m t x0->Lt.aN m s x1->Lt.aN m b x2->J W'->Lt.Kn m W'->W.heap.size<=W'.heap.size->YieldAt Fence.wide 0 Tryz.prog l #[.int .i64 k,.agg #[x0,x1,x2]] W' λe W''=>e=.returned (.bool true)/\J W''/\RowKit.Below W'.heap.size W' W'')
 (f:Nat) {v x:H1} {n:Nat} {cs:qr H1} (hr:Lt.rowOf v=some (n,cs)) (h3:cs.length=n*3) (h5:Lt.sc (Lt.mm ok f) cs=true) (h4:n<1000000000) (pv:Lt.gD v) (lv:Lt.aN m v x) (c0:W.cell? ⟨X,1,none⟩=some x) (hj:J W):
 CallsIn Fence.wide 0 Tryz.prog 440 #[.func (.yield l) #[] #[],.pointer (some ⟨X,0,none⟩)] W λe W'=>(∃v,e=.returned v)/\J W'/\RowKit.Below W.heap.size W W':=by
 obtain⟨pa,c,rfl,hrow⟩:=Lt.FM hr lv;refine callsIn_of_wp Tryz.func440 rfl trivial ?_ rfl;simp only[Tryz.ntmps440,p9,bW,List.length_nil,Nat.reduceAdd,Nat.reduceSub,pU,pV,pZ,pW,eK,ec];obtain⟨V,hV⟩:∃V,V=Value.func (.func 441) #[] #[.pointer (some ⟨W.heap.size+1,0,none⟩),.pointer (some ⟨W.heap.size,0,none⟩),.pointer (some ⟨W.heap.size+1+1,0,none⟩)]:=⟨_,rfl⟩;have q1:=qL W (.func (.yield l) #[] #[]) 522;have q2:=qL (W.alloc (.cells #[.func (.yield l) #[] #[]] 522)) (.int .i64 0) 3;have q3:=qL ((W.alloc (.cells #[.func (.yield l) #[] #[]] 522)).alloc (.cells #[.int .i64 0] 3)) V 438;obtain⟨W1,hW1⟩:∃W1,W1=((W.alloc (.cells #[.func (.yield l) #[] #[]] 522)).alloc (.cells #[.int .i64 0] 3)).alloc (.cells #[V] 438):=⟨_,rfl⟩;have bl1:RowKit.Below W.heap.size W W1:=by rw[hW1];exact(((ft _ W).alloc (aM _) _).alloc (by simp) _).alloc (by simp;omega) _
 have z1:W1.heap.size=W.heap.size+3:=by rw[hW1];simp
 have b2:RowKit.Below (W.heap.size+2) ((W.alloc (.cells #[.func (.yield l) #[] #[]] 522)).alloc (.cells #[.int .i64 0] 3)) W1:=by rw[hW1];exact(ft _ _).alloc (by simp) _
 have b1:RowKit.Below (W.heap.size+1) (W.alloc (.cells #[.func (.yield l) #[] #[]] 522)) W1:=by rw[hW1];exact((ft _ _).alloc (by simp) _).alloc (by simp) _
 simp only[jt] at q2 q3;rw[<-hW1] at q3;obtain⟨q3,q4⟩:=q3;have q5:=(b2.cell (p:=⟨W.heap.size+1,0,none⟩) (by show W.heap.size+1<W.heap.size+2;omega)).trans q2.1;have q6:=(b2.frozen (p:=⟨W.heap.size+1,0,none⟩) (by show W.heap.size+1<W.heap.size+2;omega)).trans q2.2;have q7:=(b1.cell (p:=⟨W.heap.size,0,none⟩) (by show W.heap.size<W.heap.size+1;omega)).trans q1.1;have c1:=(bl1.cell (p:=⟨X,1,none⟩) hX).trans c0;clear q1 q2 b1 b2;have c2:=c1;rw[hW1,hV] at c2
 gi_wp2
 have hW2:=hW1;rw[hV] at hW2;rw[<-hW2];have hm:∀b i v,m b i=some v->b<W.heap.size:=λb i v h=>Lt.mP (hk b i v h);have b01:gK (W.heap.size+1) W W1:=gK.of bl1 (aM _)
 gi_loopw [11] (λp wr=>∃i:Nat,p=.int .i64 i/\i<=n/\J wr/\gK (W.heap.size+1) W1 wr/\∃k',wr.cell? ⟨W.heap.size+1,0,none⟩=some (.int .i64 k')/\wr.frozen? ⟨W.heap.size+1,0,none⟩=false)
  (λp wr=>n -(Lib.intOf p).toNat)
 case atStart=>exact⟨0,rfl,ib _,hJ _ _ _ (by omega) hj b01,gK.refl _ _,_,q5,q6⟩
 case round=>
  obtain⟨i,rfl,hi,jr,br,k',cr,fr⟩:=hrel;rcases ia i n with hin|hin
  ·obtain⟨ab,ao,ys,rfl,hc,ry,hcell⟩:=hrow (by omega);obtain⟨t',s',b',e1,e2,e3,eo,e4⟩:=Lt.TD n i h5 h3 hin;obtain⟨y1,g1,r1⟩:=Lt.bI.get ry e1;obtain⟨y2,g2,r2⟩:=Lt.bI.get ry e2;obtain⟨y3,g3,r3⟩:=Lt.bI.get ry e3;have hkr:=(hk.vc hm (qa _) b01).vc hm (qa _) br;have k1:=hcell _ _ g1 wr hkr;have k2:=hcell _ _ g2 wr hkr;have k3:=hcell _ _ g3 wr hkr;rw[show ao+3*i=ao+i*3 by omega] at k1;rw[show ao+(3*i+1)=ao+i*3+1 by omega] at k2;rw[show ao+(3*i+2)=ao+i*3+2 by omega] at k3;simp only[bB] at eo;obtain⟨p1,n1,c1,rfl⟩:=Lt.qT eo.1 r1;obtain⟨p2,n2,c2,rfl⟩:=Lt.qT eo.2.1 r2;obtain⟨p3,n3,c3,rfl⟩:=Lt.qT eo.2.2 r3;have cEr:=br.cell q3 (by show W.heap.size+1+1≠_;omega);have cYr:=br.cell q7 (by show W.heap.size≠_;omega);rw[hV] at cEr;have zEr:=jb _ _ cEr;obtain⟨W3,hW3⟩:∃W3,W3=wr.alloc (.cells #[.slice p1 n1 c1,.slice p2 n2 c2,.slice p3 n3 c3] 261):=⟨_,rfl⟩;have bl3:RowKit.Below wr.heap.size wr W3:=by rw[hW3];exact(ft _ wr).alloc (aM _) _
   have b3:gK (W.heap.size+1) wr W3:=gK.of bl3 (aM _);have zBr:=jb _ _ cr;have ih:=Q8 W.heap.size l (W.heap.size+1) W.heap.size (W.heap.size+1+1) m J ok (qa _) (aM _) (by omega) (by omega) (by omega) hm (λW' W''=>hJ _ W' W'' (qa _)) hy f t' s' b' _ _ _ e4 (Lt.yr hr lv e1) (Lt.yr hr lv e2) (Lt.yr hr lv e3) r1 r2 r3 W3 k' (hkr.vc hm (qa _) b3)
    (fH b01.size (fH br.size b3.size)) ((bl3.cell zBr).trans cr) ((bl3.frozen zBr).trans fr) (b3.cell cYr (by show W.heap.size≠_;omega)) (b3.cell cEr (by show W.heap.size+1+1≠_;omega)) (hJ _ _ _ (qa _) jr b3)
   rw[hW3] at ih;clear hW1 hW2 hV
   gi_wp2
   refine⟨trivial,rfl,ih.mono ?_⟩
   rintro e W4 ⟨rfl,j4,b4,k4,c4,f4⟩
   gi_wp2
   exact⟨⟨i+1,by simp,by omega,j4,br.trans (b3.trans (by rw[hW3];exact b4)),k4,c4,f4⟩,by simp[Lib.intOf];omega⟩
  ·obtain rfl:i=n:=by omega
   gi_wp2
   go_end0
   exact⟨⟨_,rfl⟩,jr,bl1.trans ⟨br.os,br.tape,br.output,br.size,λk hk=>br.block k (by omega) (by omega)⟩⟩
end
section
open Go.Shelf Go.RowKit Go.Lib
attribute [local go_sem] Oper.semAt_some
theorem aav(o:Int)(x:H1)(hx:∃a n c,x=.slice a n c)(w:jp):Calls Tryz.prog 383 #[.agg #[.int .i64 o,x]] w λe w'=>e=.returned (.func (.func 440) #[] #[.pointer (some ⟨w.heap.size,0,none⟩)])/\w'=w.alloc (.cells #[.int .i64 o,x] 217):=by
 obtain⟨a,n,c,rfl⟩:=hx
 go_enter Tryz.func383,Tryz.ntmps383
 go_wp2_with fail
 go_ret
 exact⟨rfl,rfl⟩
theorem acV{m:Nat->Nat->Hx H1}{w:jp}(hk:Lt.Kn m w)(ok:H1->H1->H1->Bool)(hok:∀t s b,ok t s b=true->Lt.fZ t=true/\Lt.fZ s=true/\Lt.fZ b=true)
 (hE:∀W' t s b x0 x1 x2,ok t s b=true->Lt.gD t->Lt.gD s->Lt.gD b->Lt.aN m t x0->Lt.aN m s x1->Lt.aN m b x2->Lt.Kn m W'->Calls Tryz.prog 258 #[.agg #[x0,x1,x2]] W' λe W''=>∃k:Int,e=.returned (.int .i64 k)/\1<=k/\k<=65535/\RowKit.Below W'.heap.size W' W'')
 (hC:∀W' t s b x0,ok t s b=true->Lt.gD t->Lt.aN m t x0->Lt.Kn m W'->Calls Tryz.prog 384 #[x0,.func (.func 385) #[] #[]] W' λe W''=>e=.returned (.bool false)/\RowKit.Below W'.heap.size W' W'')
 (f:Nat) {v x:H1} {n:Nat} {cs:qr H1} (hr:Lt.rowOf v=some (n,cs)) (h3:cs.length=n*3) (h5:Lt.sc (Lt.mm ok f) cs=true) (h4:n<1000000000) (pv:Lt.gD v) (lv:Lt.aN m v x) (o:Int):
 Calls Tryz.prog 321 #[.agg #[.int .i64 o,x]] w λe w'=>e=.returned (.bool true)/\RowKit.Below w.heap.size w w':=by
 obtain⟨pa,nn,c,rfl⟩:=Lt.qT (by unfold Lt.fZ;rw[hr];rfl) lv;refine(callsIn_wide (n:=0)).1 ?_;refine callsIn_of_wp_marks Tryz.func321 rfl trivial ?_ rfl;simp only[Tryz.ntmps321,p9,bW,List.length_nil,Nat.reduceAdd,Nat.reduceSub,pU,pV,pZ,pW,eK,ec]
 gi_wp2
 refine⟨trivial,rfl,(callsIn_wide.2 (aav o _ ⟨_,_,_,rfl⟩ _)).mono ?_⟩
 rintro e w' ⟨rfl,rfl⟩
 have q1:=qL (w.alloc (.cells #[.int .i64 o,.slice pa nn c] 217)) (.bool false) 4;have q2:=World.alloc_heap_new ((w.alloc (.cells #[.int .i64 o,.slice pa nn c] 217)).alloc (.cells #[.bool false] 4)) (.cells #[.int .i64 o,.slice pa nn c] 217);simp only[jt] at q1 q2;obtain⟨w1,hw1⟩:∃w1,w1=((w.alloc (.cells #[.int .i64 o,.slice pa nn c] 217)).alloc (.cells #[.bool false] 4)).alloc (.cells #[.int .i64 o,.slice pa nn c] 217):=⟨_,rfl⟩;have bw:RowKit.Below w.heap.size w w1:=by rw[hw1];exact(((ft _ w).alloc (aM _) _).alloc (by simp) _).alloc (by simp;omega) _
 have z1:w.heap.size+3<=w1.heap.size:=by rw[hw1];simp
 have bb:RowKit.Below (w.heap.size+2) ((w.alloc (.cells #[.int .i64 o,.slice pa nn c] 217)).alloc (.cells #[.bool false] 4)) w1:=by rw[hw1];exact(ft _ _).alloc (by simp) _
 rw[<-hw1] at q2;have q3:=(bb.cell (p:=⟨w.heap.size+1,0,none⟩) (by show w.heap.size+1<w.heap.size+2;omega)).trans q1.1;have q4:=(bb.frozen (p:=⟨w.heap.size+1,0,none⟩) (by show w.heap.size+1<w.heap.size+2;omega)).trans q1.2;have q5:w1.cell? ⟨w.heap.size+1+1,1,none⟩=some (.slice pa nn c):=by unfold World.cell?;simp only[q2];rfl
 rw[<-hw1];simp only[jt];clear q1 q2 bb hw1
 gi_wp2
 refine Bw (gf:=440) (lb:=#[.pointer (some ⟨w.heap.size+1+1,0,none⟩)]) rfl (enters_of Tryz.func440 (by kernel_rfl) rfl) ?_;intro fn W1 hW1;refine(callsIn_wide (n:=0)).1 ?_;generalize hR0:iX fn _ _ _ _ _ .ready=R0 at hW1⊢;have bl:RowKit.Below w1.heap.size w1 W1:=by rw[hW1];exact((ft _ w1).alloc (aM _) _).alloc (by simp) _
 have z2:w1.heap.size+2<=W1.heap.size:=by rw[hW1];simp
 have d1:W1.heap[w1.heap.size]? =some (.deferred (some [])):=by rw[hW1];exact(Below.heap_alloc _ _ _ (by simp)).trans (World.alloc_heap_new w1 _)
 have d2:W1.heap[w1.heap.size+1]? =some (.loop R0):=by have:=World.alloc_heap_new (w1.alloc (.deferred (some []))) (.loop R0);rw[jt] at this;rw[hW1];exact this
 have hk1:Lt.Kn m W1:=(hk.below bw).below bl;refine(aaw (w.heap.size+1+1) (w1.heap.size+1) m (λW=>W.heap[w1.heap.size+1]? =some (.loop R0)/\W.heap[w1.heap.size]? =some (.deferred (some []))/\W.cell? ⟨w.heap.size+1,0,none⟩=some (.bool false)/\W.frozen? ⟨w.heap.size+1,0,none⟩=false) ok W1 (by omega) hk1 ?hJ ?hy f hr h3 h5 h4 pv lv ((bl.cell (p:=⟨w.heap.size+1+1,1,none⟩) (by show w.heap.size+1+1<_;omega)).trans q5)
  ⟨d2,d1,(bl.cell (p:=⟨w.heap.size+1,0,none⟩) (by show w.heap.size+1<_;omega)).trans q3,(bl.frozen (p:=⟨w.heap.size+1,0,none⟩) (by show w.heap.size+1<_;omega)).trans q4⟩).mono ?_
 case hJ=>
  rintro B W' W'' hB ⟨j1,j2,j3,j4⟩ hb
  have s1:=jb _ _ j3;have t1:∀k o,k<W1.heap.size->W'.heap[k]? =some o->W''.heap[k]? =some o:=λk o hk ho=>(hb.block k (fy.1 ho).1 (by omega)).trans ho;exact⟨t1 _ _ (by omega) j1,t1 _ _ (by omega) j2,hb.cell j3 (by show w.heap.size+1≠B;omega),(World.frozen?_of_block (a:=⟨w.heap.size+1,0,none⟩) (hb.block _ s1 (by show w.heap.size+1≠B;omega))).trans j4⟩
 case hy=>
  intro W' k t s b x0 x1 x2 ho pt ps pb l0 l1 l2 hj hkn hs;obtain⟨j1,j2,j3,j4⟩:=hj;obtain⟨i0,i1,i2⟩:=hok t s b ho;obtain⟨p0,n0,c0,rfl⟩:=Lt.qT i0 l0;obtain⟨p1,n1,c1,rfl⟩:=Lt.qT i1 l1;obtain⟨p2,n2,c2,rfl⟩:=Lt.qT i2 l2;rw[<-hR0] at j1;refine FJ (n:=0) (R:=λW=>(W.heap[w1.heap.size+1]? =some (.loop R0)/\W.heap[w1.heap.size]? =some (.deferred (some []))/\W.cell? ⟨w.heap.size+1,0,none⟩=some (.bool false)/\W.frozen? ⟨w.heap.size+1,0,none⟩=false)/\RowKit.Below W'.heap.size W' W) j1 rfl ?_;rw[hR0] at j1⊢;generalize iX fn _ _ _ _ _ .busy=R1;clear hW1
  gi_wp2
  have ls:w1.heap.size+1<W'.heap.size:=(fy.1 j1).1;refine⟨(Below.heap_alloc _ _ _ ls).trans j1,?_⟩;obtain⟨W3,hW3⟩:∃W3,W3=(W'.alloc (.cells #[.slice p0 n0 c0,.slice p1 n1 c1,.slice p2 n2 c2] 261)).putObj (w1.heap.size+1) (.loop R1):=⟨_,rfl⟩;have b3:gK (w1.heap.size+1) W' W3:=by rw[hW3];exact⟨rfl,rfl,rfl,by simp,λk hk cL=>(World.putObj_heap_other cL).trans (Below.heap_alloc _ _ _ hk)⟩
  have kl:W3.heap[w1.heap.size+1]? =some (.loop R1):=by rw[hW3];exact World.putObj_heap_same (by simp;omega)
  have ka:W3.heap[W'.heap.size]? =some (.cells #[.slice p0 n0 c0,.slice p1 n1 c1,.slice p2 n2 c2] 261):=by rw[hW3];exact(World.putObj_heap_other (by omega)).trans (World.alloc_heap_new W' _)
  have hm:∀b i v,m b i=some v->b<w.heap.size:=λb i v h=>Lt.mP (hk b i v h);have m3:=hkn.vc hm (by omega) b3;have e0:W3.cell? ⟨W'.heap.size,0,none⟩=some (.slice p0 n0 c0):=by unfold World.cell?;simp only[ka];rfl
  have e1:W3.cell? ⟨W'.heap.size,1,none⟩=some (.slice p1 n1 c1):=by unfold World.cell?;simp only[ka];rfl
  have e2:W3.cell? ⟨W'.heap.size,2,none⟩=some (.slice p2 n2 c2):=by unfold World.cell?;simp only[ka];rfl
  have z3:W'.heap.size<W3.heap.size:=(fy.1 ka).1;rw[<-hW3];clear hW3
  gi_wp2
  refine⟨trivial,rfl,(CallsIn.inRound _ (callsIn_wide.2 (hE W3 t s b _ _ _ ho pt ps pb l0 l1 l2 m3))).mono ?_⟩
  rintro e W4 ⟨k4,rfl,g1,g2,b4⟩
  have e3:=(b4.cell (p:=⟨W'.heap.size,0,none⟩) z3).trans e0;have z4:=jb _ _ e3
  gi_wp2
  refine⟨trivial,rfl,(CallsIn.inRound _ (callsIn_wide.2 (hC W4 t s b _ ho pt l0 (m3.below b4)))).mono ?_⟩
  rintro e W5 ⟨rfl,b5⟩
  gi_wp2
  have bb:∀k,k<W3.heap.size->W5.heap[k]? =W3.heap[k]? :=λk hk=>(b5.block k (o6 hk b4.size)).trans (b4.block k hk);have kl5:=(bb _ (Nat.lt_trans ls z3)).trans kl;have s5:W3.heap.size<=W5.heap.size:=fH b4.size b5.size;have k5:∀k,k<W'.heap.size->(W5.putObj (w1.heap.size+1) (.loop R0)).heap[k]? =W'.heap[k]? :=λk hk=>by
   by_cases q:k=w1.heap.size+1
   ·rw[q,j1];exact World.putObj_heap_same (by omega)
   ·exact(World.putObj_heap_other q).trans ((bb k (by omega)).trans (b3.block k hk q))
  have sj:=jb _ _ j3;refine⟨kl5,⟨(k5 _ ls).trans j1,(k5 _ (by omega)).trans j2,(jq (a:=⟨w.heap.size+1,0,none⟩) (k5 _ sj)).trans j3,(World.frozen?_of_block (a:=⟨w.heap.size+1,0,none⟩) (k5 _ sj)).trans j4⟩,⟨?_,?_,?_,by simp;omega,k5⟩⟩
  ·exact b5.os.trans (b4.os.trans b3.os)
  ·exact b5.tape.trans (b4.tape.trans b3.tape)
  ·exact b5.output.trans (b4.output.trans b3.output)
 rintro e W2 ⟨⟨v,rfl⟩,⟨j1,j2,j3,j4⟩,bl2⟩
 refine⟨⟨_,rfl⟩,j1,?_⟩;generalize iX fn _ _ _ _ _ .exhausted=R9;obtain⟨W3,hW3⟩:∃W3,W3=W2.putObj (w1.heap.size+1) (.loop R9):=⟨_,rfl⟩;have pk:∀k,k≠w1.heap.size+1->W3.heap[k]? =W2.heap[k]? :=λk hk=>by rw[hW3];exact World.putObj_heap_other hk
 have c3:W3.cell? ⟨w.heap.size+1,0,none⟩=some (.bool false):=(jq (a:=⟨w.heap.size+1,0,none⟩) (pk _ (by show w.heap.size+1≠_;omega))).trans j3;have f3:W3.frozen? ⟨w.heap.size+1,0,none⟩=false:=(World.frozen?_of_block (a:=⟨w.heap.size+1,0,none⟩) (pk _ (by show w.heap.size+1≠_;omega))).trans j4;have k3:W3.heap[w1.heap.size]? =some (.deferred (some [])):=(pk _ (by omega)).trans j2;have bl3:RowKit.Below w.heap.size w W3:=by refine bw.trans ((bl.mono (by omega)).trans ((bl2.mono (by omega)).trans ?_));rw[hW3];exact⟨rfl,rfl,rfl,by simp,λk hk=>World.putObj_heap_other (by omega)⟩
 rw[<-hW3];clear hW3 hW1
 gi_wp2
 have z5:w.heap.size+1<w1.heap.size:=by omega
 have kD:(W3.setCell ⟨w.heap.size+1,0,none⟩ (.bool true)).heap[w1.heap.size]? =some (.deferred (some [])):=(Below.heap_setCell _ _ _ _ (by show _≠w.heap.size+1;omega)).trans k3;refine⟨by simp,.inl ⟨_,_,rfl,run_takeDeferred kD,?_⟩⟩;obtain⟨W4,hW4⟩:∃W4,W4=(W3.setCell ⟨w.heap.size+1,0,none⟩ (.bool true)).putObj w1.heap.size (.deferred none):=⟨_,rfl⟩;have c4:W4.cell? ⟨w.heap.size+1,0,none⟩=some (.bool true):=by rw[hW4];exact(jq (a:=⟨w.heap.size+1,0,none⟩) (World.putObj_heap_other (by show w.heap.size+1≠_;omega))).trans (World.cell?_setCell_same' _ _ _ (by rw[c3];rfl))
 have bl4:RowKit.Below w.heap.size w W4:=by rw[hW4];exact(bl3.setCell (p:=⟨w.heap.size+1,0,none⟩) (by show _<=w.heap.size+1;omega) _).trans ⟨rfl,rfl,rfl,by simp,λk hk=>World.putObj_heap_other (by omega)⟩
 rw[<-hW4];refine⟨.bool true,?_,rfl,bl4⟩;clear hW4;simp[results,Tryz.f321,dA,go_sem,c4]
end
namespace Lt
section
open Go.Shelf Go.RowKit Go.Lib
def mR(E:H1->H1->H1->Hx Int)(C:H1->Hx Bool)(t s b:H1):Bool:=
 (fZ t&&(fZ s&&fZ b))&&((match E t s b with
  |some k=>decide (1<=k)&&decide (k<=65535)
  |none=>false)&&(match C t with
  |some false=>true
  |_=>false))
noncomputable def EC(w:Nat)(E:H1->H1->H1->Hx Int)(C:H1->Hx Bool)(_:Int)(v:H1):Hx Bool:=match rowOf v with
 |some (n,cs)=>cond (Nat.beq cs.length (n*3)&&(Nat.blt n 1000000000&&sc (mm (mR E C) w) cs)) (some true) none
 |none=>none
theorem SP{P:Program}{g:FuncId}{us:qr H1}{k:Int}(R:xc P g us λm v=>∃pv,kb (.i .i64) (gS (VT.ks (.i .i64)) (show bO (VT.ks (.i .i64)) from k))=some (pv,[])/\fE (gS (VT.ks (.i .i64)) (show bO (VT.ks (.i .i64)) from k))/\aN m pv v){m:Nat->Nat->Hx H1}{w:jp}(hm:Kn m w){args':Array H1}(A:bI m us args'.toList):
 Calls P g args' w λe w'=>e=.returned (.int .i64 k)/\RowKit.Below w.heap.size w w':=
 (R m args' w hm A).mono λe w' ⟨v',h1,h2,pv,h3,_,h4⟩=>by have h3:some (Value.int .i64 k,([]:qr bt))=some (pv,[]):=h3;cases h3;cases h4;exact⟨h1,h2⟩
theorem QD{P:Program}{g:FuncId}{us:qr H1}{k:Bool}(R:xc P g us λm v=>∃pv,kb .b (gS (VT.ks .b) (show bO (VT.ks .b) from k))=some (pv,[])/\fE (gS (VT.ks .b) (show bO (VT.ks .b) from k))/\aN m pv v){m:Nat->Nat->Hx H1}{w:jp}(hm:Kn m w){args':Array H1}(A:bI m us args'.toList):
 Calls P g args' w λe w'=>e=.returned (.bool k)/\RowKit.Below w.heap.size w w':=
 (R m args' w hm A).mono λe w' ⟨v',h1,h2,pv,h3,_,h4⟩=>by have h3:some (Value.bool k,([]:qr bt))=some (pv,[]):=h3;cases h3;cases h4;exact⟨h1,h2⟩
theorem acT{E:H1->H1->H1->Hx Int}{C:H1->Hx Bool}(HE:cS Tryz.prog 258 [.agg [.v,.v,.v]] (.i .i64) E)(HC:cS Tryz.prog 384 [.v,.fn 385 []] .b C)(w:Nat):cS Tryz.prog 321 [.agg [.i .i64,.v]] .b (EC w E C):=by
 refine .mk λls r e hl us hu=>?_;obtain⟨x,r1,us1,h1,h2,rfl⟩:=gM hu;obtain⟨rfl,rfl⟩:=nF h2;obtain⟨vs,h5,rfl⟩:=DW h1;obtain⟨z,r3,us3,h6,h7,rfl⟩:=gM h5;obtain⟨z2,r4,us4,h8,h9,rfl⟩:=gM h7;obtain⟨rfl,rfl⟩:=nF h9;obtain⟨o,rfl,rfl⟩:=tC h6;obtain rfl:=kX h8;replace e:EC w E C o z2=some r:=e;have pz:=hl z2 (by simp);unfold EC at e;split at e
 ·rename_i n cs hr;obtain⟨q,e⟩:=bd e;cases e;simp only[bB] at q;obtain⟨q1,q2,q3⟩:=q;refine⟨λz hz=>by simp[gS,VT.ks,wQ] at hz,.bool true,rfl,λm args' W hm A=>?_⟩
  ·obtain⟨al⟩:=args';replace A:bI m _ al:=A;obtain⟨_,_,rfl,a0,A⟩:=PW.inv A;obtain rfl:=A.ee;cases a0 with
   |agg l0 a0=>
    rename_i xs;obtain⟨xs⟩:=xs;obtain⟨_,_,rfl,b0,a0⟩:=PW.inv (show bI m [.int .i64 o,z2] xs from⟨l0,a0⟩);obtain⟨_,_,rfl,b1,a0⟩:=PW.inv a0;obtain rfl:=a0.ee;cases b0;have hok:∀t s b,mR E C t s b=true->(fZ t=true/\fZ s=true/\fZ b=true)/\(∃k,E t s b=some k/\1<=k/\k<=65535)/\C t=some false:=λt s b h=>by
     unfold mR at h;simp only[bB] at h;obtain⟨h1,h2,h3⟩:=h;refine⟨h1,?_,?_⟩
     ·split at h2
      ·rename_i k hk;simp at h2;exact⟨k,hk,h2⟩
      ·cases h2
     ·split at h3
      ·assumption
      ·cases h3
    refine(acV hm (mR E C) (λt s b h=>(hok t s b h).1) ?_ ?_ w hr (bX q1) q3 (fb q2) pz b1 o).mono λe w' ⟨h1,h2⟩=>⟨_,h1,h2,.bool _⟩
    ·intro W' t s b x0 x1 x2 h pt ps pb l0 l1 l2 hk;obtain⟨⟨i0,i1,i2⟩,⟨k,hE,k1,k2⟩,_⟩:=hok t s b h;have f3:=HE [.v t,.v s,.v b] k hE (λx hx=>by
      simp only[cZ,bt.v.injEq,nk,nr] at hx;rcases hx with rfl|rfl|rfl
      ·exact pt
      ·exact ps
      ·exact pb) _ rfl
     exact(SP f3 hk (.cons (.Lr (.cons l0 (.cons l1 (.cons l2 .nil)))) .nil)).mono λe w' ⟨h1,h2⟩=>⟨k,h1,k1,k2,h2⟩
    ·intro W' t s b x0 h pt l0 hk;obtain⟨⟨i0,i1,i2⟩,_,hC⟩:=hok t s b h;have f3:=HC [.v t] false hC (λx hx=>by
      simp only[cZ,bt.v.injEq,nk,nr] at hx;subst hx;exact pt) _ rfl
     exact QD f3 hk (.cons l0 (.cons .fn0 .nil))
 ·cases e
end
end Lt
section
open Go.Shelf Go.RowKit Go.Lib
attribute [local go_sem] Oper.semAt_some
theorem Vt(a:Hx Addr)(n c:Nat)(w:jp):Calls Tryz.prog 168 #[.slice a n c] w λe w'=>e=.returned (.func (.func 234) #[] #[.pointer (some ⟨w.heap.size,0,none⟩)])/\w'=w.alloc (.cells #[.slice a n c] 26):=by
 go_enter Tryz.func168,Tryz.ntmps168
 go_wp2_with fail
 go_ret
 exact⟨rfl,rfl⟩
theorem agR(X l:Nat)(a:Hx Addr)(c:Nat)(W:jp)(c0:W.cell? ⟨X,0,none⟩=some (.slice a 0 c)):
 CallsIn Fence.wide 0 Tryz.prog 234 #[.func (.yield l) #[] #[],.pointer (some ⟨X,0,none⟩)] W λe W'=>(∃v,e=.returned v)/\W'=W:=by
 refine callsIn_of_wp Tryz.func234 rfl trivial ?_ rfl;simp only[Tryz.ntmps234,p9,bW,List.length_nil,Nat.reduceAdd,Nat.reduceSub,pU,pV,pZ,pW,eK,ec]
 gi_wp2
 refine wpIn_loop_once ?_
 gi_wp2
 go_end0
 exact⟨⟨_,rfl⟩,rfl⟩
theorem agS(X l n c:Nat)(b o:Nat)(h0:0<n)(h1:n<=65519)(hc:n<=c)(J:jp->Prop)(W:jp)(c0:W.cell? ⟨X,0,none⟩=some (.slice (some ⟨b,o,none⟩) n c))
 (hy:YieldAt Fence.wide 0 Tryz.prog l #[.slice (some ⟨b,o,none⟩) n n] W λe W2=>e=.returned (.bool true)/\W2.cell? ⟨X,0,none⟩=some (.slice (some ⟨b,o,none⟩) n c)/\W2.frozen? ⟨X,0,none⟩=false/\∀v,J (W2.setCell ⟨X,0,none⟩ v)):
 CallsIn Fence.wide 0 Tryz.prog 234 #[.func (.yield l) #[] #[],.pointer (some ⟨X,0,none⟩)] W λe W'=>(∃v,e=.returned v)/\J W':=by
 obtain⟨fn,tmps,assign,body,hyv,hR⟩:=hy;refine callsIn_of_wp Tryz.func234 rfl trivial ?_ rfl;simp only[Tryz.ntmps234,p9,bW,List.length_nil,Nat.reduceAdd,Nat.reduceSub,pU,pV,pZ,pW,eK,ec]
 gi_wp2
 refine wpIn_loop_rounds 2 ?_;rw[roundsIn_succ];have hmin:min (n:Int) 65519=n:=by omega
 have hnat:(n:Int).toNat=n:=rfl
 gi_wp2
 refine⟨rfl,hR.mono ?_⟩
 rintro e W2 ⟨rfl,c2,f2,hJ⟩
 by_cases hcn:c=n;all_goals
  gi_wp2
  rw[roundsIn_succ]
  gi_wp2
  go_end0
  exact⟨⟨_,rfl⟩,hJ _⟩
end
section
open Go.Shelf Go.RowKit Go.Lib
attribute [local go_sem] Oper.semAt_some
def mN:qr Int:=[73,67,67,95,80,82,79,70,73,76,69,0,1,1]
def Chunk(W:jp)(A:Nat)(xs:qr Int):Prop:=∃g cp gb cap cur,W.cell? ⟨A+1,0,none⟩=some (.slice (some ⟨g,0,none⟩) 1 cp)/\1<=cp/\A<=g/\g≠A+1+1/\W.cell? ⟨g,0,none⟩=some (.slice (some ⟨gb,0,none⟩) (14+xs.length) cap)/\
 A<=gb/\gb≠A+1+1/\W.heap[gb]? =some (.cells cur 5 (0,0))/\14+xs.length<=cap/\cur.toList.take (14+xs.length)=Lt.bm (mN++xs)
theorem Chunk.tL{W W':jp}{A:Nat}{xs:qr Int}(h:Chunk W A xs)(e:∀q,q<W.heap.size->q≠A+1+1->W'.heap[q]? =W.heap[q]?):Chunk W' A xs:=by obtain⟨g,cp,gb,cap,cur,y1,y2,y3,y4,y5,y6,y7,y8,y9⟩:=h;exact⟨g,cp,gb,cap,cur,(jq (a:=⟨A+1,0,none⟩) (e _ (jb _ _ y1) (by show A+1≠_;omega))).trans y1,y2,y3,y4,(jq (a:=⟨g,0,none⟩) (e _ (jb _ _ y5) y4)).trans y5,y6,y7,(e _ (fy.1 y8).1 y7).trans y8,y9⟩
theorem tu(l:qr Int):∀v∈Lt.bm l,v.oneCell'=true:=λv hv=>by obtain⟨b,_,rfl⟩:=mF.1 hv;rfl
theorem aam{m:Nat->Nat->Hx H1}{w:jp}(hk:Lt.Kn m w){xs:qr Int}{b o c:Nat}(h0:0<xs.length)(h1:xs.length<=65519)(hc:xs.length<=c)(hcell:∀i,i<xs.length->w.cell? ⟨b,o+i,none⟩=some (.int .u8 (xs.getD i 0)))
 (HN:∀W,RowKit.Below w.heap.size w W->Calls Tryz.prog 167 #[.int .i64 xs.length] W λe W'=>e=.returned (.int .i64 1)/\RowKit.Below W.heap.size W W'):
 Calls Tryz.prog 109 #[.slice (some ⟨b,o,none⟩) xs.length c] w λe w'=>∃v,e=.returned (.tuple #[v,.int .i64 0])/\RowKit.Below w.heap.size w w'/\Lt.aN (Lt.cO m w w') (Lt.ae 1 [Lt.ae (14+xs.length) (Lt.bm (mN++xs))]) v:=by
 refine(callsIn_wide (n:=0)).1 ?_;refine callsIn_of_wp_marks Tryz.func109 rfl trivial ?_ rfl;simp only[Tryz.ntmps109,p9,bW,List.length_nil,Nat.reduceAdd,Nat.reduceSub,pU,pV,pZ,pW,eK,ec]
 gi_wp2
 refine⟨trivial,rfl,(callsIn_wide.2 (HN _ (ft _ _))).mono ?_⟩
 rintro e w1 ⟨rfl,b1⟩
 gi_wp2
 refine⟨trivial,rfl,(callsIn_wide.2 (Vt _ _ _ _)).mono ?_⟩
 rintro e w2 ⟨rfl,rfl⟩
 gi_wp2
 have q1:=qL w1 (.int .i64 1) 3;have q2:=qL (w1.alloc (.cells #[.int .i64 1] 3)) (.slice none 0 0) 35;have q3:=qL ((w1.alloc (.cells #[.int .i64 1] 3)).alloc (.cells #[.slice none 0 0] 35)) (.slice (some ⟨b,o,none⟩) xs.length c) 26;obtain⟨w2,hw2⟩:∃w2,w2=((w1.alloc (.cells #[.int .i64 1] 3)).alloc (.cells #[.slice none 0 0] 35)).alloc (.cells #[.slice (some ⟨b,o,none⟩) xs.length c] 26):=⟨_,rfl⟩;have bw:RowKit.Below w1.heap.size w1 w2:=by rw[hw2];exact(((ft _ w1).alloc (aM _) _).alloc (by simp) _).alloc (by simp;omega) _
 have z2:w1.heap.size+3<=w2.heap.size:=by rw[hw2];simp
 have z2':w2.heap.size<=w1.heap.size+3:=by rw[hw2];simp
 have bb1:RowKit.Below (w1.heap.size+1) (w1.alloc (.cells #[.int .i64 1] 3)) w2:=by rw[hw2];exact((ft _ _).alloc (by simp) _).alloc (by simp) _
 have bb2:RowKit.Below (w1.heap.size+2) ((w1.alloc (.cells #[.int .i64 1] 3)).alloc (.cells #[.slice none 0 0] 35)) w2:=by rw[hw2];exact(ft _ _).alloc (by simp) _
 simp only[jt] at q2 q3;rw[<-hw2] at q3;have e1:=(bb1.cell (p:=⟨w1.heap.size,0,none⟩) (by show w1.heap.size<w1.heap.size+1;omega)).trans q1.1;have e2:=(bb2.cell (p:=⟨w1.heap.size+1,0,none⟩) (by show w1.heap.size+1<w1.heap.size+2;omega)).trans q2.1;have f2:=(bb2.frozen (p:=⟨w1.heap.size+1,0,none⟩) (by show w1.heap.size+1<w1.heap.size+2;omega)).trans q2.2;obtain⟨e3,f3⟩:=q3;rw[<-hw2];clear q1 q2 bb1 bb2 hw2;refine Bw (gf:=234) (lb:=#[.pointer (some ⟨w1.heap.size+1+1,0,none⟩)]) rfl (enters_of Tryz.func234 (by kernel_rfl) rfl) ?_;intro fn W1 hW1;refine(callsIn_wide (n:=0)).1 ?_;generalize hR0:iX fn _ _ _ _ _ .ready=R0 at hW1⊢;have bl:RowKit.Below w2.heap.size w2 W1:=by rw[hW1];exact((ft _ w2).alloc (aM _) _).alloc (by simp) _
 have z3:w2.heap.size+2<=W1.heap.size:=by rw[hW1];simp
 have d1:W1.heap[w2.heap.size]? =some (.deferred (some [])):=by rw[hW1];exact(Below.heap_alloc _ _ _ (by simp)).trans (World.alloc_heap_new w2 _)
 have d2:W1.heap[w2.heap.size+1]? =some (.loop R0):=by have:=World.alloc_heap_new (w2.alloc (.deferred (some []))) (.loop R0);rw[jt] at this;rw[hW1];exact this
 clear hW1;refine(agS (w1.heap.size+1+1) (w2.heap.size+1) xs.length c b o h0 h1 hc (λW=>W.heap[w2.heap.size+1]? =some (.loop R0)/\W.heap[w2.heap.size]? =some (.deferred (some []))/\RowKit.Below w1.heap.size w1 W/\
  Chunk W w1.heap.size xs) W1 ((bl.cell (p:=⟨w1.heap.size+1+1,0,none⟩) (by show w1.heap.size+1+1<_;omega)).trans e3) ?hy).mono ?_
 case hy=>
  rw[<-hR0] at d2;refine(FJ (n:=0) (R:=λW=>W.cell? ⟨w1.heap.size+1+1,0,none⟩=some (.slice (some ⟨b,o,none⟩) xs.length c)/\W.frozen? ⟨w1.heap.size+1+1,0,none⟩=false/\W.heap[w2.heap.size+1]? =some (.loop R0)/\W.heap[w2.heap.size]? =some (.deferred (some []))/\RowKit.Below w1.heap.size w1 W/\
   Chunk W w1.heap.size xs) d2 rfl ?_).mono ?_
  ·rw[hR0] at d2⊢;generalize iX fn _ _ _ _ _ .busy=R1;have D2:=Lib.hid d2;clear d2
   gi_wp2
   refine⟨D2.out,?_⟩;obtain⟨W2,hW2⟩:∃W2,W2=W1.putObj (w2.heap.size+1) (.loop R1):=⟨_,rfl⟩;have b2:gK (w2.heap.size+1) W1 W2:=by rw[hW2];exact⟨rfl,rfl,rfl,by simp,λk hk cL=>World.putObj_heap_other cL⟩
   have kl:W2.heap[w2.heap.size+1]? =some (.loop R1):=by rw[hW2];exact World.putObj_heap_same (by omega)
   have kd:=(b2.block w2.heap.size (by omega) (by omega)).trans d1;have bA:gK (w2.heap.size+1) w2 W2:=(gK.of bl (aM _)).trans b2;have g1:=bA.cell e1 (by show w1.heap.size≠_;omega);have g2:=bA.cell e2 (by show w1.heap.size+1≠_;omega);have g3:=bA.cell e3 (by show w1.heap.size+1+1≠_;omega);have h2:W2.frozen? ⟨w1.heap.size+1,0,none⟩=false:=(World.frozen?_of_block (a:=⟨w1.heap.size+1,0,none⟩) (bA.block _ (by show w1.heap.size+1<_;omega) (by show w1.heap.size+1≠_;omega))).trans f2;have h3:W2.frozen? ⟨w1.heap.size+1+1,0,none⟩=false:=(World.frozen?_of_block (a:=⟨w1.heap.size+1+1,0,none⟩) (bA.block _ (by show w1.heap.size+1+1<_;omega) (by show w1.heap.size+1+1≠_;omega))).trans f3;have zW:w2.heap.size+2<=W2.heap.size:=fH z3 b2.size;have b1W:RowKit.Below w1.heap.size w1 W2:=⟨bA.os.trans bw.os,bA.tape.trans bw.tape,bA.output.trans bw.output,fH bw.size bA.size,λk hk=>(bA.block k (by omega) (by omega)).trans (bw.block k hk)⟩;rw[<-hW2];clear hW2;have z1:w1.heap.size<W2.heap.size:=by omega
   have z1o:w1.heap.size+1<W2.heap.size:=by omega
   gi_wp2
   have three:LibA.Three (W2.alloc (Obj.cells #[.slice none 0 0,.int .i64 0,.int .i8 0] 264)) W2.heap.size 0 264 (λ_=>none) (.slice none 0 0) (.int .i64 0) (.int .i8 0):=LibA.three_whole (heap_alloc_new W2 _);have buf:=LibA.zero_isBuffer (e:=5) (aM W2.heap.size) three;refine⟨trivial,rfl,(CallsIn.inRound _ (callsIn_wide.2 (Tryz.Buffer_WriteString_at 264 (λ_=>none) W2.heap.size W2.heap.size 0 [] _ _ buf (by simp) (λv hv=>by cases hv) (by decide)))).mono ?_⟩
   rintro e W3 ⟨rfl,hI3,b3,_⟩
   have bl3:RowKit.Below W2.heap.size W2 W3:=((ft _ W2).alloc (aM _) _).trans b3;have hI3:LibA.IsBuffer 264 (λ_=>none) 5 W2.heap.size W2.heap.size 0 (Lt.bm [73,67,67,95,80,82,79,70,73,76,69,0]) W3:=by simpa[Lib.byteCells,Lt.bm] using hI3
   have HI3:=Lib.hid hI3;clear hI3 three buf b3;have g13:=(bl3.cell (p:=⟨w1.heap.size,0,none⟩) z1).trans g1;have g23:=(bl3.cell (p:=⟨w1.heap.size+1,0,none⟩) z1o).trans g2
   gi_wp2
   refine⟨trivial,rfl,(CallsIn.inRound _ (callsIn_wide.2 (Tryz.Buffer_WriteByte_at 264 (λ_=>none) W2.heap.size W2.heap.size 0 _ 1 W3 HI3.out bl3.size (tu _) (by decide)))).mono ?_⟩
   rintro e W4 ⟨rfl,hI4,b4,_⟩
   have bl4:=bl3.trans b4;have hI4:LibA.IsBuffer 264 (λ_=>none) 5 W2.heap.size W2.heap.size 0 (Lt.bm [73,67,67,95,80,82,79,70,73,76,69,0,1]) W4:=hI4;have HI4:=Lib.hid hI4;clear hI4 b4 g13 g23;have g14:=(bl4.cell (p:=⟨w1.heap.size,0,none⟩) z1).trans g1
   gi_wp2
   refine⟨trivial,rfl,(CallsIn.inRound _ (callsIn_wide.2 (Tryz.Buffer_WriteByte_at 264 (λ_=>none) W2.heap.size W2.heap.size 0 _ 1 W4 HI4.out bl4.size (tu _) (by decide)))).mono ?_⟩
   rintro e W5 ⟨rfl,hI5,b5,_⟩
   have bl5:=bl4.trans b5;have hI5:LibA.IsBuffer 264 (λ_=>none) 5 W2.heap.size W2.heap.size 0 (Lt.bm mN) W5:=hI5;have HI5:=Lib.hid hI5;clear hI5 b5 g14
   gi_wp2
   have src:RowKit.Below w.heap.size w W5:=b1.trans ((b1W.mono b1.size).trans (bl5.mono (by have:=b1.size;omega)));have hsrc:∀j v,(Lt.bm xs)[j]? =some v->W5.cell? (Addr.add ⟨b,o,none⟩ j)=some v:=λj v hv=>by
    have hj:j<xs.length:=by
     rcases ia j xs.length with q|q
     ·exact q
     ·rw[kQ (by simp[Lt.bm];omega)] at hv;cases hv
    have hv2:v=.int .u8 (xs.getD j 0):=by unfold Lt.bm at hv;rw[List.getElem?_map,cG hj] at hv;rw[wS,cG hj];simpa using hv.symm
    have hc:=hcell j hj;rw[hv2,Addr.add_lit];exact(src.cell (jb _ _ hc)).trans hc
   refine⟨trivial,rfl,(CallsIn.inRound _ (callsIn_wide.2 (Tryz.Buffer_Write_at 264 (λ_=>none) W2.heap.size W2.heap.size 0 _ (Lt.bm xs) ⟨b,o,none⟩ xs.length xs.length W5 HI5.out bl5.size (tu _) (by simp[Lt.bm]) ?cL hsrc (tu _) ?hlim))).mono ?_⟩
   case cL=>have q:b<w.heap.size:=jb _ _ (hcell 0 h0);have:=b1.size;show b≠W2.heap.size;omega
   case hlim=>simp[Lt.bm,mN];omega
   rintro e W6 ⟨rfl,hI6,b6,_⟩
   have bl6:=bl5.trans b6;have HI6:=Lib.hid hI6;clear hI6 b6 hsrc src;have g26:=(bl6.cell (p:=⟨w1.heap.size+1,0,none⟩) z1o).trans g2;have h26:=(bl6.frozen (p:=⟨w1.heap.size+1,0,none⟩) z1o).trans h2;have mixed:Tryz.prog.follows .mixedOrders=true:=by kernel_rfl
   gi_wp2
   have hID:LibA.IsBuffer 264 (λ_=>none) 5 W2.heap.size W2.heap.size 0 (Lt.bm mN++Lt.bm xs) W6.drew:=HI6.out;have HB:=(Jz 264 (λ_=>none) W2.heap.size W2.heap.size 0 _ _ hID).mono (R':=λe W7=>∃g cap cur,e=.returned (.slice (some ⟨g,0,none⟩) (14+xs.length) cap)/\W2.heap.size<=g/\W7.heap[g]? =some (.cells cur 5 (0,0))/\14+xs.length<=cap/\cur.toList.take (14+xs.length)=Lt.bm (mN++xs)/\∃n,W7=W6.drew.drewN n) ?hB
   case hB=>
    rintro e W7 ⟨v,rfl,⟨_,⟨rfl,hn⟩|⟨g,cap,cur,rfl,hB,hg,hnc,_,hcs,htk⟩⟩,k,rfl⟩
    ·simp[Lt.bm,mN] at hn
    ·have hl:(Lt.bm mN++Lt.bm xs).length=14+xs.length:=by simp[Lt.bm,mN];omega
     rw[hl] at hnc htk⊢;refine⟨g,cap,cur,rfl,hB,hg,hnc,?_,k,rfl⟩;rw[gk] at htk;rw[htk];simp[Lt.bm]
   have HB:=Lib.hid HB;clear hID;have zO6:w1.heap.size+1<W6.heap.size:=jb _ _ g26;have hbt:¬281474976710656<Builtin.nextslicecap 1 0*Tryz.t26.bytes:=by decide
   have hw1:∀(k:Nat)(Xc Yc:Obj),(((W6.drewN k).alloc Xc).alloc Yc).cell? ⟨w1.heap.size+1,0,none⟩=some (.slice none 0 0):=λk Xc Yc=>(jq (a:=⟨w1.heap.size+1,0,none⟩) ((Below.heap_alloc _ _ _ (by simp;omega)).trans (Below.heap_alloc _ _ _ zO6))).trans g26;have hw2:∀(k:Nat)(Xc Yc:Obj),(((W6.drewN k).alloc Xc).alloc Yc).frozen? ⟨w1.heap.size+1,0,none⟩=false:=λk Xc Yc=>(World.frozen?_of_block (a:=⟨w1.heap.size+1,0,none⟩) ((Below.heap_alloc _ _ _ (by simp;omega)).trans (Below.heap_alloc _ _ _ zO6))).trans h26;have AF:∀(k:Nat)(Xc:Obj),((W6.drewN k).alloc Xc).cell? ⟨w1.heap.size+1,0,none⟩=some (.slice none 0 0):=λk Xc=>(jq (a:=⟨w1.heap.size+1,0,none⟩) (Below.heap_alloc _ _ _ zO6)).trans g26;have b1s:=b1.size;have zD:w2.heap.size+1<W2.heap.size:=by omega
   have s26:=bl6.size;have fin:∀(k g cap cp:Nat)(cur zs:Array H1)(Wf:jp),W2.heap.size<=g->W6.heap[g]? =some (.cells cur 5 (0,0))->14+xs.length<=cap->cur.toList.take (14+xs.length)=Lt.bm (mN++xs)->1<=cp->Wf.os=W6.os->Wf.tape=W6.tape->Wf.output=W6.output->
    Wf.heap=((((W6.drewN k).alloc (.cells #[.slice (some ⟨g,0,none⟩) (14+xs.length) cap] 26)).alloc (.cells (#[.slice (some ⟨g,0,none⟩) (14+xs.length) cap]++zs) 26)).setCell ⟨w1.heap.size+1,0,none⟩ (.slice (some ⟨W6.heap.size+1,0,none⟩) 1 cp)).heap->
    Wf.heap[w2.heap.size+1]? =some (.loop R1)/\(Wf.putObj (w2.heap.size+1) (.loop R0)).cell? ⟨w1.heap.size+1+1,0,none⟩=some (.slice (some ⟨b,o,none⟩) xs.length c)/\(Wf.putObj (w2.heap.size+1) (.loop R0)).frozen? ⟨w1.heap.size+1+1,0,none⟩=false/\(Wf.putObj (w2.heap.size+1) (.loop R0)).heap[w2.heap.size+1]? =some (.loop R0)/\(Wf.putObj (w2.heap.size+1) (.loop R0)).heap[w2.heap.size]? =some (.deferred (some []))/\RowKit.Below w1.heap.size w1 (Wf.putObj (w2.heap.size+1) (.loop R0))/\
     Chunk (Wf.putObj (w2.heap.size+1) (.loop R0)) w1.heap.size xs:=by
    intro k g cap cp cur zs Wf p1 p2 p3 p4 p5 p6 p7 p8 hh;have lg:g<W6.heap.size:=(fy.1 p2).1;have e6:∀q,q<W6.heap.size->q≠w1.heap.size+1->Wf.heap[q]? =W6.heap[q]? :=λq h1 h2=>by rw[hh,Below.heap_setCell _ _ _ q h2,Below.heap_alloc _ _ _ (by simp;omega),Below.heap_alloc _ _ _ (by exact h1)];rfl
    have e0:∀q,q<W2.heap.size->q≠w1.heap.size+1->Wf.heap[q]? =W2.heap[q]? :=λq h1 h2=>(e6 q (by omega) h2).trans (bl6.block q h1);have eN:Wf.heap[W6.heap.size+1]? =some (.cells (#[.slice (some ⟨g,0,none⟩) (14+xs.length) cap]++zs) 26):=by have q:=World.alloc_heap_new ((W6.drewN k).alloc (.cells #[.slice (some ⟨g,0,none⟩) (14+xs.length) cap] 26)) (.cells (#[.slice (some ⟨g,0,none⟩) (14+xs.length) cap]++zs) 26);rw[hh,Below.heap_setCell _ _ _ _ (by show W6.heap.size+1≠w1.heap.size+1;omega)];rw[jt] at q;exact q
    have eO:Wf.cell? ⟨w1.heap.size+1,0,none⟩=some (.slice (some ⟨W6.heap.size+1,0,none⟩) 1 cp):=by refine(jq (a:=⟨w1.heap.size+1,0,none⟩) (by rw[hh])).trans (World.cell?_setCell_same' _ _ _ ?_);rw[hw1];rfl
    have eg:=(e6 g lg (by omega)).trans p2;have po:∀q,q≠w2.heap.size+1->(Wf.putObj (w2.heap.size+1) (.loop R0)).heap[q]? =Wf.heap[q]? :=λq h=>World.putObj_heap_other h;have kf:=(e0 _ zD (by omega)).trans kl;refine⟨kf,?_,?_,World.putObj_heap_same (fy.1 kf).1,(po _ (by omega)).trans ((e0 _ (by omega) (by omega)).trans kd),⟨?_,?_,?_,?_,λq hq=>?_⟩,W6.heap.size+1,cp,g,cap,cur,?_,p5,by omega,by omega,?_,by omega,by omega,(po g (by omega)).trans eg,p3,p4⟩
    ·exact(jq (a:=⟨w1.heap.size+1+1,0,none⟩) ((po _ (by show w1.heap.size+1+1≠_;omega)).trans (e0 _ (by show w1.heap.size+1+1<_;omega) (by show w1.heap.size+1+1≠_;omega)))).trans g3
    ·exact(World.frozen?_of_block (a:=⟨w1.heap.size+1+1,0,none⟩) ((po _ (by show w1.heap.size+1+1≠_;omega)).trans (e0 _ (by show w1.heap.size+1+1<_;omega) (by show w1.heap.size+1+1≠_;omega)))).trans h3
    ·exact p6.trans (bl6.os.trans b1W.os)
    ·exact p7.trans (bl6.tape.trans b1W.tape)
    ·exact p8.trans (bl6.output.trans b1W.output)
    ·have:=(fy.1 eN).1;simp only[World.putObj_size];omega
    ·exact(po q (by omega)).trans ((e0 q (by omega) (by omega)).trans (b1W.block q hq))
    ·exact(jq (a:=⟨w1.heap.size+1,0,none⟩) (po _ (by show w1.heap.size+1≠_;omega))).trans eO
    ·refine(jq (a:=⟨W6.heap.size+1,0,none⟩) (po _ (by show W6.heap.size+1≠_;omega))).trans ?_;unfold World.cell?;simp only[eN];show(#[_]++zs)[0]? =_;rw[Array.getElem?_append_left (by simp)];rfl
   gi_region_with_o (refine⟨trivial,rfl,(CallsIn.inRound _ (callsIn_wide.2 HB.out)).mono ?_⟩;rintro e W7 ⟨g,cap,cur,rfl,hg1,hg2,hg3,hg4,k,rfl⟩;have hq:((W6.drewN (1+k)).alloc (.cells #[.slice (some ⟨g,0,none⟩) (14+xs.length) cap] 26)).cell? ⟨W6.heap.size,0,none⟩=some (.slice (some ⟨g,0,none⟩) (14+xs.length) cap):=(qL _ _ _).1)
   all_goals
    exact fin (1+k) g cap ((Question.appendCap 1 0 26).cut (W6.tape (W6.drewN (1+k)).drawn (.appendCap 1 0 26))) cur (Builtin.zeroCells #[.slice none 0 0] ((Question.appendCap 1 0 26).cut (W6.tape (W6.drewN (1+k)).drawn (.appendCap 1 0 26)) -1)) _ hg1 hg2 hg3 hg4 (by simp[Question.cut]) rfl rfl rfl rfl
  ·rintro e W ⟨rfl,x1,x2,x3,x4,x5,x6⟩
   have st:∀v q,q≠w1.heap.size+1+1->(W.setCell ⟨w1.heap.size+1+1,0,none⟩ v).heap[q]? =W.heap[q]? :=λv q h=>Below.heap_setCell _ _ _ q h;exact⟨rfl,x1,x2,λv=>⟨(st v _ (by omega)).trans x3,(st v _ (by omega)).trans x4,x5.setCell (p:=⟨w1.heap.size+1+1,0,none⟩) (by show _<=w1.heap.size+1+1;omega) _,x6.tL λq _ h=>st v q h⟩⟩
 rintro e W2 ⟨⟨v,rfl⟩,j1,j2,j3,j4⟩
 refine⟨⟨_,rfl⟩,j1,?_⟩;generalize iX fn _ _ _ _ _ .exhausted=R9;obtain⟨W3,hW3⟩:∃W3,W3=W2.putObj (w2.heap.size+1) (.loop R9):=⟨_,rfl⟩;have pk:∀k,k≠w2.heap.size+1->W3.heap[k]? =W2.heap[k]? :=λk hk=>by rw[hW3];exact World.putObj_heap_other hk
 obtain⟨g,cp,gb,cap,cur,y1,y2,y3,y4,y5,y6,y7,y8,y9,y10⟩:=j4;have c3:W3.cell? ⟨w1.heap.size+1,0,none⟩=some (.slice (some ⟨g,0,none⟩) 1 cp):=(jq (a:=⟨w1.heap.size+1,0,none⟩) (pk _ (by show w1.heap.size+1≠_;omega))).trans y1;have g3:W3.cell? ⟨g,0,none⟩=some (.slice (some ⟨gb,0,none⟩) (14+xs.length) cap):=by refine(jq (a:=⟨g,0,none⟩) (pk _ λq=>?_)).trans y5;have q:g=w2.heap.size+1:=q;have:=jb _ _ y5;unfold World.cell? at y5;rw[q,j1] at y5;cases y5
 have h3:W3.heap[gb]? =some (.cells cur 5 (0,0)):=by refine(pk _ λq=>?_).trans y8;rw[q,j1] at y8;cases y8
 have k3:W3.heap[w2.heap.size]? =some (.deferred (some [])):=(pk _ (by omega)).trans j2;have bl3:RowKit.Below w1.heap.size w1 W3:=by refine j3.trans ?_;rw[hW3];exact⟨rfl,rfl,rfl,by simp,λk hk=>World.putObj_heap_other (by omega)⟩
 rw[<-hW3];clear hW3
 gi_wp2
 refine⟨by simp,.inl ⟨_,_,rfl,run_takeDeferred k3,?_⟩⟩;refine⟨.tuple #[.slice (some ⟨g,0,none⟩) 1 cp,.int .i64 0],by simp[results,Tryz.f109,dA,go_sem],_,rfl,?_,?_⟩
 ·exact b1.trans ((bl3.mono b1.size).trans ⟨rfl,rfl,rfl,by simp,λk hk=>World.putObj_heap_other (by have:=b1.size;omega)⟩)
 ·have b1s:=b1.size;have e4:∀(q:Nat)(cs:Array H1)(t:TypeId)(fz:Nat×Nat),W3.heap[q]? =some (Obj.cells cs t fz)->(W3.putObj w2.heap.size (.deferred none)).heap[q]? =W3.heap[q]? :=λq cs t fz h=>World.putObj_heap_other λe=>(by rw[e,k3] at h;cases h);refine .row (ys:=[.slice (some ⟨gb,0,none⟩) (14+xs.length) cap]) (.cons ?_ .nil) (λi y hy=>?_) rfl y2 rfl
  ·refine .row (ys:=Lt.bm (mN++xs)) (Lt.Ez _) (λi y hy=>?_) rfl y9 (Lt.JF _);unfold Lt.cO;rw[aq (by show¬gb<_;omega),Lt.tO ((e4 gb _ _ _ h3).trans h3)];rw[<-y10,pX] at hy;split at hy
   ·simpa using hy
   ·cases hy
  ·have hi:i=0:=by
    cases i with
    |zero=>rfl
    |succ i=>cases hy
   subst hi;cases hy;unfold Lt.cO;rw[aq (by show¬g<_;omega)];obtain⟨cs,t,fz,hc⟩:∃cs t fz,W3.heap[g]? =some (.cells cs t fz):=by
    unfold World.cell? at g3;split at g3
    ·rename_i q;exact⟨_,_,_,q⟩
    ·cases g3
   rw[Lt.tO ((e4 g _ _ _ hc).trans hc)];unfold World.cell? at g3;simpa[hc] using g3
end
section
open Go.Shelf Go.RowKit Go.Lib
attribute [local go_sem] Oper.semAt_some
theorem DL{w:jp}{a:Hx Addr}{c:Nat}(HN:∀W,RowKit.Below w.heap.size w W->Calls Tryz.prog 167 #[.int .i64 0] W λe W'=>e=.returned (.int .i64 0)/\RowKit.Below W.heap.size W W'):
 Calls Tryz.prog 109 #[.slice a 0 c] w λe w'=>e=.returned (.tuple #[.slice none 0 0,.int .i64 0])/\RowKit.Below w.heap.size w w':=by
 refine(callsIn_wide (n:=0)).1 ?_;refine callsIn_of_wp_marks Tryz.func109 rfl trivial ?_ rfl;simp only[Tryz.ntmps109,p9,bW,List.length_nil,Nat.reduceAdd,Nat.reduceSub,pU,pV,pZ,pW,eK,ec]
 gi_wp2
 refine⟨trivial,rfl,(callsIn_wide.2 (HN _ (ft _ _))).mono ?_⟩
 rintro e w1 ⟨rfl,b1⟩
 gi_wp2
 refine⟨trivial,rfl,(callsIn_wide.2 (Vt _ _ _ _)).mono ?_⟩
 rintro e w2 ⟨rfl,rfl⟩
 gi_wp2
 have q2:=qL (w1.alloc (.cells #[.int .i64 0] 3)) (.slice none 0 0) 35;have q3:=qL ((w1.alloc (.cells #[.int .i64 0] 3)).alloc (.cells #[.slice none 0 0] 35)) (.slice a 0 c) 26;obtain⟨w2,hw2⟩:∃w2,w2=((w1.alloc (.cells #[.int .i64 0] 3)).alloc (.cells #[.slice none 0 0] 35)).alloc (.cells #[.slice a 0 c] 26):=⟨_,rfl⟩;have bw:RowKit.Below w1.heap.size w1 w2:=by rw[hw2];exact(((ft _ w1).alloc (aM _) _).alloc (by simp) _).alloc (by simp;omega) _
 have z2:w1.heap.size+3<=w2.heap.size:=by rw[hw2];simp
 have bb2:RowKit.Below (w1.heap.size+2) ((w1.alloc (.cells #[.int .i64 0] 3)).alloc (.cells #[.slice none 0 0] 35)) w2:=by rw[hw2];exact(ft _ _).alloc (by simp) _
 simp only[jt] at q2 q3;rw[<-hw2] at q3;have e2:=(bb2.cell (p:=⟨w1.heap.size+1,0,none⟩) (by show w1.heap.size+1<w1.heap.size+2;omega)).trans q2.1;obtain⟨e3,f3⟩:=q3;rw[<-hw2];clear q2 bb2 hw2;refine Bw (gf:=234) (lb:=#[.pointer (some ⟨w1.heap.size+1+1,0,none⟩)]) rfl (enters_of Tryz.func234 (by kernel_rfl) rfl) ?_;intro fn W1 hW1;refine(callsIn_wide (n:=0)).1 ?_;generalize hR0:iX fn _ _ _ _ _ .ready=R0 at hW1⊢;have bl:RowKit.Below w2.heap.size w2 W1:=by rw[hW1];exact((ft _ w2).alloc (aM _) _).alloc (by simp) _
 have d1:W1.heap[w2.heap.size]? =some (.deferred (some [])):=by rw[hW1];exact(Below.heap_alloc _ _ _ (by simp)).trans (World.alloc_heap_new w2 _)
 have d2:W1.heap[w2.heap.size+1]? =some (.loop R0):=by have:=World.alloc_heap_new (w2.alloc (.deferred (some []))) (.loop R0);rw[jt] at this;rw[hW1];exact this
 clear hW1;refine(agR (w1.heap.size+1+1) (w2.heap.size+1) a c W1 ((bl.cell (p:=⟨w1.heap.size+1+1,0,none⟩) (by show w1.heap.size+1+1<_;omega)).trans e3)).mono ?_
 rintro e W2 ⟨⟨v,rfl⟩,rfl⟩
 refine⟨⟨_,rfl⟩,d2,?_⟩;generalize iX fn _ _ _ _ _ .exhausted=R9;obtain⟨W3,hW3⟩:∃W3,W3=W2.putObj (w2.heap.size+1) (.loop R9):=⟨_,rfl⟩;have pk:∀k,k≠w2.heap.size+1->W3.heap[k]? =W2.heap[k]? :=λk hk=>by rw[hW3];exact World.putObj_heap_other hk
 have c3:W3.cell? ⟨w1.heap.size+1,0,none⟩=some (.slice none 0 0):=(jq (a:=⟨w1.heap.size+1,0,none⟩) (pk _ (by show w1.heap.size+1≠_;omega))).trans ((bl.cell (p:=⟨w1.heap.size+1,0,none⟩) (by show w1.heap.size+1<_;omega)).trans e2);have k3:W3.heap[w2.heap.size]? =some (.deferred (some [])):=(pk _ (by omega)).trans d1;have bl3:RowKit.Below w1.heap.size w1 W3:=by refine bw.trans ((bl.mono (by omega)).trans ?_);rw[hW3];exact⟨rfl,rfl,rfl,by simp,λk hk=>World.putObj_heap_other (by omega)⟩
 rw[<-hW3];clear hW3
 gi_wp2
 refine⟨by simp,.inl ⟨_,_,rfl,run_takeDeferred k3,?_⟩⟩;exact⟨.tuple #[.slice none 0 0,.int .i64 0],by simp[results,Tryz.f109,go_sem],rfl,b1.trans ((bl3.mono b1.size).trans ⟨rfl,rfl,rfl,by simp,λk hk=>World.putObj_heap_other (by have:=b1.size;omega)⟩)⟩
namespace Lt
noncomputable def Aj(N:Int->Hx Int)(x:H1):Hx (H1×Int):=jY x λxs=>ob (N xs.length) λk=>
 cond xs.isEmpty (cond (aj k 0) (some (ae 0 [],0)) none) (cond (aj k 1&&Nat.ble xs.length 65519) (some (ae 1 [ae (14+xs.length) (bm (mN++xs))],0)) none)
theorem QV{N:Int->Hx Int}{xs:qr Int}{r:H1×Int}(e:(ob (N xs.length) λk=>cond xs.isEmpty (cond (aj k 0) (some (ae 0 [],(0:Int))) none) (cond (aj k 1&&Nat.ble xs.length 65519) (some (ae 1 [ae (14+xs.length) (bm (mN++xs))],0)) none))=some r):
 (xs=[]/\N 0=some 0/\r=(ae 0 [],0))\/(0<xs.length/\xs.length<=65519/\N xs.length=some 1/\r=(ae 1 [ae (14+xs.length) (bm (mN++xs))],0)):=by
 replace e:=ax e;obtain⟨k,hk,e⟩:=e;cases xs with
 |nil=>
  left;cases hb:aj k 0 with
  |false=>simp[hb] at e
  |true=>have:=KI hb;subst this;exact⟨rfl,hk,(jH (show some _=some r from e)).symm⟩
 |cons a xs=>right;obtain⟨q,e2⟩:=bd (show cond (aj k 1&&Nat.ble (a::xs).length 65519) _ none=some r from e);rw[bB] at q;have:=KI q.1;subst this;exact⟨by simp,ed q.2,hk,(jH e2).symm⟩
theorem aag{N:Int->Hx Int}{x:H1}{r:H1×Int}(e:Aj N x=some r):bh [r.1]=true:=DA e λxs r e=>by rcases QV e with⟨_,_,rfl⟩|⟨_,_,_,rfl⟩<;>rfl
theorem aal{N:Int->Hx Int}(HN:cS Tryz.prog 167 [.i .i64] (.i .i64) N):cS Tryz.prog 109 [.v] ny (Aj N):=by
 refine .mk λls r e hl us hu=>?_;obtain⟨x,r1,us1,h1,h2,rfl⟩:=gM hu;obtain⟨rfl,rfl⟩:=nF h2;obtain rfl:=kX h1;replace e:Aj N x=some r:=e;have hc:∀(n k:Int),N n=some k->∀W,Calls Tryz.prog 167 #[.int .i64 n] W λe W'=>e=.returned (.int .i64 k)/\RowKit.Below W.heap.size W W':=λn k hk W=>by exact SP (HN [.i n] k hk (λx hx=>by simp at hx) _ rfl) (m:=λ_ _=>none) (λ_ _ _ h=>by cases h) (.cons (.int _ _) .nil)
 refine⟨xQ (aag e),_,rfl,zF λm args' w hm A=>?_⟩
 ·obtain⟨al⟩:=args';replace A:bI m _ al:=A;obtain⟨_,_,rfl,a0,A⟩:=PW.inv A;obtain rfl:=A.ee;obtain⟨xs,hK,hv⟩:=xq hm e a0;rcases QV hK with⟨rfl,k0,rfl⟩|⟨k1,k2,k3,rfl⟩
  ·rcases hv with⟨a,c,rfl,_⟩|⟨_,c,rfl⟩
   ·exact(DL λW _=>hc 0 0 k0 W).mono λe w' ⟨h1,h2⟩=>⟨_,h1,h2,.gy⟩
   ·exact(DL λW _=>hc 0 0 k0 W).mono λe w' ⟨h1,h2⟩=>⟨_,h1,h2,.gy⟩
  ·rcases hv with⟨⟨b,o,sp⟩,c,rfl,h3,h4⟩|⟨rfl,c,rfl⟩
   ·have hs:∀n v,aN m x v->v=.slice (some ⟨b,o,sp⟩) n c->0<n->sp=none:=by
     intro n v h q p;cases h<;>cases q
     ·assumption
     all_goals cases p
    have hs:=hs _ _ a0 rfl k1;subst hs;exact aam hm k1 k2 h3 (λi hi=>by rw[<-h4 i hi,Addr.add_lit]) λW _=>hc _ 1 k3 W
   ·simp at k1
end Lt
end
section
open Go.Shelf Go.RowKit Go.Lib
theorem abm(n:Nat)(hn:n<=1000000000)(w:jp):Calls Tryz.prog 115 #[.slice none 0 0,.int .i64 n] w λe w'=>∃v,e=.returned v/\RowKit.Below w.heap.size w w'/\w'.ownsRow w.heap.size 5 1 v 0 []:=by
 have mixed:Tryz.prog.follows .mixedOrders=true:=by kernel_rfl
 go_enter Tryz.func115,Tryz.ntmps115
 by_cases h0:n=0
 ·subst h0
  go_wp2
  go_ret
  exact⟨_,rfl,ft _ _,World.ownsRow_nil _ _ _ _⟩
 ·have hb:Tryz.t5.bytes=1:=rfl;have hc:=Lt.Ll (n:=n) (c:=0) (by omega) (by omega);have g1:¬281474976710656<Builtin.nextslicecap n 0*Tryz.t5.bytes:=by rw[hb];omega
  have g2:((n:Int)*(Tryz.t5.bytes:Int))<=281474976710656:=by rw[hb];omega
  have g3:(n:Int)<=9223372036854775807:=by omega
  go_wp2
  go_ret
  generalize hq:(Question.appendCap n 0 5).cut _=cp;have hcp:n<=cp/\cp<=maxLen:=by have hlt:=Nat.mod_lt (w.tape w.drawn (.appendCap n 0 5)) (show 0<2^63 -n by omega);rw[<-hq];unfold Question.cut maxLen;simp only;omega
  refine⟨_,rfl,((ft _ w).alloc (aM _) _).drew,rfl,.inr ⟨_,cp,_,rfl,aM _,World.alloc_heap_new w _,ib _,hcp.2,?_,by simp⟩⟩;simp[Builtin.zeroCells];omega
end
section
open Go.Shelf Go.RowKit Go.Lib
structure Dq(w:World)(r:Option Addr×Nat×Nat×List Value):Prop where
 len:r.2.2.2.length=r.2.1
 cell:∀a,r.1 =some a->∀j u,r.2.2.2[j]? =some u->w.cell? (a.add j)=some u
 nil:r.1 =none->r.2.1 =0
 one:∀u∈r.2.2.2,u.oneCell'=true
def jU(rows:qr (Hx Addr×Nat×Nat×qr H1)):Nat:=(rows.map λr=>r.2.1).sum
def rQ(rows:qr (Hx Addr×Nat×Nat×qr H1)):qr H1:=rows.flatMap λr=>r.2.2.2
theorem Y5:(Tryz.prog.info? 5).map (λi=>(i.zero,i.size,i.bytes))=some (some (.int .u8 0),1,1):=by kernel_rfl
theorem Fj{w:jp}{B:Nat}{e:TypeId}{k:Nat}{v:H1}{n:Nat}{xs:qr H1}(h:w.ownsRow B e k v n xs){q:Nat}(hq:v.ownBlock=some q):B<=q:=by
 obtain⟨_,⟨rfl,_⟩|⟨g,cp,_,rfl,hB,_⟩⟩:=h
 ·cases hq
 ·cases hq;exact hB
theorem ZA{p a:Hx Addr}{n cp c:Nat}(h:n<=cp)(w:jp):(Builtin.append_ #[26,26] 26 #[.slice p n cp,.slice a 0 c]).run Tryz.prog w=.ok (.slice p n cp) w:=by obtain⟨i,h1,_,h2,_⟩:=info_parts Y5;have A:Lt.uP Tryz.prog w #[26,26] #[.slice p n cp,.slice a 0 c] 26 26 5 (.slice 5) i p n cp (.slice a 0 c) 0:=⟨rfl,rfl,rfl,rfl,Tryz.underlying26,Tryz.underlying26,h1,.inl ⟨rfl,rfl⟩⟩;have:=Lt.xj A (rt:=26) (by omega) (vs:=#[]) (by cases a<;>simp[Lt.pg,Lt.oF,Builtin.firstCells,h2,Lt.Ey]) (w':=w) (by cases p<;>rfl);simpa using this
theorem QS(w:jp)(b o c:Nat)(rows:qr (Hx Addr×Nat×Nat×qr H1))(hk:rows.length<=c)(hc:∀i (h:i<rows.length),w.cell? ⟨b,o+i,none⟩=some (.slice rows[i].1 rows[i].2.1 rows[i].2.2.1))(hr:∀r∈rows,Dq w r)(hs:jU rows<=1000000000)(hl:rows.length<=1000):
 Calls Tryz.prog 61 #[.slice (some ⟨b,o,none⟩) rows.length c] w λe w'=>∃v,e=.returned v/\RowKit.Below w.heap.size w w'/\w'.ownsRow w.heap.size 5 1 v (jU rows) (rQ rows):=by
 have mixed:Tryz.prog.follows .mixedOrders=true:=by kernel_rfl
 go_enter Tryz.func61,Tryz.ntmps61
 go_wp2
 go_loopw [3,11] (λs p wr=>∃i:Nat,p=.int .i64 i/\i<=rows.length/\s=.int .i64 (jU (rows.take i))/\wr=w) (λs p wr=>rows.length -(Lib.intOf p).toNat)
 case atStart=>exact⟨0,rfl,ib _,rfl,rfl⟩
 case round=>
  obtain⟨i,rfl,hi,rfl,hw⟩:=hrel;have hw:=hw.symm;subst hw;rcases ia i rows.length with hin|hin
  ·have h0:=hc i hin;have hs1:jU (rows.take (i+1))=jU (rows.take i)+rows[i].2.1 :=by
    unfold jU;rw[List.take_add_one,cG hin,fS,List.sum_append];simp
   have hle:jU (rows.take (i+1))<=jU rows:=by
    unfold jU
    conv=>rhs;rw[<-lI (i+1) rows]
    rw[fS,List.sum_append];omega
   go_wp2_with fail
   refine⟨⟨i+1,by simp,by omega,?_,trivial⟩,by simp[Lib.intOf];omega⟩;rw[hs1];simp
  ·obtain rfl:i=rows.length:=by omega
   rw[oY]
   go_wp2_with (go_at_call 115;refine(abm (jU rows) hs _).mono ?_;rintro e w1 ⟨v,rfl,b1,o1⟩)
   obtain⟨ti,t1,t2,t3,t4⟩:=info_parts Y5
   go_loopw [6,27] (λs p wr=>∃i:Nat,p=.int .i64 i/\i<=rows.length/\wr.ownsRow w.heap.size 5 1 s (jU (rows.take i)) (rQ (rows.take i))/\RowKit.Below w.heap.size w wr) (λs p wr=>rows.length -(Lib.intOf p).toNat)
   case atStart=>exact⟨0,rfl,ib _,o1,b1⟩
   case round=>
    obtain⟨i,rfl,hi,ho,hb⟩:=hrel;rcases ia i rows.length with hin|hin
    ·have hr0:=hr rows[i] (cA hin);have h0:=hc i hin;have h0:=(hb.cell (jb _ _ h0)).trans h0;have hs1:jU (rows.take (i+1))=jU (rows.take i)+rows[i].2.1 :=by
      unfold jU;rw[List.take_add_one,cG hin,fS,List.sum_append];simp
     have hc1:rQ (rows.take (i+1))=rQ (rows.take i)++rows[i].2.2.2 :=by unfold rQ;rw[List.take_add_one,cG hin,fD];simp
     have hle:jU (rows.take (i+1))<=jU rows:=by
      unfold jU
      conv=>rhs;rw[<-lI (i+1) rows]
      rw[fS,List.sum_append];omega
     rw[hs1] at hle;generalize hR:rows[i]=r at*;obtain⟨a,n,c',xs⟩:=r;obtain⟨r1,r2,r3,r4⟩:=hr0;simp only at r1 r2 r3 r4 hle h0 hs1 hc1;cases a with
     |none=>
      have r3:=r3 rfl;subst r3;have:xs=[]:=kP r1;subst this;obtain⟨p,n',cp,rfl,hcp⟩:∃p n' cp,u6=.slice p n' cp/\n'<=cp:=by
       obtain⟨_,⟨rfl,_⟩|⟨g,cp,_,rfl,_,_,h,_⟩⟩:=ho
       ·exact⟨_,_,_,rfl,aM _⟩
       ·exact⟨_,_,_,rfl,h⟩
      go_wp2_with (at_builtin;refine wpList_append_run _ rfl _ _ 26 26 rfl _ _ rfl rfl _ _ (ZA hcp _) ?_)
      refine⟨⟨i+1,by simp,by omega,?_,hb⟩,by simp[Lib.intOf];omega⟩;rw[hs1,hc1];simpa using ho
     |some a=>
      have cell':∀j u,xs[j]? =some u->wr.cell? (a.add j)=some u:=λj u hu=>(hb.cell (jb _ _ (r2 a rfl j u hu))).trans (r2 a rfl j u hu)
      go_wp2_with (at_builtin;go_loud (refine wpList_append_own _ rfl _ _ 26 rfl w.heap.size 5 ti (.int .u8 0) 1 1 Tryz.underlying26 t1 t2 t3 t4 rfl (by decide) _ _ _ rfl ho a n c' xs rfl (by omega) cell' r4 (by unfold maxLen;omega) (by omega) hb.size ?_;intro v' w' ho' hg hnil))
      refine⟨⟨i+1,by simp,by omega,?_,?_⟩,by simp[Lib.intOf];omega⟩
      ·rw[hs1,hc1];exact ho'
      ·exact hb.grown hg hb.size λq e=>Fj ho e
    ·obtain rfl:i=rows.length:=by omega
     rw[oY] at ho
     go_wp2
     go_ret
     exact⟨_,rfl,hb,ho⟩
end
namespace Lt
section
open Go.Shelf Go.RowKit Go.Lib
def aad:HT:=⟨1,⟨[(0,.wF 0 0 4 4)],[(0,.cells [.gr 1 1,.v,.v,.v] 26),(1,.grow 1 5)],2⟩,0,⟨[(0,.gr 0 1)],[(0,.grow 1 5)],1⟩⟩
noncomputable def ug(w:Nat):H1->H1->H1->qr H1->Hx (qr H1):=λa b c d=>ob (rD d) λds=>jY a λxs=>jY b λys=>jY c λzs=>
 cond (Nat.blt 0 (ds++(xs++(ys++zs))).length&&Nat.ble (ds++(xs++(ys++zs))).length 1000000000) (some (bm (ds++(xs++(ys++zs))))) none
theorem Y8:∀{l:qr H1}{xs:qr Int},rD l=some xs->l=bm xs
 |[],_,e=>by cases e;rfl
 |v::l,xs,e=>by
  unfold rD at e;split at e
  ·rename_i q;cases q
  ·rename_i b l' q;cases q;replace e:=ax e;obtain⟨ys,h1,e⟩:=e;cases e;rw[Y8 h1];rfl
  ·cases e
theorem FO{β:Type}{m:Nat->Nat->Hx H1}{w:jp}(hm:Kn m w){x y:H1}{K:qr Int->Hx β}{b:β}(e:jY x K=some b)(r:aN m x y):
 ∃xs p c,K xs=some b/\y=.slice p xs.length c/\Dq w (p,xs.length,c,bm xs):=by
 have cells:∀(xs:qr Int)(a:Addr),(∀i,i<xs.length->w.cell? (a.add i)=some (.int .u8 (xs.getD i 0)))->∀j u,(bm xs)[j]? =some u->w.cell? (a.add j)=some u:=λxs a h j u hu=>by
  have hj:j<xs.length:=by
   rcases ia j xs.length with q|q
   ·exact q
   ·rw[kQ (by simp[bm];omega)] at hu;cases hu
  rw[h j hj];unfold bm at hu;rw[List.getElem?_map,cG hj] at hu;rw[wS,cG hj];simpa using hu
 obtain⟨xs,hK,⟨a,c,rfl,_,hc⟩|⟨rfl,c,rfl⟩⟩:=xq hm e r
 ·exact⟨xs,some a,c,hK,rfl,by simp[bm],λq hq=>by cases hq;exact cells xs a hc,(λq=>by cases q),tu _⟩
 ·exact⟨[],none,c,hK,rfl,rfl,(λ_ q=>by cases q),λ_=>rfl,tu _⟩
theorem acB{β:Type}{f:Fn [.v,.v,.v,.c] (Hx β)}{ls:qr bt}{r:β}(e:iM [.v,.v,.v,.c] f ls=some r):∃a b c d,ls=[.v a,.v b,.v c,.c d]:=by
 rcases ls with _|⟨l0,_|⟨l1,_|⟨l2,_|⟨l3,_|⟨l4,ls⟩⟩⟩⟩⟩
 ·cases e
 ·cases l0<;>cases e
 ·cases l0<;>(try cases e)<;>cases l1<;>cases e
 ·cases l0<;>(try cases e)<;>cases l1<;>(try cases e)<;>cases l2<;>cases e
 ·cases l0<;>(try(cases e;done))<;>cases l1<;>(try(cases e;done))<;>cases l2<;>(try(cases e;done))<;>cases l3<;>first|exact⟨_,_,_,_,rfl⟩|(cases e;done)
 ·cases l0<;>(try(cases e;done))<;>cases l1<;>(try(cases e;done))<;>cases l2<;>(try(cases e;done))<;>cases l3<;>cases e
theorem adN(w:Nat):nt Tryz.prog 61 aad (ug w):=by
 intro ls r st so e hst hso B0 σ w1 args' hn ha R M;obtain⟨a,b,c,d,rfl⟩:=acB e;replace e:ug w a b c d=some r:=e;cases hst;cases hso;unfold ug at e;replace e:=ax e;obtain⟨ds,hd,e⟩:=e;have hds:=Y8 hd;subst hds;have d0:=R 0 (.sl 0 0 4 4) rfl;obtain⟨al⟩:=args';obtain⟨v0,rfl⟩:∃v,al=[v]:=by
  match al,hn with
  |[v],_=>exact⟨v,rfl⟩
 replace d0:DV σ (.sl 0 0 4 4) v0:=d0;obtain⟨o0,m0,cz,k1,⟨fz,q1,q2⟩,k3⟩:=M.obj 0 (.cells [.gr 1 1,.v a,.v b,.v c] 26) rfl;have hv0:v0=.slice (some ⟨o0.1,0,none⟩) 4 4:=by
  cases d0 with
  |sl g _=>rw[k1] at g;cases g;rfl
 subst hv0;obtain⟨y0,l0,t0,x0,k3⟩:=k3.inv;obtain⟨y1,l1,t1,x1,k3⟩:=k3.inv;obtain⟨y2,l2,t2,x2,k3⟩:=k3.inv;obtain⟨y3,l3,t3,x3,k3⟩:=k3.inv;have t4:=k3.ee;subst t4 t3 t2 t1;have ms:∀{x y:H1},DV σ (.v x) y->aN σ.lit x y:=λd=>by cases d;assumption
 obtain⟨k5,k5',k6⟩:=M.obj 1 (.grow 1 (bm ds) 5) rfl;have hm:Kn σ.lit w1:=M.lit;obtain⟨xs,p1,n1,e1,rfl,t1⟩:=FO hm e (ms x1);obtain⟨ys,p2,n2,e2,rfl,t2⟩:=FO hm e1 (ms x2);obtain⟨zs,p3,n3,e3,rfl,t3⟩:=FO hm e2 (ms x3);obtain⟨q,e4⟩:=bd e3;rw[bB] at q;have hr:=jH e4;have hr1:=fb q.1;have hr2:=ed q.2;generalize hrs:ds++(xs++(ys++zs))=rs at hr hr1 hr2;subst hr;obtain⟨p0,n0,rfl,t0'⟩:∃p c,y0=.slice p ds.length c/\Dq w1 (p,ds.length,c,bm ds):=by
  cases x0 with
  |jP g=>
   rcases k6 with⟨_,hd0⟩|⟨o,n,_,g1,_⟩
   ·have:ds=[]:=by cases ds<;>simp_all[bm]
    subst this;exact⟨none,0,rfl,rfl,(λ_ q=>by cases q),λ_=>rfl,tu _⟩
   ·rw[g] at g1;cases g1
  |gr g hc hn'=>
   rename_i gn gc go;rcases k6 with⟨g1,_⟩|⟨o',n',cs,g1,⟨fz1,b1,b2⟩,b3,hlen,b4,b5⟩
   ·rw[g] at g1;cases g1
   ·have g9:=g.symm.trans g1;simp only[sX,Prod.mk.injEq] at g9;obtain⟨ho,hnn⟩:=g9;have hn:(bm ds).length=ds.length:=by simp[bm]
    refine⟨_,_,by rw[show gn=ds.length from(by rw[hnn,<-hn,hlen,gk])],by simp[bm],λq hq j u hu=>?_,(λq=>by cases q),tu _⟩;cases hq;obtain⟨u',a1,a2⟩:=b5.get hu;obtain⟨n8,_,h8⟩:=mF.1 (nZ hu);subst h8;cases a2;rw[Addr.add_lit,ho];unfold World.cell?;simp only[b1];rw[pX] at a1;split at a1
    ·simpa using a1
    ·cases a1
 have hcell:∀(i:Nat)(v:H1),cz.toList[i]? =some v->w1.cell? ⟨o0.1,0+i,none⟩=some v:=λi v hv=>by unfold World.cell?;simp only[q1];simpa using hv
 have hN:jU [(p0,ds.length,n0,bm ds),(p1,xs.length,n1,bm xs),(p2,ys.length,n2,bm ys),(p3,zs.length,n3,bm zs)]=rs.length:=by rw[<-hrs];simp[jU]
 have hC:rQ [(p0,ds.length,n0,bm ds),(p1,xs.length,n1,bm xs),(p2,ys.length,n2,bm ys),(p3,zs.length,n3,bm zs)]=bm rs:=by rw[<-hrs];simp[rQ,bm]
 refine(QS w1 o0.1 0 4 [(p0,ds.length,n0,bm ds),(p1,xs.length,n1,bm xs),(p2,ys.length,n2,bm ys),(p3,zs.length,n3,bm zs)] (by simp)
  (λi hi=>by
   have:i=0\/i=1\/i=2\/i=3:=by simp at hi;omega
   rcases this with rfl|rfl|rfl|rfl<;>exact hcell _ _ (by rw[t0];rfl))
  (λr hr=>by
   simp only[cZ,nk,nr] at hr;rcases hr with rfl|rfl|rfl|rfl
   ·exact t0'
   ·exact t1
   ·exact t2
   ·exact t3)
  (by rw[hN];exact hr2) (by simp)).mono ?_
 rintro x w' ⟨v,rfl,Bl,O⟩
 rw[hN,hC] at O;obtain⟨_,⟨_,h0⟩|⟨g,cap,cur,rfl,hB,hg,hnc,_,hcs,htk⟩⟩:=O
 ·omega
 rw[gk] at hcs htk;have hlr:(bm rs).length=rs.length:=by simp[bm]
 have all0:∀{i:Nat}{s:SO},(Tr.nil.set 0 (SO.grow 1 (bm rs) 5)).get i=some s->i=0/\s=.grow 1 (bm rs) 5:=λ{i s} hs=>by
  rw[Tr.fN] at hs;split at hs
  ·rename_i q;cases hs;exact⟨q,rfl⟩
  ·rw[Tr.get_nil] at hs;cases hs
 let σ':Ren:=⟨λid=>if id=0 then some (some (g,cur.size),rs.length) else none,σ.lit⟩
 have own:∀{b:Nat},Own σ' (hG (Tr.nil.set 0 (SO.grow 1 (bm rs) 5))) b->b=g:=λ⟨i,s,o,n,q,k,r⟩=>by obtain⟨rfl,_⟩:=all0 q;have k:some (some (g,cur.size),rs.length)=some (some o,n):=k;cases k;exact r.symm
 refine⟨σ',_,rfl,λsv hsv=>?_,⟨λi s hs=>?_,λi j s s' o o' n n' a1 a2 _ _ _=>by rw[(all0 a1).1,(all0 a2).1],λi hi=>aq (by have hi:1<=i:=hi;omega),λb i v h=>?_,λb i v h q=>?_,M.base.trans (.Ls Bl) λ_ q=>q.elim,λb q=>.inr (by rw[own q];exact fH M.base.size hB),M.mj,λk hk=>absurd hk (by rw[ha];exact Nat.not_lt_zero k),M.nM⟩⟩
 ·have hsv:some (SV.gr 0 1)=some sv:=hsv;cases hsv;exact .gr (σ:=σ') (o:=(g,cur.size)) rfl (by rw[hcs,gk]) hnc
 ·obtain⟨rfl,rfl⟩:=all0 hs;refine⟨by decide,JF _,.inr ⟨(g,cur.size),rs.length,cur,rfl,⟨(0,0),hg,Lm _⟩,rfl,by rw[hlr,gk],by rw[hlr,hcs];exact hnc,?_⟩⟩;rw[hlr,htk];exact Ez rs
 ·rw[r8 (Bl.block b (mP (M.lit b i v h)))];exact M.lit b i v h
 ·have:=mP (M.lit b i v h);rw[own q] at this;omega
end
end Lt
section
open Go.Shelf Go.RowKit Go.Lib
theorem tY:∀(vs:qr H1)(n:Nat)(c:qr H1),n+vs.length<=c.length->Lt.aW n vs c=c.take n++(vs++c.drop (n+vs.length))
 |[],n,c,_=>by simp[Lt.aW]
 |v::vs,n,c,h=>by simp only[bW] at h;rw[Lt.aW,tY vs (n+1) _ (by simp;omega),List.take_add_one,List.take_set_of_le (aM _),List.getElem?_set_self (by omega),List.drop_set_of_lt (by omega)];simp[show n+1+vs.length=n+(vs.length+1) by omega]
structure oq(b:Nat)(cs:Array Value)(t:TypeId)(fz:Nat×Nat)(w w':World):Prop where
 os:w'.os=w.os
 tape:w'.tape=w.tape
 output:w'.output=w.output
 size:w'.heap.size=w.heap.size
 block:∀k,k≠b->w'.heap[k]? =w.heap[k]?
 at_:w'.heap[b]? =some (.cells cs t fz)
theorem FR{P:Program}{w:jp}{T e ty:TypeId}{size:Nat}(hu:P.underlying T=some (.slice e))(hs:∀w,(sizeOf e).run P w=.ok size w){b1 o1 n1 c1 b2 o2 n2 c2 k:Nat}(hk:k=Nat.min n2 n1){cs1 cs2:Array H1}{t1 t2:TypeId}{fz1 fz2:Nat×Nat}
 (h1:w.heap[b1]? =some (.cells cs1 t1 fz1)) (hz:Lt.uS fz1 cs1.size) (h2:w.heap[b2]? =some (.cells cs2 t2 fz2)) (g1:o1+k*size<=cs1.size) (g2:o2+k*size<=cs2.size) (ho:∀v∈(cs2.toList.drop o2).take (k*size),v.oneCell'=true):
 ∃w',(Builtin.copy_ #[T,T] ty #[.slice (some ⟨b1,o1,none⟩) n1 c1,.slice (some ⟨b2,o2,none⟩) n2 c2]).run P w=.ok (.int .i64 k) w'/\oq b1 ⟨Lt.aW o1 ((cs2.toList.drop o2).take (k*size)) cs1.toList⟩ t1 fz1 w w':=by
 subst hk;obtain⟨vs,p1,p2⟩:=Lt.BE P h2 g2;have hl:vs.toList.length=Nat.min n2 n1*size:=by rw[p2,dE,er];simp;omega
 obtain⟨w',q1,q2,q3,q4,q5,q6,q7⟩:=Lt.BF P (k:=o1) vs.toList 0 w cs1 h1 hz (by omega) (λv hv=>ho v (p2▸hv));refine⟨w',?_,⟨q5,q6,q7,q4,q3,by rw[q2,p2];rfl⟩⟩;have hf:(Builtin.firstCells size (Nat.min n2 n1) (.slice (some ⟨b2,o2,none⟩) n2 c2)).run P w=.ok vs w:=by unfold Builtin.firstCells;exact p1
 unfold Builtin.copy_;simp only[List.getElem?_toArray,List.getElem?_cons_zero,List.getElem?_cons_succ,dA,run_underlying hu,hs,eW,Builtin.lenOf,eX,hf,q1];rfl
end
section
open Go.Shelf Go.RowKit Go.Lib
theorem zr:(Tryz.prog.info? 136).map (λi=>(i.zero,i.size,i.bytes))=some (some (.agg #[.int .i64 0,.int .i64 0,.int .i64 0,.slice none 0 0]),4,48):=by kernel_rfl
theorem CZ(w:jp):(sizeOf 136).run Tryz.prog w=.ok 4 w:=by obtain⟨i,h1,_,h2,_⟩:=info_parts zr;simp[sizeOf,typeInfo,h1,h2]
structure uV(w:World)(g n cp:Nat)(cur:Array Value):Prop where
 at_:w.heap[g]? =some (.cells cur 136 (0,0))
 size:cur.size=cp*4
 le:n<=cp
 few:n<1000000000
 one:∀v∈cur.toList.take (n*4),v.oneCell'=true
theorem uV.bh{w:jp}{g n cp:Nat}{cur:Array H1}(h:uV w g n cp cur){i:Nat}(hi:i<=n):∀v∈(cur.toList.drop (i*4)).take ((n -i)*4),v.oneCell'=true:=λv hv=>h.one v (by
 have:(cur.toList.drop (i*4)).take ((n -i)*4)=(cur.toList.take (n*4)).drop (i*4):=by rw[List.drop_take];congr 1;omega
 rw[this] at hv;exact qG hv)
theorem abN{L X S:qr H1}{i n:Nat}(hX:X.length=4)(hS:S.length=(n -i)*4)(h1:(i+1)*4+S.length<=L.length)(hi:i<=n):
 (Lt.aW (i*4) ((X.drop 0).take (1*4)) (Lt.aW ((i+1)*4) S L)).take ((n+1)*4)=L.take (i*4)++(X++S):=by
 have hx:(X.drop 0).take (1*4)=X:=by rw[ew,eQ (by omega)]
 have a1:∀D,(L.take ((i+1)*4)++(S++D)).take (i*4)=L.take (i*4):=λD=>by rw[List.take_append_of_le_length (by rw[dE];omega),List.take_take,kC (by omega)]
 have a2:∀D,(L.take ((i+1)*4)++(S++D)).drop (i*4+X.length)=S++D:=λD=>by rw[List.drop_left' (by rw[dE];omega)]
 rw[hx,tY X _ _ (by rw[Lt.nS];omega),tY S _ _ h1,a1,a2];rw[<-dM X,<-dM (L.take _),List.take_left' (by simp only[aT,dE];omega)]
theorem abS{w:jp}{g n cp i vb:Nat}{cur:Array H1}{X:qr H1}(hr:uV w g n cp cur)(hX:X.length=4)(hx1:∀v∈X,v.oneCell'=true)(hv:w.heap[vb]? =some (.cells ⟨X⟩ 136 (0,0)))(cL:vb≠g)(hi:i<n)(hc:n+1<=cp):
 Calls Tryz.prog 372 #[.slice (some ⟨g,0,none⟩) n cp,.int .i64 i,.slice (some ⟨vb,0,none⟩) 1 1] w λe w'=>∃cur',e=.returned (.slice (some ⟨g,0,none⟩) (n+1) cp)/\oq g cur' 136 (0,0) w w'/\cur'.toList.take ((n+1)*4)=cur.toList.take (i*4)++(X++(cur.toList.drop (i*4)).take ((n -i)*4)):=by
 have h1:=hr.bh (Nat.le_of_lt hi);obtain⟨hg,hsz,hn,hm,_⟩:=hr;have mixed:Tryz.prog.follows .mixedOrders=true:=by kernel_rfl
 have hcs:cur.toList.length=cp*4:=hsz;have hov:∀lb cb,(callFunc 433 #[.slice (some ⟨vb,0,none⟩) 1 1,.slice (some ⟨g,(i+1)*4,none⟩) lb cb]).run Tryz.prog w=.ok (.value (.bool false)) w:=λlb cb=>by
  rw[run_callFunc_extern Tryz.func433 (by kernel_rfl) (by kernel_rfl) (by kernel_rfl) (e:=Extern.SlicesOverlaps.overlaps #[25,25] #[4]) (by kernel_rfl),
   Lib.run_overlaps_apart w 25 4 136 Tryz.underlying25 4 CZ ⟨vb,0,none⟩ ⟨g,(i+1)*4,none⟩ 1 1 lb cb cL 136 136 4 (cp*4) (by simp[World.shape?,hv,hX]) (by simp[World.shape?,hg,hsz]) (by omega) (by simp[World.frozen?,hv]) (by simp[World.frozen?,hv])]
  rfl
 obtain⟨w1,p1,p2⟩:=FR (P:=Tryz.prog) (ty:=3) (T:=25) (w:=w.drew) Tryz.underlying25 CZ (b1:=g) (o1:=(i+1)*4) (n1:=n -i) (c1:=cp -(i+1)) (b2:=g) (o2:=i*4) (n2:=n+1 -i) (c2:=cp -i) (k:=n -i) (by simp only[Nat.min_def];split<;>omega) hg (.inl rfl) hg (by omega) (by omega) h1;have hl1:((cur.toList.drop (i*4)).take ((n -i)*4)).length=(n -i)*4:=by rw[dE,er];omega
 have e1:=tY ((cur.toList.drop (i*4)).take ((n -i)*4)) ((i+1)*4) cur.toList (by omega);have hv1:w1.heap[vb]? =some (.cells ⟨X⟩ 136 (0,0)):=(p2.block vb cL).trans hv;obtain⟨w2,q1,q2⟩:=FR (P:=Tryz.prog) (ty:=3) (T:=25) (w:=w1) Tryz.underlying25 CZ (b1:=g) (o1:=i*4) (n1:=n+1 -i) (c1:=cp -i) (b2:=vb) (o2:=0) (n2:=1) (c2:=1) (k:=1) (by simp only[Nat.min_def];split<;>omega) p2.at_ (.inl rfl) hv1 (by simp[Lt.nS];omega) (by simp[hX]) (λv h=>hx1 v (qG (uN h)))
 go_enter Tryz.func372,Tryz.ntmps372
 have n1:¬((i:Int)=(n:Int)):=by omega
 have n2:¬(cp:Int)<(n:Int)+1:=by omega
 have n3:¬cp=i+1:=by omega
 have n4:¬cp=i:=by omega
 have n5:IntKind.i64.wrap ((i:Int)+1)=(i:Int)+1:=by rw[IntKind.wrap_i64];omega
 have n6:(0:Int)<=(i:Int)+1:=by omega
 have n7:((i:Int)+1).toNat=i+1:=by omega
 have n8:(i:Int)+1<=(n:Int)+1:=by omega
 have n9:(i:Int)<=(n:Int)+1:=by omega
 have n10:n+1 -(i+1)=n -i:=by omega
 go_wp2_with (simp only[hov])
 go_region_law_o (refine step_copy_runI rfl _ _ 25 25 rfl _ _ (by simp[Act.eval,Act.put]) (by simp[Act.eval,Act.put]) p1 ?_)
 go_wp2_with (at_builtin;refine wpList_copy_runI _ rfl _ _ 25 25 rfl _ _ rfl rfl q1 ?_)
 go_ret
 refine⟨_,rfl,⟨q2.os.trans p2.os,q2.tape.trans p2.tape,q2.output.trans p2.output,q2.size.trans p2.size,λk hk=>(q2.block k hk).trans (p2.block k hk),q2.at_⟩,?_⟩;exact abN hX hl1 (by omega) (by omega)
end
section
open Go.Shelf Go.RowKit Go.Lib
theorem abO{L X S Z:qr H1}{i n:Nat}(hX:X.length=4)(hS:S.length=(n -i)*4)(hL:L.length=i*4)(hZ:(n+1 -i)*4<=Z.length)(hi:i<=n):
 (Lt.aW ((i+1)*4) S (Lt.aW (i*4) ((X.drop 0).take (1*4)) (L++Z))).take ((n+1)*4)=L++(X++S):=by
 have hx:(X.drop 0).take (1*4)=X:=by rw[ew,eQ (by omega)]
 have a0:(L++Z).length=i*4+Z.length:=by rw[aT,hL]
 have a1:(L++Z).take (i*4)=L:=List.take_left' hL;have a2:(L++(X++(L++Z).drop (i*4+X.length))).take ((i+1)*4)=L++X:=by rw[<-dM,List.take_left' (by rw[aT];omega)]
 rw[hx,tY X _ _ (by omega),a1,tY S _ _ (by simp only[aT,er];omega),a2];rw[<-dM,List.take_left' (by simp only[aT];omega),dM]
theorem abR{w:jp}{g n cp i vb:Nat}{cur:Array H1}{X:qr H1}(hr:uV w g n cp cur)(hX:X.length=4)(hx1:∀v∈X,v.oneCell'=true)(hv:w.heap[vb]? =some (.cells ⟨X⟩ 136 (0,0)))(hi:i<n)(hc:cp<n+1):
 Calls Tryz.prog 372 #[.slice (some ⟨g,0,none⟩) n cp,.int .i64 i,.slice (some ⟨vb,0,none⟩) 1 1] w λe w'=>∃cur' cp',e=.returned (.slice (some ⟨w.heap.size,0,none⟩) (n+1) cp')/\n+1<=cp'/\RowKit.Below w.heap.size w w'/\w'.heap[w.heap.size]? =some (.cells cur' 136 (0,0))/\
  cur'.toList.take ((n+1)*4)=cur.toList.take (i*4)++(X++(cur.toList.drop (i*4)).take ((n -i)*4)):=by
 have h1:=hr.bh (Nat.le_of_lt hi);obtain⟨hg,hsz,hn,hn9,_⟩:=hr;have mixed:Tryz.prog.follows .mixedOrders=true:=by kernel_rfl
 have hcs:cur.toList.length=cp*4:=hsz;obtain⟨inf,i1,i2,i3,i4⟩:=info_parts zr;obtain⟨old,o1,o2⟩:=Lt.BE Tryz.prog (w:=Lt.jy w) (b:=g) (k:=0) (n:=i*4) hg (by omega);have A:Lt.uP Tryz.prog w #[25,3] #[.slice (some ⟨g,0,none⟩) i cp,.int .i64 ((n:Int)+1 -i)] 25 3 136 (.int .i64) inf (some ⟨g,0,none⟩) i cp (.int .i64 ((n:Int)+1 -i)) (n+1 -i):=
  ⟨rfl,rfl,rfl,rfl,Tryz.underlying25,Tryz.underlying3,i1,.inr ⟨rfl,⟨_,by congr 1;simp;omega⟩,by omega,by rw[i4];omega⟩⟩
 have hcap:=Lt.Ll (n:=i+(n+1 -i)) (c:=cp) (by omega) (by omega);obtain⟨cap,k1,k2⟩:=Lt.Qx (rt:=25) A (by omega) (by omega) (by rw[i4];omega) (old:=old) (vs:=Builtin.zeroCells (.agg #[.int .i64 0,.int .i64 0,.int .i64 0,.slice none 0 0]:H1).cells (n+1 -i)) (z:=.agg #[.int .i64 0,.int .i64 0,.int .i64 0,.slice none 0 0]) (by rw[i3];exact o1) (by
  rw[i3];simp[Lt.pg,Lt.oF,zeroValue,typeInfo,i1,i2];intro h;omega) i2
 obtain⟨wa,hwa⟩:∃wa:jp,wa={Lt.jy w with heap:=w.heap.push (.cells (old++Builtin.zeroCells (.agg #[.int .i64 0,.int .i64 0,.int .i64 0,.slice none 0 0]:H1).cells (n+1 -i)++Builtin.zeroCells (.agg #[.int .i64 0,.int .i64 0,.int .i64 0,.slice none 0 0]:H1).cells (cap -(i+(n+1 -i)))) 136)}:=⟨_,rfl⟩;rw[<-hwa] at k2;rw[show i+(n+1 -i)=n+1 by omega] at k1 k2;have ba:RowKit.Below w.heap.size w wa:=by rw[hwa];exact⟨rfl,rfl,rfl,by simp[Lt.jy],λk hk=>by simp[Lt.jy,Array.getElem?_push,Nat.ne_of_lt hk]⟩
 have sz:wa.heap.size=w.heap.size+1:=by rw[hwa];simp
 have aa:wa.heap[w.heap.size]? =some (.cells (old++Builtin.zeroCells (.agg #[.int .i64 0,.int .i64 0,.int .i64 0,.slice none 0 0]:H1).cells (n+1 -i)++Builtin.zeroCells (.agg #[.int .i64 0,.int .i64 0,.int .i64 0,.slice none 0 0]:H1).cells (cap -(i+(n+1 -i)))) 136 (0,0)):=by rw[hwa];simp
 have ol:old.size=i*4:=by show old.toList.length=_;rw[o2,ew,dE];omega
 generalize hZ:Builtin.zeroCells (.agg #[.int .i64 0,.int .i64 0,.int .i64 0,.slice none 0 0]:H1).cells (n+1 -i)=Z1 at aa;generalize hY:Builtin.zeroCells (.agg #[.int .i64 0,.int .i64 0,.int .i64 0,.slice none 0 0]:H1).cells _=Z2 at aa;have l1:Z1.size=(n+1 -i)*4:=by rw[<-hZ];simp[Builtin.zeroCells,Value.cells]
 have l2:Z2.size=(cap -(n+1))*4:=by rw[<-hY];simp[Builtin.zeroCells,Value.cells];omega
 have la:(old++Z1++Z2).size=cap*4:=by simp only[Array.size_append,ol,l1,l2];omega
 have lg:g<w.heap.size:=(fy.1 hg).1;have lv:vb<w.heap.size:=(fy.1 hv).1;obtain⟨w1,p1,p2⟩:=FR (P:=Tryz.prog) (ty:=3) (T:=25) (w:=wa) Tryz.underlying25 CZ (b1:=w.heap.size) (o1:=i*4) (n1:=n+1 -i) (c1:=cap -i) (b2:=vb) (o2:=0) (n2:=1) (c2:=1) (k:=1) (by simp only[Nat.min_def];split<;>omega) aa (.inl rfl) ((ba.block vb lv).trans hv) (by rw[la];omega) (by simp[hX]) (λv h=>hx1 v (qG (uN h)));obtain⟨w2,q1,q2⟩:=FR (P:=Tryz.prog) (ty:=3) (T:=25) (w:=w1.drew) Tryz.underlying25 CZ (b1:=w.heap.size) (o1:=(i+1)*4) (n1:=n -i) (c1:=cap -(i+1)) (b2:=g) (o2:=i*4) (n2:=n -i) (c2:=cp -i) (k:=n -i) (by simp[Nat.min_def]) p2.at_ (.inl rfl) ((p2.block g (by omega)).trans ((ba.block g lg).trans hg)) (by
  show _<=(Lt.aW _ _ _).length;rw[Lt.nS];show _<=(old++Z1++Z2).size;rw[la];omega) (by omega) h1
 clear hwa hZ hY
 go_enter Tryz.func372,Tryz.ntmps372
 have n1:¬((i:Int)=(n:Int)):=by omega
 have n2:(cp:Int)<(n:Int)+1:=by omega
 have n3:¬cap=i+1:=by omega
 have n4:¬cap=i:=by omega
 have n4':¬cp=i:=by omega
 have n5:IntKind.i64.wrap ((i:Int)+1)=(i:Int)+1:=by rw[IntKind.wrap_i64];omega
 have n6:(0:Int)<=(i:Int)+1:=by omega
 have n7:((i:Int)+1).toNat=i+1:=by omega
 have n8:(i:Int)+1<=(n:Int)+1:=by omega
 have n9:(i:Int)<=(n:Int)+1:=by omega
 have n10:n+1 -(i+1)=n -i:=by omega
 have n11:i<=n:=by omega
 go_wp2_with (first|(at_builtin;refine wpList_append_run _ rfl _ _ 25 3 rfl _ _ rfl rfl _ _ k2 ?_)|(at_builtin;refine wpList_copy_runI _ rfl _ _ 25 25 rfl _ _ rfl rfl p1 ?_))
 go_region_law_o (refine step_copy_runI rfl _ _ 25 25 rfl _ _ (by simp[Act.eval,Act.put]) (by simp[Act.eval,Act.put]) q1 ?_)
 go_wp2
 go_ret
 have wb:∀{cs:Array H1}{a b:jp},oq w.heap.size cs 136 (0,0) a b->RowKit.Below w.heap.size a b:=λh=>⟨h.os,h.tape,h.output,sW h.size.symm,λk hk=>h.block k (by omega)⟩;refine⟨_,cap,rfl,by omega,ba.trans ((wb p2).trans ((ft _ w1).drew.trans (wb q2))),q2.at_,?_⟩;show(Lt.aW _ _ (Lt.aW _ _ (old++Z1++Z2).toList)).take _=_;have o3:old.toList=cur.toList.take (i*4):=by rw[o2,ew]
 rw[Array.toList_append,Array.toList_append,dM,o3];have hz1:Z1.toList.length=(n+1 -i)*4:=l1;exact abO hX (by rw[dE,er];omega) (by rw[dE];omega) (by rw[aT];omega) (by omega)
end
section
open Go.Shelf Go.RowKit Go.Lib
theorem abQ{w:jp}{B n vb:Nat}{v:H1}{cs X:qr H1}(ho:w.ownsRow B 136 4 v n cs)(hB:B<=w.heap.size)(hn:n<1000000000)(hX:X.length=4)(hx1:∀v∈X,v.oneCell'=true)(hv:w.heap[vb]? =some (.cells ⟨X⟩ 136 (0,0))):
 Calls Tryz.prog 372 #[v,.int .i64 n,.slice (some ⟨vb,0,none⟩) 1 1] w λe w'=>∃v',e=.returned v'/\w'.ownsRow B 136 4 v' (n+1) (cs++X)/\w.grownBy w' v.ownBlock:=by
 have mixed:Tryz.prog.follows .mixedOrders=true:=by kernel_rfl
 obtain⟨inf,i1,i2,i3,i4⟩:=info_parts zr;have cell:∀j u,X[j]? =some u->w.cell? (Addr.add ⟨vb,0,none⟩ j)=some u:=λj u hu=>by rw[Addr.add_lit];unfold World.cell?;simp only[hv];simpa using hu
 have ho':=ho;rcases ho.2 with⟨rfl,rfl⟩|⟨g,cp,cur,rfl,_,_,hle,_⟩
 ·go_enter Tryz.func372,Tryz.ntmps372
  go_wp2_with (at_builtin;refine wpList_append_own _ rfl _ _ 25 rfl B 136 inf _ 4 48 Tryz.underlying25 i1 i2 i3 i4 rfl (by decide) _ _ _ rfl ho' ⟨vb,0,none⟩ 1 1 X rfl (by omega) cell hx1 (by unfold maxLen;omega) (by omega) hB ?_;intro v' w' h1 h2 h3)
  go_ret
  exact⟨_,rfl,h1,h2⟩
 ·by_cases hcp:cp=n;all_goals
   go_enter Tryz.func372,Tryz.ntmps372
   go_wp2_with (at_builtin;refine wpList_append_own _ rfl _ _ 25 rfl B 136 inf _ 4 48 Tryz.underlying25 i1 i2 i3 i4 rfl (by decide) _ _ _ rfl ho' ⟨vb,0,none⟩ 1 1 X rfl (by omega) cell hx1 (by unfold maxLen;omega) (by omega) hB ?_;intro v' w' h1 h2 h3)
   go_ret
   exact⟨_,rfl,h1,h2⟩
def s8(w:jp)(B:Nat)(v:H1)(n:Nat)(cs:qr H1):Prop:=(v=.slice none 0 0/\n=0/\cs=[])\/∃g cp cur,v=.slice (some ⟨g,0,none⟩) n cp/\n<=cp/\B<=g/\w.heap[g]? =some (.cells cur 136 (0,0))/\cur.toList.take (n*4)=cs
theorem abP{w:jp}{B n i vb:Nat}{v:H1}{cs X:qr H1}(ho:w.ownsRow B 136 4 v n cs)(h1:∀v∈cs,v.oneCell'=true)(hB:B<=w.heap.size)(hn:n<1000000000)(hi:i<=n)(hX:X.length=4)(hx1:∀v∈X,v.oneCell'=true)(hv:w.heap[vb]? =some (.cells ⟨X⟩ 136 (0,0)))(cL:v.ownBlock≠some vb):
 Calls Tryz.prog 372 #[v,.int .i64 i,.slice (some ⟨vb,0,none⟩) 1 1] w λe w'=>∃v',e=.returned v'/\s8 w' B v' (n+1) (cs.take (i*4)++(X++cs.drop (i*4)))/\w.grownBy w' v.ownBlock:=by
 rcases ia i n with hin|hin
 ·rcases ho with⟨hl,⟨_,h0⟩|⟨g,cp,cur,rfl,hg1,hg2,hg3,hg4,hg5,hg6⟩⟩
  ·omega
  have T:uV w g n cp cur:=⟨hg2,hg5,hg3,hn,by rw[hg6];exact h1⟩;have e1:cur.toList.take (i*4)=cs.take (i*4):=by rw[<-hg6,List.take_take,kC (by omega)]
  have e2:(cur.toList.drop (i*4)).take ((n -i)*4)=cs.drop (i*4):=by rw[<-hg6,List.drop_take];congr 1;omega
  rcases ia cp (n+1) with hcp|hcp
  ·refine(abR T hX hx1 hv hin hcp).mono ?_
   rintro e w' ⟨cur',cp',rfl,a1,a2,a3,a4⟩
   rw[e1,e2] at a4;exact⟨_,rfl,.inr ⟨_,cp',cur',rfl,a1,hB,a3,a4⟩,⟨a2.os,a2.tape,a2.output,a2.size,λk hk _=>a2.block k hk⟩⟩
  ·refine(abS T hX hx1 hv (λe=>cL (by rw[e];rfl)) hin hcp).mono ?_
   rintro e w' ⟨cur',rfl,a1,a2⟩
   rw[e1,e2] at a2;exact⟨_,rfl,.inr ⟨_,cp,cur',rfl,hcp,hg1,a1.at_,a2⟩,⟨a1.os,a1.tape,a1.output,sW a1.size.symm,λk _ hk=>a1.block k (λe=>hk (by rw[e];rfl))⟩⟩
 ·obtain rfl:i=n:=by omega
  refine(abQ ho hB hn hX hx1 hv).mono ?_
  rintro e w' ⟨v',rfl,h2,h3⟩
  have hl:=ho.1;rw[eQ (by omega),uK (by omega),ea];rcases h2 with⟨_,⟨_,h0⟩|⟨g,cp,cur,rfl,a1,a2,a3,_,_,a6⟩⟩
  ·omega
  ·exact⟨_,rfl,.inr ⟨g,cp,cur,rfl,a3,a1,a2,a6⟩,h3⟩
end
section
open Go.Shelf Go.RowKit Go.Lib
theorem YL{P:Program}{ops:Array Oper}{o:Oper}{a:Act}{w:jp}{K:Act->jp->Prop}{Q:Exit->Act->jp->Prop}{E:Prop}
 (hg:o.guard=none) (d x:Operand) (dT sT:TypeId) (hop:o.op=Op.call {callee:=Callee.builtin Builtin.append,args:=#[d,x],argTypes:=#[dT,sT]})
 (v u:H1) (hd:a.eval d=v) (hx:a.eval x=u) {v':H1} {w':jp} (hr:(Builtin.append_ #[dT,sT] o.type #[v,u]).run P w=.ok v' w') (hK:K (a.put o.dst v') w'):
 if Region.wanted o (yielded ops a.tmps)=true then Oper.wp P o a w K Q else E:=by
 have hw:Region.wanted o (yielded ops a.tmps)=true:=by simp[Region.wanted,hg]
 rw[ay hw];unfold Oper.wp;simp[execOp,hop,resolve,invoke,builtin,hd,hx,hr,Result.andThen];exact hK
theorem aia{w:jp}{g off n c:Nat}{cur:Array H1}(hg:w.heap[g]? =some (.cells cur 136 (0,0)))(hn:n=1)(hle:off+4<=cur.size)(ty:TypeId):
 ∃w',(Builtin.clear_ #[25] ty #[.slice (some ⟨g,off,none⟩) n c]).run Tryz.prog w=.ok (.tuple #[]) w'/\oq g ⟨Lt.aW off [.int .i64 0,.int .i64 0,.int .i64 0,.slice none 0 0] cur.toList⟩ 136 (0,0) w w':=by
 subst hn;obtain⟨inf,i1,i2,i3,i4⟩:=info_parts zr;obtain⟨w',q1,q2,q3,q4,q5,q6,q7⟩:=Lt.BF Tryz.prog (k:=off) [.int .i64 0,.int .i64 0,.int .i64 0,.slice none 0 0] 0 w cur hg (.inl rfl) (by simpa using hle) (λv hv=>by simp at hv;rcases hv with rfl|rfl<;>rfl)
 refine⟨w',?_,⟨q5,q6,q7,q4,q3,q2⟩⟩;have hz:∀w,(zeroValue 136).run Tryz.prog w=.ok (.agg #[.int .i64 0,.int .i64 0,.int .i64 0,.slice none 0 0]) w:=λw=>by simp[zeroValue,typeInfo,i1,i2]
 have e:(Builtin.zeroCells (.agg #[.int .i64 0,.int .i64 0,.int .i64 0,.slice none 0 0]:H1).cells 1).toList=[.int .i64 0,.int .i64 0,.int .i64 0,.slice none 0 0]:=by simp[Builtin.zeroCells,Value.cells,List.range_succ]
 simp only[Builtin.clear_,List.getElem?_toArray,List.getElem?_cons_zero,dA,run_underlying Tryz.underlying25,eW,hz,e,q1];rfl
theorem aat{w:jp}{g n cp k:Nat}{cur:Array H1}(T:uV w g n cp cur)(hk:k<n):
 Calls Tryz.prog 454 #[.slice (some ⟨g,0,none⟩) n cp,.int .i64 k,.int .i64 (k+1)] w λe w'=>∃cur',e=.returned (.slice (some ⟨g,0,none⟩) (n -1) cp)/\oq g cur' 136 (0,0) w w'/\
  cur'.toList.take ((n -1)*4)=cur.toList.take (k*4)++(cur.toList.drop ((k+1)*4)).take ((n -(k+1))*4):=by
 have h1:=T.bh (i:=k+1) hk;obtain⟨hg,hsz,hn,hf,_⟩:=T;have mixed:Tryz.prog.follows .mixedOrders=true:=by kernel_rfl
 have hcs:cur.toList.length=cp*4:=hsz;obtain⟨inf,i1,i2,i3,i4⟩:=info_parts zr;have hl1:((cur.toList.drop ((k+1)*4)).take ((n -(k+1))*4)).length=(n -(k+1))*4:=by rw[dE,er];omega
 obtain⟨xp,hxp⟩:∃xp:Addr,xp=if cp=k+1 then⟨g,0,none⟩ else⟨g,(k+1)*4,none⟩:=⟨_,rfl⟩;obtain⟨w1,p1,p2⟩:∃w1,(Builtin.append_ #[25,25] 25 #[.slice (some ⟨g,0,none⟩) k cp,.slice (some xp) (n -(k+1)) (cp -(k+1))]).run Tryz.prog w.drew=.ok (.slice (some ⟨g,0,none⟩) (n -1) cp) w1/\oq g ⟨Lt.aW (k*4) ((cur.toList.drop ((k+1)*4)).take ((n -(k+1))*4)) cur.toList⟩ 136 (0,0) w.drew w1:=by
  obtain⟨vs,o1,o2⟩:∃vs,(loadCells xp ((n -(k+1))*4)).run Tryz.prog w.drew=.ok vs w.drew/\vs.toList=(cur.toList.drop ((k+1)*4)).take ((n -(k+1))*4):=by
   by_cases hq:cp=k+1
   ·have:n -(k+1)=0:=by omega
    rw[this];exact⟨#[],Lt.Ey _ _ _,by simp⟩
   ·rw[hxp,aq hq];exact Lt.BE Tryz.prog (w:=w.drew) hg (by omega)
  obtain⟨w',q1,q2,q3,q4,q5,q6,q7⟩:=Lt.BF Tryz.prog (k:=k*4) vs.toList 0 w.drew cur hg (.inl rfl) (by rw[o2];omega) (by rw[o2];exact h1);have A:Lt.uP Tryz.prog w.drew #[25,25] #[.slice (some ⟨g,0,none⟩) k cp,.slice (some xp) (n -(k+1)) (cp -(k+1))] 25 25 136 (.slice 136) inf (some ⟨g,0,none⟩) k cp (.slice (some xp) (n -(k+1)) (cp -(k+1))) (n -(k+1)):=
   ⟨rfl,rfl,rfl,rfl,Tryz.underlying25,Tryz.underlying25,i1,.inl ⟨rfl,rfl⟩⟩
  have r:=Lt.xj A (rt:=25) (by omega) (vs:=vs) (by rw[i3];exact o1) (w':=w') (by rw[i3];simpa[Lt.CU,Addr.add_lit] using q1);rw[show k+(n -(k+1))=n -1 by omega] at r;exact⟨w',r,⟨q5,q6,q7,q4,q3,by rw[q2,o2];simp⟩⟩
 have hp2:=p2.at_;obtain⟨w2,c1,c2⟩:=aia (w:=w1) (g:=g) (off:=(n -1)*4) (n:=1) (c:=cp -(n -1)) hp2 rfl (by simp[Lt.nS];omega) 0;have hls:(Lt.aW ((n -1)*4) [.int .i64 0,.int .i64 0,.int .i64 0,.slice none 0 0] (Lt.aW (k*4) ((cur.toList.drop ((k+1)*4)).take ((n -(k+1))*4)) cur.toList)).take ((n -1)*4)=cur.toList.take (k*4)++(cur.toList.drop ((k+1)*4)).take ((n -(k+1))*4):=by
  have e:(n -1)*4=k*4+(n -(k+1))*4:=by omega
  generalize(cur.toList.drop ((k+1)*4)).take ((n -(k+1))*4)=S at hl1⊢;have h3:(cur.toList.take (k*4)).length=k*4:=by rw[dE];omega
  rw[tY _ _ _ (by simp[Lt.nS];omega),List.take_left' (by simp[Lt.nS];omega),tY S _ _ (by omega),<-dM,e,<-hl1,List.take_left' (by simp[h3])]
 go_enter Tryz.func454,Tryz.ntmps454
 have n1:((k:Int)+1).toNat=k+1:=by omega
 have n2:n -(n -1)=1:=by omega
 have n3:¬cp=n -1:=by omega
 have n4:¬cp=k:=by omega
 have n5:((k:Int)=(k:Int)+1)=False:=eq_false (by omega);have n6:(k:Int)<=(k:Int)+1:=by omega
 have n7:(k:Int)+1<=(n:Int):=by omega
 have n8:(k:Int)<=(cp:Int):=by omega
 have n9:(n:Int)<=(cp:Int):=by omega
 have n10:(0:Int)<=(k:Int)+1:=by omega
 have n11:(k:Int)<=(n:Int):=by omega
 by_cases hq:cp=k+1
 ·rw[ay hq] at hxp;subst hxp;obtain rfl:n=k+1:=by omega
  subst hq;simp only[Nat.sub_self,Nat.add_sub_cancel,IT] at p1 p2 c1 c2 hl1 hls n3 n2⊢
  go_wp2
  go_region_law_o (refine YL rfl _ _ 25 25 rfl _ _ (by simp[Act.eval,Act.put]) (by simp[Act.eval,Act.put]) p1 ?_)
  go_wp2
  go_ret
  exact⟨_,rfl,⟨c2.os.trans p2.os,c2.tape.trans p2.tape,c2.output.trans p2.output,c2.size.trans p2.size,λk hk=>(c2.block k hk).trans (p2.block k hk),c2.at_⟩,hls⟩
 ·rw[aq hq] at hxp;subst hxp
  go_wp2
  go_region_law_o (refine YL rfl _ _ 25 25 rfl _ _ (by simp[Act.eval,Act.put]) (by simp[Act.eval,Act.put]) p1 ?_)
  go_wp2
  go_ret
  exact⟨_,rfl,⟨c2.os.trans p2.os,c2.tape.trans p2.tape,c2.output.trans p2.output,c2.size.trans p2.size,λk hk=>(c2.block k hk).trans (p2.block k hk),c2.at_⟩,hls⟩
end
section
open Go.Shelf Go.RowKit Go.Lib
theorem Z6{w:jp}{a:Hx Addr}{n c:Nat}{xs:qr H1}(hs:a=none->n=0)(hc:∀x,a=some x->∀j u,xs[j]? =some u->w.cell? (x.add j)=some u)(hl:xs.length=n*4)(hn:n<1000000000)(h1:∀v∈xs,v.oneCell'=true):
 Calls Tryz.prog 315 #[.slice a n c] w λe w'=>∃v,e=.returned v/\w'.ownsRow w.heap.size 136 4 v n xs/\RowKit.Below w.heap.size w w':=by
 have mixed:Tryz.prog.follows .mixedOrders=true:=by kernel_rfl
 obtain⟨inf,i1,i2,i3,i4⟩:=info_parts zr;have q22:∀(w:jp)(a:Hx Addr)(n c n' c':Nat),(binOp .eql 25 (.slice a n c) (.slice none n' c')).run Tryz.prog w=.ok (.bool a.isNone) w:=λw a n c n' c'=>Lib.run_eql_slice_nil w _ _ a n c n' c' Tryz.underlying25;cases a with
 |none=>
  obtain rfl:=hs rfl;have:=kP (by omega:xs.length=0);subst this;clear hc
  go_enter Tryz.func315,Tryz.ntmps315
  go_wp2
  go_ret
  exact⟨_,rfl,World.ownsRow_nil _ _ _ _,ft _ _⟩
 |some a=>
  have A:Aside (∀j u,xs[j]? =some u->w.cell? (a.add j)=some u):=hc _ rfl;clear hc
  go_enter Tryz.func315,Tryz.ntmps315
  go_wp2_with (at_builtin;refine wpList_append_own _ rfl _ _ 25 rfl w.heap.size 136 inf _ 4 48 Tryz.underlying25 i1 i2 i3 i4 rfl (by decide) _ _ _ rfl (World.ownsRow_made w #[] 0 (aM _) (ib _) rfl) a n c xs rfl ?qc1 ?qc2 ?qc3 ?qc4 ?qc5 ?qc6 ?_)
  case qc1=>omega
  case qc2=>exactλj u hj=>Lib.cell?_alloc_some _ (A.out j u hj)
  case qc3=>exact h1
  case qc4=>unfold maxLen;omega
  case qc5=>omega
  case qc6=>simp
  intro v' w1 hown hgrow hnil
  go_wp2
  go_ret
  refine⟨v',rfl,by simpa using hown,?_⟩;exact((Below.refl _ w).alloc (aM _) _).grown hgrow (by simp) (by intro k hk;simp[Value.ownBlock] at hk;omega)
end
namespace Lt
section
open Go.Shelf Go.RowKit Go.Lib
abbrev o7:=Int->Int->H1->Hx (Int×Int×H1)
abbrev qJ:=H1->Int->Hx (Int×Bool)
abbrev nA:VT:=.agg [.i .i64,.i .i64,.v]
theorem Calls.get{P:Program}{g:FuncId}{args:Array H1}{w:jp}{R:Ending->jp->Prop}(h:Calls P g args w R):∃e w',R e w':=(h []).imp λ_ ⟨w',_,r,_⟩=>⟨w',r⟩
theorem Ff{P:Program}{g:FuncId}{O:o7}(HO:cS P g [nA] nA O){a b:Int}{d:H1}{r:Int×Int×H1}(e:O a b d=some r)(hd:gD d/\bh [d]=true){m0:Nat->Nat->Hx H1}{W0:jp}{y0:H1}(hm0:Kn m0 W0)(L0:aN m0 d y0):
 (gD r.2.2 /\bh [r.2.2]=true)/\∀{m:Nat->Nat->Hx H1}{W:jp}{y:H1},Kn m W->aN m d y->Calls P g #[.agg #[.int .i64 a,.int .i64 b,y]] W λe W'=>∃z,e=.returned (.agg #[.int .i64 r.1,.int .i64 r.2.1,z])/\RowKit.Below W.heap.size W W'/\aN (cO m W W') r.2.2 z:=by
 obtain⟨a',b',d'⟩:=r;have key:∀{m:Nat->Nat->Hx H1}{W:jp}{y:H1},Kn m W->aN m d y->Calls P g #[.agg #[.int .i64 a,.int .i64 b,y]] W λe W'=>bh [d']=true/\∃z,e=.returned (.agg #[.int .i64 a',.int .i64 b',z])/\RowKit.Below W.heap.size W W'/\aN (cO m W W') d' z:=by
  intro m W y hm L;refine(HO [.i a,.i b,.v d] (a',b',d') e (λx hx=>by simp at hx;rw[hx];exact hd.2) _ rfl m _ W hm (.cons (.Lr (.cons (.int _ _) (.cons (.int _ _) (.cons L .nil)))) .nil)).mono λe w' ⟨v',q1,q2,pv,f2,f1,q3⟩=>?_;have f2:some (Value.agg #[.int .i64 a',.int .i64 b',d'],([]:qr bt))=some (pv,[]):=f2;cases f2;refine⟨f1 d' (by show bt.v d'∈[bt.i a',bt.i b',bt.v d'];simp),?_⟩;subst q1;cases q3 with
  |@agg xs xs' h0 h=>
  obtain⟨xl⟩:=xs';obtain⟨_,_,rfl,h1,T1⟩:=PW.inv (show bI (cO m W w') [.int .i64 a',.int .i64 b',d'] xl from⟨h0,h⟩);cases h1;obtain⟨_,_,rfl,h2,T2⟩:=PW.inv T1;cases h2;obtain⟨_,_,rfl,h3,T3⟩:=PW.inv T2;obtain rfl:=T3.ee;exact⟨_,rfl,q2,h3⟩
 obtain⟨_,_,on,_⟩:=Calls.get (key hm0 L0);exact⟨⟨on,on⟩,λhm L=>(key hm L).mono λ_ _ h=>h.2⟩
theorem Jq{P:Program}{g:FuncId}{A:qJ}(HA:cS P g [.v,.i .i64] (.aG [.i .i64,.b]) A){x:H1}{t:Int}{r:Int×Bool}(e:A x t=some r)(hx:gD x/\bh [x]=true):
 ∀{m:Nat->Nat->Hx H1}{W:jp}{y:H1},Kn m W->aN m x y->Calls P g #[y,.int .i64 t] W λe W'=>e=.returned (.tuple #[.int .i64 r.1,.bool r.2])/\RowKit.Below W.heap.size W W':=by
 obtain⟨k,q⟩:=r;intro m W y hm L;refine(HA [.v x,.i t] (k,q) e (λz hz=>by simp at hz;rw[hz];exact hx.2) _ rfl m _ W hm (.cons L (.cons (.int _ _) .nil))).mono λe w' ⟨v',q1,q2,pv,f2,_,q3⟩=>?_;have f2:some (Value.tuple #[.int .i64 k,.bool q],([]:qr bt))=some (pv,[]):=f2;cases f2;subst q1;cases q3 with
 |@aG xs xs' h0 h=>
 obtain⟨xl⟩:=xs';obtain⟨_,_,rfl,h1,T1⟩:=PW.inv (show bI (cO m W w') [.int .i64 k,.bool q] xl from⟨h0,h⟩);cases h1;obtain⟨_,_,rfl,h2,T2⟩:=PW.inv T1;cases h2;obtain rfl:=T2.ee;exact⟨rfl,q2⟩
end
section
open Go.Shelf Go.RowKit Go.Lib
noncomputable def nQ(O:o7):qr H1->Hx (qr H1)
 |[]=>some []
 | .int .i64 t::.int .i64 a::.int .i64 b::d::r=>cond (bh [d]) (ob (O a b d) λp=>ob (nQ O r) λs=>some (.int .i64 t::.int .i64 p.1 ::.int .i64 p.2.1 ::p.2.2 ::s)) none
 |_=>none
theorem Vr{O:o7}{l r:qr H1}(h:0<l.length)(e:nQ O l=some r):∃t a b d l' p r',l=.int .i64 t::.int .i64 a::.int .i64 b::d::l'/\bh [d]=true/\O a b d=some p/\nQ O l'=some r'/\r=.int .i64 t::.int .i64 p.1 ::.int .i64 p.2.1 ::p.2.2 ::r':=by
 unfold nQ at e;split at e
 ·simp at h
 ·obtain⟨h1,e⟩:=bd e;replace e:=ax e;obtain⟨p,h2,e⟩:=e;replace e:=ax e;obtain⟨s,h3,e⟩:=e;exact⟨_,_,_,_,_,p,s,rfl,h1,h2,h3,(jH e).symm⟩
 ·cases e
structure Dg(m:Nat->Nat->Option Value)(w:World)(v:Value)(n:Nat)(cs:List Value)(wr:World):Prop where
 below:RowKit.Below w.heap.size w wr
 row:∃(m':Nat->Nat->Option Value)(xs:List Value),wr.ownsRow w.heap.size 136 4 v n xs/\bI m' cs xs/\Kn m' wr/\(∀q,v.ownBlock=some q->∀i,m' q i=none)/\(∀b i u,m b i=some u->m' b i=some u)/\(∀b i u,m' b i=some u->cO m w wr b i=some u)
theorem ownsRow_form{w:jp}{B:Nat}{e:TypeId}{k:Nat}{v:H1}{n:Nat}{xs:qr H1}(h:w.ownsRow B e k v n xs):∃p cp,v=.slice p n cp/\n<=cp:=by
 obtain⟨_,⟨rfl,rfl⟩|⟨g,cp,_,rfl,_,_,h,_⟩⟩:=h
 ·exact⟨_,_,rfl,aM _⟩
 ·exact⟨_,_,rfl,h⟩
theorem aN.nP{m:Nat->Nat->Hx H1}{x y:H1}(h:aN m x y)(o:bh [x]=true):y.oneCell'=true:=by cases h<;>first|rfl|cases o
theorem alS(w:jp)(a b c:H1){y:H1}(h:y.oneCell'=true):(store ⟨w.heap.size,3,none⟩ y).run Tryz.prog (w.alloc (.cells #[a,b,c,.slice none 0 0] 136))=.ok () (w.alloc (.cells #[a,b,c,y] 136)):=by rw[run_store _ _ _ _ _ h];simp[go_sem]
theorem IP{w:jp}{g k:Nat}{cur:Array H1}{t:TypeId}{fz:Nat×Nat}(h:w.heap[g]? =some (.cells cur t fz))(v:H1):oq g ⟨cur.toList.set k v⟩ t fz w (w.setCell ⟨g,k,none⟩ v):=
 ⟨rfl,rfl,rfl,Xx _ _ _,λ_ hk=>Xv v hk,by rw[Xw h];cases cur;simp⟩
theorem Iy{w:jp}{g o:Nat}{cur:Array H1}{t:TypeId}(h:w.heap[g]? =some (.cells cur t (0,0)))(hl:o+4<=cur.size)(a b:Int){z:H1}(hz:z.oneCell'=true):
 (∃v,w.cell? ⟨g,o+1,none⟩=some v)/\(∃v,w.cell? ⟨g,o+2,none⟩=some v)/\(∀k,w.frozen? ⟨g,k,none⟩=false)/\(∃v,(w.setCell ⟨g,o+1,none⟩ (.int .i64 a)).cell? ⟨g,o+2,none⟩=some v)/\
 ∃w',(store ⟨g,o+3,none⟩ z).run Tryz.prog ((w.setCell ⟨g,o+1,none⟩ (.int .i64 a)).setCell ⟨g,o+2,none⟩ (.int .i64 b))=.ok () w'/\oq g ⟨((cur.toList.set (o+1) (.int .i64 a)).set (o+2) (.int .i64 b)).set (o+3) z⟩ t (0,0) w w':=by
 have c:∀{W:jp}{cs:Array H1}(k:Nat),W.heap[g]? =some (.cells cs t (0,0))->W.cell? ⟨g,k,none⟩=cs[k]? :=λk h=>by unfold World.cell?;simp[h]
 have f:∀{W:jp}{cs:Array H1}(k:Nat),W.heap[g]? =some (.cells cs t (0,0))->W.frozen? ⟨g,k,none⟩=false:=λk h=>by unfold World.frozen?;simp[h]
 have q1:=IP (k:=o+1) h (.int .i64 a);have q2:=IP (k:=o+2) q1.at_ (.int .i64 b);have q3:=IP (k:=o+3) q2.at_ z;refine⟨⟨cur[o+1],by rw[c _ h];simp⟩,⟨cur[o+2],by rw[c _ h];simp⟩,λk=>f k h,?_,((w.setCell ⟨g,o+1,none⟩ (.int .i64 a)).setCell ⟨g,o+2,none⟩ (.int .i64 b)).setCell ⟨g,o+3,none⟩ z,?_,⟨rfl,rfl,rfl,q3.size.trans (q2.size.trans q1.size),λk hk=>(q3.block k hk).trans ((q2.block k hk).trans (q1.block k hk)),q3.at_⟩⟩
 ·rw[c _ q1.at_];exact⟨(cur.toList.set (o+1) (.int .i64 a))[o+2]'(by simp;omega),by simp⟩
 ·have e:((w.setCell ⟨g,o+1,none⟩ (.int .i64 a)).setCell ⟨g,o+2,none⟩ (.int .i64 b)).cell? ⟨g,o+3,none⟩=some (((cur.toList.set (o+1) (.int .i64 a)).set (o+2) (.int .i64 b))[o+3]'(by simp;omega)):=by rw[c _ q2.at_];simp
  rw[run_store _ _ _ _ _ hz,e];simp[f _ q2.at_]
theorem bI.ac5{m:Nat->Nat->Hx H1}{a b:qr H1}(h:bI m a b){j:Nat}{u:H1}(e:b[j]? =some u):KW u=false:=by have:=(oW.1 e).1;have hl:=h.1;exact(h.2 j a[j] u (by simp) e).TY
structure Zq(O:o7)(m:Nat->Nat->Option Value)(w:World)(v:Value)(n:Nat)(res:List Value)(i:Nat)(wr:World):Prop where
 below:RowKit.Below w.heap.size w wr
 row:∃(m':Nat->Nat->Option Value)(done rest rest' xs:List Value),wr.ownsRow w.heap.size 136 4 v n xs/\bI m' (done++rest) xs/\Kn m' wr/\(∀q,v.ownBlock=some q->∀i,m' q i=none)/\(∀b i u,m b i=some u->m' b i=some u)/\(∀b i u,b<w.heap.size->m' b i=some u->m b i=some u)/\
  done.length=i*4/\nQ O rest=some rest'/\done++rest'=res/\(∀x∈done++rest,gD x)
theorem bI.split{m:Nat->Nat->Hx H1}{a b ys:qr H1}(h:bI m (a++b) ys):∃y z,ys=y++z/\bI m a y/\bI m b z:=
 ⟨ys.take a.length,ys.drop a.length,(lI ..).symm,by have:=PW.take h a.length;rwa[List.take_left'] at this;rfl,by have:=PW.drop h a.length;rwa[List.drop_left'] at this;rfl⟩
theorem bI.join{m:Nat->Nat->Hx H1}{a b y z:qr H1}(h:bI m a y)(k:bI m b z):bI m (a++b) (y++z):=PW.append h k
theorem bI.len{m:Nat->Nat->Hx H1}{a b:qr H1}(h:bI m a b):a.length=b.length:=h.1
theorem bI.mono{m m':Nat->Nat->Hx H1}{xs ys:qr H1}(h:bI m xs ys)(e:∀b i v,m b i=some v->m' b i=some v):bI m' xs ys:=PW.mono (λ_ _=>aN.mono e) h
theorem Fi{O:o7}(HO:cS Tryz.prog 267 [nA] nA O){m:Nat->Nat->Hx H1}{w:jp}{a:Hx Addr}{n c:Nat}{cs xs res:qr H1}(hm:Kn m w)(hL:bI m cs xs)(hp:∀x∈cs,gD x)(he:nQ O cs=some res)
 (hs:a=none->n=0) (hc:∀x,a=some x->∀j u,xs[j]? =some u->m x.block (x.off+j)=some u) (hsp:∀x,a=some x->0<n->x.spot=none) (hl:xs.length=n*4) (hn:n<1000000000) (h1:∀v∈xs,v.oneCell'=true):
 Calls Tryz.prog 371 #[.slice a n c] w λe w'=>∃v,e=.returned v/\Dg m w v n res w':=by
 have mixed:Tryz.prog.follows .mixedOrders=true:=by kernel_rfl
 have hcl:Aside (∀x,a=some x->∀j u,xs[j]? =some u->w.cell? (x.add j)=some u):=λx hx j u hu=>by
  obtain⟨b,o,sp⟩:=x;obtain rfl:=hsp _ hx (by have:=(oW.1 hu).1;omega);rw[Addr.add_lit];refine Ew ?_ (hm _ _ _ (hc _ hx j u hu));obtain⟨i1,hi1⟩:=oW.1 hu;have hj:j<cs.length:=by rw[hL.len];exact i1
  exact bI.ac5 hL hu
 clear hc
 go_enter Tryz.func371,Tryz.ntmps371
 go_wp2_with (go_at_call 315;refine(Z6 hs hcl hl hn h1).mono ?_;rintro e w1 ⟨v,rfl,o1,b1⟩;obtain⟨p,cp,rfl,hcp⟩:=ownsRow_form o1)
 go_loopw [10] (λq wr=>∃i:Nat,q=.int .i64 i/\i<=n/\Zq O m w (.slice p n cp) n res i wr) (λq wr=>n -(Lib.intOf q).toNat)
 case atStart=>exact⟨0,rfl,ib _,b1,m,[],cs,res,xs,o1,hL,hm.below b1,λq hq i=>(by
  have:=Fj o1 hq;cases e:m q i with
  |none=>rfl
  |some u=>have:=mP (hm _ _ _ e);omega),λ_ _ _ h=>h,λ_ _ _ _ h=>h,rfl,he,rfl,hp⟩
 case round=>
  obtain⟨i,rfl,hi,⟨bl,m',done,rest,rest',ys,o2,L2,k2,z2,e2,n2,d2,r2,q2,p2⟩⟩:=hrel;rcases ia i n with hin|hin
  ·have hlen:=L2.len;obtain⟨y1,y2,rfl,La,Lb⟩:=L2.split;have hb:0<rest.length:=by have:=o2.1;simp at hlen this;omega
   obtain⟨t,va,vb,d,l',r,r',rfl,od,e3,e4,rfl⟩:=Vr hb r2;obtain⟨_,_,rfl,l1,Lc⟩:=PW.inv Lb;cases l1;obtain⟨_,_,rfl,l1,Ld⟩:=PW.inv Lc;cases l1;obtain⟨_,_,rfl,l1,Le⟩:=PW.inv Ld;cases l1;obtain⟨y,y3,rfl,l1,Lf⟩:=PW.inv Le;clear Lb Lc Ld Le;have hd:gD d/\bh [d]=true:=⟨p2 d (by simp),od⟩;obtain⟨hd',own⟩:=Ff HO e3 hd k2 l1;have hy:y1.length=i*4:=by rw[<-La.len];exact d2
   obtain⟨g,cur,rfl,hg1,hmx,hg2,hsz,hcur⟩:∃g cur,p=some ⟨g,0,none⟩/\w.heap.size<=g/\cp<=maxLen/\wr.heap[g]? =some (.cells cur 136 (0,0))/\cur.size=cp*4/\cur.toList.take (n*4)=y1++(.int .i64 t::.int .i64 va::.int .i64 vb::y::y3):=by
    obtain⟨_,⟨_,h⟩|⟨g,cp',cur,e,h1,h2,h3,h4,h5,h6⟩⟩:=o2
    ·omega
    ·cases e;exact⟨g,cur,rfl,h1,h4,h2,h5,h6⟩
   have cl:∀k,(cur.toList.take (n*4))[i*4+k]? =(Value.int .i64 t::.int .i64 va::.int .i64 vb::y::y3)[k]? :=λk=>by rw[hcur,uL (by omega)];congr 1;omega
   have ce:∀k,k<4->wr.cell? ⟨g,i*4+k,none⟩=(Value.int .i64 t::.int .i64 va::.int .i64 vb::y::y3)[k]? :=λk hk=>by rw[<-cl k,zJ (by omega)];unfold World.cell?;simp[hg2]
   have c0:wr.cell? ⟨g,i*4,none⟩=some (.int .i64 t):=ce 0 (by omega);have c1:wr.cell? ⟨g,i*4+1,none⟩=some (.int .i64 va):=ce 1 (by omega);have c2:wr.cell? ⟨g,i*4+2,none⟩=some (.int .i64 vb):=ce 2 (by omega);have c3:wr.cell? ⟨g,i*4+3,none⟩=some y:=ce 3 (by omega);clear ce cl;have hy1:y.oneCell'=true:=aN.nP l1 od;have hst:=alS wr (.int .i64 t) (.int .i64 va) (.int .i64 vb) hy1;have hin':(i:Int)<(n:Int):=by omega
   have ba:RowKit.Below wr.heap.size wr (wr.alloc (.cells #[.int .i64 t,.int .i64 va,.int .i64 vb,y] 136)):=(ft _ wr).alloc (aM _) _;have kz:Kn m' (wr.alloc (.cells #[.int .i64 t,.int .i64 va,.int .i64 vb,y] 136)):=k2.below ba;have gl:g<wr.heap.size:=(fy.1 hg2).1
   go_wp2_with (go_at_call 267;refine(own kz l1).mono ?_;rintro e wy ⟨z,rfl,by1,lz⟩;have bz:RowKit.Below wr.heap.size wr wy:=ba.trans (by1.mono (by simp));have hz1:z.oneCell'=true:=aN.nP lz hd'.2;have hgy:=(bz.block g gl).trans hg2;obtain⟨⟨v1,s1⟩,⟨v2,s2⟩,sf,⟨v3,s3⟩,wz,s4,s5⟩:=Iy hgy (o:=i*4) (by omega) r.1 r.2.1 hz1;have mo:=kz.mono (w':=wy);have kn:=kz.new by1;obtain⟨m2,hm2⟩:∃m2,m2=cO m' (wr.alloc (.cells #[.int .i64 t,.int .i64 va,.int .i64 vb,y] 136)) wy:=⟨_,rfl⟩;rw[<-hm2] at mo kn lz;have lo:∀b i,b<wr.heap.size->m2 b i=m' b i:=λb i hb=>(by rw[hm2];unfold cO;rw[ay (by simp;omega)]);clear ba kz hgy hm2)
   have hd1:∀k (u:H1) (x:qr H1),(y1++x).set (i*4+k) u=y1++x.set k u:=λk u x=>by rw[List.set_append_right _ _ (by omega)];congr 2;omega
   have hc2:((((cur.toList.set (i*4+1) (.int .i64 r.1)).set (i*4+2) (.int .i64 r.2.1)).set (i*4+3) z).take (n*4))=y1++(.int .i64 t::.int .i64 r.1 ::.int .i64 r.2.1 ::z::y3):=by rw[List.take_set,List.take_set,List.take_set,hcur,hd1,hd1,hd1];rfl
   have bw:RowKit.Below w.heap.size w wz:=bl.trans ((bz.mono bl.size).trans ⟨s5.os,s5.tape,s5.output,sW s5.size.symm,λk hk=>s5.block k (by omega)⟩);have g9:∀i,m2 g i=none:=λi=>(lo g i gl).trans (z2 g rfl i);refine⟨⟨i+1,by simp,by omega,bw,m2,done++[.int .i64 t,.int .i64 r.1,.int .i64 r.2.1,r.2.2],l',r',y1++(.int .i64 t::.int .i64 r.1 ::.int .i64 r.2.1 ::z::y3),?_,?_,?_,?_,?_,?_,?_,e4,?_,?_⟩,by simp[Lib.intOf];omega⟩
   ·refine⟨?_,.inr ⟨g,cp,_,rfl,hg1,s5.at_,hcp,hmx,?_,hc2⟩⟩
    ·have:=o2.1;simp at this⊢;omega
    ·simpa using hsz
   ·rw[dM];exact(La.mono mo).join (.cons (.int _ _) (.cons (.int _ _) (.cons (.int _ _) (.cons lz (bI.mono Lf mo)))))
   ·intro b j u hu;have hb:b≠g:=λe=>by rw[e,g9] at hu;cases hu
    exact(r8 (s5.block b hb)).trans (kn b j u hu)
   ·rintro q ⟨⟩;exact g9
   ·exactλb j u h=>mo _ _ _ (e2 _ _ _ h)
   ·exactλb j u hb h=>n2 _ _ _ hb ((lo b j (by have:=bl.size;omega)).symm.trans h)
   ·simp;omega
   ·rw[dM];exact q2
   ·intro x hx;simp only[dM,fT,cZ,nk,nr,ec,eK] at hx p2;rcases hx with hx|rfl|rfl|rfl|rfl|hx
    ·exact p2 x (.inl hx)
    ·rfl
    ·rfl
    ·rfl
    ·exact hd'.1
    ·exact p2 x (.inr (.inr (.inr (.inr (.inr hx)))))
  ·have hr:rest=[]:=kP (by have h1:=L2.len;have h2:=o2.1;simp at h1;omega);subst hr;obtain rfl:rest'=[]:=(jH r2).symm;rw[ea] at q2 L2;subst q2;obtain rfl:i=n:=by omega
   go_wp2
   go_ret
   refine⟨_,rfl,bl,m',ys,o2,L2,k2,z2,e2,λb j u h=>?_⟩;unfold cO;split
   ·exact n2 _ _ _ ‹_› h
   ·exact k2 _ _ _ h
end
section
open Go.Shelf Go.RowKit Go.Lib
theorem bI.nP{m:Nat->Nat->Hx H1}{a b:qr H1}(h:bI m a b)(o:bh a=true)(v:H1)(hv:v∈b):v.oneCell'=true:=by obtain⟨i,hi⟩:=List.mem_iff_getElem?.1 hv;have:=(oW.1 hi).1;have hl:=h.1;exact(h.2 i a[i] v (by simp) hi).nP (iW.1 o _ (cA _))
abbrev Di(c:qr H1):Prop:=(∀x∈c,gD x)/\bh c=true
theorem Di.of{c:qr H1}(h:bh c=true):Di c:=⟨iW.1 h,h⟩
theorem yb(a b:qr H1)(h:bh a=true)(k:bh b=true):bh (a++b)=true:=iW.2 λx hx=>(fT.1 hx).elim (iW.1 h x) (iW.1 k x)
theorem FP{m:Nat->Nat->Hx H1}{x v:H1}{n:Nat}{cs:qr H1}(h:rowOf x=some (n,cs))(l:aN m x v)(hl:cs.length=n*4):
 ∃a c xs,v=.slice a n c/\bI m cs xs/\(a=none->n=0)/\(∀x,a=some x->∀j u,xs[j]? =some u->m x.block (x.off+j)=some u)/\(∀x,a=some x->0<n->x.spot=none)/\Di cs:=by
 have:=FN h;subst this;cases l with
 |lC r1 r2 q hs hn ho=>exact⟨_,_,_,rfl,⟨r1,r2⟩,(λh=>by cases h),(λx h=>by cases h;exact q),(λx h _=>by cases h;exact hs),.of ho⟩
 |gy=>exact⟨_,_,[],rfl,.nil,λ_=>rfl,λ_ _ j u h=>by simp at h,(λ_ _ h=>absurd h (Nat.lt_irrefl 0)),.of rfl⟩
theorem Bf{P:Program}{g:FuncId}{O:o7}(HO:cS P g [nA] nA O){m:Nat->Nat->Hx H1}{w:jp}(hm:Kn m w):∀{l xs r:qr H1},bI m l xs->(∀x∈l,gD x)->nQ O l=some r->Di r/\r.length=l.length
 |[],_,r,_,_,e=>by cases e;exact⟨.of rfl,rfl⟩
 |[_],_,_,_,_,e=>by unfold nQ at e;split at e<;>first|(rename_i q;cases q;done)|cases e
 |[_,_],_,_,_,_,e=>by unfold nQ at e;split at e<;>first|(rename_i q;cases q;done)|cases e
 |[_,_,_],_,_,_,_,e=>by unfold nQ at e;split at e<;>first|(rename_i q;cases q;done)|cases e
 |x0::x1::x2::x3::l,xs,r,L,p,e=>by obtain⟨t,a,b,d,l',q,r',h1,h2,h3,h4,rfl⟩:=Vr (by simp) e;cases h1;obtain⟨_,_,rfl,_,L⟩:=PW.inv L;obtain⟨_,_,rfl,_,L⟩:=PW.inv L;obtain⟨_,_,rfl,_,L⟩:=PW.inv L;obtain⟨_,_,rfl,l3,L⟩:=PW.inv L;obtain⟨i1,i2⟩:=Bf HO hm L (λx hx=>p x (by simp[hx])) h4;have hd:=(Ff HO h3 ⟨p x3 (by simp),h2⟩ hm l3).1;exact⟨.of (yb [.int .i64 t,.int .i64 q.1,.int .i64 q.2.1] _ rfl (yb [q.2.2] r' hd.2 i1.2)),by simp[i2]⟩
theorem LZ{l:qr H1}(h:bh l=true)(k:Nat):bh (l.take k)=true:=qY h λ_ q=>uN q
theorem Vd{l:qr H1}(h:bh l=true)(k:Nat):bh (l.drop k)=true:=qY h λ_ q=>qG q
theorem Dg.shown{m:Nat->Nat->Hx H1}{w wr:jp}{v:H1}{n:Nat}{cs:qr H1}(h:Dg m w v n cs wr)(ho:bh cs=true):aN (λb i=>fP wr b i) (ae n cs) v:=by
 obtain⟨m',xs,⟨hl,⟨rfl,rfl⟩|⟨g,cp,cur,rfl,h1,h2,h3,h4,h5,h6⟩⟩,L,k,_⟩:=h.row
 ·have:cs=[]:=kP (by rw[L.len];omega);subst this;exact .gy
 ·refine .row (L.mono λb i u hu=>k b i u hu) (λi y hy=>?_) rfl h3 ho;rw[tO h2,fU];rw[<-h6] at hy;rw[pX] at hy;split at hy
  ·simpa using hy
  ·cases hy
noncomputable def xy(O:o7)(A:qJ)(x:H1)(t:Int):Hx H1:=ob (rowOf x) λp=>cond (Nat.beq p.2.length (p.1 *4)&&Nat.blt p.1 1000000000) (ob (nQ O p.2) λres=>ob (A (ae p.1 res) t) λq=>cond q.2 (cond (decide (0<=q.1)&&Nat.blt q.1.toNat p.1) (some (ae (p.1 -1) (res.take (q.1.toNat*4)++(res.drop ((q.1.toNat+1)*4)).take ((p.1 -(q.1.toNat+1))*4)))) none) (some (ae p.1 res))) none
theorem FQ{m m':Nat->Nat->Hx H1}{w W:jp}{v:H1}{n:Nat}{cs ys:qr H1}(R:s8 W w.heap.size v n ys)(L:bI m' cs ys)(k:Kn m' W)(e:∀b i u,b<w.heap.size->m' b i=some u->m b i=some u)(ho:bh cs=true):aN (cO m w W) (ae n cs) v:=by
 have mo:∀b i u,m' b i=some u->cO m w W b i=some u:=λb i u h=>by
  unfold cO;split
  ·exact e _ _ _ ‹_› h
  ·exact k _ _ _ h
 rcases R with⟨rfl,rfl,rfl⟩|⟨g,cp,cur,rfl,h1,h2,h3,h4⟩
 ·rw[show cs=[] from kP L.1];exact .gy
 ·refine .row (L.mono mo) (λi y hy=>?_) rfl h1 ho;show cO m w W g (0+i)=_;unfold cO;rw[aq (by omega),tO h3,fU];rw[<-h4,pX] at hy;split at hy
  ·simpa using hy
  ·cases hy
theorem agN{w:jp}{B:Nat}{v:H1}{n:Nat}{xs:qr H1}(h:w.ownsRow B 136 4 v n xs):s8 w B v n xs:=by
 obtain⟨hl,⟨rfl,rfl⟩|⟨g,cp,cur,rfl,h1,h2,h3,_,_,h6⟩⟩:=h
 ·exact .inl ⟨rfl,rfl,kP (by omega)⟩
 ·exact .inr ⟨g,cp,cur,rfl,h3,h1,h2,h6⟩
theorem yg{w w':jp}{B:Nat}{v:H1}{n:Nat}{xs:qr H1}(h:w.ownsRow B 136 4 v n xs)(b:RowKit.Below w.heap.size w w'):w'.ownsRow B 136 4 v n xs:=by
 obtain⟨hl,h|⟨g,cp,cur,h0,h1,h2,h3⟩⟩:=h
 ·exact⟨hl,.inl h⟩
 ·exact⟨hl,.inr ⟨g,cp,cur,h0,h1,(b.block g (fy.1 h2).1).trans h2,h3⟩⟩
theorem aas{w:jp}{B n k:Nat}{v:H1}{ys:qr H1}(o:w.ownsRow B 136 4 v n ys)(h1:∀v∈ys,v.oneCell'=true)(hk:k<n)(hn:n<1000000000):
 Calls Tryz.prog 454 #[v,.int .i64 k,.int .i64 (k+1)] w λe w'=>∃v',e=.returned v'/\s8 w' B v' (n -1) (ys.take (k*4)++(ys.drop ((k+1)*4)).take ((n -(k+1))*4))/\w.grownBy w' v.ownBlock:=by
 rcases o with⟨hl,⟨_,h0⟩|⟨g,cp,cur,rfl,hg1,hg2,hg3,hg4,hg5,hg6⟩⟩
 ·omega
 have T:uV w g n cp cur:=⟨hg2,hg5,hg3,hn,by rw[hg6];exact h1⟩;have e1:cur.toList.take (k*4)=ys.take (k*4):=by rw[<-hg6,List.take_take,kC (by omega)]
 have e2:(cur.toList.drop ((k+1)*4)).take ((n -(k+1))*4)=(ys.drop ((k+1)*4)).take ((n -(k+1))*4):=by rw[<-hg6,List.drop_take,List.take_take,show min ((n -(k+1))*4) (n*4 -(k+1)*4)=(n -(k+1))*4 by omega]
 refine(aat T hk).mono ?_
 rintro e w' ⟨cur',rfl,a1,a2⟩
 rw[e1,e2] at a2;exact⟨_,rfl,.inr ⟨_,cp,cur',rfl,by omega,hg1,a1.at_,a2⟩,⟨a1.os,a1.tape,a1.output,sW a1.size.symm,λk _ hk=>a1.block k (λe=>hk (by rw[e];rfl))⟩⟩
theorem Kn.grown{m:Nat->Nat->Hx H1}{w w':jp}{q:Hx Nat}(h:Kn m w)(g:w.grownBy w' q)(z:∀b,q=some b->∀i,m b i=none):Kn m w':=λb i u hu=>by have hb:=mP (h b i u hu);refine(r8 (g.block b hb λe=>?_)).trans (h b i u hu);have:=z b (by first|exact e|exact e.symm) i;rw[this] at hu;cases hu
theorem Dg.back{m m':Nat->Nat->Hx H1}{w W:jp}(k:Kn m' W)(e:∀b i u,m' b i=some u->b<w.heap.size->m b i=some u):∀b i u,m' b i=some u->cO m w W b i=some u:=λb i u h=>by
 unfold cO;split
 ·exact e _ _ _ h ‹_›
 ·exact k _ _ _ h
theorem aaD{O:o7}{A:qJ}(HO:cS Tryz.prog 267 [nA] nA O)(HA:cS Tryz.prog 266 [.v,.i .i64] (.aG [.i .i64,.b]) A){x r:H1}{t:Int}(e:xy O A x t=some r)(hx:gD x):
 (gD r/\bh [r]=true)/\∀{m:Nat->Nat->Hx H1}{w:jp}{y:H1},Kn m w->aN m x y->Calls Tryz.prog 397 #[y,.int .i64 t] w λe w'=>∃v',e=.returned v'/\RowKit.Below w.heap.size w w'/\aN (cO m w w') r v':=by
 have mixed:Tryz.prog.follows .mixedOrders=true:=by kernel_rfl
 unfold xy at e;replace e:=ax e;obtain⟨⟨n,cs⟩,hr,e⟩:=e;obtain⟨q,e⟩:=bd e;rw[bB] at q;have hl:cs.length=n*4:=bX q.1;have hn:n<1000000000:=fb q.2;replace e:=ax e;obtain⟨res,ho,e⟩:=e;replace e:=ax e;obtain⟨⟨k,is⟩,ha,e⟩:=e;have hat:=@Jq _ _ _ HA _ _ _ ha ⟨rfl,rfl⟩;cases is with
 |false=>
  cases e;refine⟨⟨rfl,rfl⟩,λ{m w y} hm L=>?_⟩;obtain⟨a,c,xs,rfl,L2,h1,h2,h3,hcp⟩:=FP hr L hl;obtain⟨pr,lr⟩:=Bf HO hm L2 hcp.1 ho
  go_enter Tryz.func397,Tryz.ntmps397
  go_wp2_with (first|(go_at_call 371;refine(Fi HO hm L2 hcp.1 ho h1 h2 h3 (by rw[<-L2.len];exact hl) hn (L2.nP hcp.2)).mono ?_;rintro e w1 ⟨v,rfl,o1⟩;obtain⟨p,cp,rfl,hcp⟩:=(show∃p cp,v=.slice p n cp/\n<=cp from by obtain⟨_,_,o,_⟩:=o1.row;exact ownsRow_form o))|(go_at_call 266;refine(hat (λ_ _ _ h=>h) (o1.shown pr.2)).mono ?_;rintro e w2 ⟨rfl,b2⟩))
  go_ret
  obtain⟨m',ys,o,L3,k3,z3,e3,n3⟩:=o1.row;refine⟨_,rfl,o1.below.trans (b2.mono o1.below.size),?_⟩;exact FQ (agN (yg o b2)) L3 (k3.below b2) (λb i u hb h=>by have:=n3 b i u h;unfold cO at this;rwa[ay hb] at this) pr.2
 |true=>
  obtain⟨q2,e⟩:=bd e;cases e;rw[bB] at q2;obtain⟨k,rfl⟩:∃k':Nat,k=k':=⟨k.toNat,by have:=oh q2.1;simp at this;omega⟩;have hk:k<n:=by have:=fb q2.2;simpa using this
  refine⟨⟨rfl,rfl⟩,λ{m w y} hm L=>?_⟩;obtain⟨a,c,xs,rfl,L2,h1,h2,h3,hcp⟩:=FP hr L hl;obtain⟨pr,lr⟩:=Bf HO hm L2 hcp.1 ho
  go_enter Tryz.func397,Tryz.ntmps397
  have n5:IntKind.i64.wrap ((k:Int)+1)=(k:Int)+1:=by rw[IntKind.wrap_i64];omega
  go_wp2_with (first|(go_at_call 371;refine(Fi HO hm L2 hcp.1 ho h1 h2 h3 (by rw[<-L2.len];exact hl) hn (L2.nP hcp.2)).mono ?_;rintro e w1 ⟨v,rfl,o1⟩;obtain⟨p,cp,rfl,hcp⟩:=(show∃p cp,v=.slice p n cp/\n<=cp from by obtain⟨_,_,o,_⟩:=o1.row;exact ownsRow_form o))|(go_at_call 266;refine(hat (λ_ _ _ h=>h) (o1.shown pr.2)).mono ?_;rintro e w2 ⟨rfl,b2⟩)|(go_at_call 454;obtain⟨m',ys,o,L3,k3,z3,e3,n3⟩:=o1.row;refine(aas (yg o b2) (L3.nP pr.2) hk hn).mono ?_;rintro e w3 ⟨v',rfl,R,G⟩))
  go_ret
  refine⟨_,rfl,?_,FQ R (bI.join (L3.take _) ((L3.drop _).take _)) ((k3.below b2).grown G z3) (λb i u hb h=>by have:=n3 b i u h;unfold cO at this;rwa[ay hb] at this) (yb _ _ (LZ pr.2 _) (LZ (Vd pr.2 _) _))⟩;exact(o1.below.trans (b2.mono o1.below.size)).grown G (o1.below.trans (b2.mono o1.below.size)).size λq e=>Fj o e
end
section
open Go.Shelf Go.RowKit Go.Lib
theorem aaC{O:o7}{A:qJ}(HO:cS Tryz.prog 267 [nA] nA O)(HA:cS Tryz.prog 266 [.v,.i .i64] (.aG [.i .i64,.b]) A):cS Tryz.prog 397 [.v,.i .i64] .v (xy O A):=by
 refine .mk λls r e hl us hu=>?_;obtain⟨x,r1,us1,h1,h2,rfl⟩:=gM hu;obtain⟨y,r2,us2,h3,h4,rfl⟩:=gM h2;obtain⟨rfl,rfl⟩:=nF h4;obtain rfl:=kX h1;obtain⟨t,rfl,rfl⟩:=tC h3;replace e:xy O A x t=some r:=e;have px:=hl x (by simp);obtain⟨p1,W⟩:=aaD HO HA e px;refine⟨λz hz=>?_,r,rfl,λm args' w hm A=>?_⟩
 ·have hz:bt.v z∈[bt.v r]:=hz;rw[bt.v.inj (nj.1 hz)];exact p1.2
 ·obtain⟨al⟩:=args';replace A:bI m _ al:=A;obtain⟨_,_,rfl,a0,A⟩:=PW.inv A;obtain⟨_,_,rfl,a1,A⟩:=PW.inv A;obtain rfl:=A.ee;cases a1;exact W hm a0
theorem QE{w w1:jp}{T:TypeId}{c0 c1 c2 c3:H1}(b:RowKit.Below (w.alloc (.cells #[c0,c1,c2,c3] T)).heap.size (w.alloc (.cells #[c0,c1,c2,c3] T)) w1):
 w1.cell? ⟨w.heap.size,0,none⟩=some c0/\w1.cell? ⟨w.heap.size,1,none⟩=some c1/\w1.cell? ⟨w.heap.size,2,none⟩=some c2/\w1.cell? ⟨w.heap.size,3,none⟩=some c3/\w1.heap[w.heap.size]? =some (.cells #[c0,c1,c2,c3] T (0,0)):=by
 have h:w1.heap[w.heap.size]? =some (.cells #[c0,c1,c2,c3] T (0,0)):=(b.block _ (by simp)).trans (World.alloc_heap_new w _);refine⟨?_,?_,?_,?_,h⟩<;>(unfold World.cell?;simp[h])
theorem Yw{m':Nat->Nat->Hx H1}{wr:jp}{B:Nat}{v:H1}{n:Nat}{cs ys:qr H1}(o:wr.ownsRow B 136 4 v n ys)(L:bI m' cs ys)(k:Kn m' wr)(ho:bh cs=true):aN (λb i=>fP wr b i) (ae n cs) v:=by
 obtain⟨hl,⟨rfl,rfl⟩|⟨g,cp,cur,rfl,h1,h2,h3,h4,h5,h6⟩⟩:=o
 ·have:cs=[]:=kP (by rw[L.len];omega);subst this;exact .gy
 ·refine .row (L.mono λb i u hu=>k b i u hu) (λi y hy=>?_) rfl h3 ho;rw[tO h2,fU];rw[<-h6,pX] at hy;split at hy
  ·simpa using hy
  ·cases hy
theorem agM{w w':jp}{B n b:Nat}{v:H1}{xs cs:qr H1}{T:TypeId}(h:w.ownsRow B 136 4 v n xs)(s:oq b ⟨cs⟩ T (0,0) w w')(hb:b<B):w'.ownsRow B 136 4 v n xs:=by
 obtain⟨hl,h|⟨g,cp,cur,h0,h1,h2,h3⟩⟩:=h
 ·exact⟨hl,.inl h⟩
 ·exact⟨hl,.inr ⟨g,cp,cur,h0,h1,(s.block g (by omega)).trans h2,h3⟩⟩
theorem XB{m m':Nat->Nat->Hx H1}{w w1 w2 w3:jp}{v vd z':H1}{n:Nat}{res ys:qr H1}{X:Obj}{T:TypeId}{cs:qr H1}(hm:Kn m w)(gE:RowKit.Below (w.alloc X).heap.size (w.alloc X) w1)(o:w1.ownsRow (w.alloc X).heap.size 136 4 v n ys)(L3:bI m' res ys)(k3:Kn m' w1)(z3:∀q,v.ownBlock=some q->∀i,m' q i=none)
 (n3:∀b i u,m' b i=some u->cO m (w.alloc X) w1 b i=some u) (b2:RowKit.Below w1.heap.size w1 w2) (lz:aN (cO m' w1 w2) vd z') (s5:oq w.heap.size ⟨cs⟩ T (0,0) w2 w3):
 ∃m2,w3.ownsRow (w.alloc X).heap.size 136 4 v n ys/\bI m2 res ys/\aN m2 vd z'/\Kn m2 w3/\(∀q,v.ownBlock=some q->∀i,m2 q i=none)/\(∀b i u,b<w.heap.size->m2 b i=some u->m b i=some u)/\RowKit.Below w.heap.size w w3:=by
 have hs:(w.alloc X).heap.size=w.heap.size+1:=by simp
 have lo:∀b i u,b<(w.alloc X).heap.size->m' b i=some u->m b i=some u:=λb i u hb h=>by have:=n3 b i u h;unfold cO at this;rwa[ay hb] at this
 have hbx:∀i,cO m' w1 w2 w.heap.size i=none:=λi=>by
  unfold cO;rw[ay (by have:=gE.size;omega)];cases h:m' w.heap.size i with
  |none=>rfl
  |some u=>have:=mP (hm _ _ _ (lo _ _ _ (by omega) h));omega
 have kn:=k3.new b2;refine⟨cO m' w1 w2,agM (yg o b2) s5 (by omega),L3.mono k3.mono,lz,λb i u hu=>?_,λq hq i=>?_,λb i u hb h=>?_,?_⟩
 ·exact(r8 (s5.block b λe=>by rw[e,hbx] at hu;cases hu)).trans (kn b i u hu)
 ·have:=z3 q hq i;unfold cO;rw[ay (o.lt q hq).2];exact this
 ·unfold cO at h;rw[ay (by have:=gE.size;omega)] at h;exact lo _ _ _ (by omega) h
 ·have c:RowKit.Below w.heap.size w (w.alloc X):=(ft _ w).alloc (aM _) _;exact c.trans ((gE.mono (by omega)).trans ((b2.mono (by have:=gE.size;omega)).trans ⟨s5.os,s5.tape,s5.output,sW s5.size.symm,λk hk=>s5.block k (by omega)⟩))
theorem DC{w:jp}{g:Nat}{T:TypeId}{c0 c1 c2 c3:H1}(h:w.heap[g]? =some (.cells ⟨[c0,c1,c2,c3]⟩ T (0,0))):w.cell? ⟨g,0,none⟩=some c0/\w.cell? ⟨g,1,none⟩=some c1/\w.cell? ⟨g,2,none⟩=some c2/\w.cell? ⟨g,3,none⟩=some c3:=by refine⟨?_,?_,?_,?_⟩<;>(unfold World.cell?;simp[h])
theorem s8.mono{w:jp}{B B':Nat}{v:H1}{n:Nat}{cs:qr H1}(h:s8 w B v n cs)(hB:B'<=B):s8 w B' v n cs:=by
 rcases h with h|⟨g,cp,cur,h0,h1,h2,h3⟩
 ·exact .inl h
 ·exact .inr ⟨g,cp,cur,h0,h1,fH hB h2,h3⟩
theorem Vb{m:Nat->Nat->Hx H1}{x y:H1}(h:aN m x y)(o:y.oneCell'=true):bh [x]=true:=by cases h<;>first|rfl|cases o
theorem Vf{res:qr H1}{t va vb:Int}{vd:H1}(ho:bh res=true)(hv:bh [vd]=true)(i j:Nat):bh (res.take i++([.int .i64 t,.int .i64 va,.int .i64 vb,vd]++res.drop j))=true:=
 yb _ _ (LZ ho _) (yb _ _ (yb [.int .i64 t,.int .i64 va,.int .i64 vb] [vd] rfl hv) (Vd ho _))
theorem aiL{m m2:Nat->Nat->Hx H1}{w w3 w4:jp}{B n k:Nat}{v vd z':H1}{res ys:qr H1}{t va vb:Int}(r1:w3.ownsRow B 136 4 v n ys)(hB:B=w.heap.size+1)(r2:bI m2 res ys)(r3:aN m2 vd z')(r4:Kn m2 w3)(r5:∀q,v.ownBlock=some q->∀i,m2 q i=none)(r6:∀b i u,b<w.heap.size->m2 b i=some u->m b i=some u)(r7:RowKit.Below w.heap.size w w3)(b4:RowKit.Below w3.heap.size w3 w4)(ho:bh res=true)(hz:z'.oneCell'=true)(hn:n<1000000000)(hk:k<=n)(h3:B<=w3.heap.size):
 Calls Tryz.prog 372 #[v,.int .i64 k,.slice (some ⟨w4.heap.size,0,none⟩) 1 1] (w4.alloc (.cells #[.int .i64 t,.int .i64 va,.int .i64 vb,z'] 136)) λe w'=>∃v',e=.returned v'/\RowKit.Below w.heap.size w w'/\aN (cO m w w') (ae (n+1) (res.take (k*4)++([.int .i64 t,.int .i64 va,.int .i64 vb,vd]++res.drop (k*4)))) v':=by
 have c:RowKit.Below w4.heap.size w4 (w4.alloc (.cells #[.int .i64 t,.int .i64 va,.int .i64 vb,z'] 136)):=(ft _ w4).alloc (aM _) _;have o4:=yg r1 b4;have h4:=b4.size;have hz':(w4.alloc (.cells #[.int .i64 t,.int .i64 va,.int .i64 vb,z'] 136)).heap.size=w4.heap.size+1:=by simp
 refine(abP (B:=B) (X:=[.int .i64 t,.int .i64 va,.int .i64 vb,z']) (yg o4 c) (r2.nP ho) (by omega) hn hk rfl (λv h=>?_) (World.alloc_heap_new w4 _) λe=>?_).mono ?_
 ·simp only[cZ,nk,nr] at h;rcases h with rfl|rfl|rfl|rfl
  ·rfl
  ·rfl
  ·rfl
  ·exact hz
 ·have:=(o4.lt _ e).2;omega
 ·rintro e w' ⟨v',rfl,R,G⟩
  have k5:=(r4.below b4).below c;have bw:RowKit.Below w.heap.size w (w4.alloc (.cells #[.int .i64 t,.int .i64 va,.int .i64 vb,z'] 136)):=r7.trans ((b4.mono (by omega)).trans (c.mono (by omega)));refine⟨v',rfl,bw.grown G bw.size λq e=>?_,FQ (s8.mono R (by omega)) (bI.join (r2.take _) (bI.join (PW.cons (.int _ _) (.cons (.int _ _) (.cons (.int _ _) (.cons r3 .nil)))) (r2.drop _))) (k5.grown G r5) r6 (Vf ho (Vb r3 hz) _ _)⟩;have:=Fj r1 e;omega
theorem alR{w:jp}{g o:Nat}{cur:Array H1}{t:TypeId}(h:w.heap[g]? =some (.cells cur t (0,0)))(hl:o+4<=cur.size)(c a b:Int){z:H1}(hz:z.oneCell'=true):
 (∃v,w.cell? ⟨g,o,none⟩=some v)/\(∀k,w.frozen? ⟨g,k,none⟩=false)/\(∃v,(w.setCell ⟨g,o,none⟩ (.int .i64 c)).cell? ⟨g,o+1,none⟩=some v)/\(∃v,((w.setCell ⟨g,o,none⟩ (.int .i64 c)).setCell ⟨g,o+1,none⟩ (.int .i64 a)).cell? ⟨g,o+2,none⟩=some v)/\
 ∃w',(store ⟨g,o+3,none⟩ z).run Tryz.prog (((w.setCell ⟨g,o,none⟩ (.int .i64 c)).setCell ⟨g,o+1,none⟩ (.int .i64 a)).setCell ⟨g,o+2,none⟩ (.int .i64 b))=.ok () w'/\oq g ⟨(((cur.toList.set o (.int .i64 c)).set (o+1) (.int .i64 a)).set (o+2) (.int .i64 b)).set (o+3) z⟩ t (0,0) w w':=by
 have q0:=IP (k:=o) h (.int .i64 c);obtain⟨⟨v1,s1⟩,_,_,⟨v2,s2⟩,w',s3,s4⟩:=Iy q0.at_ (o:=o) (by show _<=(cur.toList.set _ _).length;simpa using hl) a b hz;refine⟨⟨cur[o],?_⟩,λk=>?_,⟨v1,s1⟩,⟨v2,s2⟩,w',s3,⟨s4.os.trans q0.os,s4.tape.trans q0.tape,s4.output.trans q0.output,s4.size.trans q0.size,λk hk=>(s4.block k hk).trans (q0.block k hk),s4.at_⟩⟩
 ·unfold World.cell?;simp[h]
 ·unfold World.frozen?;simp[h]
theorem aiN{m m2:Nat->Nat->Hx H1}{w w3 w4:jp}{B n k cp:Nat}{p:Hx Addr}{vd z':H1}{res ys:qr H1}{t va vb:Int}(r1:w3.ownsRow B 136 4 (.slice p n cp) n ys)(hB:B=w.heap.size+1)(r2:bI m2 res ys)(r3:aN m2 vd z')(r4:Kn m2 w3)(r5:∀q,(Value.slice p n cp).ownBlock=some q->∀i,m2 q i=none)(r6:∀b i u,b<w.heap.size->m2 b i=some u->m b i=some u)(r7:RowKit.Below w.heap.size w w3)(b4:RowKit.Below w3.heap.size w3 w4)(ho:bh res=true)(hz:z'.oneCell'=true)(hk:k<n)(h3:B<=w3.heap.size):
 ∃g,p=some ⟨g,0,none⟩/\(∃v,w4.cell? ⟨g,k*4,none⟩=some v)/\(∀k,w4.frozen? ⟨g,k,none⟩=false)/\(∃v,(w4.setCell ⟨g,k*4,none⟩ (.int .i64 t)).cell? ⟨g,k*4+1,none⟩=some v)/\(∃v,((w4.setCell ⟨g,k*4,none⟩ (.int .i64 t)).setCell ⟨g,k*4+1,none⟩ (.int .i64 va)).cell? ⟨g,k*4+2,none⟩=some v)/\
 ∃w',(store ⟨g,k*4+3,none⟩ z').run Tryz.prog (((w4.setCell ⟨g,k*4,none⟩ (.int .i64 t)).setCell ⟨g,k*4+1,none⟩ (.int .i64 va)).setCell ⟨g,k*4+2,none⟩ (.int .i64 vb))=.ok () w'/\RowKit.Below w.heap.size w w'/\aN (cO m w w') (ae n (res.take (k*4)++([.int .i64 t,.int .i64 va,.int .i64 vb,vd]++res.drop ((k+1)*4)))) (.slice (some ⟨g,0,none⟩) n cp):=by
 obtain⟨hl,⟨_,h0⟩|⟨g,cp',cur,e,hg1,hg2,hg3,hg4,hg5,hg6⟩⟩:=yg r1 b4
 ·omega
 cases e;obtain⟨a1,a2,a3,a4,w5,a5,a6⟩:=alR hg2 (o:=k*4) (by omega) t va vb hz;have g9:=r5 g rfl;have k4:=r4.below b4;have hs4:=b4.size;refine⟨g,rfl,a1,a2,a3,a4,w5,a5,r7.trans ((b4.mono (by omega)).trans ⟨a6.os,a6.tape,a6.output,sW a6.size.symm,λj hj=>a6.block j (by omega)⟩),?_⟩;refine FQ (.inr ⟨g,cp,_,rfl,hg3,by omega,a6.at_,rfl⟩) ?_ (λb i u hu=>(r8 (a6.block b λe=>by rw[e,g9] at hu;cases hu)).trans (k4 b i u hu)) r6 (Vf ho (Vb r3 hz) _ _);have hT:((((cur.toList.set (k*4) (.int .i64 t)).set (k*4+1) (.int .i64 va)).set (k*4+2) (.int .i64 vb)).set (k*4+3) z').take (n*4)=ys.take (k*4)++([.int .i64 t,.int .i64 va,.int .i64 vb,z']++ys.drop ((k+1)*4)):=by
  rw[List.take_set,List.take_set,List.take_set,List.take_set,hg6];have e0:ys=ys.take (k*4)++ys.drop (k*4):=(lI _ _).symm;have e1:(ys.take (k*4)).length=k*4:=by rw[dE];omega
  have e2:(ys.drop (k*4)).length=(n -k)*4:=by rw[er];omega
  have e3:ys.drop ((k+1)*4)=(ys.drop (k*4)).drop 4:=by rw[List.drop_drop];congr 1;omega
  rw[e3]
  conv=>lhs;rw[e0]
  generalize ys.take (k*4)=P at*;generalize ys.drop (k*4)=Q at*;have hd:∀j (u:H1) (x:qr H1),(P++x).set (k*4+j) u=P++x.set j u:=λj u x=>by rw[List.set_append_right _ _ (by omega)];congr 2;omega
  rw[show(P++Q).set (k*4) (.int .i64 t)=P++Q.set 0 (.int .i64 t) from hd 0 _ _,hd,hd,hd]
  match Q,e2 with
  |x0::x1::x2::x3::Q,_=>rfl
  |[],h=>simp at h;omega
  |[_],h=>simp at h;omega
  |[_,_],h=>simp at h;omega
  |[_,_,_],h=>simp at h;omega
 show bI m2 _ (List.take (n*4) (List.set _ _ _));rw[hT];exact bI.join (r2.take _) (bI.join (PW.cons (.int _ _) (.cons (.int _ _) (.cons (.int _ _) (.cons r3 .nil)))) (r2.drop _))
noncomputable def yD(O:o7)(A:qJ)(x:H1)(t a b:Int)(d:H1):Hx H1:=ob (rowOf x) λp=>cond (Nat.beq p.2.length (p.1 *4)&&Nat.blt p.1 1000000000&&bh [d]) (ob (nQ O p.2) λres=>ob (O a b d) λv=>ob (A (ae p.1 res) t) λq=>cond q.2
 (cond (decide (0<=q.1)&&Nat.blt q.1.toNat p.1) (some (ae p.1 (res.take (q.1.toNat*4)++([.int .i64 t,.int .i64 v.1,.int .i64 v.2.1,v.2.2]++res.drop ((q.1.toNat+1)*4))))) none)
 (cond (decide (0<=q.1)&&Nat.ble q.1.toNat p.1) (some (ae (p.1 +1) (res.take (q.1.toNat*4)++([.int .i64 t,.int .i64 v.1,.int .i64 v.2.1,v.2.2]++res.drop (q.1.toNat*4))))) none)) none
theorem aiO{O:o7}{A:qJ}(HO:cS Tryz.prog 267 [nA] nA O)(HA:cS Tryz.prog 266 [.v,.i .i64] (.aG [.i .i64,.b]) A){x r d:H1}{t a b:Int}(e:yD O A x t a b d=some r)(hx:gD x)(hd:gD d):
 (gD r/\bh [r]=true)/\∀{m:Nat->Nat->Hx H1}{w:jp}{y z:H1},Kn m w->aN m x y->aN m d z->Calls Tryz.prog 317 #[y,.agg #[.int .i64 t,.int .i64 a,.int .i64 b,z]] w λe w'=>∃v',e=.returned v'/\RowKit.Below w.heap.size w w'/\aN (cO m w w') r v':=by
 have mixed:Tryz.prog.follows .mixedOrders=true:=by kernel_rfl
 unfold yD at e;replace e:=ax e;obtain⟨⟨n,cs⟩,hr,e⟩:=e;obtain⟨q,e⟩:=bd e;rw[bB,bB] at q;have hl:cs.length=n*4:=bX q.1.1;have hn:n<1000000000:=fb q.1.2;have od:=q.2;replace e:=ax e;obtain⟨res,ho,e⟩:=e;replace e:=ax e;obtain⟨⟨va,vb,vd⟩,hv,e⟩:=e;replace e:=ax e;obtain⟨⟨k,is⟩,ha,e⟩:=e;have hat:=@Jq _ _ _ HA _ _ _ ha ⟨rfl,rfl⟩;cases is with
 |false=>
  obtain⟨q2,e⟩:=bd e;cases e;rw[bB] at q2;obtain⟨k,rfl⟩:∃k':Nat,k=k':=⟨k.toNat,by have:=oh q2.1;simp at this;omega⟩;have hk:k<=n:=by have:=ed q2.2;simpa using this
  refine⟨⟨rfl,rfl⟩,λ{m w y z} hm L Lz=>?_⟩;obtain⟨s,c,xs,rfl,L2,h1,h2,h3,hcp⟩:=FP hr L hl;obtain⟨pr,lr⟩:=Bf HO hm L2 hcp.1 ho;obtain⟨pv,own⟩:=Ff HO hv ⟨hd,od⟩ hm Lz
  go_enter Tryz.func317,Tryz.ntmps317
  have hz1:z.oneCell'=true:=Lz.nP od;have b0:RowKit.Below w.heap.size w (w.alloc (.cells #[.int .i64 t,.int .i64 a,.int .i64 b,z] 136)):=(ft _ w).alloc (aM _) _
  go_wp2_with (first|(go_at_call 371;refine(Fi HO (w:=w.alloc (.cells #[.int .i64 t,.int .i64 a,.int .i64 b,z] 136)) (hm.below b0) L2 hcp.1 ho h1 h2 h3 (by rw[<-L2.len];exact hl) hn (L2.nP hcp.2)).mono ?_;rintro e w1 ⟨v,rfl,o1⟩;obtain⟨p,cp,rfl,hcp⟩:=(show∃p cp,v=.slice p n cp/\n<=cp from by obtain⟨_,_,o,_⟩:=o1.row;exact ownsRow_form o);obtain⟨bx0,bx1,bx2,bx3,bx⟩:=QE o1.below;obtain⟨m',ys,o,L3,k3,z3,e3,n3⟩:=o1.row)|(go_at_call 267;refine(own k3 (Lz.mono e3)).mono ?_;rintro e w2 ⟨z',rfl,b2,lz⟩;have hz2:z'.oneCell'=true:=aN.nP lz pv.2;have bl1:=(fy.1 bx).1;have hbx:=(b2.block _ bl1).trans bx;have by0:=(jq (a:=⟨w.heap.size,0,none⟩) (b2.block _ bl1)).trans bx0;obtain⟨⟨v1,s1⟩,⟨v2,s2⟩,sf,⟨v3,s3⟩,w3,s4,s5⟩:=Iy hbx (o:=0) (by simp) va vb hz2;simp only[fU] at s1 s2 s3 s4 s5;clear hbx;replace s5:oq w.heap.size ⟨[.int .i64 t,.int .i64 va,.int .i64 vb,z']⟩ 136 (0,0) w2 w3:=s5;obtain⟨f0,f1,f2,f3⟩:=DC s5.at_)|(go_at_call 266;obtain⟨m2,r1,r2,r3,r4,r5,r6,r7⟩:=XB hm o1.below o L3 k3 z3 n3 b2 lz s5;refine(hat (λ_ _ _ h=>h) (Yw r1 r2 r4 pr.2)).mono ?_;rintro e w4 ⟨rfl,b4⟩;have hb4:=(b4.block _ (fy.1 s5.at_).1).trans s5.at_;obtain⟨g0,g1,g2,g3⟩:=DC hb4;clear hb4)|(go_at_call 372;refine(aiL r1 (by simp) r2 r3 r4 r5 r6 r7 b4 pr.2 hz2 hn hk (by have:=o1.below.size;have:=b2.size;have:=s5.size;omega)).mono ?_;rintro e w5 ⟨v',rfl,b5,l5⟩))
  go_ret
  exact⟨_,rfl,b5,l5⟩
 |true=>
  obtain⟨q2,e⟩:=bd e;cases e;rw[bB] at q2;obtain⟨k,rfl⟩:∃k':Nat,k=k':=⟨k.toNat,by have:=oh q2.1;simp at this;omega⟩;have hk:k<n:=by have:=fb q2.2;simpa using this
  have hk':(k:Int)<(n:Int):=by omega
  refine⟨⟨rfl,rfl⟩,λ{m w y z} hm L Lz=>?_⟩;obtain⟨s,c,xs,rfl,L2,h1,h2,h3,hcp⟩:=FP hr L hl;obtain⟨pr,lr⟩:=Bf HO hm L2 hcp.1 ho;obtain⟨pv,own⟩:=Ff HO hv ⟨hd,od⟩ hm Lz
  go_enter Tryz.func317,Tryz.ntmps317
  have hz1:z.oneCell'=true:=Lz.nP od;have b0:RowKit.Below w.heap.size w (w.alloc (.cells #[.int .i64 t,.int .i64 a,.int .i64 b,z] 136)):=(ft _ w).alloc (aM _) _
  go_wp2_with (first|(go_at_call 371;refine(Fi HO (w:=w.alloc (.cells #[.int .i64 t,.int .i64 a,.int .i64 b,z] 136)) (hm.below b0) L2 hcp.1 ho h1 h2 h3 (by rw[<-L2.len];exact hl) hn (L2.nP hcp.2)).mono ?_;rintro e w1 ⟨v,rfl,o1⟩;obtain⟨p,cp,rfl,hcp⟩:=(show∃p cp,v=.slice p n cp/\n<=cp from by obtain⟨_,_,o,_⟩:=o1.row;exact ownsRow_form o);obtain⟨bx0,bx1,bx2,bx3,bx⟩:=QE o1.below;obtain⟨m',ys,o,L3,k3,z3,e3,n3⟩:=o1.row)|(go_at_call 267;refine(own k3 (Lz.mono e3)).mono ?_;rintro e w2 ⟨z',rfl,b2,lz⟩;have hz2:z'.oneCell'=true:=aN.nP lz pv.2;have bl1:=(fy.1 bx).1;have hbx:=(b2.block _ bl1).trans bx;have by0:=(jq (a:=⟨w.heap.size,0,none⟩) (b2.block _ bl1)).trans bx0;obtain⟨⟨v1,s1⟩,⟨v2,s2⟩,sf,⟨v3,s3⟩,w3,s4,s5⟩:=Iy hbx (o:=0) (by simp) va vb hz2;simp only[fU] at s1 s2 s3 s4 s5;clear hbx;replace s5:oq w.heap.size ⟨[.int .i64 t,.int .i64 va,.int .i64 vb,z']⟩ 136 (0,0) w2 w3:=s5;obtain⟨f0,f1,f2,f3⟩:=DC s5.at_)|(go_at_call 266;obtain⟨m2,r1,r2,r3,r4,r5,r6,r7⟩:=XB hm o1.below o L3 k3 z3 n3 b2 lz s5;refine(hat (λ_ _ _ h=>h) (Yw r1 r2 r4 pr.2)).mono ?_;rintro e w4 ⟨rfl,b4⟩;have hb4:=(b4.block _ (fy.1 s5.at_).1).trans s5.at_;obtain⟨g0,g1,g2,g3⟩:=DC hb4;clear hb4;obtain⟨g,rfl,⟨x1,y1⟩,y2,⟨x3,y3⟩,⟨x4,y4⟩,w5,y5,b5,l5⟩:=aiN (t:=t) (va:=va) (vb:=vb) r1 (by simp) r2 r3 r4 r5 r6 r7 b4 pr.2 hz2 hk (by have:=o1.below.size;have:=b2.size;have:=s5.size;omega)))
  go_ret
  exact⟨_,rfl,b5,l5⟩
end
section
open Go.Shelf Go.RowKit Go.Lib
theorem aiM{O:o7}{A:qJ}(HO:cS Tryz.prog 267 [nA] nA O)(HA:cS Tryz.prog 266 [.v,.i .i64] (.aG [.i .i64,.b]) A):cS Tryz.prog 317 [.v,.agg [.i .i64,.i .i64,.i .i64,.v]] .v (yD O A):=by
 refine .mk λls r e hl us hu=>?_;obtain⟨x,r1,us1,h1,h2,rfl⟩:=gM hu;obtain⟨y,r2,us2,h3,h4,rfl⟩:=gM h2;obtain⟨rfl,rfl⟩:=nF h4;obtain rfl:=kX h1;obtain⟨vs,h5,rfl⟩:=DW h3;obtain⟨y0,r3,us3,i0,h6,rfl⟩:=gM h5;obtain⟨y1,r4,us4,i1,h7,rfl⟩:=gM h6;obtain⟨y2,r5,us5,i2,h8,rfl⟩:=gM h7;obtain⟨d,r6,us6,i3,h9,rfl⟩:=gM h8;obtain⟨rfl,rfl⟩:=nF h9;obtain⟨t,rfl,rfl⟩:=tC i0;obtain⟨a,rfl,rfl⟩:=tC i1;obtain⟨b,rfl,rfl⟩:=tC i2;obtain rfl:=kX i3;replace e:yD O A x t a b d=some r:=e;have px:=hl x (by simp);have pd:=hl d (by simp);obtain⟨p1,W⟩:=aiO HO HA e px pd;refine⟨λz hz=>?_,r,rfl,λm args' w hm A=>?_⟩
 ·have hz:bt.v z∈[bt.v r]:=hz;rw[bt.v.inj (nj.1 hz)];exact p1.2
 ·obtain⟨al⟩:=args';replace A:bI m _ al:=A;obtain⟨_,_,rfl,a0,A⟩:=PW.inv A;obtain⟨_,_,rfl,a1,A⟩:=PW.inv A;obtain rfl:=A.ee;cases a1 with
  |@agg _ xs' h0 h=>
  obtain⟨xl⟩:=xs';obtain⟨_,_,rfl,j0,T0⟩:=PW.inv (show bI m [.int .i64 t,.int .i64 a,.int .i64 b,d] xl from⟨h0,h⟩);cases j0;obtain⟨_,_,rfl,j1,T1⟩:=PW.inv T0;cases j1;obtain⟨_,_,rfl,j2,T2⟩:=PW.inv T1;cases j2;obtain⟨_,_,rfl,j3,T3⟩:=PW.inv T2;obtain rfl:=T3.ee;exact W hm a0 j3
end
end Lt
end Go.Proofs.YtcfjfbeadhnknaaGreatDoor

import Derived.Sort.AssemblyPlain
import Derived.Test.YtfdojmichbgpiaaGreatDoorChecked
import Derived.KernelRfl
import Derived.Eval
import Derived.RangeFuncNested
import Derived.RangeFuncBound
import Derived.RangeFuncCalls
import Derived.RangeFuncLeaves
import Derived.Shelf.Abstract
import Derived.Shelf.RegionOpen
import Derived.WalkKit
import Derived.OwnWalkIn
import Derived.TacticsInMore
import Derived.LoopNIn
import Derived.LoopIn
import Derived.BigFrameIn
import Derived.Laws.EntriesVeiled
import Derived.Test.YtfdojmichbgpiaaGreatDoorQShelf
import Derived.Test.YtfdojmichbgpiaaGreatDoorQG
namespace Go.Proofs.YtfdojmichbgpiaaGreatDoor
namespace Lt
section
variable{ls r:List bo} {pv:Value}
theorem lY(e:lu .v ls=some (pv,r)):ls=.v pv::r:=by
 cases ls with
 |nil=>cases e
 |cons l ls=>cases l<;>first|(cases e;rfl)|cases e
theorem tR{k:IntKind}(e:lu (.i k) ls=some (pv,r)):∃n,ls=.i n::r/\pv=.int k n:=by
 cases ls with
 |nil=>cases e
 |cons l ls=>cases l<;>first|(cases e;exact⟨_,rfl,rfl⟩)|cases e
variable{us:List Value}
theorem gD{t:VT}{ts:List VT}(e:fk (t::ts) ls=some (us,r)):∃pv r1 us',lu t ls=some (pv,r1)/\fk ts r1=some (us',r)/\us=pv::us':=by unfold fk at e;replace e:=af e;obtain⟨⟨a,b⟩,h1,e⟩:=e;replace e:=af e;obtain⟨⟨c,d⟩,h2,e⟩:=e;cases e;exact⟨a,b,c,h1,h2,rfl⟩
theorem pN(e:fk [] ls=some (us,r)):us=[]/\ls=r:=by unfold fk at e;cases e;exact⟨rfl,rfl⟩
noncomputable def CG(_:Nat):Value->Int->Option Int:=λx c=>jQ x λxs=>cond xs.isEmpty none (some (Lib.indexByte (Lib.bytesOf xs) c.toNat.toUInt8))
theorem adm(w:Nat):dI Tryz.prog 295 [.v,.i .u8] (.i .i64) (CG w):=by
 intro ls r e hl us hu;obtain⟨x,r1,us1,h1,h2,rfl⟩:=gD hu;obtain⟨y,r2,us2,h3,h4,rfl⟩:=gD h2;obtain⟨rfl,rfl⟩:=pN h4;obtain rfl:=lY h1;obtain⟨c,rfl,rfl⟩:=tR h3;replace e:CG w x c=some r:=e;refine⟨λz hz=>by simp[jW,VT.ks,xe] at hz,.int .i64 r,rfl,BZ ?_ λm args' w hm A=>?_⟩
 ·intro a ha;simp only[cj,jh,jj] at ha;rcases ha with rfl|rfl
  ·exact(hl _ (by simp)).1
  ·exact .int _ _
 ·obtain⟨l⟩:=args';replace A:aP m _ l:=A;cases A with
  |cons a0 A=>
   cases A with
   |cons a1 A=>
    cases A;cases a1;obtain⟨xs,h5,⟨a,cp,rfl,_,hc⟩|⟨rfl,cp,rfl⟩⟩:=A7 hm e a0
    ·replace h5:cond xs.isEmpty none (some (Lib.indexByte (Lib.bytesOf xs) c.toNat.toUInt8))=some r:=h5;cases he:xs.isEmpty with
     |true=>rw[he] at h5;cases h5
     |false=>
     rw[he] at h5;cases h5;refine(Tryz.bytes_IndexByte_at a xs.length cp xs c w rfl hc).mono ?_
     rintro e w' ⟨rfl,rfl⟩
     exact⟨_,rfl,fb _ _,.int _ _⟩
    ·cases h5
end
end Lt
section
open Go.Shelf Go.RowKit Go.Lib Go.Sort
abbrev E4:=Int×Int×Int×Int
def eQ(x:E4):List Value:=[.int .i64 x.1,.int .i64 x.2.1,.int .i64 x.2.2.1,.int .i64 x.2.2.2]
def pK(x y:E4):Int:=Lib.compareInt x.1 y.1
set_option maxHeartbeats 1000000 in
theorem YD(x y:E4)(W:World):Calls Tryz.prog 267 #[.agg #[.int .i64 x.1,.int .i64 x.2.1,.int .i64 x.2.2.1,.int .i64 x.2.2.2],.agg #[.int .i64 y.1,.int .i64 y.2.1,.int .i64 y.2.2.1,.int .i64 y.2.2.2]] W λe w'=>e=.returned (.int .i64 (Lib.compareInt x.1 y.1))/\∃q os',w'=grow (W.drewN q) os':=by
 have hcon:=λW'=>AnyG.cmp_Compare_int Tryz.YE x.1 y.1 W';change∀W',Calls Tryz.prog 247 _ _ _ at hcon;generalize Lib.compareInt x.1 y.1 =r at hcon⊢
 go_enter Tryz.func267,Tryz.ntmps267
 go_wp2_with (go_at_call 247;refine(hcon _).mono ?_;rintro e w' ⟨rfl,rfl⟩)
 go_ret
 exact⟨rfl,0,_,by rw[alloc_eq_grow,alloc_eq_grow,grow_grow];rfl⟩
theorem EU(x y:E4):ltOf pK x y=decide (x.1 <y.1):=by
 unfold ltOf pK Lib.compareInt;by_cases h1:x.1 <y.1
 ·simp[h1]
 ·by_cases h2:y.1 <x.1 <;>simp[h1,h2]
theorem WT:SWO (ltOf pK) where
 irrefl x:=by rw[EU];simp
 trans x y z h1 h2:=by rw[EU] at*;simp at*;omega
 ntrans x y z h1 h2:=by rw[EU] at*;simp at*;omega
def xd:List Value->Option (List E4)
 |[]=>some []
 | .int .i64 a::.int .i64 b::.int .i64 c::.int .i64 d::l=>Lt.ob (xd l) λxs=>some ((a,b,c,d)::xs)
 |_=>none
theorem Xn:∀{l:List Value}{xs:List E4},xd l=some xs->l=xs.flatMap eQ
 |[],_,e=>by cases e;rfl
 |v::l,xs,e=>by
  unfold xd at e;split at e
  ·rename_i q;cases q
  ·rename_i a b c d l' q;cases q;replace e:=Lt.af e;obtain⟨ys,h1,e⟩:=e;cases e;rw[ff,<-Xn h1];rfl
  ·cases e
theorem Bp:∀l:List E4,(l.flatMap eQ).length=4*l.length
 |[]=>rfl
 |x::l=>by rw[ff,aR,Bp l,cQ];show 4+_=_;omega
theorem J2:∀(l:List E4)(t:Nat),t<l.length*4->(l.flatMap eQ)[t]? =some (eQ (l[t/4]!))[t%4]!
 |[],t,h=>by simp at h
 |x::l,t,h=>by
  rw[ff];by_cases q:t<4
  ·rw[uU (by exact q),Nat.div_eq_of_lt q,rI q];rw[dD (by exact q)];show some _=some (eQ x)[t]!;rw[getElem!_pos _ t (by exact q)]
  ·have q:4<=t:=by omega
   rw[uV (by exact q)];show(l.flatMap eQ)[t -4]? =_;rw[J2 l (t -4) (by simp at h;omega)];have e1:t/4=(t -4)/4+1:=by omega
   have e2:(t -4)%4=t%4:=by omega
   rw[e1,e2];simp
theorem Ew{l:List E4}{v:Value}(h:v∈l.flatMap eQ):∃n,v=.int .i64 n:=by obtain⟨x,_,hx⟩:=List.mem_flatMap.1 h;simp only[eQ,cj,jh,jj] at hx;rcases hx with rfl|rfl|rfl|rfl<;>exact⟨_,rfl⟩
noncomputable def jc(l:List E4):List E4:=(pdq (ltOf pK) l.toArray 0 l.length (Lib.bitLen l.length) true true).toList
theorem Wy(l:List E4):(jc l).length=l.length/\(jc l).Perm l/\SortedIn (ltOf pK) 0 l.length (jc l).toArray:=by
 have:=pdq_sorts (ltOf pK) WT l.toArray 0 l.length (Lib.bitLen l.length) true true (gZ _) (by simp) (.inl rfl);obtain⟨⟨h1,_,h3⟩,h4⟩:=this;have hl:(jc l).length=l.length:=by unfold jc;rw[Array.length_toList,h1];simp
 refine⟨hl,?_,by unfold jc;simpa using h4⟩;have e1:((pdq (ltOf pK) l.toArray 0 l.length (Lib.bitLen l.length) true true).extract 0 l.length)=pdq (ltOf pK) l.toArray 0 l.length (Lib.bitLen l.length) true true:=by
  have:l.length=(pdq (ltOf pK) l.toArray 0 l.length (Lib.bitLen l.length) true true).size:=by rw[h1];simp
  conv=>lhs;arg 3;rw[this]
  simp
 rw[e1] at h3;have e2:(l.toArray.extract 0 l.length)=l.toArray:=by
  have:l.length=l.toArray.size:=by simp
  rw[this];exact Array.extract_size
 rw[e2] at h3;unfold jc;simpa using h3
end
section
open Go.Shelf Go.RowKit Go.Lib Go.Sort
theorem ahG(w:World)(blk off n:Nat)(d:Array E4)(os:Array Obj):
 (sortWorldK eQ 4 w blk off n d os).os=w.os/\(sortWorldK eQ 4 w blk off n d os).tape=w.tape/\(sortWorldK eQ 4 w blk off n d os).output=w.output/\w.heap.size<=(sortWorldK eQ 4 w blk off n d os).heap.size/\
 (∀b,b<w.heap.size->b≠blk->(sortWorldK eQ 4 w blk off n d os).heap[b]? =w.heap[b]?)/\
 ∀cz t fz,w.heap[blk]? =some (.cells cz t fz)->(sortWorldK eQ 4 w blk off n d os).heap[blk]? =some (.cells (putCells id off (flatK eQ 4 d) cz) t fz):=by
 refine⟨rfl,rfl,rfl,?_,λb hb ca=>?_,λcz t fz h=>?_⟩
 ·show w.heap.size<=(w.heap.modify blk _++os).size;simp
 ·show(w.heap.modify blk _++os)[b]? =_;rw[Array.getElem?_append_left (by simpa using hb),Array.getElem?_modify,ai (Ne.symm ca)]
 ·have hb:blk<w.heap.size:=by
   rcases dg blk w.heap.size with q|q
   ·exact q
   ·rw[Array.getElem?_eq_none q] at h;cases h
  show(w.heap.modify blk (onCells (putCells id off (flatK eQ 4 d)))++os)[blk]? =_;rw[Array.getElem?_append_left (by simpa using hb),Array.getElem?_modify,ar rfl,h];rfl
theorem Ro(l:List E4)(t:Nat)(h:t<l.length*4):(flatK eQ 4 l.toArray)[t]! =(eQ l[t/4]!)[t%4]! :=by rw[get_flatK _ _ _ _ (by simpa using h)];simp
namespace Lt
def ahF:HT:=⟨2,⟨[(0,.gr 0 4),(1,.fn 267 [])],[(0,.grow 4 317)],1⟩,1,⟨[(0,.aH [])],[(0,.grow 4 317)],1⟩⟩
noncomputable def uN(_:Nat):List Value->Option (List Value):=λcs=>ob (xd cs) λl=>cond (l.isEmpty||!aK l.length) none (some ((jc l).flatMap eQ))
theorem ZT(l:List E4){i:Nat}{v:Value}(h:(l.flatMap eQ)[i]? =some v):i<l.length*4/\v=(eQ l[i/4]!)[i%4]! :=by
 have hi:i<l.length*4:=by
  rcases dg i (l.length*4) with q|q
  ·exact q
  ·rw[lN (by rw[Bp];omega)] at h;cases h
 rw[J2 l i hi] at h;exact⟨hi,(bu h).symm⟩
set_option maxHeartbeats 1000000 in
theorem ac7(w:Nat):pq Tryz.prog 266 ahF (uN w):=by
 intro ls r st so e hst hso σ vs h nx hlen R;obtain⟨cs,rfl⟩:∃cs,ls=[.c cs]:=by
  match ls,e with
  |[.c cs],_=>exact⟨cs,rfl⟩
  |[],e=>cases e
  | .i _::_,e=>cases e
  | .b _::_,e=>cases e
  | .s _::_,e=>cases e
  | .v _::_,e=>cases e
  | .n _::_,e=>cases e
  | .c _::_::_,e=>cases e
 replace e:uN w cs=some r:=e;cases hst;cases hso;unfold uN at e;replace e:=af e;obtain⟨l,hl,e⟩:=e;have hcs:=Xn hl;cases he:(l.isEmpty||!aK l.length) with
 |true=>rw[he] at e;cases e
 |false=>
 rw[he] at e;cases e;rw[Bool.or_eq_false_iff] at he;have hpos:0<l.length:=by cases l<;>simp_all
 have hlim:l.length<4611686018427387904:=by
  have:=he.2;unfold aK at this;have:Nat.ble l.length 1000000000=true:=by simpa using this
  have:=cI this;omega
 have hclen:cs.length=4*l.length:=by rw[hcs,Bp]
 obtain⟨sl,sp,ss⟩:=Wy l;obtain⟨v0,v1,rfl⟩:∃a b,vs=[a,b]:=by
  match vs,hlen with
  |[a,b],_=>exact⟨a,b,rfl⟩
 obtain⟨u0,h0,d0⟩:=R.tm 0 (.gr 0 4) rfl;obtain⟨u1,h1,d1⟩:=R.tm 1 (.fn 267 []) rfl;have h0:some v0=some u0:=h0;have h1:some v1=some u1:=h1;cases h0;cases h1;have hv1:v1=.func (.func 267) #[] #[]:=by
  cases d1 with
  |fn g=>cases g;rfl
 subst hv1;obtain⟨_,k2,k3⟩:=R.obj 0 (.grow 4 cs 317) rfl;rcases k3 with⟨_,g2⟩|⟨o,n,g1,g2,ws,g3,g4⟩
 ·rw[g2] at hclen;simp at hclen;omega
 have hn:n=l.length:=by omega
 subst hn;have hws:ws=cs:=by
  have:=g4.length;apply s9;intro i;cases hi:cs[i]? with
  |none=>rw[List.getElem?_eq_none_iff] at hi;rw[lN (by omega)]
  |some u=>
   obtain⟨v,a,b⟩:=g4.get hi;rw[a];rcases b with rfl|⟨rfl,_⟩
   ·rfl
   ·obtain⟨q,hq⟩:=Ew (l:=l) (by rw[<-hcs];exact qv hi);cases hq
 subst hws;have hv0:v0=.slice (some ⟨o,0,none⟩) l.length (bt+4):=by
  cases d0 with
  |gP g=>rw[g1] at g;cases g
  |gr g=>rw[g1] at g;cases g;rfl
 subst hv0;have pr:bO ((jc l).flatMap eQ):=bO.mm λx hx=>by obtain⟨q,rfl⟩:=Ew hx;exact⟨.int _ _,rfl⟩
 refine⟨σ,.tuple #[],h.set o (.cells ((jc l).flatMap eQ) 317 true),nx,?_,aB _,⟨λt sv ht=>?_,λid so hs=>?_,λid id' so so' o1 n1 n1' a1 a2 _ _=>?_,R.lt,R.fresh⟩,hQ.refl _ _ _⟩
 ·intro ρ args' cs' w1 A H N;obtain⟨al⟩:=args';replace A:bk ρ _ al:=A;obtain⟨x0,x1,rfl⟩:∃a b,al=[a,b]:=by
   have:=A.length
   match al,this with
   |[a,b],_=>exact⟨a,b,rfl⟩
  cases A with|cons a0 A=>?_
  cases A with|cons a1 A=>?_
  cases A;obtain⟨L,hL,cz',fz,q1,q2,q3⟩:=H.obj o _ g3;obtain⟨c3,c4,_,c5⟩:=q3;have hfn:x1=.func (.func 267) #[] #[]:=by
   cases a1 with
   |func hf r1 r2=>
    rename_i g xs ys;have hf:g=.func 267:=hf;subst hf;have e1:xs=#[]:=by have:=r1.length;apply Array.eq_empty_of_size_eq_zero;simpa using this.symm
    have e2:ys=#[]:=by have:=r2.length;apply Array.eq_empty_of_size_eq_zero;simpa using this.symm
    rw[e1,e2]
  subst hfn;obtain⟨cp,hcp,rfl⟩:∃c,L.base+0+c*4=L.stop/\x0=.slice (some ⟨L.block,L.base+0,none⟩) l.length c:=by
   generalize hs:Value.slice (some ⟨o,0,none⟩) l.length (bt+4)=sv at a0;cases a0<;>try(cases hs;done)
   ·injection hs with e1 e2 e3;exfalso;omega
   ·rename_i o' off' m E' c' L' hL' hE hc hn;injection hs with e1 e2 e3;injection e1 with e1;injection e1 with e1 e4;subst e1 e2 e4;obtain rfl:=bu (hL.symm.trans hL');have:E'=4:=by omega
    subst this;exact⟨c',hc,rfl⟩
   ·injection hs with e1 e2 e3;exfalso;unfold bt at e3;omega
   all_goals
    exfalso;rename_i hq;cases hs
  have hblk:L.block<w1.heap.size:=by
   rcases dg L.block w1.heap.size with q|q
   ·exact q
   ·rw[Array.getElem?_eq_none q] at q1;cases q1
  have cellv:∀i v,(l.flatMap eQ)[i]? =some v->cz'[L.base+i]? =some v:=by intro i v hv;obtain⟨v',p1,p2⟩:=c5 i v (by rw[hcs];exact hv);obtain⟨q,rfl⟩:=Ew (qv hv);cases p2;exact p1
  have hH:HoldsK eQ 4 w1 L.block (L.base+0) l.toArray:=by
   intro j hj;have hj:j<l.length*4:=by simpa using hj
   have g:=J2 l j hj;have p:=cellv j _ g;constructor
   ·rw[Ro l j hj];show w1.cell? ⟨L.block,L.base+0+j,none⟩=some _;rw[Nat.add_zero];unfold World.cell?;simp only[q1];exact p
   ·unfold World.frozen?;simp only[q1];have hb:L.base+j<cz'.size:=by
     rcases dg (L.base+j) cz'.size with z|z
     ·exact z
     ·rw[Array.getElem?_eq_none z] at p;cases p
    rcases q2 with rfl|q2
    ·simp
    ·simp;omega
  have eg:∀args w,(callFunc 267 args).run Tryz.prog w=.ok (.enter 267 args) w:=enters_of Tryz.func267 (by kernel_rfl) rfl;obtain⟨e,w',fr,⟨rfl,n',os,rfl⟩,cc,hfnn,l1,l2,l3,fn,l4,l5⟩:=AnyQ.slices_SortFunc_eq Tryz.ahD 4 Tryz.isAgg317 Tryz.sizeOf317 eQ (λ_=>rfl) (λx v hv=>by simp[eQ] at hv;rcases hv with rfl|rfl|rfl|rfl<;>rfl) pK WT 267 #[] L.block (L.base+0) cp l.toArray w1 eg
   (λ_ _ _ _ x y=>YD x y _) hH hblk (by simpa using hlim) cs'
  have hD:pdq (ltOf pK) l.toArray 0 l.toArray.size (Lib.bitLen l.toArray.size) true true=(jc l).toArray:=by unfold jc;simp
  rw[hD] at cc l5;obtain⟨s1,s2,s3,s4,s5,s6⟩:=ahG w1 L.block (L.base+0) n' (jc l).toArray os;have hb':=s6 cz' _ fz q1;have same:∀{o1 ob1},(h.set o (.cells ((jc l).flatMap eQ) 317 true)).get o1=some ob1->∃b',h.get o1=some b':=by
   intro o1 ob1 ho;rw[Tr.bD] at ho;by_cases q:o1=o
   ·exact⟨_,by rw[q];exact g3⟩
   ·rw[ai q] at ho;exact⟨_,ho⟩
  have own:∀b,gT ρ (h.set o (.cells ((jc l).flatMap eQ) 317 true)) b->gT ρ h b:=by intro b ⟨o1,ob1,L1,m1,m2,m3⟩;obtain⟨b',m1'⟩:=same m1;exact⟨o1,b',L1,m1',m2,m3⟩
  refine⟨ρ,fr,_,fn,.tuple #[],cc,l1,l2,l3,⟨hfnn,l4⟩,l5,.tuple .nil,⟨λo1 ob1 ho=>?_,λo1 o2 L1 L2 b1 b2 m1 m2=>?_,λb i u hu=>?_,λb i u hu o1 ob1 L1 m1=>?_⟩,⟨s1,s2,s3,s4,λb hb ho=>s5 b hb λq=>ho ⟨o,_,L,g3,hL,q.symm⟩,λb _ ho=>own b ho,aB _,λ_ _=>rfl,λ_ _ _ h=>h,λb i u hu=>.inl hu⟩⟩
  ·rw[Tr.bD] at ho;by_cases q:o1=o
   ·rw[ar q] at ho;cases ho;subst q;have hsz:(putCells id (L.base+0) (flatK eQ 4 (jc l).toArray) cz').size=cz'.size:=by simp[putCells]
    refine⟨L,hL,_,fz,hb',by rw[hsz];exact q2,by rw[hsz];exact c3,by rw[hsz,Bp,sl];omega,(λq=>by cases q),λi v hv=>?_⟩;obtain⟨i1,rfl⟩:=ZT _ hv;have hi:L.base+i<cz'.size:=by rw[sl] at i1;omega
    refine⟨(eQ (jc l)[i/4]!)[i%4]!,?_,?_⟩
    ·unfold putCells;rw[Array.getElem?_mapIdx,uS hi,Option.map_some,ar ⟨by omega,by simp;omega⟩];rw[show L.base+i -(L.base+0)=i by omega,Ro _ _ i1];rfl
    ·obtain⟨q,hq⟩:=Ew (qv hv);rw[hq];exact .int _ _
   ·rw[ai q] at ho;obtain⟨L1,m1,m2⟩:=H.obj o1 ob1 ho;exact⟨L1,m1,m2.block (s5 _ m2.lt λz=>q (H.inj o1 o L1 L _ _ ho g3 m1 hL z))⟩
  ·obtain⟨x,m1⟩:=same m1;obtain⟨y,m2⟩:=same m2;exact H.inj o1 o2 L1 L2 x y m1 m2
  ·rw[oe (s5 b (H.yL hu) λz=>H.free b i u hu o _ L g3 hL z.symm)];exact H.lit b i u hu
  ·obtain⟨x,m1⟩:=same m1;exact H.free b i u hu o1 x L1 m1
 ·have ht:(Tr.nil.set 0 (SV.aH [])).get t=some sv:=ht;rw[Tr.bD] at ht⊢;by_cases q:t=0
  ·rw[ar q] at ht⊢;cases ht;exact⟨_,rfl,.aH .nil⟩
  ·rw[ai q,Tr.get_nil] at ht;cases ht
 ·have hs:(Tr.nil.set 0 (SO.grow 4 ((jc l).flatMap eQ) 317)).get id=some so:=hs;rw[Tr.bD] at hs;by_cases q:id=0
  ·rw[ar q] at hs;cases hs;subst q;exact⟨by decide,pr,.inr ⟨o,l.length,g1,by rw[Bp,sl];omega,_,by rw[Tr.bD,ar rfl],cU.refl _⟩⟩
  ·rw[ai q,Tr.get_nil] at hs;cases hs
 ·have key:∀i s,(Tr.nil.set 0 (SO.grow 4 ((jc l).flatMap eQ) 317)).get i=some s->i=0:=by
   intro i s hs;rw[Tr.bD] at hs;by_cases q:i=0
   ·exact q
   ·rw[ai q,Tr.get_nil] at hs;cases hs
  rw[key id so a1,key id' so' a2]
end Lt
end
section
open Go.Shelf Go.RowKit Go.Lib Go.Sort
set_option maxHeartbeats 4000000 in
set_option maxRecDepth 100000 in
theorem Jn(T:TypeId)(R:Nat->Option Value)(B b q:Nat)(bs:List Value)(w:World)(h:LibA.IsBuffer T R 5 B b q bs w):
 Calls Tryz.prog 79 #[.pointer (some ⟨b,q,none⟩)] w λe w'=>∃v,e=.returned v/\w'.ownsRow B 5 1 v bs.length bs/\∃n,w'=w.drewN n:=by
 have mixed:Tryz.prog.follows .mixedOrders=true:=by kernel_rfl
 obtain⟨hB,lr,hc⟩:=h.cases;rcases hc with⟨hnil,hbk⟩|⟨g,cap,cur,hbk,hBg,hg,hnc,hcm,hcs,htk,hgb⟩
 ·subst hnil;have c0:=hbk.c0;have c1:=hbk.c1
  go_enter Tryz.func79,Tryz.ntmps79
  go_wp2
  go_region_o
  all_goals(go_wp2;go_ret;exact⟨_,rfl,World.ownsRow_nil _ _ _ _,1,rfl⟩)
 ·have c0:=hbk.c0;have c1:=hbk.c1;have hcm':=hcm;unfold maxLen at hcm'
  go_enter Tryz.func79,Tryz.ntmps79
  go_wp2
  go_region_o
  all_goals(go_wp2;go_ret;exact⟨_,rfl,⟨by simp,.inr ⟨g,cap,cur,rfl,hBg,hg,hnc,hcm,by simpa using hcs,by simpa using htk⟩⟩,1,rfl⟩)
namespace Lt
variable{m:Nat->Nat->Option Value} {w w':World}
theorem abp{w1:World}(hm:Kn m w)(B:RowKit.Below w.heap.size w w1):∀b i v,dj m w1 w' b i=some v->dj m w w' b i=some v:=λb i v hv=>by
 unfold dj at hv⊢;have:=B.size;by_cases h1:b<w.heap.size
 ·rw[ar (by omega)] at hv;rw[ar h1];exact hv
 ·by_cases h2:b<w1.heap.size
  ·rw[ar h2] at hv;exact absurd (oU (hm b i v hv)) h1
  ·rw[ai h2] at hv;rw[ai h1];exact hv
def bd(l:List Int):List Value:=l.map λx=>.int .u8 x
theorem D1(l:List Int):bO (bd l):=bO.mm λx hx=>by obtain⟨b,_,rfl⟩:=List.mem_map.1 hx;exact⟨.int _ _,rfl⟩
theorem KF:∀l:List Int,aP m (bd l) (bd l)
 |[]=>.nil
 |_::l=>.cons (.int _ _) (KF l)
theorem Uf{B:Nat}(hB0:w.heap.size<=B){l:List Int}{v:Value}(h:w'.ownsRow B 5 1 v l.length (bd l)):bj (dj m w w') (ae l.length (bd l)) v:=by
 obtain⟨_,⟨rfl,hn⟩|⟨g,cap,cur,rfl,hB,hg,hnc,_,hcs,htk⟩⟩:=h
 ·have:l=[]:=jJ hn;subst this;exact .fN
 ·refine .gH (ys:=bd l) (KF l) (λi y hy=>?_) rfl hnc;unfold dj;rw[ai (by show¬g<_;omega),qR hg];have:(bd l)[i]? =cur.toList[i]? :=by
   rw[<-htk,List.getElem?_take_of_lt];rcases dg i (l.length*1) with q|q
   ·exact q
   ·rw[lN (by simp[bd];omega)] at hy;cases hy
  rw[this] at hy;simpa using hy
noncomputable def sa(S:Int->Value->Value->Option (Value×Int))(o:Int)(d s:Value):Option (Value×Int):=
 ob (S o d s) λr=>cond (ak r.2 0) (jQ r.1 λxs=>cond (aK xs.length) (cond (Nat.blt 65533 (4+xs.length)) (some (ae 0 [],7)) (cond xs.isEmpty none (some (ae (4+xs.length) (bd ([77,80,70,0]++xs)),0)))) none) (some (ae 0 [],r.2))
set_option maxHeartbeats 4000000 in
set_option maxRecDepth 100000 in
theorem aa7(hm:Kn m w){S:Int->Value->Value->Option (Value×Int)}{o:Int}{d s dv sv:Value}{r:Value×Int}(e:sa S o d s=some r)(q:Value×Int)(hq:S o d s=some q)
 (HC:∀w1,RowKit.Below w.heap.size w w1->Calls Tryz.prog 139 #[.agg #[.int .i64 o,dv],sv] w1 λe w'=>∃b,e=.returned (.tuple #[b,.int .i64 q.2])/\RowKit.Below w1.heap.size w1 w'/\bj (dj m w w') q.1 b):
 Calls Tryz.prog 150 #[.agg #[.int .i64 o,dv],sv] w λe w'=>∃b,e=.returned (.tuple #[b,.int .i64 r.2])/\RowKit.Below w.heap.size w w'/\bj (dj m w w') r.1 b:=by
 unfold sa at e;rw[hq] at e;obtain⟨b0,c⟩:=q;replace e:cond (ak c 0) (jQ b0 λxs=>cond (aK xs.length) (cond (Nat.blt 65533 (4+xs.length)) (some (ae 0 [],7)) (cond xs.isEmpty none (some (ae (4+xs.length) (bd ([77,80,70,0]++xs)),0)))) none) (some (ae 0 [],c))=some r:=e;have HE:=Lib.hid e;clear e hq
 go_enter Tryz.func150,Tryz.ntmps150
 go_wp2_with fail
 refine(HC _ ((fb _ _).alloc (aB _) _)).mono ?_
 rintro e2 w2 ⟨b,rfl,hb,hl⟩
 have HB:=Lib.hid hb;have HL:=Lib.hid hl;clear hb hl;by_cases hz:c=0
 case neg=>
  have hr:r=(ae 0 [],c):=by
   have:=HE.out;have h1:ak c 0=false:=by
    cases hb:ak c 0 with
    |false=>rfl
    |true=>exfalso;apply hz;cases c<;>first|exact bK _ (bJ hb)|cases hb
   rw[h1] at this;exact(bu this).symm
  have HR:=Lib.hid hr;have BB:RowKit.Below w.heap.size w w2:=((fb _ _).alloc (aB _) _).trans (HB.out.mono (by simp));have HBB:=Lib.hid BB;clear hr BB
  go_wp2_with fail
  all_goals first
   |(exfalso;rename_i hq;simp at hq;omega)
   |(go_ret2
     rw[HR.out];exact⟨_,rfl,HBB.out,.fN⟩)
 subst hz;have e':=HE.out;have e'':jQ b0 (λxs=>cond (aK xs.length) (cond (Nat.blt 65533 (4+xs.length)) (some (ae 0 [],7)) (cond xs.isEmpty none (some (ae (4+xs.length) (bd ([77,80,70,0]++xs)),0)))) none)=some r:=e';have BB:RowKit.Below w.heap.size w w2:=((fb _ _).alloc (aB _) _).trans (HB.out.mono (by simp));obtain⟨xs,hx,⟨a,cp,rfl,hcp,hcell⟩|⟨rfl,cp,rfl⟩⟩:=A7 (hm.new BB) e'' HL.out
 case inr=>exfalso;replace hx:cond (Nat.blt 65533 4) (some (ae 0 [],(7:Int))) (none:Option (Value×Int))=some r:=hx;cases hx
 clear e' e'';obtain⟨hroom,hx2⟩:=aT hx;clear hx;have hx:=hx2;clear hx2;have hsmall:xs.length<=1000000000:=cI hroom;have hw64:wrap64 (4+(xs.length:Int))=4+(xs.length:Int):=by unfold wrap64;omega
 clear hroom;have HX:=Lib.hid hx;have HC2:=Lib.hid hcell;have BB':=Lib.hid BB;clear hx hcell BB;have hbelow:0<xs.length->a.block<w2.heap.size:=λh0=>by have:=HC2.out 0 h0;rw[show a.add 0=a from rfl] at this;exact ji _ _ this
 by_cases hlong:65533<4+xs.length
 case pos=>
  have hr:r=(ae 0 [],7):=by have:=HX.out;rw[show Nat.blt 65533 (4+xs.length)=true from gi hlong] at this;exact(bu this).symm
  have HR:=Lib.hid hr;clear hr hbelow
  go_wp2_with fail
  all_goals first
   |(exfalso;rename_i hq;simp at hq;omega)
   |(go_ret2
     rw[HR.out];exact⟨_,rfl,BB'.out,.fN⟩)
 have ca:xs≠[]:=by
  rintro rfl
  have:=HX.out;replace this:cond (Nat.blt 65533 4) (some (ae 0 [],(7:Int))) (none:Option (Value×Int))=some r:=this;cases this
 have hr:r=(ae (4+xs.length) (bd ([77,80,70,0]++xs)),0):=by
  have:=HX.out;have h1:Nat.blt 65533 (4+xs.length)=false:=by
   cases hb:Nat.blt 65533 (4+xs.length) with
   |false=>rfl
   |true=>exact absurd (cT hb) hlong
  have h2:xs.isEmpty=false:=by cases xs<;>simp_all
  rw[h1,h2] at this;exact(bu this).symm
 have hpos:0<xs.length:=by cases xs<;>simp_all
 have HR:=Lib.hid hr;have HP:=Lib.hid hpos;have HBl:=Lib.hid (hbelow hpos);clear hr hpos hbelow ca
 go_wp2_with fail
 all_goals try(exfalso;rename_i hq;simp at hq;omega)
 have three:LibA.Three (w2.alloc (Obj.cells #[Value.slice none 0 0,Value.int IntKind.i64 0,Value.int IntKind.i8 0] 260)) w2.heap.size 0 260 (λ_=>none) (.slice none 0 0) (.int .i64 0) (.int .i8 0):=LibA.three_whole (heap_alloc_new w2 _);have buf:=LibA.zero_isBuffer (e:=5) (aB w2.heap.size) three;refine(Tryz.Buffer_WriteString_at 260 (λ_=>none) w2.heap.size w2.heap.size 0 [] _ _ buf (by simp) (λv hv=>by cases hv) (by decide)).mono ?_
 rintro e3 w3 ⟨rfl,hI,hb3,_⟩
 have HI:=Lib.hid hI;have HB3:=Lib.hid hb3;clear hI hb3 three buf
 go_wp2_with fail
 have hsrc:∀j v,(bd xs)[j]? =some v->w3.cell? (a.add j)=some v:=by
  intro j v hv;have hj:j<xs.length:=by
   rcases dg j xs.length with q|q
   ·exact q
   ·rw[lN (by simp[bd];omega)] at hv;cases hv
  have:=HC2.out j hj;have hv2:v=.int .u8 (xs.getD j 0):=by unfold bd at hv;rw[List.getElem?_map,dD hj] at hv;rw[Ao,dD hj];simpa using hv.symm
  rw[hv2,<-this];have hbl:(a.add j).block=a.block:=by unfold Addr.add;split<;>rfl
  exact iP (((HB3.out.block _ (by rw[hbl];exact HBl.out)).trans (RowKit.Below.heap_alloc _ _ _ (by rw[hbl];exact HBl.out))))
 refine(Tryz.Buffer_Write_at 260 (λ_=>none) w2.heap.size w2.heap.size 0 _ (bd xs) a xs.length cp w3 HI.out (Nat.le_of_lt HI.out.lt) ?_ (by simp[bd]) (λh=>by have:=HBl.out;omega) hsrc ?_ ?_).mono ?_
 ·intro v hv;have hv:v∈Lib.byteCells [77,80,70,0]:=by simpa using hv
  simp[Lib.byteCells] at hv;rcases hv with rfl|rfl|rfl|rfl<;>rfl
 ·intro v hv;obtain⟨b,_,rfl⟩:=List.mem_map.1 hv;rfl
 ·simp[Lib.byteCells];omega
 rintro e4 w4 ⟨rfl,hI4,hb4,_⟩
 have HI4:=Lib.hid hI4;have HB4:=Lib.hid hb4;clear hI4 hb4 hsrc
 go_wp2_with fail
 refine(Jn 260 (λ_=>none) w2.heap.size w2.heap.size 0 _ w4 HI4.out).mono ?_
 rintro e5 w5 ⟨v,rfl,hv,k,rfl⟩
 have HV:=Lib.hid hv;clear hv
 go_wp2_with fail
 go_ret2
 rw[HR.out];have hcells:(([]++Lib.byteCells [77,80,70,0])++bd xs:List Value)=bd ([77,80,70,0]++xs):=by simp[Lib.byteCells,bd]
 have HV':=HV.out;rw[show(([]++Lib.byteCells (ByteArray.mk #[77,80,70,0]).data.toList)++bd xs:List Value)=bd ([77,80,70,0]++xs) from hcells] at HV';have hlen:(bd ([77,80,70,0]++xs)).length=([77,80,70,0]++xs:List Int).length:=by simp[bd]
 rw[hlen] at HV';have hl2:([77,80,70,0]++xs:List Int).length=4+xs.length:=by simp;omega
 have B3:RowKit.Below w.heap.size w (w4.drewN k):=by have b1:=BB'.out;have b2:=b1.trans (((fb w2.heap.size w2).alloc (aB _) (Obj.cells #[Value.slice none 0 0,Value.int IntKind.i64 0,Value.int IntKind.i8 0] 260)).mono b1.size);have b3:=b2.trans (HB3.out.mono b1.size);have b4:=b3.trans (HB4.out.mono b1.size);exact⟨b4.os,b4.tape,b4.output,b4.size,b4.block⟩
 refine⟨v,rfl,B3,?_⟩;have:=Uf (m:=m) BB'.out.size HV';rw[hl2] at this;exact this
end Lt
end
namespace Lt
section
structure nL(P:Program)(t:Nat)(i:gC):Prop where
 under:P.underlying t=some i.desc
 info:∃inf,P.info? t=some inf/\inf.size=i.size/\inf.bytes=i.bytes/\(∀z,i.zero=some z->inf.zero=some z/\mP z=true)
 flat:i.flat=true->(P.eqGuardType P.depth t=false/\P.stoodInHeld t=false)/\oG P i.size i.desc
 direct:∀n f,i.direct.lookup n=some f->∃inf m,P.info? t=some inf/\inf.methods.find? (·.name==n)=some m/\m.path=#[]/\
  ((m.func=some (f,false)/\¬(∃e,i.desc=.pointer e))\/(m.func=some (f,true)/\∃e,i.desc=.pointer e))
variable{P:Program} {inf:TypeInfo} {t:Nat}
theorem EI(h:P.types[t]? =some inf):P.info? t=some inf:=by
 unfold Tables.info?
 grind
def xh(i:gC):Bool:=match i.zero with
 |some z=>mP z
 |none=>true
variable{i:gC}
theorem nL.Km(h:P.types[t]? =some inf)(h1:inf.size=i.size)(h2:inf.bytes=i.bytes)(h3:i.zero=none\/inf.zero=i.zero)(h4:xh i=true):
 ∃inf,P.info? t=some inf/\inf.size=i.size/\inf.bytes=i.bytes/\(∀z,i.zero=some z->inf.zero=some z/\mP z=true):=by
 refine⟨inf,EI h,h1,h2,λz hz=>?_⟩;unfold xh at h4
 grind
theorem nL.plain(h:P.types[t]? =some inf)(hu:P.underlying t=some i.desc)(h1:inf.size=i.size)(h2:inf.bytes=i.bytes)(h3:i.zero=none\/inf.zero=i.zero)(h4:xh i=true)
 (hf:i.flat=false) (hd:i.direct=[]):nL P t i:=
 ⟨hu,nL.Km h h1 h2 h3 h4,λe=>(by grind),λn f e=>(by grind)⟩
theorem nL.ZC(h:P.types[t]? =some inf)(hu:P.underlying t=some i.desc)(h1:inf.size=i.size)(h2:inf.bytes=i.bytes)(h3:i.zero=none\/inf.zero=i.zero)(h4:xh i=true)
 (hf:P.eqGuardType P.depth t=false) (hs:P.stoodInHeld t=false) (hF:oG P i.size i.desc) (hd:i.direct=[]):nL P t i:=
 ⟨hu,nL.Km h h1 h2 h3 h4,λ_=>⟨⟨hf,hs⟩,hF⟩,λn f e=>(by grind)⟩
def Dp(P:Program)(t:Nat):Prop:=(∃k,P.underlying t=some (.int k))/\∃inf,P.info? t=some inf/\inf.size=1
def Ex:List Field->Nat->(Nat->Bool)->Bool
 |[],_,_=>true
 |f::fs,n,ints=>cond (f.name== "_") false (cond (Nat.beq f.offset n) (cond (ints f.type) (Ex fs (n+1) ints) false) false)
theorem Rn{ints:Nat->Bool}(hi:∀t,ints t=true->Dp P t):∀(fs:List Field)(n:Nat),Ex fs n ints=true->∀(i:Nat)(f:Field),fs[i]? =some f->f.name≠ "_"/\f.offset=n+i/\Dp P f.type
 |[],n,_,i,f,h=>by grind
 |g::fs,n,e,i,f,h=>by
  unfold Ex at e;cases hn:(g.name== "_") with
  |true=>grind
  |false=>
   simp only[hn] at e;obtain⟨e1,e2⟩:=D7 e;obtain⟨e3,e4⟩:=D7 e2;cases i with
   |zero=>simp_all
   |succ i=>
    obtain⟨a,b,c⟩:=Rn hi fs (n+1) e4 i f (by grind)
    grind
def J1(ints:Nat->Bool)(n:Nat):TypeDesc->Bool
 | .struct fs=>cond (Nat.beq fs.toList.length n) (Ex fs.toList 0 ints) false
 | .array len e=>cond (Nat.beq len n) (ints e) false
 |_=>false
variable{d:TypeDesc}
theorem ZB{ints:Nat->Bool}(hi:∀t,ints t=true->Dp P t){n:Nat}(h:J1 ints n d=true):oG P n d:=by
 unfold J1 at h;split at h
 ·rename_i fs;obtain⟨h1,h2⟩:=D7 h;have:=bJ h1;refine⟨by simpa using this,λi f hf=>?_⟩;obtain⟨a,b,c⟩:=Rn hi _ _ h2 i f (by grind);exact⟨a,by omega,c⟩
 ·rename_i len e;obtain⟨h1,h2⟩:=D7 h;exact⟨bJ h1,hi _ h2⟩
 grind
variable{α:Type}
def ui:List (Nat×α)->Tr α
 |[]=>.nil
 |(n,x)::l=>(ui l).set n x
theorem KZ:∀{l:List (Nat×α)}{n:Nat}{x:α},(ui l).get n=some x->(n,x)∈l
 |[],n,x,h=>by rw[ui,Tr.get_nil] at h;cases h
 |(m,y)::l,n,x,h=>by
  rw[ui,Tr.bD] at h;by_cases e:n=m
  ·grind
  ·rw[ai e] at h;exact gL _ (KZ h)
theorem ah6{X:cJ}(hT:∀t i,X.T.get t=some i->nL P t i)(hF:∀f fn,X.F.get f=some fn->P.funcs[f]? =some fn/\(fn.name== "runtime.NumGoroutine")=false/\fn.body.isSome=true):ea P X where
 T:={
  under:=λt i h=>(hT t i h).under
  info:=λt i h=>(hT t i h).info
  flat:=λt i h hf=>((hT t i h).flat hf).1
  direct:=λt i h=>(hT t i h).direct}
 flat:=λt i h hf=>((hT t i h).flat hf).2
 F:=λf fn h=>hF f fn h
theorem ah7{T:TT}{F:FT}{lT:List (Nat×gC)}{lF:List (Nat×Func)}(eT:T=ui lT)(eF:F=ui lF)(hT:∀p∈lT,nL P p.1 p.2)(hF:∀p∈lF,P.funcs[p.1]? =some p.2 /\(p.2.name== "runtime.NumGoroutine")=false/\p.2.body.isSome=true):ea P ⟨T,F⟩:=by subst eT eF;exact ah6 (λt i h=>hT _ (KZ h)) (λf fn h=>hF _ (KZ h))
def Sg:TypeDesc->Bool
 | .pointer _=>true
 |_=>false
theorem abu(h:Sg d=false):¬∃e,d=.pointer e:=by
 rintro ⟨e,rfl⟩
 cases h
variable{f:FuncId} {nm:String}
theorem aaZ{n:String}{g:FuncId}(h:[(nm,f)].lookup n=some g):n=nm/\g=f:=by grind
theorem nL.one(h:P.types[t]? =some inf)(hu:P.underlying t=some i.desc)(h1:inf.size=i.size)(h2:inf.bytes=i.bytes)(h3:i.zero=none\/inf.zero=i.zero)(h4:xh i=true)
 (hf:i.flat=false) (hd:i.direct=[(nm,f)]) {m:Go.Method} (m1:inf.methods.find? (·.name==nm)=some m) (m2:m.path=#[]) (m3:m.func=some (f,false)) (m4:Sg i.desc=false):nL P t i:=
 ⟨hu,nL.Km h h1 h2 h3 h4,λe=>(by grind),λn g e=>by rw[hd] at e;obtain⟨rfl,rfl⟩:=aaZ e;exact⟨inf,m,EI h,m1,m2,.inl ⟨m3,abu m4⟩⟩⟩
end
section
open Tryz
set_option maxRecDepth 100000
def ints(t:Nat):Bool:=[3,37].any (Nat.beq t)
theorem aar:∀t,ints t=true->Dp Tryz.prog t:=by
 intro t h;have h:t∈[3,37]:=by unfold ints at h;rw[List.any_eq_true] at h;obtain⟨x,hx,e⟩:=h;rw[bJ e];exact hx
 simp only[cj,jh,jj] at h;rcases h with rfl|rfl
 ·exact⟨⟨_,Tryz.underlying3⟩,Tryz.t3,EI Tryz.type3,by kernel_rfl⟩
 ·exact⟨⟨_,Tryz.underlying37⟩,Tryz.t37,EI Tryz.type37,by kernel_rfl⟩
structure TE where
 t:Nat
 i:gC
 h:nL Tryz.prog t i
variable{d:TypeDesc} {n:TypeInfo} {t:Nat}
noncomputable def tx(h:Tryz.prog.types[t]? =some n)(u:Tryz.prog.underlying t=some d)(z:xh ⟨d,n.size,n.bytes,n.zero,false,[]⟩=true:=by kernel_rfl):TE:=
 ⟨t,⟨d,n.size,n.bytes,n.zero,false,[]⟩,.plain h u rfl rfl (.inr rfl) z rfl rfl⟩
noncomputable def tn(h:Tryz.prog.types[t]? =some n)(u:Tryz.prog.underlying t=some d):TE:=
 ⟨t,⟨d,n.size,n.bytes,none,false,[]⟩,.plain h u rfl rfl (.inl rfl) rfl rfl rfl⟩
noncomputable def tf(h:Tryz.prog.types[t]? =some n)(u:Tryz.prog.underlying t=some d)(e:Tryz.prog.eqGuardType Tryz.prog.depth t=false)(s:Tryz.prog.stoodInHeld t=false:=by kernel_rfl)
 (z:xh ⟨d,n.size,n.bytes,n.zero,true,[]⟩=true:=by kernel_rfl) (f:J1 ints n.size d=true:=by kernel_rfl):TE:=
 ⟨t,⟨d,n.size,n.bytes,n.zero,true,[]⟩,.ZC h u rfl rfl (.inr rfl) z e s (ZB aar f) rfl⟩
structure FE where
 n:Nat
 f:Func
 h:Tryz.prog.funcs[n]? =some f/\(f.name== "runtime.NumGoroutine")=false/\f.body.isSome=true
noncomputable def fx{n:Nat}{f:Func}(h:Tryz.prog.funcs[n]? =some f)(k:(f.name== "runtime.NumGoroutine")=false:=by kernel_rfl)(b:f.body.isSome=true:=by kernel_rfl):FE:=⟨n,f,h,k,b⟩
noncomputable def tl:List TE:=[tx type0 underlying0,tx type1 underlying1,tx type2 underlying2,tx type3 underlying3,tx type4 underlying4,tx type5 underlying5,tx type6 underlying6,tx type9 underlying9,tx type11 underlying11,tx type12 underlying12,tx type13 underlying13,tx type20 underlying20,tx type22 underlying22,tx type24 underlying24,tx type27 underlying27,tx type28 underlying28,tx type30 underlying30,tx type32 underlying32,tx type33 underlying33,tx type37 underlying37,tx type40 underlying40,tx type46 underlying46,tx type49 underlying49,tn type51 underlying51,tx type53 underlying53,tx type55 underlying55,tn type56 underlying56,tf type59 underlying59 eqGuardType59 stoodInHeld59,tx type62 underlying62,tx type63 underlying63,tx type66 underlying66,tx type68 underlying68,tn type69 underlying69,tx type71 underlying71,tx type73 underlying73,tn type76 underlying76,tx type85 underlying85,tx type88 underlying88,tx type89 underlying89,tx type91 underlying91,tx type92 underlying92,tx type93 underlying93,tx type96 underlying96,tx type97 underlying97,tx type99 underlying99,tx type101 underlying101,tx type103 underlying103,tx type104 underlying104,tx type105 underlying105,tn type108 underlying108,tx type111 underlying111,tx type113 underlying113,tx type114 underlying114,tn type115 underlying115,tx type117 underlying117,tn type119 underlying119,tx type124 underlying124,tx type127 underlying127,tx type129 underlying129,tx type133 underlying133,tx type134 underlying134,tx type143 underlying143,tx type146 underlying146,tx type147 underlying147,tx type149 underlying149,tx type150 underlying150,tx type154 underlying154,tx type157 underlying157,tf type159 underlying159 eqGuardType159 stoodInHeld159,tn type160 underlying160,tx type161 underlying161,tx type163 underlying163,tx type166 underlying166,tx type169 underlying169,tx type171 underlying171,tx type172 underlying172,tx type174 underlying174,tx type176 underlying176,tx type177 underlying177,tx type179 underlying179,tx type181 underlying181,tx type182 underlying182,tx type187 underlying187,tn type191 underlying191,tx type195 underlying195,tx type209 underlying209,tx type213 underlying213,tx type217 underlying217,tx type218 underlying218,tx type220 underlying220,tx type221 underlying221,tx type225 underlying225,tx type226 underlying226,tx type228 underlying228,tf type229 underlying229 eqGuardType229,tx type237 underlying237,tx type239 underlying239,tx type240 underlying240,tf type243 underlying243 eqGuardType243 stoodInHeld243,tx type245 underlying245,tx type247 underlying247,tx type249 underlying249,tf type254 underlying254 eqGuardType254 stoodInHeld254,tf type256 underlying256 eqGuardType256 stoodInHeld256,tx type259 underlying259,tf type271 underlying271 eqGuardType271,tx type272 underlying272,tx type274 underlying274,tx type275 underlying275,tf type277 underlying277 eqGuardType277 stoodInHeld277,tn type278 underlying278,tn type281 underlying281,tx type284 underlying284,tx type285 underlying285,tx type287 underlying287,tx type289 underlying289,tn type290 underlying290,tf type292 underlying292 eqGuardType292 stoodInHeld292,tx type296 underlying296,tx type303 underlying303,tf type305 underlying305 eqGuardType305 stoodInHeld305,tx type307 underlying307,tx type308 underlying308,tx type311 underlying311,tx type313 underlying313,tx type314 underlying314,tx type315 underlying315,tf type317 underlying317 eqGuardType317 stoodInHeld317,tx type320 underlying320,tx type324 underlying324,tx type326 underlying326,tf type328 underlying328 eqGuardType328,tx type342 underlying342,tx type344 underlying344,tf type345 underlying345 eqGuardType345,tf type346 underlying346 eqGuardType346,tx type348 underlying348,tx type353 underlying353,tx type354 underlying354,tx type360 underlying360,tx type362 underlying362,tx type363 underlying363,tx type364 underlying364,tx type367 underlying367,tn type370 underlying370,tx type374 underlying374,tn type383 underlying383,tx type387 underlying387,tx type392 underlying392,tx type394 underlying394,tx type401 underlying401,tx type403 underlying403,tx type405 underlying405,tx type406 underlying406,tx type408 underlying408]
noncomputable def fl:List FE:=[fx func3,fx func6,fx func7,fx func8,fx func9,fx func10,fx func11,fx func12,fx func14,fx func16,fx func24,fx func25,fx func26,fx func27,fx func28,fx func29,fx func30,fx func31,fx func32,fx func34,fx func36,fx func43,fx func46,fx func47,fx func48,fx func49,fx func50,fx func51,fx func52,fx func53,fx func54,fx func55,fx func56,fx func57,fx func58,fx func59,fx func60,fx func61,fx func62,fx func63,fx func64,fx func65,fx func66,fx func67,fx func68,fx func69,fx func70,fx func71,fx func72,fx func73,fx func74,fx func75,fx func76,fx func77,fx func78,fx func79,fx func84,fx func85,fx func95,fx func96,fx func97,fx func98,fx func99,fx func100,fx func101,fx func102,fx func103,fx func104,fx func105,fx func106,fx func107,fx func108,fx func109,fx func110,fx func111,fx func112,fx func113,fx func114,fx func115,fx func116,fx func117,fx func118,fx func119,fx func120,fx func121,fx func122,fx func123,fx func124,fx func125,fx func126,fx func127,fx func128,fx func129,fx func130,fx func131,fx func132,fx func133,fx func134,fx func135,fx func136,fx func137,fx func138,fx func139,fx func140,fx func141,fx func142,fx func148,fx func149,fx func150,fx func151,fx func164,fx func165,fx func166,fx func167,fx func168,fx func169,fx func170,fx func171,fx func172,fx func173,fx func174,fx func175,fx func176,fx func177,fx func178,fx func179,fx func180,fx func181,fx func182,fx func183,fx func184,fx func185,fx func186,fx func187,fx func188,fx func189,fx func190,fx func191,fx func192,fx func193,fx func194,fx func195,fx func196,fx func197,fx func198,fx func199,fx func200,fx func201,fx func202,fx func203,fx func210,fx func211,fx func212,fx func227,fx func228,fx func229,fx func230,fx func231,fx func232,fx func233,fx func234,fx func235,fx func236,fx func237,fx func238,fx func239,fx func240,fx func241,fx func242,fx func243,fx func244,fx func245,fx func246,fx func247,fx func248,fx func249,fx func250,fx func251,fx func252,fx func253,fx func254,fx func255,fx func256,fx func257,fx func258,fx func259,fx func260,fx func261,fx func262,fx func263,fx func264,fx func265,fx func266,fx func267,fx func268,fx func271,fx func272,fx func285,fx func286,fx func287,fx func288,fx func289,fx func290,fx func291,fx func292,fx func293,fx func294,fx func295,fx func296,fx func297,fx func298,fx func299,fx func300,fx func301,fx func302,fx func303,fx func304,fx func305,fx func306,fx func307,fx func308,fx func309,fx func310,fx func311,fx func312,fx func313,fx func314,fx func315,fx func316,fx func317,fx func318,fx func319,fx func320,fx func321,fx func330,fx func331,fx func332,fx func333,fx func334,fx func335,fx func336,fx func337,fx func338,fx func339,fx func340,fx func343,fx func344,fx func345,fx func346,fx func347,fx func348,fx func349,fx func351,fx func352,fx func353,fx func354,fx func367,fx func368,fx func369,fx func370,fx func371,fx func374,fx func378,fx func379]
noncomputable def ah5:TT:=ui (tl.map λe=>(e.t,e.i))
noncomputable def ah4:FT:=ui (fl.map λe=>(e.n,e.f))
noncomputable def qj:cJ:=⟨ah5,ah4⟩
theorem sU:ea Tryz.prog qj:=ah7 rfl rfl
 (λp hp=>by obtain⟨e,_,rfl⟩:=List.mem_map.1 hp;exact e.h) (λp hp=>by obtain⟨e,_,rfl⟩:=List.mem_map.1 hp;exact e.h)
def qfs:List Nat:=[11,285,252,120,138,199,200,194,169,57,185,140,63,151,288,371,48,295,253,252,95,176,249,352,203,336,210,368,337,187,108,171,227,228,170,286,264,242,287,175,73,134,226,220,322,323,363,364,192,132,325,326,283,225,270,208,213,214,209,89,97]
noncomputable instance:QF:=⟨λn=>List.any qfs (Nat.beq n)⟩
theorem mixed:Tryz.prog.follows .mixedOrders=true:=Tryz.checked.mixed
end
section
theorem Ei{ts:List VT}{ls r:List bo}{pv:Value}(e:lu (.agg ts) ls=some (pv,r)):∃vs,fk ts ls=some (vs,r)/\pv=.agg ⟨vs⟩:=by
 have e:(ob (fk ts ls) λr=>some (Value.agg ⟨r.1⟩,r.2))=some (pv,r):=by unfold lu at e;exact e
 replace e:=af e;obtain⟨⟨a,b⟩,h1,e⟩:=e;cases e;exact⟨a,h1,rfl⟩
abbrev rL:VT:=.aH [.v,.i .i64]
variable{i:Int} {v:Value}
theorem Kz(h:aY v/\bB [v]=true):iQ (jW (VT.ks rL) (show cM (VT.ks rL) from(v,i))):=by intro x hx;have hx:bo.v x∈[bo.v v,bo.i i]:=hx;simp at hx;rw[hx];exact h
theorem Sv(h:iQ (jW (VT.ks rL) (show cM (VT.ks rL) from(v,i)))):aY v/\bB [v]=true:=h v (by show bo.v v∈[bo.v v,bo.i i];simp)
variable{P:Program} {g:FuncId} {us:List Value}
theorem Xt{q:Value×Int}(R:mI P g us (.tuple #[q.1,.int .i64 q.2]))(hq:aY q.1){m:Nat->Nat->Option Value}{w:World}(hm:Kn m w){args':Array Value}(A:aP m us args'.toList):
 ∀w1,RowKit.Below w.heap.size w w1->Calls P g args' w1 λe w'=>∃b,e=.returned (.tuple #[b,.int .i64 q.2])/\RowKit.Below w1.heap.size w1 w'/\bj (dj m w w') q.1 b:=by
 intro w1 B;refine(xU R (.inr ⟨_,rfl,λx hx=>?_⟩) (hm.below B) A).mono ?_
 ·simp at hx;rcases hx with rfl|rfl
  ·exact hq
  ·exact .int _ _
 ·rintro e w' ⟨v',rfl,hb,hl⟩
  cases hl with
  |aH hl=>
   rename_i xs;obtain⟨xs⟩:=xs;cases hl with|cons a0 hl=>?_
   cases hl with|cons a1 hl=>?_
   cases hl;cases a1;exact⟨_,rfl,hb,bj.mono (abp hm B) a0⟩
variable{r:Value×Int}
theorem Pf(hp:∀a∈us,aY a)
 (C:∀(m:Nat->Nat->Option Value)(args':Array Value)(w:World),Kn m w->aP m us args'.toList->Calls P g args' w λe w'=>∃b,e=.returned (.tuple #[b,.int .i64 r.2])/\RowKit.Below w.heap.size w w'/\bj (dj m w w') r.1 b):mI P g us (.tuple #[r.1,.int .i64 r.2]):=
 BZ hp λm args' w hm A=>(C m args' w hm A).mono λ_ _ ⟨_,h1,h2,h3⟩=>⟨_,h1,h2,.aH (.cons h3 (.cons (.int _ _) .nil))⟩
variable{S:Int->Value->Value->Option (Value×Int)}
theorem aa6{o:Int}{d s:Value}(e:sa S o d s=some r):aY r.1 /\bB [r.1]=true:=by
 unfold sa at e;replace e:=af e;obtain⟨q,_,e⟩:=e;cases hc:ak q.2 0 with
 |false=>rw[hc] at e;cases e;exact fq ⟨(λx h=>by cases h),rfl⟩
 |true=>
  rw[hc] at e;unfold cond at e;unfold jQ at e;simp only at e;split at e
  ·obtain⟨_,e2⟩:=aT e;replace e2:=af e2;obtain⟨xs,_,e2⟩:=e2;obtain⟨_,e3⟩:=aT e2;cases hb:Nat.blt 65533 (4+xs.length) with
   |true=>rw[hb] at e3;cases e3;exact fq ⟨(λx h=>by cases h),rfl⟩
   |false=>
    rw[hb] at e3;cases he:xs.isEmpty with
    |true=>rw[he] at e3;cases e3
    |false=>rw[he] at e3;cases e3;exact fq (D1 _)
  ·cases e
theorem Tv(F:dI Tryz.prog 139 [.agg [.i .i64,.v],.v] rL S):dI Tryz.prog 150 [.agg [.i .i64,.v],.v] rL (sa S):=by
 intro ls r e hl us hu;have hu0:=hu;obtain⟨x,r1,us1,h1,h2,rfl⟩:=gD hu;obtain⟨y,r2,us2,h3,h4,rfl⟩:=gD h2;obtain⟨rfl,rfl⟩:=pN h4;obtain⟨vs,h5,rfl⟩:=Ei h1;obtain⟨z,r3,us3,h6,h7,rfl⟩:=gD h5;obtain⟨z2,r4,us4,h8,h9,rfl⟩:=gD h7;obtain⟨rfl,rfl⟩:=pN h9;obtain⟨o,rfl,rfl⟩:=tR h6;obtain rfl:=lY h8;obtain rfl:=lY h3;replace e:sa S o z2 y=some r:=e;have e0:=e;unfold sa at e0;replace e0:=af e0;obtain⟨q,hq,_⟩:=e0;obtain⟨f1,pv,f2,f3⟩:=F [.i o,.v z2,.v y] q hq hl _ hu0;have hpv:pv=.tuple #[q.1,.int .i64 q.2]:=by have f2:some (Value.tuple ⟨[q.1,.int .i64 q.2]⟩,([]:List bo))=some (pv,[]):=f2;cases f2;rfl
 subst hpv;refine⟨Kz (aa6 e),_,rfl,Pf ?_ λm args' w hm A=>?_⟩
 ·intro a ha;simp only[cj,jh,jj] at ha;rcases ha with rfl|rfl
  ·refine .agg λx hx=>?_;have hx:x=.int .i64 o\/x=z2:=by simpa using hx
   rcases hx with rfl|rfl
   ·exact .int _ _
   ·exact(hl _ (by simp)).1
  ·exact(hl _ (by simp)).1
 ·have A0:=A;obtain⟨al⟩:=args';replace A:aP m _ al:=A;cases A with|cons a0 A=>?_
  cases A with|cons a1 A=>?_
  cases A;cases a0 with
  |agg a0=>
   rename_i xs;obtain⟨xs⟩:=xs;cases a0 with|cons b0 a0=>?_
   cases a0 with|cons b1 a0=>?_
   cases a0;cases b0;exact aa7 hm e q hq (Xt f3 (Sv f1).1 hm A0)
end
section
open Go.Shelf Go.RowKit Go.Lib Go.Sort
abbrev XH:VT:=.aH [.i .i64,.i .i64]
abbrev DI:VT:=.agg [.i .i64,.v,.v,.v,.v,.v,.v,.v]
variable{m:Nat->Nat->Option Value} {w:World}
theorem Z6{P:Program}{g:FuncId}{us:List Value}{q:Int×Int}(R:mI P g us (.tuple #[.int .i64 q.1,.int .i64 q.2]))(hm:Kn m w){args':Array Value}(A:aP m us args'.toList):
 ∀w1,RowKit.Below w.heap.size w w1->Calls P g args' w1 λe w'=>e=.returned (.tuple #[.int .i64 q.1,.int .i64 q.2])/\RowKit.Below w1.heap.size w1 w':=by
 intro w1 B;refine(xU R (.inr ⟨_,rfl,λx hx=>?_⟩) (hm.below B) A).mono ?_
 ·simp at hx;rcases hx with rfl|rfl<;>exact .int _ _
 ·rintro e w' ⟨v',rfl,hb,hl⟩
  cases hl with
  |aH hl=>
   rename_i xs;obtain⟨xs⟩:=xs;cases hl with|cons a0 hl=>?_
   cases hl with|cons a1 hl=>?_
   cases hl;cases a0;cases a1;exact⟨rfl,hb⟩
variable{a b:Int}
theorem Kj(h:ak a b=true):a=b:=by cases a<;>cases b<;>first|exact bK _ (bJ h)|exact(bK _ (bJ h).symm)|cases h
theorem Z4(a:Int):ak a a=true:=by cases a<;>exact kV _
theorem RH(h:a≠b):ak a b=false:=by
 cases hb:ak a b with
 |false=>rfl
 |true=>exact absurd (Kj hb) h
def qN:List Int:=[69,120,105,102,0,0]
noncomputable def vF(q:Value×Int):Option (Value×Int):=
 cond (ak q.2 0) (jQ q.1 λxs=>cond (aK xs.length) (cond xs.isEmpty none (some (ae (6+xs.length) (bd (qN++xs)),0))) none) (some (ae 0 [],q.2))
noncomputable def AO(L:Int->Value->Value->Value->Value->Value->Value->Value->Option (Int×Int))(W:Int->Value->Value->Value->Value->Value->Value->Value->Option (Value×Int))(o:Int)(a b c d e f g:Value):Option (Value×Int):=
 ob (L o a b c d e f g) λl=>cond (ak l.2 0) (cond (aq l.1 0) (some (ae 0 [],7)) (ob (W o a b c d e f g) vF)) (some (ae 0 [],l.2))
set_option maxHeartbeats 8000000 in
set_option maxRecDepth 100000 in
theorem XY(hm:Kn m w){o:Int}{a b c d e f g:Value}{r:Value×Int}(l:Int×Int)
 (HL:∀w1,RowKit.Below w.heap.size w w1->Calls Tryz.prog 75 #[.agg #[.int .i64 o,a,b,c,d,e,f,g]] w1 λe w'=>e=.returned (.tuple #[.int .i64 l.1,.int .i64 l.2])/\RowKit.Below w1.heap.size w1 w')
 (HR:(l.2 ≠0/\r=(ae 0 [],l.2))\/(l.2 =0/\l.1 <0/\r=(ae 0 [],7))\/(l.2 =0/\¬l.1 <0/\∃q,vF q=some r/\
  ∀w1,RowKit.Below w.heap.size w w1->Calls Tryz.prog 76 #[.agg #[.int .i64 o,a,b,c,d,e,f,g]] w1 λe w'=>∃b,e=.returned (.tuple #[b,.int .i64 q.2])/\RowKit.Below w1.heap.size w1 w'/\bj (dj m w w') q.1 b)):
 Calls Tryz.prog 32 #[.agg #[.int .i64 o,a,b,c,d,e,f,g]] w λe w'=>∃b,e=.returned (.tuple #[b,.int .i64 r.2])/\RowKit.Below w.heap.size w w'/\bj (dj m w w') r.1 b:=by
 obtain⟨l1,l2⟩:=l
 go_enter Tryz.func32,Tryz.ntmps32
 go_wp2_with fail
 refine(HL _ ((fb _ _).alloc (aB _) _)).mono ?_
 rintro e2 w2 ⟨rfl,hb⟩
 have BB:RowKit.Below w.heap.size w w2:=((fb _ _).alloc (aB _) _).trans (hb.mono (by simp));have cell0:∀i,i<8->w2.cell? ⟨w.heap.size,i,none⟩=(#[Value.int .i64 o,a,b,c,d,e,f,g]:Array Value)[i]? :=λi hi=>by
  rw[iP (w':=w2) (w:=w.alloc (Obj.cells #[Value.int .i64 o,a,b,c,d,e,f,g] 30)) (a:=⟨w.heap.size,i,none⟩) (hb.block _ (by simp))];unfold World.cell?;show(match(w.alloc _).heap[w.heap.size]? with|some (.cells c _ _)=>c[i]? |_=>none)=_
  rw[heap_alloc_new]
 rcases HR with⟨h1,hr⟩|⟨h1,h2,hr⟩|⟨h1,h2,q,hq,HW⟩
 ·have HRR:=Lib.hid hr;have HBB:=Lib.hid BB;clear hb hr BB cell0 HL
  go_wp2_with fail
  all_goals first
   |(exfalso;rename_i hq;simp at hq;omega)
   |(go_ret2
     rw[HRR.out];exact⟨_,rfl,HBB.out,.fN⟩)
 ·have HRR:=Lib.hid hr;have HBB:=Lib.hid BB;have h1:l2=0:=h1;subst h1;clear hb hr BB cell0 HL
  go_wp2_with fail
  all_goals first
   |(exfalso;rename_i hq;simp at hq;omega)
   |(go_ret2
     rw[HRR.out];exact⟨_,rfl,HBB.out,.fN⟩)
 ·have h1:l2=0:=h1;subst h1;have HBB:=Lib.hid BB;have HQ:=Lib.hid hq;have c0:=cell0 0 (by omega);have c1:=cell0 1 (by omega);have c2:=cell0 2 (by omega);have c3:=cell0 3 (by omega);have c4:=cell0 4 (by omega);have c5:=cell0 5 (by omega);have c6:=cell0 6 (by omega);have c7:=cell0 7 (by omega);clear hb hq BB cell0 HL
  go_wp2_with fail
  all_goals try(exfalso;rename_i hq;simp at hq;omega)
  refine(HW _ HBB.out).mono ?_
  rintro e3 w3 ⟨v,rfl,hb3,hl3⟩
  obtain⟨q1,q2⟩:=q;have B3:RowKit.Below w.heap.size w w3:=HBB.out.trans (hb3.mono HBB.out.size);have HB3:=Lib.hid B3;have HL3:=Lib.hid hl3;clear hb3 hl3 B3 HBB c0 c1 c2 c3 c4 c5 c6 c7 HW;by_cases hz:q2=0
  case neg=>
   have hr:r=(ae 0 [],q2):=by have:=HQ.out;unfold vF at this;rw[RH hz] at this;exact(bu this).symm
   have HRR:=Lib.hid hr;clear hr
   go_wp2_with fail
   all_goals first
    |(exfalso;rename_i hq;simp at hq;omega)
    |(go_ret2
      rw[HRR.out];exact⟨_,rfl,HB3.out,.fN⟩)
  subst hz;have e'':jQ q1 (λxs=>cond (aK xs.length) (cond xs.isEmpty none (some (ae (6+xs.length) (bd (qN++xs)),(0:Int)))) none)=some r:=HQ.out;obtain⟨xs,hx,⟨ad,cp,rfl,hcp,hcell⟩|⟨rfl,cp,rfl⟩⟩:=A7 (hm.new HB3.out) e'' HL3.out
  case inr=>exfalso;cases hx
  clear e'';obtain⟨hroom,hx2⟩:=aT hx;clear hx;have hsmall:xs.length<=1000000000:=cI hroom;clear hroom;have ca:xs≠[]:=by rintro rfl;cases hx2
  have hr:r=(ae (6+xs.length) (bd (qN++xs)),0):=by
   have h2:xs.isEmpty=false:=by cases xs<;>simp_all
   rw[h2] at hx2;exact(bu hx2).symm
  have hpos:0<xs.length:=by cases xs<;>simp_all
  have HC2:=Lib.hid hcell;clear hcell hx2 ca;have hbelow:ad.block<w3.heap.size:=by have:=HC2.out 0 hpos;rw[show ad.add 0=ad from rfl] at this;exact ji _ _ this
  have HRR:=Lib.hid hr;have HP:=Lib.hid hpos;have HBl:=Lib.hid hbelow;clear hr hpos hbelow
  go_wp2_with fail
  all_goals try(exfalso;rename_i hq;simp at hq;omega)
  have three:LibA.Three (w3.alloc (Obj.cells #[Value.slice none 0 0,Value.int IntKind.i64 0,Value.int IntKind.i8 0] 131)) w3.heap.size 0 131 (λ_=>none) (.slice none 0 0) (.int .i64 0) (.int .i8 0):=LibA.three_whole (heap_alloc_new w3 _);have buf:=LibA.zero_isBuffer (e:=5) (aB w3.heap.size) three;refine(Tryz.Buffer_WriteString_at 131 (λ_=>none) w3.heap.size w3.heap.size 0 [] _ _ buf (by simp) (λv hv=>by cases hv) (by decide)).mono ?_
  rintro e4 w4 ⟨rfl,hI,hb4,_⟩
  have HI:=Lib.hid hI;have HB4:=Lib.hid hb4;clear hI hb4 three buf
  go_wp2_with fail
  have hsrc:∀j v,(bd xs)[j]? =some v->w4.cell? (ad.add j)=some v:=by
   intro j v hv;have hj:j<xs.length:=by
    rcases dg j xs.length with q|q
    ·exact q
    ·rw[lN (by simp[bd];omega)] at hv;cases hv
   have:=HC2.out j hj;have hv2:v=.int .u8 (xs.getD j 0):=by unfold bd at hv;rw[List.getElem?_map,dD hj] at hv;rw[Ao,dD hj];simpa using hv.symm
   rw[hv2,<-this];have hbl:(ad.add j).block=ad.block:=by unfold Addr.add;split<;>rfl
   exact iP (((HB4.out.block _ (by rw[hbl];exact HBl.out)).trans (RowKit.Below.heap_alloc _ _ _ (by rw[hbl];exact HBl.out))))
  refine(Tryz.Buffer_Write_at 131 (λ_=>none) w3.heap.size w3.heap.size 0 _ (bd xs) ad xs.length cp w4 HI.out (Nat.le_of_lt HI.out.lt) ?_ (by simp[bd]) (λh=>by have:=HBl.out;omega) hsrc ?_ ?_).mono ?_
  ·intro v hv;have hv:v∈Lib.byteCells [69,120,105,102,0,0]:=by simpa using hv
   simp[Lib.byteCells] at hv;rcases hv with rfl|rfl|rfl|rfl|rfl<;>rfl
  ·intro v hv;obtain⟨b,_,rfl⟩:=List.mem_map.1 hv;rfl
  ·simp[Lib.byteCells];omega
  rintro e5 w5 ⟨rfl,hI5,hb5,_⟩
  have HI5:=Lib.hid hI5;have HB5:=Lib.hid hb5;clear hI5 hb5 hsrc
  go_wp2_with fail
  refine(Jn 131 (λ_=>none) w3.heap.size w3.heap.size 0 _ w5 HI5.out).mono ?_
  rintro e6 w6 ⟨v,rfl,hv,k,rfl⟩
  have HV:=Lib.hid hv;clear hv
  go_wp2_with fail
  go_ret2
  rw[HRR.out];have hcells:(([]++Lib.byteCells [69,120,105,102,0,0])++bd xs:List Value)=bd (qN++xs):=by simp[Lib.byteCells,bd,qN]
  have HV':=HV.out;rw[show(([]++Lib.byteCells (ByteArray.mk #[69,120,105,102,0,0]).data.toList)++bd xs:List Value)=bd (qN++xs) from hcells] at HV';have hlen:(bd (qN++xs)).length=(qN++xs:List Int).length:=by simp[bd]
  rw[hlen] at HV';have hl2:(qN++xs:List Int).length=6+xs.length:=by simp[qN];omega
  have B6:RowKit.Below w.heap.size w (w5.drewN k):=by have b1:=HB3.out;have b2:=b1.trans (((fb w3.heap.size w3).alloc (aB _) (Obj.cells #[Value.slice none 0 0,Value.int IntKind.i64 0,Value.int IntKind.i8 0] 131)).mono b1.size);have b3:=b2.trans (HB4.out.mono b1.size);have b4:=b3.trans (HB5.out.mono b1.size);exact⟨b4.os,b4.tape,b4.output,b4.size,b4.block⟩
  refine⟨v,rfl,B6,?_⟩;have:=Uf (m:=m) HB3.out.size HV';rw[hl2] at this;exact this
end
theorem aiz{ls:List bo}{us:List Value}(hu:fk [DI] ls=some (us,[])):∃o a b c d e f g,ls=[.i o,.v a,.v b,.v c,.v d,.v e,.v f,.v g]/\us=[.agg ⟨[.int .i64 o,a,b,c,d,e,f,g]⟩]:=by obtain⟨x,r1,us1,h1,h2,rfl⟩:=gD hu;obtain⟨rfl,rfl⟩:=pN h2;obtain⟨vs,h5,rfl⟩:=Ei h1;obtain⟨z0,s0,t0,k0,g0,rfl⟩:=gD h5;obtain⟨z1,s1,t1,k1,g1,rfl⟩:=gD g0;obtain⟨z2,s2,t2,k2,g2,rfl⟩:=gD g1;obtain⟨z3,s3,t3,k3,g3,rfl⟩:=gD g2;obtain⟨z4,s4,t4,k4,g4,rfl⟩:=gD g3;obtain⟨z5,s5,t5,k5,g5,rfl⟩:=gD g4;obtain⟨z6,s6,t6,k6,g6,rfl⟩:=gD g5;obtain⟨z7,s7,t7,k7,g7,rfl⟩:=gD g6;obtain⟨rfl,rfl⟩:=pN g7;obtain⟨o,rfl,rfl⟩:=tR k0;obtain rfl:=lY k1;obtain rfl:=lY k2;obtain rfl:=lY k3;obtain rfl:=lY k4;obtain rfl:=lY k5;obtain rfl:=lY k6;obtain rfl:=lY k7;exact⟨o,_,_,_,_,_,_,_,rfl,rfl⟩
theorem XU{q r:Value×Int}(e:vF q=some r):aY r.1 /\bB [r.1]=true:=by
 unfold vF at e;cases hc:ak q.2 0 with
 |false=>rw[hc] at e;cases e;exact fq ⟨(λx h=>by cases h),rfl⟩
 |true=>
  rw[hc] at e;unfold cond at e;unfold jQ at e;simp only at e;split at e
  ·obtain⟨_,e2⟩:=aT e;replace e2:=af e2;obtain⟨xs,_,e2⟩:=e2;obtain⟨_,e3⟩:=aT e2;cases he:xs.isEmpty with
   |true=>rw[he] at e3;cases e3
   |false=>rw[he] at e3;cases e3;exact fq (D1 _)
  ·cases e
theorem RI{a b:Int}:aq a b=true↔a<b:=by rw[show aq a b=decide (a<b) from yE a b,bV]
theorem Lg{L:Int->Value->Value->Value->Value->Value->Value->Value->Option (Int×Int)}{W:Int->Value->Value->Value->Value->Value->Value->Value->Option (Value×Int)}
 (FL:dI Tryz.prog 75 [DI] XH L) (FW:dI Tryz.prog 76 [DI] rL W):dI Tryz.prog 32 [DI] rL (AO L W):=by
 intro ls r e hl us hu;have hu0:=hu;obtain⟨o,a,b,c,d,x5,f,g,rfl,rfl⟩:=aiz hu;obtain⟨r,hr'⟩:∃r0:Value×Int,r0=r:=⟨r,rfl⟩;subst hr';replace e:AO L W o a b c d x5 f g=some r:=e;unfold AO at e;replace e:=af e;obtain⟨l,hL,e⟩:=e;obtain⟨_,pl,fl2,fl3⟩:=FL [.i o,.v a,.v b,.v c,.v d,.v x5,.v f,.v g] l hL hl _ hu0;have hpl:pl=.tuple #[.int .i64 l.1,.int .i64 l.2]:=by have fl2:some (Value.tuple ⟨[.int .i64 l.1,.int .i64 l.2]⟩,([]:List bo))=some (pl,[]):=fl2;cases fl2;rfl
 subst hpl;have hp:∀v∈[Value.agg ⟨[.int .i64 o,a,b,c,d,x5,f,g]⟩],aY v:=by
  intro v hv;simp only[cj,jh,jj] at hv;subst hv;refine .agg λx hx=>?_;have hx:x=.int .i64 o\/x=a\/x=b\/x=c\/x=d\/x=x5\/x=f\/x=g:=by simpa using hx
  rcases hx with rfl|hx
  ·exact .int _ _
  ·exact(hl x (by rcases hx with rfl|rfl|rfl|rfl|rfl|rfl|rfl<;>simp)).1
 have goal:aY r.1 /\bB [r.1]=true/\∀(m:Nat->Nat->Option Value)(args':Array Value)(w:World),Kn m w->aP m [Value.agg ⟨[.int .i64 o,a,b,c,d,x5,f,g]⟩] args'.toList->
  ((l.2 ≠0/\r=(ae 0 [],l.2))\/(l.2 =0/\l.1 <0/\r=(ae 0 [],7))\/(l.2 =0/\¬l.1 <0/\∃q,vF q=some r/\
  ∀w1,RowKit.Below w.heap.size w w1->Calls Tryz.prog 76 args' w1 λe w'=>∃b,e=.returned (.tuple #[b,.int .i64 q.2])/\RowKit.Below w1.heap.size w1 w'/\bj (dj m w w') q.1 b)):=by
  by_cases h1:l.2 =0
  ·rw[h1,Z4,ay] at e;cases h2:aq l.1 0 with
   |true=>rw[h2,ay] at e;cases e;exact⟨(fq ⟨(λx h=>by cases h),rfl⟩).1,(fq ⟨(λx h=>by cases h),rfl⟩).2,λm args' w hm A=>.inr (.inl ⟨h1,RI.1 h2,rfl⟩)⟩
   |false=>
    rw[h2,aE] at e;replace e:=af e;obtain⟨q,hq,e⟩:=e;obtain⟨fw1,pw,fw2,fw3⟩:=FW [.i o,.v a,.v b,.v c,.v d,.v x5,.v f,.v g] q hq hl _ hu0;have hpw:pw=.tuple #[q.1,.int .i64 q.2]:=by have fw2:some (Value.tuple ⟨[q.1,.int .i64 q.2]⟩,([]:List bo))=some (pw,[]):=fw2;cases fw2;rfl
    subst hpw;have pu:=XU e;exact⟨pu.1,pu.2,λm args' w hm A=>.inr (.inr ⟨h1,λh=>(by rw[RI.2 h] at h2;cases h2),q,e,Xt fw3 (Sv fw1).1 hm A⟩)⟩
  ·rw[RH h1,aE] at e;cases e;exact⟨(fq ⟨(λx h=>by cases h),rfl⟩).1,(fq ⟨(λx h=>by cases h),rfl⟩).2,λm args' w hm A=>.inl ⟨h1,rfl⟩⟩
 refine⟨Kz ⟨goal.1,goal.2.1⟩,_,rfl,Pf hp λm args' w hm A=>?_⟩;have A0:=A;have G:=goal.2.2 m args' w hm A;have HL:=Z6 fl3 hm A;obtain⟨al⟩:=args';replace A:aP m _ al:=A;cases A with|cons a0 A=>?_
 cases A;cases a0 with
 |agg a0=>
  rename_i xs;obtain⟨xs⟩:=xs;cases a0 with|cons b0 a0=>?_
  cases a0 with|cons b1 a0=>?_
  cases a0 with|cons b2 a0=>?_
  cases a0 with|cons b3 a0=>?_
  cases a0 with|cons b4 a0=>?_
  cases a0 with|cons b5 a0=>?_
  cases a0 with|cons b6 a0=>?_
  cases a0 with|cons b7 a0=>?_
  cases a0;cases b0;exact XY hm l HL G
end Lt
section
open Go.RowKit Go.Shelf
variable{n:Nat} {P:Program}
def ku(fn:FuncId)(tmps:Array Value)(ps:Array Tmp)(assign body:Code)(D:Nat)(st:LoopState):Loop:={state:=st,pending:=none,fn,tmps,params:=ps,assign,body,defers:=D}
variable{assign body:Code} {ps:Array Tmp}
theorem UU{l D:Nat}{fn:FuncId}{tmps:Array Value}{args:Array Value}{W:World}{R:World->Prop}(hl:W.heap[l]? =some (.loop (ku fn tmps ps assign body D .ready)))(hps:args.size=ps.size)
 (h:assign.wpIn (Fence.wide.inRound l) n P (Exit.then (λa' Wa=>Wa.heap[l]? =some (.loop (ku fn tmps ps assign body D .ready))/\
  body.wpIn (Fence.wide.inRound l) n P (Exit.then (λ_ W3=>W3.heap[l]? =some (.loop (ku fn tmps ps assign body D .busy))/\R (W3.putObj l (.loop (ku fn tmps ps assign body D .ready)))) (λ_ _ _=>False)) a' (Wa.putObj l (.loop (ku fn tmps ps assign body D .busy)))) (λ_ _ _=>False))
  {tmps:=(ps.zip args).foldl (λt (p,v)=>t.setIfInBounds p v) tmps,defers:=[]} W):
 YieldAt Fence.wide n P l args W λe W'=>e=.returned (.bool true)/\R W':=by
 refine⟨fn,_,assign,body,run_yield (P:=P) (args:=args) hl hps,roundIn_of_wpIn trivial (wpIn_mono h ?_)⟩
 rintro (_|_|_|_|_|_) a' Wa q
 case normal=>
  obtain⟨q1,q2⟩:=q;refine⟨_,run_beginRound q1 rfl,wpIn_mono q2 ?_⟩
  rintro (_|_|_|_|_|_) a3 W3 r
  case normal=>exact⟨_,_,run_endRound none r.1,rfl,r.2⟩
  all_goals exact r.elim
 all_goals exact q.elim
theorem LS{g:Operand}{Q:Exit->Act->World->Prop}{a:Act}{w:World}{gf:Nat}{lb:Array Value}(hg:a.eval g=.func (.func gf) #[] lb)(eg:∀args w,(callFunc gf args).run P w=.ok (.enter gf args) w)
 (h:∀fn W1,W1=(w.alloc (.deferred (some []))).alloc (.loop (ku fn a.tmps ps assign body w.heap.size .ready))->
  Calls P gf (#[.func (.yield (w.heap.size+1)) #[] #[]]++lb) W1 λe W2=>(∃v,e=.returned v)/\W2.heap[w.heap.size+1]? =some (.loop (ku fn a.tmps ps assign body w.heap.size .ready))/\
   Q .normal {a with defers:={target:=.collected w.heap.size,args:=#[]}::a.defers} (W2.putObj (w.heap.size+1) (.loop (ku fn a.tmps ps assign body w.heap.size .exhausted)))):
 (Code.rangeFunc g ps assign body).wpIn Fence.wide n P Q a w:=by
 refine wpIn_rangeFunc ?_;intro fn _;obtain⟨W1,hW⟩:∃W1,W1=(w.alloc (.deferred (some []))).alloc (.loop (ku fn a.tmps ps assign body w.heap.size .ready)):=⟨_,rfl⟩;refine⟨w.heap.size+1,_,W1,{target:=.fn (.func gf) lb,args:=#[.func (.yield (w.heap.size+1)) #[] #[]]},W1,gf,#[.func (.yield (w.heap.size+1)) #[] #[]]++lb,W1,hW▸run_enterLoop_outer _ _ _ _ _,?_,λ_ _=>trivial,?_,?_,?_⟩
 ·simp only[resolve,hg];simp[go_sem]
 ·simp[invoke,go_sem,eg]
 ·intro q;exact absurd q (by simp[Fence.wide])
 ·refine callsIn_wide.2 ((h fn W1 hW).mono ?_)
  rintro e W2 ⟨⟨v,rfl⟩,h1,h2⟩
  exact⟨none,_,run_endLoop h1 (by simp[ku]),h2⟩
end
section
open Go.Shelf Go.RowKit Go.Lib
attribute [local go_sem] Oper.semAt_some
structure fT(B:Nat)(W W':World):Prop where
 os:W'.os=W.os
 tape:W'.tape=W.tape
 output:W'.output=W.output
 size:W.heap.size<=W'.heap.size
 block:∀k,k<W.heap.size->k≠B->W'.heap[k]? =W.heap[k]?
theorem fT.refl(B:Nat)(W:World):fT B W W:=⟨rfl,rfl,rfl,aB _,λ_ _ _=>rfl⟩
variable{W W':World}
theorem fT.trans{B:Nat}{W'':World}(h:fT B W W')(k:fT B W' W''):fT B W W'':=⟨k.os.trans h.os,k.tape.trans h.tape,k.output.trans h.output,eP h.size k.size,λb hb hn=>(k.block b (tb hb h.size) hn).trans (h.block b hb hn)⟩
theorem fT.of{B n:Nat}(h:RowKit.Below n W W')(hn:W.heap.size<=n):fT B W W':=⟨h.os,h.tape,h.output,h.size,λk hk _=>h.block k (by omega)⟩
theorem fT.cell{B:Nat}(h:fT B W W'){a:Addr}{v:Value}(c:W.cell? a=some v)(hn:a.block≠B):W'.cell? a=some v:=(iP (h.block _ (ji _ _ c) hn)).trans c
end
section
open Go.Shelf Go.RowKit Go.Lib
attribute [local go_sem] Oper.semAt_some
namespace Lt
def rowOf:Value->Option (Nat×List Value)
 | .func (.via n ps 0 true) cs ys=>cond (Nat.beq ps.size 0&&Nat.beq ys.size 0) (some (n,cs.toList)) none
 |_=>none
variable{cs:List Value} {n:Nat} {x:Value}
theorem wJ(h:rowOf x=some (n,cs)):x=ae n cs:=by
 unfold rowOf at h;split at h
 ·rename_i n' ps c ys;obtain⟨q,h⟩:=aT h;cases h;simp only[bg] at q;rw[show ps=#[] from Array.eq_empty_of_size_eq_zero (bJ q.1),show ys=#[] from Array.eq_empty_of_size_eq_zero (bJ q.2)];rfl
 ·cases h
def eY(x:Value):Bool:=(rowOf x).isSome
variable{m:Nat->Nat->Option Value} {s v:Value}
theorem qP(h:eY s=true)(l:bj m s v):∃a n c,v=.slice a n c:=by unfold eY at h;obtain⟨⟨n,cs⟩,h⟩:=Option.isSome_iff_exists.1 h;have:=wJ h;subst this;cases l<;>exact⟨_,_,_,rfl⟩
def wq(f:Value->Value->Value->Bool):List Value->Bool
 |[]=>true
 | .int .i64 _::t::s::b::r=>((eY t&&(eY s&&eY b))&&f t s b)&&wq f r
 |_=>false
noncomputable def lE(E:Value->Value->Value->Bool):Nat->Value->Value->Value->Bool
 |0,_,_,_=>false
 |f+1,t,s,b=>E t s b&&(match rowOf s with
  |some (n,cs)=>Nat.beq cs.length (n*4)&&Nat.blt n 1000000000&&wq (lE E f) cs
  |none=>false)
theorem SQ{f:Value->Value->Value->Bool}:∀{cs:List Value}(n i:Nat),wq f cs=true->cs.length=n*4->i<n->∃a t s b,cs[4*i]? =some (.int .i64 a)/\cs[4*i+1]? =some t/\cs[4*i+2]? =some s/\cs[4*i+3]? =some b/\(eY t&&(eY s&&eY b))=true/\f t s b=true
 |[],0,i,_,_,h=>by omega
 |[],n+1,i,_,hl,_=>by simp at hl
 |x::l,n,i,h,hl,hi=>by
  unfold wq at h;split at h
  ·rename_i q;cases q
  ·rename_i a t s b r q;cases q;rw[bg,bg] at h;cases i with
   |zero=>exact⟨a,t,s,b,rfl,rfl,rfl,rfl,h.1⟩
   |succ i=>obtain⟨n,rfl⟩:∃k,n=k+1:=⟨n -1,by omega⟩;obtain⟨a',t',s',b',h0,h1,h2,h3,h4⟩:=SQ (cs:=r) n i h.2 (by simp at hl;omega) (by omega);exact⟨a',t',s',b',by rw[show 4*(i+1)=(4*i)+4 by omega];exact h0,by rw[show 4*(i+1)+1=(4*i+1)+4 by omega];exact h1,by rw[show 4*(i+1)+2=(4*i+2)+4 by omega];exact h2,by rw[show 4*(i+1)+3=(4*i+3)+4 by omega];exact h3,h4⟩
  ·cases h
termination_by cs=>cs.length
theorem UX(h:rowOf s=some (n,cs))(l:bj m s v):
 ∃a c,v=.slice a n c/\(0<n->∃b o ys,a=some ⟨b,o,none⟩/\n<=c/\aP m cs ys/\∀i y,ys[i]? =some y->∀W,Kn m W->W.cell? ⟨b,o+i,none⟩=some y):=by
 have:=wJ h;subst this;cases l with
 |gH r q hs hn=>rename_i c a ys;obtain⟨b,o,sp⟩:=a;cases hs;refine⟨_,c,rfl,λ_=>⟨b,o,ys,rfl,hn,r,λi y hy W hW=>?_⟩⟩;obtain⟨x,hx⟩:∃x,cs[i]? =some x:=⟨_,dD (by rw[aP.length (show aP m cs ys from r)];exact(List.getElem?_eq_some_iff.1 hy).1)⟩;obtain⟨y',h1,h2⟩:=aP.get (show aP m cs ys from r) hx;rw[hy] at h1;cases h1;exact BD h2.KW (hW _ _ _ (q i y hy))
 |fN=>exact⟨_,_,rfl,λh=>absurd h (Nat.lt_irrefl 0)⟩
theorem zh(h:rowOf s=some (n,cs))(p:aY s){i:Nat}(hx:cs[i]? =some x):aY x:=by
 have:=wJ h;subst this;cases p with
 |lit a b=>exact a _ (qv hx)
theorem Kn.vH{n₀ B:Nat}{W W':World}(h:Kn m W)(hm:∀b i v,m b i=some v->b<n₀)(hB:n₀<=B)(b:fT B W W'):Kn m W':=λx i v hv=>
 (oe (b.block x (oU (h x i v hv)) (by have:=hm x i v hv;omega))).trans (h x i v hv)
end Lt
set_option maxHeartbeats 4000000 in
set_option maxRecDepth 100000 in
theorem QN(n₀ l B Y E:Nat)(m:Nat->Nat->Option Value)(J:World->Prop)(ok:Value->Value->Value->Bool)(hB:n₀<=B)(hY:n₀<=Y)(hE:n₀<=E)(hBY:B≠Y)(hBE:B≠E)(hm:∀b i v,m b i=some v->b<n₀)
 (hJ:∀W W',J W->fT B W W'->J W')
 (hy:∀W (k:Int) t s b x0 x1 x2,ok t s b=true->Lt.aY t->Lt.aY s->Lt.aY b->Lt.bj m t x0->Lt.bj m s x1->Lt.bj m b x2->J W->Lt.Kn m W->n₀<=W.heap.size->YieldAt Fence.wide 0 Tryz.prog l #[.int .i64 k,.agg #[x0,x1,x2]] W λe W'=>e=.returned (.bool true)/\J W'/\RowKit.Below W.heap.size W W'):
 ∀(f:Nat)(t s b x0 x1 x2:Value),Lt.lE ok f t s b=true->Lt.aY t->Lt.aY s->Lt.aY b->Lt.bj m t x0->Lt.bj m s x1->Lt.bj m b x2->∀(W:World)(k:Int),Lt.Kn m W->n₀<=W.heap.size->
  W.cell? ⟨B,0,none⟩=some (.int .i64 k)->W.frozen? ⟨B,0,none⟩=false->W.cell? ⟨Y,0,none⟩=some (.func (.yield l) #[] #[])->
  W.cell? ⟨E,0,none⟩=some (.func (.func 350) #[] #[.pointer (some ⟨B,0,none⟩),.pointer (some ⟨Y,0,none⟩),.pointer (some ⟨E,0,none⟩)])->J W->
  CallsIn Fence.wide 0 Tryz.prog 350 #[.agg #[x0,x1,x2],.pointer (some ⟨B,0,none⟩),.pointer (some ⟨Y,0,none⟩),.pointer (some ⟨E,0,none⟩)] W λe W'=>
   e=.returned (.bool true)/\J W'/\fT B W W'/\∃k',W'.cell? ⟨B,0,none⟩=some (.int .i64 k')/\W'.frozen? ⟨B,0,none⟩=false
 |0,t,s,b,x0,x1,x2,h,_,_,_,_,_,_,W,k,_,_,_,_,_,_,_=>by cases h
 |f+1,t,s,b,x0,x1,x2,h,pt,ps,pb,l0,l1,l2,W,k,hk,hn,cB,fB,cY,cE,hj=>by
  unfold Lt.lE at h;rw[bg] at h;obtain⟨h1,h2⟩:=h;have zB:B<W.heap.size:=ji _ _ cB;have zY:Y<W.heap.size:=ji _ _ cY;have zE:E<W.heap.size:=ji _ _ cE;refine callsIn_of_wp Tryz.func350 rfl trivial ?_ rfl;simp only[Tryz.ntmps350,List.size_toArray,cQ,List.length_nil,Nat.reduceAdd,Nat.reduceSub,Array.replicate_succ,xk,List.push_toArray,List.append_toArray,iF,jg];obtain⟨W1,hW1⟩:∃W1,W1=(W.setCell ⟨B,0,none⟩ (.int .i64 (wrap64 (k+1)))).alloc (.cells #[x0,x1,x2] 179):=⟨_,rfl⟩;have b1:fT B W W1:=by rw[hW1];refine⟨rfl,rfl,rfl,by simp,λk hk ca=>?_⟩;rw[Below.heap_alloc _ _ _ (by simpa using hk)];exact Below.heap_setCell _ _ _ k (λe=>ca (by rw[e]))
  have z1:W1.heap.size=W.heap.size+1:=by rw[hW1];simp
  obtain⟨fn,tmps,assign,body,hyv,hR⟩:=hy W1 (wrap64 (wrap64 (k+1) -1)) t s b x0 x1 x2 h1 pt ps pb l0 l1 l2 (hJ _ _ hj b1) (hk.vH hm hB b1) (by omega);have c1:W1.cell? ⟨W.heap.size,1,none⟩=some x1:=by have q:=World.alloc_heap_new (W.setCell ⟨B,0,none⟩ (.int .i64 (wrap64 (k+1)))) (.cells #[x0,x1,x2] 179);rw[show(W.setCell ⟨B,0,none⟩ (.int .i64 (wrap64 (k+1)))).heap.size=W.heap.size by simp] at q;rw[hW1];unfold World.cell?;simp only[q];rfl
  rw[hW1] at hyv hR
  gi_wp2
  refine⟨rfl,hR.mono ?_⟩
  rintro e W2 ⟨rfl,j2,bl⟩
  rw[<-hW1] at bl;have b2:fT B W W2:=b1.trans (fT.of bl (aB _));have c2:W2.cell? ⟨W.heap.size,1,none⟩=some x1:=(bl.cell (p:=⟨W.heap.size,1,none⟩) (by show W.heap.size<_;omega)).trans c1;cases hr:Lt.rowOf s with
  |none=>rw[hr] at h2;cases h2
  |some q=>
  obtain⟨n,cs⟩:=q;rw[hr] at h2;simp only[bg] at h2;obtain⟨⟨h3,h4⟩,h5⟩:=h2;replace h3:=bJ h3;replace h4:=Lt.cT h4;obtain⟨pa,c,rfl,hrow⟩:=Lt.UX hr l1;have cB2:W2.cell? ⟨B,0,none⟩=some (.int .i64 (wrap64 (k+1))):=by refine(bl.cell (p:=⟨B,0,none⟩) (by show B<_;omega)).trans ?_;rw[hW1];refine(iP (a:=⟨B,0,none⟩) (Below.heap_alloc _ _ _ (by simpa using zB))).trans ?_;exact World.cell?_setCell_same' _ _ _ (by rw[cB];rfl)
  have fB2:W2.frozen? ⟨B,0,none⟩=false:=by refine(bl.frozen (p:=⟨B,0,none⟩) (by show B<_;omega)).trans ?_;rw[hW1];refine(World.frozen?_of_block (a:=⟨B,0,none⟩) (Below.heap_alloc _ _ _ (by simpa using zB))).trans ?_;rw[World.frozen?_setCell];exact fB
  gi_wp2
  gi_loopw [19] (λp wr=>∃i:Nat,p=.int .i64 i/\i<=n/\J wr/\fT B W wr/\∃k',wr.cell? ⟨B,0,none⟩=some (.int .i64 k')/\wr.frozen? ⟨B,0,none⟩=false)
   (λp wr=>n -(Lib.intOf p).toNat)
  case atStart=>exact⟨0,rfl,gZ _,j2,b2,_,cB2,fB2⟩
  case round=>
   obtain⟨i,rfl,hi,jr,br,k',cr,fr⟩:=hrel;rcases dg i n with hin|hin
   ·obtain⟨ab,ao,ys,rfl,hc,ry,hcell⟩:=hrow (by omega);obtain⟨a',t',s',b',e0,e1,e2,e3,eo,e4⟩:=Lt.SQ n i h5 h3 hin;obtain⟨y0,g0,r0⟩:=Lt.aP.get ry e0;obtain⟨y1,g1,r1⟩:=Lt.aP.get ry e1;obtain⟨y2,g2,r2⟩:=Lt.aP.get ry e2;obtain⟨y3,g3,r3⟩:=Lt.aP.get ry e3;have hkr:=hk.vH hm hB br;have k0:=hcell _ _ g0 wr hkr;have k1:=hcell _ _ g1 wr hkr;have k2:=hcell _ _ g2 wr hkr;have k3:=hcell _ _ g3 wr hkr;rw[show ao+4*i=ao+i*4 by omega] at k0;rw[show ao+(4*i+1)=ao+i*4+1 by omega] at k1;rw[show ao+(4*i+2)=ao+i*4+2 by omega] at k2;rw[show ao+(4*i+3)=ao+i*4+3 by omega] at k3;cases r0;simp only[bg] at eo;obtain⟨p1,n1,c1,rfl⟩:=Lt.qP eo.1 r1;obtain⟨p2,n2,c2,rfl⟩:=Lt.qP eo.2.1 r2;obtain⟨p3,n3,c3,rfl⟩:=Lt.qP eo.2.2 r3;clear hyv hR;have cEr:=br.cell cE (Ne.symm hBE);have cYr:=br.cell cY (Ne.symm hBY);have zEr:E<wr.heap.size:=ji _ _ cEr;obtain⟨W3,hW3⟩:∃W3,W3=wr.alloc (.cells #[.int .i64 a',.slice p1 n1 c1,.slice p2 n2 c2,.slice p3 n3 c3] 237):=⟨_,rfl⟩;have bl3:RowKit.Below wr.heap.size wr W3:=by rw[hW3];exact(fb _ wr).alloc (aB _) _
    have b3:fT B wr W3:=fT.of bl3 (aB _);have zBr:B<wr.heap.size:=ji _ _ cr;have ih:=QN n₀ l B Y E m J ok hB hY hE hBY hBE hm hJ hy f t' s' b' _ _ _ e4 (Lt.zh hr ps e1) (Lt.zh hr ps e2) (Lt.zh hr ps e3) r1 r2 r3 W3 k' (hkr.vH hm hB b3) (eP hn (eP br.size b3.size)) ((bl3.cell (p:=⟨B,0,none⟩) zBr).trans cr) ((bl3.frozen (p:=⟨B,0,none⟩) zBr).trans fr) (b3.cell cYr (Ne.symm hBY)) (b3.cell cEr (Ne.symm hBE)) (hJ _ _ jr b3);rw[hW3] at ih
    gi_wp2
    refine⟨trivial,rfl,ih.mono ?_⟩
    rintro e W4 ⟨rfl,j4,b4,k4,c4,f4⟩
    gi_wp2
    exact⟨⟨i+1,by simp,by omega,j4,br.trans (b3.trans (by rw[hW3];exact b4)),k4,c4,f4⟩,by simp[Lib.intOf];omega⟩
   ·obtain rfl:i=n:=by omega
    gi_wp2
    go_ret
    exact⟨rfl,jr,br,k',cr,fr⟩
end
section
open Go.Shelf Go.RowKit Go.Lib
attribute [local go_sem] Oper.semAt_some
namespace Lt
def sb(f:Value->Value->Value->Bool):List Value->Bool
 |[]=>true
 |t::s::b::r=>((eY t&&(eY s&&eY b))&&f t s b)&&sb f r
 |_=>false
theorem SN{f:Value->Value->Value->Bool}:∀{cs:List Value}(n i:Nat),sb f cs=true->cs.length=n*3->i<n->∃t s b,cs[3*i]? =some t/\cs[3*i+1]? =some s/\cs[3*i+2]? =some b/\(eY t&&(eY s&&eY b))=true/\f t s b=true
 |[],0,i,_,_,h=>by omega
 |[],n+1,i,_,hl,_=>by simp at hl
 |x::l,n,i,h,hl,hi=>by
  unfold sb at h;split at h
  ·rename_i q;cases q
  ·rename_i t s b r q;cases q;rw[bg,bg] at h;cases i with
   |zero=>exact⟨_,s,b,rfl,rfl,rfl,h.1⟩
   |succ i=>obtain⟨n,rfl⟩:∃k,n=k+1:=⟨n -1,by omega⟩;obtain⟨t',s',b',h1,h2,h3,h4⟩:=SN (cs:=r) n i h.2 (by simp at hl;omega) (by omega);exact⟨t',s',b',by rw[show 3*(i+1)=(3*i)+3 by omega];exact h1,by rw[show 3*(i+1)+1=(3*i+1)+3 by omega];exact h2,by rw[show 3*(i+1)+2=(3*i+2)+3 by omega];exact h3,h4⟩
  ·cases h
termination_by cs=>cs.length
end Lt
theorem qH(W:World)(v:Value)(t:TypeId):(W.alloc (.cells #[v] t)).cell? ⟨W.heap.size,0,none⟩=some v/\(W.alloc (.cells #[v] t)).frozen? ⟨W.heap.size,0,none⟩=false:=by
 have q:=World.alloc_heap_new W (.cells #[v] t);constructor
 ·unfold World.cell?;simp only[q];rfl
 ·unfold World.frozen?;simp only[q];rfl
set_option maxHeartbeats 4000000 in
set_option maxRecDepth 100000 in
theorem Y1(X l:Nat)(m:Nat->Nat->Option Value)(J:World->Prop)(ok:Value->Value->Value->Bool)(W:World)(hX:X<W.heap.size)(hk:Lt.Kn m W)(hJ:∀B W' W'',W.heap.size<=B->J W'->fT B W' W''->J W'')
 (hy:∀W' (k:Int) t s b x0 x1 x2,ok t s b=true->Lt.aY t->Lt.aY s->Lt.aY b->Lt.bj m t x0->Lt.bj m s x1->Lt.bj m b x2->J W'->Lt.Kn m W'->W.heap.size<=W'.heap.size->YieldAt Fence.wide 0 Tryz.prog l #[.int .i64 k,.agg #[x0,x1,x2]] W' λe W''=>e=.returned (.bool true)/\J W''/\RowKit.Below W'.heap.size W' W'')
 (f:Nat) {v x:Value} {n:Nat} {cs:List Value} (hr:Lt.rowOf v=some (n,cs)) (h3:cs.length=n*3) (h5:Lt.sb (Lt.lE ok f) cs=true) (h4:n<1000000000) (pv:Lt.aY v) (lv:Lt.bj m v x) (c0:W.cell? ⟨X,1,none⟩=some x) (hj:J W):
 CallsIn Fence.wide 0 Tryz.prog 349 #[.func (.yield l) #[] #[],.pointer (some ⟨X,0,none⟩)] W λe W'=>(∃v,e=.returned v)/\J W'/\RowKit.Below W.heap.size W W':=by
 obtain⟨pa,c,rfl,hrow⟩:=Lt.UX hr lv;refine callsIn_of_wp Tryz.func349 rfl trivial ?_ rfl;simp only[Tryz.ntmps349,List.size_toArray,cQ,List.length_nil,Nat.reduceAdd,Nat.reduceSub,Array.replicate_succ,xk,List.push_toArray,List.append_toArray,iF,jg];obtain⟨V,hV⟩:∃V,V=Value.func (.func 350) #[] #[.pointer (some ⟨W.heap.size+1,0,none⟩),.pointer (some ⟨W.heap.size,0,none⟩),.pointer (some ⟨W.heap.size+1+1,0,none⟩)]:=⟨_,rfl⟩;have q1:=qH W (.func (.yield l) #[] #[]) 392;have q2:=qH (W.alloc (.cells #[.func (.yield l) #[] #[]] 392)) (.int .i64 0) 3;have q3:=qH ((W.alloc (.cells #[.func (.yield l) #[] #[]] 392)).alloc (.cells #[.int .i64 0] 3)) V 275;obtain⟨W1,hW1⟩:∃W1,W1=((W.alloc (.cells #[.func (.yield l) #[] #[]] 392)).alloc (.cells #[.int .i64 0] 3)).alloc (.cells #[V] 275):=⟨_,rfl⟩;have bl1:RowKit.Below W.heap.size W W1:=by rw[hW1];exact(((fb _ W).alloc (aB _) _).alloc (by simp) _).alloc (by simp;omega) _
 have z1:W1.heap.size=W.heap.size+3:=by rw[hW1];simp
 have b2:RowKit.Below (W.heap.size+2) ((W.alloc (.cells #[.func (.yield l) #[] #[]] 392)).alloc (.cells #[.int .i64 0] 3)) W1:=by rw[hW1];exact(fb _ _).alloc (by simp) _
 have b1:RowKit.Below (W.heap.size+1) (W.alloc (.cells #[.func (.yield l) #[] #[]] 392)) W1:=by rw[hW1];exact((fb _ _).alloc (by simp) _).alloc (by simp) _
 simp only[World.size_alloc] at q2 q3;rw[<-hW1] at q3;obtain⟨q3,q4⟩:=q3;have q5:=(b2.cell (p:=⟨W.heap.size+1,0,none⟩) (by show W.heap.size+1<W.heap.size+2;omega)).trans q2.1;have q6:=(b2.frozen (p:=⟨W.heap.size+1,0,none⟩) (by show W.heap.size+1<W.heap.size+2;omega)).trans q2.2;have q7:=(b1.cell (p:=⟨W.heap.size,0,none⟩) (by show W.heap.size<W.heap.size+1;omega)).trans q1.1;have c1:=(bl1.cell (p:=⟨X,1,none⟩) hX).trans c0;clear q1 q2 b1 b2;have c2:=c1;rw[hW1,hV] at c2
 gi_wp2
 have hW2:=hW1;rw[hV] at hW2;rw[<-hW2];have hm:∀b i v,m b i=some v->b<W.heap.size:=λb i v h=>Lt.oU (hk b i v h);have b01:fT (W.heap.size+1) W W1:=fT.of bl1 (aB _)
 gi_loopw [11] (λp wr=>∃i:Nat,p=.int .i64 i/\i<=n/\J wr/\fT (W.heap.size+1) W1 wr/\∃k',wr.cell? ⟨W.heap.size+1,0,none⟩=some (.int .i64 k')/\wr.frozen? ⟨W.heap.size+1,0,none⟩=false)
  (λp wr=>n -(Lib.intOf p).toNat)
 case atStart=>exact⟨0,rfl,gZ _,hJ _ _ _ (by omega) hj b01,fT.refl _ _,_,q5,q6⟩
 case round=>
  obtain⟨i,rfl,hi,jr,br,k',cr,fr⟩:=hrel;rcases dg i n with hin|hin
  ·obtain⟨ab,ao,ys,rfl,hc,ry,hcell⟩:=hrow (by omega);obtain⟨t',s',b',e1,e2,e3,eo,e4⟩:=Lt.SN n i h5 h3 hin;obtain⟨y1,g1,r1⟩:=Lt.aP.get ry e1;obtain⟨y2,g2,r2⟩:=Lt.aP.get ry e2;obtain⟨y3,g3,r3⟩:=Lt.aP.get ry e3;have hkr:=(hk.vH hm (kc _) b01).vH hm (kc _) br;have k1:=hcell _ _ g1 wr hkr;have k2:=hcell _ _ g2 wr hkr;have k3:=hcell _ _ g3 wr hkr;rw[show ao+3*i=ao+i*3 by omega] at k1;rw[show ao+(3*i+1)=ao+i*3+1 by omega] at k2;rw[show ao+(3*i+2)=ao+i*3+2 by omega] at k3;simp only[bg] at eo;obtain⟨p1,n1,c1,rfl⟩:=Lt.qP eo.1 r1;obtain⟨p2,n2,c2,rfl⟩:=Lt.qP eo.2.1 r2;obtain⟨p3,n3,c3,rfl⟩:=Lt.qP eo.2.2 r3;have cEr:=br.cell q3 (by show W.heap.size+1+1≠_;omega);have cYr:=br.cell q7 (by show W.heap.size≠_;omega);rw[hV] at cEr;have zEr:=ji _ _ cEr;obtain⟨W3,hW3⟩:∃W3,W3=wr.alloc (.cells #[.slice p1 n1 c1,.slice p2 n2 c2,.slice p3 n3 c3] 179):=⟨_,rfl⟩;have bl3:RowKit.Below wr.heap.size wr W3:=by rw[hW3];exact(fb _ wr).alloc (aB _) _
   have b3:fT (W.heap.size+1) wr W3:=fT.of bl3 (aB _);have zBr:=ji _ _ cr;have ih:=QN W.heap.size l (W.heap.size+1) W.heap.size (W.heap.size+1+1) m J ok (kc _) (aB _) (by omega) (by omega) (by omega) hm (λW' W''=>hJ _ W' W'' (kc _)) hy f t' s' b' _ _ _ e4 (Lt.zh hr pv e1) (Lt.zh hr pv e2) (Lt.zh hr pv e3) r1 r2 r3 W3 k' (hkr.vH hm (kc _) b3)
    (eP b01.size (eP br.size b3.size)) ((bl3.cell zBr).trans cr) ((bl3.frozen zBr).trans fr) (b3.cell cYr (by show W.heap.size≠_;omega)) (b3.cell cEr (by show W.heap.size+1+1≠_;omega)) (hJ _ _ _ (kc _) jr b3)
   rw[hW3] at ih;clear hW1 hW2 hV
   gi_wp2
   refine⟨trivial,rfl,ih.mono ?_⟩
   rintro e W4 ⟨rfl,j4,b4,k4,c4,f4⟩
   gi_wp2
   exact⟨⟨i+1,by simp,by omega,j4,br.trans (b3.trans (by rw[hW3];exact b4)),k4,c4,f4⟩,by simp[Lib.intOf];omega⟩
  ·obtain rfl:i=n:=by omega
   gi_wp2
   go_end0
   exact⟨⟨_,rfl⟩,jr,bl1.trans ⟨br.os,br.tape,br.output,br.size,λk hk=>br.block k (by omega) (by omega)⟩⟩
end
section
open Go.Shelf Go.RowKit Go.Lib
attribute [local go_sem] Oper.semAt_some
set_option maxHeartbeats 1000000 in
theorem Y0(o:Int)(x:Value)(hx:∃a n c,x=.slice a n c)(w:World):Calls Tryz.prog 310 #[.agg #[.int .i64 o,x]] w λe w'=>e=.returned (.func (.func 349) #[] #[.pointer (some ⟨w.heap.size,0,none⟩)])/\w'=w.alloc (.cells #[.int .i64 o,x] 113):=by
 obtain⟨a,n,c,rfl⟩:=hx
 go_enter Tryz.func310,Tryz.ntmps310
 go_wp2_with fail
 go_ret
 exact⟨rfl,rfl⟩
set_option maxHeartbeats 4000000 in
set_option maxRecDepth 100000 in
theorem abi{m:Nat->Nat->Option Value}{w:World}(hk:Lt.Kn m w)(ok:Value->Value->Value->Bool)(hok:∀t s b,ok t s b=true->Lt.eY t=true/\Lt.eY s=true/\Lt.eY b=true)
 (hE:∀W' t s b x0 x1 x2,ok t s b=true->Lt.aY t->Lt.aY s->Lt.aY b->Lt.bj m t x0->Lt.bj m s x1->Lt.bj m b x2->Lt.Kn m W'->Calls Tryz.prog 203 #[.agg #[x0,x1,x2]] W' λe W''=>∃k:Int,e=.returned (.int .i64 k)/\1<=k/\k<=65535/\RowKit.Below W'.heap.size W' W'')
 (hC:∀W' t s b x0,ok t s b=true->Lt.aY t->Lt.bj m t x0->Lt.Kn m W'->Calls Tryz.prog 311 #[x0,.func (.func 312) #[] #[]] W' λe W''=>e=.returned (.bool false)/\RowKit.Below W'.heap.size W' W'')
 (f:Nat) {v x:Value} {n:Nat} {cs:List Value} (hr:Lt.rowOf v=some (n,cs)) (h3:cs.length=n*3) (h5:Lt.sb (Lt.lE ok f) cs=true) (h4:n<1000000000) (pv:Lt.aY v) (lv:Lt.bj m v x) (o:Int):
 Calls Tryz.prog 256 #[.agg #[.int .i64 o,x]] w λe w'=>e=.returned (.bool true)/\RowKit.Below w.heap.size w w':=by
 obtain⟨pa,nn,c,rfl⟩:=Lt.qP (by unfold Lt.eY;rw[hr];rfl) lv;refine(callsIn_wide (n:=0)).1 ?_;refine callsIn_of_wp_marks Tryz.func256 rfl trivial ?_ rfl;simp only[Tryz.ntmps256,List.size_toArray,cQ,List.length_nil,Nat.reduceAdd,Nat.reduceSub,Array.replicate_succ,xk,List.push_toArray,List.append_toArray,iF,jg]
 gi_wp2
 refine⟨trivial,rfl,(callsIn_wide.2 (Y0 o _ ⟨_,_,_,rfl⟩ _)).mono ?_⟩
 rintro e w' ⟨rfl,rfl⟩
 have q1:=qH (w.alloc (.cells #[.int .i64 o,.slice pa nn c] 113)) (.bool false) 4;have q2:=World.alloc_heap_new ((w.alloc (.cells #[.int .i64 o,.slice pa nn c] 113)).alloc (.cells #[.bool false] 4)) (.cells #[.int .i64 o,.slice pa nn c] 113);simp only[World.size_alloc] at q1 q2;obtain⟨w1,hw1⟩:∃w1,w1=((w.alloc (.cells #[.int .i64 o,.slice pa nn c] 113)).alloc (.cells #[.bool false] 4)).alloc (.cells #[.int .i64 o,.slice pa nn c] 113):=⟨_,rfl⟩;have bw:RowKit.Below w.heap.size w w1:=by rw[hw1];exact(((fb _ w).alloc (aB _) _).alloc (by simp) _).alloc (by simp;omega) _
 have z1:w.heap.size+3<=w1.heap.size:=by rw[hw1];simp
 have bb:RowKit.Below (w.heap.size+2) ((w.alloc (.cells #[.int .i64 o,.slice pa nn c] 113)).alloc (.cells #[.bool false] 4)) w1:=by rw[hw1];exact(fb _ _).alloc (by simp) _
 rw[<-hw1] at q2;have q3:=(bb.cell (p:=⟨w.heap.size+1,0,none⟩) (by show w.heap.size+1<w.heap.size+2;omega)).trans q1.1;have q4:=(bb.frozen (p:=⟨w.heap.size+1,0,none⟩) (by show w.heap.size+1<w.heap.size+2;omega)).trans q1.2;have q5:w1.cell? ⟨w.heap.size+1+1,1,none⟩=some (.slice pa nn c):=by unfold World.cell?;simp only[q2];rfl
 rw[<-hw1];simp only[World.size_alloc];clear q1 q2 bb hw1
 gi_wp2
 refine LS (gf:=349) (lb:=#[.pointer (some ⟨w.heap.size+1+1,0,none⟩)]) rfl (enters_of Tryz.func349 (by kernel_rfl) rfl) ?_;intro fn W1 hW1;refine(callsIn_wide (n:=0)).1 ?_;generalize hR0:ku fn _ _ _ _ _ .ready=R0 at hW1⊢;have bl:RowKit.Below w1.heap.size w1 W1:=by rw[hW1];exact((fb _ w1).alloc (aB _) _).alloc (by simp) _
 have z2:w1.heap.size+2<=W1.heap.size:=by rw[hW1];simp
 have d1:W1.heap[w1.heap.size]? =some (.deferred (some [])):=by rw[hW1];exact(Below.heap_alloc _ _ _ (by simp)).trans (World.alloc_heap_new w1 _)
 have d2:W1.heap[w1.heap.size+1]? =some (.loop R0):=by have:=World.alloc_heap_new (w1.alloc (.deferred (some []))) (.loop R0);rw[World.size_alloc] at this;rw[hW1];exact this
 have hk1:Lt.Kn m W1:=(hk.below bw).below bl;refine(Y1 (w.heap.size+1+1) (w1.heap.size+1) m (λW=>W.heap[w1.heap.size+1]? =some (.loop R0)/\W.heap[w1.heap.size]? =some (.deferred (some []))/\W.cell? ⟨w.heap.size+1,0,none⟩=some (.bool false)/\W.frozen? ⟨w.heap.size+1,0,none⟩=false) ok W1 (by omega) hk1 ?hJ ?hy f hr h3 h5 h4 pv lv ((bl.cell (p:=⟨w.heap.size+1+1,1,none⟩) (by show w.heap.size+1+1<_;omega)).trans q5)
  ⟨d2,d1,(bl.cell (p:=⟨w.heap.size+1,0,none⟩) (by show w.heap.size+1<_;omega)).trans q3,(bl.frozen (p:=⟨w.heap.size+1,0,none⟩) (by show w.heap.size+1<_;omega)).trans q4⟩).mono ?_
 case hJ=>
  rintro B W' W'' hB ⟨j1,j2,j3,j4⟩ hb
  have s1:=ji _ _ j3;have t1:∀k o,k<W1.heap.size->W'.heap[k]? =some o->W''.heap[k]? =some o:=λk o hk ho=>(hb.block k (lL.1 ho).1 (by omega)).trans ho;exact⟨t1 _ _ (by omega) j1,t1 _ _ (by omega) j2,hb.cell j3 (by show w.heap.size+1≠B;omega),(World.frozen?_of_block (a:=⟨w.heap.size+1,0,none⟩) (hb.block _ s1 (by show w.heap.size+1≠B;omega))).trans j4⟩
 case hy=>
  intro W' k t s b x0 x1 x2 ho pt ps pb l0 l1 l2 hj hkn hs;obtain⟨j1,j2,j3,j4⟩:=hj;obtain⟨i0,i1,i2⟩:=hok t s b ho;obtain⟨p0,n0,c0,rfl⟩:=Lt.qP i0 l0;obtain⟨p1,n1,c1,rfl⟩:=Lt.qP i1 l1;obtain⟨p2,n2,c2,rfl⟩:=Lt.qP i2 l2;rw[<-hR0] at j1;refine UU (n:=0) (R:=λW=>(W.heap[w1.heap.size+1]? =some (.loop R0)/\W.heap[w1.heap.size]? =some (.deferred (some []))/\W.cell? ⟨w.heap.size+1,0,none⟩=some (.bool false)/\W.frozen? ⟨w.heap.size+1,0,none⟩=false)/\RowKit.Below W'.heap.size W' W) j1 rfl ?_;rw[hR0] at j1⊢;generalize ku fn _ _ _ _ _ .busy=R1;clear hW1
  gi_wp2
  have ls:w1.heap.size+1<W'.heap.size:=(lL.1 j1).1;refine⟨(Below.heap_alloc _ _ _ ls).trans j1,?_⟩;obtain⟨W3,hW3⟩:∃W3,W3=(W'.alloc (.cells #[.slice p0 n0 c0,.slice p1 n1 c1,.slice p2 n2 c2] 179)).putObj (w1.heap.size+1) (.loop R1):=⟨_,rfl⟩;have b3:fT (w1.heap.size+1) W' W3:=by rw[hW3];exact⟨rfl,rfl,rfl,by simp,λk hk ca=>(World.putObj_heap_other ca).trans (Below.heap_alloc _ _ _ hk)⟩
  have kl:W3.heap[w1.heap.size+1]? =some (.loop R1):=by rw[hW3];exact World.putObj_heap_same (by simp;omega)
  have ka:W3.heap[W'.heap.size]? =some (.cells #[.slice p0 n0 c0,.slice p1 n1 c1,.slice p2 n2 c2] 179):=by rw[hW3];exact(World.putObj_heap_other (by omega)).trans (World.alloc_heap_new W' _)
  have hm:∀b i v,m b i=some v->b<w.heap.size:=λb i v h=>Lt.oU (hk b i v h);have m3:=hkn.vH hm (by omega) b3;have e0:W3.cell? ⟨W'.heap.size,0,none⟩=some (.slice p0 n0 c0):=by unfold World.cell?;simp only[ka];rfl
  have e1:W3.cell? ⟨W'.heap.size,1,none⟩=some (.slice p1 n1 c1):=by unfold World.cell?;simp only[ka];rfl
  have e2:W3.cell? ⟨W'.heap.size,2,none⟩=some (.slice p2 n2 c2):=by unfold World.cell?;simp only[ka];rfl
  have z3:W'.heap.size<W3.heap.size:=(lL.1 ka).1;rw[<-hW3];clear hW3
  gi_wp2
  refine⟨trivial,rfl,(CallsIn.inRound _ (callsIn_wide.2 (hE W3 t s b _ _ _ ho pt ps pb l0 l1 l2 m3))).mono ?_⟩
  rintro e W4 ⟨k4,rfl,g1,g2,b4⟩
  have e3:=(b4.cell (p:=⟨W'.heap.size,0,none⟩) z3).trans e0;have z4:=ji _ _ e3
  gi_wp2
  refine⟨trivial,rfl,(CallsIn.inRound _ (callsIn_wide.2 (hC W4 t s b _ ho pt l0 (m3.below b4)))).mono ?_⟩
  rintro e W5 ⟨rfl,b5⟩
  gi_wp2
  have bb:∀k,k<W3.heap.size->W5.heap[k]? =W3.heap[k]? :=λk hk=>(b5.block k (tb hk b4.size)).trans (b4.block k hk);have kl5:=(bb _ (Nat.lt_trans ls z3)).trans kl;have s5:W3.heap.size<=W5.heap.size:=eP b4.size b5.size;have k5:∀k,k<W'.heap.size->(W5.putObj (w1.heap.size+1) (.loop R0)).heap[k]? =W'.heap[k]? :=λk hk=>by
   by_cases q:k=w1.heap.size+1
   ·rw[q,j1];exact World.putObj_heap_same (by omega)
   ·exact(World.putObj_heap_other q).trans ((bb k (by omega)).trans (b3.block k hk q))
  have sj:=ji _ _ j3;refine⟨kl5,⟨(k5 _ ls).trans j1,(k5 _ (by omega)).trans j2,(iP (a:=⟨w.heap.size+1,0,none⟩) (k5 _ sj)).trans j3,(World.frozen?_of_block (a:=⟨w.heap.size+1,0,none⟩) (k5 _ sj)).trans j4⟩,⟨?_,?_,?_,by simp;omega,k5⟩⟩
  ·exact b5.os.trans (b4.os.trans b3.os)
  ·exact b5.tape.trans (b4.tape.trans b3.tape)
  ·exact b5.output.trans (b4.output.trans b3.output)
 rintro e W2 ⟨⟨v,rfl⟩,⟨j1,j2,j3,j4⟩,bl2⟩
 refine⟨⟨_,rfl⟩,j1,?_⟩;generalize ku fn _ _ _ _ _ .exhausted=R9;obtain⟨W3,hW3⟩:∃W3,W3=W2.putObj (w1.heap.size+1) (.loop R9):=⟨_,rfl⟩;have pk:∀k,k≠w1.heap.size+1->W3.heap[k]? =W2.heap[k]? :=λk hk=>by rw[hW3];exact World.putObj_heap_other hk
 have c3:W3.cell? ⟨w.heap.size+1,0,none⟩=some (.bool false):=(iP (a:=⟨w.heap.size+1,0,none⟩) (pk _ (by show w.heap.size+1≠_;omega))).trans j3;have f3:W3.frozen? ⟨w.heap.size+1,0,none⟩=false:=(World.frozen?_of_block (a:=⟨w.heap.size+1,0,none⟩) (pk _ (by show w.heap.size+1≠_;omega))).trans j4;have k3:W3.heap[w1.heap.size]? =some (.deferred (some [])):=(pk _ (by omega)).trans j2;have bl3:RowKit.Below w.heap.size w W3:=by refine bw.trans ((bl.mono (by omega)).trans ((bl2.mono (by omega)).trans ?_));rw[hW3];exact⟨rfl,rfl,rfl,by simp,λk hk=>World.putObj_heap_other (by omega)⟩
 rw[<-hW3];clear hW3 hW1
 gi_wp2
 have z5:w.heap.size+1<w1.heap.size:=by omega
 have kD:(W3.setCell ⟨w.heap.size+1,0,none⟩ (.bool true)).heap[w1.heap.size]? =some (.deferred (some [])):=(Below.heap_setCell _ _ _ _ (by show _≠w.heap.size+1;omega)).trans k3;refine⟨by simp,.inl ⟨_,_,rfl,run_takeDeferred kD,?_⟩⟩;obtain⟨W4,hW4⟩:∃W4,W4=(W3.setCell ⟨w.heap.size+1,0,none⟩ (.bool true)).putObj w1.heap.size (.deferred none):=⟨_,rfl⟩;have c4:W4.cell? ⟨w.heap.size+1,0,none⟩=some (.bool true):=by rw[hW4];exact(iP (a:=⟨w.heap.size+1,0,none⟩) (World.putObj_heap_other (by show w.heap.size+1≠_;omega))).trans (World.cell?_setCell_same' _ _ _ (by rw[c3];rfl))
 have bl4:RowKit.Below w.heap.size w W4:=by rw[hW4];exact(bl3.setCell (p:=⟨w.heap.size+1,0,none⟩) (by show _<=w.heap.size+1;omega) _).trans ⟨rfl,rfl,rfl,by simp,λk hk=>World.putObj_heap_other (by omega)⟩
 rw[<-hW4];refine⟨.bool true,?_,rfl,bl4⟩;clear hW4;simp[results,Tryz.f256,go_sem,c4]
end
namespace Lt
section
open Go.Shelf Go.RowKit Go.Lib
def mi(E:Value->Value->Value->Option Int)(C:Value->Option Bool)(t s b:Value):Bool:=
 (eY t&&(eY s&&eY b))&&((match E t s b with
  |some k=>decide (1<=k)&&decide (k<=65535)
  |none=>false)&&(match C t with
  |some false=>true
  |_=>false))
noncomputable def EV(w:Nat)(E:Value->Value->Value->Option Int)(C:Value->Option Bool)(_:Int)(v:Value):Option Bool:=match rowOf v with
 |some (n,cs)=>cond (Nat.beq cs.length (n*3)&&(Nat.blt n 1000000000&&sb (lE (mi E C) w) cs)) (some true) none
 |none=>none
variable{P:Program} {args':Array Value} {g:FuncId} {m:Nat->Nat->Option Value} {us:List Value} {w:World}
theorem Sa{k:Int}(R:mI P g us (.int .i64 k))(hm:Kn m w)(A:aP m us args'.toList):
 Calls P g args' w λe w'=>e=.returned (.int .i64 k)/\RowKit.Below w.heap.size w w':=
 (xU R (.inl (.int _ _)) hm A).mono λe w' ⟨v',h1,h2,h3⟩=>by cases h3;exact⟨h1,h2⟩
theorem P8{k:Bool}(R:mI P g us (.bool k))(hm:Kn m w)(A:aP m us args'.toList):
 Calls P g args' w λe w'=>e=.returned (.bool k)/\RowKit.Below w.heap.size w w':=
 (xU R (.inl (.bool _)) hm A).mono λe w' ⟨v',h1,h2,h3⟩=>by cases h3;exact⟨h1,h2⟩
theorem EK{t:Value}(h:eY t=true):bB [t]=true:=by unfold eY at h;obtain⟨⟨n,cs⟩,h⟩:=Option.isSome_iff_exists.1 h;rw[wJ h];rfl
theorem abg{E:Value->Value->Value->Option Int}{C:Value->Option Bool}(HE:dI Tryz.prog 203 [.agg [.v,.v,.v]] (.i .i64) E)(HC:dI Tryz.prog 311 [.v,.fn 312 []] .b C)(w:Nat):dI Tryz.prog 256 [.agg [.i .i64,.v]] .b (EV w E C):=by
 intro ls r e hl us hu;obtain⟨x,r1,us1,h1,h2,rfl⟩:=gD hu;obtain⟨rfl,rfl⟩:=pN h2;obtain⟨vs,h5,rfl⟩:=Ei h1;obtain⟨z,r3,us3,h6,h7,rfl⟩:=gD h5;obtain⟨z2,r4,us4,h8,h9,rfl⟩:=gD h7;obtain⟨rfl,rfl⟩:=pN h9;obtain⟨o,rfl,rfl⟩:=tR h6;obtain rfl:=lY h8;replace e:EV w E C o z2=some r:=e;have pz:=(hl z2 (by simp)).1;unfold EV at e;split at e
 ·rename_i n cs hr;obtain⟨q,e⟩:=aT e;cases e;simp only[bg] at q;obtain⟨q1,q2,q3⟩:=q;refine⟨λz hz=>by simp[jW,VT.ks,xe] at hz,.bool true,rfl,BZ (λa ha=>?_) λm args' W hm A=>?_⟩
  ·rw[kC] at ha;rw[ha];refine .agg λx hx=>?_;have hx:x=.int .i64 o\/x=z2:=by simpa using hx
   rcases hx with rfl|rfl
   ·exact .int _ _
   ·exact pz
  ·obtain⟨al⟩:=args';replace A:aP m _ al:=A;cases A with|cons a0 A=>?_
   cases A;cases a0 with
   |agg a0=>
    rename_i xs;obtain⟨xs⟩:=xs;cases a0 with|cons b0 a0=>?_
    cases a0 with|cons b1 a0=>?_
    cases a0;cases b0;have hok:∀t s b,mi E C t s b=true->(eY t=true/\eY s=true/\eY b=true)/\(∃k,E t s b=some k/\1<=k/\k<=65535)/\C t=some false:=λt s b h=>by
     unfold mi at h;simp only[bg] at h;obtain⟨h1,h2,h3⟩:=h;refine⟨h1,?_,?_⟩
     ·split at h2
      ·rename_i k hk;simp at h2;exact⟨k,hk,h2⟩
      ·cases h2
     ·split at h3
      ·assumption
      ·cases h3
    refine(abi hm (mi E C) (λt s b h=>(hok t s b h).1) ?_ ?_ w hr (bJ q1) q3 (cT q2) pz b1 o).mono λe w' ⟨h1,h2⟩=>⟨_,h1,h2,.bool _⟩
    ·intro W' t s b x0 x1 x2 h pt ps pb l0 l1 l2 hk;obtain⟨⟨i0,i1,i2⟩,⟨k,hE,k1,k2⟩,_⟩:=hok t s b h;obtain⟨_,pv,f2,f3⟩:=HE [.v t,.v s,.v b] k hE (λx hx=>by
      simp only[cj,bo.v.injEq,jh,jj] at hx;rcases hx with rfl|rfl|rfl
      ·exact⟨pt,EK i0⟩
      ·exact⟨ps,EK i1⟩
      ·exact⟨pb,EK i2⟩) _ rfl
     have f2:some (Value.int .i64 k,([]:List bo))=some (pv,[]):=f2;cases f2;exact(Sa f3 hk (.cons (.agg (.cons l0 (.cons l1 (.cons l2 .nil)))) .nil)).mono λe w' ⟨h1,h2⟩=>⟨k,h1,k1,k2,h2⟩
    ·intro W' t s b x0 h pt l0 hk;obtain⟨⟨i0,i1,i2⟩,_,hC⟩:=hok t s b h;obtain⟨_,pv,f2,f3⟩:=HC [.v t] false hC (λx hx=>by
      simp only[cj,bo.v.injEq,jh,jj] at hx;subst hx;exact⟨pt,EK i0⟩) _ rfl
     have f2:some (Value.bool false,([]:List bo))=some (pv,[]):=f2;cases f2;exact P8 f3 hk (.cons l0 (.cons (.fn .nil .nil) .nil))
 ·cases e
end
end Lt
section
open Go.Shelf Go.RowKit Go.Lib
attribute [local go_sem] Oper.semAt_some
set_option maxHeartbeats 1000000 in
theorem Uj(a:Option Addr)(n c:Nat)(w:World):Calls Tryz.prog 98 #[.slice a n c] w λe w'=>e=.returned (.func (.func 164) #[] #[.pointer (some ⟨w.heap.size,0,none⟩)])/\w'=w.alloc (.cells #[.slice a n c] 28):=by
 go_enter Tryz.func98,Tryz.ntmps98
 go_wp2_with fail
 go_ret
 exact⟨rfl,rfl⟩
set_option maxHeartbeats 4000000 in
theorem aeD(X l:Nat)(a:Option Addr)(c:Nat)(W:World)(c0:W.cell? ⟨X,0,none⟩=some (.slice a 0 c)):
 CallsIn Fence.wide 0 Tryz.prog 164 #[.func (.yield l) #[] #[],.pointer (some ⟨X,0,none⟩)] W λe W'=>(∃v,e=.returned v)/\W'=W:=by
 refine callsIn_of_wp Tryz.func164 rfl trivial ?_ rfl;simp only[Tryz.ntmps164,List.size_toArray,cQ,List.length_nil,Nat.reduceAdd,Nat.reduceSub,Array.replicate_succ,xk,List.push_toArray,List.append_toArray,iF,jg]
 gi_wp2
 refine wpIn_loop_once ?_
 gi_wp2
 go_end0
 exact⟨⟨_,rfl⟩,rfl⟩
set_option maxHeartbeats 4000000 in
theorem aeE(X l n c:Nat)(b o:Nat)(h0:0<n)(h1:n<=65519)(hc:n<=c)(J:World->Prop)(W:World)(c0:W.cell? ⟨X,0,none⟩=some (.slice (some ⟨b,o,none⟩) n c))
 (hy:YieldAt Fence.wide 0 Tryz.prog l #[.slice (some ⟨b,o,none⟩) n n] W λe W2=>e=.returned (.bool true)/\W2.cell? ⟨X,0,none⟩=some (.slice (some ⟨b,o,none⟩) n c)/\W2.frozen? ⟨X,0,none⟩=false/\∀v,J (W2.setCell ⟨X,0,none⟩ v)):
 CallsIn Fence.wide 0 Tryz.prog 164 #[.func (.yield l) #[] #[],.pointer (some ⟨X,0,none⟩)] W λe W'=>(∃v,e=.returned v)/\J W':=by
 obtain⟨fn,tmps,assign,body,hyv,hR⟩:=hy;refine callsIn_of_wp Tryz.func164 rfl trivial ?_ rfl;simp only[Tryz.ntmps164,List.size_toArray,cQ,List.length_nil,Nat.reduceAdd,Nat.reduceSub,Array.replicate_succ,xk,List.push_toArray,List.append_toArray,iF,jg]
 gi_wp2
 refine wpIn_loop_rounds 2 ?_;rw[roundsIn_succ];have hmin:min (n:Int) 65519=n:=by omega
 have hnat:(n:Int).toNat=n:=rfl
 gi_wp2
 refine⟨rfl,hR.mono ?_⟩
 rintro e W2 ⟨rfl,c2,f2,hJ⟩
 by_cases hcn:c=n;all_goals
  gi_wp2
  rw[roundsIn_succ]
  gi_wp2
  go_end0
  exact⟨⟨_,rfl⟩,hJ _⟩
end
section
open Go.Shelf Go.RowKit Go.Lib
attribute [local go_sem] Oper.semAt_some
def lZ:List Int:=[73,67,67,95,80,82,79,70,73,76,69,0,1,1]
def Chunk(W:World)(A:Nat)(xs:List Int):Prop:=∃g cp gb cap cur,W.cell? ⟨A+1,0,none⟩=some (.slice (some ⟨g,0,none⟩) 1 cp)/\1<=cp/\A<=g/\g≠A+1+1/\W.cell? ⟨g,0,none⟩=some (.slice (some ⟨gb,0,none⟩) (14+xs.length) cap)/\
 A<=gb/\gb≠A+1+1/\W.heap[gb]? =some (.cells cur 5 (0,0))/\14+xs.length<=cap/\cur.toList.take (14+xs.length)=Lt.bd (lZ++xs)
variable{xs:List Int}
theorem Chunk.iC{W W':World}{A:Nat}(h:Chunk W A xs)(e:∀q,q<W.heap.size->q≠A+1+1->W'.heap[q]? =W.heap[q]?):Chunk W' A xs:=by obtain⟨g,cp,gb,cap,cur,y1,y2,y3,y4,y5,y6,y7,y8,y9⟩:=h;exact⟨g,cp,gb,cap,cur,(iP (a:=⟨A+1,0,none⟩) (e _ (ji _ _ y1) (by show A+1≠_;omega))).trans y1,y2,y3,y4,(iP (a:=⟨g,0,none⟩) (e _ (ji _ _ y5) y4)).trans y5,y6,y7,(e _ (lL.1 y8).1 y7).trans y8,y9⟩
theorem rU(l:List Int):∀v∈Lt.bd l,v.oneCell'=true:=λv hv=>by obtain⟨b,_,rfl⟩:=List.mem_map.1 hv;rfl
set_option maxHeartbeats 8000000 in
set_option maxRecDepth 100000 in
theorem YU{m:Nat->Nat->Option Value}{w:World}(_:Lt.Kn m w){b o c:Nat}(h0:0<xs.length)(h1:xs.length<=65519)(hc:xs.length<=c)(hcell:∀i,i<xs.length->w.cell? ⟨b,o+i,none⟩=some (.int .u8 (xs.getD i 0)))
 (HN:∀W,RowKit.Below w.heap.size w W->Calls Tryz.prog 97 #[.int .i64 xs.length] W λe W'=>e=.returned (.int .i64 1)/\RowKit.Below W.heap.size W W'):
 Calls Tryz.prog 49 #[.slice (some ⟨b,o,none⟩) xs.length c] w λe w'=>∃v,e=.returned (.tuple #[v,.int .i64 0])/\RowKit.Below w.heap.size w w'/\Lt.bj (Lt.dj m w w') (Lt.ae 1 [Lt.ae (14+xs.length) (Lt.bd (lZ++xs))]) v:=by
 refine(callsIn_wide (n:=0)).1 ?_;refine callsIn_of_wp_marks Tryz.func49 rfl trivial ?_ rfl;simp only[Tryz.ntmps49,List.size_toArray,cQ,List.length_nil,Nat.reduceAdd,Nat.reduceSub,Array.replicate_succ,xk,List.push_toArray,List.append_toArray,iF,jg]
 gi_wp2
 refine⟨trivial,rfl,(callsIn_wide.2 (HN _ (fb _ _))).mono ?_⟩
 rintro e w1 ⟨rfl,b1⟩
 gi_wp2
 refine⟨trivial,rfl,(callsIn_wide.2 (Uj _ _ _ _)).mono ?_⟩
 rintro e w2 ⟨rfl,rfl⟩
 gi_wp2
 have q1:=qH w1 (.int .i64 1) 3;have q2:=qH (w1.alloc (.cells #[.int .i64 1] 3)) (.slice none 0 0) 88;have q3:=qH ((w1.alloc (.cells #[.int .i64 1] 3)).alloc (.cells #[.slice none 0 0] 88)) (.slice (some ⟨b,o,none⟩) xs.length c) 28;obtain⟨w2,hw2⟩:∃w2,w2=((w1.alloc (.cells #[.int .i64 1] 3)).alloc (.cells #[.slice none 0 0] 88)).alloc (.cells #[.slice (some ⟨b,o,none⟩) xs.length c] 28):=⟨_,rfl⟩;have bw:RowKit.Below w1.heap.size w1 w2:=by rw[hw2];exact(((fb _ w1).alloc (aB _) _).alloc (by simp) _).alloc (by simp;omega) _
 have z2:w1.heap.size+3<=w2.heap.size:=by rw[hw2];simp
 have z2':w2.heap.size<=w1.heap.size+3:=by rw[hw2];simp
 have bb1:RowKit.Below (w1.heap.size+1) (w1.alloc (.cells #[.int .i64 1] 3)) w2:=by rw[hw2];exact((fb _ _).alloc (by simp) _).alloc (by simp) _
 have bb2:RowKit.Below (w1.heap.size+2) ((w1.alloc (.cells #[.int .i64 1] 3)).alloc (.cells #[.slice none 0 0] 88)) w2:=by rw[hw2];exact(fb _ _).alloc (by simp) _
 simp only[World.size_alloc] at q2 q3;rw[<-hw2] at q3;have e1:=(bb1.cell (p:=⟨w1.heap.size,0,none⟩) (by show w1.heap.size<w1.heap.size+1;omega)).trans q1.1;have e2:=(bb2.cell (p:=⟨w1.heap.size+1,0,none⟩) (by show w1.heap.size+1<w1.heap.size+2;omega)).trans q2.1;have f2:=(bb2.frozen (p:=⟨w1.heap.size+1,0,none⟩) (by show w1.heap.size+1<w1.heap.size+2;omega)).trans q2.2;obtain⟨e3,f3⟩:=q3;rw[<-hw2];clear q1 q2 bb1 bb2 hw2;refine LS (gf:=164) (lb:=#[.pointer (some ⟨w1.heap.size+1+1,0,none⟩)]) rfl (enters_of Tryz.func164 (by kernel_rfl) rfl) ?_;intro fn W1 hW1;refine(callsIn_wide (n:=0)).1 ?_;generalize hR0:ku fn _ _ _ _ _ .ready=R0 at hW1⊢;have bl:RowKit.Below w2.heap.size w2 W1:=by rw[hW1];exact((fb _ w2).alloc (aB _) _).alloc (by simp) _
 have z3:w2.heap.size+2<=W1.heap.size:=by rw[hW1];simp
 have d1:W1.heap[w2.heap.size]? =some (.deferred (some [])):=by rw[hW1];exact(Below.heap_alloc _ _ _ (by simp)).trans (World.alloc_heap_new w2 _)
 have d2:W1.heap[w2.heap.size+1]? =some (.loop R0):=by have:=World.alloc_heap_new (w2.alloc (.deferred (some []))) (.loop R0);rw[World.size_alloc] at this;rw[hW1];exact this
 clear hW1;refine(aeE (w1.heap.size+1+1) (w2.heap.size+1) xs.length c b o h0 h1 hc (λW=>W.heap[w2.heap.size+1]? =some (.loop R0)/\W.heap[w2.heap.size]? =some (.deferred (some []))/\RowKit.Below w1.heap.size w1 W/\
  Chunk W w1.heap.size xs) W1 ((bl.cell (p:=⟨w1.heap.size+1+1,0,none⟩) (by show w1.heap.size+1+1<_;omega)).trans e3) ?hy).mono ?_
 case hy=>
  rw[<-hR0] at d2;refine(UU (n:=0) (R:=λW=>W.cell? ⟨w1.heap.size+1+1,0,none⟩=some (.slice (some ⟨b,o,none⟩) xs.length c)/\W.frozen? ⟨w1.heap.size+1+1,0,none⟩=false/\W.heap[w2.heap.size+1]? =some (.loop R0)/\W.heap[w2.heap.size]? =some (.deferred (some []))/\RowKit.Below w1.heap.size w1 W/\
   Chunk W w1.heap.size xs) d2 rfl ?_).mono ?_
  ·rw[hR0] at d2⊢;generalize ku fn _ _ _ _ _ .busy=R1;have D2:=Lib.hid d2;clear d2
   gi_wp2
   refine⟨D2.out,?_⟩;obtain⟨W2,hW2⟩:∃W2,W2=W1.putObj (w2.heap.size+1) (.loop R1):=⟨_,rfl⟩;have b2:fT (w2.heap.size+1) W1 W2:=by rw[hW2];exact⟨rfl,rfl,rfl,by simp,λk hk ca=>World.putObj_heap_other ca⟩
   have kl:W2.heap[w2.heap.size+1]? =some (.loop R1):=by rw[hW2];exact World.putObj_heap_same (by omega)
   have kd:=(b2.block w2.heap.size (by omega) (by omega)).trans d1;have bA:fT (w2.heap.size+1) w2 W2:=(fT.of bl (aB _)).trans b2;have g1:=bA.cell e1 (by show w1.heap.size≠_;omega);have g2:=bA.cell e2 (by show w1.heap.size+1≠_;omega);have g3:=bA.cell e3 (by show w1.heap.size+1+1≠_;omega);have h2:W2.frozen? ⟨w1.heap.size+1,0,none⟩=false:=(World.frozen?_of_block (a:=⟨w1.heap.size+1,0,none⟩) (bA.block _ (by show w1.heap.size+1<_;omega) (by show w1.heap.size+1≠_;omega))).trans f2;have h3:W2.frozen? ⟨w1.heap.size+1+1,0,none⟩=false:=(World.frozen?_of_block (a:=⟨w1.heap.size+1+1,0,none⟩) (bA.block _ (by show w1.heap.size+1+1<_;omega) (by show w1.heap.size+1+1≠_;omega))).trans f3;have zW:w2.heap.size+2<=W2.heap.size:=eP z3 b2.size;have b1W:RowKit.Below w1.heap.size w1 W2:=⟨bA.os.trans bw.os,bA.tape.trans bw.tape,bA.output.trans bw.output,eP bw.size bA.size,λk hk=>(bA.block k (by omega) (by omega)).trans (bw.block k hk)⟩;rw[<-hW2];clear hW2;have z1:w1.heap.size<W2.heap.size:=by omega
   have z1o:w1.heap.size+1<W2.heap.size:=by omega
   gi_wp2
   have three:LibA.Three (W2.alloc (Obj.cells #[.slice none 0 0,.int .i64 0,.int .i8 0] 152)) W2.heap.size 0 152 (λ_=>none) (.slice none 0 0) (.int .i64 0) (.int .i8 0):=LibA.three_whole (heap_alloc_new W2 _);have buf:=LibA.zero_isBuffer (e:=5) (aB W2.heap.size) three;refine⟨trivial,rfl,(CallsIn.inRound _ (callsIn_wide.2 (Tryz.Buffer_WriteString_at 152 (λ_=>none) W2.heap.size W2.heap.size 0 [] _ _ buf (by simp) (λv hv=>by cases hv) (by decide)))).mono ?_⟩
   rintro e W3 ⟨rfl,hI3,b3,_⟩
   have bl3:RowKit.Below W2.heap.size W2 W3:=((fb _ W2).alloc (aB _) _).trans b3;have hI3:LibA.IsBuffer 152 (λ_=>none) 5 W2.heap.size W2.heap.size 0 (Lt.bd [73,67,67,95,80,82,79,70,73,76,69,0]) W3:=by simpa[Lib.byteCells,Lt.bd] using hI3
   have HI3:=Lib.hid hI3;clear hI3 three buf b3;have g13:=(bl3.cell (p:=⟨w1.heap.size,0,none⟩) z1).trans g1;have g23:=(bl3.cell (p:=⟨w1.heap.size+1,0,none⟩) z1o).trans g2
   gi_wp2
   refine⟨trivial,rfl,(CallsIn.inRound _ (callsIn_wide.2 (Tryz.Buffer_WriteByte_at 152 (λ_=>none) W2.heap.size W2.heap.size 0 _ 1 W3 HI3.out bl3.size (rU _) (by decide)))).mono ?_⟩
   rintro e W4 ⟨rfl,hI4,b4,_⟩
   have bl4:=bl3.trans b4;have hI4:LibA.IsBuffer 152 (λ_=>none) 5 W2.heap.size W2.heap.size 0 (Lt.bd [73,67,67,95,80,82,79,70,73,76,69,0,1]) W4:=hI4;have HI4:=Lib.hid hI4;clear hI4 b4 g13 g23;have g14:=(bl4.cell (p:=⟨w1.heap.size,0,none⟩) z1).trans g1
   gi_wp2
   refine⟨trivial,rfl,(CallsIn.inRound _ (callsIn_wide.2 (Tryz.Buffer_WriteByte_at 152 (λ_=>none) W2.heap.size W2.heap.size 0 _ 1 W4 HI4.out bl4.size (rU _) (by decide)))).mono ?_⟩
   rintro e W5 ⟨rfl,hI5,b5,_⟩
   have bl5:=bl4.trans b5;have hI5:LibA.IsBuffer 152 (λ_=>none) 5 W2.heap.size W2.heap.size 0 (Lt.bd lZ) W5:=hI5;have HI5:=Lib.hid hI5;clear hI5 b5 g14
   gi_wp2
   have src:RowKit.Below w.heap.size w W5:=b1.trans ((b1W.mono b1.size).trans (bl5.mono (by have:=b1.size;omega)));have hsrc:∀j v,(Lt.bd xs)[j]? =some v->W5.cell? (Addr.add ⟨b,o,none⟩ j)=some v:=λj v hv=>by
    have hj:j<xs.length:=by
     rcases dg j xs.length with q|q
     ·exact q
     ·rw[lN (by simp[Lt.bd];omega)] at hv;cases hv
    have hv2:v=.int .u8 (xs.getD j 0):=by unfold Lt.bd at hv;rw[List.getElem?_map,dD hj] at hv;rw[Ao,dD hj];simpa using hv.symm
    have hc:=hcell j hj;rw[hv2,Addr.add_lit];exact(src.cell (ji _ _ hc)).trans hc
   refine⟨trivial,rfl,(CallsIn.inRound _ (callsIn_wide.2 (Tryz.Buffer_Write_at 152 (λ_=>none) W2.heap.size W2.heap.size 0 _ (Lt.bd xs) ⟨b,o,none⟩ xs.length xs.length W5 HI5.out bl5.size (rU _) (by simp[Lt.bd]) ?ca hsrc (rU _) ?hlim))).mono ?_⟩
   case ca=>have q:b<w.heap.size:=ji _ _ (hcell 0 h0);have:=b1.size;show b≠W2.heap.size;omega
   case hlim=>simp[Lt.bd,lZ];omega
   rintro e W6 ⟨rfl,hI6,b6,_⟩
   have bl6:=bl5.trans b6;have HI6:=Lib.hid hI6;clear hI6 b6 hsrc src;have g26:=(bl6.cell (p:=⟨w1.heap.size+1,0,none⟩) z1o).trans g2;have h26:=(bl6.frozen (p:=⟨w1.heap.size+1,0,none⟩) z1o).trans h2;have mixed:Tryz.prog.follows .mixedOrders=true:=by kernel_rfl
   gi_wp2
   have hID:LibA.IsBuffer 152 (λ_=>none) 5 W2.heap.size W2.heap.size 0 (Lt.bd lZ++Lt.bd xs) W6.drew:=HI6.out;have HB:=(Jn 152 (λ_=>none) W2.heap.size W2.heap.size 0 _ _ hID).mono (R':=λe W7=>∃g cap cur,e=.returned (.slice (some ⟨g,0,none⟩) (14+xs.length) cap)/\W2.heap.size<=g/\W7.heap[g]? =some (.cells cur 5 (0,0))/\14+xs.length<=cap/\cur.toList.take (14+xs.length)=Lt.bd (lZ++xs)/\∃n,W7=W6.drew.drewN n) ?hB
   case hB=>
    rintro e W7 ⟨v,rfl,⟨_,⟨rfl,hn⟩|⟨g,cap,cur,rfl,hB,hg,hnc,_,hcs,htk⟩⟩,k,rfl⟩
    ·simp[Lt.bd,lZ] at hn
    ·have hl:(Lt.bd lZ++Lt.bd xs).length=14+xs.length:=by simp[Lt.bd,lZ];omega
     rw[hl] at hnc htk⊢;refine⟨g,cap,cur,rfl,hB,hg,hnc,?_,k,rfl⟩;rw[gM] at htk;rw[htk];simp[Lt.bd]
   have HB:=Lib.hid HB;clear hID;have zO6:w1.heap.size+1<W6.heap.size:=ji _ _ g26;have hbt:¬281474976710656<Builtin.nextslicecap 1 0*Tryz.t28.bytes:=by decide
   have hw1:∀(k:Nat)(Xc Yc:Obj),(((W6.drewN k).alloc Xc).alloc Yc).cell? ⟨w1.heap.size+1,0,none⟩=some (.slice none 0 0):=λk Xc Yc=>(iP (a:=⟨w1.heap.size+1,0,none⟩) ((Below.heap_alloc _ _ _ (by simp;omega)).trans (Below.heap_alloc _ _ _ zO6))).trans g26;have hw2:∀(k:Nat)(Xc Yc:Obj),(((W6.drewN k).alloc Xc).alloc Yc).frozen? ⟨w1.heap.size+1,0,none⟩=false:=λk Xc Yc=>(World.frozen?_of_block (a:=⟨w1.heap.size+1,0,none⟩) ((Below.heap_alloc _ _ _ (by simp;omega)).trans (Below.heap_alloc _ _ _ zO6))).trans h26;have Bs:∀(k:Nat)(Xc:Obj),((W6.drewN k).alloc Xc).cell? ⟨w1.heap.size+1,0,none⟩=some (.slice none 0 0):=λk Xc=>(iP (a:=⟨w1.heap.size+1,0,none⟩) (Below.heap_alloc _ _ _ zO6)).trans g26;have b1s:=b1.size;have zD:w2.heap.size+1<W2.heap.size:=by omega
   have s26:=bl6.size;have fin:∀(k g cap cp:Nat)(cur zs:Array Value)(Wf:World),W2.heap.size<=g->W6.heap[g]? =some (.cells cur 5 (0,0))->14+xs.length<=cap->cur.toList.take (14+xs.length)=Lt.bd (lZ++xs)->1<=cp->Wf.os=W6.os->Wf.tape=W6.tape->Wf.output=W6.output->
    Wf.heap=((((W6.drewN k).alloc (.cells #[.slice (some ⟨g,0,none⟩) (14+xs.length) cap] 28)).alloc (.cells (#[.slice (some ⟨g,0,none⟩) (14+xs.length) cap]++zs) 28)).setCell ⟨w1.heap.size+1,0,none⟩ (.slice (some ⟨W6.heap.size+1,0,none⟩) 1 cp)).heap->
    Wf.heap[w2.heap.size+1]? =some (.loop R1)/\(Wf.putObj (w2.heap.size+1) (.loop R0)).cell? ⟨w1.heap.size+1+1,0,none⟩=some (.slice (some ⟨b,o,none⟩) xs.length c)/\(Wf.putObj (w2.heap.size+1) (.loop R0)).frozen? ⟨w1.heap.size+1+1,0,none⟩=false/\(Wf.putObj (w2.heap.size+1) (.loop R0)).heap[w2.heap.size+1]? =some (.loop R0)/\(Wf.putObj (w2.heap.size+1) (.loop R0)).heap[w2.heap.size]? =some (.deferred (some []))/\RowKit.Below w1.heap.size w1 (Wf.putObj (w2.heap.size+1) (.loop R0))/\
     Chunk (Wf.putObj (w2.heap.size+1) (.loop R0)) w1.heap.size xs:=by
    intro k g cap cp cur zs Wf p1 p2 p3 p4 p5 p6 p7 p8 hh;have lg:g<W6.heap.size:=(lL.1 p2).1;have e6:∀q,q<W6.heap.size->q≠w1.heap.size+1->Wf.heap[q]? =W6.heap[q]? :=λq h1 h2=>by rw[hh,Below.heap_setCell _ _ _ q h2,Below.heap_alloc _ _ _ (by simp;omega),Below.heap_alloc _ _ _ (by exact h1)];rfl
    have e0:∀q,q<W2.heap.size->q≠w1.heap.size+1->Wf.heap[q]? =W2.heap[q]? :=λq h1 h2=>(e6 q (by omega) h2).trans (bl6.block q h1);have eN:Wf.heap[W6.heap.size+1]? =some (.cells (#[.slice (some ⟨g,0,none⟩) (14+xs.length) cap]++zs) 28):=by have q:=World.alloc_heap_new ((W6.drewN k).alloc (.cells #[.slice (some ⟨g,0,none⟩) (14+xs.length) cap] 28)) (.cells (#[.slice (some ⟨g,0,none⟩) (14+xs.length) cap]++zs) 28);rw[hh,Below.heap_setCell _ _ _ _ (by show W6.heap.size+1≠w1.heap.size+1;omega)];rw[World.size_alloc] at q;exact q
    have eO:Wf.cell? ⟨w1.heap.size+1,0,none⟩=some (.slice (some ⟨W6.heap.size+1,0,none⟩) 1 cp):=by refine(iP (a:=⟨w1.heap.size+1,0,none⟩) (by rw[hh])).trans (World.cell?_setCell_same' _ _ _ ?_);rw[hw1];rfl
    have eg:=(e6 g lg (by omega)).trans p2;have po:∀q,q≠w2.heap.size+1->(Wf.putObj (w2.heap.size+1) (.loop R0)).heap[q]? =Wf.heap[q]? :=λq h=>World.putObj_heap_other h;have kf:=(e0 _ zD (by omega)).trans kl;refine⟨kf,?_,?_,World.putObj_heap_same (lL.1 kf).1,(po _ (by omega)).trans ((e0 _ (by omega) (by omega)).trans kd),⟨?_,?_,?_,?_,λq hq=>?_⟩,W6.heap.size+1,cp,g,cap,cur,?_,p5,by omega,by omega,?_,by omega,by omega,(po g (by omega)).trans eg,p3,p4⟩
    ·exact(iP (a:=⟨w1.heap.size+1+1,0,none⟩) ((po _ (by show w1.heap.size+1+1≠_;omega)).trans (e0 _ (by show w1.heap.size+1+1<_;omega) (by show w1.heap.size+1+1≠_;omega)))).trans g3
    ·exact(World.frozen?_of_block (a:=⟨w1.heap.size+1+1,0,none⟩) ((po _ (by show w1.heap.size+1+1≠_;omega)).trans (e0 _ (by show w1.heap.size+1+1<_;omega) (by show w1.heap.size+1+1≠_;omega)))).trans h3
    ·exact p6.trans (bl6.os.trans b1W.os)
    ·exact p7.trans (bl6.tape.trans b1W.tape)
    ·exact p8.trans (bl6.output.trans b1W.output)
    ·have:=(lL.1 eN).1;simp only[World.putObj_size];omega
    ·exact(po q (by omega)).trans ((e0 q (by omega) (by omega)).trans (b1W.block q hq))
    ·exact(iP (a:=⟨w1.heap.size+1,0,none⟩) (po _ (by show w1.heap.size+1≠_;omega))).trans eO
    ·refine(iP (a:=⟨W6.heap.size+1,0,none⟩) (po _ (by show W6.heap.size+1≠_;omega))).trans ?_;unfold World.cell?;simp only[eN];show(#[_]++zs)[0]? =_;rw[Array.getElem?_append_left (by simp)];rfl
   gi_region_with_o (refine⟨trivial,rfl,(CallsIn.inRound _ (callsIn_wide.2 HB.out)).mono ?_⟩;rintro e W7 ⟨g,cap,cur,rfl,hg1,hg2,hg3,hg4,k,rfl⟩;have hq:((W6.drewN (1+k)).alloc (.cells #[.slice (some ⟨g,0,none⟩) (14+xs.length) cap] 28)).cell? ⟨W6.heap.size,0,none⟩=some (.slice (some ⟨g,0,none⟩) (14+xs.length) cap):=(qH _ _ _).1)
   all_goals
    exact fin (1+k) g cap ((Question.appendCap 1 0 28).cut (W6.tape (W6.drewN (1+k)).drawn (.appendCap 1 0 28))) cur (Builtin.zeroCells #[.slice none 0 0] ((Question.appendCap 1 0 28).cut (W6.tape (W6.drewN (1+k)).drawn (.appendCap 1 0 28)) -1)) _ hg1 hg2 hg3 hg4 (by simp[Question.cut]) rfl rfl rfl rfl
  ·rintro e W ⟨rfl,x1,x2,x3,x4,x5,x6⟩
   have st:∀v q,q≠w1.heap.size+1+1->(W.setCell ⟨w1.heap.size+1+1,0,none⟩ v).heap[q]? =W.heap[q]? :=λv q h=>Below.heap_setCell _ _ _ q h;exact⟨rfl,x1,x2,λv=>⟨(st v _ (by omega)).trans x3,(st v _ (by omega)).trans x4,x5.setCell (p:=⟨w1.heap.size+1+1,0,none⟩) (by show _<=w1.heap.size+1+1;omega) _,x6.iC λq _ h=>st v q h⟩⟩
 rintro e W2 ⟨⟨v,rfl⟩,j1,j2,j3,j4⟩
 refine⟨⟨_,rfl⟩,j1,?_⟩;generalize ku fn _ _ _ _ _ .exhausted=R9;obtain⟨W3,hW3⟩:∃W3,W3=W2.putObj (w2.heap.size+1) (.loop R9):=⟨_,rfl⟩;have pk:∀k,k≠w2.heap.size+1->W3.heap[k]? =W2.heap[k]? :=λk hk=>by rw[hW3];exact World.putObj_heap_other hk
 obtain⟨g,cp,gb,cap,cur,y1,y2,y3,y4,y5,y6,y7,y8,y9,y10⟩:=j4;have c3:W3.cell? ⟨w1.heap.size+1,0,none⟩=some (.slice (some ⟨g,0,none⟩) 1 cp):=(iP (a:=⟨w1.heap.size+1,0,none⟩) (pk _ (by show w1.heap.size+1≠_;omega))).trans y1;have g3:W3.cell? ⟨g,0,none⟩=some (.slice (some ⟨gb,0,none⟩) (14+xs.length) cap):=by refine(iP (a:=⟨g,0,none⟩) (pk _ λq=>?_)).trans y5;have q:g=w2.heap.size+1:=q;have:=ji _ _ y5;unfold World.cell? at y5;rw[q,j1] at y5;cases y5
 have h3:W3.heap[gb]? =some (.cells cur 5 (0,0)):=by refine(pk _ λq=>?_).trans y8;rw[q,j1] at y8;cases y8
 have k3:W3.heap[w2.heap.size]? =some (.deferred (some [])):=(pk _ (by omega)).trans j2;have bl3:RowKit.Below w1.heap.size w1 W3:=by refine j3.trans ?_;rw[hW3];exact⟨rfl,rfl,rfl,by simp,λk hk=>World.putObj_heap_other (by omega)⟩
 rw[<-hW3];clear hW3
 gi_wp2
 refine⟨by simp,.inl ⟨_,_,rfl,run_takeDeferred k3,?_⟩⟩;refine⟨.tuple #[.slice (some ⟨g,0,none⟩) 1 cp,.int .i64 0],by simp[results,Tryz.f49,go_sem],_,rfl,?_,?_⟩
 ·exact b1.trans ((bl3.mono b1.size).trans ⟨rfl,rfl,rfl,by simp,λk hk=>World.putObj_heap_other (by have:=b1.size;omega)⟩)
 ·have b1s:=b1.size;have e4:∀(q:Nat)(cs:Array Value)(t:TypeId)(fz:Nat×Nat),W3.heap[q]? =some (Obj.cells cs t fz)->(W3.putObj w2.heap.size (.deferred none)).heap[q]? =W3.heap[q]? :=λq cs t fz h=>World.putObj_heap_other λe=>(by rw[e,k3] at h;cases h);refine .gH (ys:=[.slice (some ⟨gb,0,none⟩) (14+xs.length) cap]) (.cons ?_ .nil) (λi y hy=>?_) rfl y2
  ·refine .gH (ys:=Lt.bd (lZ++xs)) (Lt.KF _) (λi y hy=>?_) rfl y9;unfold Lt.dj;rw[ai (by show¬gb<_;omega),Lt.qR ((e4 gb _ _ _ h3).trans h3)];rw[<-y10,qq] at hy;split at hy
   ·simpa using hy
   ·cases hy
  ·have hi:i=0:=by
    cases i with
    |zero=>rfl
    |succ i=>cases hy
   subst hi;cases hy;unfold Lt.dj;rw[ai (by show¬g<_;omega)];obtain⟨cs,t,fz,hc⟩:∃cs t fz,W3.heap[g]? =some (.cells cs t fz):=by
    unfold World.cell? at g3;split at g3
    ·rename_i q;exact⟨_,_,_,q⟩
    ·cases g3
   rw[Lt.qR ((e4 g _ _ _ hc).trans hc)];unfold World.cell? at g3;simpa[hc] using g3
end
section
open Go.Shelf Go.RowKit Go.Lib
attribute [local go_sem] Oper.semAt_some
set_option maxHeartbeats 4000000 in
set_option maxRecDepth 100000 in
theorem QB{w:World}{a:Option Addr}{c:Nat}(HN:∀W,RowKit.Below w.heap.size w W->Calls Tryz.prog 97 #[.int .i64 0] W λe W'=>e=.returned (.int .i64 0)/\RowKit.Below W.heap.size W W'):
 Calls Tryz.prog 49 #[.slice a 0 c] w λe w'=>e=.returned (.tuple #[.slice none 0 0,.int .i64 0])/\RowKit.Below w.heap.size w w':=by
 refine(callsIn_wide (n:=0)).1 ?_;refine callsIn_of_wp_marks Tryz.func49 rfl trivial ?_ rfl;simp only[Tryz.ntmps49,List.size_toArray,cQ,List.length_nil,Nat.reduceAdd,Nat.reduceSub,Array.replicate_succ,xk,List.push_toArray,List.append_toArray,iF,jg]
 gi_wp2
 refine⟨trivial,rfl,(callsIn_wide.2 (HN _ (fb _ _))).mono ?_⟩
 rintro e w1 ⟨rfl,b1⟩
 gi_wp2
 refine⟨trivial,rfl,(callsIn_wide.2 (Uj _ _ _ _)).mono ?_⟩
 rintro e w2 ⟨rfl,rfl⟩
 gi_wp2
 have q2:=qH (w1.alloc (.cells #[.int .i64 0] 3)) (.slice none 0 0) 88;have q3:=qH ((w1.alloc (.cells #[.int .i64 0] 3)).alloc (.cells #[.slice none 0 0] 88)) (.slice a 0 c) 28;obtain⟨w2,hw2⟩:∃w2,w2=((w1.alloc (.cells #[.int .i64 0] 3)).alloc (.cells #[.slice none 0 0] 88)).alloc (.cells #[.slice a 0 c] 28):=⟨_,rfl⟩;have bw:RowKit.Below w1.heap.size w1 w2:=by rw[hw2];exact(((fb _ w1).alloc (aB _) _).alloc (by simp) _).alloc (by simp;omega) _
 have z2:w1.heap.size+3<=w2.heap.size:=by rw[hw2];simp
 have bb2:RowKit.Below (w1.heap.size+2) ((w1.alloc (.cells #[.int .i64 0] 3)).alloc (.cells #[.slice none 0 0] 88)) w2:=by rw[hw2];exact(fb _ _).alloc (by simp) _
 simp only[World.size_alloc] at q2 q3;rw[<-hw2] at q3;have e2:=(bb2.cell (p:=⟨w1.heap.size+1,0,none⟩) (by show w1.heap.size+1<w1.heap.size+2;omega)).trans q2.1;obtain⟨e3,f3⟩:=q3;rw[<-hw2];clear q2 bb2 hw2;refine LS (gf:=164) (lb:=#[.pointer (some ⟨w1.heap.size+1+1,0,none⟩)]) rfl (enters_of Tryz.func164 (by kernel_rfl) rfl) ?_;intro fn W1 hW1;refine(callsIn_wide (n:=0)).1 ?_;generalize hR0:ku fn _ _ _ _ _ .ready=R0 at hW1⊢;have bl:RowKit.Below w2.heap.size w2 W1:=by rw[hW1];exact((fb _ w2).alloc (aB _) _).alloc (by simp) _
 have d1:W1.heap[w2.heap.size]? =some (.deferred (some [])):=by rw[hW1];exact(Below.heap_alloc _ _ _ (by simp)).trans (World.alloc_heap_new w2 _)
 have d2:W1.heap[w2.heap.size+1]? =some (.loop R0):=by have:=World.alloc_heap_new (w2.alloc (.deferred (some []))) (.loop R0);rw[World.size_alloc] at this;rw[hW1];exact this
 clear hW1;refine(aeD (w1.heap.size+1+1) (w2.heap.size+1) a c W1 ((bl.cell (p:=⟨w1.heap.size+1+1,0,none⟩) (by show w1.heap.size+1+1<_;omega)).trans e3)).mono ?_
 rintro e W2 ⟨⟨v,rfl⟩,rfl⟩
 refine⟨⟨_,rfl⟩,d2,?_⟩;generalize ku fn _ _ _ _ _ .exhausted=R9;obtain⟨W3,hW3⟩:∃W3,W3=W2.putObj (w2.heap.size+1) (.loop R9):=⟨_,rfl⟩;have pk:∀k,k≠w2.heap.size+1->W3.heap[k]? =W2.heap[k]? :=λk hk=>by rw[hW3];exact World.putObj_heap_other hk
 have c3:W3.cell? ⟨w1.heap.size+1,0,none⟩=some (.slice none 0 0):=(iP (a:=⟨w1.heap.size+1,0,none⟩) (pk _ (by show w1.heap.size+1≠_;omega))).trans ((bl.cell (p:=⟨w1.heap.size+1,0,none⟩) (by show w1.heap.size+1<_;omega)).trans e2);have k3:W3.heap[w2.heap.size]? =some (.deferred (some [])):=(pk _ (by omega)).trans d1;have bl3:RowKit.Below w1.heap.size w1 W3:=by refine bw.trans ((bl.mono (by omega)).trans ?_);rw[hW3];exact⟨rfl,rfl,rfl,by simp,λk hk=>World.putObj_heap_other (by omega)⟩
 rw[<-hW3];clear hW3
 gi_wp2
 refine⟨by simp,.inl ⟨_,_,rfl,run_takeDeferred k3,?_⟩⟩;exact⟨.tuple #[.slice none 0 0,.int .i64 0],by simp[results,Tryz.f49,go_sem],rfl,b1.trans ((bl3.mono b1.size).trans ⟨rfl,rfl,rfl,by simp,λk hk=>World.putObj_heap_other (by have:=b1.size;omega)⟩)⟩
namespace Lt
noncomputable def yc(N:Int->Option Int)(x:Value):Option (Value×Int):=jQ x λxs=>ob (N xs.length) λk=>
 cond xs.isEmpty (cond (ak k 0) (some (ae 0 [],0)) none) (cond (ak k 1&&Nat.ble xs.length 65519) (some (ae 1 [ae (14+xs.length) (bd (lZ++xs))],0)) none)
variable{r:Value×Int}
theorem Qw{N:Int->Option Int}{xs:List Int}(e:(ob (N xs.length) λk=>cond xs.isEmpty (cond (ak k 0) (some (ae 0 [],(0:Int))) none) (cond (ak k 1&&Nat.ble xs.length 65519) (some (ae 1 [ae (14+xs.length) (bd (lZ++xs))],0)) none))=some r):
 (xs=[]/\N 0=some 0/\r=(ae 0 [],0))\/(0<xs.length/\xs.length<=65519/\N xs.length=some 1/\r=(ae 1 [ae (14+xs.length) (bd (lZ++xs))],0)):=by
 replace e:=af e;obtain⟨k,hk,e⟩:=e;cases xs with
 |nil=>
  left;cases hb:ak k 0 with
  |false=>simp[hb] at e
  |true=>have:=Kj hb;subst this;exact⟨rfl,hk,(bu (show some _=some r from e)).symm⟩
 |cons a xs=>right;obtain⟨q,e2⟩:=aT (show cond (ak k 1&&Nat.ble (a::xs).length 65519) _ none=some r from e);rw[bg] at q;have:=Kj q.1;subst this;exact⟨by simp,cI q.2,hk,(bu e2).symm⟩
theorem YQ{N:Int->Option Int}{x:Value}(e:yc N x=some r):aY r.1 /\bB [r.1]=true:=by
 unfold yc jQ at e;split at e
 ·obtain⟨_,e⟩:=aT e;replace e:=af e;obtain⟨xs,_,e⟩:=e;rcases Qw e with⟨_,_,rfl⟩|⟨_,_,_,rfl⟩
  ·exact fq ⟨(λx h=>by cases h),rfl⟩
  ·refine fq ⟨λx h=>?_,rfl⟩;rw[kC] at h;rw[h];exact(fq (D1 _)).1
 ·cases e
theorem YT{N:Int->Option Int}(HN:dI Tryz.prog 97 [.i .i64] (.i .i64) N):dI Tryz.prog 49 [.v] rL (yc N):=by
 intro ls r e hl us hu;obtain⟨x,r1,us1,h1,h2,rfl⟩:=gD hu;obtain⟨rfl,rfl⟩:=pN h2;obtain rfl:=lY h1;replace e:yc N x=some r:=e;have hx:=(hl x (by simp)).1;have hc:∀(n k:Int),N n=some k->∀W,Calls Tryz.prog 97 #[.int .i64 n] W λe W'=>e=.returned (.int .i64 k)/\RowKit.Below W.heap.size W W':=λn k hk W=>by obtain⟨_,pv,f2,f3⟩:=HN [.i n] k hk (λx hx=>by simp at hx) _ rfl;have f2:some (Value.int .i64 k,([]:List bo))=some (pv,[]):=f2;cases f2;exact Sa f3 (m:=λ_ _=>none) (λ_ _ _ h=>by cases h) (.cons (.int _ _) .nil)
 refine⟨Kz (YQ e),_,rfl,Pf (λa ha=>?_) λm args' w hm A=>?_⟩
 ·rw[kC] at ha;rw[ha];exact hx
 ·obtain⟨al⟩:=args';replace A:aP m _ al:=A;cases A with|cons a0 A=>?_
  cases A;obtain⟨xs,hK,hv⟩:=A7 hm e a0;rcases Qw hK with⟨rfl,k0,rfl⟩|⟨k1,k2,k3,rfl⟩
  ·rcases hv with⟨a,c,rfl,_⟩|⟨_,c,rfl⟩
   ·exact(QB λW _=>hc 0 0 k0 W).mono λe w' ⟨h1,h2⟩=>⟨_,h1,h2,.fN⟩
   ·exact(QB λW _=>hc 0 0 k0 W).mono λe w' ⟨h1,h2⟩=>⟨_,h1,h2,.fN⟩
  ·rcases hv with⟨⟨b,o,sp⟩,c,rfl,h3,h4⟩|⟨rfl,c,rfl⟩
   ·have hs:∀n v,bj m x v->v=.slice (some ⟨b,o,sp⟩) n c->0<n->sp=none:=by
     intro n v h q p;cases h<;>cases q
     ·assumption
     all_goals cases p
    have hs:=hs _ _ a0 rfl k1;subst hs;exact YU hm k1 k2 h3 (λi hi=>by rw[<-h4 i hi,Addr.add_lit]) λW _=>hc _ 1 k3 W
   ·simp at k1
end Lt
end
section
open Go.Shelf Go.RowKit Go.Lib
set_option maxHeartbeats 4000000 in
set_option maxRecDepth 100000 in
theorem ZZ(n:Nat)(hn:n<=1000000000)(w:World):Calls Tryz.prog 178 #[.slice none 0 0,.int .i64 n] w λe w'=>∃v,e=.returned v/\RowKit.Below w.heap.size w w'/\w'.ownsRow w.heap.size 5 1 v 0 []:=by
 have mixed:Tryz.prog.follows .mixedOrders=true:=by kernel_rfl
 go_enter Tryz.func178,Tryz.ntmps178
 by_cases h0:n=0
 ·subst h0
  go_wp2
  go_ret
  exact⟨_,rfl,fb _ _,World.ownsRow_nil _ _ _ _⟩
 ·have hb:Tryz.t5.bytes=1:=rfl;have hc:=Lt.KT (need:=n) (c:=0) (by omega);have g1:¬281474976710656<Builtin.nextslicecap n 0*Tryz.t5.bytes:=by rw[hb];omega
  have g2:((n:Int)*(Tryz.t5.bytes:Int))<=281474976710656:=by rw[hb];omega
  have g3:(n:Int)<=9223372036854775807:=by omega
  go_wp2
  go_ret
  generalize hq:(Question.appendCap n 0 5).cut _=cp;have hcp:n<=cp/\cp<=maxLen:=by have hlt:=Nat.mod_lt (w.tape w.drawn (.appendCap n 0 5)) (show 0<2^63 -n by omega);rw[<-hq];unfold Question.cut maxLen;simp only;omega
  refine⟨_,rfl,((fb _ w).alloc (aB _) _).drew,rfl,.inr ⟨_,cp,_,rfl,aB _,World.alloc_heap_new w _,gZ _,hcp.2,?_,by simp⟩⟩;simp[Builtin.zeroCells];omega
end
end Go.Proofs.YtfdojmichbgpiaaGreatDoor

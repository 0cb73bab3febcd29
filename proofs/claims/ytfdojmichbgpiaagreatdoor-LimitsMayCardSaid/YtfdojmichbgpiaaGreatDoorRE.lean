import Derived.Test.YtfdojmichbgpiaaGreatDoorChecked
import Derived.RangeFuncNested
import Derived.RangeFuncBound
import Derived.Shelf.RegionOpen
import Derived.OwnWalkIn
import Derived.LoopNIn
import Derived.LoopIn
import Derived.Laws.EntriesVeiled
import Derived.Shelf.Spec.SlicesInsert
import Derived.Test.YtfdojmichbgpiaaGreatDoorRShelf
import Derived.Test.YtfdojmichbgpiaaGreatDoorRD
namespace Go.Proofs.YtfdojmichbgpiaaGreatDoor
set_option maxRecDepth 100000
set_option maxHeartbeats 8000000
namespace Lt
section
variable{ls r:List bo} {pv:Value}
theorem lY(e:lu .v ls=some (pv,r)):ls=.v pv::r:=by
 cases ls with
 |nil=>cases e
 |cons l ls=>cases l<;>first|(cases e;rfl)|cases e
theorem tR{k:IntKind}(e:lu (.i k) ls=some (pv,r)):∃n,ls=.i n::r/\pv=.int k n:=by
 cases ls with
 |nil=>cases e
 |cons l ls=>cases l<;>first|(cases e;exact⟨_,rfl,rfl⟩)|cases e
variable{us:List Value}
theorem gD{t:VT}{ts:List VT}(e:fk (t::ts) ls=some (us,r)):∃pv r1 us',lu t ls=some (pv,r1)/\fk ts r1=some (us',r)/\us=pv::us':=by unfold fk at e;replace e:=af e;obtain⟨⟨a,b⟩,h1,e⟩:=e;replace e:=af e;obtain⟨⟨c,d⟩,h2,e⟩:=e;cases e;exact⟨a,b,c,h1,h2,rfl⟩
theorem pN(e:fk [] ls=some (us,r)):us=[]/\ls=r:=by unfold fk at e;cases e;exact⟨rfl,rfl⟩
noncomputable def CG(_:Nat):Value->Int->Option Int:=λx c=>jQ x λxs=>cond xs.isEmpty none (some (Lib.indexByte (Lib.bytesOf xs) c.toNat.toUInt8))
theorem adm(w:Nat):dI Tryz.prog 295 [.v,.i .u8] (.i .i64) (CG w):=by
 intro ls r e hl us hu;obtain⟨x,r1,us1,h1,h2,rfl⟩:=gD hu;obtain⟨y,r2,us2,h3,h4,rfl⟩:=gD h2;obtain⟨rfl,rfl⟩:=pN h4;obtain rfl:=lY h1;obtain⟨c,rfl,rfl⟩:=tR h3;replace e:CG w x c=some r:=e;refine⟨λz hz=>by simp[jW,VT.ks,xe] at hz,.int .i64 r,rfl,BZ ?_ λm args' w hm A=>?_⟩
 ·intro a ha;simp only[cj,jh,jj] at ha;rcases ha with rfl|rfl
  ·exact(hl _ (by simp)).1
  ·exact .int _ _
 ·obtain⟨l⟩:=args';replace A:aP m _ l:=A;cases A with
  |cons a0 A=>
   cases A with
   |cons a1 A=>
    cases A;cases a1;obtain⟨xs,h5,⟨a,cp,rfl,_,hc⟩|⟨rfl,cp,rfl⟩⟩:=A7 hm e a0
    ·replace h5:cond xs.isEmpty none (some (Lib.indexByte (Lib.bytesOf xs) c.toNat.toUInt8))=some r:=h5;cases he:xs.isEmpty with
     |true=>rw[he] at h5;cases h5
     |false=>
     rw[he] at h5;cases h5;refine(Tryz.bytes_IndexByte_at a xs.length cp xs c w rfl hc).mono ?_
     rintro e w' ⟨rfl,rfl⟩
     exact⟨_,rfl,fb _ _,.int _ _⟩
    ·cases h5
end
end Lt
section
open Go.Shelf Go.RowKit Go.Lib Go.Sort
abbrev E4:=Int×Int×Int×Int
def eQ(x:E4):List Value:=[.int .i64 x.1,.int .i64 x.2.1,.int .i64 x.2.2.1,.int .i64 x.2.2.2]
def pK(x y:E4):Int:=Lib.compareInt x.1 y.1
theorem YD(x y:E4)(W:World):Calls Tryz.prog 267 #[.agg #[.int .i64 x.1,.int .i64 x.2.1,.int .i64 x.2.2.1,.int .i64 x.2.2.2],.agg #[.int .i64 y.1,.int .i64 y.2.1,.int .i64 y.2.2.1,.int .i64 y.2.2.2]] W λe w'=>e=.returned (.int .i64 (Lib.compareInt x.1 y.1))/\∃q os',w'=grow (W.drewN q) os':=by
 have hcon:=λW'=>AnyG.cmp_Compare_int Tryz.YE x.1 y.1 W';change∀W',Calls Tryz.prog 247 _ _ _ at hcon;generalize Lib.compareInt x.1 y.1 =r at hcon⊢
 go_enter Tryz.func267,Tryz.ntmps267
 go_wp2_with (go_at_call 247;refine(hcon _).mono ?_;rintro e w' ⟨rfl,rfl⟩)
 go_ret
 exact⟨rfl,0,_,by rw[alloc_eq_grow,alloc_eq_grow,grow_grow];rfl⟩
theorem EU(x y:E4):ltOf pK x y=decide (x.1 <y.1):=by
 unfold ltOf pK Lib.compareInt;by_cases h1:x.1 <y.1
 ·simp[h1]
 ·by_cases h2:y.1 <x.1 <;>simp[h1,h2]
theorem WT:SWO (ltOf pK) where
 irrefl x:=by rw[EU];simp
 trans x y z h1 h2:=by rw[EU] at*;simp at*;omega
 ntrans x y z h1 h2:=by rw[EU] at*;simp at*;omega
def xd:List Value->Option (List E4)
 |[]=>some []
 | .int .i64 a::.int .i64 b::.int .i64 c::.int .i64 d::l=>Lt.ob (xd l) λxs=>some ((a,b,c,d)::xs)
 |_=>none
theorem Xn:∀{l:List Value}{xs:List E4},xd l=some xs->l=xs.flatMap eQ
 |[],_,e=>by cases e;rfl
 |v::l,xs,e=>by
  unfold xd at e;split at e
  ·rename_i q;cases q
  ·rename_i a b c d l' q;cases q;replace e:=Lt.af e;obtain⟨ys,h1,e⟩:=e;cases e;rw[ff,<-Xn h1];rfl
  ·cases e
theorem Bp:∀l:List E4,(l.flatMap eQ).length=4*l.length
 |[]=>rfl
 |x::l=>by rw[ff,aR,Bp l,cQ];show 4+_=_;omega
theorem J2:∀(l:List E4)(t:Nat),t<l.length*4->(l.flatMap eQ)[t]? =some (eQ (l[t/4]!))[t%4]!
 |[],t,h=>by simp at h
 |x::l,t,h=>by
  rw[ff];by_cases q:t<4
  ·rw[uU (by exact q),Nat.div_eq_of_lt q,rI q];rw[dD (by exact q)];show some _=some (eQ x)[t]!;rw[getElem!_pos _ t (by exact q)]
  ·have q:4<=t:=by omega
   rw[uV (by exact q)];show(l.flatMap eQ)[t -4]? =_;rw[J2 l (t -4) (by simp at h;omega)];have e1:t/4=(t -4)/4+1:=by omega
   have e2:(t -4)%4=t%4:=by omega
   rw[e1,e2];simp
theorem Ew{l:List E4}{v:Value}(h:v∈l.flatMap eQ):∃n,v=.int .i64 n:=by obtain⟨x,_,hx⟩:=List.mem_flatMap.1 h;simp only[eQ,cj,jh,jj] at hx;rcases hx with rfl|rfl|rfl|rfl<;>exact⟨_,rfl⟩
noncomputable def jc(l:List E4):List E4:=(pdq (ltOf pK) l.toArray 0 l.length (Lib.bitLen l.length) true true).toList
theorem Wy(l:List E4):(jc l).length=l.length/\(jc l).Perm l/\SortedIn (ltOf pK) 0 l.length (jc l).toArray:=by
 have:=pdq_sorts (ltOf pK) WT l.toArray 0 l.length (Lib.bitLen l.length) true true (gZ _) (by simp) (.inl rfl);obtain⟨⟨h1,_,h3⟩,h4⟩:=this;have hl:(jc l).length=l.length:=by unfold jc;rw[Array.length_toList,h1];simp
 refine⟨hl,?_,by unfold jc;simpa using h4⟩;have e1:((pdq (ltOf pK) l.toArray 0 l.length (Lib.bitLen l.length) true true).extract 0 l.length)=pdq (ltOf pK) l.toArray 0 l.length (Lib.bitLen l.length) true true:=by
  have:l.length=(pdq (ltOf pK) l.toArray 0 l.length (Lib.bitLen l.length) true true).size:=by rw[h1];simp
  conv=>lhs;arg 3;rw[this]
  simp
 rw[e1] at h3;have e2:(l.toArray.extract 0 l.length)=l.toArray:=by
  have:l.length=l.toArray.size:=by simp
  rw[this];exact Array.extract_size
 rw[e2] at h3;unfold jc;simpa using h3
end
section
open Go.Shelf Go.RowKit Go.Lib Go.Sort
theorem ahG(w:World)(blk off n:Nat)(d:Array E4)(os:Array Obj):
 (sortWorldK eQ 4 w blk off n d os).os=w.os/\(sortWorldK eQ 4 w blk off n d os).tape=w.tape/\(sortWorldK eQ 4 w blk off n d os).output=w.output/\w.heap.size<=(sortWorldK eQ 4 w blk off n d os).heap.size/\
 (∀b,b<w.heap.size->b≠blk->(sortWorldK eQ 4 w blk off n d os).heap[b]? =w.heap[b]?)/\
 ∀cz t fz,w.heap[blk]? =some (.cells cz t fz)->(sortWorldK eQ 4 w blk off n d os).heap[blk]? =some (.cells (putCells id off (flatK eQ 4 d) cz) t fz):=by
 refine⟨rfl,rfl,rfl,?_,λb hb ca=>?_,λcz t fz h=>?_⟩
 ·show w.heap.size<=(w.heap.modify blk _++os).size;simp
 ·show(w.heap.modify blk _++os)[b]? =_;rw[Array.getElem?_append_left (by simpa using hb),Array.getElem?_modify,ai (Ne.symm ca)]
 ·have hb:blk<w.heap.size:=by
   rcases dg blk w.heap.size with q|q
   ·exact q
   ·rw[Array.getElem?_eq_none q] at h;cases h
  show(w.heap.modify blk (onCells (putCells id off (flatK eQ 4 d)))++os)[blk]? =_;rw[Array.getElem?_append_left (by simpa using hb),Array.getElem?_modify,ar rfl,h];rfl
theorem Ro(l:List E4)(t:Nat)(h:t<l.length*4):(flatK eQ 4 l.toArray)[t]! =(eQ l[t/4]!)[t%4]! :=by rw[get_flatK _ _ _ _ (by simpa using h)];simp
namespace Lt
def ahF:HT:=⟨2,⟨[(0,.gr 0 4),(1,.fn 267 [])],[(0,.grow 4 317)],1⟩,1,⟨[(0,.aH [])],[(0,.grow 4 317)],1⟩⟩
noncomputable def uN(_:Nat):List Value->Option (List Value):=λcs=>ob (xd cs) λl=>cond (l.isEmpty||!aK l.length) none (some ((jc l).flatMap eQ))
theorem ZT(l:List E4){i:Nat}{v:Value}(h:(l.flatMap eQ)[i]? =some v):i<l.length*4/\v=(eQ l[i/4]!)[i%4]! :=by
 have hi:i<l.length*4:=by
  rcases dg i (l.length*4) with q|q
  ·exact q
  ·rw[lN (by rw[Bp];omega)] at h;cases h
 rw[J2 l i hi] at h;exact⟨hi,(bu h).symm⟩
theorem ac7(w:Nat):pq Tryz.prog 266 ahF (uN w):=by
 intro ls r st so e hst hso σ vs h nx hlen R;obtain⟨cs,rfl⟩:∃cs,ls=[.c cs]:=by
  match ls,e with
  |[.c cs],_=>exact⟨cs,rfl⟩
  |[],e=>cases e
  | .i _::_,e=>cases e
  | .b _::_,e=>cases e
  | .s _::_,e=>cases e
  | .v _::_,e=>cases e
  | .n _::_,e=>cases e
  | .c _::_::_,e=>cases e
 replace e:uN w cs=some r:=e;cases hst;cases hso;unfold uN at e;replace e:=af e;obtain⟨l,hl,e⟩:=e;have hcs:=Xn hl;cases he:(l.isEmpty||!aK l.length) with
 |true=>rw[he] at e;cases e
 |false=>
 rw[he] at e;cases e;rw[Bool.or_eq_false_iff] at he;have hpos:0<l.length:=by cases l<;>simp_all
 have hlim:l.length<4611686018427387904:=by
  have:=he.2;unfold aK at this;have:Nat.ble l.length 1000000000=true:=by simpa using this
  have:=cI this;omega
 have hclen:cs.length=4*l.length:=by rw[hcs,Bp]
 obtain⟨sl,sp,ss⟩:=Wy l;obtain⟨v0,v1,rfl⟩:∃a b,vs=[a,b]:=by
  match vs,hlen with
  |[a,b],_=>exact⟨a,b,rfl⟩
 obtain⟨u0,h0,d0⟩:=R.tm 0 (.gr 0 4) rfl;obtain⟨u1,h1,d1⟩:=R.tm 1 (.fn 267 []) rfl;have h0:some v0=some u0:=h0;have h1:some v1=some u1:=h1;cases h0;cases h1;have hv1:v1=.func (.func 267) #[] #[]:=by
  cases d1 with
  |fn g=>cases g;rfl
 subst hv1;obtain⟨_,k2,k3⟩:=R.obj 0 (.grow 4 cs 317) rfl;rcases k3 with⟨_,g2⟩|⟨o,n,g1,g2,ws,g3,g4⟩
 ·rw[g2] at hclen;simp at hclen;omega
 have hn:n=l.length:=by omega
 subst hn;have hws:ws=cs:=by
  have:=g4.length;apply s9;intro i;cases hi:cs[i]? with
  |none=>rw[List.getElem?_eq_none_iff] at hi;rw[lN (by omega)]
  |some u=>
   obtain⟨v,a,b⟩:=g4.get hi;rw[a];rcases b with rfl|⟨rfl,_⟩
   ·rfl
   ·obtain⟨q,hq⟩:=Ew (l:=l) (by rw[<-hcs];exact qv hi);cases hq
 subst hws;have hv0:v0=.slice (some ⟨o,0,none⟩) l.length (bt+4):=by
  cases d0 with
  |gP g=>rw[g1] at g;cases g
  |gr g=>rw[g1] at g;cases g;rfl
 subst hv0;have pr:bO ((jc l).flatMap eQ):=bO.mm λx hx=>by obtain⟨q,rfl⟩:=Ew hx;exact⟨.int _ _,rfl⟩
 refine⟨σ,.tuple #[],h.set o (.cells ((jc l).flatMap eQ) 317 true),nx,?_,aB _,⟨λt sv ht=>?_,λid so hs=>?_,λid id' so so' o1 n1 n1' a1 a2 _ _=>?_,R.lt,R.fresh⟩,hQ.refl _ _ _⟩
 ·intro ρ args' cs' w1 A H N;obtain⟨al⟩:=args';replace A:bk ρ _ al:=A;obtain⟨x0,x1,rfl⟩:∃a b,al=[a,b]:=by
   have:=A.length
   match al,this with
   |[a,b],_=>exact⟨a,b,rfl⟩
  cases A with|cons a0 A=>?_
  cases A with|cons a1 A=>?_
  cases A;obtain⟨L,hL,cz',fz,q1,q2,q3⟩:=H.obj o _ g3;obtain⟨c3,c4,_,c5⟩:=q3;have hfn:x1=.func (.func 267) #[] #[]:=by
   cases a1 with
   |func hf r1 r2=>
    rename_i g xs ys;have hf:g=.func 267:=hf;subst hf;have e1:xs=#[]:=by have:=r1.length;apply Array.eq_empty_of_size_eq_zero;simpa using this.symm
    have e2:ys=#[]:=by have:=r2.length;apply Array.eq_empty_of_size_eq_zero;simpa using this.symm
    rw[e1,e2]
  subst hfn;obtain⟨cp,hcp,rfl⟩:∃c,L.base+0+c*4=L.stop/\x0=.slice (some ⟨L.block,L.base+0,none⟩) l.length c:=by
   generalize hs:Value.slice (some ⟨o,0,none⟩) l.length (bt+4)=sv at a0;cases a0<;>try(cases hs;done)
   ·injection hs with e1 e2 e3;exfalso;omega
   ·rename_i o' off' m E' c' L' hL' hE hc hn;injection hs with e1 e2 e3;injection e1 with e1;injection e1 with e1 e4;subst e1 e2 e4;obtain rfl:=bu (hL.symm.trans hL');have:E'=4:=by omega
    subst this;exact⟨c',hc,rfl⟩
   ·injection hs with e1 e2 e3;exfalso;unfold bt at e3;omega
   all_goals
    exfalso;rename_i hq;cases hs
  have hblk:L.block<w1.heap.size:=by
   rcases dg L.block w1.heap.size with q|q
   ·exact q
   ·rw[Array.getElem?_eq_none q] at q1;cases q1
  have cellv:∀i v,(l.flatMap eQ)[i]? =some v->cz'[L.base+i]? =some v:=by intro i v hv;obtain⟨v',p1,p2⟩:=c5 i v (by rw[hcs];exact hv);obtain⟨q,rfl⟩:=Ew (qv hv);cases p2;exact p1
  have hH:HoldsK eQ 4 w1 L.block (L.base+0) l.toArray:=by
   intro j hj;have hj:j<l.length*4:=by simpa using hj
   have g:=J2 l j hj;have p:=cellv j _ g;constructor
   ·rw[Ro l j hj];show w1.cell? ⟨L.block,L.base+0+j,none⟩=some _;rw[Nat.add_zero];unfold World.cell?;simp only[q1];exact p
   ·unfold World.frozen?;simp only[q1];have hb:L.base+j<cz'.size:=by
     rcases dg (L.base+j) cz'.size with z|z
     ·exact z
     ·rw[Array.getElem?_eq_none z] at p;cases p
    rcases q2 with rfl|q2
    ·simp
    ·simp;omega
  have eg:∀args w,(callFunc 267 args).run Tryz.prog w=.ok (.enter 267 args) w:=enters_of Tryz.func267 (by kernel_rfl) rfl;obtain⟨e,w',fr,⟨rfl,n',os,rfl⟩,cc,hfnn,l1,l2,l3,fn,l4,l5⟩:=AnyQ.slices_SortFunc_eq Tryz.ahD 4 Tryz.isAgg317 Tryz.sizeOf317 eQ (λ_=>rfl) (λx v hv=>by simp[eQ] at hv;rcases hv with rfl|rfl|rfl|rfl<;>rfl) pK WT 267 #[] L.block (L.base+0) cp l.toArray w1 eg
   (λ_ _ _ _ x y=>YD x y _) hH hblk (by simpa using hlim) cs'
  have hD:pdq (ltOf pK) l.toArray 0 l.toArray.size (Lib.bitLen l.toArray.size) true true=(jc l).toArray:=by unfold jc;simp
  rw[hD] at cc l5;obtain⟨s1,s2,s3,s4,s5,s6⟩:=ahG w1 L.block (L.base+0) n' (jc l).toArray os;have hb':=s6 cz' _ fz q1;have same:∀{o1 ob1},(h.set o (.cells ((jc l).flatMap eQ) 317 true)).get o1=some ob1->∃b',h.get o1=some b':=by
   intro o1 ob1 ho;rw[Tr.bD] at ho;by_cases q:o1=o
   ·exact⟨_,by rw[q];exact g3⟩
   ·rw[ai q] at ho;exact⟨_,ho⟩
  have own:∀b,gT ρ (h.set o (.cells ((jc l).flatMap eQ) 317 true)) b->gT ρ h b:=by intro b ⟨o1,ob1,L1,m1,m2,m3⟩;obtain⟨b',m1'⟩:=same m1;exact⟨o1,b',L1,m1',m2,m3⟩
  refine⟨ρ,fr,_,fn,.tuple #[],cc,l1,l2,l3,⟨hfnn,l4⟩,l5,.tuple .nil,⟨λo1 ob1 ho=>?_,λo1 o2 L1 L2 b1 b2 m1 m2=>?_,λb i u hu=>?_,λb i u hu o1 ob1 L1 m1=>?_⟩,⟨s1,s2,s3,s4,λb hb ho=>s5 b hb λq=>ho ⟨o,_,L,g3,hL,q.symm⟩,λb _ ho=>own b ho,aB _,λ_ _=>rfl,λ_ _ _ h=>h,λb i u hu=>.inl hu⟩⟩
  ·rw[Tr.bD] at ho;by_cases q:o1=o
   ·rw[ar q] at ho;cases ho;subst q;have hsz:(putCells id (L.base+0) (flatK eQ 4 (jc l).toArray) cz').size=cz'.size:=by simp[putCells]
    refine⟨L,hL,_,fz,hb',by rw[hsz];exact q2,by rw[hsz];exact c3,by rw[hsz,Bp,sl];omega,(λq=>by cases q),λi v hv=>?_⟩;obtain⟨i1,rfl⟩:=ZT _ hv;have hi:L.base+i<cz'.size:=by rw[sl] at i1;omega
    refine⟨(eQ (jc l)[i/4]!)[i%4]!,?_,?_⟩
    ·unfold putCells;rw[Array.getElem?_mapIdx,uS hi,Option.map_some,ar ⟨by omega,by simp;omega⟩];rw[show L.base+i -(L.base+0)=i by omega,Ro _ _ i1];rfl
    ·obtain⟨q,hq⟩:=Ew (qv hv);rw[hq];exact .int _ _
   ·rw[ai q] at ho;obtain⟨L1,m1,m2⟩:=H.obj o1 ob1 ho;exact⟨L1,m1,m2.block (s5 _ m2.lt λz=>q (H.inj o1 o L1 L _ _ ho g3 m1 hL z))⟩
  ·obtain⟨x,m1⟩:=same m1;obtain⟨y,m2⟩:=same m2;exact H.inj o1 o2 L1 L2 x y m1 m2
  ·rw[oe (s5 b (H.yL hu) λz=>H.free b i u hu o _ L g3 hL z.symm)];exact H.lit b i u hu
  ·obtain⟨x,m1⟩:=same m1;exact H.free b i u hu o1 x L1 m1
 ·have ht:(Tr.nil.set 0 (SV.aH [])).get t=some sv:=ht;rw[Tr.bD] at ht⊢;by_cases q:t=0
  ·rw[ar q] at ht⊢;cases ht;exact⟨_,rfl,.aH .nil⟩
  ·rw[ai q,Tr.get_nil] at ht;cases ht
 ·have hs:(Tr.nil.set 0 (SO.grow 4 ((jc l).flatMap eQ) 317)).get id=some so:=hs;rw[Tr.bD] at hs;by_cases q:id=0
  ·rw[ar q] at hs;cases hs;subst q;exact⟨by decide,pr,.inr ⟨o,l.length,g1,by rw[Bp,sl];omega,_,by rw[Tr.bD,ar rfl],cU.refl _⟩⟩
  ·rw[ai q,Tr.get_nil] at hs;cases hs
 ·have key:∀i s,(Tr.nil.set 0 (SO.grow 4 ((jc l).flatMap eQ) 317)).get i=some s->i=0:=by
   intro i s hs;rw[Tr.bD] at hs;by_cases q:i=0
   ·exact q
   ·rw[ai q,Tr.get_nil] at hs;cases hs
  rw[key id so a1,key id' so' a2]
end Lt
end
section
open Go.Shelf Go.RowKit Go.Lib Go.Sort
theorem Jn(T:TypeId)(R:Nat->Option Value)(B b q:Nat)(bs:List Value)(w:World)(h:LibA.IsBuffer T R 5 B b q bs w):
 Calls Tryz.prog 79 #[.pointer (some ⟨b,q,none⟩)] w λe w'=>∃v,e=.returned v/\w'.ownsRow B 5 1 v bs.length bs/\∃n,w'=w.drewN n:=by
 have mixed:Tryz.prog.follows .mixedOrders=true:=by kernel_rfl
 obtain⟨hB,lr,hc⟩:=h.cases;rcases hc with⟨hnil,hbk⟩|⟨g,cap,cur,hbk,hBg,hg,hnc,hcm,hcs,htk,hgb⟩
 ·subst hnil;have c0:=hbk.c0;have c1:=hbk.c1
  go_enter Tryz.func79,Tryz.ntmps79
  go_wp2
  go_region_o
  all_goals(go_wp2;go_ret;exact⟨_,rfl,World.ownsRow_nil _ _ _ _,1,rfl⟩)
 ·have c0:=hbk.c0;have c1:=hbk.c1;have hcm':=hcm;unfold maxLen at hcm'
  go_enter Tryz.func79,Tryz.ntmps79
  go_wp2
  go_region_o
  all_goals(go_wp2;go_ret;exact⟨_,rfl,⟨by simp,.inr ⟨g,cap,cur,rfl,hBg,hg,hnc,hcm,by simpa using hcs,by simpa using htk⟩⟩,1,rfl⟩)
namespace Lt
variable{m:Nat->Nat->Option Value} {w w':World}
theorem abp{w1:World}(hm:Kn m w)(B:RowKit.Below w.heap.size w w1):∀b i v,dj m w1 w' b i=some v->dj m w w' b i=some v:=λb i v hv=>by
 unfold dj at hv⊢;have:=B.size;by_cases h1:b<w.heap.size
 ·rw[ar (by omega)] at hv;rw[ar h1];exact hv
 ·by_cases h2:b<w1.heap.size
  ·rw[ar h2] at hv;exact absurd (oU (hm b i v hv)) h1
  ·rw[ai h2] at hv;rw[ai h1];exact hv
def bd(l:List Int):List Value:=l.map λx=>.int .u8 x
theorem D1(l:List Int):bO (bd l):=bO.mm λx hx=>by obtain⟨b,_,rfl⟩:=List.mem_map.1 hx;exact⟨.int _ _,rfl⟩
theorem KF:∀l:List Int,aP m (bd l) (bd l)
 |[]=>.nil
 |_::l=>.cons (.int _ _) (KF l)
theorem Uf{B:Nat}(hB0:w.heap.size<=B){l:List Int}{v:Value}(h:w'.ownsRow B 5 1 v l.length (bd l)):bj (dj m w w') (ae l.length (bd l)) v:=by
 obtain⟨_,⟨rfl,hn⟩|⟨g,cap,cur,rfl,hB,hg,hnc,_,hcs,htk⟩⟩:=h
 ·have:l=[]:=jJ hn;subst this;exact .fN
 ·refine .gH (ys:=bd l) (KF l) (λi y hy=>?_) rfl hnc;unfold dj;rw[ai (by show¬g<_;omega),qR hg];have:(bd l)[i]? =cur.toList[i]? :=by
   rw[<-htk,List.getElem?_take_of_lt];rcases dg i (l.length*1) with q|q
   ·exact q
   ·rw[lN (by simp[bd];omega)] at hy;cases hy
  rw[this] at hy;simpa using hy
noncomputable def sa(S:Int->Value->Value->Option (Value×Int))(o:Int)(d s:Value):Option (Value×Int):=
 ob (S o d s) λr=>cond (ak r.2 0) (jQ r.1 λxs=>cond (aK xs.length) (cond (Nat.blt 65533 (4+xs.length)) (some (ae 0 [],7)) (cond xs.isEmpty none (some (ae (4+xs.length) (bd ([77,80,70,0]++xs)),0)))) none) (some (ae 0 [],r.2))
theorem aa7(hm:Kn m w){S:Int->Value->Value->Option (Value×Int)}{o:Int}{d s dv sv:Value}{r:Value×Int}(e:sa S o d s=some r)(q:Value×Int)(hq:S o d s=some q)
 (HC:∀w1,RowKit.Below w.heap.size w w1->Calls Tryz.prog 139 #[.agg #[.int .i64 o,dv],sv] w1 λe w'=>∃b,e=.returned (.tuple #[b,.int .i64 q.2])/\RowKit.Below w1.heap.size w1 w'/\bj (dj m w w') q.1 b):
 Calls Tryz.prog 150 #[.agg #[.int .i64 o,dv],sv] w λe w'=>∃b,e=.returned (.tuple #[b,.int .i64 r.2])/\RowKit.Below w.heap.size w w'/\bj (dj m w w') r.1 b:=by
 unfold sa at e;rw[hq] at e;obtain⟨b0,c⟩:=q;replace e:cond (ak c 0) (jQ b0 λxs=>cond (aK xs.length) (cond (Nat.blt 65533 (4+xs.length)) (some (ae 0 [],7)) (cond xs.isEmpty none (some (ae (4+xs.length) (bd ([77,80,70,0]++xs)),0)))) none) (some (ae 0 [],c))=some r:=e;have HE:=Lib.hid e;clear e hq
 go_enter Tryz.func150,Tryz.ntmps150
 go_wp2_with fail
 refine(HC _ ((fb _ _).alloc (aB _) _)).mono ?_
 rintro e2 w2 ⟨b,rfl,hb,hl⟩
 have HB:=Lib.hid hb;have HL:=Lib.hid hl;clear hb hl;by_cases hz:c=0
 case neg=>
  have hr:r=(ae 0 [],c):=by
   have:=HE.out;have h1:ak c 0=false:=by
    cases hb:ak c 0 with
    |false=>rfl
    |true=>exfalso;apply hz;cases c<;>first|exact bK _ (bJ hb)|cases hb
   rw[h1] at this;exact(bu this).symm
  have HR:=Lib.hid hr;have BB:RowKit.Below w.heap.size w w2:=((fb _ _).alloc (aB _) _).trans (HB.out.mono (by simp));have HBB:=Lib.hid BB;clear hr BB
  go_wp2_with fail
  all_goals first
   |(exfalso;rename_i hq;simp at hq;omega)
   |(go_ret2
     rw[HR.out];exact⟨_,rfl,HBB.out,.fN⟩)
 subst hz;have e':=HE.out;have e'':jQ b0 (λxs=>cond (aK xs.length) (cond (Nat.blt 65533 (4+xs.length)) (some (ae 0 [],7)) (cond xs.isEmpty none (some (ae (4+xs.length) (bd ([77,80,70,0]++xs)),0)))) none)=some r:=e';have BB:RowKit.Below w.heap.size w w2:=((fb _ _).alloc (aB _) _).trans (HB.out.mono (by simp));obtain⟨xs,hx,⟨a,cp,rfl,hcp,hcell⟩|⟨rfl,cp,rfl⟩⟩:=A7 (hm.new BB) e'' HL.out
 case inr=>exfalso;replace hx:cond (Nat.blt 65533 4) (some (ae 0 [],(7:Int))) (none:Option (Value×Int))=some r:=hx;cases hx
 clear e' e'';obtain⟨hroom,hx2⟩:=aT hx;clear hx;have hx:=hx2;clear hx2;have hsmall:xs.length<=1000000000:=cI hroom;have hw64:wrap64 (4+(xs.length:Int))=4+(xs.length:Int):=by unfold wrap64;omega
 clear hroom;have HX:=Lib.hid hx;have HC2:=Lib.hid hcell;have BB':=Lib.hid BB;clear hx hcell BB;have hbelow:0<xs.length->a.block<w2.heap.size:=λh0=>by have:=HC2.out 0 h0;rw[show a.add 0=a from rfl] at this;exact ji _ _ this
 by_cases hlong:65533<4+xs.length
 case pos=>
  have hr:r=(ae 0 [],7):=by have:=HX.out;rw[show Nat.blt 65533 (4+xs.length)=true from gi hlong] at this;exact(bu this).symm
  have HR:=Lib.hid hr;clear hr hbelow
  go_wp2_with fail
  all_goals first
   |(exfalso;rename_i hq;simp at hq;omega)
   |(go_ret2
     rw[HR.out];exact⟨_,rfl,BB'.out,.fN⟩)
 have ca:xs≠[]:=by
  rintro rfl
  have:=HX.out;replace this:cond (Nat.blt 65533 4) (some (ae 0 [],(7:Int))) (none:Option (Value×Int))=some r:=this;cases this
 have hr:r=(ae (4+xs.length) (bd ([77,80,70,0]++xs)),0):=by
  have:=HX.out;have h1:Nat.blt 65533 (4+xs.length)=false:=by
   cases hb:Nat.blt 65533 (4+xs.length) with
   |false=>rfl
   |true=>exact absurd (cT hb) hlong
  have h2:xs.isEmpty=false:=by cases xs<;>simp_all
  rw[h1,h2] at this;exact(bu this).symm
 have hpos:0<xs.length:=by cases xs<;>simp_all
 have HR:=Lib.hid hr;have HP:=Lib.hid hpos;have HBl:=Lib.hid (hbelow hpos);clear hr hpos hbelow ca
 go_wp2_with fail
 all_goals try(exfalso;rename_i hq;simp at hq;omega)
 have three:LibA.Three (w2.alloc (Obj.cells #[Value.slice none 0 0,Value.int IntKind.i64 0,Value.int IntKind.i8 0] 260)) w2.heap.size 0 260 (λ_=>none) (.slice none 0 0) (.int .i64 0) (.int .i8 0):=LibA.three_whole (heap_alloc_new w2 _);have buf:=LibA.zero_isBuffer (e:=5) (aB w2.heap.size) three;refine(Tryz.Buffer_WriteString_at 260 (λ_=>none) w2.heap.size w2.heap.size 0 [] _ _ buf (by simp) (λv hv=>by cases hv) (by decide)).mono ?_
 rintro e3 w3 ⟨rfl,hI,hb3,_⟩
 have HI:=Lib.hid hI;have HB3:=Lib.hid hb3;clear hI hb3 three buf
 go_wp2_with fail
 have hsrc:∀j v,(bd xs)[j]? =some v->w3.cell? (a.add j)=some v:=by
  intro j v hv;have hj:j<xs.length:=by
   rcases dg j xs.length with q|q
   ·exact q
   ·rw[lN (by simp[bd];omega)] at hv;cases hv
  have:=HC2.out j hj;have hv2:v=.int .u8 (xs.getD j 0):=by unfold bd at hv;rw[List.getElem?_map,dD hj] at hv;rw[Ao,dD hj];simpa using hv.symm
  rw[hv2,<-this];have hbl:(a.add j).block=a.block:=by unfold Addr.add;split<;>rfl
  exact iP (((HB3.out.block _ (by rw[hbl];exact HBl.out)).trans (RowKit.Below.heap_alloc _ _ _ (by rw[hbl];exact HBl.out))))
 refine(Tryz.Buffer_Write_at 260 (λ_=>none) w2.heap.size w2.heap.size 0 _ (bd xs) a xs.length cp w3 HI.out (Nat.le_of_lt HI.out.lt) ?_ (by simp[bd]) (λh=>by have:=HBl.out;omega) hsrc ?_ ?_).mono ?_
 ·intro v hv;have hv:v∈Lib.byteCells [77,80,70,0]:=by simpa using hv
  simp[Lib.byteCells] at hv;rcases hv with rfl|rfl|rfl|rfl<;>rfl
 ·intro v hv;obtain⟨b,_,rfl⟩:=List.mem_map.1 hv;rfl
 ·simp[Lib.byteCells];omega
 rintro e4 w4 ⟨rfl,hI4,hb4,_⟩
 have HI4:=Lib.hid hI4;have HB4:=Lib.hid hb4;clear hI4 hb4 hsrc
 go_wp2_with fail
 refine(Jn 260 (λ_=>none) w2.heap.size w2.heap.size 0 _ w4 HI4.out).mono ?_
 rintro e5 w5 ⟨v,rfl,hv,k,rfl⟩
 have HV:=Lib.hid hv;clear hv
 go_wp2_with fail
 go_ret2
 rw[HR.out];have hcells:(([]++Lib.byteCells [77,80,70,0])++bd xs:List Value)=bd ([77,80,70,0]++xs):=by simp[Lib.byteCells,bd]
 have HV':=HV.out;rw[show(([]++Lib.byteCells (ByteArray.mk #[77,80,70,0]).data.toList)++bd xs:List Value)=bd ([77,80,70,0]++xs) from hcells] at HV';have hlen:(bd ([77,80,70,0]++xs)).length=([77,80,70,0]++xs:List Int).length:=by simp[bd]
 rw[hlen] at HV';have hl2:([77,80,70,0]++xs:List Int).length=4+xs.length:=by simp;omega
 have B3:RowKit.Below w.heap.size w (w4.drewN k):=by have b1:=BB'.out;have b2:=b1.trans (((fb w2.heap.size w2).alloc (aB _) (Obj.cells #[Value.slice none 0 0,Value.int IntKind.i64 0,Value.int IntKind.i8 0] 260)).mono b1.size);have b3:=b2.trans (HB3.out.mono b1.size);have b4:=b3.trans (HB4.out.mono b1.size);exact⟨b4.os,b4.tape,b4.output,b4.size,b4.block⟩
 refine⟨v,rfl,B3,?_⟩;have:=Uf (m:=m) BB'.out.size HV';rw[hl2] at this;exact this
end Lt
end
namespace Lt
section
structure nL(P:Program)(t:Nat)(i:gC):Prop where
 under:P.underlying t=some i.desc
 info:∃inf,P.info? t=some inf/\inf.size=i.size/\inf.bytes=i.bytes/\(∀z,i.zero=some z->inf.zero=some z/\mP z=true)
 flat:i.flat=true->(P.eqGuardType P.depth t=false/\P.stoodInHeld t=false)/\oG P i.size i.desc
 direct:∀n f,i.direct.lookup n=some f->∃inf m,P.info? t=some inf/\inf.methods.find? (·.name==n)=some m/\m.path=#[]/\
  ((m.func=some (f,false)/\¬(∃e,i.desc=.pointer e))\/(m.func=some (f,true)/\∃e,i.desc=.pointer e))
variable{P:Program} {inf:TypeInfo} {t:Nat}
theorem EI(h:P.types[t]? =some inf):P.info? t=some inf:=by
 unfold Tables.info?
 grind
def xh(i:gC):Bool:=match i.zero with
 |some z=>mP z
 |none=>true
variable{i:gC}
theorem nL.Km(h:P.types[t]? =some inf)(h1:inf.size=i.size)(h2:inf.bytes=i.bytes)(h3:i.zero=none\/inf.zero=i.zero)(h4:xh i=true):
 ∃inf,P.info? t=some inf/\inf.size=i.size/\inf.bytes=i.bytes/\(∀z,i.zero=some z->inf.zero=some z/\mP z=true):=by
 refine⟨inf,EI h,h1,h2,λz hz=>?_⟩;unfold xh at h4
 grind
theorem nL.plain(h:P.types[t]? =some inf)(hu:P.underlying t=some i.desc)(h1:inf.size=i.size)(h2:inf.bytes=i.bytes)(h3:i.zero=none\/inf.zero=i.zero)(h4:xh i=true)
 (hf:i.flat=false) (hd:i.direct=[]):nL P t i:=
 ⟨hu,nL.Km h h1 h2 h3 h4,λe=>(by grind),λn f e=>(by grind)⟩
theorem nL.ZC(h:P.types[t]? =some inf)(hu:P.underlying t=some i.desc)(h1:inf.size=i.size)(h2:inf.bytes=i.bytes)(h3:i.zero=none\/inf.zero=i.zero)(h4:xh i=true)
 (hf:P.eqGuardType P.depth t=false) (hs:P.stoodInHeld t=false) (hF:oG P i.size i.desc) (hd:i.direct=[]):nL P t i:=
 ⟨hu,nL.Km h h1 h2 h3 h4,λ_=>⟨⟨hf,hs⟩,hF⟩,λn f e=>(by grind)⟩
def Dp(P:Program)(t:Nat):Prop:=(∃k,P.underlying t=some (.int k))/\∃inf,P.info? t=some inf/\inf.size=1
def Ex:List Field->Nat->(Nat->Bool)->Bool
 |[],_,_=>true
 |f::fs,n,ints=>cond (f.name== "_") false (cond (Nat.beq f.offset n) (cond (ints f.type) (Ex fs (n+1) ints) false) false)
theorem Rn{ints:Nat->Bool}(hi:∀t,ints t=true->Dp P t):∀(fs:List Field)(n:Nat),Ex fs n ints=true->∀(i:Nat)(f:Field),fs[i]? =some f->f.name≠ "_"/\f.offset=n+i/\Dp P f.type
 |[],n,_,i,f,h=>by grind
 |g::fs,n,e,i,f,h=>by
  unfold Ex at e;cases hn:(g.name== "_") with
  |true=>grind
  |false=>
   simp only[hn] at e;obtain⟨e1,e2⟩:=D7 e;obtain⟨e3,e4⟩:=D7 e2;cases i with
   |zero=>simp_all
   |succ i=>
    obtain⟨a,b,c⟩:=Rn hi fs (n+1) e4 i f (by grind)
    grind
def J1(ints:Nat->Bool)(n:Nat):TypeDesc->Bool
 | .struct fs=>cond (Nat.beq fs.toList.length n) (Ex fs.toList 0 ints) false
 | .array len e=>cond (Nat.beq len n) (ints e) false
 |_=>false
variable{d:TypeDesc}
theorem ZB{ints:Nat->Bool}(hi:∀t,ints t=true->Dp P t){n:Nat}(h:J1 ints n d=true):oG P n d:=by
 unfold J1 at h;split at h
 ·rename_i fs;obtain⟨h1,h2⟩:=D7 h;have:=bJ h1;refine⟨by simpa using this,λi f hf=>?_⟩;obtain⟨a,b,c⟩:=Rn hi _ _ h2 i f (by grind);exact⟨a,by omega,c⟩
 ·rename_i len e;obtain⟨h1,h2⟩:=D7 h;exact⟨bJ h1,hi _ h2⟩
 grind
variable{α:Type}
def ui:List (Nat×α)->Tr α
 |[]=>.nil
 |(n,x)::l=>(ui l).set n x
theorem KZ:∀{l:List (Nat×α)}{n:Nat}{x:α},(ui l).get n=some x->(n,x)∈l
 |[],n,x,h=>by rw[ui,Tr.get_nil] at h;cases h
 |(m,y)::l,n,x,h=>by
  rw[ui,Tr.bD] at h;by_cases e:n=m
  ·grind
  ·rw[ai e] at h;exact gL _ (KZ h)
theorem ah6{X:cJ}(hT:∀t i,X.T.get t=some i->nL P t i)(hF:∀f fn,X.F.get f=some fn->P.funcs[f]? =some fn/\(fn.name== "runtime.NumGoroutine")=false/\fn.body.isSome=true):ea P X where
 T:={
  under:=λt i h=>(hT t i h).under
  info:=λt i h=>(hT t i h).info
  flat:=λt i h hf=>((hT t i h).flat hf).1
  direct:=λt i h=>(hT t i h).direct}
 flat:=λt i h hf=>((hT t i h).flat hf).2
 F:=λf fn h=>hF f fn h
theorem ah7{T:TT}{F:FT}{lT:List (Nat×gC)}{lF:List (Nat×Func)}(eT:T=ui lT)(eF:F=ui lF)(hT:∀p∈lT,nL P p.1 p.2)(hF:∀p∈lF,P.funcs[p.1]? =some p.2 /\(p.2.name== "runtime.NumGoroutine")=false/\p.2.body.isSome=true):ea P ⟨T,F⟩:=by subst eT eF;exact ah6 (λt i h=>hT _ (KZ h)) (λf fn h=>hF _ (KZ h))
def Sg:TypeDesc->Bool
 | .pointer _=>true
 |_=>false
theorem abu(h:Sg d=false):¬∃e,d=.pointer e:=by
 rintro ⟨e,rfl⟩
 cases h
variable{f:FuncId} {nm:String}
theorem aaZ{n:String}{g:FuncId}(h:[(nm,f)].lookup n=some g):n=nm/\g=f:=by grind
theorem nL.one(h:P.types[t]? =some inf)(hu:P.underlying t=some i.desc)(h1:inf.size=i.size)(h2:inf.bytes=i.bytes)(h3:i.zero=none\/inf.zero=i.zero)(h4:xh i=true)
 (hf:i.flat=false) (hd:i.direct=[(nm,f)]) {m:Go.Method} (m1:inf.methods.find? (·.name==nm)=some m) (m2:m.path=#[]) (m3:m.func=some (f,false)) (m4:Sg i.desc=false):nL P t i:=
 ⟨hu,nL.Km h h1 h2 h3 h4,λe=>(by grind),λn g e=>by rw[hd] at e;obtain⟨rfl,rfl⟩:=aaZ e;exact⟨inf,m,EI h,m1,m2,.inl ⟨m3,abu m4⟩⟩⟩
end
section
open Tryz
def ints(t:Nat):Bool:=[3,37].any (Nat.beq t)
theorem aar:∀t,ints t=true->Dp Tryz.prog t:=by
 intro t h;have h:t∈[3,37]:=by unfold ints at h;rw[List.any_eq_true] at h;obtain⟨x,hx,e⟩:=h;rw[bJ e];exact hx
 simp only[cj,jh,jj] at h;rcases h with rfl|rfl
 ·exact⟨⟨_,Tryz.underlying3⟩,Tryz.t3,EI Tryz.type3,by kernel_rfl⟩
 ·exact⟨⟨_,Tryz.underlying37⟩,Tryz.t37,EI Tryz.type37,by kernel_rfl⟩
structure TE where
 t:Nat
 i:gC
 h:nL Tryz.prog t i
variable{d:TypeDesc} {n:TypeInfo} {t:Nat}
noncomputable def tx(h:Tryz.prog.types[t]? =some n)(u:Tryz.prog.underlying t=some d)(z:xh ⟨d,n.size,n.bytes,n.zero,false,[]⟩=true:=by kernel_rfl):TE:=
 ⟨t,⟨d,n.size,n.bytes,n.zero,false,[]⟩,.plain h u rfl rfl (.inr rfl) z rfl rfl⟩
noncomputable def tn(h:Tryz.prog.types[t]? =some n)(u:Tryz.prog.underlying t=some d):TE:=
 ⟨t,⟨d,n.size,n.bytes,none,false,[]⟩,.plain h u rfl rfl (.inl rfl) rfl rfl rfl⟩
noncomputable def tf(h:Tryz.prog.types[t]? =some n)(u:Tryz.prog.underlying t=some d)(e:Tryz.prog.eqGuardType Tryz.prog.depth t=false)(s:Tryz.prog.stoodInHeld t=false:=by kernel_rfl)
 (z:xh ⟨d,n.size,n.bytes,n.zero,true,[]⟩=true:=by kernel_rfl) (f:J1 ints n.size d=true:=by kernel_rfl):TE:=
 ⟨t,⟨d,n.size,n.bytes,n.zero,true,[]⟩,.ZC h u rfl rfl (.inr rfl) z e s (ZB aar f) rfl⟩
structure FE where
 n:Nat
 f:Func
 h:Tryz.prog.funcs[n]? =some f/\(f.name== "runtime.NumGoroutine")=false/\f.body.isSome=true
noncomputable def fx{n:Nat}{f:Func}(h:Tryz.prog.funcs[n]? =some f)(k:(f.name== "runtime.NumGoroutine")=false:=by kernel_rfl)(b:f.body.isSome=true:=by kernel_rfl):FE:=⟨n,f,h,k,b⟩
noncomputable def tl:List TE:=[tx type0 underlying0,tx type1 underlying1,tx type2 underlying2,tx type3 underlying3,tx type4 underlying4,tx type5 underlying5,tx type6 underlying6,tx type9 underlying9,tx type11 underlying11,tx type12 underlying12,tx type13 underlying13,tx type20 underlying20,tx type22 underlying22,tx type24 underlying24,tx type27 underlying27,tx type28 underlying28,tx type30 underlying30,tx type32 underlying32,tx type33 underlying33,tx type37 underlying37,tx type40 underlying40,tx type46 underlying46,tx type49 underlying49,tn type51 underlying51,tx type53 underlying53,tx type55 underlying55,tn type56 underlying56,tf type59 underlying59 eqGuardType59 stoodInHeld59,tx type62 underlying62,tx type63 underlying63,tx type66 underlying66,tx type68 underlying68,tn type69 underlying69,tx type71 underlying71,tx type73 underlying73,tn type76 underlying76,tx type85 underlying85,tx type88 underlying88,tx type89 underlying89,tx type91 underlying91,tx type92 underlying92,tx type93 underlying93,tx type96 underlying96,tx type97 underlying97,tx type99 underlying99,tx type101 underlying101,tx type103 underlying103,tx type104 underlying104,tx type105 underlying105,tn type108 underlying108,tx type111 underlying111,tx type113 underlying113,tx type114 underlying114,tn type115 underlying115,tx type117 underlying117,tn type119 underlying119,tx type124 underlying124,tx type127 underlying127,tx type129 underlying129,tx type133 underlying133,tx type134 underlying134,tx type143 underlying143,tx type146 underlying146,tx type147 underlying147,tx type149 underlying149,tx type150 underlying150,tx type154 underlying154,tx type157 underlying157,tf type159 underlying159 eqGuardType159 stoodInHeld159,tn type160 underlying160,tx type161 underlying161,tx type163 underlying163,tx type166 underlying166,tx type169 underlying169,tx type171 underlying171,tx type172 underlying172,tx type174 underlying174,tx type176 underlying176,tx type177 underlying177,tx type179 underlying179,tx type181 underlying181,tx type182 underlying182,tx type187 underlying187,tn type191 underlying191,tx type195 underlying195,tx type209 underlying209,tx type213 underlying213,tx type217 underlying217,tx type218 underlying218,tx type220 underlying220,tx type221 underlying221,tx type225 underlying225,tx type226 underlying226,tx type228 underlying228,tf type229 underlying229 eqGuardType229,tx type237 underlying237,tx type239 underlying239,tx type240 underlying240,tf type243 underlying243 eqGuardType243 stoodInHeld243,tx type245 underlying245,tx type247 underlying247,tx type249 underlying249,tf type254 underlying254 eqGuardType254 stoodInHeld254,tf type256 underlying256 eqGuardType256 stoodInHeld256,tx type259 underlying259,tf type271 underlying271 eqGuardType271,tx type272 underlying272,tx type274 underlying274,tx type275 underlying275,tf type277 underlying277 eqGuardType277 stoodInHeld277,tn type278 underlying278,tn type281 underlying281,tx type284 underlying284,tx type285 underlying285,tx type287 underlying287,tx type289 underlying289,tn type290 underlying290,tf type292 underlying292 eqGuardType292 stoodInHeld292,tx type296 underlying296,tx type303 underlying303,tf type305 underlying305 eqGuardType305 stoodInHeld305,tx type307 underlying307,tx type308 underlying308,tx type311 underlying311,tx type313 underlying313,tx type314 underlying314,tx type315 underlying315,tf type317 underlying317 eqGuardType317 stoodInHeld317,tx type320 underlying320,tx type324 underlying324,tx type326 underlying326,tf type328 underlying328 eqGuardType328,tx type342 underlying342,tx type344 underlying344,tf type345 underlying345 eqGuardType345,tf type346 underlying346 eqGuardType346,tx type348 underlying348,tx type353 underlying353,tx type354 underlying354,tx type360 underlying360,tx type362 underlying362,tx type363 underlying363,tx type364 underlying364,tx type367 underlying367,tn type370 underlying370,tx type374 underlying374,tn type383 underlying383,tx type387 underlying387,tx type392 underlying392,tx type394 underlying394,tx type401 underlying401,tx type403 underlying403,tx type405 underlying405,tx type406 underlying406,tx type408 underlying408]
noncomputable def fl:List FE:=[fx func3,fx func6,fx func7,fx func8,fx func9,fx func10,fx func11,fx func12,fx func14,fx func16,fx func24,fx func25,fx func26,fx func27,fx func28,fx func29,fx func30,fx func31,fx func32,fx func34,fx func36,fx func43,fx func46,fx func47,fx func48,fx func49,fx func50,fx func51,fx func52,fx func53,fx func54,fx func55,fx func56,fx func57,fx func58,fx func59,fx func60,fx func61,fx func62,fx func63,fx func64,fx func65,fx func66,fx func67,fx func68,fx func69,fx func70,fx func71,fx func72,fx func73,fx func74,fx func75,fx func76,fx func77,fx func78,fx func79,fx func84,fx func85,fx func95,fx func96,fx func97,fx func98,fx func99,fx func100,fx func101,fx func102,fx func103,fx func104,fx func105,fx func106,fx func107,fx func108,fx func109,fx func110,fx func111,fx func112,fx func113,fx func114,fx func115,fx func116,fx func117,fx func118,fx func119,fx func120,fx func121,fx func122,fx func123,fx func124,fx func125,fx func126,fx func127,fx func128,fx func129,fx func130,fx func131,fx func132,fx func133,fx func134,fx func135,fx func136,fx func137,fx func138,fx func139,fx func140,fx func141,fx func142,fx func148,fx func149,fx func150,fx func151,fx func164,fx func165,fx func166,fx func167,fx func168,fx func169,fx func170,fx func171,fx func172,fx func173,fx func174,fx func175,fx func176,fx func177,fx func178,fx func179,fx func180,fx func181,fx func182,fx func183,fx func184,fx func185,fx func186,fx func187,fx func188,fx func189,fx func190,fx func191,fx func192,fx func193,fx func194,fx func195,fx func196,fx func197,fx func198,fx func199,fx func200,fx func201,fx func202,fx func203,fx func210,fx func211,fx func212,fx func227,fx func228,fx func229,fx func230,fx func231,fx func232,fx func233,fx func234,fx func235,fx func236,fx func237,fx func238,fx func239,fx func240,fx func241,fx func242,fx func243,fx func244,fx func245,fx func246,fx func247,fx func248,fx func249,fx func250,fx func251,fx func252,fx func253,fx func254,fx func255,fx func256,fx func257,fx func258,fx func259,fx func260,fx func261,fx func262,fx func263,fx func264,fx func265,fx func266,fx func267,fx func268,fx func271,fx func272,fx func285,fx func286,fx func287,fx func288,fx func289,fx func290,fx func291,fx func292,fx func293,fx func294,fx func295,fx func296,fx func297,fx func298,fx func299,fx func300,fx func301,fx func302,fx func303,fx func304,fx func305,fx func306,fx func307,fx func308,fx func309,fx func310,fx func311,fx func312,fx func313,fx func314,fx func315,fx func316,fx func317,fx func318,fx func319,fx func320,fx func321,fx func330,fx func331,fx func332,fx func333,fx func334,fx func335,fx func336,fx func337,fx func338,fx func339,fx func340,fx func343,fx func344,fx func345,fx func346,fx func347,fx func348,fx func349,fx func351,fx func352,fx func353,fx func354,fx func367,fx func368,fx func369,fx func370,fx func371,fx func374,fx func378,fx func379]
noncomputable def ah5:TT:=ui (tl.map λe=>(e.t,e.i))
noncomputable def ah4:FT:=ui (fl.map λe=>(e.n,e.f))
noncomputable def qj:cJ:=⟨ah5,ah4⟩
theorem sU:ea Tryz.prog qj:=ah7 rfl rfl
 (λp hp=>by obtain⟨e,_,rfl⟩:=List.mem_map.1 hp;exact e.h) (λp hp=>by obtain⟨e,_,rfl⟩:=List.mem_map.1 hp;exact e.h)
def qfs:List Nat:=[11,285,252,120,138,199,200,194,169,57,185,140,63,151,288,371,48,295,253,252,95,176,249,352,203,336,210,368,337,187,108,171,227,228,170,286,264,242,287,175,73,134,226,220,322,323,363,364,192,132,325,326,283,225,270,208,213,214,209,89,97]
noncomputable instance:QF:=⟨λn=>List.any qfs (Nat.beq n)⟩
theorem mixed:Tryz.prog.follows .mixedOrders=true:=Tryz.checked.mixed
end
section
theorem Ei{ts:List VT}{ls r:List bo}{pv:Value}(e:lu (.agg ts) ls=some (pv,r)):∃vs,fk ts ls=some (vs,r)/\pv=.agg ⟨vs⟩:=by
 have e:(ob (fk ts ls) λr=>some (Value.agg ⟨r.1⟩,r.2))=some (pv,r):=by unfold lu at e;exact e
 replace e:=af e;obtain⟨⟨a,b⟩,h1,e⟩:=e;cases e;exact⟨a,h1,rfl⟩
abbrev rL:VT:=.aH [.v,.i .i64]
variable{i:Int} {v:Value}
theorem Kz(h:aY v/\bB [v]=true):iQ (jW (VT.ks rL) (show cM (VT.ks rL) from(v,i))):=by intro x hx;have hx:bo.v x∈[bo.v v,bo.i i]:=hx;simp at hx;rw[hx];exact h
theorem Sv(h:iQ (jW (VT.ks rL) (show cM (VT.ks rL) from(v,i)))):aY v/\bB [v]=true:=h v (by show bo.v v∈[bo.v v,bo.i i];simp)
variable{P:Program} {g:FuncId} {us:List Value}
theorem Xt{q:Value×Int}(R:mI P g us (.tuple #[q.1,.int .i64 q.2]))(hq:aY q.1){m:Nat->Nat->Option Value}{w:World}(hm:Kn m w){args':Array Value}(A:aP m us args'.toList):
 ∀w1,RowKit.Below w.heap.size w w1->Calls P g args' w1 λe w'=>∃b,e=.returned (.tuple #[b,.int .i64 q.2])/\RowKit.Below w1.heap.size w1 w'/\bj (dj m w w') q.1 b:=by
 intro w1 B;refine(xU R (.inr ⟨_,rfl,λx hx=>?_⟩) (hm.below B) A).mono ?_
 ·simp at hx;rcases hx with rfl|rfl
  ·exact hq
  ·exact .int _ _
 ·rintro e w' ⟨v',rfl,hb,hl⟩
  cases hl with
  |aH hl=>
   rename_i xs;obtain⟨xs⟩:=xs;cases hl with|cons a0 hl=>?_
   cases hl with|cons a1 hl=>?_
   cases hl;cases a1;exact⟨_,rfl,hb,bj.mono (abp hm B) a0⟩
variable{r:Value×Int}
theorem Pf(hp:∀a∈us,aY a)
 (C:∀(m:Nat->Nat->Option Value)(args':Array Value)(w:World),Kn m w->aP m us args'.toList->Calls P g args' w λe w'=>∃b,e=.returned (.tuple #[b,.int .i64 r.2])/\RowKit.Below w.heap.size w w'/\bj (dj m w w') r.1 b):mI P g us (.tuple #[r.1,.int .i64 r.2]):=
 BZ hp λm args' w hm A=>(C m args' w hm A).mono λ_ _ ⟨_,h1,h2,h3⟩=>⟨_,h1,h2,.aH (.cons h3 (.cons (.int _ _) .nil))⟩
variable{S:Int->Value->Value->Option (Value×Int)}
theorem aa6{o:Int}{d s:Value}(e:sa S o d s=some r):aY r.1 /\bB [r.1]=true:=by
 unfold sa at e;replace e:=af e;obtain⟨q,_,e⟩:=e;cases hc:ak q.2 0 with
 |false=>rw[hc] at e;cases e;exact fq ⟨(λx h=>by cases h),rfl⟩
 |true=>
  rw[hc] at e;unfold cond at e;unfold jQ at e;simp only at e;split at e
  ·obtain⟨_,e2⟩:=aT e;replace e2:=af e2;obtain⟨xs,_,e2⟩:=e2;obtain⟨_,e3⟩:=aT e2;cases hb:Nat.blt 65533 (4+xs.length) with
   |true=>rw[hb] at e3;cases e3;exact fq ⟨(λx h=>by cases h),rfl⟩
   |false=>
    rw[hb] at e3;cases he:xs.isEmpty with
    |true=>rw[he] at e3;cases e3
    |false=>rw[he] at e3;cases e3;exact fq (D1 _)
  ·cases e
theorem Tv(F:dI Tryz.prog 139 [.agg [.i .i64,.v],.v] rL S):dI Tryz.prog 150 [.agg [.i .i64,.v],.v] rL (sa S):=by
 intro ls r e hl us hu;have hu0:=hu;obtain⟨x,r1,us1,h1,h2,rfl⟩:=gD hu;obtain⟨y,r2,us2,h3,h4,rfl⟩:=gD h2;obtain⟨rfl,rfl⟩:=pN h4;obtain⟨vs,h5,rfl⟩:=Ei h1;obtain⟨z,r3,us3,h6,h7,rfl⟩:=gD h5;obtain⟨z2,r4,us4,h8,h9,rfl⟩:=gD h7;obtain⟨rfl,rfl⟩:=pN h9;obtain⟨o,rfl,rfl⟩:=tR h6;obtain rfl:=lY h8;obtain rfl:=lY h3;replace e:sa S o z2 y=some r:=e;have e0:=e;unfold sa at e0;replace e0:=af e0;obtain⟨q,hq,_⟩:=e0;obtain⟨f1,pv,f2,f3⟩:=F [.i o,.v z2,.v y] q hq hl _ hu0;have hpv:pv=.tuple #[q.1,.int .i64 q.2]:=by have f2:some (Value.tuple ⟨[q.1,.int .i64 q.2]⟩,([]:List bo))=some (pv,[]):=f2;cases f2;rfl
 subst hpv;refine⟨Kz (aa6 e),_,rfl,Pf ?_ λm args' w hm A=>?_⟩
 ·intro a ha;simp only[cj,jh,jj] at ha;rcases ha with rfl|rfl
  ·refine .agg λx hx=>?_;have hx:x=.int .i64 o\/x=z2:=by simpa using hx
   rcases hx with rfl|rfl
   ·exact .int _ _
   ·exact(hl _ (by simp)).1
  ·exact(hl _ (by simp)).1
 ·have A0:=A;obtain⟨al⟩:=args';replace A:aP m _ al:=A;cases A with|cons a0 A=>?_
  cases A with|cons a1 A=>?_
  cases A;cases a0 with
  |agg a0=>
   rename_i xs;obtain⟨xs⟩:=xs;cases a0 with|cons b0 a0=>?_
   cases a0 with|cons b1 a0=>?_
   cases a0;cases b0;exact aa7 hm e q hq (Xt f3 (Sv f1).1 hm A0)
end
section
open Go.Shelf Go.RowKit Go.Lib Go.Sort
abbrev XH:VT:=.aH [.i .i64,.i .i64]
abbrev DI:VT:=.agg [.i .i64,.v,.v,.v,.v,.v,.v,.v]
variable{m:Nat->Nat->Option Value} {w:World}
theorem Z6{P:Program}{g:FuncId}{us:List Value}{q:Int×Int}(R:mI P g us (.tuple #[.int .i64 q.1,.int .i64 q.2]))(hm:Kn m w){args':Array Value}(A:aP m us args'.toList):
 ∀w1,RowKit.Below w.heap.size w w1->Calls P g args' w1 λe w'=>e=.returned (.tuple #[.int .i64 q.1,.int .i64 q.2])/\RowKit.Below w1.heap.size w1 w':=by
 intro w1 B;refine(xU R (.inr ⟨_,rfl,λx hx=>?_⟩) (hm.below B) A).mono ?_
 ·simp at hx;rcases hx with rfl|rfl<;>exact .int _ _
 ·rintro e w' ⟨v',rfl,hb,hl⟩
  cases hl with
  |aH hl=>
   rename_i xs;obtain⟨xs⟩:=xs;cases hl with|cons a0 hl=>?_
   cases hl with|cons a1 hl=>?_
   cases hl;cases a0;cases a1;exact⟨rfl,hb⟩
variable{a b:Int}
theorem Kj(h:ak a b=true):a=b:=by cases a<;>cases b<;>first|exact bK _ (bJ h)|exact(bK _ (bJ h).symm)|cases h
theorem Z4(a:Int):ak a a=true:=by cases a<;>exact kV _
theorem RH(h:a≠b):ak a b=false:=by
 cases hb:ak a b with
 |false=>rfl
 |true=>exact absurd (Kj hb) h
def qN:List Int:=[69,120,105,102,0,0]
noncomputable def vF(q:Value×Int):Option (Value×Int):=
 cond (ak q.2 0) (jQ q.1 λxs=>cond (aK xs.length) (cond xs.isEmpty none (some (ae (6+xs.length) (bd (qN++xs)),0))) none) (some (ae 0 [],q.2))
noncomputable def AO(L:Int->Value->Value->Value->Value->Value->Value->Value->Option (Int×Int))(W:Int->Value->Value->Value->Value->Value->Value->Value->Option (Value×Int))(o:Int)(a b c d e f g:Value):Option (Value×Int):=
 ob (L o a b c d e f g) λl=>cond (ak l.2 0) (cond (aq l.1 0) (some (ae 0 [],7)) (ob (W o a b c d e f g) vF)) (some (ae 0 [],l.2))
theorem XY(hm:Kn m w){o:Int}{a b c d e f g:Value}{r:Value×Int}(l:Int×Int)
 (HL:∀w1,RowKit.Below w.heap.size w w1->Calls Tryz.prog 75 #[.agg #[.int .i64 o,a,b,c,d,e,f,g]] w1 λe w'=>e=.returned (.tuple #[.int .i64 l.1,.int .i64 l.2])/\RowKit.Below w1.heap.size w1 w')
 (HR:(l.2 ≠0/\r=(ae 0 [],l.2))\/(l.2 =0/\l.1 <0/\r=(ae 0 [],7))\/(l.2 =0/\¬l.1 <0/\∃q,vF q=some r/\
  ∀w1,RowKit.Below w.heap.size w w1->Calls Tryz.prog 76 #[.agg #[.int .i64 o,a,b,c,d,e,f,g]] w1 λe w'=>∃b,e=.returned (.tuple #[b,.int .i64 q.2])/\RowKit.Below w1.heap.size w1 w'/\bj (dj m w w') q.1 b)):
 Calls Tryz.prog 32 #[.agg #[.int .i64 o,a,b,c,d,e,f,g]] w λe w'=>∃b,e=.returned (.tuple #[b,.int .i64 r.2])/\RowKit.Below w.heap.size w w'/\bj (dj m w w') r.1 b:=by
 obtain⟨l1,l2⟩:=l
 go_enter Tryz.func32,Tryz.ntmps32
 go_wp2_with fail
 refine(HL _ ((fb _ _).alloc (aB _) _)).mono ?_
 rintro e2 w2 ⟨rfl,hb⟩
 have BB:RowKit.Below w.heap.size w w2:=((fb _ _).alloc (aB _) _).trans (hb.mono (by simp));have cell0:∀i,i<8->w2.cell? ⟨w.heap.size,i,none⟩=(#[Value.int .i64 o,a,b,c,d,e,f,g]:Array Value)[i]? :=λi hi=>by
  rw[iP (w':=w2) (w:=w.alloc (Obj.cells #[Value.int .i64 o,a,b,c,d,e,f,g] 30)) (a:=⟨w.heap.size,i,none⟩) (hb.block _ (by simp))];unfold World.cell?;show(match(w.alloc _).heap[w.heap.size]? with|some (.cells c _ _)=>c[i]? |_=>none)=_
  rw[heap_alloc_new]
 rcases HR with⟨h1,hr⟩|⟨h1,h2,hr⟩|⟨h1,h2,q,hq,HW⟩
 ·have HRR:=Lib.hid hr;have HBB:=Lib.hid BB;clear hb hr BB cell0 HL
  go_wp2_with fail
  all_goals first
   |(exfalso;rename_i hq;simp at hq;omega)
   |(go_ret2
     rw[HRR.out];exact⟨_,rfl,HBB.out,.fN⟩)
 ·have HRR:=Lib.hid hr;have HBB:=Lib.hid BB;have h1:l2=0:=h1;subst h1;clear hb hr BB cell0 HL
  go_wp2_with fail
  all_goals first
   |(exfalso;rename_i hq;simp at hq;omega)
   |(go_ret2
     rw[HRR.out];exact⟨_,rfl,HBB.out,.fN⟩)
 ·have h1:l2=0:=h1;subst h1;have HBB:=Lib.hid BB;have HQ:=Lib.hid hq;have c0:=cell0 0 (by omega);have c1:=cell0 1 (by omega);have c2:=cell0 2 (by omega);have c3:=cell0 3 (by omega);have c4:=cell0 4 (by omega);have c5:=cell0 5 (by omega);have c6:=cell0 6 (by omega);have c7:=cell0 7 (by omega);clear hb hq BB cell0 HL
  go_wp2_with fail
  all_goals try(exfalso;rename_i hq;simp at hq;omega)
  refine(HW _ HBB.out).mono ?_
  rintro e3 w3 ⟨v,rfl,hb3,hl3⟩
  obtain⟨q1,q2⟩:=q;have B3:RowKit.Below w.heap.size w w3:=HBB.out.trans (hb3.mono HBB.out.size);have HB3:=Lib.hid B3;have HL3:=Lib.hid hl3;clear hb3 hl3 B3 HBB c0 c1 c2 c3 c4 c5 c6 c7 HW;by_cases hz:q2=0
  case neg=>
   have hr:r=(ae 0 [],q2):=by have:=HQ.out;unfold vF at this;rw[RH hz] at this;exact(bu this).symm
   have HRR:=Lib.hid hr;clear hr
   go_wp2_with fail
   all_goals first
    |(exfalso;rename_i hq;simp at hq;omega)
    |(go_ret2
      rw[HRR.out];exact⟨_,rfl,HB3.out,.fN⟩)
  subst hz;have e'':jQ q1 (λxs=>cond (aK xs.length) (cond xs.isEmpty none (some (ae (6+xs.length) (bd (qN++xs)),(0:Int)))) none)=some r:=HQ.out;obtain⟨xs,hx,⟨ad,cp,rfl,hcp,hcell⟩|⟨rfl,cp,rfl⟩⟩:=A7 (hm.new HB3.out) e'' HL3.out
  case inr=>exfalso;cases hx
  clear e'';obtain⟨hroom,hx2⟩:=aT hx;clear hx;have hsmall:xs.length<=1000000000:=cI hroom;clear hroom;have ca:xs≠[]:=by rintro rfl;cases hx2
  have hr:r=(ae (6+xs.length) (bd (qN++xs)),0):=by
   have h2:xs.isEmpty=false:=by cases xs<;>simp_all
   rw[h2] at hx2;exact(bu hx2).symm
  have hpos:0<xs.length:=by cases xs<;>simp_all
  have HC2:=Lib.hid hcell;clear hcell hx2 ca;have hbelow:ad.block<w3.heap.size:=by have:=HC2.out 0 hpos;rw[show ad.add 0=ad from rfl] at this;exact ji _ _ this
  have HRR:=Lib.hid hr;have HP:=Lib.hid hpos;have HBl:=Lib.hid hbelow;clear hr hpos hbelow
  go_wp2_with fail
  all_goals try(exfalso;rename_i hq;simp at hq;omega)
  have three:LibA.Three (w3.alloc (Obj.cells #[Value.slice none 0 0,Value.int IntKind.i64 0,Value.int IntKind.i8 0] 131)) w3.heap.size 0 131 (λ_=>none) (.slice none 0 0) (.int .i64 0) (.int .i8 0):=LibA.three_whole (heap_alloc_new w3 _);have buf:=LibA.zero_isBuffer (e:=5) (aB w3.heap.size) three;refine(Tryz.Buffer_WriteString_at 131 (λ_=>none) w3.heap.size w3.heap.size 0 [] _ _ buf (by simp) (λv hv=>by cases hv) (by decide)).mono ?_
  rintro e4 w4 ⟨rfl,hI,hb4,_⟩
  have HI:=Lib.hid hI;have HB4:=Lib.hid hb4;clear hI hb4 three buf
  go_wp2_with fail
  have hsrc:∀j v,(bd xs)[j]? =some v->w4.cell? (ad.add j)=some v:=by
   intro j v hv;have hj:j<xs.length:=by
    rcases dg j xs.length with q|q
    ·exact q
    ·rw[lN (by simp[bd];omega)] at hv;cases hv
   have:=HC2.out j hj;have hv2:v=.int .u8 (xs.getD j 0):=by unfold bd at hv;rw[List.getElem?_map,dD hj] at hv;rw[Ao,dD hj];simpa using hv.symm
   rw[hv2,<-this];have hbl:(ad.add j).block=ad.block:=by unfold Addr.add;split<;>rfl
   exact iP (((HB4.out.block _ (by rw[hbl];exact HBl.out)).trans (RowKit.Below.heap_alloc _ _ _ (by rw[hbl];exact HBl.out))))
  refine(Tryz.Buffer_Write_at 131 (λ_=>none) w3.heap.size w3.heap.size 0 _ (bd xs) ad xs.length cp w4 HI.out (Nat.le_of_lt HI.out.lt) ?_ (by simp[bd]) (λh=>by have:=HBl.out;omega) hsrc ?_ ?_).mono ?_
  ·intro v hv;have hv:v∈Lib.byteCells [69,120,105,102,0,0]:=by simpa using hv
   simp[Lib.byteCells] at hv;rcases hv with rfl|rfl|rfl|rfl|rfl<;>rfl
  ·intro v hv;obtain⟨b,_,rfl⟩:=List.mem_map.1 hv;rfl
  ·simp[Lib.byteCells];omega
  rintro e5 w5 ⟨rfl,hI5,hb5,_⟩
  have HI5:=Lib.hid hI5;have HB5:=Lib.hid hb5;clear hI5 hb5 hsrc
  go_wp2_with fail
  refine(Jn 131 (λ_=>none) w3.heap.size w3.heap.size 0 _ w5 HI5.out).mono ?_
  rintro e6 w6 ⟨v,rfl,hv,k,rfl⟩
  have HV:=Lib.hid hv;clear hv
  go_wp2_with fail
  go_ret2
  rw[HRR.out];have hcells:(([]++Lib.byteCells [69,120,105,102,0,0])++bd xs:List Value)=bd (qN++xs):=by simp[Lib.byteCells,bd,qN]
  have HV':=HV.out;rw[show(([]++Lib.byteCells (ByteArray.mk #[69,120,105,102,0,0]).data.toList)++bd xs:List Value)=bd (qN++xs) from hcells] at HV';have hlen:(bd (qN++xs)).length=(qN++xs:List Int).length:=by simp[bd]
  rw[hlen] at HV';have hl2:(qN++xs:List Int).length=6+xs.length:=by simp[qN];omega
  have B6:RowKit.Below w.heap.size w (w5.drewN k):=by have b1:=HB3.out;have b2:=b1.trans (((fb w3.heap.size w3).alloc (aB _) (Obj.cells #[Value.slice none 0 0,Value.int IntKind.i64 0,Value.int IntKind.i8 0] 131)).mono b1.size);have b3:=b2.trans (HB4.out.mono b1.size);have b4:=b3.trans (HB5.out.mono b1.size);exact⟨b4.os,b4.tape,b4.output,b4.size,b4.block⟩
  refine⟨v,rfl,B6,?_⟩;have:=Uf (m:=m) HB3.out.size HV';rw[hl2] at this;exact this
end
theorem aiz{ls:List bo}{us:List Value}(hu:fk [DI] ls=some (us,[])):∃o a b c d e f g,ls=[.i o,.v a,.v b,.v c,.v d,.v e,.v f,.v g]/\us=[.agg ⟨[.int .i64 o,a,b,c,d,e,f,g]⟩]:=by obtain⟨x,r1,us1,h1,h2,rfl⟩:=gD hu;obtain⟨rfl,rfl⟩:=pN h2;obtain⟨vs,h5,rfl⟩:=Ei h1;obtain⟨z0,s0,t0,k0,g0,rfl⟩:=gD h5;obtain⟨z1,s1,t1,k1,g1,rfl⟩:=gD g0;obtain⟨z2,s2,t2,k2,g2,rfl⟩:=gD g1;obtain⟨z3,s3,t3,k3,g3,rfl⟩:=gD g2;obtain⟨z4,s4,t4,k4,g4,rfl⟩:=gD g3;obtain⟨z5,s5,t5,k5,g5,rfl⟩:=gD g4;obtain⟨z6,s6,t6,k6,g6,rfl⟩:=gD g5;obtain⟨z7,s7,t7,k7,g7,rfl⟩:=gD g6;obtain⟨rfl,rfl⟩:=pN g7;obtain⟨o,rfl,rfl⟩:=tR k0;obtain rfl:=lY k1;obtain rfl:=lY k2;obtain rfl:=lY k3;obtain rfl:=lY k4;obtain rfl:=lY k5;obtain rfl:=lY k6;obtain rfl:=lY k7;exact⟨o,_,_,_,_,_,_,_,rfl,rfl⟩
theorem XU{q r:Value×Int}(e:vF q=some r):aY r.1 /\bB [r.1]=true:=by
 unfold vF at e;cases hc:ak q.2 0 with
 |false=>rw[hc] at e;cases e;exact fq ⟨(λx h=>by cases h),rfl⟩
 |true=>
  rw[hc] at e;unfold cond at e;unfold jQ at e;simp only at e;split at e
  ·obtain⟨_,e2⟩:=aT e;replace e2:=af e2;obtain⟨xs,_,e2⟩:=e2;obtain⟨_,e3⟩:=aT e2;cases he:xs.isEmpty with
   |true=>rw[he] at e3;cases e3
   |false=>rw[he] at e3;cases e3;exact fq (D1 _)
  ·cases e
theorem RI{a b:Int}:aq a b=true↔a<b:=by rw[show aq a b=decide (a<b) from yE a b,bV]
theorem Lg{L:Int->Value->Value->Value->Value->Value->Value->Value->Option (Int×Int)}{W:Int->Value->Value->Value->Value->Value->Value->Value->Option (Value×Int)}
 (FL:dI Tryz.prog 75 [DI] XH L) (FW:dI Tryz.prog 76 [DI] rL W):dI Tryz.prog 32 [DI] rL (AO L W):=by
 intro ls r e hl us hu;have hu0:=hu;obtain⟨o,a,b,c,d,x5,f,g,rfl,rfl⟩:=aiz hu;obtain⟨r,hr'⟩:∃r0:Value×Int,r0=r:=⟨r,rfl⟩;subst hr';replace e:AO L W o a b c d x5 f g=some r:=e;unfold AO at e;replace e:=af e;obtain⟨l,hL,e⟩:=e;obtain⟨_,pl,fl2,fl3⟩:=FL [.i o,.v a,.v b,.v c,.v d,.v x5,.v f,.v g] l hL hl _ hu0;have hpl:pl=.tuple #[.int .i64 l.1,.int .i64 l.2]:=by have fl2:some (Value.tuple ⟨[.int .i64 l.1,.int .i64 l.2]⟩,([]:List bo))=some (pl,[]):=fl2;cases fl2;rfl
 subst hpl;have hp:∀v∈[Value.agg ⟨[.int .i64 o,a,b,c,d,x5,f,g]⟩],aY v:=by
  intro v hv;simp only[cj,jh,jj] at hv;subst hv;refine .agg λx hx=>?_;have hx:x=.int .i64 o\/x=a\/x=b\/x=c\/x=d\/x=x5\/x=f\/x=g:=by simpa using hx
  rcases hx with rfl|hx
  ·exact .int _ _
  ·exact(hl x (by rcases hx with rfl|rfl|rfl|rfl|rfl|rfl|rfl<;>simp)).1
 have goal:aY r.1 /\bB [r.1]=true/\∀(m:Nat->Nat->Option Value)(args':Array Value)(w:World),Kn m w->aP m [Value.agg ⟨[.int .i64 o,a,b,c,d,x5,f,g]⟩] args'.toList->
  ((l.2 ≠0/\r=(ae 0 [],l.2))\/(l.2 =0/\l.1 <0/\r=(ae 0 [],7))\/(l.2 =0/\¬l.1 <0/\∃q,vF q=some r/\
  ∀w1,RowKit.Below w.heap.size w w1->Calls Tryz.prog 76 args' w1 λe w'=>∃b,e=.returned (.tuple #[b,.int .i64 q.2])/\RowKit.Below w1.heap.size w1 w'/\bj (dj m w w') q.1 b)):=by
  by_cases h1:l.2 =0
  ·rw[h1,Z4,ay] at e;cases h2:aq l.1 0 with
   |true=>rw[h2,ay] at e;cases e;exact⟨(fq ⟨(λx h=>by cases h),rfl⟩).1,(fq ⟨(λx h=>by cases h),rfl⟩).2,λm args' w hm A=>.inr (.inl ⟨h1,RI.1 h2,rfl⟩)⟩
   |false=>
    rw[h2,aE] at e;replace e:=af e;obtain⟨q,hq,e⟩:=e;obtain⟨fw1,pw,fw2,fw3⟩:=FW [.i o,.v a,.v b,.v c,.v d,.v x5,.v f,.v g] q hq hl _ hu0;have hpw:pw=.tuple #[q.1,.int .i64 q.2]:=by have fw2:some (Value.tuple ⟨[q.1,.int .i64 q.2]⟩,([]:List bo))=some (pw,[]):=fw2;cases fw2;rfl
    subst hpw;have pu:=XU e;exact⟨pu.1,pu.2,λm args' w hm A=>.inr (.inr ⟨h1,λh=>(by rw[RI.2 h] at h2;cases h2),q,e,Xt fw3 (Sv fw1).1 hm A⟩)⟩
  ·rw[RH h1,aE] at e;cases e;exact⟨(fq ⟨(λx h=>by cases h),rfl⟩).1,(fq ⟨(λx h=>by cases h),rfl⟩).2,λm args' w hm A=>.inl ⟨h1,rfl⟩⟩
 refine⟨Kz ⟨goal.1,goal.2.1⟩,_,rfl,Pf hp λm args' w hm A=>?_⟩;have A0:=A;have G:=goal.2.2 m args' w hm A;have HL:=Z6 fl3 hm A;obtain⟨al⟩:=args';replace A:aP m _ al:=A;cases A with|cons a0 A=>?_
 cases A;cases a0 with
 |agg a0=>
  rename_i xs;obtain⟨xs⟩:=xs;cases a0 with|cons b0 a0=>?_
  cases a0 with|cons b1 a0=>?_
  cases a0 with|cons b2 a0=>?_
  cases a0 with|cons b3 a0=>?_
  cases a0 with|cons b4 a0=>?_
  cases a0 with|cons b5 a0=>?_
  cases a0 with|cons b6 a0=>?_
  cases a0 with|cons b7 a0=>?_
  cases a0;cases b0;exact XY hm l HL G
end Lt
section
open Go.RowKit Go.Shelf
variable{n:Nat} {P:Program}
def ku(fn:FuncId)(tmps:Array Value)(ps:Array Tmp)(assign body:Code)(D:Nat)(st:LoopState):Loop:={state:=st,pending:=none,fn,tmps,params:=ps,assign,body,defers:=D}
variable{assign body:Code} {ps:Array Tmp}
theorem UU{l D:Nat}{fn:FuncId}{tmps:Array Value}{args:Array Value}{W:World}{R:World->Prop}(hl:W.heap[l]? =some (.loop (ku fn tmps ps assign body D .ready)))(hps:args.size=ps.size)
 (h:assign.wpIn (Fence.wide.inRound l) n P (Exit.then (λa' Wa=>Wa.heap[l]? =some (.loop (ku fn tmps ps assign body D .ready))/\
  body.wpIn (Fence.wide.inRound l) n P (Exit.then (λ_ W3=>W3.heap[l]? =some (.loop (ku fn tmps ps assign body D .busy))/\R (W3.putObj l (.loop (ku fn tmps ps assign body D .ready)))) (λ_ _ _=>False)) a' (Wa.putObj l (.loop (ku fn tmps ps assign body D .busy)))) (λ_ _ _=>False))
  {tmps:=(ps.zip args).foldl (λt (p,v)=>t.setIfInBounds p v) tmps,defers:=[]} W):
 YieldAt Fence.wide n P l args W λe W'=>e=.returned (.bool true)/\R W':=by
 refine⟨fn,_,assign,body,run_yield (P:=P) (args:=args) hl hps,roundIn_of_wpIn trivial (wpIn_mono h ?_)⟩
 rintro (_|_|_|_|_|_) a' Wa q
 case normal=>
  obtain⟨q1,q2⟩:=q;refine⟨_,run_beginRound q1 rfl,wpIn_mono q2 ?_⟩
  rintro (_|_|_|_|_|_) a3 W3 r
  case normal=>exact⟨_,_,run_endRound none r.1,rfl,r.2⟩
  all_goals exact r.elim
 all_goals exact q.elim
theorem LS{g:Operand}{Q:Exit->Act->World->Prop}{a:Act}{w:World}{gf:Nat}{lb:Array Value}(hg:a.eval g=.func (.func gf) #[] lb)(eg:∀args w,(callFunc gf args).run P w=.ok (.enter gf args) w)
 (h:∀fn W1,W1=(w.alloc (.deferred (some []))).alloc (.loop (ku fn a.tmps ps assign body w.heap.size .ready))->
  Calls P gf (#[.func (.yield (w.heap.size+1)) #[] #[]]++lb) W1 λe W2=>(∃v,e=.returned v)/\W2.heap[w.heap.size+1]? =some (.loop (ku fn a.tmps ps assign body w.heap.size .ready))/\
   Q .normal {a with defers:={target:=.collected w.heap.size,args:=#[]}::a.defers} (W2.putObj (w.heap.size+1) (.loop (ku fn a.tmps ps assign body w.heap.size .exhausted)))):
 (Code.rangeFunc g ps assign body).wpIn Fence.wide n P Q a w:=by
 refine wpIn_rangeFunc ?_;intro fn _;obtain⟨W1,hW⟩:∃W1,W1=(w.alloc (.deferred (some []))).alloc (.loop (ku fn a.tmps ps assign body w.heap.size .ready)):=⟨_,rfl⟩;refine⟨w.heap.size+1,_,W1,{target:=.fn (.func gf) lb,args:=#[.func (.yield (w.heap.size+1)) #[] #[]]},W1,gf,#[.func (.yield (w.heap.size+1)) #[] #[]]++lb,W1,hW▸run_enterLoop_outer _ _ _ _ _,?_,λ_ _=>trivial,?_,?_,?_⟩
 ·simp only[resolve,hg];simp[go_sem]
 ·simp[invoke,go_sem,eg]
 ·intro q;exact absurd q (by simp[Fence.wide])
 ·refine callsIn_wide.2 ((h fn W1 hW).mono ?_)
  rintro e W2 ⟨⟨v,rfl⟩,h1,h2⟩
  exact⟨none,_,run_endLoop h1 (by simp[ku]),h2⟩
end
section
open Go.Shelf Go.RowKit Go.Lib
attribute [local go_sem] Oper.semAt_some
structure fT(B:Nat)(W W':World):Prop where
 os:W'.os=W.os
 tape:W'.tape=W.tape
 output:W'.output=W.output
 size:W.heap.size<=W'.heap.size
 block:∀k,k<W.heap.size->k≠B->W'.heap[k]? =W.heap[k]?
theorem fT.refl(B:Nat)(W:World):fT B W W:=⟨rfl,rfl,rfl,aB _,λ_ _ _=>rfl⟩
variable{W W':World}
theorem fT.trans{B:Nat}{W'':World}(h:fT B W W')(k:fT B W' W''):fT B W W'':=⟨k.os.trans h.os,k.tape.trans h.tape,k.output.trans h.output,eP h.size k.size,λb hb hn=>(k.block b (tb hb h.size) hn).trans (h.block b hb hn)⟩
theorem fT.of{B n:Nat}(h:RowKit.Below n W W')(hn:W.heap.size<=n):fT B W W':=⟨h.os,h.tape,h.output,h.size,λk hk _=>h.block k (by omega)⟩
theorem fT.cell{B:Nat}(h:fT B W W'){a:Addr}{v:Value}(c:W.cell? a=some v)(hn:a.block≠B):W'.cell? a=some v:=(iP (h.block _ (ji _ _ c) hn)).trans c
end
section
open Go.Shelf Go.RowKit Go.Lib
attribute [local go_sem] Oper.semAt_some
namespace Lt
def rowOf:Value->Option (Nat×List Value)
 | .func (.via n ps 0 true) cs ys=>cond (Nat.beq ps.size 0&&Nat.beq ys.size 0) (some (n,cs.toList)) none
 |_=>none
variable{cs:List Value} {n:Nat} {x:Value}
theorem wJ(h:rowOf x=some (n,cs)):x=ae n cs:=by
 unfold rowOf at h;split at h
 ·rename_i n' ps c ys;obtain⟨q,h⟩:=aT h;cases h;simp only[bg] at q;rw[show ps=#[] from Array.eq_empty_of_size_eq_zero (bJ q.1),show ys=#[] from Array.eq_empty_of_size_eq_zero (bJ q.2)];rfl
 ·cases h
def eY(x:Value):Bool:=(rowOf x).isSome
variable{m:Nat->Nat->Option Value} {s v:Value}
theorem qP(h:eY s=true)(l:bj m s v):∃a n c,v=.slice a n c:=by unfold eY at h;obtain⟨⟨n,cs⟩,h⟩:=Option.isSome_iff_exists.1 h;have:=wJ h;subst this;cases l<;>exact⟨_,_,_,rfl⟩
def wq(f:Value->Value->Value->Bool):List Value->Bool
 |[]=>true
 | .int .i64 _::t::s::b::r=>((eY t&&(eY s&&eY b))&&f t s b)&&wq f r
 |_=>false
noncomputable def lE(E:Value->Value->Value->Bool):Nat->Value->Value->Value->Bool
 |0,_,_,_=>false
 |f+1,t,s,b=>E t s b&&(match rowOf s with
  |some (n,cs)=>Nat.beq cs.length (n*4)&&Nat.blt n 1000000000&&wq (lE E f) cs
  |none=>false)
theorem SQ{f:Value->Value->Value->Bool}:∀{cs:List Value}(n i:Nat),wq f cs=true->cs.length=n*4->i<n->∃a t s b,cs[4*i]? =some (.int .i64 a)/\cs[4*i+1]? =some t/\cs[4*i+2]? =some s/\cs[4*i+3]? =some b/\(eY t&&(eY s&&eY b))=true/\f t s b=true
 |[],0,i,_,_,h=>by omega
 |[],n+1,i,_,hl,_=>by simp at hl
 |x::l,n,i,h,hl,hi=>by
  unfold wq at h;split at h
  ·rename_i q;cases q
  ·rename_i a t s b r q;cases q;rw[bg,bg] at h;cases i with
   |zero=>exact⟨a,t,s,b,rfl,rfl,rfl,rfl,h.1⟩
   |succ i=>obtain⟨n,rfl⟩:∃k,n=k+1:=⟨n -1,by omega⟩;obtain⟨a',t',s',b',h0,h1,h2,h3,h4⟩:=SQ (cs:=r) n i h.2 (by simp at hl;omega) (by omega);exact⟨a',t',s',b',by rw[show 4*(i+1)=(4*i)+4 by omega];exact h0,by rw[show 4*(i+1)+1=(4*i+1)+4 by omega];exact h1,by rw[show 4*(i+1)+2=(4*i+2)+4 by omega];exact h2,by rw[show 4*(i+1)+3=(4*i+3)+4 by omega];exact h3,h4⟩
  ·cases h
termination_by cs=>cs.length
theorem UX(h:rowOf s=some (n,cs))(l:bj m s v):
 ∃a c,v=.slice a n c/\(0<n->∃b o ys,a=some ⟨b,o,none⟩/\n<=c/\aP m cs ys/\∀i y,ys[i]? =some y->∀W,Kn m W->W.cell? ⟨b,o+i,none⟩=some y):=by
 have:=wJ h;subst this;cases l with
 |gH r q hs hn=>rename_i c a ys;obtain⟨b,o,sp⟩:=a;cases hs;refine⟨_,c,rfl,λ_=>⟨b,o,ys,rfl,hn,r,λi y hy W hW=>?_⟩⟩;obtain⟨x,hx⟩:∃x,cs[i]? =some x:=⟨_,dD (by rw[aP.length (show aP m cs ys from r)];exact(List.getElem?_eq_some_iff.1 hy).1)⟩;obtain⟨y',h1,h2⟩:=aP.get (show aP m cs ys from r) hx;rw[hy] at h1;cases h1;exact BD h2.KW (hW _ _ _ (q i y hy))
 |fN=>exact⟨_,_,rfl,λh=>absurd h (Nat.lt_irrefl 0)⟩
theorem zh(h:rowOf s=some (n,cs))(p:aY s){i:Nat}(hx:cs[i]? =some x):aY x:=by
 have:=wJ h;subst this;cases p with
 |lit a b=>exact a _ (qv hx)
theorem Kn.vH{n₀ B:Nat}{W W':World}(h:Kn m W)(hm:∀b i v,m b i=some v->b<n₀)(hB:n₀<=B)(b:fT B W W'):Kn m W':=λx i v hv=>
 (oe (b.block x (oU (h x i v hv)) (by have:=hm x i v hv;omega))).trans (h x i v hv)
end Lt
theorem QN(n₀ l B Y E:Nat)(m:Nat->Nat->Option Value)(J:World->Prop)(ok:Value->Value->Value->Bool)(hB:n₀<=B)(hY:n₀<=Y)(hE:n₀<=E)(hBY:B≠Y)(hBE:B≠E)(hm:∀b i v,m b i=some v->b<n₀)
 (hJ:∀W W',J W->fT B W W'->J W')
 (hy:∀W (k:Int) t s b x0 x1 x2,ok t s b=true->Lt.aY t->Lt.aY s->Lt.aY b->Lt.bj m t x0->Lt.bj m s x1->Lt.bj m b x2->J W->Lt.Kn m W->n₀<=W.heap.size->YieldAt Fence.wide 0 Tryz.prog l #[.int .i64 k,.agg #[x0,x1,x2]] W λe W'=>e=.returned (.bool true)/\J W'/\RowKit.Below W.heap.size W W'):
 ∀(f:Nat)(t s b x0 x1 x2:Value),Lt.lE ok f t s b=true->Lt.aY t->Lt.aY s->Lt.aY b->Lt.bj m t x0->Lt.bj m s x1->Lt.bj m b x2->∀(W:World)(k:Int),Lt.Kn m W->n₀<=W.heap.size->
  W.cell? ⟨B,0,none⟩=some (.int .i64 k)->W.frozen? ⟨B,0,none⟩=false->W.cell? ⟨Y,0,none⟩=some (.func (.yield l) #[] #[])->
  W.cell? ⟨E,0,none⟩=some (.func (.func 350) #[] #[.pointer (some ⟨B,0,none⟩),.pointer (some ⟨Y,0,none⟩),.pointer (some ⟨E,0,none⟩)])->J W->
  CallsIn Fence.wide 0 Tryz.prog 350 #[.agg #[x0,x1,x2],.pointer (some ⟨B,0,none⟩),.pointer (some ⟨Y,0,none⟩),.pointer (some ⟨E,0,none⟩)] W λe W'=>
   e=.returned (.bool true)/\J W'/\fT B W W'/\∃k',W'.cell? ⟨B,0,none⟩=some (.int .i64 k')/\W'.frozen? ⟨B,0,none⟩=false
 |0,t,s,b,x0,x1,x2,h,_,_,_,_,_,_,W,k,_,_,_,_,_,_,_=>by cases h
 |f+1,t,s,b,x0,x1,x2,h,pt,ps,pb,l0,l1,l2,W,k,hk,hn,cB,fB,cY,cE,hj=>by
  unfold Lt.lE at h;rw[bg] at h;obtain⟨h1,h2⟩:=h;have zB:B<W.heap.size:=ji _ _ cB;have zY:Y<W.heap.size:=ji _ _ cY;have zE:E<W.heap.size:=ji _ _ cE;refine callsIn_of_wp Tryz.func350 rfl trivial ?_ rfl;simp only[Tryz.ntmps350,List.size_toArray,cQ,List.length_nil,Nat.reduceAdd,Nat.reduceSub,Array.replicate_succ,xk,List.push_toArray,List.append_toArray,iF,jg];obtain⟨W1,hW1⟩:∃W1,W1=(W.setCell ⟨B,0,none⟩ (.int .i64 (wrap64 (k+1)))).alloc (.cells #[x0,x1,x2] 179):=⟨_,rfl⟩;have b1:fT B W W1:=by rw[hW1];refine⟨rfl,rfl,rfl,by simp,λk hk ca=>?_⟩;rw[Below.heap_alloc _ _ _ (by simpa using hk)];exact Below.heap_setCell _ _ _ k (λe=>ca (by rw[e]))
  have z1:W1.heap.size=W.heap.size+1:=by rw[hW1];simp
  obtain⟨fn,tmps,assign,body,hyv,hR⟩:=hy W1 (wrap64 (wrap64 (k+1) -1)) t s b x0 x1 x2 h1 pt ps pb l0 l1 l2 (hJ _ _ hj b1) (hk.vH hm hB b1) (by omega);have c1:W1.cell? ⟨W.heap.size,1,none⟩=some x1:=by have q:=World.alloc_heap_new (W.setCell ⟨B,0,none⟩ (.int .i64 (wrap64 (k+1)))) (.cells #[x0,x1,x2] 179);rw[show(W.setCell ⟨B,0,none⟩ (.int .i64 (wrap64 (k+1)))).heap.size=W.heap.size by simp] at q;rw[hW1];unfold World.cell?;simp only[q];rfl
  rw[hW1] at hyv hR
  gi_wp2
  refine⟨rfl,hR.mono ?_⟩
  rintro e W2 ⟨rfl,j2,bl⟩
  rw[<-hW1] at bl;have b2:fT B W W2:=b1.trans (fT.of bl (aB _));have c2:W2.cell? ⟨W.heap.size,1,none⟩=some x1:=(bl.cell (p:=⟨W.heap.size,1,none⟩) (by show W.heap.size<_;omega)).trans c1;cases hr:Lt.rowOf s with
  |none=>rw[hr] at h2;cases h2
  |some q=>
  obtain⟨n,cs⟩:=q;rw[hr] at h2;simp only[bg] at h2;obtain⟨⟨h3,h4⟩,h5⟩:=h2;replace h3:=bJ h3;replace h4:=Lt.cT h4;obtain⟨pa,c,rfl,hrow⟩:=Lt.UX hr l1;have cB2:W2.cell? ⟨B,0,none⟩=some (.int .i64 (wrap64 (k+1))):=by refine(bl.cell (p:=⟨B,0,none⟩) (by show B<_;omega)).trans ?_;rw[hW1];refine(iP (a:=⟨B,0,none⟩) (Below.heap_alloc _ _ _ (by simpa using zB))).trans ?_;exact World.cell?_setCell_same' _ _ _ (by rw[cB];rfl)
  have fB2:W2.frozen? ⟨B,0,none⟩=false:=by refine(bl.frozen (p:=⟨B,0,none⟩) (by show B<_;omega)).trans ?_;rw[hW1];refine(World.frozen?_of_block (a:=⟨B,0,none⟩) (Below.heap_alloc _ _ _ (by simpa using zB))).trans ?_;rw[World.frozen?_setCell];exact fB
  gi_wp2
  gi_loopw [19] (λp wr=>∃i:Nat,p=.int .i64 i/\i<=n/\J wr/\fT B W wr/\∃k',wr.cell? ⟨B,0,none⟩=some (.int .i64 k')/\wr.frozen? ⟨B,0,none⟩=false)
   (λp wr=>n -(Lib.intOf p).toNat)
  case atStart=>exact⟨0,rfl,gZ _,j2,b2,_,cB2,fB2⟩
  case round=>
   obtain⟨i,rfl,hi,jr,br,k',cr,fr⟩:=hrel;rcases dg i n with hin|hin
   ·obtain⟨ab,ao,ys,rfl,hc,ry,hcell⟩:=hrow (by omega);obtain⟨a',t',s',b',e0,e1,e2,e3,eo,e4⟩:=Lt.SQ n i h5 h3 hin;obtain⟨y0,g0,r0⟩:=Lt.aP.get ry e0;obtain⟨y1,g1,r1⟩:=Lt.aP.get ry e1;obtain⟨y2,g2,r2⟩:=Lt.aP.get ry e2;obtain⟨y3,g3,r3⟩:=Lt.aP.get ry e3;have hkr:=hk.vH hm hB br;have k0:=hcell _ _ g0 wr hkr;have k1:=hcell _ _ g1 wr hkr;have k2:=hcell _ _ g2 wr hkr;have k3:=hcell _ _ g3 wr hkr;rw[show ao+4*i=ao+i*4 by omega] at k0;rw[show ao+(4*i+1)=ao+i*4+1 by omega] at k1;rw[show ao+(4*i+2)=ao+i*4+2 by omega] at k2;rw[show ao+(4*i+3)=ao+i*4+3 by omega] at k3;cases r0;simp only[bg] at eo;obtain⟨p1,n1,c1,rfl⟩:=Lt.qP eo.1 r1;obtain⟨p2,n2,c2,rfl⟩:=Lt.qP eo.2.1 r2;obtain⟨p3,n3,c3,rfl⟩:=Lt.qP eo.2.2 r3;clear hyv hR;have cEr:=br.cell cE (Ne.symm hBE);have cYr:=br.cell cY (Ne.symm hBY);have zEr:E<wr.heap.size:=ji _ _ cEr;obtain⟨W3,hW3⟩:∃W3,W3=wr.alloc (.cells #[.int .i64 a',.slice p1 n1 c1,.slice p2 n2 c2,.slice p3 n3 c3] 237):=⟨_,rfl⟩;have bl3:RowKit.Below wr.heap.size wr W3:=by rw[hW3];exact(fb _ wr).alloc (aB _) _
    have b3:fT B wr W3:=fT.of bl3 (aB _);have zBr:B<wr.heap.size:=ji _ _ cr;have ih:=QN n₀ l B Y E m J ok hB hY hE hBY hBE hm hJ hy f t' s' b' _ _ _ e4 (Lt.zh hr ps e1) (Lt.zh hr ps e2) (Lt.zh hr ps e3) r1 r2 r3 W3 k' (hkr.vH hm hB b3) (eP hn (eP br.size b3.size)) ((bl3.cell (p:=⟨B,0,none⟩) zBr).trans cr) ((bl3.frozen (p:=⟨B,0,none⟩) zBr).trans fr) (b3.cell cYr (Ne.symm hBY)) (b3.cell cEr (Ne.symm hBE)) (hJ _ _ jr b3);rw[hW3] at ih
    gi_wp2
    refine⟨trivial,rfl,ih.mono ?_⟩
    rintro e W4 ⟨rfl,j4,b4,k4,c4,f4⟩
    gi_wp2
    exact⟨⟨i+1,by simp,by omega,j4,br.trans (b3.trans (by rw[hW3];exact b4)),k4,c4,f4⟩,by simp[Lib.intOf];omega⟩
   ·obtain rfl:i=n:=by omega
    gi_wp2
    go_ret
    exact⟨rfl,jr,br,k',cr,fr⟩
end
section
open Go.Shelf Go.RowKit Go.Lib
attribute [local go_sem] Oper.semAt_some
namespace Lt
def sb(f:Value->Value->Value->Bool):List Value->Bool
 |[]=>true
 |t::s::b::r=>((eY t&&(eY s&&eY b))&&f t s b)&&sb f r
 |_=>false
theorem SN{f:Value->Value->Value->Bool}:∀{cs:List Value}(n i:Nat),sb f cs=true->cs.length=n*3->i<n->∃t s b,cs[3*i]? =some t/\cs[3*i+1]? =some s/\cs[3*i+2]? =some b/\(eY t&&(eY s&&eY b))=true/\f t s b=true
 |[],0,i,_,_,h=>by omega
 |[],n+1,i,_,hl,_=>by simp at hl
 |x::l,n,i,h,hl,hi=>by
  unfold sb at h;split at h
  ·rename_i q;cases q
  ·rename_i t s b r q;cases q;rw[bg,bg] at h;cases i with
   |zero=>exact⟨_,s,b,rfl,rfl,rfl,h.1⟩
   |succ i=>obtain⟨n,rfl⟩:∃k,n=k+1:=⟨n -1,by omega⟩;obtain⟨t',s',b',h1,h2,h3,h4⟩:=SN (cs:=r) n i h.2 (by simp at hl;omega) (by omega);exact⟨t',s',b',by rw[show 3*(i+1)=(3*i)+3 by omega];exact h1,by rw[show 3*(i+1)+1=(3*i+1)+3 by omega];exact h2,by rw[show 3*(i+1)+2=(3*i+2)+3 by omega];exact h3,h4⟩
  ·cases h
termination_by cs=>cs.length
end Lt
theorem qH(W:World)(v:Value)(t:TypeId):(W.alloc (.cells #[v] t)).cell? ⟨W.heap.size,0,none⟩=some v/\(W.alloc (.cells #[v] t)).frozen? ⟨W.heap.size,0,none⟩=false:=by
 have q:=World.alloc_heap_new W (.cells #[v] t);constructor
 ·unfold World.cell?;simp only[q];rfl
 ·unfold World.frozen?;simp only[q];rfl
theorem Y1(X l:Nat)(m:Nat->Nat->Option Value)(J:World->Prop)(ok:Value->Value->Value->Bool)(W:World)(hX:X<W.heap.size)(hk:Lt.Kn m W)(hJ:∀B W' W'',W.heap.size<=B->J W'->fT B W' W''->J W'')
 (hy:∀W' (k:Int) t s b x0 x1 x2,ok t s b=true->Lt.aY t->Lt.aY s->Lt.aY b->Lt.bj m t x0->Lt.bj m s x1->Lt.bj m b x2->J W'->Lt.Kn m W'->W.heap.size<=W'.heap.size->YieldAt Fence.wide 0 Tryz.prog l #[.int .i64 k,.agg #[x0,x1,x2]] W' λe W''=>e=.returned (.bool true)/\J W''/\RowKit.Below W'.heap.size W' W'')
 (f:Nat) {v x:Value} {n:Nat} {cs:List Value} (hr:Lt.rowOf v=some (n,cs)) (h3:cs.length=n*3) (h5:Lt.sb (Lt.lE ok f) cs=true) (h4:n<1000000000) (pv:Lt.aY v) (lv:Lt.bj m v x) (c0:W.cell? ⟨X,1,none⟩=some x) (hj:J W):
 CallsIn Fence.wide 0 Tryz.prog 349 #[.func (.yield l) #[] #[],.pointer (some ⟨X,0,none⟩)] W λe W'=>(∃v,e=.returned v)/\J W'/\RowKit.Below W.heap.size W W':=by
 obtain⟨pa,c,rfl,hrow⟩:=Lt.UX hr lv;refine callsIn_of_wp Tryz.func349 rfl trivial ?_ rfl;simp only[Tryz.ntmps349,List.size_toArray,cQ,List.length_nil,Nat.reduceAdd,Nat.reduceSub,Array.replicate_succ,xk,List.push_toArray,List.append_toArray,iF,jg];obtain⟨V,hV⟩:∃V,V=Value.func (.func 350) #[] #[.pointer (some ⟨W.heap.size+1,0,none⟩),.pointer (some ⟨W.heap.size,0,none⟩),.pointer (some ⟨W.heap.size+1+1,0,none⟩)]:=⟨_,rfl⟩;have q1:=qH W (.func (.yield l) #[] #[]) 392;have q2:=qH (W.alloc (.cells #[.func (.yield l) #[] #[]] 392)) (.int .i64 0) 3;have q3:=qH ((W.alloc (.cells #[.func (.yield l) #[] #[]] 392)).alloc (.cells #[.int .i64 0] 3)) V 275;obtain⟨W1,hW1⟩:∃W1,W1=((W.alloc (.cells #[.func (.yield l) #[] #[]] 392)).alloc (.cells #[.int .i64 0] 3)).alloc (.cells #[V] 275):=⟨_,rfl⟩;have bl1:RowKit.Below W.heap.size W W1:=by rw[hW1];exact(((fb _ W).alloc (aB _) _).alloc (by simp) _).alloc (by simp;omega) _
 have z1:W1.heap.size=W.heap.size+3:=by rw[hW1];simp
 have b2:RowKit.Below (W.heap.size+2) ((W.alloc (.cells #[.func (.yield l) #[] #[]] 392)).alloc (.cells #[.int .i64 0] 3)) W1:=by rw[hW1];exact(fb _ _).alloc (by simp) _
 have b1:RowKit.Below (W.heap.size+1) (W.alloc (.cells #[.func (.yield l) #[] #[]] 392)) W1:=by rw[hW1];exact((fb _ _).alloc (by simp) _).alloc (by simp) _
 simp only[World.size_alloc] at q2 q3;rw[<-hW1] at q3;obtain⟨q3,q4⟩:=q3;have q5:=(b2.cell (p:=⟨W.heap.size+1,0,none⟩) (by show W.heap.size+1<W.heap.size+2;omega)).trans q2.1;have q6:=(b2.frozen (p:=⟨W.heap.size+1,0,none⟩) (by show W.heap.size+1<W.heap.size+2;omega)).trans q2.2;have q7:=(b1.cell (p:=⟨W.heap.size,0,none⟩) (by show W.heap.size<W.heap.size+1;omega)).trans q1.1;have c1:=(bl1.cell (p:=⟨X,1,none⟩) hX).trans c0;clear q1 q2 b1 b2;have c2:=c1;rw[hW1,hV] at c2
 gi_wp2
 have hW2:=hW1;rw[hV] at hW2;rw[<-hW2];have hm:∀b i v,m b i=some v->b<W.heap.size:=λb i v h=>Lt.oU (hk b i v h);have b01:fT (W.heap.size+1) W W1:=fT.of bl1 (aB _)
 gi_loopw [11] (λp wr=>∃i:Nat,p=.int .i64 i/\i<=n/\J wr/\fT (W.heap.size+1) W1 wr/\∃k',wr.cell? ⟨W.heap.size+1,0,none⟩=some (.int .i64 k')/\wr.frozen? ⟨W.heap.size+1,0,none⟩=false)
  (λp wr=>n -(Lib.intOf p).toNat)
 case atStart=>exact⟨0,rfl,gZ _,hJ _ _ _ (by omega) hj b01,fT.refl _ _,_,q5,q6⟩
 case round=>
  obtain⟨i,rfl,hi,jr,br,k',cr,fr⟩:=hrel;rcases dg i n with hin|hin
  ·obtain⟨ab,ao,ys,rfl,hc,ry,hcell⟩:=hrow (by omega);obtain⟨t',s',b',e1,e2,e3,eo,e4⟩:=Lt.SN n i h5 h3 hin;obtain⟨y1,g1,r1⟩:=Lt.aP.get ry e1;obtain⟨y2,g2,r2⟩:=Lt.aP.get ry e2;obtain⟨y3,g3,r3⟩:=Lt.aP.get ry e3;have hkr:=(hk.vH hm (kc _) b01).vH hm (kc _) br;have k1:=hcell _ _ g1 wr hkr;have k2:=hcell _ _ g2 wr hkr;have k3:=hcell _ _ g3 wr hkr;rw[show ao+3*i=ao+i*3 by omega] at k1;rw[show ao+(3*i+1)=ao+i*3+1 by omega] at k2;rw[show ao+(3*i+2)=ao+i*3+2 by omega] at k3;simp only[bg] at eo;obtain⟨p1,n1,c1,rfl⟩:=Lt.qP eo.1 r1;obtain⟨p2,n2,c2,rfl⟩:=Lt.qP eo.2.1 r2;obtain⟨p3,n3,c3,rfl⟩:=Lt.qP eo.2.2 r3;have cEr:=br.cell q3 (by show W.heap.size+1+1≠_;omega);have cYr:=br.cell q7 (by show W.heap.size≠_;omega);rw[hV] at cEr;have zEr:=ji _ _ cEr;obtain⟨W3,hW3⟩:∃W3,W3=wr.alloc (.cells #[.slice p1 n1 c1,.slice p2 n2 c2,.slice p3 n3 c3] 179):=⟨_,rfl⟩;have bl3:RowKit.Below wr.heap.size wr W3:=by rw[hW3];exact(fb _ wr).alloc (aB _) _
   have b3:fT (W.heap.size+1) wr W3:=fT.of bl3 (aB _);have zBr:=ji _ _ cr;have ih:=QN W.heap.size l (W.heap.size+1) W.heap.size (W.heap.size+1+1) m J ok (kc _) (aB _) (by omega) (by omega) (by omega) hm (λW' W''=>hJ _ W' W'' (kc _)) hy f t' s' b' _ _ _ e4 (Lt.zh hr pv e1) (Lt.zh hr pv e2) (Lt.zh hr pv e3) r1 r2 r3 W3 k' (hkr.vH hm (kc _) b3)
    (eP b01.size (eP br.size b3.size)) ((bl3.cell zBr).trans cr) ((bl3.frozen zBr).trans fr) (b3.cell cYr (by show W.heap.size≠_;omega)) (b3.cell cEr (by show W.heap.size+1+1≠_;omega)) (hJ _ _ _ (kc _) jr b3)
   rw[hW3] at ih;clear hW1 hW2 hV
   gi_wp2
   refine⟨trivial,rfl,ih.mono ?_⟩
   rintro e W4 ⟨rfl,j4,b4,k4,c4,f4⟩
   gi_wp2
   exact⟨⟨i+1,by simp,by omega,j4,br.trans (b3.trans (by rw[hW3];exact b4)),k4,c4,f4⟩,by simp[Lib.intOf];omega⟩
  ·obtain rfl:i=n:=by omega
   gi_wp2
   go_end0
   exact⟨⟨_,rfl⟩,jr,bl1.trans ⟨br.os,br.tape,br.output,br.size,λk hk=>br.block k (by omega) (by omega)⟩⟩
end
section
open Go.Shelf Go.RowKit Go.Lib
attribute [local go_sem] Oper.semAt_some
theorem Y0(o:Int)(x:Value)(hx:∃a n c,x=.slice a n c)(w:World):Calls Tryz.prog 310 #[.agg #[.int .i64 o,x]] w λe w'=>e=.returned (.func (.func 349) #[] #[.pointer (some ⟨w.heap.size,0,none⟩)])/\w'=w.alloc (.cells #[.int .i64 o,x] 113):=by
 obtain⟨a,n,c,rfl⟩:=hx
 go_enter Tryz.func310,Tryz.ntmps310
 go_wp2_with fail
 go_ret
 exact⟨rfl,rfl⟩
theorem abi{m:Nat->Nat->Option Value}{w:World}(hk:Lt.Kn m w)(ok:Value->Value->Value->Bool)(hok:∀t s b,ok t s b=true->Lt.eY t=true/\Lt.eY s=true/\Lt.eY b=true)
 (hE:∀W' t s b x0 x1 x2,ok t s b=true->Lt.aY t->Lt.aY s->Lt.aY b->Lt.bj m t x0->Lt.bj m s x1->Lt.bj m b x2->Lt.Kn m W'->Calls Tryz.prog 203 #[.agg #[x0,x1,x2]] W' λe W''=>∃k:Int,e=.returned (.int .i64 k)/\1<=k/\k<=65535/\RowKit.Below W'.heap.size W' W'')
 (hC:∀W' t s b x0,ok t s b=true->Lt.aY t->Lt.bj m t x0->Lt.Kn m W'->Calls Tryz.prog 311 #[x0,.func (.func 312) #[] #[]] W' λe W''=>e=.returned (.bool false)/\RowKit.Below W'.heap.size W' W'')
 (f:Nat) {v x:Value} {n:Nat} {cs:List Value} (hr:Lt.rowOf v=some (n,cs)) (h3:cs.length=n*3) (h5:Lt.sb (Lt.lE ok f) cs=true) (h4:n<1000000000) (pv:Lt.aY v) (lv:Lt.bj m v x) (o:Int):
 Calls Tryz.prog 256 #[.agg #[.int .i64 o,x]] w λe w'=>e=.returned (.bool true)/\RowKit.Below w.heap.size w w':=by
 obtain⟨pa,nn,c,rfl⟩:=Lt.qP (by unfold Lt.eY;rw[hr];rfl) lv;refine(callsIn_wide (n:=0)).1 ?_;refine callsIn_of_wp_marks Tryz.func256 rfl trivial ?_ rfl;simp only[Tryz.ntmps256,List.size_toArray,cQ,List.length_nil,Nat.reduceAdd,Nat.reduceSub,Array.replicate_succ,xk,List.push_toArray,List.append_toArray,iF,jg]
 gi_wp2
 refine⟨trivial,rfl,(callsIn_wide.2 (Y0 o _ ⟨_,_,_,rfl⟩ _)).mono ?_⟩
 rintro e w' ⟨rfl,rfl⟩
 have q1:=qH (w.alloc (.cells #[.int .i64 o,.slice pa nn c] 113)) (.bool false) 4;have q2:=World.alloc_heap_new ((w.alloc (.cells #[.int .i64 o,.slice pa nn c] 113)).alloc (.cells #[.bool false] 4)) (.cells #[.int .i64 o,.slice pa nn c] 113);simp only[World.size_alloc] at q1 q2;obtain⟨w1,hw1⟩:∃w1,w1=((w.alloc (.cells #[.int .i64 o,.slice pa nn c] 113)).alloc (.cells #[.bool false] 4)).alloc (.cells #[.int .i64 o,.slice pa nn c] 113):=⟨_,rfl⟩;have bw:RowKit.Below w.heap.size w w1:=by rw[hw1];exact(((fb _ w).alloc (aB _) _).alloc (by simp) _).alloc (by simp;omega) _
 have z1:w.heap.size+3<=w1.heap.size:=by rw[hw1];simp
 have bb:RowKit.Below (w.heap.size+2) ((w.alloc (.cells #[.int .i64 o,.slice pa nn c] 113)).alloc (.cells #[.bool false] 4)) w1:=by rw[hw1];exact(fb _ _).alloc (by simp) _
 rw[<-hw1] at q2;have q3:=(bb.cell (p:=⟨w.heap.size+1,0,none⟩) (by show w.heap.size+1<w.heap.size+2;omega)).trans q1.1;have q4:=(bb.frozen (p:=⟨w.heap.size+1,0,none⟩) (by show w.heap.size+1<w.heap.size+2;omega)).trans q1.2;have q5:w1.cell? ⟨w.heap.size+1+1,1,none⟩=some (.slice pa nn c):=by unfold World.cell?;simp only[q2];rfl
 rw[<-hw1];simp only[World.size_alloc];clear q1 q2 bb hw1
 gi_wp2
 refine LS (gf:=349) (lb:=#[.pointer (some ⟨w.heap.size+1+1,0,none⟩)]) rfl (enters_of Tryz.func349 (by kernel_rfl) rfl) ?_;intro fn W1 hW1;refine(callsIn_wide (n:=0)).1 ?_;generalize hR0:ku fn _ _ _ _ _ .ready=R0 at hW1⊢;have bl:RowKit.Below w1.heap.size w1 W1:=by rw[hW1];exact((fb _ w1).alloc (aB _) _).alloc (by simp) _
 have z2:w1.heap.size+2<=W1.heap.size:=by rw[hW1];simp
 have d1:W1.heap[w1.heap.size]? =some (.deferred (some [])):=by rw[hW1];exact(Below.heap_alloc _ _ _ (by simp)).trans (World.alloc_heap_new w1 _)
 have d2:W1.heap[w1.heap.size+1]? =some (.loop R0):=by have:=World.alloc_heap_new (w1.alloc (.deferred (some []))) (.loop R0);rw[World.size_alloc] at this;rw[hW1];exact this
 have hk1:Lt.Kn m W1:=(hk.below bw).below bl;refine(Y1 (w.heap.size+1+1) (w1.heap.size+1) m (λW=>W.heap[w1.heap.size+1]? =some (.loop R0)/\W.heap[w1.heap.size]? =some (.deferred (some []))/\W.cell? ⟨w.heap.size+1,0,none⟩=some (.bool false)/\W.frozen? ⟨w.heap.size+1,0,none⟩=false) ok W1 (by omega) hk1 ?hJ ?hy f hr h3 h5 h4 pv lv ((bl.cell (p:=⟨w.heap.size+1+1,1,none⟩) (by show w.heap.size+1+1<_;omega)).trans q5)
  ⟨d2,d1,(bl.cell (p:=⟨w.heap.size+1,0,none⟩) (by show w.heap.size+1<_;omega)).trans q3,(bl.frozen (p:=⟨w.heap.size+1,0,none⟩) (by show w.heap.size+1<_;omega)).trans q4⟩).mono ?_
 case hJ=>
  rintro B W' W'' hB ⟨j1,j2,j3,j4⟩ hb
  have s1:=ji _ _ j3;have t1:∀k o,k<W1.heap.size->W'.heap[k]? =some o->W''.heap[k]? =some o:=λk o hk ho=>(hb.block k (lL.1 ho).1 (by omega)).trans ho;exact⟨t1 _ _ (by omega) j1,t1 _ _ (by omega) j2,hb.cell j3 (by show w.heap.size+1≠B;omega),(World.frozen?_of_block (a:=⟨w.heap.size+1,0,none⟩) (hb.block _ s1 (by show w.heap.size+1≠B;omega))).trans j4⟩
 case hy=>
  intro W' k t s b x0 x1 x2 ho pt ps pb l0 l1 l2 hj hkn hs;obtain⟨j1,j2,j3,j4⟩:=hj;obtain⟨i0,i1,i2⟩:=hok t s b ho;obtain⟨p0,n0,c0,rfl⟩:=Lt.qP i0 l0;obtain⟨p1,n1,c1,rfl⟩:=Lt.qP i1 l1;obtain⟨p2,n2,c2,rfl⟩:=Lt.qP i2 l2;rw[<-hR0] at j1;refine UU (n:=0) (R:=λW=>(W.heap[w1.heap.size+1]? =some (.loop R0)/\W.heap[w1.heap.size]? =some (.deferred (some []))/\W.cell? ⟨w.heap.size+1,0,none⟩=some (.bool false)/\W.frozen? ⟨w.heap.size+1,0,none⟩=false)/\RowKit.Below W'.heap.size W' W) j1 rfl ?_;rw[hR0] at j1⊢;generalize ku fn _ _ _ _ _ .busy=R1;clear hW1
  gi_wp2
  have ls:w1.heap.size+1<W'.heap.size:=(lL.1 j1).1;refine⟨(Below.heap_alloc _ _ _ ls).trans j1,?_⟩;obtain⟨W3,hW3⟩:∃W3,W3=(W'.alloc (.cells #[.slice p0 n0 c0,.slice p1 n1 c1,.slice p2 n2 c2] 179)).putObj (w1.heap.size+1) (.loop R1):=⟨_,rfl⟩;have b3:fT (w1.heap.size+1) W' W3:=by rw[hW3];exact⟨rfl,rfl,rfl,by simp,λk hk ca=>(World.putObj_heap_other ca).trans (Below.heap_alloc _ _ _ hk)⟩
  have kl:W3.heap[w1.heap.size+1]? =some (.loop R1):=by rw[hW3];exact World.putObj_heap_same (by simp;omega)
  have ka:W3.heap[W'.heap.size]? =some (.cells #[.slice p0 n0 c0,.slice p1 n1 c1,.slice p2 n2 c2] 179):=by rw[hW3];exact(World.putObj_heap_other (by omega)).trans (World.alloc_heap_new W' _)
  have hm:∀b i v,m b i=some v->b<w.heap.size:=λb i v h=>Lt.oU (hk b i v h);have m3:=hkn.vH hm (by omega) b3;have e0:W3.cell? ⟨W'.heap.size,0,none⟩=some (.slice p0 n0 c0):=by unfold World.cell?;simp only[ka];rfl
  have e1:W3.cell? ⟨W'.heap.size,1,none⟩=some (.slice p1 n1 c1):=by unfold World.cell?;simp only[ka];rfl
  have e2:W3.cell? ⟨W'.heap.size,2,none⟩=some (.slice p2 n2 c2):=by unfold World.cell?;simp only[ka];rfl
  have z3:W'.heap.size<W3.heap.size:=(lL.1 ka).1;rw[<-hW3];clear hW3
  gi_wp2
  refine⟨trivial,rfl,(CallsIn.inRound _ (callsIn_wide.2 (hE W3 t s b _ _ _ ho pt ps pb l0 l1 l2 m3))).mono ?_⟩
  rintro e W4 ⟨k4,rfl,g1,g2,b4⟩
  have e3:=(b4.cell (p:=⟨W'.heap.size,0,none⟩) z3).trans e0;have z4:=ji _ _ e3
  gi_wp2
  refine⟨trivial,rfl,(CallsIn.inRound _ (callsIn_wide.2 (hC W4 t s b _ ho pt l0 (m3.below b4)))).mono ?_⟩
  rintro e W5 ⟨rfl,b5⟩
  gi_wp2
  have bb:∀k,k<W3.heap.size->W5.heap[k]? =W3.heap[k]? :=λk hk=>(b5.block k (tb hk b4.size)).trans (b4.block k hk);have kl5:=(bb _ (Nat.lt_trans ls z3)).trans kl;have s5:W3.heap.size<=W5.heap.size:=eP b4.size b5.size;have k5:∀k,k<W'.heap.size->(W5.putObj (w1.heap.size+1) (.loop R0)).heap[k]? =W'.heap[k]? :=λk hk=>by
   by_cases q:k=w1.heap.size+1
   ·rw[q,j1];exact World.putObj_heap_same (by omega)
   ·exact(World.putObj_heap_other q).trans ((bb k (by omega)).trans (b3.block k hk q))
  have sj:=ji _ _ j3;refine⟨kl5,⟨(k5 _ ls).trans j1,(k5 _ (by omega)).trans j2,(iP (a:=⟨w.heap.size+1,0,none⟩) (k5 _ sj)).trans j3,(World.frozen?_of_block (a:=⟨w.heap.size+1,0,none⟩) (k5 _ sj)).trans j4⟩,⟨?_,?_,?_,by simp;omega,k5⟩⟩
  ·exact b5.os.trans (b4.os.trans b3.os)
  ·exact b5.tape.trans (b4.tape.trans b3.tape)
  ·exact b5.output.trans (b4.output.trans b3.output)
 rintro e W2 ⟨⟨v,rfl⟩,⟨j1,j2,j3,j4⟩,bl2⟩
 refine⟨⟨_,rfl⟩,j1,?_⟩;generalize ku fn _ _ _ _ _ .exhausted=R9;obtain⟨W3,hW3⟩:∃W3,W3=W2.putObj (w1.heap.size+1) (.loop R9):=⟨_,rfl⟩;have pk:∀k,k≠w1.heap.size+1->W3.heap[k]? =W2.heap[k]? :=λk hk=>by rw[hW3];exact World.putObj_heap_other hk
 have c3:W3.cell? ⟨w.heap.size+1,0,none⟩=some (.bool false):=(iP (a:=⟨w.heap.size+1,0,none⟩) (pk _ (by show w.heap.size+1≠_;omega))).trans j3;have f3:W3.frozen? ⟨w.heap.size+1,0,none⟩=false:=(World.frozen?_of_block (a:=⟨w.heap.size+1,0,none⟩) (pk _ (by show w.heap.size+1≠_;omega))).trans j4;have k3:W3.heap[w1.heap.size]? =some (.deferred (some [])):=(pk _ (by omega)).trans j2;have bl3:RowKit.Below w.heap.size w W3:=by refine bw.trans ((bl.mono (by omega)).trans ((bl2.mono (by omega)).trans ?_));rw[hW3];exact⟨rfl,rfl,rfl,by simp,λk hk=>World.putObj_heap_other (by omega)⟩
 rw[<-hW3];clear hW3 hW1
 gi_wp2
 have z5:w.heap.size+1<w1.heap.size:=by omega
 have kD:(W3.setCell ⟨w.heap.size+1,0,none⟩ (.bool true)).heap[w1.heap.size]? =some (.deferred (some [])):=(Below.heap_setCell _ _ _ _ (by show _≠w.heap.size+1;omega)).trans k3;refine⟨by simp,.inl ⟨_,_,rfl,run_takeDeferred kD,?_⟩⟩;obtain⟨W4,hW4⟩:∃W4,W4=(W3.setCell ⟨w.heap.size+1,0,none⟩ (.bool true)).putObj w1.heap.size (.deferred none):=⟨_,rfl⟩;have c4:W4.cell? ⟨w.heap.size+1,0,none⟩=some (.bool true):=by rw[hW4];exact(iP (a:=⟨w.heap.size+1,0,none⟩) (World.putObj_heap_other (by show w.heap.size+1≠_;omega))).trans (World.cell?_setCell_same' _ _ _ (by rw[c3];rfl))
 have bl4:RowKit.Below w.heap.size w W4:=by rw[hW4];exact(bl3.setCell (p:=⟨w.heap.size+1,0,none⟩) (by show _<=w.heap.size+1;omega) _).trans ⟨rfl,rfl,rfl,by simp,λk hk=>World.putObj_heap_other (by omega)⟩
 rw[<-hW4];refine⟨.bool true,?_,rfl,bl4⟩;clear hW4;simp[results,Tryz.f256,go_sem,c4]
end
namespace Lt
section
open Go.Shelf Go.RowKit Go.Lib
def mi(E:Value->Value->Value->Option Int)(C:Value->Option Bool)(t s b:Value):Bool:=
 (eY t&&(eY s&&eY b))&&((match E t s b with
  |some k=>decide (1<=k)&&decide (k<=65535)
  |none=>false)&&(match C t with
  |some false=>true
  |_=>false))
noncomputable def EV(w:Nat)(E:Value->Value->Value->Option Int)(C:Value->Option Bool)(_:Int)(v:Value):Option Bool:=match rowOf v with
 |some (n,cs)=>cond (Nat.beq cs.length (n*3)&&(Nat.blt n 1000000000&&sb (lE (mi E C) w) cs)) (some true) none
 |none=>none
variable{P:Program} {args':Array Value} {g:FuncId} {m:Nat->Nat->Option Value} {us:List Value} {w:World}
theorem Sa{k:Int}(R:mI P g us (.int .i64 k))(hm:Kn m w)(A:aP m us args'.toList):
 Calls P g args' w λe w'=>e=.returned (.int .i64 k)/\RowKit.Below w.heap.size w w':=
 (xU R (.inl (.int _ _)) hm A).mono λe w' ⟨v',h1,h2,h3⟩=>by cases h3;exact⟨h1,h2⟩
theorem P8{k:Bool}(R:mI P g us (.bool k))(hm:Kn m w)(A:aP m us args'.toList):
 Calls P g args' w λe w'=>e=.returned (.bool k)/\RowKit.Below w.heap.size w w':=
 (xU R (.inl (.bool _)) hm A).mono λe w' ⟨v',h1,h2,h3⟩=>by cases h3;exact⟨h1,h2⟩
theorem EK{t:Value}(h:eY t=true):bB [t]=true:=by unfold eY at h;obtain⟨⟨n,cs⟩,h⟩:=Option.isSome_iff_exists.1 h;rw[wJ h];rfl
theorem abg{E:Value->Value->Value->Option Int}{C:Value->Option Bool}(HE:dI Tryz.prog 203 [.agg [.v,.v,.v]] (.i .i64) E)(HC:dI Tryz.prog 311 [.v,.fn 312 []] .b C)(w:Nat):dI Tryz.prog 256 [.agg [.i .i64,.v]] .b (EV w E C):=by
 intro ls r e hl us hu;obtain⟨x,r1,us1,h1,h2,rfl⟩:=gD hu;obtain⟨rfl,rfl⟩:=pN h2;obtain⟨vs,h5,rfl⟩:=Ei h1;obtain⟨z,r3,us3,h6,h7,rfl⟩:=gD h5;obtain⟨z2,r4,us4,h8,h9,rfl⟩:=gD h7;obtain⟨rfl,rfl⟩:=pN h9;obtain⟨o,rfl,rfl⟩:=tR h6;obtain rfl:=lY h8;replace e:EV w E C o z2=some r:=e;have pz:=(hl z2 (by simp)).1;unfold EV at e;split at e
 ·rename_i n cs hr;obtain⟨q,e⟩:=aT e;cases e;simp only[bg] at q;obtain⟨q1,q2,q3⟩:=q;refine⟨λz hz=>by simp[jW,VT.ks,xe] at hz,.bool true,rfl,BZ (λa ha=>?_) λm args' W hm A=>?_⟩
  ·rw[kC] at ha;rw[ha];refine .agg λx hx=>?_;have hx:x=.int .i64 o\/x=z2:=by simpa using hx
   rcases hx with rfl|rfl
   ·exact .int _ _
   ·exact pz
  ·obtain⟨al⟩:=args';replace A:aP m _ al:=A;cases A with|cons a0 A=>?_
   cases A;cases a0 with
   |agg a0=>
    rename_i xs;obtain⟨xs⟩:=xs;cases a0 with|cons b0 a0=>?_
    cases a0 with|cons b1 a0=>?_
    cases a0;cases b0;have hok:∀t s b,mi E C t s b=true->(eY t=true/\eY s=true/\eY b=true)/\(∃k,E t s b=some k/\1<=k/\k<=65535)/\C t=some false:=λt s b h=>by
     unfold mi at h;simp only[bg] at h;obtain⟨h1,h2,h3⟩:=h;refine⟨h1,?_,?_⟩
     ·split at h2
      ·rename_i k hk;simp at h2;exact⟨k,hk,h2⟩
      ·cases h2
     ·split at h3
      ·assumption
      ·cases h3
    refine(abi hm (mi E C) (λt s b h=>(hok t s b h).1) ?_ ?_ w hr (bJ q1) q3 (cT q2) pz b1 o).mono λe w' ⟨h1,h2⟩=>⟨_,h1,h2,.bool _⟩
    ·intro W' t s b x0 x1 x2 h pt ps pb l0 l1 l2 hk;obtain⟨⟨i0,i1,i2⟩,⟨k,hE,k1,k2⟩,_⟩:=hok t s b h;obtain⟨_,pv,f2,f3⟩:=HE [.v t,.v s,.v b] k hE (λx hx=>by
      simp only[cj,bo.v.injEq,jh,jj] at hx;rcases hx with rfl|rfl|rfl
      ·exact⟨pt,EK i0⟩
      ·exact⟨ps,EK i1⟩
      ·exact⟨pb,EK i2⟩) _ rfl
     have f2:some (Value.int .i64 k,([]:List bo))=some (pv,[]):=f2;cases f2;exact(Sa f3 hk (.cons (.agg (.cons l0 (.cons l1 (.cons l2 .nil)))) .nil)).mono λe w' ⟨h1,h2⟩=>⟨k,h1,k1,k2,h2⟩
    ·intro W' t s b x0 h pt l0 hk;obtain⟨⟨i0,i1,i2⟩,_,hC⟩:=hok t s b h;obtain⟨_,pv,f2,f3⟩:=HC [.v t] false hC (λx hx=>by
      simp only[cj,bo.v.injEq,jh,jj] at hx;subst hx;exact⟨pt,EK i0⟩) _ rfl
     have f2:some (Value.bool false,([]:List bo))=some (pv,[]):=f2;cases f2;exact P8 f3 hk (.cons l0 (.cons (.fn .nil .nil) .nil))
 ·cases e
end
end Lt
section
open Go.Shelf Go.RowKit Go.Lib
attribute [local go_sem] Oper.semAt_some
theorem Uj(a:Option Addr)(n c:Nat)(w:World):Calls Tryz.prog 98 #[.slice a n c] w λe w'=>e=.returned (.func (.func 164) #[] #[.pointer (some ⟨w.heap.size,0,none⟩)])/\w'=w.alloc (.cells #[.slice a n c] 28):=by
 go_enter Tryz.func98,Tryz.ntmps98
 go_wp2_with fail
 go_ret
 exact⟨rfl,rfl⟩
theorem aeD(X l:Nat)(a:Option Addr)(c:Nat)(W:World)(c0:W.cell? ⟨X,0,none⟩=some (.slice a 0 c)):
 CallsIn Fence.wide 0 Tryz.prog 164 #[.func (.yield l) #[] #[],.pointer (some ⟨X,0,none⟩)] W λe W'=>(∃v,e=.returned v)/\W'=W:=by
 refine callsIn_of_wp Tryz.func164 rfl trivial ?_ rfl;simp only[Tryz.ntmps164,List.size_toArray,cQ,List.length_nil,Nat.reduceAdd,Nat.reduceSub,Array.replicate_succ,xk,List.push_toArray,List.append_toArray,iF,jg]
 gi_wp2
 refine wpIn_loop_once ?_
 gi_wp2
 go_end0
 exact⟨⟨_,rfl⟩,rfl⟩
theorem aeE(X l n c:Nat)(b o:Nat)(h0:0<n)(h1:n<=65519)(hc:n<=c)(J:World->Prop)(W:World)(c0:W.cell? ⟨X,0,none⟩=some (.slice (some ⟨b,o,none⟩) n c))
 (hy:YieldAt Fence.wide 0 Tryz.prog l #[.slice (some ⟨b,o,none⟩) n n] W λe W2=>e=.returned (.bool true)/\W2.cell? ⟨X,0,none⟩=some (.slice (some ⟨b,o,none⟩) n c)/\W2.frozen? ⟨X,0,none⟩=false/\∀v,J (W2.setCell ⟨X,0,none⟩ v)):
 CallsIn Fence.wide 0 Tryz.prog 164 #[.func (.yield l) #[] #[],.pointer (some ⟨X,0,none⟩)] W λe W'=>(∃v,e=.returned v)/\J W':=by
 obtain⟨fn,tmps,assign,body,hyv,hR⟩:=hy;refine callsIn_of_wp Tryz.func164 rfl trivial ?_ rfl;simp only[Tryz.ntmps164,List.size_toArray,cQ,List.length_nil,Nat.reduceAdd,Nat.reduceSub,Array.replicate_succ,xk,List.push_toArray,List.append_toArray,iF,jg]
 gi_wp2
 refine wpIn_loop_rounds 2 ?_;rw[roundsIn_succ];have hmin:min (n:Int) 65519=n:=by omega
 have hnat:(n:Int).toNat=n:=rfl
 gi_wp2
 refine⟨rfl,hR.mono ?_⟩
 rintro e W2 ⟨rfl,c2,f2,hJ⟩
 by_cases hcn:c=n;all_goals
  gi_wp2
  rw[roundsIn_succ]
  gi_wp2
  go_end0
  exact⟨⟨_,rfl⟩,hJ _⟩
end
section
open Go.Shelf Go.RowKit Go.Lib
attribute [local go_sem] Oper.semAt_some
def lZ:List Int:=[73,67,67,95,80,82,79,70,73,76,69,0,1,1]
def Chunk(W:World)(A:Nat)(xs:List Int):Prop:=∃g cp gb cap cur,W.cell? ⟨A+1,0,none⟩=some (.slice (some ⟨g,0,none⟩) 1 cp)/\1<=cp/\A<=g/\g≠A+1+1/\W.cell? ⟨g,0,none⟩=some (.slice (some ⟨gb,0,none⟩) (14+xs.length) cap)/\
 A<=gb/\gb≠A+1+1/\W.heap[gb]? =some (.cells cur 5 (0,0))/\14+xs.length<=cap/\cur.toList.take (14+xs.length)=Lt.bd (lZ++xs)
variable{xs:List Int}
theorem Chunk.iC{W W':World}{A:Nat}(h:Chunk W A xs)(e:∀q,q<W.heap.size->q≠A+1+1->W'.heap[q]? =W.heap[q]?):Chunk W' A xs:=by obtain⟨g,cp,gb,cap,cur,y1,y2,y3,y4,y5,y6,y7,y8,y9⟩:=h;exact⟨g,cp,gb,cap,cur,(iP (a:=⟨A+1,0,none⟩) (e _ (ji _ _ y1) (by show A+1≠_;omega))).trans y1,y2,y3,y4,(iP (a:=⟨g,0,none⟩) (e _ (ji _ _ y5) y4)).trans y5,y6,y7,(e _ (lL.1 y8).1 y7).trans y8,y9⟩
theorem rU(l:List Int):∀v∈Lt.bd l,v.oneCell'=true:=λv hv=>by obtain⟨b,_,rfl⟩:=List.mem_map.1 hv;rfl
theorem YU{m:Nat->Nat->Option Value}{w:World}(_:Lt.Kn m w){b o c:Nat}(h0:0<xs.length)(h1:xs.length<=65519)(hc:xs.length<=c)(hcell:∀i,i<xs.length->w.cell? ⟨b,o+i,none⟩=some (.int .u8 (xs.getD i 0)))
 (HN:∀W,RowKit.Below w.heap.size w W->Calls Tryz.prog 97 #[.int .i64 xs.length] W λe W'=>e=.returned (.int .i64 1)/\RowKit.Below W.heap.size W W'):
 Calls Tryz.prog 49 #[.slice (some ⟨b,o,none⟩) xs.length c] w λe w'=>∃v,e=.returned (.tuple #[v,.int .i64 0])/\RowKit.Below w.heap.size w w'/\Lt.bj (Lt.dj m w w') (Lt.ae 1 [Lt.ae (14+xs.length) (Lt.bd (lZ++xs))]) v:=by
 refine(callsIn_wide (n:=0)).1 ?_;refine callsIn_of_wp_marks Tryz.func49 rfl trivial ?_ rfl;simp only[Tryz.ntmps49,List.size_toArray,cQ,List.length_nil,Nat.reduceAdd,Nat.reduceSub,Array.replicate_succ,xk,List.push_toArray,List.append_toArray,iF,jg]
 gi_wp2
 refine⟨trivial,rfl,(callsIn_wide.2 (HN _ (fb _ _))).mono ?_⟩
 rintro e w1 ⟨rfl,b1⟩
 gi_wp2
 refine⟨trivial,rfl,(callsIn_wide.2 (Uj _ _ _ _)).mono ?_⟩
 rintro e w2 ⟨rfl,rfl⟩
 gi_wp2
 have q1:=qH w1 (.int .i64 1) 3;have q2:=qH (w1.alloc (.cells #[.int .i64 1] 3)) (.slice none 0 0) 88;have q3:=qH ((w1.alloc (.cells #[.int .i64 1] 3)).alloc (.cells #[.slice none 0 0] 88)) (.slice (some ⟨b,o,none⟩) xs.length c) 28;obtain⟨w2,hw2⟩:∃w2,w2=((w1.alloc (.cells #[.int .i64 1] 3)).alloc (.cells #[.slice none 0 0] 88)).alloc (.cells #[.slice (some ⟨b,o,none⟩) xs.length c] 28):=⟨_,rfl⟩;have bw:RowKit.Below w1.heap.size w1 w2:=by rw[hw2];exact(((fb _ w1).alloc (aB _) _).alloc (by simp) _).alloc (by simp;omega) _
 have z2:w1.heap.size+3<=w2.heap.size:=by rw[hw2];simp
 have z2':w2.heap.size<=w1.heap.size+3:=by rw[hw2];simp
 have bb1:RowKit.Below (w1.heap.size+1) (w1.alloc (.cells #[.int .i64 1] 3)) w2:=by rw[hw2];exact((fb _ _).alloc (by simp) _).alloc (by simp) _
 have bb2:RowKit.Below (w1.heap.size+2) ((w1.alloc (.cells #[.int .i64 1] 3)).alloc (.cells #[.slice none 0 0] 88)) w2:=by rw[hw2];exact(fb _ _).alloc (by simp) _
 simp only[World.size_alloc] at q2 q3;rw[<-hw2] at q3;have e1:=(bb1.cell (p:=⟨w1.heap.size,0,none⟩) (by show w1.heap.size<w1.heap.size+1;omega)).trans q1.1;have e2:=(bb2.cell (p:=⟨w1.heap.size+1,0,none⟩) (by show w1.heap.size+1<w1.heap.size+2;omega)).trans q2.1;have f2:=(bb2.frozen (p:=⟨w1.heap.size+1,0,none⟩) (by show w1.heap.size+1<w1.heap.size+2;omega)).trans q2.2;obtain⟨e3,f3⟩:=q3;rw[<-hw2];clear q1 q2 bb1 bb2 hw2;refine LS (gf:=164) (lb:=#[.pointer (some ⟨w1.heap.size+1+1,0,none⟩)]) rfl (enters_of Tryz.func164 (by kernel_rfl) rfl) ?_;intro fn W1 hW1;refine(callsIn_wide (n:=0)).1 ?_;generalize hR0:ku fn _ _ _ _ _ .ready=R0 at hW1⊢;have bl:RowKit.Below w2.heap.size w2 W1:=by rw[hW1];exact((fb _ w2).alloc (aB _) _).alloc (by simp) _
 have z3:w2.heap.size+2<=W1.heap.size:=by rw[hW1];simp
 have d1:W1.heap[w2.heap.size]? =some (.deferred (some [])):=by rw[hW1];exact(Below.heap_alloc _ _ _ (by simp)).trans (World.alloc_heap_new w2 _)
 have d2:W1.heap[w2.heap.size+1]? =some (.loop R0):=by have:=World.alloc_heap_new (w2.alloc (.deferred (some []))) (.loop R0);rw[World.size_alloc] at this;rw[hW1];exact this
 clear hW1;refine(aeE (w1.heap.size+1+1) (w2.heap.size+1) xs.length c b o h0 h1 hc (λW=>W.heap[w2.heap.size+1]? =some (.loop R0)/\W.heap[w2.heap.size]? =some (.deferred (some []))/\RowKit.Below w1.heap.size w1 W/\
  Chunk W w1.heap.size xs) W1 ((bl.cell (p:=⟨w1.heap.size+1+1,0,none⟩) (by show w1.heap.size+1+1<_;omega)).trans e3) ?hy).mono ?_
 case hy=>
  rw[<-hR0] at d2;refine(UU (n:=0) (R:=λW=>W.cell? ⟨w1.heap.size+1+1,0,none⟩=some (.slice (some ⟨b,o,none⟩) xs.length c)/\W.frozen? ⟨w1.heap.size+1+1,0,none⟩=false/\W.heap[w2.heap.size+1]? =some (.loop R0)/\W.heap[w2.heap.size]? =some (.deferred (some []))/\RowKit.Below w1.heap.size w1 W/\
   Chunk W w1.heap.size xs) d2 rfl ?_).mono ?_
  ·rw[hR0] at d2⊢;generalize ku fn _ _ _ _ _ .busy=R1;have D2:=Lib.hid d2;clear d2
   gi_wp2
   refine⟨D2.out,?_⟩;obtain⟨W2,hW2⟩:∃W2,W2=W1.putObj (w2.heap.size+1) (.loop R1):=⟨_,rfl⟩;have b2:fT (w2.heap.size+1) W1 W2:=by rw[hW2];exact⟨rfl,rfl,rfl,by simp,λk hk ca=>World.putObj_heap_other ca⟩
   have kl:W2.heap[w2.heap.size+1]? =some (.loop R1):=by rw[hW2];exact World.putObj_heap_same (by omega)
   have kd:=(b2.block w2.heap.size (by omega) (by omega)).trans d1;have bA:fT (w2.heap.size+1) w2 W2:=(fT.of bl (aB _)).trans b2;have g1:=bA.cell e1 (by show w1.heap.size≠_;omega);have g2:=bA.cell e2 (by show w1.heap.size+1≠_;omega);have g3:=bA.cell e3 (by show w1.heap.size+1+1≠_;omega);have h2:W2.frozen? ⟨w1.heap.size+1,0,none⟩=false:=(World.frozen?_of_block (a:=⟨w1.heap.size+1,0,none⟩) (bA.block _ (by show w1.heap.size+1<_;omega) (by show w1.heap.size+1≠_;omega))).trans f2;have h3:W2.frozen? ⟨w1.heap.size+1+1,0,none⟩=false:=(World.frozen?_of_block (a:=⟨w1.heap.size+1+1,0,none⟩) (bA.block _ (by show w1.heap.size+1+1<_;omega) (by show w1.heap.size+1+1≠_;omega))).trans f3;have zW:w2.heap.size+2<=W2.heap.size:=eP z3 b2.size;have b1W:RowKit.Below w1.heap.size w1 W2:=⟨bA.os.trans bw.os,bA.tape.trans bw.tape,bA.output.trans bw.output,eP bw.size bA.size,λk hk=>(bA.block k (by omega) (by omega)).trans (bw.block k hk)⟩;rw[<-hW2];clear hW2;have z1:w1.heap.size<W2.heap.size:=by omega
   have z1o:w1.heap.size+1<W2.heap.size:=by omega
   gi_wp2
   have three:LibA.Three (W2.alloc (Obj.cells #[.slice none 0 0,.int .i64 0,.int .i8 0] 152)) W2.heap.size 0 152 (λ_=>none) (.slice none 0 0) (.int .i64 0) (.int .i8 0):=LibA.three_whole (heap_alloc_new W2 _);have buf:=LibA.zero_isBuffer (e:=5) (aB W2.heap.size) three;refine⟨trivial,rfl,(CallsIn.inRound _ (callsIn_wide.2 (Tryz.Buffer_WriteString_at 152 (λ_=>none) W2.heap.size W2.heap.size 0 [] _ _ buf (by simp) (λv hv=>by cases hv) (by decide)))).mono ?_⟩
   rintro e W3 ⟨rfl,hI3,b3,_⟩
   have bl3:RowKit.Below W2.heap.size W2 W3:=((fb _ W2).alloc (aB _) _).trans b3;have hI3:LibA.IsBuffer 152 (λ_=>none) 5 W2.heap.size W2.heap.size 0 (Lt.bd [73,67,67,95,80,82,79,70,73,76,69,0]) W3:=by simpa[Lib.byteCells,Lt.bd] using hI3
   have HI3:=Lib.hid hI3;clear hI3 three buf b3;have g13:=(bl3.cell (p:=⟨w1.heap.size,0,none⟩) z1).trans g1;have g23:=(bl3.cell (p:=⟨w1.heap.size+1,0,none⟩) z1o).trans g2
   gi_wp2
   refine⟨trivial,rfl,(CallsIn.inRound _ (callsIn_wide.2 (Tryz.Buffer_WriteByte_at 152 (λ_=>none) W2.heap.size W2.heap.size 0 _ 1 W3 HI3.out bl3.size (rU _) (by decide)))).mono ?_⟩
   rintro e W4 ⟨rfl,hI4,b4,_⟩
   have bl4:=bl3.trans b4;have hI4:LibA.IsBuffer 152 (λ_=>none) 5 W2.heap.size W2.heap.size 0 (Lt.bd [73,67,67,95,80,82,79,70,73,76,69,0,1]) W4:=hI4;have HI4:=Lib.hid hI4;clear hI4 b4 g13 g23;have g14:=(bl4.cell (p:=⟨w1.heap.size,0,none⟩) z1).trans g1
   gi_wp2
   refine⟨trivial,rfl,(CallsIn.inRound _ (callsIn_wide.2 (Tryz.Buffer_WriteByte_at 152 (λ_=>none) W2.heap.size W2.heap.size 0 _ 1 W4 HI4.out bl4.size (rU _) (by decide)))).mono ?_⟩
   rintro e W5 ⟨rfl,hI5,b5,_⟩
   have bl5:=bl4.trans b5;have hI5:LibA.IsBuffer 152 (λ_=>none) 5 W2.heap.size W2.heap.size 0 (Lt.bd lZ) W5:=hI5;have HI5:=Lib.hid hI5;clear hI5 b5 g14
   gi_wp2
   have src:RowKit.Below w.heap.size w W5:=b1.trans ((b1W.mono b1.size).trans (bl5.mono (by have:=b1.size;omega)));have hsrc:∀j v,(Lt.bd xs)[j]? =some v->W5.cell? (Addr.add ⟨b,o,none⟩ j)=some v:=λj v hv=>by
    have hj:j<xs.length:=by
     rcases dg j xs.length with q|q
     ·exact q
     ·rw[lN (by simp[Lt.bd];omega)] at hv;cases hv
    have hv2:v=.int .u8 (xs.getD j 0):=by unfold Lt.bd at hv;rw[List.getElem?_map,dD hj] at hv;rw[Ao,dD hj];simpa using hv.symm
    have hc:=hcell j hj;rw[hv2,Addr.add_lit];exact(src.cell (ji _ _ hc)).trans hc
   refine⟨trivial,rfl,(CallsIn.inRound _ (callsIn_wide.2 (Tryz.Buffer_Write_at 152 (λ_=>none) W2.heap.size W2.heap.size 0 _ (Lt.bd xs) ⟨b,o,none⟩ xs.length xs.length W5 HI5.out bl5.size (rU _) (by simp[Lt.bd]) ?ca hsrc (rU _) ?hlim))).mono ?_⟩
   case ca=>have q:b<w.heap.size:=ji _ _ (hcell 0 h0);have:=b1.size;show b≠W2.heap.size;omega
   case hlim=>simp[Lt.bd,lZ];omega
   rintro e W6 ⟨rfl,hI6,b6,_⟩
   have bl6:=bl5.trans b6;have HI6:=Lib.hid hI6;clear hI6 b6 hsrc src;have g26:=(bl6.cell (p:=⟨w1.heap.size+1,0,none⟩) z1o).trans g2;have h26:=(bl6.frozen (p:=⟨w1.heap.size+1,0,none⟩) z1o).trans h2;have mixed:Tryz.prog.follows .mixedOrders=true:=by kernel_rfl
   gi_wp2
   have hID:LibA.IsBuffer 152 (λ_=>none) 5 W2.heap.size W2.heap.size 0 (Lt.bd lZ++Lt.bd xs) W6.drew:=HI6.out;have HB:=(Jn 152 (λ_=>none) W2.heap.size W2.heap.size 0 _ _ hID).mono (R':=λe W7=>∃g cap cur,e=.returned (.slice (some ⟨g,0,none⟩) (14+xs.length) cap)/\W2.heap.size<=g/\W7.heap[g]? =some (.cells cur 5 (0,0))/\14+xs.length<=cap/\cur.toList.take (14+xs.length)=Lt.bd (lZ++xs)/\∃n,W7=W6.drew.drewN n) ?hB
   case hB=>
    rintro e W7 ⟨v,rfl,⟨_,⟨rfl,hn⟩|⟨g,cap,cur,rfl,hB,hg,hnc,_,hcs,htk⟩⟩,k,rfl⟩
    ·simp[Lt.bd,lZ] at hn
    ·have hl:(Lt.bd lZ++Lt.bd xs).length=14+xs.length:=by simp[Lt.bd,lZ];omega
     rw[hl] at hnc htk⊢;refine⟨g,cap,cur,rfl,hB,hg,hnc,?_,k,rfl⟩;rw[gM] at htk;rw[htk];simp[Lt.bd]
   have HB:=Lib.hid HB;clear hID;have zO6:w1.heap.size+1<W6.heap.size:=ji _ _ g26;have hbt:¬281474976710656<Builtin.nextslicecap 1 0*Tryz.t28.bytes:=by decide
   have hw1:∀(k:Nat)(Xc Yc:Obj),(((W6.drewN k).alloc Xc).alloc Yc).cell? ⟨w1.heap.size+1,0,none⟩=some (.slice none 0 0):=λk Xc Yc=>(iP (a:=⟨w1.heap.size+1,0,none⟩) ((Below.heap_alloc _ _ _ (by simp;omega)).trans (Below.heap_alloc _ _ _ zO6))).trans g26;have hw2:∀(k:Nat)(Xc Yc:Obj),(((W6.drewN k).alloc Xc).alloc Yc).frozen? ⟨w1.heap.size+1,0,none⟩=false:=λk Xc Yc=>(World.frozen?_of_block (a:=⟨w1.heap.size+1,0,none⟩) ((Below.heap_alloc _ _ _ (by simp;omega)).trans (Below.heap_alloc _ _ _ zO6))).trans h26;have Bs:∀(k:Nat)(Xc:Obj),((W6.drewN k).alloc Xc).cell? ⟨w1.heap.size+1,0,none⟩=some (.slice none 0 0):=λk Xc=>(iP (a:=⟨w1.heap.size+1,0,none⟩) (Below.heap_alloc _ _ _ zO6)).trans g26;have b1s:=b1.size;have zD:w2.heap.size+1<W2.heap.size:=by omega
   have s26:=bl6.size;have fin:∀(k g cap cp:Nat)(cur zs:Array Value)(Wf:World),W2.heap.size<=g->W6.heap[g]? =some (.cells cur 5 (0,0))->14+xs.length<=cap->cur.toList.take (14+xs.length)=Lt.bd (lZ++xs)->1<=cp->Wf.os=W6.os->Wf.tape=W6.tape->Wf.output=W6.output->
    Wf.heap=((((W6.drewN k).alloc (.cells #[.slice (some ⟨g,0,none⟩) (14+xs.length) cap] 28)).alloc (.cells (#[.slice (some ⟨g,0,none⟩) (14+xs.length) cap]++zs) 28)).setCell ⟨w1.heap.size+1,0,none⟩ (.slice (some ⟨W6.heap.size+1,0,none⟩) 1 cp)).heap->
    Wf.heap[w2.heap.size+1]? =some (.loop R1)/\(Wf.putObj (w2.heap.size+1) (.loop R0)).cell? ⟨w1.heap.size+1+1,0,none⟩=some (.slice (some ⟨b,o,none⟩) xs.length c)/\(Wf.putObj (w2.heap.size+1) (.loop R0)).frozen? ⟨w1.heap.size+1+1,0,none⟩=false/\(Wf.putObj (w2.heap.size+1) (.loop R0)).heap[w2.heap.size+1]? =some (.loop R0)/\(Wf.putObj (w2.heap.size+1) (.loop R0)).heap[w2.heap.size]? =some (.deferred (some []))/\RowKit.Below w1.heap.size w1 (Wf.putObj (w2.heap.size+1) (.loop R0))/\
     Chunk (Wf.putObj (w2.heap.size+1) (.loop R0)) w1.heap.size xs:=by
    intro k g cap cp cur zs Wf p1 p2 p3 p4 p5 p6 p7 p8 hh;have lg:g<W6.heap.size:=(lL.1 p2).1;have e6:∀q,q<W6.heap.size->q≠w1.heap.size+1->Wf.heap[q]? =W6.heap[q]? :=λq h1 h2=>by rw[hh,Below.heap_setCell _ _ _ q h2,Below.heap_alloc _ _ _ (by simp;omega),Below.heap_alloc _ _ _ (by exact h1)];rfl
    have e0:∀q,q<W2.heap.size->q≠w1.heap.size+1->Wf.heap[q]? =W2.heap[q]? :=λq h1 h2=>(e6 q (by omega) h2).trans (bl6.block q h1);have eN:Wf.heap[W6.heap.size+1]? =some (.cells (#[.slice (some ⟨g,0,none⟩) (14+xs.length) cap]++zs) 28):=by have q:=World.alloc_heap_new ((W6.drewN k).alloc (.cells #[.slice (some ⟨g,0,none⟩) (14+xs.length) cap] 28)) (.cells (#[.slice (some ⟨g,0,none⟩) (14+xs.length) cap]++zs) 28);rw[hh,Below.heap_setCell _ _ _ _ (by show W6.heap.size+1≠w1.heap.size+1;omega)];rw[World.size_alloc] at q;exact q
    have eO:Wf.cell? ⟨w1.heap.size+1,0,none⟩=some (.slice (some ⟨W6.heap.size+1,0,none⟩) 1 cp):=by refine(iP (a:=⟨w1.heap.size+1,0,none⟩) (by rw[hh])).trans (World.cell?_setCell_same' _ _ _ ?_);rw[hw1];rfl
    have eg:=(e6 g lg (by omega)).trans p2;have po:∀q,q≠w2.heap.size+1->(Wf.putObj (w2.heap.size+1) (.loop R0)).heap[q]? =Wf.heap[q]? :=λq h=>World.putObj_heap_other h;have kf:=(e0 _ zD (by omega)).trans kl;refine⟨kf,?_,?_,World.putObj_heap_same (lL.1 kf).1,(po _ (by omega)).trans ((e0 _ (by omega) (by omega)).trans kd),⟨?_,?_,?_,?_,λq hq=>?_⟩,W6.heap.size+1,cp,g,cap,cur,?_,p5,by omega,by omega,?_,by omega,by omega,(po g (by omega)).trans eg,p3,p4⟩
    ·exact(iP (a:=⟨w1.heap.size+1+1,0,none⟩) ((po _ (by show w1.heap.size+1+1≠_;omega)).trans (e0 _ (by show w1.heap.size+1+1<_;omega) (by show w1.heap.size+1+1≠_;omega)))).trans g3
    ·exact(World.frozen?_of_block (a:=⟨w1.heap.size+1+1,0,none⟩) ((po _ (by show w1.heap.size+1+1≠_;omega)).trans (e0 _ (by show w1.heap.size+1+1<_;omega) (by show w1.heap.size+1+1≠_;omega)))).trans h3
    ·exact p6.trans (bl6.os.trans b1W.os)
    ·exact p7.trans (bl6.tape.trans b1W.tape)
    ·exact p8.trans (bl6.output.trans b1W.output)
    ·have:=(lL.1 eN).1;simp only[World.putObj_size];omega
    ·exact(po q (by omega)).trans ((e0 q (by omega) (by omega)).trans (b1W.block q hq))
    ·exact(iP (a:=⟨w1.heap.size+1,0,none⟩) (po _ (by show w1.heap.size+1≠_;omega))).trans eO
    ·refine(iP (a:=⟨W6.heap.size+1,0,none⟩) (po _ (by show W6.heap.size+1≠_;omega))).trans ?_;unfold World.cell?;simp only[eN];show(#[_]++zs)[0]? =_;rw[Array.getElem?_append_left (by simp)];rfl
   gi_region_with_o (refine⟨trivial,rfl,(CallsIn.inRound _ (callsIn_wide.2 HB.out)).mono ?_⟩;rintro e W7 ⟨g,cap,cur,rfl,hg1,hg2,hg3,hg4,k,rfl⟩;have hq:((W6.drewN (1+k)).alloc (.cells #[.slice (some ⟨g,0,none⟩) (14+xs.length) cap] 28)).cell? ⟨W6.heap.size,0,none⟩=some (.slice (some ⟨g,0,none⟩) (14+xs.length) cap):=(qH _ _ _).1)
   all_goals
    exact fin (1+k) g cap ((Question.appendCap 1 0 28).cut (W6.tape (W6.drewN (1+k)).drawn (.appendCap 1 0 28))) cur (Builtin.zeroCells #[.slice none 0 0] ((Question.appendCap 1 0 28).cut (W6.tape (W6.drewN (1+k)).drawn (.appendCap 1 0 28)) -1)) _ hg1 hg2 hg3 hg4 (by simp[Question.cut]) rfl rfl rfl rfl
  ·rintro e W ⟨rfl,x1,x2,x3,x4,x5,x6⟩
   have st:∀v q,q≠w1.heap.size+1+1->(W.setCell ⟨w1.heap.size+1+1,0,none⟩ v).heap[q]? =W.heap[q]? :=λv q h=>Below.heap_setCell _ _ _ q h;exact⟨rfl,x1,x2,λv=>⟨(st v _ (by omega)).trans x3,(st v _ (by omega)).trans x4,x5.setCell (p:=⟨w1.heap.size+1+1,0,none⟩) (by show _<=w1.heap.size+1+1;omega) _,x6.iC λq _ h=>st v q h⟩⟩
 rintro e W2 ⟨⟨v,rfl⟩,j1,j2,j3,j4⟩
 refine⟨⟨_,rfl⟩,j1,?_⟩;generalize ku fn _ _ _ _ _ .exhausted=R9;obtain⟨W3,hW3⟩:∃W3,W3=W2.putObj (w2.heap.size+1) (.loop R9):=⟨_,rfl⟩;have pk:∀k,k≠w2.heap.size+1->W3.heap[k]? =W2.heap[k]? :=λk hk=>by rw[hW3];exact World.putObj_heap_other hk
 obtain⟨g,cp,gb,cap,cur,y1,y2,y3,y4,y5,y6,y7,y8,y9,y10⟩:=j4;have c3:W3.cell? ⟨w1.heap.size+1,0,none⟩=some (.slice (some ⟨g,0,none⟩) 1 cp):=(iP (a:=⟨w1.heap.size+1,0,none⟩) (pk _ (by show w1.heap.size+1≠_;omega))).trans y1;have g3:W3.cell? ⟨g,0,none⟩=some (.slice (some ⟨gb,0,none⟩) (14+xs.length) cap):=by refine(iP (a:=⟨g,0,none⟩) (pk _ λq=>?_)).trans y5;have q:g=w2.heap.size+1:=q;have:=ji _ _ y5;unfold World.cell? at y5;rw[q,j1] at y5;cases y5
 have h3:W3.heap[gb]? =some (.cells cur 5 (0,0)):=by refine(pk _ λq=>?_).trans y8;rw[q,j1] at y8;cases y8
 have k3:W3.heap[w2.heap.size]? =some (.deferred (some [])):=(pk _ (by omega)).trans j2;have bl3:RowKit.Below w1.heap.size w1 W3:=by refine j3.trans ?_;rw[hW3];exact⟨rfl,rfl,rfl,by simp,λk hk=>World.putObj_heap_other (by omega)⟩
 rw[<-hW3];clear hW3
 gi_wp2
 refine⟨by simp,.inl ⟨_,_,rfl,run_takeDeferred k3,?_⟩⟩;refine⟨.tuple #[.slice (some ⟨g,0,none⟩) 1 cp,.int .i64 0],by simp[results,Tryz.f49,go_sem],_,rfl,?_,?_⟩
 ·exact b1.trans ((bl3.mono b1.size).trans ⟨rfl,rfl,rfl,by simp,λk hk=>World.putObj_heap_other (by have:=b1.size;omega)⟩)
 ·have b1s:=b1.size;have e4:∀(q:Nat)(cs:Array Value)(t:TypeId)(fz:Nat×Nat),W3.heap[q]? =some (Obj.cells cs t fz)->(W3.putObj w2.heap.size (.deferred none)).heap[q]? =W3.heap[q]? :=λq cs t fz h=>World.putObj_heap_other λe=>(by rw[e,k3] at h;cases h);refine .gH (ys:=[.slice (some ⟨gb,0,none⟩) (14+xs.length) cap]) (.cons ?_ .nil) (λi y hy=>?_) rfl y2
  ·refine .gH (ys:=Lt.bd (lZ++xs)) (Lt.KF _) (λi y hy=>?_) rfl y9;unfold Lt.dj;rw[ai (by show¬gb<_;omega),Lt.qR ((e4 gb _ _ _ h3).trans h3)];rw[<-y10,qq] at hy;split at hy
   ·simpa using hy
   ·cases hy
  ·have hi:i=0:=by
    cases i with
    |zero=>rfl
    |succ i=>cases hy
   subst hi;cases hy;unfold Lt.dj;rw[ai (by show¬g<_;omega)];obtain⟨cs,t,fz,hc⟩:∃cs t fz,W3.heap[g]? =some (.cells cs t fz):=by
    unfold World.cell? at g3;split at g3
    ·rename_i q;exact⟨_,_,_,q⟩
    ·cases g3
   rw[Lt.qR ((e4 g _ _ _ hc).trans hc)];unfold World.cell? at g3;simpa[hc] using g3
end
section
open Go.Shelf Go.RowKit Go.Lib
attribute [local go_sem] Oper.semAt_some
theorem QB{w:World}{a:Option Addr}{c:Nat}(HN:∀W,RowKit.Below w.heap.size w W->Calls Tryz.prog 97 #[.int .i64 0] W λe W'=>e=.returned (.int .i64 0)/\RowKit.Below W.heap.size W W'):
 Calls Tryz.prog 49 #[.slice a 0 c] w λe w'=>e=.returned (.tuple #[.slice none 0 0,.int .i64 0])/\RowKit.Below w.heap.size w w':=by
 refine(callsIn_wide (n:=0)).1 ?_;refine callsIn_of_wp_marks Tryz.func49 rfl trivial ?_ rfl;simp only[Tryz.ntmps49,List.size_toArray,cQ,List.length_nil,Nat.reduceAdd,Nat.reduceSub,Array.replicate_succ,xk,List.push_toArray,List.append_toArray,iF,jg]
 gi_wp2
 refine⟨trivial,rfl,(callsIn_wide.2 (HN _ (fb _ _))).mono ?_⟩
 rintro e w1 ⟨rfl,b1⟩
 gi_wp2
 refine⟨trivial,rfl,(callsIn_wide.2 (Uj _ _ _ _)).mono ?_⟩
 rintro e w2 ⟨rfl,rfl⟩
 gi_wp2
 have q2:=qH (w1.alloc (.cells #[.int .i64 0] 3)) (.slice none 0 0) 88;have q3:=qH ((w1.alloc (.cells #[.int .i64 0] 3)).alloc (.cells #[.slice none 0 0] 88)) (.slice a 0 c) 28;obtain⟨w2,hw2⟩:∃w2,w2=((w1.alloc (.cells #[.int .i64 0] 3)).alloc (.cells #[.slice none 0 0] 88)).alloc (.cells #[.slice a 0 c] 28):=⟨_,rfl⟩;have bw:RowKit.Below w1.heap.size w1 w2:=by rw[hw2];exact(((fb _ w1).alloc (aB _) _).alloc (by simp) _).alloc (by simp;omega) _
 have z2:w1.heap.size+3<=w2.heap.size:=by rw[hw2];simp
 have bb2:RowKit.Below (w1.heap.size+2) ((w1.alloc (.cells #[.int .i64 0] 3)).alloc (.cells #[.slice none 0 0] 88)) w2:=by rw[hw2];exact(fb _ _).alloc (by simp) _
 simp only[World.size_alloc] at q2 q3;rw[<-hw2] at q3;have e2:=(bb2.cell (p:=⟨w1.heap.size+1,0,none⟩) (by show w1.heap.size+1<w1.heap.size+2;omega)).trans q2.1;obtain⟨e3,f3⟩:=q3;rw[<-hw2];clear q2 bb2 hw2;refine LS (gf:=164) (lb:=#[.pointer (some ⟨w1.heap.size+1+1,0,none⟩)]) rfl (enters_of Tryz.func164 (by kernel_rfl) rfl) ?_;intro fn W1 hW1;refine(callsIn_wide (n:=0)).1 ?_;generalize hR0:ku fn _ _ _ _ _ .ready=R0 at hW1⊢;have bl:RowKit.Below w2.heap.size w2 W1:=by rw[hW1];exact((fb _ w2).alloc (aB _) _).alloc (by simp) _
 have d1:W1.heap[w2.heap.size]? =some (.deferred (some [])):=by rw[hW1];exact(Below.heap_alloc _ _ _ (by simp)).trans (World.alloc_heap_new w2 _)
 have d2:W1.heap[w2.heap.size+1]? =some (.loop R0):=by have:=World.alloc_heap_new (w2.alloc (.deferred (some []))) (.loop R0);rw[World.size_alloc] at this;rw[hW1];exact this
 clear hW1;refine(aeD (w1.heap.size+1+1) (w2.heap.size+1) a c W1 ((bl.cell (p:=⟨w1.heap.size+1+1,0,none⟩) (by show w1.heap.size+1+1<_;omega)).trans e3)).mono ?_
 rintro e W2 ⟨⟨v,rfl⟩,rfl⟩
 refine⟨⟨_,rfl⟩,d2,?_⟩;generalize ku fn _ _ _ _ _ .exhausted=R9;obtain⟨W3,hW3⟩:∃W3,W3=W2.putObj (w2.heap.size+1) (.loop R9):=⟨_,rfl⟩;have pk:∀k,k≠w2.heap.size+1->W3.heap[k]? =W2.heap[k]? :=λk hk=>by rw[hW3];exact World.putObj_heap_other hk
 have c3:W3.cell? ⟨w1.heap.size+1,0,none⟩=some (.slice none 0 0):=(iP (a:=⟨w1.heap.size+1,0,none⟩) (pk _ (by show w1.heap.size+1≠_;omega))).trans ((bl.cell (p:=⟨w1.heap.size+1,0,none⟩) (by show w1.heap.size+1<_;omega)).trans e2);have k3:W3.heap[w2.heap.size]? =some (.deferred (some [])):=(pk _ (by omega)).trans d1;have bl3:RowKit.Below w1.heap.size w1 W3:=by refine bw.trans ((bl.mono (by omega)).trans ?_);rw[hW3];exact⟨rfl,rfl,rfl,by simp,λk hk=>World.putObj_heap_other (by omega)⟩
 rw[<-hW3];clear hW3
 gi_wp2
 refine⟨by simp,.inl ⟨_,_,rfl,run_takeDeferred k3,?_⟩⟩;exact⟨.tuple #[.slice none 0 0,.int .i64 0],by simp[results,Tryz.f49,go_sem],rfl,b1.trans ((bl3.mono b1.size).trans ⟨rfl,rfl,rfl,by simp,λk hk=>World.putObj_heap_other (by have:=b1.size;omega)⟩)⟩
namespace Lt
noncomputable def yc(N:Int->Option Int)(x:Value):Option (Value×Int):=jQ x λxs=>ob (N xs.length) λk=>
 cond xs.isEmpty (cond (ak k 0) (some (ae 0 [],0)) none) (cond (ak k 1&&Nat.ble xs.length 65519) (some (ae 1 [ae (14+xs.length) (bd (lZ++xs))],0)) none)
variable{r:Value×Int}
theorem Qw{N:Int->Option Int}{xs:List Int}(e:(ob (N xs.length) λk=>cond xs.isEmpty (cond (ak k 0) (some (ae 0 [],(0:Int))) none) (cond (ak k 1&&Nat.ble xs.length 65519) (some (ae 1 [ae (14+xs.length) (bd (lZ++xs))],0)) none))=some r):
 (xs=[]/\N 0=some 0/\r=(ae 0 [],0))\/(0<xs.length/\xs.length<=65519/\N xs.length=some 1/\r=(ae 1 [ae (14+xs.length) (bd (lZ++xs))],0)):=by
 replace e:=af e;obtain⟨k,hk,e⟩:=e;cases xs with
 |nil=>
  left;cases hb:ak k 0 with
  |false=>simp[hb] at e
  |true=>have:=Kj hb;subst this;exact⟨rfl,hk,(bu (show some _=some r from e)).symm⟩
 |cons a xs=>right;obtain⟨q,e2⟩:=aT (show cond (ak k 1&&Nat.ble (a::xs).length 65519) _ none=some r from e);rw[bg] at q;have:=Kj q.1;subst this;exact⟨by simp,cI q.2,hk,(bu e2).symm⟩
theorem YQ{N:Int->Option Int}{x:Value}(e:yc N x=some r):aY r.1 /\bB [r.1]=true:=by
 unfold yc jQ at e;split at e
 ·obtain⟨_,e⟩:=aT e;replace e:=af e;obtain⟨xs,_,e⟩:=e;rcases Qw e with⟨_,_,rfl⟩|⟨_,_,_,rfl⟩
  ·exact fq ⟨(λx h=>by cases h),rfl⟩
  ·refine fq ⟨λx h=>?_,rfl⟩;rw[kC] at h;rw[h];exact(fq (D1 _)).1
 ·cases e
theorem YT{N:Int->Option Int}(HN:dI Tryz.prog 97 [.i .i64] (.i .i64) N):dI Tryz.prog 49 [.v] rL (yc N):=by
 intro ls r e hl us hu;obtain⟨x,r1,us1,h1,h2,rfl⟩:=gD hu;obtain⟨rfl,rfl⟩:=pN h2;obtain rfl:=lY h1;replace e:yc N x=some r:=e;have hx:=(hl x (by simp)).1;have hc:∀(n k:Int),N n=some k->∀W,Calls Tryz.prog 97 #[.int .i64 n] W λe W'=>e=.returned (.int .i64 k)/\RowKit.Below W.heap.size W W':=λn k hk W=>by obtain⟨_,pv,f2,f3⟩:=HN [.i n] k hk (λx hx=>by simp at hx) _ rfl;have f2:some (Value.int .i64 k,([]:List bo))=some (pv,[]):=f2;cases f2;exact Sa f3 (m:=λ_ _=>none) (λ_ _ _ h=>by cases h) (.cons (.int _ _) .nil)
 refine⟨Kz (YQ e),_,rfl,Pf (λa ha=>?_) λm args' w hm A=>?_⟩
 ·rw[kC] at ha;rw[ha];exact hx
 ·obtain⟨al⟩:=args';replace A:aP m _ al:=A;cases A with|cons a0 A=>?_
  cases A;obtain⟨xs,hK,hv⟩:=A7 hm e a0;rcases Qw hK with⟨rfl,k0,rfl⟩|⟨k1,k2,k3,rfl⟩
  ·rcases hv with⟨a,c,rfl,_⟩|⟨_,c,rfl⟩
   ·exact(QB λW _=>hc 0 0 k0 W).mono λe w' ⟨h1,h2⟩=>⟨_,h1,h2,.fN⟩
   ·exact(QB λW _=>hc 0 0 k0 W).mono λe w' ⟨h1,h2⟩=>⟨_,h1,h2,.fN⟩
  ·rcases hv with⟨⟨b,o,sp⟩,c,rfl,h3,h4⟩|⟨rfl,c,rfl⟩
   ·have hs:∀n v,bj m x v->v=.slice (some ⟨b,o,sp⟩) n c->0<n->sp=none:=by
     intro n v h q p;cases h<;>cases q
     ·assumption
     all_goals cases p
    have hs:=hs _ _ a0 rfl k1;subst hs;exact YU hm k1 k2 h3 (λi hi=>by rw[<-h4 i hi,Addr.add_lit]) λW _=>hc _ 1 k3 W
   ·simp at k1
end Lt
end
section
open Go.Shelf Go.RowKit Go.Lib
theorem ZZ(n:Nat)(hn:n<=1000000000)(w:World):Calls Tryz.prog 178 #[.slice none 0 0,.int .i64 n] w λe w'=>∃v,e=.returned v/\RowKit.Below w.heap.size w w'/\w'.ownsRow w.heap.size 5 1 v 0 []:=by
 have mixed:Tryz.prog.follows .mixedOrders=true:=by kernel_rfl
 go_enter Tryz.func178,Tryz.ntmps178
 by_cases h0:n=0
 ·subst h0
  go_wp2
  go_ret
  exact⟨_,rfl,fb _ _,World.ownsRow_nil _ _ _ _⟩
 ·have hb:Tryz.t5.bytes=1:=rfl;have hc:=Lt.KT (need:=n) (c:=0) (by omega);have g1:¬281474976710656<Builtin.nextslicecap n 0*Tryz.t5.bytes:=by rw[hb];omega
  have g2:((n:Int)*(Tryz.t5.bytes:Int))<=281474976710656:=by rw[hb];omega
  have g3:(n:Int)<=9223372036854775807:=by omega
  go_wp2
  go_ret
  generalize hq:(Question.appendCap n 0 5).cut _=cp;have hcp:n<=cp/\cp<=maxLen:=by have hlt:=Nat.mod_lt (w.tape w.drawn (.appendCap n 0 5)) (show 0<2^63 -n by omega);rw[<-hq];unfold Question.cut maxLen;simp only;omega
  refine⟨_,rfl,((fb _ w).alloc (aB _) _).drew,rfl,.inr ⟨_,cp,_,rfl,aB _,World.alloc_heap_new w _,gZ _,hcp.2,?_,by simp⟩⟩;simp[Builtin.zeroCells];omega
end
section
open Go.Shelf Go.RowKit Go.Lib
structure xE(w:World)(r:Option Addr×Nat×Nat×List Value):Prop where
 len:r.2.2.2.length=r.2.1
 cell:∀a,r.1 =some a->∀j u,r.2.2.2[j]? =some u->w.cell? (a.add j)=some u
 nil:r.1 =none->r.2.1 =0
 one:∀u∈r.2.2.2,u.oneCell'=true
def jV(rows:List (Option Addr×Nat×Nat×List Value)):Nat:=(rows.map λr=>r.2.1).sum
def vL(rows:List (Option Addr×Nat×Nat×List Value)):List Value:=rows.flatMap λr=>r.2.2.2
theorem Xh:(Tryz.prog.info? 5).map (λi=>(i.zero,i.size,i.bytes))=some (some (.int .u8 0),1,1):=by kernel_rfl
variable{n:Nat}
theorem Fv{w:World}{B:Nat}{e:TypeId}{k:Nat}{v:Value}{xs:List Value}(h:w.ownsRow B e k v n xs){q:Nat}(hq:v.ownBlock=some q):B<=q:=by
 obtain⟨_,⟨rfl,_⟩|⟨g,cp,_,rfl,hB,_⟩⟩:=h
 ·cases hq
 ·cases hq;exact hB
theorem XW{p a:Option Addr}{cp c:Nat}(h:n<=cp)(w:World):(Builtin.append_ #[28,28] 28 #[.slice p n cp,.slice a 0 c]).run Tryz.prog w=.ok (.slice p n cp) w:=by obtain⟨i,h1,_,h2,_⟩:=info_parts Xh;have A:Lt.uY Tryz.prog w #[28,28] #[.slice p n cp,.slice a 0 c] 28 28 5 (.slice 5) i p n cp (.slice a 0 c) 0:=⟨rfl,rfl,rfl,rfl,Tryz.underlying28,Tryz.underlying28,h1,.inl ⟨rfl,rfl⟩⟩;have:=Lt.AR A (rt:=28) (by omega) (vs:=#[]) (by cases a<;>simp[Lt.pB,Lt.me,Builtin.firstCells,h2,Lt.BF]) (w':=w) (by cases p<;>rfl);simpa using this
theorem YK(w:World)(b o c:Nat)(rows:List (Option Addr×Nat×Nat×List Value))(_:rows.length<=c)(hc:∀i (h:i<rows.length),w.cell? ⟨b,o+i,none⟩=some (.slice rows[i].1 rows[i].2.1 rows[i].2.2.1))(hr:∀r∈rows,xE w r)(hs:jV rows<=1000000000)(hl:rows.length<=1000):
 Calls Tryz.prog 110 #[.slice (some ⟨b,o,none⟩) rows.length c] w λe w'=>∃v,e=.returned v/\RowKit.Below w.heap.size w w'/\w'.ownsRow w.heap.size 5 1 v (jV rows) (vL rows):=by
 have mixed:Tryz.prog.follows .mixedOrders=true:=by kernel_rfl
 go_enter Tryz.func110,Tryz.ntmps110
 go_wp2
 go_loopw [3,11] (λs p wr=>∃i:Nat,p=.int .i64 i/\i<=rows.length/\s=.int .i64 (jV (rows.take i))/\wr=w) (λs p wr=>rows.length -(Lib.intOf p).toNat)
 case atStart=>exact⟨0,rfl,gZ _,rfl,rfl⟩
 case round=>
  obtain⟨i,rfl,hi,rfl,hw⟩:=hrel;have hw:=hw.symm;subst hw;rcases dg i rows.length with hin|hin
  ·have h0:=hc i hin;have hs1:jV (rows.take (i+1))=jV (rows.take i)+rows[i].2.1 :=by
    unfold jV;rw[List.take_add_one,dD hin,jZ,List.sum_append];simp
   have hle:jV (rows.take (i+1))<=jV rows:=by
    unfold jV
    conv=>rhs;rw[<-mD (i+1) rows]
    rw[jZ,List.sum_append];omega
   go_wp2_with fail
   refine⟨⟨i+1,by simp,by omega,?_,trivial⟩,by simp[Lib.intOf];omega⟩;rw[hs1];simp
  ·obtain rfl:i=rows.length:=by omega
   rw[rG]
   go_wp2_with (go_at_call 178;refine(ZZ (jV rows) hs _).mono ?_;rintro e w1 ⟨v,rfl,b1,o1⟩)
   obtain⟨ti,t1,t2,t3,t4⟩:=info_parts Xh
   go_loopw [6,27] (λs p wr=>∃i:Nat,p=.int .i64 i/\i<=rows.length/\wr.ownsRow w.heap.size 5 1 s (jV (rows.take i)) (vL (rows.take i))/\RowKit.Below w.heap.size w wr) (λs p wr=>rows.length -(Lib.intOf p).toNat)
   case atStart=>exact⟨0,rfl,gZ _,o1,b1⟩
   case round=>
    obtain⟨i,rfl,hi,ho,hb⟩:=hrel;rcases dg i rows.length with hin|hin
    ·have hr0:=hr rows[i] (dL hin);have h0:=hc i hin;have h0:=(hb.cell (ji _ _ h0)).trans h0;have hs1:jV (rows.take (i+1))=jV (rows.take i)+rows[i].2.1 :=by
      unfold jV;rw[List.take_add_one,dD hin,jZ,List.sum_append];simp
     have hc1:vL (rows.take (i+1))=vL (rows.take i)++rows[i].2.2.2 :=by unfold vL;rw[List.take_add_one,dD hin,gq];simp
     have hle:jV (rows.take (i+1))<=jV rows:=by
      unfold jV
      conv=>rhs;rw[<-mD (i+1) rows]
      rw[jZ,List.sum_append];omega
     rw[hs1] at hle;generalize hR:rows[i]=r at*;obtain⟨a,n,c',xs⟩:=r;obtain⟨r1,r2,r3,r4⟩:=hr0;simp only at r1 r2 r3 r4 hle h0 hs1 hc1;cases a with
     |none=>
      have r3:=r3 rfl;subst r3;have:xs=[]:=jJ r1;subst this;obtain⟨p,n',cp,rfl,hcp⟩:∃p n' cp,u6=.slice p n' cp/\n'<=cp:=by
       obtain⟨_,⟨rfl,_⟩|⟨g,cp,_,rfl,_,_,h,_⟩⟩:=ho
       ·exact⟨_,_,_,rfl,aB _⟩
       ·exact⟨_,_,_,rfl,h⟩
      go_wp2_with (at_builtin;refine wpList_append_run _ rfl _ _ 28 28 rfl _ _ rfl rfl _ _ (XW hcp _) ?_)
      refine⟨⟨i+1,by simp,by omega,?_,hb⟩,by simp[Lib.intOf];omega⟩;rw[hs1,hc1];simpa using ho
     |some a=>
      have cell':∀j u,xs[j]? =some u->wr.cell? (a.add j)=some u:=λj u hu=>(hb.cell (ji _ _ (r2 a rfl j u hu))).trans (r2 a rfl j u hu)
      go_wp2_with (at_builtin;go_loud (refine wpList_append_own _ rfl _ _ 28 rfl w.heap.size 5 ti (.int .u8 0) 1 1 Tryz.underlying28 t1 t2 t3 t4 rfl (by decide) _ _ _ rfl ho a n c' xs rfl (by omega) cell' r4 (by unfold maxLen;omega) (by omega) hb.size ?_;intro v' w' ho' hg hnil))
      refine⟨⟨i+1,by simp,by omega,?_,?_⟩,by simp[Lib.intOf];omega⟩
      ·rw[hs1,hc1];exact ho'
      ·exact hb.grown hg hb.size λq e=>Fv ho e
    ·obtain rfl:i=rows.length:=by omega
     rw[rG] at ho
     go_wp2
     go_ret
     exact⟨_,rfl,hb,ho⟩
end
namespace Lt
section
open Go.Shelf Go.RowKit Go.Lib
variable{h:Heap} {nx:Nat} {w w':World} {ρ:Ren}
theorem bh.J6(H:bh ρ h w)(hn:ρ nx=none){ob:eV}{L:Loc}(hL:w.heap.size<=L.block)
 (he:∀b,b<w.heap.size->w'.heap[b]? =w.heap[b]?) (hO:lh (ρ.with nx L) w' L ob):bh (ρ.with nx L) (h.set nx ob) w' where
 obj p x hp:=by
  rw[Tr.bD] at hp;by_cases e:p=nx
  ·rw[ar e] at hp;subst e;obtain rfl:=bu hp;exact⟨L,Ren.iO _ _ _,hO⟩
  ·rw[ai e] at hp;obtain⟨M,h1,h2⟩:=H.obj p x hp;exact⟨M,(Ren.sX hn).cq _ _ h1,(h2.mono (Ren.sX hn)).block (he _ h2.lt)⟩
 inj p q M M' x y hp hq r1 r2 hb:=by
  rw[Tr.bD] at hp hq;by_cases e:p=nx
  ·by_cases e':q=nx
   ·rw[e,e']
   ·rw[ai e'] at hq;rw[e,Ren.iO] at r1;rw[Ren.jX e'] at r2;obtain rfl:=bu r1;obtain⟨N,a1,a2⟩:=H.obj q y hq;obtain rfl:=bu (a1.symm.trans r2);have:=a2.lt;omega
  ·rw[ai e] at hp;rw[Ren.jX e] at r1;by_cases e':q=nx
   ·rw[e',Ren.iO] at r2;obtain rfl:=bu r2;obtain⟨N,a1,a2⟩:=H.obj p x hp;obtain rfl:=bu (a1.symm.trans r1);have:=a2.lt;omega
   ·rw[ai e'] at hq;rw[Ren.jX e'] at r2;exact H.inj p q M M' x y hp hq r1 r2 hb
 lit b i v hv:=by have hv:ρ.lit b i=some v:=hv;rw[oe (he b (H.yL hv))];exact H.lit b i v hv
 free b i v hv p x M hp hM:=by
  have hv:ρ.lit b i=some v:=hv;rw[Tr.bD] at hp;by_cases e:p=nx
  ·rw[e,Ren.iO] at hM;obtain rfl:=bu hM;have:=H.yL hv;omega
  ·rw[ai e] at hp;rw[Ren.jX e] at hM;exact H.free b i v hv p x M hp hM
theorem bP.J6{ob:eV}{L:Loc}(hL:w.heap.size<=L.block)
 (h1:w'.os=w.os) (h2:w'.tape=w.tape) (h3:w'.output=w.output) (h4:w.heap.size<=w'.heap.size)
 (he:∀b,b<w.heap.size->w'.heap[b]? =w.heap[b]?):bP ρ h nx w (ρ.with nx L) (h.set nx ob) (nx+1) w' where
 os:=h1
 tape:=h2
 output:=h3
 size:=h4
 block b hb _:=he b hb
 owned b hb ho:=by
  obtain⟨p,x,M,a1,a2,a3⟩:=ho;rw[Tr.bD] at a1;by_cases e:p=nx
  ·rw[e,Ren.iO] at a2;obtain rfl:=bu a2;omega
  ·rw[ai e] at a1;rw[Ren.jX e] at a2;exact⟨p,x,M,a1,a2,a3⟩
 le:=kc _
 cq o ho:=Ren.jX (by omega)
 lit _ _ _ h:=h
 eU _ _ _ h:=.inl h
def YJ:HT:=⟨1,⟨[(0,.w7 0 0 4 4)],[(0,.cells [.gr 1 1,.v,.v,.v] 28),(1,.grow 1 5)],2⟩,0,⟨[(0,.gr 0 1)],[(0,.grow 1 5)],1⟩⟩
noncomputable def uF(_:Nat):Value->Value->Value->List Value->Option (List Value):=λa b c d=>ob (rF d) λds=>jQ a λxs=>jQ b λys=>jQ c λzs=>
 cond (Nat.blt 0 (ds++(xs++(ys++zs))).length&&Nat.ble (ds++(xs++(ys++zs))).length 1000000000) (some (bd (ds++(xs++(ys++zs))))) none
theorem Xk:∀{l:List Value}{xs:List Int},rF l=some xs->l=bd xs
 |[],_,e=>by cases e;rfl
 |v::l,xs,e=>by
  unfold rF at e;split at e
  ·rename_i q;cases q
  ·rename_i b l' q;cases q;replace e:=af e;obtain⟨ys,h1,e⟩:=e;cases e;rw[Xk h1];rfl
  ·cases e
variable{x:Value} {β:Type} {b:β}
theorem Jp{K:List Int->Option β}(e:jQ x K=some b):∃xs,K xs=some b:=by
 unfold jQ at e;split at e
 ·obtain⟨_,e⟩:=aT e;replace e:=af e;obtain⟨xs,_,e⟩:=e;exact⟨xs,e⟩
 ·cases e
theorem Mg{σ:Nm}(hm:Kn ρ.lit w){v y:Value}{K:List Int->Option β}(e:jQ x K=some b)(d:DV σ (.v x) v)(r:aF ρ v y):
 ∃xs p c,K xs=some b/\y=.slice p xs.length c/\xE w (p,xs.length,c,bd xs):=by
 have cells:∀(xs:List Int)(a:Addr),(∀i,i<xs.length->w.cell? (a.add i)=some (.int .u8 (xs.getD i 0)))->∀j u,(bd xs)[j]? =some u->w.cell? (a.add j)=some u:=λxs a h j u hu=>by
  have hj:j<xs.length:=by
   rcases dg j xs.length with q|q
   ·exact q
   ·rw[lN (by simp[bd];omega)] at hu;cases hu
  rw[h j hj];unfold bd at hu;rw[List.getElem?_map,dD hj] at hu;rw[Ao,dD hj];simpa using hu
 cases d with
 |v h h1=>
  obtain⟨xs,hK,⟨a,c,rfl,_,hc⟩|⟨rfl,c,rfl⟩⟩:=A7 hm e (h.rel r)
  ·exact⟨xs,some a,c,hK,rfl,by simp[bd],λq hq=>by cases hq;exact cells xs a hc,(λq=>by cases q),rU _⟩
  ·exact⟨[],none,c,hK,rfl,rfl,(λ_ q=>by cases q),λ_=>rfl,rU _⟩
 |im=>cases r;exact⟨[],none,0,e,rfl,rfl,(λ_ q=>by cases q),λ_=>rfl,rU _⟩
theorem abI(w:Nat):pq Tryz.prog 110 YJ (uF w):=by
 intro ls r st so e hst hso σ vs h nx hlen R;obtain⟨a,b,c,d,rfl⟩:∃a b c d,ls=[.v a,.v b,.v c,.c d]:=by
  match ls,e with
  |[.v a,.v b,.v c,.c d],_=>exact⟨a,b,c,d,rfl⟩
  |[],e=>cases e
  | .i _::_,e=>cases e
  | .b _::_,e=>cases e
  | .s _::_,e=>cases e
  | .n _::_,e=>cases e
  | .c _::_,e=>cases e
  |[.v _],e=>cases e
  | .v _::.i _::_,e=>cases e
  | .v _::.b _::_,e=>cases e
  | .v _::.s _::_,e=>cases e
  | .v _::.n _::_,e=>cases e
  | .v _::.c _::_,e=>cases e
  |[.v _,.v _],e=>cases e
  | .v _::.v _::.i _::_,e=>cases e
  | .v _::.v _::.b _::_,e=>cases e
  | .v _::.v _::.s _::_,e=>cases e
  | .v _::.v _::.n _::_,e=>cases e
  | .v _::.v _::.c _::_,e=>cases e
  |[.v _,.v _,.v _],e=>cases e
  | .v _::.v _::.v _::.i _::_,e=>cases e
  | .v _::.v _::.v _::.b _::_,e=>cases e
  | .v _::.v _::.v _::.s _::_,e=>cases e
  | .v _::.v _::.v _::.n _::_,e=>cases e
  | .v _::.v _::.v _::.v _::_,e=>cases e
  | .v _::.v _::.v _::.c _::_::_,e=>cases e
 replace e:uF w a b c d=some r:=e;cases hst;cases hso;unfold uF at e;replace e:=af e;obtain⟨ds,hd,e⟩:=e;have hds:=Xk hd;subst hds;obtain⟨v0,rfl⟩:∃v,vs=[v]:=by
  match vs,hlen with
  |[v],_=>exact⟨v,rfl⟩
 obtain⟨u0,h0,d0⟩:=R.tm 0 (.sl 0 0 4 4) rfl;have h0:some v0=some u0:=h0;cases h0;obtain⟨o0,m0,ws,k1,k2,k3⟩:=R.obj 0 (.cells [.gr 1 1,.v a,.v b,.v c] 28) rfl;have hv0:v0=.slice (some ⟨o0,0,none⟩) 4 4:=by
  cases d0 with
  |sl g _ _=>rw[k1] at g;cases g;rfl
 subst hv0;cases k3 with|cons x0 k3=>?_
 cases k3 with|cons x1 k3=>?_
 cases k3 with|cons x2 k3=>?_
 cases k3 with|cons x3 k3=>?_
 cases k3;rename_i y0 y1 y2 y3;obtain⟨_,k5,k6⟩:=R.obj 1 (.grow 1 (bd ds) 5) rfl;have key:∀(ρ:Ren)(w:World),Kn ρ.lit w->∀z1 z2 z3,aF ρ y1 z1->aF ρ y2 z2->aF ρ y3 z3->∃xs ys zs p1 c1 p2 c2 p3 c3,(cond (Nat.blt 0 (ds++(xs++(ys++zs))).length&&Nat.ble (ds++(xs++(ys++zs))).length 1000000000) (some (bd (ds++(xs++(ys++zs))))) none=some r)/\
  z1=.slice p1 xs.length c1/\xE w (p1,xs.length,c1,bd xs)/\z2=.slice p2 ys.length c2/\xE w (p2,ys.length,c2,bd ys)/\z3=.slice p3 zs.length c3/\xE w (p3,zs.length,c3,bd zs):=by
  intro ρ w hm z1 z2 z3 r1 r2 r3;obtain⟨xs,p1,c1,e1,q1,t1⟩:=Mg hm e x1 r1;obtain⟨ys,p2,c2,e2,q2,t2⟩:=Mg hm e1 x2 r2;obtain⟨zs,p3,c3,e3,q3,t3⟩:=Mg hm e2 x3 r3;exact⟨xs,ys,zs,p1,c1,p2,c2,p3,c3,e3,q1,t1,q2,t2,q3,t3⟩
 have hr:∃rs:List Int,r=bd rs/\0<rs.length/\rs.length<=1000000000:=by obtain⟨xs,e1⟩:=Jp e;obtain⟨ys,e2⟩:=Jp e1;obtain⟨zs,e3⟩:=Jp e2;obtain⟨q,e4⟩:=aT e3;rw[bg] at q;exact⟨_,(bu e4).symm,cT q.1,cI q.2⟩
 obtain⟨rs,rfl,hr1,hr2⟩:=hr;refine⟨λid=>if id=0 then some (some nx,rs.length) else none,.slice (some ⟨nx,0,none⟩) rs.length (bt+1),h.set nx (.cells (bd rs) 5 true),nx+1,?_,kc _,⟨λt sv ht=>?_,λid so hs=>?_,λid id' so so' o1 n1 n1' a1 a2 _ _=>?_,λid o n q=>?_,λid q=>?_⟩,⟨λk hk=>absurd hk (Nat.not_lt_zero k),λid o n q=>?_⟩⟩
 ·intro ρ args' cs w1 A H N;obtain⟨al⟩:=args';replace A:bk ρ _ al:=A;obtain⟨x0',rfl⟩:∃x,al=[x]:=by
   have:=A.length
   match al,this with
   |[x],_=>exact⟨x,rfl⟩
  cases A with|cons a0 A=>?_
  cases A;obtain⟨L0,hL0,cz,fz,q1,q2,q3⟩:=H.obj o0 _ k2;obtain⟨c1,c2,c3,c4⟩:=q3;obtain⟨hbase,hsz⟩:=c3 rfl;obtain⟨z0,g0,r0⟩:=c4 0 y0 rfl;obtain⟨z1,g1,r1⟩:=c4 1 y1 rfl;obtain⟨z2,g2,r2⟩:=c4 2 y2 rfl;obtain⟨z3,g3,r3⟩:=c4 3 y3 rfl;obtain⟨xs,ys,zs,p1,n1,p2,n2,p3,n3,e3,rfl,t1,rfl,t2,rfl,t3⟩:=key ρ w1 H.lit z1 z2 z3 r1 r2 r3;have e3:=(bu (aT e3).2).symm;have hrs:rs=ds++(xs++(ys++zs)):=by
   have:(bd rs).length=(bd (ds++(xs++(ys++zs)))).length:=by rw[e3]
   simp only[bd,eD] at this;refine s9 λi=>?_;have h2:=bK (·[i]?) e3;simp only[bd,List.getElem?_map] at h2;cases h3:rs[i]? <;>cases h4:(ds++(xs++(ys++zs)))[i]? <;>simp_all
  obtain⟨p0,n0,rfl,t0⟩:∃p c,z0=.slice p ds.length c/\xE w1 (p,ds.length,c,bd ds):=by
   cases x0 with
   |gP g=>
    cases r0;rcases k6 with⟨_,hd0⟩|⟨o,n,g1,_⟩
    ·have:ds=[]:=by cases ds<;>simp_all[bd]
     subst this;exact⟨none,0,rfl,rfl,(λ_ q=>by cases q),λ_=>rfl,rU _⟩
    ·rw[g] at g1;cases g1
   |@gr _ _ o n g=>
    rcases k6 with⟨g1,_⟩|⟨o',n',g1,hlen,us,g2,g3⟩
    ·rw[g] at g1;cases g1
    ·have g9:=bu (g.symm.trans g1);injection g9 with g7 g8;injection g7 with g7;subst g7 g8;have hn:n=ds.length:=by simp[bd] at hlen;omega
     subst hn;obtain⟨L1,hL1,cz1,fz1,b1,b2,b3⟩:=H.obj o _ g2;obtain⟨_,_,_,b4⟩:=b3;have hz:∃c,z0=.slice (some ⟨L1.block,L1.base+0,none⟩) ds.length c:=by
      generalize hs:Value.slice (some ⟨o,0,none⟩) ds.length (bt+1)=sv at r0;cases r0<;>first
       |(cases hs;done)
       |(injection hs with e1 e2 e3;exfalso;omega)
       |(injection hs with e1 e2 e3;exfalso;unfold bt at e3;omega)
       |(injection hs with e1 e2 e3;injection e1 with e1;injection e1 with e1 e4;subst e1 e2 e4;obtain rfl:=bu (hL1.symm.trans (by assumption));exact⟨_,rfl⟩)
     obtain⟨c',rfl⟩:=hz;refine⟨_,c',rfl,by simp[bd],λq hq j u hu=>?_,(λq=>by cases q),rU _⟩;cases hq;obtain⟨u',a1,a2⟩:=g3.get hu;have hu8:∃n,u=.int .u8 n:=by obtain⟨q8,_,h8⟩:=List.mem_map.1 (qv hu);exact⟨q8,h8.symm⟩
     obtain⟨n8,rfl⟩:=hu8;have hu':u'=.int .u8 n8:=by
      rcases a2 with rfl|⟨q,_⟩
      ·rfl
      ·cases q
     subst hu';obtain⟨v',w1',w2'⟩:=b4 j _ a1;cases w2';rw[Addr.add_lit];unfold World.cell?;simp only[b1];simpa using w1'
  have hx:x0'=.slice (some ⟨L0.block,L0.base+0,none⟩) 4 4:=by
   generalize hs:Value.slice (some ⟨o0,0,none⟩) 4 4=sv at a0;cases a0<;>first
    |(cases hs;done)
    |(injection hs with e1 e2 e3;exfalso;unfold bt at e3;omega)
    |(injection hs with e1 e2 e3;exfalso;omega)
    |(injection hs with e1 e2 e3;injection e1 with e1;injection e1 with e1 e4;subst e1 e2 e3 e4;obtain rfl:=bu (hL0.symm.trans (by assumption));rfl)
  subst hx;have hcell:∀i v,cz[L0.base+i]? =some v->w1.cell? ⟨L0.block,L0.base+0+i,none⟩=some v:=λi v hv=>by unfold World.cell?;simp only[q1];simpa using hv
  have hN:jV [(p0,ds.length,n0,bd ds),(p1,xs.length,n1,bd xs),(p2,ys.length,n2,bd ys),(p3,zs.length,n3,bd zs)]=rs.length:=by rw[hrs];simp[jV]
  have hC:vL [(p0,ds.length,n0,bd ds),(p1,xs.length,n1,bd xs),(p2,ys.length,n2,bd ys),(p3,zs.length,n3,bd zs)]=bd rs:=by rw[hrs];simp[vL,bd]
  obtain⟨e,w',fr,⟨v,rfl,B,O⟩,cc,hfnn,l1,l2,l3,fn,l4,l5⟩:=YK w1 L0.block (L0.base+0) 4 [(p0,ds.length,n0,bd ds),(p1,xs.length,n1,bd xs),(p2,ys.length,n2,bd ys),(p3,zs.length,n3,bd zs)] (by simp)
   (λi hi=>by
    have:i=0\/i=1\/i=2\/i=3:=by simp at hi;omega
    rcases this with rfl|rfl|rfl|rfl
    ·exact hcell 0 _ g0
    ·exact hcell 1 _ g1
    ·exact hcell 2 _ g2
    ·exact hcell 3 _ g3)
   (λr hr=>by
    simp only[cj,jh,jj] at hr;rcases hr with rfl|rfl|rfl|rfl
    ·exact t0
    ·exact t1
    ·exact t2
    ·exact t3)
   (by rw[hN];exact hr2) (by simp) cs
  rw[hN,hC] at O;obtain⟨_,⟨_,h0⟩|⟨g,cap,cur,rfl,hB,hg,hnc,_,hcs,htk⟩⟩:=O
  ·omega
  have hn:ρ nx=none:=N nx (aB _) (pj _);rw[gM] at hcs htk;refine⟨ρ.with nx ⟨g,0,cur.size⟩,fr,w',fn,_,cc,l1,l2,l3,⟨hfnn,l4⟩,l5,aF.gz (off:=0) (E:=1) (Ren.iO ρ nx _) Nat.one_pos (by simp[hcs]) hnc,H.J6 hn hB B.block ⟨cur,(0,0),hg,KU _,rfl,?_,(λq=>by cases q),λi u hu=>⟨u,?_,?_⟩⟩,bP.J6 hB B.os B.tape B.output B.size B.block⟩
  ·simp[bd,hcs];exact hnc
  ·rw[<-htk,qq] at hu;split at hu
   ·simpa using hu
   ·cases hu
  ·obtain⟨q,_,rfl⟩:=List.mem_map.1 (qv hu);exact .int _ _
 ·have ht:(Tr.nil.set 0 (SV.gr 0 1)).get t=some sv:=ht;rw[Tr.bD] at ht⊢;by_cases q:t=0
  ·rw[ar q] at ht⊢;cases ht;exact⟨_,rfl,.gr (by simp)⟩
  ·rw[ai q,Tr.get_nil] at ht;cases ht
 ·have hs:(Tr.nil.set 0 (SO.grow 1 (bd rs) 5)).get id=some so:=hs;rw[Tr.bD] at hs;by_cases q:id=0
  ·rw[ar q] at hs;cases hs;subst q;exact⟨by decide,D1 _,.inr ⟨nx,rs.length,by simp,by simp[bd],_,by rw[Tr.bD,ar rfl],cU.refl _⟩⟩
  ·rw[ai q,Tr.get_nil] at hs;cases hs
 ·have key:∀i s,(Tr.nil.set 0 (SO.grow 1 (bd rs) 5)).get i=some s->i=0:=by
   intro i s hs;rw[Tr.bD] at hs;by_cases q:i=0
   ·exact q
   ·rw[ai q,Tr.get_nil] at hs;cases hs
  rw[key id so a1,key id' so' a2]
 ·split at q
  ·cases q;omega
  ·cases q
 ·have q:1<=id:=q;exact ai (by omega)
 ·split at q
  ·cases q;exact .inl (aB _)
  ·cases q
end
end Lt
section
open Go.Shelf Go.RowKit Go.Lib
theorem uv:∀(vs:List Value)(n:Nat)(c:List Value),n+vs.length<=c.length->Lt.aW n vs c=c.take n++(vs++c.drop (n+vs.length))
 |[],n,c,_=>by simp[Lt.aW]
 |v::vs,n,c,h=>by simp only[cQ] at h;rw[Lt.aW,uv vs (n+1) _ (by simp;omega),List.take_add_one,List.take_set_of_le (aB _),List.getElem?_set_self (by omega),List.drop_set_of_lt (by omega)];simp[show n+1+vs.length=n+(vs.length+1) by omega]
structure nM(b:Nat)(cs:Array Value)(t:TypeId)(fz:Nat×Nat)(w w':World):Prop where
 os:w'.os=w.os
 tape:w'.tape=w.tape
 output:w'.output=w.output
 size:w'.heap.size=w.heap.size
 block:∀k,k≠b->w'.heap[k]? =w.heap[k]?
 at_:w'.heap[b]? =some (.cells cs t fz)
theorem Gd{P:Program}{w:World}{T e ty:TypeId}{size:Nat}(hu:P.underlying T=some (.slice e))(hs:∀w,(sizeOf e).run P w=.ok size w){b1 o1 n1 c1 b2 o2 n2 c2 k:Nat}(hk:k=Nat.min n2 n1){cs1 cs2:Array Value}{t1 t2:TypeId}{fz1 fz2:Nat×Nat}
 (h1:w.heap[b1]? =some (.cells cs1 t1 fz1)) (hz:Lt.vc fz1 cs1.size) (h2:w.heap[b2]? =some (.cells cs2 t2 fz2)) (g1:o1+k*size<=cs1.size) (g2:o2+k*size<=cs2.size) (ho:∀v∈(cs2.toList.drop o2).take (k*size),v.oneCell'=true):
 ∃w',(Builtin.copy_ #[T,T] ty #[.slice (some ⟨b1,o1,none⟩) n1 c1,.slice (some ⟨b2,o2,none⟩) n2 c2]).run P w=.ok (.int .i64 k) w'/\nM b1 ⟨Lt.aW o1 ((cs2.toList.drop o2).take (k*size)) cs1.toList⟩ t1 fz1 w w':=by
 subst hk;obtain⟨vs,p1,p2⟩:=Lt.Ge P h2 g2;have hl:vs.toList.length=Nat.min n2 n1*size:=by rw[p2,dH,dZ];simp;omega
 obtain⟨w',q1,q2,q3,q4,q5,q6,q7⟩:=Lt.zj P (k:=o1) vs.toList 0 w cs1 h1 hz (by omega) (λv hv=>ho v (p2▸hv));refine⟨w',?_,⟨q5,q6,q7,q4,q3,by rw[q2,p2];rfl⟩⟩;have hf:(Builtin.firstCells size (Nat.min n2 n1) (.slice (some ⟨b2,o2,none⟩) n2 c2)).run P w=.ok vs w:=by unfold Builtin.firstCells;exact p1
 unfold Builtin.copy_;simp only[List.getElem?_toArray,List.getElem?_cons_zero,List.getElem?_cons_succ,dO,run_underlying hu,hs,gA,Builtin.lenOf,fQ,hf,q1];rfl
end
section
open Go.Shelf Go.RowKit Go.Lib
theorem Ac:(Tryz.prog.info? 73).map (λi=>(i.zero,i.size,i.bytes))=some (some (.agg #[.int .i64 0,.int .i64 0,.int .i64 0,.slice none 0 0]),4,48):=by kernel_rfl
theorem Dc(w:World):(sizeOf 73).run Tryz.prog w=.ok 4 w:=by obtain⟨i,h1,_,h2,_⟩:=info_parts Ac;simp[sizeOf,typeInfo,h1,h2]
structure vk(w:World)(g n cp:Nat)(cur:Array Value):Prop where
 at_:w.heap[g]? =some (.cells cur 73 (0,0))
 size:cur.size=cp*4
 le:n<=cp
 few:n<1000000000
 one:∀v∈cur.toList.take (n*4),v.oneCell'=true
variable{cp g i n:Nat} {cur:Array Value} {w:World}
theorem vk.bB(h:vk w g n cp cur)(hi:i<=n):∀v∈(cur.toList.drop (i*4)).take ((n -i)*4),v.oneCell'=true:=λv hv=>h.one v (by
 have:(cur.toList.drop (i*4)).take ((n -i)*4)=(cur.toList.take (n*4)).drop (i*4):=by rw[List.drop_take];congr 1;omega
 rw[this] at hv;exact xr hv)
variable{X:List Value}
theorem aai{L S:List Value}(hX:X.length=4)(hS:S.length=(n -i)*4)(h1:(i+1)*4+S.length<=L.length)(hi:i<=n):
 (Lt.aW (i*4) ((X.drop 0).take (1*4)) (Lt.aW ((i+1)*4) S L)).take ((n+1)*4)=L.take (i*4)++(X++S):=by
 have hx:(X.drop 0).take (1*4)=X:=by rw[eL,gh (by omega)]
 have a1:∀D,(L.take ((i+1)*4)++(S++D)).take (i*4)=L.take (i*4):=λD=>by rw[List.take_append_of_le_length (by rw[dH];omega),List.take_take,kE (by omega)]
 have a2:∀D,(L.take ((i+1)*4)++(S++D)).drop (i*4+X.length)=S++D:=λD=>by rw[List.drop_left' (by rw[dH];omega)]
 rw[hx,uv X _ _ (by rw[Lt.kq];omega),uv S _ _ h1,a1,a2];rw[<-dY X,<-dY (L.take _),List.take_left' (by simp only[aR,dH];omega)]
theorem aan{vb:Nat}(hr:vk w g n cp cur)(hX:X.length=4)(hx1:∀v∈X,v.oneCell'=true)(hv:w.heap[vb]? =some (.cells ⟨X⟩ 73 (0,0)))(ca:vb≠g)(hi:i<n)(hc:n+1<=cp):
 Calls Tryz.prog 299 #[.slice (some ⟨g,0,none⟩) n cp,.int .i64 i,.slice (some ⟨vb,0,none⟩) 1 1] w λe w'=>∃cur',e=.returned (.slice (some ⟨g,0,none⟩) (n+1) cp)/\nM g cur' 73 (0,0) w w'/\cur'.toList.take ((n+1)*4)=cur.toList.take (i*4)++(X++(cur.toList.drop (i*4)).take ((n -i)*4)):=by
 have h1:=hr.bB (Nat.le_of_lt hi);obtain⟨hg,hsz,hn,hm,_⟩:=hr;have mixed:Tryz.prog.follows .mixedOrders=true:=by kernel_rfl
 have hcs:cur.toList.length=cp*4:=hsz;have hov:∀lb cb,(callFunc 342 #[.slice (some ⟨vb,0,none⟩) 1 1,.slice (some ⟨g,(i+1)*4,none⟩) lb cb]).run Tryz.prog w=.ok (.value (.bool false)) w:=λlb cb=>by
  rw[run_callFunc_extern Tryz.func342 (by kernel_rfl) (by kernel_rfl) (by kernel_rfl) (e:=Extern.SlicesOverlaps.overlaps #[27,27] #[4]) (by kernel_rfl),
   Lib.run_overlaps_apart w 27 4 73 Tryz.underlying27 4 Dc ⟨vb,0,none⟩ ⟨g,(i+1)*4,none⟩ 1 1 lb cb ca 73 73 4 (cp*4) (by simp[World.shape?,hv,hX]) (by simp[World.shape?,hg,hsz]) (by omega) (by simp[World.frozen?,hv]) (by simp[World.frozen?,hv])]
  rfl
 obtain⟨w1,p1,p2⟩:=Gd (P:=Tryz.prog) (ty:=3) (T:=27) (w:=w.drew) Tryz.underlying27 Dc (b1:=g) (o1:=(i+1)*4) (n1:=n -i) (c1:=cp -(i+1)) (b2:=g) (o2:=i*4) (n2:=n+1 -i) (c2:=cp -i) (k:=n -i) (by simp only[Nat.min_def];split<;>omega) hg (.inl rfl) hg (by omega) (by omega) h1;have hl1:((cur.toList.drop (i*4)).take ((n -i)*4)).length=(n -i)*4:=by rw[dH,dZ];omega
 have e1:=uv ((cur.toList.drop (i*4)).take ((n -i)*4)) ((i+1)*4) cur.toList (by omega);have hv1:w1.heap[vb]? =some (.cells ⟨X⟩ 73 (0,0)):=(p2.block vb ca).trans hv;obtain⟨w2,q1,q2⟩:=Gd (P:=Tryz.prog) (ty:=3) (T:=27) (w:=w1) Tryz.underlying27 Dc (b1:=g) (o1:=i*4) (n1:=n+1 -i) (c1:=cp -i) (b2:=vb) (o2:=0) (n2:=1) (c2:=1) (k:=1) (by simp only[Nat.min_def];split<;>omega) p2.at_ (.inl rfl) hv1 (by simp[Lt.kq];omega) (by simp[hX]) (λv h=>hx1 v (xr (List.mem_of_mem_take h)))
 go_enter Tryz.func299,Tryz.ntmps299
 have n1:¬((i:Int)=(n:Int)):=by omega
 have n2:¬(cp:Int)<(n:Int)+1:=by omega
 have n3:¬cp=i+1:=by omega
 have n4:¬cp=i:=by omega
 have n5:IntKind.i64.wrap ((i:Int)+1)=(i:Int)+1:=by rw[IntKind.wrap_i64];omega
 have n6:(0:Int)<=(i:Int)+1:=by omega
 have n7:((i:Int)+1).toNat=i+1:=by omega
 have n8:(i:Int)+1<=(n:Int)+1:=by omega
 have n9:(i:Int)<=(n:Int)+1:=by omega
 have n10:n+1 -(i+1)=n -i:=by omega
 go_wp2_with (simp only[hov])
 go_region_law_o (refine step_copy_runI rfl _ _ 27 27 rfl _ _ (by simp[Act.eval,Act.put]) (by simp[Act.eval,Act.put]) p1 ?_)
 go_wp2_with (at_builtin;refine wpList_copy_runI _ rfl _ _ 27 27 rfl _ _ rfl rfl q1 ?_)
 go_ret
 refine⟨_,rfl,⟨q2.os.trans p2.os,q2.tape.trans p2.tape,q2.output.trans p2.output,q2.size.trans p2.size,λk hk=>(q2.block k hk).trans (p2.block k hk),q2.at_⟩,?_⟩;exact aai hX hl1 (by omega) (by omega)
end
section
open Go.Shelf Go.RowKit Go.Lib
variable{X:List Value} {i n:Nat}
theorem aaj{L S Z:List Value}(hX:X.length=4)(hS:S.length=(n -i)*4)(hL:L.length=i*4)(hZ:(n+1 -i)*4<=Z.length)(hi:i<=n):
 (Lt.aW ((i+1)*4) S (Lt.aW (i*4) ((X.drop 0).take (1*4)) (L++Z))).take ((n+1)*4)=L++(X++S):=by
 have hx:(X.drop 0).take (1*4)=X:=by rw[eL,gh (by omega)]
 have a0:(L++Z).length=i*4+Z.length:=by rw[aR,hL]
 have a1:(L++Z).take (i*4)=L:=List.take_left' hL;have a2:(L++(X++(L++Z).drop (i*4+X.length))).take ((i+1)*4)=L++X:=by rw[<-dY,List.take_left' (by rw[aR];omega)]
 rw[hx,uv X _ _ (by omega),a1,uv S _ _ (by simp only[aR,dZ];omega),a2];rw[<-dY,List.take_left' (by simp only[aR];omega),dY]
theorem aam{w:World}{g cp vb:Nat}{cur:Array Value}(hr:vk w g n cp cur)(hX:X.length=4)(hx1:∀v∈X,v.oneCell'=true)(hv:w.heap[vb]? =some (.cells ⟨X⟩ 73 (0,0)))(hi:i<n)(hc:cp<n+1):
 Calls Tryz.prog 299 #[.slice (some ⟨g,0,none⟩) n cp,.int .i64 i,.slice (some ⟨vb,0,none⟩) 1 1] w λe w'=>∃cur' cp',e=.returned (.slice (some ⟨w.heap.size,0,none⟩) (n+1) cp')/\n+1<=cp'/\RowKit.Below w.heap.size w w'/\w'.heap[w.heap.size]? =some (.cells cur' 73 (0,0))/\
  cur'.toList.take ((n+1)*4)=cur.toList.take (i*4)++(X++(cur.toList.drop (i*4)).take ((n -i)*4)):=by
 have h1:=hr.bB (Nat.le_of_lt hi);obtain⟨hg,hsz,hn,hn9,_⟩:=hr;have mixed:Tryz.prog.follows .mixedOrders=true:=by kernel_rfl
 have hcs:cur.toList.length=cp*4:=hsz;obtain⟨inf,i1,i2,i3,i4⟩:=info_parts Ac;obtain⟨old,o1,o2⟩:=Lt.Ge Tryz.prog (w:=Lt.jx w) (b:=g) (k:=0) (n:=i*4) hg (by omega);have A:Lt.uY Tryz.prog w #[27,3] #[.slice (some ⟨g,0,none⟩) i cp,.int .i64 ((n:Int)+1 -i)] 27 3 73 (.int .i64) inf (some ⟨g,0,none⟩) i cp (.int .i64 ((n:Int)+1 -i)) (n+1 -i):=
  ⟨rfl,rfl,rfl,rfl,Tryz.underlying27,Tryz.underlying3,i1,.inr ⟨rfl,⟨_,by congr 1;simp;omega⟩,by omega,by rw[i4];omega⟩⟩
 have hcap:=Lt.KT (need:=i+(n+1 -i)) (c:=cp) (by omega);obtain⟨cap,k1,k2⟩:=Lt.PS (rt:=27) A (by omega) (by omega) (by rw[i4];omega) (old:=old) (vs:=Builtin.zeroCells (.agg #[.int .i64 0,.int .i64 0,.int .i64 0,.slice none 0 0]:Value).cells (n+1 -i)) (z:=.agg #[.int .i64 0,.int .i64 0,.int .i64 0,.slice none 0 0]) (by rw[i3];exact o1) (by
  rw[i3];simp[Lt.pB,Lt.me,zeroValue,typeInfo,i1,i2];intro h;omega) i2
 obtain⟨wa,hwa⟩:∃wa:World,wa={Lt.jx w with heap:=w.heap.push (.cells (old++Builtin.zeroCells (.agg #[.int .i64 0,.int .i64 0,.int .i64 0,.slice none 0 0]:Value).cells (n+1 -i)++Builtin.zeroCells (.agg #[.int .i64 0,.int .i64 0,.int .i64 0,.slice none 0 0]:Value).cells (cap -(i+(n+1 -i)))) 73)}:=⟨_,rfl⟩;rw[<-hwa] at k2;rw[show i+(n+1 -i)=n+1 by omega] at k1 k2;have ba:RowKit.Below w.heap.size w wa:=by rw[hwa];exact⟨rfl,rfl,rfl,by simp,λk hk=>by simp[Array.getElem?_push,Nat.ne_of_lt hk]⟩
 have sz:wa.heap.size=w.heap.size+1:=by rw[hwa];simp
 have aa:wa.heap[w.heap.size]? =some (.cells (old++Builtin.zeroCells (.agg #[.int .i64 0,.int .i64 0,.int .i64 0,.slice none 0 0]:Value).cells (n+1 -i)++Builtin.zeroCells (.agg #[.int .i64 0,.int .i64 0,.int .i64 0,.slice none 0 0]:Value).cells (cap -(i+(n+1 -i)))) 73 (0,0)):=by rw[hwa];simp
 have ol:old.size=i*4:=by show old.toList.length=_;rw[o2,eL,dH];omega
 generalize hZ:Builtin.zeroCells (.agg #[.int .i64 0,.int .i64 0,.int .i64 0,.slice none 0 0]:Value).cells (n+1 -i)=Z1 at aa;generalize hY:Builtin.zeroCells (.agg #[.int .i64 0,.int .i64 0,.int .i64 0,.slice none 0 0]:Value).cells _=Z2 at aa;have l1:Z1.size=(n+1 -i)*4:=by rw[<-hZ];simp[Builtin.zeroCells,Value.cells]
 have l2:Z2.size=(cap -(n+1))*4:=by rw[<-hY];simp[Builtin.zeroCells,Value.cells];omega
 have la:(old++Z1++Z2).size=cap*4:=by simp only[Array.size_append,ol,l1,l2];omega
 have lg:g<w.heap.size:=(lL.1 hg).1;have lv:vb<w.heap.size:=(lL.1 hv).1;obtain⟨w1,p1,p2⟩:=Gd (P:=Tryz.prog) (ty:=3) (T:=27) (w:=wa) Tryz.underlying27 Dc (b1:=w.heap.size) (o1:=i*4) (n1:=n+1 -i) (c1:=cap -i) (b2:=vb) (o2:=0) (n2:=1) (c2:=1) (k:=1) (by simp only[Nat.min_def];split<;>omega) aa (.inl rfl) ((ba.block vb lv).trans hv) (by rw[la];omega) (by simp[hX]) (λv h=>hx1 v (xr (List.mem_of_mem_take h)));obtain⟨w2,q1,q2⟩:=Gd (P:=Tryz.prog) (ty:=3) (T:=27) (w:=w1.drew) Tryz.underlying27 Dc (b1:=w.heap.size) (o1:=(i+1)*4) (n1:=n -i) (c1:=cap -(i+1)) (b2:=g) (o2:=i*4) (n2:=n -i) (c2:=cp -i) (k:=n -i) (by simp) p2.at_ (.inl rfl) ((p2.block g (by omega)).trans ((ba.block g lg).trans hg)) (by
  show _<=(Lt.aW _ _ _).length;rw[Lt.kq];show _<=(old++Z1++Z2).size;rw[la];omega) (by omega) h1
 clear hwa hZ hY
 go_enter Tryz.func299,Tryz.ntmps299
 have n1:¬((i:Int)=(n:Int)):=by omega
 have n2:(cp:Int)<(n:Int)+1:=by omega
 have n3:¬cap=i+1:=by omega
 have n4:¬cap=i:=by omega
 have n4':¬cp=i:=by omega
 have n5:IntKind.i64.wrap ((i:Int)+1)=(i:Int)+1:=by rw[IntKind.wrap_i64];omega
 have n6:(0:Int)<=(i:Int)+1:=by omega
 have n7:((i:Int)+1).toNat=i+1:=by omega
 have n8:(i:Int)+1<=(n:Int)+1:=by omega
 have n9:(i:Int)<=(n:Int)+1:=by omega
 have n10:n+1 -(i+1)=n -i:=by omega
 have n11:i<=n:=by omega
 go_wp2_with (first|(at_builtin;refine wpList_append_run _ rfl _ _ 27 3 rfl _ _ rfl rfl _ _ k2 ?_)|(at_builtin;refine wpList_copy_runI _ rfl _ _ 27 27 rfl _ _ rfl rfl p1 ?_))
 go_region_law_o (refine step_copy_runI rfl _ _ 27 27 rfl _ _ (by simp[Act.eval,Act.put]) (by simp[Act.eval,Act.put]) q1 ?_)
 go_wp2
 go_ret
 have wb:∀{cs:Array Value}{a b:World},nM w.heap.size cs 73 (0,0) a b->RowKit.Below w.heap.size a b:=λh=>⟨h.os,h.tape,h.output,ta h.size.symm,λk hk=>h.block k (by omega)⟩;refine⟨_,cap,rfl,by omega,ba.trans ((wb p2).trans ((fb _ w1).drew.trans (wb q2))),q2.at_,?_⟩;show(Lt.aW _ _ (Lt.aW _ _ (old++Z1++Z2).toList)).take _=_;have o3:old.toList=cur.toList.take (i*4):=by rw[o2,eL]
 rw[sY,sY,dY,o3];have hz1:Z1.toList.length=(n+1 -i)*4:=l1;exact aaj hX (by rw[dH,dZ];omega) (by rw[dH];omega) (by rw[aR];omega) (by omega)
end
section
open Go.Shelf Go.RowKit Go.Lib
variable{X cs:List Value} {n vb:Nat} {v:Value} {w:World}
theorem aal{B:Nat}(ho:w.ownsRow B 73 4 v n cs)(hB:B<=w.heap.size)(hn:n<1000000000)(hX:X.length=4)(hx1:∀v∈X,v.oneCell'=true)(hv:w.heap[vb]? =some (.cells ⟨X⟩ 73 (0,0))):
 Calls Tryz.prog 299 #[v,.int .i64 n,.slice (some ⟨vb,0,none⟩) 1 1] w λe w'=>∃v',e=.returned v'/\w'.ownsRow B 73 4 v' (n+1) (cs++X)/\w.grownBy w' v.ownBlock:=by
 have mixed:Tryz.prog.follows .mixedOrders=true:=by kernel_rfl
 obtain⟨inf,i1,i2,i3,i4⟩:=info_parts Ac;have cell:∀j u,X[j]? =some u->w.cell? (Addr.add ⟨vb,0,none⟩ j)=some u:=λj u hu=>by rw[Addr.add_lit];unfold World.cell?;simp only[hv];simpa using hu
 have ho':=ho;rcases ho.2 with⟨rfl,rfl⟩|⟨g,cp,cur,rfl,_,_,hle,_⟩
 ·go_enter Tryz.func299,Tryz.ntmps299
  go_wp2_with (at_builtin;refine wpList_append_own _ rfl _ _ 27 rfl B 73 inf _ 4 48 Tryz.underlying27 i1 i2 i3 i4 rfl (by decide) _ _ _ rfl ho' ⟨vb,0,none⟩ 1 1 X rfl (by omega) cell hx1 (by unfold maxLen;omega) (by omega) hB ?_;intro v' w' h1 h2 h3)
  go_ret
  exact⟨_,rfl,h1,h2⟩
 ·by_cases hcp:cp=n;all_goals
   go_enter Tryz.func299,Tryz.ntmps299
   go_wp2_with (at_builtin;refine wpList_append_own _ rfl _ _ 27 rfl B 73 inf _ 4 48 Tryz.underlying27 i1 i2 i3 i4 rfl (by decide) _ _ _ rfl ho' ⟨vb,0,none⟩ 1 1 X rfl (by omega) cell hx1 (by unfold maxLen;omega) (by omega) hB ?_;intro v' w' h1 h2 h3)
   go_ret
   exact⟨_,rfl,h1,h2⟩
def tu(w:World)(B:Nat)(v:Value)(n:Nat)(cs:List Value):Prop:=(v=.slice none 0 0/\n=0/\cs=[])\/∃g cp cur,v=.slice (some ⟨g,0,none⟩) n cp/\n<=cp/\B<=g/\w.heap[g]? =some (.cells cur 73 (0,0))/\cur.toList.take (n*4)=cs
theorem aak{B i:Nat}(ho:w.ownsRow B 73 4 v n cs)(h1:∀v∈cs,v.oneCell'=true)(hB:B<=w.heap.size)(hn:n<1000000000)(hi:i<=n)(hX:X.length=4)(hx1:∀v∈X,v.oneCell'=true)(hv:w.heap[vb]? =some (.cells ⟨X⟩ 73 (0,0)))(ca:v.ownBlock≠some vb):
 Calls Tryz.prog 299 #[v,.int .i64 i,.slice (some ⟨vb,0,none⟩) 1 1] w λe w'=>∃v',e=.returned v'/\tu w' B v' (n+1) (cs.take (i*4)++(X++cs.drop (i*4)))/\w.grownBy w' v.ownBlock:=by
 rcases dg i n with hin|hin
 ·rcases ho with⟨hl,⟨_,h0⟩|⟨g,cp,cur,rfl,hg1,hg2,hg3,hg4,hg5,hg6⟩⟩
  ·omega
  have T:vk w g n cp cur:=⟨hg2,hg5,hg3,hn,by rw[hg6];exact h1⟩;have e1:cur.toList.take (i*4)=cs.take (i*4):=by rw[<-hg6,List.take_take,kE (by omega)]
  have e2:(cur.toList.drop (i*4)).take ((n -i)*4)=cs.drop (i*4):=by rw[<-hg6,List.drop_take];congr 1;omega
  rcases dg cp (n+1) with hcp|hcp
  ·refine(aam T hX hx1 hv hin hcp).mono ?_
   rintro e w' ⟨cur',cp',rfl,a1,a2,a3,a4⟩
   rw[e1,e2] at a4;exact⟨_,rfl,.inr ⟨_,cp',cur',rfl,a1,hB,a3,a4⟩,⟨a2.os,a2.tape,a2.output,a2.size,λk hk _=>a2.block k hk⟩⟩
  ·refine(aan T hX hx1 hv (λe=>ca (by rw[e];rfl)) hin hcp).mono ?_
   rintro e w' ⟨cur',rfl,a1,a2⟩
   rw[e1,e2] at a2;exact⟨_,rfl,.inr ⟨_,cp,cur',rfl,hcp,hg1,a1.at_,a2⟩,⟨a1.os,a1.tape,a1.output,ta a1.size.symm,λk _ hk=>a1.block k (λe=>hk (by rw[e];rfl))⟩⟩
 ·obtain rfl:i=n:=by omega
  refine(aal ho hB hn hX hx1 hv).mono ?_
  rintro e w' ⟨v',rfl,h2,h3⟩
  have hl:=ho.1;rw[gh (by omega),List.drop_of_length_le (by omega),eH];rcases h2 with⟨_,⟨_,h0⟩|⟨g,cp,cur,rfl,a1,a2,a3,_,_,a6⟩⟩
  ·omega
  ·exact⟨_,rfl,.inr ⟨g,cp,cur,rfl,a3,a1,a2,a6⟩,h3⟩
end
section
open Go.Shelf Go.RowKit Go.Lib
variable{w:World}
theorem WH{P:Program}{ops:Array Oper}{o:Oper}{a:Act}{K:Act->World->Prop}{Q:Exit->Act->World->Prop}{E:Prop}
 (hg:o.guard=none) (d x:Operand) (dT sT:TypeId) (hop:o.op=Op.call {callee:=Callee.builtin Builtin.append,args:=#[d,x],argTypes:=#[dT,sT]})
 (v u:Value) (hd:a.eval d=v) (hx:a.eval x=u) {v':Value} {w':World} (hr:(Builtin.append_ #[dT,sT] o.type #[v,u]).run P w=.ok v' w') (hK:K (a.put o.dst v') w'):
 if Region.wanted o (yielded ops a.tmps)=true then Oper.wp P o a w K Q else E:=by
 have hw:Region.wanted o (yielded ops a.tmps)=true:=by simp[Region.wanted,hg]
 rw[ar hw];unfold Oper.wp;simp[execOp,hop,resolve,invoke,builtin,hd,hx,hr,Result.andThen];exact hK
variable{cur:Array Value} {g n:Nat}
theorem afb{off c:Nat}(hg:w.heap[g]? =some (.cells cur 73 (0,0)))(hn:n=1)(hle:off+4<=cur.size)(ty:TypeId):
 ∃w',(Builtin.clear_ #[27] ty #[.slice (some ⟨g,off,none⟩) n c]).run Tryz.prog w=.ok (.tuple #[]) w'/\nM g ⟨Lt.aW off [.int .i64 0,.int .i64 0,.int .i64 0,.slice none 0 0] cur.toList⟩ 73 (0,0) w w':=by
 subst hn;obtain⟨inf,i1,i2,i3,i4⟩:=info_parts Ac;obtain⟨w',q1,q2,q3,q4,q5,q6,q7⟩:=Lt.zj Tryz.prog (k:=off) [.int .i64 0,.int .i64 0,.int .i64 0,.slice none 0 0] 0 w cur hg (.inl rfl) (by simpa using hle) (λv hv=>by simp at hv;rcases hv with rfl|rfl<;>rfl)
 refine⟨w',?_,⟨q5,q6,q7,q4,q3,q2⟩⟩;have hz:∀w,(zeroValue 73).run Tryz.prog w=.ok (.agg #[.int .i64 0,.int .i64 0,.int .i64 0,.slice none 0 0]) w:=λw=>by simp[zeroValue,typeInfo,i1,i2]
 have e:(Builtin.zeroCells (.agg #[.int .i64 0,.int .i64 0,.int .i64 0,.slice none 0 0]:Value).cells 1).toList=[.int .i64 0,.int .i64 0,.int .i64 0,.slice none 0 0]:=by simp[Builtin.zeroCells,Value.cells,List.range_succ]
 simp only[Builtin.clear_,List.getElem?_toArray,List.getElem?_cons_zero,dO,run_underlying Tryz.underlying27,gA,hz,e,q1];rfl
theorem YY{cp k:Nat}(T:vk w g n cp cur)(hk:k<n):
 Calls Tryz.prog 330 #[.slice (some ⟨g,0,none⟩) n cp,.int .i64 k,.int .i64 (k+1)] w λe w'=>∃cur',e=.returned (.slice (some ⟨g,0,none⟩) (n -1) cp)/\nM g cur' 73 (0,0) w w'/\
  cur'.toList.take ((n -1)*4)=cur.toList.take (k*4)++(cur.toList.drop ((k+1)*4)).take ((n -(k+1))*4):=by
 have h1:=T.bB (i:=k+1) hk;obtain⟨hg,hsz,hn,hf,_⟩:=T;have mixed:Tryz.prog.follows .mixedOrders=true:=by kernel_rfl
 have hcs:cur.toList.length=cp*4:=hsz;obtain⟨inf,i1,i2,i3,i4⟩:=info_parts Ac;have hl1:((cur.toList.drop ((k+1)*4)).take ((n -(k+1))*4)).length=(n -(k+1))*4:=by rw[dH,dZ];omega
 obtain⟨xp,hxp⟩:∃xp:Addr,xp=if cp=k+1 then⟨g,0,none⟩ else⟨g,(k+1)*4,none⟩:=⟨_,rfl⟩;obtain⟨w1,p1,p2⟩:∃w1,(Builtin.append_ #[27,27] 27 #[.slice (some ⟨g,0,none⟩) k cp,.slice (some xp) (n -(k+1)) (cp -(k+1))]).run Tryz.prog w.drew=.ok (.slice (some ⟨g,0,none⟩) (n -1) cp) w1/\nM g ⟨Lt.aW (k*4) ((cur.toList.drop ((k+1)*4)).take ((n -(k+1))*4)) cur.toList⟩ 73 (0,0) w.drew w1:=by
  obtain⟨vs,o1,o2⟩:∃vs,(loadCells xp ((n -(k+1))*4)).run Tryz.prog w.drew=.ok vs w.drew/\vs.toList=(cur.toList.drop ((k+1)*4)).take ((n -(k+1))*4):=by
   by_cases hq:cp=k+1
   ·have:n -(k+1)=0:=by omega
    rw[this];exact⟨#[],Lt.BF _ _ _,by simp⟩
   ·rw[hxp,ai hq];exact Lt.Ge Tryz.prog (w:=w.drew) hg (by omega)
  obtain⟨w',q1,q2,q3,q4,q5,q6,q7⟩:=Lt.zj Tryz.prog (k:=k*4) vs.toList 0 w.drew cur hg (.inl rfl) (by rw[o2];omega) (by rw[o2];exact h1);have A:Lt.uY Tryz.prog w.drew #[27,27] #[.slice (some ⟨g,0,none⟩) k cp,.slice (some xp) (n -(k+1)) (cp -(k+1))] 27 27 73 (.slice 73) inf (some ⟨g,0,none⟩) k cp (.slice (some xp) (n -(k+1)) (cp -(k+1))) (n -(k+1)):=
   ⟨rfl,rfl,rfl,rfl,Tryz.underlying27,Tryz.underlying27,i1,.inl ⟨rfl,rfl⟩⟩
  have r:=Lt.AR A (rt:=27) (by omega) (vs:=vs) (by rw[i3];exact o1) (w':=w') (by rw[i3];simpa[Lt.C8,Addr.add_lit] using q1);rw[show k+(n -(k+1))=n -1 by omega] at r;exact⟨w',r,⟨q5,q6,q7,q4,q3,by rw[q2,o2];simp⟩⟩
 have hp2:=p2.at_;obtain⟨w2,c1,c2⟩:=afb (w:=w1) (g:=g) (off:=(n -1)*4) (n:=1) (c:=cp -(n -1)) hp2 rfl (by simp[Lt.kq];omega) 0;have hls:(Lt.aW ((n -1)*4) [.int .i64 0,.int .i64 0,.int .i64 0,.slice none 0 0] (Lt.aW (k*4) ((cur.toList.drop ((k+1)*4)).take ((n -(k+1))*4)) cur.toList)).take ((n -1)*4)=cur.toList.take (k*4)++(cur.toList.drop ((k+1)*4)).take ((n -(k+1))*4):=by
  have e:(n -1)*4=k*4+(n -(k+1))*4:=by omega
  generalize(cur.toList.drop ((k+1)*4)).take ((n -(k+1))*4)=S at hl1⊢;have h3:(cur.toList.take (k*4)).length=k*4:=by rw[dH];omega
  rw[uv _ _ _ (by simp[Lt.kq];omega),List.take_left' (by simp[Lt.kq];omega),uv S _ _ (by omega),<-dY,e,<-hl1,List.take_left' (by simp[h3])]
 go_enter Tryz.func330,Tryz.ntmps330
 have n1:((k:Int)+1).toNat=k+1:=by omega
 have n2:n -(n -1)=1:=by omega
 have n3:¬cp=n -1:=by omega
 have n4:¬cp=k:=by omega
 have n5:((k:Int)=(k:Int)+1)=False:=eq_false (by omega);have n6:(k:Int)<=(k:Int)+1:=by omega
 have n7:(k:Int)+1<=(n:Int):=by omega
 have n8:(k:Int)<=(cp:Int):=by omega
 have n9:(n:Int)<=(cp:Int):=by omega
 have n10:(0:Int)<=(k:Int)+1:=by omega
 have n11:(k:Int)<=(n:Int):=by omega
 by_cases hq:cp=k+1
 ·rw[ar hq] at hxp;subst hxp;obtain rfl:n=k+1:=by omega
  subst hq;simp only[Nat.sub_self,Nat.add_sub_cancel,Dj] at p1 p2 c1 c2 hl1 hls n3 n2⊢
  go_wp2
  go_region_law_o (refine WH rfl _ _ 27 27 rfl _ _ (by simp[Act.eval,Act.put]) (by simp[Act.eval,Act.put]) p1 ?_)
  go_wp2
  go_ret
  exact⟨_,rfl,⟨c2.os.trans p2.os,c2.tape.trans p2.tape,c2.output.trans p2.output,c2.size.trans p2.size,λk hk=>(c2.block k hk).trans (p2.block k hk),c2.at_⟩,hls⟩
 ·rw[ai hq] at hxp;subst hxp
  go_wp2
  go_region_law_o (refine WH rfl _ _ 27 27 rfl _ _ (by simp[Act.eval,Act.put]) (by simp[Act.eval,Act.put]) p1 ?_)
  go_wp2
  go_ret
  exact⟨_,rfl,⟨c2.os.trans p2.os,c2.tape.trans p2.tape,c2.output.trans p2.output,c2.size.trans p2.size,λk hk=>(c2.block k hk).trans (p2.block k hk),c2.at_⟩,hls⟩
end
section
open Go.Shelf Go.RowKit Go.Lib
theorem YB{w:World}{a:Option Addr}{n c:Nat}{xs:List Value}(hs:a=none->n=0)(hc:∀x,a=some x->∀j u,xs[j]? =some u->w.cell? (x.add j)=some u)(hl:xs.length=n*4)(hn:n<1000000000)(h1:∀v∈xs,v.oneCell'=true):
 Calls Tryz.prog 250 #[.slice a n c] w λe w'=>∃v,e=.returned v/\w'.ownsRow w.heap.size 73 4 v n xs/\RowKit.Below w.heap.size w w':=by
 have mixed:Tryz.prog.follows .mixedOrders=true:=by kernel_rfl
 obtain⟨inf,i1,i2,i3,i4⟩:=info_parts Ac;have q22:∀(w:World)(a:Option Addr)(n c n' c':Nat),(binOp .eql 27 (.slice a n c) (.slice none n' c')).run Tryz.prog w=.ok (.bool a.isNone) w:=λw a n c n' c'=>Lib.run_eql_slice_nil w _ _ a n c n' c' Tryz.underlying27;cases a with
 |none=>
  obtain rfl:=hs rfl;have:=jJ (by omega:xs.length=0);subst this;clear hc
  go_enter Tryz.func250,Tryz.ntmps250
  go_wp2
  go_ret
  exact⟨_,rfl,World.ownsRow_nil _ _ _ _,fb _ _⟩
 |some a=>
  have A:Aside (∀j u,xs[j]? =some u->w.cell? (a.add j)=some u):=hc _ rfl;clear hc
  go_enter Tryz.func250,Tryz.ntmps250
  go_wp2_with (at_builtin;refine wpList_append_own _ rfl _ _ 27 rfl w.heap.size 73 inf _ 4 48 Tryz.underlying27 i1 i2 i3 i4 rfl (by decide) _ _ _ rfl (World.ownsRow_made w #[] 0 (aB _) (gZ _) rfl) a n c xs rfl ?qc1 ?qc2 ?qc3 ?qc4 ?qc5 ?qc6 ?_)
  case qc1=>omega
  case qc2=>exactλj u hj=>Lib.cell?_alloc_some _ (A.out j u hj)
  case qc3=>exact h1
  case qc4=>unfold maxLen;omega
  case qc5=>omega
  case qc6=>simp
  intro v' w1 hown hgrow hnil
  go_wp2
  go_ret
  refine⟨v',rfl,by simpa using hown,?_⟩;exact((Below.refl _ w).alloc (aB _) _).grown hgrow (by simp) (by intro k hk;simp[Value.ownBlock] at hk;omega)
end
namespace Lt
section
open Go.Shelf Go.RowKit Go.Lib
abbrev oH:=Int->Int->Value->Option (Int×Int×Value)
abbrev uZ:=Value->Int->Option (Int×Bool)
abbrev mK:VT:=.agg [.i .i64,.i .i64,.v]
variable{P:Program} {g:FuncId}
theorem Lw{O:oH}(HO:dI P g [mK] mK O){a b:Int}{d:Value}{r:Int×Int×Value}(e:O a b d=some r)(hd:aY d/\bB [d]=true):
 (aY r.2.2 /\bB [r.2.2]=true)/\∀{m:Nat->Nat->Option Value}{W:World}{y:Value},Kn m W->bj m d y->Calls P g #[.agg #[.int .i64 a,.int .i64 b,y]] W λe W'=>∃z,e=.returned (.agg #[.int .i64 r.1,.int .i64 r.2.1,z])/\RowKit.Below W.heap.size W W'/\bj (dj m W W') r.2.2 z:=by
 obtain⟨a',b',d'⟩:=r;obtain⟨h1,pv,f2,f3⟩:=HO [.i a,.i b,.v d] (a',b',d') e (λx hx=>by simp at hx;rw[hx];exact hd) _ rfl;have f2:some (Value.agg #[.int .i64 a',.int .i64 b',d'],([]:List bo))=some (pv,[]):=f2;cases f2;have hp:aY d'/\bB [d']=true:=h1 d' (by show bo.v d'∈[bo.i a',bo.i b',bo.v d'];simp);refine⟨hp,λ{m W y} hm L=>?_⟩;refine(xU f3 (.inl (.agg ?_)) hm (.cons (.agg (.cons (.int _ _) (.cons (.int _ _) (.cons L .nil)))) .nil)).mono λe w' ⟨v',q1,q2,q3⟩=>?_
 ·intro x hx;simp at hx;rcases hx with rfl|rfl|rfl
  ·exact .int _ _
  ·exact .int _ _
  ·exact hp.1
 ·subst q1;cases q3 with
  |@agg xs xs' h=>
  obtain⟨xl⟩:=xs';cases h with|cons h1 h=>?_
  cases h1;cases h with|cons h2 h=>?_
  cases h2;cases h with|cons h3 h=>?_
  cases h;exact⟨_,rfl,q2,h3⟩
theorem P0{A:uZ}(HA:dI P g [.v,.i .i64] (.aH [.i .i64,.b]) A){x:Value}{t:Int}{r:Int×Bool}(e:A x t=some r)(hx:aY x/\bB [x]=true):
 ∀{m:Nat->Nat->Option Value}{W:World}{y:Value},Kn m W->bj m x y->Calls P g #[y,.int .i64 t] W λe W'=>e=.returned (.tuple #[.int .i64 r.1,.bool r.2])/\RowKit.Below W.heap.size W W':=by
 obtain⟨k,q⟩:=r;obtain⟨h1,pv,f2,f3⟩:=HA [.v x,.i t] (k,q) e (λz hz=>by simp at hz;rw[hz];exact hx) _ rfl;have f2:some (Value.tuple #[.int .i64 k,.bool q],([]:List bo))=some (pv,[]):=f2;cases f2;intro m W y hm L;refine(xU f3 (.inr ⟨_,rfl,?_⟩) hm (.cons L (.cons (.int _ _) .nil))).mono λe w' ⟨v',q1,q2,q3⟩=>?_
 ·intro x hx;simp at hx;rcases hx with rfl|rfl
  ·exact .int _ _
  ·exact .bool _
 ·subst q1;cases q3 with
  |@aH xs xs' h=>
  obtain⟨xl⟩:=xs';cases h with|cons h1 h=>?_
  cases h1;cases h with|cons h2 h=>?_
  cases h2;cases h;exact⟨rfl,q2⟩
end
section
open Go.Shelf Go.RowKit Go.Lib
noncomputable def nb(O:oH):List Value->Option (List Value)
 |[]=>some []
 | .int .i64 t::.int .i64 a::.int .i64 b::d::r=>cond (bB [d]) (ob (O a b d) λp=>ob (nb O r) λs=>some (.int .i64 t::.int .i64 p.1 ::.int .i64 p.2.1 ::p.2.2 ::s)) none
 |_=>none
theorem Ug{O:oH}{l r:List Value}(h:0<l.length)(e:nb O l=some r):∃t a b d l' p r',l=.int .i64 t::.int .i64 a::.int .i64 b::d::l'/\bB [d]=true/\O a b d=some p/\nb O l'=some r'/\r=.int .i64 t::.int .i64 p.1 ::.int .i64 p.2.1 ::p.2.2 ::r':=by
 unfold nb at e;split at e
 ·simp at h
 ·obtain⟨h1,e⟩:=aT e;replace e:=af e;obtain⟨p,h2,e⟩:=e;replace e:=af e;obtain⟨s,h3,e⟩:=e;exact⟨_,_,_,_,_,p,s,rfl,h1,h2,h3,(bu e).symm⟩
 ·cases e
structure Dv(m:Nat->Nat->Option Value)(w:World)(v:Value)(n:Nat)(cs:List Value)(wr:World):Prop where
 below:RowKit.Below w.heap.size w wr
 row:∃(m':Nat->Nat->Option Value)(xs:List Value),wr.ownsRow w.heap.size 73 4 v n xs/\aP m' cs xs/\Kn m' wr/\(∀q,v.ownBlock=some q->∀i,m' q i=none)/\(∀b i u,m b i=some u->m' b i=some u)/\(∀b i u,m' b i=some u->dj m w wr b i=some u)
variable{k n:Nat} {w:World} {xs:List Value}
theorem ownsRow_form{B:Nat}{e:TypeId}{v:Value}(h:w.ownsRow B e k v n xs):∃p cp,v=.slice p n cp/\n<=cp:=by
 obtain⟨_,⟨rfl,rfl⟩|⟨g,cp,_,rfl,_,_,h,_⟩⟩:=h
 ·exact⟨_,_,rfl,aB _⟩
 ·exact⟨_,_,rfl,h⟩
variable{m:Nat->Nat->Option Value} {x y:Value}
theorem bj.mn(h:bj m x y)(o:bB [x]=true):y.oneCell'=true:=by cases h<;>first|rfl|cases o
theorem ahZ(w:World)(a b c:Value)(h:y.oneCell'=true):(store ⟨w.heap.size,3,none⟩ y).run Tryz.prog (w.alloc (.cells #[a,b,c,.slice none 0 0] 73))=.ok () (w.alloc (.cells #[a,b,c,y] 73)):=by rw[run_store _ _ _ _ _ h];simp[go_sem]
variable{cur:Array Value} {g:Nat} {t:TypeId}
theorem IG{fz:Nat×Nat}(h:w.heap[g]? =some (.cells cur t fz))(v:Value):nM g ⟨cur.toList.set k v⟩ t fz w (w.setCell ⟨g,k,none⟩ v):=
 ⟨rfl,rfl,rfl,VB _ _ _,λ_ hk=>Vz v hk,by rw[VA h];cases cur;simp⟩
theorem Is{o:Nat}(h:w.heap[g]? =some (.cells cur t (0,0)))(hl:o+4<=cur.size)(a b:Int){z:Value}(hz:z.oneCell'=true):
 (∃v,w.cell? ⟨g,o+1,none⟩=some v)/\(∃v,w.cell? ⟨g,o+2,none⟩=some v)/\(∀k,w.frozen? ⟨g,k,none⟩=false)/\(∃v,(w.setCell ⟨g,o+1,none⟩ (.int .i64 a)).cell? ⟨g,o+2,none⟩=some v)/\
 ∃w',(store ⟨g,o+3,none⟩ z).run Tryz.prog ((w.setCell ⟨g,o+1,none⟩ (.int .i64 a)).setCell ⟨g,o+2,none⟩ (.int .i64 b))=.ok () w'/\nM g ⟨((cur.toList.set (o+1) (.int .i64 a)).set (o+2) (.int .i64 b)).set (o+3) z⟩ t (0,0) w w':=by
 have c:∀{W:World}{cs:Array Value}(k:Nat),W.heap[g]? =some (.cells cs t (0,0))->W.cell? ⟨g,k,none⟩=cs[k]? :=λk h=>by unfold World.cell?;simp[h]
 have f:∀{W:World}{cs:Array Value}(k:Nat),W.heap[g]? =some (.cells cs t (0,0))->W.frozen? ⟨g,k,none⟩=false:=λk h=>by unfold World.frozen?;simp[h]
 have q1:=IG (k:=o+1) h (.int .i64 a);have q2:=IG (k:=o+2) q1.at_ (.int .i64 b);have q3:=IG (k:=o+3) q2.at_ z;refine⟨⟨cur[o+1],by rw[c _ h];simp⟩,⟨cur[o+2],by rw[c _ h];simp⟩,λk=>f k h,?_,((w.setCell ⟨g,o+1,none⟩ (.int .i64 a)).setCell ⟨g,o+2,none⟩ (.int .i64 b)).setCell ⟨g,o+3,none⟩ z,?_,⟨rfl,rfl,rfl,q3.size.trans (q2.size.trans q1.size),λk hk=>(q3.block k hk).trans ((q2.block k hk).trans (q1.block k hk)),q3.at_⟩⟩
 ·rw[c _ q1.at_];exact⟨(cur.toList.set (o+1) (.int .i64 a))[o+2]'(by simp;omega),by simp⟩
 ·have e:((w.setCell ⟨g,o+1,none⟩ (.int .i64 a)).setCell ⟨g,o+2,none⟩ (.int .i64 b)).cell? ⟨g,o+3,none⟩=some (((cur.toList.set (o+1) (.int .i64 a)).set (o+2) (.int .i64 b))[o+3]'(by simp;omega)):=by rw[c _ q2.at_];simp
  rw[run_store _ _ _ _ _ hz,e];simp[f _ q2.at_]
theorem bj.E3(h:bj m x y):Bu y=false:=by cases h<;>rfl
theorem aP.E3:∀{a b:List Value},aP m a b->∀{j:Nat}{u:Value},b[j]? =some u->Bu u=false
 |[],_,.nil,_,_,e=>by cases e
 |_::_,_,.cons h t,0,u,e=>by simp at e;subst e;exact h.E3
 |_::_,_,.cons _ t,j+1,u,e=>aP.E3 t (by simpa using e)
structure XF(O:oH)(m:Nat->Nat->Option Value)(w:World)(v:Value)(n:Nat)(res:List Value)(i:Nat)(wr:World):Prop where
 below:RowKit.Below w.heap.size w wr
 row:∃(m':Nat->Nat->Option Value)(done rest rest' xs:List Value),wr.ownsRow w.heap.size 73 4 v n xs/\aP m' (done++rest) xs/\Kn m' wr/\(∀q,v.ownBlock=some q->∀i,m' q i=none)/\(∀b i u,m b i=some u->m' b i=some u)/\(∀b i u,b<w.heap.size->m' b i=some u->m b i=some u)/\
  done.length=i*4/\nb O rest=some rest'/\done++rest'=res/\(∀x∈done++rest,aY x)
theorem aP.split:∀{a b ys:List Value},aP m (a++b) ys->∃y z,ys=y++z/\aP m a y/\aP m b z
 |[],b,ys,h=>⟨[],ys,rfl,.nil,h⟩
 |x::a,b,ys,h=>by
  cases h with|cons h1 h2=>?_
  obtain⟨y,z,rfl,h3,h4⟩:=aP.split h2;exact⟨_::y,z,rfl,.cons h1 h3,h4⟩
theorem aP.join:∀{a b y z:List Value},aP m a y->aP m b z->aP m (a++b) (y++z)
 |[],_,_,_,.nil,h2=>h2
 |_::_,_,_,_,.cons h h1,h2=>.cons h (aP.join h1 h2)
theorem aP.len:∀{a b:List Value},aP m a b->a.length=b.length
 |[],_,.nil=>rfl
 |_::_,_,.cons _ h=>bK (·+1) (aP.len h)
theorem Fu{O:oH}(HO:dI Tryz.prog 185 [mK] mK O){a:Option Addr}{c:Nat}{cs res:List Value}(hm:Kn m w)(hL:aP m cs xs)(hp:∀x∈cs,aY x)(he:nb O cs=some res)
 (hs:a=none->n=0) (hc:∀x,a=some x->∀j u,xs[j]? =some u->m x.block (x.off+j)=some u) (hsp:∀x,a=some x->0<n->x.spot=none) (hl:xs.length=n*4) (hn:n<1000000000) (h1:∀v∈xs,v.oneCell'=true):
 Calls Tryz.prog 298 #[.slice a n c] w λe w'=>∃v,e=.returned v/\Dv m w v n res w':=by
 have mixed:Tryz.prog.follows .mixedOrders=true:=by kernel_rfl
 have hcl:Aside (∀x,a=some x->∀j u,xs[j]? =some u->w.cell? (x.add j)=some u):=λx hx j u hu=>by
  obtain⟨b,o,sp⟩:=x;obtain rfl:=hsp _ hx (by have:=(List.getElem?_eq_some_iff.1 hu).1;omega);rw[Addr.add_lit];refine BD ?_ (hm _ _ _ (hc _ hx j u hu));obtain⟨i1,hi1⟩:=List.getElem?_eq_some_iff.1 hu;have hj:j<cs.length:=by rw[hL.len];exact i1
  exact aP.E3 hL hu
 clear hc
 go_enter Tryz.func298,Tryz.ntmps298
 go_wp2_with (go_at_call 250;refine(YB hs hcl hl hn h1).mono ?_;rintro e w1 ⟨v,rfl,o1,b1⟩;obtain⟨p,cp,rfl,hcp⟩:=ownsRow_form o1)
 go_loopw [10] (λq wr=>∃i:Nat,q=.int .i64 i/\i<=n/\XF O m w (.slice p n cp) n res i wr) (λq wr=>n -(Lib.intOf q).toNat)
 case atStart=>exact⟨0,rfl,gZ _,b1,m,[],cs,res,xs,o1,hL,hm.below b1,λq hq i=>(by
  have:=Fv o1 hq;cases e:m q i with
  |none=>rfl
  |some u=>have:=oU (hm _ _ _ e);omega),λ_ _ _ h=>h,λ_ _ _ _ h=>h,rfl,he,rfl,hp⟩
 case round=>
  obtain⟨i,rfl,hi,⟨bl,m',done,rest,rest',ys,o2,L2,k2,z2,e2,n2,d2,r2,q2,p2⟩⟩:=hrel;rcases dg i n with hin|hin
  ·have hlen:=L2.len;obtain⟨y1,y2,rfl,La,Lb⟩:=L2.split;have hb:0<rest.length:=by have:=o2.1;simp at hlen this;omega
   obtain⟨t,va,vb,d,l',r,r',rfl,od,e3,e4,rfl⟩:=Ug hb r2;cases Lb with|cons l1 Lb=>?_
   cases l1;cases Lb with|cons l1 Lb=>?_
   cases l1;cases Lb with|cons l1 Lb=>?_
   cases l1;cases Lb with|@cons _ y _ y3 l1 Lb=>?_
   have hd:aY d/\bB [d]=true:=⟨p2 d (by simp),od⟩;obtain⟨hd',own⟩:=Lw HO e3 hd;have hy:y1.length=i*4:=by rw[<-La.len];exact d2
   obtain⟨g,cur,rfl,hg1,hmx,hg2,hsz,hcur⟩:∃g cur,p=some ⟨g,0,none⟩/\w.heap.size<=g/\cp<=maxLen/\wr.heap[g]? =some (.cells cur 73 (0,0))/\cur.size=cp*4/\cur.toList.take (n*4)=y1++(.int .i64 t::.int .i64 va::.int .i64 vb::y::y3):=by
    obtain⟨_,⟨_,h⟩|⟨g,cp',cur,e,h1,h2,h3,h4,h5,h6⟩⟩:=o2
    ·omega
    ·cases e;exact⟨g,cur,rfl,h1,h4,h2,h5,h6⟩
   have cl:∀k,(cur.toList.take (n*4))[i*4+k]? =(Value.int .i64 t::.int .i64 va::.int .i64 vb::y::y3)[k]? :=λk=>by rw[hcur,uV (by omega)];congr 1;omega
   have ce:∀k,k<4->wr.cell? ⟨g,i*4+k,none⟩=(Value.int .i64 t::.int .i64 va::.int .i64 vb::y::y3)[k]? :=λk hk=>by rw[<-cl k,List.getElem?_take_of_lt (by omega)];unfold World.cell?;simp[hg2]
   have c0:wr.cell? ⟨g,i*4,none⟩=some (.int .i64 t):=ce 0 (by omega);have c1:wr.cell? ⟨g,i*4+1,none⟩=some (.int .i64 va):=ce 1 (by omega);have c2:wr.cell? ⟨g,i*4+2,none⟩=some (.int .i64 vb):=ce 2 (by omega);have c3:wr.cell? ⟨g,i*4+3,none⟩=some y:=ce 3 (by omega);clear ce cl;have hy1:y.oneCell'=true:=bj.mn l1 od;have hst:=ahZ wr (.int .i64 t) (.int .i64 va) (.int .i64 vb) hy1;have hin':(i:Int)<(n:Int):=by omega
   have ba:RowKit.Below wr.heap.size wr (wr.alloc (.cells #[.int .i64 t,.int .i64 va,.int .i64 vb,y] 73)):=(fb _ wr).alloc (aB _) _;have kz:Kn m' (wr.alloc (.cells #[.int .i64 t,.int .i64 va,.int .i64 vb,y] 73)):=k2.below ba;have gl:g<wr.heap.size:=(lL.1 hg2).1
   go_wp2_with (go_at_call 185;refine(own kz l1).mono ?_;rintro e wy ⟨z,rfl,by1,lz⟩;have bz:RowKit.Below wr.heap.size wr wy:=ba.trans (by1.mono (by simp));have hz1:z.oneCell'=true:=bj.mn lz hd'.2;have hgy:=(bz.block g gl).trans hg2;obtain⟨⟨v1,s1⟩,⟨v2,s2⟩,sf,⟨v3,s3⟩,wz,s4,s5⟩:=Is hgy (o:=i*4) (by omega) r.1 r.2.1 hz1;have mo:=kz.mono (w':=wy);have kn:=kz.new by1;obtain⟨m2,hm2⟩:∃m2,m2=dj m' (wr.alloc (.cells #[.int .i64 t,.int .i64 va,.int .i64 vb,y] 73)) wy:=⟨_,rfl⟩;rw[<-hm2] at mo kn lz;have lo:∀b i,b<wr.heap.size->m2 b i=m' b i:=λb i hb=>(by rw[hm2];unfold dj;rw[ar (by simp;omega)]);clear ba kz hgy hm2)
   have hd1:∀k (u:Value) (x:List Value),(y1++x).set (i*4+k) u=y1++x.set k u:=λk u x=>by rw[List.set_append_right _ _ (by omega)];congr 2;omega
   have hc2:((((cur.toList.set (i*4+1) (.int .i64 r.1)).set (i*4+2) (.int .i64 r.2.1)).set (i*4+3) z).take (n*4))=y1++(.int .i64 t::.int .i64 r.1 ::.int .i64 r.2.1 ::z::y3):=by rw[List.take_set,List.take_set,List.take_set,hcur,hd1,hd1,hd1];rfl
   have bw:RowKit.Below w.heap.size w wz:=bl.trans ((bz.mono bl.size).trans ⟨s5.os,s5.tape,s5.output,ta s5.size.symm,λk hk=>s5.block k (by omega)⟩);have g9:∀i,m2 g i=none:=λi=>(lo g i gl).trans (z2 g rfl i);refine⟨⟨i+1,by simp,by omega,bw,m2,done++[.int .i64 t,.int .i64 r.1,.int .i64 r.2.1,r.2.2],l',r',y1++(.int .i64 t::.int .i64 r.1 ::.int .i64 r.2.1 ::z::y3),?_,?_,?_,?_,?_,?_,?_,e4,?_,?_⟩,by simp[Lib.intOf];omega⟩
   ·refine⟨?_,.inr ⟨g,cp,_,rfl,hg1,s5.at_,hcp,hmx,?_,hc2⟩⟩
    ·have:=o2.1;simp at this⊢;omega
    ·simpa using hsz
   ·rw[dY];exact(La.mono mo).join (.cons (.int _ _) (.cons (.int _ _) (.cons (.int _ _) (.cons lz (Lb.mono mo)))))
   ·intro b j u hu;have hb:b≠g:=λe=>by rw[e,g9] at hu;cases hu
    exact(oe (s5.block b hb)).trans (kn b j u hu)
   ·rintro q ⟨⟩;exact g9
   ·exactλb j u h=>mo _ _ _ (e2 _ _ _ h)
   ·exactλb j u hb h=>n2 _ _ _ hb ((lo b j (by have:=bl.size;omega)).symm.trans h)
   ·simp;omega
   ·rw[dY];exact q2
   ·intro x hx;simp only[dY,eM,cj,jg,iF] at hx p2;rcases hx with hx|rfl|rfl|rfl|rfl|hx
    ·exact p2 x (.inl hx)
    ·exact .int _ _
    ·exact .int _ _
    ·exact .int _ _
    ·exact hd'.1
    ·exact p2 x (.inr (.inr (.inr (.inr (.inr hx)))))
  ·have hr:rest=[]:=jJ (by have h1:=L2.len;have h2:=o2.1;simp at h1;omega);subst hr;obtain rfl:rest'=[]:=(bu r2).symm;rw[eH] at q2 L2;subst q2;obtain rfl:i=n:=by omega
   go_wp2
   go_ret
   refine⟨_,rfl,bl,m',ys,o2,L2,k2,z2,e2,λb j u h=>?_⟩;unfold dj;split
   ·exact n2 _ _ _ ‹_› h
   ·exact k2 _ _ _ h
end
section
open Go.Shelf Go.RowKit Go.Lib
variable{m:Nat->Nat->Option Value}
theorem aP.mn:∀{a b:List Value},aP m a b->bB a=true->∀v∈b,v.oneCell'=true
 |[],_,.nil,_,_,h=>by cases h
 |_::_,_,.cons h t,o,v,hv=>by
  rcases cj.1 hv with rfl|hv
  ·exact h.mn (wA o).1
  ·exact aP.mn t (wA o).2 v hv
variable{cs:List Value} {n:Nat} {v x:Value}
theorem Ga(h:rowOf x=some (n,cs))(l:bj m x v)(hl:cs.length=n*4):
 ∃a c xs,v=.slice a n c/\aP m cs xs/\(a=none->n=0)/\(∀x,a=some x->∀j u,xs[j]? =some u->m x.block (x.off+j)=some u)/\(∀x,a=some x->0<n->x.spot=none):=by
 have:=wJ h;subst this;cases l with
 |gH r q hs hn=>exact⟨_,_,_,rfl,r,(λh=>by cases h),(λx h=>by cases h;exact q),λx h _=>by cases h;exact hs⟩
 |fN=>exact⟨_,_,[],rfl,.nil,λ_=>rfl,λ_ _ j u h=>by simp at h,λ_ _ h=>absurd h (Nat.lt_irrefl 0)⟩
theorem Lx{P:Program}{g:FuncId}{O:oH}(HO:dI P g [mK] mK O):∀{l r:List Value},(∀x∈l,aY x)->nb O l=some r->bO r/\r.length=l.length
 |[],r,_,e=>by cases e;exact⟨⟨(λ_ h=>by cases h),rfl⟩,rfl⟩
 |[_],_,_,e=>by unfold nb at e;split at e<;>first|(rename_i q;cases q;done)|cases e
 |[_,_],_,_,e=>by unfold nb at e;split at e<;>first|(rename_i q;cases q;done)|cases e
 |[_,_,_],_,_,e=>by unfold nb at e;split at e<;>first|(rename_i q;cases q;done)|cases e
 |x0::x1::x2::x3::l,r,p,e=>by
  obtain⟨t,a,b,d,l',q,r',h1,h2,h3,h4,rfl⟩:=Ug (by simp) e;cases h1;obtain⟨i1,i2⟩:=Lx HO (λx hx=>p x (by simp[hx])) h4;have hd:=(Lw HO h3 ⟨p x3 (by simp),h2⟩).1;refine⟨⟨λx hx=>?_,?_⟩,by simp[i2]⟩
  ·simp only[cj] at hx;rcases hx with rfl|rfl|rfl|rfl|hx
   ·exact .int _ _
   ·exact .int _ _
   ·exact .int _ _
   ·exact hd.1
   ·exact i1.1 x hx
  ·exact qV [.int .i64 t,.int .i64 q.1,.int .i64 q.2.1] _ rfl (qV [q.2.2] r' hd.2 i1.2)
theorem Fq:∀{l:List Value},bB l=true->∀k,bB (l.take k)=true
 |[],_,_=>by simp;rfl
 |_::_,_,0=>rfl
 |x::l,h,k+1=>qV [x] _ (wA h).1 (Fq (wA h).2 k)
theorem Lo:∀{l:List Value},bB l=true->∀k,bB (l.drop k)=true
 |[],_,_=>by simp;rfl
 |_::_,h,0=>h
 |_::_,h,k+1=>Lo (wA h).2 k
variable{w:World}
theorem Dv.shown{wr:World}(h:Dv m w v n cs wr):bj (λb i=>fc wr b i) (ae n cs) v:=by
 obtain⟨m',xs,⟨hl,⟨rfl,rfl⟩|⟨g,cp,cur,rfl,h1,h2,h3,h4,h5,h6⟩⟩,L,k,_⟩:=h.row
 ·have:cs=[]:=jJ (by rw[L.len];omega);subst this;exact .fN
 ·refine .gH (L.mono λb i u hu=>k b i u hu) (λi y hy=>?_) rfl h3;rw[qR h2,fg];rw[<-h6] at hy;rw[qq] at hy;split at hy
  ·simpa using hy
  ·cases hy
noncomputable def yi(O:oH)(A:uZ)(x:Value)(t:Int):Option Value:=ob (rowOf x) λp=>cond (Nat.beq p.2.length (p.1 *4)&&Nat.blt p.1 1000000000) (ob (nb O p.2) λres=>ob (A (ae p.1 res) t) λq=>cond q.2 (cond (decide (0<=q.1)&&Nat.blt q.1.toNat p.1) (some (ae (p.1 -1) (res.take (q.1.toNat*4)++(res.drop ((q.1.toNat+1)*4)).take ((p.1 -(q.1.toNat+1))*4)))) none) (some (ae p.1 res))) none
variable{W:World} {m':Nat->Nat->Option Value} {ys:List Value}
theorem Gb(R:tu W w.heap.size v n ys)(L:aP m' cs ys)(k:Kn m' W)(e:∀b i u,b<w.heap.size->m' b i=some u->m b i=some u):bj (dj m w W) (ae n cs) v:=by
 have mo:∀b i u,m' b i=some u->dj m w W b i=some u:=λb i u h=>by
  unfold dj;split
  ·exact e _ _ _ ‹_› h
  ·exact k _ _ _ h
 rcases R with⟨rfl,rfl,rfl⟩|⟨g,cp,cur,rfl,h1,h2,h3,h4⟩
 ·cases L;exact .fN
 ·refine .gH (L.mono mo) (λi y hy=>?_) rfl h1;show dj m w W g (0+i)=_;unfold dj;rw[ai (by omega),qR h3,fg];rw[<-h4,qq] at hy;split at hy
  ·simpa using hy
  ·cases hy
variable{xs:List Value}
theorem aez{B:Nat}(h:w.ownsRow B 73 4 v n xs):tu w B v n xs:=by
 obtain⟨hl,⟨rfl,rfl⟩|⟨g,cp,cur,rfl,h1,h2,h3,_,_,h6⟩⟩:=h
 ·exact .inl ⟨rfl,rfl,jJ (by omega)⟩
 ·exact .inr ⟨g,cp,cur,rfl,h3,h1,h2,h6⟩
variable{w':World}
theorem yY{B:Nat}(h:w.ownsRow B 73 4 v n xs)(b:RowKit.Below w.heap.size w w'):w'.ownsRow B 73 4 v n xs:=by
 obtain⟨hl,h|⟨g,cp,cur,h0,h1,h2,h3⟩⟩:=h
 ·exact⟨hl,.inl h⟩
 ·exact⟨hl,.inr ⟨g,cp,cur,h0,h1,(b.block g (lL.1 h2).1).trans h2,h3⟩⟩
theorem YX{B k:Nat}(o:w.ownsRow B 73 4 v n ys)(h1:∀v∈ys,v.oneCell'=true)(hk:k<n)(hn:n<1000000000):
 Calls Tryz.prog 330 #[v,.int .i64 k,.int .i64 (k+1)] w λe w'=>∃v',e=.returned v'/\tu w' B v' (n -1) (ys.take (k*4)++(ys.drop ((k+1)*4)).take ((n -(k+1))*4))/\w.grownBy w' v.ownBlock:=by
 rcases o with⟨hl,⟨_,h0⟩|⟨g,cp,cur,rfl,hg1,hg2,hg3,hg4,hg5,hg6⟩⟩
 ·omega
 have T:vk w g n cp cur:=⟨hg2,hg5,hg3,hn,by rw[hg6];exact h1⟩;have e1:cur.toList.take (k*4)=ys.take (k*4):=by rw[<-hg6,List.take_take,kE (by omega)]
 have e2:(cur.toList.drop ((k+1)*4)).take ((n -(k+1))*4)=(ys.drop ((k+1)*4)).take ((n -(k+1))*4):=by rw[<-hg6,List.drop_take,List.take_take,show min ((n -(k+1))*4) (n*4 -(k+1)*4)=(n -(k+1))*4 by omega]
 refine(YY T hk).mono ?_
 rintro e w' ⟨cur',rfl,a1,a2⟩
 rw[e1,e2] at a2;exact⟨_,rfl,.inr ⟨_,cp,cur',rfl,by omega,hg1,a1.at_,a2⟩,⟨a1.os,a1.tape,a1.output,ta a1.size.symm,λk _ hk=>a1.block k (λe=>hk (by rw[e];rfl))⟩⟩
theorem Kn.grown{q:Option Nat}(h:Kn m w)(g:w.grownBy w' q)(z:∀b,q=some b->∀i,m b i=none):Kn m w':=λb i u hu=>by have hb:=oU (h b i u hu);refine(oe (g.block b hb λe=>?_)).trans (h b i u hu);have:=z b (by first|exact e|exact e.symm) i;rw[this] at hu;cases hu
theorem Dv.back(k:Kn m' W)(e:∀b i u,m' b i=some u->b<w.heap.size->m b i=some u):∀b i u,m' b i=some u->dj m w W b i=some u:=λb i u h=>by
 unfold dj;split
 ·exact e _ _ _ h ‹_›
 ·exact k _ _ _ h
theorem Y7{O:oH}{A:uZ}(HO:dI Tryz.prog 185 [mK] mK O)(HA:dI Tryz.prog 184 [.v,.i .i64] (.aH [.i .i64,.b]) A){r:Value}{t:Int}(e:yi O A x t=some r)(hx:aY x):
 (aY r/\bB [r]=true)/\∀{m:Nat->Nat->Option Value}{w:World}{y:Value},Kn m w->bj m x y->Calls Tryz.prog 285 #[y,.int .i64 t] w λe w'=>∃v',e=.returned v'/\RowKit.Below w.heap.size w w'/\bj (dj m w w') r v':=by
 have mixed:Tryz.prog.follows .mixedOrders=true:=by kernel_rfl
 unfold yi at e;replace e:=af e;obtain⟨⟨n,cs⟩,hr,e⟩:=e;obtain⟨q,e⟩:=aT e;rw[bg] at q;have hl:cs.length=n*4:=bJ q.1;have hn:n<1000000000:=cT q.2;replace e:=af e;obtain⟨res,ho,e⟩:=e;replace e:=af e;obtain⟨⟨k,is⟩,ha,e⟩:=e;have hcp:bO cs:=by have:=wJ hr;subst this;cases hx with|lit a b=>exact⟨a,b⟩
 obtain⟨pr,lr⟩:=Lx HO hcp.1 ho;have hat:=@P0 _ _ _ HA _ _ _ ha (fq (n:=n) pr);cases is with
 |false=>
  cases e;refine⟨fq pr,λ{m w y} hm L=>?_⟩;obtain⟨a,c,xs,rfl,L2,h1,h2,h3⟩:=Ga hr L hl
  go_enter Tryz.func285,Tryz.ntmps285
  go_wp2_with (first|(go_at_call 298;refine(Fu HO hm L2 hcp.1 ho h1 h2 h3 (by rw[<-L2.len];exact hl) hn (L2.mn hcp.2)).mono ?_;rintro e w1 ⟨v,rfl,o1⟩;obtain⟨p,cp,rfl,hcp⟩:=(show∃p cp,v=.slice p n cp/\n<=cp from by obtain⟨_,_,o,_⟩:=o1.row;exact ownsRow_form o))|(go_at_call 184;refine(hat (λ_ _ _ h=>h) o1.shown).mono ?_;rintro e w2 ⟨rfl,b2⟩))
  go_ret
  obtain⟨m',ys,o,L3,k3,z3,e3,n3⟩:=o1.row;refine⟨_,rfl,o1.below.trans (b2.mono o1.below.size),?_⟩;exact Gb (aez (yY o b2)) L3 (k3.below b2) λb i u hb h=>by have:=n3 b i u h;unfold dj at this;rwa[ar hb] at this
 |true=>
  obtain⟨q2,e⟩:=aT e;cases e;rw[bg] at q2;obtain⟨k,rfl⟩:∃k':Nat,k=k':=⟨k.toNat,by have:=qw q2.1;simp at this;omega⟩;have hk:k<n:=by have:=cT q2.2;simpa using this
  have pr2:bO (res.take (k*4)++(res.drop ((k+1)*4)).take ((n -(k+1))*4)):=by
   refine⟨λx hx=>?_,qV _ _ (Fq pr.2 _) (Fq (Lo pr.2 _) _)⟩;rcases eM.1 hx with hx|hx
   ·exact pr.1 x (List.mem_of_mem_take hx)
   ·exact pr.1 x (xr (List.mem_of_mem_take hx))
  refine⟨fq pr2,λ{m w y} hm L=>?_⟩;obtain⟨a,c,xs,rfl,L2,h1,h2,h3⟩:=Ga hr L hl
  go_enter Tryz.func285,Tryz.ntmps285
  have n5:IntKind.i64.wrap ((k:Int)+1)=(k:Int)+1:=by rw[IntKind.wrap_i64];omega
  go_wp2_with (first|(go_at_call 298;refine(Fu HO hm L2 hcp.1 ho h1 h2 h3 (by rw[<-L2.len];exact hl) hn (L2.mn hcp.2)).mono ?_;rintro e w1 ⟨v,rfl,o1⟩;obtain⟨p,cp,rfl,hcp⟩:=(show∃p cp,v=.slice p n cp/\n<=cp from by obtain⟨_,_,o,_⟩:=o1.row;exact ownsRow_form o))|(go_at_call 184;refine(hat (λ_ _ _ h=>h) o1.shown).mono ?_;rintro e w2 ⟨rfl,b2⟩)|(go_at_call 330;obtain⟨m',ys,o,L3,k3,z3,e3,n3⟩:=o1.row;refine(YX (yY o b2) (L3.mn pr.2) hk hn).mono ?_;rintro e w3 ⟨v',rfl,R,G⟩))
  go_ret
  refine⟨_,rfl,?_,Gb R ((L3.take _).join ((L3.drop _).take _)) ((k3.below b2).grown G z3) λb i u hb h=>by have:=n3 b i u h;unfold dj at this;rwa[ar hb] at this⟩;exact(o1.below.trans (b2.mono o1.below.size)).grown G (o1.below.trans (b2.mono o1.below.size)).size λq e=>Fv o e
end
section
open Go.Shelf Go.RowKit Go.Lib
variable{A:uZ}
theorem Y6{O:oH}(HO:dI Tryz.prog 185 [mK] mK O)(HA:dI Tryz.prog 184 [.v,.i .i64] (.aH [.i .i64,.b]) A):dI Tryz.prog 285 [.v,.i .i64] .v (yi O A):=by
 intro ls r e hl us hu;obtain⟨x,r1,us1,h1,h2,rfl⟩:=gD hu;obtain⟨y,r2,us2,h3,h4,rfl⟩:=gD h2;obtain⟨rfl,rfl⟩:=pN h4;obtain rfl:=lY h1;obtain⟨t,rfl,rfl⟩:=tR h3;replace e:yi O A x t=some r:=e;have px:=(hl x (by simp)).1;obtain⟨p1,W⟩:=Y7 HO HA e px;refine⟨λz hz=>?_,r,rfl,BZ (λa ha=>?_) λm args' w hm A=>?_⟩
 ·have hz:bo.v z∈[bo.v r]:=hz;rw[bo.v.inj (kC.1 hz)];exact p1
 ·have ha:a=x\/a=.int .i64 t:=by simpa using ha
  rcases ha with rfl|rfl
  ·exact px
  ·exact .int _ _
 ·obtain⟨al⟩:=args';replace A:aP m _ al:=A;cases A with|cons a0 A=>?_
  cases A with|cons a1 A=>?_
  cases A;cases a1;exact W hm a0
variable{T:TypeId} {c0 c1 c2 c3:Value} {w w1:World}
theorem P9(b:RowKit.Below (w.alloc (.cells #[c0,c1,c2,c3] T)).heap.size (w.alloc (.cells #[c0,c1,c2,c3] T)) w1):
 w1.cell? ⟨w.heap.size,0,none⟩=some c0/\w1.cell? ⟨w.heap.size,1,none⟩=some c1/\w1.cell? ⟨w.heap.size,2,none⟩=some c2/\w1.cell? ⟨w.heap.size,3,none⟩=some c3/\w1.heap[w.heap.size]? =some (.cells #[c0,c1,c2,c3] T (0,0)):=by
 have h:w1.heap[w.heap.size]? =some (.cells #[c0,c1,c2,c3] T (0,0)):=(b.block _ (by simp)).trans (World.alloc_heap_new w _);refine⟨?_,?_,?_,?_,h⟩<;>(unfold World.cell?;simp[h])
variable{cs ys:List Value} {m':Nat->Nat->Option Value} {n:Nat} {v:Value}
theorem Wn{wr:World}{B:Nat}(o:wr.ownsRow B 73 4 v n ys)(L:aP m' cs ys)(k:Kn m' wr):bj (λb i=>fc wr b i) (ae n cs) v:=by
 obtain⟨hl,⟨rfl,rfl⟩|⟨g,cp,cur,rfl,h1,h2,h3,h4,h5,h6⟩⟩:=o
 ·have:cs=[]:=jJ (by rw[L.len];omega);subst this;exact .fN
 ·refine .gH (L.mono λb i u hu=>k b i u hu) (λi y hy=>?_) rfl h3;rw[qR h2,fg];rw[<-h6,qq] at hy;split at hy
  ·simpa using hy
  ·cases hy
theorem aey{w':World}{B b:Nat}{xs:List Value}(h:w.ownsRow B 73 4 v n xs)(s:nM b ⟨cs⟩ T (0,0) w w')(hb:b<B):w'.ownsRow B 73 4 v n xs:=by
 obtain⟨hl,h|⟨g,cp,cur,h0,h1,h2,h3⟩⟩:=h
 ·exact⟨hl,.inl h⟩
 ·exact⟨hl,.inr ⟨g,cp,cur,h0,h1,(s.block g (by omega)).trans h2,h3⟩⟩
variable{m:Nat->Nat->Option Value} {res:List Value} {vd z':Value} {w3:World}
theorem VF{w2:World}{X:Obj}(hm:Kn m w)(bel:RowKit.Below (w.alloc X).heap.size (w.alloc X) w1)(o:w1.ownsRow (w.alloc X).heap.size 73 4 v n ys)(L3:aP m' res ys)(k3:Kn m' w1)(z3:∀q,v.ownBlock=some q->∀i,m' q i=none)
 (n3:∀b i u,m' b i=some u->dj m (w.alloc X) w1 b i=some u) (b2:RowKit.Below w1.heap.size w1 w2) (lz:bj (dj m' w1 w2) vd z') (s5:nM w.heap.size ⟨cs⟩ T (0,0) w2 w3):
 ∃m2,w3.ownsRow (w.alloc X).heap.size 73 4 v n ys/\aP m2 res ys/\bj m2 vd z'/\Kn m2 w3/\(∀q,v.ownBlock=some q->∀i,m2 q i=none)/\(∀b i u,b<w.heap.size->m2 b i=some u->m b i=some u)/\RowKit.Below w.heap.size w w3:=by
 have hs:(w.alloc X).heap.size=w.heap.size+1:=by simp
 have lo:∀b i u,b<(w.alloc X).heap.size->m' b i=some u->m b i=some u:=λb i u hb h=>by have:=n3 b i u h;unfold dj at this;rwa[ar hb] at this
 have hbx:∀i,dj m' w1 w2 w.heap.size i=none:=λi=>by
  unfold dj;rw[ar (by have:=bel.size;omega)];cases h:m' w.heap.size i with
  |none=>rfl
  |some u=>have:=oU (hm _ _ _ (lo _ _ _ (by omega) h));omega
 have kn:=k3.new b2;refine⟨dj m' w1 w2,aey (yY o b2) s5 (by omega),L3.mono k3.mono,lz,λb i u hu=>?_,λq hq i=>?_,λb i u hb h=>?_,?_⟩
 ·exact(oe (s5.block b λe=>by rw[e,hbx] at hu;cases hu)).trans (kn b i u hu)
 ·have:=z3 q hq i;unfold dj;rw[ar (o.lt q hq).2];exact this
 ·unfold dj at h;rw[ar (by have:=bel.size;omega)] at h;exact lo _ _ _ (by omega) h
 ·have c:RowKit.Below w.heap.size w (w.alloc X):=(fb _ w).alloc (aB _) _;exact c.trans ((bel.mono (by omega)).trans ((b2.mono (by have:=bel.size;omega)).trans ⟨s5.os,s5.tape,s5.output,ta s5.size.symm,λk hk=>s5.block k (by omega)⟩))
variable{g:Nat}
theorem D0(h:w.heap[g]? =some (.cells ⟨[c0,c1,c2,c3]⟩ T (0,0))):w.cell? ⟨g,0,none⟩=some c0/\w.cell? ⟨g,1,none⟩=some c1/\w.cell? ⟨g,2,none⟩=some c2/\w.cell? ⟨g,3,none⟩=some c3:=by refine⟨?_,?_,?_,?_⟩<;>(unfold World.cell?;simp[h])
theorem tu.mono{B B':Nat}(h:tu w B v n cs)(hB:B'<=B):tu w B' v n cs:=by
 rcases h with h|⟨g,cp,cur,h0,h1,h2,h3⟩
 ·exact .inl h
 ·exact .inr ⟨g,cp,cur,h0,h1,eP hB h2,h3⟩
variable{k:Nat} {m2:Nat->Nat->Option Value} {t va vb:Int} {w4:World}
theorem afG{B:Nat}(r1:w3.ownsRow B 73 4 v n ys)(hB:B=w.heap.size+1)(r2:aP m2 res ys)(r3:bj m2 vd z')(r4:Kn m2 w3)(r5:∀q,v.ownBlock=some q->∀i,m2 q i=none)(r6:∀b i u,b<w.heap.size->m2 b i=some u->m b i=some u)(r7:RowKit.Below w.heap.size w w3)(b4:RowKit.Below w3.heap.size w3 w4)(ho:bB res=true)(hz:z'.oneCell'=true)(hn:n<1000000000)(hk:k<=n)(h3:B<=w3.heap.size):
 Calls Tryz.prog 299 #[v,.int .i64 k,.slice (some ⟨w4.heap.size,0,none⟩) 1 1] (w4.alloc (.cells #[.int .i64 t,.int .i64 va,.int .i64 vb,z'] 73)) λe w'=>∃v',e=.returned v'/\RowKit.Below w.heap.size w w'/\bj (dj m w w') (ae (n+1) (res.take (k*4)++([.int .i64 t,.int .i64 va,.int .i64 vb,vd]++res.drop (k*4)))) v':=by
 have c:RowKit.Below w4.heap.size w4 (w4.alloc (.cells #[.int .i64 t,.int .i64 va,.int .i64 vb,z'] 73)):=(fb _ w4).alloc (aB _) _;have o4:=yY r1 b4;have h4:=b4.size;have hz':(w4.alloc (.cells #[.int .i64 t,.int .i64 va,.int .i64 vb,z'] 73)).heap.size=w4.heap.size+1:=by simp
 refine(aak (B:=B) (X:=[.int .i64 t,.int .i64 va,.int .i64 vb,z']) (yY o4 c) (r2.mn ho) (by omega) hn hk rfl (λv h=>?_) (World.alloc_heap_new w4 _) λe=>?_).mono ?_
 ·simp only[cj,jh,jj] at h;rcases h with rfl|rfl|rfl|rfl
  ·rfl
  ·rfl
  ·rfl
  ·exact hz
 ·have:=(o4.lt _ e).2;omega
 ·rintro e w' ⟨v',rfl,R,G⟩
  have k5:=(r4.below b4).below c;have bw:RowKit.Below w.heap.size w (w4.alloc (.cells #[.int .i64 t,.int .i64 va,.int .i64 vb,z'] 73)):=r7.trans ((b4.mono (by omega)).trans (c.mono (by omega)));refine⟨v',rfl,bw.grown G bw.size λq e=>?_,Gb (tu.mono R (by omega)) ((r2.take _).join ((aP.cons (.int _ _) (.cons (.int _ _) (.cons (.int _ _) (.cons r3 .nil)))).join (r2.drop _))) (k5.grown G r5) r6⟩;have:=Fv r1 e;omega
theorem ahY{o:Nat}{cur:Array Value}{t:TypeId}(h:w.heap[g]? =some (.cells cur t (0,0)))(hl:o+4<=cur.size)(c a b:Int){z:Value}(hz:z.oneCell'=true):
 (∃v,w.cell? ⟨g,o,none⟩=some v)/\(∀k,w.frozen? ⟨g,k,none⟩=false)/\(∃v,(w.setCell ⟨g,o,none⟩ (.int .i64 c)).cell? ⟨g,o+1,none⟩=some v)/\(∃v,((w.setCell ⟨g,o,none⟩ (.int .i64 c)).setCell ⟨g,o+1,none⟩ (.int .i64 a)).cell? ⟨g,o+2,none⟩=some v)/\
 ∃w',(store ⟨g,o+3,none⟩ z).run Tryz.prog (((w.setCell ⟨g,o,none⟩ (.int .i64 c)).setCell ⟨g,o+1,none⟩ (.int .i64 a)).setCell ⟨g,o+2,none⟩ (.int .i64 b))=.ok () w'/\nM g ⟨(((cur.toList.set o (.int .i64 c)).set (o+1) (.int .i64 a)).set (o+2) (.int .i64 b)).set (o+3) z⟩ t (0,0) w w':=by
 have q0:=IG (k:=o) h (.int .i64 c);obtain⟨⟨v1,s1⟩,_,_,⟨v2,s2⟩,w',s3,s4⟩:=Is q0.at_ (o:=o) (by show _<=(cur.toList.set _ _).length;simpa using hl) a b hz;refine⟨⟨cur[o],?_⟩,λk=>?_,⟨v1,s1⟩,⟨v2,s2⟩,w',s3,⟨s4.os.trans q0.os,s4.tape.trans q0.tape,s4.output.trans q0.output,s4.size.trans q0.size,λk hk=>(s4.block k hk).trans (q0.block k hk),s4.at_⟩⟩
 ·unfold World.cell?;simp[h]
 ·unfold World.frozen?;simp[h]
theorem afI{B cp:Nat}{p:Option Addr}(r1:w3.ownsRow B 73 4 (.slice p n cp) n ys)(hB:B=w.heap.size+1)(r2:aP m2 res ys)(r3:bj m2 vd z')(r4:Kn m2 w3)(r5:∀q,(Value.slice p n cp).ownBlock=some q->∀i,m2 q i=none)(r6:∀b i u,b<w.heap.size->m2 b i=some u->m b i=some u)(r7:RowKit.Below w.heap.size w w3)(b4:RowKit.Below w3.heap.size w3 w4)(hz:z'.oneCell'=true)(hk:k<n)(h3:B<=w3.heap.size):
 ∃g,p=some ⟨g,0,none⟩/\(∃v,w4.cell? ⟨g,k*4,none⟩=some v)/\(∀k,w4.frozen? ⟨g,k,none⟩=false)/\(∃v,(w4.setCell ⟨g,k*4,none⟩ (.int .i64 t)).cell? ⟨g,k*4+1,none⟩=some v)/\(∃v,((w4.setCell ⟨g,k*4,none⟩ (.int .i64 t)).setCell ⟨g,k*4+1,none⟩ (.int .i64 va)).cell? ⟨g,k*4+2,none⟩=some v)/\
 ∃w',(store ⟨g,k*4+3,none⟩ z').run Tryz.prog (((w4.setCell ⟨g,k*4,none⟩ (.int .i64 t)).setCell ⟨g,k*4+1,none⟩ (.int .i64 va)).setCell ⟨g,k*4+2,none⟩ (.int .i64 vb))=.ok () w'/\RowKit.Below w.heap.size w w'/\bj (dj m w w') (ae n (res.take (k*4)++([.int .i64 t,.int .i64 va,.int .i64 vb,vd]++res.drop ((k+1)*4)))) (.slice (some ⟨g,0,none⟩) n cp):=by
 obtain⟨hl,⟨_,h0⟩|⟨g,cp',cur,e,hg1,hg2,hg3,hg4,hg5,hg6⟩⟩:=yY r1 b4
 ·omega
 cases e;obtain⟨a1,a2,a3,a4,w5,a5,a6⟩:=ahY hg2 (o:=k*4) (by omega) t va vb hz;have g9:=r5 g rfl;have k4:=r4.below b4;have hs4:=b4.size;refine⟨g,rfl,a1,a2,a3,a4,w5,a5,r7.trans ((b4.mono (by omega)).trans ⟨a6.os,a6.tape,a6.output,ta a6.size.symm,λj hj=>a6.block j (by omega)⟩),?_⟩;refine Gb (.inr ⟨g,cp,_,rfl,hg3,by omega,a6.at_,rfl⟩) ?_ (λb i u hu=>(oe (a6.block b λe=>by rw[e,g9] at hu;cases hu)).trans (k4 b i u hu)) r6;have hT:((((cur.toList.set (k*4) (.int .i64 t)).set (k*4+1) (.int .i64 va)).set (k*4+2) (.int .i64 vb)).set (k*4+3) z').take (n*4)=ys.take (k*4)++([.int .i64 t,.int .i64 va,.int .i64 vb,z']++ys.drop ((k+1)*4)):=by
  rw[List.take_set,List.take_set,List.take_set,List.take_set,hg6];have e0:ys=ys.take (k*4)++ys.drop (k*4):=(mD _ _).symm;have e1:(ys.take (k*4)).length=k*4:=by rw[dH];omega
  have e2:(ys.drop (k*4)).length=(n -k)*4:=by rw[dZ];omega
  have e3:ys.drop ((k+1)*4)=(ys.drop (k*4)).drop 4:=by rw[List.drop_drop];congr 1;omega
  rw[e3]
  conv=>lhs;rw[e0]
  generalize ys.take (k*4)=P at*;generalize ys.drop (k*4)=Q at*;have hd:∀j (u:Value) (x:List Value),(P++x).set (k*4+j) u=P++x.set j u:=λj u x=>by rw[List.set_append_right _ _ (by omega)];congr 2;omega
  rw[show(P++Q).set (k*4) (.int .i64 t)=P++Q.set 0 (.int .i64 t) from hd 0 _ _,hd,hd,hd]
  match Q,e2 with
  |x0::x1::x2::x3::Q,_=>rfl
  |[],h=>simp at h;omega
  |[_],h=>simp at h;omega
  |[_,_],h=>simp at h;omega
  |[_,_,_],h=>simp at h;omega
 show aP m2 _ (List.take (n*4) (List.set _ _ _));rw[hT];exact(r2.take _).join ((aP.cons (.int _ _) (.cons (.int _ _) (.cons (.int _ _) (.cons r3 .nil)))).join (r2.drop _))
noncomputable def zr(O:oH)(A:uZ)(x:Value)(t a b:Int)(d:Value):Option Value:=ob (rowOf x) λp=>cond (Nat.beq p.2.length (p.1 *4)&&Nat.blt p.1 1000000000&&bB [d]) (ob (nb O p.2) λres=>ob (O a b d) λv=>ob (A (ae p.1 res) t) λq=>cond q.2
 (cond (decide (0<=q.1)&&Nat.blt q.1.toNat p.1) (some (ae p.1 (res.take (q.1.toNat*4)++([.int .i64 t,.int .i64 v.1,.int .i64 v.2.1,v.2.2]++res.drop ((q.1.toNat+1)*4))))) none)
 (cond (decide (0<=q.1)&&Nat.ble q.1.toNat p.1) (some (ae (p.1 +1) (res.take (q.1.toNat*4)++([.int .i64 t,.int .i64 v.1,.int .i64 v.2.1,v.2.2]++res.drop (q.1.toNat*4))))) none)) none
theorem afJ{O:oH}(HO:dI Tryz.prog 185 [mK] mK O)(HA:dI Tryz.prog 184 [.v,.i .i64] (.aH [.i .i64,.b]) A){x r d:Value}{a b:Int}(e:zr O A x t a b d=some r)(hx:aY x)(hd:aY d):
 (aY r/\bB [r]=true)/\∀{m:Nat->Nat->Option Value}{w:World}{y z:Value},Kn m w->bj m x y->bj m d z->Calls Tryz.prog 252 #[y,.agg #[.int .i64 t,.int .i64 a,.int .i64 b,z]] w λe w'=>∃v',e=.returned v'/\RowKit.Below w.heap.size w w'/\bj (dj m w w') r v':=by
 have mixed:Tryz.prog.follows .mixedOrders=true:=by kernel_rfl
 unfold zr at e;replace e:=af e;obtain⟨⟨n,cs⟩,hr,e⟩:=e;obtain⟨q,e⟩:=aT e;rw[bg,bg] at q;have hl:cs.length=n*4:=bJ q.1.1;have hn:n<1000000000:=cT q.1.2;have od:=q.2;replace e:=af e;obtain⟨res,ho,e⟩:=e;replace e:=af e;obtain⟨⟨va,vb,vd⟩,hv,e⟩:=e;replace e:=af e;obtain⟨⟨k,is⟩,ha,e⟩:=e;have hcp:bO cs:=by have:=wJ hr;subst this;cases hx with|lit a b=>exact⟨a,b⟩
 obtain⟨pr,lr⟩:=Lx HO hcp.1 ho;have hat:=@P0 _ _ _ HA _ _ _ ha (fq (n:=n) pr);obtain⟨pv,own⟩:=@Lw _ _ _ HO _ _ _ _ hv ⟨hd,od⟩;have pX:∀{l:List Value},bO l->bO ([.int .i64 t,.int .i64 va,.int .i64 vb,vd]++l):=λ{l} h=>by
  refine⟨λx hx=>?_,qV [.int .i64 t,.int .i64 va,.int .i64 vb,vd] _ (qV [.int .i64 t,.int .i64 va,.int .i64 vb] [vd] rfl pv.2) h.2⟩;simp only[jg,iF,cj] at hx;rcases hx with rfl|rfl|rfl|rfl|hx
  ·exact .int _ _
  ·exact .int _ _
  ·exact .int _ _
  ·exact pv.1
  ·exact h.1 x hx
 have pT:∀k,bO (res.take k):=λk=>⟨λx h=>pr.1 x (List.mem_of_mem_take h),Fq pr.2 k⟩;have pD:∀k,bO (res.drop k):=λk=>⟨λx h=>pr.1 x (xr h),Lo pr.2 k⟩;have pJ:∀{a b:List Value},bO a->bO b->bO (a++b):=λh1 h2=>⟨λx h=>(eM.1 h).elim (h1.1 x) (h2.1 x),qV _ _ h1.2 h2.2⟩;cases is with
 |false=>
  obtain⟨q2,e⟩:=aT e;cases e;rw[bg] at q2;obtain⟨k,rfl⟩:∃k':Nat,k=k':=⟨k.toNat,by have:=qw q2.1;simp at this;omega⟩;have hk:k<=n:=by have:=cI q2.2;simpa using this
  refine⟨fq (pJ (pT _) (pX (pD _))),λ{m w y z} hm L Lz=>?_⟩;obtain⟨s,c,xs,rfl,L2,h1,h2,h3⟩:=Ga hr L hl
  go_enter Tryz.func252,Tryz.ntmps252
  have hz1:z.oneCell'=true:=Lz.mn od;have b0:RowKit.Below w.heap.size w (w.alloc (.cells #[.int .i64 t,.int .i64 a,.int .i64 b,z] 73)):=(fb _ w).alloc (aB _) _
  go_wp2_with (first|(go_at_call 298;refine(Fu HO (w:=w.alloc (.cells #[.int .i64 t,.int .i64 a,.int .i64 b,z] 73)) (hm.below b0) L2 hcp.1 ho h1 h2 h3 (by rw[<-L2.len];exact hl) hn (L2.mn hcp.2)).mono ?_;rintro e w1 ⟨v,rfl,o1⟩;obtain⟨p,cp,rfl,hcp⟩:=(show∃p cp,v=.slice p n cp/\n<=cp from by obtain⟨_,_,o,_⟩:=o1.row;exact ownsRow_form o);obtain⟨bx0,bx1,bx2,bx3,bx⟩:=P9 o1.below;obtain⟨m',ys,o,L3,k3,z3,e3,n3⟩:=o1.row)|(go_at_call 185;refine(own k3 (Lz.mono e3)).mono ?_;rintro e w2 ⟨z',rfl,b2,lz⟩;have hz2:z'.oneCell'=true:=bj.mn lz pv.2;have bl1:=(lL.1 bx).1;have hbx:=(b2.block _ bl1).trans bx;have by0:=(iP (a:=⟨w.heap.size,0,none⟩) (b2.block _ bl1)).trans bx0;obtain⟨⟨v1,s1⟩,⟨v2,s2⟩,sf,⟨v3,s3⟩,w3,s4,s5⟩:=Is hbx (o:=0) (by simp) va vb hz2;simp only[fg] at s1 s2 s3 s4 s5;clear hbx;replace s5:nM w.heap.size ⟨[.int .i64 t,.int .i64 va,.int .i64 vb,z']⟩ 73 (0,0) w2 w3:=s5;obtain⟨f0,f1,f2,f3⟩:=D0 s5.at_)|(go_at_call 184;obtain⟨m2,r1,r2,r3,r4,r5,r6,r7⟩:=VF hm o1.below o L3 k3 z3 n3 b2 lz s5;refine(hat (λ_ _ _ h=>h) (Wn r1 r2 r4)).mono ?_;rintro e w4 ⟨rfl,b4⟩;have hb4:=(b4.block _ (lL.1 s5.at_).1).trans s5.at_;obtain⟨g0,g1,g2,g3⟩:=D0 hb4;clear hb4)|(go_at_call 299;refine(afG r1 (by simp) r2 r3 r4 r5 r6 r7 b4 pr.2 hz2 hn hk (by have:=o1.below.size;have:=b2.size;have:=s5.size;omega)).mono ?_;rintro e w5 ⟨v',rfl,b5,l5⟩))
  go_ret
  exact⟨_,rfl,b5,l5⟩
 |true=>
  obtain⟨q2,e⟩:=aT e;cases e;rw[bg] at q2;obtain⟨k,rfl⟩:∃k':Nat,k=k':=⟨k.toNat,by have:=qw q2.1;simp at this;omega⟩;have hk:k<n:=by have:=cT q2.2;simpa using this
  have hk':(k:Int)<(n:Int):=by omega
  refine⟨fq (pJ (pT _) (pX (pD _))),λ{m w y z} hm L Lz=>?_⟩;obtain⟨s,c,xs,rfl,L2,h1,h2,h3⟩:=Ga hr L hl
  go_enter Tryz.func252,Tryz.ntmps252
  have hz1:z.oneCell'=true:=Lz.mn od;have b0:RowKit.Below w.heap.size w (w.alloc (.cells #[.int .i64 t,.int .i64 a,.int .i64 b,z] 73)):=(fb _ w).alloc (aB _) _
  go_wp2_with (first|(go_at_call 298;refine(Fu HO (w:=w.alloc (.cells #[.int .i64 t,.int .i64 a,.int .i64 b,z] 73)) (hm.below b0) L2 hcp.1 ho h1 h2 h3 (by rw[<-L2.len];exact hl) hn (L2.mn hcp.2)).mono ?_;rintro e w1 ⟨v,rfl,o1⟩;obtain⟨p,cp,rfl,hcp⟩:=(show∃p cp,v=.slice p n cp/\n<=cp from by obtain⟨_,_,o,_⟩:=o1.row;exact ownsRow_form o);obtain⟨bx0,bx1,bx2,bx3,bx⟩:=P9 o1.below;obtain⟨m',ys,o,L3,k3,z3,e3,n3⟩:=o1.row)|(go_at_call 185;refine(own k3 (Lz.mono e3)).mono ?_;rintro e w2 ⟨z',rfl,b2,lz⟩;have hz2:z'.oneCell'=true:=bj.mn lz pv.2;have bl1:=(lL.1 bx).1;have hbx:=(b2.block _ bl1).trans bx;have by0:=(iP (a:=⟨w.heap.size,0,none⟩) (b2.block _ bl1)).trans bx0;obtain⟨⟨v1,s1⟩,⟨v2,s2⟩,sf,⟨v3,s3⟩,w3,s4,s5⟩:=Is hbx (o:=0) (by simp) va vb hz2;simp only[fg] at s1 s2 s3 s4 s5;clear hbx;replace s5:nM w.heap.size ⟨[.int .i64 t,.int .i64 va,.int .i64 vb,z']⟩ 73 (0,0) w2 w3:=s5;obtain⟨f0,f1,f2,f3⟩:=D0 s5.at_)|(go_at_call 184;obtain⟨m2,r1,r2,r3,r4,r5,r6,r7⟩:=VF hm o1.below o L3 k3 z3 n3 b2 lz s5;refine(hat (λ_ _ _ h=>h) (Wn r1 r2 r4)).mono ?_;rintro e w4 ⟨rfl,b4⟩;have hb4:=(b4.block _ (lL.1 s5.at_).1).trans s5.at_;obtain⟨g0,g1,g2,g3⟩:=D0 hb4;clear hb4;obtain⟨g,rfl,⟨x1,y1⟩,y2,⟨x3,y3⟩,⟨x4,y4⟩,w5,y5,b5,l5⟩:=afI (t:=t) (va:=va) (vb:=vb) r1 (by simp) r2 r3 r4 r5 r6 r7 b4 hz2 hk (by have:=o1.below.size;have:=b2.size;have:=s5.size;omega)))
  go_ret
  exact⟨_,rfl,b5,l5⟩
end
section
open Go.Shelf Go.RowKit Go.Lib
theorem afH{O:oH}{A:uZ}(HO:dI Tryz.prog 185 [mK] mK O)(HA:dI Tryz.prog 184 [.v,.i .i64] (.aH [.i .i64,.b]) A):dI Tryz.prog 252 [.v,.agg [.i .i64,.i .i64,.i .i64,.v]] .v (zr O A):=by
 intro ls r e hl us hu;obtain⟨x,r1,us1,h1,h2,rfl⟩:=gD hu;obtain⟨y,r2,us2,h3,h4,rfl⟩:=gD h2;obtain⟨rfl,rfl⟩:=pN h4;obtain rfl:=lY h1;obtain⟨vs,h5,rfl⟩:=Ei h3;obtain⟨y0,r3,us3,i0,h6,rfl⟩:=gD h5;obtain⟨y1,r4,us4,i1,h7,rfl⟩:=gD h6;obtain⟨y2,r5,us5,i2,h8,rfl⟩:=gD h7;obtain⟨d,r6,us6,i3,h9,rfl⟩:=gD h8;obtain⟨rfl,rfl⟩:=pN h9;obtain⟨t,rfl,rfl⟩:=tR i0;obtain⟨a,rfl,rfl⟩:=tR i1;obtain⟨b,rfl,rfl⟩:=tR i2;obtain rfl:=lY i3;replace e:zr O A x t a b d=some r:=e;have px:=(hl x (by simp)).1;have pd:=(hl d (by simp)).1;obtain⟨p1,W⟩:=afJ HO HA e px pd;refine⟨λz hz=>?_,r,rfl,BZ (λc hc=>?_) λm args' w hm A=>?_⟩
 ·have hz:bo.v z∈[bo.v r]:=hz;rw[bo.v.inj (kC.1 hz)];exact p1
 ·have hc:c=x\/c=.agg ⟨[.int .i64 t,.int .i64 a,.int .i64 b,d]⟩:=by simpa using hc
  rcases hc with rfl|rfl
  ·exact px
  ·refine .agg λz hz=>?_;simp only[cj,jh,jj] at hz;rcases hz with rfl|rfl|rfl|rfl
   ·exact .int _ _
   ·exact .int _ _
   ·exact .int _ _
   ·exact pd
 ·obtain⟨al⟩:=args';replace A:aP m _ al:=A;cases A with|cons a0 A=>?_
  cases A with|cons a1 A=>?_
  cases A;cases a1 with
  |@agg _ xs' h=>
  obtain⟨xl⟩:=xs';cases h with|cons j0 h=>?_
  cases j0;cases h with|cons j1 h=>?_
  cases j1;cases h with|cons j2 h=>?_
  cases j2;cases h with|cons j3 h=>?_
  cases h;exact W hm a0 j3
end
end Lt
end Go.Proofs.YtfdojmichbgpiaaGreatDoor

/- Proved: LimitsMay returns true for every bundle. Conditions: the library variables that the row lists start as laid. -/
import Derived.Test.YtfdojmichbgpiaaGreatDoorCards
import Derived.Test.YtfdojmichbgpiaaGreatDoorTie
import Derived.Deep.DeepWitnessRowRef
import Derived.LaidMore
import Derived.Lib.SmallJoins
import Derived.Test.YtfdojmichbgpiaaGreatDoorRG
namespace Go.Proofs.YtfdojmichbgpiaaGreatDoor
set_option maxRecDepth 100000
namespace Lt
theorem ah8{w L:Nat}{b:List UInt8}{o:Int}(R:qz w L b o){sh:List aV}(hsh:iu sh){s:Nat}(hs:s<sh.length)(hlk:(aJ sh s).bG.length<100000){f:Nat}{rec:rN}(hrec:xA sh b o L f rec){at_ dir no no':Nat}{E:List bf}{S S2 S3 S4:List bm}{tags:List aI}{subs:cF}{blob:List UInt8}{T:List Nat}
 (hE:∀x∈E,x.slot<4294967296) (hEl:E.length<65536) (hat:at_+6+12*E.length<=L)
 (h2:jF (ej (aJ sh s)) b o dir E S=.ok (tags,S2))
 (hP1:(E.filter λx=>eZ (aJ sh s) x.tag).length≠1)
 (h3:lI (jS b o sh f) (aJ sh s) (E.filter λx=>eS (aJ sh s) x.tag) no S2=.ok (subs,no',S3))
 (hfin:(∃p q,(E.filter λx=>eZ (aJ sh s) x.tag)=[p,q]/\q.slot≠0/\p.slot<4294967296/\q.slot<4294967296/\ky L S3 ⟨4,dir,0,p.slot,q.slot⟩=.ok S4/\blob=(b.drop p.slot).take q.slot)\/((E.filter λx=>eZ (aJ sh s) x.tag).length≠2/\S4=S3/\blob=[]))
 (hS:S4.length<100000000) (hno:no'<2^40) (_:dir<2^40) (H:Tk T L (fL S)) (so:Int) (c:Nat):
 ∃T' so',Tk T' L (fL S4)/\T'.length=T.length/\
  WU w rec at_ dir (aC bH E) (aC bH (E.filter λx=>eS (aJ sh s) x.tag)) (aC bH (E.filter λx=>eZ (aJ sh s) x.tag)) (aC bH (E.filter λx=>!ej (aJ sh s) x.tag)) (aC bH E) E.length 0 (aj b) o (cw sh) T.length c no so (ae 0 []) (fY (aJ sh s).bG) (aJ sh s).at_ (aJ sh s).cA (aJ sh s).next (ed T) (S.flatMap cd) [] []=
   some (.inl (az tags,ae (cm subs) (gd subs),aj blob,(cn b (at_+2+12*E.length) 4 o:Int),aj b,o,cw sh,T.length,c,(no':Int),so',ed T',S4.flatMap cd)):=by
 have hsm:=R.small;have hlen:=R.len;have hw:=R.wide;have h232:∀n,eG w true n=some (.inl ()):=λ_=>rfl;obtain⟨tl,htl⟩:∃tl,T.length=tl:=⟨_,rfl⟩;rw[htl];have hS24:S2.length<=S4.length:=by
  obtain⟨_,u,e⟩:=B5 (B4 f) h3;have e:=bK List.length e;rw[aR] at e;rcases hfin with⟨p,q,_,_,_,_,ht,_⟩|⟨_,e',_⟩
  ·rw[(o9 ht).1,aR];omega
  ·rw[e'];omega
 have key:∀(k i v:Nat)(S:List bm)(T:List Nat)(so:Int)(ts D:List aI),i+k=E.length->k<v->D.length<=i->jF (ej (aJ sh s)) b o dir (E.drop i) S=.ok (ts,S2)->D++ts=tags->Tk T L (fL S)->T.length=tl->
  ∃T' so',Tk T' L (fL S4)/\T'.length=tl/\
   lp Ad (sV w rec) v at_ dir (aC bH E) (aC bH (E.filter λx=>eS (aJ sh s) x.tag)) (aC bH (E.filter λx=>eZ (aJ sh s) x.tag)) (aC bH ((E.drop i).filter λx=>!ej (aJ sh s) x.tag)) (aC bH E) E.length i (aj b) o (cw sh) tl c no so (ae 0 []) (fY (aJ sh s).bG) (aJ sh s).at_ (aJ sh s).cA (aJ sh s).next (ed T) (S.flatMap cd) (D.flatMap cx) []=
    some (.inl (az tags,ae (cm subs) (gd subs),aj blob,(cn b (at_+2+12*E.length) 4 o:Int),aj b,o,cw sh,tl,c,(no':Int),so',ed T',S4.flatMap cd)):=by
  intro k;induction k with
  |zero=>
   intro i v S T so ts D hi hv hD hr hDr HT hTl;rw[show E.drop i=[] from List.drop_of_length_le (by omega),jF] at hr;injection hr with hr;cases hr;rw[eH] at hDr;subst hDr;have e1:¬((i:Int)<(E.length:Int)):=by omega
   rw[ef Ad (sV w rec) (by omega)];unfold sV Ch;simp only[bc,e1,cy,aE];rw[dw];have e2:ak (Int.ofNat (E.filter λx=>eZ (aJ sh s) x.tag).length) 1=false:=by rw[cD,fI,cu];omega
   rw[e2,show(!false)=true from rfl,h232];simp only[aA,iD];rw[dw];have hKl:=List.length_filter_le (λx:bf=>eS (aJ sh s) x.tag) E;obtain⟨T',so',t1,t2,t3⟩:=aaX R hsh hs hlk hrec (at_:=at_) (dir:=dir) (E:=E) (P:=E.filter λx=>eZ (aJ sh s) x.tag) (K:=E.filter λx=>eS (aJ sh s) x.tag) (T:=T)
    (λx hx=>⟨(oE.1 hx).2,hE x (oE.1 hx).1⟩) (by omega) hat h3 hfin hS hno HT so c (D.flatMap cx)
   rw[hTl] at t2 t3;refine⟨T',so',t1,t2,?_⟩;have htg:ae ((D.flatMap cx).length/4) (D.flatMap cx)=az D:=by rw[eJ gI,lP _ (by decide)];rfl
   rw[htg] at t3;exact t3
  |succ k ih=>
   intro i v S T so ts D hi hv hD hr hDr HT hTl;have hiE:i<E.length:=by omega
   have hmem:=dL hiE;have e1:((i:Int)<(E.length:Int)):=by omega
   have tg:∀(y:bf)(r:List Value),bH y++r=Value.int .i64 y.tag::.int .i64 y.ty::.int .i64 y.au::.int .i64 (y.slot:Int)::r:=λ_ _=>rfl;rw[dG hiE,jF] at hr;rw[ef Ad (sV w rec) (by omega)];by_cases ho:ej (aJ sh s) E[i].tag=true
   ·rw[ar ho] at hr;split at hr
    case isFalse=>cases hr
    rename_i h41;obtain⟨T',so',v1,v2,v3⟩:=ih (i+1) (v -1) S T so ts D (by omega) (by omega) (by omega) hr hDr HT hTl;refine⟨T',so',v1,v2,?_⟩;rw[<-v3];generalize hg:lp Ad (sV w rec) (v -1)=g;have hfl:(E.drop i).filter (λx=>!ej (aJ sh s) x.tag)=(E.drop (i+1)).filter (λx=>!ej (aJ sh s) x.tag):=by rw[dG hiE,jK,ho];rfl
    rw[hfl];generalize hX:(E.drop (i+1)).filter (λx=>!ej (aJ sh s) x.tag)=X;unfold sV Ch;simp only[bc,e1,bn,ay,ct];rw[bW kk hiE,tg];simp only[bN,cH];rw[dw,h41.1,h41.2];have hnx:ah IntKind.i64 ((i:Int).add 1)=((i+1:Nat):Int):=by rw[cR,aN (by omega) (by omega)];rfl
    have hend:(bif ak 4 4 then ob (eG w (ak 1 1) 6) λ(x112:PUnit⊕Int)=>dk x112 (λ(x113:PUnit)=>g (at_:Int) (dir:Int) (aC bH E) (aC bH (E.filter λx=>eS (aJ sh s) x.tag)) (aC bH (E.filter λx=>eZ (aJ sh s) x.tag)) (aC bH X) (aC bH E) (E.length:Int) (ah IntKind.i64 ((i:Int).add 1)) (aj b) o (cw sh) tl c no so (ae 0 []) (fY (aJ sh s).bG) (aJ sh s).at_ (aJ sh s).cA (aJ sh s).next (ed T) (S.flatMap cd) (D.flatMap cx) []) λ(x114:Int)=>some (Sum.inr (x114,aj b,o,cw sh,tl,c,(no:Int),so,ed T,S.flatMap cd)) else(none:tz))=g (at_:Int) (dir:Int) (aC bH E) (aC bH (E.filter λx=>eS (aJ sh s) x.tag)) (aC bH (E.filter λx=>eZ (aJ sh s) x.tag)) (aC bH X) (aC bH E) (E.length:Int) ((i+1:Nat):Int) (aj b) o (cw sh) tl c no so (ae 0 []) (fY (aJ sh s).bG) (aJ sh s).at_ (aJ sh s).cA (aJ sh s).next (ed T) (S.flatMap cd) (D.flatMap cx) []:=by rw[hnx];rfl
    rcases X with _|⟨y,X⟩
    ·have e5:decide ((0:Int)<Int.ofNat ([]:List bf).length)=false:=rfl;rw[e5,aE];exact hend
    ·have e5:decide ((0:Int)<Int.ofNat (y::X).length)=true:=by rw[bV,cu,cQ];omega
     have hy:ej (aJ sh s) y.tag=false:=by have:=(oE.1 (show y∈(E.drop (i+1)).filter (λx=>!ej (aJ sh s) x.tag) by rw[hX];exact mC)).2;simpa using this
     have ca:¬(E[i].tag=y.tag):=λq=>by rw[q,hy] at ho;cases ho
     have x0:∀(K:List Value->tz),aQ 4 0 (aC bH (y::X)) K=K (bH y++(X.flatMap bH)):=λK=>bW kk (l:=y::X) (m:=0) (by rw[cQ];omega) K;rw[e5,ay,x0,tg];simp only[bN,cH,cD,ca,cy,aE];have hend2:=hend;simp only[cD] at hend2;exact hend2
   ·rw[ai ho] at hr;split at hr
    ·cases hr
    rename_i t S1 hv1;split at hr
    ·cases hr
    rename_i ts2 S2' ht;injection hr with hr;cases hr;obtain⟨u,hu⟩:=zc ht;obtain⟨_,T1,so1,t1,t2,t3⟩:=agQ (w:=w) (dir:=dir) R HT hv1 (hE _ hmem) (by have:=bK List.length hu;rw[aR] at this;omega) (cw sh) c (no:Int) so;rw[hTl] at t2 t3;obtain⟨T',so',v1,v2,v3⟩:=ih (i+1) (v -1) S1 T1 so1 ts2 (D++[t]) (by omega) (by omega) (by rw[aR,xq];omega) ht (by rw[<-hDr];simp) t1 t2;refine⟨T',so',v1,v2,?_⟩;rw[<-v3];generalize hg:lp Ad (sV w rec) (v -1)=g;have ho':ej (aJ sh s) E[i].tag=false:=by simpa using ho
    have hfl:(E.drop i).filter (λx=>!ej (aJ sh s) x.tag)=E[i]::(E.drop (i+1)).filter (λx=>!ej (aJ sh s) x.tag):=by rw[dG hiE,jK,ho'];rfl
    rw[hfl];generalize hX:(E.drop (i+1)).filter (λx=>!ej (aJ sh s) x.tag)=X;unfold sV Ch;simp only[bc,e1,bn,ay,ct];rw[bW kk hiE,tg];simp only[bN,cH];rw[dw];have e5:decide ((0:Int)<Int.ofNat (E[i]::X).length)=true:=by rw[bV,cu,cQ];omega
    have x0:∀(K:List Value->tz),aQ 4 0 (aC bH (E[i]::X)) K=K (bH E[i]++(X.flatMap bH)):=λK=>bW kk (l:=E[i]::X) (m:=0) (by rw[cQ];omega) K;rw[e5,ay,x0,tg];simp only[bN,cH,cD,bn,ay];rw[t3];simp only[aA,iD];have hr1:aK (D.flatMap cx).length=true:=by rw[eJ gI];simp;omega
    rw[hr1,dw];have e6:1<=(E[i]::X).length:=by rw[cQ];omega
    simp only[show aK 1=true from rfl,fP,eL,nA,rH,cQ,List.length_nil,gu,aB,bn,show Nat.beq (0+1+1+1+1) 4=true from rfl,ay,cR];have e7:1<=X.length+1:=by omega
    have e8:decide (1<=X.length+1)=true:=fS e7;rw[e8,ay,yd kk (E[i]::X) (a:=1) (b:=X.length+1) (by rw[cQ];omega),show X.length+1 -1=X.length by omega,List.drop_succ_cons,eL,gh (aB _),aN (n:=(i:Int)+1) (by omega) (by omega),show(i:Int)+1=((i+1:Nat):Int) by omega,gq];have htc:[t].flatMap cx=[Value.int .i64 t.tag,.int .i64 t.ty,.int .i64 t.au,aj t.data]:=rfl;rw[htc]
 have hfin0:=key E.length 0 w S T so tags [] (by omega) (by omega) (aB _) (by rw[eL];exact h2) rfl H htl;rw[eL] at hfin0;exact hfin0
section
theorem Q2(b:List UInt8)(o:Int):∀(n p:Nat),∀x∈jy b o p n,x.slot<4294967296
 |0,_,x,h=>by cases h
 |n+1,p,x,h=>by
  rcases cj.1 (h) with rfl|h
  ·exact E7 b (p+8) o
  ·exact Q2 b o n (p+12) x h
variable{b:List UInt8} {f w:Nat} {o:Int} {sh:List aV}
theorem ahQ{L:Nat}(R:qz w L b o)(hsh:iu sh)(hlk:∀s,s<sh.length->(aJ sh s).bG.length<100000){rec:rN}(hrec:xA sh b o L f rec):xA sh b o L (f+1) (Ip w rec):=by
 have hsm:=R.small;have hlen:=R.len;have hw:=R.wide;intro at_ s no Sp d next no' S' T so c h hs hat hS hno HT
 rw[jS] at h;split at h
 case isFalse=>cases h
 rename_i h0;split at h
 ·cases h
 rename_i hn;split at h
 ·cases h
 rename_i S1 h1;split at h
 case isFalse=>cases h
 rename_i hr;split at h
 ·cases h
 rename_i tags S2 h2;split at h
 ·cases h
 rename_i hP1;split at h
 ·cases h
 rename_i subs no2 S3 h3;rw[hlen] at h0 h1;obtain⟨a1,_,a3⟩:=o9 h1;obtain⟨u2,e2⟩:=zc h2;obtain⟨k,u3,e3⟩:=B5 (B4 f) h3;obtain⟨n,hnn⟩:∃n,cn b at_ 2 o=n:=⟨_,rfl⟩;have hn2:n<65536:=by rw[<-hnn];exact Tc b at_ R.ord
 obtain⟨E,hE⟩:∃E,jy b o (at_+2) n=E:=⟨_,rfl⟩;have hEl:E.length=n:=by rw[<-hE,JI]
 have hEs:∀x∈E,x.slot<4294967296:=by rw[<-hE];exact Q2 b o n _
 rw[hnn,hE] at h;dsimp only at a3;have hS13:Sp.length<=S3.length:=by rw[e3,e2,a1];simp only[aR];omega
 have hend:∃S4 blob,((∃p q,(E.filter λx=>eZ (aJ sh s) x.tag)=[p,q]/\q.slot≠0/\p.slot<4294967296/\q.slot<4294967296/\ky L S3 ⟨4,(no:Int),0,p.slot,q.slot⟩=.ok S4/\blob=(b.drop p.slot).take q.slot)\/((E.filter λx=>eZ (aJ sh s) x.tag).length≠2/\S4=S3/\blob=[]))/\
  d=.mk tags subs blob/\next=cn b (at_+2+12*n) 4 o/\no'=no2/\S'=S4:=by
  split at h
  ·rename_i p q hpq;split at h
   ·cases h
   rename_i hq;split at h
   ·cases h
   rename_i S4 ht;injection h with h;cases h;refine⟨_,_,.inl ⟨p,q,hpq,hq,?_,?_,by rw[<-hlen];exact ht,rfl⟩,rfl,rfl,rfl,rfl⟩
   ·exact hEs p (oE.1 (show p∈E.filter λx=>eZ (aJ sh s) x.tag by rw[hpq];simp)).1
   ·exact hEs q (oE.1 (show q∈E.filter λx=>eZ (aJ sh s) x.tag by rw[hpq];simp)).1
  ·rename_i hno2;injection h with h;cases h;refine⟨_,_,.inr ⟨λq=>?_,rfl,rfl⟩,rfl,rfl,rfl,rfl⟩
   rcases hF:(E.filter λx=>eZ (aJ sh s) x.tag) with _|⟨x,_|⟨y,_|⟨z,l⟩⟩⟩<;>grind
 obtain⟨S4,blob,hfin,rfl,rfl,rfl,rfl⟩:=hend;have hS34:S3.length<=S'.length:=by
  rcases hfin with⟨p,q,_,_,_,_,ht,_⟩|⟨_,e',_⟩
  ·rw[(o9 ht).1,aR];omega
  ·rw[e'];omega
 obtain⟨T1,t1,t2,t3⟩:=agO R HT h0.1 h0.2 hn h1 hr (by omega) (by omega) (cw sh) c (ah .i64 ((no:Int).add 1)) so;rw[hnn] at t3 hn h1 hr h2 hP1 h3;rw[hE] at t3 h2 hP1 h3;have haw:ah IntKind.i64 ((no:Int).add 1)=((no+1:Nat):Int):=by rw[cR,aN (by omega) (by omega)];rfl
 rw[haw] at t3;obtain⟨T',so',v1,v2,v3⟩:=ah8 R hsh hs (hlk s hs) hrec (at_:=at_) (dir:=no) hEs (by omega) (by omega) h2 hP1 h3 hfin hS hno (by omega) t1 so c;rw[t2] at v2 v3;refine⟨T',so',v1,v2,?_⟩;unfold Ip;rw[ct,show cw sh=aC iL sh from rfl,bW zZ hs];have hsg:sh[s]=aJ sh s:=by unfold aJ;rw[dD hs];rfl
 have tg:∀(S:aV)(r:List Value),iL S++r=fY S.bG::.int .i64 S.at_::.int .i64 S.cA::.int .i64 S.next::r:=λ_ _=>rfl;rw[hsg,tg];simp only[bN,cH];rw[show ak (no:Int) (no:Int)=true by rw[cD,bV],ay,haw,show aC iL sh=cw sh from rfl,t3];simp only[aA,iD];rw[agP E _ (hsh.ok s) (by have:=hlk s hs;omega) (by have:=hlk s hs;omega) (by omega) (by omega)];simp only[aA];rw[dw];rw[hEl] at v3;rw[hEl];exact v3
theorem QJ{L:Nat}(R:qz w L b o)(hsh:iu sh)(hlk:∀s,s<sh.length->(aJ sh s).bG.length<100000)(z:rN):
 ∀(f n:Nat),f<=n->xA sh b o L f (pU z (Ip w) n)
 |0,n,_=>by
  intro at_ s no Sp d next no' S' T so c h
  cases h
 |f+1,n+1,h=>by exact ahQ R hsh hlk (QJ R hsh hlk z f n (by omega))
theorem agu{L:Nat}(R:qz w L b o)(hsh:iu sh)(hlk:∀s,s<sh.length->(aJ sh s).bG.length<100000)(hf:f<=w):xA sh b o L f (Hc w):=QJ R hsh hlk _ f w hf
end
section
theorem UE{rd:Nat->Nat->Nat->List bm->Except Int (aO×Nat×Nat×List bm)}(hrd:∀a s no S d n no' S',rd a s no S=.ok (d,n,no',S')->no'+S.length<=no+S'.length){Sh:aV}:∀{K:List bf}{no no':Nat}{S S':List bm}{r:cF},lI rd Sh K no S=.ok (r,no',S')->no'+S.length<=no+S'.length
 |[],no,no',S,S',r,h=>by rw[lI] at h;cases h;exact aB _
 |x::K,no,no',S,S',r,h=>by
  rw[lI] at h;split at h
  ·grind
  rename_i hd;split at h
  ·grind
  split at h
  ·grind
  rename_i hr;injection h with h;cases h;have a1:=hrd _ _ _ _ _ _ _ _ hd;have a2:=UE hrd hr;omega
variable{b:List UInt8} {o:Int} {sh:List aV}
theorem UD:∀(f a s no:Nat)(S:List bm)(d:aO)(n no':Nat)(S':List bm),jS b o sh f a s no S=.ok (d,n,no',S')->no'+S.length<=no+S'.length
 |0,a,s,no,S,d,n,no',S',h=>by rw[jS] at h;cases h
 |f+1,a,s,no,S,d,n,no',S',h=>by
  rw[jS] at h;split at h
  case isFalse=>cases h
  split at h
  ·cases h
  split at h
  ·cases h
  rename_i S1 h1;split at h
  case isFalse=>cases h
  split at h
  ·cases h
  rename_i h2;split at h
  ·cases h
  split at h
  ·cases h
  rename_i S3 h3;have e1:=bK List.length (o9 h1).1;rw[aR,xq] at e1;obtain⟨u2,e2⟩:=zc h2;have e2:=bK List.length e2;rw[aR] at e2;have e3:=UE (UD f) h3;split at h
  ·split at h
   ·cases h
   split at h
   ·cases h
   rename_i h4;injection h with h;cases h;have e4:=bK List.length (o9 h4).1;rw[aR] at e4;omega
  ·injection h with h;cases h;omega
theorem aeO:∀(f a s no:Nat)(S:List bm)(d:aO)(n no':Nat)(S':List bm),jS b o sh f a s no S=.ok (d,n,no',S')->n<4294967296
 |0,a,s,no,S,d,n,no',S',h=>by rw[jS] at h;cases h
 |f+1,a,s,no,S,d,n,no',S',h=>by
  rw[jS] at h;split at h
  case isFalse=>cases h
  split at h
  ·cases h
  split at h
  ·cases h
  split at h
  case isFalse=>cases h
  split at h
  ·cases h
  split at h
  ·cases h
  split at h
  ·cases h
  split at h
  ·split at h
   ·cases h
   split at h
   ·cases h
   injection h with h;cases h;exact E7 _ _ _
  ·injection h with h;cases h;exact E7 _ _ _
theorem UC:∀(f:Nat)(first:Bool)(a:Nat)(s:Int)(no:Nat)(S:List bm)(ds:List aO)(S':List bm),ox b o sh f first a s no S=.ok (ds,S')->∃u,S'=S++u
 |0,first,a,s,no,S,ds,S',h=>by rw[ox] at h;cases h
 |f+1,first,a,s,no,S,ds,S',h=>by
  rw[ox] at h;split at h
  ·simp_all
  split at h
  ·grind
  split at h
  ·grind
  rename_i hd;split at h
  ·grind
  rename_i hc;injection h with h;cases h;obtain⟨_,u,rfl⟩:=B4 _ _ _ _ _ _ _ _ _ hd;obtain⟨v,rfl⟩:=UC f _ _ _ _ _ _ _ hc;simp
variable{w:Nat}
theorem Qn{L:Nat}(R:qz w L b o)(hsh:iu sh)(hlk:∀s,s<sh.length->(aJ sh s).bG.length<100000)(hl:sh.length<100000){S':List bm}(hS:S'.length<100000000)(c:Nat)(tl:Nat):
 ∀(f v at_:Nat)(s:Int)(no:Nat)(Sp:List bm)(D ds:List aO)(T:List Nat)(so:Int),f<v->D.length+f<=sh.length+2->ox b o sh f D.isEmpty at_ s no Sp=.ok (ds,S')->at_<4294967296->s<sh.length->no<=Sp.length->Tk T L (fL Sp)->T.length=tl->
  ∃T' so' no',lp D3 (xW w) v (at_:Int) s (aj b) o (cw sh) tl c (no:Int) so o 0 (ed T) (Sp.flatMap cd) (D.flatMap dK)=some (o,0,aj b,o,cw sh,tl,c,no',so',(D++ds).flatMap dK,ed T',S'.flatMap cd)
 |0,v,at_,s,no,Sp,D,ds,T,so,_,_,h,_,_,_,_,_=>by rw[ox] at h;cases h
 |f+1,v,at_,s,no,Sp,D,ds,T,so,hv,hD,h,hat,hs,hno,HT,hTl=>by
  have hw:=R.wide;have h232:∀n,eG w true n=some (.inl ()):=λ_=>rfl;rw[ox] at h;rw[ef D3 (xW w) (by omega)];split at h
  ·rename_i h0;injection h with h;cases h;rw[h0.1];have hDe:D.length≠0:=by
    intro q;have:D=[]:=qu.1 q;rw[this] at h0;exact absurd h0.2 (by decide)
   refine⟨T,so,(no:Int),?_⟩;unfold xW Gk Cf;have e1:aq 0 ((0:Nat):Int)=false:=rfl;have e2:ak (Int.ofNat ((D.flatMap dK).length/3)) 0=false:=by rw[eJ nX,cD,fI,cu];omega
   simp_all
  ·rename_i h0;split at h
   ·cases h
   rename_i hs0;split at h
   ·cases h
   rename_i d next no1 S1 hd
   split at h
   ·cases h
   rename_i ds2 S2 hc;injection h with h;cases h;have hst:(s.toNat:Int)=s:=lM (by omega);have hsl:s.toNat<sh.length:=by omega
   obtain⟨u,hu⟩:=UC _ _ _ _ _ _ _ _ hc;have hu:=bK List.length hu;rw[aR] at hu;have hcn:=UD _ _ _ _ _ _ _ _ _ hd;obtain⟨T1,so1,t1,t2,t3⟩:=agu R hsh hlk (f:=sh.length) (by omega) at_ s.toNat no Sp d next no1 S1 T so c hd hsl hat (by omega) (by omega) HT
   rw[hTl] at t2 t3;rw[hst] at t3;have hnx:=hsh.next s.toNat hsl;obtain⟨T',so',no',v3⟩:=Qn R hsh hlk hl hS c tl f (v -1) next (aJ sh s.toNat).next no1 S1 (D++[d]) ds2 T1 so1 (by omega) (by rw[aR,xq];omega) (by
    have:(D++[d]).isEmpty=false:=by cases D<;>rfl
    rw[this];exact hc) (aeO _ _ _ _ _ _ _ _ _ hd) (by omega) (by omega) t1 t2
   refine⟨T',so',no',?_⟩;rw[dY] at v3;rw[show D++d::ds2=D++([d]++ds2) from rfl,<-v3];generalize hg:lp D3 (xW w) (v -1)=g;have hsn:(!aq s 0)=true:=by rw[bc,fR (by omega:¬s<0)];rfl
   have hr1:aK (D.flatMap dK).length=true:=by rw[eJ nX];simp;omega
   have hsg:sh[s.toNat]=aJ sh s.toNat:=by unfold aJ;rw[dD hsl];rfl
   have tg:∀(S:aV)(r:List Value),(iL S++r).drop 3=.int .i64 S.next::r:=λ_ _=>rfl;have hdc:List.take 3 (List.drop 0 [dT d,dS d,dB d])=[d].flatMap dK:=by rw[ff,nz,eH,pM];rfl
   have x0:∀(K:List Value->Option (Int×Int×Value×Int×Value×Nat×Nat×Int×Int×List Value×List Value×List Value)),aG s (λx58=>aQ 4 x58 (cw sh) K)=K (iL (aJ sh s.toNat)++(sh.drop (s.toNat+1)).flatMap iL):=by intro K;rw[<-hst,ct,show cw sh=aC iL sh from rfl,mB,bW zZ hsl,hsg]
   unfold xW Gk Cf;have fin:∀(A:Int->Option (Int×Int×Value×Int×Value×Nat×Nat×Int×Int×List Value×List Value×List Value))(B:Int×Value×Int×Value×Nat×Nat×Int×Int×List Value×List Value->Option (Int×Int×Value×Int×Value×Nat×Nat×Int×Int×List Value×List Value×List Value)),
    (ob (eG w (!aq s 0) 2) λ(x43:PUnit⊕Int)=>dk x43 (λ(x44:PUnit)=>ob (Hc w (at_:Int) s (aj b) o (cw sh) tl c (no:Int) so (ed T) (Sp.flatMap cd)) λx45=>dk x45 (λ(x46:Value×Value×Value×Int×Value×Int×Value×Nat×Nat×Int×Int×List Value×List Value)=>bif aK (D.flatMap dK).length&&(aK 1&&(List.take 3 (List.drop 0 [x46.fst,x46.snd.fst,x46.snd.snd.fst])).length.beq 3) then aG s λ(x47:Nat)=>aQ 4 x47 x46.snd.snd.snd.snd.snd.snd.fst λ(x48:List Value)=>ag (List.drop 3 x48) λ(x49:Value)(x50:List Value)=>aw IntKind.i64 x49 λ(x51:Int)=>g x46.snd.snd.snd.fst x51 x46.snd.snd.snd.snd.fst x46.snd.snd.snd.snd.snd.fst x46.snd.snd.snd.snd.snd.snd.fst x46.snd.snd.snd.snd.snd.snd.snd.fst x46.snd.snd.snd.snd.snd.snd.snd.snd.fst x46.snd.snd.snd.snd.snd.snd.snd.snd.snd.fst x46.snd.snd.snd.snd.snd.snd.snd.snd.snd.snd.fst o 0 x46.snd.snd.snd.snd.snd.snd.snd.snd.snd.snd.snd.fst x46.snd.snd.snd.snd.snd.snd.snd.snd.snd.snd.snd.snd (D.flatMap dK++List.take 3 (List.drop 0 [x46.fst,x46.snd.fst,x46.snd.snd.fst])) else none) B) A)=g (next:Int) (aJ sh s.toNat).next (aj b) o (cw sh) tl c (no1:Int) so1 o 0 (ed T1) (S1.flatMap cd) ((D++[d]).flatMap dK):=by
    intro A B;rw[hsn,h232];simp only[aA,iD];rw[t3];simp only[aA,iD];rw[hr1,hdc,x0,tg];simp only[bN,cH];rw[gq,show[d].flatMap dK=dK d++[] from rfl,eH,nX];rfl
   by_cases hp:0<at_
   ·have e1:aq 0 (at_:Int)=true:=by rw[bc,bV];omega
    rw[e1,ay];exact fin _ _
   ·have e1:aq 0 (at_:Int)=false:=by rw[bc,fI];omega
    have hDe:D=[]:=by
     cases D with
     |nil=>rfl
     |cons a l=>exact absurd ⟨by omega,rfl⟩ h0
    have e2:ak (Int.ofNat ((D.flatMap dK).length/3)) 0=true:=by rw[hDe];rfl
    rw[e1,aE,e2,ay];exact fin _ _
theorem UM:∀n:Nat,rep n (Value.int IntKind.u64 0).cells.toList=ed (List.replicate n 0)
 |0=>rfl
 |n+1=>by show _++rep n _=_;rw[UM n];rfl
theorem aiB(L:Nat):Tk (List.replicate (L/64+1) 0) L (fL []):=by
 refine⟨uX,λn hn=>(by grind),λp hp=>?_⟩
 ·unfold DX fL
  grind
theorem afT(hb:b.length<2^29)(hw:b.length+200000<w)(hsh:iu sh)(hlk:∀s,s<sh.length->(aJ sh s).bG.length<100000)(hl:sh.length<100000)(h0:0<sh.length)(tZ:ri w (cw sh)=some true){ds:List aO}{S:List bm}(hS:S.length<100000000)(h:xg b sh=.ok (⟨o,ds⟩,S)):
 Cs w (aj b) (cw sh)=some (o,dM ds,aC cd S,0):=by
 unfold xg at h;split at h
 ·cases h
 split at h
 ·cases h
 rename_i h42;split at h
 ·cases h
 rename_i ds1 Sx hc;injection h with h;injection h with h1 h2;injection h1 with h1 h3;subst h1 h2 h3;have ho:kP b=1\/kP b=2:=by
  have:kP b≠0:=λq=>h42 (.inl q);unfold kP at this⊢;split
  ·exact .inl rfl
  ·split
   ·exact .inr rfl
   ·rename_i a c;rw[ai a,ai c] at this;exact absurd rfl this
 have R:qz w b.length b (kP b):=⟨rfl,hb,hw,ho⟩;obtain⟨T1,t1,t2,t3⟩:=agt R (by omega) rfl (qp.1 λq=>h42 (.inr q)) (aiB b.length) (cw sh) (b.length/64+1) 0 0;rw[uX] at t2 t3;obtain⟨T2,so2,no2,v3⟩:=Qn R hsh hlk hl hS (b.length/64+1) (b.length/64+1) (sh.length+2) w (cn b 4 4 (kP b)) 0 0 [⟨1,-1,0,0,8⟩] [] ds1 T1 0 (by omega) (by simp) hc (E7 _ _ _) (by omega) (by omega) t1 t2;have h180:GZ w (aj b) (cw sh)=some (aj b,0,cw sh,b.length/64+1,b.length/64+1,0,0,ed (List.replicate (b.length/64+1) 0),[]):=by
  unfold GZ;rw[dU,cu,Jx _ (by omega),cR,aN (by omega) (by omega),show((b.length/64:Nat):Int)+1=((b.length/64+1:Nat):Int) by omega];simp only[ct];have e1:b.length/64+1<=1000000000:=by omega
  simp only[gu,aB,e1,bn,kU,gY];rw[UM];rfl
 have h181:G0 w (aj b) 0 (cw sh) (b.length/64+1) (b.length/64+1) 0 0 (ed (List.replicate (b.length/64+1) 0)) []=some (kP b,0,aj b,kP b,cw sh,b.length/64+1,b.length/64+1,no2,so2,ds1.flatMap dK,ed T2,Sx.flatMap cd):=by unfold G0 Cf;rw[tZ];rw[t3];exact v3
 unfold Cs;rw[h180];simp;rw[h181];simp only[aA];rw[WE Sx _ rfl,eJ nX,lP _ (by decide)];rfl
end
section
theorem VZ(w:Nat)(a b c t:Int)(d:Value):wT w a b c d t=some (if a<t then-1 else if t<a then 1 else 0):=by
 unfold wT NM Ht;by_cases h:a<t
 ·simp[h]
 ·by_cases h2:t<a
  ·simp[h,h2]
  ·simp[h,h2]
variable{w:Nat}
theorem Nz(l:List aI)(t:Int)(hr:fD l=true)(hl:l.length<2^40)(hw:l.length+2<w):
 ∃i:Nat,zz w (az l) t=some ((i:Int),(iI l t).isSome)/\i<=l.length/\(∀_:(iI l t).isSome=true,∃h':i<l.length,iI l t=some l[i])/\(∀x (h:x<l.length),x<i->l[x].tag<t)/\∀x (h:x<l.length),i<=x->t<=l[x].tag:=by
 have key:∀(k i j v:Nat),j=i+k->j<=l.length->k+1<v->(∀x (h:x<l.length),x<i->l[x].tag<t)->(∀x (h:x<l.length),j<=x->t<=l[x].tag)->
  ∀(z:Value->Int->Int->Int->Int->Option (Int×Bool))(F:(Value->Int->Int->Int->Int->Option (Int×Bool))->Value->Int->Int->Int->Int->Option (Int×Bool)),
  (∀(x8:Value->Int->Int->Int->Int->Option (Int×Bool))(x9:Value)(x10 x11 x12 x13:Int),F x8 x9 x10 x11 x12 x13=bif aq x12 x13 then aG (ah IntKind.i64 ((ah IntKind.u64 (ah IntKind.i64 (x12.add x13))).fdiv (2^1))) λ(x14:Nat)=>aQ 4 x14 x9 λ(x15:List Value)=>ag x15 λ(x16:Value)(x17:List Value)=>aw IntKind.i64 x16 λ(x18:Int)=>ag x17 λ(x19:Value)(x20:List Value)=>aw IntKind.i64 x19 λ(x21:Int)=>ag x20 λ(x22:Value)(x23:List Value)=>aw IntKind.i64 x22 λ(x24:Int)=>ag x23 λ(x25:Value)(x26:List Value)=>ob (wT w x18 x21 x24 x25 x10) λ(x27:Int)=>bif aq x27 0 then x8 x9 x10 x11 (ah IntKind.i64 ((ah IntKind.i64 ((ah IntKind.u64 (ah IntKind.i64 (x12.add x13))).fdiv (2^1))).add 1)) x13 else x8 x9 x10 x11 x12 (ah IntKind.i64 ((ah IntKind.u64 (ah IntKind.i64 (x12.add x13))).fdiv (2^1))) else bif aq x12 x11 then aG x12 λ(x28:Nat)=>aQ 4 x28 x9 λ(x29:List Value)=>ag x29 λ(x30:Value)(x31:List Value)=>aw IntKind.i64 x30 λ(x32:Int)=>ag x31 λ(x33:Value)(x34:List Value)=>aw IntKind.i64 x33 λ(x35:Int)=>ag x34 λ(x36:Value)(x37:List Value)=>aw IntKind.i64 x36 λ(x38:Int)=>ag x37 λ(x39:Value)(x40:List Value)=>ob (wT w x32 x35 x38 x39 x10) λ(x41:Int)=>some (x12,ak x41 0) else some (x12,false))->
  ∃i':Nat,lp z F v (az l) t l.length i j=some ((i':Int),(iI l t).isSome)/\i'<=l.length/\(∀h:(iI l t).isSome=true,∃h':i'<l.length,iI l t=some l[i'])/\(∀x (h:x<l.length),x<i'->l[x].tag<t)/\∀x (h:x<l.length),i'<=x->t<=l[x].tag:=by
  intro k;induction k using Nat.strongRecOn with
  |ind k ih=>
   intro i j v hj hjl hv h1 h2 z F hF;have tg:∀(y:aI)(r:List Value),cx y++r=Value.int .i64 y.tag::.int .i64 y.ty::.int .i64 y.au::aj y.data::r:=λ_ _=>rfl;rw[ef z F (by omega),hF];by_cases hk:k=0
   ·subst hk;have e1:¬((i:Int)<(j:Int)):=by omega
    simp only[bc,e1,cy,aE];by_cases hi:i<l.length
    ·have e2:((i:Int)<(l.length:Int)):=by omega
     simp only[e2,bn,ay,ct];rw[show az l=aC cx l from rfl,bW gI hi,tg];simp only[bN,cH];rw[VZ];simp only[aA];have hge:=h2 i hi (by omega);by_cases he:l[i].tag=t
     ·have hf:iI l t=some l[i]:=by
       unfold iI;rw[List.find?_eq_some_iff_getElem];refine⟨by simp[he],i,hi,rfl,λx hx=>?_⟩;have:=h1 x (by omega) hx;simp;omega
      refine⟨i,?_,by omega,λ_=>⟨hi,hf⟩,h1,λx h q=>h2 x h (by omega)⟩;rw[hf,ai (by omega),ai (by omega)];rfl
     ·have hf:iI l t=none:=by
       unfold iI;rw[List.find?_eq_none];intro y hy;obtain⟨x,hx,rfl⟩:=List.mem_iff_getElem.1 hy;have a:=λq=>h1 x hx q;have b:x=i\/x<i\/i<x:=by omega
       rcases b with rfl|b|b
       ·simpa using he
       ·have:=h1 x hx b;simp;omega
       ·have:=wH hr b hx;simp;omega
      refine⟨i,?_,by omega,(λh=>by rw[hf] at h;cases h),h1,λx h q=>h2 x h (by omega)⟩;rw[hf,ai (by omega),ar (by omega)];rfl
    ·have e2:¬((i:Int)<(l.length:Int)):=by omega
     simp only[e2,cy,aE];have hf:iI l t=none:=by unfold iI;rw[List.find?_eq_none];intro y hy;obtain⟨x,hx,rfl⟩:=List.mem_iff_getElem.1 hy;have:=h1 x hx (by omega);simp;omega
     exact⟨i,by rw[hf];rfl,by omega,(λh=>by rw[hf] at h;cases h),h1,λx h q=>h2 x h (by omega)⟩
   ·have e1:((i:Int)<(j:Int)):=by omega
    obtain⟨m,hm⟩:∃m,(i+j)/2=m:=⟨_,rfl⟩;have hmi:i<=m/\m<j:=by omega
    have haw:ah IntKind.i64 ((ah IntKind.u64 (ah IntKind.i64 ((i:Int).add (j:Int)))).fdiv (2^1))=(m:Int):=by rw[cR,aN (n:=(i:Int)+(j:Int)) (by omega) (by omega),tD (by omega) (by omega),show((2:Int)^1)=2 from rfl,Int.fdiv_eq_ediv_of_nonneg _ (by decide),show((i:Int)+(j:Int))/2=(m:Int) by omega,aN (by omega) (by omega)]
    simp only[bc,e1,bn,ay];rw[haw,ct,show az l=aC cx l from rfl,bW gI (by omega:m<l.length),tg];simp only[bN,cH];rw[VZ];simp only[aA];by_cases hlt:l[m].tag<t
    ·rw[ar hlt,show decide ((-1:Int)<0)=true from rfl,ay,cR,aN (by omega) (by omega),show(m:Int)+1=((m+1:Nat):Int) by omega];refine ih (j -(m+1)) (by omega) (m+1) j (v -1) (by omega) hjl (by omega) (λx hx hxm=>?_) h2 z F hF;by_cases hxe:x=m
     ·subst hxe;exact hlt
     ·have:=wH hr (show x<m by omega) (show m<l.length by omega);omega
    ·rw[ai hlt];have e3:∀(A B:Option (Int×Bool)),(bif decide ((if t<l[m].tag then(1:Int) else 0)<0) then A else B)=B:=by
      intro A B;split<;>rfl
     rw[e3];refine ih (m -i) (by omega) i m (v -1) (by omega) (by omega) (by omega) h1 (λx hx hxm=>?_) z F hF;by_cases hxe:x=m
     ·subst hxe;omega
     ·have:=wH hr (show m<x by omega) hx;omega
 obtain⟨i,a,b,c⟩:=key l.length 0 l.length w (by omega) (aB _) (by omega) (λ_ _ h=>by omega) (λx h h'=>by omega) _ _ (λ_ _ _ _ _ _=>rfl);refine⟨i,?_,b,c⟩;unfold zz NL Gs;refine iq (bK (λz=>ob z _) a) rfl
theorem afU(l:List aI)(t:Int)(hr:fD l=true)(hl:l.length<2^40)(hw:l.length+2<w)(hd:∀t∈l,t.data.length<=1000000000):
 GF w (az l) t=some (match iI l t with|some x=>(x.ty,x.au,aj x.data,true)|none=>(0,0,ae 0 [],false)):=by
 obtain⟨i,a,b,c,_⟩:=Nz l t hr hl hw;unfold GF;rw[a];simp only[aA];cases hf:iI l t with
 |none=>rfl
 |some x=>
  obtain⟨h',e⟩:=c (by grind);rw[hf] at e;injection e with e;rw[ct,show az l=aC cx l from rfl,bW gI h',(show∀(y:aI)(r:List Value),List.drop 1 (cx y++r)=.int .i64 y.ty::.int .i64 y.au::aj y.data::r fromλ_ _=>rfl)]
  simp;unfold uJ;rw[rV w _ (hd _ (dL h')),<-e];rfl
end
section
def yJ(l:List aI):List (Int×aO)->List aI
 |[]=>l
 |(_,.mk tags _ _)::r=>yJ tags r
theorem Su:∀(s:cF)(l:List aI),yK l s=yJ l (aL s)
 | .nil,l=>rfl
 | .cons _ (.mk tags _ _) r,l=>by rw[yK,Su r tags];rfl
theorem Ef(tags:List aI)(subs:cF)(blob:List UInt8):dK (.mk tags subs blob)=[az tags,ae (cm subs) (gd subs),aj blob]:=by rw[dK]
def XJ(m:Nat)(l:List (Int×aO)):Prop:=∀p∈l,gV m p.2
variable{m w:Nat}
theorem aeF(hm:m<=1000000)(hw:m+20<w)(L:List (Int×aO))(hL:L.length<=m)(hS:XJ m L)(o:Int)(a b c e f g:Value)(i0:List aI):
 lp Um (FA w) w (aC fH L) L.length 0 o a b c (az i0) e f g=some (true,o,a,b,c,az (yJ i0 L),e,f,g):=by
 refine oh (ev:=λi s (k:Dx)=>k (aC fH L) L.length i o a b c (az s) e f g) (Inv:=λi s=>yJ s (L.drop i)=yJ i0 L) L.length i0 (by rw[eL]) ?_ ?_ (by omega)
 ·intro i g s hi hI;have hsm:=hS _ (dL hi);rw[dG hi] at hI;have e1:((i:Int)<(L.length:Int)):=by omega
  have sg:∀(p:Int×aO)(r:List Value),fH p++r=.int .i64 p.1 ::dT p.2 ::dS p.2 ::dB p.2 ::r:=by intro p r;unfold fH;rw[pM];rfl
  obtain⟨⟨tags,subs,blob⟩,hd⟩:∃d,L[i].2 =d:=⟨_,rfl⟩;have hsm2:tags.length<=m/\cm subs<=m/\blob.length<=m/\(∀t∈tags,t.data.length<=m)/\gW m subs:=by rw[hd] at hsm;exact hsm
  refine⟨tags,?_,?_⟩
  ·rw[<-hI,show L[i]=(L[i].1,L[i].2) from rfl,hd];rfl
  ·unfold FA Cg;simp only[bc,e1,ct];rw[bW uP hi,sg];simp only[bN];rw[hd,show dT (.mk tags subs blob)=az tags from rfl,sy tags (by omega) (λt ht=>by have:=hsm2.2.2.2.1 t ht;omega) (by omega)];simp only[cR];rw[aN (by omega) (by omega)];rfl
 ·intro g s hI;rw[s8,yJ] at hI;unfold FA Cg;simp;rw[hI]
theorem agp(A:Hand w)(hm:m<=1000000)(hw:m+20<w){r r':di}{d:aO}(hd:gV m d)(hr:∀tags subs blob,d=.mk tags subs blob->fD tags=true)(h:qW r d=some r'):
 Ha w (dT d) (dS d) (dB d) r.order (az r.cP) (az r.bR) (az r.bZ) (az r.bp) (az r.first) (aj r.bQ) (aj r.dq)=some (true,r'.order,az r'.cP,az r'.bR,az r'.bZ,az r'.bp,az r'.first,aj r'.bQ,aj r'.dq):=by
 obtain⟨tags,subs,blob⟩:=d;have hsm2:tags.length<=m/\cm subs<=m/\blob.length<=m/\(∀t∈tags,t.data.length<=m)/\gW m subs:=hd;have hrt:=hr tags subs blob rfl;have hsl:=uQ subs;have hdrop:=A.drop tags 37500 hrt (by omega) (by omega) (λt ht=>by have:=hsm2.2.2.2.1 t ht;omega);have hlp:=aeF hm hw (aL subs) (by omega) (λp hp=>xG hsm2.2.2.2.2 p hp) r.order (az r.cP) (az (oQ tags 37500)) (az r.bZ) (az r.first);unfold Ha Cg;rw[show dT (.mk tags subs blob)=az tags from rfl,show dS (.mk tags subs blob)=ae (cm subs) (gd subs) from rfl,(afU tags 37500 hrt (by omega) (by omega) (λt ht=>by have:=hsm2.2.2.2.1 t ht;omega)),Da];simp only[qW,Su] at h;cases hf:iI tags 37500 with
 |some v=>
  rw[hf] at h;simp only at h;split at h
  case isFalse=>cases h
  rename_i h7;injection h with h;subst h;simp;rw[h7,hdrop];exact hlp _ _ _
 |none=>rw[hf] at h;injection h with h;subst h;rw[hdrop];simp only[Zm];exact hlp _ _ _
theorem abz(hm:m<=1000000)(hw:m+20<w)(ds:List aO)(hl:ds.length<=m)(hS:nK m ds)(r x:di)(hx:vX r ds=x)(hc:hU x=0)(hE:jL x m)(A B C D E F G:Value):
 lp Tf (Fa w) w (aC dK ds) ds.length 0 0 A B C D E F G r.order (az r.cP) (az r.bR) (az r.bZ) (az r.bp) (az r.first) (aj r.bQ) (aj r.dq)=some (x.order,az x.cP,az x.bR,az x.bZ,az x.bp,az x.first,aj x.bQ,aj x.dq,0):=by
 refine oh (σ:=di) (ev:=λi s (k:Du)=>k (aC dK ds) ds.length i 0 A B C D E F G s.order (az s.cP) (az s.bR) (az s.bZ) (az s.bp) (az s.first) (aj s.bQ) (aj s.dq)) (Inv:=λi s=>vX s (ds.drop i)=x) ds.length r hx ?_ ?_ (by omega)
 ·intro i g s hi hI;have hsm:=hS _ (dL hi);rw[dG hi] at hI;obtain⟨⟨tags,subs,blob⟩,hd⟩:∃d,ds[i]=d:=⟨_,rfl⟩;rw[hd] at hI hsm;have hsm2:tags.length<=m/\cm subs<=m/\blob.length<=m/\(∀t∈tags,t.data.length<=m)/\gW m subs:=hsm;refine⟨_,hI,?_⟩;unfold Fa;simp_all;rw[bW nX hi,hd,Eg];simp;rw[show dT (.mk tags subs blob)=az tags from rfl,show dB (.mk tags subs blob)=aj blob from rfl,sy tags (by omega) (λt ht=>by have:=hsm2.2.2.2.1 t ht;omega) (by omega),rV w blob (by omega),aN (by omega) (by omega)];rfl
 ·intro g s hI;rw[s8,vX] at hI;subst hI;unfold Fa;simp;rw[VV hE (by omega) hw,hc];rfl
def rA(r:di):List (Int×aO)->Option di
 |[]=>some r
 |(tag,d)::s=>if tag=34853 then rA {r with bZ:=(match d with| .mk tags _ _=>tags)} s else(qW r d).bind λr=>rA r s
theorem OW:∀(s:cF)(r:di),rq r s=rA r (aL s)
 | .nil,r=>rfl
 | .cons tag (.mk tags a b) s,r=>by
  show(if tag=34853 then rq {r with bZ:=tags} s else(qW r (.mk tags a b)).bind λr=>rq r s)=(if tag=34853 then rA {r with bZ:=tags} (aL s) else(qW r (.mk tags a b)).bind λr=>rA r (aL s))
  split
  ·exact OW s _
  ·congr 1
   funext r
   exact OW s r
theorem ah1(r:di)(tag:Int)(d:aO)(s:List (Int×aO)):rA r ((tag,d)::s)=if tag=34853 then rA {r with bZ:=(match d with| .mk tags _ _=>tags)} s else(qW r d).bind λr=>rA r s:=by rfl
def DE(d:aO):Prop:=∀tags subs blob,d=.mk tags subs blob->fD tags=true
variable{ds:List aO} {o:Int} {x:di}
theorem agb(A:Hand w)(hm:m<=1000000)(hw:m+20<w)(h200:uK w o (dM ds) (cw da)=some 0)(h:yS ⟨o,ds⟩=some x)(hE:jL x m)(hl:ds.length<=m)(hS:nK m ds)(hr:∀d∈ds,∀tags subs blob,d=.mk tags subs blob->∀p∈aL subs,DE p.2):
 GY w o (dM ds)=some (x.order,az x.cP,az x.bR,az x.bZ,az x.bp,az x.first,aj x.bQ,aj x.dq,0):=by
 unfold yS at h;rcases ds with _|⟨⟨tags,subs,blob⟩,ds⟩
 ·cases h
 simp only at h;rw[OW] at h;obtain⟨r1,hr1,h⟩:=Option.bind_eq_some_iff.1 h;split at h
 case isFalse=>cases h
 rename_i hc;injection h with h;have hsm2:tags.length<=m/\cm subs<=m/\blob.length<=m/\(∀t∈tags,t.data.length<=m)/\gW m subs:=hS _ mC;have hrs:=hr _ mC tags subs blob rfl;have hsl:=uQ subs;rw[cQ] at hl;have e0:∀(K:List Value->Option (Int×Value×Value×Value×Value×Value×Value×Value×Int)),aQ 3 0 (dM (.mk tags subs blob::ds)) K=K (dK (.mk tags subs blob)++ds.flatMap dK):=λK=>bW nX (m:=0) (by rw[cQ];omega) K
 have d0:∀r:List Value,List.drop 0 (dK (.mk tags subs blob)++r)=az tags::ae (cm subs) (gd subs)::aj blob::r:=by intro r;rw[Ef];rfl
 have d1:∀r:List Value,List.drop 1 (dK (.mk tags subs blob)++r)=ae (cm subs) (gd subs)::aj blob::r:=by intro r;rw[Ef];rfl
 unfold GY;rw[Nq];simp only[aA];rw[h200];simp only[aA];rw[show(!ak 0 0)=false from rfl,aE,e0,d0];simp only[bN];rw[sy tags (by omega) (λt ht=>by have:=hsm2.2.2.2.1 t ht;omega) (by omega)];simp only[aA];rw[e0,d1];simp only[bN];rw[Da,dw];have main:lp Te (E9 w) w (aC fH (aL subs)) (aL subs).length 0 o (dM (.mk tags subs blob::ds)) 0 (ae 0 []) (ae 0 []) (ae 0 []) (ae 0 []) (ae 0 []) (ae 0 []) (ae 0 []) o (az tags) (az []) (az []) (az []) (az []) (aj []) (aj [])=some (x.order,az x.cP,az x.bR,az x.bZ,az x.bp,az x.first,aj x.bQ,aj x.dq,0):=by
  refine oh (σ:=di) (ev:=λi s (k:Dt)=>k (aC fH (aL subs)) (aL subs).length i o (dM (.mk tags subs blob::ds)) 0 (ae 0 []) (ae 0 []) (ae 0 []) (ae 0 []) (ae 0 []) (ae 0 []) (ae 0 []) s.order (az s.cP) (az s.bR) (az s.bZ) (az s.bp) (az s.first) (aj s.bQ) (aj s.dq)) (Inv:=λi s=>rA s ((aL subs).drop i)=some r1) (aL subs).length ⟨o,tags,[],[],[],[],[],[]⟩ ?_ ?_ ?_ (by omega)
  ·exact hr1
  ·intro i g s hi hI;have hmem:=dL hi;have hsm:=xG hsm2.2.2.2.2 _ hmem;have hri:=hrs _ hmem;rw[dG hi] at hI;have e1:((i:Int)<((aL subs).length:Int)):=by omega
   have sg:∀(p:Int×aO)(r:List Value),fH p++r=.int .i64 p.1 ::dT p.2 ::dS p.2 ::dB p.2 ::r:=by intro p r;unfold fH;rw[pM];rfl
   rw[ah1] at hI;unfold E9;simp_all;rw[bW uP hi,sg];simp;by_cases hg:(aL subs)[i].1 =34853
   ·rw[ar hg] at hI;simp_all;refine⟨_,hI,?_⟩;obtain⟨⟨tags2,subs2,blob2⟩,hd⟩:∃d,(aL subs)[i].2 =d:=⟨_,rfl⟩;rw[hd] at hsm⊢;have hsm3:tags2.length<=m/\cm subs2<=m/\blob2.length<=m/\(∀t∈tags2,t.data.length<=m)/\gW m subs2:=hsm;rw[show dT (.mk tags2 subs2 blob2)=az tags2 from rfl,sy tags2 (by omega) (λt ht=>by have:=hsm3.2.2.2.1 t ht;omega) (by omega)];rw[aN (by omega) (by omega)];rfl
   ·rw[ai hg] at hI;simp_all;obtain⟨s2,hs2,hI⟩:=Option.bind_eq_some_iff.1 hI;refine⟨s2,hI,?_⟩;rw[agp A hm hw hsm hri hs2];simp only[aA];rw[aN (by omega) (by omega)];rfl
  ·intro g s hI;rw[s8,rA] at hI;injection hI with hI;subst hI;have e1:¬(((aL subs).length:Int)<((aL subs).length:Int)):=by omega
   unfold E9;simp;rw[show dM (.mk tags subs blob::ds)=aC dK (.mk tags subs blob::ds) from rfl,dw];have e2:1<=(aO.mk tags subs blob::ds).length:=by rw[cQ];omega
   simp only[e2];rw[yd nX _ (aB _),List.drop_succ_cons,eL,gh (by rw[cQ];omega),dw];exact abz hm hw ds (by omega) (λd hd=>hS d (gL _ hd)) s x h (by rw[<-h];exact hc) hE _ _ _ _ _ _ _
 exact main
theorem afR(A:Hand w)(hm:m<=1000000)(hw:m+20<w){b:List UInt8}{S:List bm}(h117:Cs w (aj b) (cw da)=some (o,dM ds,aC cd S,0))(h200:uK w o (dM ds) (cw da)=some 0)(h:yS ⟨o,ds⟩=some x)(hE:jL x m)(hl:ds.length<=m)(hS:nK m ds)(hr:∀d∈ds,∀tags subs blob,d=.mk tags subs blob->∀p∈aL subs,DE p.2):
 Cr w (aj b)=some (x.order,az x.cP,az x.bR,az x.bZ,az x.bp,az x.first,aj x.bQ,aj x.dq,0):=by
 unfold Cr Gr;rw[Nq];simp;rw[h117];simp;rw[agb A hm hw h200 h hE hl hS hr];rfl
end
section
theorem UY(l:List aI):rowOf (az l)=some (l.length,l.flatMap cx):=rfl
theorem VQ(w:Nat)(a b:Int)(d:List UInt8)(hd:d.length<=1000000000):uJ w a b (aj d)=some (a,b,aj d):=by unfold uJ;rw[rV w _ hd];rfl
theorem Ly(w:Nat):∀l:List aI,(∀t∈l,t.data.length<=1000000000)->nb (uJ w) (l.flatMap cx)=some (l.flatMap cx)
 |[],_=>rfl
 |t::l,h=>by have e:(t::l).flatMap cx=.int .i64 t.tag::.int .i64 t.ty::.int .i64 t.au::aj t.data::l.flatMap cx:=rfl;rw[e];unfold nb;rw[show bB [aj t.data]=true from rfl,ay,VQ w _ _ _ (h t (by simp)),aA,Ly w l λx hx=>h x (by grind),aA]
theorem SI:∀(l:List aI)(i:Nat)(p:aI->Bool),(∀x (h:x<l.length),x<i->p l[x]=true)->(∀x (h:x<l.length),i<=x->p l[x]=false)->l.filter p=l.take i
 |[],_,_,_,_=>by simp
 |a::l,0,p,h1,h2=>by rw[rH,List.filter_eq_nil_iff];intro x hx;obtain⟨k,hk,rfl⟩:=List.mem_iff_getElem.1 hx;simp_all
 |a::l,i+1,p,h1,h2=>by have h0:=h1 0 (by simp) (by simp);simp at h0;rw[jK,ar h0,nA,SI l i p (λx h q=>by have:=h1 (x+1) (by grind) (by omega);simpa using this) λx h q=>by have:=h2 (x+1) (by simp;omega) (by omega);simpa using this]
theorem J9:∀(l:List aI)(i:Nat)(p:aI->Bool),(∀x (h:x<l.length),x<i->p l[x]=false)->(∀x (h:x<l.length),i<=x->p l[x]=true)->l.filter p=l.drop i
 |[],_,_,_,_=>by simp
 |a::l,0,p,h1,h2=>by rw[eL,List.filter_eq_self];intro x hx;obtain⟨k,hk,rfl⟩:=List.mem_iff_getElem.1 hx;simp_all
 |a::l,i+1,p,h1,h2=>by have h0:=h1 0 (by simp) (by simp);simp at h0;rw[jK,ai (by simp[h0]),List.drop_succ_cons,J9 l i p (λx h q=>by have:=h1 (x+1) (by grind) (by omega);simpa using this) λx h q=>by have:=h2 (x+1) (by simp;omega) (by omega);simpa using this]
variable{w:Nat}
theorem Y4(l:List aI)(t:Int)(hr:fD l=true)(hl:l.length<2^20)(hw:l.length+2<w)(hd:∀t∈l,t.data.length<=1000000000):zM w (az l) t=some (az (oQ l t)):=by
 obtain⟨i,a,b,c,h1,h2⟩:=Nz l t hr (by omega) hw;unfold zM yi;rw[UY,aA,(eJ gI l),kV,show Nat.blt l.length 1000000000=true by simp;omega];rw[show(true&&true)=true from rfl,Ly w l hd,aA,show ae l.length (l.flatMap cx)=az l from rfl,a,aA];cases hf:iI l t with
 |none=>
  have:oQ l t=l:=by unfold oQ;rw[List.filter_eq_self];intro x hx;have:=List.find?_eq_none.1 (hf) x hx;simpa using this
  rw[this];rfl
 |some x=>
  obtain⟨hi,hx⟩:=c (by rw[hf];rfl);have ht:l[i].tag=t:=by have h0:=List.find?_some (hf);rw[hf] at hx;rw[<-bu hx];simpa using h0
  have e1:(decide ((0:Int)<=((i:Nat):Int))&&Nat.blt i l.length)=true:=by simp;omega
  have hdr:oQ l t=l.take i++l.drop (i+1):=by
   unfold oQ
   conv=>lhs;rw[<-mD i l,dG hi]
   rw[List.filter_append,jK,ai (by simp[ht])]
   congr 1
   ·rw[List.filter_eq_self];intro x hx;obtain⟨k,hk,rfl⟩:=List.mem_iff_getElem.1 hx;simp at hk;have:=h1 k (by omega) (by omega);simp;omega
   ·rw[List.filter_eq_self];intro x hx;obtain⟨k,hk,rfl⟩:=List.mem_iff_getElem.1 hx;simp at hk;have:=wH hr (show i<i+1+k by omega) (show i+1+k<l.length by omega);simp;omega
  simp only[Option.isSome_some,ay,e1,mB];rw[pR gI,yx gI,yx gI,gh (l:=l.drop (i+1)) (by simp),hdr,<-gq];unfold az aC;rw[show(l.take i++l.drop (i+1)).length=l.length -1 by simp;omega]
theorem afF(l:List aI)(x:aI)(hr:fD l=true)(hl:l.length<2^20)(hw:l.length+2<w)(hd:∀t∈l,t.data.length<=1000000000)(hx:x.data.length<=1000000000):CD w (az l) x.tag x.ty x.au (aj x.data)=some (az (jG l x)):=by
 obtain⟨i,a,b,c,h1,h2⟩:=Nz l x.tag hr (by omega) hw;unfold CD zr;rw[UY,aA,(eJ gI l),kV,show Nat.blt l.length 1000000000=true by simp;omega,show bB [aj x.data]=true from rfl];rw[show(true&&true&&true)=true from rfl,ay,Ly w l hd,VQ w _ _ _ hx,aA,show ae l.length (l.flatMap cx)=az l from rfl,a];have hlt:l.filter (λy=>decide (y.tag<x.tag))=l.take i:=SI l i _ (λk h q=>by have:=h1 k h q;simpa using this) λk h q=>by have:=h2 k h q;simp;omega
 cases hf:iI l x.tag with
 |none=>
  have ca:∀k (h:k<l.length),l[k].tag≠x.tag:=λk h=>by have:=List.find?_eq_none.1 (hf) l[k] (dL h);simpa using this
  simp_all;rw[pR gI,yx gI];unfold jG az aC;rw[hlt,(J9 l i _ (λk h q=>by have:=h1 k h q;simp;omega) λk h q=>by have:=h2 k h q;have:=ca k h;simp;omega),gq,show(l.take i++x::l.drop i).length=l.length+1 by simp;omega];rfl
 |some y=>
  obtain⟨hi,hy⟩:=c (by rw[hf];rfl);have ht:l[i].tag=x.tag:=by rw[hf] at hy;rw[<-bu hy];simpa using(List.find?_some (hf))
  have hgt:l.filter (λy=>decide (x.tag<y.tag))=l.drop (i+1):=J9 l (i+1) _ (λk h q=>by
   by_cases hk:k=i
   ·subst hk;simp;omega
   ·have:=h1 k h (by omega);simp;omega) λk h q=>by have:=wH hr (show i<k by omega) h;simp;omega
  simp_all;rw[pR gI,yx gI];unfold jG az aC;rw[hlt,hgt,gq,show(l.take i++x::l.drop (i+1)).length=l.length by simp;omega];rfl
end
def lH(n:Int):Bool:=decide (0<=n/\n<=4294967295)
theorem NN(w:Nat)(n:Int):zK w n=some (lH n):=by
 unfold zK lH;by_cases h1:n<0
 ·have:¬(0<=n/\n<=4294967295):=by omega
  simp_all
 ·by_cases h2:4294967295<n
  ·simp_all
  ·have:(0<=n/\n<=4294967295):=by omega
   simp[h2,this]
theorem VU(w:Nat)(a b:Int):G3 w a b=some (if lH a=true/\lH b=true/\lH (a+b)=true then(a+b,true) else(0,false)):=by
 unfold G3;rw[NN,NN];by_cases ha:lH a=true
 case neg=>simp[ha]
 by_cases hb:lH b=true
 case neg=>simp_all
 have a1:0<=a/\a<=4294967295:=by simpa[lH] using ha
 have b1:0<=b/\b<=4294967295:=by simpa[lH] using hb
 simp_all;rw[aN (by omega) (by omega),NN];cases hc:lH (a+b)<;>simp
theorem GH(w:Nat)(b:Bool):sM w b=some (if b=true then 0 else-1):=by cases b<;>rfl
def xX(n:Nat):Nat:=(n+65518)/65519
theorem Wk(w n:Nat)(h:n<2^60):CU w (n:Int)=some (xX n:Int):=by
 unfold CU xX;simp only[bc,qI,iV,cR];by_cases h1:(n:Int)<1
 ·rw[show n=0 by omega];rfl
 rw[ai h1,aN (n:=(n:Int) -1) (by omega) (by omega),show(n:Int) -1=((n -1:Nat):Int) by omega];have e:(((n -1:Nat):Int)).tdiv 65519=(((n -1)/65519:Nat):Int):=rfl;rw[e];have:(n+65518)/65519=(n -1)/65519+1:=by omega
 rw[this,aN (n:=(((n -1)/65519:Nat):Int)) (by omega) (by omega),aN (by omega) (by omega)];rfl
section
theorem Qi(l:List UInt8):bd (l.map λb=>(b.toNat:Int))=l.map aX:=by unfold bd;rw[List.map_map];rfl
variable{w:Nat}
theorem YS(b:List UInt8)(hb:b.length<=65519):CQ w (aj b)=some (aC iR (fJ b),0):=by
 unfold CQ yc;rw[vJ,eD,Wk w _ (by omega),aA];cases b with
 |nil=>rfl
 |cons a b=>
  rw[(show xX (a::b).length=1 from by unfold xX;simp_all;omega),show(ak ((1:Nat):Int) 1&&Nat.ble (a::b).length 65519)=true by rw[show Nat.ble (a::b).length 65519=true by rw[kW];exact hb];rfl];have e:bd (lZ++(a::b).map λb=>(b.toNat:Int))=(fm++1::1::(a::b)).map aX:=by rw[<-Qi];rfl
  rw[e,(show fJ (a::b)=[fm++1::1::(a::b)] from by unfold fJ;rw[ai (by simp)])];unfold aC iR aj aC;rw[ff,(show∀l:List UInt8,l.flatMap pH=l.map aX fromλl=>by induction l with|nil=>rfl|cons x l ih=>rw[ff,ih];rfl),(show(fm++1::1::(a::b)).length=14+(a::b).length from by simp[fm];omega)]
  rfl
theorem Yo(a b c d:List UInt8)(h0:0<a.length)(h:a.length+b.length+c.length+d.length<2^29):uF w (aj a) (aj b) (aj c) (d.map aX)=some ((d++(a++(b++c))).map aX):=by
 unfold uF;rw[Pc,aA,vJ,vJ,vJ,<-jZ,<-jZ,<-jZ,Qi];have e:(Nat.blt 0 (d++(a++(b++c))).length&&Nat.ble (d++(a++(b++c))).length 1000000000)=true:=by simp;omega
 grind
end
section
theorem aaF(t:Int):(kindOf t).1 <=8:=by
 unfold kindOf
 repeat' split
 all_goals decide
theorem abe{ty au:Int}{l:List UInt8}(h:dW ty au l=true):l.length<=524288:=by obtain⟨h0,h1,h2,h3⟩:=wu h;have:au*(kindOf ty).1 <=au*8:=Int.mul_le_mul_of_nonneg_left (aaF ty) (by omega);omega
variable{w:Nat}
theorem abh(l:List aI)(h:∀t∈l,dW t.ty t.au t.data=true)(hl:l.length<=65535)(hw:65540<=w):nt w (az l)=some false:=by
 have key:Oi w (az l)=some (-1):=by
  refine lD (ev:=λi (g:Value->Int->Int->Option Int)=>g (az l) (l.length:Int) i) l.length ?_ ?_ (by omega)
  ·intro i g hi;simp_all;rw[show az l=aC cx l from rfl,bW gI hi,(show∀(y:aI)(r:List Value),cx y++r=Value.int .i64 y.tag::.int .i64 y.ty::.int .i64 y.au::aj y.data::r fromλ_ _=>rfl)];simp;have hm:=h l[i] (dL hi);unfold Oa;rw[zI w _ _ _ (by have:=abe hm;omega),hm,aN (by omega) (by omega)];rfl
  ·intro g;simp
 unfold nt;rw[key];rfl
theorem Mh(d:aO):(eY (dT d)&&(eY (dS d)&&eY (dB d)))=true:=by cases d;rfl
theorem abd(hw:65540<=w){sh:List aV}{s:Nat}{d:aO}(h:cK sh s d=true):mi (jT w) (nt w) (dT d) (dS d) (dB d)=true:=by
 unfold mi;rw[Mh];obtain⟨tags,subs,blob⟩:=d;unfold cK at h;simp_all;obtain⟨⟨h1,h2⟩,h3,_⟩:=h;have hn:bF (.mk tags subs blob)=tags.length+cm subs+(if blob.length=0 then 0 else 2):=rfl;have hT:∀t∈tags,dW t.ty t.au t.data=true:=λt ht=>by unfold jI at h3;simp_all
 rw[show dT (.mk tags subs blob)=az tags from rfl,show dS (.mk tags subs blob)=ae (cm subs) (gd subs) from rfl,show dB (.mk tags subs blob)=aj blob from rfl,G7 w tags subs blob (by omega),abh tags hT (by omega) hw]
 grind
mutual
theorem SP{w:Nat}(hw:65540<=w){sh:List aV}:∀(d:aO)(s f:Nat),cK sh s d=true->fA d<=f->lE (mi (jT w) (nt w)) f (dT d) (dS d) (dB d)=true
 | .mk tags subs blob,s,0,h,hf=>by simp[fA] at hf
 | .mk tags subs blob,s,f+1,h,hf=>by unfold lE;rw[abd hw h];unfold cK at h;simp at h;obtain⟨⟨h1,h2⟩,_,_,_,h5⟩:=h;have hn:bF (.mk tags subs blob)=tags.length+cm subs+(if blob.length=0 then 0 else 2):=rfl;show(Nat.beq (gd subs).length (cm subs*4)&&Nat.blt (cm subs) 1000000000&&wq (lE (mi (jT w) (nt w)) f) (gd subs))=true;rw[WQ,kV,show Nat.blt (cm subs) 1000000000=true by simp;omega,SR hw subs _ f h5 (by simp only[fA] at hf;omega)];rfl
theorem SR{w:Nat}(hw:65540<=w){sh:List aV}:∀(s:cF)(S:aV)(f:Nat),iB sh S s=true->jw s<=f->wq (lE (mi (jT w) (nt w)) f) (gd s)=true
 | .nil,_,_,_,_=>rfl
 | .cons tag d r,S,f,h,hf=>by unfold iB at h;simp_all;unfold jw at hf;rw[show gd (.cons tag d r)=.int .i64 tag::(dK d++gd r) from rfl,pM];show((eY (dT d)&&(eY (dS d)&&eY (dB d)))&&lE (mi (jT w) (nt w)) f (dT d) (dS d) (dB d)&&wq (lE (mi (jT w) (nt w)) f) (gd r))=true;rw[Mh,SP hw d _ f h.2.1 (by omega),SR hw r S f h.2.2 (by omega)];rfl
end
theorem abf(hw:65540<=w)(o:Int)(ds:List aO)(hn:ds.length<1000000000)(h:∀d∈ds,∃(sh:List aV)(s:Nat),cK sh s d=true)(hd:kj ds<=w):wU w o (dM ds)=some true:=by
 have hC:∀ds:List aO,(∀d∈ds,∃(sh:List aV)(s:Nat),cK sh s d=true)->kj ds<=w->sb (lE (mi (jT w) (nt w)) w) (ds.flatMap dK)=true:=by
  intro ds;induction ds with
  |nil=>intro _ _;rfl
  |cons d ds ih=>intro h hd;obtain⟨sh,s,h0⟩:=h d (by simp);unfold kj at hd;rw[ff,pM];show((eY (dT d)&&(eY (dS d)&&eY (dB d)))&&lE (mi (jT w) (nt w)) w (dT d) (dS d) (dB d)&&sb (lE (mi (jT w) (nt w)) w) (ds.flatMap dK))=true;rw[Mh,SP hw d s w h0 (by omega),ih (λx hx=>h x (by grind)) (by omega)];rfl
 show cond (Nat.beq (ds.flatMap dK).length (ds.length*3)&&(Nat.blt ds.length 1000000000&&sb (lE (mi (jT w) (nt w)) w) (ds.flatMap dK))) (some true) none=some true;rw[(eJ nX ds),kV,show Nat.blt ds.length 1000000000=true by simp;omega,hC ds h hd];rfl
theorem Z0(hw:65540<=w):Hand w:=
 ⟨λo ds hn h hd=>abf hw o ds hn h hd,λl x h1 h2 h3 h4 h5=>afF l x h1 h2 h3 h4 h5,λl t h1 h2 h3 h4=>Y4 l t h1 h2 h3 h4,λb h=>YS b h,λa b c d h0 h=>Yo a b c d h0 h⟩
end
section
open Go.Shelf Go.RowKit Go.Lib Go.ChangeShapes Go.WideShapes Go.Deep
section
variable{H:Type} {enc:TypeId×Value->H} {P:Program} {w:World} {base:Nat} {spare:Nat->Bool} {held:Bool}
variable{y:Value}
theorem Yp{b i:Nat}(h:w.cell? ⟨b,i,none⟩=some y):fc w b i=some y:=by
 unfold fc;split
 ·rename_i es c q;unfold World.cell? at h;simp only[q] at h;cases h
 ·exact h
theorem Yr{a:Addr}(h:w.cell? a=some y):a.spot=none:=by
 unfold World.cell? at h;split at h
 ·split at h
  ·cases h
  ·rename_i q;cases e:a.spot with
   |none=>rfl
   |some _=>rw[e] at q;exact absurd rfl q
 ·cases h
theorem O9{α:Type}{t e:TypeId}{k:Nat}(f:α->List Value)(ht:P.underlying t=some (.slice e))(hk:P.cellsOf e=k)(k0:0<k){fuel:Nat}{cs:List Value}{x:DataW H×List MemPlace}
 (each:∀fuel cs x,DataW.trod enc P w base spare held fuel e cs=some x->∃p:α,aP (λb i=>fc w b i) (f p) cs) (h:DataW.trod enc P w base spare held fuel t cs=some x):
 ∃(l:List α)(v:Value),cs=[v]/\bj (λb i=>fc w b i) (aC f l) v/\l.length<=maxLen:=by
 rcases open_slice ht h with⟨rfl,_⟩|⟨a,len,cap,m,n,D,Pl,rfl,hb,hl,hm,hmm,hx,hi⟩
 ·exact⟨[],_,rfl,.fN,gZ _⟩
 have hlm:len<=m:=by rw[hmm];split<;>omega
 have key:∀j,j<=len->∃(l:List α)(ys:List Value),l.length=j/\aP (λb i=>fc w b i) (l.flatMap f) ys/\ys.length=j*k/\∀q y,ys[q]? =some y->w.cell? (a.add q)=some y:=by
  intro j;induction j with
  |zero=>intro _;exact⟨[],[],rfl,.nil,by simp,λq y h=>by simp at h⟩
  |succ j ih=>
   intro hj;obtain⟨l,ys,e1,e2,e3,e4⟩:=ih (by omega);obtain⟨cs',hc,htr⟩:=hi j (by omega);obtain⟨p,hp⟩:=each _ _ _ htr;rw[hk] at hc;obtain⟨_,hcl,hat⟩:=World.cells?_some hc;refine⟨l++[p],ys++cs',by simp[e1],?_,by simp[e3,hcl,kb],λq y hq=>?_⟩
   ·rw[gq,ff,nz,eH];exact e2.join hp
   ·rcases dg q ys.length with hlt|hge
    ·rw[uU hlt] at hq;exact e4 q y hq
    ·rw[uV hge] at hq;have hql:=(List.getElem?_eq_some_iff.1 hq).1;have:=hat (q -ys.length) (by omega);rw[hq] at this;rw[<-this,Go.Deep.add_add]
     congr 2
     omega
 obtain⟨l,ys,e1,e2,e3,e4⟩:=key len (aB _);refine⟨l,_,rfl,?_,by omega⟩;by_cases h0:len=0
 ·have:l=[]:=jJ (by omega);subst this;subst h0;exact .fN
 ·obtain⟨y0,hy0⟩:∃y,ys[0]? =some y:=⟨_,dD (by rw[e3];exact Nat.mul_pos (by omega) k0)⟩;obtain⟨b,o,sp⟩:=a;have hs:sp=none:=by
   have:=Yr (e4 0 y0 hy0);unfold Addr.add at this;first|exact this|(split at this<;>exact this)|simpa using this
  subst hs;subst e1;refine .gH e2 (λi y hy=>Yp ?_) rfl hl;have:=e4 i y hy;rwa[Addr.add_lit] at this
end
end
section
theorem Wi(w:Nat)(b:List UInt8):CS w (aj b)=some (mR.isPrefixOf b):=by unfold CS;have:ae 6 (List.drop 0 [Value.int IntKind.u8 69,Value.int IntKind.u8 120,Value.int IntKind.u8 105,Value.int IntKind.u8 102,Value.int IntKind.u8 0,Value.int IntKind.u8 0])=aj mR:=rfl;rw[this,Nb];rfl
theorem Nd(w:Nat)(b:List UInt8):Cq w (aj b)=some (fm.isPrefixOf b):=by unfold Cq;have:ae 12 (List.drop 0 [Value.int IntKind.u8 73,Value.int IntKind.u8 67,Value.int IntKind.u8 67,Value.int IntKind.u8 95,Value.int IntKind.u8 80,Value.int IntKind.u8 82,Value.int IntKind.u8 79,Value.int IntKind.u8 70,Value.int IntKind.u8 73,Value.int IntKind.u8 76,Value.int IntKind.u8 69,Value.int IntKind.u8 0])=aj fm:=rfl;rw[this,Nb];rfl
variable{b:List UInt8} {w:Nat}
theorem ahn{k:List UInt8}(hk:b=mR++k)(hb:b.length<=65533){o:Int}{a1 a2 a3 a4 a5 a6 a7:Value}(h:Cr w (aj k)=some (o,a1,a2,a3,a4,a5,a6,a7,0)):zX w (aj b)=some (o,a1,a2,a3,a4,a5,a6,a7,0):=by
 have hp:mR.isPrefixOf b=true:=by rw[hk,uW];exact aiQ _ _
 have hl:6<=b.length:=by rw[hk,aR];have:mR.length=6:=rfl;omega
 have e1:¬((65533:Int)<(b.length:Int)):=by omega
 have e2:¬((b.length:Int)<(6:Int)):=by omega
 unfold zX Nf Ng Gr;rw[dU];simp[e1];simp[e2];rw[Wi,hp];simp[hl];rw[pL _ (aB _),gh (by rw[dZ];omega),show b.drop 6=k by rw[hk];rfl,h];rfl
theorem afS{c:List UInt8}(h1:1<=c.length)(h2:c.length<=65519):GD w (aj (fm++1::1::c)) ((0:Nat):Int) 1=some true:=by
 have hp:fm.isPrefixOf (fm++1::1::c)=true:=by rw[uW];exact aiQ _ _
 have hl:(fm++1::1::c).length=c.length+14:=by rw[aR];show 12+_=_;simp;omega
 have i12:(fm++1::1::c)[12]'(by omega)=1:=rfl
 have i13:(fm++1::1::c)[13]'(by omega)=1:=rfl
 unfold GD;rw[dU,Nd,hp];simp only[aA];rw[pV (by omega:12<_),i12];unfold aX;simp only[bN,cH];rw[show ak (ah IntKind.i64 ((1:UInt8).toNat:Int)) (ah IntKind.i64 (Int.add ((0:Nat):Int) 1))=true from rfl];rw[pV (by omega:13<_),i13];unfold aX;simp only[bN,cH];rw[show ak (ah IntKind.i64 ((1:UInt8).toNat:Int)) 1=true from rfl];simp only[cL];rw[hl,iV,cu,aN (by omega) (by omega),show((c.length+14:Nat):Int) -14=(c.length:Int) by omega];simp only[cD,bc];by_cases h:(c.length:Int)=65519
 ·simp[h]
 ·have e1:¬((c.length:Int)<1):=by omega
  have e3:(((0:Nat):Int)=ah IntKind.i64 (Int.sub 1 1)):=rfl;simp only[h,e1,(show((c.length:Int)<65519) from by omega),cy,bn,fu,ay,aE];rw[fS e3,ay]
theorem aho(hw:20<w)(hb:b.length<=65519):Ia w (aC iR (fJ b))=some (aj b,0):=by
 have hbl:∀l:List (List UInt8),∀K:Nat->Option (Value×Int),ax (aC iR l) K=K l.length:=λl K=>dw iR l K;unfold Ia fJ;by_cases h0:b.length=0
 ·rw[ar h0,hbl,hbl,ef _ _ (by omega)];have:b=[]:=qu.1 h0;subst this;rfl
 ·rw[ai h0,hbl,hbl,ef _ _ (by omega)];have x0:∀(K:List Value->Option (Value×Int)),aQ 1 0 (aC iR [fm++1::1::b]) K=K (iR (fm++1::1::b)++([].flatMap iR)):=λK=>bW (k:=1) (λ_=>rfl) (m:=0) (by show 0<1;omega) K;have hl:(fm++1::1::b).length=b.length+14:=by rw[aR];show 12+_=_;simp;omega
  have e1:¬((Int.ofNat (fm++1::1::b).length)<14):=by rw[cu];omega
  have e14:14<=(fm++1::1::b).length:=by omega
  rw[show(0:Int)=((0:Nat):Int) from rfl,ct,x0];rw[show iR (fm++1::1::b)++([].flatMap iR)=[aj (fm++1::1::b)] from rfl];simp only[bN];rw[dU];simp only[bc,e1];rw[hbl,show Int.ofNat [fm++1::1::b].length=1 from rfl,afS (by omega) hb];rw[dU];simp only[gu,e14,bn];rw[pL _ (aB _),gh (by rw[dZ];omega),show(fm++1::1::b).drop 14=b from rfl,ij,iH,gM];have hr1:aK b.length=true:=by simp;omega
  rw[hr1];rw[show ah IntKind.i64 (Int.add ((0:Nat):Int) 1)=1 from rfl,ef _ _ (by omega)];simp;rw[nV]
def Af(m:Int)(p:List UInt8->Bool):List bE->Bool
 |[]=>false
 |s::_=>decide (s.bX=m)&&p s.data
variable{β:Type}
theorem oA(s:bE)(r:List bE)(K:List Value->Option β):aQ 3 0 (dC (s::r)) K=K (cN s++r.flatMap cN):=bW ja (by simp) K
theorem Gx(s:bE)(r:List bE)(K:Value->Option β):ib 3 1 (s::r).length (dC (s::r)) K=K (dC r):=by rw[show dC (s::r)=aC cN (s::r) from rfl,yd ja _ (aB _),gh (by simp)];rfl
theorem sG(l:List bE)(K:Nat->Option β):ax (dC l) K=K l.length:=dw cN l K
variable{m:Int} {r:List bE} {s:bE}
theorem ahi(h1:s.bX=m)(h2:mR.isPrefixOf s.data=true)(x2:Int)(x3 x4 x5 x6 x7 x8 x9 x10 x11 x12:Value)(x13 x14:Int):H8 w m (dC (s::r)) x2 x3 x4 x5 x6 x7 x8 x9 x10 x11 x12 x13 x14=some (aj s.data,true,dC r,x2,x3,x4,x5,x6,x7,x8,x9,x10,x11,x12,x13,x14):=by
 have e1:ak (Int.ofNat (s::r).length) 0=false:=by rw[cD,fI,cu,cQ];omega
 have e2:1<=(s::r).length:=by rw[cQ];omega
 have c2:∀q:List Value,cN s++q=.int .i64 s.bX::aj s.data::aj s.scan::q:=λ_=>rfl;unfold H8 uB;rw[sG,e1,oA,(show∀q:List Value,List.drop 0 (cN s++q)=.int .i64 s.bX::aj s.data::aj s.scan::q fromλ_=>rfl)];simp only[bN,cH];rw[h1,show ak m m=true by rw[cD,bV],oA,(show∀q:List Value,List.drop 1 (cN s++q)=aj s.data::aj s.scan::q fromλ_=>rfl)];simp only[bN];rw[Wi,h2];simp only[aA,cL,aE];rw[oA,c2];simp only[bN,cH];rw[sG];simp only[gu,aB,e2,bn,kU,ay];rw[Gx]
theorem ahf(h1:s.bX=m)(h2:ko.isPrefixOf s.data=true)(x2:Int)(x3 x4 x5 x6 x7 x8 x9 x10 x11 x12:Value)(x13 x14:Int):zU w m (dC (s::r)) x2 x3 x4 x5 x6 x7 x8 x9 x10 x11 x12 x13 x14=some (aj s.data,true,dC r,x2,x3,x4,x5,x6,x7,x8,x9,x10,x11,x12,x13,x14):=by
 have e1:ak (Int.ofNat (s::r).length) 0=false:=by rw[cD,fI,cu,cQ];omega
 have e2:1<=(s::r).length:=by rw[cQ];omega
 have c2:∀q:List Value,cN s++q=.int .i64 s.bX::aj s.data::aj s.scan::q:=λ_=>rfl;unfold zU uB;rw[sG,e1,oA,(show∀q:List Value,List.drop 0 (cN s++q)=.int .i64 s.bX::aj s.data::aj s.scan::q fromλ_=>rfl)];simp only[bN,cH];rw[h1,show ak m m=true by rw[cD,bV],oA,(show∀q:List Value,List.drop 1 (cN s++q)=aj s.data::aj s.scan::q fromλ_=>rfl)];simp only[bN];rw[Oq,h2];simp only[aA,cL,aE];rw[oA,c2];simp only[bN,cH];rw[sG];simp only[gu,aB,e2,bn,kU,ay];rw[Gx]
variable{l:List bE}
theorem ahe(h:Af m (λd=>ko.isPrefixOf d) l=false)(x2:Int)(x3 x4 x5 x6 x7 x8 x9 x10 x11 x12:Value)(x13 x14:Int):zU w m (dC l) x2 x3 x4 x5 x6 x7 x8 x9 x10 x11 x12 x13 x14=some (ae 0 [],false,dC l,x2,x3,x4,x5,x6,x7,x8,x9,x10,x11,x12,x13,x14):=by
 unfold zU uB;rw[sG];cases l with
 |nil=>rfl
 |cons s r=>
  have h:(decide (s.bX=m)&&ko.isPrefixOf s.data)=false:=h;rw[(show ak (Int.ofNat (s::r).length) 0=false from by rw[cD,fI,cu,cQ];omega),aE,oA,(show∀q:List Value,List.drop 0 (cN s++q)=.int .i64 s.bX::aj s.data::aj s.scan::q fromλ_=>rfl)];simp only[bN,cH,cD];by_cases hm:s.bX=m
  ·rw[fS hm,fP] at h;rw[oA,(show∀q:List Value,List.drop 1 (cN s++q)=aj s.data::aj s.scan::q fromλ_=>rfl)];simp;rw[Oq,h];simp
  ·rw[fR hm,fu,ay]
theorem ahh(h1:s.bX=m)(h2:fm.isPrefixOf s.data=true)(x2:Int)(x3 x4 x5 x6 x7 x8 x9 x10 x11 x12:Value)(x13 x14:Int):uO w m (dC (s::r)) x2 x3 x4 x5 x6 x7 x8 x9 x10 x11 x12 x13 x14=some (aj s.data,true,dC r,x2,x3,x4,x5,x6,x7,x8,x9,x10,x11,x12,x13,x14):=by
 have e1:ak (Int.ofNat (s::r).length) 0=false:=by rw[cD,fI,cu,cQ];omega
 have e2:1<=(s::r).length:=by rw[cQ];omega
 have c2:∀q:List Value,cN s++q=.int .i64 s.bX::aj s.data::aj s.scan::q:=λ_=>rfl;unfold uO uB;rw[sG,e1,oA,(show∀q:List Value,List.drop 0 (cN s++q)=.int .i64 s.bX::aj s.data::aj s.scan::q fromλ_=>rfl)];simp only[bN,cH];rw[h1,show ak m m=true by rw[cD,bV],oA,(show∀q:List Value,List.drop 1 (cN s++q)=aj s.data::aj s.scan::q fromλ_=>rfl)];simp only[bN];rw[Nd,h2];simp only[aA,cL,aE];rw[oA,c2];simp only[bN,cH];rw[sG];simp only[gu,aB,e2,bn,kU,ay];rw[Gx]
theorem ahg(h:Af m (λd=>fm.isPrefixOf d) l=false)(x2:Int)(x3 x4 x5 x6 x7 x8 x9 x10 x11 x12:Value)(x13 x14:Int):uO w m (dC l) x2 x3 x4 x5 x6 x7 x8 x9 x10 x11 x12 x13 x14=some (ae 0 [],false,dC l,x2,x3,x4,x5,x6,x7,x8,x9,x10,x11,x12,x13,x14):=by
 unfold uO uB;rw[sG];cases l with
 |nil=>rfl
 |cons s r=>
  have h:(decide (s.bX=m)&&fm.isPrefixOf s.data)=false:=h;rw[(show ak (Int.ofNat (s::r).length) 0=false from by rw[cD,fI,cu,cQ];omega),aE,oA,(show∀q:List Value,List.drop 0 (cN s++q)=.int .i64 s.bX::aj s.data::aj s.scan::q fromλ_=>rfl)];simp only[bN,cH,cD];by_cases hm:s.bX=m
  ·rw[fS hm,fP] at h;rw[oA,(show∀q:List Value,List.drop 1 (cN s++q)=aj s.data::aj s.scan::q fromλ_=>rfl)];simp;rw[Nd,h];simp
  grind
theorem ahl(cs:List (List UInt8))(hcs:∀c∈cs,fm.isPrefixOf c=true)(hl:cs.length<1000)(hw:2000<w)(h:Af 226 (λd=>fm.isPrefixOf d) r=false)(x1:Int)(x2 x3 x4 x5 x6 x7 x8 x9 x10 x11:Value)(x12 x13:Int):
 zV w (dC (cs.map (λc=>⟨226,c,[]⟩)++r)) x1 x2 x3 x4 x5 x6 x7 x8 x9 x10 x11 x12 x13=some (dC r,x1,x2,x3,x4,x5,x6,x7,x8,x9,x10,x11,x12,x13,cs.flatMap iR):=by
 obtain⟨tk,htk⟩:∃tk:List (List UInt8)->Value×Bool×Value×Int×Value×Value×Value×Value×Value×Value×Value×Value×Value×Value×Int×Int,tk=λl=>match l with
  |[]=>(ae 0 [],false,dC r,x1,x2,x3,x4,x5,x6,x7,x8,x9,x10,x11,x12,x13)
  |c::l=>(aj c,true,dC (l.map (λc=>(⟨226,c,[]⟩:bE))++r),x1,x2,x3,x4,x5,x6,x7,x8,x9,x10,x11,x12,x13):=⟨_,rfl⟩
 have ht:∀l:List (List UInt8),(∀c∈l,fm.isPrefixOf c=true)->uO w 226 (dC (l.map (λc=>(⟨226,c,[]⟩:bE))++r)) x1 x2 x3 x4 x5 x6 x7 x8 x9 x10 x11 x12 x13=some (tk l):=by
  intro l hl;rw[htk];cases l with
  |nil=>exact ahg h _ _ _ _ _ _ _ _ _ _ _ _ _
  |cons c l=>have:=ahh (w:=w) (s:=⟨226,c,[]⟩) (r:=l.map (λc=>(⟨226,c,[]⟩:bE))++r) rfl (hl c mC) x1 x2 x3 x4 x5 x6 x7 x8 x9 x10 x11 x12 x13;exact this
 unfold zV;rw[ht cs hcs];refine oh (ev:=λi _ (g:Value->Bool->Value->Int->Value->Value->Value->Value->Value->Value->Value->Value->Value->Value->Int->Int->List Value->Option (Value×Int×Value×Value×Value×Value×Value×Value×Value×Value×Value×Value×Int×Int×List Value))=>g (tk (cs.drop i)).1 (tk (cs.drop i)).2.1 (tk (cs.drop i)).2.2.1 (tk (cs.drop i)).2.2.2.1 (tk (cs.drop i)).2.2.2.2.1 (tk (cs.drop i)).2.2.2.2.2.1 (tk (cs.drop i)).2.2.2.2.2.2.1 (tk (cs.drop i)).2.2.2.2.2.2.2.1 (tk (cs.drop i)).2.2.2.2.2.2.2.2.1 (tk (cs.drop i)).2.2.2.2.2.2.2.2.2.1 (tk (cs.drop i)).2.2.2.2.2.2.2.2.2.2.1 (tk (cs.drop i)).2.2.2.2.2.2.2.2.2.2.2.1 (tk (cs.drop i)).2.2.2.2.2.2.2.2.2.2.2.2.1 (tk (cs.drop i)).2.2.2.2.2.2.2.2.2.2.2.2.2.1 (tk (cs.drop i)).2.2.2.2.2.2.2.2.2.2.2.2.2.2.1 (tk (cs.drop i)).2.2.2.2.2.2.2.2.2.2.2.2.2.2.2 ((cs.take i).flatMap iR)) (Inv:=λ_ _=>True) cs.length () trivial ?_ ?_ (by omega)
 ·intro i g _ hi _;refine⟨(),trivial,?_⟩;have hfl:((cs.take i).flatMap iR).length=i:=by
   rw[eJ (k:=1) (λ_=>rfl),dH,kE (by omega),gM]
  simp only[(show tk (cs.drop i)=(aj cs[i],true,dC ((cs.drop (i+1)).map (λc=>(⟨226,c,[]⟩:bE))++r),x1,x2,x3,x4,x5,x6,x7,x8,x9,x10,x11,x12,x13) from by rw[(dG hi),htk])];rw[hfl,(show aK i=true from by simp;omega),ht _ (λc hc=>hcs c (xr hc)),nB hi,gq];rfl
 ·intro g _ _;simp_all
theorem ahm(r:List bE)(hl:r.length<2^40)(hw:r.length<w)(h:∀s∈r,pC s.bX=false)(x1:Int)(x2 x3 x4 x5 x6 x7 x8 x9 x10 x11:Value)(x12 x13:Int):
 Ow w (dC r) x1 x2 x3 x4 x5 x6 x7 x8 x9 x10 x11 x12 x13=some (false,dC r,x1,x2,x3,x4,x5,x6,x7,x8,x9,x10,x11,x12,x13):=by
 refine lD (ev:=λi (g:Value->Int->Int->Value->Int->Value->Value->Value->Value->Value->Value->Value->Value->Value->Value->Int->Int->Option (Bool×Value×Int×Value×Value×Value×Value×Value×Value×Value×Value×Value×Value×Int×Int))=>g (dC r) r.length i (dC r) x1 x2 x3 x4 x5 x6 x7 x8 x9 x10 x11 x12 x13) r.length ?_ ?_ hw
 ·intro i g hi;have c2:∀(s:bE)(q:List Value),cN s++q=.int .i64 s.bX::aj s.data::aj s.scan::q:=λ_ _=>rfl;have ha:=h _ (dL hi);unfold pC at ha;simp;rw[show dC r=aC cN r from rfl,bW ja hi,aN (by omega) (by omega)];simp_all
 simp
end
section
noncomputable def SZ(w:Nat)(bC q:Value)(a1:Int)(a2 a3 a4 a5 a6 a7 a8 a9 a10 a11:Value)(a12 a13:Int):Option (Int×Value×Value×Value×Value×Value×Value×Value×Value×Value×Value×Int×Int×Int):=
 ob (zV w q a1 a2 a3 a4 a5 a6 a7 a8 a9 a10 a11 a12 a13) λx=>Cc w x (bC,true,q,0,q,q,q,q,q,q,q,q,q,q,0,0)
variable{bC core:List UInt8} {m w:Nat} {r:List bE}
theorem abn(A:Hand w){cs:List (List UInt8)}{cV:List UInt8}(hcs:cs=fJ cV)(hicc:cV.length<=65519)
 (hm:m<2^26) (hw:2*m+200000<w) (hr:∀s∈r,pC s.bX=false) (hr1:r.length≠0) (hcore:nW core=true) (hcw:dc (⟨216,[],[]⟩::r)=core) (hmay:mj (⟨216,[],[]⟩::r)=true) (hseg:xF (⟨216,[],[]⟩::r) m) (hlen:r.length<=m) (hcl:core.length<=m)
 {o:Int} {b1 b2 b3 b4 b5 b6 b7:Value} (h60:zX w (aj bC)=some (o,b1,b2,b3,b4,b5,b6,b7,0)) (a1:Int) (a2 a3 a4 a5 a6 a7 a8 a9 a10 a11:Value) (a12 a13:Int):
 SZ w (aj bC) (dC (cs.map (λc=>(⟨226,c,[]⟩:bE))++r)) a1 a2 a3 a4 a5 a6 a7 a8 a9 a10 a11 a12 a13=some (o,b1,b2,b3,b4,b5,b6,b7,aj cV,aj core,a11,a12,a13,0):=by
 have hq:Af 226 (λd=>fm.isPrefixOf d) r=false:=by
  cases r with
  |nil=>rfl
  |cons s r=>have:=hr s mC;unfold pC at this;rw[fI] at this;show(decide (s.bX=226)&&_)=false;rw[fR (by omega)];rfl
 have hpre:∀c∈cs,fm.isPrefixOf c=true:=by
  intro c hc;rw[hcs] at hc;unfold fJ at hc;split at hc
  ·cases hc
  ·rw[kC.1 hc,uW];exact aiQ _ _
 have hchl:cs.length<=1:=by rw[hcs];unfold fJ;split<;>simp
 have e0:ak 0 0=true:=rfl;unfold SZ Cc zm Gl;rw[ahl cs hpre (by omega) (by omega) hq];simp only[aA];rw[ahm r (by omega) (by omega) hr];rw[h60];have hcv:ae ((cs.flatMap iR).length/1) (cs.flatMap iR)=aC iR (fJ cV):=by rw[eJ (k:=1) (λ_=>rfl),mE,gM,hcs];rfl
 rw[hcv,aho (by omega) hicc];simp only[aA,e0,cL,aE];rw[show dC r=aC cN r from rfl,EB ja,eJ ja];have e1:(1+r.length).ble 1=false:=by rw[gu,fI];omega
 have r2:aK r.length=true:=by simp;omega
 have hn:=nextslicecap_le (need:=1+r.length) (old:=1) (by omega);have r3:(Builtin.nextslicecap (1+r.length) 1).ble 5000000000=true:=by rw[kW];omega
 rw[e1,r2,r3];rw[show List.take 3 (List.drop 0 [Value.int IntKind.i64 216,ae 0 [],ae 0 []])++r.flatMap cN=(⟨216,[],[]⟩::r:List bE).flatMap cN from rfl,Vy,Wh A _ (by omega) hseg (by rw[cQ];omega) ⟨by rw[cQ];omega,by omega,by omega⟩ hmay (by rw[hcw];omega),hcw];simp;rw[Oo core (by omega) (by omega),hcore];rfl
variable{s:Nat} {sh:List aV}
theorem ae4{d:aO}(h:cK sh s d=true):DE d:=by
 rintro tags subs blob rfl
 simp only[cK,jI] at h
 grind
theorem ae5{tags:List aI}{subs:cF}{blob:List UInt8}(h:cK sh s (.mk tags subs blob)=true):∀p∈aL subs,DE p.2 :=by simp[cK] at h;intro p hp;exact ae4 (Kh h.2.2.2.2 p hp).2
variable{x:di}
theorem jL.more{k:Nat}(h:jL x m)(hk:m<=k):jL x k:=by obtain⟨⟨r0,r2,r3,r4,r1⟩,d0,d2,d3,d4,d1,hmk,hth⟩:=h;exact⟨⟨by omega,by omega,by omega,by omega,by omega⟩,λt ht=>by have:=d0 t ht;omega,λt ht=>by have:=d2 t ht;omega,λt ht=>by have:=d3 t ht;omega,λt ht=>by have:=d4 t ht;omega,λt ht=>by have:=d1 t ht;omega,by omega,by omega⟩
theorem XX(W:eW w){b:List UInt8}(h:iy x=.ok b)(hx:jL x 9000)(hw:800000<w):zX w (aj b)=some (x.order,az x.cP,az x.bR,az x.bZ,az x.bp,az x.first,aj x.bQ,aj x.dq,0):=by
 have hr:=hx.rows;obtain⟨-,-,hp2,hp3,hp4⟩:=AQ h (by unfold qX at hr⊢;omega);have hce:hU x=0:=by unfold iy at h;split at h<;>grind
 have TR:=Ep W hx hce;have hl:(fe (eC x) da).length<=65533:=by rw[hp3,aR] at hp2;omega
 obtain⟨-,k1,k2,-⟩:=W9 hx (by decide);have hsp:=OM (eC x).eK 0 8 TR.hd;have hsp3:(gK (eC x)).length=(jH 0 8 (eC x).eK).length+1:=rfl;have h114:=afR W.hand (by omega) (by omega) (afT (b:=fe (eC x) da) (by omega) (by omega) JX (λs hs=>by have:=Re s hs;omega) (by decide) (by decide) TR.tZ (S:=gK (eC x)) (by omega) (by rw[hp4];rfl)) TR.check (by rw[aii];exact Tj hce) (hx.more (by omega)) TR.ik TR.hd (λd hd tags subs blob he p hp=>by obtain⟨s,hs⟩:=Kg TR.hh d hd;rw[he] at hs;exact ae5 hs p hp);exact ahn hp3 hp2 h114
theorem YO(c4:dc (⟨216,[],[]⟩::r)=core)(hmay:mj (⟨216,[],[]⟩::r)=true):xF (⟨216,[],[]⟩::r) core.length:=by
 intro s hs;rcases cj.1 hs with rfl|hs2
 ·simp
 ·have h1:=M6 hs;by_cases ha:iw s.bX=true
  ·obtain⟨-,-,q,-⟩:=Pk hmay hs
   grind
  ·unfold dF at h1
   grind
theorem RL{x:qy}(c2:D8 x.core=⟨216,[],[]⟩::r)(c4:dc (⟨216,[],[]⟩::r)=x.core):(jB x bC).length<=100+bC.length+x.dN.length+x.cV.length+x.core.length:=by
 have e:jB x bC=dF ⟨216,[],[]⟩++(dF ⟨225,bC,[]⟩++(dc (if x.dN.length=0 then[] else[⟨226,x.dN,[]⟩])++(dc ((fJ x.cV).map (λc=>⟨226,c,[]⟩))++dc r))):=by unfold jB mc;rw[c2];simp[dc]
 have k1:(dF ⟨216,[],[]⟩).length=2:=rfl;have k2:(dF ⟨225,bC,[]⟩).length<=bC.length+4:=by unfold dF;split<;>simp<;>omega
 have k3:(dc (if x.dN.length=0 then[] else[⟨226,x.dN,[]⟩])).length<=x.dN.length+4:=by
  split
  ·simp[dc]
  ·simp[dc];unfold dF;split<;>simp<;>omega
 have k4:(dc ((fJ x.cV).map (λc=>⟨226,c,[]⟩))).length<=x.cV.length+30:=by
  unfold fJ;split
  ·simp[dc]
  ·simp[dc];unfold dF;split<;>simp[fm]<;>omega
 have k5:(dc r).length<=x.core.length:=by have:=bK List.length c4;rw[pf,aR] at this;omega
 simp_all;omega
theorem YA(w:Nat)(l:List UInt8)(hl:l.length<=1000000000):H9 w (aj l)=some (aj l):=by
 unfold H9;rw[dU];by_cases h:l.length=0
 ·have:l=[]:=qu.1 h;subst this;rfl
 ·have e1:Nat.beq l.length 0=false:=by
   rw[Bool.eq_false_iff];intro q;exact h (bJ q)
  rw[e1];have hn:=nextslicecap_le (need:=0+l.length) (old:=0) (by omega);have e5:(0+l.length).ble 0=false:=by rw[gu,fI];omega
  have e6:Nat.blt 0 l.length=true:=by rw[lU,bV];omega
  have r1:aK l.length=true:=by simp;omega
  unfold Ov Gm;rw[dU,e6,ij,iH,e5,r1,(show(Builtin.nextslicecap (0+l.length) 0).ble 5000000000=true from by rw[kW];omega)];simp;rw[nV]
theorem agC(W:eW w){x:qy}(h:Dn x bC)(hx:jL x.aS 9000)(hm:m<2^24)(hc:x.core.length<=m/\x.cV.length<=m/\x.dN.length<=m)(hw:2*m+800000<w):
 Hg w (aj (jB x bC))=some (x.aS.order,az x.aS.cP,az x.aS.bR,az x.aS.bZ,az x.aS.bp,az x.aS.first,aj x.aS.bQ,aj x.aS.dq,aj x.cV,aj x.core,aj x.dN,if x.dN.length=0 then 0 else((bC.length+10:Nat):Int),((jB x bC).length:Int),0):=by
 have hb:=W.jP;have hA:=W.hand;obtain⟨-,hp1,hp2,hp3,hp4⟩:=AQ h.app h.rows;have hrd:=Z8 h;obtain⟨r,c1,c2,c3,c4,c5,c6⟩:=D9 h.core;have hrl:r.length<=x.core.length:=by simpa using(Fb _ _ _ _ _ _ c1)
 have hmayC:mj (⟨216,[],[]⟩::r)=true:=by show(true&&iJ r)=true;rw[c3];rfl
 have hr0:r.length≠0:=by obtain⟨s,hs,_⟩:=c5;intro q;rw[qu.1 q] at hs;cases hs
 have h60:=XX W h.app hx (by omega);have himl:=RL (bC:=bC) c2 c4;have hi3:=h.cV;have htail:=λq=>abn (m:=m) hA (bC:=bC) (cs:=fJ x.cV) (r:=r) (core:=x.core) (cV:=x.cV) rfl h.cV (by omega) (by omega) c6 hr0 h.core c4 hmayC (λs hs=>by have:=YO c4 hmayC s hs;omega) (by omega) (by omega) h60 0 (ae 0 []) (ae 0 []) (ae 0 []) (ae 0 []) (ae 0 []) (ae 0 []) (ae 0 []) (ae 0 []) (ae 0 []) q;have hL:mc x bC=⟨216,[],[]⟩::⟨225,bC,[]⟩::((if x.dN.length=0 then[] else[⟨226,x.dN,[]⟩])++((fJ x.cV).map (λc=>⟨226,c,[]⟩)++r)):=by unfold mc;rw[c2];rfl
 unfold Hg zm Cc Gl;rw[Ot _ (by omega) (by omega),hrd];simp only[aA];rw[hL,sG];have hbl:∀(s:bE)(l:List bE),((s::l).length.ble (s::l).length&&Nat.ble 1 (s::l).length)=true:=by intro s l;rw[gu,gu,fS (aB _),fS (by rw[cQ];omega)];rfl
 rw[hbl,ay,Gx,ahi (s:=⟨225,bC,[]⟩) rfl hp1];simp only[aA,cL,aE];by_cases hmp:x.dN.length=0
 ·rw[ar hmp,ar hmp,iF];have hno:Af 226 (λd=>ko.isPrefixOf d) ((fJ x.cV).map (λc=>(⟨226,c,[]⟩:bE))++r)=false:=by
   unfold fJ;split
   ·show Af 226 _ r=false;cases r with
    |nil=>rfl
    |cons s r=>have:=c6 s mC;unfold pC at this;rw[fI] at this;show(decide (s.bX=226)&&_)=false;rw[fR (by omega)];rfl
   ·rfl
  rw[ahe hno];have:x.dN=[]:=qu.1 hmp;rw[this];exact htail (ae 0 []) 0 ((jB x bC).length:Int)
 ·rw[ai hmp,ai hmp];obtain⟨m1,m2⟩:=h.dN.resolve_left hmp;rw[show[⟨226,x.dN,[]⟩]++((fJ x.cV).map (λc=>⟨226,c,[]⟩)++r)=(⟨226,x.dN,[]⟩:bE)::((fJ x.cV).map (λc=>⟨226,c,[]⟩)++r) from rfl,ahf (s:=⟨226,x.dN,[]⟩) rfl m1];simp only[aA,ay];rw[YA w _ (by omega)];simp only[aA];rw[dU,cR,cR,cu,aN (n:=(6:Int)+(bC.length:Int)) (by omega) (by omega),aN (by omega) (by omega),show(6:Int)+(bC.length:Int)+4=((bC.length+10:Nat):Int) by omega];exact htail (aj x.dN) ((bC.length+10:Nat):Int) ((jB x bC).length:Int)
end
section
def nc(p:gB):List Value:=[.int .i64 p.attr,.int .i64 p.size,.int .i64 p.at_,.int .i64 p.fV,.int .i64 p.fW]
theorem BX(p:gB):(nc p).length=5:=rfl
def ng(l:List gB):Value:=aC nc l
variable{o:Int} {w:Nat}
theorem B1(hw:8<=w)(n:Int)(ho:o=1\/o=2):gR w n 4 o=some (if 0<=n/\n<4294967296 then(aj (aU n.toNat 4 o),true) else(ae 0 [],false)):=by
 rw[sJ hw,ar (by rcases ho with rfl|rfl<;>rfl),show(4:Int).toNat=4 from rfl,LN]
 grind
theorem FK(hw:8<=w)(n:Int)(ho:o=1\/o=2):gR w n 2 o=some (if 0<=n/\n<65536 then(aj (aU n.toNat 2 o),true) else(ae 0 [],false)):=by
 rw[sJ hw,ar (by rcases ho with rfl|rfl<;>rfl),show(2:Int).toNat=2 from rfl,show oZ n 2 o=if 0<=n/\n<65536 then some (aU n.toNat 2 o) else none from rfl]
 grind
theorem F6(l:List UInt8)(hl:l.length<=100):(aK l.length&&(l.map aX).length.beq (l.length*1))=true:=by rw[(show aK l.length=true from by simp;omega),eD,gM,kV];rfl
theorem F7(X:List Value)(l:List UInt8)(hX:X.length<=100)(hl:l.length<=100):(aK X.length&&(aK l.length&&(l.map aX).length.beq (l.length*1)))=true:=by rw[(show aK X.length=true from by simp;omega),F6 l hl];rfl
theorem Nr(hw:8<=w)(p:gB)(ho:o=1\/o=2):GQ w p.attr p.size p.at_ p.fV p.fW o=some (if ou p=true then(aj (fZ o p),true) else(ae 0 [],false)):=by
 unfold GQ NA wS;simp only[aA];unfold ou;rw[B1 hw _ ho];by_cases h1:0<=p.attr/\p.attr<4294967296
 case neg=>rw[ai h1,ai (by simp only[bV];exactλq=>h1 q.1)];rfl
 rw[ar h1];simp only[aA];rw[ij,iH,F6 _ (by rw[eh];omega),B1 hw _ ho];by_cases h2:0<=p.size/\p.size<4294967296
 case neg=>rw[ai h2,ai (by simp only[bV];exactλq=>h2 q.2.1)];rfl
 rw[ar h2];simp only[aA];rw[ij,iH,F7 _ _ (by simp[eh]) (by rw[eh];omega),B1 hw _ ho];by_cases h3:0<=p.at_/\p.at_<4294967296
 case neg=>rw[ai h3,ai (by simp only[bV];exactλq=>h3 q.2.2.1)];rfl
 rw[ar h3];simp only[aA];rw[ij,iH,F7 _ _ (by simp[eh]) (by rw[eh];omega),FK hw _ ho];by_cases h4:0<=p.fV/\p.fV<65536
 case neg=>rw[ai h4,ai (by simp only[bV];exactλq=>h4 q.2.2.2.1)];rfl
 rw[ar h4];simp only[aA];rw[ij,iH,F7 _ _ (by simp[eh]) (by rw[eh];omega),FK hw _ ho];by_cases h5:0<=p.fW/\p.fW<65536
 case neg=>rw[ai h5,ai (by simp only[bV];exactλq=>h5 q.2.2.2.2)];rfl
 rw[ar h5,ar (by rw[bV];exact⟨h1,h2,h3,h4,h5⟩)];simp only[aA];rw[ij,iH,F7 _ _ (by simp[eh]) (by rw[eh];omega)]
 congr 2
 rw[nV];unfold fZ;simp
theorem af3(hw:100<w)(n:Nat)(hn:n<4294967296):GR w 4 (ae 1 [Value.int IntKind.i64 (n:Int)])=some (4,1,aj (fj n 4),true):=by
 unfold GR MT;rw[zG,show kindOf 4=(4,4,1) from rfl];simp;have h211:G8 w 4 (ae 1 [Value.int IntKind.i64 (n:Int)]) 4 4 1=some (4,1,true,(fj n 4).map aX):=by
  unfold G8;have hl:∀K:Nat->Option (Int×Int×Bool×List Value),ax (ae 1 [Value.int IntKind.i64 (n:Int)]) K=K 1:=λ_=>rfl;rw[hl,hl,ef _ _ (by omega),show aq 0 (Int.ofNat 1)=true from rfl,show(0:Int)=((0:Nat):Int) from rfl,ct,(show∀K:List Value->Option (Int×Int×Bool×List Value),aQ 1 0 (ae 1 [Value.int IntKind.i64 (n:Int)]) K=K [Value.int IntKind.i64 (n:Int)] fromλ_=>rfl)];simp only[bN,cH];have h212:G9 w 4 4 1 (n:Int)=some (aj (fj n 4),true):=by unfold G9 MW;rw[B1 (by omega) _ (.inr rfl),ar (by omega)];rfl
  rw[h212];simp only[aA];rw[ij,iH,gM,tK,ay,ef _ _ (by omega),show ah IntKind.i64 (Int.add ((0:Nat):Int) 1)=1 from rfl,show aq 1 (Int.ofNat 1)=false from rfl,aE,iF,eD,mE,<-nV];rfl
 rw[h211];simp;rw[nV]
def VS(view:List aI):Prop:=view.length<=9000/\∀t∈view,t.data.length<=9000
variable{view:List aI}
theorem aiv(W:eW w)(ho:o=1\/o=2)(hv:VS view)(hr:dz 5 view=true)(h0:view.length≠0):oK w 10000 nQ o (kT o view).eK:=by
 have hl:=hv.1;refine O7 W XR (agq (by have:=W.jP;omega)) (by decide) (λs hs=>?_) ho (by simp[kT]) (by simp[kT]) (λd hd'=>?_) (by simp[kT,kj,fA,jw]) (by simp[kT,iT,dt,ia]) (Xu hr h0 (by omega))
 ·have:s=0:=by simp[nQ] at hs;omega
  rw[this];decide
 ·simp[kT] at hd';subst hd';exact⟨by omega,by show 0<=_;omega,by show 0<=_;omega,λt ht=>by have:=hv.2 t ht;omega,trivial⟩
theorem ahv(W:eW w)(o:Int)(hv:VS view):Ik w o (az view)=some (match Am o view with| .ok b=>(aj b,0)| .error e=>(ae 0 [],e)):=by
 have hb:=W.jP;have hl:=hv.1;have hlen:∀K:Nat->Option (Value×Int),ax (az view) K=K view.length:=λK=>dw cx view K;unfold Ik Am MQ;by_cases ho:o=1\/o=2
 case neg=>rw[ar (.inl ho)];rw[(show ak o 1=false from by rw[cD,fI];exactλq=>ho (.inl q)),(show ak o 2=false from by rw[cD,fI];exactλq=>ho (.inr q))];rfl
 have hrest:(ax (az view) λ(x2:Nat)=>bif ak (Int.ofNat x2) 0 then some (ae 0 [],1) else ob (o7 w 5 (az view)) λ(x3:Bool)=>bif !x3 then some (ae 0 [],6) else ob (GS w) λx4=>ob (wP w o (ae 1 (List.drop 0 [az view,ae 0 [],ae 0 []])) x4) λx5=>some (x5.fst,x5.snd))=some (match(if¬(o=1\/o=2)\/view.length=0 then .error 1 else if dz 5 view=false then .error 6 else if 65533<4+gJ (kT o view) then .error 7 else .ok (ko++fe (kT o view) nQ):Except Int (List UInt8)) with| .ok b=>(aj b,0)| .error e=>(ae 0 [],e)):=by
  rw[hlen];by_cases h0:view.length=0
  ·rw[ar (.inr h0),h0];rfl
  have e1:ak (Int.ofNat view.length) 0=false:=by rw[cD,fI,cu];omega
  rw[ai (by intro q;rcases q with q|q;exact q ho;exact h0 q),e1,uG (by omega) 5 view (by omega) (λt ht=>by have:=hv.2 t ht;omega) (by omega)]
  cases hr:dz 5 view with
  |false=>rfl
  |true=>
   have T:=aiv W ho hv hr h0;have e2:GS w=some (cw nQ):=rfl;rw[e2];simp only[aA,aE];have e3:ae 1 (List.drop 0 [az view,ae 0 [],ae 0 []])=dM (kT o view).eK:=by show _=ae 1 (dK (.mk view .nil [])++[]);rfl
   rw[e3,(VM T),show(⟨o,(kT o view).eK⟩:lR)=kT o view from rfl];by_cases h7:65533<4+gJ (kT o view)
   ·rw[ar h7,ar h7];rfl
   ·rw[ai h7,ai h7];rfl
 rcases ho with rfl|rfl<;>simp_all
end
section
structure bT where
 aS:di
 cV:List UInt8
 core:List UInt8
 attr:Int
 fV:Int
 fW:Int
 view:List aI
def dP(p:bT):List Value:=[.int .i64 p.aS.order,az p.aS.cP,az p.aS.bR,az p.aS.bZ,az p.aS.bp,az p.aS.first,aj p.aS.bQ,aj p.aS.dq,aj p.cV,aj p.core,.int .i64 p.attr,.int .i64 p.fV,.int .i64 p.fW,az p.view]
theorem kN(p:bT):(dP p).length=14:=rfl
def cO(l:List bT):Value:=aC dP l
theorem na(p:bT)(r:List Value):dP p++r=.int .i64 p.aS.order::az p.aS.cP::az p.aS.bR::az p.aS.bZ::az p.aS.bp::az p.aS.first::aj p.aS.bQ::aj p.aS.dq::aj p.cV::aj p.core::.int .i64 p.attr::.int .i64 p.fV::.int .i64 p.fW::az p.view::r:=rfl
def TS(l:List aI):Prop:=l.length<=60/\∀t∈l,t.data.length<=600
structure er(p:bT):Prop where
 t0:TS p.aS.cP
 t2:TS p.aS.bR
 t3:TS p.aS.bZ
 t4:TS p.aS.bp
 t1:TS p.aS.first
 tv:TS p.view
 mkr:p.aS.bQ.length<=2000
 th:p.aS.dq.length<=2000
 ic:p.cV.length<=2000
 co:p.core.length<=2000
variable{p:bT}
theorem er.Bn(h:er p):jL p.aS 9000:=by obtain⟨⟨a0,b0⟩,⟨a2,b2⟩,⟨a3,b3⟩,⟨a4,b4⟩,⟨a1,b1⟩,-,m1,m2,-,-⟩:=h;exact⟨⟨by omega,by omega,by omega,by omega,by omega⟩,λt ht=>by have:=b0 t ht;omega,λt ht=>by have:=b2 t ht;omega,λt ht=>by have:=b3 t ht;omega,λt ht=>by have:=b4 t ht;omega,λt ht=>by have:=b1 t ht;omega,by omega,by omega⟩
theorem er.vs(h:er p):VS p.view:=⟨by have:=h.tv.1;omega,λt ht=>by have:=h.tv.2 t ht;omega⟩
def jt(p:bT):Bool:=match iy p.aS with| .ok _=>false| .error _=>true
def AY(_:bT):Bool:=false
def nT(p:bT):Bool:=!nW p.core
def pE(p:bT):Bool:=!decide ((0<=p.attr/\p.attr<4294967296)/\(0<=p.fV/\p.fV<65536)/\(0<=p.fW/\p.fW<65536))
def pF(p:bT):Bool:=!dz 5 p.view
theorem PR{x:di}{e:Int}(h:iy x=.error e):e≠0:=by
 unfold iy at h
 grind
variable{w:Nat}
theorem afV(W:eW w)(h:er p)(a b c:Int)(v x y:Value):GI w p.aS.order (az p.aS.cP) (az p.aS.bR) (az p.aS.bZ) (az p.aS.bp) (az p.aS.first) (aj p.aS.bQ) (aj p.aS.dq) x y a b c v=some (jt p):=by
 unfold GI jt;rw[Of W h.Bn];cases he:iy p.aS with
 |ok b=>rfl
 |error e=>have:=PR he;simp_all
theorem afW(_:eW w)(h:er p)(o a b c:Int)(v x1 x2 x3 x4 x5 x6 x7 y:Value):GJ w o x1 x2 x3 x4 x5 x6 x7 (aj p.cV) y a b c v=some (AY p):=by
 have hi:=h.ic;unfold GJ AY;rw[dU,cu,Wk w _ (by omega)];simp only[aA,bc];have:xX p.cV.length<=1:=by unfold xX;omega
 rw[fR (by omega)]
theorem afX(W:eW w)(h:er p)(o a b c:Int)(v x1 x2 x3 x4 x5 x6 x7 x8:Value):GK w o x1 x2 x3 x4 x5 x6 x7 x8 (aj p.core) a b c v=some (nT p):=by have hb:=W.jP;have hi:=h.co;unfold GK nT;rw[Oo _ (by omega) (by omega)];rfl
theorem afY(W:eW w)(p:bT)(o:Int)(v x1 x2 x3 x4 x5 x6 x7 x8 x9:Value):GL w o x1 x2 x3 x4 x5 x6 x7 x8 x9 p.attr p.fV p.fW v=some (pE p):=by
 have hb:=W.jP;unfold GL pE;rw[B1 (by omega) _ (.inr rfl),FK (by omega) _ (.inr rfl),FK (by omega) _ (.inr rfl)];by_cases h1:0<=p.attr/\p.attr<4294967296
 ·by_cases h2:0<=p.fV/\p.fV<65536
  ·by_cases h3:0<=p.fW/\p.fW<65536
   ·simp_all
   ·simp[h3]
  ·simp[h2]
 ·simp[h1]
theorem afZ(W:eW w)(h:er p)(o a b c:Int)(x1 x2 x3 x4 x5 x6 x7 x8 x9:Value):GM w o x1 x2 x3 x4 x5 x6 x7 x8 x9 a b c (az p.view)=some (pF p):=by have hb:=W.jP;obtain⟨a1,b1⟩:=h.tv;unfold GM pF;rw[uG (by omega) 5 p.view (by omega) (λt ht=>by have:=b1 t ht;omega) (by omega)];rfl
variable{l:List bT}
theorem age(W:eW w)(h:∀p∈l,er p)(hl:l.length<=2000):NB w (cO l)=some (db jt l):=by
 have hb:=W.jP;refine mg l jt (ev:=λi (g:Value->Int->Int->Option Int)=>g (aC dP l) l.length i) ?_ ?_ (by omega)
 ·intro i g hi;simp_all;rw[bW kN hi,na];simp;rw[afV W (h _ (dL hi)),aN (by omega) (by omega)];simp
 simp
theorem agf(W:eW w)(h:∀p∈l,er p)(hl:l.length<=2000):NC w (cO l)=some (db AY l):=by
 have hb:=W.jP;refine mg l AY (ev:=λi (g:Value->Int->Int->Option Int)=>g (aC dP l) l.length i) ?_ ?_ (by omega)
 ·intro i g hi;simp_all;rw[bW kN hi,na];simp;rw[afW W (h _ (dL hi)),aN (by omega) (by omega)];simp
 simp
theorem agh(W:eW w)(h:∀p∈l,er p)(hl:l.length<=2000):ND w (cO l)=some (db nT l):=by
 have hb:=W.jP;refine mg l nT (ev:=λi (g:Value->Int->Int->Option Int)=>g (aC dP l) l.length i) ?_ ?_ (by omega)
 ·intro i g hi;simp_all;rw[bW kN hi,na];simp;rw[afX W (h _ (dL hi)),aN (by omega) (by omega)];simp
 simp
theorem agi(W:eW w)(_:∀p∈l,er p)(hl:l.length<=2000):NF w (cO l)=some (db pE l):=by
 have hb:=W.jP;refine mg l pE (ev:=λi (g:Value->Int->Int->Option Int)=>g (aC dP l) l.length i) ?_ ?_ (by omega)
 ·intro i g hi;simp_all;rw[bW kN hi,na];simp;rw[afY W,aN (by omega) (by omega)];simp
 simp
theorem agj(W:eW w)(h:∀p∈l,er p)(hl:l.length<=2000):NG w (cO l)=some (db pF l):=by
 have hb:=W.jP;refine mg l pF (ev:=λi (g:Value->Int->Int->Option Int)=>g (aC dP l) l.length i) ?_ ?_ (by omega)
 ·intro i g hi;simp_all;rw[bW kN hi,na];simp;rw[afZ W (h _ (dL hi)),aN (by omega) (by omega)];simp
 simp
end
section
variable{w:Nat}
theorem aiV(l:List aI)(hl:l.length<2^40)(hw:l.length<w):aiO w (az l) (az l)=some true:=by
 have hlr:∀(K:Nat->Option Bool),ax (az l) K=K l.length:=λK=>dw cx l K;have tg:∀(y:aI)(r:List Value),cx y++r=Value.int .i64 y.tag::.int .i64 y.ty::.int .i64 y.au::aj y.data::r:=λ_ _=>rfl;unfold aiO;rw[hlr,hlr,show ak (Int.ofNat l.length) (Int.ofNat l.length)=true by rw[cD,bV],cL,aE,hlr];refine lD (ev:=λi (g:Value->Value->Int->Int->Option Bool)=>g (az l) (az l) l.length i) l.length ?_ ?_ hw
 ·intro i g hi;have e1:((i:Int)<(l.length:Int)):=by omega
  simp only[bc,e1,bn,ay,ct];rw[show az l=aC cx l from rfl,bW gI hi,tg];simp only[bN,cH];rw[bW gI hi,tg];simp only[bN,cH];unfold ajd ajc;rw[ahd];simp only[cD,bn,ay,aA,cL,aE,cR];rw[aN (by omega) (by omega)];rfl
 ·intro g;have e1:¬((l.length:Int)<(l.length:Int)):=by omega
  simp only[bc,e1,cy,aE]
variable{x:di}
theorem ajJ(h:jL x 9000)(hw:10000<w):ai6 w x.order (az x.cP) (az x.bR) (az x.bZ) (az x.bp) (az x.first) (aj x.bQ) (aj x.dq) x.order (az x.cP) (az x.bR) (az x.bZ) (az x.bp) (az x.first) (aj x.bQ) (aj x.dq)=some true:=by obtain⟨⟨r0,r2,r3,r4,r1⟩,-⟩:=h;unfold ai6 OD;simp only[aA];rw[aiV _ (by omega) (by omega)];simp only[aA,cL,aE];rw[aiV _ (by omega) (by omega)];simp only[aA,cL,aE];rw[aiV _ (by omega) (by omega)];simp only[aA,cL,aE];rw[aiV _ (by omega) (by omega)];simp only[aA,cL,aE];rw[aiV _ (by omega) (by omega)];simp only[aA,cL,aE];rw[ahd,ahd];simp only[cD,bn,ay,aA]
theorem ajH(h:jL x 9000)(hw:10000<w)(a b c:List UInt8)(i j k l:Int):ai4 w x.order (az x.cP) (az x.bR) (az x.bZ) (az x.bp) (az x.first) (aj x.bQ) (aj x.dq) (aj a) (aj b) (aj c) i j x.order (az x.cP) (az x.bR) (az x.bZ) (az x.bp) (az x.first) (aj x.bQ) (aj x.dq) (aj a) (aj b) (aj c) k l=some true:=by unfold ai4;rw[ajJ h hw,ahd,ahd,ahd];simp only[bn,ay,aA]
end
section
noncomputable def aje(w:Nat)(x0:Int)(x1 x3 x5 x7:Value):Option (Int×Value×Value×Bool):=
 ob (aiM w 45058 7 x3 x5 x7) λ(x78:Value×Value×Value×Value)=>ob (aiM w 45057 4 x78.snd.fst x78.snd.snd.fst x78.snd.snd.snd) λ(x79:Value×Value×Value×Value)=>ob (sL w x79.fst 0 4 2) λ(x80:Int×Bool)=>bif !x80.snd then some (0,ae 0 [],ae 0 [],false) else bif aq x80.fst 2 then some (0,ae 0 [],ae 0 [],false) else ax x78.fst λ(x81:Nat)=>bif !ak (Int.ofNat x81) (ah IntKind.i64 (Int.mul 16 x80.fst)) then some (0,ae 0 [],ae 0 [],false) else ob (aiM w 45057 4 x79.snd.fst x79.snd.snd.fst x79.snd.snd.snd) λ(x82:Value×Value×Value×Value)=>ax x82.fst λ(x83:Nat)=>bif !ak (Int.ofNat x83) 4 then some (0,ae 0 [],ae 0 [],false) else ob (aiM w 45056 7 x82.snd.fst x82.snd.snd.fst x82.snd.snd.snd) λ(x84:Value×Value×Value×Value)=>eX 1 x84.fst λ(x85:Nat)(x86:List Value)=>ob (iN x86) λ(x87:List Int)=>bif !nS (mkStr x87).data.toList (ByteArray.mk #[48,49,48,48]).data.toList then some (0,ae 0 [],ae 0 [],false) else lp ixZ (ixF w) w x78.fst 0 x0 x1 0 (ae 0 []) x0 (ae 0 []) [] []
variable{o:Int} {w:Nat}
theorem aja(hw:5<=w)(b:List UInt8)(hb:b.length<2^50)(ho:o=1\/o=2)(p s:Nat)(hs:s=2\/s=4)(hp:p+s<=b.length):sL w (aj b) (p:Int) (s:Int) o=some ((cn b p s o:Int),true):=by have:=Bq (l:=b) (p:=p) (s:=s) (order:=o) (by omega) ho (by omega);unfold cn;rw[GG hw b (by omega) _ _ _ (by omega),this];simp
theorem ajG(hw:5<=w)(b:List UInt8)(hb:b.length<2^50)(ho:o=1\/o=2)(p:Nat)(hp:p+16<=b.length):aiU w (aj b) (p:Int) o=some ((LC b p o).attr,(LC b p o).size,(LC b p o).at_,(LC b p o).fV,(LC b p o).fW):=by have n4:∀q:Nat,q+4<=b.length->sL w (aj b) (q:Int) 4 o=some ((cn b q 4 o:Int),true):=λq hq=>aja hw b hb ho q 4 (.inr rfl) hq;have n2:∀q:Nat,q+2<=b.length->sL w (aj b) (q:Int) 2 o=some ((cn b q 2 o:Int),true):=λq hq=>aja hw b hb ho q 2 (.inl rfl) hq;unfold aiU NA wS;simp only[aA,cR];rw[aN (n:=(p:Int)+4) (by omega) (by omega),aN (n:=(p:Int)+4+4) (by omega) (by omega),aN (n:=(p:Int)+4+4+4) (by omega) (by omega),aN (n:=(p:Int)+4+4+4+2) (by omega) (by omega)];rw[show(p:Int)+4+4+4+2=((p+14:Nat):Int) by omega,show(p:Int)+4+4+4=((p+12:Nat):Int) by omega,show(p:Int)+4+4=((p+8:Nat):Int) by omega,show(p:Int)+4=((p+4:Nat):Int) by omega];rw[n4 p (by omega),n4 (p+4) (by omega),n4 (p+8) (by omega),n2 (p+12) (by omega),n2 (p+14) (by omega)];simp only[aA];rfl
theorem ajb(b:List UInt8)(o:Int):∀(n p:Nat),(placesOf b o p n).length=n
 |0,_=>rfl
 |n+1,p=>by show(placesOf b o (p+16) n).length+1=n+1;rw[ajb]
theorem aji(b:List UInt8)(o:Int):∀(n p i:Nat)(h:i<(placesOf b o p n).length),(placesOf b o p n)[i]=LC b (p+16*i) o
 |0,_,i,h=>absurd h (Nat.not_lt_zero _)
 |n+1,p,0,h=>rfl
 |n+1,p,i+1,h=>by
  show(placesOf b o (p+16) n)[i]'(by simpa[placesOf] using h)=_
  rw[aji b o n (p+16) i]
  congr 1
  omega
def aiP:List aO->List aI->List aI
 |[],v=>v
 | .mk tags _ _::r,_=>aiP r tags
theorem ajn(ds:List aO)(hw:ds.length<w)(hl:ds.length<1000)(o x0:Int)(a:Value)(P:List gB)(c:List Value)(v:List aI):
 lp ajg ai1 w (aC dK ds) ds.length 0 x0 a o (az v) c (P.flatMap nc)=some (o,ng P,az (aiP ds v),true):=by
 refine oh (σ:=List aI) (ev:=λi s (k:aiY)=>k (aC dK ds) ds.length i x0 a o (az s) c (P.flatMap nc)) (Inv:=λi s=>aiP (ds.drop i) s=aiP ds v) ds.length v ?_ ?_ ?_ hw
 ·rw[eL]
 ·intro i g s hi hI;rw[dG hi] at hI;have e1:((i:Int)<(ds.length:Int)):=by omega
  obtain⟨⟨tags,subs,blob⟩,hd⟩:∃d,ds[i]=d:=⟨_,rfl⟩;rw[hd] at hI;refine⟨tags,hI,?_⟩;unfold ai1 aiR;simp only[bc,e1,bn,ay,ct];rw[bW nX hi,hd,Eg];simp only[bN,cR];rw[aN (by omega) (by omega)];rfl
 ·intro g s hI;rw[s8,aiP] at hI;subst hI;have e1:¬((ds.length:Int)<(ds.length:Int)):=by omega
  unfold ai1 aiR;simp only[bc,e1,cy,aE];rw[eJ BX,lP _ (by decide)];rfl
theorem ajo{d:List UInt8}{n:Nat}(hd:d.length=16*n)(hn:n<10000)(ho:o=1\/o=2)(D0:aO)(ds:List aO)(hl:ds.length<900)(hw:200000<w)(x0:Int)(a b:Value)(c:List Value)(v:List aI)(y:Int):
 ∃q:Unit,lp ixZ (ixF w) w (aj d) 0 o (dM (D0::ds)) x0 a o (az v) c []=some (o,ng (placesOf d o 0 n),az (aiP ds v),true):=by
 refine⟨(),?_⟩;refine lD (ev:=λi (k:aiX)=>k (aj d) ((16*i:Nat):Int) o (dM (D0::ds)) x0 a o (az v) c (((placesOf d o 0 n).take i).flatMap nc)) n ?_ ?_ (by omega)
 ·intro i g hi;have e1:(((16*i:Nat):Int)<(d.length:Int)):=by omega
  have hiP:i<(placesOf d o 0 n).length:=by rw[ajb];exact hi
  unfold ixF aiN;rw[dU];simp only[bc,cu,e1,bn,ay];rw[ajG (by omega) d (by omega) ho (16*i) (by omega)];simp only[aA];have hr1:aK (((placesOf d o 0 n).take i).flatMap nc).length=true:=by rw[eJ BX,dH];simp;omega
  have hpc:nc (placesOf d o 0 n)[i]=[.int .i64 (LC d (16*i) o).attr,.int .i64 (LC d (16*i) o).size,.int .i64 (LC d (16*i) o).at_,.int .i64 (LC d (16*i) o).fV,.int .i64 (LC d (16*i) o).fW]:=by rw[aji,fg];rfl
  rw[hr1,cR,aN (by omega) (by omega),show((16*i:Nat):Int)+16=((16*(i+1):Nat):Int) by omega,nB hiP,gq,show[(placesOf d o 0 n)[i]].flatMap nc=nc (placesOf d o 0 n)[i] from by simp,hpc];rfl
 ·intro g;have e1:¬(((16*n:Nat):Int)<(d.length:Int)):=by omega
  unfold ixF aiN;rw[dU];simp only[bc,cu,e1,cy,aE];rw[show dM (D0::ds)=aC dK (D0::ds) from rfl,dw];have e2:1<=(D0::ds).length:=by rw[cQ];omega
  simp only[gu,aB,e2,bn,kU,ay];rw[yd nX _ (aB _),List.drop_succ_cons,eL,gh (by rw[cQ];omega),dw,gh (by rw[ajb];omega)];exact ajn ds (by omega) (by omega) o x0 a _ c v
def wk(o:Int)(l:List gB):List aI:=[⟨45056,7,4,[48,49,48,48]⟩,⟨45057,4,1,fj l.length 4⟩,⟨45058,7,((16*l.length:Nat):Int),l.flatMap (fZ o)⟩]
variable{l:List gB}
theorem ajf(hw:200000<w)(ho:o=1\/o=2)(h2:2<=l.length)(hl:16*l.length<=65536)(hp:∀p∈l,ou p=true)(D0:aO)(ds:List aO)(hds:ds.length<900)(y z:Value):
 aje w o (dM (D0::ds)) (az (wk o l)) y z=some (o,ng l,az (aiP ds []),true):=by
 have hlen:(l.flatMap (fZ o)).length=16*l.length:=wC o l;have hd:∀t∈wk o l,t.data.length<=1000000000:=by
  intro t ht;simp only[wk,cj,jh,jj] at ht;rcases ht with rfl|rfl|rfl
  ·simp
  ·simp only[tK];omega
  ·simp only[hlen];omega
 have hr:fD (wk o l)=true:=by simp[wk,fD]
 have hL:(wk o l).length=3:=rfl;have f1:=afU (w:=w) (wk o l) 45058 hr (by rw[hL];omega) (by rw[hL];omega) hd;have f2:=afU (w:=w) (wk o l) 45057 hr (by rw[hL];omega) (by rw[hL];omega) hd;have f3:=afU (w:=w) (wk o l) 45056 hr (by rw[hL];omega) (by rw[hL];omega) hd;rw[show iI (wk o l) 45058=some ⟨45058,7,((16*l.length:Nat):Int),l.flatMap (fZ o)⟩ from rfl] at f1;rw[show iI (wk o l) 45057=some ⟨45057,4,1,fj l.length 4⟩ from rfl] at f2;rw[show iI (wk o l) 45056=some ⟨45056,7,4,[48,49,48,48]⟩ from rfl] at f3;have g1:∀a b:Value,aiM w 45058 7 (az (wk o l)) a b=some (aj (l.flatMap (fZ o)),az (wk o l),a,b):=by intro a b;unfold aiM;rw[f1];rfl
 have g2:∀a b:Value,aiM w 45057 4 (az (wk o l)) a b=some (aj (fj l.length 4),az (wk o l),a,b):=by intro a b;unfold aiM;rw[f2];rfl
 have g3:∀a b:Value,aiM w 45056 7 (az (wk o l)) a b=some (aj [48,49,48,48],az (wk o l),a,b):=by intro a b;unfold aiM;rw[f3];rfl
 have hn:sL w (aj (fj l.length 4)) 0 4 2=some ((l.length:Int),true):=by have:=aja (w:=w) (by omega) (fj l.length 4) (by rw[tK];omega) (.inr rfl) 0 4 (.inr rfl) (by rw[tK];omega);rw[oo (b:=fj l.length 4) (pre:=[]) (post:=[]) (n:=l.length) (p:=0) (s:=4) (order:=2) (by simp[aU]) rfl (.inr (.inr rfl)) (.inr rfl) (by omega)] at this;exact this
 obtain⟨-,h6⟩:=ajo (w:=w) (d:=l.flatMap (fZ o)) (n:=l.length) hlen (by omega) ho D0 ds hds hw 0 (ae 0 []) (ae 0 []) [] [] 0;have hpl:placesOf (l.flatMap (fZ o)) o 0 l.length=l:=Ut ho l [] [] 0 (by simp) rfl hp;rw[hpl] at h6;unfold aje;rw[g1];simp only[aA];rw[g2];simp only[aA];rw[hn];simp only[aA,cL,aE];rw[show aq (l.length:Int) 2=false by rw[bc,fI];omega,aE,dU,pS,aN (by omega) (by omega),show ak (Int.ofNat (l.flatMap (fZ o)).length) (16*(l.length:Int))=true by rw[cD,bV,cu,hlen];omega,cL,aE,g2];simp only[aA];rw[dU,tK,show(!ak (Int.ofNat 4) 4)=false from rfl,aE,g3];simp only[aA];rw[ij,iH,Ix];simp only[aA];rw[KQ,show(!nS [48,49,48,48] (ByteArray.mk #[48,49,48,48]).data.toList)=false from rfl,aE];exact h6
variable{view:List aI}
theorem ajK(hw:200000<w)(ho:o=1\/o=2)(h2:2<=l.length)(hl:16*l.length<=65536)(hp:∀p∈l,ou p=true)(hv:VS view)(hr:dz 5 view=true):
 aiW w o (dM (fX o l view).eK)=some (o,ng l,az view,true):=by
 have hvl:=hv.1;have e0:∀(ds:List aO)(K:List Value->Option (Int×Value×Value×Bool)),aQ 3 0 (dM (km o l::ds)) K=K (dK (km o l)++ds.flatMap dK):=λds K=>bW nX (l:=km o l::ds) (m:=0) (by rw[cQ];omega) K;have e1:dK (km o l)=[az (wk o l),ae 0 [],ae 0 []]:=by unfold km;rw[Ef];rfl
 have e2:∀(ds:List aO)(K:Nat->Option (Int×Value×Value×Bool)),ax (dM (km o l::ds)) K=K (km o l::ds).length:=λds K=>dw dK _ K;have e3:∀(K:Nat->Option (Int×Value×Value×Bool)),ax (az (wk o l)) K=K 3:=λK=>dw cx _ K;unfold fX;by_cases h0:view.length=0
 ·rw[ar h0];have hve:view=[]:=qu.1 h0;have ht:=ajf hw ho h2 hl hp (km o l) [] (by show 0<900;omega) (ae 0 []) (ae 0 []);unfold aiW aiN aiR;rw[e0,e1];simp only[jg,bN];rw[e3,show(!ak (Int.ofNat 3) 3)=false from rfl,aE,e2,show aq 1 (Int.ofNat [km o l].length)=false from rfl,aE,hve];exact ht
 ·rw[ai h0];have ht:=ajf hw ho h2 hl hp (km o l) [.mk view .nil []] (by show 1<900;omega) (ae 0 []) (ae 0 []);have x1:∀(K:List Value->Option (Int×Value×Value×Bool)),aQ 3 1 (dM (km o l::[.mk view .nil []])) K=K (dK (.mk view .nil [])++[]):=λK=>bW nX (l:=km o l::[.mk view .nil []]) (m:=1) (by show 1<2;omega) K;unfold aiW aiN aiR;rw[e0,e1];simp only[jg,bN];rw[e3,show(!ak (Int.ofNat 3) 3)=false from rfl,aE,e2,show aq 1 (Int.ofNat [km o l,.mk view .nil []].length)=true from rfl,ay,x1,Ef];simp only[jg,eL,bN];rw[uG (by omega) 5 view (by omega) (λt ht=>by have:=hv.2 t ht;omega) (by omega),hr];simp only[aA,cL,aE];exact ht
theorem ajI(W:eW w)(hw:800000<w){b:List UInt8}(h:mT o l view=.ok b)(hv:VS view)(hS:(gK (fX o l view)).length<100000000):ai5 w (aj b)=some (o,ng l,az view,0):=by
 have hvl:=hv.1;have ho:(o=1\/o=2)/\2<=l.length/\16*l.length<=65536/\(∀p∈l,ou p=true)/\dz 5 view=true:=by
  unfold mT at h;split at h
  ·cases h
  rename_i h1;split at h
  ·cases h
  rename_i h2;split at h
  ·cases h
  rename_i h3;split at h
  ·cases h
  rename_i h4;refine⟨by omega,by omega,by omega,λp hp=>jf.1 (by simpa using h2) p hp,by simpa using h3⟩
 obtain⟨r,hb,hr,hwk,-,hbl⟩:=aac h (by omega);have hp:ko.isPrefixOf b=true:=by rw[hb,uW];exact aiQ _ _
 have hl4:b.length=r.length+4:=by rw[hb,aR];have:ko.length=4:=rfl;omega
 have h117:=afT (w:=w) (b:=r) (sh:=ju) (by omega) (by omega) Qm (λs hs=>by
  have:s=0\/s=1:=by simp[ju] at hs;omega
  rcases this with rfl|rfl<;>decide) (by decide) (by decide) (agr (by omega)) (o:=o) (ds:=(fX o l view).eK) (S:=gK (fX o l view)) hS hwk
 have h62:ai7 w (aj b) (cw ju)=some (o,dM (fX o l view).eK,aC cd (gK (fX o l view)),0):=by
  have e1:¬((65533:Int)<(b.length:Int)):=by omega
  have e2:¬((b.length:Int)<(4:Int)):=by omega
  have e3:4<=b.length:=by omega
  have h116:ai3 w (aj b)=some true:=by unfold ai3 Vs;have:ae 4 (List.drop 0 [Value.int IntKind.u8 77,Value.int IntKind.u8 80,Value.int IntKind.u8 70,Value.int IntKind.u8 0])=aj ko:=rfl;rw[this,Nb,hp];rfl
  unfold ai7;rw[dU];simp only[bc,cu,e1,cy,aE];rw[dU];simp only[e2,cy,aE];rw[h116];simp only[aA,cL,aE];rw[dU];simp only[gu,aB,e3,bn,kU,ay];rw[pL _ (aB _),gh (by rw[dZ];omega),show b.drop 4=r by rw[hb];rfl,h117];rfl
 unfold ai5;rw[show Ib w=some (cw ju) from rfl];simp only[aA];rw[h62];simp only[aA];rw[show(!ak 0 0)=false from rfl,aE,ajK (by omega) ho.1 ho.2.1 ho.2.2.1 ho.2.2.2.1 hv ho.2.2.2.2];rfl
end
section
noncomputable def Sk(w:Nat)(x0:Int)(x1 x2:Value):Option (Value×Int):=
 ax x1 λ(x48:Nat)=>bif aq (Int.ofNat x48) 2 then some (ae 0 [],1) else ax x1 λ(x49:Nat)=>lp qQ (mX w) w x1 (Int.ofNat x49) 0 x0 x1 x2 []
variable{l:List gB} {o:Int} {view:List aI} {w:Nat}
theorem aag(W:eW w)(ho:o=1\/o=2)(h2:2<=l.length)(hl:l.length<=600)(hv:VS view)(hr:dz 5 view=true):oK w 10000 ju o (fX o l view).eK:=by
 have hvl:=hv.1;have hdirs:∀d∈(fX o l view).eK,d=km o l\/(d=.mk view .nil []/\view.length≠0):=by
  intro d hd;rcases cj.1 hd with rfl|hd
  ·exact .inl rfl
  ·split at hd
   ·cases hd
   ·rename_i h0;exact .inr ⟨kC.1 hd,h0⟩
 have hlen2:(fX o l view).eK.length<=2:=by unfold fX;split<;>simp
 refine O7 W Qm (agr (by have:=W.jP;omega)) (by decide) (λs hs=>?_) ho (by simp[fX]) (by omega) (λd hd=>?_) ?_ ?_ (RS ⟨by omega,by omega⟩ hr (by omega))
 ·have:s=0\/s=1:=by simp[ju] at hs;omega
  rcases this with rfl|rfl<;>decide
 ·rcases hdirs d hd with rfl|⟨rfl,_⟩
  ·refine⟨by show 3<=_;omega,by show 0<=_;omega,by show 0<=_;omega,λt ht=>?_,trivial⟩;simp_all;rcases ht with rfl|rfl|rfl
   ·simp
   ·simp only[tK];omega
   ·simp only[(wC o l)];omega
  ·exact⟨by omega,by show 0<=_;omega,by show 0<=_;omega,λt ht=>by have:=hv.2 t ht;omega,trivial⟩
 ·unfold fX km;split<;>simp[kj,fA,jw]
 ·unfold fX km;split<;>simp[iT,dt,ia]
theorem aas(W:eW w)(ho:o=1\/o=2)(h2:2<=l.length)(hl:l.length<=600)(hv:VS view):
 lp qQ (mX w) w (ng l) l.length 0 o (ng l) (az view) []=some (match mT o l view with| .ok b=>(aj b,0)| .error e=>(ae 0 [],e)):=by
 have hb:=W.jP;have hvl:=hv.1;have hlen:∀i,((l.take i).flatMap (fZ o)).length=16*(l.take i).length:=λi=>wC o _;have h1n:¬(¬(o=1\/o=2)\/l.length<2):=by
  rintro (q|q)
  ·exact q ho
  ·omega
 have hall:∀(k i v:Nat),i+k=l.length->k<v->l.all ou=true->lp qQ (mX w) v (ng l) l.length i o (ng l) (az view) (((l.take i).flatMap (fZ o)).map aX)=some (match mT o l view with| .ok b=>(aj b,0)| .error e=>(ae 0 [],e)):=by
  intro k;induction k with
  |zero=>
   intro i v hi hv2 ha;have e1:¬((i:Int)<(l.length:Int)):=by omega
   have htk:l.take i=l:=gh (by omega);have hpl:(l.flatMap (fZ o)).length=16*l.length:=wC o l;rw[ef qQ (mX w) (by omega),htk];unfold mX wM wL wO;simp only[bc,e1,cy,aE];rw[uG (by omega) 5 view (by omega) (λt ht=>by have:=hv.2 t ht;omega) (by omega)];simp only[aA];unfold mT;rw[ai h1n,ha,ai (by decide:¬(true=false))];cases hr:dz 5 view with
   |false=>rfl
   |true=>
    have T:=aag W ho h2 hl hv hr;have h150:=VM T;rw[show(⟨o,(fX o l view).eK⟩:lR)=fX o l view from rfl] at h150;rw[ai (by decide:¬(true=false)),ai (by omega:¬(65536<16*l.length))];simp only[cL,aE,eD,mE,cu];have e2:¬((65536:Int)<((l.flatMap (fZ o)).length:Int)):=by omega
    simp only[e2,cy,aE];rw[show ng l=aC nc l from rfl,dw];rw[show[Value.int IntKind.i64 (l.length:Int)].length=1 from rfl,af3 (by omega) l.length (by omega)];simp only[aA];rw[show az view=aC cx view from rfl,dw,show Ib w=some (cw ju) from rfl];simp only[aA];have hd0:ae 3 [Value.int IntKind.i64 45056,Value.int IntKind.i64 7,Value.int IntKind.i64 4,ae 4 (List.drop 0 [Value.int IntKind.u8 48,Value.int IntKind.u8 49,Value.int IntKind.u8 48,Value.int IntKind.u8 48]),Value.int IntKind.i64 45057,Value.int IntKind.i64 4,Value.int IntKind.i64 1,aj (fj l.length 4),Value.int IntKind.i64 45058,Value.int IntKind.i64 7,Value.int IntKind.i64 ((l.flatMap (fZ o)).length:Int),ae (l.flatMap (fZ o)).length ((l.flatMap (fZ o)).map aX)]=az (wk o l):=by unfold wk;rw[<-nV,hpl];rfl
    rw[hd0];have hdc:dK (km o l)=[az (wk o l),ae 0 [],ae 0 []]:=by unfold km;rw[Ef];rfl
    have fin:(ob (wP w o (dM (fX o l view).eK) (cw ju)) λ(x45:Value×Int)=>some (x45.fst,x45.snd))=some (match(if 65533<4+gJ (fX o l view) then .error 7 else .ok (ko++fe (fX o l view) ju):Except Int (List UInt8)) with| .ok b=>(aj b,0)| .error e=>(ae 0 [],e)):=by
     rw[h150];by_cases h7:65533<4+gJ (fX o l view)
     ·rw[ar h7,ar h7];rfl
     ·rw[ai h7,ai h7];rfl
    by_cases h0:view.length=0
    ·have e3:¬((0:Int)<((view.length:Nat):Int)):=by omega
     simp only[e3,cy,aE];have hdd:ae 1 [az (wk o l),ae 0 [],ae 0 []]=dM (fX o l view).eK:=by unfold fX;rw[ar h0];show _=ae 1 (dK (km o l)++[]);rw[hdc];rfl
     rw[hdd];exact fin
    ·have e3:((0:Int)<((view.length:Nat):Int)):=by omega
     simp only[e3,bn,ay];have hdd:ae ((List.take 3 (List.drop 0 [az (wk o l),ae 0 [],ae 0 []])++List.take 3 (List.drop 0 [aC cx view,ae 0 [],ae 0 []])).length/3) (List.take 3 (List.drop 0 [az (wk o l),ae 0 [],ae 0 []])++List.take 3 (List.drop 0 [aC cx view,ae 0 [],ae 0 []]))=dM (fX o l view).eK:=by unfold fX;rw[ai h0];show _=ae 2 (dK (km o l)++(dK (.mk view .nil [])++[]));rw[hdc,Ef,show(List.take 3 (List.drop 0 [az (wk o l),ae 0 [],ae 0 []])++List.take 3 (List.drop 0 [aC cx view,ae 0 [],ae 0 []])).length=6 from rfl];rfl
     rw[hdd];exact fin
  |succ k ih=>
   intro i v hi hv2 ha;have hiL:i<l.length:=by omega
   have e1:((i:Int)<(l.length:Int)):=by omega
   have hp:=jf.1 ha _ (dL hiL);have:=ih (i+1) (v -1) (by omega) (by omega) ha;rw[ef qQ (mX w) (by omega),<-this];generalize hg:lp qQ (mX w) (v -1)=g;have tg:∀(y:gB)(r:List Value),nc y++r=.int .i64 y.attr::.int .i64 y.size::.int .i64 y.at_::.int .i64 y.fV::.int .i64 y.fW::r:=λ_ _=>rfl;unfold mX wM wL wO;simp only[bc,e1,bn,ay,ct];rw[show ng l=aC nc l from rfl,bW BX hiL,tg];simp only[bN,cH];rw[Nr (by omega) l[i] ho,ar hp];simp only[aA,cL,aE];rw[ij,iH];have r1:aK (List.map aX ((l.take i).flatMap (fZ o))).length=true:=by rw[eD,hlen,dH];simp;omega
   rw[r1,F6 _ (by rw[FB];omega),kU,ay,cR,aN (by omega) (by omega),nB hiL,gq,jZ,show[l[i]].flatMap (fZ o)=fZ o l[i] by simp];rfl
 cases ha:l.all ou with
 |true=>exact hall l.length 0 w (by omega) (by omega) ha
 |false=>
  have hbad:∀(k i v:Nat),i+k=l.length->k<v->(l.drop i).all ou=false->lp qQ (mX w) v (ng l) l.length i o (ng l) (az view) (((l.take i).flatMap (fZ o)).map aX)=some (ae 0 [],1):=by
   intro k;induction k with
   |zero=>intro i v hi hv2 h;rw[show l.drop i=[] from List.drop_of_length_le (by omega)] at h;cases h
   |succ k ih=>
    intro i v hi hv2 h;have hiL:i<l.length:=by omega
    have e1:((i:Int)<(l.length:Int)):=by omega
    rw[dG hiL,List.all_cons] at h;have tg:∀(y:gB)(r:List Value),nc y++r=.int .i64 y.attr::.int .i64 y.size::.int .i64 y.at_::.int .i64 y.fV::.int .i64 y.fW::r:=λ_ _=>rfl;rw[ef qQ (mX w) (by omega)];cases hp:ou l[i] with
    |false=>unfold mX wM wL wO;simp only[bc,e1,bn,ay,ct];rw[show ng l=aC nc l from rfl,bW BX hiL,tg];simp only[bN,cH];rw[Nr (by omega) l[i] ho,hp];rfl
    |true=>
     rw[hp,fP] at h;have:=ih (i+1) (v -1) (by omega) (by omega) h;rw[<-this];generalize hg:lp qQ (mX w) (v -1)=g;unfold mX wM wL wO;simp only[bc,e1,bn,ay,ct];rw[show ng l=aC nc l from rfl,bW BX hiL,tg];simp only[bN,cH];rw[Nr (by omega) l[i] ho,ar hp];simp only[aA,cL,aE];rw[ij,iH];have r1:aK (List.map aX ((l.take i).flatMap (fZ o))).length=true:=by rw[eD,hlen,dH];simp;omega
     rw[r1,F6 _ (by rw[FB];omega),kU,ay,cR,aN (by omega) (by omega),nB hiL,gq,jZ,show[l[i]].flatMap (fZ o)=fZ o l[i] by simp];rfl
  have:=hbad l.length 0 w (by omega) (by omega) (by rw[eL];exact ha);unfold mT;rw[ai h1n,ha,ar rfl];exact this
theorem ahu(W:eW w)(o:Int)(hl:l.length<=600)(hv:VS view):Ij w o (ng l) (az view)=some (match mT o l view with| .ok b=>(aj b,0)| .error e=>(ae 0 [],e)):=by
 by_cases ho:o=1\/o=2
 case neg=>unfold Ij mT wM wL wO;rw[ar (.inl ho),(show ak o 1=false from by rw[cD,fI];exactλq=>ho (.inl q)),(show ak o 2=false from by rw[cD,fI];exactλq=>ho (.inr q))];rfl
 have hrest:Sk w o (ng l) (az view)=some (match mT o l view with| .ok b=>(aj b,0)| .error e=>(ae 0 [],e)):=by
  unfold Sk;rw[(show∀K:Nat->Option (Value×Int),ax (ng l) K=K l.length fromλK=>dw nc l K)];by_cases h2:l.length<2
  ·have e1:aq (Int.ofNat l.length) 2=true:=by rw[bc,bV,cu];omega
   unfold mT;rw[ar (.inr h2),e1];rfl
  ·have e1:aq (Int.ofNat l.length) 2=false:=by rw[bc,fI,cu];omega
   rw[e1];exact aas W ho (by omega) hl hv
 rcases ho with rfl|rfl<;>exact hrest
end
section
def kQ(ms:List bT):List gB:=ms.map λp=>⟨p.attr,0,0,p.fV,p.fW⟩
def kR(ms:List bT)(i:Nat):Except Int (List UInt8):=
 match ms[i]? with
 |none=>.ok []
 |some p=>if i=0 then(if 1<ms.length then mT p.aS.order (kQ ms) p.view else .ok []) else if p.view.length=0 then .ok [] else Am p.aS.order p.view
variable{ms:List bT} {w:Nat}
theorem afx(W:eW w)(hl:ms.length<=600)(o:Int){view:List aI}(hv:VS view):
 lp Vp (Gi w) w (cO ms) ms.length 0 o (az view) []=some (match mT o (kQ ms) view with| .ok b=>(aj b,0)| .error e=>(ae 0 [],e)):=by
 have hb:=W.jP;refine lD (ev:=λi (k:DF)=>k (cO ms) ms.length i o (az view) ((kQ (ms.take i)).flatMap nc)) ms.length ?_ ?_ (by omega)
 ·intro i g hi;have e1:((i:Int)<(ms.length:Int)):=by omega
  have r1:aK ((kQ (ms.take i)).flatMap nc).length=true:=by rw[eJ BX];unfold kQ;simp;omega
  unfold Gi Gu;simp only[bc,e1,ct];rw[show cO ms=aC dP ms from rfl,bW kN hi,r1,cR,aN (by omega) (by omega)];have hp:(kQ (ms.take (i+1))).flatMap nc=(kQ (ms.take i)).flatMap nc++[Value.int IntKind.i64 ms[i].attr,Value.int IntKind.i64 0,Value.int IntKind.i64 0,Value.int IntKind.i64 ms[i].fV,Value.int IntKind.i64 ms[i].fW]:=by unfold kQ;rw[nB hi,jZ,gq];rfl
  rw[hp];rfl
 ·intro g;unfold Gi Gu;simp only[bc,(show¬((ms.length:Int)<(ms.length:Int)) from by omega)];rw[rG,eJ BX,lP _ (by decide)];have:=ahu W o (l:=kQ ms) (by unfold kQ;rw[eD];exact hl) hv;rw[show ae (kQ ms).length ((kQ ms).flatMap nc)=ng (kQ ms) from rfl,this];rfl
variable{i:Nat}
theorem We(W:eW w)(h:∀p∈ms,er p)(hl:ms.length<=600)(hi:i<ms.length):HZ w (cO ms) (i:Int)=some (match kR ms i with| .ok b=>(aj b,0)| .error e=>(ae 0 [],e)):=by
 have hm:=h _ (dL hi);have hlr:∀K:Nat->Option (Value×Int),ax (cO ms) K=K ms.length:=λK=>dw dP ms K;have hlv:∀K:Nat->Option (Value×Int),ax (az ms[i].view) K=K ms[i].view.length:=λK=>dw cx _ K;unfold HZ kR MV;rw[dD hi,ct,show cO ms=aC dP ms from rfl,bW kN hi,na];simp only[bN,cH];rw[show aC dP ms=cO ms from rfl];by_cases h0:i=0
 ·rw[ar h0,show ak (i:Int) 0=true by rw[cD,bV];omega,hlr];by_cases h1:1<ms.length
  ·rw[ar h1,show aq 1 (Int.ofNat ms.length)=true by rw[bc,bV,cu];omega,hlr];exact afx W hl _ hm.vs
  ·rw[ai h1,show aq 1 (Int.ofNat ms.length)=false by rw[bc,fI,cu];omega];rfl
 ·rw[ai h0,show ak (i:Int) 0=false by rw[cD,fI];omega,hlv];by_cases h1:ms[i].view.length=0
  ·rw[h1];rfl
  ·rw[ai h1,show ak (Int.ofNat ms[i].view.length) 0=false by rw[cD,fI,cu];omega,ahv W _ hm.vs];rfl
variable{b:List UInt8}
theorem MF(h:kR ms i=.ok b)(hm:∀p∈ms,er p)(_:ms.length<=600):b.length=0\/(ko.isPrefixOf b=true/\b.length<=65533):=by
 unfold kR at h;split at h
 ·injection h with h;subst h;exact .inl rfl
 rename_i p hp;have hmp:=hm p (qv hp);split at h
 ·split at h
  ·right;obtain⟨r,hb,-,-,-,hbl⟩:=aac h (by have:=hmp.tv.1;omega);exact⟨by rw[hb,uW];exact aiQ _ _,hbl⟩
  ·injection h with h;subst h;exact .inl rfl
 ·split at h
  ·injection h with h;subst h;exact .inl rfl
  ·right;rename_i h0;unfold Am at h;split at h
   ·cases h
   split at h
   ·cases h
   rename_i hr;split at h
   ·cases h
   injection h with h;have hlen:=Ah (Xu (o:=p.aS.order) (by simpa using hr) h0 (by have:=hmp.tv.1;omega));rw[<-h];refine⟨by rw[uW];exact aiQ _ _,?_⟩;rw[aR];have:ko.length=4:=rfl;omega
def nZ(p:bT)(dN:List UInt8):qy:=⟨p.aS,p.cV,p.core,dN,0,0⟩
variable{bC:List UInt8}
theorem RP(hi:i<ms.length)(h:kR ms i=.ok b)(hm:∀p∈ms,er p)(hl:ms.length<=600)(ha:iy ms[i].aS=.ok bC)(hc:nW ms[i].core=true):Dn (nZ ms[i] b) bC:=by have hmp:=hm _ (dL hi);refine⟨ha,?_,by have:=hmp.ic;show ms[i].cV.length<=_;omega,hc,MF h hm hl⟩;have:=hmp.Bn.rows;show qX ms[i].aS 65000;unfold qX at this⊢;omega
def PZ(bC b:List UInt8):Int:=if b.length=0 then 0 else((bC.length+10:Nat):Int)
theorem Wb(W:eW w)(hw:1000000<w)(hi:i<ms.length)(h:kR ms i=.ok b)(hm:∀p∈ms,er p)(hl:ms.length<=600)(ha:iy ms[i].aS=.ok bC)(hc:nW ms[i].core=true):
 wX w (cO ms) (i:Int)=some (ms[i].aS.order,az ms[i].aS.cP,az ms[i].aS.bR,az ms[i].aS.bZ,az ms[i].aS.bp,az ms[i].aS.first,aj ms[i].aS.bQ,aj ms[i].aS.dq,aj ms[i].cV,aj ms[i].core,aj b,PZ bC b,((jB (nZ ms[i] b) bC).length:Int),true):=by
 have hmp:=hm _ (dL hi);have hok:=RP hi h hm hl ha hc;have hic:=hmp.ic;have hco:=hmp.co;have hbl:b.length<=65533:=by rcases MF h hm hl with q|q;omega;exact q.2
 unfold wX;rw[We W hm hl hi,h];simp only[aA];rw[ct,show cO ms=aC dP ms from rfl,bW kN hi,na];simp;rw[(show CB w ms[i].aS.order (az ms[i].aS.cP) (az ms[i].aS.bR) (az ms[i].aS.bZ) (az ms[i].aS.bp) (az ms[i].aS.first) (aj ms[i].aS.bQ) (aj ms[i].aS.dq) (aj ms[i].cV) (aj ms[i].core) (aj b) 0 0=some (aj (jB (nZ ms[i] b) bC),0) from(agx W hok hmp.Bn (by omega) ⟨by show ms[i].core.length<=_;omega,by show ms[i].cV.length<=_;omega,hbl⟩ (by omega) 0 0))];simp;rw[(agC W hok hmp.Bn (by omega) ⟨by show ms[i].core.length<=_;omega,by show ms[i].cV.length<=_;omega,hbl⟩ (by omega))];rfl
variable{e:Int}
theorem ag5(W:eW w)(hi:i<ms.length)(h:kR ms i=.error e)(he:e≠0)(hm:∀p∈ms,er p)(hl:ms.length<=600):
 wX w (cO ms) (i:Int)=some (0,ae 0 [],ae 0 [],ae 0 [],ae 0 [],ae 0 [],ae 0 [],ae 0 [],ae 0 [],ae 0 [],ae 0 [],0,0,false):=by
 unfold wX;rw[We W hm hl hi];simp_all
theorem afy(h:kR ms i=.error e):e≠0:=by
 unfold kR at h;split at h
 ·cases h
 split at h
 ·split at h
  ·unfold mT at h
   repeat' split at h
   all_goals(cases h<;>decide)
  ·cases h
 ·split at h
  ·cases h
  ·unfold Am at h
   repeat' split at h
   all_goals(cases h<;>decide)
def cS(l:List Int):List Value:=l.map λn:Int=>.int .i64 n
theorem VR(n:Int)(st:List Int)(s:Int)(hn:1<=n/\n<=10000000)(hs:0<=s/\s<=4000000000)(hl:st.length<10000):zA w n (cS (st++[s]))=some (false,cS (st++[s]++[s+n])):=by
 have hdrop:List.drop (0+st.length*1) (cS (st++[s]))=[Value.int .i64 s]:=by unfold cS;rw[jZ,List.drop_left' (by simp)];rfl
 unfold zA;rw[(show(cS (st++[s])).length=st.length+1 from by unfold cS;simp),mE,iV,cu,aN (by omega) (by omega),show((st.length+1:Nat):Int) -1=(st.length:Int) by omega,ct,hdrop];simp;rw[VU,ar ⟨by unfold lH;rw[bV];omega,by unfold lH;rw[bV];omega,by unfold lH;rw[bV];omega⟩];have r1:aK (st.length+1)=true:=by simp;omega
 have hap:cS (st++[s])++[Value.int IntKind.i64 (s+n)]=cS (st++[s]++[s+n]):=by unfold cS;simp
 simp_all
theorem ahT(L:List Int)(hL:∀n∈L,1<=n/\n<=3000000)(hl:L.length<=1000)(hw:2000<w):∃st:List Value,lp rn (fa w) w L.length 0 (cS L) (cS [0])=some (-1,cS L,st):=by
 have key:∀(k i v:Nat)(st:List Int)(s:Int),i+k=L.length->k<v->st.length=i->0<=s/\s<=3000000*i->∃st':List Value,lp rn (fa w) v L.length i (cS L) (cS (st++[s]))=some (-1,cS L,st'):=by
  intro k;induction k with
  |zero=>
   intro i v st s hi hv _ _;have e1:¬((i:Int)<(L.length:Int)):=by omega
   rw[ef rn (fa w) (by omega)];unfold fa;simp only[bc,e1,cy,aE];exact⟨_,rfl⟩
  |succ k ih=>
   intro i v st s hi hv hst hs;have hiL:i<L.length:=by omega
   have e1:((i:Int)<(L.length:Int)):=by omega
   have hn:=hL _ (dL hiL);obtain⟨st',hst'⟩:=ih (i+1) (v -1) (st++[s]) (s+L[i]) (by omega) (by omega) (by rw[aR,hst];rfl) (by omega);refine⟨st',?_⟩;rw[ef rn (fa w) (by omega),<-hst'];have hlen:(cS L).length=L.length:=by unfold cS;rw[eD]
   have hdrop:List.drop (0+i*1) (cS L)=.int .i64 L[i]::cS (L.drop (i+1)):=by unfold cS;rw[fg,gM,<-List.map_drop,dG hiL,List.map_cons]
   have e2:i*1<L.length:=by omega
   unfold fa;simp only[bc,e1,bn,ay,ct];rw[hlen];simp only[lU,e2,bn,gY];rw[hdrop];simp only[bN,cH];rw[VR _ st s ⟨hn.1,by omega⟩ ⟨hs.1,by omega⟩ (by omega)];simp only[aA,aE,cR];rw[aN (by omega) (by omega)];rfl
 exact key L.length 0 w [] 0 (by omega) (by omega) rfl ⟨by omega,by omega⟩
theorem af0(L:List Int)(hL:∀n∈L,1<=n/\n<=3000000)(hl:L.length<=1000)(hw:2000<w):∃st:List Value,uH w (cS L)=some (true,cS L,st):=by
 obtain⟨st,h⟩:=ahT L hL hl hw;refine⟨st,?_⟩;have h2:zJ w (cS L) [Value.int .i64 0]=some (-1,cS L,st):=by unfold zJ;rw[(show(cS L).length=L.length from by unfold cS;rw[eD]),mE];exact h
 unfold uH G2;simp_all
end
section
def JN(ms:List bT)(i:Nat):Bool:=match kR ms i with| .ok _=>false| .error _=>true
def qY(ms:List bT):Nat->Nat->Int
 |0,_=>-1
 |k+1,i=>if JN ms i=true then(i:Int) else qY ms k (i+1)
theorem Z7(x:qy)(bC:List UInt8):1<=(jB x bC).length:=by unfold jB mc;rw[pf,aR];have:(dF ⟨216,[],[]⟩).length=2:=rfl;omega
variable{i:Nat} {ms:List bT}
theorem PU(h:∀p∈ms,jt p=false)(hi:i<ms.length):∃bC,iy ms[i].aS=.ok bC:=by
 have:=h _ (dL hi);unfold jt at this;cases he:iy ms[i].aS with
 |ok b=>simp
 |error e=>grind
theorem aaa(hi:i<ms.length){b bC:List UInt8}(h:kR ms i=.ok b)(hm:∀p∈ms,er p)(hl:ms.length<=600)(ha:iy ms[i].aS=.ok bC)(hc:nW ms[i].core=true):(jB (nZ ms[i] b) bC).length<=3000000:=by
 have hmp:=hm _ (dL hi);have hok:=RP hi h hm hl ha hc;obtain⟨r,c1,c2,c3,c4,c5,c6⟩:=D9 hok.core;have h1:=RL (bC:=bC) c2 c4;obtain⟨-,-,hl2,-⟩:=AQ hok.app hok.rows;have hbl:b.length<=65533:=by rcases MF h hm hl with q|q;omega;exact q.2
 have hic:=hmp.ic;have hco:=hmp.co;have e1:(nZ ms[i] b).dN.length=b.length:=rfl;have e2:(nZ ms[i] b).cV.length=ms[i].cV.length:=rfl;have e3:(nZ ms[i] b).core.length=ms[i].core.length:=rfl;omega
variable{w:Nat}
theorem ahU(L:List Int)(hL:∀n∈L,1<=n/\n<=3000000)(hl:L.length<=1000)(hw:2000<w):∃r:Int×List Value×List Value,lp rn (fa w) w (L++[0]).length 0 (cS (L++[0])) (cS [0])=some r:=by
 have hll:(L++[0]:List Int).length=L.length+1:=by simp
 have key:∀(k i v:Nat)(st:List Int)(s:Int),i+k=L.length->k+1<v->st.length=i->0<=s/\s<=3000000*i->∃r:Int×List Value×List Value,lp rn (fa w) v (L++[0]).length i (cS (L++[0])) (cS (st++[s]))=some r:=by
  intro k;induction k with
  |zero=>
   intro i v st s hi hv hst hs;have hiL:i<(L++[0]:List Int).length:=by omega
   have e1:((i:Int)<((L++[0]:List Int).length:Int)):=by omega
   have hget:(L++[0]:List Int)[i]=0:=by rw[List.getElem_append_right (by omega)];simp
   have hlen:(cS (L++[0])).length=(L++[0]).length:=by unfold cS;rw[eD]
   have hdrop:List.drop (0+i*1) (cS (L++[0]))=.int .i64 0::cS ((L++[0]).drop (i+1)):=by unfold cS;rw[fg,gM,<-List.map_drop,dG hiL,List.map_cons,hget]
   have e2:i*1<(L++[0]:List Int).length:=by omega
   rw[ef rn (fa w) (by omega)];unfold fa;simp only[bc,e1,bn,ay,ct];rw[hlen];simp only[lU,e2,bn,gY,show Nat.beq 1 1=true from rfl,ay];rw[hdrop];simp only[bN,cH];have h190:∃x,zA w 0 (cS (st++[s]))=some (true,x):=by
    have hlen2:(cS (st++[s])).length=st.length+1:=by unfold cS;simp
    have hdrop2:List.drop (0+st.length*1) (cS (st++[s]))=[Value.int .i64 s]:=by unfold cS;rw[jZ,fg,gM,List.drop_left' (by simp)];rfl
    unfold zA;rw[hlen2,mE,iV,cu,aN (by omega) (by omega),show((st.length+1:Nat):Int) -1=(st.length:Int) by omega,ct];have e1:st.length*1<st.length+1:=by omega
    simp only[lU,e1,bn,gY,show Nat.beq 1 1=true from rfl,ay];rw[hdrop2];simp only[bN,cH];rw[VU,ar ⟨by unfold lH;rw[bV];omega,by unfold lH;rw[bV];omega,by unfold lH;rw[bV];omega⟩];simp only[aA];have r1:aK (st.length+1)=true:=by simp;omega
    rw[r1];simp only[show aq 0 1=true from rfl,xq,mE,gM,kV,show aK 1=true from rfl,kU,ay,cL,aE];exact⟨_,rfl⟩
   obtain⟨x,h190⟩:=h190;rw[h190];exact⟨_,rfl⟩
  |succ k ih=>
   intro i v st s hi hv hst hs;have hiL0:i<L.length:=by omega
   have hiL:i<(L++[0]:List Int).length:=by omega
   have e1:((i:Int)<((L++[0]:List Int).length:Int)):=by omega
   have hget:(L++[0]:List Int)[i]=L[i]:=List.getElem_append_left hiL0;have hn:=hL _ (dL hiL0);obtain⟨r,hr⟩:=ih (i+1) (v -1) (st++[s]) (s+L[i]) (by omega) (by omega) (by rw[aR,hst];rfl) (by omega);refine⟨r,?_⟩;rw[ef rn (fa w) (by omega),<-hr];generalize hg:lp rn (fa w) (v -1)=g;have hlen:(cS (L++[0])).length=(L++[0]).length:=by unfold cS;rw[eD]
   have hdrop:List.drop (0+i*1) (cS (L++[0]))=.int .i64 L[i]::cS ((L++[0]).drop (i+1)):=by unfold cS;rw[fg,gM,<-List.map_drop,dG hiL,List.map_cons,hget]
   have e2:i*1<(L++[0]:List Int).length:=by omega
   unfold fa;simp only[bc,e1,bn,ay,ct];rw[hlen];simp only[lU,e2,bn,gY,show Nat.beq 1 1=true from rfl,ay];rw[hdrop];simp only[bN,cH];rw[VR _ st s ⟨hn.1,by omega⟩ ⟨hs.1,by omega⟩ (by omega)];simp only[aA,aE,cR];rw[aN (by omega) (by omega)];rfl
 exact key L.length 0 w [] 0 (by omega) (by omega) rfl ⟨by omega,by omega⟩
theorem af1(L:List Int)(hL:∀n∈L,1<=n/\n<=3000000)(hl:L.length<=1000)(hw:2000<w):∃r:Bool×List Value×List Value,uH w (cS (L++[0]))=some r:=by
 obtain⟨r,h⟩:=ahU L hL hl hw;have h2:zJ w (cS (L++[0])) [Value.int .i64 0]=some r:=by unfold zJ;rw[(show(cS (L++[0])).length=(L++[0]).length from by unfold cS;rw[eD]),mE];exact h
 unfold uH G2;simp_all;cases(!aq r.fst 0)<;>grind
theorem aaS(W:eW w)(hw:1000000<w)(hm:∀p∈ms,er p)(hl:ms.length<=600)(ha:∀p∈ms,jt p=false)(hc:∀p∈ms,nT p=false):
 ∃c:Value×List Value,G1 w (cO ms) (cO ms) []=some (qY ms ms.length 0,c):=by
 have key:∀(k i v:Nat)(L:List Int),i+k=ms.length->k<v->L.length=i->(∀n∈L,1<=n/\n<=3000000)->∃c:Value×List Value,lp BC (ud w) v (cO ms) ms.length i (cO ms) (cS L)=some (qY ms k i,c):=by
  intro k;induction k with
  |zero=>
   intro i v L hi hv hL _;have e1:¬((i:Int)<(ms.length:Int)):=by omega
   rw[ef BC (ud w) (by omega)];unfold ud;simp only[bc,e1,cy,aE];exact⟨_,rfl⟩
  |succ k ih=>
   intro i v L hi hv hL hL2;have hiL:i<ms.length:=by omega
   have e1:((i:Int)<(ms.length:Int)):=by omega
   have hlen:(cS L).length=i:=by unfold cS;rw[eD,hL]
   have r1:aK i=true:=by simp;omega
   have rr:∀n:Int,(aK (cS L).length&&(aK ([Value.int IntKind.i64 n].length/1)&&[Value.int IntKind.i64 n].length.beq ([Value.int IntKind.i64 n].length/1*1)))=true:=by intro n;rw[hlen,r1];simp
   rw[ef BC (ud w) (by omega)];unfold qY JN;cases hs:kR ms i with
   |error e=>
    have h34:=ag5 W hiL hs (afy hs) hm hl;rw[ar rfl];have h131:∃r:Bool×List Value×List Value,uH w (cS L++[Value.int IntKind.i64 0])=some r:=by obtain⟨st,hst⟩:∃r,uH w (cS (L++[0]))=some r:=af1 L hL2 (by omega) (by omega);refine⟨st,?_⟩;rw[<-hst];unfold cS;rw[jZ];rfl
    obtain⟨r,h131⟩:=h131;unfold ud;simp only[bc,e1,bn,ay,ct];rw[show cO ms=aC dP ms from rfl,bW kN hiL,na];simp only[bN,cH];unfold GN;rw[show aC dP ms=cO ms from rfl,hlen,mE,cu,h34];simp only[aA];rw[<-hlen,rr 0,ay,h131];exact⟨_,rfl⟩
   |ok b=>
    obtain⟨bC,hcam⟩:=PU ha hiL;have hcore:nW ms[i].core=true:=by have:=hc _ (dL hiL);unfold nT at this;simpa using this
    have h34:=Wb W hw hiL hs hm hl hcam hcore;have hsm:=aaa hiL hs hm hl hcam hcore;have hps:=Z7 (nZ ms[i] b) bC;have hL3:∀n∈L++[((jB (nZ ms[i] b) bC).length:Int)],1<=n/\n<=3000000:=by intro n hn;rcases eM.1 hn with hn|hn<;>grind
    obtain⟨st,h131⟩:=af0 (w:=w) _ hL3 (by rw[aR,xq];omega) (by omega);have hap:cS L++[Value.int IntKind.i64 ((jB (nZ ms[i] b) bC).length:Int)]=cS (L++[((jB (nZ ms[i] b) bC).length:Int)]):=by unfold cS;simp
    obtain⟨c,hih⟩:=ih (i+1) (v -1) _ (by omega) (by omega) (by rw[aR,xq];omega) hL3;rw[ai (λq=>by cases q)];refine⟨c,?_⟩;rw[<-hih];generalize hg:lp BC (ud w) (v -1)=g;unfold ud;simp only[bc,e1,bn,ay,ct];rw[show cO ms=aC dP ms from rfl,bW kN hiL,na];simp only[bN,cH];unfold GN;rw[show aC dP ms=cO ms from rfl,hlen,mE,cu,h34];simp only[aA];have rr2:=rr ((jB (nZ ms[i] b) bC).length:Int);rw[hlen] at rr2;rw[rr2,ay,hap,h131];simp only[aA,cL,aE,cR];rw[aN (by omega) (by omega)];rfl
 obtain⟨c,h⟩:=key ms.length 0 w [] (by omega) (by omega) rfl (λn hn=>by cases hn);refine⟨c,?_⟩;unfold G1;exact h
end
section
def qF(ms:List bT):Bool:=match ms with
 |[p]=>!decide (p.attr=0/\p.fV=0/\p.fW=0/\p.view.length=0)
 |_=>false
def gw(ms:List bT):Int×Int:=
 if ms.length<1\/1000<ms.length then(1,0)
 else if 0<=db jt ms then(2,db jt ms)
 else if 0<=db nT ms then(4,db nT ms)
 else if 0<=db pE ms then(5,db pE ms)
 else if 0<=db pF ms then(6,db pF ms)
 else if qF ms=true then(7,0)
 else if 0<=qY ms ms.length 0 then(8,qY ms ms.length 0)
 else(0,0)
variable{α:Type} {l:List α} {p:α->Bool}
theorem wi(h:¬0<=db p l):∀x∈l,p x=false:=by
 have h1:db p l<0:=by omega
 rw[yF] at h1
 grind
theorem Z5(l:List α):db (λ_=>false) l=-1:=by
 unfold db
 grind
theorem Kk(h:0<=db p l):∃i:Nat,∃hi:i<l.length,db p l=(i:Int)/\p l[i]=true:=by
 unfold db at h⊢;cases hf:l.findIdx? p with
 |none=>grind
 |some i=>
  rw[List.findIdx?_eq_some_iff_getElem] at hf
  grind
variable{ms:List bT}
theorem ahp(w:Nat)(_:ms.length<=2000):Ic w (cO ms)=some (if ms.length<1\/1000<ms.length then 0 else-1):=by
 have hlr:∀K:Nat->Option Int,ax (cO ms) K=K ms.length:=λK=>dw dP ms K;unfold Ic;rw[hlr,hlr,GH,GH];simp only[aA,bc]
 grind
theorem ahq(w:Nat)(hl:ms.length<=2000)(h1:1<=ms.length):Ig w (cO ms)=some (if qF ms=true then 0 else-1):=by
 have hlr:∀K:Nat->Option Int,ax (cO ms) K=K ms.length:=λK=>dw dP ms K;cases ms with
 |nil=>simp at h1
 |cons p r=>
  unfold Ig;rw[(show∀K:List Value->Option Int,aQ 14 0 (cO (p::r)) K=K (dP p++r.flatMap dP) fromλK=>bW kN (by rw[cQ];omega) K),na];simp;rw[hlr];cases r with
  |nil=>
   rw[(show∀K:Nat->Option Int,ax (az p.view) K=K p.view.length fromλK=>dw cx _ K),GH,GH];unfold qF;by_cases a1:p.attr=0
   case neg=>simp[a1]
   by_cases a2:p.fV=0
   case neg=>simp_all
   by_cases a3:p.fW=0
   case neg=>simp_all
   by_cases a4:p.view.length=0
   ·simp_all
   ·have:(0:Int)<(p.view.length:Int):=by omega
    simp_all
  |cons q r=>rfl
variable{w:Nat}
theorem CV(W:eW w)(hw:1000000<w)(hm:∀p∈ms,er p)(hl:ms.length<=600\/1000<ms.length)(hl2:ms.length<=2000):nu w (cO ms)=some (gw ms):=by
 unfold nu gw Gn Gt;rw[show N8 w=some () from rfl];rw[ahp w hl2];simp only[aA];by_cases h1:ms.length<1\/1000<ms.length
 ·rw[ar h1,ar h1];rfl
 rw[ai h1,ai h1,show(!aq (-1) 0)=false from rfl];have hlt:ms.length<=600:=by omega
 unfold Ox Ni;rw[age W hm hl2];simp only[aA,bc];by_cases h2:0<=db jt ms
 ·rw[ar h2,fR (by omega)];rfl
 rw[ai h2,fS (by omega:db jt ms<0)];unfold Oy Nj;rw[agf W hm hl2];simp only[aA];rw[show db AY ms=-1 from Z5 ms];simp only[show decide ((-1:Int)<0)=true from rfl,aE];unfold Oz Nk;rw[agh W hm hl2];simp only[aA];by_cases h4:0<=db nT ms
 ·rw[ar h4,fR (by omega)];rfl
 rw[ai h4,fS (by omega:db nT ms<0)];unfold OA Nl;rw[agi W hm hl2];simp only[aA];by_cases h5:0<=db pE ms
 ·rw[ar h5,fR (by omega)];rfl
 rw[ai h5,fS (by omega:db pE ms<0)];unfold OB Nn;rw[agj W hm hl2];simp only[aA];by_cases h6:0<=db pF ms
 ·rw[ar h6,fR (by omega)];rfl
 rw[ai h6,fS (by omega:db pF ms<0)];rw[ahq w hl2 (by omega)];simp only[aA];by_cases h7:qF ms=true
 ·rw[ar h7,ar h7];rfl
 rw[ai h7,ai h7];simp only[show decide ((-1:Int)<0)=true from rfl];unfold OC Nh;obtain⟨c,h188⟩:=aaS W hw hm hlt (wi h2) (wi h4);rw[h188];simp only[aA];by_cases h8:0<=qY ms ms.length 0
 ·rw[ar h8,fR (by omega)];rfl
 rw[ai h8,fS (by omega:qY ms ms.length 0<0)];rfl
def pI(ms:List bT):Int:=
 if(gw ms).1 =0 then 0
 else if(gw ms).1 =1 then(if ms.length=0 then 1 else 7)
 else if(gw ms).1 =2 then(match ms[(gw ms).2.toNat]? with|some p=>(match iy p.aS with| .ok _=>0| .error e=>e)|none=>0)
 else if(gw ms).1 =4 then 2
 else if(gw ms).1 =5 then 1
 else if(gw ms).1 =7 then 1
 else if(gw ms).1 =6 then 6
 else 7
theorem No(W:eW w)(hw:1000000<w)(hm:∀p∈ms,er p)(hl:ms.length<=600\/1000<ms.length)(hl2:ms.length<=2000):sK w (cO ms)=some (pI ms):=by
 have hlr:∀K:Nat->Option Int,ax (cO ms) K=K ms.length:=λK=>dw dP ms K;unfold sK pI;rw[CV W hw hm hl hl2];simp only[aA,cD,qI];by_cases h0:(gw ms).1 =0
 ·rw[ar h0,ar h0]
 rw[ai h0,ai h0];by_cases h1:(gw ms).1 =1
 ·rw[ar h1,ar h1,hlr];by_cases hz:ms.length=0<;>grind
 rw[ai h1,ai h1];by_cases h2:(gw ms).1 =2
 ·rw[ar h2,ar h2];have hidx:0<=db jt ms/\(gw ms).2 =db jt ms:=by
   unfold gw at h2⊢;split at h2
   ·exact absurd h2 (by decide)
   rename_i a;rw[ai a];split at h2
   ·rename_i b;rw[ar b];exact⟨b,rfl⟩
   ·exfalso
    repeat' split at h2
    all_goals(simp only at h2;exact absurd h2 (show¬((_:Int)=2) by decide))
  obtain⟨i,hi,he,hb⟩:=Kk hidx.1;rw[hidx.2,he,ct,show cO ms=aC dP ms from rfl,bW kN hi,mB,dD hi];have d0:∀r:List Value,List.drop 0 (dP ms[i]++r)=dP ms[i]++r:=λ_=>rfl;rw[d0,na];simp;rw[Of W (hm _ (dL hi)).Bn];cases iy ms[i].aS<;>rfl
 rw[ai h2,ai h2]
 repeat' split
 all_goals rfl
end
section
variable{o:Int} {view:List aI}
theorem aiu(hv:TS view)(hr:dz 5 view=true):gJ (kT o view)<=40000:=by
 obtain⟨h1,h2⟩:=hv;have hV:=Bg view (aD 8+(6+12*bF (.mk view .nil []))) λt ht=>⟨(EW (((zg hr).2) t ht)).2.2.2,h2 t ht⟩;have hN:bF (.mk view .nil [])=view.length:=by show view.length+0+0=_;simp
 have hE:gJ (kT o view)=ck (aD 8+(6+12*bF (.mk view .nil []))) view:=by show ee 8 [.mk view .nil []]=_;simp[ee,bq,eu]
 have e8:aD 8=8:=rfl;omega
theorem aae{l:List gB}(h2:2<=l.length)(hl:l.length<=6)(hv:TS view)(hr:dz 5 view=true):gJ (fX o l view)<=40000:=by
 obtain⟨h1,h2'⟩:=hv;have hm:=(zg hr).2;have hlen:=wC o l;have m3:dW 7 ((16*l.length:Nat):Int) (l.flatMap (fZ o))=true:=by unfold dW;have:(kindOf 7).1 =1:=rfl;rw[hlen];simp_all;omega
 obtain⟨e1,he1⟩:∃e1,bq 8 (km o l)=e1:=⟨_,rfl⟩;have hD:e1<=700:=by
  have hV:=Bg (m:=100) [⟨45056,7,4,[48,49,48,48]⟩,⟨45057,4,1,fj l.length 4⟩,⟨45058,7,((16*l.length:Nat):Int),l.flatMap (fZ o)⟩] (aD 8+(6+12*bF (km o l))) λt ht=>by
   simp at ht;rcases ht with rfl|rfl|rfl
   ·exact⟨(by decide),by simp⟩
   ·exact⟨X3,by simp only[tK];omega⟩
   ·exact⟨m3,by simp_all;omega⟩
  have hN:bF (km o l)=3:=rfl;have e8:aD 8=8:=rfl;have:e1=ck (aD 8+(6+12*bF (km o l))) [⟨45056,7,4,[48,49,48,48]⟩,⟨45057,4,1,fj l.length 4⟩,⟨45058,7,((16*l.length:Nat):Int),l.flatMap (fZ o)⟩]:=by rw[<-he1];simp[km,bq,eu]
  simp_all;omega
 have hT:gJ (fX o l view)=ee e1 (if view.length=0 then[] else[.mk view .nil []]):=by rw[<-he1];rfl
 rw[hT];by_cases h0:view.length=0
 ·rw[ar h0];show e1<=_;omega
 ·rw[ai h0];have hV:=Bg view (aD e1+(6+12*bF (.mk view .nil []))) λt ht=>⟨(EW (hm t ht)).2.2.2,h2' t ht⟩;have hN:bF (.mk view .nil [])=view.length:=by
   show view.length+0+0=_;omega
  have hE:ee e1 [.mk view .nil []]=ck (aD e1+(6+12*bF (.mk view .nil []))) view:=by simp[ee,bq,eu]
  have e8:=vR e1;omega
def oS(p:bT):Bool:=!jt p&&(!nT p&&(!pE p&&!pF p))
variable{p:bT}
theorem tX(h:oS p=true):jt p=false/\nT p=false/\pE p=false/\pF p=false:=by
 unfold oS at h
 grind
theorem ZW(h:jt p=false):p.aS.order=1\/p.aS.order=2:=by
 unfold jt at h;cases he:iy p.aS with
 |error e=>grind
 |ok b=>
  unfold iy at he;split at he
  ·grind
  ·rename_i q;exact(tM (qp.1 q)).1
variable{ms:List bT}
theorem Vr(hm:∀p∈ms,er p)(hl:ms.length<=6)(hg:∀p∈ms,oS p=true)(i:Nat):∃b,kR ms i=.ok b:=by
 unfold kR;split
 ·exact⟨_,rfl⟩
 rename_i p hp;have hpm:=qv hp;obtain⟨g1,g2,g3,g4⟩:=tX (hg p hpm);have ho:=ZW g1;have hv:=(hm p hpm).tv;have hr:dz 5 p.view=true:=by unfold pF at g4;simpa using g4
 split
 ·split
  ·rename_i h1;have hpl:(kQ ms).length=ms.length:=by unfold kQ;rw[eD]
   have hall:(kQ ms).all ou=true:=by rw[jf];intro q hq;obtain⟨y,hy,rfl⟩:=List.mem_map.1 hq;have:=(tX (hg y hy)).2.2.1;unfold pE at this;unfold ou;simp only[Bool.not_eq_false',bV] at this⊢;obtain⟨a,b,c⟩:=this;exact⟨a,by decide,by decide,b,c⟩
   have he:=aae (o:=p.aS.order) (l:=kQ ms) (by omega) (by omega) hv hr;unfold mT;rw[ai (by rintro (q|q);exact q ho;omega),hall,ai (by decide),hr,ai (by decide),ai (by omega),ai (by omega)];exact⟨_,rfl⟩
  ·exact⟨_,rfl⟩
 ·split
  ·exact⟨_,rfl⟩
  ·rename_i h0;have he:=aiu (o:=p.aS.order) hv hr;unfold Am;rw[ai (by rintro (q|q);exact q ho;exact h0 q),hr,ai (by decide),ai (by omega)];exact⟨_,rfl⟩
theorem Vq(h:∀i,∃b,kR ms i=.ok b):∀k i,qY ms k i=-1
 |0,i=>rfl
 |k+1,i=>by obtain⟨b,hb⟩:=h i;unfold qY JN;rw[hb];exact Vq h k (i+1)
theorem EG{α:Type}{p:α->Bool}{l:List α}:(¬0<=db p l)↔∀x∈l,p x=false:=by
 constructor
 ·exact wi
 ·intro h q;obtain⟨i,hi,_,hb⟩:=Kk q
  grind
theorem Ev(hm:∀p∈ms,er p)(h1:1<=ms.length)(hl:ms.length<=6):(gw ms).1 =0↔(∀p∈ms,oS p=true)/\qF ms=false:=by
 unfold gw;rw[ai (by omega)];constructor
 ·intro h;split at h
  ·exact absurd h (by simp)
  rename_i a1;split at h
  ·exact absurd h (by simp)
  rename_i a2;split at h
  ·exact absurd h (by simp)
  rename_i a3;split at h
  ·exact absurd h (by simp)
  rename_i a4;split at h
  ·exact absurd h (by simp)
  rename_i a5;refine⟨λp hp=>?_,by simpa using a5⟩;unfold oS;rw[wi a1 p hp,wi a2 p hp,wi a3 p hp,wi a4 p hp];rfl
 ·rintro ⟨hg,h1⟩
  rw[ai (EG.2 λp hp=>(tX (hg p hp)).1),ai (EG.2 λp hp=>(tX (hg p hp)).2.1),ai (EG.2 λp hp=>(tX (hg p hp)).2.2.1),ai (EG.2 λp hp=>(tX (hg p hp)).2.2.2),h1,ai (by decide),Vq (Vr hm hl hg),ai (by decide)]
theorem Qr(ms:List bT)(h:1<=ms.length):pI ms=0↔(gw ms).1 =0:=by
 unfold pI;constructor
 ·intro hc;split at hc
  ·rename_i q;exact q
  split at hc
  ·rw[ai (by omega)] at hc;cases hc
  split at hc
  ·rename_i h0 h1 h2;exfalso;have hidx:0<=db jt ms/\(gw ms).2 =db jt ms:=by
    unfold gw at h2⊢;split at h2
    ·exact absurd h2 (by decide)
    rename_i a;rw[ai a];split at h2
    ·rename_i b;rw[ar b];exact⟨b,rfl⟩
    ·exfalso
     repeat' split at h2
     all_goals(simp only at h2;exact absurd h2 (show¬((_:Int)=2) by decide))
   obtain⟨i,hi,he,hb⟩:=Kk hidx.1;rw[hidx.2,he,mB,dD hi] at hc;unfold jt at hb;simp only at hc;cases ha:iy ms[i].aS with
   |ok b=>rw[ha] at hb;cases hb
   |error e=>rw[ha] at hc;exact PR ha hc
  repeat' split at hc
  all_goals(exact absurd hc (by decide))
 ·intro h0;rw[ar h0]
def yb:List UInt8:=[255,216,255,218,0,8,1,1,0,0,63,0,7,255,217]
def ov:bT:=⟨⟨2,[⟨274,3,1,[0,1]⟩],[],[],[],[],[],[]⟩,[],yb,0,0,0,[]⟩
theorem agY{w:Nat}(hw:10<=w):N9 w 3 (ae 1 [Value.int IntKind.i64 1])=some (3,1,aj [0,1],true):=by obtain⟨k,rfl⟩:∃k,w=k+10:=⟨w -10,by omega⟩;rfl
end
section
variable{w:Nat}
theorem VG(hw:10<=w):rb w=some (2,az [⟨274,3,1,[0,1]⟩],ae 0 [],ae 0 [],ae 0 [],ae 0 [],ae 0 [],ae 0 [],ae 0 [],aj yb,0,0,0,ae 0 []):=by unfold rb;rw[agY hw];rfl
variable{ms:List bT}
theorem zQ(W:eW w)(hw:1000000<w)(hm:∀p∈ms,er p)(hl:ms.length<=600\/1000<ms.length)(hl2:ms.length<=2000)(r i:Int):sQ w (cO ms) r i=some (decide (gw ms=(r,i))&&(decide (pI ms=0)==decide (r=0))):=by
 unfold sQ;rw[CV W hw hm hl hl2,No W hw hm hl hl2];obtain⟨a,b,hab⟩:∃a b,gw ms=(a,b):=⟨_,_,rfl⟩;by_cases h1:a=r
 ·by_cases h2:b=i
  ·simp_all
  simp_all
 simp_all
structure Dm where
 p:bT
 b:List UInt8
 bC:List UInt8
def T8(x:Except Int (List UInt8)):List UInt8:=match x with| .ok b=>b| .error _=>[]
def Ka(ms:List bT)(i:Nat):Dm:=⟨(ms[i]?).getD ov,T8 (kR ms i),T8 (iy ((ms[i]?).getD ov).aS)⟩
def EH(g:Dm):List Value:=[.int .i64 g.p.aS.order,az g.p.aS.cP,az g.p.aS.bR,az g.p.aS.bZ,az g.p.aS.bp,az g.p.aS.first,aj g.p.aS.bQ,aj g.p.aS.dq,aj g.p.cV,aj g.p.core,aj g.b,.int .i64 (PZ g.bC g.b),.int .i64 ((jB (nZ g.p g.b) g.bC).length:Int)]
theorem RN(g:Dm):(EH g).length=13:=rfl
def ub(ms:List bT):List Dm:=(List.range ms.length).map (Ka ms)
structure IL(ms:List bT):Prop where
 mem:∀p∈ms,er p
 le:ms.length<=6
 Kb:∀p∈ms,oS p=true
theorem IL.Z9(F:IL ms){i:Nat}(hi:i<ms.length):∃b bC,kR ms i=.ok b/\iy ms[i].aS=.ok bC/\nW ms[i].core=true/\Ka ms i=⟨ms[i],b,bC⟩:=by
 obtain⟨b,hb⟩:=Vr F.mem F.le F.Kb i;obtain⟨bC,hc⟩:=PU (λp hp=>(tX (F.Kb p hp)).1) hi;refine⟨b,bC,hb,hc,?_,?_⟩
 ·have:=(tX (F.Kb _ (dL hi))).2.1;unfold nT at this
  grind
 ·unfold Ka;rw[dD hi,te,hb,hc];rfl
theorem Zy(hm:∀p∈ms,er p)(hl:ms.length<=6\/1000<ms.length)(h:pI ms=0):IL ms/\1<=ms.length:=by
 by_cases h0:ms.length<1\/1000<ms.length
 ·exfalso;unfold pI at h;rw[(show(gw ms).1 =1 from by unfold gw;rw[ar h0])] at h;omega
 ·have h1:1<=ms.length:=by omega
  have h6:ms.length<=6:=by omega
  have:=(Qr ms h1).1 h;have:=(Ev hm h1 h6).1 this;exact⟨⟨hm,h6,this.1⟩,h1⟩
theorem af4(W:eW w)(hw:1000000<w)(hm:∀p∈ms,er p)(hl:ms.length<=6\/1000<ms.length)(hl2:ms.length<=2000):GP w (cO ms)=some (if pI ms=0 then aC EH (ub ms) else ae 0 []):=by
 have hlr:∀K:Nat->Option Value,ax (cO ms) K=K ms.length:=λK=>dw dP ms K;unfold GP MO;rw[No W hw hm (by omega) hl2];simp only[aA,cD];by_cases hc:pI ms=0
 case neg=>rw[ai hc,fR hc];rfl
 rw[ar hc,fS hc,cL,hlr];obtain⟨F,h1⟩:=Zy hm hl hc;have h6:=F.le;have hil:(ub ms).length=ms.length:=by unfold ub;rw[eD,List.length_range]
 refine lD (ev:=λi (g:Int->Int->Value->List Value->Option Value)=>g ms.length i (cO ms) (((ub ms).take i).flatMap EH)) ms.length ?_ ?_ (by omega)
 ·intro i g hi;obtain⟨b,bC,k1,k2,k3,k4⟩:=F.Z9 hi;have e1:((i:Int)<(ms.length:Int)):=by omega
  have hiI:i<(ub ms).length:=by omega
  have hget:(ub ms)[i]=⟨ms[i],b,bC⟩:=by simp[ub];exact k4
  simp only[bc,e1];rw[Wb W hw hi k1 hm (by omega) k2 k3];have hr1:aK (((ub ms).take i).flatMap EH).length=true:=by rw[eJ RN];simp;omega
  rw[hr1,cR,aN (by omega) (by omega),show(i:Int)+1=((i+1:Nat):Int) by omega,nB hiI,gq,hget];rfl
 ·intro g;have e1:¬((ms.length:Int)<(ms.length:Int)):=by omega
  simp only[bc,e1];rw[gh (by omega),eJ RN,lP _ (by decide)];rfl
theorem ajj(W:eW w)(hw:1000000<w)(hm:∀p∈ms,er p)(hl:ms.length<=6\/1000<ms.length)(hl2:ms.length<=2000)(i:Nat):aiS w (cO ms) (i:Int)=some (aj (if i<ms.length/\pI ms=0 then T8 (kR ms i) else[])):=by
 unfold aiS;rw[show aq (i:Int) 0=false by rw[bc,fI];omega,(show∀K:Nat->Option Value,ax (cO ms) K=K ms.length fromλK=>dw dP ms K),bc,cu];by_cases hi:i<ms.length
 case neg=>rw[fR (by omega),ai (λq=>hi q.1)];rfl
 rw[fS (by omega),No W hw hm (by omega) hl2];simp only[aA,cD];by_cases hc:pI ms=0
 case neg=>rw[fR hc,ai (λq=>hc q.2)];rfl
 obtain⟨F,h1⟩:=Zy hm hl hc;have h6:=F.le;rw[fS hc,ar ⟨hi,hc⟩,We W hm (by omega) hi];obtain⟨b,hb⟩:=Vr F.mem F.le F.Kb i;rw[hb];rfl
theorem BY(a d e:Int)(x:di)(c:List UInt8)(hx:x=ov.aS\/x=⟨1,[],[],[],[],[],[],[]⟩)(hc:c=yb\/c=[]):er ⟨x,[],c,a,d,e,[]⟩:=by
 have t0:TS []:=⟨by decide,λt h=>by cases h⟩;have hcl:c.length<=2000:=by rcases hc with rfl|rfl<;>decide
 rcases hx with rfl|rfl
 ·exact⟨(show TS [⟨274,3,1,[0,1]⟩] from⟨by decide,λt h=>by rw[kC.1 h];decide⟩),t0,t0,t0,t0,t0,(show 0<=2000 by decide),(show 0<=2000 by decide),(show 0<=2000 by decide),hcl⟩
 ·exact⟨t0,t0,t0,t0,t0,t0,(show 0<=2000 by decide),(show 0<=2000 by decide),(show 0<=2000 by decide),hcl⟩
def uo:bT:=⟨ov.aS,[],yb,1,0,0,[]⟩
def Ur:bT:=⟨ov.aS,[],yb,0,-1,0,[]⟩
def Uq:bT:=⟨ov.aS,[],[],0,0,0,[]⟩
def Us:bT:=⟨⟨1,[],[],[],[],[],[],[]⟩,[],yb,0,0,0,[]⟩
theorem EY:er ov:=BY 0 0 0 _ _ (.inl rfl) (.inl rfl)
theorem S5:er uo:=BY 1 0 0 _ _ (.inl rfl) (.inl rfl)
theorem ms3:er Ur:=BY 0 (-1) 0 _ _ (.inl rfl) (.inl rfl)
theorem ms4:er Uq:=BY 0 0 0 _ _ (.inl rfl) (.inr rfl)
theorem ms5:er Us:=BY 0 0 0 _ _ (.inr rfl) (.inl rfl)
end
section
theorem Zz:gw [uo,uo]=(0,0)/\pI [uo,uo]=0:=by decide+kernel
variable{w:Nat}
theorem ahw(W:eW w)(hw:1000000<w):mv w=some true:=by
 have q1:=zQ W hw (ms:=[]) (λp h=>by cases h) (.inl (by decide)) (by decide) 1 0;have q2:=zQ W hw (ms:=[Us]) (λp h=>by rw[kC.1 h];exact ms5) (.inl (show 1<=600 by decide)) (show 1<=2000 by decide) 2 0;have q3:=zQ W hw (ms:=[uo]) (λp h=>by rw[kC.1 h];exact S5) (.inl (show 1<=600 by decide)) (show 1<=2000 by decide) 7 0;have hm4:∀p∈[uo,uo],er p:=λp h=>by simp at h;rw[h];exact S5
 have q4:=zQ W hw hm4 (.inl (show 2<=600 by decide)) (show 2<=2000 by decide) 0 0;have q5:=zQ W hw (ms:=[ov]) (λp h=>by rw[kC.1 h];exact EY) (.inl (show 1<=600 by decide)) (show 1<=2000 by decide) 0 0;have q6:=zQ W hw (ms:=[ov,Ur,Uq]) (λp h=>by
  simp_all;rcases h with rfl|rfl|rfl
  ·exact EY
  ·exact ms3
  ·exact ms4) (.inl (show 3<=600 by decide)) (show 3<=2000 by decide) 4 2
 have q7:=af4 W hw hm4 (.inl (show 2<=6 by decide)) (show 2<=2000 by decide);rw[ar Zz.2] at q7;have h10:∀v:Value,q9 w v=some v:=λ_=>rfl;have q1:=iq (c:=some true) q1 (by decide);have q2:=iq (c:=some true) q2 (by decide);have q3:=iq (c:=some true) q3 (by decide);have q4:=iq (c:=some true) q4 (by decide);have q5:=iq (c:=some true) q5 (by decide);have q6:=iq (c:=some true) q6 (by decide);unfold mv MI;rw[VG (by omega)];simp_all;refine iq (bK (λz=>ob z _) q1) ?_;simp;refine iq (bK (λz=>ob z _) q2) ?_;simp;refine iq (bK (λz=>ob z _) q3) ?_;simp;refine iq (bK (λz=>ob z _) q4) ?_;simp;refine iq (bK (λz=>ob z _) q5) ?_;simp;refine iq (bK (λz=>ob z _) q6) ?_;simp;refine iq (bK (λz=>ob z _) q7) ?_;simp only[aA];rfl
def mz(l:List aI):Bool:=l.any (λt=>decide (600<t.data.length))||decide (60<l.length)
theorem zP(l:List aI)(hl:l.length<2^63)(hw:l.length<w):nr w (az l)=some (mz l):=by
 have hlr:∀K:Nat->Option Bool,ax (az l) K=K l.length:=λK=>dw cx l K;have key:∀(k i v:Nat),i+k=l.length->k<v->∀(z:Value->Int->Option Bool)(F:(Value->Int->Option Bool)->Value->Int->Option Bool),
  (∀(x3:Value->Int->Option Bool)(x4:Value)(x5:Int),F x3 x4 x5=ax x4 λ(x6:Nat)=>bif aq x5 (Int.ofNat x6) then aG x5 λ(x7:Nat)=>aQ 4 x7 x4 λx8=>ag (List.drop 2 (List.drop 1 x8)) λ(x9:Value)(x10:List Value)=>ax x9 λ(x11:Nat)=>bif aq 600 (Int.ofNat x11) then some true else x3 x4 (ah IntKind.i64 (x5.add 1)) else ax x4 λ(x12:Nat)=>some (aq 60 (Int.ofNat x12)))->
  lp z F v (az l) i=some ((l.drop i).any (λt=>decide (600<t.data.length))||decide (60<l.length)):=by
  intro k;induction k with
  |zero=>
   intro i v hi hv z F hF;have e1:¬((i:Int)<(l.length:Int)):=by omega
   rw[ef z F (by omega),hF,hlr,show l.drop i=[] from List.drop_of_length_le (by omega)];simp only[bc,cu,e1,cy,aE];rw[hlr,List.any_nil,Bool.false_or]
   congr 1
   rw[fO,bV,bV];omega
  |succ k ih=>
   intro i v hi hv z F hF;have hiL:i<l.length:=by omega
   have e1:((i:Int)<(l.length:Int)):=by omega
   have dd:∀(y:aI)(r:List Value),List.drop 2 (List.drop 1 (cx y++r))=aj y.data::r:=λ_ _=>rfl;rw[ef z F (by omega),hF,hlr];simp only[bc,cu,e1,bn,ay,ct];rw[show az l=aC cx l from rfl,bW gI hiL,dd];simp only[bN];rw[dU,dG hiL,List.any_cons];by_cases h:600<l[i].data.length
   ·have e2:(600:Int)<(l[i].data.length:Int):=by omega
    simp_all
   ·have e2:¬((600:Int)<(l[i].data.length:Int)):=by omega
    simp only[h,e2,cy,aE];have:=ih (i+1) (v -1) (by omega) (by omega) z F hF;rw[cR,aN (by omega) (by omega)];exact this
 exact key l.length 0 w (by omega) hw _ _ (λ_ _ _=>rfl)
theorem Al{l:List aI}(h:mz l=false):TS l:=by unfold mz at h;simp_all;exact⟨by omega,λt ht=>by have:=h.1 t ht;omega⟩
def Ak(p:bT):Bool:=mz p.aS.cP||(mz p.aS.bR||(mz p.aS.bZ||(mz p.aS.bp||(mz p.aS.first||(mz p.view||(decide (2000<p.aS.bQ.length)||(decide (2000<p.aS.dq.length)||(decide (2000<p.cV.length)||decide (2000<p.core.length)))))))))
theorem ais{p:bT}(h:Ak p=false):er p:=by unfold Ak at h;simp_all;obtain⟨a0,a2,a3,a4,a1,av,b1,b2,b3,b4⟩:=h;exact⟨Al a0,Al a2,Al a3,Al a4,Al a1,Al av,by omega,by omega,by omega,by omega⟩
def Dg(ms:List bT):Bool:=decide (6<ms.length/\ms.length<=1000)||(decide (1100<ms.length)||ms.any Ak)
variable{ms:List bT}
theorem air(h:Dg ms=false):(ms.length<=6\/1000<ms.length)/\ms.length<=1100/\∀p∈ms,er p:=by unfold Dg at h;simp at h;exact⟨by omega,by omega,λp hp=>ais (by simpa using h.2.2 p hp)⟩
structure Dk(w:Nat)(ms:List bT):Prop where
 n:ms.length<2^63
 rows:∀p∈ms,∀l∈[p.aS.cP,p.aS.bR,p.aS.bZ,p.aS.bp,p.aS.first,p.view],l.length<2^63/\l.length<w
noncomputable def Df:IX:=(λ(_ _:Int)(_:Value)=>none)
theorem Xs(B:Dk w ms)(hw:ms.length<w):lp Df (uR w) w ms.length 0 (cO ms)=some (ms.any Ak):=by
 have key:∀(k i v:Nat),i+k=ms.length->k<v->lp Df (uR w) v ms.length i (cO ms)=some ((ms.drop i).any Ak):=by
  intro k;induction k with
  |zero=>
   intro i v hi hv;have e1:¬((i:Int)<(ms.length:Int)):=by omega
   rw[ef Df (uR w) (by omega),show ms.drop i=[] from List.drop_of_length_le (by omega)];unfold uR;simp only[bc,e1,cy,aE];rfl
  |succ k ih=>
   intro i v hi hv;have hiL:i<ms.length:=by omega
   have e1:((i:Int)<(ms.length:Int)):=by omega
   have hb:=B.n;have hB:=B.rows _ (dL hiL);have b0:=hB ms[i].aS.cP (by simp);have b2:=hB ms[i].aS.bR (by simp);have b3:=hB ms[i].aS.bZ (by simp);have b4:=hB ms[i].aS.bp (by simp);have b1:=hB ms[i].aS.first (by simp);have bv:=hB ms[i].view (by simp);have hih:=ih (i+1) (v -1) (by omega) (by omega);rw[ef Df (uR w) (by omega)];generalize hg:lp Df (uR w) (v -1)=g at hih⊢;rw[dG hiL,List.any_cons];unfold uR;simp only[bc,e1,bn,ay,ct];rw[show cO ms=aC dP ms from rfl,bW kN hiL,na];simp only[bN,cH];rw[zP _ b0.1 b0.2,zP _ b2.1 b2.2,zP _ b3.1 b3.2,zP _ b4.1 b4.2,zP _ b1.1 b1.2,zP _ bv.1 bv.2];simp only[aA];unfold Ak;cases mz ms[i].aS.cP
   case true=>rfl
   cases mz ms[i].aS.bR
   case true=>rfl
   cases mz ms[i].aS.bZ
   case true=>rfl
   cases mz ms[i].aS.bp
   case true=>rfl
   cases mz ms[i].aS.first
   case true=>rfl
   cases mz ms[i].view
   case true=>rfl
   simp only[aE,Bool.false_or];rw[dU,dU,dU,dU,cu,cu,cu,cu];have dd:∀n:Nat,decide ((2000:Int)<(n:Int))=decide (2000<n):=by intro n;rw[fO,bV,bV];omega
   rw[dd,dd,dd,dd];cases decide (2000<ms[i].aS.bQ.length)
   case true=>rfl
   cases decide (2000<ms[i].aS.dq.length)
   case true=>rfl
   cases decide (2000<ms[i].cV.length)
   case true=>rfl
   cases decide (2000<ms[i].core.length)
   case true=>rfl
   rw[cR,aN (by omega) (by omega)];exact hih
 exact key ms.length 0 w (by omega) hw
theorem aht(hw:2000<w)(B:Dk w ms):Ie w (cO ms)=some (Dg ms):=by
 have hd:∀k:Nat,aq (k:Int) (Int.ofNat ms.length)=decide (k<ms.length):=by intro k;rw[bc,cu,fO,bV,bV];omega
 have d6:aq 6 (Int.ofNat ms.length)=decide (6<ms.length):=hd 6;have d11:aq 1100 (Int.ofNat ms.length)=decide (1100<ms.length):=hd 1100;unfold Ie Dg;rw[(show∀K:Nat->Option Bool,ax (cO ms) K=K ms.length fromλK=>dw dP ms K),d6,(show aq 1000 (Int.ofNat ms.length)=decide (1000<ms.length) from hd 1000),d11];by_cases h1:6<ms.length
 ·rw[fS h1];by_cases h2:1000<ms.length
  ·have h3:¬(6<ms.length/\ms.length<=1000):=by omega
   rw[fS h2,fR h3];by_cases h4:1100<ms.length
   ·rw[fS h4];rfl
   ·rw[fR h4];exact Xs B (by omega)
  ·have h3:(6<ms.length/\ms.length<=1000):=by omega
   rw[fR h2,fS h3];rfl
 ·have h3:¬(6<ms.length/\ms.length<=1000):=by omega
  have h4:¬(1100<ms.length):=by omega
  rw[fR h1,fR h3,fR h4,aE];exact Xs B (by omega)
end
section
theorem ai9(ms:List bT):(ub ms).length=ms.length:=by unfold ub;rw[eD,List.length_range]
variable{i:Nat} {ms:List bT}
theorem ai8(F:IL ms)(hi:i<ms.length):∃b bC,kR ms i=.ok b/\iy ms[i].aS=.ok bC/\nW ms[i].core=true/\∀h:i<(ub ms).length,(ub ms)[i]=⟨ms[i],b,bC⟩:=by obtain⟨b,bC,k1,k2,k3,k4⟩:=F.Z9 hi;refine⟨b,bC,k1,k2,k3,λh=>?_⟩;simp only[ub,List.getElem_map,List.getElem_range];exact k4
theorem ajM(hi:i<ms.length)(h0:i≠0){b:List UInt8}(h:kR ms i=.ok b):(0<b.length)=(0<ms[i].view.length):=by
 unfold kR at h;rw[dD hi] at h;simp only[h0,gN] at h;split at h
 ·rename_i hv;injection h with h;rw[<-h,hv];rfl
 ·rename_i hv;unfold Am at h;split at h
  ·cases h
  split at h
  ·cases h
  split at h
  ·cases h
  injection h with h;rw[<-h,aR];have:ko.length=4:=rfl;apply propext;constructor
  ·intro _;omega
  ·intro _;omega
variable{w:Nat}
theorem ajr(W:eW w)(hw:1000000<w)(F:IL ms)(o:Int)(v:Value):
 lp ajh (ai2 w) w (aC EH (ub ms)) 0 (cO ms) o (ng (kQ ms)) v=some true:=by
 have h6:=F.le;have hil:=ai9 ms;have hpl:(kQ ms).length=ms.length:=by unfold kQ;rw[eD]
 have hlr:∀K:Nat->Option Bool,ax (aC EH (ub ms)) K=K (ub ms).length:=λK=>dw EH _ K;refine lD (ev:=λi (g:ai0)=>g (aC EH (ub ms)) i (cO ms) o (ng (kQ ms)) v) ms.length ?_ ?_ (by omega)
 ·intro i g hi;obtain⟨b,bC,k1,k2,k3,k4⟩:=ai8 F hi;have hiI:i<(ub ms).length:=by omega
  have k4:=k4 hiI;have e1:((i:Int)<(ms.length:Int)):=by omega
  have hpi:i<(kQ ms).length:=by omega
  have hpg:(kQ ms)[i]=⟨ms[i].attr,0,0,ms[i].fV,ms[i].fW⟩:=by simp only[kQ,List.getElem_map]
  have tg:∀(y:gB)(r:List Value),nc y++r=.int .i64 y.attr::.int .i64 y.size::.int .i64 y.at_::.int .i64 y.fV::.int .i64 y.fW::r:=λ_ _=>rfl;have dg:∀(y:Dm)(r:List Value),List.drop 10 (EH y++r)=aj y.b::.int .i64 (PZ y.bC y.b)::.int .i64 ((jB (nZ y.p y.b) y.bC).length:Int)::r:=λ_ _=>rfl;unfold ai2;rw[hlr,hil];simp only[bc,cu,e1,bn,ay,ct];rw[show cO ms=aC dP ms from rfl,bW kN hi,na];simp only[bN,cH];rw[show ng (kQ ms)=aC nc (kQ ms) from rfl,bW BX hpi,tg,hpg];simp only[bN,cH,Zm,cD,bn,ay,cL,aE,cR];rw[aN (by omega) (by omega)];by_cases h0:i=0
  ·subst h0;rw[show decide ((0:Int)<((0:Nat):Int))=false from rfl,aE];rfl
  ·rw[show decide ((0:Int)<(i:Int))=true by rw[bV];omega,ay,bW RN hiI,dg,k4];simp only[bN];rw[dU,show az ms[i].view=aC cx ms[i].view from rfl,dw];have hvl:=ajM hi h0 k1;have hdd:decide ((0:Int)<((b.length:Nat):Int))=decide ((0:Int)<((ms[i].view.length:Nat):Int)):=by
    rw[fO,bV,bV];have:(0<b.length)↔(0<ms[i].view.length):=by rw[hvl]
    omega
   rw[hdd];cases decide ((0:Int)<((ms[i].view.length:Nat):Int))<;>rfl
 ·intro g;have e1:¬((ms.length:Int)<(ms.length:Int)):=by omega
  unfold ai2;rw[hlr,hil];simp only[bc,cu,e1,cy,aE];rw[ahw W hw];rfl
theorem ajm(W:eW w){o:Int}(ho:o=1\/o=2){l:List gB}(h2:2<=l.length)(hl:l.length<=600){view:List aI}(hv:VS view)(hr:dz 5 view=true):(gK (fX o l view)).length<100000000:=by
 have T:=aag W ho h2 hl hv hr;have h:=OM (fX o l view).eK 0 8 T.hd;have hc:iT (fX o l view).eK<=2:=by unfold fX km;simp only;split<;>simp[iT,dt,ia]
 have h2:iT (fX o l view).eK*(10000+2)<=2*(10000+2):=aiT _ hc;have h3:(gK (fX o l view)).length=(jH 0 8 (fX o l view).eK).length+1:=rfl;omega
theorem ajs(W:eW w)(hw:1000000<w)(F:IL ms)(h1:1<=ms.length)(hc:pI ms=0):
 lp lmZ (lmF w) w (aC EH (ub ms)) 0 (cO ms)=some true:=by
 have h6:=F.le;have hm:=F.mem;have hil:=ai9 ms;have hlr:∀K:Nat->Option Bool,ax (aC EH (ub ms)) K=K (ub ms).length:=λK=>dw EH _ K;have dg:∀(y:Dm)(r:List Value),List.drop 10 (EH y++r)=aj y.b::.int .i64 (PZ y.bC y.b)::.int .i64 ((jB (nZ y.p y.b) y.bC).length:Int)::r:=λ_ _=>rfl;have dg11:∀(y:Dm)(r:List Value),List.drop 11 (EH y++r)=.int .i64 (PZ y.bC y.b)::.int .i64 ((jB (nZ y.p y.b) y.bC).length:Int)::r:=λ_ _=>rfl;have dg12:∀(y:Dm)(r:List Value),List.drop 12 (EH y++r)=.int .i64 ((jB (nZ y.p y.b) y.bC).length:Int)::r:=λ_ _=>rfl;have og:∀(y:Dm)(r:List Value),EH y++r=.int .i64 y.p.aS.order::az y.p.aS.cP::az y.p.aS.bR::az y.p.aS.bZ::az y.p.aS.bp::az y.p.aS.first::aj y.p.aS.bQ::aj y.p.aS.dq::aj y.p.cV::aj y.p.core::aj y.b::.int .i64 (PZ y.bC y.b)::.int .i64 ((jB (nZ y.p y.b) y.bC).length:Int)::r:=λ_ _=>rfl;refine lD (ev:=λi (g:aiZ)=>g (aC EH (ub ms)) i (cO ms)) ms.length ?_ ?_ (by omega)
 ·intro i g hi;obtain⟨b,bC,k1,k2,k3,k4⟩:=ai8 F hi;have hiI:i<(ub ms).length:=by omega
  have k4:=k4 hiI;have e1:((i:Int)<(ms.length:Int)):=by omega
  have hmp:=hm _ (dL hi);have hok:=RP hi k1 hm (by omega) k2 k3;have hic:=hmp.ic;have hco:=hmp.co;have hbl:b.length<=65533:=by rcases MF k1 hm (by omega) with q|q;omega;exact q.2
  have h24:=agx (m:=65533) W hok hmp.Bn (by omega) ⟨by show ms[i].core.length<=_;omega,by show ms[i].cV.length<=_;omega,hbl⟩ (by omega) (PZ bC b) ((jB (nZ ms[i] b) bC).length:Int);have h25:=agC (m:=65533) W hok hmp.Bn (by omega) ⟨by show ms[i].core.length<=_;omega,by show ms[i].cV.length<=_;omega,hbl⟩ (by omega);have h16:=ajj W hw hm (.inl h6) (by omega) i;rw[ar ⟨hi,hc⟩,k1] at h16;have h26:=ajH (w:=w) hmp.Bn (by omega) ms[i].cV ms[i].core b (PZ bC b) ((jB (nZ ms[i] b) bC).length:Int) (PZ bC b) ((jB (nZ ms[i] b) bC).length:Int);unfold lmF;rw[hlr,hil];simp only[bc,cu,e1,bn,ay,ct];rw[bW RN hiI,k4,og];simp only[bN,cH];refine iq (bK (λy=>ob y _) h24) ?_;simp only[aA];rw[h25];simp only[aA,cD,show decide ((0:Int)=0)=true from rfl,cL,aE];rw[dU,bW RN hiI,k4,dg12];simp only[bN,cH,cu,bn,cL,aE];rw[bW RN hiI,k4,og];simp only[bN,cH];refine iq (bK (λy=>ob y _) h26) ?_;simp only[aA,cL,aE];rw[bW RN hiI,k4,dg11];simp only[bN,cH];have hat:(if(nZ ms[i] b).dN.length=0 then(0:Int) else((bC.length+10:Nat):Int))=PZ bC b:=rfl;rw[hat];simp only[bn,cL,aE];rw[h16];simp only[aA];rw[ij,iH,Ix];simp only[aA];rw[bW RN hiI,k4,dg];simp only[bN];rw[ij,iH,Ix];simp only[aA];rw[KQ,KQ,DW];simp only[T8,bn,cL,aE,cR];rw[aN (by omega) (by omega),show(b==b)=true from beq_self_eq_true b];rfl
 ·intro g;have e1:¬((ms.length:Int)<(ms.length:Int)):=by omega
  obtain⟨b,bC,k1,k2,k3,k4⟩:=ai8 F (i:=0) (by omega);have hiI:0<(ub ms).length:=by omega
  have k4:=k4 hiI;have x0:∀K:List Value->Option Bool,aQ 13 0 (aC EH (ub ms)) K=K (EH (ub ms)[0]++((ub ms).drop 1).flatMap EH):=λK=>bW RN hiI K;unfold lmF;rw[hlr,hil];simp only[bc,cu,e1,cy,aE];rw[hlr,hil];by_cases hn:ms.length=1
  ·rw[hn,show ak ((1:Nat):Int) 1=true from rfl,ay,x0,dg,k4];simp only[bN];have hb:b=[]:=by
    unfold kR at k1;rw[dD (by omega:0<ms.length)] at k1;simp only[gj] at k1;rw[ai (by omega)] at k1;injection k1 with k1;exact k1.symm
   rw[dU,hb];rw[show ak ((([]:List UInt8).length:Nat):Int) 0=true from rfl,ay,ahw W hw];rfl
  ·have e2:ak (ms.length:Int) 1=false:=by rw[cD,fI];omega
   have h2:1<ms.length:=by omega
   have hmp:=hm _ (dL (show 0<ms.length by omega));have hix:mT ms[0].aS.order (kQ ms) ms[0].view=.ok b:=by unfold kR at k1;rw[dD (by omega:0<ms.length)] at k1;simp only[gj] at k1;rw[ar h2] at k1;exact k1
   have hpl:(kQ ms).length=ms.length:=by unfold kQ;rw[eD]
   have g:=F.Kb _ (dL (show 0<ms.length by omega));obtain⟨g1,_,_,g4⟩:=tX g;have hr:dz 5 ms[0].view=true:=by unfold pF at g4;simpa using g4
   have h27:=ajI W (by omega) hix hmp.vs (ajm W (ZW g1) (by omega) (by omega) hmp.vs hr);have m0:∀K:List Value->Option Bool,aQ 14 0 (cO ms) K=K (dP ms[0]++(ms.drop 1).flatMap dP):=λK=>bW (f:=dP) kN (l:=ms) (m:=0) (by omega) K;have dm:∀r:List Value,List.drop 0 (List.drop 0 (dP ms[0]++r))=.int .i64 ms[0].aS.order::az ms[0].aS.cP::az ms[0].aS.bR::az ms[0].aS.bZ::az ms[0].aS.bp::az ms[0].aS.first::aj ms[0].aS.bQ::aj ms[0].aS.dq::aj ms[0].cV::aj ms[0].core::.int .i64 ms[0].attr::.int .i64 ms[0].fV::.int .i64 ms[0].fW::az ms[0].view::r:=λ_=>rfl;rw[e2,aE,x0,dg,k4];simp only[bN];rw[h27];simp only[aA];rw[show(!ak 0 0)=false from rfl,aE,show ng (kQ ms)=aC nc (kQ ms) from rfl,dw,hlr,hil,hpl,show ak (ms.length:Int) (ms.length:Int)=true by rw[cD,bV],cL,aE,m0,dm];simp only[bN,cH];rw[show ak ms[0].aS.order ms[0].aS.order=true by rw[cD,bV],cL,aE];exact ajr W hw F ms[0].aS.order (az ms[0].view)
theorem ajL(W:eW w)(hw:1000000<w)(B:Dk w ms):sh6 w (cO ms)=some true:=by
 have h8:=ahw W hw;unfold sh6;rw[aht (by omega) B];simp only[aA];cases hv:Dg ms with
 |true=>rw[ay,h8];rfl
 |false=>
  rw[aE];obtain⟨hl,hl2,hm⟩:=air hv;rw[af4 W hw hm hl (by omega)];simp only[aA];rw[No W hw hm (by omega) (by omega)];simp only[aA];by_cases hc:pI ms=0
  case neg=>have h16:=ajj W hw hm hl (by omega) 0;rw[ai (λq=>hc q.2)] at h16;have h16':aiS w (cO ms) 0=some (aj []):=h16;rw[ai hc,cD,fR hc,fu,ay];rw[show∀K:Nat->Option Bool,ax (ae 0 []) K=K 0 fromλ_=>rfl,show ak (Int.ofNat 0) 0=true from rfl,ay,h16'];simp only[aA];rw[dU,show ak (Int.ofNat ([]:List UInt8).length) 0=true from rfl,ay,h8];rfl
  ·obtain⟨F,h1⟩:=Zy hm hl hc;rw[ar hc,cD,fS hc,cL,aE,dw,ai9,show cO ms=aC dP ms from rfl,dw,show ak (Int.ofNat ms.length) (Int.ofNat ms.length)=true by rw[cD,bV],cL,aE];exact ajs W hw F h1 hc
end
section
open Go.Shelf Go.RowKit Go.Lib Go.ChangeShapes Go.WideShapes Go.Deep
theorem Qk:Tryz.prog.cellsOf 73=4:=by kernel_rfl
theorem vM:Tryz.prog.cellsOf 3=1:=by kernel_rfl
theorem Yv:Tryz.prog.cellsOf 5=1:=by kernel_rfl
theorem Yw:Tryz.prog.cellsOf 68=3:=by kernel_rfl
theorem A9:Tryz.prog.cellsOf 28=1:=by kernel_rfl
theorem xV:Tryz.prog.cellsOf 27=1:=by kernel_rfl
theorem Yt:Tryz.prog.cellsOf 30=8:=by kernel_rfl
theorem Qj:Tryz.prog.cellsOf 32=14:=by kernel_rfl
theorem Yu:Tryz.prog.cellsOf 22=1:=by kernel_rfl
theorem Ys:Tryz.prog.cellsOf 24=1:=by kernel_rfl
section
variable{H:Type} {enc:TypeId×Value->H} {w:World} {base:Nat} {spare:Nat->Bool} {held:Bool}
variable{cs:List Value} {fs:Array Field} {fuel k:Nat} {t:TypeId} {x:DataW H×List MemPlace}
theorem iU(ht:Tryz.prog.underlying t=some (.struct fs))(h:DataW.trod enc Tryz.prog w base spare held fuel t cs=some x)(i:Nat)(f:Field)(hf:fs[i]? =some f)(hk:Tryz.prog.cellsOf f.type=k):
 ∃n y,DataW.trod enc Tryz.prog w base spare held n f.type ((cs.drop f.offset).take k)=some y:=by
 obtain⟨xs,n,_,_,_,hl,hat⟩:=DataW.trod_struct ht h;have hi:i<fs.size:=(lL.1 hf).1;subst hk;exact⟨n,_,(hat i f hf).trans (dD (by omega))⟩
theorem lenOf(ht:Tryz.prog.underlying t=some (.struct fs))(h:DataW.trod enc Tryz.prog w base spare held fuel t cs=some x)(hk:Tryz.prog.cellsOf t=k):cs.length=k:=by obtain⟨_,_,_,_,hl,_⟩:=DataW.trod_struct ht h;rw[hl,hk]
theorem wG(h:DataW.trod enc Tryz.prog w base spare held fuel 3 cs=some x):∃n,cs=[.int .i64 n]:=by obtain⟨n,e,_⟩:=DataW.trod_int Tryz.underlying3 h;exact⟨n,e⟩
theorem aeS(h:DataW.trod enc Tryz.prog w base spare held fuel 5 cs=some x):∃b:UInt8,aP (λb i=>fc w b i) (pH b) cs:=by
 obtain⟨n,rfl,_,q⟩:=DataW.trod_int Tryz.underlying5 h;have hq:0<=n/\n<=255:=by unfold Lit.wf at q;rw[bg] at q;exact⟨qw q.1,qw q.2⟩
 refine⟨UInt8.ofNat n.toNat,?_⟩;have e:pH (UInt8.ofNat n.toNat)=[.int .u8 n]:=by
  unfold pH aX;have:((UInt8.ofNat n.toNat).toNat:Int)=n:=by rw[xw];omega
  rw[this]
 rw[e];exact .cons (.int _ _) .nil
theorem B7(h:DataW.trod enc Tryz.prog w base spare held fuel 28 cs=some x):∃(l:List UInt8)(v:Value),cs=[v]/\bj (λb i=>fc w b i) (aj l) v/\l.length<=maxLen:=
 O9 pH Tryz.underlying28 Yv (by decide) (λ_ _ _ h=>aeS h) h
theorem aeU(h:DataW.trod enc Tryz.prog w base spare held fuel 73 cs=some x):∃t:aI,aP (λb i=>fc w b i) (cx t) cs:=by
 have hl:=lenOf Tryz.underlying73 h Qk
 match cs,hl with
 |[a,b,c,d],_=>obtain⟨_,_,h0⟩:=iU Tryz.underlying73 h 0 _ rfl vM;obtain⟨_,_,h1⟩:=iU Tryz.underlying73 h 1 _ rfl Yw;obtain⟨_,_,h2⟩:=iU Tryz.underlying68 h1 0 _ rfl vM;obtain⟨_,_,h3⟩:=iU Tryz.underlying68 h1 1 _ rfl vM;obtain⟨_,_,h4⟩:=iU Tryz.underlying68 h1 2 _ rfl A9;obtain⟨n0,e0⟩:=wG h0;obtain⟨n1,e1⟩:=wG h2;obtain⟨n2,e2⟩:=wG h3;obtain⟨l,v,e3,L,_⟩:=B7 h4;have e0:[a]=[.int .i64 n0]:=e0;have e1:[b]=[.int .i64 n1]:=e1;have e2:[c]=[.int .i64 n2]:=e2;have e3:[d]=[v]:=e3;cases e0;cases e1;cases e2;cases e3;exact⟨⟨n0,n1,n2,l⟩,.cons (.int _ _) (.cons (.int _ _) (.cons (.int _ _) (.cons L .nil)))⟩
theorem zd(h:DataW.trod enc Tryz.prog w base spare held fuel 27 cs=some x):∃(l:List aI)(v:Value),cs=[v]/\bj (λb i=>fc w b i) (az l) v/\l.length<=maxLen:=
 O9 cx Tryz.underlying27 Qk (by decide) (λ_ _ _ h=>aeU h) h
def Ay(p:bT):Prop:=∀l∈[p.aS.cP,p.aS.bR,p.aS.bZ,p.aS.bp,p.aS.first,p.view],l.length<=maxLen
theorem aeT(h:DataW.trod enc Tryz.prog w base spare held fuel 32 cs=some x):∃p:{p:bT//Ay p},aP (λb i=>fc w b i) (dP p.1) cs:=by
 have hl:=lenOf Tryz.underlying32 h Qj
 match cs,hl with
 |[a0,a1,a2,a3,a4,a5,a6,a7,a8,a9,a10,a11,a12,a13],_=>obtain⟨_,_,hE⟩:=iU Tryz.underlying32 h 0 _ rfl Yt;obtain⟨_,_,h0⟩:=iU Tryz.underlying30 hE 0 _ rfl vM;obtain⟨_,_,h1⟩:=iU Tryz.underlying30 hE 1 _ rfl xV;obtain⟨_,_,h2⟩:=iU Tryz.underlying30 hE 2 _ rfl xV;obtain⟨_,_,h3⟩:=iU Tryz.underlying30 hE 3 _ rfl xV;obtain⟨_,_,h4⟩:=iU Tryz.underlying30 hE 4 _ rfl xV;obtain⟨_,_,h5⟩:=iU Tryz.underlying30 hE 5 _ rfl xV;obtain⟨_,_,h6⟩:=iU Tryz.underlying30 hE 6 _ rfl A9;obtain⟨_,_,h7⟩:=iU Tryz.underlying30 hE 7 _ rfl A9;obtain⟨_,_,h8⟩:=iU Tryz.underlying32 h 1 _ rfl A9;obtain⟨_,_,h9⟩:=iU Tryz.underlying32 h 2 _ rfl A9;obtain⟨_,_,h10⟩:=iU Tryz.underlying32 h 3 _ rfl vM;obtain⟨_,_,h11⟩:=iU Tryz.underlying32 h 4 _ rfl vM;obtain⟨_,_,h12⟩:=iU Tryz.underlying32 h 5 _ rfl vM;obtain⟨_,_,h13⟩:=iU Tryz.underlying32 h 6 _ rfl xV;obtain⟨n0,e0⟩:=wG h0;obtain⟨l1,v1,e1,L1,m1⟩:=zd h1;obtain⟨l2,v2,e2,L2,m2⟩:=zd h2;obtain⟨l3,v3,e3,L3,m3⟩:=zd h3;obtain⟨l4,v4,e4,L4,m4⟩:=zd h4;obtain⟨l5,v5,e5,L5,m5⟩:=zd h5;obtain⟨l6,v6,e6,L6,_⟩:=B7 h6;obtain⟨l7,v7,e7,L7,_⟩:=B7 h7;obtain⟨l8,v8,e8,L8,_⟩:=B7 h8;obtain⟨l9,v9,e9,L9,_⟩:=B7 h9;obtain⟨n10,e10⟩:=wG h10;obtain⟨n11,e11⟩:=wG h11;obtain⟨n12,e12⟩:=wG h12;obtain⟨l13,v13,e13,L13,m13⟩:=zd h13;have e0:[a0]=[.int .i64 n0]:=e0;have e1:[a1]=[v1]:=e1;have e2:[a2]=[v2]:=e2;have e3:[a3]=[v3]:=e3;have e4:[a4]=[v4]:=e4;have e5:[a5]=[v5]:=e5;have e6:[a6]=[v6]:=e6;have e7:[a7]=[v7]:=e7;have e8:[a8]=[v8]:=e8;have e9:[a9]=[v9]:=e9;have e10:[a10]=[.int .i64 n10]:=e10;have e11:[a11]=[.int .i64 n11]:=e11;have e12:[a12]=[.int .i64 n12]:=e12;have e13:[a13]=[v13]:=e13;cases e0;cases e1;cases e2;cases e3;cases e4;cases e5;cases e6;cases e7;cases e8;cases e9;cases e10;cases e11;cases e12;cases e13;refine⟨⟨⟨⟨n0,l1,l2,l3,l4,l5,l6,l7⟩,l8,l9,n10,n11,n12,l13⟩,λl hl=>?_⟩,.cons (.int _ _) (.cons L1 (.cons L2 (.cons L3 (.cons L4 (.cons L5 (.cons L6 (.cons L7 (.cons L8 (.cons L9 (.cons (.int _ _) (.cons (.int _ _) (.cons (.int _ _) (.cons L13 .nil)))))))))))))⟩;simp only[cj,jh,jj] at hl;rcases hl with rfl|rfl|rfl|rfl|rfl|rfl<;>assumption
theorem aeR(h:DataW.trod enc Tryz.prog w base spare held fuel 24 cs=some x):∃(ms:List bT)(v:Value),cs=[v]/\bj (λb i=>fc w b i) (cO ms) v/\ms.length<=maxLen/\∀p∈ms,Ay p:=by
 have hl:=lenOf Tryz.underlying24 h Ys
 match cs,hl with
 |[a],_=>
  obtain⟨_,_,h0⟩:=iU Tryz.underlying24 h 0 _ rfl Yu;obtain⟨l,v,e,L,hm⟩:=O9 (λp:{p:bT//Ay p}=>dP p.1) Tryz.underlying22 Qj (by decide) (λ_ _ _ h=>aeT h) h0;have e:[a]=[v]:=e;cases e;refine⟨l.map (·.1),a,rfl,?_,by simpa using hm,λp hp=>?_⟩
  ·have:cO (l.map (·.1))=aC (λp:{p:bT//Ay p}=>dP p.1) l:=by
    unfold cO aC;rw[eD,List.flatMap_map]
   rw[this];exact L
  ·obtain⟨q,_,rfl⟩:=List.mem_map.1 hp;exact q.2
end
end
section
open Go.Shelf Go.RowKit Go.Lib Go.ChangeShapes Go.WideShapes Go.Deep
theorem X4(ms:List bT)(hn:ms.length<=maxLen)(hr:∀p∈ms,Ay p):Dk (maxLen+1) ms:=
 ⟨Nat.lt_succ_of_le hn,λp hp l hl=>⟨Nat.lt_succ_of_le (hr p hp l hl),Nat.lt_succ_of_le (hr p hp l hl)⟩⟩
theorem Yf{f:FuncId}{Sh:Value->Option Bool}(ok:dI Tryz.prog f [.agg [.v]] .b Sh){W:World}{ms:List bT}{v:Value}(L:bj (λb i=>fc W b i) (cO ms) v)(e:Sh (cO ms)=some true)(hp:aY (cO ms)/\bB [cO ms]=true):
 Calls Tryz.prog f #[.agg #[v]] W λe W'=>e=.returned (.bool true)/\RowKit.Below W.heap.size W W':=by
 obtain⟨_,pv,f2,f3⟩:=ok [.v (cO ms)] true e (λx hx=>by simp at hx;rw[hx];exact hp) _ rfl;have f2:some (Value.bool true,([]:List bo))=some (pv,[]):=f2;cases f2;exact P8 f3 (m:=λb i=>fc W b i) (λ_ _ _ h=>h) (.cons (.agg (.cons L .nil)) .nil)
end
section
open Go.ChangeShapes Go.WideShapes Go.ChangeAt Go.RowKit Go.Joins Go.Deep
open YtfdojmichbgpiaaGreatDoor
theorem Aw{α:Type}{f:α->List Value}(h:∀x,bO (f x)):∀l:List α,bO (l.flatMap f)
 |[]=>⟨(λ_ h=>by cases h),rfl⟩
 |x::l=>⟨λy hy=>(eM.1 hy).elim ((h x).1 y) ((Aw h l).1 y),qV _ _ (h x).2 (Aw h l).2⟩
theorem Qc(l:List UInt8):aY (aj l):=(fq (Aw (λb=>⟨λx hx=>by rw[kC.1 hx];exact .int _ _,rfl⟩) l)).1
theorem aia(l:List aI):aY (az l):=(fq (Aw (λt=>⟨λx hx=>by
 simp only[cx,cj,jh,jj] at hx;rcases hx with rfl|rfl|rfl|rfl
 ·exact .int _ _
 ·exact .int _ _
 ·exact .int _ _
 ·exact Qc _,rfl⟩) l)).1
theorem abk(l:List bT):aY (cO l)/\bB [cO l]=true:=fq (Aw (λp=>⟨λx hx=>by simp only[dP,cj,jh,jj] at hx;rcases hx with rfl|rfl|rfl|rfl|rfl|rfl|rfl|rfl|rfl|rfl|rfl|rfl|rfl|rfl;all_goals first|exact .int _ _|exact aia _|exact Qc _,rfl⟩) l)
theorem own:ownKnob Tryz.prog.godebug=none:=by kernel_rfl
theorem laidOut:laidOutB Tryz.prog=true:=by kernel_rfl
theorem wok:eW (maxLen+1):=⟨Z0 (by decide),by decide⟩
end
section
open Go.ChangeShapes Go.WideShapes Go.ChangeAt Go.RowKit Go.Joins Go.Deep
open YtfdojmichbgpiaaGreatDoor
def Jj:Array Value:=#[.agg #[.slice none 0 0]]
end
section
open Go.ChangeShapes Go.WideShapes Go.ChangeAt Go.RowKit Go.Joins Go.Deep
open YtfdojmichbgpiaaGreatDoor
theorem ajk(H:Type)(enc:TypeId×Value->H)(W:World)(base:Nat)(args:Array Value)(ds gs:List (DataW H))(before:List MemPlace)
 (hval:∀(j:Nat) t v,Tryz.f6.params[j]? =some t->args[j]? =some v->Value.okWide Tryz.prog W .any base t v)
 (hW:DataW.Whole enc Tryz.prog Tryz.f6.params.toList Rows.limitsMaySpec.vars false W args.toList ds gs before):
 Calls Tryz.prog 6 args W λe W'=>∃v,e=.returned v/\Rows.limitsMaySpec.post enc Tryz.prog Tryz.f6 false true false false W args v W':=by
 have hW':=hW;obtain⟨p,q,hA0,hV,rfl,hfz,hnd⟩:=hW;have hA:DataW.TrodAll enc Tryz.prog W 0 (λ_=>true) true Tryz.f6.params.toList args.toList ds p:=hA0;rw[Tryz.params6] at hA hval;obtain⟨v1,vs1,d1,ds1,p1,q1,hargs,rfl,rfl,h1,r1⟩:=trodAll_cons hA;obtain⟨rfl,rfl,rfl⟩:=trodAll_nil r1;obtain rfl:args=#[v1]:=by cases args;simp_all
 obtain⟨rfl,rfl⟩:=trodVars_none hV;have k1:=h1;have lt1:∀x∈p1,x.block<W.heap.size:=by obtain⟨m,hm⟩:=k1;exact DataW.trod_lt m _ _ _ hm
 obtain⟨D,rfl,_⟩:=okWide_struct Tryz.underlying24 (hval 0 24 v1 rfl rfl);obtain⟨fuel,hf⟩:=h1;obtain⟨ms,v,e,L,hn,hr⟩:=aeR hf;have hD:D=#[v]:=by
  have:D.toList=[v]:=by simpa[Value.cells] using e
  cases D;simp_all
 subst hD;clear hA0;refine(Yf (ok6 (maxLen+1)) L (ajL wok (by decide) (X4 ms hn hr)) (abk ms)).mono λe W' ⟨he,bel⟩=>?_;subst he;exact⟨_,rfl,_,_,_,[],_,[],hW',trodAll_mk1 (shut_bool Tryz.underlying4 _),(trodAll_cons_mk (Below.trod laidOut (by kernel_rfl) (qw (by kernel_rfl)) k1 bel lt1) trodAll_mk0),rfl,Below.frame bel _,λh=>by cases h⟩
def ajp:List (String×DataW Unit):=Rows.limitsMayRow.laid
theorem ajl(os:Os)(args:Array Value):laidMetH Tryz.prog ajp ((World.doorLaid Tryz.prog 400 os).forCall (λ_ _=>0) ⟨#[],args,[]⟩).memory:=
 laidMetH_of_parts3 (fuel:=8) (laidMet_of_run' 8 (by kernel_rfl) (by kernel_rfl)) (by kernel_rfl) (by kernel_rfl)
theorem ajF(os:Os){H:Type}(enc:TypeId×Value->H):∃places,DataW.whole enc Tryz.prog ((World.doorLaid Tryz.prog 400 os).forCall (λ_ _=>0) ⟨#[],Jj,[]⟩).memory Tryz.f6.params.toList Rows.limitsMaySpec.vars false Jj.toList 8=some ([.agg [.nil]],[],places):=
 ⟨[],by kernel_rfl⟩
theorem ajq(os:Os)(started:os.Started)(H:Type)(enc:TypeId×Value->H)(F:Stop.Interp):
 ReturnsInHanded {} Tryz.checked os 6 .any ((OpenSpec.ofChange Rows.limitsMaySpec).preRow enc Tryz.prog Tryz.f6 Rows.limitsMayRow.domain false Rows.limitsMayRow.laid) (((OpenSpec.ofChange Rows.limitsMaySpec).at F).post enc Tryz.prog Tryz.f6 false true false false):=by
 obtain⟨places,hx⟩:=ajF os enc;refine returnsInHanded_of_row (C:=Tryz.checked) (s:=OpenSpec.ofChange Rows.limitsMaySpec) own started (by kernel_rfl) Tryz.func6
  (witness_row_atRef (enc:=enc) (C:=Tryz.checked) false (World.doorLaid Tryz.prog 400 os) Jj rfl (by kernel_rfl) (by kernel_rfl) (by kernel_rfl)
   (OpenSpec.preRow_of_cond 8 hx (by kernel_rfl) (λk hk=>by cases hk) (by kernel_rfl) (ajl os _))) ?_
 intro W base args ds gs before hval hW _ _ _ hL hsh _;exact ajk H enc W base args ds gs before hval hW
end
end Lt
section
namespace lawMay
open Go.Proofs.YtfdojmichbgpiaaGreatDoor
theorem aat:(Rows.limitsMayRow.inPlace==Tryz.prog.inPlace 6)=true:=by kernel_rfl
end lawMay
end
section
namespace lawMay
open Go.Proofs.YtfdojmichbgpiaaGreatDoor
theorem aau:(Rows.limitsMayRow.unfollowed==Tryz.prog.unfollowed 6)=true:=by kernel_rfl
end lawMay
end
section
namespace lawMay
open Go.Proofs.YtfdojmichbgpiaaGreatDoor
theorem aav:(Rows.limitsMayRow.recurses==Tryz.prog.recurses 6)=true:=by kernel_rfl
end lawMay
end
section
namespace lawMay
open Go.Proofs.YtfdojmichbgpiaaGreatDoor
theorem aaw:(Rows.limitsMayRow.named==Tryz.prog.varsNamed 6)=true:=by kernel_rfl
end lawMay
end
section
namespace lawMay
open Go.Proofs.YtfdojmichbgpiaaGreatDoor
theorem aaA:Tryz.pinned.checked.prog.mainIs=some (Rows.limitsMayCard.stood.harness.1,Rows.limitsMayCard.stood.harness.2.toList):=by kernel_rfl
end lawMay
end
section
namespace lawMay
open Go.Proofs.YtfdojmichbgpiaaGreatDoor
theorem ZV{P:Program}(h:(P.funcs.toList.all λfn=>!fn.goes)=true){c:OpenClaim}(hs:c.start=.entering):false=c.goesBy P:=by
 have h1:∀fn∈P.funcs.toList,fn.goes=false:=by intro fn hf;have:=jf.1 h fn hf;simpa using this
 have h2:P.funcs.any Func.goes=false:=by rw[<-Array.any_toList];rw[List.any_eq_false];intro fn hf;rw[h1 fn hf];exact Bool.false_ne_true
 have h3:∀f,P.goes f=false:=by
  intro f;unfold Program.goes;rw[h2,Bool.and_false,Bool.or_false];rw[List.any_eq_false];intro g _ hg;cases hf:P.funcs[g]? with
  |none=>rw[hf] at hg;cases hg
  |some fn=>
   rw[hf] at hg;have h4:fn∈P.funcs.toList:=by have:=Array.mem_of_getElem? hf;simpa using this
   have h5:fn.goes=true:=hg;rw[h1 fn h4] at h5;cases h5
 unfold OpenClaim.goesBy Program.goesAt Program.goesFrom;rw[hs];cases P.funcNamed c.func with
 |none=>rfl
 |some f=>show false=(P.goes f||false);rw[h3 f];rfl
theorem aaB:(Tryz.prog.funcs.toList.all λfn=>!fn.goes)=true:=by kernel_rfl
theorem aay:false=Rows.limitsMayRow.goesBy Tryz.pinned.checked.prog:=ZV aaB rfl
end lawMay
end
section
namespace lawMay
open Go.Proofs.YtfdojmichbgpiaaGreatDoor
theorem aaz:true=Tryz.pinned.checked.prog.looks []:=by kernel_rfl
theorem aaC:Rows.limitsMayRow.wfByText (OpenSpec.ofChange Rows.limitsMaySpec)=true:=by kernel_rfl
end lawMay
end
section
open Go.Proofs.YtfdojmichbgpiaaGreatDoor
section
namespace lawMay
open Go.ChangeShapes Go.WideShapes Go.ChangeAt Go.RowKit Go.Joins Go.Deep
theorem aaD{P:Program}{f:FuncId}{fn:Func}{s:ChangeSpec}{c:OpenClaim}
 (h1:(c.wf (OpenSpec.ofChange s)&&laidOutB P&&mapsRowed P&&fn.params.all (P.readableRec ·)&&namedTie P c.named s.vars&&(c.stops==[])&&(P.stops==[])&&(c.knobs==[])&&(P.stopKnobs==[]))=true)
 (h2:(c.inPlace==P.inPlace f)=true) (h3:(c.unfollowed==P.unfollowed f)=true) (h4:(c.recurses==P.recurses f)=true) (h5:(c.named==P.varsNamed f)=true)
 (h:∀b:Bool,b=true->(b&&(c.maps==(fn.params.toList++s.plain.varTypes P).any (P.mapsRec ·))&&(c.ifaces==(fn.params.toList++s.plain.varTypes P).any (P.ifacesRec ·))&&(c.mapsOut==P.mapsAmong fn.resultTypes.toList)&&
 (c.loops==(fn.params.toList++s.plain.varTypes P).any (P.loopsFrom ·))&&(c.wideKeys==(fn.params.toList++s.plain.varTypes P++fn.resultTypes.toList).any (P.wideKeysFrom ·))&&
 s.vars.all (P.varReadable ·)&&fn.resultTypes.all (λt=>P.readableRec t&&decide (t<P.types.size))&&(c.ifacesOut==fn.resultTypes.toList.any (P.ifacesRec ·))&&(c.loopsOut==fn.resultTypes.toList.any (P.loopsFrom ·))&&(c.plainKeys==P.plainKeys)&&c.shortTexts.isNone&&P.stopsHeard&&P.mayEnter&&(c.lifted==P.liftsFinal)&&(P.make==some c.make)&&(c.kinds==(if c.domain.isEmpty then[] else fn.params.toList.map λt=>match P.underlying t with|some (.int k)=>some k|_=>none))&&(c.pinned==c.pinnedBy)&&
 (c.veiled==(fn.params.toList++s.plain.varTypes P++fn.resultTypes.toList).any (P.veiledRec ·))&&c.veiledFits P fn.params.toList (fn.params.toList++s.plain.varTypes P++fn.resultTypes.toList))=true):joinedFacts P f fn s c=true:=by
 unfold joinedFacts;rw[h1,h2,h3,h4,h5];exact h _ rfl
theorem aax:(Rows.limitsMayRow.wf (OpenSpec.ofChange Rows.limitsMaySpec)&&laidOutB Tryz.prog&&mapsRowed Tryz.prog&&Tryz.f6.params.all (Tryz.prog.readableRec ·)&&namedTie Tryz.prog Rows.limitsMayRow.named Rows.limitsMaySpec.vars&&(Rows.limitsMayRow.stops==[])&&(Tryz.prog.stops==[])&&(Rows.limitsMayRow.knobs==[])&&(Tryz.prog.stopKnobs==[]))=true:=by kernel_rfl
set_option maxHeartbeats 4000000 in
theorem said:Rows.LimitsMaySaid:=
 OpenClaim.holds_of_cond 6 Tryz.f6 rfl rfl rfl rfl rfl rfl rfl ⟨rfl,rfl,rfl,rfl,rfl⟩ rfl rfl rfl rfl rfl (by as_aux_lemma=>kernel_rfl) Tryz.func6 (aaD aax aat aau aav aaw (λb hb=>by as_aux_lemma=>(subst hb;kernel_rfl)))
  (qw (by as_aux_lemma=>kernel_rfl)) (by unfold Func.isWrapper;first|(rw[ar (by decide+kernel)];kernel_rfl)|(rw[ai (by decide+kernel)];exact⟨rfl,rfl⟩))
  (λos started H enc _ F=>by rw[OpenClaim.pre_eq_preRow];exact Lt.ajq os started H enc F)
end lawMay
end
section
namespace lawMay
open Go.ChangeShapes Go.WideShapes Go.ChangeAt Go.RowKit Go.Joins Go.Deep
theorem plain(f:FuncId)(fn:Func)(hf:Tryz.pinned.checked.prog.funcNamed "tintype/tintypelaw30.LimitsMay"=some f)(hfn:Tryz.pinned.checked.prog.funcs[f]? =some fn):
 true=Tryz.pinned.checked.prog.looks []/\∀(j:Nat) t,fn.params[j]? =some t->Tryz.pinned.checked.prog.wantsStandIn t=false:=by
 obtain rfl:f=6:=bu ((show Tryz.prog.funcNamed "tintype/tintypelaw30.LimitsMay"=some 6 by kernel_rfl).symm.trans hf)|>.symm;obtain rfl:fn=Tryz.f6:=(bu (Tryz.func6.symm.trans hfn)).symm;refine⟨aaz,λj t ht=>?_⟩;rw[Tryz.params6] at ht;have h3:t=24:=by have:=Array.mem_of_getElem? ht;simpa using this
 subst h3;exact(show Tryz.prog.wantsStandIn 24=false by kernel_rfl)
theorem card:Rows.LimitsMayCardSaid:=
 Claim7.holds_tied_plain_at .later [] _ _ _ _ said (λ_ h=>by cases h) aaC (λ_ h=>by cases h) limitsMay_row_tie rfl ⟨rfl,rfl⟩ aaA rfl plain aay
end lawMay
end
end
end Go.Proofs.YtfdojmichbgpiaaGreatDoor

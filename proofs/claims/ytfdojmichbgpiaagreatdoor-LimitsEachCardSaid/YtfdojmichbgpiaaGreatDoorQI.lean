import Derived.Shelf.Spec.SlicesInsert
import Derived.Test.YtfdojmichbgpiaaGreatDoorQH
namespace Go.Proofs.YtfdojmichbgpiaaGreatDoor
section
open Go.Shelf Go.RowKit Go.Lib
structure xE(w:World)(r:Option Addr×Nat×Nat×List Value):Prop where
 len:r.2.2.2.length=r.2.1
 cell:∀a,r.1 =some a->∀j u,r.2.2.2[j]? =some u->w.cell? (a.add j)=some u
 nil:r.1 =none->r.2.1 =0
 one:∀u∈r.2.2.2,u.oneCell'=true
def jV(rows:List (Option Addr×Nat×Nat×List Value)):Nat:=(rows.map λr=>r.2.1).sum
def vL(rows:List (Option Addr×Nat×Nat×List Value)):List Value:=rows.flatMap λr=>r.2.2.2
theorem Xh:(Tryz.prog.info? 5).map (λi=>(i.zero,i.size,i.bytes))=some (some (.int .u8 0),1,1):=by kernel_rfl
variable{n:Nat}
theorem Fv{w:World}{B:Nat}{e:TypeId}{k:Nat}{v:Value}{xs:List Value}(h:w.ownsRow B e k v n xs){q:Nat}(hq:v.ownBlock=some q):B<=q:=by
 obtain⟨_,⟨rfl,_⟩|⟨g,cp,_,rfl,hB,_⟩⟩:=h
 ·cases hq
 ·cases hq;exact hB
theorem XW{p a:Option Addr}{cp c:Nat}(h:n<=cp)(w:World):(Builtin.append_ #[28,28] 28 #[.slice p n cp,.slice a 0 c]).run Tryz.prog w=.ok (.slice p n cp) w:=by obtain⟨i,h1,_,h2,_⟩:=info_parts Xh;have A:Lt.uY Tryz.prog w #[28,28] #[.slice p n cp,.slice a 0 c] 28 28 5 (.slice 5) i p n cp (.slice a 0 c) 0:=⟨rfl,rfl,rfl,rfl,Tryz.underlying28,Tryz.underlying28,h1,.inl ⟨rfl,rfl⟩⟩;have:=Lt.AR A (rt:=28) (by omega) (vs:=#[]) (by cases a<;>simp[Lt.pB,Lt.me,Builtin.firstCells,h2,Lt.BF]) (w':=w) (by cases p<;>rfl);simpa using this
set_option maxHeartbeats 4000000 in
set_option maxRecDepth 100000 in
theorem YK(w:World)(b o c:Nat)(rows:List (Option Addr×Nat×Nat×List Value))(_:rows.length<=c)(hc:∀i (h:i<rows.length),w.cell? ⟨b,o+i,none⟩=some (.slice rows[i].1 rows[i].2.1 rows[i].2.2.1))(hr:∀r∈rows,xE w r)(hs:jV rows<=1000000000)(hl:rows.length<=1000):
 Calls Tryz.prog 110 #[.slice (some ⟨b,o,none⟩) rows.length c] w λe w'=>∃v,e=.returned v/\RowKit.Below w.heap.size w w'/\w'.ownsRow w.heap.size 5 1 v (jV rows) (vL rows):=by
 have mixed:Tryz.prog.follows .mixedOrders=true:=by kernel_rfl
 go_enter Tryz.func110,Tryz.ntmps110
 go_wp2
 go_loopw [3,11] (λs p wr=>∃i:Nat,p=.int .i64 i/\i<=rows.length/\s=.int .i64 (jV (rows.take i))/\wr=w) (λs p wr=>rows.length -(Lib.intOf p).toNat)
 case atStart=>exact⟨0,rfl,gZ _,rfl,rfl⟩
 case round=>
  obtain⟨i,rfl,hi,rfl,hw⟩:=hrel;have hw:=hw.symm;subst hw;rcases dg i rows.length with hin|hin
  ·have h0:=hc i hin;have hs1:jV (rows.take (i+1))=jV (rows.take i)+rows[i].2.1 :=by
    unfold jV;rw[List.take_add_one,dD hin,jZ,List.sum_append];simp
   have hle:jV (rows.take (i+1))<=jV rows:=by
    unfold jV
    conv=>rhs;rw[<-mD (i+1) rows]
    rw[jZ,List.sum_append];omega
   go_wp2_with fail
   refine⟨⟨i+1,by simp,by omega,?_,trivial⟩,by simp[Lib.intOf];omega⟩;rw[hs1];simp
  ·obtain rfl:i=rows.length:=by omega
   rw[rG]
   go_wp2_with (go_at_call 178;refine(ZZ (jV rows) hs _).mono ?_;rintro e w1 ⟨v,rfl,b1,o1⟩)
   obtain⟨ti,t1,t2,t3,t4⟩:=info_parts Xh
   go_loopw [6,27] (λs p wr=>∃i:Nat,p=.int .i64 i/\i<=rows.length/\wr.ownsRow w.heap.size 5 1 s (jV (rows.take i)) (vL (rows.take i))/\RowKit.Below w.heap.size w wr) (λs p wr=>rows.length -(Lib.intOf p).toNat)
   case atStart=>exact⟨0,rfl,gZ _,o1,b1⟩
   case round=>
    obtain⟨i,rfl,hi,ho,hb⟩:=hrel;rcases dg i rows.length with hin|hin
    ·have hr0:=hr rows[i] (dL hin);have h0:=hc i hin;have h0:=(hb.cell (ji _ _ h0)).trans h0;have hs1:jV (rows.take (i+1))=jV (rows.take i)+rows[i].2.1 :=by
      unfold jV;rw[List.take_add_one,dD hin,jZ,List.sum_append];simp
     have hc1:vL (rows.take (i+1))=vL (rows.take i)++rows[i].2.2.2 :=by unfold vL;rw[List.take_add_one,dD hin,gq];simp
     have hle:jV (rows.take (i+1))<=jV rows:=by
      unfold jV
      conv=>rhs;rw[<-mD (i+1) rows]
      rw[jZ,List.sum_append];omega
     rw[hs1] at hle;generalize hR:rows[i]=r at*;obtain⟨a,n,c',xs⟩:=r;obtain⟨r1,r2,r3,r4⟩:=hr0;simp only at r1 r2 r3 r4 hle h0 hs1 hc1;cases a with
     |none=>
      have r3:=r3 rfl;subst r3;have:xs=[]:=jJ r1;subst this;obtain⟨p,n',cp,rfl,hcp⟩:∃p n' cp,u6=.slice p n' cp/\n'<=cp:=by
       obtain⟨_,⟨rfl,_⟩|⟨g,cp,_,rfl,_,_,h,_⟩⟩:=ho
       ·exact⟨_,_,_,rfl,aB _⟩
       ·exact⟨_,_,_,rfl,h⟩
      go_wp2_with (at_builtin;refine wpList_append_run _ rfl _ _ 28 28 rfl _ _ rfl rfl _ _ (XW hcp _) ?_)
      refine⟨⟨i+1,by simp,by omega,?_,hb⟩,by simp[Lib.intOf];omega⟩;rw[hs1,hc1];simpa using ho
     |some a=>
      have cell':∀j u,xs[j]? =some u->wr.cell? (a.add j)=some u:=λj u hu=>(hb.cell (ji _ _ (r2 a rfl j u hu))).trans (r2 a rfl j u hu)
      go_wp2_with (at_builtin;go_loud (refine wpList_append_own _ rfl _ _ 28 rfl w.heap.size 5 ti (.int .u8 0) 1 1 Tryz.underlying28 t1 t2 t3 t4 rfl (by decide) _ _ _ rfl ho a n c' xs rfl (by omega) cell' r4 (by unfold maxLen;omega) (by omega) hb.size ?_;intro v' w' ho' hg hnil))
      refine⟨⟨i+1,by simp,by omega,?_,?_⟩,by simp[Lib.intOf];omega⟩
      ·rw[hs1,hc1];exact ho'
      ·exact hb.grown hg hb.size λq e=>Fv ho e
    ·obtain rfl:i=rows.length:=by omega
     rw[rG] at ho
     go_wp2
     go_ret
     exact⟨_,rfl,hb,ho⟩
end
namespace Lt
section
open Go.Shelf Go.RowKit Go.Lib
variable{h:Heap} {nx:Nat} {w w':World} {ρ:Ren}
theorem bh.J6(H:bh ρ h w)(hn:ρ nx=none){ob:eV}{L:Loc}(hL:w.heap.size<=L.block)
 (he:∀b,b<w.heap.size->w'.heap[b]? =w.heap[b]?) (hO:lh (ρ.with nx L) w' L ob):bh (ρ.with nx L) (h.set nx ob) w' where
 obj p x hp:=by
  rw[Tr.bD] at hp;by_cases e:p=nx
  ·rw[ar e] at hp;subst e;obtain rfl:=bu hp;exact⟨L,Ren.iO _ _ _,hO⟩
  ·rw[ai e] at hp;obtain⟨M,h1,h2⟩:=H.obj p x hp;exact⟨M,(Ren.sX hn).cq _ _ h1,(h2.mono (Ren.sX hn)).block (he _ h2.lt)⟩
 inj p q M M' x y hp hq r1 r2 hb:=by
  rw[Tr.bD] at hp hq;by_cases e:p=nx
  ·by_cases e':q=nx
   ·rw[e,e']
   ·rw[ai e'] at hq;rw[e,Ren.iO] at r1;rw[Ren.jX e'] at r2;obtain rfl:=bu r1;obtain⟨N,a1,a2⟩:=H.obj q y hq;obtain rfl:=bu (a1.symm.trans r2);have:=a2.lt;omega
  ·rw[ai e] at hp;rw[Ren.jX e] at r1;by_cases e':q=nx
   ·rw[e',Ren.iO] at r2;obtain rfl:=bu r2;obtain⟨N,a1,a2⟩:=H.obj p x hp;obtain rfl:=bu (a1.symm.trans r1);have:=a2.lt;omega
   ·rw[ai e'] at hq;rw[Ren.jX e'] at r2;exact H.inj p q M M' x y hp hq r1 r2 hb
 lit b i v hv:=by have hv:ρ.lit b i=some v:=hv;rw[oe (he b (H.yL hv))];exact H.lit b i v hv
 free b i v hv p x M hp hM:=by
  have hv:ρ.lit b i=some v:=hv;rw[Tr.bD] at hp;by_cases e:p=nx
  ·rw[e,Ren.iO] at hM;obtain rfl:=bu hM;have:=H.yL hv;omega
  ·rw[ai e] at hp;rw[Ren.jX e] at hM;exact H.free b i v hv p x M hp hM
theorem bP.J6{ob:eV}{L:Loc}(hL:w.heap.size<=L.block)
 (h1:w'.os=w.os) (h2:w'.tape=w.tape) (h3:w'.output=w.output) (h4:w.heap.size<=w'.heap.size)
 (he:∀b,b<w.heap.size->w'.heap[b]? =w.heap[b]?):bP ρ h nx w (ρ.with nx L) (h.set nx ob) (nx+1) w' where
 os:=h1
 tape:=h2
 output:=h3
 size:=h4
 block b hb _:=he b hb
 owned b hb ho:=by
  obtain⟨p,x,M,a1,a2,a3⟩:=ho;rw[Tr.bD] at a1;by_cases e:p=nx
  ·rw[e,Ren.iO] at a2;obtain rfl:=bu a2;omega
  ·rw[ai e] at a1;rw[Ren.jX e] at a2;exact⟨p,x,M,a1,a2,a3⟩
 le:=kc _
 cq o ho:=Ren.jX (by omega)
 lit _ _ _ h:=h
 eU _ _ _ h:=.inl h
def YJ:HT:=⟨1,⟨[(0,.w7 0 0 4 4)],[(0,.cells [.gr 1 1,.v,.v,.v] 28),(1,.grow 1 5)],2⟩,0,⟨[(0,.gr 0 1)],[(0,.grow 1 5)],1⟩⟩
noncomputable def uF(_:Nat):Value->Value->Value->List Value->Option (List Value):=λa b c d=>ob (rF d) λds=>jQ a λxs=>jQ b λys=>jQ c λzs=>
 cond (Nat.blt 0 (ds++(xs++(ys++zs))).length&&Nat.ble (ds++(xs++(ys++zs))).length 1000000000) (some (bd (ds++(xs++(ys++zs))))) none
theorem Xk:∀{l:List Value}{xs:List Int},rF l=some xs->l=bd xs
 |[],_,e=>by cases e;rfl
 |v::l,xs,e=>by
  unfold rF at e;split at e
  ·rename_i q;cases q
  ·rename_i b l' q;cases q;replace e:=af e;obtain⟨ys,h1,e⟩:=e;cases e;rw[Xk h1];rfl
  ·cases e
variable{x:Value} {β:Type} {b:β}
theorem Jp{K:List Int->Option β}(e:jQ x K=some b):∃xs,K xs=some b:=by
 unfold jQ at e;split at e
 ·obtain⟨_,e⟩:=aT e;replace e:=af e;obtain⟨xs,_,e⟩:=e;exact⟨xs,e⟩
 ·cases e
theorem Mg{σ:Nm}(hm:Kn ρ.lit w){v y:Value}{K:List Int->Option β}(e:jQ x K=some b)(d:DV σ (.v x) v)(r:aF ρ v y):
 ∃xs p c,K xs=some b/\y=.slice p xs.length c/\xE w (p,xs.length,c,bd xs):=by
 have cells:∀(xs:List Int)(a:Addr),(∀i,i<xs.length->w.cell? (a.add i)=some (.int .u8 (xs.getD i 0)))->∀j u,(bd xs)[j]? =some u->w.cell? (a.add j)=some u:=λxs a h j u hu=>by
  have hj:j<xs.length:=by
   rcases dg j xs.length with q|q
   ·exact q
   ·rw[lN (by simp[bd];omega)] at hu;cases hu
  rw[h j hj];unfold bd at hu;rw[List.getElem?_map,dD hj] at hu;rw[Ao,dD hj];simpa using hu
 cases d with
 |v h h1=>
  obtain⟨xs,hK,⟨a,c,rfl,_,hc⟩|⟨rfl,c,rfl⟩⟩:=A7 hm e (h.rel r)
  ·exact⟨xs,some a,c,hK,rfl,by simp[bd],λq hq=>by cases hq;exact cells xs a hc,(λq=>by cases q),rU _⟩
  ·exact⟨[],none,c,hK,rfl,rfl,(λ_ q=>by cases q),λ_=>rfl,rU _⟩
 |im=>cases r;exact⟨[],none,0,e,rfl,rfl,(λ_ q=>by cases q),λ_=>rfl,rU _⟩
set_option maxHeartbeats 1000000 in
set_option maxRecDepth 10000 in
theorem abI(w:Nat):pq Tryz.prog 110 YJ (uF w):=by
 intro ls r st so e hst hso σ vs h nx hlen R;obtain⟨a,b,c,d,rfl⟩:∃a b c d,ls=[.v a,.v b,.v c,.c d]:=by
  match ls,e with
  |[.v a,.v b,.v c,.c d],_=>exact⟨a,b,c,d,rfl⟩
  |[],e=>cases e
  | .i _::_,e=>cases e
  | .b _::_,e=>cases e
  | .s _::_,e=>cases e
  | .n _::_,e=>cases e
  | .c _::_,e=>cases e
  |[.v _],e=>cases e
  | .v _::.i _::_,e=>cases e
  | .v _::.b _::_,e=>cases e
  | .v _::.s _::_,e=>cases e
  | .v _::.n _::_,e=>cases e
  | .v _::.c _::_,e=>cases e
  |[.v _,.v _],e=>cases e
  | .v _::.v _::.i _::_,e=>cases e
  | .v _::.v _::.b _::_,e=>cases e
  | .v _::.v _::.s _::_,e=>cases e
  | .v _::.v _::.n _::_,e=>cases e
  | .v _::.v _::.c _::_,e=>cases e
  |[.v _,.v _,.v _],e=>cases e
  | .v _::.v _::.v _::.i _::_,e=>cases e
  | .v _::.v _::.v _::.b _::_,e=>cases e
  | .v _::.v _::.v _::.s _::_,e=>cases e
  | .v _::.v _::.v _::.n _::_,e=>cases e
  | .v _::.v _::.v _::.v _::_,e=>cases e
  | .v _::.v _::.v _::.c _::_::_,e=>cases e
 replace e:uF w a b c d=some r:=e;cases hst;cases hso;unfold uF at e;replace e:=af e;obtain⟨ds,hd,e⟩:=e;have hds:=Xk hd;subst hds;obtain⟨v0,rfl⟩:∃v,vs=[v]:=by
  match vs,hlen with
  |[v],_=>exact⟨v,rfl⟩
 obtain⟨u0,h0,d0⟩:=R.tm 0 (.sl 0 0 4 4) rfl;have h0:some v0=some u0:=h0;cases h0;obtain⟨o0,m0,ws,k1,k2,k3⟩:=R.obj 0 (.cells [.gr 1 1,.v a,.v b,.v c] 28) rfl;have hv0:v0=.slice (some ⟨o0,0,none⟩) 4 4:=by
  cases d0 with
  |sl g _ _=>rw[k1] at g;cases g;rfl
 subst hv0;cases k3 with|cons x0 k3=>?_
 cases k3 with|cons x1 k3=>?_
 cases k3 with|cons x2 k3=>?_
 cases k3 with|cons x3 k3=>?_
 cases k3;rename_i y0 y1 y2 y3;obtain⟨_,k5,k6⟩:=R.obj 1 (.grow 1 (bd ds) 5) rfl;have key:∀(ρ:Ren)(w:World),Kn ρ.lit w->∀z1 z2 z3,aF ρ y1 z1->aF ρ y2 z2->aF ρ y3 z3->∃xs ys zs p1 c1 p2 c2 p3 c3,(cond (Nat.blt 0 (ds++(xs++(ys++zs))).length&&Nat.ble (ds++(xs++(ys++zs))).length 1000000000) (some (bd (ds++(xs++(ys++zs))))) none=some r)/\
  z1=.slice p1 xs.length c1/\xE w (p1,xs.length,c1,bd xs)/\z2=.slice p2 ys.length c2/\xE w (p2,ys.length,c2,bd ys)/\z3=.slice p3 zs.length c3/\xE w (p3,zs.length,c3,bd zs):=by
  intro ρ w hm z1 z2 z3 r1 r2 r3;obtain⟨xs,p1,c1,e1,q1,t1⟩:=Mg hm e x1 r1;obtain⟨ys,p2,c2,e2,q2,t2⟩:=Mg hm e1 x2 r2;obtain⟨zs,p3,c3,e3,q3,t3⟩:=Mg hm e2 x3 r3;exact⟨xs,ys,zs,p1,c1,p2,c2,p3,c3,e3,q1,t1,q2,t2,q3,t3⟩
 have hr:∃rs:List Int,r=bd rs/\0<rs.length/\rs.length<=1000000000:=by obtain⟨xs,e1⟩:=Jp e;obtain⟨ys,e2⟩:=Jp e1;obtain⟨zs,e3⟩:=Jp e2;obtain⟨q,e4⟩:=aT e3;rw[bg] at q;exact⟨_,(bu e4).symm,cT q.1,cI q.2⟩
 obtain⟨rs,rfl,hr1,hr2⟩:=hr;refine⟨λid=>if id=0 then some (some nx,rs.length) else none,.slice (some ⟨nx,0,none⟩) rs.length (bt+1),h.set nx (.cells (bd rs) 5 true),nx+1,?_,kc _,⟨λt sv ht=>?_,λid so hs=>?_,λid id' so so' o1 n1 n1' a1 a2 _ _=>?_,λid o n q=>?_,λid q=>?_⟩,⟨λk hk=>absurd hk (Nat.not_lt_zero k),λid o n q=>?_⟩⟩
 ·intro ρ args' cs w1 A H N;obtain⟨al⟩:=args';replace A:bk ρ _ al:=A;obtain⟨x0',rfl⟩:∃x,al=[x]:=by
   have:=A.length
   match al,this with
   |[x],_=>exact⟨x,rfl⟩
  cases A with|cons a0 A=>?_
  cases A;obtain⟨L0,hL0,cz,fz,q1,q2,q3⟩:=H.obj o0 _ k2;obtain⟨c1,c2,c3,c4⟩:=q3;obtain⟨hbase,hsz⟩:=c3 rfl;obtain⟨z0,g0,r0⟩:=c4 0 y0 rfl;obtain⟨z1,g1,r1⟩:=c4 1 y1 rfl;obtain⟨z2,g2,r2⟩:=c4 2 y2 rfl;obtain⟨z3,g3,r3⟩:=c4 3 y3 rfl;obtain⟨xs,ys,zs,p1,n1,p2,n2,p3,n3,e3,rfl,t1,rfl,t2,rfl,t3⟩:=key ρ w1 H.lit z1 z2 z3 r1 r2 r3;have e3:=(bu (aT e3).2).symm;have hrs:rs=ds++(xs++(ys++zs)):=by
   have:(bd rs).length=(bd (ds++(xs++(ys++zs)))).length:=by rw[e3]
   simp only[bd,eD] at this;refine s9 λi=>?_;have h2:=bK (·[i]?) e3;simp only[bd,List.getElem?_map] at h2;cases h3:rs[i]? <;>cases h4:(ds++(xs++(ys++zs)))[i]? <;>simp_all
  obtain⟨p0,n0,rfl,t0⟩:∃p c,z0=.slice p ds.length c/\xE w1 (p,ds.length,c,bd ds):=by
   cases x0 with
   |gP g=>
    cases r0;rcases k6 with⟨_,hd0⟩|⟨o,n,g1,_⟩
    ·have:ds=[]:=by cases ds<;>simp_all[bd]
     subst this;exact⟨none,0,rfl,rfl,(λ_ q=>by cases q),λ_=>rfl,rU _⟩
    ·rw[g] at g1;cases g1
   |@gr _ _ o n g=>
    rcases k6 with⟨g1,_⟩|⟨o',n',g1,hlen,us,g2,g3⟩
    ·rw[g] at g1;cases g1
    ·have g9:=bu (g.symm.trans g1);injection g9 with g7 g8;injection g7 with g7;subst g7 g8;have hn:n=ds.length:=by simp[bd] at hlen;omega
     subst hn;obtain⟨L1,hL1,cz1,fz1,b1,b2,b3⟩:=H.obj o _ g2;obtain⟨_,_,_,b4⟩:=b3;have hz:∃c,z0=.slice (some ⟨L1.block,L1.base+0,none⟩) ds.length c:=by
      generalize hs:Value.slice (some ⟨o,0,none⟩) ds.length (bt+1)=sv at r0;cases r0<;>first
       |(cases hs;done)
       |(injection hs with e1 e2 e3;exfalso;omega)
       |(injection hs with e1 e2 e3;exfalso;unfold bt at e3;omega)
       |(injection hs with e1 e2 e3;injection e1 with e1;injection e1 with e1 e4;subst e1 e2 e4;obtain rfl:=bu (hL1.symm.trans (by assumption));exact⟨_,rfl⟩)
     obtain⟨c',rfl⟩:=hz;refine⟨_,c',rfl,by simp[bd],λq hq j u hu=>?_,(λq=>by cases q),rU _⟩;cases hq;obtain⟨u',a1,a2⟩:=g3.get hu;have hu8:∃n,u=.int .u8 n:=by obtain⟨q8,_,h8⟩:=List.mem_map.1 (qv hu);exact⟨q8,h8.symm⟩
     obtain⟨n8,rfl⟩:=hu8;have hu':u'=.int .u8 n8:=by
      rcases a2 with rfl|⟨q,_⟩
      ·rfl
      ·cases q
     subst hu';obtain⟨v',w1',w2'⟩:=b4 j _ a1;cases w2';rw[Addr.add_lit];unfold World.cell?;simp only[b1];simpa using w1'
  have hx:x0'=.slice (some ⟨L0.block,L0.base+0,none⟩) 4 4:=by
   generalize hs:Value.slice (some ⟨o0,0,none⟩) 4 4=sv at a0;cases a0<;>first
    |(cases hs;done)
    |(injection hs with e1 e2 e3;exfalso;unfold bt at e3;omega)
    |(injection hs with e1 e2 e3;exfalso;omega)
    |(injection hs with e1 e2 e3;injection e1 with e1;injection e1 with e1 e4;subst e1 e2 e3 e4;obtain rfl:=bu (hL0.symm.trans (by assumption));rfl)
  subst hx;have hcell:∀i v,cz[L0.base+i]? =some v->w1.cell? ⟨L0.block,L0.base+0+i,none⟩=some v:=λi v hv=>by unfold World.cell?;simp only[q1];simpa using hv
  have hN:jV [(p0,ds.length,n0,bd ds),(p1,xs.length,n1,bd xs),(p2,ys.length,n2,bd ys),(p3,zs.length,n3,bd zs)]=rs.length:=by rw[hrs];simp[jV]
  have hC:vL [(p0,ds.length,n0,bd ds),(p1,xs.length,n1,bd xs),(p2,ys.length,n2,bd ys),(p3,zs.length,n3,bd zs)]=bd rs:=by rw[hrs];simp[vL,bd]
  obtain⟨e,w',fr,⟨v,rfl,B,O⟩,cc,hfnn,l1,l2,l3,fn,l4,l5⟩:=YK w1 L0.block (L0.base+0) 4 [(p0,ds.length,n0,bd ds),(p1,xs.length,n1,bd xs),(p2,ys.length,n2,bd ys),(p3,zs.length,n3,bd zs)] (by simp)
   (λi hi=>by
    have:i=0\/i=1\/i=2\/i=3:=by simp at hi;omega
    rcases this with rfl|rfl|rfl|rfl
    ·exact hcell 0 _ g0
    ·exact hcell 1 _ g1
    ·exact hcell 2 _ g2
    ·exact hcell 3 _ g3)
   (λr hr=>by
    simp only[cj,jh,jj] at hr;rcases hr with rfl|rfl|rfl|rfl
    ·exact t0
    ·exact t1
    ·exact t2
    ·exact t3)
   (by rw[hN];exact hr2) (by simp) cs
  rw[hN,hC] at O;obtain⟨_,⟨_,h0⟩|⟨g,cap,cur,rfl,hB,hg,hnc,_,hcs,htk⟩⟩:=O
  ·omega
  have hn:ρ nx=none:=N nx (aB _) (pj _);rw[gM] at hcs htk;refine⟨ρ.with nx ⟨g,0,cur.size⟩,fr,w',fn,_,cc,l1,l2,l3,⟨hfnn,l4⟩,l5,aF.gz (off:=0) (E:=1) (Ren.iO ρ nx _) Nat.one_pos (by simp[hcs]) hnc,H.J6 hn hB B.block ⟨cur,(0,0),hg,KU _,rfl,?_,(λq=>by cases q),λi u hu=>⟨u,?_,?_⟩⟩,bP.J6 hB B.os B.tape B.output B.size B.block⟩
  ·simp[bd,hcs];exact hnc
  ·rw[<-htk,qq] at hu;split at hu
   ·simpa using hu
   ·cases hu
  ·obtain⟨q,_,rfl⟩:=List.mem_map.1 (qv hu);exact .int _ _
 ·have ht:(Tr.nil.set 0 (SV.gr 0 1)).get t=some sv:=ht;rw[Tr.bD] at ht⊢;by_cases q:t=0
  ·rw[ar q] at ht⊢;cases ht;exact⟨_,rfl,.gr (by simp)⟩
  ·rw[ai q,Tr.get_nil] at ht;cases ht
 ·have hs:(Tr.nil.set 0 (SO.grow 1 (bd rs) 5)).get id=some so:=hs;rw[Tr.bD] at hs;by_cases q:id=0
  ·rw[ar q] at hs;cases hs;subst q;exact⟨by decide,D1 _,.inr ⟨nx,rs.length,by simp,by simp[bd],_,by rw[Tr.bD,ar rfl],cU.refl _⟩⟩
  ·rw[ai q,Tr.get_nil] at hs;cases hs
 ·have key:∀i s,(Tr.nil.set 0 (SO.grow 1 (bd rs) 5)).get i=some s->i=0:=by
   intro i s hs;rw[Tr.bD] at hs;by_cases q:i=0
   ·exact q
   ·rw[ai q,Tr.get_nil] at hs;cases hs
  rw[key id so a1,key id' so' a2]
 ·split at q
  ·cases q;omega
  ·cases q
 ·have q:1<=id:=q;exact ai (by omega)
 ·split at q
  ·cases q;exact .inl (aB _)
  ·cases q
end
end Lt
section
open Go.Shelf Go.RowKit Go.Lib
theorem uv:∀(vs:List Value)(n:Nat)(c:List Value),n+vs.length<=c.length->Lt.aW n vs c=c.take n++(vs++c.drop (n+vs.length))
 |[],n,c,_=>by simp[Lt.aW]
 |v::vs,n,c,h=>by simp only[cQ] at h;rw[Lt.aW,uv vs (n+1) _ (by simp;omega),List.take_add_one,List.take_set_of_le (aB _),List.getElem?_set_self (by omega),List.drop_set_of_lt (by omega)];simp[show n+1+vs.length=n+(vs.length+1) by omega]
structure nM(b:Nat)(cs:Array Value)(t:TypeId)(fz:Nat×Nat)(w w':World):Prop where
 os:w'.os=w.os
 tape:w'.tape=w.tape
 output:w'.output=w.output
 size:w'.heap.size=w.heap.size
 block:∀k,k≠b->w'.heap[k]? =w.heap[k]?
 at_:w'.heap[b]? =some (.cells cs t fz)
theorem Gd{P:Program}{w:World}{T e ty:TypeId}{size:Nat}(hu:P.underlying T=some (.slice e))(hs:∀w,(sizeOf e).run P w=.ok size w){b1 o1 n1 c1 b2 o2 n2 c2 k:Nat}(hk:k=Nat.min n2 n1){cs1 cs2:Array Value}{t1 t2:TypeId}{fz1 fz2:Nat×Nat}
 (h1:w.heap[b1]? =some (.cells cs1 t1 fz1)) (hz:Lt.vc fz1 cs1.size) (h2:w.heap[b2]? =some (.cells cs2 t2 fz2)) (g1:o1+k*size<=cs1.size) (g2:o2+k*size<=cs2.size) (ho:∀v∈(cs2.toList.drop o2).take (k*size),v.oneCell'=true):
 ∃w',(Builtin.copy_ #[T,T] ty #[.slice (some ⟨b1,o1,none⟩) n1 c1,.slice (some ⟨b2,o2,none⟩) n2 c2]).run P w=.ok (.int .i64 k) w'/\nM b1 ⟨Lt.aW o1 ((cs2.toList.drop o2).take (k*size)) cs1.toList⟩ t1 fz1 w w':=by
 subst hk;obtain⟨vs,p1,p2⟩:=Lt.Ge P h2 g2;have hl:vs.toList.length=Nat.min n2 n1*size:=by rw[p2,dH,dZ];simp;omega
 obtain⟨w',q1,q2,q3,q4,q5,q6,q7⟩:=Lt.zj P (k:=o1) vs.toList 0 w cs1 h1 hz (by omega) (λv hv=>ho v (p2▸hv));refine⟨w',?_,⟨q5,q6,q7,q4,q3,by rw[q2,p2];rfl⟩⟩;have hf:(Builtin.firstCells size (Nat.min n2 n1) (.slice (some ⟨b2,o2,none⟩) n2 c2)).run P w=.ok vs w:=by unfold Builtin.firstCells;exact p1
 unfold Builtin.copy_;simp only[List.getElem?_toArray,List.getElem?_cons_zero,List.getElem?_cons_succ,dO,run_underlying hu,hs,gA,Builtin.lenOf,fQ,hf,q1];rfl
end
section
open Go.Shelf Go.RowKit Go.Lib
theorem Ac:(Tryz.prog.info? 73).map (λi=>(i.zero,i.size,i.bytes))=some (some (.agg #[.int .i64 0,.int .i64 0,.int .i64 0,.slice none 0 0]),4,48):=by kernel_rfl
theorem Dc(w:World):(sizeOf 73).run Tryz.prog w=.ok 4 w:=by obtain⟨i,h1,_,h2,_⟩:=info_parts Ac;simp[sizeOf,typeInfo,h1,h2]
structure vk(w:World)(g n cp:Nat)(cur:Array Value):Prop where
 at_:w.heap[g]? =some (.cells cur 73 (0,0))
 size:cur.size=cp*4
 le:n<=cp
 few:n<1000000000
 one:∀v∈cur.toList.take (n*4),v.oneCell'=true
variable{cp g i n:Nat} {cur:Array Value} {w:World}
theorem vk.bB(h:vk w g n cp cur)(hi:i<=n):∀v∈(cur.toList.drop (i*4)).take ((n -i)*4),v.oneCell'=true:=λv hv=>h.one v (by
 have:(cur.toList.drop (i*4)).take ((n -i)*4)=(cur.toList.take (n*4)).drop (i*4):=by rw[List.drop_take];congr 1;omega
 rw[this] at hv;exact xr hv)
variable{X:List Value}
theorem aai{L S:List Value}(hX:X.length=4)(hS:S.length=(n -i)*4)(h1:(i+1)*4+S.length<=L.length)(hi:i<=n):
 (Lt.aW (i*4) ((X.drop 0).take (1*4)) (Lt.aW ((i+1)*4) S L)).take ((n+1)*4)=L.take (i*4)++(X++S):=by
 have hx:(X.drop 0).take (1*4)=X:=by rw[eL,gh (by omega)]
 have a1:∀D,(L.take ((i+1)*4)++(S++D)).take (i*4)=L.take (i*4):=λD=>by rw[List.take_append_of_le_length (by rw[dH];omega),List.take_take,kE (by omega)]
 have a2:∀D,(L.take ((i+1)*4)++(S++D)).drop (i*4+X.length)=S++D:=λD=>by rw[List.drop_left' (by rw[dH];omega)]
 rw[hx,uv X _ _ (by rw[Lt.kq];omega),uv S _ _ h1,a1,a2];rw[<-dY X,<-dY (L.take _),List.take_left' (by simp only[aR,dH];omega)]
set_option maxHeartbeats 4000000 in
set_option maxRecDepth 100000 in
theorem aan{vb:Nat}(hr:vk w g n cp cur)(hX:X.length=4)(hx1:∀v∈X,v.oneCell'=true)(hv:w.heap[vb]? =some (.cells ⟨X⟩ 73 (0,0)))(ca:vb≠g)(hi:i<n)(hc:n+1<=cp):
 Calls Tryz.prog 299 #[.slice (some ⟨g,0,none⟩) n cp,.int .i64 i,.slice (some ⟨vb,0,none⟩) 1 1] w λe w'=>∃cur',e=.returned (.slice (some ⟨g,0,none⟩) (n+1) cp)/\nM g cur' 73 (0,0) w w'/\cur'.toList.take ((n+1)*4)=cur.toList.take (i*4)++(X++(cur.toList.drop (i*4)).take ((n -i)*4)):=by
 have h1:=hr.bB (Nat.le_of_lt hi);obtain⟨hg,hsz,hn,hm,_⟩:=hr;have mixed:Tryz.prog.follows .mixedOrders=true:=by kernel_rfl
 have hcs:cur.toList.length=cp*4:=hsz;have hov:∀lb cb,(callFunc 342 #[.slice (some ⟨vb,0,none⟩) 1 1,.slice (some ⟨g,(i+1)*4,none⟩) lb cb]).run Tryz.prog w=.ok (.value (.bool false)) w:=λlb cb=>by
  rw[run_callFunc_extern Tryz.func342 (by kernel_rfl) (by kernel_rfl) (by kernel_rfl) (e:=Extern.SlicesOverlaps.overlaps #[27,27] #[4]) (by kernel_rfl),
   Lib.run_overlaps_apart w 27 4 73 Tryz.underlying27 4 Dc ⟨vb,0,none⟩ ⟨g,(i+1)*4,none⟩ 1 1 lb cb ca 73 73 4 (cp*4) (by simp[World.shape?,hv,hX]) (by simp[World.shape?,hg,hsz]) (by omega) (by simp[World.frozen?,hv]) (by simp[World.frozen?,hv])]
  rfl
 obtain⟨w1,p1,p2⟩:=Gd (P:=Tryz.prog) (ty:=3) (T:=27) (w:=w.drew) Tryz.underlying27 Dc (b1:=g) (o1:=(i+1)*4) (n1:=n -i) (c1:=cp -(i+1)) (b2:=g) (o2:=i*4) (n2:=n+1 -i) (c2:=cp -i) (k:=n -i) (by simp only[Nat.min_def];split<;>omega) hg (.inl rfl) hg (by omega) (by omega) h1;have hl1:((cur.toList.drop (i*4)).take ((n -i)*4)).length=(n -i)*4:=by rw[dH,dZ];omega
 have e1:=uv ((cur.toList.drop (i*4)).take ((n -i)*4)) ((i+1)*4) cur.toList (by omega);have hv1:w1.heap[vb]? =some (.cells ⟨X⟩ 73 (0,0)):=(p2.block vb ca).trans hv;obtain⟨w2,q1,q2⟩:=Gd (P:=Tryz.prog) (ty:=3) (T:=27) (w:=w1) Tryz.underlying27 Dc (b1:=g) (o1:=i*4) (n1:=n+1 -i) (c1:=cp -i) (b2:=vb) (o2:=0) (n2:=1) (c2:=1) (k:=1) (by simp only[Nat.min_def];split<;>omega) p2.at_ (.inl rfl) hv1 (by simp[Lt.kq];omega) (by simp[hX]) (λv h=>hx1 v (xr (List.mem_of_mem_take h)))
 go_enter Tryz.func299,Tryz.ntmps299
 have n1:¬((i:Int)=(n:Int)):=by omega
 have n2:¬(cp:Int)<(n:Int)+1:=by omega
 have n3:¬cp=i+1:=by omega
 have n4:¬cp=i:=by omega
 have n5:IntKind.i64.wrap ((i:Int)+1)=(i:Int)+1:=by rw[IntKind.wrap_i64];omega
 have n6:(0:Int)<=(i:Int)+1:=by omega
 have n7:((i:Int)+1).toNat=i+1:=by omega
 have n8:(i:Int)+1<=(n:Int)+1:=by omega
 have n9:(i:Int)<=(n:Int)+1:=by omega
 have n10:n+1 -(i+1)=n -i:=by omega
 go_wp2_with (simp only[hov])
 go_region_law_o (refine step_copy_runI rfl _ _ 27 27 rfl _ _ (by simp[Act.eval,Act.put]) (by simp[Act.eval,Act.put]) p1 ?_)
 go_wp2_with (at_builtin;refine wpList_copy_runI _ rfl _ _ 27 27 rfl _ _ rfl rfl q1 ?_)
 go_ret
 refine⟨_,rfl,⟨q2.os.trans p2.os,q2.tape.trans p2.tape,q2.output.trans p2.output,q2.size.trans p2.size,λk hk=>(q2.block k hk).trans (p2.block k hk),q2.at_⟩,?_⟩;exact aai hX hl1 (by omega) (by omega)
end
section
open Go.Shelf Go.RowKit Go.Lib
variable{X:List Value} {i n:Nat}
theorem aaj{L S Z:List Value}(hX:X.length=4)(hS:S.length=(n -i)*4)(hL:L.length=i*4)(hZ:(n+1 -i)*4<=Z.length)(hi:i<=n):
 (Lt.aW ((i+1)*4) S (Lt.aW (i*4) ((X.drop 0).take (1*4)) (L++Z))).take ((n+1)*4)=L++(X++S):=by
 have hx:(X.drop 0).take (1*4)=X:=by rw[eL,gh (by omega)]
 have a0:(L++Z).length=i*4+Z.length:=by rw[aR,hL]
 have a1:(L++Z).take (i*4)=L:=List.take_left' hL;have a2:(L++(X++(L++Z).drop (i*4+X.length))).take ((i+1)*4)=L++X:=by rw[<-dY,List.take_left' (by rw[aR];omega)]
 rw[hx,uv X _ _ (by omega),a1,uv S _ _ (by simp only[aR,dZ];omega),a2];rw[<-dY,List.take_left' (by simp only[aR];omega),dY]
set_option maxHeartbeats 4000000 in
set_option maxRecDepth 100000 in
theorem aam{w:World}{g cp vb:Nat}{cur:Array Value}(hr:vk w g n cp cur)(hX:X.length=4)(hx1:∀v∈X,v.oneCell'=true)(hv:w.heap[vb]? =some (.cells ⟨X⟩ 73 (0,0)))(hi:i<n)(hc:cp<n+1):
 Calls Tryz.prog 299 #[.slice (some ⟨g,0,none⟩) n cp,.int .i64 i,.slice (some ⟨vb,0,none⟩) 1 1] w λe w'=>∃cur' cp',e=.returned (.slice (some ⟨w.heap.size,0,none⟩) (n+1) cp')/\n+1<=cp'/\RowKit.Below w.heap.size w w'/\w'.heap[w.heap.size]? =some (.cells cur' 73 (0,0))/\
  cur'.toList.take ((n+1)*4)=cur.toList.take (i*4)++(X++(cur.toList.drop (i*4)).take ((n -i)*4)):=by
 have h1:=hr.bB (Nat.le_of_lt hi);obtain⟨hg,hsz,hn,hn9,_⟩:=hr;have mixed:Tryz.prog.follows .mixedOrders=true:=by kernel_rfl
 have hcs:cur.toList.length=cp*4:=hsz;obtain⟨inf,i1,i2,i3,i4⟩:=info_parts Ac;obtain⟨old,o1,o2⟩:=Lt.Ge Tryz.prog (w:=Lt.jx w) (b:=g) (k:=0) (n:=i*4) hg (by omega);have A:Lt.uY Tryz.prog w #[27,3] #[.slice (some ⟨g,0,none⟩) i cp,.int .i64 ((n:Int)+1 -i)] 27 3 73 (.int .i64) inf (some ⟨g,0,none⟩) i cp (.int .i64 ((n:Int)+1 -i)) (n+1 -i):=
  ⟨rfl,rfl,rfl,rfl,Tryz.underlying27,Tryz.underlying3,i1,.inr ⟨rfl,⟨_,by congr 1;simp;omega⟩,by omega,by rw[i4];omega⟩⟩
 have hcap:=Lt.KT (need:=i+(n+1 -i)) (c:=cp) (by omega);obtain⟨cap,k1,k2⟩:=Lt.PS (rt:=27) A (by omega) (by omega) (by rw[i4];omega) (old:=old) (vs:=Builtin.zeroCells (.agg #[.int .i64 0,.int .i64 0,.int .i64 0,.slice none 0 0]:Value).cells (n+1 -i)) (z:=.agg #[.int .i64 0,.int .i64 0,.int .i64 0,.slice none 0 0]) (by rw[i3];exact o1) (by
  rw[i3];simp[Lt.pB,Lt.me,zeroValue,typeInfo,i1,i2];intro h;omega) i2
 obtain⟨wa,hwa⟩:∃wa:World,wa={Lt.jx w with heap:=w.heap.push (.cells (old++Builtin.zeroCells (.agg #[.int .i64 0,.int .i64 0,.int .i64 0,.slice none 0 0]:Value).cells (n+1 -i)++Builtin.zeroCells (.agg #[.int .i64 0,.int .i64 0,.int .i64 0,.slice none 0 0]:Value).cells (cap -(i+(n+1 -i)))) 73)}:=⟨_,rfl⟩;rw[<-hwa] at k2;rw[show i+(n+1 -i)=n+1 by omega] at k1 k2;have ba:RowKit.Below w.heap.size w wa:=by rw[hwa];exact⟨rfl,rfl,rfl,by simp,λk hk=>by simp[Array.getElem?_push,Nat.ne_of_lt hk]⟩
 have sz:wa.heap.size=w.heap.size+1:=by rw[hwa];simp
 have aa:wa.heap[w.heap.size]? =some (.cells (old++Builtin.zeroCells (.agg #[.int .i64 0,.int .i64 0,.int .i64 0,.slice none 0 0]:Value).cells (n+1 -i)++Builtin.zeroCells (.agg #[.int .i64 0,.int .i64 0,.int .i64 0,.slice none 0 0]:Value).cells (cap -(i+(n+1 -i)))) 73 (0,0)):=by rw[hwa];simp
 have ol:old.size=i*4:=by show old.toList.length=_;rw[o2,eL,dH];omega
 generalize hZ:Builtin.zeroCells (.agg #[.int .i64 0,.int .i64 0,.int .i64 0,.slice none 0 0]:Value).cells (n+1 -i)=Z1 at aa;generalize hY:Builtin.zeroCells (.agg #[.int .i64 0,.int .i64 0,.int .i64 0,.slice none 0 0]:Value).cells _=Z2 at aa;have l1:Z1.size=(n+1 -i)*4:=by rw[<-hZ];simp[Builtin.zeroCells,Value.cells]
 have l2:Z2.size=(cap -(n+1))*4:=by rw[<-hY];simp[Builtin.zeroCells,Value.cells];omega
 have la:(old++Z1++Z2).size=cap*4:=by simp only[Array.size_append,ol,l1,l2];omega
 have lg:g<w.heap.size:=(lL.1 hg).1;have lv:vb<w.heap.size:=(lL.1 hv).1;obtain⟨w1,p1,p2⟩:=Gd (P:=Tryz.prog) (ty:=3) (T:=27) (w:=wa) Tryz.underlying27 Dc (b1:=w.heap.size) (o1:=i*4) (n1:=n+1 -i) (c1:=cap -i) (b2:=vb) (o2:=0) (n2:=1) (c2:=1) (k:=1) (by simp only[Nat.min_def];split<;>omega) aa (.inl rfl) ((ba.block vb lv).trans hv) (by rw[la];omega) (by simp[hX]) (λv h=>hx1 v (xr (List.mem_of_mem_take h)));obtain⟨w2,q1,q2⟩:=Gd (P:=Tryz.prog) (ty:=3) (T:=27) (w:=w1.drew) Tryz.underlying27 Dc (b1:=w.heap.size) (o1:=(i+1)*4) (n1:=n -i) (c1:=cap -(i+1)) (b2:=g) (o2:=i*4) (n2:=n -i) (c2:=cp -i) (k:=n -i) (by simp) p2.at_ (.inl rfl) ((p2.block g (by omega)).trans ((ba.block g lg).trans hg)) (by
  show _<=(Lt.aW _ _ _).length;rw[Lt.kq];show _<=(old++Z1++Z2).size;rw[la];omega) (by omega) h1
 clear hwa hZ hY
 go_enter Tryz.func299,Tryz.ntmps299
 have n1:¬((i:Int)=(n:Int)):=by omega
 have n2:(cp:Int)<(n:Int)+1:=by omega
 have n3:¬cap=i+1:=by omega
 have n4:¬cap=i:=by omega
 have n4':¬cp=i:=by omega
 have n5:IntKind.i64.wrap ((i:Int)+1)=(i:Int)+1:=by rw[IntKind.wrap_i64];omega
 have n6:(0:Int)<=(i:Int)+1:=by omega
 have n7:((i:Int)+1).toNat=i+1:=by omega
 have n8:(i:Int)+1<=(n:Int)+1:=by omega
 have n9:(i:Int)<=(n:Int)+1:=by omega
 have n10:n+1 -(i+1)=n -i:=by omega
 have n11:i<=n:=by omega
 go_wp2_with (first|(at_builtin;refine wpList_append_run _ rfl _ _ 27 3 rfl _ _ rfl rfl _ _ k2 ?_)|(at_builtin;refine wpList_copy_runI _ rfl _ _ 27 27 rfl _ _ rfl rfl p1 ?_))
 go_region_law_o (refine step_copy_runI rfl _ _ 27 27 rfl _ _ (by simp[Act.eval,Act.put]) (by simp[Act.eval,Act.put]) q1 ?_)
 go_wp2
 go_ret
 have wb:∀{cs:Array Value}{a b:World},nM w.heap.size cs 73 (0,0) a b->RowKit.Below w.heap.size a b:=λh=>⟨h.os,h.tape,h.output,ta h.size.symm,λk hk=>h.block k (by omega)⟩;refine⟨_,cap,rfl,by omega,ba.trans ((wb p2).trans ((fb _ w1).drew.trans (wb q2))),q2.at_,?_⟩;show(Lt.aW _ _ (Lt.aW _ _ (old++Z1++Z2).toList)).take _=_;have o3:old.toList=cur.toList.take (i*4):=by rw[o2,eL]
 rw[sY,sY,dY,o3];have hz1:Z1.toList.length=(n+1 -i)*4:=l1;exact aaj hX (by rw[dH,dZ];omega) (by rw[dH];omega) (by rw[aR];omega) (by omega)
end
section
open Go.Shelf Go.RowKit Go.Lib
variable{X cs:List Value} {n vb:Nat} {v:Value} {w:World}
set_option maxHeartbeats 4000000 in
set_option maxRecDepth 100000 in
theorem aal{B:Nat}(ho:w.ownsRow B 73 4 v n cs)(hB:B<=w.heap.size)(hn:n<1000000000)(hX:X.length=4)(hx1:∀v∈X,v.oneCell'=true)(hv:w.heap[vb]? =some (.cells ⟨X⟩ 73 (0,0))):
 Calls Tryz.prog 299 #[v,.int .i64 n,.slice (some ⟨vb,0,none⟩) 1 1] w λe w'=>∃v',e=.returned v'/\w'.ownsRow B 73 4 v' (n+1) (cs++X)/\w.grownBy w' v.ownBlock:=by
 have mixed:Tryz.prog.follows .mixedOrders=true:=by kernel_rfl
 obtain⟨inf,i1,i2,i3,i4⟩:=info_parts Ac;have cell:∀j u,X[j]? =some u->w.cell? (Addr.add ⟨vb,0,none⟩ j)=some u:=λj u hu=>by rw[Addr.add_lit];unfold World.cell?;simp only[hv];simpa using hu
 have ho':=ho;rcases ho.2 with⟨rfl,rfl⟩|⟨g,cp,cur,rfl,_,_,hle,_⟩
 ·go_enter Tryz.func299,Tryz.ntmps299
  go_wp2_with (at_builtin;refine wpList_append_own _ rfl _ _ 27 rfl B 73 inf _ 4 48 Tryz.underlying27 i1 i2 i3 i4 rfl (by decide) _ _ _ rfl ho' ⟨vb,0,none⟩ 1 1 X rfl (by omega) cell hx1 (by unfold maxLen;omega) (by omega) hB ?_;intro v' w' h1 h2 h3)
  go_ret
  exact⟨_,rfl,h1,h2⟩
 ·by_cases hcp:cp=n;all_goals
   go_enter Tryz.func299,Tryz.ntmps299
   go_wp2_with (at_builtin;refine wpList_append_own _ rfl _ _ 27 rfl B 73 inf _ 4 48 Tryz.underlying27 i1 i2 i3 i4 rfl (by decide) _ _ _ rfl ho' ⟨vb,0,none⟩ 1 1 X rfl (by omega) cell hx1 (by unfold maxLen;omega) (by omega) hB ?_;intro v' w' h1 h2 h3)
   go_ret
   exact⟨_,rfl,h1,h2⟩
def tu(w:World)(B:Nat)(v:Value)(n:Nat)(cs:List Value):Prop:=(v=.slice none 0 0/\n=0/\cs=[])\/∃g cp cur,v=.slice (some ⟨g,0,none⟩) n cp/\n<=cp/\B<=g/\w.heap[g]? =some (.cells cur 73 (0,0))/\cur.toList.take (n*4)=cs
theorem aak{B i:Nat}(ho:w.ownsRow B 73 4 v n cs)(h1:∀v∈cs,v.oneCell'=true)(hB:B<=w.heap.size)(hn:n<1000000000)(hi:i<=n)(hX:X.length=4)(hx1:∀v∈X,v.oneCell'=true)(hv:w.heap[vb]? =some (.cells ⟨X⟩ 73 (0,0)))(ca:v.ownBlock≠some vb):
 Calls Tryz.prog 299 #[v,.int .i64 i,.slice (some ⟨vb,0,none⟩) 1 1] w λe w'=>∃v',e=.returned v'/\tu w' B v' (n+1) (cs.take (i*4)++(X++cs.drop (i*4)))/\w.grownBy w' v.ownBlock:=by
 rcases dg i n with hin|hin
 ·rcases ho with⟨hl,⟨_,h0⟩|⟨g,cp,cur,rfl,hg1,hg2,hg3,hg4,hg5,hg6⟩⟩
  ·omega
  have T:vk w g n cp cur:=⟨hg2,hg5,hg3,hn,by rw[hg6];exact h1⟩;have e1:cur.toList.take (i*4)=cs.take (i*4):=by rw[<-hg6,List.take_take,kE (by omega)]
  have e2:(cur.toList.drop (i*4)).take ((n -i)*4)=cs.drop (i*4):=by rw[<-hg6,List.drop_take];congr 1;omega
  rcases dg cp (n+1) with hcp|hcp
  ·refine(aam T hX hx1 hv hin hcp).mono ?_
   rintro e w' ⟨cur',cp',rfl,a1,a2,a3,a4⟩
   rw[e1,e2] at a4;exact⟨_,rfl,.inr ⟨_,cp',cur',rfl,a1,hB,a3,a4⟩,⟨a2.os,a2.tape,a2.output,a2.size,λk hk _=>a2.block k hk⟩⟩
  ·refine(aan T hX hx1 hv (λe=>ca (by rw[e];rfl)) hin hcp).mono ?_
   rintro e w' ⟨cur',rfl,a1,a2⟩
   rw[e1,e2] at a2;exact⟨_,rfl,.inr ⟨_,cp,cur',rfl,hcp,hg1,a1.at_,a2⟩,⟨a1.os,a1.tape,a1.output,ta a1.size.symm,λk _ hk=>a1.block k (λe=>hk (by rw[e];rfl))⟩⟩
 ·obtain rfl:i=n:=by omega
  refine(aal ho hB hn hX hx1 hv).mono ?_
  rintro e w' ⟨v',rfl,h2,h3⟩
  have hl:=ho.1;rw[gh (by omega),xn (by omega),eH];rcases h2 with⟨_,⟨_,h0⟩|⟨g,cp,cur,rfl,a1,a2,a3,_,_,a6⟩⟩
  ·omega
  ·exact⟨_,rfl,.inr ⟨g,cp,cur,rfl,a3,a1,a2,a6⟩,h3⟩
end
section
open Go.Shelf Go.RowKit Go.Lib
variable{w:World}
theorem WH{P:Program}{ops:Array Oper}{o:Oper}{a:Act}{K:Act->World->Prop}{Q:Exit->Act->World->Prop}{E:Prop}
 (hg:o.guard=none) (d x:Operand) (dT sT:TypeId) (hop:o.op=Op.call {callee:=Callee.builtin Builtin.append,args:=#[d,x],argTypes:=#[dT,sT]})
 (v u:Value) (hd:a.eval d=v) (hx:a.eval x=u) {v':Value} {w':World} (hr:(Builtin.append_ #[dT,sT] o.type #[v,u]).run P w=.ok v' w') (hK:K (a.put o.dst v') w'):
 if Region.wanted o (yielded ops a.tmps)=true then Oper.wp P o a w K Q else E:=by
 have hw:Region.wanted o (yielded ops a.tmps)=true:=by simp[Region.wanted,hg]
 rw[ar hw];unfold Oper.wp;simp[execOp,hop,resolve,invoke,builtin,hd,hx,hr,Result.andThen];exact hK
variable{cur:Array Value} {g n:Nat}
theorem afb{off c:Nat}(hg:w.heap[g]? =some (.cells cur 73 (0,0)))(hn:n=1)(hle:off+4<=cur.size)(ty:TypeId):
 ∃w',(Builtin.clear_ #[27] ty #[.slice (some ⟨g,off,none⟩) n c]).run Tryz.prog w=.ok (.tuple #[]) w'/\nM g ⟨Lt.aW off [.int .i64 0,.int .i64 0,.int .i64 0,.slice none 0 0] cur.toList⟩ 73 (0,0) w w':=by
 subst hn;obtain⟨inf,i1,i2,i3,i4⟩:=info_parts Ac;obtain⟨w',q1,q2,q3,q4,q5,q6,q7⟩:=Lt.zj Tryz.prog (k:=off) [.int .i64 0,.int .i64 0,.int .i64 0,.slice none 0 0] 0 w cur hg (.inl rfl) (by simpa using hle) (λv hv=>by simp at hv;rcases hv with rfl|rfl<;>rfl)
 refine⟨w',?_,⟨q5,q6,q7,q4,q3,q2⟩⟩;have hz:∀w,(zeroValue 73).run Tryz.prog w=.ok (.agg #[.int .i64 0,.int .i64 0,.int .i64 0,.slice none 0 0]) w:=λw=>by simp[zeroValue,typeInfo,i1,i2]
 have e:(Builtin.zeroCells (.agg #[.int .i64 0,.int .i64 0,.int .i64 0,.slice none 0 0]:Value).cells 1).toList=[.int .i64 0,.int .i64 0,.int .i64 0,.slice none 0 0]:=by simp[Builtin.zeroCells,Value.cells,List.range_succ]
 simp only[Builtin.clear_,List.getElem?_toArray,List.getElem?_cons_zero,dO,run_underlying Tryz.underlying27,gA,hz,e,q1];rfl
set_option maxHeartbeats 4000000 in
set_option maxRecDepth 100000 in
theorem YY{cp k:Nat}(T:vk w g n cp cur)(hk:k<n):
 Calls Tryz.prog 330 #[.slice (some ⟨g,0,none⟩) n cp,.int .i64 k,.int .i64 (k+1)] w λe w'=>∃cur',e=.returned (.slice (some ⟨g,0,none⟩) (n -1) cp)/\nM g cur' 73 (0,0) w w'/\
  cur'.toList.take ((n -1)*4)=cur.toList.take (k*4)++(cur.toList.drop ((k+1)*4)).take ((n -(k+1))*4):=by
 have h1:=T.bB (i:=k+1) hk;obtain⟨hg,hsz,hn,hf,_⟩:=T;have mixed:Tryz.prog.follows .mixedOrders=true:=by kernel_rfl
 have hcs:cur.toList.length=cp*4:=hsz;obtain⟨inf,i1,i2,i3,i4⟩:=info_parts Ac;have hl1:((cur.toList.drop ((k+1)*4)).take ((n -(k+1))*4)).length=(n -(k+1))*4:=by rw[dH,dZ];omega
 obtain⟨xp,hxp⟩:∃xp:Addr,xp=if cp=k+1 then⟨g,0,none⟩ else⟨g,(k+1)*4,none⟩:=⟨_,rfl⟩;obtain⟨w1,p1,p2⟩:∃w1,(Builtin.append_ #[27,27] 27 #[.slice (some ⟨g,0,none⟩) k cp,.slice (some xp) (n -(k+1)) (cp -(k+1))]).run Tryz.prog w.drew=.ok (.slice (some ⟨g,0,none⟩) (n -1) cp) w1/\nM g ⟨Lt.aW (k*4) ((cur.toList.drop ((k+1)*4)).take ((n -(k+1))*4)) cur.toList⟩ 73 (0,0) w.drew w1:=by
  obtain⟨vs,o1,o2⟩:∃vs,(loadCells xp ((n -(k+1))*4)).run Tryz.prog w.drew=.ok vs w.drew/\vs.toList=(cur.toList.drop ((k+1)*4)).take ((n -(k+1))*4):=by
   by_cases hq:cp=k+1
   ·have:n -(k+1)=0:=by omega
    rw[this];exact⟨#[],Lt.BF _ _ _,by simp⟩
   ·rw[hxp,ai hq];exact Lt.Ge Tryz.prog (w:=w.drew) hg (by omega)
  obtain⟨w',q1,q2,q3,q4,q5,q6,q7⟩:=Lt.zj Tryz.prog (k:=k*4) vs.toList 0 w.drew cur hg (.inl rfl) (by rw[o2];omega) (by rw[o2];exact h1);have A:Lt.uY Tryz.prog w.drew #[27,27] #[.slice (some ⟨g,0,none⟩) k cp,.slice (some xp) (n -(k+1)) (cp -(k+1))] 27 27 73 (.slice 73) inf (some ⟨g,0,none⟩) k cp (.slice (some xp) (n -(k+1)) (cp -(k+1))) (n -(k+1)):=
   ⟨rfl,rfl,rfl,rfl,Tryz.underlying27,Tryz.underlying27,i1,.inl ⟨rfl,rfl⟩⟩
  have r:=Lt.AR A (rt:=27) (by omega) (vs:=vs) (by rw[i3];exact o1) (w':=w') (by rw[i3];simpa[Lt.C8,Addr.add_lit] using q1);rw[show k+(n -(k+1))=n -1 by omega] at r;exact⟨w',r,⟨q5,q6,q7,q4,q3,by rw[q2,o2];simp⟩⟩
 have hp2:=p2.at_;obtain⟨w2,c1,c2⟩:=afb (w:=w1) (g:=g) (off:=(n -1)*4) (n:=1) (c:=cp -(n -1)) hp2 rfl (by simp[Lt.kq];omega) 0;have hls:(Lt.aW ((n -1)*4) [.int .i64 0,.int .i64 0,.int .i64 0,.slice none 0 0] (Lt.aW (k*4) ((cur.toList.drop ((k+1)*4)).take ((n -(k+1))*4)) cur.toList)).take ((n -1)*4)=cur.toList.take (k*4)++(cur.toList.drop ((k+1)*4)).take ((n -(k+1))*4):=by
  have e:(n -1)*4=k*4+(n -(k+1))*4:=by omega
  generalize(cur.toList.drop ((k+1)*4)).take ((n -(k+1))*4)=S at hl1⊢;have h3:(cur.toList.take (k*4)).length=k*4:=by rw[dH];omega
  rw[uv _ _ _ (by simp[Lt.kq];omega),List.take_left' (by simp[Lt.kq];omega),uv S _ _ (by omega),<-dY,e,<-hl1,List.take_left' (by simp[h3])]
 go_enter Tryz.func330,Tryz.ntmps330
 have n1:((k:Int)+1).toNat=k+1:=by omega
 have n2:n -(n -1)=1:=by omega
 have n3:¬cp=n -1:=by omega
 have n4:¬cp=k:=by omega
 have n5:((k:Int)=(k:Int)+1)=False:=eq_false (by omega);have n6:(k:Int)<=(k:Int)+1:=by omega
 have n7:(k:Int)+1<=(n:Int):=by omega
 have n8:(k:Int)<=(cp:Int):=by omega
 have n9:(n:Int)<=(cp:Int):=by omega
 have n10:(0:Int)<=(k:Int)+1:=by omega
 have n11:(k:Int)<=(n:Int):=by omega
 by_cases hq:cp=k+1
 ·rw[ar hq] at hxp;subst hxp;obtain rfl:n=k+1:=by omega
  subst hq;simp only[Nat.sub_self,Nat.add_sub_cancel,Dj] at p1 p2 c1 c2 hl1 hls n3 n2⊢
  go_wp2
  go_region_law_o (refine WH rfl _ _ 27 27 rfl _ _ (by simp[Act.eval,Act.put]) (by simp[Act.eval,Act.put]) p1 ?_)
  go_wp2
  go_ret
  exact⟨_,rfl,⟨c2.os.trans p2.os,c2.tape.trans p2.tape,c2.output.trans p2.output,c2.size.trans p2.size,λk hk=>(c2.block k hk).trans (p2.block k hk),c2.at_⟩,hls⟩
 ·rw[ai hq] at hxp;subst hxp
  go_wp2
  go_region_law_o (refine WH rfl _ _ 27 27 rfl _ _ (by simp[Act.eval,Act.put]) (by simp[Act.eval,Act.put]) p1 ?_)
  go_wp2
  go_ret
  exact⟨_,rfl,⟨c2.os.trans p2.os,c2.tape.trans p2.tape,c2.output.trans p2.output,c2.size.trans p2.size,λk hk=>(c2.block k hk).trans (p2.block k hk),c2.at_⟩,hls⟩
end
section
open Go.Shelf Go.RowKit Go.Lib
set_option maxHeartbeats 4000000 in
set_option maxRecDepth 100000 in
theorem YB{w:World}{a:Option Addr}{n c:Nat}{xs:List Value}(hs:a=none->n=0)(hc:∀x,a=some x->∀j u,xs[j]? =some u->w.cell? (x.add j)=some u)(hl:xs.length=n*4)(hn:n<1000000000)(h1:∀v∈xs,v.oneCell'=true):
 Calls Tryz.prog 250 #[.slice a n c] w λe w'=>∃v,e=.returned v/\w'.ownsRow w.heap.size 73 4 v n xs/\RowKit.Below w.heap.size w w':=by
 have mixed:Tryz.prog.follows .mixedOrders=true:=by kernel_rfl
 obtain⟨inf,i1,i2,i3,i4⟩:=info_parts Ac;have q22:∀(w:World)(a:Option Addr)(n c n' c':Nat),(binOp .eql 27 (.slice a n c) (.slice none n' c')).run Tryz.prog w=.ok (.bool a.isNone) w:=λw a n c n' c'=>Lib.run_eql_slice_nil w _ _ a n c n' c' Tryz.underlying27;cases a with
 |none=>
  obtain rfl:=hs rfl;have:=jJ (by omega:xs.length=0);subst this;clear hc
  go_enter Tryz.func250,Tryz.ntmps250
  go_wp2
  go_ret
  exact⟨_,rfl,World.ownsRow_nil _ _ _ _,fb _ _⟩
 |some a=>
  have A:Aside (∀j u,xs[j]? =some u->w.cell? (a.add j)=some u):=hc _ rfl;clear hc
  go_enter Tryz.func250,Tryz.ntmps250
  go_wp2_with (at_builtin;refine wpList_append_own _ rfl _ _ 27 rfl w.heap.size 73 inf _ 4 48 Tryz.underlying27 i1 i2 i3 i4 rfl (by decide) _ _ _ rfl (World.ownsRow_made w #[] 0 (aB _) (gZ _) rfl) a n c xs rfl ?qc1 ?qc2 ?qc3 ?qc4 ?qc5 ?qc6 ?_)
  case qc1=>omega
  case qc2=>exactλj u hj=>Lib.cell?_alloc_some _ (A.out j u hj)
  case qc3=>exact h1
  case qc4=>unfold maxLen;omega
  case qc5=>omega
  case qc6=>simp
  intro v' w1 hown hgrow hnil
  go_wp2
  go_ret
  refine⟨v',rfl,by simpa using hown,?_⟩;exact((Below.refl _ w).alloc (aB _) _).grown hgrow (by simp) (by intro k hk;simp[Value.ownBlock] at hk;omega)
end
namespace Lt
section
open Go.Shelf Go.RowKit Go.Lib
abbrev oH:=Int->Int->Value->Option (Int×Int×Value)
abbrev uZ:=Value->Int->Option (Int×Bool)
abbrev mK:VT:=.agg [.i .i64,.i .i64,.v]
variable{P:Program} {g:FuncId}
theorem Lw{O:oH}(HO:dI P g [mK] mK O){a b:Int}{d:Value}{r:Int×Int×Value}(e:O a b d=some r)(hd:aY d/\bB [d]=true):
 (aY r.2.2 /\bB [r.2.2]=true)/\∀{m:Nat->Nat->Option Value}{W:World}{y:Value},Kn m W->bj m d y->Calls P g #[.agg #[.int .i64 a,.int .i64 b,y]] W λe W'=>∃z,e=.returned (.agg #[.int .i64 r.1,.int .i64 r.2.1,z])/\RowKit.Below W.heap.size W W'/\bj (dj m W W') r.2.2 z:=by
 obtain⟨a',b',d'⟩:=r;obtain⟨h1,pv,f2,f3⟩:=HO [.i a,.i b,.v d] (a',b',d') e (λx hx=>by simp at hx;rw[hx];exact hd) _ rfl;have f2:some (Value.agg #[.int .i64 a',.int .i64 b',d'],([]:List bo))=some (pv,[]):=f2;cases f2;have hp:aY d'/\bB [d']=true:=h1 d' (by show bo.v d'∈[bo.i a',bo.i b',bo.v d'];simp);refine⟨hp,λ{m W y} hm L=>?_⟩;refine(xU f3 (.inl (.agg ?_)) hm (.cons (.agg (.cons (.int _ _) (.cons (.int _ _) (.cons L .nil)))) .nil)).mono λe w' ⟨v',q1,q2,q3⟩=>?_
 ·intro x hx;simp at hx;rcases hx with rfl|rfl|rfl
  ·exact .int _ _
  ·exact .int _ _
  ·exact hp.1
 ·subst q1;cases q3 with
  |@agg xs xs' h=>
  obtain⟨xl⟩:=xs';cases h with|cons h1 h=>?_
  cases h1;cases h with|cons h2 h=>?_
  cases h2;cases h with|cons h3 h=>?_
  cases h;exact⟨_,rfl,q2,h3⟩
theorem P0{A:uZ}(HA:dI P g [.v,.i .i64] (.aH [.i .i64,.b]) A){x:Value}{t:Int}{r:Int×Bool}(e:A x t=some r)(hx:aY x/\bB [x]=true):
 ∀{m:Nat->Nat->Option Value}{W:World}{y:Value},Kn m W->bj m x y->Calls P g #[y,.int .i64 t] W λe W'=>e=.returned (.tuple #[.int .i64 r.1,.bool r.2])/\RowKit.Below W.heap.size W W':=by
 obtain⟨k,q⟩:=r;obtain⟨h1,pv,f2,f3⟩:=HA [.v x,.i t] (k,q) e (λz hz=>by simp at hz;rw[hz];exact hx) _ rfl;have f2:some (Value.tuple #[.int .i64 k,.bool q],([]:List bo))=some (pv,[]):=f2;cases f2;intro m W y hm L;refine(xU f3 (.inr ⟨_,rfl,?_⟩) hm (.cons L (.cons (.int _ _) .nil))).mono λe w' ⟨v',q1,q2,q3⟩=>?_
 ·intro x hx;simp at hx;rcases hx with rfl|rfl
  ·exact .int _ _
  ·exact .bool _
 ·subst q1;cases q3 with
  |@aH xs xs' h=>
  obtain⟨xl⟩:=xs';cases h with|cons h1 h=>?_
  cases h1;cases h with|cons h2 h=>?_
  cases h2;cases h;exact⟨rfl,q2⟩
end
section
open Go.Shelf Go.RowKit Go.Lib
noncomputable def nb(O:oH):List Value->Option (List Value)
 |[]=>some []
 | .int .i64 t::.int .i64 a::.int .i64 b::d::r=>cond (bB [d]) (ob (O a b d) λp=>ob (nb O r) λs=>some (.int .i64 t::.int .i64 p.1 ::.int .i64 p.2.1 ::p.2.2 ::s)) none
 |_=>none
theorem Ug{O:oH}{l r:List Value}(h:0<l.length)(e:nb O l=some r):∃t a b d l' p r',l=.int .i64 t::.int .i64 a::.int .i64 b::d::l'/\bB [d]=true/\O a b d=some p/\nb O l'=some r'/\r=.int .i64 t::.int .i64 p.1 ::.int .i64 p.2.1 ::p.2.2 ::r':=by
 unfold nb at e;split at e
 ·simp at h
 ·obtain⟨h1,e⟩:=aT e;replace e:=af e;obtain⟨p,h2,e⟩:=e;replace e:=af e;obtain⟨s,h3,e⟩:=e;exact⟨_,_,_,_,_,p,s,rfl,h1,h2,h3,(bu e).symm⟩
 ·cases e
structure Dv(m:Nat->Nat->Option Value)(w:World)(v:Value)(n:Nat)(cs:List Value)(wr:World):Prop where
 below:RowKit.Below w.heap.size w wr
 row:∃(m':Nat->Nat->Option Value)(xs:List Value),wr.ownsRow w.heap.size 73 4 v n xs/\aP m' cs xs/\Kn m' wr/\(∀q,v.ownBlock=some q->∀i,m' q i=none)/\(∀b i u,m b i=some u->m' b i=some u)/\(∀b i u,m' b i=some u->dj m w wr b i=some u)
variable{k n:Nat} {w:World} {xs:List Value}
theorem ownsRow_form{B:Nat}{e:TypeId}{v:Value}(h:w.ownsRow B e k v n xs):∃p cp,v=.slice p n cp/\n<=cp:=by
 obtain⟨_,⟨rfl,rfl⟩|⟨g,cp,_,rfl,_,_,h,_⟩⟩:=h
 ·exact⟨_,_,rfl,aB _⟩
 ·exact⟨_,_,rfl,h⟩
variable{m:Nat->Nat->Option Value} {x y:Value}
theorem bj.mn(h:bj m x y)(o:bB [x]=true):y.oneCell'=true:=by cases h<;>first|rfl|cases o
theorem ahZ(w:World)(a b c:Value)(h:y.oneCell'=true):(store ⟨w.heap.size,3,none⟩ y).run Tryz.prog (w.alloc (.cells #[a,b,c,.slice none 0 0] 73))=.ok () (w.alloc (.cells #[a,b,c,y] 73)):=by rw[run_store _ _ _ _ _ h];simp[go_sem]
variable{cur:Array Value} {g:Nat} {t:TypeId}
theorem IG{fz:Nat×Nat}(h:w.heap[g]? =some (.cells cur t fz))(v:Value):nM g ⟨cur.toList.set k v⟩ t fz w (w.setCell ⟨g,k,none⟩ v):=
 ⟨rfl,rfl,rfl,VB _ _ _,λ_ hk=>Vz v hk,by rw[VA h];cases cur;simp⟩
theorem Is{o:Nat}(h:w.heap[g]? =some (.cells cur t (0,0)))(hl:o+4<=cur.size)(a b:Int){z:Value}(hz:z.oneCell'=true):
 (∃v,w.cell? ⟨g,o+1,none⟩=some v)/\(∃v,w.cell? ⟨g,o+2,none⟩=some v)/\(∀k,w.frozen? ⟨g,k,none⟩=false)/\(∃v,(w.setCell ⟨g,o+1,none⟩ (.int .i64 a)).cell? ⟨g,o+2,none⟩=some v)/\
 ∃w',(store ⟨g,o+3,none⟩ z).run Tryz.prog ((w.setCell ⟨g,o+1,none⟩ (.int .i64 a)).setCell ⟨g,o+2,none⟩ (.int .i64 b))=.ok () w'/\nM g ⟨((cur.toList.set (o+1) (.int .i64 a)).set (o+2) (.int .i64 b)).set (o+3) z⟩ t (0,0) w w':=by
 have c:∀{W:World}{cs:Array Value}(k:Nat),W.heap[g]? =some (.cells cs t (0,0))->W.cell? ⟨g,k,none⟩=cs[k]? :=λk h=>by unfold World.cell?;simp[h]
 have f:∀{W:World}{cs:Array Value}(k:Nat),W.heap[g]? =some (.cells cs t (0,0))->W.frozen? ⟨g,k,none⟩=false:=λk h=>by unfold World.frozen?;simp[h]
 have q1:=IG (k:=o+1) h (.int .i64 a);have q2:=IG (k:=o+2) q1.at_ (.int .i64 b);have q3:=IG (k:=o+3) q2.at_ z;refine⟨⟨cur[o+1],by rw[c _ h];simp⟩,⟨cur[o+2],by rw[c _ h];simp⟩,λk=>f k h,?_,((w.setCell ⟨g,o+1,none⟩ (.int .i64 a)).setCell ⟨g,o+2,none⟩ (.int .i64 b)).setCell ⟨g,o+3,none⟩ z,?_,⟨rfl,rfl,rfl,q3.size.trans (q2.size.trans q1.size),λk hk=>(q3.block k hk).trans ((q2.block k hk).trans (q1.block k hk)),q3.at_⟩⟩
 ·rw[c _ q1.at_];exact⟨(cur.toList.set (o+1) (.int .i64 a))[o+2]'(by simp;omega),by simp⟩
 ·have e:((w.setCell ⟨g,o+1,none⟩ (.int .i64 a)).setCell ⟨g,o+2,none⟩ (.int .i64 b)).cell? ⟨g,o+3,none⟩=some (((cur.toList.set (o+1) (.int .i64 a)).set (o+2) (.int .i64 b))[o+3]'(by simp;omega)):=by rw[c _ q2.at_];simp
  rw[run_store _ _ _ _ _ hz,e];simp[f _ q2.at_]
theorem bj.E3(h:bj m x y):Bu y=false:=by cases h<;>rfl
theorem aP.E3:∀{a b:List Value},aP m a b->∀{j:Nat}{u:Value},b[j]? =some u->Bu u=false
 |[],_,.nil,_,_,e=>by cases e
 |_::_,_,.cons h t,0,u,e=>by simp at e;subst e;exact h.E3
 |_::_,_,.cons _ t,j+1,u,e=>aP.E3 t (by simpa using e)
structure XF(O:oH)(m:Nat->Nat->Option Value)(w:World)(v:Value)(n:Nat)(res:List Value)(i:Nat)(wr:World):Prop where
 below:RowKit.Below w.heap.size w wr
 row:∃(m':Nat->Nat->Option Value)(done rest rest' xs:List Value),wr.ownsRow w.heap.size 73 4 v n xs/\aP m' (done++rest) xs/\Kn m' wr/\(∀q,v.ownBlock=some q->∀i,m' q i=none)/\(∀b i u,m b i=some u->m' b i=some u)/\(∀b i u,b<w.heap.size->m' b i=some u->m b i=some u)/\
  done.length=i*4/\nb O rest=some rest'/\done++rest'=res/\(∀x∈done++rest,aY x)
theorem aP.split:∀{a b ys:List Value},aP m (a++b) ys->∃y z,ys=y++z/\aP m a y/\aP m b z
 |[],b,ys,h=>⟨[],ys,rfl,.nil,h⟩
 |x::a,b,ys,h=>by
  cases h with|cons h1 h2=>?_
  obtain⟨y,z,rfl,h3,h4⟩:=aP.split h2;exact⟨_::y,z,rfl,.cons h1 h3,h4⟩
theorem aP.join:∀{a b y z:List Value},aP m a y->aP m b z->aP m (a++b) (y++z)
 |[],_,_,_,.nil,h2=>h2
 |_::_,_,_,_,.cons h h1,h2=>.cons h (aP.join h1 h2)
theorem aP.len:∀{a b:List Value},aP m a b->a.length=b.length
 |[],_,.nil=>rfl
 |_::_,_,.cons _ h=>bK (·+1) (aP.len h)
set_option maxHeartbeats 4000000 in
set_option maxRecDepth 100000 in
theorem Fu{O:oH}(HO:dI Tryz.prog 185 [mK] mK O){a:Option Addr}{c:Nat}{cs res:List Value}(hm:Kn m w)(hL:aP m cs xs)(hp:∀x∈cs,aY x)(he:nb O cs=some res)
 (hs:a=none->n=0) (hc:∀x,a=some x->∀j u,xs[j]? =some u->m x.block (x.off+j)=some u) (hsp:∀x,a=some x->0<n->x.spot=none) (hl:xs.length=n*4) (hn:n<1000000000) (h1:∀v∈xs,v.oneCell'=true):
 Calls Tryz.prog 298 #[.slice a n c] w λe w'=>∃v,e=.returned v/\Dv m w v n res w':=by
 have mixed:Tryz.prog.follows .mixedOrders=true:=by kernel_rfl
 have hcl:Aside (∀x,a=some x->∀j u,xs[j]? =some u->w.cell? (x.add j)=some u):=λx hx j u hu=>by
  obtain⟨b,o,sp⟩:=x;obtain rfl:=hsp _ hx (by have:=(List.getElem?_eq_some_iff.1 hu).1;omega);rw[Addr.add_lit];refine BD ?_ (hm _ _ _ (hc _ hx j u hu));obtain⟨i1,hi1⟩:=List.getElem?_eq_some_iff.1 hu;have hj:j<cs.length:=by rw[hL.len];exact i1
  exact aP.E3 hL hu
 clear hc
 go_enter Tryz.func298,Tryz.ntmps298
 go_wp2_with (go_at_call 250;refine(YB hs hcl hl hn h1).mono ?_;rintro e w1 ⟨v,rfl,o1,b1⟩;obtain⟨p,cp,rfl,hcp⟩:=ownsRow_form o1)
 go_loopw [10] (λq wr=>∃i:Nat,q=.int .i64 i/\i<=n/\XF O m w (.slice p n cp) n res i wr) (λq wr=>n -(Lib.intOf q).toNat)
 case atStart=>exact⟨0,rfl,gZ _,b1,m,[],cs,res,xs,o1,hL,hm.below b1,λq hq i=>(by
  have:=Fv o1 hq;cases e:m q i with
  |none=>rfl
  |some u=>have:=oU (hm _ _ _ e);omega),λ_ _ _ h=>h,λ_ _ _ _ h=>h,rfl,he,rfl,hp⟩
 case round=>
  obtain⟨i,rfl,hi,⟨bl,m',done,rest,rest',ys,o2,L2,k2,z2,e2,n2,d2,r2,q2,p2⟩⟩:=hrel;rcases dg i n with hin|hin
  ·have hlen:=L2.len;obtain⟨y1,y2,rfl,La,Lb⟩:=L2.split;have hb:0<rest.length:=by have:=o2.1;simp at hlen this;omega
   obtain⟨t,va,vb,d,l',r,r',rfl,od,e3,e4,rfl⟩:=Ug hb r2;cases Lb with|cons l1 Lb=>?_
   cases l1;cases Lb with|cons l1 Lb=>?_
   cases l1;cases Lb with|cons l1 Lb=>?_
   cases l1;cases Lb with|@cons _ y _ y3 l1 Lb=>?_
   have hd:aY d/\bB [d]=true:=⟨p2 d (by simp),od⟩;obtain⟨hd',own⟩:=Lw HO e3 hd;have hy:y1.length=i*4:=by rw[<-La.len];exact d2
   obtain⟨g,cur,rfl,hg1,hmx,hg2,hsz,hcur⟩:∃g cur,p=some ⟨g,0,none⟩/\w.heap.size<=g/\cp<=maxLen/\wr.heap[g]? =some (.cells cur 73 (0,0))/\cur.size=cp*4/\cur.toList.take (n*4)=y1++(.int .i64 t::.int .i64 va::.int .i64 vb::y::y3):=by
    obtain⟨_,⟨_,h⟩|⟨g,cp',cur,e,h1,h2,h3,h4,h5,h6⟩⟩:=o2
    ·omega
    ·cases e;exact⟨g,cur,rfl,h1,h4,h2,h5,h6⟩
   have cl:∀k,(cur.toList.take (n*4))[i*4+k]? =(Value.int .i64 t::.int .i64 va::.int .i64 vb::y::y3)[k]? :=λk=>by rw[hcur,uV (by omega)];congr 1;omega
   have ce:∀k,k<4->wr.cell? ⟨g,i*4+k,none⟩=(Value.int .i64 t::.int .i64 va::.int .i64 vb::y::y3)[k]? :=λk hk=>by rw[<-cl k,List.getElem?_take_of_lt (by omega)];unfold World.cell?;simp[hg2]
   have c0:wr.cell? ⟨g,i*4,none⟩=some (.int .i64 t):=ce 0 (by omega);have c1:wr.cell? ⟨g,i*4+1,none⟩=some (.int .i64 va):=ce 1 (by omega);have c2:wr.cell? ⟨g,i*4+2,none⟩=some (.int .i64 vb):=ce 2 (by omega);have c3:wr.cell? ⟨g,i*4+3,none⟩=some y:=ce 3 (by omega);clear ce cl;have hy1:y.oneCell'=true:=bj.mn l1 od;have hst:=ahZ wr (.int .i64 t) (.int .i64 va) (.int .i64 vb) hy1;have hin':(i:Int)<(n:Int):=by omega
   have ba:RowKit.Below wr.heap.size wr (wr.alloc (.cells #[.int .i64 t,.int .i64 va,.int .i64 vb,y] 73)):=(fb _ wr).alloc (aB _) _;have kz:Kn m' (wr.alloc (.cells #[.int .i64 t,.int .i64 va,.int .i64 vb,y] 73)):=k2.below ba;have gl:g<wr.heap.size:=(lL.1 hg2).1
   go_wp2_with (go_at_call 185;refine(own kz l1).mono ?_;rintro e wy ⟨z,rfl,by1,lz⟩;have bz:RowKit.Below wr.heap.size wr wy:=ba.trans (by1.mono (by simp));have hz1:z.oneCell'=true:=bj.mn lz hd'.2;have hgy:=(bz.block g gl).trans hg2;obtain⟨⟨v1,s1⟩,⟨v2,s2⟩,sf,⟨v3,s3⟩,wz,s4,s5⟩:=Is hgy (o:=i*4) (by omega) r.1 r.2.1 hz1;have mo:=kz.mono (w':=wy);have kn:=kz.new by1;obtain⟨m2,hm2⟩:∃m2,m2=dj m' (wr.alloc (.cells #[.int .i64 t,.int .i64 va,.int .i64 vb,y] 73)) wy:=⟨_,rfl⟩;rw[<-hm2] at mo kn lz;have lo:∀b i,b<wr.heap.size->m2 b i=m' b i:=λb i hb=>(by rw[hm2];unfold dj;rw[ar (by simp;omega)]);clear ba kz hgy hm2)
   have hd1:∀k (u:Value) (x:List Value),(y1++x).set (i*4+k) u=y1++x.set k u:=λk u x=>by rw[List.set_append_right _ _ (by omega)];congr 2;omega
   have hc2:((((cur.toList.set (i*4+1) (.int .i64 r.1)).set (i*4+2) (.int .i64 r.2.1)).set (i*4+3) z).take (n*4))=y1++(.int .i64 t::.int .i64 r.1 ::.int .i64 r.2.1 ::z::y3):=by rw[List.take_set,List.take_set,List.take_set,hcur,hd1,hd1,hd1];rfl
   have bw:RowKit.Below w.heap.size w wz:=bl.trans ((bz.mono bl.size).trans ⟨s5.os,s5.tape,s5.output,ta s5.size.symm,λk hk=>s5.block k (by omega)⟩);have g9:∀i,m2 g i=none:=λi=>(lo g i gl).trans (z2 g rfl i);refine⟨⟨i+1,by simp,by omega,bw,m2,done++[.int .i64 t,.int .i64 r.1,.int .i64 r.2.1,r.2.2],l',r',y1++(.int .i64 t::.int .i64 r.1 ::.int .i64 r.2.1 ::z::y3),?_,?_,?_,?_,?_,?_,?_,e4,?_,?_⟩,by simp[Lib.intOf];omega⟩
   ·refine⟨?_,.inr ⟨g,cp,_,rfl,hg1,s5.at_,hcp,hmx,?_,hc2⟩⟩
    ·have:=o2.1;simp at this⊢;omega
    ·simpa using hsz
   ·rw[dY];exact(La.mono mo).join (.cons (.int _ _) (.cons (.int _ _) (.cons (.int _ _) (.cons lz (Lb.mono mo)))))
   ·intro b j u hu;have hb:b≠g:=λe=>by rw[e,g9] at hu;cases hu
    exact(oe (s5.block b hb)).trans (kn b j u hu)
   ·rintro q ⟨⟩;exact g9
   ·exactλb j u h=>mo _ _ _ (e2 _ _ _ h)
   ·exactλb j u hb h=>n2 _ _ _ hb ((lo b j (by have:=bl.size;omega)).symm.trans h)
   ·simp;omega
   ·rw[dY];exact q2
   ·intro x hx;simp only[dY,eM,cj,jg,iF] at hx p2;rcases hx with hx|rfl|rfl|rfl|rfl|hx
    ·exact p2 x (.inl hx)
    ·exact .int _ _
    ·exact .int _ _
    ·exact .int _ _
    ·exact hd'.1
    ·exact p2 x (.inr (.inr (.inr (.inr (.inr hx)))))
  ·have hr:rest=[]:=jJ (by have h1:=L2.len;have h2:=o2.1;simp at h1;omega);subst hr;obtain rfl:rest'=[]:=(bu r2).symm;rw[eH] at q2 L2;subst q2;obtain rfl:i=n:=by omega
   go_wp2
   go_ret
   refine⟨_,rfl,bl,m',ys,o2,L2,k2,z2,e2,λb j u h=>?_⟩;unfold dj;split
   ·exact n2 _ _ _ ‹_› h
   ·exact k2 _ _ _ h
end
section
open Go.Shelf Go.RowKit Go.Lib
variable{m:Nat->Nat->Option Value}
theorem aP.mn:∀{a b:List Value},aP m a b->bB a=true->∀v∈b,v.oneCell'=true
 |[],_,.nil,_,_,h=>by cases h
 |_::_,_,.cons h t,o,v,hv=>by
  rcases cj.1 hv with rfl|hv
  ·exact h.mn (wA o).1
  ·exact aP.mn t (wA o).2 v hv
variable{cs:List Value} {n:Nat} {v x:Value}
theorem Ga(h:rowOf x=some (n,cs))(l:bj m x v)(hl:cs.length=n*4):
 ∃a c xs,v=.slice a n c/\aP m cs xs/\(a=none->n=0)/\(∀x,a=some x->∀j u,xs[j]? =some u->m x.block (x.off+j)=some u)/\(∀x,a=some x->0<n->x.spot=none):=by
 have:=wJ h;subst this;cases l with
 |gH r q hs hn=>exact⟨_,_,_,rfl,r,(λh=>by cases h),(λx h=>by cases h;exact q),λx h _=>by cases h;exact hs⟩
 |fN=>exact⟨_,_,[],rfl,.nil,λ_=>rfl,λ_ _ j u h=>by simp at h,λ_ _ h=>absurd h (Nat.lt_irrefl 0)⟩
theorem Lx{P:Program}{g:FuncId}{O:oH}(HO:dI P g [mK] mK O):∀{l r:List Value},(∀x∈l,aY x)->nb O l=some r->bO r/\r.length=l.length
 |[],r,_,e=>by cases e;exact⟨⟨(λ_ h=>by cases h),rfl⟩,rfl⟩
 |[_],_,_,e=>by unfold nb at e;split at e<;>first|(rename_i q;cases q;done)|cases e
 |[_,_],_,_,e=>by unfold nb at e;split at e<;>first|(rename_i q;cases q;done)|cases e
 |[_,_,_],_,_,e=>by unfold nb at e;split at e<;>first|(rename_i q;cases q;done)|cases e
 |x0::x1::x2::x3::l,r,p,e=>by
  obtain⟨t,a,b,d,l',q,r',h1,h2,h3,h4,rfl⟩:=Ug (by simp) e;cases h1;obtain⟨i1,i2⟩:=Lx HO (λx hx=>p x (by simp[hx])) h4;have hd:=(Lw HO h3 ⟨p x3 (by simp),h2⟩).1;refine⟨⟨λx hx=>?_,?_⟩,by simp[i2]⟩
  ·simp only[cj] at hx;rcases hx with rfl|rfl|rfl|rfl|hx
   ·exact .int _ _
   ·exact .int _ _
   ·exact .int _ _
   ·exact hd.1
   ·exact i1.1 x hx
  ·exact qV [.int .i64 t,.int .i64 q.1,.int .i64 q.2.1] _ rfl (qV [q.2.2] r' hd.2 i1.2)
theorem Fq:∀{l:List Value},bB l=true->∀k,bB (l.take k)=true
 |[],_,_=>by simp;rfl
 |_::_,_,0=>rfl
 |x::l,h,k+1=>qV [x] _ (wA h).1 (Fq (wA h).2 k)
theorem Lo:∀{l:List Value},bB l=true->∀k,bB (l.drop k)=true
 |[],_,_=>by simp;rfl
 |_::_,h,0=>h
 |_::_,h,k+1=>Lo (wA h).2 k
variable{w:World}
theorem Dv.shown{wr:World}(h:Dv m w v n cs wr):bj (λb i=>fc wr b i) (ae n cs) v:=by
 obtain⟨m',xs,⟨hl,⟨rfl,rfl⟩|⟨g,cp,cur,rfl,h1,h2,h3,h4,h5,h6⟩⟩,L,k,_⟩:=h.row
 ·have:cs=[]:=jJ (by rw[L.len];omega);subst this;exact .fN
 ·refine .gH (L.mono λb i u hu=>k b i u hu) (λi y hy=>?_) rfl h3;rw[qR h2,fg];rw[<-h6] at hy;rw[qq] at hy;split at hy
  ·simpa using hy
  ·cases hy
noncomputable def yi(O:oH)(A:uZ)(x:Value)(t:Int):Option Value:=ob (rowOf x) λp=>cond (Nat.beq p.2.length (p.1 *4)&&Nat.blt p.1 1000000000) (ob (nb O p.2) λres=>ob (A (ae p.1 res) t) λq=>cond q.2 (cond (decide (0<=q.1)&&Nat.blt q.1.toNat p.1) (some (ae (p.1 -1) (res.take (q.1.toNat*4)++(res.drop ((q.1.toNat+1)*4)).take ((p.1 -(q.1.toNat+1))*4)))) none) (some (ae p.1 res))) none
variable{W:World} {m':Nat->Nat->Option Value} {ys:List Value}
theorem Gb(R:tu W w.heap.size v n ys)(L:aP m' cs ys)(k:Kn m' W)(e:∀b i u,b<w.heap.size->m' b i=some u->m b i=some u):bj (dj m w W) (ae n cs) v:=by
 have mo:∀b i u,m' b i=some u->dj m w W b i=some u:=λb i u h=>by
  unfold dj;split
  ·exact e _ _ _ ‹_› h
  ·exact k _ _ _ h
 rcases R with⟨rfl,rfl,rfl⟩|⟨g,cp,cur,rfl,h1,h2,h3,h4⟩
 ·cases L;exact .fN
 ·refine .gH (L.mono mo) (λi y hy=>?_) rfl h1;show dj m w W g (0+i)=_;unfold dj;rw[ai (by omega),qR h3,fg];rw[<-h4,qq] at hy;split at hy
  ·simpa using hy
  ·cases hy
variable{xs:List Value}
theorem aez{B:Nat}(h:w.ownsRow B 73 4 v n xs):tu w B v n xs:=by
 obtain⟨hl,⟨rfl,rfl⟩|⟨g,cp,cur,rfl,h1,h2,h3,_,_,h6⟩⟩:=h
 ·exact .inl ⟨rfl,rfl,jJ (by omega)⟩
 ·exact .inr ⟨g,cp,cur,rfl,h3,h1,h2,h6⟩
variable{w':World}
theorem yY{B:Nat}(h:w.ownsRow B 73 4 v n xs)(b:RowKit.Below w.heap.size w w'):w'.ownsRow B 73 4 v n xs:=by
 obtain⟨hl,h|⟨g,cp,cur,h0,h1,h2,h3⟩⟩:=h
 ·exact⟨hl,.inl h⟩
 ·exact⟨hl,.inr ⟨g,cp,cur,h0,h1,(b.block g (lL.1 h2).1).trans h2,h3⟩⟩
theorem YX{B k:Nat}(o:w.ownsRow B 73 4 v n ys)(h1:∀v∈ys,v.oneCell'=true)(hk:k<n)(hn:n<1000000000):
 Calls Tryz.prog 330 #[v,.int .i64 k,.int .i64 (k+1)] w λe w'=>∃v',e=.returned v'/\tu w' B v' (n -1) (ys.take (k*4)++(ys.drop ((k+1)*4)).take ((n -(k+1))*4))/\w.grownBy w' v.ownBlock:=by
 rcases o with⟨hl,⟨_,h0⟩|⟨g,cp,cur,rfl,hg1,hg2,hg3,hg4,hg5,hg6⟩⟩
 ·omega
 have T:vk w g n cp cur:=⟨hg2,hg5,hg3,hn,by rw[hg6];exact h1⟩;have e1:cur.toList.take (k*4)=ys.take (k*4):=by rw[<-hg6,List.take_take,kE (by omega)]
 have e2:(cur.toList.drop ((k+1)*4)).take ((n -(k+1))*4)=(ys.drop ((k+1)*4)).take ((n -(k+1))*4):=by rw[<-hg6,List.drop_take,List.take_take,show min ((n -(k+1))*4) (n*4 -(k+1)*4)=(n -(k+1))*4 by omega]
 refine(YY T hk).mono ?_
 rintro e w' ⟨cur',rfl,a1,a2⟩
 rw[e1,e2] at a2;exact⟨_,rfl,.inr ⟨_,cp,cur',rfl,by omega,hg1,a1.at_,a2⟩,⟨a1.os,a1.tape,a1.output,ta a1.size.symm,λk _ hk=>a1.block k (λe=>hk (by rw[e];rfl))⟩⟩
theorem Kn.grown{q:Option Nat}(h:Kn m w)(g:w.grownBy w' q)(z:∀b,q=some b->∀i,m b i=none):Kn m w':=λb i u hu=>by have hb:=oU (h b i u hu);refine(oe (g.block b hb λe=>?_)).trans (h b i u hu);have:=z b (by first|exact e|exact e.symm) i;rw[this] at hu;cases hu
theorem Dv.back(k:Kn m' W)(e:∀b i u,m' b i=some u->b<w.heap.size->m b i=some u):∀b i u,m' b i=some u->dj m w W b i=some u:=λb i u h=>by
 unfold dj;split
 ·exact e _ _ _ h ‹_›
 ·exact k _ _ _ h
set_option maxHeartbeats 4000000 in
set_option maxRecDepth 100000 in
theorem Y7{O:oH}{A:uZ}(HO:dI Tryz.prog 185 [mK] mK O)(HA:dI Tryz.prog 184 [.v,.i .i64] (.aH [.i .i64,.b]) A){r:Value}{t:Int}(e:yi O A x t=some r)(hx:aY x):
 (aY r/\bB [r]=true)/\∀{m:Nat->Nat->Option Value}{w:World}{y:Value},Kn m w->bj m x y->Calls Tryz.prog 285 #[y,.int .i64 t] w λe w'=>∃v',e=.returned v'/\RowKit.Below w.heap.size w w'/\bj (dj m w w') r v':=by
 have mixed:Tryz.prog.follows .mixedOrders=true:=by kernel_rfl
 unfold yi at e;replace e:=af e;obtain⟨⟨n,cs⟩,hr,e⟩:=e;obtain⟨q,e⟩:=aT e;rw[bg] at q;have hl:cs.length=n*4:=bJ q.1;have hn:n<1000000000:=cT q.2;replace e:=af e;obtain⟨res,ho,e⟩:=e;replace e:=af e;obtain⟨⟨k,is⟩,ha,e⟩:=e;have hcp:bO cs:=by have:=wJ hr;subst this;cases hx with|lit a b=>exact⟨a,b⟩
 obtain⟨pr,lr⟩:=Lx HO hcp.1 ho;have hat:=@P0 _ _ _ HA _ _ _ ha (fq (n:=n) pr);cases is with
 |false=>
  cases e;refine⟨fq pr,λ{m w y} hm L=>?_⟩;obtain⟨a,c,xs,rfl,L2,h1,h2,h3⟩:=Ga hr L hl
  go_enter Tryz.func285,Tryz.ntmps285
  go_wp2_with (first|(go_at_call 298;refine(Fu HO hm L2 hcp.1 ho h1 h2 h3 (by rw[<-L2.len];exact hl) hn (L2.mn hcp.2)).mono ?_;rintro e w1 ⟨v,rfl,o1⟩;obtain⟨p,cp,rfl,hcp⟩:=(show∃p cp,v=.slice p n cp/\n<=cp from by obtain⟨_,_,o,_⟩:=o1.row;exact ownsRow_form o))|(go_at_call 184;refine(hat (λ_ _ _ h=>h) o1.shown).mono ?_;rintro e w2 ⟨rfl,b2⟩))
  go_ret
  obtain⟨m',ys,o,L3,k3,z3,e3,n3⟩:=o1.row;refine⟨_,rfl,o1.below.trans (b2.mono o1.below.size),?_⟩;exact Gb (aez (yY o b2)) L3 (k3.below b2) λb i u hb h=>by have:=n3 b i u h;unfold dj at this;rwa[ar hb] at this
 |true=>
  obtain⟨q2,e⟩:=aT e;cases e;rw[bg] at q2;obtain⟨k,rfl⟩:∃k':Nat,k=k':=⟨k.toNat,by have:=qw q2.1;simp at this;omega⟩;have hk:k<n:=by have:=cT q2.2;simpa using this
  have pr2:bO (res.take (k*4)++(res.drop ((k+1)*4)).take ((n -(k+1))*4)):=by
   refine⟨λx hx=>?_,qV _ _ (Fq pr.2 _) (Fq (Lo pr.2 _) _)⟩;rcases eM.1 hx with hx|hx
   ·exact pr.1 x (List.mem_of_mem_take hx)
   ·exact pr.1 x (xr (List.mem_of_mem_take hx))
  refine⟨fq pr2,λ{m w y} hm L=>?_⟩;obtain⟨a,c,xs,rfl,L2,h1,h2,h3⟩:=Ga hr L hl
  go_enter Tryz.func285,Tryz.ntmps285
  have n5:IntKind.i64.wrap ((k:Int)+1)=(k:Int)+1:=by rw[IntKind.wrap_i64];omega
  go_wp2_with (first|(go_at_call 298;refine(Fu HO hm L2 hcp.1 ho h1 h2 h3 (by rw[<-L2.len];exact hl) hn (L2.mn hcp.2)).mono ?_;rintro e w1 ⟨v,rfl,o1⟩;obtain⟨p,cp,rfl,hcp⟩:=(show∃p cp,v=.slice p n cp/\n<=cp from by obtain⟨_,_,o,_⟩:=o1.row;exact ownsRow_form o))|(go_at_call 184;refine(hat (λ_ _ _ h=>h) o1.shown).mono ?_;rintro e w2 ⟨rfl,b2⟩)|(go_at_call 330;obtain⟨m',ys,o,L3,k3,z3,e3,n3⟩:=o1.row;refine(YX (yY o b2) (L3.mn pr.2) hk hn).mono ?_;rintro e w3 ⟨v',rfl,R,G⟩))
  go_ret
  refine⟨_,rfl,?_,Gb R ((L3.take _).join ((L3.drop _).take _)) ((k3.below b2).grown G z3) λb i u hb h=>by have:=n3 b i u h;unfold dj at this;rwa[ar hb] at this⟩;exact(o1.below.trans (b2.mono o1.below.size)).grown G (o1.below.trans (b2.mono o1.below.size)).size λq e=>Fv o e
end
section
open Go.Shelf Go.RowKit Go.Lib
variable{A:uZ}
theorem Y6{O:oH}(HO:dI Tryz.prog 185 [mK] mK O)(HA:dI Tryz.prog 184 [.v,.i .i64] (.aH [.i .i64,.b]) A):dI Tryz.prog 285 [.v,.i .i64] .v (yi O A):=by
 intro ls r e hl us hu;obtain⟨x,r1,us1,h1,h2,rfl⟩:=gD hu;obtain⟨y,r2,us2,h3,h4,rfl⟩:=gD h2;obtain⟨rfl,rfl⟩:=pN h4;obtain rfl:=lY h1;obtain⟨t,rfl,rfl⟩:=tR h3;replace e:yi O A x t=some r:=e;have px:=(hl x (by simp)).1;obtain⟨p1,W⟩:=Y7 HO HA e px;refine⟨λz hz=>?_,r,rfl,BZ (λa ha=>?_) λm args' w hm A=>?_⟩
 ·have hz:bo.v z∈[bo.v r]:=hz;rw[bo.v.inj (kC.1 hz)];exact p1
 ·have ha:a=x\/a=.int .i64 t:=by simpa using ha
  rcases ha with rfl|rfl
  ·exact px
  ·exact .int _ _
 ·obtain⟨al⟩:=args';replace A:aP m _ al:=A;cases A with|cons a0 A=>?_
  cases A with|cons a1 A=>?_
  cases A;cases a1;exact W hm a0
variable{T:TypeId} {c0 c1 c2 c3:Value} {w w1:World}
theorem P9(b:RowKit.Below (w.alloc (.cells #[c0,c1,c2,c3] T)).heap.size (w.alloc (.cells #[c0,c1,c2,c3] T)) w1):
 w1.cell? ⟨w.heap.size,0,none⟩=some c0/\w1.cell? ⟨w.heap.size,1,none⟩=some c1/\w1.cell? ⟨w.heap.size,2,none⟩=some c2/\w1.cell? ⟨w.heap.size,3,none⟩=some c3/\w1.heap[w.heap.size]? =some (.cells #[c0,c1,c2,c3] T (0,0)):=by
 have h:w1.heap[w.heap.size]? =some (.cells #[c0,c1,c2,c3] T (0,0)):=(b.block _ (by simp)).trans (World.alloc_heap_new w _);refine⟨?_,?_,?_,?_,h⟩<;>(unfold World.cell?;simp[h])
variable{cs ys:List Value} {m':Nat->Nat->Option Value} {n:Nat} {v:Value}
theorem Wn{wr:World}{B:Nat}(o:wr.ownsRow B 73 4 v n ys)(L:aP m' cs ys)(k:Kn m' wr):bj (λb i=>fc wr b i) (ae n cs) v:=by
 obtain⟨hl,⟨rfl,rfl⟩|⟨g,cp,cur,rfl,h1,h2,h3,h4,h5,h6⟩⟩:=o
 ·have:cs=[]:=jJ (by rw[L.len];omega);subst this;exact .fN
 ·refine .gH (L.mono λb i u hu=>k b i u hu) (λi y hy=>?_) rfl h3;rw[qR h2,fg];rw[<-h6,qq] at hy;split at hy
  ·simpa using hy
  ·cases hy
theorem aey{w':World}{B b:Nat}{xs:List Value}(h:w.ownsRow B 73 4 v n xs)(s:nM b ⟨cs⟩ T (0,0) w w')(hb:b<B):w'.ownsRow B 73 4 v n xs:=by
 obtain⟨hl,h|⟨g,cp,cur,h0,h1,h2,h3⟩⟩:=h
 ·exact⟨hl,.inl h⟩
 ·exact⟨hl,.inr ⟨g,cp,cur,h0,h1,(s.block g (by omega)).trans h2,h3⟩⟩
variable{m:Nat->Nat->Option Value} {res:List Value} {vd z':Value} {w3:World}
theorem VF{w2:World}{X:Obj}(hm:Kn m w)(bel:RowKit.Below (w.alloc X).heap.size (w.alloc X) w1)(o:w1.ownsRow (w.alloc X).heap.size 73 4 v n ys)(L3:aP m' res ys)(k3:Kn m' w1)(z3:∀q,v.ownBlock=some q->∀i,m' q i=none)
 (n3:∀b i u,m' b i=some u->dj m (w.alloc X) w1 b i=some u) (b2:RowKit.Below w1.heap.size w1 w2) (lz:bj (dj m' w1 w2) vd z') (s5:nM w.heap.size ⟨cs⟩ T (0,0) w2 w3):
 ∃m2,w3.ownsRow (w.alloc X).heap.size 73 4 v n ys/\aP m2 res ys/\bj m2 vd z'/\Kn m2 w3/\(∀q,v.ownBlock=some q->∀i,m2 q i=none)/\(∀b i u,b<w.heap.size->m2 b i=some u->m b i=some u)/\RowKit.Below w.heap.size w w3:=by
 have hs:(w.alloc X).heap.size=w.heap.size+1:=by simp
 have lo:∀b i u,b<(w.alloc X).heap.size->m' b i=some u->m b i=some u:=λb i u hb h=>by have:=n3 b i u h;unfold dj at this;rwa[ar hb] at this
 have hbx:∀i,dj m' w1 w2 w.heap.size i=none:=λi=>by
  unfold dj;rw[ar (by have:=bel.size;omega)];cases h:m' w.heap.size i with
  |none=>rfl
  |some u=>have:=oU (hm _ _ _ (lo _ _ _ (by omega) h));omega
 have kn:=k3.new b2;refine⟨dj m' w1 w2,aey (yY o b2) s5 (by omega),L3.mono k3.mono,lz,λb i u hu=>?_,λq hq i=>?_,λb i u hb h=>?_,?_⟩
 ·exact(oe (s5.block b λe=>by rw[e,hbx] at hu;cases hu)).trans (kn b i u hu)
 ·have:=z3 q hq i;unfold dj;rw[ar (o.lt q hq).2];exact this
 ·unfold dj at h;rw[ar (by have:=bel.size;omega)] at h;exact lo _ _ _ (by omega) h
 ·have c:RowKit.Below w.heap.size w (w.alloc X):=(fb _ w).alloc (aB _) _;exact c.trans ((bel.mono (by omega)).trans ((b2.mono (by have:=bel.size;omega)).trans ⟨s5.os,s5.tape,s5.output,ta s5.size.symm,λk hk=>s5.block k (by omega)⟩))
variable{g:Nat}
theorem D0(h:w.heap[g]? =some (.cells ⟨[c0,c1,c2,c3]⟩ T (0,0))):w.cell? ⟨g,0,none⟩=some c0/\w.cell? ⟨g,1,none⟩=some c1/\w.cell? ⟨g,2,none⟩=some c2/\w.cell? ⟨g,3,none⟩=some c3:=by refine⟨?_,?_,?_,?_⟩<;>(unfold World.cell?;simp[h])
theorem tu.mono{B B':Nat}(h:tu w B v n cs)(hB:B'<=B):tu w B' v n cs:=by
 rcases h with h|⟨g,cp,cur,h0,h1,h2,h3⟩
 ·exact .inl h
 ·exact .inr ⟨g,cp,cur,h0,h1,eP hB h2,h3⟩
variable{k:Nat} {m2:Nat->Nat->Option Value} {t va vb:Int} {w4:World}
theorem afG{B:Nat}(r1:w3.ownsRow B 73 4 v n ys)(hB:B=w.heap.size+1)(r2:aP m2 res ys)(r3:bj m2 vd z')(r4:Kn m2 w3)(r5:∀q,v.ownBlock=some q->∀i,m2 q i=none)(r6:∀b i u,b<w.heap.size->m2 b i=some u->m b i=some u)(r7:RowKit.Below w.heap.size w w3)(b4:RowKit.Below w3.heap.size w3 w4)(ho:bB res=true)(hz:z'.oneCell'=true)(hn:n<1000000000)(hk:k<=n)(h3:B<=w3.heap.size):
 Calls Tryz.prog 299 #[v,.int .i64 k,.slice (some ⟨w4.heap.size,0,none⟩) 1 1] (w4.alloc (.cells #[.int .i64 t,.int .i64 va,.int .i64 vb,z'] 73)) λe w'=>∃v',e=.returned v'/\RowKit.Below w.heap.size w w'/\bj (dj m w w') (ae (n+1) (res.take (k*4)++([.int .i64 t,.int .i64 va,.int .i64 vb,vd]++res.drop (k*4)))) v':=by
 have c:RowKit.Below w4.heap.size w4 (w4.alloc (.cells #[.int .i64 t,.int .i64 va,.int .i64 vb,z'] 73)):=(fb _ w4).alloc (aB _) _;have o4:=yY r1 b4;have h4:=b4.size;have hz':(w4.alloc (.cells #[.int .i64 t,.int .i64 va,.int .i64 vb,z'] 73)).heap.size=w4.heap.size+1:=by simp
 refine(aak (B:=B) (X:=[.int .i64 t,.int .i64 va,.int .i64 vb,z']) (yY o4 c) (r2.mn ho) (by omega) hn hk rfl (λv h=>?_) (World.alloc_heap_new w4 _) λe=>?_).mono ?_
 ·simp only[cj,jh,jj] at h;rcases h with rfl|rfl|rfl|rfl
  ·rfl
  ·rfl
  ·rfl
  ·exact hz
 ·have:=(o4.lt _ e).2;omega
 ·rintro e w' ⟨v',rfl,R,G⟩
  have k5:=(r4.below b4).below c;have bw:RowKit.Below w.heap.size w (w4.alloc (.cells #[.int .i64 t,.int .i64 va,.int .i64 vb,z'] 73)):=r7.trans ((b4.mono (by omega)).trans (c.mono (by omega)));refine⟨v',rfl,bw.grown G bw.size λq e=>?_,Gb (tu.mono R (by omega)) ((r2.take _).join ((aP.cons (.int _ _) (.cons (.int _ _) (.cons (.int _ _) (.cons r3 .nil)))).join (r2.drop _))) (k5.grown G r5) r6⟩;have:=Fv r1 e;omega
theorem ahY{o:Nat}{cur:Array Value}{t:TypeId}(h:w.heap[g]? =some (.cells cur t (0,0)))(hl:o+4<=cur.size)(c a b:Int){z:Value}(hz:z.oneCell'=true):
 (∃v,w.cell? ⟨g,o,none⟩=some v)/\(∀k,w.frozen? ⟨g,k,none⟩=false)/\(∃v,(w.setCell ⟨g,o,none⟩ (.int .i64 c)).cell? ⟨g,o+1,none⟩=some v)/\(∃v,((w.setCell ⟨g,o,none⟩ (.int .i64 c)).setCell ⟨g,o+1,none⟩ (.int .i64 a)).cell? ⟨g,o+2,none⟩=some v)/\
 ∃w',(store ⟨g,o+3,none⟩ z).run Tryz.prog (((w.setCell ⟨g,o,none⟩ (.int .i64 c)).setCell ⟨g,o+1,none⟩ (.int .i64 a)).setCell ⟨g,o+2,none⟩ (.int .i64 b))=.ok () w'/\nM g ⟨(((cur.toList.set o (.int .i64 c)).set (o+1) (.int .i64 a)).set (o+2) (.int .i64 b)).set (o+3) z⟩ t (0,0) w w':=by
 have q0:=IG (k:=o) h (.int .i64 c);obtain⟨⟨v1,s1⟩,_,_,⟨v2,s2⟩,w',s3,s4⟩:=Is q0.at_ (o:=o) (by show _<=(cur.toList.set _ _).length;simpa using hl) a b hz;refine⟨⟨cur[o],?_⟩,λk=>?_,⟨v1,s1⟩,⟨v2,s2⟩,w',s3,⟨s4.os.trans q0.os,s4.tape.trans q0.tape,s4.output.trans q0.output,s4.size.trans q0.size,λk hk=>(s4.block k hk).trans (q0.block k hk),s4.at_⟩⟩
 ·unfold World.cell?;simp[h]
 ·unfold World.frozen?;simp[h]
theorem afI{B cp:Nat}{p:Option Addr}(r1:w3.ownsRow B 73 4 (.slice p n cp) n ys)(hB:B=w.heap.size+1)(r2:aP m2 res ys)(r3:bj m2 vd z')(r4:Kn m2 w3)(r5:∀q,(Value.slice p n cp).ownBlock=some q->∀i,m2 q i=none)(r6:∀b i u,b<w.heap.size->m2 b i=some u->m b i=some u)(r7:RowKit.Below w.heap.size w w3)(b4:RowKit.Below w3.heap.size w3 w4)(hz:z'.oneCell'=true)(hk:k<n)(h3:B<=w3.heap.size):
 ∃g,p=some ⟨g,0,none⟩/\(∃v,w4.cell? ⟨g,k*4,none⟩=some v)/\(∀k,w4.frozen? ⟨g,k,none⟩=false)/\(∃v,(w4.setCell ⟨g,k*4,none⟩ (.int .i64 t)).cell? ⟨g,k*4+1,none⟩=some v)/\(∃v,((w4.setCell ⟨g,k*4,none⟩ (.int .i64 t)).setCell ⟨g,k*4+1,none⟩ (.int .i64 va)).cell? ⟨g,k*4+2,none⟩=some v)/\
 ∃w',(store ⟨g,k*4+3,none⟩ z').run Tryz.prog (((w4.setCell ⟨g,k*4,none⟩ (.int .i64 t)).setCell ⟨g,k*4+1,none⟩ (.int .i64 va)).setCell ⟨g,k*4+2,none⟩ (.int .i64 vb))=.ok () w'/\RowKit.Below w.heap.size w w'/\bj (dj m w w') (ae n (res.take (k*4)++([.int .i64 t,.int .i64 va,.int .i64 vb,vd]++res.drop ((k+1)*4)))) (.slice (some ⟨g,0,none⟩) n cp):=by
 obtain⟨hl,⟨_,h0⟩|⟨g,cp',cur,e,hg1,hg2,hg3,hg4,hg5,hg6⟩⟩:=yY r1 b4
 ·omega
 cases e;obtain⟨a1,a2,a3,a4,w5,a5,a6⟩:=ahY hg2 (o:=k*4) (by omega) t va vb hz;have g9:=r5 g rfl;have k4:=r4.below b4;have hs4:=b4.size;refine⟨g,rfl,a1,a2,a3,a4,w5,a5,r7.trans ((b4.mono (by omega)).trans ⟨a6.os,a6.tape,a6.output,ta a6.size.symm,λj hj=>a6.block j (by omega)⟩),?_⟩;refine Gb (.inr ⟨g,cp,_,rfl,hg3,by omega,a6.at_,rfl⟩) ?_ (λb i u hu=>(oe (a6.block b λe=>by rw[e,g9] at hu;cases hu)).trans (k4 b i u hu)) r6;have hT:((((cur.toList.set (k*4) (.int .i64 t)).set (k*4+1) (.int .i64 va)).set (k*4+2) (.int .i64 vb)).set (k*4+3) z').take (n*4)=ys.take (k*4)++([.int .i64 t,.int .i64 va,.int .i64 vb,z']++ys.drop ((k+1)*4)):=by
  rw[List.take_set,List.take_set,List.take_set,List.take_set,hg6];have e0:ys=ys.take (k*4)++ys.drop (k*4):=(mD _ _).symm;have e1:(ys.take (k*4)).length=k*4:=by rw[dH];omega
  have e2:(ys.drop (k*4)).length=(n -k)*4:=by rw[dZ];omega
  have e3:ys.drop ((k+1)*4)=(ys.drop (k*4)).drop 4:=by rw[List.drop_drop];congr 1;omega
  rw[e3]
  conv=>lhs;rw[e0]
  generalize ys.take (k*4)=P at*;generalize ys.drop (k*4)=Q at*;have hd:∀j (u:Value) (x:List Value),(P++x).set (k*4+j) u=P++x.set j u:=λj u x=>by rw[List.set_append_right _ _ (by omega)];congr 2;omega
  rw[show(P++Q).set (k*4) (.int .i64 t)=P++Q.set 0 (.int .i64 t) from hd 0 _ _,hd,hd,hd]
  match Q,e2 with
  |x0::x1::x2::x3::Q,_=>rfl
  |[],h=>simp at h;omega
  |[_],h=>simp at h;omega
  |[_,_],h=>simp at h;omega
  |[_,_,_],h=>simp at h;omega
 show aP m2 _ (List.take (n*4) (List.set _ _ _));rw[hT];exact(r2.take _).join ((aP.cons (.int _ _) (.cons (.int _ _) (.cons (.int _ _) (.cons r3 .nil)))).join (r2.drop _))
noncomputable def zr(O:oH)(A:uZ)(x:Value)(t a b:Int)(d:Value):Option Value:=ob (rowOf x) λp=>cond (Nat.beq p.2.length (p.1 *4)&&Nat.blt p.1 1000000000&&bB [d]) (ob (nb O p.2) λres=>ob (O a b d) λv=>ob (A (ae p.1 res) t) λq=>cond q.2
 (cond (decide (0<=q.1)&&Nat.blt q.1.toNat p.1) (some (ae p.1 (res.take (q.1.toNat*4)++([.int .i64 t,.int .i64 v.1,.int .i64 v.2.1,v.2.2]++res.drop ((q.1.toNat+1)*4))))) none)
 (cond (decide (0<=q.1)&&Nat.ble q.1.toNat p.1) (some (ae (p.1 +1) (res.take (q.1.toNat*4)++([.int .i64 t,.int .i64 v.1,.int .i64 v.2.1,v.2.2]++res.drop (q.1.toNat*4))))) none)) none
set_option maxHeartbeats 4000000 in
set_option maxRecDepth 100000 in
theorem afJ{O:oH}(HO:dI Tryz.prog 185 [mK] mK O)(HA:dI Tryz.prog 184 [.v,.i .i64] (.aH [.i .i64,.b]) A){x r d:Value}{a b:Int}(e:zr O A x t a b d=some r)(hx:aY x)(hd:aY d):
 (aY r/\bB [r]=true)/\∀{m:Nat->Nat->Option Value}{w:World}{y z:Value},Kn m w->bj m x y->bj m d z->Calls Tryz.prog 252 #[y,.agg #[.int .i64 t,.int .i64 a,.int .i64 b,z]] w λe w'=>∃v',e=.returned v'/\RowKit.Below w.heap.size w w'/\bj (dj m w w') r v':=by
 have mixed:Tryz.prog.follows .mixedOrders=true:=by kernel_rfl
 unfold zr at e;replace e:=af e;obtain⟨⟨n,cs⟩,hr,e⟩:=e;obtain⟨q,e⟩:=aT e;rw[bg,bg] at q;have hl:cs.length=n*4:=bJ q.1.1;have hn:n<1000000000:=cT q.1.2;have od:=q.2;replace e:=af e;obtain⟨res,ho,e⟩:=e;replace e:=af e;obtain⟨⟨va,vb,vd⟩,hv,e⟩:=e;replace e:=af e;obtain⟨⟨k,is⟩,ha,e⟩:=e;have hcp:bO cs:=by have:=wJ hr;subst this;cases hx with|lit a b=>exact⟨a,b⟩
 obtain⟨pr,lr⟩:=Lx HO hcp.1 ho;have hat:=@P0 _ _ _ HA _ _ _ ha (fq (n:=n) pr);obtain⟨pv,own⟩:=@Lw _ _ _ HO _ _ _ _ hv ⟨hd,od⟩;have pX:∀{l:List Value},bO l->bO ([.int .i64 t,.int .i64 va,.int .i64 vb,vd]++l):=λ{l} h=>by
  refine⟨λx hx=>?_,qV [.int .i64 t,.int .i64 va,.int .i64 vb,vd] _ (qV [.int .i64 t,.int .i64 va,.int .i64 vb] [vd] rfl pv.2) h.2⟩;simp only[jg,iF,cj] at hx;rcases hx with rfl|rfl|rfl|rfl|hx
  ·exact .int _ _
  ·exact .int _ _
  ·exact .int _ _
  ·exact pv.1
  ·exact h.1 x hx
 have pT:∀k,bO (res.take k):=λk=>⟨λx h=>pr.1 x (List.mem_of_mem_take h),Fq pr.2 k⟩;have pD:∀k,bO (res.drop k):=λk=>⟨λx h=>pr.1 x (xr h),Lo pr.2 k⟩;have pJ:∀{a b:List Value},bO a->bO b->bO (a++b):=λh1 h2=>⟨λx h=>(eM.1 h).elim (h1.1 x) (h2.1 x),qV _ _ h1.2 h2.2⟩;cases is with
 |false=>
  obtain⟨q2,e⟩:=aT e;cases e;rw[bg] at q2;obtain⟨k,rfl⟩:∃k':Nat,k=k':=⟨k.toNat,by have:=qw q2.1;simp at this;omega⟩;have hk:k<=n:=by have:=cI q2.2;simpa using this
  refine⟨fq (pJ (pT _) (pX (pD _))),λ{m w y z} hm L Lz=>?_⟩;obtain⟨s,c,xs,rfl,L2,h1,h2,h3⟩:=Ga hr L hl
  go_enter Tryz.func252,Tryz.ntmps252
  have hz1:z.oneCell'=true:=Lz.mn od;have b0:RowKit.Below w.heap.size w (w.alloc (.cells #[.int .i64 t,.int .i64 a,.int .i64 b,z] 73)):=(fb _ w).alloc (aB _) _
  go_wp2_with (first|(go_at_call 298;refine(Fu HO (w:=w.alloc (.cells #[.int .i64 t,.int .i64 a,.int .i64 b,z] 73)) (hm.below b0) L2 hcp.1 ho h1 h2 h3 (by rw[<-L2.len];exact hl) hn (L2.mn hcp.2)).mono ?_;rintro e w1 ⟨v,rfl,o1⟩;obtain⟨p,cp,rfl,hcp⟩:=(show∃p cp,v=.slice p n cp/\n<=cp from by obtain⟨_,_,o,_⟩:=o1.row;exact ownsRow_form o);obtain⟨bx0,bx1,bx2,bx3,bx⟩:=P9 o1.below;obtain⟨m',ys,o,L3,k3,z3,e3,n3⟩:=o1.row)|(go_at_call 185;refine(own k3 (Lz.mono e3)).mono ?_;rintro e w2 ⟨z',rfl,b2,lz⟩;have hz2:z'.oneCell'=true:=bj.mn lz pv.2;have bl1:=(lL.1 bx).1;have hbx:=(b2.block _ bl1).trans bx;have by0:=(iP (a:=⟨w.heap.size,0,none⟩) (b2.block _ bl1)).trans bx0;obtain⟨⟨v1,s1⟩,⟨v2,s2⟩,sf,⟨v3,s3⟩,w3,s4,s5⟩:=Is hbx (o:=0) (by simp) va vb hz2;simp only[fg] at s1 s2 s3 s4 s5;clear hbx;replace s5:nM w.heap.size ⟨[.int .i64 t,.int .i64 va,.int .i64 vb,z']⟩ 73 (0,0) w2 w3:=s5;obtain⟨f0,f1,f2,f3⟩:=D0 s5.at_)|(go_at_call 184;obtain⟨m2,r1,r2,r3,r4,r5,r6,r7⟩:=VF hm o1.below o L3 k3 z3 n3 b2 lz s5;refine(hat (λ_ _ _ h=>h) (Wn r1 r2 r4)).mono ?_;rintro e w4 ⟨rfl,b4⟩;have hb4:=(b4.block _ (lL.1 s5.at_).1).trans s5.at_;obtain⟨g0,g1,g2,g3⟩:=D0 hb4;clear hb4)|(go_at_call 299;refine(afG r1 (by simp) r2 r3 r4 r5 r6 r7 b4 pr.2 hz2 hn hk (by have:=o1.below.size;have:=b2.size;have:=s5.size;omega)).mono ?_;rintro e w5 ⟨v',rfl,b5,l5⟩))
  go_ret
  exact⟨_,rfl,b5,l5⟩
 |true=>
  obtain⟨q2,e⟩:=aT e;cases e;rw[bg] at q2;obtain⟨k,rfl⟩:∃k':Nat,k=k':=⟨k.toNat,by have:=qw q2.1;simp at this;omega⟩;have hk:k<n:=by have:=cT q2.2;simpa using this
  have hk':(k:Int)<(n:Int):=by omega
  refine⟨fq (pJ (pT _) (pX (pD _))),λ{m w y z} hm L Lz=>?_⟩;obtain⟨s,c,xs,rfl,L2,h1,h2,h3⟩:=Ga hr L hl
  go_enter Tryz.func252,Tryz.ntmps252
  have hz1:z.oneCell'=true:=Lz.mn od;have b0:RowKit.Below w.heap.size w (w.alloc (.cells #[.int .i64 t,.int .i64 a,.int .i64 b,z] 73)):=(fb _ w).alloc (aB _) _
  go_wp2_with (first|(go_at_call 298;refine(Fu HO (w:=w.alloc (.cells #[.int .i64 t,.int .i64 a,.int .i64 b,z] 73)) (hm.below b0) L2 hcp.1 ho h1 h2 h3 (by rw[<-L2.len];exact hl) hn (L2.mn hcp.2)).mono ?_;rintro e w1 ⟨v,rfl,o1⟩;obtain⟨p,cp,rfl,hcp⟩:=(show∃p cp,v=.slice p n cp/\n<=cp from by obtain⟨_,_,o,_⟩:=o1.row;exact ownsRow_form o);obtain⟨bx0,bx1,bx2,bx3,bx⟩:=P9 o1.below;obtain⟨m',ys,o,L3,k3,z3,e3,n3⟩:=o1.row)|(go_at_call 185;refine(own k3 (Lz.mono e3)).mono ?_;rintro e w2 ⟨z',rfl,b2,lz⟩;have hz2:z'.oneCell'=true:=bj.mn lz pv.2;have bl1:=(lL.1 bx).1;have hbx:=(b2.block _ bl1).trans bx;have by0:=(iP (a:=⟨w.heap.size,0,none⟩) (b2.block _ bl1)).trans bx0;obtain⟨⟨v1,s1⟩,⟨v2,s2⟩,sf,⟨v3,s3⟩,w3,s4,s5⟩:=Is hbx (o:=0) (by simp) va vb hz2;simp only[fg] at s1 s2 s3 s4 s5;clear hbx;replace s5:nM w.heap.size ⟨[.int .i64 t,.int .i64 va,.int .i64 vb,z']⟩ 73 (0,0) w2 w3:=s5;obtain⟨f0,f1,f2,f3⟩:=D0 s5.at_)|(go_at_call 184;obtain⟨m2,r1,r2,r3,r4,r5,r6,r7⟩:=VF hm o1.below o L3 k3 z3 n3 b2 lz s5;refine(hat (λ_ _ _ h=>h) (Wn r1 r2 r4)).mono ?_;rintro e w4 ⟨rfl,b4⟩;have hb4:=(b4.block _ (lL.1 s5.at_).1).trans s5.at_;obtain⟨g0,g1,g2,g3⟩:=D0 hb4;clear hb4;obtain⟨g,rfl,⟨x1,y1⟩,y2,⟨x3,y3⟩,⟨x4,y4⟩,w5,y5,b5,l5⟩:=afI (t:=t) (va:=va) (vb:=vb) r1 (by simp) r2 r3 r4 r5 r6 r7 b4 hz2 hk (by have:=o1.below.size;have:=b2.size;have:=s5.size;omega)))
  go_ret
  exact⟨_,rfl,b5,l5⟩
end
section
open Go.Shelf Go.RowKit Go.Lib
theorem afH{O:oH}{A:uZ}(HO:dI Tryz.prog 185 [mK] mK O)(HA:dI Tryz.prog 184 [.v,.i .i64] (.aH [.i .i64,.b]) A):dI Tryz.prog 252 [.v,.agg [.i .i64,.i .i64,.i .i64,.v]] .v (zr O A):=by
 intro ls r e hl us hu;obtain⟨x,r1,us1,h1,h2,rfl⟩:=gD hu;obtain⟨y,r2,us2,h3,h4,rfl⟩:=gD h2;obtain⟨rfl,rfl⟩:=pN h4;obtain rfl:=lY h1;obtain⟨vs,h5,rfl⟩:=Ei h3;obtain⟨y0,r3,us3,i0,h6,rfl⟩:=gD h5;obtain⟨y1,r4,us4,i1,h7,rfl⟩:=gD h6;obtain⟨y2,r5,us5,i2,h8,rfl⟩:=gD h7;obtain⟨d,r6,us6,i3,h9,rfl⟩:=gD h8;obtain⟨rfl,rfl⟩:=pN h9;obtain⟨t,rfl,rfl⟩:=tR i0;obtain⟨a,rfl,rfl⟩:=tR i1;obtain⟨b,rfl,rfl⟩:=tR i2;obtain rfl:=lY i3;replace e:zr O A x t a b d=some r:=e;have px:=(hl x (by simp)).1;have pd:=(hl d (by simp)).1;obtain⟨p1,W⟩:=afJ HO HA e px pd;refine⟨λz hz=>?_,r,rfl,BZ (λc hc=>?_) λm args' w hm A=>?_⟩
 ·have hz:bo.v z∈[bo.v r]:=hz;rw[bo.v.inj (kC.1 hz)];exact p1
 ·have hc:c=x\/c=.agg ⟨[.int .i64 t,.int .i64 a,.int .i64 b,d]⟩:=by simpa using hc
  rcases hc with rfl|rfl
  ·exact px
  ·refine .agg λz hz=>?_;simp only[cj,jh,jj] at hz;rcases hz with rfl|rfl|rfl|rfl
   ·exact .int _ _
   ·exact .int _ _
   ·exact .int _ _
   ·exact pd
 ·obtain⟨al⟩:=args';replace A:aP m _ al:=A;cases A with|cons a0 A=>?_
  cases A with|cons a1 A=>?_
  cases A;cases a1 with
  |@agg _ xs' h=>
  obtain⟨xl⟩:=xs';cases h with|cons j0 h=>?_
  cases j0;cases h with|cons j1 h=>?_
  cases j1;cases h with|cons j2 h=>?_
  cases j2;cases h with|cons j3 h=>?_
  cases h;exact W hm a0 j3
end
end Lt
end Go.Proofs.YtfdojmichbgpiaaGreatDoor

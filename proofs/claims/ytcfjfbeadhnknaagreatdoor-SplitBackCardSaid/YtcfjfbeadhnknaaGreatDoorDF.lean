import Derived.Maps.AppendAt
import Derived.RangeFuncBox
import Derived.StillTailTactics
import Derived.OrdersIn
import Derived.Laws.Append
import Derived.Test.YtcfjfbeadhnknaaGreatDoorDE
namespace Go.Proofs.YtcfjfbeadhnknaaGreatDoor
set_option linter.unusedVariables false
set_option linter.unusedSimpArgs false
set_option linter.unusedSectionVars false
set_option linter.constructorNameAsVariable false
set_option maxRecDepth 100000
set_option maxHeartbeats 8000000
section
open Go.Shelf Go.RowKit Go.Lib
attribute [local go_sem] Oper.semAt_some
theorem cell_of{W:jp}{b:Nat}{v:H1}{t:TypeId}(h:W.heap[b]? =some (.cells #[v] t (0,0))):W.cell? ⟨b,0,none⟩=some v/\W.frozen? ⟨b,0,none⟩=false:=by
 constructor
 ·unfold World.cell?;simp only[h];rfl
 ·unfold World.frozen?;simp only[h];rfl
theorem Qr(W:jp)(o:Obj)(q:Nat):(W.alloc o).heap[q]? =if q=W.heap.size then some o else W.heap[q]? :=by
 split
 ·rename_i h;subst h;exact World.alloc_heap_new W o
 ·rcases ia q W.heap.size with h|h
  ·exact Below.heap_alloc _ _ _ h
  ·rw[Array.getElem?_eq_none (by rw[jt];omega),Array.getElem?_eq_none h]
theorem Bg{W W':jp}{B k:Nat}{v:H1}{xs:qr H1}(h:W.ownsRow B 3 1 v k xs)(e:∀g,B<=g->g<W.heap.size->W'.heap[g]? =W.heap[g]?):W'.ownsRow B 3 1 v k xs:=by
 obtain⟨l,h|⟨g,cap,cur,e1,e2,e3,r⟩⟩:=h
 ·exact⟨l,.inl h⟩
 ·exact⟨l,.inr ⟨g,cap,cur,e1,e2,(e g e2 (fy.1 e3).1).trans e3,r⟩⟩
theorem SN:(Tryz.prog.info? 3).map (λi=>(i.zero,i.size,i.bytes))=some (some (.int .i64 0),1,8):=by kernel_rfl
namespace Lt
theorem Eo{m:Nat->Nat->Hx H1}:∀l:qr Int,bI m (l.map (Value.int .i64)) (l.map (Value.int .i64))/\bh (l.map (Value.int .i64))=true
 |[]=>⟨.nil,rfl⟩
 |_::l=>⟨.cons (.int _ _) (Eo l).1,(Eo (m:=m) l).2⟩
end Lt
structure xa(w:World)(z q:Nat)(R0:Loop)(p:Option Addr)(n c:Nat)(acc:List Int)(W:World):Prop where
 gE:RowKit.Below z w W
 b0:∃v,W.heap[z]? =some (.cells #[v] 47 (0,0))
 b1:∃v,W.heap[z+1]? =some (.cells #[v] 36 (0,0))
 b2:∃v,W.heap[z+1+1]? =some (.cells #[v] 47 (0,0))/\W.ownsRow (q+2) 3 1 v acc.length (acc.map (Value.int .i64))
 b3:W.heap[z+1+1+1]? =some (.cells #[.slice p n c] 26 (0,0))
 b4:W.heap[q]? =some (.deferred (some []))
 b5:W.heap[q+1]? =some (.loop R0)
theorem xa.tL{w:jp}{z q:Nat}{R0:Loop}{p:Hx Addr}{n c:Nat}{acc:qr Int}{W W':jp}(h:xa w z q R0 p n c acc W)(hz:z<=w.heap.size)(b:RowKit.Below W.heap.size W W'):xa w z q R0 p n c acc W':=by have k:∀{q o},W.heap[q]? =some o->W'.heap[q]? =some o:=λ{q o} e=>(b.block q (fy.1 e).1).trans e;obtain⟨a,⟨v0,h0⟩,⟨v1,h1⟩,⟨v2,h2,r2⟩,h3,h4,h5⟩:=h;exact⟨a.trans (b.mono (fH hz a.size)),⟨v0,k h0⟩,⟨v1,k h1⟩,⟨v2,k h2,Bg r2 λg _ hg=>b.block g hg⟩,k h3,k h4,k h5⟩
theorem aa1{m:Nat->Nat->Hx H1}{w:jp}(hk:Lt.Kn m w){A:Lt.qJ}(HA:Lt.cS Tryz.prog 97 [.v,.i .i64] (.aG [.i .i64,.b]) A){x:H1}(hx:Lt.gD x/\Lt.bh [x]=true){p:Hx Addr}{n c:Nat}(hn:n<1000000001)(L:Lt.aN m x (.slice p n c))
 {f:Nat} {R:qr Int} (hf:Lt.rV A x n f 0 []=some R) (h0:0<R.length) (h1:R.length<=1000000):
 Calls Tryz.prog 23 #[.slice p n c] w λe w'=>∃v,e=.returned (.tuple #[v,.int .i64 0])/\RowKit.Below w.heap.size w w'/\Lt.aN (Lt.cO m w w') (Lt.ae (R.length+1) ((R++[(n:Int)]).map (Value.int .i64))) v:=by
 refine(callsIn_wide (n:=0)).1 ?_;refine callsIn_of_wp_marks Tryz.func23 rfl trivial ?_ rfl;simp only[Tryz.ntmps23,p9,bW,List.length_nil,Nat.reduceAdd,Nat.reduceSub,pU,pV,pZ,pW,eK,ec]
 gi_wp2
 refine⟨trivial,rfl,(callsIn_wide.2 (abD _ _ _ _)).mono ?_⟩
 rintro e w2 ⟨rfl,rfl⟩
 gi_wp2
 obtain⟨z,hz⟩:∃z,z=w.heap.size:=⟨_,rfl⟩;obtain⟨w2,hw2⟩:∃w2,w2=(((w.alloc (.cells #[.slice none 0 0] 47)).alloc (.cells #[.int .i64 0] 36)).alloc (.cells #[.slice none 0 0] 47)).alloc (.cells #[.slice p n c] 26):=⟨_,rfl⟩;have J0:RowKit.Below z w w2/\w2.heap.size=z+4/\w2.heap[z]? =some (.cells #[.slice none 0 0] 47 (0,0))/\w2.heap[z+1]? =some (.cells #[.int .i64 0] 36 (0,0))/\w2.heap[z+1+1]? =some (.cells #[.slice none 0 0] 47 (0,0))/\w2.heap[z+1+1+1]? =some (.cells #[.slice p n c] 26 (0,0)):=by
  rw[hw2,hz];refine⟨((((ft _ w).alloc (aM _) _).alloc (by simp) _).alloc (by simp;omega) _).alloc (by simp;omega) _,by simp,?_,?_,?_,?_⟩;all_goals
   simp only[Qr,jt,dW]
   repeat rw[aq (by omega)]
 rw[<-hw2,<-hz];clear hw2;obtain⟨J1,J2,J3,J4,J5,J6⟩:=J0;refine Bw (gf:=121) (lb:=#[.pointer (some ⟨z+1+1+1,0,none⟩)]) rfl (enters_of Tryz.func121 (by kernel_rfl) rfl) ?_;intro fn W1 hW1;refine(callsIn_wide (n:=0)).1 ?_;generalize hR0:iX fn _ _ _ _ _ .ready=R0 at hW1⊢;obtain⟨q,hq⟩:∃q,q=w2.heap.size:=⟨_,rfl⟩;have j0:xa w z q R0 p n c [] W1:=by
  have bl:RowKit.Below w2.heap.size w2 W1:=by rw[hW1];exact((ft _ w2).alloc (aM _) _).alloc (by simp) _
  have k:∀{q o},w2.heap[q]? =some o->W1.heap[q]? =some o:=λ{q o} e=>(bl.block q (fy.1 e).1).trans e;refine⟨J1.trans (bl.mono (by omega)),⟨_,k J3⟩,⟨_,k J4⟩,⟨_,k J5,World.ownsRow_nil _ _ _ _⟩,k J6,?_,?_⟩
  ·rw[hW1,hq];exact(Below.heap_alloc _ _ _ (by simp)).trans (World.alloc_heap_new w2 _)
  ·have:=World.alloc_heap_new (w2.alloc (.deferred (some []))) (.loop R0);rw[jt] at this;rw[hW1,hq];exact this
 rw[<-hq];have zq4:z+4<=q:=by omega
 have z1:z<=w.heap.size:=by omega
 have z2:w.heap.size<=z:=by omega
 clear hq hW1 J1 J2 J3 J4 J5 J6 hz;refine(abE (z+1+1+1) (q+1) HA hx (by omega) L (xa w z q R0 p n c) (λacc W h=>⟨?_,(cell_of h.b3).1⟩) (λacc W W' h b=>h.tL (by omega) b) ?hy hf W1 j0).mono ?_
 ·exactλb i v e=>(Lt.r8 (h.gE.block b (by have:=Lt.mP (hk b i v e);omega))).trans (hk b i v e)
 case hy=>
  intro acc a e W hj hl hlt;obtain⟨gE,⟨v0,c0⟩,⟨v1,c1⟩,⟨v2,c2,r2⟩,c3,d1,d2⟩:=hj;rw[<-hR0] at d2;refine(FJ (n:=0) (R:=xa w z q R0 p n c (acc++[a])) d2 rfl ?_).mono λe' W' h=>h;rw[hR0] at d2⊢;generalize iX fn _ _ _ _ _ .busy=R1;have D2:=Lib.hid d2;clear d2
  gi_wp2
  refine⟨D2.out,?_⟩;obtain⟨W2,hW2⟩:∃W2,W2=W.putObj (q+1) (.loop R1):=⟨_,rfl⟩;have zq:q+1<W.heap.size:=(fy.1 D2.out).1;have sz:W.heap.size<=W2.heap.size:=by rw[hW2];simp
  have sz2:W2.heap.size<=W.heap.size:=by rw[hW2];simp
  have kl:W2.heap[q+1]? =some (.loop R1):=by rw[hW2];exact World.putObj_heap_same zq
  have pk:∀k,k≠q+1->W2.heap[k]? =W.heap[k]? :=λk hk=>by rw[hW2];exact World.putObj_heap_other hk
  have os2:W2.os=W.os/\W2.tape=W.tape/\W2.output=W.output:=by rw[hW2];exact⟨rfl,rfl,rfl⟩
  rw[<-hW2];clear hW2;have k2:=(pk _ (by omega)).trans c2;have r2:=Bg r2 λg hg _=>pk g (by omega);have nb:∀k,k<q+2->some k≠v2.ownBlock:=λk hk e=>by have:=(r2.lt k e.symm).1;omega
  obtain⟨q1,q2⟩:=cell_of k2;have ne:¬a=e:=by omega
  obtain⟨i0,hi,hz0,hz1,hz2⟩:=info_parts SN
  gi_wp2_with (gi_at_builtin;refine wpListIn_append_own _ rfl _ _ 47 rfl (q+2) 3 i0 (.int .i64 0) 1 8 Tryz.underlying47 hi hz0 hz1 hz2 rfl (by decide) _ _ _ rfl (r2.alloc _) ⟨W2.heap.size,0,none⟩ 1 1 [.int .i64 a] rfl rfl (cell_one_new _ _ _) (by simp[Value.oneCell']) (by show _<=9223372036854775807;omega) (by omega) (by simp;omega) ?_;intro v' w1 hown hgrow hnil;obtain⟨g',cap',rfl⟩:=ownsRow_succ hown;have hb1:w1.heap[z+1+1]? =some (.cells #[v2] 47 (0,0)):=(hgrow.block (z+1+1) (by simp;omega) (nb _ (by omega))).trans ((Below.heap_alloc _ _ _ (by omega)).trans k2);obtain⟨hc1,hf1⟩:=cell_of hb1)
  have z3:=hgrow.size;rw[jt] at z3;have e1:∀k (v:H1),k<q+2->k≠z+1+1->(w1.setCell ⟨z+1+1,0,none⟩ v).heap[k]? =W2.heap[k]? :=λk v hk cL=>(Below.heap_setCell _ _ _ k cL).trans ((hgrow.block k (by rw[jt];omega) (nb k hk)).trans (Below.heap_alloc _ _ _ (by omega)));have po:∀(Wf:jp) k,k≠q+1->(Wf.putObj (q+1) (.loop R0)).heap[k]? =Wf.heap[k]? :=λWf k h=>World.putObj_heap_other h;have al:∀(k:Nat)(v:H1){o},k<q+2->k≠z+1+1->k≠q+1->W.heap[k]? =some o->((w1.setCell ⟨z+1+1,0,none⟩ v).putObj (q+1) (.loop R0)).heap[k]? =some o:=λk v o h1 h2 h3 h=>(po _ k h3).trans ((e1 k v h1 h2).trans ((pk k h3).trans h));refine⟨(e1 (q+1) _ (by omega) (by omega)).trans kl,⟨⟨?_,?_,?_,?_,λk hk=>?_⟩,⟨v0,al _ _ (by omega) (by omega) (by omega) c0⟩,⟨v1,al _ _ (by omega) (by omega) (by omega) c1⟩,⟨_,(po _ _ (by omega)).trans (Boxed.set _ hb1),?_⟩,al _ _ (by omega) (by omega) (by omega) c3,al _ _ (by omega) (by omega) (by omega) d1,World.putObj_heap_same (by simp;omega)⟩⟩
  ·exact hgrow.os.trans (os2.1.trans gE.os)
  ·exact hgrow.tape.trans (os2.2.1.trans gE.tape)
  ·exact hgrow.output.trans (os2.2.2.trans gE.output)
  ·have:=gE.size;simp;omega
  ·exact(po _ k (by omega)).trans ((e1 k _ (by omega) (by omega)).trans ((pk k (by omega)).trans (gE.block k hk)))
  ·rw[aT,fS];exact Bg hown λg hg _=>(po _ g (by omega)).trans (Below.heap_setCell _ _ _ g (by show g≠z+1+1;omega))
 rintro e W2 ⟨⟨v,rfl⟩,j⟩
 refine⟨⟨_,rfl⟩,j.b5,?_⟩;generalize iX fn _ _ _ _ _ .exhausted=R9;obtain⟨gE,⟨v0,c0⟩,⟨v1,c1⟩,⟨v2,c2,r2⟩,c3,d1,d2⟩:=j;obtain⟨W3,hW3⟩:∃W3,W3=W2.putObj (q+1) (.loop R9):=⟨_,rfl⟩;have pk:∀k,k≠q+1->W3.heap[k]? =W2.heap[k]? :=λk hk=>by rw[hW3];exact World.putObj_heap_other hk
 have zq:q+1<W2.heap.size:=(fy.1 d2).1;have sz:W2.heap.size<=W3.heap.size:=by rw[hW3];simp
 have bel3:RowKit.Below z w W3:=by refine gE.trans ?_;rw[hW3];exact⟨rfl,rfl,rfl,by simp,λk hk=>World.putObj_heap_other (by omega)⟩
 rw[<-hW3];clear hW3;replace c0:=(pk _ (by omega)).trans c0;replace c1:=(pk _ (by omega)).trans c1;replace c2:=(pk _ (by omega)).trans c2;replace d1:=(pk _ (by omega)).trans d1;replace r2:=Bg r2 λg hg _=>pk g (by omega);obtain⟨k,hk1⟩:∃k,R.length=k+1:=⟨R.length -1,by omega⟩;rw[hk1] at r2;obtain⟨g1,cp1,rfl⟩:=ownsRow_succ r2;have nb:∀k,k<q+2->some k≠(Value.slice (some ⟨g1,0,none⟩) (R.length) cp1).ownBlock:=λk hk e=>by cases e;have:q+2<=g1:=(r2.lt g1 rfl).1;have hk:g1<q+2:=hk;omega
 obtain⟨p0,f0⟩:=cell_of c0;obtain⟨p1,f1⟩:=cell_of c1;obtain⟨p2,f2⟩:=cell_of c2;obtain⟨i0,hi,hz0,hz1,hz2⟩:=info_parts SN;have ne:¬(((k+1:Nat):Int)=0):=by omega
 clear pk
 gi_wp2_with (gi_at_builtin;refine wpListIn_append_own _ rfl _ _ 47 rfl (q+2) 3 i0 (.int .i64 0) 1 8 Tryz.underlying47 hi hz0 hz1 hz2 rfl (by decide) _ _ _ rfl (r2.alloc _) ⟨W3.heap.size,0,none⟩ 1 1 [.int .i64 n] rfl rfl (cell_one_new _ _ _) (by simp[Value.oneCell']) (by show _<=9223372036854775807;omega) (by omega) (by simp;omega) ?_;intro v' w1 hown hgrow hnil;obtain⟨g',cap',rfl⟩:=ownsRow_succ hown;have hb0:w1.heap[z]? =some (.cells #[v0] 47 (0,0)):=(hgrow.block z (by simp;omega) (nb _ (by omega))).trans ((Below.heap_alloc _ _ _ (by omega)).trans c0);have hb1:w1.heap[z+1]? =some (.cells #[v1] 36 (0,0)):=(hgrow.block (z+1) (by simp;omega) (nb _ (by omega))).trans ((Below.heap_alloc _ _ _ (by omega)).trans c1);obtain⟨hc0,hf0⟩:=cell_of hb0;obtain⟨hc1,hf1⟩:=cell_of hb1)
 have e1:∀k (x y:H1),k≠z->k≠z+1->k≠q->(((w1.setCell ⟨z,0,none⟩ x).setCell ⟨z+1,0,none⟩ y).putObj q (.deferred none)).heap[k]? =w1.heap[k]? :=λk x y h1 h2 h3=>(World.putObj_heap_other h3).trans ((Below.heap_setCell _ _ _ k h2).trans (Below.heap_setCell _ _ _ k h1));have dq:∀(x y:H1),((w1.setCell ⟨z,0,none⟩ x).setCell ⟨z+1,0,none⟩ y).heap[q]? =some (.deferred (some [])):=λx y=>(Below.heap_setCell _ _ _ q (by show q≠z+1;omega)).trans ((Below.heap_setCell _ _ _ q (by show q≠z;omega)).trans ((hgrow.block q (by rw[jt];omega) (nb _ (by omega))).trans ((Below.heap_alloc _ _ _ (by omega)).trans d1)));refine⟨by simp,.inl ⟨_,_,rfl,run_takeDeferred (dq _ _),?_⟩⟩;have g0:∀(x y:H1),(((w1.setCell ⟨z,0,none⟩ x).setCell ⟨z+1,0,none⟩ y).putObj q (.deferred none)).cell? ⟨z,0,none⟩=some x:=λx y=>(cell_of ((World.putObj_heap_other (by omega)).trans ((Below.heap_setCell _ _ _ z (by show z≠z+1;omega)).trans (Boxed.set x hb0)))).1;have g1:∀(x y:H1),(((w1.setCell ⟨z,0,none⟩ x).setCell ⟨z+1,0,none⟩ y).putObj q (.deferred none)).cell? ⟨z+1,0,none⟩=some y:=λx y=>(cell_of ((World.putObj_heap_other (by omega)).trans (Boxed.set y (show Boxed _ (z+1) _ v1 from(Below.heap_setCell _ _ _ (z+1) (by show z+1≠z;omega)).trans hb1)))).1;have z3:=hgrow.size;rw[jt] at z3;refine⟨.tuple #[.slice (some ⟨g',0,none⟩) (k+1+1) cap',.int .i64 0],by simp[results,Tryz.f23,dA,go_sem,g0,g1],_,rfl,⟨?_,?_,?_,?_,λi hi=>?_⟩,?_⟩
 ·exact hgrow.os.trans bel3.os
 ·exact hgrow.tape.trans bel3.tape
 ·exact hgrow.output.trans bel3.output
 ·have:=bel3.size;simp;omega
 ·exact(e1 i _ _ (by omega) (by omega) (by omega)).trans ((hgrow.block i (by rw[jt];have:=bel3.size;omega) (nb _ (by omega))).trans ((Below.heap_alloc _ _ _ (by have:=bel3.size;omega)).trans (bel3.block i (by omega))))
 ·have hl:(List.map (Value.int .i64) R++[Value.int .i64 (n:Int)]).length=k+1+1:=by rw[aT,cD,hk1];rfl
  have e:List.map (Value.int .i64) R++[Value.int .i64 (n:Int)]=(R++[(n:Int)]).map (Value.int .i64):=by rw[fS];rfl
  have ow:=Bg hown (W':=((w1.setCell ⟨z,0,none⟩ (.slice (some ⟨g',0,none⟩) (k+1+1) cap')).setCell ⟨z+1,0,none⟩ (.int .i64 0)).putObj q (.deferred none)) λg hg _=>e1 g _ _ (by omega) (by omega) (by omega);rw[<-hl] at ow⊢;exact Lt.Vq (by omega) ow (by rw[e];exact(Lt.Eo _).1) (by rw[e];exact(Lt.Eo (m:=m) _).2)
namespace Lt
theorem aaZ(w:Nat){A:qJ}(HA:cS Tryz.prog 97 [.v,.i .i64] (.aG [.i .i64,.b]) A):cS Tryz.prog 23 [.v] ny (findF w A):=by
 refine .mk λls r e hl us hu=>?_;obtain⟨x,r1,us1,h1,h2,rfl⟩:=gM hu;obtain⟨rfl,rfl⟩:=nF h2;obtain rfl:=kX h1;have hx:bh [x]=true:=hl x (by simp);replace e:findF w A x=some r:=e;unfold findF at e;split at e
 case h_2=>cases e
 rename_i n cs hr;obtain⟨hn,e⟩:=bd e;obtain⟨R,hR,e⟩:=ax e;obtain⟨hq,e⟩:=bd e;rw[bB] at hq;have e:=(jH e).symm;refine⟨xQ (by rw[e];show bh [ae _ _]=true;rfl),_,rfl,zF λm args' w hm A=>?_⟩;subst e;obtain⟨al⟩:=args';replace A:bI m _ al:=A;obtain⟨_,_,rfl,a0,A⟩:=PW.inv A;obtain rfl:=A.ee;obtain⟨a,c,rfl,_⟩:=FM hr a0;exact aa1 hm HA ⟨hx,hx⟩ (by have:=ed hn;omega) a0 hR (fb hq.1) (ed hq.2)
end Lt
end
section
open Go.Shelf Go.RowKit Go.Lib
attribute [local go_sem] Oper.semAt_some
section
variable{n:Nat} {P:Program} {ops:Array Oper} {md:Region.Mode} {w:jp}
theorem alK{i:Nat}{a:Act}{K:Act->Prop}{K':Act->jp->Prop}{Q':Exit->Act->jp->Prop}(h:∀a,K a->K' a w)(hh:stOp P ops w i K a):wpOpIn Fence.wide n P ops Q' i K' a w:=by
 unfold stOp at hh;unfold wpOpIn;split
 ·rename_i ho;simp only[ho] at hh;exact h _ hh
 ·rename_i o ho;simp only[ho] at hh;split
  ·rename_i hw;simp only[hw,dW] at hh;unfold Oper.still at hh;unfold Oper.wpIn;refine⟨λ_ _=>trivial,?_⟩;rw[show Fence.wide.round=none from rfl,Oper.semAt_none];generalize(execOp a.eval o).run P w=r at*;cases r with
   |ok x w'=>
    cases x<;>simp only[Oper.stillUpon] at hh<;>simp only[Oper.uponIn]
    case enter f args=>obtain⟨rfl,v,hc,hn⟩:=hh;exact⟨λh=>(by cases h),(callsIn_wide.2 hc).mono λe w'' ⟨he,hw⟩=>by subst he;subst hw;exact h _ hn⟩
    all_goals(obtain⟨rfl,h2⟩:=hh;exact h _ h2)
   |halt x w'=>simp only[Oper.stillUpon] at hh
  ·rename_i hw;simp only[hw] at hh;exact⟨λ_ _=>trivial,h _ hh⟩
theorem Sj{m g:Nat}{L:Array Bool->Act->Prop}{Q':Exit->Act->jp->Prop}(hL:∀listed a,L listed a->wpAnyIn Fence.wide n P md ops Q' g listed a w):
 ∀(f:Nat)(listed:Array Bool)(a:Act),wpAnyL P md ops w m L f listed a->wpAnyIn Fence.wide n P md ops Q' (f+g) listed a w
 |0,listed,a,h=>by rw[fU];exact hL _ _ h
 |f+1,listed,a,h=>by rw[show f+1+g=(f+g)+1 by omega];exact⟨λh0=>absurd h0 h.1,λi hi=>alK (λa' h'=>Sj hL f _ a' h') (h.2 i hi).2⟩
theorem Xu{Q':Exit->Act->jp->Prop}:∀(l:qr Oper)(k:Nat)(listed:Array Bool)(a:Act)(w:jp),(∀j,l[j]? =ops[k+j]?)->
 Region.seqB md ops l.length k listed=true->wpListIn Fence.wide n P ops Q' l a w->wpAnyIn Fence.wide n P md ops Q' l.length listed a w
 |[],_,_,_,_,_,hB,h=>⟨by simpa[Region.seqB] using hB,h⟩
 |o::l,k,listed,a,w,hl,hB,h=>by
  have h0:ops[k]? =some o:=by simpa using(hl 0).symm
  simp only[bW,Region.seqB,bB,cf] at hB;refine⟨λh1=>(by rw[hB.1] at h1;cases h1),λi hi=>?_⟩;rw[hB.1] at hi;have hik:i=k:=by simpa using hi
  subst hik;have hw:wpOpIn Fence.wide n P ops Q' i (wpListIn Fence.wide n P ops Q' l) a w:=by unfold wpOpIn;simp only[h0];exact h
  exact wpOpIn_mono (λa' w' h'=>Xu l (i+1) _ a' w' (λj=>by have:=hl (j+1);simpa[o5,Nat.add_comm 1 j] using this) hB.2 h') hw
theorem al0{id:Nat}{Q:Exit->Act->jp->Prop}{a:Act}{l:qr Oper}(m:Nat)(hm:P.follows .mixedOrders=true)(hB:Region.lexTailB .any l.toArray m=true)
 (h:wpStill P l.toArray {w with drawn:=w.drawn+1} (λa'=>wpListIn Fence.wide n P l.toArray Q (l.drop m) a' {w with drawn:=w.drawn+1}) (l.take m) a):(Code.region id l.toArray true).wpIn Fence.wide n P Q a w:=by
 simp only[Region.lexTailB,bB,cf] at hB;obtain⟨⟨⟨⟨hsel,hn⟩,hs⟩,hc⟩,hlex⟩:=hB;have hn':m<l.length:=by simpa using hn
 have htl:(l.take m).length=m:=by simp;omega
 have iO:(l.drop m).length=l.toArray.size -m:=by simp
 have ee:HeadInv .any l.toArray m (Array.replicate l.toArray.size false):=
  ⟨by simp,λj oj _ hl=>(by rw[getD_replicate_false] at hl;cases hl),λt _ ht=>getD_in (by simpa using ht) (getD_replicate_false _ _)⟩
 have H:=wpAnyL_lex (md:=.any) (g:=l.toArray.size -m) hsel hs hc hn (l.take m) 0 _ a (λj hj=>by
  have hj':j<m:=by rw[htl] at hj;exact hj
  simp[hj']) (by simpa using htl) ee (by rw[htl];exact hlex) h
 refine wpIn_region_any hm ?_;have:=Sj (n:=n) (Q':=Q) (g:=l.toArray.size -m) (λlisted a' hL=>by
  have:=Xu (n:=n) (md:=.any) (Q':=Q) (l.drop m) m listed a' {w with drawn:=w.drawn+1} (λj=>by simp[sV]) (by rw[iO];exact hL.1) hL.2
  rwa[iO] at this) _ _ _ H
 rw[htl,show m+(l.toArray.size -m)=l.toArray.size by omega] at this;exact this
end
theorem ZF(a b:Hx Addr)(n c n' c':Nat)(w:jp):Calls Tryz.prog 93 #[.slice a n c,.slice b n' c'] w λe w'=>e=.returned (.func (.func 149) #[] #[.pointer (some ⟨w.heap.size+1,0,none⟩),.pointer (some ⟨w.heap.size,0,none⟩)])/\w'=(w.alloc (.cells #[.slice a n c] 26)).alloc (.cells #[.slice b n' c'] 47):=by
 go_enter Tryz.func93,Tryz.ntmps93
 go_wp2_with fail
 go_ret
 exact⟨by simp,rfl⟩
theorem ZG(Xa Xs l:Nat){b o n c pb po ca:Nat}(S:qr Int)(hS:S.length<1000000001)(hc:n<=c)(hs:∀(k:Nat)(a e:Int),S[k]? =some a->S[k+1]? =some e->0<=a/\a<e/\e<=(n:Int))
 (J:Nat->jp->Prop) (hJ:∀k W,J k W->W.cell? ⟨Xa,0,none⟩=some (.slice (some ⟨pb,po,none⟩) S.length ca)/\W.cell? ⟨Xs,0,none⟩=some (.slice (some ⟨b,o,none⟩) n c)/\∀i z,S[i]? =some z->W.cell? ⟨pb,po+i,none⟩=some (.int .i64 z))
 (hJd:∀k W,J k W->J k W.drew)
 (hy:∀k (a e:Nat) W,J k W->S[k]? =some (a:Int)->S[k+1]? =some (e:Int)->YieldAt Fence.wide 0 Tryz.prog l #[.slice (some ⟨b,o+a,none⟩) (e -a) (c -a)] W λx W'=>x=.returned (.bool true)/\J (k+1) W')
 (W:jp) (hj:J 0 W) (h0:0<S.length):
 CallsIn Fence.wide 0 Tryz.prog 149 #[.func (.yield l) #[] #[],.pointer (some ⟨Xa,0,none⟩),.pointer (some ⟨Xs,0,none⟩)] W λe W'=>(∃v,e=.returned v)/\J (S.length -1) W':=by
 refine callsIn_of_wp Tryz.func149 rfl trivial ?_ rfl;simp only[Tryz.ntmps149,p9,bW,List.length_nil,Nat.reduceAdd,Nat.reduceSub,pU,pV,pZ,pW,eK,ec]
 gi_wp2
 gi_loopw [4] (λp wr=>∃k:Nat,p=.int .i64 ((k+1:Nat):Int)/\k+1<=S.length/\J k wr) (λp wr=>((S.length:Int) -Lib.intOf p).toNat)
 case atStart=>exact⟨0,rfl,h0,hj⟩
 case round=>
  obtain⟨k,rfl,hk,jr⟩:=hrel;obtain⟨q1,q2,q3⟩:=hJ k _ jr;by_cases hl:k+1<S.length
  ·obtain⟨h1,h2,h3⟩:=hs k S[k] S[k+1] (cG (by omega)) (cG hl);obtain⟨a,ha⟩:∃a:Nat,S[k]=(a:Int):=⟨S[k].toNat,by omega⟩;obtain⟨e,he⟩:∃e:Nat,S[k+1]=(e:Int):=⟨S[k+1].toNat,by omega⟩;have ka:S[k]? =some (a:Int):=by rw[cG (by omega),ha]
   have ke:S[k+1]? =some (e:Int):=by rw[cG hl,he]
   rw[ha] at h1 h2;rw[he] at h2 h3;have c1:=q3 k _ ka;have c2:=q3 (k+1) _ ke;have mixed:Tryz.prog.follows .mixedOrders=true:=by kernel_rfl
   obtain⟨fn,tmps,assign,body,hyv,hR⟩:=hy k a e wr.drew (hJd _ _ jr) ka ke;have m1:((k:Int)+1<(S.length:Int)):=by omega
   have m2:IntKind.i64.wrap ((k:Int)+1 -1)=(k:Int):=by rw[IntKind.wrap_i64];omega
   have m3:IntKind.i64.wrap (k:Int)=(k:Int):=by rw[IntKind.wrap_i64];omega
   have m4:(k:Int)<(S.length:Int):=by omega
   have m5:(0:Int)<=(k:Int)+1:=by omega
   have m6:((k:Int)+1).toNat=k+1:=by omega
   have m7:k<S.length:=by omega
   have m8:(a:Int)<=(e:Int):=by omega
   have m9:(e:Int)<=(c:Int):=by omega
   have m10:¬c=a:=by omega
   have m11:a<=e:=by omega
   have m12:e<=c:=by omega
   gi_wp2
   refine al0 12 mixed (by kernel_rfl) ?_;simp only[oa,oZ,List.drop_succ_cons,ew]
   repeat still_step
   refine wpStill_nil ?_;change wpListIn _ _ _ _ _ _ _ wr.drew
   gi_wp2
   refine⟨rfl,hR.mono ?_⟩
   rintro x W4 ⟨rfl,j4⟩
   gi_wp2
   exact⟨⟨k+1,rfl,by omega,j4⟩,by simp only[Lib.intOf];omega⟩
  ·obtain rfl:k=S.length -1:=by omega
   have n1:¬(((S.length -1+1:Nat):Int)<(S.length:Int)):=by omega
   gi_wp2
   go_end0
   exact⟨⟨_,rfl⟩,jr⟩
end
namespace Lt
def u9(xs:qr Int):qr Int->Hx (qr H1)
 |a::b::r=>cond (!ak a 0&&(ak a b&&!ak xs.length b)) (ob (u9 xs (b::r)) λl=>some (ae (b -a).toNat (bm ((xs.drop a.toNat).take (b -a).toNat))::l)) none
 |[_]=>some []
 |[]=>none
def qS:qr H1->Hx (qr Int)
 |[]=>some []
 | .int .i64 z::l=>ob (qS l) λr=>some (z::r)
 |_=>none
def Ak(I:H1->Hx (H1×H1×Int))(x:H1):Hx (H1×Int):=ob (I x) λr=>cond (!aj r.2.2 0) (some (ae 0 [],r.2.2)) (jY x λxs=>cond (Nat.ble xs.length 1000000000) (match rowOf r.2.1 with
 |some (k,st)=>cond (Nat.blt 1 k&&(Nat.beq k st.length&&Nat.ble k 1000000)) (ob (qS st) λS=>ob (u9 xs S) λl=>some (ae l.length l,0)) none
 |none=>none) none)
end Lt
section
open Go.Shelf Go.RowKit Go.Lib
attribute [local go_sem] Oper.semAt_some
namespace Lt
theorem Jy{xs:qr Int}:∀{S:qr Int}{l:qr H1},u9 xs S=some l->l.length+1=S.length/\∀(i:Nat)(a e:Int),S[i]? =some a->S[i+1]? =some e->0<=a/\a<e/\e<=(xs.length:Int)/\l[i]? =some (ae (e -a).toNat (bm ((xs.drop a.toNat).take (e -a).toNat)))
 |[],l,h=>by cases h
 |[_],l,h=>by cases h;exact⟨rfl,λi a e _ h2=>by simp at h2⟩
 |a::b::r,l,h=>by
  unfold u9 at h;obtain⟨hq,h⟩:=bd h;obtain⟨l',h1,h⟩:=ax h;cases h;obtain⟨k1,k2⟩:=Jy h1;simp only[bB,uI,nK,cf,gJ] at hq;refine⟨by simp at k1⊢;omega,λi x e hx he=>?_⟩;cases i with
  |zero=>cases hx;cases he;exact⟨by omega,hq.2.1,by omega,rfl⟩
  |succ i=>exact k2 i x e hx he
theorem ints_at{m:Nat->Nat->Hx H1}:∀{st ys:qr H1}{S:qr Int},qS st=some S->bI m st ys->S.length=st.length/\∀(i:Nat)(z:Int),S[i]? =some z->ys[i]? =some (.int .i64 z)
 |[],ys,S,h,A=>by cases h;exact⟨rfl,λi z h=>by simp at h⟩
 |x::st,ys,S,h,A=>by
  unfold qS at h;split at h
  ·rename_i q;cases q
  ·rename_i z l q;cases q;obtain⟨r,h1,h⟩:=ax h;cases h;obtain⟨y,ys',rfl,a0,A2⟩:=PW.inv A;cases a0;obtain⟨k1,k2⟩:=ints_at h1 A2;refine⟨by simp[k1],λi z h=>?_⟩;cases i with
   |zero=>cases h;rfl
   |succ i=>exact k2 i z h
  ·cases h
theorem Sn:∀{st:qr H1}{S:qr Int},qS st=some S->S.length=st.length
 |[],S,h=>by cases h;rfl
 |x::st,S,h=>by
  unfold qS at h;split at h
  ·rename_i q;cases q
  ·rename_i z l q;cases q;obtain⟨r,h1,h⟩:=ax h;cases h;simp[Sn h1]
  ·cases h
theorem Zk{P:Program}{g:FuncId}{I:H1->Hx (H1×H1×Int)}(HI:cS P g [.v] (.aG [.v,.v,.i .i64]) I){x:H1}{r:H1×H1×Int}(e:I x=some r)(hx:bh [x]=true):
 ∀{m:Nat->Nat->Hx H1}{W:jp}{y:H1},Kn m W->aN m x y->Calls P g #[y] W λe W'=>∃a b,e=.returned (.tuple #[a,b,.int .i64 r.2.2])/\RowKit.Below W.heap.size W W'/\aN (cO m W W') r.2.1 b:=by
 obtain⟨u,v,z⟩:=r;intro m W y hm L;refine(HI [.v x] (u,v,z) e (λz hz=>by simp at hz;rw[hz];exact hx) _ rfl m _ W hm (.cons L .nil)).mono λe w' ⟨v',q1,q2,pv,f2,_,q3⟩=>?_;have f2:some (Value.tuple #[u,v,.int .i64 z],([]:qr bt))=some (pv,[]):=f2;cases f2;subst q1;cases q3 with
 |@aG xs xs' h0 h=>
 obtain⟨xl⟩:=xs';obtain⟨a,_,rfl,h1,T1⟩:=PW.inv (show bI (cO m W w') [u,v,.int .i64 z] xl from⟨h0,h⟩);obtain⟨b,_,rfl,h2,T2⟩:=PW.inv T1;obtain⟨_,_,rfl,h3,T3⟩:=PW.inv T2;cases h3;obtain rfl:=T3.ee;exact⟨a,b,rfl,q2,h2⟩
end Lt
theorem vN{W W':jp}{B k:Nat}{e:TypeId}{v:H1}{xs:qr H1}(h:W.ownsRow B e 1 v k xs)(f:∀g cur,v.ownBlock=some g->B<=g->W.heap[g]? =some (.cells cur e (0,0))->W'.heap[g]? =W.heap[g]?):W'.ownsRow B e 1 v k xs:=by
 obtain⟨l,h|⟨g,cap,cur,e1,e2,e3,r⟩⟩:=h
 ·exact⟨l,.inl h⟩
 ·subst e1;exact⟨l,.inr ⟨g,cap,cur,rfl,e2,(f g cur rfl e2 e3).trans e3,r⟩⟩
theorem agK{W:jp}{B B' k:Nat}{e:TypeId}{v:H1}{xs:qr H1}(h:W.ownsRow B e 1 v k xs)(hb:B'<=B):W.ownsRow B' e 1 v k xs:=by
 obtain⟨l,h|⟨g,cap,cur,e1,e2,r⟩⟩:=h
 ·exact⟨l,.inl h⟩
 ·exact⟨l,.inr ⟨g,cap,cur,e1,fH hb e2,r⟩⟩
theorem Md{W:jp}{B k g:Nat}{e:TypeId}{v:H1}{xs:qr H1}(h:W.ownsRow B e 1 v k xs)(hg:v.ownBlock=some g):B<=g/\∃cur,W.heap[g]? =some (.cells cur e (0,0)):=by
 obtain⟨l,⟨h,_⟩|⟨g',cap,cur,e1,e2,e3,_⟩⟩:=h
 ·subst h;cases hg
 ·subst e1;cases hg;exact⟨e2,cur,e3⟩
theorem agL{W:jp}{B k:Nat}{e:TypeId}{v:H1}{xs:qr H1}(h:W.ownsRow B e 1 v k xs)(hv:v≠.slice none 0 0):∃g c,v=.slice (some ⟨g,0,none⟩) k c:=by
 obtain⟨_,⟨h,_⟩|⟨g,c,_,h,_⟩⟩:=h
 ·exact absurd h hv
 ·exact⟨g,c,h⟩
theorem bytesRow:(Tryz.prog.info? 26).map (λi=>(i.zero,i.size,i.bytes))=some (some (.slice none 0 0),1,24):=by kernel_rfl
def Qu(ats:Array TypeId)(ty:TypeId)(args:Array H1):Sem H1:=Builtin.append_ ats ty args
theorem abv{ats:Array TypeId}{ty:TypeId}{cs:Array Bool}{args:Array H1}:builtin .append ats ty cs args=(do pure (.value (<-Qu ats ty args))):=rfl
attribute [local go_sem↓high] abv
def wY(W:jp)(B:Nat)(xs S:qr Int)(i:Nat)(u:H1):Prop:=∃a e:Int,S[i]? =some a/\S[i+1]? =some e/\W.ownsRow B 5 1 u (e -a).toNat (Lt.bm ((xs.drop a.toNat).take (e -a).toNat))
structure uQ(w:World)(z q:Nat)(R0:Loop)(s a:Value)(xs S:List Int)(k:Nat)(W:World):Prop where
 gE:RowKit.Below z w W
 b2:∃v vs,W.heap[z]? =some (.cells #[v] 35 (0,0))/\W.ownsRow (q+2) 26 1 v k vs/\∀i u,vs[i]? =some u->wY W (q+2) xs S i u
 b3:W.heap[z+1]? =some (.cells #[s] 26 (0,0))
 b4:W.heap[z+1+1]? =some (.cells #[a] 47 (0,0))
 b5:W.heap[q]? =some (.deferred (some []))
 b6:W.heap[q+1]? =some (.loop R0)
theorem wY.tL{W W':jp}{B:Nat}{xs S:qr Int}{i:Nat}{u:H1}(h:wY W B xs S i u)(f:∀g cur,u.ownBlock=some g->B<=g->W.heap[g]? =some (.cells cur 5 (0,0))->W'.heap[g]? =W.heap[g]?):wY W' B xs S i u:=by obtain⟨a,e,h1,h2,h3⟩:=h;exact⟨a,e,h1,h2,vN h3 f⟩
theorem uQ.drew{w:jp}{z q:Nat}{R0:Loop}{s a:H1}{xs S:qr Int}{k:Nat}{W:jp}(h:uQ w z q R0 s a xs S k W):uQ w z q R0 s a xs S k W.drew:=by obtain⟨⟨a1,a2,a3,a4,a5⟩,b,c,d,e,f⟩:=h;exact⟨⟨a1,a2,a3,a4,a5⟩,b,c,d,e,f⟩
theorem aao{w:jp}{z q:Nat}{R0 R1:Loop}{s t:H1}{xs S:qr Int}{k:Nat}{W W7 w9:jp}{v2 v' v9:H1}{vs:qr H1}{o:Obj}{a e:Nat}
 (zq:z+3<=q) (gE:RowKit.Below z w W) (r2:W.ownsRow (q+2) 26 1 v2 k vs) (cl:∀i u,vs[i]? =some u->wY W (q+2) xs S i u)
 (c2:W.heap[z]? =some (.cells #[v2] 35 (0,0))) (c3:W.heap[z+1]? =some (.cells #[s] 26 (0,0))) (c4:W.heap[z+1+1]? =some (.cells #[t] 47 (0,0))) (d1:W.heap[q]? =some (.deferred (some []))) (d2:W.heap[q+1]? =some (.loop R0))
 (ha:S[k]? =some (a:Int)) (he:S[k+1]? =some (e:Int))
 (h7:W7.ownsRow W.heap.size 5 1 v' (e -a) (((xs.drop a).take (e -a)).map (Value.int .u8))) (b7:RowKit.Below W.heap.size (W.putObj (q+1) (.loop R1)) W7)
 (h9:w9.ownsRow (q+2) 26 1 v9 (k+1) (vs++[v'])) (g9:(W7.alloc o).grownBy w9 v2.ownBlock):
 (w9.setCell ⟨z,0,none⟩ v9).heap[q+1]? =some (.loop R1)/\uQ w z q R0 s t xs S (k+1) ((w9.setCell ⟨z,0,none⟩ v9).putObj (q+1) (.loop R0)):=by
 have zl:q+1<W.heap.size:=(fy.1 d2).1;have pk:∀j,j≠q+1->(W.putObj (q+1) (.loop R1)).heap[j]? =W.heap[j]? :=λj h=>World.putObj_heap_other h;have z9:=g9.size;have z7:=b7.size;rw[jt] at z9;rw[World.putObj_size] at z7;have nb:∀j,some j=v2.ownBlock->q+2<=j/\j<W.heap.size/\∃cur,W.heap[j]? =some (.cells cur 26 (0,0)):=λj h=>by obtain⟨h1,cur,h2⟩:=Md r2 h.symm;exact⟨h1,(fy.1 h2).1,cur,h2⟩
 have e7:∀j,j<W7.heap.size->j≠z->some j≠v2.ownBlock->(w9.setCell ⟨z,0,none⟩ v9).heap[j]? =W7.heap[j]? :=λj h1 h2 h3=>
  (Below.heap_setCell _ _ _ j h2).trans ((g9.block j (by rw[jt];omega) h3).trans (Below.heap_alloc _ _ _ h1))
 have e1:∀j,j<W.heap.size->j≠z->j≠q+1->some j≠v2.ownBlock->(w9.setCell ⟨z,0,none⟩ v9).heap[j]? =W.heap[j]? :=λj h1 h2 h3 h4=>
  (e7 j (by omega) h2 h4).trans ((b7.block j h1).trans (pk j h3))
 have lo:∀j,j<q+2->some j≠v2.ownBlock:=λj h e=>by have:=(nb j e).1;omega
 have po:∀j,j≠q+1->((w9.setCell ⟨z,0,none⟩ v9).putObj (q+1) (.loop R0)).heap[j]? =(w9.setCell ⟨z,0,none⟩ v9).heap[j]? :=λj h=>World.putObj_heap_other h;have al:∀j,j<q+2->j≠z->j≠q+1->((w9.setCell ⟨z,0,none⟩ v9).putObj (q+1) (.loop R0)).heap[j]? =W.heap[j]? :=λj h1 h2 h3=>(po j h3).trans (e1 j (by omega) h2 h3 (lo j h1));have k9:w9.heap[z]? =some (.cells #[v2] 35 (0,0)):=(g9.block z (by rw[jt];omega) (lo z (by omega))).trans ((Below.heap_alloc _ _ _ (by omega)).trans ((b7.block z (by omega)).trans ((pk z (by omega)).trans c2)));have kl:(w9.setCell ⟨z,0,none⟩ v9).heap[q+1]? =some (.loop R1):=(e7 (q+1) (by omega) (by omega) (lo _ (by omega))).trans ((b7.block (q+1) zl).trans (World.putObj_heap_same zl));have hvs:vs.length=k:=by have:=r2.1;omega
 refine⟨kl,⟨?_,?_,?_,?_,λj hj=>?_⟩,⟨v9,vs++[v'],(po z (by omega)).trans (Boxed.set _ k9),?_,λi u hu=>?_⟩,(al _ (by omega) (by omega) (by omega)).trans c3,(al _ (by omega) (by omega) (by omega)).trans c4,(al _ (by omega) (by omega) (by omega)).trans d1,World.putObj_heap_same (fy.1 kl).1⟩
 ·exact g9.os.trans (b7.os.trans gE.os)
 ·exact g9.tape.trans (b7.tape.trans gE.tape)
 ·exact g9.output.trans (b7.output.trans gE.output)
 ·have:=gE.size;simp;omega
 ·have:=gE.size;exact(al j (by omega) (by omega) (by omega)).trans (gE.block j hj)
 ·exact vN h9 λg cur _ hg _=>(po g (by omega)).trans (Below.heap_setCell _ _ _ g (by show g≠z;omega))
 ·rcases ia i vs.length with h|h
  ·rw[wT h] at hu;refine(cl i u hu).tL λg cur _ hg hc=>(po g (by omega)).trans (e1 g (fy.1 hc).1 (by omega) (by omega) λq=>?_);obtain⟨_,_,cur',h'⟩:=nb g q;rw[hc] at h';cases h'
  ·rw[uL h] at hu;have hi:i=vs.length:=by
    have:=(oW.1 hu).1;simp at this;omega
   subst hi;have hu:some v'=some u:=by rw[<-hu];simp
   cases hu;rw[hvs];refine⟨a,e,ha,he,?_⟩;rw[show((e:Int) -(a:Int)).toNat=e -a by omega,show((a:Int)).toNat=a from rfl];have h8:W7.ownsRow (q+2) 5 1 v' (e -a) (Lt.bm ((xs.drop a).take (e -a))):=agK h7 (by omega);refine vN (vN (W':=w9.setCell ⟨z,0,none⟩ v9) h8 λg cur eg hg hc=>?_) λg cur _ hg _=>po g (by omega);have:=(Md h7 eg).1;exact e7 g (fy.1 hc).1 (by omega) λq=>by have:=(nb g q).2.1;omega
theorem DM{m:Nat->Nat->Hx H1}{w W:jp}{B k:Nat}{v:H1}{xs S:qr Int}{vs l:qr H1}(hB:w.heap.size<=B)(h:W.ownsRow B 26 1 v k vs)(cl:∀i u,vs[i]? =some u->wY W B xs S i u)(hl:l.length+1=S.length)(hk:k+1=S.length)
 (hla:∀(i:Nat)(a e:Int),S[i]? =some a->S[i+1]? =some e->l[i]? =some (Lt.ae (e -a).toNat (Lt.bm ((xs.drop a.toNat).take (e -a).toNat)))):Lt.aN (Lt.cO m w W) (Lt.ae l.length l) v:=by
 have on:Lt.bh l=true:=Lt.iW.2 λx hx=>by obtain⟨i,hi,rfl⟩:=List.mem_iff_getElem.1 hx;have q:=hla i _ _ (cG (show i<S.length by omega)) (cG (show i+1<S.length by omega));rw[cG hi] at q;rw[jH q];rfl
 have h1:=h.1;obtain⟨_,⟨rfl,hn⟩|⟨g,cap,cur,rfl,hg1,hg,hnc,_,hcs,htk⟩⟩:=h
 ·have:l=[]:=kP (by omega);subst this;exact .gy
 ·rw[show l.length=k by omega];refine .row (ys:=vs) ⟨by omega,λi x y hx hy=>?_⟩ (λi y hy=>?_) rfl hnc on
  ·obtain⟨a,e,k1,k2,k3⟩:=cl i y hy;have q:=hla i a e k1 k2;rw[hx] at q;rw[jH q];generalize(xs.drop a.toNat).take (e -a).toNat=t at k3⊢;generalize(e -a).toNat=n at k3⊢;have k4:t.length=n:=by have:=k3.1;rw[Lt.bm,cD] at this;omega
   subst k4;exact Lt.Fh hB k3
  ·unfold Lt.cO;rw[aq (by show¬g<_;omega),Lt.tO hg];have:vs[i]? =cur.toList[i]? :=by
    rw[<-htk,zJ];rcases ia i (k*1) with q|q
    ·exact q
    ·rw[kQ (by omega)] at hy;cases hy
   rw[this] at hy;simpa using hy
theorem aap{m:Nat->Nat->Hx H1}{w:jp}(hk:Lt.Kn m w){I:H1->Hx (H1×H1×Int)}(HI:Lt.cS Tryz.prog 37 [.v] (.aG [.v,.v,.i .i64]) I){x:H1}(hx:Lt.bh [x]=true){r:H1×H1×Int}(hr:I x=some r)(h0:r.2.2 =0)
 {b o c:Nat} {xs:qr Int} (hn:xs.length<=1000000000) (hcp:xs.length<=c) (L:Lt.aN m x (.slice (some ⟨b,o,none⟩) xs.length c)) (hcell:∀i,i<xs.length->w.cell? ⟨b,o+i,none⟩=some (.int .u8 (xs.getD i 0)))
 {k:Nat} {st:qr H1} (hst:Lt.rowOf r.2.1 =some (k,st)) (hk1:1<k) (hk2:k=st.length) (hk3:k<=1000000) {S:qr Int} (hS:Lt.qS st=some S) {l:qr H1} (hl:Lt.u9 xs S=some l):
 Calls Tryz.prog 43 #[.slice (some ⟨b,o,none⟩) xs.length c] w λe w'=>∃v,e=.returned (.tuple #[v,.int .i64 0])/\RowKit.Below w.heap.size w w'/\Lt.aN (Lt.cO m w w') (Lt.ae l.length l) v:=by
 refine(callsIn_wide (n:=0)).1 ?_;refine callsIn_of_wp_marks Tryz.func43 rfl trivial ?_ rfl;simp only[Tryz.ntmps43,p9,bW,List.length_nil,Nat.reduceAdd,Nat.reduceSub,pU,pV,pZ,pW,eK,ec];have CI:=Lt.Zk HI hr hx hk L;rw[h0] at CI
 gi_wp2
 refine⟨trivial,rfl,(callsIn_wide.2 CI).mono ?_⟩
 rintro e w1 ⟨ai,bi,rfl,BB,HL⟩
 obtain⟨pa,ca,rfl,hrow⟩:=Lt.FM hst HL;obtain⟨pb,po,ys,rfl,hca,hys,hyc⟩:=hrow (by omega);obtain⟨tJ,hSi⟩:=Lt.ints_at hS hys;obtain⟨hll,hla⟩:=Lt.Jy hl;obtain rfl:k=S.length:=by omega
 have hat:∀i z,S[i]? =some z->w1.cell? ⟨pb,po+i,none⟩=some (.int .i64 z):=λi z h=>hyc i _ (hSi i z h) w1 (hk.new BB);have hcell1:∀i,i<xs.length->w1.cell? ⟨b,o+i,none⟩=some (.int .u8 (xs.getD i 0)):=λi hi=>(BB.cell (p:=⟨b,o+i,none⟩) (jb _ _ (hcell i hi))).trans (hcell i hi);clear hk2 tJ hSi hys hyc hrow HL CI hcell hst hS hl
 gi_wp2
 refine⟨trivial,rfl,(callsIn_wide.2 (ZF _ _ _ _ _ _ _)).mono ?_⟩
 rintro e w2 ⟨rfl,rfl⟩
 gi_wp2
 obtain⟨z,hz⟩:∃z,z=w1.heap.size:=⟨_,rfl⟩;obtain⟨w2,hw2⟩:∃w2,w2=((w1.alloc (.cells #[.slice none 0 0] 35)).alloc (.cells #[.slice (some ⟨b,o,none⟩) xs.length c] 26)).alloc (.cells #[.slice (some ⟨pb,po,none⟩) S.length ca] 47):=⟨_,rfl⟩;have J0:RowKit.Below z w1 w2/\w2.heap.size=z+3/\w2.heap[z]? =some (.cells #[.slice none 0 0] 35 (0,0))/\w2.heap[z+1]? =some (.cells #[.slice (some ⟨b,o,none⟩) xs.length c] 26 (0,0))/\w2.heap[z+1+1]? =some (.cells #[.slice (some ⟨pb,po,none⟩) S.length ca] 47 (0,0)):=by
  rw[hw2,hz];refine⟨(((ft _ w1).alloc (aM _) _).alloc (by simp) _).alloc (by simp;omega) _,by simp,?_,?_,?_⟩;all_goals
   simp only[Qr,jt,dW]
   repeat rw[aq (by omega)]
 rw[<-hw2,<-hz];clear hw2;obtain⟨J1,J2,J3,J4,J5⟩:=J0;refine Bw (gf:=149) (lb:=#[.pointer (some ⟨z+1+1,0,none⟩),.pointer (some ⟨z+1,0,none⟩)]) rfl (enters_of Tryz.func149 (by kernel_rfl) rfl) ?_;intro fn W1 hW1;refine(callsIn_wide (n:=0)).1 ?_;generalize hR0:iX fn _ _ _ _ _ .ready=R0 at hW1⊢;obtain⟨q,hq⟩:∃q,q=w2.heap.size:=⟨_,rfl⟩;have j0:uQ w1 z q R0 (.slice (some ⟨b,o,none⟩) xs.length c) (.slice (some ⟨pb,po,none⟩) S.length ca) xs S 0 W1:=by
  have bl:RowKit.Below w2.heap.size w2 W1:=by rw[hW1];exact((ft _ w2).alloc (aM _) _).alloc (by simp) _
  have k:∀{q o},w2.heap[q]? =some o->W1.heap[q]? =some o:=λ{q o} e=>(bl.block q (fy.1 e).1).trans e;refine⟨J1.trans (bl.mono (by omega)),⟨_,[],k J3,World.ownsRow_nil _ _ _ _,λi u h=>by simp at h⟩,k J4,k J5,?_,?_⟩
  ·rw[hW1,hq];exact(Below.heap_alloc _ _ _ (by simp)).trans (World.alloc_heap_new w2 _)
  ·have:=World.alloc_heap_new (w2.alloc (.deferred (some []))) (.loop R0);rw[jt] at this;rw[hW1,hq];exact this
 rw[<-hq];have zq3:z+3<=q:=by omega
 have z1:z<=w1.heap.size:=by omega
 have z2:w1.heap.size<=z:=by omega
 clear hq hW1 J1 J2 J3 J4 J5 hz;refine(ZG (z+1+1) (z+1) (q+1) (b:=b) (o:=o) (n:=xs.length) (c:=c) (pb:=pb) (po:=po) (ca:=ca) S (by omega) hcp (λk a e h1 h2=>⟨(hla k a e h1 h2).1,(hla k a e h1 h2).2.1,(hla k a e h1 h2).2.2.1⟩) (uQ w1 z q R0 (.slice (some ⟨b,o,none⟩) xs.length c) (.slice (some ⟨pb,po,none⟩) S.length ca) xs S) (λk W h=>⟨(cell_of h.b4).1,(cell_of h.b3).1,λi v hv=>?_⟩) (λk W h=>h.drew) ?hy W1 j0 (by omega)).mono ?_
 ·have:pb<w1.heap.size:=jb _ _ (hat i v hv);exact(h.gE.cell (p:=⟨pb,po+i,none⟩) (by show pb<z;omega)).trans (hat i v hv)
 case hy=>
  intro k a e W hj hka hke;obtain⟨gE,⟨v2,vs,c2,r2,cl⟩,c3,c4,d1,d2⟩:=hj;have d20:=d2;rw[<-hR0] at d2;refine(FJ (n:=0) (R:=uQ w1 z q R0 (.slice (some ⟨b,o,none⟩) xs.length c) (.slice (some ⟨pb,po,none⟩) S.length ca) xs S (k+1)) d2 rfl ?_).mono λe' W' h=>h;rw[hR0] at d2⊢;generalize iX fn _ _ _ _ _ .busy=R1;have D2:=Lib.hid d2;clear d2
  gi_wp2
  have mixed:Tryz.prog.follows .mixedOrders=true:=by kernel_rfl
  obtain⟨W2,hW2⟩:∃W2,W2=W.putObj (q+1) (.loop R1):=⟨_,rfl⟩;have zl:q+1<W.heap.size:=(fy.1 d20).1;have s2:W2.heap.size=W.heap.size:=by rw[hW2];simp
  have pk:∀j,j≠q+1->W2.heap[j]? =W.heap[j]? :=λj h=>by rw[hW2];exact World.putObj_heap_other h
  have k2:=(pk _ (by omega)).trans c2;have r22:=vN (W':=W2) r2 λg cur _ hg _=>pk g (by omega);obtain⟨_,l2,l3,_⟩:=hla k a e hka hke;have kS:k+1<S.length:=(oW.1 hke).1;have HC:=Tryz.bytes_Clone_at ⟨b,o+a,none⟩ (e -a) (c -a) ((xs.drop a).take (e -a)) W2.drew (by rw[dE,er];omega) (by omega) (λi hi=>by have h1:=hcell1 (a+i) (by omega);have h2:b<w1.heap.size:=jb _ _ h1;have h3:W2.cell? ⟨b,o+(a+i),none⟩=w1.cell? ⟨b,o+(a+i),none⟩:=jq (a:=⟨b,o+(a+i),none⟩) ((pk b (by omega)).trans (gE.block b (by omega)));rw[Addr.add_lit,o5];refine(show W2.drew.cell? _=W2.cell? _ from rfl).trans (h3.trans (h1.trans ?_));simp only[List.getD,pX,sV,ay hi]);have AP:∀(W7:jp)(v':H1),RowKit.Below W2.heap.size W2 W7->W7.ownsRow W2.heap.size 5 1 v' (e -a) (((xs.drop a).take (e -a)).map (Value.int .u8))->∃v9 w9,(Qu #[35,35] 35 #[v2,.slice (some ⟨W7.heap.size,0,none⟩) 1 1]).run Tryz.prog (W7.alloc (.cells #[v'] 26))=.ok v9 w9/\w9.ownsRow (q+2) 26 1 v9 (k+1) (vs++[v'])/\(W7.alloc (.cells #[v'] 26)).grownBy w9 v2.ownBlock:=by
   intro W7 v' b7 h7;obtain⟨i0,hi,hz0,hz1,hz2⟩:=info_parts bytesRow;have s7:=b7.size;have r7:=vN (W':=W7.alloc (.cells #[v'] 26)) r22 λg cur _ _ hg=>(Below.heap_alloc _ _ _ (by have:=(fy.1 hg).1;omega)).trans (b7.block g (fy.1 hg).1);have ov:v'.oneCell'=true:=by obtain⟨_,⟨rfl,_⟩|⟨_,_,_,rfl,_⟩⟩:=h7<;>rfl
   obtain⟨v9,w9,h1,h2,h3,_⟩:=run_append_own (P:=Tryz.prog) (W7.alloc (.cells #[v'] 26)) (q+2) 35 35 26 i0 (.slice none 0 0) 1 24 Tryz.underlying35 hi hz0 hz1 hz2 rfl (by decide) v2 k vs r7 ⟨W7.heap.size,0,none⟩ 1 1 [v'] rfl (cell_one_new _ _ _) (by simp[ov]) (by show _<=9223372036854775807;omega) (by omega) (by simp;omega);exact⟨v9,w9,h1,h2,h3⟩
  rw[<-hW2];have HC:=Lib.hid HC;have HW:=Lib.hid hW2;clear hW2;have f0:=(cell_of k2).1;have HS:=Lib.hid s2;clear l2 l3 zl s2;have zW:z<W2.heap.size:=(fy.1 k2).1;have nz:some z≠v2.ownBlock:=λh=>by have:=(Md r22 h.symm).1;omega
  gi_region_with_o (refine⟨trivial,rfl,(CallsIn.inRound _ (callsIn_wide.2 HC.out)).mono ?_⟩;rintro e' W7 ⟨v',rfl,h7,cL,b7⟩;obtain⟨v9,w9,hrun,h9,g9⟩:=AP W7 v' ⟨b7.os,b7.tape,b7.output,b7.size,b7.block⟩ h7;obtain⟨g7,c7,rfl⟩:=agL h7 cL;obtain⟨gr,cr,rfl⟩:=ownsRow_succ h9;have k7:=(b7.block z zW).trans k2;have ka7:=λo=>(Below.heap_alloc W7 o z (fy.1 k7).1).trans k7;have k9:=(g9.block z (by rw[jt];have:=(fy.1 k7).1;omega) nz).trans (ka7 _);obtain⟨f7,_⟩:=cell_of k7;have fa7:=λo=>(cell_of (ka7 o)).1;obtain⟨f9,fz9⟩:=cell_of k9)
  all_goals
   have b8:RowKit.Below W.heap.size (W.putObj (q+1) (.loop R1)) W7:=by rw[<-HW.out,<-HS.out];exact⟨b7.os,b7.tape,b7.output,b7.size,b7.block⟩
   have h8:W7.ownsRow W.heap.size 5 1 (.slice (some ⟨g7,0,none⟩) (e -a) c7) (e -a) (((xs.drop a).take (e -a)).map (Value.int .u8)):=by rw[<-HS.out];exact h7
   exact aao (by omega) gE r2 cl c2 c3 c4 d1 d20 hka hke h8 b8 h9 g9
 rintro e W2 ⟨⟨v,rfl⟩,j⟩
 refine⟨⟨_,rfl⟩,j.b6,?_⟩;generalize iX fn _ _ _ _ _ .exhausted=R9;obtain⟨gE,⟨v2,vs,c2,r2,cl⟩,c3,c4,d1,d2⟩:=j;obtain⟨W3,hW3⟩:∃W3,W3=W2.putObj (q+1) (.loop R9):=⟨_,rfl⟩;have pk:∀k,k≠q+1->W3.heap[k]? =W2.heap[k]? :=λk hk=>by rw[hW3];exact World.putObj_heap_other hk
 have zq:q+1<W2.heap.size:=(fy.1 d2).1;have bel3:RowKit.Below z w1 W3:=by refine gE.trans ?_;rw[hW3];exact⟨rfl,rfl,rfl,by simp,λk hk=>World.putObj_heap_other (by omega)⟩
 rw[<-hW3];clear hW3;replace c2:=(pk _ (by omega)).trans c2;replace d1:=(pk _ (by omega)).trans d1;have p2:=(cell_of c2).1
 gi_wp2
 refine⟨by simp,.inl ⟨_,_,rfl,run_takeDeferred d1,?_⟩⟩;have po:∀k,k≠q->(W3.putObj q (.deferred none)).heap[k]? =W3.heap[k]? :=λk h=>World.putObj_heap_other h;have kp:∀k,q+2<=k->(W3.putObj q (.deferred none)).heap[k]? =W2.heap[k]? :=λk h=>(po k (by omega)).trans (pk k (by omega));refine⟨.tuple #[v2,.int .i64 0],by simp[results,Tryz.f43,go_sem],_,rfl,?_,?_⟩
 ·exact BB.trans ((bel3.mono (by have:=BB.size;omega)).trans ⟨rfl,rfl,rfl,by simp,λk hk=>World.putObj_heap_other (by have:=BB.size;omega)⟩)
 ·exact DM (by have:=BB.size;omega) (vN r2 λg cur _ hg _=>kp g hg) (λi u h=>(cl i u h).tL λg cur _ hg _=>kp g hg) hll (by omega) λi a e h1 h2=>(hla i a e h1 h2).2.2.2
theorem aaj{w:jp}{y:H1}{P:H1->jp->Prop}{z:Int}(CI:Calls Tryz.prog 37 #[y] w λe W'=>∃a b,e=.returned (.tuple #[a,b,.int .i64 z])/\RowKit.Below w.heap.size w W'/\P b W')(h0:¬z=0):
 Calls Tryz.prog 43 #[y] w λe w'=>e=.returned (.tuple #[.slice none 0 0,.int .i64 z])/\RowKit.Below w.heap.size w w':=by
 refine(callsIn_wide (n:=0)).1 ?_;refine callsIn_of_wp_marks Tryz.func43 rfl trivial ?_ rfl;simp only[Tryz.ntmps43,p9,bW,List.length_nil,Nat.reduceAdd,Nat.reduceSub,pU,pV,pZ,pW,eK,ec]
 gi_wp2
 refine⟨trivial,rfl,(callsIn_wide.2 CI).mono ?_⟩
 rintro e w1 ⟨ai,bi,rfl,BB,_⟩
 gi_wp2
 exact⟨.tuple #[.slice none 0 0,.int .i64 z],by simp[results,Tryz.f43,go_sem],rfl,BB⟩
namespace Lt
theorem aaq{I:H1->Hx (H1×H1×Int)}(HI:cS Tryz.prog 37 [.v] (.aG [.v,.v,.i .i64]) I):cS Tryz.prog 43 [.v] ny (Ak I):=by
 refine .mk λls r e hl us hu=>?_;obtain⟨x,r1,us1,h1,h2,rfl⟩:=gM hu;obtain⟨rfl,rfl⟩:=nF h2;obtain rfl:=kX h1;have hx:bh [x]=true:=hl x (by simp);replace e:Ak I x=some r:=e;unfold Ak at e;obtain⟨t,ht,e⟩:=ax e;by_cases h0:t.2.2 =0
 case neg=>rw[show aj t.2.2 0=false by rw[vz];exact fI h0] at e;have e:r=(ae 0 [],t.2.2):=(jH e).symm;refine⟨xQ (by rw[e];rfl),_,rfl,zF λm args' w hm A=>?_⟩;subst e;obtain⟨al⟩:=args';replace A:bI m _ al:=A;obtain⟨y,_,rfl,a0,A⟩:=PW.inv A;obtain rfl:=A.ee;exact(aaj (Zk HI ht hx hm a0) h0).mono λe w' ⟨h1,h2⟩=>⟨_,h1,h2,.gy⟩
 rw[show aj t.2.2 0=true by rw[vz];exact eY h0] at e;have e2:jY x _=some r:=e;refine⟨xQ (DA e2 λxs r e=>?_),_,rfl,zF λm args' w hm A=>?_⟩
 ·obtain⟨_,e⟩:=bd e;split at e
  ·obtain⟨_,e⟩:=bd e;obtain⟨_,_,e⟩:=ax e;obtain⟨_,_,e⟩:=ax e;cases e;rfl
  ·cases e
 obtain⟨al⟩:=args';replace A:bI m _ al:=A;obtain⟨_,_,rfl,a0,A⟩:=PW.inv A;obtain rfl:=A.ee;obtain⟨xs,hK,hv⟩:=xq hm e2 a0;obtain⟨hn,hK⟩:=bd hK;split at hK
 case h_2=>cases hK
 rename_i k st hst;obtain⟨hq,hK⟩:=bd hK;obtain⟨S,hS,hK⟩:=ax hK;obtain⟨l,hl2,hK⟩:=ax hK;cases hK;simp only[bB] at hq;have q1:=fb hq.1;have q2:=bX hq.2.1;have q3:=ed hq.2.2;obtain⟨_,hla⟩:=Jy hl2;have hpos:0<xs.length:=by have tJ:S.length=st.length:=Sn hS;obtain⟨_,h2,h3,_⟩:=hla 0 _ _ (cG (show 0<S.length by omega)) (cG (show 1<S.length by omega));omega
 obtain⟨a,c,rfl,hc,hcell⟩|⟨rfl,_⟩:=hv
 ·obtain⟨b,o,sp⟩:=a;obtain rfl:sp=none:=by
   generalize xs.length=n at a0 hpos;cases a0 with
   |lC _ _ _ hs _ _=>exact hs
   |gy=>exact absurd hpos (Nat.lt_irrefl 0)
   |zG=>exact absurd hpos (Nat.lt_irrefl 0)
  exact aap hm HI hx ht h0 (ed hn) hc a0 (λi hi=>by have:=hcell i hi;rwa[Addr.add_lit] at this) hst q1 q2 q3 hS hl2
 ·exact absurd hpos (Nat.lt_irrefl 0)
end Lt
end
namespace Lt
section
variable{β:Type}
@[simp] theorem aU(a b:Int):ak a b=decide (a<b):=nK a b
@[simp] theorem cj(a b:Int):aj a b=decide (a=b):=by rw[vz];rfl
@[simp] theorem mK(a b:Nat):Nat.blt a b=decide (a<b):=by rw[iH,cf,Nat.blt_eq]
@[simp] theorem gF(a b:Nat):Nat.ble a b=decide (a<=b):=by rw[iH,cf,iy]
@[simp] theorem Ae(a b:Nat):Nat.beq a b=decide (a=b):=by rw[iH,cf,Nat.beq_eq]
@[simp] theorem qM{α:Type}{p:Prop}[Decidable p](a b:α):cond (decide p) a b=if p then a else b:=by by_cases h:p<;>simp
theorem amx{α:Type}(c:Bool)(a b:α):cond c a b=if c=true then a else b:=by cases c<;>rfl
@[simp] theorem aA{α β:Type}(a:α)(f:α->Hx β):ob (some a) f=f a:=rfl
@[simp] theorem amz{α β:Type}(f:α->Hx β):ob none f=none:=rfl
@[simp] theorem iQ{α γ δ:Type}(a:α)(f:α->δ)(g:γ->δ):dG (.inl a) f g=f a:=rfl
@[simp] theorem IB{α γ δ:Type}(a:γ)(f:α->δ)(g:γ->δ):dG (.inr a) f g=g a:=rfl
@[simp] theorem aX(x:H1)(r:qr H1)(K:H1->qr H1->Hx β):af (x::r) K=K x r:=rfl
@[simp] theorem amB(K:H1->qr H1->Hx β):af [] K=none:=rfl
@[simp] theorem amy(r:Hx β):oH [] r=r:=rfl
@[simp] theorem bu(k:IntKind)(n:Int)(K:Int->Hx β):au k (.int k n) K=K n:=by unfold au;simp
@[simp] theorem ams(b:Bool)(K:Bool->Hx β):z8 (.bool b) K=K b:=rfl
@[simp] theorem amw(s:ByteArray)(K:ByteArray->Hx β):Aa (.string s) K=K s:=rfl
@[simp] theorem bP(n:Nat)(K:Nat->Hx β):aF (n:Int) K=K n:=rfl
@[simp] theorem amu(n:Nat)(K:Nat->Hx β):aF (Int.ofNat n) K=K n:=rfl
@[simp] theorem amv(K:Nat->Hx β):aF 0 K=K 0:=rfl
@[simp] theorem amt(n:Nat)(K:Nat->Hx β):aF (no_index(OfNat.ofNat n)) K=K (OfNat.ofNat n):=rfl
theorem lU{n:Int}(h:0<=n)(K:Nat->Hx β):aF n K=K n.toNat:=by obtain⟨m,rfl⟩:=Int.eq_ofNat_of_zero_le h;rfl
@[simp] theorem acC(n:Nat)(c:qr H1)(K:Nat->Hx β):aw (ae n c) K=K n:=rfl
@[simp] theorem aaS[QF](x:H1)(r:Hx β):jA x x r=r:=vk x r
theorem S5(sz m n:Nat)(c:qr H1)(K:qr H1->Hx β):aJ sz m (ae n c) K=if m<n then K (c.drop (m*sz)) else none:=by unfold aJ ae;simp
theorem aah(sz l h n:Nat)(c:qr H1)(K:H1->Hx β):gL sz l h (ae n c) K=K (ae (h -l) ((c.drop (l*sz)).take ((h -l)*sz))):=rfl
theorem abe(E n:Nat)(c:qr H1)(K:Nat->qr H1->Hx β):dQ E (ae n c) K=if n*E<=c.length then K n (c.take (n*E)) else none:=by unfold dQ ae;simp
@[simp] theorem amA(n:Nat):aH n=decide (n<=1000000000):=by unfold aH;rw[gF]
theorem aP{n:Int}(h1:-9223372036854775808<=n)(h2:n<9223372036854775808):ah .i64 n=n:=by
 unfold ah;have:vC .i64 n=true:=by
  cases n with
  |ofNat m=>show Nat.blt m 9223372036854775808=true;simp_all;omega
  |negSucc m=>show Nat.blt m 9223372036854775808=true;rw[mK,cf];omega
 grind
theorem tb{n:Int}(h1:0<=n)(h2:n<18446744073709551616):ah .u64 n=n:=by
 unfold ah;have:vC .u64 n=true:=by
  cases n with
  |ofNat m=>show Nat.blt m 18446744073709551616=true;simp_all;omega
  |negSucc m=>omega
 grind
@[simp] theorem ji(a b:Int):Int.sub a b=a -b:=rfl
@[simp] theorem cc(a b:Int):Int.add a b=a+b:=rfl
@[simp] theorem oD(a b:Int):Int.mul a b=a*b:=rfl
@[simp] theorem bU(n:Nat):Int.ofNat n=(n:Int):=rfl
theorem acM{α:Type}(z:α)(F:α->α)(n:Nat):lp z F (n+1)=F (lp z F n):=rfl
theorem eB{α:Type}(z:α)(F:α->α){n:Nat}(h:0<n):lp z F n=F (lp z F (n -1)):=by
 cases n with
 |zero=>omega
 |succ n=>rfl
theorem gO{α γ:Type}{z:α}{F:α->α}{r:γ}{w:Nat}(ev:Nat->α->γ)(m:Nat)(hs:∀i g,i<m->ev i (F g)=ev (i+1) g)(he:∀g,ev m (F g)=r)(h:m<w):ev 0 (lp z F w)=r:=by
 have:∀(d i v:Nat),i+d=m->d<v->ev i (lp z F v)=r:=by
  intro d;induction d with
  |zero=>intro i v hi hv;rw[eB z F (by omega),show i=m by omega,he]
  |succ d ih=>
   intro i v hi hv;rw[eB z F (by omega)]
   grind
 grind
def aB{α:Type}(f:α->qr H1)(l:qr α):H1:=ae l.length (l.flatMap f)
def aZ(b:UInt8):H1:=.int .u8 (b.toNat:Int)
def mM(b:UInt8):qr H1:=[aZ b]
def ag(l:qr UInt8):H1:=aB mM l
theorem da{α:Type}{f:α->qr H1}{k:Nat}(hf:∀x,(f x).length=k):∀l:qr α,(l.flatMap f).length=l.length*k
 |[]=>by simp
 |x::l=>by rw[dN,aT,hf,da hf l,bW,lP,Nat.one_mul,Nat.add_comm]
theorem nI{α:Type}{f:α->qr H1}{k:Nat}(hf:∀x,(f x).length=k):∀(l:qr α)(m:Nat),(l.flatMap f).drop (m*k)=(l.drop m).flatMap f
 |l,0=>by simp
 |[],m+1=>by simp
 |x::l,m+1=>by rw[dN,lP,Nat.one_mul,Nat.add_comm (m*k),<-List.drop_drop,List.drop_left' (hf x),nI hf l m];rfl
theorem xF{α:Type}{f:α->qr H1}{k:Nat}(hf:∀x,(f x).length=k):∀(l:qr α)(m:Nat),(l.flatMap f).take (m*k)=(l.take m).flatMap f
 |l,0=>by simp
 |[],m+1=>by simp
 |x::l,m+1=>by rw[dN,lP,Nat.one_mul,Nat.add_comm (m*k),List.take_append,eQ (by rw[hf];omega),hf,IT,xF hf l m];rfl
@[simp] theorem cd{α:Type}(f:α->qr H1)(l:qr α)(K:Nat->Hx β):aw (aB f l) K=K l.length:=rfl
theorem bn{α:Type}{f:α->qr H1}{k:Nat}(hf:∀x,(f x).length=k){l:qr α}{m:Nat}(h:m<l.length)(K:qr H1->Hx β):aJ k m (aB f l) K=K (f l[m]++(l.drop (m+1)).flatMap f):=by unfold aB;rw[S5,ay h,nI hf,dk h,dN]
theorem tz{α:Type}{f:α->qr H1}{k:Nat}(hf:∀x,(f x).length=k)(l:qr α){a b:Nat}(h:b<=l.length)(K:H1->Hx β):gL k a b (aB f l) K=K (aB f ((l.drop a).take (b -a))):=by
 unfold aB;rw[aah,nI hf,xF hf]
 grind
theorem xG{α:Type}{f:α->qr H1}{k:Nat}(hf:∀x,(f x).length=k)(l:qr α)(K:Nat->qr H1->Hx β):dQ k (aB f l) K=K l.length (l.flatMap f):=by unfold aB;rw[abe,da hf,ay (aM _),eQ (by rw[da hf];exact aM _)]
theorem JA(b:UInt8):(mM b).length=1:=rfl
@[simp] theorem cI(l:qr UInt8)(K:Nat->Hx β):aw (ag l) K=K l.length:=rfl
theorem oG{l:qr UInt8}{m:Nat}(h:m<l.length)(K:qr H1->Hx β):aJ 1 m (ag l) K=K (aZ l[m]::(l.drop (m+1)).flatMap mM):=bn JA h K
theorem lY(l:qr UInt8){a b:Nat}(h:b<=l.length)(K:H1->Hx β):gL 1 a b (ag l) K=K (ag ((l.drop a).take (b -a))):=tz JA l h K
theorem im(l:qr UInt8)(K:Nat->qr H1->Hx β):dQ 1 (ag l) K=K l.length (l.flatMap mM):=xG JA l K
theorem gZ(l:qr UInt8):l.flatMap mM=l.map aZ:=by
 induction l with
 |nil=>rfl
 |cons x l ih=>rw[dN,ih];rfl
@[simp] theorem qe(b:UInt8)(K:Int->Hx β):au .u8 (aZ b) K=K (b.toNat:Int):=bu _ _ _
theorem acL{α:Type}{z:α}{F:α->α}{G:Nat->α}(h:lp z F=G)(n:Nat):G (n+1)=F (G n):=by subst h;rfl
end
theorem wk{w:Nat}(h:4<=w)(a b:Int):rk w a b=some (gw a b):=by
 obtain⟨v,rfl⟩:=wV h;have e:Hp (v+4) (ae 3 [Value.int IntKind.i64 1,Value.int IntKind.i64 2,Value.int IntKind.i64 4]) a=some (if a=1 then 0 else if a=2 then 1 else if a=4 then 2 else-1):=by
  unfold Hp OF;simp[acM,S5,aP,@eq_comm _ _ a]
  repeat' split
  all_goals rfl
 unfold rk OA;rw[e];simp[gw,CX];have hb:(if b=1 then some true else some (decide (b=2)))=some (b==1||b==2):=by by_cases hb:b=1<;>grind
 rw[hb];by_cases h1:a=1
 ·simp[h1]
 ·by_cases h2:a=2
  ·simp[h2]
  ·by_cases h4:a=4
   ·simp[h4]
   ·simp_all
theorem tR{s o:Int}(h:gw s o=true):(s=1\/s=2\/s=4)/\(o=1\/o=2):=by
 unfold gw CX at h
 grind
theorem agD{n b:Nat}(hn:n<2^40)(hb:b<256):(BitVec.ofInt 64 ((n:Int)*256)|||BitVec.ofInt 64 (b:Int)).toNat=n*256+b:=by
 rw[(show((n:Int)*256)=((n*256:Nat):Int) from by omega),BitVec.ofInt_natCast];have:=Nat.shiftLeft_add_eq_or_of_lt (i:=8) (by omega) n;rw[Nat.shiftLeft_eq] at this
 grind
theorem Vz{l:qr UInt8}{p s:Nat}{o:Int}(h:p+s<=l.length):(gV l p s o).length=s:=by
 unfold gV
 grind
theorem ag0{l:qr UInt8}{p s i:Nat}{o:Int}(h:p+s<=l.length)(hi:i<s):(gV l p s o)[i]'(by rw[Vz h];exact hi)=if o=1 then l[p+s -1 -i]'(by omega) else l[p+i]'(by omega):=by
 unfold gV
 grind
theorem Cd{w:Nat}(hw:5<=w)(l:qr UInt8)(hl:l.length<2^60)(p s o:Int)(hp:p<2^62):
 jS w (ag l) p s o=some (match pB l p s o with|some n=>(n,true)|none=>(0,false)):=by
 unfold jS pB NF;rw[wk (by omega)];cases hm:gw s o with
 |false=>simp
 |true=>
  obtain⟨hs,ho⟩:=tR hm;simp only[aA,bH,aD,aU,qM,cI];by_cases h0:p<0
  ·rw[ay h0,aq (by omega)]
  rw[aq h0];rw[aP (by simp;omega) (by simp;omega)];by_cases h1:(Int.ofNat l.length).sub s<p
  ·rw[ay h1,aq (by simp at h1;omega)]
  rw[aq h1,ay ⟨trivial,by omega,by simp at h1;omega⟩];obtain⟨p,rfl⟩:=Int.eq_ofNat_of_zero_le (Int.not_lt.1 h0);obtain⟨s,rfl⟩:=Int.eq_ofNat_of_zero_le (a:=s) (by omega);have hps:p+s<=l.length:=by simp at h1;omega
  have hs4:s<=4:=by omega
  have hk:=Vz (o:=o) hps;refine gO (ev:=λi (g:H1->Int->Int->Int->Int->Int->Int->Hx (Int×Bool))=>g (ag l) p s o (iu ((gV l p s o).take i):Int) s i) s ?_ ?_ (by omega)
  ·intro i g hi;have hi':((i:Int)<(s:Int)):=by omega
   have hn:iu ((gV l p s o).take i)<2^40:=o6 (Lp _) (by
    rw[dE,hk];exact fH (Nat.pow_le_pow_right (by decide) (show min i s<=4 by omega)) (by decide))
   have e1:(gV l p s o).take (i+1)=(gV l p s o).take i++[(gV l p s o)[i]'(by omega)]:=by rw[iI (by omega)]
   simp only[hi',dW,cj];have hb:=agD hn (gV l p s o)[i].toNat_lt;have hv:iu ((gV l p s o).take i)*256+(gV l p s o)[i].toNat<2^50:=by have:=(gV l p s o)[i].toNat_lt;omega
   rw[e1,EK];rw[ag0 hps hi] at hb hv⊢;by_cases h2:o=1
   ·simp only[h2,aY,aE,dW] at hb hv⊢;simp(disch:=omega) only[ji,cc,aP,lU];rw[oG (show(((p:Int)+s -1 -i).toNat<l.length) by omega)];have e2:((p:Int)+s -1 -i).toNat=p+s -1 -i:=by omega
    simp(disch:=omega) only[e2,aX,qe,oD,aP];rw[show((2:Int)^8)=256 from rfl];simp(disch:=omega) only[aP,hb];rfl
   ·simp only[h2,bL,aD,gY] at hb hv⊢;simp(disch:=omega) only[ji,cc,aP,lU];rw[oG (show(((p:Int)+i).toNat<l.length) by omega)];have e2:((p:Int)+i).toNat=p+i:=by omega
    simp(disch:=omega) only[e2,aX,qe,oD,aP];rw[show((2:Int)^8)=256 from rfl];simp(disch:=omega) only[aP,hb];rfl
  ·intro g;simp[hk,eQ]
section
variable{β:Type}
@[simp] theorem Ft(n:Nat)(v:H1)(c:qr H1):aW n [v] c=c.set n v:=rfl
theorem Bt:∀(vs old pre post:qr H1),old.length=vs.length->aW pre.length vs (pre++(old++post))=pre++(vs++post)
 |[],old,pre,post,h=>by obtain rfl:=qF.1 h;rfl
 |v::vs,[],pre,post,h=>by grind
 |v::vs,o::old,pre,post,h=>by
  have:=Bt vs old (pre++[v]) post (by grind);show aW (pre.length+1) vs ((pre++(o::old++post)).set pre.length v)=_
  grind
theorem Zf{c:qr H1}{n:Nat}(h:n<c.length)(K:H1->qr H1->Hx β):af (c.drop n) K=K c[n] (c.drop (n+1)):=by rw[dk h];rfl
def mW(l:qr UInt8)(k:Nat):qr UInt8:=(List.range l.length).map λj=>if j<k\/l.length -k<=j then(l[l.length -1 -j]?).getD 0 else(l[j]?).getD 0
@[simp] theorem Wt(l:qr UInt8)(k:Nat):(mW l k).length=l.length:=by simp[mW]
theorem yp(l:qr UInt8)(k j:Nat)(h:j<l.length):(mW l k)[j]? =if j<k\/l.length -k<=j then l[l.length -1 -j]? else l[j]? :=by
 unfold mW
 grind
theorem ahY(l:qr UInt8):mW l 0=l:=by
 apply rH;intro j;by_cases h:j<l.length
 ·rw[yp _ _ _ h,aq (by omega)]
 simp_all
theorem ahW(l:qr UInt8){k:Nat}(hk:l.length<=2*k+1):mW l k=l.reverse:=by
 apply rH;intro j;by_cases h:j<l.length
 ·rw[yp _ _ _ h]
  grind
 simp_all
theorem ahX(l:qr UInt8){k:Nat}(hk:2*k+1<l.length):((mW l k).set k (l[l.length -1 -k]'(by omega))).set (l.length -1 -k) (l[k]'(by omega))=mW l (k+1):=by
 apply rH;intro j;by_cases h:j<l.length
 ·rw[yp _ _ _ h,List.getElem?_set,List.getElem?_set,yp _ _ _ h];simp
  grind
 simp_all
theorem TK{pre m post:qr UInt8}{k:Nat}{b:UInt8}(h:m[k]? =some b)(hk:pre.length+k<((pre++(m++post)).map aZ).length):((pre++(m++post)).map aZ)[pre.length+k]=aZ b:=by grind
theorem Lh(pre m post:qr UInt8){k:Nat}(b:UInt8)(h:k<m.length):((pre++(m++post)).map aZ).set (pre.length+k) (aZ b)=(pre++(m.set k b++post)).map aZ:=by simp_all
theorem QH(b:UInt8):(SV.i IntKind.u8 (b.toNat:Int)).cells.length.beq 1=true:=rfl
theorem Oq{w:Nat}(pre l post:qr UInt8)(hl:l.length<2^60)(hw:l.length+1<w)(c:Nat):uj w pre.length l.length c ((pre++(l++post)).map aZ)=some ((pre++(l.reverse++post)).map aZ):=by
 unfold uj;rw[ji,bU,aP (by omega) (by omega),<-ahW l (k:=l.length/2) (by omega)];rw[show(pre++(l++post))=pre++(mW l 0++post) by rw[ahY],show(l.length:Int) -1=(l.length:Int) -1 -((0:Nat):Int) by omega];refine gO (ev:=λi (g:Nat->Nat->Nat->Int->Int->qr H1->Hx (qr H1))=>g pre.length l.length c i ((l.length:Int) -1 -i) ((pre++(mW l i++post)).map aZ)) (l.length/2) ?_ ?_ (show l.length/2<w by omega)
 ·intro i g hi;have e1:((i:Int)<(l.length:Int) -1 -i):=by omega
  simp(disch:=omega) only[aU,e1,aY,aE,lU,nh,mK,gk];have e2:((l.length:Int) -1 -i).toNat=l.length -1 -i:=by omega
  rw[e2];have h1:l.length -1 -i<l.length:=by omega
  have h2:i<l.length:=by omega
  have h3:((pre++(mW l i++post)).map aZ).length=pre.length+(l.length+post.length):=by simp
  have g1:((pre++(mW l i++post)).map aZ)[pre.length+(l.length -1 -i)]'(by omega)=aZ (l[l.length -1 -i]):=TK (by
   rw[yp _ _ _ h1,aq (by omega),cG h1]) _
  have g2:((pre++(mW l i++post)).map aZ)[pre.length+i]'(by omega)=aZ (l[i]):=TK (by
   rw[yp _ _ _ h2,aq (by omega),cG h2]) _
  simp only[h1,h2,aE];rw[Zf (by omega),g1];simp only[qe];rw[Zf (by omega),g2];simp only[qe,QH,gF,nS];have f1:pre.length+i+1<=((pre++(mW l i++post)).map aZ).length:=by omega
  have f2:pre.length+(l.length -1 -i)+1<=((pre++(mW l i++post)).map aZ).length:=by omega
  simp only[f1,f2,aE,Ft,ji,cc];rw[aP (by omega) (by omega),aP (by omega) (by omega)];rw[show Value.int IntKind.u8 (l[l.length -1 -i].toNat:Int)=aZ l[l.length -1 -i] from rfl,show Value.int IntKind.u8 (l[i].toNat:Int)=aZ l[i] from rfl];rw[Lh _ _ _ _ (by rw[Wt];exact h2),Lh _ _ _ _ (by rw[List.length_set,Wt];exact h1),ahX l (by omega)];rw[show(l.length:Int) -1 -i -1=(l.length:Int) -1 -((i+1:Nat):Int) by omega];rfl
 ·intro g;have e1:¬(((l.length/2:Nat):Int)<(l.length:Int) -1 -((l.length/2:Nat):Int)):=by omega
  simp only[aU,e1,bL,aD]
theorem acN{α α':Type}{z:α}{F:α->α}{z':α'}{F':α'->α'}(R:α->α'->Prop)(h0:R z z')(hs:∀g g',R g g'->R (F g) (F' g'))(w:Nat):R (lp z F w) (lp z' F' w):=by
 induction w with
 |zero=>exact h0
 |succ w ih=>exact hs _ _ ih
theorem aj4(w a b:Nat)(c:qr H1):G8 w a b c=uj w 0 a b c:=by
 refine acN (R:=λ(g:Nat->Nat->Int->Int->qr H1->Hx (qr H1))(g':Nat->Nat->Nat->Int->Int->qr H1->Hx (qr H1))=>∀a b i j c,g a b i j c=g' 0 a b i j c) ?_ ?_ w _ _ _ _ _
 ·intros;rfl
 ·intro g g' h a b i j c;simp_all
theorem aj3{w:Nat}(l:qr UInt8)(hl:l.length<2^60)(hw:l.length+1<w)(c:Nat):G8 w l.length c (l.map aZ)=some (l.reverse.map aZ):=by
 rw[aj4];have:=Oq [] l [] hl hw c
 grind
theorem QA:∀(i n:Nat),eE n (i+1)=UInt8.ofNat (n/256^i%256)::eE n i
 |0,n=>by simp[eE]
 |i+1,n=>by show eE (n/256) (i+1)++_=_;rw[QA i (n/256)];show _=_::(eE (n/256) i++_);rw[ec,Nat.div_div_eq_div_mul,Nat.pow_succ,nq]
theorem aj2{s:Int}(h:s=1\/s=2\/s=4)(w:Nat):yR w s=some ((256^s.toNat:Nat):Int):=by rcases h with rfl|rfl|rfl<;>rfl
theorem ama(i:Nat):(2:Int)^(8*i)=((256^i:Nat):Int):=by rw[<-(show(2:Nat)^(8*i)=256^i from by rw[Nat.pow_mul])];simp
theorem oy(l:qr UInt8):ag l=ae l.length (l.map aZ):=by unfold ag aB;rw[gZ]
theorem sB:∀n:Nat,rep n (Value.int IntKind.u8 0).cells.toList=(List.replicate n (0:UInt8)).map aZ
 |0=>rfl
 |n+1=>by show _=aZ 0::_;rw[<-sB n];rfl
theorem sK{w:Nat}(hw:8<=w)(n s o:Int):iF w n s o=some (match(if gw s o=true then pL n s.toNat o else none) with|some l=>(ag l,true)|none=>(ae 0 [],false)):=by
 unfold iF;rw[wk (by omega)];cases hm:gw s o with
 |false=>simp
 |true=>
  obtain⟨hs,ho⟩:=tR hm;unfold pL;simp only[aA,bH,aD,aU,qM,dW];by_cases h0:n<0
  ·rw[ay h0,aq (by omega)]
  rw[aq h0,aj2 hs];simp only[aA];by_cases h1:¬n<((256^s.toNat:Nat):Int)
  ·rw[aq (by omega)];simp only[h1,bL,gj,aE]
  replace h1:=qE.1 h1;rw[ay (by omega)];obtain⟨n,rfl⟩:=Int.eq_ofNat_of_zero_le (Int.not_lt.1 h0);obtain⟨s,rfl⟩:=Int.eq_ofNat_of_zero_le (a:=s) (by omega);have hs4:s<=4:=by omega
  have hr:Nat.ble s 1000000000=true:=by rw[iy];omega
  have hr2:Nat.ble s s=true:=by rw[iy];omega
  simp only[h1,aY,bH,aD];simp only[bP,hr,hr2,ky,sB,nh,oV];rw[show List.replicate s (0:UInt8)=List.replicate (s -0) 0++eE n 0 by simp[eE]];refine gO (ev:=λi (g:Int->Int->Int->Nat->Nat->Int->Int->qr H1->Hx (H1×Bool))=>g n s o s s s i ((List.replicate (s -i) (0:UInt8)++eE n i).map aZ)) s ?_ ?_ (by omega)
  ·intro i g hi;have e1:((i:Int)<(s:Int)):=by omega
   simp only[e1,dW];have e2:(ah IntKind.u64 (Int.mul 8 (ah IntKind.u64 (i:Int))))=((8*i:Nat):Int):=by rw[oD,tb (n:=(i:Int)) (by omega) (by omega),tb (by omega) (by omega)];omega
   have e3:(n:Int).fdiv (2^min ((8*i:Nat):Int).toNat 64)=((n/256^i:Nat):Int):=by rw[nh,kC (by omega),ama,Int.fdiv_eq_ediv_of_nonneg _ (Int.natCast_nonneg _)];rfl
   have e4:ah IntKind.u8 ((n/256^i:Nat):Int)=((UInt8.ofNat (n/256^i%256)).toNat:Int):=by rw[pc,IntKind.wrap_u8];simp
   rw[e2,aq (by omega),e3,e4];simp(disch:=omega) only[ji,cc,aP,lU,QH,eV,gF,mK];have e5:((s:Int) -1 -i).toNat=s -1 -i:=by omega
   have e6:s -1 -i<s:=by omega
   have e7:((List.replicate (s -i) (0:UInt8)++eE n i).map aZ).length=s:=by simp[pj];omega
   have e8:0+(s -1 -i)*1+1<=s:=by omega
   simp only[e5,e6,e7,e8,aY,aE];rw[show 0+(s -1 -i)*1=s -1 -i by omega,Ft,show Value.int IntKind.u8 ((UInt8.ofNat (n/256^i%256)).toNat:Int)=aZ (UInt8.ofNat (n/256^i%256)) from rfl];have e9:(List.replicate (s -i) (0:UInt8)++eE n i)=List.replicate (s -1 -i) 0++([0]++eE n i):=by rw[<-dM,<-List.replicate_succ',show s -1 -i+1=s -i by omega]
   have e10:=Lh (List.replicate (s -1 -i) 0) [0] (eE n i) (k:=0) (UInt8.ofNat (n/256^i%256)) (by simp);rw[uM,Nat.add_zero] at e10;rw[e9,e10,QA,show s -(i+1)=s -1 -i by omega];rfl
  ·intro g;simp;unfold bc;have hb:=pj s n;by_cases h2:o=1
   ·subst h2;have:=aj3 (w:=w) (eE n s) (by omega) (by omega) s;rw[hb] at this;simp only[show aj 1 1=true from rfl,aE,this,aA,ew,dW];rw[oy,List.length_reverse,hb]
   ·simp_all;rw[oy,hb]
end
theorem IF(l:qr UInt8)(s m i:Nat)(h:i<l.length)(hs:0<s)(hm:m<=l.length)(hd:m%s=0):(iG l s m)[i]? =if i<m then l[i -i%s+(s -1 -i%s)]? else l[i]? :=by
 rw[C0 _ _ _ _ h];split
 ·next h1=>
  have:i -i%s+(s -1 -i%s)<l.length:=by
   have h3:=Nat.div_add_mod i s;have h4:=Nat.div_add_mod m s;have h5:i/s<m/s:=by apply Nat.lt_of_mul_lt_mul_left (a:=s);omega
   have h6:s*(i/s+1)<=s*(m/s):=Nat.mul_le_mul_left _ h5;rw[Nat.mul_add] at h6;omega
  grind
 ·rw[cG h];rfl
theorem Y3(l:qr UInt8){s i:Nat}(hs:0<s)(h:i*s+s<=l.length):
 iG l s ((i+1)*s)=(iG l s (i*s)).take (i*s)++((((iG l s (i*s)).drop (i*s)).take s).reverse++(iG l s (i*s)).drop (i*s+s)):=by
 apply rH;intro j;have e1:(i+1)*s=i*s+s:=by rw[lP,Nat.one_mul]
 have d1:(i*s)%s=0:=Nat.mul_mod_left _ _;have d2:((i+1)*s)%s=0:=Nat.mul_mod_left _ _;have hlen:=pR l s (i*s);by_cases hj:j<l.length
 ·rw[IF _ _ _ _ hj hs (by omega) d2];by_cases h1:j<i*s
  ·rw[ay (by omega),wT (by rw[dE];omega),zJ h1,IF _ _ _ _ hj hs (by omega) d1,ay h1]
  ·by_cases h2:j<i*s+s
   ·have hm:j%s=j -i*s:=by
     have:=qH (show j -i*s<s by omega);rw[<-this]
     conv=>lhs;rw[show j=(j -i*s)+s*i by rw[nq s i];omega]
     rw[Nat.add_mul_mod_self_left]
    rw[ay (by omega),uL (by rw[dE];omega),dE,hlen,kC (by omega)];rw[wT (by rw[List.length_reverse,dE,er];omega)];rw[List.getElem?_reverse (by rw[dE,er];omega),dE,er,hlen,kC (by omega)];rw[zJ (by omega),sV,IF _ _ _ _ (by omega) hs (by omega) d1,aq (by omega),hm]
    congr 1
    omega
   ·rw[aq (by omega),uL (by rw[dE];omega),uL (by simp;omega)];simp;rw[IF _ _ _ _ (by omega) hs (by omega) d1,aq (by omega)]
    congr 1
    omega
 ·rw[kQ (by rw[pR];omega),kQ (by simp;omega)]
theorem Y2(l:qr UInt8)(s:Nat):iG l s 0=l:=by
 apply rH;intro i;by_cases h:i<l.length
 ·rw[C0 _ _ _ _ h,cG h];rfl
 ·rw[kQ (by rw[pR];omega),kQ (by omega)]
theorem HY(w:Nat){a b c:Int}(h:-2^62<c/\c<2^62)(ha:a<2^62):wA w a b c=some (decide (0<=a/\0<=b/\a<=c/\b<=c -a)):=by
 unfold wA;simp;by_cases h1:a<0
 ·simp[h1];omega
 by_cases h2:b<0
 ·simp_all;omega
 by_cases h3:c<a
 ·simp_all;omega
 rw[aP (by omega) (by omega)];by_cases h4:c -a<b<;>grind
theorem akX(w:Nat){n:Nat}(h:n<2^60):H7 w (n:Int)=some (aI n:Int):=by
 unfold H7 aI;have e:(BitVec.ofInt 64 (n:Int)&&&BitVec.ofInt 64 1).toNat=n%2:=by simp
 rw[e,aP (n:=((n%2:Nat):Int)) (by omega) (by omega),cc,aP (by omega) (by omega)];rfl
theorem Y0{w:Nat}(l:qr UInt8)(hl:l.length<2^29)(hw:l.length+10<=w)(s:Nat)(o:Int)(hs:(s:Int)=1\/(s:Int)=2\/(s:Int)=4\/(s:Int)=8)(ho:o=1\/o=2):
 lp (λ(x8 x9:Int)(x10 x11:Nat)(x12:Int)(x13:qr H1)=>(none:Hx H1))
     (λ(x14:Int->Int->Nat->Nat->Int->qr H1->Hx H1)(x15 x16:Int)(x17 x18:Nat)(x19:Int)(x20:qr H1)=>
      bif aj x16 1 then
       bif !ak (Int.ofNat x17) (ah IntKind.i64 (x19.add x15)) then
        aF (ah IntKind.i64 (x19.add x15)) λx21=>
         aF x19 λx22=>
          bif x21.ble x18&&x22.ble x21 then
           ob (uj w (bif x18.beq x22 then 0 else 0+x22*1) (x21 -x22) (x18 -x22) x20) λx23=>
            x14 x15 x16 x17 x18 (ah IntKind.i64 (x19.add x15)) x23
          else none
       else some (ae x17 (List.drop 0 x20))
      else some (ae x17 (List.drop 0 x20)))
     w (s:Int) o l.length l.length 0 (l.map aZ)=some (if o=1 then ag (iG l s (l.length/s*s)) else ag l):=by
 have hs0:0<s:=by omega
 have hs8:s<=8:=by omega
 have hd2:l.length/s<=l.length:=Nat.div_le_self _ _;by_cases h1:o=1
 ·subst h1;have hd:s*(l.length/s)<=l.length:=Nat.mul_div_le _ _;have hd3:l.length<s*(l.length/s)+s:=Nat.lt_mul_div_succ _ hs0;rw[show l.map aZ=(iG l s (s*0)).map aZ by rw[Nat.mul_zero,Y2],ay rfl];refine gO (ev:=λi (g:Int->Int->Nat->Nat->Int->qr H1->Hx H1)=>g (s:Int) 1 l.length l.length ((s*i:Nat):Int) ((iG l s (s*i)).map aZ)) (l.length/s) ?_ ?_ (by omega)
  ·intro i g hi;have hle:s*(i+1)<=s*(l.length/s):=Nat.mul_le_mul_left _ hi;have e1:s*(i+1)=s*i+s:=by rw[Nat.mul_add,gk]
   have e2:(((s*i:Nat):Int).add (s:Int))=((s*(i+1):Nat):Int):=by rw[cc,e1];omega
   simp only[e2,show aj 1 1=true from rfl,aE,aU,bU];rw[aP (by omega) (by omega)];have e3:¬((l.length:Int)<((s*(i+1):Nat):Int)):=by omega
   simp only[e3,bL,gj,aE,bP,gF,Ae];have e4:s*(i+1)<=l.length:=by omega
   have e5:s*i<=s*(i+1):=by omega
   have e6:¬(l.length=s*i):=by omega
   simp only[e4,e5,e6,aY,bL,ky,aE,aD];have hlen:=pR l s (s*i);have:=Oq (w:=w) ((iG l s (s*i)).take (s*i)) (((iG l s (s*i)).drop (s*i)).take s) ((iG l s (s*i)).drop (s*i+s)) (by simp;omega) (by simp;omega) (l.length -s*i);rw[<-nq i s,<-Y3 l hs0 (by rw[nq];omega),nq i s,nq (i+1) s,<-List.drop_drop,lI,lI,dE,dE,er,hlen,kC (by omega),kC (by omega)] at this;rw[show 0+s*i*1=s*i by omega,show s*(i+1) -s*i=s by omega,this];rfl
  ·intro g;simp only[show aj 1 1=true from rfl,aE,aU,bU,cc];rw[aP (by omega) (by omega)];have e3:((l.length:Int)<((s*(l.length/s):Nat):Int)+(s:Int)):=by omega
   simp_all;rw[oy,pR,nq]
 ·rw[aq h1,eB _ _ (by omega)];simp only[cj,h1,bL,aD,ew,oy]
theorem akZ{w:Nat}(l:qr UInt8)(hl:l.length<2^29)(hw:l.length+10<=w)(s o:Int):
 H8 w (ag l) s o=some (if gw s o=true\/(s=8/\gw 1 o=true) then(if o=1 then ag (iG l s.toNat (l.length/s.toNat*s.toNat)) else ag l) else ae 0 []):=by
 unfold H8 Nx;rw[wk (by omega)];have hr:Nat.ble l.length 1000000000=true:=by rw[iy];omega
 have hr2:Nat.ble l.length l.length=true:=by rw[iy];omega
 have hi:aW 0 (List.take (l.length*1) (l.map aZ)) (List.map aZ (List.replicate l.length 0))=l.map aZ:=by have:=Bt (l.map aZ) (List.map aZ (List.replicate l.length 0)) [] [] (by simp);simp only[List.length_nil,eK,ea] at this;rw[gk,eQ (by simp),this]
 have hq:((l.map aZ).length.beq (l.length*1)&&(0+l.length*1).ble (List.map aZ (List.replicate l.length 0)).length)=true:=by simp
 by_cases hc:¬(gw s o=true\/(s=8/\gw 1 o=true))
 ·rw[aq hc];have hm:gw s o=false:=by cases h:gw s o<;>simp_all
  simp[aE];by_cases h8:s=8
  ·have hm1:gw 1 o=false:=by cases h:gw 1 o<;>simp_all
   simp_all;rw[wk (by omega),hm1];rfl
  ·simp_all
 replace hc:=qE.1 hc;have hs:s=1\/s=2\/s=4\/s=8:=by
  rcases hc with h|h
  ·have:=(tR h).1;omega
  ·omega
 have ho:o=1\/o=2:=by
  rcases hc with h|h
  ·exact(tR h).2
  ·exact(tR h.2).2
 obtain⟨s,rfl⟩:=Int.eq_ofNat_of_zero_le (a:=s) (by omega);have hs0:0<s:=by omega
 have hs8:s<=8:=by omega
 rw[ay hc,nh];cases hm:gw s o;all_goals simp only[aA,bH,gj,aE,aD]
 ·have h8:(s:Int)=8:=by rcases hc with h|h;(rw[hm] at h;cases h);exact h.1
  have hm1:gw 1 o=true:=by rcases hc with h|h;(rw[hm] at h;cases h);exact h.2
  rw[wk (by omega),hm1,show aj (s:Int) 8=true by rw[h8];rfl];simp only[bH,aD,aA,cI,im,hr,hr2,ky,aE,sB,gZ,Nat.min_self];rw[hq,aE,hi];exact Y0 l hl hw s o hs ho
 ·simp only[cI,im,hr,hr2,ky,aE,sB,gZ,Nat.min_self];rw[hq,aE,hi];exact Y0 l hl hw s o hs ho
theorem yV(w:Nat)(t:Int):sP w t=some (kindOf t):=by
 by_cases o:t<1\/12<t
 ·rw[Et o];unfold sP;simp only[aU,qM];by_cases h:t<0
  ·rw[ay h]
  rw[aq h];by_cases h2:12<t
  ·rw[ay h2]
  rw[show t=0 by omega];rfl
 ·have hc:t=1\/t=2\/t=3\/t=4\/t=5\/t=6\/t=7\/t=8\/t=9\/t=10\/t=11\/t=12:=by omega
  rcases hc with rfl|rfl|rfl|rfl|rfl|rfl|rfl|rfl|rfl|rfl|rfl|rfl<;>rfl
theorem AK(t:Int):0<=(kindOf t).1 /\(kindOf t).1 <=8:=by
 by_cases o:t<1\/12<t
 ·rw[Et o];exact⟨by decide,by decide⟩
 ·have hc:t=1\/t=2\/t=3\/t=4\/t=5\/t=6\/t=7\/t=8\/t=9\/t=10\/t=11\/t=12:=by omega
  rcases hc with rfl|rfl|rfl|rfl|rfl|rfl|rfl|rfl|rfl|rfl|rfl|rfl<;>exact⟨by decide,by decide⟩
theorem Yh(w:Nat)(t:Int):Cx w t=some (kindOf t).1 :=by unfold Cx;rw[yV];rfl
theorem PS:∀l:qr UInt8,rD (l.map aZ)=some (l.map λb=>(b.toNat:Int))
 |[]=>rfl
 |b::l=>by show ob (rD (l.map aZ)) _=_;rw[PS l];rfl
theorem rP{β:Type}(l:qr UInt8)(K:qr Int->Hx β):jY (ag l) K=K (l.map λb=>(b.toNat:Int)):=by rw[oy];show cond (Nat.ble l.length (l.map aZ).length) (ob (rD ((l.map aZ).take l.length)) K) none=_;rw[eQ (by simp),PS,cD,show Nat.ble l.length l.length=true by rw[iy];exact aM _];rfl
theorem ZQ(l:qr UInt8):Lib.bytesOf (l.map λb=>(b.toNat:Int))=l:=by
 unfold Lib.bytesOf;rw[List.map_map]
 conv=>rhs;rw[<-List.map_id l]
 apply List.map_congr_left;simp
theorem Ri(b:UInt8)(l:qr UInt8):Ap (b::l)=(((b==0)==l.isEmpty)&&Ap l):=by
 unfold Ap;rw[bW,uO,List.all_cons,List.all_map]
 grind
theorem SC:∀l:qr UInt8,l≠[]->((Lib.indexByte l 0=(l.length:Int) -1)↔Ap l=true)
 |[],h=>absurd rfl h
 |[b],_=>by
  rw[Ri];by_cases hb:b=0
  ·subst hb;decide
  ·simp[hb,Lib.indexByte]
 |b::c::l,_=>by
  rw[Ri];have ih:=SC (c::l) (by simp);unfold Lib.indexByte;by_cases hb:b=0
  ·subst hb;simp;omega
  ·have hb':(b==0)=false:=by simpa using hb
   simp only[hb',gY,List.isEmpty_cons,BEq.rfl,eV];rw[<-ih];by_cases h1:Lib.indexByte (c::l) 0=-1
   ·simp;omega
   ·have h1':(Lib.indexByte (c::l) 0==-1)=false:=by simpa using h1
    simp only[h1',gY];simp
theorem akJ(w:Nat){l:qr UInt8}(h:l≠[]):Cu w (ag l) 0=some (Lib.indexByte l 0):=by
 unfold Cu;rw[rP,ZQ];cases l with
 |nil=>grind
 |cons b l=>rfl
theorem yY(w:Nat)(ty az:Int)(l:qr UInt8)(hl:l.length<2^40):qC w ty az (ag l)=some (eH ty az l):=by
 unfold qC eH;rw[yV];have hk:=AK ty;simp;by_cases h1:(kindOf ty).1 =0
 ·simp[h1]
 by_cases h2:az<1
 ·rw[ay h2];have:¬(1<=az):=by omega
  simp[this]
 rw[aq h2];by_cases h3:65536<az
 ·rw[ay h3];have:¬(az<=65536):=by omega
  simp[this]
 rw[aq h3];have h5:az*(kindOf ty).1 <=65536*8:=Int.mul_le_mul (by omega) (by omega) (by omega) (by omega);have h6:0<=az*(kindOf ty).1 :=Int.mul_nonneg (by omega) (by omega);rw[aP (by omega) (by omega)];by_cases h4:(l.length:Int)=az*(kindOf ty).1
 ·have h1':(kindOf ty).1 ≠0:=h1;have h2':1<=az:=by omega
  have h3':az<=65536:=by omega
  have h0:l≠[]:=by
   rintro rfl
   have:1*1<=az*(kindOf ty).1 :=Int.mul_le_mul h2' (by omega) (by decide) (by omega);simp at h4;omega
  rw[akJ w h0];simp only[h4,h1',h2',h3',aY,bH,aD,aA,ne_eq,and_self,eV];rw[<-h4,aP (by omega) (by omega)];have:=SC l h0;by_cases h7:ty=2
  ·subst h7;simp_all
  ·simp[h7]
 ·simp[h4]
theorem Tb(t:Int)(h:(kindOf t).1 ≠0):(kindOf t).2.1 =1\/(kindOf t).2.1 =2\/(kindOf t).2.1 =4\/(kindOf t).2.1 =8:=by obtain⟨s,m,e1,e2,e3⟩:=K1 t h;omega
theorem Yj{w:Nat}(ty az:Int)(l:qr UInt8)(hl:l.length<2^29)(hw:l.length+10<=w)(o:Int)(ho:o=1\/o=2):
 Cz w ty az (ag l) o=some (match pI ty az l o with|some d=>(ty,az,ag d,true)|none=>(0,0,ae 0 [],false)):=by
 unfold Cz pI;rw[yV];have hk:=AK ty;simp only[aA,cj,aU,qM,cI,bU,oD];by_cases h1:(kindOf ty).1 =0
 ·simp[h1]
 rw[aq h1];by_cases h2:az<1
 ·rw[ay h2,aq (by omega)]
 rw[aq h2];by_cases h3:65536<az
 ·rw[ay h3,aq (by omega)]
 rw[aq h3];have h5:az*(kindOf ty).1 <=65536*8:=Int.mul_le_mul (by omega) (by omega) (by omega) (by omega);have h6:0<=az*(kindOf ty).1 :=Int.mul_nonneg (by omega) (by omega);rw[aP (by omega) (by omega)];by_cases h4:(l.length:Int)<az*(kindOf ty).1
 ·rw[ay h4,aq (by omega)]
 rw[aq h4];have h7:(az*(kindOf ty).1).toNat<=l.length:=by omega
 simp only[lU h6,gF,h7,ib,aY,aE];rw[lY l h7,ew,Nat.sub_zero];have hlen:(l.take (az*(kindOf ty).1).toNat).length=(az*(kindOf ty).1).toNat:=by rw[dE];omega
 rw[akZ _ (by omega) (by omega)];have hc:gw (kindOf ty).2.1 o=true\/((kindOf ty).2.1 =8/\gw 1 o=true):=by rcases(Tb ty h1) with h|h|h|h<;>rcases ho with rfl|rfl<;>rw[h]<;>simp[gw,CX]
 rw[ay hc];obtain⟨s,m,e1,e2,e3⟩:=K1 ty h1;have hd:(l.take (az*(kindOf ty).1).toNat).length/(kindOf ty).2.1.toNat*(kindOf ty).2.1.toNat=(l.take (az*(kindOf ty).1).toNat).length:=by rw[hlen,e1,nh];apply Nat.div_mul_cancel;rw[e2];refine⟨az.toNat*m,?_⟩;obtain⟨c,rfl⟩:=Int.eq_ofNat_of_zero_le (a:=az) (by omega);rw[<-Int.natCast_mul,nh,nh,<-Nat.mul_assoc,nq]
 rw[hd];have ht:(if o=1 then ag (iG (l.take (az*(kindOf ty).1).toNat) (kindOf ty).2.1.toNat (l.take (az*(kindOf ty).1).toNat).length) else ag (l.take (az*(kindOf ty).1).toNat))=ag (iY (l.take (az*(kindOf ty).1).toNat) (kindOf ty).2.1.toNat o):=by unfold iY;split<;>rfl
 rw[ht];simp;rw[yY _ _ _ _ (by rw[wO];omega)];cases hm:eH ty az (iY (l.take (az*(kindOf ty).1).toNat) (kindOf ty).2.1.toNat o) with
 |true=>rw[ay ⟨h1,by omega,by omega,by omega,rfl⟩];rfl
 |false=>rw[aq (by simp)];rfl
theorem Tt(ty az:Int):0<=jk ty az/\jk ty az<=65536*8:=by
 unfold jk;have hk:=AK ty;split
 ·simp
 ·exact⟨Int.mul_nonneg (by omega) (by omega),Int.mul_le_mul (by omega) (by omega) (by omega) (by simp)⟩
theorem Ym(w:Nat)(ty az:Int):CC w ty az=some (jk ty az):=by
 have hs:=Tt ty az;unfold CC;unfold jk at hs⊢;simp;by_cases h1:az<1
 ·rw[ay h1,ay (.inl h1)]
 rw[aq h1];by_cases h2:65536<az
 ·rw[ay h2,ay (.inr h2)]
 rw[aq h2,aq (by omega),Yh];simp;rw[aP (by omega) (by omega)]
theorem Yi(w:Nat)(ty az:Int):Cy w ty az=some (bQ ty az:Int):=by
 unfold Cy bQ;rw[Ym];simp
 grind
theorem ak0(w:Nat)(ty az:Int):Ib w ty az=some (decide (0<jk ty az/\jk ty az<=4)):=by
 unfold Ib;rw[Ym];simp;by_cases h:0<jk ty az
 ·rw[ay h];by_cases h2:4<jk ty az
  ·grind
  grind
 grind
def dD{α:Type}(p:α->Bool)(l:qr α):Int:=match l.findIdx? p with
 |some i=>(i:Int)
 |none=>-1
theorem xK{α:Type}(p:α->Bool)(l:qr α):dD p l<0↔l.all (λx=>!p x)=true:=by
 unfold dD;cases h:l.findIdx? p with
 |none=>grind
 |some i=>
  obtain⟨hi,h1,-⟩:=List.findIdx?_eq_some_iff_getElem.1 h
  grind
theorem mQ{α δ:Type}{z:δ}{F:δ->δ}{w:Nat}(l:qr α)(p:α->Bool)(ev:Nat->δ->Hx Int)(hs:∀i g (h:i<l.length),ev i (F g)=if p l[i]=true then some (i:Int) else ev (i+1) g)(he:∀g,ev l.length (F g)=some (-1))(hw:l.length<w):
 ev 0 (lp z F w)=some (dD p l):=by
 have key:∀(d i v:Nat),i+d=l.length->d<v->ev i (lp z F v)=some (match(l.drop i).findIdx? p with|some j=>((i+j:Nat):Int)|none=>-1):=by
  intro d;induction d with
  |zero=>
   intro i v hi hv;obtain rfl:i=l.length:=by omega
   rw[eB z F (by omega),he,rG];rfl
  |succ d ih=>
   intro i v hi hv;have hlt:i<l.length:=by omega
   rw[eB z F (by omega),hs i _ hlt,dk hlt,List.findIdx?_cons];by_cases hp:p l[i]=true
   ·rw[ay hp,ay hp];rfl
   ·grind
 have:=key l.length 0 w (by omega) hw;rw[this,ew];unfold dD;cases l.findIdx? p<;>simp
theorem ak2{w:Nat}(l:qr UInt8)(hl:l.length<2^40)(hw:l.length<w):Pf w (ag l)=some (dD (λb=>b !=0) l):=by
 refine mQ l (λb=>b !=0) (ev:=λi (g:H1->Int->Int->Hx Int)=>g (ag l) l.length i) ?_ ?_ hw
 ·intro i g h;have e1:((i:Int)<(l.length:Int)):=by omega
  simp only[aU,e1,aE,bP];rw[oG h];simp only[aX,qe];unfold Pc;simp only[cj,cc];rw[aP (by omega) (by omega)];have e2:(decide ((l[i].toNat:Int)=0))=!(l[i]!=0):=by rw[iH];simp[<-oe]
  rw[e2];cases l[i]!=0<;>simp
 ·intro g;simp
theorem ak1{w:Nat}(l:qr UInt8)(hl:l.length<2^40)(hw:l.length<w):Ic w (ag l)=some (!l.all (·==0)):=by
 unfold Ic;rw[ak2 l hl hw];simp;have:=xK (λb:UInt8=>b !=0) l
 grind
theorem MA(n:Int)(o:Int):pL n 4 o=if 0<=n/\n<4294967296 then some (bc n.toNat 4 o) else none:=rfl
def IG(ty az slot order:Int):Hx (qr UInt8×Bool):=
 if 0<=slot/\slot<4294967296/\0<jk ty az/\jk ty az<=4 then
  (pI ty az (bc slot.toNat 4 order) order).map λd=>(d,((bc slot.toNat 4 order).drop d.length).all (·==0))
 else none
theorem ade{ty az:Int}{b d:qr UInt8}{o:Int}(h:pI ty az b o=some d):d.length<=b.length:=by
 unfold pI at h;split at h
 ·cases h;rw[wO,dE];omega
 grind
theorem akU{w:Nat}(hw:100<=w)(tag ty az slot o:Int)(ho:o=1\/o=2):
 H6 w tag ty az slot o=some (match IG ty az slot o with|some (d,c)=>(ty,az,ag d,c,true)|none=>(0,0,ae 0 [],false,false)):=by
 unfold H6 IG;rw[sK (by omega),ay (by rcases ho with rfl|rfl<;>rfl),show(4:Int).toNat=4 from rfl,MA,ak0];by_cases h1:¬(0<=slot/\slot<4294967296)
 ·rw[aq h1,aq (by omega)];rfl
 replace h1:=qE.1 h1;rw[ay h1];by_cases h2:¬(0<jk ty az/\jk ty az<=4)
 ·rw[aq (by omega)];simp[h2]
 simp_all;have hl:(bc slot.toNat 4 o).length=4:=eI _ _ _;rw[Yj ty az _ (by omega) (by omega) o ho];cases hv:pI ty az (bc slot.toNat 4 o) o with
 |none=>rfl
 |some d=>simp[(ade hv)];rw[lY _ (aM _),eQ (by rw[er];omega),ak1 _ (by rw[er];omega) (by rw[er];omega)];simp
theorem Ia{w:Nat}(hw:5<=w)(l:qr UInt8)(hl:l.length<2^60)(s o p:Int)(ok:Bool)(hp:0<=p/\p<2^60)(hs:0<=s/\s<=8):
 wC w s (ag l) o p ok=some ((pB l p s o).getD 0,ag l,o,p+s,ok&&(pB l p s o).isSome):=by
 unfold wC Pe;rw[Cd hw l hl p s o (by omega)];simp;rw[aP (by omega) (by omega)]
 grind
theorem akR{w:Nat}(hw:5<=w)(l:qr UInt8)(hl:l.length<2^50)(p:Nat)(o:Int)(ho:o=1\/o=2):
 H4 w (ag l) p o=some (if p+12<=l.length then((ct l p 2 o:Int),(ct l (p+2) 2 o:Int),(ct l (p+4) 4 o:Int),(ct l (p+8) 4 o:Int),true) else(0,0,0,0,false)):=by
 unfold H4;rw[cI];by_cases hp:¬(p+12<=l.length)
 ·by_cases hb:(p:Int)<2^62
  ·rw[HY w ⟨by simp;omega,by simp only[oV];omega⟩ hb];have:¬(0<=(p:Int)/\(0:Int)<=12/\(p:Int)<=Int.ofNat l.length/\(12:Int)<=Int.ofNat l.length -p):=by
    simp;omega
   simp only[aA,this,bL,gj,aE];rw[aq hp]
  ·unfold wA;have e1:¬((p:Int)<0):=by omega
   have e2:Int.ofNat l.length<(p:Int):=by simp;omega
   simp only[aU,e1,e2,bL,aY,gj,bH,aE,aD,show decide ((12:Int)<0)=false from rfl,aA];rw[aq hp]
 replace hp:=qE.1 hp;rw[ay hp,HY w ⟨by simp;omega,by simp only[oV];omega⟩ (by omega)];have:(0<=(p:Int)/\(0:Int)<=12/\(p:Int)<=Int.ofNat l.length/\(12:Int)<=Int.ofNat l.length -p):=by simp;omega
 simp_all;have g:∀(k s:Nat),(s=2\/s=4)->k+s<=12->(pB l ((p:Int)+k) s o).isSome=true/\(pB l ((p:Int)+k) s o).getD 0=(ct l (p+k) s o:Int):=by intro k s hs hk;have:=xH (l:=l) (p:=p+k) (s:=s) (by omega) ho (by omega);rw[show((p+k:Nat):Int)=(p:Int)+k by omega] at this;unfold ct;rw[show((p+k:Nat):Int)=(p:Int)+k by omega,this];exact⟨rfl,by simp⟩
 rw[Ia hw l (by omega) 2 o p true (by omega) (by omega)];simp;rw[Ia hw l (by omega) 2 o _ _ (by omega) (by omega)];simp;rw[Ia hw l (by omega) 4 o _ _ (by omega) (by omega)];simp;rw[Ia hw l (by omega) 4 o _ _ (by omega) (by omega)];have g0:=g 0 2 (.inl rfl) (by decide);have g1:=g 2 2 (.inl rfl) (by decide);have g2:=g 4 4 (.inr rfl) (by decide);have g3:=g 8 4 (.inr rfl) (by decide);rw[show(p:Int)+((0:Nat):Int)=p by omega] at g0;rw[show(p:Int)+2+2=(p:Int)+4 by omega,show(p:Int)+4+4=(p:Int)+8 by omega];simp at g0 g1 g2 g3;rw[g0.1,g1.1,g2.1,g3.1,g0.2,g1.2,g2.2,g3.2];rfl
def cC(t:aL):qr H1:=[.int .i64 t.tag,.int .i64 t.ty,.int .i64 t.az,ag t.data]
theorem gW(t:aL):(cC t).length=4:=rfl
def ar(l:qr aL):H1:=aB cC l
def mh(x:iJ):qr H1:=[.int .i64 x.tag,.int .i64 x.shape]
theorem tN(x:iJ):(mh x).length=2:=rfl
def gN(l:qr iJ):H1:=aB mh l
def jF(s:bg):qr H1:=[gN s.bR,.int .i64 s.at_,.int .i64 s.cJ,.int .i64 s.next]
theorem zn(s:bg):(jF s).length=4:=rfl
def cu(l:qr bg):H1:=aB jF l
mutual
def dw:aV->qr H1
 | .mk tags subs blob=>[ar tags,ae (cm subs) (gR subs),ag blob]
def gR:cP->qr H1
 | .nil=>[]
 | .cons tag d r=>.int .i64 tag::(dw d++gR r)
end
theorem kW(d:aV):(dw d).length=3:=by cases d;rfl
theorem YN:∀s:cP,(gR s).length=cm s*4
 | .nil=>rfl
 | .cons tag d r=>by show(dw d++gR r).length+1=(cm r+1)*4;rw[aT,kW,YN r];omega
theorem Tu{δ:Type}{z:δ}{F:δ->δ}{w:Nat}(m:Nat)(ok:Nat->Bool)(ev:Nat->δ->Hx Bool)(hs:∀i g,i<m->ev i (F g)=if ok i=true then ev (i+1) g else some false)(he:∀g,ev m (F g)=some true)(hw:m<w):
 ev 0 (lp z F w)=some ((List.range m).all ok):=by
 have key:∀(d i v:Nat),i+d=m->d<v->ev i (lp z F v)=some ((List.range d).all λj=>ok (i+j)):=by
  intro d;induction d with
  |zero=>intro i v hi hv;rw[eB z F (by omega),show i=m by omega,he];rfl
  |succ d ih=>
   intro i v hi hv;rw[eB z F (by omega),hs i _ (by omega),uO];by_cases h:ok i=true
   ·rw[ih (i+1) (v -1) (by omega) (by omega)];simp[h]
    congr 2
    funext j
    congr 1;omega
   ·rw[aq h];simp[h]
 have:=key m 0 w (by omega) hw;simpa using this
theorem akE{w:Nat}(hw:8<=w)(n:Int):zd w n=some (nc n):=by unfold zd;rw[sK hw];have hm:gw 2 2=true:=rfl;rw[ay hm];unfold pL nc;by_cases h:0<=n/\n<65536<;>simp[h]
theorem Hh(w:Nat)(tags:qr aL)(subs:cP)(blob:qr UInt8)(h:tags.length+cm subs<2^60):kL w (ar tags) (ae (cm subs) (gR subs)) (ag blob)=some (bF (.mk tags subs blob):Int):=by
 unfold kL ar bF;simp only[cd,acC,cI,aU,qM,bU,cc];rw[aP (n:=(tags.length:Int)+(cm subs:Int)) (by omega) (by omega)];by_cases hb:blob.length=0
 ·rw[aq (by omega),ay hb];rfl
 ·rw[ay (by omega),aq hb,aP (by omega) (by omega)];rfl
theorem akB{w:Nat}(l:qr iJ)(n:Int)(hl:l.length<2^40)(hw:l.length<w):OP w (gN l) n=some (dD (λx=>x.tag==n) l):=by
 refine mQ l (λx=>x.tag==n) (ev:=λi (g:H1->qr H1->Int->Int->Hx Int)=>g (aB mh l) [.int .i64 n] l.length i) ?_ ?_ hw
 ·intro i g h;simp_all;rw[bn tN h];unfold mh Pd;simp only[ec,aX,bu,aA,cj,cc];rw[aP (by omega) (by omega)];by_cases e2:l[i].tag=n<;>grind
 ·intro g;simp
theorem akT{w:Nat}(l:qr iJ)(n:Int)(hl:l.length<2^40)(hw:l.length<w):Cw w (gN l) n=some (l.any λx=>x.tag==n):=by
 unfold Cw;rw[akB l n hl hw];simp;have:=xK (λx:iJ=>x.tag==n) l
 grind
def I4(S:bg):Prop:=0<=S.at_
theorem akY{w:Nat}(S:bg)(n:Int)(hs:I4 S)(hl:S.bR.length<2^40)(hw:S.bR.length<w):CA w (gN S.bR) S.at_ S.cJ S.next n=some (eU S n):=by
 have hs:0<=S.at_:=hs;unfold CA eU fK fG;rw[akT S.bR n hl hw];simp;by_cases h0:0<S.at_
 ·have h1:S.at_≠0:=by omega
  grind
 grind
theorem ah1(l:qr aL):fR l=(List.range l.length).all λi=>decide (i=0)||decide ((l[i -1]?.getD ⟨0,0,0,[]⟩).tag<(l[i]?.getD ⟨0,0,0,[]⟩).tag):=by
 induction l with
 |nil=>rfl
 |cons a l ih=>
  cases l with
  |nil=>rfl
  |cons b l=>
   show(decide (a.tag<b.tag)&&fR (b::l))=_;rw[ih,bW (a:=a),uO,bW,uO];simp
   congr 1
theorem alZ(S:bg)(l:qr aL):kx S l=(List.range l.length).all λi=>(decide (i=0)||decide ((l[i -1]?.getD ⟨0,0,0,[]⟩).tag<(l[i]?.getD ⟨0,0,0,[]⟩).tag))&&(nc (l[i]?.getD ⟨0,0,0,[]⟩).tag&&(!eU S (l[i]?.getD ⟨0,0,0,[]⟩).tag&&eH (l[i]?.getD ⟨0,0,0,[]⟩).ty (l[i]?.getD ⟨0,0,0,[]⟩).az (l[i]?.getD ⟨0,0,0,[]⟩).data)):=by
 unfold kx;rw[ah1,iH];simp;constructor
 ·grind
 ·intro h;refine⟨λi hi=>(h i hi).1,λx hx=>?_⟩;obtain⟨i,hi,rfl⟩:=List.getElem_of_mem hx
  grind
theorem akM{w:Nat}(S:bg)(l:qr aL)(X Y Z:H1)(hs:I4 S)(hS:S.bR.length<2^40)(hl:l.length<2^40)(hd:∀t∈l,t.data.length<2^40)(hw:S.bR.length+l.length+10<=w):
 HJ w X (ar l) Y Z (gN S.bR) S.at_ S.cJ S.next=some (kx S l):=by
 unfold HJ ar;rw[cd,alZ];refine Tu l.length _ (ev:=λi (g:H1->Int->Int->H1->H1->H1->H1->Int->Int->Int->Hx Bool)=>g (aB cC l) l.length i (aB cC l) Y Z (gN S.bR) S.at_ S.cJ S.next) ?_ ?_ (by omega)
 ·intro i g h;have e1:((i:Int)<(l.length:Int)):=by omega
  simp only[aU,e1,aY,aE,bP];rw[bn gW h,cG h];have hdi:=hd _ (cA h);have tg:∀(t:aL)(r:qr H1),cC t++r=.int .i64 t.tag::.int .i64 t.ty::.int .i64 t.az::ag t.data::r:=λ_ _=>rfl;simp only[tg,aX,bu,cc,ji,qI];rw[akE (by omega),aP (n:=(i:Int)+1) (by omega) (by omega)];simp only[aA];rw[akY S _ hs hS (by omega),yY w _ _ _ hdi];simp only[aA];have fin:∀a b:Bool,(cond a (some false) (cond (!b) (some false) (g (aB cC l) (l.length:Int) ((i:Int)+1) (aB cC l) Y Z (gN S.bR) S.at_ S.cJ S.next)))=if(!a&&b)=true then g (aB cC l) (l.length:Int) ((i+1:Nat):Int) (aB cC l) Y Z (gN S.bR) S.at_ S.cJ S.next else some false:=by intro a b;cases a<;>cases b<;>rfl
  rcases Bool.eq_false_or_eq_true (nc l[i].tag) with ht|ht
  ·simp only[ht,bH,aD,eV];by_cases h0:i=0
   ·have e2:¬((0:Int)<(i:Int)):=by omega
    have e3:decide (i=0)=true:=by simp[h0]
    simp only[e2,bL,aD,fin,e3,Bool.true_or,eV]
   ·have e2:((0:Int)<(i:Int)):=by omega
    rw[aP (n:=(i:Int) -1) (by omega) (by omega),lU (by omega),show((i:Int) -1).toNat=i -1 by omega];rw[bn gW (show i -1<l.length by omega)];simp_all;by_cases h3:l[i -1].tag<l[i].tag<;>grind
  ·simp_all
 ·intro g;have e1:¬((l.length:Int)<(l.length:Int)):=by omega
  simp
def aR:cP->qr (Int×aV)
 | .nil=>[]
 | .cons tag d r=>(tag,d)::aR r
def dT:aV->H1
 | .mk tags _ _=>ar tags
def dS:aV->H1
 | .mk _ subs _=>ae (cm subs) (gR subs)
def dB:aV->H1
 | .mk _ _ blob=>ag blob
theorem qk(d:aV):dw d=[dT d,dS d,dB d]:=by cases d;rfl
def gB(p:Int×aV):qr H1:=.int .i64 p.1 ::dw p.2
theorem uB(p:Int×aV):(gB p).length=4:=by unfold gB;rw[bW,kW]
theorem uD:∀s:cP,(aR s).length=cm s
 | .nil=>rfl
 | .cons _ _ r=>by show(aR r).length+1=cm r+1;rw[uD r]
theorem PG:∀s:cP,gR s=(aR s).flatMap gB
 | .nil=>rfl
 | .cons t d r=>by show Value.int .i64 t::(dw d++gR r)=(Value.int .i64 t::dw d)++(aR r).flatMap gB;rw[PG r];rfl
theorem CW(s:cP):ae (cm s) (gR s)=aB gB (aR s):=by unfold aB;rw[uD,PG]
mutual
def iK(m:Nat):aV->Prop
 | .mk tags subs blob=>tags.length<=m/\cm subs<=m/\blob.length<=m/\(∀t∈tags,t.data.length<=m)/\iL m subs
def iL(m:Nat):cP->Prop
 | .nil=>True
 | .cons _ d r=>iK m d/\iL m r
end
theorem xf{m:Nat}:∀{s:cP},iL m s->∀p∈aR s,iK m p.2
 | .nil,_,p,h=>by cases h
 | .cons t d r,h,p,hp=>by
  rcases cZ.1 hp with rfl|hp
  ·exact h.1
  ·exact xf h.2 p hp
theorem DR:∀{s:cP},∀p∈aR s,gq p.2 <=jZ s
 | .nil,p,h=>by cases h
 | .cons t d r,p,hp=>by
  rcases cZ.1 hp with rfl|hp
  ·exact Nat.le_max_left _ _
  ·exact fH (DR p hp) (Nat.le_max_right _ _)
theorem akx{w:Nat}(l:qr iJ)(n:Int)(a b c:H1)(hl:l.length<2^40)(hw:l.length<w):OQ w (gN l) n a b c=some (dD (λx=>x.tag==n) l):=by
 refine mQ l (λx=>x.tag==n) (ev:=λi (g:H1->qr H1->Int->Int->Hx Int)=>g (aB mh l) [.int .i64 n,a,b,c] l.length i) ?_ ?_ hw
 ·intro i g h;simp_all;rw[bn tN h];unfold mh O4;rw[aP (by omega) (by omega)];simp
 simp
theorem K5(S:bg)(n:Int):(dD (λx:iJ=>x.tag==n) S.bR<0/\fG S n=false)\/
 ∃k,∃h:k<S.bR.length,dD (λx:iJ=>x.tag==n) S.bR=(k:Int)/\fG S n=true/\(lN S n).getD 0=(S.bR[k]).shape.toNat:=by
 unfold fG lN dD;cases h:S.bR.findIdx? (λx=>x.tag==n) with
 |none=>left;refine⟨by decide,?_⟩;rw[List.findIdx?_eq_none_iff] at h;rw[Bool.eq_false_iff];intro q;obtain⟨x,hx,e⟩:=List.any_eq_true.1 q;rw[h x hx] at e;cases e
 |some k=>
  right;obtain⟨hk,h1,h2⟩:=List.findIdx?_eq_some_iff_getElem.1 h;refine⟨k,hk,rfl,List.any_eq_true.2 ⟨_,cA hk,h1⟩,?_⟩;have:S.bR.find? (λx=>x.tag==n)=some S.bR[k]:=by rw[List.find?_eq_some_iff_getElem];exact⟨h1,k,hk,rfl,λj hj=>by have:=h2 j hj;simpa using this⟩
  rw[this];rfl
theorem ah0(l:qr Int):nT l=(List.range l.length).all λi=>decide (i=0)||decide ((l[i -1]?.getD 0)<(l[i]?.getD 0)):=by
 induction l with
 |nil=>rfl
 |cons a l ih=>
  cases l with
  |nil=>rfl
  |cons b l=>
   show(decide (a<b)&&nT (b::l))=_;rw[ih,bW (a:=a),uO,bW,uO];simp
   congr 1
theorem YM:∀s:cP,lD s=(aR s).map Prod.fst
 | .nil=>rfl
 | .cons t d r=>by show t::lD r=t::(aR r).map Prod.fst;rw[YM r]
theorem Sg(sh:qr bg)(S:bg):∀s:cP,jh sh S s=(aR s).all λp=>fG S p.1 &&cR sh ((lN S p.1).getD 0) p.2
 | .nil=>by simp[jh,aR]
 | .cons t d r=>by simp only[jh,aR,List.all_cons];rw[Sg sh S r,Bool.and_assoc]
def xU:Int×aV:=(0,.mk [] .nil [])
theorem abo(sh:qr bg)(S:bg)(s:cP):(nT (lD s)&&jh sh S s)=(List.range (aR s).length).all λi=>
 (decide (i=0)||decide (((aR s)[i -1]?.getD xU).1 <((aR s)[i]?.getD xU).1))&&(fG S ((aR s)[i]?.getD xU).1 &&cR sh ((lN S ((aR s)[i]?.getD xU).1).getD 0) ((aR s)[i]?.getD xU).2):=by
 rw[ah0,Sg,YM,cD,iH];simp only[bB,iv,List.mem_range];have hf:∀i:Nat,((List.map Prod.fst (aR s))[i]?).getD 0=((aR s)[i]?.getD xU).1 :=by intro i;rw[List.getElem?_map];cases(aR s)[i]? <;>rfl
 simp only[hf];constructor
 ·grind
 ·intro h;refine⟨λi hi=>(h i hi).1,λx hx=>?_⟩;obtain⟨i,hi,rfl⟩:=List.getElem_of_mem hx
  grind
theorem alJ{w m:Nat}(hm:m<2^38)(hw:2*m+100<=w)(sh:qr bg)(hsh:jd sh)(hl:∀s,s<sh.length->(aQ sh s).bR.length<=m)(rec:H1->H1->H1->H1->Int->Hx Bool)
 (d:aV) (s:Nat) (hs:s<sh.length) (hd:iK m d) (hrec:∀p∈aR (match d with| .mk _ subs _=>subs),∀k:Nat,k<sh.length->rec (cu sh) (dT p.2) (dS p.2) (dB p.2) (k:Int)=some (cR sh k p.2)):
 Ix w rec (cu sh) (dT d) (dS d) (dB d) (s:Int)=some (cR sh s d):=by
 obtain⟨tags,subs,blob⟩:=d;have hd:tags.length<=m/\cm subs<=m/\blob.length<=m/\(∀t∈tags,t.data.length<=m)/\iL m subs:=hd;have hS:sh[s]=aQ sh s:=by unfold aQ;rw[cG hs];rfl
 have hp:I4 (aQ sh s):=by
  have:=(hsh.ok s).pair;show 0<=(aQ sh s).at_;by_cases q:(aQ sh s).at_=0
  ·omega
  ·have:=this q;omega
 have hln:=hl s hs;unfold Ix cu cR Nv;simp only[dT,dS,dB,bP];rw[bn zn hs,hS];have tg:∀(S:bg)(r:qr H1),jF S++r=gN S.bR::.int .i64 S.at_::.int .i64 S.cJ::.int .i64 S.next::r:=λ_ _=>rfl;simp only[tg,aX,bu];rw[Hh w tags subs blob (by omega),akM (aQ sh s) tags _ _ _ hp (by omega) (by omega) (λt ht=>by have:=hd.2.2.2.1 t ht;omega) (by omega)];simp only[aA,aU,qM,cj];generalize hE:bF (.mk tags subs blob)=E;by_cases h1:(E:Int)<1
 ·rw[ay h1];have:¬(1<=E/\E<=65535):=by omega
  simp[this]
 rw[aq h1];by_cases h2:65535<(E:Int)
 ·rw[ay h2];have:¬(1<=E/\E<=65535):=by omega
  simp[this]
 rw[aq h2];have h3:(1<=E/\E<=65535):=by omega
 simp only[h3,and_self,aY,eV];rcases Bool.eq_false_or_eq_true (kx (aQ sh s) tags) with ht|ht
 ·simp only[ht,bH,aD,eV];rw[cI];have sg:∀(p:Int×aV)(r:qr H1),gB p++r=.int .i64 p.1 ::dT p.2 ::dS p.2 ::dB p.2 ::r:=by
   intro p r;unfold gB;rw[qk];rfl
  have hsl:=uD subs;have fin:∀(b:Bool)(x y:Hx Bool),(cond (!b) x y)=if b=true then y else x:=by intro b x y;cases b<;>rfl
  by_cases hb:blob.length=0
  case' pos=>rw[aq (by simp only[oV];omega)];simp only[hb,aY,Bool.true_or,eV]
  case' neg=>
   rw[ay (by simp only[oV];omega)];by_cases ha:(aQ sh s).at_=0
   case pos=>rw[ay ha];simp[hb,ha]
   rw[aq ha];simp only[hb,ha,bL,ne_eq,not_false_eq_true,aY,Bool.or_true,eV]
  all_goals
   rw[CW,cd,abo];refine Tu (aR subs).length _ (ev:=λi (g:H1->Int->Int->H1->H1->H1->H1->H1->Int->Int->Int->Hx Bool)=>g (aB gB (aR subs)) (aR subs).length i (aB jF sh) (ar tags) (aB gB (aR subs)) (ag blob) (gN (aQ sh s).bR) (aQ sh s).at_ (aQ sh s).cJ (aQ sh s).next) ?_ ?_ (by omega)
   ·intro i g h;have e1:((i:Int)<((aR subs).length:Int)):=by omega
    simp only[e1,dW,bP];rw[bn uB h,cG h];simp only[sg,aX,bu,cc,ji,qI];rw[akx _ _ _ _ _ (by omega) (by omega)];simp only[aA];rcases K5 (aQ sh s) (aR subs)[i].1 with⟨hn,hb0⟩|⟨k,hk,e,hb1,e2⟩
    ·rw[ay hn];simp only[hb0,Bool.false_and,Bool.and_false,kO,gY]
    ·rw[e,aq (by omega)];have hmem:=cA (l:=(aQ sh s).bR) hk;have hlk:=hsh.bR s hs _ hmem;have hr:=hrec _ (cA h) ((aQ sh s).bR[k]).shape.toNat (by omega);rw[mD (by omega)] at hr;have lg:∀(x:iJ)(r:qr H1),(mh x++r).drop 1=.int .i64 x.shape::r:=λ_ _=>rfl;rw[aP (n:=(i:Int)+1) (by omega) (by omega)];unfold gN;simp only[bP];rw[bn tN hk];simp only[lg,aX,bu];unfold cu at hr;rw[hr];simp only[aA,fin,hb1,eV,e2];by_cases h0:i=0
     ·have e3:decide (i=0)=true:=by simp[h0]
      rw[aq (by omega)];simp only[e3,Bool.true_or,eV];rfl
     ·rw[ay (by omega),aP (n:=(i:Int) -1) (by omega) (by omega),lU (by omega),show((i:Int) -1).toNat=i -1 by omega];rw[bn uB (show i -1<(aR subs).length by omega),cG (show i -1<(aR subs).length by omega)];simp only[ew,sg,aX,bu,qI];by_cases h3:(aR subs)[i -1].1 <(aR subs)[i].1
      ·simp only[h3,aY,dW,Bool.or_true,eV];rfl
      ·simp only[h3,bL,h0,Bool.or_self,Bool.false_and,kO,gY]
   ·intro g;have e1:¬(((aR subs).length:Int)<((aR subs).length:Int)):=by omega
    simp only[e1,gY]
 ·simp only[ht,gj,aE,Bool.false_and]
theorem Si{w m:Nat}(hm:m<2^38)(hw:2*m+100<=w)(sh:qr bg)(hsh:jd sh)(hl:∀s,s<sh.length->(aQ sh s).bR.length<=m)(z:H1->H1->H1->H1->Int->Hx Bool):
 ∀(n:Nat)(d:aV)(s:Nat),gq d<=n->s<sh.length->iK m d->mc z (Ix w) n (cu sh) (dT d) (dS d) (dB d) (s:Int)=some (cR sh s d)
 |0,d,s,h,_,_=>by obtain⟨tags,subs,blob⟩:=d;unfold gq at h;omega
 |n+1,d,s,h,hs,hd=>by refine alJ hm hw sh hsh hl _ d s hs hd ?_;obtain⟨tags,subs,blob⟩:=d;intro p hp k hk;have hp:p∈aR subs:=hp;have:=DR p hp;unfold gq at h;exact Si hm hw sh hsh hl z n p.2 k (by omega) hk (xf hd.2.2.2.2 p hp)
theorem aks{w m:Nat}(hm:m<2^38)(hw:2*m+100<=w)(sh:qr bg)(hsh:jd sh)(hl:∀s,s<sh.length->(aQ sh s).bR.length<=m)(d:aV)(s:Nat)(hs:s<sh.length)(hd:iK m d)(kg:gq d<=w):
 ON w (cu sh) (dT d) (dS d) (dB d) (s:Int)=some (cR sh s d):=Si hm hw sh hsh hl _ w d s kg hs hd
def bV(x:bq):qr H1:=[.int .i64 x.nX,.int .i64 x.dir,.int .i64 x.tag,.int .i64 x.at_,.int .i64 x.cJ]
theorem uA(x:bq):(bV x).length=5:=rfl
theorem vl(n:Nat):aI n<=n+1:=by unfold aI;omega
theorem Vo(ty az:Int):bQ ty az<=524288:=by
 have:=Tt ty az;unfold bQ
 grind
theorem OL(w:Nat)(nX dir tag no:Int){n e:Nat}(hn:n<2^50)(he:e<2^50)(c:qr H1)(hc:c.length<=1000000000):
 wx w nX dir tag n e no c=some (((aI e+n:Nat):Int),no,c++bV ⟨nX,dir,tag,aI e,n⟩):=by
 have hv:=vl e;unfold wx O3;rw[akX w (by omega)];simp;rw[aP (by omega) (by omega)];simp_all;rfl
theorem JV(t:aL):∀(l:qr aL)(e:Nat),cq e (l++[t])=if bQ t.ty t.az=0 then cq e l else aI (cq e l)+bQ t.ty t.az
 |[],e=>rfl
 |a::l,e=>by show(if bQ a.ty a.az=0 then cq e (l++[t]) else cq (aI e+bQ a.ty a.az) (l++[t]))=_;rw[JV t l e,JV t l (aI e+bQ a.ty a.az)];by_cases h:bQ a.ty a.az=0<;>simp[cq,h]
theorem YD(no:Nat)(t:aL):∀(l:qr aL)(e:Nat),dr no e (l++[t])=dr no e l++(if bQ t.ty t.az=0 then[] else[⟨3,no,t.tag,aI (cq e l),bQ t.ty t.az⟩])
 |[],e=>by simp[dr,cq]
 |a::l,e=>by by_cases h:bQ a.ty a.az=0<;>simp[dr,cq,h,YD no t l]
theorem JU{K:Nat}(hK:524289<=K):∀(l:qr aL)(e:Nat),cq e l<=e+l.length*K
 |[],e=>Nat.le_add_right _ _
 |a::l,e=>by
  have h1:=JU hK l e;have h2:=JU hK l (aI e+bQ a.ty a.az);have h3:=vl e;have h4:=Vo a.ty a.az;have h5:(a::l).length*K=l.length*K+K:=by rw[bW,Nat.succ_mul]
  unfold cq
  grind
theorem aaH(l:qr aL)(e:Nat):cq e l<=e+l.length*600000:=JU (by simp) l e
theorem PB(no:Nat):∀(l:qr aL)(e:Nat),(dr no e l).length<=l.length
 |[],e=>by simp[dr]
 |a::l,e=>by
  have h1:=PB no l e;have h2:=PB no l (aI e+bQ a.ty a.az);unfold dr
  grind
theorem alz(no:Nat)(l:qr aL)(e i:Nat):(dr no e (l.take i)).length<=(dr no e l).length:=by
 have:∀(a b:qr aL)(e:Nat),dr no e (a++b)=dr no e a++dr no (cq e a) b:=by
  intro a;induction a with
  |nil=>intro b e;rfl
  |cons p a ih=>intro b e;by_cases h:bQ p.ty p.az=0<;>simp[dr,cq,h,ih]
 rw[<-lI i l,this];simp
theorem wG(l:qr bq):(l.flatMap bV).length=l.length*5:=da uA l
theorem akL{w:Nat}(l:qr aL)(X Y:H1)(no:Nat)(k:Int){e:Nat}(c:qr H1)(he:e+l.length*600000<2^50)(hc:c.length+(dr no e l).length*5<=1000000000)(hw:l.length<w):
 HH w (ar l) X Y no e k c=some ((cq e l:Int),k,c++(dr no e l).flatMap bV):=by
 unfold HH ar;rw[cd];have s0:c=c++(dr no e (l.take 0)).flatMap bV:=by simp[dr]
 conv=>lhs;rw[s0]
 refine gO (ev:=λi (g:Int->H1->Int->Int->Int->Int->qr H1->Hx (Int×Int×qr H1))=>g no (aB cC l) l.length i (cq e (l.take i):Nat) k (c++(dr no e (l.take i)).flatMap bV)) l.length ?_ ?_ hw
 ·intro i g h;have e1:((i:Int)<(l.length:Int)):=by omega
  simp[e1];rw[bn gW h];have tg:∀(t:aL)(r:qr H1),cC t++r=.int .i64 t.tag::.int .i64 t.ty::.int .i64 t.az::ag t.data::r:=λ_ _=>rfl;simp[tg];rw[Yi,aP (n:=(i:Int)+1) (by omega) (by omega)];simp only[aA];rw[iI h,JV,YD];have hlt:(l.take i).length<=l.length:=by rw[dE];omega
  have b1:=aaH (l.take i) e;have b2:=alz no l e i;have b3:=Vo l[i].ty l[i].az;by_cases h0:bQ l[i].ty l[i].az=0
  ·simp only[h0,aD,dW,ea];rfl
  ·have e2:((0:Int)<((bQ l[i].ty l[i].az:Nat):Int)):=by omega
   simp only[e2,aY,aE,h0,gY];rw[OL w 3 no l[i].tag k (by omega) (by omega) _ (by rw[aT,wG];omega)];simp only[aA,fD,dN,lH,ea,dM];rfl
 ·intro g;simp
def ij(e:Nat):qr (Int×aV)->Nat
 |[]=>e
 |p::l=>ij (bE e p.2) l
def gm:qr (Int×aV)->Nat
 |[]=>0
 |p::l=>dI p.2 +gm l
def gz(no e:Nat):qr (Int×aV)->qr bq
 |[]=>[]
 |p::l=>ga no e p.2 ++gz (no+dI p.2) (bE e p.2) l
theorem JT:∀(s:cP)(e:Nat),eA e s=ij e (aR s)
 | .nil,e=>by simp[eA,aR,ij]
 | .cons t d r,e=>by simp[eA,aR,ij,JT r]
theorem JH:∀(s:cP),iA s=gm (aR s)
 | .nil=>by simp[iA,aR,gm]
 | .cons t d r=>by simp[iA,aR,gm,JH r]
theorem Is:∀(s:cP)(no e:Nat),kM no e s=gz no e (aR s)
 | .nil,no,e=>by simp[kM,aR,gz]
 | .cons t d r,no,e=>by simp[kM,aR,gz,Is r]
theorem Rf(p:Int×aV):∀(l:qr (Int×aV))(e:Nat),ij e (l++[p])=bE (ij e l) p.2
 |[],e=>rfl
 |a::l,e=>Rf p l (bE e a.2)
theorem QR(p:Int×aV):∀(l:qr (Int×aV)),gm (l++[p])=gm l+dI p.2
 |[]=>by simp[gm]
 |a::l=>by simp[gm,QR p l,o5]
theorem YB(p:Int×aV):∀(l:qr (Int×aV))(no e:Nat),gz no e (l++[p])=gz no e l++ga (no+gm l) (ij e l) p.2
 |[],no,e=>by simp[gz,gm,ij]
 |a::l,no,e=>by simp[gz,gm,ij,YB p l,o5]
theorem DX:∀(l:qr (Int×aV))(e:Nat),e<=ij e l
 |[],_=>aM _
 |p::l,e=>fH (An p.2 e) (DX l (bE e p.2))
theorem aaG(l:qr (Int×aV))(e i:Nat):ij e (l.take i)<=ij e l:=by
 have:∀(a b:qr (Int×aV))(e:Nat),ij e (a++b)=ij (ij e a) b:=by
  intro a;induction a with
  |nil=>intro b e;rfl
  |cons p a ih=>intro b e;exact ih b (bE e p.2)
 conv=>rhs;rw[<-lI i l,this]
 exact DX _ _
theorem aac(l:qr (Int×aV))(i:Nat):gm (l.take i)<=gm l:=by
 have:∀(a b:qr (Int×aV)),gm (a++b)=gm a+gm b:=by
  intro a;induction a with
  |nil=>simp[gm]
  |cons p a ih=>intro b;simp[gm,ih b,o5]
 rw[<-lI i l,this];simp
theorem alw(l:qr (Int×aV))(no e i:Nat):(gz no e (l.take i)).length<=(gz no e l).length:=by
 have:∀(a b:qr (Int×aV))(no e:Nat),gz no e (a++b)=gz no e a++gz (no+gm a) (ij e a) b:=by
  intro a;induction a with
  |nil=>simp[gz,gm,ij]
  |cons p a ih=>intro b no e;simp[gz,gm,ij,ih b,o5]
 rw[<-lI i l,this];simp
theorem alI{w m:Nat}(hm:m<2^28)(hw:2*m+100<=w)(rec:H1->H1->H1->Int->Int->qr H1->Hx (Int×Int×qr H1))(d:aV)(no e:Nat)(c:qr H1)(he:bE e d<2^49)(hno:no+dI d<2^50)
 (hc:c.length+(ga no e d).length*5<=1000000000) (hd:iK m d)
 (hrec:∀p∈aR (match d with| .mk _ subs _=>subs),∀(no' e':Nat)(c':qr H1),bE e' p.2 <2^49->no'+dI p.2 <2^50->c'.length+(ga no' e' p.2).length*5<=1000000000->rec (dT p.2) (dS p.2) (dB p.2) e' no' c'=some ((bE e' p.2 :Int),((no'+dI p.2 :Nat):Int),c'++(ga no' e' p.2).flatMap bV)):
 Iw w rec (dT d) (dS d) (dB d) e no c=some ((bE e d:Int),((no+dI d:Nat):Int),c++(ga no e d).flatMap bV):=by
 obtain⟨tags,subs,blob⟩:=d;have hd:tags.length<=m/\cm subs<=m/\blob.length<=m/\(∀t∈tags,t.data.length<=m)/\iL m subs:=hd;have hE:bF (.mk tags subs blob)<=2*m+2:=by show tags.length+cm subs+(if blob.length=0 then 0 else 2)<=2*m+2;split<;>omega
 unfold dI at hno⊢;rw[JH] at hno⊢;unfold bE at he⊢;unfold ga at hc⊢;simp only[Is] at hc⊢;simp only[JT] at he hc⊢;unfold Iw;simp only[dT,dS,dB];rw[Hh w tags subs blob (by omega)];simp only[aA,oD,cc];generalize bF (.mk tags subs blob)=E at he hc hE⊢;rw[aP (n:=12*(E:Int)) (by omega) (by omega),aP (n:=2+12*(E:Int)) (by omega) (by omega),aP (n:=2+12*(E:Int)+4) (by omega) (by omega),aP (n:=(no:Int)+1) (by omega) (by omega)];rw[show(2:Int)+12*(E:Int)+4=((6+12*E:Nat):Int) by omega,show(no:Int)+1=((no+1:Nat):Int) by omega];have v1:=vl e;have v0:e<=aI e:=by unfold aI;omega
 have g1:=qN tags (aI e+(6+12*E));have g2:=DX (aR subs) (cq (aI e+(6+12*E)) tags);have g3:ij (cq (aI e+(6+12*E)) tags) (aR subs)<2^49:=by
  by_cases q:blob.length=0
  ·rw[ay q] at he;exact he
  ·rw[aq q] at he;have:∀n:Nat,n<=aI n:=λn=>by unfold aI;omega
   have:=this (ij (cq (aI e+(6+12*E)) tags) (aR subs));omega
 rw[OL w 2 no 0 _ (by omega) (by omega) c (by omega)];simp only[aA];simp only[bW,aT] at hc;rw[akL tags _ _ no _ _ (by omega) (by rw[aT,uA];omega) (by omega)];simp only[aA];rw[CW,cd];have sg:∀(p:Int×aV)(r:qr H1),gB p++r=.int .i64 p.1 ::dT p.2 ::dS p.2 ::dB p.2 ::r:=by intro p r;unfold gB;rw[qk];rfl
 have hsl:=uD subs;generalize hE2:cq (aI e+(6+12*E)) tags=E2 at*;generalize hC:c++bV ⟨2,no,0,aI e,6+12*E⟩++(dr no (aI e+(6+12*E)) tags).flatMap bV=C;have hCl:C.length=c.length+5+(dr no (aI e+(6+12*E)) tags).length*5:=by rw[<-hC,aT,aT,wG];rfl
 have s0:C=C++(gz (no+1) E2 ((aR subs).take 0)).flatMap bV:=by simp[gz]
 conv=>lhs;rw[s0]
 refine gO (ev:=λi (g:Int->H1->Int->Int->Int->Int->H1->H1->H1->qr H1->Hx (Int×Int×qr H1))=>g no (aB gB (aR subs)) (aR subs).length i (ij E2 ((aR subs).take i):Nat) ((no+1+gm ((aR subs).take i):Nat):Int) (ar tags) (aB gB (aR subs)) (ag blob) (C++(gz (no+1) E2 ((aR subs).take i)).flatMap bV)) (aR subs).length ?_ ?_ (by omega)
 ·intro i g h;have e1:((i:Int)<((aR subs).length:Int)):=by omega
  simp only[aU,e1,aY,aE,bP];rw[bn uB h];simp only[sg,aX,bu];have k1:=aaG (aR subs) E2 (i+1);have k2:=aac (aR subs) (i+1);have k3:=alw (aR subs) (no+1) E2 (i+1);rw[iI h] at k1 k2 k3⊢;rw[Rf] at k1⊢;rw[QR] at k2⊢;rw[YB] at k3⊢;rw[aT] at k3;rw[hrec _ (cA h) (no+1+gm ((aR subs).take i)) (ij E2 ((aR subs).take i)) _ (by omega) (by omega) (by rw[aT,wG];omega)];simp only[aA];rw[aP (n:=(i:Int)+1) (by omega) (by omega),fD,<-dM,o5 (no+1)];rfl
 ·intro g;have e1:¬(((aR subs).length:Int)<((aR subs).length:Int)):=by omega
  simp only[aU,e1,bL,aD,oY,cI,bU];have hcs:c++(⟨2,no,0,aI e,6+12*E⟩::(dr no (aI e+(6+12*E)) tags++(gz (no+1) E2 (aR subs)++(if blob.length=0 then[] else[⟨4,no,0,aI (ij E2 (aR subs)),blob.length⟩]:qr bq)))).flatMap bV=C++(gz (no+1) E2 (aR subs)).flatMap bV++(if blob.length=0 then[] else[⟨4,no,0,aI (ij E2 (aR subs)),blob.length⟩]:qr bq).flatMap bV:=by rw[<-hC];simp[dN,fD,dM]
  rw[hcs];by_cases hb:blob.length=0
  ·simp only[hb,show decide ((0:Int)<((0:Nat):Int))=false from rfl,aD,dW,lH,ea,o5];rw[Nat.add_comm 1]
  ·have e2:((0:Int)<(blob.length:Int)):=by omega
   simp only[e2,aY,aE,hb,gY];simp only[hb,gY,bW,List.length_nil] at hc;rw[OL w 4 no 0 _ (by omega) (by omega) _ (by rw[aT,wG];omega)];simp only[aA,dN,lH,ea,o5];rw[Nat.add_comm 1]
theorem Q4{w m:Nat}(hm:m<2^28)(hw:2*m+100<=w)(z:H1->H1->H1->Int->Int->qr H1->Hx (Int×Int×qr H1)):
 ∀(n:Nat)(d:aV)(no e:Nat)(c:qr H1),gq d<=n->bE e d<2^49->no+dI d<2^50->c.length+(ga no e d).length*5<=1000000000->iK m d->
  mc z (Iw w) n (dT d) (dS d) (dB d) e no c=some ((bE e d:Int),((no+dI d:Nat):Int),c++(ga no e d).flatMap bV)
 |0,d,no,e,c,h,_,_,_,_=>by obtain⟨tags,subs,blob⟩:=d;unfold gq at h;omega
 |n+1,d,no,e,c,h,he,hno,hc,hd=>by refine alI hm hw _ d no e c he hno hc hd ?_;obtain⟨tags,subs,blob⟩:=d;intro p hp no' e' c' h1 h2 h3;have hp:p∈aR subs:=hp;have:=DR p hp;unfold gq at h;exact Q4 hm hw z n p.2 no' e' c' (by omega) h1 h2 h3 (xf hd.2.2.2.2 p hp)
theorem akr{w m:Nat}(hm:m<2^28)(hw:2*m+100<=w)(d:aV)(no e:Nat)(c:qr H1)(kg:gq d<=w)(he:bE e d<2^49)(hno:no+dI d<2^50)(hc:c.length+(ga no e d).length*5<=1000000000)(hd:iK m d):
 OM w (dT d) (dS d) (dB d) e no c=some ((bE e d:Int),((no+dI d:Nat):Int),c++(ga no e d).flatMap bV):=Q4 hm hw _ w d no e c kg he hno hc hd
theorem aha(n:Int)(o:Int):pL n 2 o=if 0<=n/\n<65536 then some (bc n.toNat 2 o) else none:=rfl
theorem akD{w:Nat}(hw:8<=w)(a b c d o:Int)(ho:o=1\/o=2):Hu w a b c d o=some (if(0<=a/\a<65536)/\(0<=b/\b<65536)/\(0<=c/\c<4294967296)/\(0<=d/\d<4294967296) then(ag (bc a.toNat 2 o++(bc b.toNat 2 o++(bc c.toNat 4 o++bc d.toNat 4 o))),true) else(ae 0 [],false)):=by
 have m4:gw 4 o=true:=by rcases ho with rfl|rfl<;>rfl
 have p2:∀n:Int,iF w n 2 o=some (if 0<=n/\n<65536 then(ag (bc n.toNat 2 o),true) else(ae 0 [],false)):=by intro n;rw[sK hw,ay (by rcases ho with rfl|rfl<;>rfl),show(2:Int).toNat=2 from rfl,aha];by_cases h:0<=n/\n<65536<;>grind
 have p4:∀n:Int,iF w n 4 o=some (if 0<=n/\n<4294967296 then(ag (bc n.toNat 4 o),true) else(ae 0 [],false)):=by intro n;rw[sK hw,ay m4,show(4:Int).toNat=4 from rfl,MA];by_cases h:0<=n/\n<4294967296<;>grind
 have fl:∀(l:qr UInt8),(l.flatMap mM).length=l.length:=λl=>by rw[gZ,cD]
 have l2:∀n:Int,(bc n.toNat 2 o).length=2:=λn=>eI _ _ _;have l4:∀n:Int,(bc n.toNat 4 o).length=4:=λn=>eI _ _ _;unfold Hu;rw[p2 a];by_cases ha:0<=a/\a<65536
 case neg=>rw[aq ha,aq (λq=>ha q.1)];rfl
 rw[ay ha];simp only[aA,bH,aD,im,fl,l2,l4,show aH 2=true from rfl,show aH 4=true from rfl,ky,aE];rw[p2 b];by_cases hb:0<=b/\b<65536
 case neg=>rw[aq hb,aq (λq=>hb q.2.1)];rfl
 rw[ay hb];simp only[aA,bH,aD,im,fl,l2,l4,show aH 2=true from rfl,show aH 4=true from rfl,ky,aE];rw[p4 c];by_cases hc:0<=c/\c<4294967296
 case neg=>rw[aq hc,aq (λq=>hc q.2.2.1)];rfl
 rw[ay hc];simp only[aA,bH,aD,im,fl,l2,l4,aT,show aH 2=true from rfl,show aH (2+2)=true from rfl,show aH 4=true from rfl,ky,aE];rw[p4 d];by_cases hd:0<=d/\d<4294967296
 case neg=>rw[aq hd,aq (λq=>hd q.2.2.2)];rfl
 rw[ay hd];simp only[aA,bH,aD,im,fl,l2,l4,aT,show aH (2+2)=true from rfl,show aH (2+2+4)=true from rfl,show aH 4=true from rfl,ky,aE];unfold ag aB;simp_all
theorem Y1{w:Nat}(l:qr UInt8)(hl:l.length<2^29)(hw:l.length+10<=w)(s:Nat)(o:Int)(hs:(s:Int)=1\/(s:Int)=2\/(s:Int)=4\/(s:Int)=8)(ho:o=1\/o=2):
 lp (λ(x8 x9:Int)(x10 x11:Nat)(x12:Int)(x13:qr H1)=>(none:Hx (Nat×Nat×qr H1)))
     (λx14 (x15 x16:Int) (x17 x18:Nat) (x19:Int) (x20:qr H1)=>
      bif aj x16 1 then
       bif !ak (Int.ofNat x17) (ah IntKind.i64 (x19.add x15)) then
        aF (ah IntKind.i64 (x19.add x15)) λx21=>
         aF x19 λx22=>
          bif x21.ble x18&&x22.ble x21 then
           ob (uj w (bif x18.beq x22 then 0 else 0+x22*1) (x21 -x22) (x18 -x22) x20) λx23=>
            x14 x15 x16 x17 x18 (ah IntKind.i64 (x19.add x15)) x23
          else none
       else some (x17,x18,x20)
      else some (x17,x18,x20))
     w (s:Int) o l.length l.length 0 (l.map aZ)=some (l.length,l.length,(if o=1 then iG l s (l.length/s*s) else l).map aZ):=by
 have hs0:0<s:=by omega
 have hs8:s<=8:=by omega
 have hd2:l.length/s<=l.length:=Nat.div_le_self _ _;by_cases h1:o=1
 ·subst h1;have hd:s*(l.length/s)<=l.length:=Nat.mul_div_le _ _;have hd3:l.length<s*(l.length/s)+s:=Nat.lt_mul_div_succ _ hs0;rw[show l.map aZ=(iG l s (s*0)).map aZ by rw[Nat.mul_zero,Y2],ay rfl];refine gO (ev:=λi (g:Int->Int->Nat->Nat->Int->qr H1->Hx (Nat×Nat×qr H1))=>g (s:Int) 1 l.length l.length ((s*i:Nat):Int) ((iG l s (s*i)).map aZ)) (l.length/s) ?_ ?_ (by omega)
  ·intro i g hi;have hle:s*(i+1)<=s*(l.length/s):=Nat.mul_le_mul_left _ hi;have e1:s*(i+1)=s*i+s:=by rw[Nat.mul_add,gk]
   have e2:(((s*i:Nat):Int).add (s:Int))=((s*(i+1):Nat):Int):=by rw[cc,e1];omega
   simp only[e2,show aj 1 1=true from rfl,aE,aU,bU];rw[aP (by omega) (by omega)];have e3:¬((l.length:Int)<((s*(i+1):Nat):Int)):=by omega
   simp only[e3,bL,gj,aE,bP,gF,Ae];have e4:s*(i+1)<=l.length:=by omega
   have e5:s*i<=s*(i+1):=by omega
   have e6:¬(l.length=s*i):=by omega
   simp only[e4,e5,e6,aY,bL,ky,aE,aD];have hlen:=pR l s (s*i);have:=Oq (w:=w) ((iG l s (s*i)).take (s*i)) (((iG l s (s*i)).drop (s*i)).take s) ((iG l s (s*i)).drop (s*i+s)) (by simp;omega) (by simp;omega) (l.length -s*i);rw[<-nq i s,<-Y3 l hs0 (by rw[nq];omega),nq i s,nq (i+1) s,<-List.drop_drop,lI,lI,dE,dE,er,hlen,kC (by omega),kC (by omega)] at this;rw[show 0+s*i*1=s*i by omega,show s*(i+1) -s*i=s by omega,this];rfl
  ·intro g;simp only[show aj 1 1=true from rfl,aE,aU,bU,cc];rw[aP (by omega) (by omega)];have e3:((l.length:Int)<((s*(l.length/s):Nat):Int)+(s:Int)):=by omega
   simp only[e3,aY,bH,aD];rw[nq]
 ·rw[aq h1,eB _ _ (by omega)];simp only[cj,h1,bL,aD,gY]
theorem Yl{w:Nat}(l:qr UInt8)(hl:l.length<2^29)(hw:l.length+10<=w)(s o:Int)(hc:gw s o=true\/(s=8/\gw 1 o=true)):
 CB w (ag l) s o=some (l.length,l.length,(if o=1 then iG l s.toNat (l.length/s.toNat*s.toNat) else l).map aZ):=by
 unfold CB Ny;rw[wk (by omega)];have hr:Nat.ble l.length 1000000000=true:=by rw[iy];omega
 have hr2:Nat.ble l.length l.length=true:=by rw[iy];omega
 have hi:aW 0 (List.take (l.length*1) (l.map aZ)) (List.map aZ (List.replicate l.length 0))=l.map aZ:=by have:=Bt (l.map aZ) (List.map aZ (List.replicate l.length 0)) [] [] (by simp);simp only[List.length_nil,eK,ea] at this;rw[eQ (by simp),this]
 have hq:((l.map aZ).length.beq (l.length*1)&&(0+l.length*1).ble (List.map aZ (List.replicate l.length 0)).length)=true:=by simp
 have hs:s=1\/s=2\/s=4\/s=8:=by
  rcases hc with h|h
  ·have:=(tR h).1;omega
  ·omega
 have ho:o=1\/o=2:=by
  rcases hc with h|h
  ·exact(tR h).2
  ·exact(tR h.2).2
 obtain⟨s,rfl⟩:=Int.eq_ofNat_of_zero_le (a:=s) (by omega);cases hm:gw s o;all_goals simp only[aA,bH,aE,aD]
 ·have h8:(s:Int)=8:=by rcases hc with h|h;(rw[hm] at h;cases h);exact h.1
  rw[wk (by omega),(show gw 1 o=true from by rcases hc with h|h;(rw[hm] at h;cases h);exact h.2),show aj (s:Int) 8=true by rw[h8];rfl];simp only[bH,aD,aA,cI,im,hr,hr2,ky,aE,sB,gZ,Nat.min_self];rw[hq,hi];exact Y1 l hl hw s o hs ho
 ·simp only[cI,im,hr,hr2,ky,aE,sB,gZ,Nat.min_self];rw[hq,hi];exact Y1 l hl hw s o hs ho
def mq(n:Int):Bool:=decide (0<=n/\n<=4294967295)
theorem OJ(w:Nat)(n:Int):za w n=some (mq n):=by
 unfold za mq;by_cases h1:n<0
 ·have:¬(0<=n/\n<=4294967295):=by omega
  simp_all
 ·by_cases h2:4294967295<n
  ·simp_all
  ·have:(0<=n/\n<=4294967295):=by omega
   simp[h2,this]
theorem XY(w:Nat)(a b:Int):He w a b=some (if mq a=true/\mq b=true/\mq (a+b)=true then(a+b,true) else(0,false)):=by
 unfold He;rw[OJ,OJ];by_cases ha:mq a=true
 case neg=>simp[ha]
 by_cases hb:mq b=true
 case neg=>simp_all
 have a1:0<=a/\a<=4294967295:=by simpa[mq] using ha
 have b1:0<=b/\b<=4294967295:=by simpa[mq] using hb
 simp_all;rw[aP (by omega) (by omega),OJ];cases hc:mq (a+b)<;>simp
theorem GP(w:Nat)(b:Bool):sM w b=some (if b=true then 0 else-1):=by cases b<;>rfl
def xv(n:Nat):Nat:=(n+65518)/65519
theorem Yt(w n:Nat)(h:n<2^60):CM w (n:Int)=some (xv n:Int):=by
 unfold CM xv;simp only[aU,qM,ji,cc];by_cases h1:(n:Int)<1
 ·rw[show n=0 by omega];rfl
 rw[aq h1,aP (n:=(n:Int) -1) (by omega) (by omega),show(n:Int) -1=((n -1:Nat):Int) by omega];have e:(((n -1:Nat):Int)).tdiv 65519=(((n -1)/65519:Nat):Int):=rfl;rw[e];have:(n+65518)/65519=(n -1)/65519+1:=by omega
 rw[this,aP (n:=(((n -1)/65519:Nat):Int)) (by omega) (by omega),aP (by omega) (by omega)];rfl
theorem Vs{ty az:Int}{l:qr UInt8}{o:Int}(h:eH ty az l=true)(ho:o=1\/o=2):
 (gw (kindOf ty).2.1 o=true\/((kindOf ty).2.1 =8/\gw 1 o=true))/\l.length/(kindOf ty).2.1.toNat*(kindOf ty).2.1.toNat=l.length:=by
 refine⟨?_,?_⟩
 ·rcases(Tb ty ((vK h).1)) with h|h|h|h<;>rcases ho with rfl|rfl<;>rw[h]<;>simp[gw,CX]
 ·obtain⟨s,q,e1,e2,e3⟩:=TI h
  grind
theorem akO{w:Nat}{ty az:Int}{l:qr UInt8}(hm:eH ty az l=true)(hl:l.length<2^29)(hw:l.length+10<=w){o:Int}(ho:o=1\/o=2):
 HM w ty az (ag l) o=some (l.length,l.length,(iY l (kindOf ty).2.1.toNat o).map aZ):=by
 obtain⟨h1,h2⟩:=Vs hm ho;unfold HM;rw[yY w ty az l (by omega),hm,yV];simp;rw[Yl l hl hw _ _ h1,h2];rfl
theorem akN{w:Nat}{ty az:Int}{l:qr UInt8}(hm:eH ty az l=true)(hl:l.length<2^29)(hw:l.length+10<=w){o:Int}(ho:o=1\/o=2):
 HU w ty az (ag l) o=some (ag (iY l (kindOf ty).2.1.toNat o)):=by
 obtain⟨h1,h2⟩:=Vs hm ho;unfold HU;rw[yY w ty az l (by omega),hm,yV];simp;rw[Yl l hl hw _ _ h1,h2,oy,wO];rfl
theorem ve(l:qr UInt8)(n:Nat)(h:n=l.length):ae n (l.map aZ)=ag l:=by rw[oy,h]
theorem Yg{w:Nat}(hw:100<=w)(t:aL)(hm:eH t.ty t.az t.data=true)(hl:t.data.length<2^29)(hw2:t.data.length+10<=w){o:Int}(ho:o=1\/o=2)(ht:nc t.tag=true):
 HK w t.tag t.ty t.az (ag t.data) o=some (if bQ t.ty t.az=0 then(t.tag,t.ty,t.az,(pC o t:Int),true) else(0,0,0,0,false)):=by
 unfold HK;rw[akO hm hl hw2 ho,sK (by omega)];have m2:gw 2 o=true:=by rcases ho with rfl|rfl<;>rfl
 have htr:0<=t.tag/\t.tag<65536:=by unfold nc at ht;simpa using ht
 have hp:pL t.tag (2:Int).toNat o=some (bc t.tag.toNat 2 o):=by unfold pL;rw[ay ⟨htr.1,by show t.tag<((256^2:Nat):Int);omega⟩];rfl
 rw[ay m2,hp];have hout:=yf hm;obtain⟨k1,k2,k3,k4⟩:=vK hm;have hk:=AK t.ty;have hpos:t.data.length≠0:=by intro q;have:1*1<=t.az*(kindOf t.ty).1 :=Int.mul_le_mul k2 (by omega) (by decide) (by omega);omega
 simp only[aA,bH,aD,cj,aU,bU];have e1:¬((t.data.length:Int)=0):=by omega
 simp only[e1,bL,aD];by_cases h4:t.data.length<=4
 ·have e2:¬((4:Int)<(t.data.length:Int)):=by omega
  simp only[e2,bL,aD];rw[ay h4] at hout;rw[ay hout,ji,aP (by omega) (by omega),lU (by omega)];have e3:((4:Int) -(t.data.length:Int)).toNat=4 -t.data.length:=by omega
  have hv:(iY t.data (kindOf t.ty).2.1.toNat o).length=t.data.length:=wO _ _ _;have hget:∀b:qr UInt8,b=iY t.data (kindOf t.ty).2.1.toNat o++List.replicate (4 -t.data.length) 0->jS w (ag b) 0 4 o=some ((pC o t:Int),true):=by
   intro b hb;have hbl:b.length=4:=by rw[hb,aT,hv,uM];omega
   rw[Cd (by omega) b (by omega) 0 4 o (by omega)];have:=xH (l:=b) (p:=0) (s:=4) (order:=o) (.inr (.inr rfl)) ho (by omega);rw[show((0:Nat):Int)=0 from rfl,show((4:Nat):Int)=4 from rfl] at this;rw[this];unfold pC lG;rw[hb]
  rw[e3];have r1:(4 -t.data.length).ble 1000000000=true:=by rw[iy];omega
  simp only[r1,sB,cD,uM,gk,fU,hv,aE,Ae,gF,ew,aM,aY,jG,show Nat.beq 5 5=true from rfl];by_cases h5:t.data.length=4
  ·have e4:t.data.length+(4 -t.data.length)<=t.data.length:=by omega
   simp only[e4,aY,aE];have:4 -t.data.length=0:=by omega
   rw[this];simp only[List.replicate_zero,List.map_nil,aW];rw[ve _ _ (by rw[hv];omega),hget _ (by rw[this];simp)];rfl
  ·have e4:¬(4<=t.data.length):=by omega
   have e5:t.data.length+(4 -t.data.length)=4:=by omega
   have hn:=nextslicecap_le (need:=4) (old:=t.data.length) (by omega);have r3:aH (4 -t.data.length)=true:=by simp;omega
   have r4:aH t.data.length=true:=by simp;omega
   have r5:Builtin.nextslicecap 4 t.data.length<=5000000000:=by omega
   simp only[e4,bL,aD,e5,r3,r4,r5,aY,jG,aE];have h6:List.take t.data.length ((iY t.data (kindOf t.ty).2.1.toNat o).map aZ)++(List.replicate (4 -t.data.length) (0:UInt8)).map aZ=(iY t.data (kindOf t.ty).2.1.toNat o++List.replicate (4 -t.data.length) 0).map aZ:=by rw[eQ (by rw[cD,hv];exact aM _),fS]
   rw[h6];rw[ve _ _ (by rw[kB,cD]),hget _ rfl];rfl
 ·have e2:((4:Int)<(t.data.length:Int)):=by omega
  simp only[e2,aY,aE];rw[aq h4] at hout;rw[aq (by omega)]
theorem nN{α γ σ:Type}{z:α}{F:α->α}{r:γ}{w:Nat}(ev:Nat->σ->α->γ)(Inv:Nat->σ->Prop)(m:Nat)(s0:σ)(h0:Inv 0 s0)(hs:∀i g s,i<m->Inv i s->∃s',Inv (i+1) s'/\ev i s (F g)=ev (i+1) s' g)(he:∀g s,Inv m s->ev m s (F g)=r)(h:m<w):ev 0 s0 (lp z F w)=r:=by
 have:∀(d i v:Nat)(s:σ),i+d=m->d<v->Inv i s->ev i s (lp z F v)=r:=by
  intro d;induction d with
  |zero=>intro i v s hi hv hI;rw[eB z F (by omega)];simp_all
  |succ d ih=>
   intro i v s hi hv hI;obtain⟨s',h1,h2⟩:=hs i (lp z F (v -1)) s (by omega) hI;rw[eB z F (by omega)]
   grind
 grind
def dc(l:qr aV):H1:=aB dw l
theorem Al(d:aV)(r:qr H1):dw d++r=dT d::dS d::dB d::r:=by rw[qk];rfl
def kV:qr aV->Nat
 |[]=>0
 |d::ds=>max (gq d) (kV ds)
theorem DQ:∀{ds:qr aV}{d:aV},d∈ds->gq d<=kV ds
 |[],d,h=>by grind
 |a::ds,d,h=>by
  rcases cZ.1 h with rfl|h
  ·exact Nat.le_max_left _ _
  ·exact fH (DQ h) (Nat.le_max_right _ _)
def oo(m:Nat)(ds:qr aV):Prop:=∀d∈ds,iK m d
theorem YF(l:qr bq)(c:qr H1)(h:c=l.flatMap bV):ae (c.length/5) c=aB bV l:=by subst h;unfold aB;rw[wG,ja _ (by simp)]
theorem X1{w m:Nat}(hm:m<2^28)(hw:2*m+100<=w)(o:Int)(ds:qr aV)(xJ:wu w o (dc ds)=some true)(kg:kV ds<=w)(hl:ds.length<=m)(he:eG 8 ds<2^49)(hc:(eJ ⟨o,ds⟩).length*5<=1000000000)(hn:ig ds<2^50)(hd:oo m ds):
 yU w o (dc ds)=some (if eG 8 ds<=4294967295 then(aB bV (eJ ⟨o,ds⟩),true) else(ae 0 [],false)):=by
 unfold yU;rw[xJ];simp;unfold dc;refine nN (σ:=Nat×Nat×qr bq) (ev:=λi s (g:H1->Int->Int->Int->Int->qr H1->Hx (H1×Bool))=>g (aB dw ds) ds.length i (s.1 :Nat) (s.2.1 :Nat) (s.2.2.flatMap bV))
  (Inv:=λi s=>eG s.1 (ds.drop i)=eG 8 ds/\s.2.1 +ig (ds.drop i)=ig ds/\s.2.2 ++jn s.2.1 s.1 (ds.drop i)=eJ ⟨o,ds⟩) ds.length (8,0,[⟨1,-1,0,0,8⟩]) ?_ ?_ ?_ (by omega)
 ·exact⟨rfl,by simp,rfl⟩
 ·rintro i g ⟨e,no,sp⟩ hi ⟨h1,h2,h3⟩
  simp only at h1 h2 h3;rw[dk hi] at h1 h2 h3;rw[eG] at h1;rw[ig] at h2;rw[jn] at h3;refine⟨(bE e ds[i],no+dI ds[i],sp++ga no e ds[i]),⟨h1,by simp only;omega,by simp only;rw[<-h3,dM]⟩,?_⟩;have e1:((i:Int)<(ds.length:Int)):=by omega
  simp only[aU,e1,aE,bP];rw[bn kW hi];simp only[Al,aX];have hmem:=cA hi;have g1:=ql (ds.drop (i+1)) (bE e ds[i]);have g2:(sp++ga no e ds[i]).length<=(eJ ⟨o,ds⟩).length:=by rw[<-h3];simp only[aT];omega
  rw[aT] at g2;have h4:=DQ hmem;rw[akr hm hw ds[i] no e _ (by omega) (by omega) (by omega) (by rw[wG];omega) (hd _ hmem)];simp only[aA];rw[aP (by omega) (by omega),fD];rfl
 ·rintro g ⟨e,no,sp⟩ ⟨h1,h2,h3⟩
  simp[rG,eG,jn,ea] at h1 h3;have e1:¬((ds.length:Int)<(ds.length:Int)):=by omega
  rw[YF _ _ rfl,h3];by_cases q:eG 8 ds<=4294967295
  ·have:¬((4294967295:Int)<((eG 8 ds:Nat):Int)):=by omega
   simp_all
  ·have:((4294967295:Int)<((eG 8 ds:Nat):Int)):=by omega
   simp_all
def qm(l:qr bq)(e:Nat):Nat:=match l.getLast? with
 |some x=>x.at_+x.cJ
 |none=>e
theorem AL(a b:qr bq)(e:Nat):qm (a++b) e=qm b (qm a e):=by
 unfold qm
 grind
theorem K3(x:bq)(b:qr bq)(e:Nat):qm (x::b) e=qm b (x.at_+x.cJ):=AL [x] b e
theorem K2(no:Nat):∀(l:qr aL)(e:Nat),qm (dr no e l) e=cq e l
 |[],_=>rfl
 |t::l,e=>by
  unfold dr cq;split
  ·exact K2 no l e
  ·rw[K3];exact K2 no l _
mutual
theorem Te:∀(d:aV)(no e:Nat),qm (ga no e d) e=bE e d
 | .mk tags subs blob,no,e=>by unfold ga bE;rw[K3,AL,AL,K2,Tf];split<;>rfl
theorem Tf:∀(r:cP)(no e:Nat),qm (kM no e r) e=eA e r
 | .nil,no,e=>rfl
 | .cons _ d r,no,e=>by unfold kM eA;rw[AL,Te,Tf]
end
theorem Td:∀(ds:qr aV)(no e:Nat),qm (jn no e ds) e=eG e ds
 |[],no,e=>rfl
 |d::ds,no,e=>by unfold jn eG;rw[AL,Te,Td]
theorem aco(o:Int)(ds:qr aV):∃x l,eJ ⟨o,ds⟩=l++[x]/\x.at_+x.cJ=eG 8 ds:=by
 have e:qm (eJ ⟨o,ds⟩) 0=eG 8 ds:=by unfold eJ;rw[K3];exact(Td ds 0 8)
 have cL:eJ ⟨o,ds⟩≠[]:=by unfold eJ;simp
 exact⟨(eJ ⟨o,ds⟩).getLast cL,(eJ ⟨o,ds⟩).dropLast,(List.dropLast_concat_getLast cL).symm,(e)⟩
theorem ajJ{w m:Nat}(hm:m<2^28)(hw:2*m+100<=w)(o:Int)(ds:qr aV)(xJ:wu w o (dc ds)=some true)(kg:kV ds<=w)(hl:ds.length<=m)(he:eG 8 ds<=4294967295)(hc:(eJ ⟨o,ds⟩).length*5<=1000000000)(hn:ig ds<2^50)(hd:oo m ds):
 sN w o (dc ds)=some (eG 8 ds:Int):=by
 unfold sN;rw[X1 hm hw o ds xJ kg hl (by omega) hc hn hd,ay he];obtain⟨x,l,h1,h2⟩:=aco o ds;have hlen:(eJ ⟨o,ds⟩).length=l.length+1:=by rw[h1];simp
 simp;rw[aP (by omega) (by omega),lU (by omega),show(((eJ ⟨o,ds⟩).length:Int) -1).toNat=l.length by omega,bn uA (show l.length<(eJ ⟨o,ds⟩).length by omega)];have tg:∀(x:bq)(r:qr H1),bV x++r=.int .i64 x.nX::.int .i64 x.dir::.int .i64 x.tag::.int .i64 x.at_::.int .i64 x.cJ::r:=λ_ _=>rfl;simp_all;rw[aP (by omega) (by omega),<-h2];rfl
theorem akj{w:Nat}(hw:20<=w):rl w (cu dC)=some true:=by obtain⟨v,rfl⟩:=wV hw;rfl
theorem OG{w:Nat}(hw:20<=w):rl w (cu fJ)=some true:=by obtain⟨v,rfl⟩:=wV hw;rfl
theorem X3{w:Nat}(hw:20<=w):rl w (cu kT)=some true:=by obtain⟨v,rfl⟩:=wV hw;rfl
noncomputable def DG(w:Nat)(sv:H1)(a o:Int)(dv:H1)(cs:qr H1):Hx Int:=
 wg w dv cs sv o
def cM(n:Int):qr H1:=[.int .i64 n]
theorem ma(n:Int):(cM n).length=1:=rfl
def oE(l:qr Int):qr H1:=l.map (Value.int .i64)
theorem abU{l:qr Int}{i:Nat}(h:i<l.length):(oE l).drop i=Value.int .i64 l[i]::oE (l.drop (i+1)):=by unfold oE;rw[<-List.map_drop,dk h,iw]
theorem Z3{w m:Nat}(hm:m<2^28)(hw:2*m+100<=w)(sh:qr bg)(hsh:jd sh)(hl:∀s,s<sh.length->(aQ sh s).bR.length<=m)(a o:Int)(ds:qr aV)(l:qr Int)(hlen:l.length=ds.length)(iO:ds.length<=m)(hd:oo m ds)(kg:kV ds<=w)
 (hh:∀j (h:j<ds.length),0<=l[j]/\l[j]<sh.length/\cR sh l[j].toNat ds[j]=true) {n:Nat} (hn:0<n) (h138:sN w o (dc ds)=some (n:Int)):DG w (cu sh) a o (dc ds) (oE l)=some 0:=by
 unfold DG wg dc;have hcl:(oE l).length=ds.length:=by unfold oE;rw[cD,hlen]
 simp only[cd,kB,hcl,aU,bU];have e0:¬((ds.length:Int)<(ds.length:Int)):=by omega
 simp only[e0,bL,aD];refine gO (ev:=λi (g:H1->H1->Int->Int->Int->H1->qr H1->Hx Int)=>g (cu sh) (aB dw ds) ds.length i o (aB dw ds) (oE l)) ds.length ?_ ?_ (by omega)
 ·intro i g hi;have e1:((i:Int)<(ds.length:Int)):=by omega
  simp only[e1,aY,aE,bP];rw[bn kW hi];simp only[Al,aX,hcl,gk,fU,mK,hi,aY,show Nat.beq 1 1=true from rfl,jG,aE];rw[abU (by omega)];obtain⟨h1,h2,h3⟩:=hh i hi;have hs:(l[i].toNat:Int)=l[i]:=mD h1;have hmem:=cA hi;have h4:=DQ hmem;simp only[aX,bu];have:=aks (w:=w) (m:=m) (by omega) hw sh hsh hl ds[i] l[i].toNat (by omega) (hd _ hmem) (by omega);rw[hs,h3] at this;rw[this];simp only[aA,bH,aD,cc];rw[aP (by omega) (by omega)];rfl
 ·intro g;simp only[e0,bL,aD];unfold dc at h138;rw[h138];have:¬((n:Int)=0):=by omega
  simp_all
theorem akg{w m:Nat}(hm:m<2^28)(hw:2*m+100<=w)(sh:qr bg)(hsh:jd sh)(tI:rl w (cu sh)=some true)(hs0:0<sh.length)(hl:∀s,s<sh.length->(aQ sh s).bR.length<=m){o:Int}(ho:o=1\/o=2)(ds:qr aV)(cL:ds≠[])(iO:ds.length<=m)(hd:oo m ds)(kg:kV ds<=w)
 (hh:gG sh 0 ds=true) {n:Nat} (hn:0<n) (h138:sN w o (dc ds)=some (n:Int)):um w o (dc ds) (cu sh)=some 0:=by
 have hpos:0<ds.length:=List.length_pos_iff.2 cL;unfold um NA wg;rw[tI];simp only[aA,bH,aD,cj];have e0:¬((Int.ofNat ds.length:Int)=0):=by simp only[bU];omega
 rcases ho with rfl|rfl
 case' inl=>simp only[aY,bH,aD]
 case' inr=>simp only[show decide ((2:Int)=1)=false from rfl,show decide ((2:Int)=2)=true from rfl,gj,bH,aE,aD]
 all_goals
  unfold dc;rw[cd];simp only[e0,bL,aD];refine nN (σ:=Int×qr Int) (ev:=λi s (g:H1->Int->Int->H1->qr H1->Hx Int)=>g (cu sh) s.1 _ (aB dw ds) (oE s.2))
   (Inv:=λi s=>s.2.length=i/\s.1 <sh.length/\gG sh s.1 (ds.drop i)=true/\∀j (h:j<i) (h2:j<s.2.length) (h3:j<ds.length),0<=s.2[j]/\s.2[j]<sh.length/\cR sh s.2[j].toNat ds[j]=true) ds.length (0,[]) ?_ ?_ ?_ (by omega)
  ·exact⟨rfl,by omega,hh,λj h=>by omega⟩
  ·rintro i g ⟨a,l⟩ hi ⟨h1,h2,h3,h4⟩
   simp only at h1 h2 h3 h4;rw[dk hi] at h3;simp only[gG,bB,cf] at h3;obtain⟨h5,h6,h7⟩:=h3;have hs:(a.toNat:Int)=a:=mD h5;have hat:a.toNat<sh.length:=by omega
   have hnx:=hsh.next a.toNat hat;refine⟨((aQ sh a.toNat).next,l++[a]),⟨by simp[h1],by simp only;omega,h7,?_⟩,?_⟩
   ·intro j hj hj2 hj3;simp only at hj2⊢;by_cases q:j<i
    ·rw[List.getElem_append_left (by omega)];exact h4 j q (by omega) hj3
    ·have:j=i:=by omega
     subst this;have e:(l++[a])[j]'hj2=a:=by rw[List.getElem_append_right (by omega)];simp
     rw[e];exact⟨h5,by omega,h6⟩
   ·have hcl:(oE l).length=i:=by unfold oE;rw[cD,h1]
    have e1:¬(a<0):=by omega
    have e2:((i:Int)<(ds.length:Int)):=by omega
    have r1:aH i=true:=by simp;omega
    simp only[aU,e1,bL,gj,aE,cd,kB,hcl,bU,e2,aY,r1,bW,List.length_nil,fU,gk,show aH 1=true from rfl,np,jG,lU h5];have hS:sh[a.toNat]=aQ sh a.toNat:=by unfold aQ;rw[cG hat];rfl
    have tg:∀(S:bg)(r:qr H1),(jF S++r).drop 3=.int .i64 S.next::r:=λ_ _=>rfl;unfold cu;rw[bn zn hat,hS];simp only[tg,aX,bu];unfold oE;rw[fS];rfl
  ·rintro g ⟨a,l⟩ ⟨h1,h2,h3,h4⟩
   simp only at h1 h2 h3 h4;have hcl:(oE l).length=ds.length:=by unfold oE;rw[cD,h1]
   have hr:=λo=>Z3 hm hw sh hsh hl a o ds l h1 iO hd kg (λj h=>h4 j h (by omega) h) hn;by_cases q:a<0
   ·simp only[aU,q,aY,bH,aD];have:=hr _ h138;unfold DG wg dc at this;simpa only[aU,cj] using this
   ·have e2:¬((ds.length:Int)<(ds.length:Int)):=by omega
    simp only[aU,q,bL,gj,aE];have:=hr _ h138;unfold DG wg dc at this;simp only[cd,kB,hcl,bU,aU,cj,e2,bL,aD] at this⊢;exact this
theorem MC(pre v old post:qr UInt8)(h:old.length=v.length)(p:Nat)(hp:p=pre.length):aW p (v.map aZ) ((pre++(old++post)).map aZ)=(pre++(v++post)).map aZ:=by
 have:=Bt (v.map aZ) (old.map aZ) (pre.map aZ) (post.map aZ) (by grind)
 grind
theorem OE{w:Nat}(hw:8<=w)(pre old post:qr UInt8)(n s:Nat)(hs:s=2\/s=4)(hn:n<256^s){o:Int}(ho:o=1\/o=2)(X Y:H1)(no:Int)(hold:old.length=s)(L:Nat)(hL:L=(pre++(old++post)).length)(hlt:L<2^60)(p:Int)(hp:p=(pre.length:Int))(k:Int)(hk:k=(s:Int))(q:Int)(hq:q=(n:Int)):
 sO w p q k L L o X Y no ((pre++(old++post)).map aZ)=some (L,L,o,X,Y,no,(pre++(bc n s o++post)).map aZ):=by
 subst hp hk hq;unfold sO;rw[sK hw];have hpf:pL (n:Int) (s:Int).toNat o=some (bc n s o):=by unfold pL;rw[ay ⟨by omega,by rw[nh];exact_mod_cast hn⟩];simp
 rw[ay (by rcases hs with rfl|rfl<;>rcases ho with rfl|rfl<;>rfl),hpf];have hlen:L=pre.length+(s+post.length):=by simp_all
 have cL:¬(L=pre.length):=by omega
 have e1:pre.length<=L:=by omega
 have ev:(bc n s o).length=s:=eI _ _ _;simp only[aA,bP,gF,e1,aM,aE,im,gZ,cD,ev,gk,Ae,cL,bL,aD,fU];rw[show s.min (L -pre.length)=s from(show min s (L -pre.length)=s from by omega)];have e3:pre.length+s<=(pre++(old++post)).length:=by omega
 simp only[e3];rw[eQ (by rw[cD,ev];exact aM _),MC _ _ _ _ (by rw[hold,ev]) _ rfl];rfl
def mz(nX dir tag:Int)(x:bq):Bool:=x.nX==nX&&(x.dir==dir&&x.tag==tag)
theorem akP{w:Nat}(l:qr bq)(a b c:Int)(hl:l.length<2^40)(hw:l.length<w):O5 w (aB bV l) a b c=some (dD (mz a b c) l):=by
 refine mQ l (mz a b c) (ev:=λi (g:H1->qr H1->qr H1->qr H1->Int->Int->Hx Int)=>g (aB bV l) [.int .i64 a] [.int .i64 b] [.int .i64 c] l.length i) ?_ ?_ hw
 ·intro i g h;simp_all;rw[bn uA h];have tg:∀(x:bq)(r:qr H1),bV x++r=.int .i64 x.nX::.int .i64 x.dir::.int .i64 x.tag::.int .i64 x.at_::.int .i64 x.cJ::r:=λ_ _=>rfl;unfold O6 mz;simp_all;rw[aP (by omega) (by omega)];by_cases q1:l[i].nX=a
  ·by_cases q2:l[i].dir=b
   ·by_cases q3:l[i].tag=c
    ·simp_all
    ·simp_all
   ·simp_all
  ·simp[q1]
 ·intro g;simp
theorem OW{w:Nat}{A B:qr bq}{x:bq}(hl:(A++x::B).length<2^40)(hw:(A++x::B).length<w)(a b c:Int)(hA:∀y∈A,mz a b c y=false)(hx:mz a b c x=true)(L c2:Nat)(o:Int)(Y:H1)(no:Int)(cs:qr H1):
 ur w a b c L c2 o (aB bV (A++x::B)) Y no cs=some ((x.at_:Int),L,c2,o,aB bV (A++x::B),Y,no,cs):=by
 have hi:dD (mz a b c) (A++x::B)=(A.length:Int):=by
  unfold dD
  grind
 unfold ur;rw[akP _ a b c hl hw,hi];simp;rw[bn uA (show A.length<(A++x::B).length by simp)];have tg:∀(x:bq)(r:qr H1),(bV x++r).drop 3=.int .i64 x.at_::.int .i64 x.cJ::r:=λ_ _=>rfl;simp_all
theorem JI(pre v old post:qr UInt8)(hold:old.length=v.length){L:Nat}(hL:L=(pre++(old++post)).length){β:Type}(K:qr H1->Hx β):
 (bif Nat.ble L L&&pre.length.ble L then dQ 1 (ag v) λn (c:qr H1)=>bif c.length.beq (n*1)&&((bif Nat.beq L pre.length then 0 else 0+pre.length*1)+n.min (L -pre.length)*1).ble ((pre++(old++post)).map aZ,5).fst.length then
  K (aW (bif Nat.beq L pre.length then 0 else 0+pre.length*1) (List.take (n.min (L -pre.length)*1) c) ((pre++(old++post)).map aZ,5).fst) else none else none)=K ((pre++(v++post)).map aZ):=by
 have hlen:L=pre.length+(v.length+post.length):=by simp_all
 have e1:pre.length<=L:=by omega
 simp only[gF,e1,aM,aY,im,gZ,cD,gk,np,eV,fU];rw[(show v.length.min (L -pre.length)=v.length from by show min _ _=_;omega)];by_cases h0:L=pre.length
 ·have hv:v=[]:=kP (by omega);subst hv;have ho:=kP hold;subst ho;simp[h0,aW]
 ·have e3:pre.length+v.length<=(pre++(old++post)).length:=by rw[<-hL];omega
  simp only[Ae,h0,bL,aD,e3,aY,aE];rw[eQ (by rw[cD];exact aM _),MC _ _ _ _ hold _ rfl]
theorem akv{w:Nat}(hw:100<=w)(t:aL)(hm:eH t.ty t.az t.data=true)(hl:t.data.length<2^29)(hw2:t.data.length+10<=w){o:Int}(ho:o=1\/o=2)(ht:nc t.tag=true)(h0:bQ t.ty t.az=0)(dir:Int)(L c2:Nat)(X Y:H1)(no:Int)(cs:qr H1):
 zb w t.tag t.ty t.az (ag t.data) dir L c2 o X Y no cs=some (t.tag,t.ty,t.az,(pC o t:Int),L,c2,o,X,Y,no,cs):=by
 unfold zb;rw[Yg hw t hm hl hw2 ho ht,ay h0];rfl
theorem akw{w:Nat}(hw:100<=w)(t:aL)(hm:eH t.ty t.az t.data=true)(hl:t.data.length<2^29)(hw2:t.data.length+10<=w){o:Int}(ho:o=1\/o=2)(ht:nc t.tag=true)(h0:bQ t.ty t.az≠0)(dir:Int){A B:qr bq}{x:bq}(hsl:(A++x::B).length<2^40)(hsw:(A++x::B).length<w)
 (hA:∀y∈A,mz 3 dir t.tag y=false) (hx:mz 3 dir t.tag x=true) (pre old post:qr UInt8) (hold:old.length=t.data.length) (hat:x.at_=pre.length) {L:Nat} (hL:L=(pre++(old++post)).length) (Y:H1) (no:Int):
 zb w t.tag t.ty t.az (ag t.data) dir L L o (aB bV (A++x::B)) Y no ((pre++(old++post)).map aZ)=some (t.tag,t.ty,t.az,(pre.length:Int),L,L,o,aB bV (A++x::B),Y,no,(pre++(lG o t++post)).map aZ):=by
 unfold zb;rw[Yg hw t hm hl hw2 ho ht,aq h0,OW hsl hsw 3 dir t.tag hA hx];simp only[aA,hat];rw[akN hm hl hw2 ho];simp only[np];exact JI pre (lG o t) old post (by rw[zA];exact hold) hL λcs=>some (t.tag,t.ty,t.az,(pre.length:Int),L,L,o,aB bV (A++x::B),Y,no,cs)
theorem OO(w:Nat)(e:bo)(c:qr H1)(hc:c.length<=1000000000):Cr w [.int .i64 e.tag,.int .i64 e.ty,.int .i64 e.az,.int .i64 e.slot] c=some (c++[.int .i64 e.tag,.int .i64 e.ty,.int .i64 e.az,.int .i64 e.slot]):=by
 unfold Cr;have:aH c.length=true:=by simp;omega
 simp only[this,show aH 1=true from rfl,bW,List.length_nil,ew,oa,oZ];rfl
section
open Go.Sort
def e4(x:bo):E4:=(x.tag,x.ty,x.az,(x.slot:Int))
def rC(x:E4):bo:=⟨x.1,x.2.1,x.2.2.1,x.2.2.2.toNat⟩
theorem Y7(x:bo):rC (e4 x)=x:=by obtain⟨a,b,c,d⟩:=x;show bo.mk a b c ((d:Int)).toNat=_;simp
def bT(x:bo):qr H1:=[.int .i64 x.tag,.int .i64 x.ty,.int .i64 x.az,.int .i64 x.slot]
theorem kY(x:bo):(bT x).length=4:=rfl
theorem Rj(l:qr bo):l.flatMap bT=(l.map e4).flatMap fM:=by
 induction l with
 |nil=>rfl
 |cons x l ih=>rw[dN,ih];rfl
theorem Za:∀l:qr E4,wP (l.flatMap fM)=some l
 |[]=>rfl
 |(a,b,c,d)::l=>by show wP (.int .i64 a::.int .i64 b::.int .i64 c::.int .i64 d::l.flatMap fM)=_;unfold wP;rw[Za l];rfl
theorem Wx:∀{a b:qr bo},fg a=true->fg b=true->(∀x,x∈a↔x∈b)->a=b
 |[],[],_,_,_=>rfl
 |[],y::b,_,_,h=>by have:=(h y).2 (by simp);cases this
 |x::a,[],_,_,h=>by have:=(h x).1 (by simp);cases this
 |x::a,y::b,ha,hb,h=>by
  have ha':fg a=true/\∀z∈a,x.tag<z.tag:=by have:=MU ha;omega
  have hb':=MU hb;have hxy:x=y:=by grind
  congr 1
  refine Wx ha'.1 hb'.1 λz=>?_
  grind
where
 MU:∀{x:bo}{a:qr bo},fg (x::a)=true->fg a=true/\∀z∈a,x.tag<z.tag
  |x,[],_=>⟨rfl,λz h=>by cases h⟩
  |x,b::a,h=>by
   simp[fg] at h;obtain⟨_,h2⟩:=MU h.2
   grind
theorem Wz:∀{l:qr bo},l.Pairwise (λa b=>a.tag<b.tag)->fg l=true
 |[],_=>rfl
 |[x],_=>rfl
 |x::y::l,h=>by rw[List.pairwise_cons] at h;simp[fg];exact⟨h.1 y (by simp),Wz h.2⟩
theorem Jn:∀{l:qr bo},oi l->(l.map bo.tag).Nodup
 |[],_=>by simp
 |x::l,h=>by rw[iw,List.nodup_cons];refine⟨λq=>?_,Jn h.2⟩;obtain⟨y,hy,e⟩:=mF.1 q;exact h.1 y hy e
theorem aln{l:qr bo}(h:oi l):kv (l.map e4)=(gu l).map e4:=by
 obtain⟨h1,h2,h3⟩:=Yz (l.map e4);generalize kv (l.map e4)=p at h1 h2 h3;have hk:(p.map rC).Perm l:=by have:=h2.map rC;rw[List.map_map] at this;rw[(show(rC∘e4)=id from by funext x;exact Y7 x),List.map_id] at this;exact this
 have hp:(p.map rC).map e4=p:=by
  rw[List.map_map]
  conv=>rhs;rw[<-List.map_id p]
  apply List.map_congr_left;intro x hx;obtain⟨y,-,hy⟩:=mF.1 (h2.mem_iff.1 hx);simp;rw[<-hy,Y7]
 have hr:fg (p.map rC)=true:=by
  apply Wz;rw[List.pairwise_iff_getElem];intro i j hi hj hij;have cL:(p.map rC)[i].tag≠(p.map rC)[j].tag:=by intro q;have:=(List.nodup_iff_pairwise_ne.1 ((hk.map bo.tag).nodup_iff.2 (Jn h)));rw[List.pairwise_iff_getElem] at this;have:=this i j (by simpa using hi) (by simpa using hj) hij;apply this;simp at q⊢;exact q
  simp at hi hj;have hs:=h3 i j (ib _) hij (by rw[<-h1];exact hj);rw[EA] at hs;simp_all;have a1:(rC p[i]).tag=p[i].1 :=rfl;have a2:(rC p[j]).tag=p[j].1 :=rfl;omega
 rw[<-(Wx hr (KX h) λx=>by rw[hk.mem_iff,xN]),hp]
theorem akC(w:Nat){l:qr bo}(h:oi l)(cL:l≠[])(hl:l.length<=1000000000):uu w (l.flatMap bT)=some ((gu l).flatMap bT):=by unfold uu;rw[Rj,Za];simp only[aA,(show(l.map e4).isEmpty=false from by simp_all),(show aH (l.map e4).length=true from by simp;omega),bH,Bool.or_self,aD];rw[aln h,<-Rj]
noncomputable def DN(w:Nat)(mine:Int)(L c:Nat)(o:Int)(X Y:H1)(no:Int)(bs es:qr H1):Hx (Int×Nat×Nat×Int×H1×H1×Int×qr H1):=
 ob (uu w es) λa=>ob (ur w 2 mine 0 L c o X Y no bs) λb=>BP w b a
def bk(n:Nat):qr UInt8:=List.replicate n 0
theorem jo(n:Nat):(bk n).length=n:=uM
theorem pT(a b:Nat):bk (a+b)=bk a++bk b:=by unfold bk;simp
theorem aaP{l:qr bo}{i:Nat}(h:i<l.length)(o:Int):(l.take (i+1)).flatMap (jg o)=(l.take i).flatMap (jg o)++jg o l[i]:=by rw[iI h,fD];simp
theorem aar{w:Nat}(hw:100<=w){E:qr bo}(hE:oi E)(cL:E≠[])(hEo:∀x∈E,Go.Proofs.YtcfjfbeadhnknaaGreatDoor.mG x)(hEn:E.length<=65535)(hEw:E.length<w){A B:qr bq}{x:bq}(hsl:(A++x::B).length<2^40)(hsw:(A++x::B).length<w)(mine:Int)
 (hA:∀y∈A,mz 2 mine 0 y=false) (hx:mz 2 mine 0 x=true) (pre post:qr UInt8) (hat:x.at_=pre.length) {L:Nat} (hL:L=(pre++(bk (6+12*E.length)++post)).length) (hlt:L<2^40) {o:Int} (ho:o=1\/o=2) (Y:H1) (no:Int):
 DN w mine L L o (aB bV (A++x::B)) Y no ((pre++(bk (6+12*E.length)++post)).map aZ) (E.flatMap bT)=some ((pre.length:Int),L,L,o,aB bV (A++x::B),Y,no,(pre++(kG o (gu E) 0++post)).map aZ):=by
 unfold DN BP;rw[akC w hE cL (by omega)];simp only[aA];rw[OW hsl hsw 2 mine 0 hA hx];simp only[aA,hat];have hn:(gu E).length=E.length:=xM E;have hsE:∀y∈gu E,Go.Proofs.YtcfjfbeadhnknaaGreatDoor.mG y:=λy hy=>hEo y (xN.1 hy);generalize gu E=F at hn hsE⊢;have hfl:(F.flatMap bT).length/4=F.length:=by rw[da kY];omega
 rw[hfl];rw[<-hn] at hL hEn hEw⊢;have hz:bk (6+12*F.length)=bk 2++bk (12*F.length+4):=by rw[<-pT];congr 1;omega
 rw[hz,dM];have hlenL:L=pre.length+(6+12*F.length+post.length):=by rw[hL];simp[jo]
 rw[OE (by omega) pre (bk 2) (bk (12*F.length+4)++post) F.length 2 (.inl rfl) (by omega) ho _ Y no (jo 2) L (by rw[hL,hz,dM]) (by omega) (pre.length:Int) rfl (2:Int) rfl (Int.ofNat F.length) rfl];simp only[aA];have hlast:bc 0 4 o=bk 4:=by rcases ho with rfl|rfl<;>rfl
 refine nN (σ:=qr UInt8) (ev:=λi s (g:Int->Int->Int->Nat->Nat->Int->H1->H1->Int->qr H1->qr H1->Hx (Int×Nat×Nat×Int×H1×H1×Int×qr H1))=>g pre.length (F.length:Int) i L L o (aB bV (A++x::B)) Y no (F.flatMap bT) (s.map aZ))
  (Inv:=λi s=>s=pre++(bc F.length 2 o++((F.take i).flatMap (jg o)++(bk (12*(F.length -i)+4)++post)))) F.length _ ?_ ?_ ?_ (by omega)
 ·simp
 ·rintro i g s hi rfl
  refine⟨pre++(bc F.length 2 o++((F.take (i+1)).flatMap (jg o)++(bk (12*(F.length -(i+1))+4)++post))),rfl,?_⟩;have e1:((i:Int)<(F.length:Int)):=by omega
  have e2:i*4<(F.flatMap bT).length:=by omega
  simp only[aU,e1,aY,aE,bP,show Nat.beq 4 4=true from rfl,eV,mK,e2];rw[show 0+i*4=i*4 from fU _,nI kY,dk hi,dN];have tg:∀(x:bo)(r:qr H1),bT x++r=.int .i64 x.tag::.int .i64 x.ty::.int .i64 x.az::.int .i64 x.slot::r:=λ_ _=>rfl;simp only[tg,aX,bu];have hok:=hsE _ (cA hi);have b1:=hok.tag;have b2:=hok.ty;have b3:=hok.az;have b4:=hok.slot;rw[akD (by omega) _ _ _ _ o ho,ay ⟨⟨b1.1,b1.2⟩,⟨b2.1,b2.2⟩,⟨b3.1,b3.2⟩,by omega,by omega⟩];simp only[aA,cc,oD];rw[aP (n:=12*(i:Int)) (by omega) (by omega),aP (n:=(pre.length:Int)+2) (by omega) (by omega),aP (n:=(pre.length:Int)+2+12*(i:Int)) (by omega) (by omega),aP (n:=(i:Int)+1) (by omega) (by omega),lU (by omega)];have ek:((pre.length:Int)+2+12*(i:Int)).toNat=(pre++(bc F.length 2 o++(F.take i).flatMap (jg o))).length:=by rw[aT,aT,eI,xB,dE];omega
  rw[ek];have eb:bc F[i].tag.toNat 2 o++(bc F[i].ty.toNat 2 o++(bc F[i].az.toNat 4 o++bc ((F[i].slot:Int)).toNat 4 o))=jg o F[i]:=by unfold jg;simp
  rw[eb];have ez:bk (12*(F.length -i)+4)=bk 12++bk (12*(F.length -(i+1))+4):=by rw[<-pT];congr 1;omega
  have ebs:pre++(bc F.length 2 o++((F.take i).flatMap (jg o)++(bk (12*(F.length -i)+4)++post)))=(pre++(bc F.length 2 o++(F.take i).flatMap (jg o)))++(bk 12++(bk (12*(F.length -(i+1))+4)++post)):=by rw[ez];simp
  rw[ebs];have:=JI (pre++(bc F.length 2 o++(F.take i).flatMap (jg o))) (jg o F[i]) (bk 12) (bk (12*(F.length -(i+1))+4)++post) (by rw[jo,JW]) (L:=L) (by
   rw[hlenL];simp only[aT,jo,eI,xB,dE];omega)
   (λcs=>g (pre.length:Int) (F.length:Int) ((i:Int)+1) L L o (aB bV (A++x::B)) Y no (F.flatMap bT) cs)
  refine this.trans ?_;rw[aaP hi];simp only[dM];rfl
 ·rintro g s rfl
  have e1:¬((F.length:Int)<(F.length:Int)):=by omega
  simp only[aU,e1,bL,aD];rw[oY,Nat.sub_self,Nat.mul_zero,fU];unfold kG;rw[hlast];simp only[dM]
end
theorem Mf(e:Nat):dU e=bk (aI e -e):=by
 unfold dU aI;by_cases h:e%2=0
 ·rw[ay h,show e+e%2 -e=0 by omega];rfl
 ·rw[aq h,show e+e%2 -e=1 by omega];rfl
theorem CS{no:Nat}{y:bq}:∀{l:qr aL}{e:Nat},y∈dr no e l->y.nX=3/\y.dir=(no:Int)/\∃t∈l,y.tag=t.tag
 |[],_,h=>by cases h
 |t::l,e,h=>by
  unfold dr at h;split at h
  ·obtain⟨a,b,t',c,d⟩:=CS h
   grind
  ·rcases cZ.1 h with rfl|h
   ·simp
   ·obtain⟨a,b,t',c,d⟩:=CS h
    grind
theorem aab(d:aV):1<=dI d:=by cases d;unfold dI;omega
mutual
theorem Pz{y:bq}:∀{d:aV}{no e:Nat},y∈ga no e d->(no:Int)<=y.dir/\y.dir<(no:Int)+dI d
 | .mk tags subs blob,no,e,h=>by
  unfold dI;rcases cZ.1 h with rfl|h
  ·exact⟨Int.le_refl _,by simp only;omega⟩
  ·rcases fT.1 h with h|h
   ·have:=(CS h).2.1;omega
   ·rcases fT.1 h with h|h
    ·have:=PA h;omega
    grind
theorem PA{y:bq}:∀{r:cP}{no e:Nat},y∈kM no e r->(no:Int)<=y.dir/\y.dir<(no:Int)+iA r
 | .nil,no,e,h=>by unfold kM at h;cases h
 | .cons t d r,no,e,h=>by
  unfold iA;rcases fT.1 h with h|h
  ·have:=Pz h;omega
  ·have:=PA h;omega
end
def mL(o:Int)(sh:qr bg)(S:bg)(e:Nat):qr (Int×aV)->qr UInt8
 |[]=>[]
 |p::l=>jf o sh ((lN S p.1).getD 0) 0 e p.2 ++mL o sh S (bE e p.2) l
theorem QI(o:Int)(sh:qr bg)(S:bg):∀(s:cP)(e:Nat),jM o sh S e s=mL o sh S e (aR s)
 | .nil,e=>by simp[jM,aR,mL]
 | .cons t d r,e=>by simp[jM,aR,mL,QI o sh S r]
def oz(e:Nat):qr (Int×aV)->qr bo
 |[]=>[]
 |p::l=>⟨p.1,4,1,aI e⟩::oz (bE e p.2) l
theorem Rn:∀(s:cP)(e:Nat),iB e s=oz e (aR s)
 | .nil,e=>by simp[iB,aR,oz]
 | .cons t d r,e=>by simp[iB,aR,oz,Rn r]
theorem KG{sh:qr bg}{S:bg}:∀{s:cP},jh sh S s=true->∀p∈aR s,fG S p.1 =true/\cR sh ((lN S p.1).getD 0) p.2 =true
 | .nil,_,p,h=>by cases h
 | .cons t d r,h,p,hp=>by
  simp[jh] at h;rcases cZ.1 hp with rfl|hp
  ·grind
  ·exact KG h.2.2 p hp
theorem aky{w:Nat}(l:qr iJ)(n:Int)(a b c:H1)(hl:l.length<2^40)(hw:l.length<w):OR w (gN l) n a b c=some (dD (λx=>x.tag==n) l):=by
 refine mQ l (λx=>x.tag==n) (ev:=λi (g:H1->qr H1->Int->Int->Hx Int)=>g (aB mh l) [.int .i64 n,a,b,c] l.length i) ?_ ?_ hw
 ·intro i g h;simp_all;rw[bn tN h];unfold mh OV;rw[aP (by omega) (by omega)];simp
 simp
theorem aku(w:Nat)(x y:bo)(c:qr H1)(hc:c.length<=1000000000):Cs w [.int .i64 x.tag,.int .i64 x.ty,.int .i64 x.az,.int .i64 x.slot,.int .i64 y.tag,.int .i64 y.ty,.int .i64 y.az,.int .i64 y.slot] c=some (c++(bT x++bT y)):=by unfold Cs;simp_all;rfl
theorem vX{l:qr aL}(h:fR l=true){i j:Nat}(hij:i<j)(hj:j<l.length):l[i].tag<l[j].tag:=by
 induction l generalizing i j with
 |nil=>grind
 |cons a l ih=>
  obtain⟨h1,h2⟩:=FC h;cases j with
  |zero=>omega
  |succ j=>
   cases i with
   |zero=>grind
   |succ i=>grind
structure zQ(w m:Nat)(sh:List bg)(o:Int)(L:Nat)(Sp:List bq):Prop where
 hm:m<2^28
 hw:2*m+1000<=w
 ok:jd sh
 bR:∀s,s<sh.length->(aQ sh s).bR.length<=m
 ho:o=1\/o=2
 hL:L<4294967296
 tJ:Sp.length<2^40
 vx:Sp.length<w
 AF:70000<=w
def zK(sh:qr bg)(o:Int)(L:Nat)(Sp:qr bq)(rec:H1->H1->H1->Int->Nat->Nat->Int->H1->H1->Int->qr H1->Hx (Int×Nat×Nat×Int×H1×H1×Int×qr H1))(d:aV)(s:Nat):Prop:=
 ∀(no e:Nat)(A B:qr bq)(pre post:qr UInt8),(∀y∈A,y.dir<(no:Int))->pre.length=e->Sp=A++(ga no e d++B)->L=(pre++(bk (bE e d -e)++post)).length->no+dI d<2^40->
  rec (dT d) (dS d) (dB d) (s:Int) L L o (aB bV Sp) (cu sh) (no:Int) ((pre++(bk (bE e d -e)++post)).map aZ)=
   some ((aI e:Int),L,L,o,aB bV Sp,cu sh,((no+dI d:Nat):Int),(pre++(jf o sh s 0 e d++post)).map aZ)
theorem Rh(e:Nat)(t:aL)(ts:qr aL):cq e (t::ts)=if bQ t.ty t.az=0 then cq e ts else cq (aI e+bQ t.ty t.az) ts:=rfl
theorem amd(o:Int)(e:Nat)(t:aL)(ts:qr aL):gI o e (t::ts)=if bQ t.ty t.az=0 then gI o e ts else dU e++(lG o t++gI o (aI e+bQ t.ty t.az) ts):=rfl
theorem aaO(o:Int)(e:Nat)(t:aL)(ts:qr aL):eu o e (t::ts)=if bQ t.ty t.az=0 then⟨t.tag,t.ty,t.az,pC o t⟩::eu o e ts else⟨t.tag,t.ty,t.az,aI e⟩::eu o (aI e+bQ t.ty t.az) ts:=rfl
theorem alx(no e:Nat)(t:aL)(ts:qr aL):dr no e (t::ts)=if bQ t.ty t.az=0 then dr no e ts else⟨3,no,t.tag,aI e,bQ t.ty t.az⟩::dr no (aI e+bQ t.ty t.az) ts:=rfl
theorem SJ(x:bo):∀l:qr bo,(kj x l).Perm (x::l)
 |[]=>List.Perm.refl _
 |y::l=>by
  unfold kj;split
  ·simp
  ·exact((SJ x l).cons y).trans (List.Perm.swap x y l)
theorem SY:∀l:qr bo,(gu l).Perm l
 |[]=>List.Perm.refl _
 |x::l=>by exact(SJ x _).trans ((SY l).cons x)
theorem TX:∀{l:qr bo},(l.map bo.tag).Nodup->oi l
 |[],_=>trivial
 |x::l,h=>by rw[iw,List.nodup_cons] at h;refine⟨λy hy e=>h.1 ?_,TX h.2⟩;simp_all
theorem Zw{l:qr bo}(h:fg (gu l)=true):oi l:=
 TX (((SY l).map bo.tag).nodup_iff.1 (Jn (zU h)))
theorem alG{w m:Nat}{sh:qr bg}{o:Int}{L:Nat}{Sp:qr bq}(H:zQ w m sh o L Sp)(rec:H1->H1->H1->Int->Nat->Nat->Int->H1->H1->Int->qr H1->Hx (Int×Nat×Nat×Int×H1×H1×Int×qr H1))(d:aV)(s:Nat)(hs:s<sh.length)(hd:iK m d)(hh:cR sh s d=true)
 (hrec:∀p∈aR (match d with| .mk _ subs _=>subs),∀k:Nat,k<sh.length->cR sh k p.2 =true->zK sh o L Sp rec p.2 k):zK sh o L Sp (It w rec) d s:=by
 obtain⟨hm,hw,hsh,hl,ho,hLt,tJ,vx,AF⟩:=H;obtain⟨tags,subs,blob⟩:=d;intro no e A B pre post hA hp hSp hL tK;have hd:tags.length<=m/\cm subs<=m/\blob.length<=m/\(∀t∈tags,t.data.length<=m)/\iL m subs:=hd;replace hrec:∀p∈aR subs,∀k:Nat,k<sh.length->cR sh k p.2 =true->zK sh o L Sp rec p.2 k:=hrec;have hlenB:=tr o sh (.mk tags subs blob) s 0 e hh;have hh0:=hh;simp only[cR,bB,sU,cf] at hh;obtain⟨⟨n1,n2⟩,ht,hbl,hr,hss⟩:=hh;have htg:∀t∈tags,nc t.tag=true/\eH t.ty t.az t.data=true:=λt h=>by simp only[kx,bB,iv] at ht;exact⟨(ht.2 t h).1,(ht.2 t h).2.2⟩
 have htr:fR tags=true:=by simp only[kx,bB] at ht;exact ht.1
 obtain⟨N,hN⟩:∃N,bF (.mk tags subs blob)=N:=⟨_,rfl⟩;rw[hN] at n1 n2;have hNt:tags.length+cm subs<=N:=by rw[<-hN];show _<=tags.length+cm subs+_;omega
 obtain⟨e1,he1⟩:∃e1,aI e+(6+12*N)=e1:=⟨_,rfl⟩;obtain⟨e2,he2⟩:∃e2,cq e1 tags=e2:=⟨_,rfl⟩;obtain⟨e3,he3⟩:∃e3,eA e2 subs=e3:=⟨_,rfl⟩;obtain⟨S,hS⟩:∃S,aQ sh s=S:=⟨_,rfl⟩;have hSo:=hsh.ok s;have hSlk:=hsh.bR s hs;have hln:=hl s hs;rw[hS] at hSo ht hbl hss hSlk hln;have hSg:sh[s]=S:=by rw[<-hS];unfold aQ;rw[cG hs];rfl
 have g1:=nG e;have g2:=qN tags e1;have g3:=tD subs e2;have g4:=nG e3;rw[he2] at g2;rw[he3] at g3;obtain⟨D,hD⟩:∃D,bE e (.mk tags subs blob)=D:=⟨_,rfl⟩;have hend:D=if blob.length=0 then e3 else aI e3+blob.length:=by rw[<-hD,bE,hN,he1,he2,he3]
 rw[hD] at hL hlenB⊢;have hDe:e3<=D:=by rw[hend];split<;>omega
 have hlenL:L=D+post.length:=by rw[hL,aT,aT,jo];omega
 obtain⟨E,hE⟩:∃E,eu o e1 tags++(iB e2 subs++hM S e3 blob)=E:=⟨_,rfl⟩;have c1:=(QQ (order:=o) (e1:=e1) (e2:=e2) (e3:=e3) hSo ht hbl hr hss rfl).1;rw[hE] at c1;have hEap:oi E:=Zw c1;have hEn:E.length=N:=by rw[<-hE,aT,aT,rT,As,DY,<-hN];show _=tags.length+cm subs+(if blob.length=0 then 0 else 2);omega
 have hEne:E≠[]:=by intro q;rw[q] at hEn;simp at hEn;omega
 have hEo:∀x∈E,Go.Proofs.YtcfjfbeadhnknaaGreatDoor.mG x:=by
  intro x hx;rw[<-hE] at hx;rcases fT.1 hx with hx|hx
  ·exact DZ (S:=S) htg (by rw[he2];omega) x hx
  ·rcases fT.1 hx with hx|hx
   ·exact JY hSo (Eh hss) (by rw[he3];omega) x hx
   ·unfold hM at hx;split at hx
    ·cases hx
    ·rename_i hb0;rw[aq hb0] at hend;have hat:=hSo.pair (hbl.resolve_left hb0);simp only[cZ,nk,nr] at hx;rcases hx with rfl|rfl
     ·exact⟨by simp only;omega,by simp only;omega,by simp only;omega,by simp only;omega⟩
     ·exact⟨by simp only;omega,by simp only;omega,by simp only;omega,by simp only;omega⟩
 obtain⟨bS,hbS⟩:∃bS:qr bq,(if blob.length=0 then[] else[⟨4,no,0,aI e3,blob.length⟩])=bS:=⟨_,rfl⟩;have hSp1:Sp=A++(⟨2,no,0,aI e,6+12*N⟩::(dr no e1 tags++(gz (no+1) e2 (aR subs)++(bS++B)))):=by rw[hSp,ga,hN,he1,he2,he3,hbS,Is];simp only[ec,dM]
 have hcN:dI (.mk tags subs blob)=gm (aR subs)+1:=by rw[dI,JH]
 rw[hcN] at tK⊢;have hvl:=IH o tags e1 λt h=>(htg t h).2;rw[he2] at hvl;unfold It cu BP;simp only[dT,dS,dB,bP];rw[bn zn hs,hSg];have tg:∀(S:bg)(r:qr H1),jF S++r=gN S.bR::.int .i64 S.at_::.int .i64 S.cJ::.int .i64 S.next::r:=λ_ _=>rfl;simp only[tg,aX,bu,cc];unfold ar;rw[cd,aP (n:=(no:Int)+1) (by omega) (by omega)];have hz1:bk (D -e)=bk (e1 -e)++([]++bk (D -e1)):=by rw[eK,<-pT];congr 1;omega
 rw[hz1];simp only[dM];refine nN (σ:=Nat×qr UInt8×qr bo×qr bq) (ev:=λi s (g:Int->H1->Int->Int->Nat->Nat->Int->H1->H1->Int->H1->H1->H1->H1->Int->Int->Int->qr H1->qr H1->Hx (Int×Nat×Nat×Int×H1×H1×Int×qr H1))=>g no (aB cC tags) tags.length i L L o (aB bV Sp) (aB jF sh) ((no:Int)+1) (aB cC tags) (ae (cm subs) (gR subs)) (ag blob) (gN S.bR) S.at_ S.cJ S.next ((pre++(bk (e1 -e)++(s.2.1 ++(bk (D -s.1)++post)))).map aZ) (s.2.2.1.flatMap bT))
  (Inv:=λi s=>cq s.1 (tags.drop i)=e2/\e1+s.2.1.length=s.1 /\s.2.1 ++gI o s.1 (tags.drop i)=gI o e1 tags/\s.2.2.1 ++eu o s.1 (tags.drop i)=eu o e1 tags/\s.2.2.2 ++dr no s.1 (tags.drop i)=dr no e1 tags/\∀y∈s.2.2.2,y.nX=3/\y.dir=(no:Int)/\∃t∈tags.take i,y.tag=t.tag) tags.length (e1,[],[],[]) ?_ ?_ ?_ (by omega)
 ·exact⟨by simpa using he2,by simp,by simp,by simp,by simp,λy hy=>by cases hy⟩
 ·rintro i g ⟨ei,X,es,Q⟩ hi ⟨h1,h2,h3,h4,h5,h6⟩
  simp only at h1 h2 h3 h4 h5 h6;have hmem:=cA hi;obtain⟨ht1,ht2⟩:=htg _ hmem;have iO:=hd.2.2.2.1 _ hmem;have hel:(es.flatMap bT).length<=1000000000:=by
   rw[da kY];have:es.length<=tags.length:=by have:=bY List.length h4;rw[aT,rT,rT] at this;omega
   omega
  rw[dk hi] at h1 h3 h4 h5;rw[Rh] at h1;rw[amd] at h3;rw[aaO] at h4;rw[alx] at h5;have e0:((i:Int)<(tags.length:Int)):=by omega
  have tt:∀(t:aL)(r:qr H1),cC t++r=.int .i64 t.tag::.int .i64 t.ty::.int .i64 t.az::ag t.data::r:=λ_ _=>rfl;by_cases h0:bQ tags[i].ty tags[i].az=0
  ·rw[ay h0] at h1 h3 h4 h5;refine⟨(ei,X,es++[⟨tags[i].tag,tags[i].ty,tags[i].az,pC o tags[i]⟩],Q),⟨h1,h2,h3,by rw[<-h4];simp,h5,λy hy=>?_⟩,?_⟩
   ·obtain⟨a,b,t,c,q⟩:=h6 y hy;exact⟨a,b,t,by rw[iI hi];exact fT.2 (.inl c),q⟩
   ·simp only[aU,e0,aY,aE,bP];rw[bn gW hi];simp only[tt,aX,bu];rw[akv (by omega) tags[i] ht2 (by omega) (by omega) ho ht1 h0];simp only[aA];rw[OO w ⟨tags[i].tag,tags[i].ty,tags[i].az,pC o tags[i]⟩ _ hel];simp only[aA];rw[aP (by omega) (by omega),fD];simp only[dN,lH,ea];rfl
  ·rw[aq h0] at h1 h3 h4 h5;have hout:=yf ht2;have hoL:bQ tags[i].ty tags[i].az=tags[i].data.length:=by rw[hout] at h0⊢;split<;>simp_all
   have hge:=qN (tags.drop (i+1)) (aI ei+bQ tags[i].ty tags[i].az);rw[h1] at hge;have hev:=nG ei;have hpd:=qq ei;have hvB:(lG o tags[i]).length=bQ tags[i].ty tags[i].az:=by rw[zA,hoL]
   refine⟨(aI ei+bQ tags[i].ty tags[i].az,X++(dU ei++lG o tags[i]),es++[⟨tags[i].tag,tags[i].ty,tags[i].az,aI ei⟩],Q++[⟨3,no,tags[i].tag,aI ei,bQ tags[i].ty tags[i].az⟩]),⟨h1,?_,by rw[<-h3];simp,by rw[<-h4];simp,by rw[<-h5];simp,λy hy=>?_⟩,?_⟩
   ·simp only[aT,hvB];omega
   ·rcases fT.1 hy with hy|hy
    ·obtain⟨a,b,t,c,q⟩:=h6 y hy;exact⟨a,b,t,by rw[iI hi];exact fT.2 (.inl c),q⟩
    ·rw[nj.1 hy];exact⟨rfl,rfl,tags[i],by rw[iI hi];exact fT.2 (.inr (by simp)),rfl⟩
   ·simp only[aU,e0,aY,aE,bP];rw[bn gW hi];simp only[tt,aX,bu];have hSpi:Sp=(A++(⟨2,no,0,aI e,6+12*N⟩::Q))++⟨3,no,tags[i].tag,aI ei,bQ tags[i].ty tags[i].az⟩::(dr no (aI ei+bQ tags[i].ty tags[i].az) (tags.drop (i+1))++(gz (no+1) e2 (aR subs)++(bS++B))):=by
     rw[hSp1,<-h5];simp
    have hbuf:pre++(bk (e1 -e)++(X++(bk (D -ei)++post)))=(pre++(bk (e1 -e)++(X++dU ei)))++(bk (bQ tags[i].ty tags[i].az)++(bk (D -(aI ei+bQ tags[i].ty tags[i].az))++post)):=by
     have:bk (D -ei)=dU ei++(bk (bQ tags[i].ty tags[i].az)++bk (D -(aI ei+bQ tags[i].ty tags[i].az))):=by rw[Mf,<-pT,<-pT];congr 1;omega
     rw[this];simp
    have hpl:(pre++(bk (e1 -e)++(X++dU ei))).length=aI ei:=by simp only[aT,jo];omega
    have hq:=akw (w:=w) (by omega) tags[i] ht2 (by omega) (by omega) ho ht1 h0 (no:Int) (A:=A++(⟨2,no,0,aI e,6+12*N⟩::Q)) (B:=dr no (aI ei+bQ tags[i].ty tags[i].az) (tags.drop (i+1))++(gz (no+1) e2 (aR subs)++(bS++B))) (x:=⟨3,no,tags[i].tag,aI ei,bQ tags[i].ty tags[i].az⟩) (by rw[<-hSpi];exact tJ) (by rw[<-hSpi];exact vx) (λy hy=>by
     unfold mz;rcases fT.1 hy with hy|hy
     ·have:=hA y hy;have:(y.dir==(no:Int))=false:=by simp;omega
      rw[this];simp
     ·rcases cZ.1 hy with rfl|hy
      ·rfl
      ·obtain⟨-,-,t,c,q⟩:=h6 y hy;obtain⟨j,hj,rfl⟩:=List.getElem_of_mem c;rw[dE] at hj;rw[List.getElem_take] at q;have:=vX htr (show j<i by omega) hi;have:(y.tag==tags[i].tag)=false:=by simp;omega
       rw[this];simp) (by simp[mz]) (pre++(bk (e1 -e)++(X++dU ei))) (bk (bQ tags[i].ty tags[i].az)) (bk (D -(aI ei+bQ tags[i].ty tags[i].az))++post) (by rw[jo,hoL]) hpl.symm (L:=L) (by rw[hlenL];simp only[aT,jo];omega) (aB jF sh) ((no:Int)+1)
    rw[<-hSpi,<-hbuf] at hq;rw[hq];simp only[aA];rw[hpl];rw[OO w ⟨tags[i].tag,tags[i].ty,tags[i].az,aI ei⟩ _ hel];simp only[aA];rw[aP (by omega) (by omega),fD];simp only[dN,lH,ea,dM];rfl
 ·rintro g ⟨ei,X,es,Q⟩ ⟨h1,h2,h3,h4,h5,h6⟩
  simp only[rG,cq,gI,eu,dr,ea] at h1 h2 h3 h4 h5 h6;subst h1 h3 h4;have e0:ak (tags.length:Int) (tags.length:Int)=false:=by simp
  simp only[e0,aD];rw[CW,cd];have hsl:=uD subs;have sg:∀(p:Int×aV)(r:qr H1),gB p++r=.int .i64 p.1 ::dT p.2 ::dS p.2 ::dB p.2 ::r:=by intro p r;unfold gB;rw[qk];rfl
  have hvlen:(gI o e1 tags).length=ei -e1:=by omega
  generalize hV:gI o e1 tags=V at*;rw[show(no:Int)+1=((no+1:Nat):Int) by omega];refine nN (σ:=Nat×Nat×qr UInt8×qr bo×qr bq) (ev:=λi s (g:Int->H1->Int->Int->Nat->Nat->Int->H1->H1->Int->H1->H1->H1->H1->Int->Int->Int->qr H1->qr H1->Hx (Int×Nat×Nat×Int×H1×H1×Int×qr H1))=>g no (aB gB (aR subs)) (aR subs).length i L L o (aB bV Sp) (aB jF sh) (s.2.1 :Nat) (aB cC tags) (aB gB (aR subs)) (ag blob) (gN S.bR) S.at_ S.cJ S.next ((pre++(bk (e1 -e)++(s.2.2.1 ++(bk (D -s.1)++post)))).map aZ) (s.2.2.2.1.flatMap bT))
   (Inv:=λi s=>ij s.1 ((aR subs).drop i)=e3/\s.2.1 +gm ((aR subs).drop i)=no+1+gm (aR subs)/\e1+s.2.2.1.length=s.1 /\s.2.2.1 ++mL o sh S s.1 ((aR subs).drop i)=V++mL o sh S ei (aR subs)/\s.2.2.2.1 ++oz s.1 ((aR subs).drop i)=eu o e1 tags++oz ei (aR subs)/\s.2.2.2.2 ++gz s.2.1 s.1 ((aR subs).drop i)=gz (no+1) ei (aR subs)/\no+1<=s.2.1 /\s.2.2.2.1.length=tags.length+i/\∀y∈s.2.2.2.2,y.dir<(s.2.1 :Int)) (aR subs).length (ei,no+1,V,eu o e1 tags,[]) ?_ ?_ ?_ ?_
  ·exact⟨by rw[ew,<-JT];exact he3,by simp,by simp only;omega,by simp,by simp,by simp,aM _,by simp[rT],λy hy=>by cases hy⟩
  ·rintro i g ⟨fi,ni,X,es,R⟩ hi ⟨k1,k2,k3,k4,k5,k6,k7,k8,k9⟩
   simp only at k1 k2 k3 k4 k5 k6 k7 k8 k9;have hmem:=cA hi;rw[dk hi] at k1 k2 k4 k5 k6;rw[ij] at k1;rw[gm] at k2;rw[mL] at k4;rw[oz] at k5;rw[gz] at k6;obtain⟨p1,p2⟩:=KG hss _ hmem;have hge:=DX ((aR subs).drop (i+1)) (bE fi (aR subs)[i].2);have hge2:=An (aR subs)[i].2 fi;have hbl2:=tr o sh (aR subs)[i].2 ((lN S (aR subs)[i].1).getD 0) 0 fi p2;rw[k1] at hge;have e5:((i:Int)<((aR subs).length:Int)):=by omega
   rcases K5 S (aR subs)[i].1 with⟨-,hb0⟩|⟨k,hk,ek,-,e2⟩
   ·rw[p1] at hb0;cases hb0
   have hlk:=hSlk _ (cA hk);have hsh2:((S.bR[k].shape.toNat:Nat):Int)=S.bR[k].shape:=mD (by omega);rw[e2] at p2 k4 hbl2;refine⟨(bE fi (aR subs)[i].2,ni+dI (aR subs)[i].2,X++jf o sh S.bR[k].shape.toNat 0 fi (aR subs)[i].2,es++[⟨(aR subs)[i].1,4,1,aI fi⟩],R++ga ni fi (aR subs)[i].2),⟨k1,by simp only;omega,by simp only[aT];omega,by rw[<-k4];simp,by rw[<-k5];simp,by rw[<-k6];simp,by simp only;omega,by simp only[aT,wU];omega,λy hy=>?_⟩,?_⟩
   ·rcases fT.1 hy with hy|hy
    ·have:=k9 y hy;simp only;omega
    ·have:=Pz hy;simp only;omega
   ·simp only[aU,e5,aY,aE,bP];rw[bn uB hi];simp only[sg,aX,bu];rw[aky _ _ _ _ _ (by omega) (by omega),ek];simp only[aA,bP];unfold gN;rw[bn tN hk];have lg:∀(x:iJ)(r:qr H1),(mh x++r).drop 1=.int .i64 x.shape::r:=λ_ _=>rfl;simp only[lg,aX,bu];have hSpi:Sp=(A++(⟨2,no,0,aI e,6+12*N⟩::(dr no e1 tags++R)))++(ga ni fi (aR subs)[i].2 ++(gz (ni+dI (aR subs)[i].2) (bE fi (aR subs)[i].2) ((aR subs).drop (i+1))++(bS++B))):=by
     rw[hSp1,<-k6];simp
    have hzz:bk (D -fi)=bk (bE fi (aR subs)[i].2 -fi)++bk (D -bE fi (aR subs)[i].2):=by rw[<-pT];congr 1;omega
    have hbuf:pre++(bk (e1 -e)++(X++(bk (D -fi)++post)))=(pre++(bk (e1 -e)++X))++(bk (bE fi (aR subs)[i].2 -fi)++(bk (D -bE fi (aR subs)[i].2)++post)):=by rw[hzz];simp
    have hpl:(pre++(bk (e1 -e)++X)).length=fi:=by simp only[aT,jo];omega
    have hr:=hrec _ hmem S.bR[k].shape.toNat (by omega) p2 ni fi (A++(⟨2,no,0,aI e,6+12*N⟩::(dr no e1 tags++R))) (gz (ni+dI (aR subs)[i].2) (bE fi (aR subs)[i].2) ((aR subs).drop (i+1))++(bS++B)) (pre++(bk (e1 -e)++X)) (bk (D -bE fi (aR subs)[i].2)++post) (λy hy=>by
     rcases fT.1 hy with hy|hy
     ·have:=hA y hy;omega
     ·rcases cZ.1 hy with rfl|hy
      ·simp only;omega
      ·rcases fT.1 hy with hy|hy
       ·have:=(CS hy).2.1;omega
       ·exact k9 y hy) hpl hSpi (by rw[hlenL];simp only[aT,jo];omega) (by omega)
    rw[hsh2] at hr;unfold cu at hr;rw[<-hbuf] at hr;rw[hr];simp only[aA,cj,aY,aE];unfold uq;simp only[aA];rw[OO w ⟨(aR subs)[i].1,4,1,aI fi⟩ _ (by rw[da kY];omega)];simp only[aA,cc];rw[aP (by omega) (by omega)];simp only[fD,dN,lH,ea,dM];rfl
  ·rintro g ⟨fi,ni,X,es,R⟩ ⟨k1,k2,k3,k4,k5,k6,k7,k8,k9⟩
   simp only[rG,ij,gm,mL,oz,gz,ea,Nat.add_zero] at k1 k2 k3 k4 k5 k6 k7 k8 k9;subst k1 k2 k4 k5;have e6:ak ((aR subs).length:Int) ((aR subs).length:Int)=false:=by simp
   simp only[e6,aD];rw[cI];have hE2:eu o e1 tags++oz ei (aR subs)++hM S fi blob=E:=by rw[<-hE,Rn];simp
   have hbD:jf o sh s 0 e (.mk tags subs blob)=dU e++(kG o (gu E) 0++(V++(mL o sh S ei (aR subs)++(if blob.length=0 then[] else dU fi++blob)))):=by rw[jf,hN,he1,he2,he3,hS,hE,QI,hV]
   have hpl:(pre++dU e).length=aI e:=by have:=qq e;rw[aT];omega
   have hz2:bk (e1 -e)=dU e++bk (6+12*E.length):=by rw[Mf,<-pT];congr 1;omega
   have hfin:∀post':qr UInt8,L=(pre++(bk (e1 -e)++post')).length->DN w no L L o (aB bV Sp) (aB jF sh) ((no+1+gm (aR subs):Nat):Int) ((pre++(bk (e1 -e)++post')).map aZ) (E.flatMap bT)=
    some ((aI e:Int),L,L,o,aB bV Sp,aB jF sh,((no+1+gm (aR subs):Nat):Int),(pre++(dU e++(kG o (gu E) 0++post'))).map aZ):=by
    intro post' hLp;have hb:pre++(bk (e1 -e)++post')=(pre++dU e)++(bk (6+12*E.length)++post'):=by rw[hz2];simp
    have:=aar (w:=w) (by omega) hEap hEne hEo (by omega) (by omega) (A:=A) (B:=dr no e1 tags++(gz (no+1) ei (aR subs)++(bS++B))) (x:=⟨2,no,0,aI e,6+12*N⟩) (by rw[<-hSp1];exact tJ) (by rw[<-hSp1];exact vx) (no:Int) (λy hy=>by
     have:=hA y hy;unfold mz;have:(y.dir==(no:Int))=false:=by simp;omega
     rw[this];simp) (by simp[mz]) (pre++dU e) post' hpl.symm (L:=L) (by rw[<-hb];exact hLp) (by omega) ho (aB jF sh) ((no+1+gm (aR subs):Nat):Int)
    rw[<-hSp1,<-hb,hpl] at this;rw[this];simp
   by_cases hb0:blob.length=0
   ·rw[ay hb0] at hend hbS;have hB0:hM S fi blob=[]:=by unfold hM;rw[ay hb0]
    rw[hB0,ea] at hE2;have e7:ak 0 (Int.ofNat blob.length)=false:=by rw[hb0];rfl
    simp only[e7,aD];rw[hE2,hbD,ay hb0];refine(hfin _ (by rw[hlenL];simp only[aT,jo] at*;omega)).trans ?_;rw[show D -fi=0 by omega];simp only[bk,List.replicate_zero,eK,ea,dM]
    congr 9
    omega
   ·rw[aq hb0] at hend hbS;have hB0:hM S fi blob=[⟨S.at_,4,1,aI fi⟩,⟨S.cJ,4,1,blob.length⟩]:=by unfold hM;rw[aq hb0]
    have e7:ak 0 (Int.ofNat blob.length)=true:=by simp;omega
    have hpf:=qq fi;simp only[e7,aE];have hSpi:Sp=(A++(⟨2,no,0,aI e,6+12*N⟩::(dr no e1 tags++gz (no+1) ei (aR subs))))++⟨4,no,0,aI fi,blob.length⟩::B:=by rw[hSp1,<-hbS];simp
    have hq:=OW (w:=w) (A:=A++(⟨2,no,0,aI e,6+12*N⟩::(dr no e1 tags++gz (no+1) ei (aR subs)))) (B:=B) (x:=⟨4,no,0,aI fi,blob.length⟩) (by rw[<-hSpi];exact tJ) (by rw[<-hSpi];exact vx) 4 (no:Int) 0 (λy hy=>by
     unfold mz;rcases fT.1 hy with hy|hy
     ·have:=hA y hy;have:(y.dir==(no:Int))=false:=by simp;omega
      rw[this];simp
     ·rcases cZ.1 hy with rfl|hy
      ·rfl
      ·rcases fT.1 hy with hy|hy
       ·rw[(CS hy).1];rfl
       ·rw[<-Is] at hy;have:=(PA hy).1;have:(y.dir==(no:Int))=false:=by simp;omega
        rw[this];simp) (by simp[mz])
    rw[<-hSpi] at hq;rw[hq];simp only[aA,bP];have hbuf:pre++(bk (e1 -e)++(V++mL o sh S ei (aR subs)++(bk (D -fi)++post)))=(pre++(bk (e1 -e)++(V++mL o sh S ei (aR subs)++dU fi)))++(bk blob.length++post):=by
     have:bk (D -fi)=dU fi++bk blob.length:=by rw[Mf,<-pT];congr 1;omega
     rw[this];simp
    have hpl2:(pre++(bk (e1 -e)++(V++mL o sh S ei (aR subs)++dU fi))).length=aI fi:=by simp only[aT,jo] at*;omega
    rw[hbuf];have hcp:=JI (pre++(bk (e1 -e)++(V++mL o sh S ei (aR subs)++dU fi))) blob (bk blob.length) post (jo _) (L:=L) (by rw[hlenL];simp only[aT,jo] at*;omega) (λcs=>ob (uq w S.at_ (aI fi:Int)) λ(x144:Int×Int×Int×Int)=>aw (ag blob) λ(x145:Nat)=>ob (uq w S.cJ (Int.ofNat x145)) λ(x146:Int×Int×Int×Int)=>
     ob (Cs w [Value.int IntKind.i64 x144.fst,Value.int IntKind.i64 x144.snd.fst,Value.int IntKind.i64 x144.snd.snd.fst,Value.int IntKind.i64 x144.snd.snd.snd,Value.int IntKind.i64 x146.fst,Value.int IntKind.i64 x146.snd.fst,Value.int IntKind.i64 x146.snd.snd.fst,Value.int IntKind.i64 x146.snd.snd.snd] ((eu o e1 tags++oz ei (aR subs)).flatMap bT)) λ(x147:qr H1)=>DN w no L L o (aB bV Sp) (aB jF sh) ((no+1+gm (aR subs):Nat):Int) cs x147)
    rw[hpl2] at hcp;refine Eq.trans hcp ?_;unfold uq;simp only[aA,cI];have hlen2:(eu o e1 tags++oz ei (aR subs)).length<=70000:=by have:=bY List.length hE2;rw[aT] at this;omega
    have h260:=aku w ⟨S.at_,4,1,aI fi⟩ ⟨S.cJ,4,1,blob.length⟩ ((eu o e1 tags++oz ei (aR subs)).flatMap bT) (by rw[da kY];omega);simp only[bU] at h260⊢;rw[h260];simp only[aA];have hEc:(eu o e1 tags++oz ei (aR subs)).flatMap bT++(bT ⟨S.at_,4,1,aI fi⟩++bT ⟨S.cJ,4,1,blob.length⟩)=E.flatMap bT:=by rw[<-hE2,hB0];simp[fD]
    rw[hEc];have hbuf2:(pre++(bk (e1 -e)++(V++mL o sh S ei (aR subs)++dU fi)))++(blob++post)=pre++(bk (e1 -e)++(V++(mL o sh S ei (aR subs)++(dU fi++(blob++post))))):=by simp
    rw[hbuf2,hbD,aq hb0];refine(hfin _ (by rw[hlenL];simp only[aT,jo] at*;omega)).trans ?_;simp only[dM]
    congr 9
    omega
  ·omega
theorem Q3{w m:Nat}{sh:qr bg}{o:Int}{L:Nat}{Sp:qr bq}(H:zQ w m sh o L Sp)(z:H1->H1->H1->Int->Nat->Nat->Int->H1->H1->Int->qr H1->Hx (Int×Nat×Nat×Int×H1×H1×Int×qr H1)):
 ∀(n:Nat)(d:aV)(s:Nat),gq d<=n->s<sh.length->iK m d->cR sh s d=true->zK sh o L Sp (mc z (It w) n) d s
 |0,d,s,h,_,_,_=>by obtain⟨tags,subs,blob⟩:=d;unfold gq at h;omega
 |n+1,d,s,h,hs,hd,hh=>by refine alG H _ d s hs hd hh ?_;obtain⟨tags,subs,blob⟩:=d;intro p hp k hk hpk;have hp:p∈aR subs:=hp;have:=DR p hp;unfold gq at h;exact Q3 H z n p.2 k (by omega) hk (xf hd.2.2.2.2 p hp) hpk
theorem akh{w m:Nat}{sh:qr bg}{o:Int}{L:Nat}{Sp:qr bq}(H:zQ w m sh o L Sp)(d:aV)(s:Nat)(hs:s<sh.length)(hd:iK m d)(hh:cR sh s d=true)(kg:gq d<=w):zK sh o L Sp (Hg w) d s:=Q3 H _ w d s kg hs hd hh
theorem ZP(o:Int)(sh:qr bg)(s next e:Nat)(d:aV)(hh:cR sh s d=true):∃a b,jf o sh s next e d=a++(bc next 4 o++b)/\e+a.length=aI e+(2+12*bF d)/\∀n,jf o sh s n e d=a++(bc n 4 o++b):=by
 obtain⟨tags,subs,blob⟩:=d;have hl:∀E,E=gu (eu o (aI e+(6+12*bF (.mk tags subs blob))) tags++(iB (cq (aI e+(6+12*bF (.mk tags subs blob))) tags) subs++hM (aQ sh s) (eA (cq (aI e+(6+12*bF (.mk tags subs blob))) tags) subs) blob))->E.length=bF (.mk tags subs blob):=by
  rintro E rfl
  rw[xM,aT,aT,rT,As,DY];show _=tags.length+cm subs+(if blob.length=0 then 0 else 2);omega
 obtain⟨E,hE⟩:∃E,gu (eu o (aI e+(6+12*bF (.mk tags subs blob))) tags++(iB (cq (aI e+(6+12*bF (.mk tags subs blob))) tags) subs++hM (aQ sh s) (eA (cq (aI e+(6+12*bF (.mk tags subs blob))) tags) subs) blob))=E:=⟨_,rfl⟩;refine⟨dU e++(bc E.length 2 o++E.flatMap (jg o)),gI o (aI e+(6+12*bF (.mk tags subs blob))) tags++(jM o sh (aQ sh s) (cq (aI e+(6+12*bF (.mk tags subs blob))) tags) subs++(if blob.length=0 then[] else dU (eA (cq (aI e+(6+12*bF (.mk tags subs blob))) tags) subs)++blob)),by rw[jf,hE];unfold kG;simp,?_,?_⟩
 ·have:=qq e;simp only[aT,eI,xB,(hl E hE.symm)];omega
 ·intro n;rw[jf,hE];unfold kG;simp
theorem Zn{o:Int}(ho:o=1\/o=2):bc 0 4 o=bk 4:=by rcases ho with rfl|rfl<;>rfl
theorem aaF:∀{ds:qr aV}{e:Nat},ds≠[]->aI e+6<=eG e ds
 |[],_,h=>by grind
 |d::ds,e,_=>by rw[eG];have:=Mr (d:=d) (e:=e);have:=ql ds (bE e d);omega
noncomputable def PZ(w:Nat):H1->Int->Int->H1->Int->Int->Nat->Nat->Int->H1->H1->Int->qr H1->Hx (H1×Int):=
 lp (λ(x55:H1)(x56 x57:Int)(x58:H1)(x59 x60:Int)(x61 x62:Nat)(x63:Int)(x64 x65:H1)(x66:Int)(x67:qr H1)=>none) (λ(x68:H1->Int->Int->H1->Int->Int->Nat->Nat->Int->H1->H1->Int->qr H1->Hx (H1×Int))(x69:H1)(x70 x71:Int)(x72:H1)(x73 x74:Int)(x75 x76:Nat)(x77:Int)(x78 x79:H1)(x80:Int)(x81:qr H1)=>bif ak x74 x73 then aF x74 λ(x82:Nat)=>aJ 3 x82 x72 λ(x83:qr H1)=>af x83 λ(x84:H1)(x85:qr H1)=>af x85 λ(x86:H1)(x87:qr H1)=>af x87 λ(x88:H1)(x89:qr H1)=>ob (Hg w x84 x86 x88 x70 x75 x76 x77 x78 x79 x80 x81) λ(x90:Int×Nat×Nat×Int×H1×H1×Int×qr H1)=>ob (sO w x71 x90.fst 4 x90.snd.fst x90.snd.snd.fst x90.snd.snd.snd.fst x90.snd.snd.snd.snd.fst x90.snd.snd.snd.snd.snd.fst x90.snd.snd.snd.snd.snd.snd.fst x90.snd.snd.snd.snd.snd.snd.snd) λ(x91:Nat×Nat×Int×H1×H1×Int×qr H1)=>ob (kL w x84 x86 x88) λ(x92:Int)=>aF x70 λ(x93:Nat)=>aJ 4 x93 x69 λ(x94:qr H1)=>af (List.drop 3 x94) λ(x95:H1)(x96:qr H1)=>au IntKind.i64 x95 λ(x97:Int)=>x68 x69 x97 (ah IntKind.i64 ((ah IntKind.i64 (Int.add x90.fst 2)).add (ah IntKind.i64 (Int.mul 12 x92)))) x72 x73 (ah IntKind.i64 (x74.add 1)) x91.fst x91.snd.fst x91.snd.snd.fst x91.snd.snd.snd.fst x91.snd.snd.snd.snd.fst x91.snd.snd.snd.snd.snd.fst x91.snd.snd.snd.snd.snd.snd else some (ae x75 (List.drop 0 x81),0)) w
theorem amm{w m:Nat}{sh:qr bg}{o:Int}{L:Nat}{Sp:qr bq}(H:zQ w m sh o L Sp)(ds:qr aV)(iO:ds.length<=m)(hd:oo m ds)(kg:kV ds<=w)(hh:gG sh 0 ds=true)(hs0:0<sh.length)(hds:ds≠[])(hSp:Sp=eJ ⟨o,ds⟩)(tK:ig ds<2^39)(hLe:L=eG 8 ds)(pre0:qr UInt8)(hp0:pre0.length=4):
 PZ w (cu sh) 0 (pre0.length:Int) (dc ds) ds.length 0 L L o (aB bV Sp) (cu sh) 0 ((pre0++(bk 4++([]++bk (L -8)))).map aZ)=some (ag (pre0++(bc 8 4 o++chainB o sh 0 8 ds)),0):=by
 have H0:=H;obtain⟨hm,hw,hsh,hl,ho,hLt,tJ,vx,AF⟩:=H;have h8:=ql ds 8;unfold PZ dc;have key:∀(e:Nat)(rest:qr aV),(if rest.isEmpty then 0 else aI e)<4294967296\/True:=λ_ _=>.inr trivial;refine nN (σ:=Nat×Nat×Int×qr UInt8×qr UInt8×qr bq) (ev:=λi s (g:H1->Int->Int->H1->Int->Int->Nat->Nat->Int->H1->H1->Int->qr H1->Hx (H1×Int))=>g (cu sh) s.2.2.1 (s.2.2.2.1.length:Int) (aB dw ds) ds.length i L L o (aB bV Sp) (cu sh) (s.2.1 :Nat) ((s.2.2.2.1 ++(bk 4++(s.2.2.2.2.1 ++bk (L -s.1)))).map aZ))
  (Inv:=λi s=>eG s.1 (ds.drop i)=L/\s.2.1 +ig (ds.drop i)=ig ds/\gG sh s.2.2.1 (ds.drop i)=true/\s.2.2.1 <sh.length/\s.2.2.2.1.length+4+s.2.2.2.2.1.length=s.1 /\s.2.2.2.2.2 ++jn s.2.1 s.1 (ds.drop i)=Sp/\(∀y∈s.2.2.2.2.2,y.dir<(s.2.1 :Int))/\
   s.2.2.2.1 ++(bc (if(ds.drop i).isEmpty then 0 else aI s.1) 4 o++(s.2.2.2.2.1 ++chainB o sh s.2.2.1 s.1 (ds.drop i)))=pre0++(bc 8 4 o++chainB o sh 0 8 ds)) ds.length (8,0,0,pre0,[],[⟨1,-1,0,0,8⟩]) ?_ ?_ ?_ (by omega)
 ·refine⟨hLe.symm,by simp,hh,by simp only;omega,by simp only[hp0,List.length_nil],by rw[hSp];rfl,λy hy=>by rw[nj.1 hy];show(-1:Int)<((0:Nat):Int);decide,?_⟩;rw[ew];have:ds.isEmpty=false:=by cases ds with
   |nil=>exact absurd rfl hds
   |cons _ _=>rfl
  simp only[this,kO,gY,eK];rfl
 ·rintro i g ⟨e,no,s,P,M,R⟩ hi ⟨h1,h2,h3,h4,h5,h6,h7,h9⟩
  simp only at h1 h2 h3 h4 h5 h6 h7 h9;have hmem:=cA hi;rw[dk hi] at h1 h2 h3 h6 h9;rw[eG] at h1;rw[ig] at h2;rw[jn] at h6;rw[chainB] at h9;simp only[gG,bB,cf] at h3;obtain⟨k1,k2,k3⟩:=h3;have hs:(s.toNat:Int)=s:=mD k1;have hst:s.toNat<sh.length:=by omega
  have hnx:=hsh.next s.toNat hst;have hge:=ql (ds.drop (i+1)) (bE e ds[i]);have hge2:=An ds[i] e;have hpos:=Mr (d:=ds[i]) (e:=e);have hev:=nG e;have hbl:=tr o sh ds[i] s.toNat 0 e k2;obtain⟨a,b,q1,q2,q3⟩:=ZP o sh s.toNat 0 e ds[i] k2;have hcp:=aab ds[i];have h10:=DQ hmem;have e1:((i:Int)<(ds.length:Int)):=by omega
  refine⟨(bE e ds[i],no+dI ds[i],(aQ sh s.toNat).next,P++(bc (aI e) 4 o++(M++a)),b,R++ga no e ds[i]),⟨h1,by simp only;omega,k3,by simp only;omega,?_,by rw[<-h6];simp,λy hy=>?_,?_⟩,?_⟩
  ·simp only[aT,eI];have:=bY List.length q1;simp only[aT,eI] at this;omega
  ·rcases fT.1 hy with hy|hy
   ·have:=h7 y hy;simp only;omega
   ·have:=Pz hy;simp only;omega
  ·rw[<-h9];have:pG e ds[i] (ds.drop (i+1))=if(ds.drop (i+1)).isEmpty then 0 else aI (bE e ds[i]):=rfl;rw[q3,this];simp only[List.isEmpty_cons,kO,gY,dM]
  ·simp only[aU,e1,aY,aE,bP];rw[bn kW hi];simp only[Al,aX];have hzz:bk (L -e)=bk (bE e ds[i] -e)++bk (L -bE e ds[i]):=by rw[<-pT];congr 1;omega
   have hLl:L=((P++(bk 4++M))++(bk (bE e ds[i] -e)++bk (L -bE e ds[i]))).length:=by simp only[aT,jo];omega
   have hW:=akh H0 ds[i] s.toNat hst (hd _ hmem) k2 (by omega) no e R (jn (no+dI ds[i]) (bE e ds[i]) (ds.drop (i+1))) (P++(bk 4++M)) (bk (L -bE e ds[i])) h7 (by simp only[aT,jo];omega) h6.symm hLl (by omega);have hb1:P++(bk 4++(M++bk (L -e)))=(P++(bk 4++M))++(bk (bE e ds[i] -e)++bk (L -bE e ds[i])):=by rw[hzz];simp
   rw[hs] at hW;rw[hb1,hW];simp only[aA];have hb2:(P++(bk 4++M))++(jf o sh s.toNat 0 e ds[i]++bk (L -bE e ds[i]))=P++(bk 4++(M++(jf o sh s.toNat 0 e ds[i]++bk (L -bE e ds[i])))):=by simp
   rw[hb2,OE (by omega) P (bk 4) (M++(jf o sh s.toNat 0 e ds[i]++bk (L -bE e ds[i]))) (aI e) 4 (.inr rfl) (by omega) ho _ _ _ (jo 4) L (by simp only[aT,jo];omega) (by omega) (P.length:Int) rfl (4:Int) rfl ((aI e:Nat):Int) rfl];simp only[aA];have h203:kL w (dT ds[i]) (dS ds[i]) (dB ds[i])=some (bF ds[i]:Int):=by have hsm:=hd _ hmem;generalize ds[i]=d at hsm⊢;obtain⟨tags,subs,blob⟩:=d;have hsm:tags.length<=m/\cm subs<=m/\blob.length<=m/\(∀t∈tags,t.data.length<=m)/\iL m subs:=hsm;exact Hh w tags subs blob (by omega)
   rw[h203];simp only[aA,cc,oD];rw[lU k1];have hS:sh[s.toNat]=aQ sh s.toNat:=by unfold aQ;rw[cG hst];rfl
   have tg:∀(S:bg)(r:qr H1),(jF S++r).drop 3=.int .i64 S.next::r:=λ_ _=>rfl;have hsv:cu sh=aB jF sh:=rfl;rw[hsv,bn zn hst,hS];simp only[tg,aX,bu];have hen:bF ds[i]<=65535:=by generalize ds[i]=d at k2;obtain⟨tags,subs,blob⟩:=d;simp only[cR,bB,cf] at k2;exact k2.1.2
   rw[aP (n:=12*(bF ds[i]:Int)) (by omega) (by omega),aP (n:=((aI e:Nat):Int)+2) (by omega) (by omega),aP (n:=((aI e:Nat):Int)+2+12*(bF ds[i]:Int)) (by omega) (by omega),aP (n:=(i:Int)+1) (by omega) (by omega)];have ek:((aI e:Nat):Int)+2+12*(bF ds[i]:Int)=(((P++(bc (aI e) 4 o++(M++a))).length:Nat):Int):=by simp only[aT,eI];omega
   rw[ek,q1,Zn ho];simp only[dM];rfl
 ·rintro g ⟨e,no,s,P,M,R⟩ ⟨h1,h2,h3,h4,h5,h6,h7,h9⟩
  simp only[rG,eG,chainB,ea,List.isEmpty_nil,dW] at h1 h5 h9;have e1:¬((ds.length:Int)<(ds.length:Int)):=by omega
  simp only[aU,e1,bL,aD,ew];rw[<-h9,Zn ho,show L -e=0 by omega];simp only[bk,List.replicate_zero,ea];rw[ve _ _ (by simp only[aT,uM];omega)]
structure o8(w m:Nat)(sh:List bg)(o:Int)(ds:List aV):Prop where
 hm:m<2^28
 hw:2*m+1000<=w
 AF:70000<=w
 ok:jd sh
 tI:rl w (cu sh)=some true
 s0:0<sh.length
 bR:∀s,s<sh.length->(aQ sh s).bR.length<=m
 ho:o=1\/o=2
 cL:ds≠[]
 iO:ds.length<=m
 hd:oo m ds
 kg:kV ds<=w
 hh:gG sh 0 ds=true
 he:eG 8 ds<=1000000000
 vx:(eJ ⟨o,ds⟩).length<w
 KE:(eJ ⟨o,ds⟩).length*5<=1000000000
 tK:ig ds<2^39
 xJ:wu w o (dc ds)=some true
theorem o8.cJ{w m:Nat}{sh:qr bg}{o:Int}{ds:qr aV}(T:o8 w m sh o ds):sN w o (dc ds)=some (eG 8 ds:Int):=by have:=T.he;have:=T.tK;have:=T.hw;exact ajJ T.hm (by omega) o ds T.xJ T.kg T.iO (by omega) T.KE (by omega) T.hd
theorem o8.laid{w m:Nat}{sh:qr bg}{o:Int}{ds:qr aV}(T:o8 w m sh o ds):yU w o (dc ds)=some (aB bV (eJ ⟨o,ds⟩),true):=by have:=T.he;have:=T.tK;have:=T.hw;rw[X1 T.hm (by omega) o ds T.xJ T.kg T.iO (by omega) T.KE (by omega) T.hd,ay (by omega)]
theorem o8.check{w m:Nat}{sh:qr bg}{o:Int}{ds:qr aV}(T:o8 w m sh o ds):um w o (dc ds) (cu sh)=some 0:=by have:=T.hw;have:=ql ds 8;exact akg T.hm (by omega) sh T.ok T.tI T.s0 T.bR T.ho ds T.cL T.iO T.hd T.kg T.hh (by omega) T.cJ
theorem VM(v:qr UInt8)(n:Nat)(pre:qr UInt8)(hv:v.length=2)(hp:pre.length=2){L:Nat}(hL:L=2+n):aW 0 (List.take (Nat.min 2 L*1) (v.map aZ)) ((pre++bk n).map aZ)=(v++bk n).map aZ:=by
 rw[eQ (by grind)];have:=MC [] v pre (bk n) (by omega) 0 rfl
 grind
theorem XO{w m:Nat}{sh:qr bg}{o:Int}{ds:qr aV}(T:o8 w m sh o ds):Cg w o (dc ds) (cu sh)=some (ag (eC ⟨o,ds⟩ sh),0):=by
 have t1:=T.he;have t2:=T.vx;have t3:=T.KE;have t4:=T.AF;have hpos:=aaF (e:=8) T.cL;have hev:aI 8=8:=rfl;unfold Cg F7 Nu;rw[T.check,T.cJ,T.laid];simp only[aA,show aj 0 0=true from rfl,bH,aD,bP];obtain⟨L,hL⟩:∃L,eG 8 ds=L:=⟨_,rfl⟩;rw[hL] at t1 hpos⊢;have r1:L.ble L=true:=by rw[iy];exact aM _
 have r2:L.ble 1000000000=true:=by rw[iy];exact t1
 have e2:Nat.min 2 L=2:=by show min _ _=_;omega
 have hrep:rep L (Value.int IntKind.u8 0).cells.toList=(bk L).map aZ:=sB L;have hz:bk L=bk 2++bk (L -2):=by rw[<-pT];congr 1;omega
 have r3:∀v:qr UInt8,v.length=L->(0+Nat.min 2 L*1).ble (v.map aZ).length=true:=by intro v hv;rw[e2,cD,hv,iy];omega
 simp only[r1,r2,jG,aE,hrep,np,eV];rw[r3 _ (jo L),aE];have m1:List.map (λ(b:UInt8)=>Value.int IntKind.u8 (Int.ofNat b.toNat)) (ByteArray.mk #[77,77]).data.toList=[(77:UInt8),77].map aZ:=rfl;have m2:List.map (λ(b:UInt8)=>Value.int IntKind.u8 (Int.ofNat b.toNat)) (ByteArray.mk #[73,73]).data.toList=[(73:UInt8),73].map aZ:=rfl;rw[m1,m2,hz,VM [77,77] (L -2) (bk 2) rfl rfl (by omega)];have hz2:bk (L -2)=bk 2++bk (L -4):=by rw[<-pT];congr 1;omega
 have hz3:bk (L -4)=bk 4++([]++bk (L -8)):=by rw[eK,<-pT];congr 1;omega
 have W:zQ w m sh o L (eJ ⟨o,ds⟩):=⟨T.hm,T.hw,T.ok,T.bR,T.ho,by omega,by omega,t2,t4⟩;have fin:∀sg:qr UInt8,sg.length=2->(ob (sO w 2 42 2 L L o (aB bV (eJ ⟨o,ds⟩)) (cu sh) 0 ((sg++bk (L -2)).map aZ)) λ(x53:Nat×Nat×Int×H1×H1×Int×qr H1)=>aw (dc ds) λ(x54:Nat)=>PZ w (cu sh) 0 4 (dc ds) (Int.ofNat x54) 0 x53.fst x53.snd.fst x53.snd.snd.fst x53.snd.snd.snd.fst x53.snd.snd.snd.snd.fst x53.snd.snd.snd.snd.snd.fst x53.snd.snd.snd.snd.snd.snd)=some (ag (sg++(bc 42 2 o++(bc 8 4 o++chainB o sh 0 8 ds))),0):=by
  intro sg hsg;rw[hz2,OE (by omega) sg (bk 2) (bk (L -4)) 42 2 (.inl rfl) (by decide) T.ho _ _ 0 (jo 2) L (by simp only[aT,jo];omega) (by omega) (2:Int) (by omega) (2:Int) rfl (42:Int) rfl];simp only[aA];unfold dc;rw[cd];have:=amm W ds T.iO T.hd T.kg T.hh T.s0 T.cL rfl T.tK hL.symm (sg++bc 42 2 o) (by rw[aT,eI,hsg]);have e4:(((sg++bc 42 2 o).length:Nat):Int)=4:=by rw[aT,eI,hsg];rfl
  rw[e4] at this;unfold dc at this;rw[hz3];simp at this⊢;exact this
 rcases T.ho with ho|ho
 ·have hb:=VM [73,73] (L -2) [77,77] rfl rfl (L:=L) (by omega);simp only[ho,show aj 1 1=true from rfl,aE];have r4:(0+Nat.min 2 L*1).ble (([77,77]++bk (L -2)).map aZ).length=true:=r3 _ (by simp[jo];omega);have f:=fin [73,73] rfl;rw[ho] at f;simp only[r4,hb,aE];refine Eq.trans ?_ (f.trans ?_)
  ·rfl
  ·unfold eC;rfl
 ·simp only[ho,show aj 2 1=false from rfl,aD];have f:=fin [77,77] rfl;rw[ho] at f;refine Eq.trans ?_ (f.trans ?_)
  ·rfl
  ·unfold eC;rfl
abbrev rM:=Nat×Nat×qr Nat×Nat
def WH(e:rM):H1:=.agg #[.int .i64 e.1,.int .i64 e.2.1]
def M4(e:rM):H1:=.agg #[ae e.2.2.1.length (e.2.2.1.map λt=>.int .i64 (Int.ofNat t)),.int .i64 e.2.2.2]
theorem Zd:∀l:qr rM,zy (l.map MZ)=some (l.map λe=>(WH e,M4 e))
 |[]=>rfl
 |e::l=>by show ob (zy (l.map MZ)) _=_;rw[Zd l];rfl
theorem ack(a b:Int)(e:rM):jz [.int .i64 a,.int .i64 b] [.int .i64 e.1,.int .i64 e.2.1]=some (decide (a=(e.1 :Int)/\b=(e.2.1 :Int))):=by
 unfold jz;unfold jz;unfold jz;by_cases h1:a=(e.1 :Int)
 ·by_cases h2:b=(e.2.1 :Int)
  ·simp_all
  ·simp_all
 ·simp[h1]
def qx(a b:Int)(e:rM):Bool:=decide (a=(e.1 :Int)/\b=(e.2.1 :Int))
theorem RL(a b:Int):∀(l:qr rM)(i:Nat),∃j,u0 [.int .i64 a,.int .i64 b] (l.map λe=>(WH e,M4 e)) i=some ((l.find? (qx a b)).map λe=>(j,M4 e))
 |[],i=>⟨0,rfl⟩
 |e::l,i=>by
  rw[iw,List.find?_cons];show∃j,(ob (jz [.int .i64 a,.int .i64 b] [.int .i64 e.1,.int .i64 e.2.1]) λq=>cond q _ _)=_;rw[ack];show∃j,cond (qx a b e) _ _=_;cases h:qx a b e with
  |true=>simp
  |false=>obtain⟨j,hj⟩:=RL a b l (i+1);exact⟨j,hj⟩
def oO:qr rM:=[(0,256,[3,4],1),(0,257,[3,4],1),(0,259,[3],1),(0,274,[3],1),(0,296,[3],1),(0,531,[3],1),(0,270,[2],0),(0,271,[2],0),(0,272,[2],0),(0,305,[2],0),(0,315,[2],0),(0,33432,[2],0),(0,306,[2],20),(0,282,[5],1),(0,283,[5],1),(1,256,[3,4],1),(1,257,[3,4],1),(1,259,[3],1),(1,274,[3],1),(1,296,[3],1),(1,531,[3],1),(1,270,[2],0),(1,271,[2],0),(1,272,[2],0),(1,305,[2],0),(1,315,[2],0),(1,33432,[2],0),(1,306,[2],20),(1,282,[5],1),(1,283,[5],1),(2,33434,[5],1),(2,33437,[5],1),(2,37378,[5],1),(2,37386,[5],1),(2,34850,[3],1),(2,37383,[3],1),(2,37384,[3],1),(2,37385,[3],1),(2,40961,[3],1),(2,41986,[3],1),(2,36864,[7],4),(2,37121,[7],4),(2,40960,[7],4),(2,37377,[10],1),(2,37380,[10],1),(2,36867,[2],20),(2,36868,[2],20),(2,40962,[3,4],1),(2,40963,[3,4],1),(2,34855,[3],0),(2,37510,[7],0),(2,37520,[2],0),(2,41728,[7],1),(2,42016,[2],33),(2,42034,[5],4),(3,0,[1],4),(3,5,[1],1),(3,6,[5],1),(3,1,[2],2),(3,3,[2],2),(3,2,[5],3),(3,4,[5],3),(3,7,[5],3),(3,18,[2],0),(3,29,[2],11),(4,1,[2],4),(4,2,[7],4),(5,45056,[7],4),(5,45313,[4],1),(5,45569,[4],1),(5,45570,[4],1),(5,45572,[5],1),(5,45574,[5],1),(5,45573,[10],1),(5,45576,[10],1)]
theorem aj6(w:Nat):Ot w=some (yv oO):=rfl
def WG(e:rM):(Int×Int)×qr Int×Int:=(((e.1 :Int),(e.2.1 :Int)),e.2.2.1.map (λn:Nat=>(n:Int)),(e.2.2.2 :Int))
theorem ah9:WI=oO.map WG:=by decide
theorem ah7(d t:Int):M5 d t=(oO.find? (qx d t)).map λe=>(e.2.2.1.map (λn:Nat=>(n:Int)),(e.2.2.2 :Int)):=by
 unfold M5;rw[ah9];generalize oO=l;induction l with
 |nil=>rfl
 |cons e l ih=>
  rw[iw,List.find?_cons];unfold WG;rw[List.lookup_cons];have:((d,t)==(((e.1 :Int),(e.2.1 :Int))))=qx d t e:=by
   unfold qx
   grind
  rw[this];cases qx d t e with
  |true=>rfl
  |false=>exact ih
theorem Tx{α:Type}[BEq α](l:qr α)(x:α):(dD (λy=>x==y) l<0)=(l.any (λy=>x==y)=false):=by rw[xK];simp
theorem akK{w:Nat}(l:qr Int)(x:Int)(hl:l.length<2^40)(hw:l.length<w):OZ w (aB cM l) x=some (dD (λy=>x==y) l):=by
 refine mQ l (λy=>x==y) (ev:=λi (g:H1->Int->Int->Int->Hx Int)=>g (aB cM l) x l.length i) ?_ ?_ hw
 ·intro i g h;simp;rw[bn ma h];simp[cM];rw[aP (by omega) (by omega)]
  grind
 simp
theorem akn{w:Nat}(l:qr Int)(x:Int)(hl:l.length<2^40)(hw:l.length<w):Ho w (aB cM l) x=some (l.contains x):=by
 unfold Ho;rw[akK l x hl hw]
 congr 1
 have:=Tx l x;rw[(show l.contains x=l.any (λy=>x==y) from by rw[List.contains_eq_any_beq])];cases h:l.any (λy=>x==y) with
 |true=>simp_all
 |false=>simp_all
def Bi(p:Int×Int):qr H1:=[.int .i64 p.1,.int .i64 p.2]
theorem agO(p:Int×Int):(Bi p).length=2:=rfl
theorem akV{w:Nat}(l:qr (Int×Int))(a b:Int)(hl:l.length<2^40)(hw:l.length<w):O9 w (aB Bi l) a b=some (dD (λy=>(a,b)==y) l):=by
 refine mQ l (λy=>(a,b)==y) (ev:=λi (g:H1->Int->Int->Int->Int->Hx Int)=>g (aB Bi l) l.length i a b) ?_ ?_ hw
 ·intro i g h;have e1:((i:Int)<(l.length:Int)):=by omega
  simp only[aU,e1,bP];rw[bn agO h];simp only[(show∀(x:Int×Int)(r:qr H1),Bi x++r=.int .i64 x.1 ::.int .i64 x.2 ::r fromλ_ _=>rfl),cc];rw[aP (by omega) (by omega)];have hb:((a,b)==l[i])=(decide (a=l[i].1)&&decide (b=l[i].2)):=by rw[iH,beq_iff_eq,bB,cf,cf,Prod.ext_iff]
  rw[hb];by_cases e2:a=l[i].1
  ·by_cases e3:b=l[i].2
   ·simp
   ·simp
  ·simp
 ·intro g;simp
theorem akm{w:Nat}(hw:20<=w)(a b:Int):Hn w a b=some (pM.contains (a,b)):=by
 unfold Hn OY;have e:ae 8 (List.drop 0 [Value.int IntKind.i64 0,Value.int IntKind.i64 34665,Value.int IntKind.i64 0,Value.int IntKind.i64 34853,Value.int IntKind.i64 1,Value.int IntKind.i64 513,Value.int IntKind.i64 1,Value.int IntKind.i64 514,Value.int IntKind.i64 2,Value.int IntKind.i64 37500,Value.int IntKind.i64 2,Value.int IntKind.i64 40965,Value.int IntKind.i64 5,Value.int IntKind.i64 45057,Value.int IntKind.i64 5,Value.int IntKind.i64 45058])=aB Bi pM:=rfl;rw[e,akV _ _ _ (by decide) (by show 8<w;omega)]
 congr 1
 have:=Tx pM (a,b);rw[(show pM.contains (a,b)=pM.any (λy=>(a,b)==y) from by rw[List.contains_eq_any_beq])];cases h:pM.any (λy=>(a,b)==y) with
 |true=>simp_all
 |false=>simp_all
theorem ah8{d t:Int}{e:rM}(h:oO.find? (qx d t)=some e):e.2.2.1.length<=2:=by
 have:∀e∈oO,e.2.2.1.length<=2:=by decide
 grind
theorem aj7{w:Nat}(hw:20<=w)(d:Int)(t:aL)(hl:t.data.length<2^40):Cm w (yv oO) d t.tag t.ty t.az (ag t.data)=some (sd d t):=by
 unfold Cm sd;simp only[aU,qM];by_cases h1:d<0
 ·rw[ay h1];have:¬(0<=d):=by omega
  simp[this]
 rw[aq h1];by_cases h2:d<6
 case neg=>simp[h2]
 by_cases h3:t.tag<0
 ·rw[ay h3];have:¬(0<=t.tag):=by omega
  simp[this]
 rw[aq h3];by_cases h4:65535<t.tag
 ·rw[ay h4];have:¬(t.tag<=65535):=by omega
  simp[this]
 rw[aq h4];have h5:0<=d/\d<6/\0<=t.tag/\t.tag<=65535:=by omega
 rw[akm hw,yY _ _ _ _ hl];simp only[aA,h5,and_self,aY];cases hr:pM.contains (d,t.tag) with
 |true=>rfl
 |false=>
  cases hm:eH t.ty t.az t.data with
  |false=>rfl
  |true=>
   rw[ah7];obtain⟨j,hj⟩:=RL d t.tag oO 0;have hL:∀(zs:qr H1)(K:Bool->qr H1->Hx Bool),AV na.T 402 (yv oO) (.agg (Array.mk [.int .i64 d,.int .i64 t.tag])) zs K=match oO.find? (qx d t.tag) with
    |none=>K false (zs.map zN)
    |some e=>K true [ae e.2.2.1.length (e.2.2.1.map λt=>.int .i64 (Int.ofNat t)),.int .i64 e.2.2.2]:=by
    intro zs K;unfold AV yv;simp only;rw[Zd];simp;rw[hj];cases oO.find? (qx d t.tag) with
    |none=>rfl
    |some e=>rfl
   rw[hL];cases hf:oO.find? (qx d t.tag) with
   |none=>rfl
   |some e=>
    have hle:=ah8 hf;simp only[aX,rJ];have e1:ae e.2.2.1.length (e.2.2.1.map λt=>Value.int .i64 (Int.ofNat t))=aB cM (e.2.2.1.map (λn:Nat=>(n:Int))):=by
     unfold aB;rw[cD]
     congr 1
     generalize e.2.2.1 =l;induction l with
     |nil=>rfl
     |cons a l ih=>rw[iw,iw,ih];rfl
    rw[e1,akn _ _ (by rw[cD];omega) (by rw[cD];omega)];cases(e.2.2.1.map (λn:Nat=>(n:Int))).contains t.ty with
    |false=>rfl
    |true=>
     by_cases h0:e.2.2.2 =0
     ·simp[h0]
     ·have h0':¬((e.2.2.2 :Int)=0):=by omega
      rw[(show((e.2.2.2 :Int)==0)=false from by simpa using h0')];simp_all;rfl
theorem Wy:∀{l:qr aL},(∀i (hi:i+1<l.length),l[i].tag<l[i+1].tag)->fR l=true
 |[],_=>rfl
 |[a],_=>rfl
 |a::b::l,h=>by simp[fR];exact⟨h 0 (by simp),Wy λi hi=>h (i+1) (by grind)⟩
theorem ah5(d:Int)(l:qr aL):db d l=((List.range l.length).all (λi=>(decide (i=0)||decide ((l[i -1]?.map aL.tag).getD 0<(l[i]?.map aL.tag).getD 0))&&((l[i]?.map (sd d)).getD true))&&decide (0<=d/\d<6)):=by
 unfold db
 congr 1
 rw[iH];simp;constructor
 ·rintro ⟨h1,h2⟩ i hi
  refine⟨?_,?_⟩
  ·by_cases q:i=0
   ·grind
   ·right;rw[cG hi,cG (show i -1<l.length by omega)];exact vX h1 (by omega) hi
  grind
 ·intro h;refine⟨?_,λx hx=>?_⟩
  ·refine Wy λi hi=>?_
   grind
  ·obtain⟨i,hi,rfl⟩:=List.getElem_of_mem hx
   grind
theorem acK{δ:Type}{z:δ}{F:δ->δ}{w:Nat}(m:Nat)(ok:Nat->Bool)(r:Bool)(ev:Nat->δ->Hx Bool)(hs:∀i g,i<m->ev i (F g)=if ok i=true then ev (i+1) g else some false)(he:∀g,ev m (F g)=some r)(hw:m<w):
 ev 0 (lp z F w)=some ((List.range m).all ok&&r):=by
 have key:∀(d i v:Nat),i+d=m->d<v->ev i (lp z F v)=some (((List.range d).all λj=>ok (i+j))&&r):=by
  intro d;induction d with
  |zero=>intro i v hi hv;rw[eB z F (by omega),show i=m by omega,he];rfl
  |succ d ih=>
   intro i v hi hv;rw[eB z F (by omega),hs i _ (by omega),uO];by_cases h:ok i=true
   ·rw[ih (i+1) (v -1) (by omega) (by omega)];simp[h]
    grind
   grind
 grind
theorem ri{w:Nat}(hw:20<=w)(d:Int)(l:qr aL)(hl:l.length<2^40)(hd:∀t∈l,t.data.length<2^40)(hlw:l.length<w):nU w d (ar l)=some (db d l):=by
 unfold nU ar;rw[aj6,ah5];simp only[aA];refine acK l.length _ (decide (0<=d/\d<6)) (ev:=λi (g:Int->H1->H1->H1->Int->Int->Hx Bool)=>g d (aB cC l) (yv oO) (aB cC l) l.length i) ?_ ?_ hlw
 ·intro i g h;have e1:((i:Int)<(l.length:Int)):=by omega
  simp only[aU,e1,aE,bP];rw[bn gW h];have tt:∀(t:aL)(r:qr H1),cC t++r=.int .i64 t.tag::.int .i64 t.ty::.int .i64 t.az::ag t.data::r:=λ_ _=>rfl;simp only[tt,aX,bu];rw[aj7 hw d l[i] (hd _ (cA h)),cG h];simp only[aA,cc,ji,rJ];rw[aP (n:=(i:Int)+1) (by omega) (by omega)];by_cases h0:i=0
  ·have e2:¬((0:Int)<(i:Int)):=by omega
   have e3:decide (i=0)=true:=by simp[h0]
   simp only[e2,bL,aD,e3,Bool.true_or];cases sd d l[i]<;>rfl
  ·have e2:((0:Int)<(i:Int)):=by omega
   simp_all;rw[aP (by omega) (by omega),lU (by omega),show((i:Int) -1).toNat=i -1 by omega];rw[bn gW (show i -1<l.length by omega),cG (show i -1<l.length by omega)];simp_all;by_cases h3:l[i -1].tag<l[i].tag
   ·simp only[h3,aY,aD,eV];cases sd d l[i]<;>rfl
   ·simp[h3]
 ·intro g;have e1:¬((l.length:Int)<(l.length:Int)):=by omega
  by_cases h1:d<0
  ·have:¬(0<=d):=by omega
   simp[this]
  ·have:0<=d:=by omega
   simp[h1,this]
end Lt
end Go.Proofs.YtcfjfbeadhnknaaGreatDoor

import Derived.Maps.AppendAt
import Derived.RangeFuncBox
import Derived.StillTailTactics
import Derived.OrdersIn
import Derived.Laws.Append
import Derived.Test.YtcfjfbeadhnknaaGreatDoorOE
namespace Go.Proofs.YtcfjfbeadhnknaaGreatDoor
set_option linter.unusedVariables false
set_option linter.unusedSimpArgs false
set_option linter.unusedSectionVars false
set_option linter.constructorNameAsVariable false
set_option maxRecDepth 100000
set_option maxHeartbeats 8000000
section
open Go.Shelf Go.RowKit Go.Lib
attribute [local go_sem] Oper.semAt_some
theorem cell_of{W:Hx}{b:Nat}{v:Qu}{t:TypeId}(h:W.heap[b]? =some (.cells #[v] t (0,0))):W.cell? ⟨b,0,none⟩=some v/\W.frozen? ⟨b,0,none⟩=false:=by
 constructor
 ·unfold World.cell?;simp only[h];rfl
 ·unfold World.frozen?;simp only[h];rfl
theorem Qx(W:Hx)(o:Obj)(q:Nat):(W.alloc o).heap[q]? =if q=W.heap.size then some o else W.heap[q]? :=by
 split
 ·rename_i h;subst h;exact World.alloc_heap_new W o
 ·rcases gY q W.heap.size with h|h
  ·exact Below.heap_alloc _ _ _ h
  ·rw[Array.getElem?_eq_none (by rw[jm];omega),Array.getElem?_eq_none h]
theorem Bm{W W':Hx}{B k:Nat}{v:Qu}{xs:H1 Qu}(h:W.ownsRow B 3 1 v k xs)(e:∀g,B<=g->g<W.heap.size->W'.heap[g]? =W.heap[g]?):W'.ownsRow B 3 1 v k xs:=by
 obtain⟨l,h|⟨g,cap,cur,e1,e2,e3,r⟩⟩:=h
 ·exact⟨l,.inl h⟩
 ·exact⟨l,.inr ⟨g,cap,cur,e1,e2,(e g e2 (fw.1 e3).1).trans e3,r⟩⟩
theorem S0:(Tryz.prog.info? 3).map (λi=>(i.zero,i.size,i.bytes))=some (some (.int .i64 0),1,8):=by kernel_rfl
namespace Lt
theorem Eo{m:Nat->Nat->Zh Qu}:∀l:H1 Int,bD m (l.map (Value.int .i64)) (l.map (Value.int .i64))/\aZ (l.map (Value.int .i64))=true
 |[]=>⟨.nil,rfl⟩
 |_::l=>⟨.cons (.int _ _) (Eo l).1,(Eo (m:=m) l).2⟩
end Lt
structure xd(w:World)(z q:Nat)(R0:Loop)(p:Option Addr)(n c:Nat)(acc:List Int)(W:World):Prop where
 fZ:RowKit.Below z w W
 b0:∃v,W.heap[z]? =some (.cells #[v] 47 (0,0))
 b1:∃v,W.heap[z+1]? =some (.cells #[v] 36 (0,0))
 b2:∃v,W.heap[z+1+1]? =some (.cells #[v] 47 (0,0))/\W.ownsRow (q+2) 3 1 v acc.length (acc.map (Value.int .i64))
 b3:W.heap[z+1+1+1]? =some (.cells #[.slice p n c] 26 (0,0))
 b4:W.heap[q]? =some (.deferred (some []))
 b5:W.heap[q+1]? =some (.loop R0)
theorem xd.tR{w:Hx}{z q:Nat}{R0:Loop}{p:Zh Addr}{n c:Nat}{acc:H1 Int}{W W':Hx}(h:xd w z q R0 p n c acc W)(hz:z<=w.heap.size)(b:RowKit.Below W.heap.size W W'):xd w z q R0 p n c acc W':=by have k:∀{q o},W.heap[q]? =some o->W'.heap[q]? =some o:=λ{q o} e=>(b.block q (fw.1 e).1).trans e;obtain⟨a,⟨v0,h0⟩,⟨v1,h1⟩,⟨v2,h2,r2⟩,h3,h4,h5⟩:=h;exact⟨a.trans (b.mono (fE hz a.size)),⟨v0,k h0⟩,⟨v1,k h1⟩,⟨v2,k h2,Bm r2 λg _ hg=>b.block g hg⟩,k h3,k h4,k h5⟩
theorem abz{m:Nat->Nat->Zh Qu}{w:Hx}(hk:Lt.Kn m w){A:Lt.qQ}(HA:Lt.cQ Tryz.prog 97 [.v,.i .i64] (.aH [.i .i64,.b]) A){x:Qu}(hx:Lt.gz x/\Lt.aZ [x]=true){p:Zh Addr}{n c:Nat}(hn:n<1000000001)(L:Lt.aK m x (.slice p n c))
 {f:Nat} {R:H1 Int} (hf:Lt.sd A x n f 0 []=some R) (h0:0<R.length) (h1:R.length<=1000000):
 Calls Tryz.prog 23 #[.slice p n c] w λe w'=>∃v,e=.returned (.tuple #[v,.int .i64 0])/\RowKit.Below w.heap.size w w'/\Lt.aK (Lt.cJ m w w') (Lt.ae (R.length+1) ((R++[(n:Int)]).map (Value.int .i64))) v:=by
 refine(callsIn_wide (n:=0)).1 ?_;refine callsIn_of_wp_marks Tryz.func23 rfl trivial ?_ rfl;simp only[Tryz.ntmps23,p9,cc,List.length_nil,Nat.reduceAdd,Nat.reduceSub,pW,pX,pZ,pY,fy,eD]
 gi_wp2
 refine⟨trivial,rfl,(callsIn_wide.2 (ab7 _ _ _ _)).mono ?_⟩
 rintro e w2 ⟨rfl,rfl⟩
 gi_wp2
 obtain⟨z,hz⟩:∃z,z=w.heap.size:=⟨_,rfl⟩;obtain⟨w2,hw2⟩:∃w2,w2=(((w.alloc (.cells #[.slice none 0 0] 47)).alloc (.cells #[.int .i64 0] 36)).alloc (.cells #[.slice none 0 0] 47)).alloc (.cells #[.slice p n c] 26):=⟨_,rfl⟩;have J0:RowKit.Below z w w2/\w2.heap.size=z+4/\w2.heap[z]? =some (.cells #[.slice none 0 0] 47 (0,0))/\w2.heap[z+1]? =some (.cells #[.int .i64 0] 36 (0,0))/\w2.heap[z+1+1]? =some (.cells #[.slice none 0 0] 47 (0,0))/\w2.heap[z+1+1+1]? =some (.cells #[.slice p n c] 26 (0,0)):=by
  rw[hw2,hz];refine⟨((((fq _ w).alloc (aM _) _).alloc (by simp) _).alloc (by simp;omega) _).alloc (by simp;omega) _,by simp,?_,?_,?_,?_⟩;all_goals
   simp only[Qx,jm,ea]
   repeat rw[aq (by omega)]
 rw[<-hw2,<-hz];clear hw2;obtain⟨J1,J2,J3,J4,J5,J6⟩:=J0;refine Bz (gf:=121) (lb:=#[.pointer (some ⟨z+1+1+1,0,none⟩)]) rfl (enters_of Tryz.func121 (by kernel_rfl) rfl) ?_;intro fn W1 hW1;refine(callsIn_wide (n:=0)).1 ?_;generalize hR0:iX fn _ _ _ _ _ .ready=R0 at hW1⊢;obtain⟨q,hq⟩:∃q,q=w2.heap.size:=⟨_,rfl⟩;have j0:xd w z q R0 p n c [] W1:=by
  have bl:RowKit.Below w2.heap.size w2 W1:=by rw[hW1];exact((fq _ w2).alloc (aM _) _).alloc (by simp) _
  have k:∀{q o},w2.heap[q]? =some o->W1.heap[q]? =some o:=λ{q o} e=>(bl.block q (fw.1 e).1).trans e;refine⟨J1.trans (bl.mono (by omega)),⟨_,k J3⟩,⟨_,k J4⟩,⟨_,k J5,World.ownsRow_nil _ _ _ _⟩,k J6,?_,?_⟩
  ·rw[hW1,hq];exact(Below.heap_alloc _ _ _ (by simp)).trans (World.alloc_heap_new w2 _)
  ·have:=World.alloc_heap_new (w2.alloc (.deferred (some []))) (.loop R0);rw[jm] at this;rw[hW1,hq];exact this
 rw[<-hq];have zq4:z+4<=q:=by omega
 have z1:z<=w.heap.size:=by omega
 have z2:w.heap.size<=z:=by omega
 clear hq hW1 J1 J2 J3 J4 J5 J6 hz;refine(ab8 (z+1+1+1) (q+1) HA hx (by omega) L (xd w z q R0 p n c) (λacc W h=>⟨?_,(cell_of h.b3).1⟩) (λacc W W' h b=>h.tR (by omega) b) ?hy hf W1 j0).mono ?_
 ·exactλb i v e=>(Lt.q9 (h.fZ.block b (by have:=Lt.mq (hk b i v e);omega))).trans (hk b i v e)
 case hy=>
  intro acc a e W hj hl hlt;obtain⟨fZ,⟨v0,c0⟩,⟨v1,c1⟩,⟨v2,c2,r2⟩,c3,d1,d2⟩:=hj;rw[<-hR0] at d2;refine(FN (n:=0) (R:=xd w z q R0 p n c (acc++[a])) d2 rfl ?_).mono λe' W' h=>h;rw[hR0] at d2⊢;generalize iX fn _ _ _ _ _ .busy=R1;have D2:=Lib.hid d2;clear d2
  gi_wp2
  refine⟨D2.out,?_⟩;obtain⟨W2,hW2⟩:∃W2,W2=W.putObj (q+1) (.loop R1):=⟨_,rfl⟩;have zq:q+1<W.heap.size:=(fw.1 D2.out).1;have sz:W.heap.size<=W2.heap.size:=by rw[hW2];simp
  have sz2:W2.heap.size<=W.heap.size:=by rw[hW2];simp
  have kl:W2.heap[q+1]? =some (.loop R1):=by rw[hW2];exact World.putObj_heap_same zq
  have pk:∀k,k≠q+1->W2.heap[k]? =W.heap[k]? :=λk hk=>by rw[hW2];exact World.putObj_heap_other hk
  have os2:W2.os=W.os/\W2.tape=W.tape/\W2.output=W.output:=by rw[hW2];exact⟨rfl,rfl,rfl⟩
  rw[<-hW2];clear hW2;have k2:=(pk _ (by omega)).trans c2;have r2:=Bm r2 λg hg _=>pk g (by omega);have nb:∀k,k<q+2->some k≠v2.ownBlock:=λk hk e=>by have:=(r2.lt k e.symm).1;omega
  obtain⟨q1,q2⟩:=cell_of k2;have ne:¬a=e:=by omega
  obtain⟨i0,hi,hz0,hz1,hz2⟩:=info_parts S0
  gi_wp2_with (gi_at_builtin;refine wpListIn_append_own _ rfl _ _ 47 rfl (q+2) 3 i0 (.int .i64 0) 1 8 Tryz.underlying47 hi hz0 hz1 hz2 rfl (by decide) _ _ _ rfl (r2.alloc _) ⟨W2.heap.size,0,none⟩ 1 1 [.int .i64 a] rfl rfl (cell_one_new _ _ _) (by simp[Value.oneCell']) (by show _<=9223372036854775807;omega) (by omega) (by simp;omega) ?_;intro v' w1 hown hgrow hnil;obtain⟨g',cap',rfl⟩:=ownsRow_succ hown;have hb1:w1.heap[z+1+1]? =some (.cells #[v2] 47 (0,0)):=(hgrow.block (z+1+1) (by simp;omega) (nb _ (by omega))).trans ((Below.heap_alloc _ _ _ (by omega)).trans k2);obtain⟨hc1,hf1⟩:=cell_of hb1)
  have z3:=hgrow.size;rw[jm] at z3;have e1:∀k (v:Qu),k<q+2->k≠z+1+1->(w1.setCell ⟨z+1+1,0,none⟩ v).heap[k]? =W2.heap[k]? :=λk v hk cA=>(Below.heap_setCell _ _ _ k cA).trans ((hgrow.block k (by rw[jm];omega) (nb k hk)).trans (Below.heap_alloc _ _ _ (by omega)));have po:∀(Wf:Hx) k,k≠q+1->(Wf.putObj (q+1) (.loop R0)).heap[k]? =Wf.heap[k]? :=λWf k h=>World.putObj_heap_other h;have al:∀(k:Nat)(v:Qu){o},k<q+2->k≠z+1+1->k≠q+1->W.heap[k]? =some o->((w1.setCell ⟨z+1+1,0,none⟩ v).putObj (q+1) (.loop R0)).heap[k]? =some o:=λk v o h1 h2 h3 h=>(po _ k h3).trans ((e1 k v h1 h2).trans ((pk k h3).trans h));refine⟨(e1 (q+1) _ (by omega) (by omega)).trans kl,⟨⟨?_,?_,?_,?_,λk hk=>?_⟩,⟨v0,al _ _ (by omega) (by omega) (by omega) c0⟩,⟨v1,al _ _ (by omega) (by omega) (by omega) c1⟩,⟨_,(po _ _ (by omega)).trans (Boxed.set _ hb1),?_⟩,al _ _ (by omega) (by omega) (by omega) c3,al _ _ (by omega) (by omega) (by omega) d1,World.putObj_heap_same (by simp;omega)⟩⟩
  ·exact hgrow.os.trans (os2.1.trans fZ.os)
  ·exact hgrow.tape.trans (os2.2.1.trans fZ.tape)
  ·exact hgrow.output.trans (os2.2.2.trans fZ.output)
  ·have:=fZ.size;simp;omega
  ·exact(po _ k (by omega)).trans ((e1 k _ (by omega) (by omega)).trans ((pk k (by omega)).trans (fZ.block k hk)))
  ·rw[aP,fY];exact Bm hown λg hg _=>(po _ g (by omega)).trans (Below.heap_setCell _ _ _ g (by show g≠z+1+1;omega))
 rintro e W2 ⟨⟨v,rfl⟩,j⟩
 refine⟨⟨_,rfl⟩,j.b5,?_⟩;generalize iX fn _ _ _ _ _ .exhausted=R9;obtain⟨fZ,⟨v0,c0⟩,⟨v1,c1⟩,⟨v2,c2,r2⟩,c3,d1,d2⟩:=j;obtain⟨W3,hW3⟩:∃W3,W3=W2.putObj (q+1) (.loop R9):=⟨_,rfl⟩;have pk:∀k,k≠q+1->W3.heap[k]? =W2.heap[k]? :=λk hk=>by rw[hW3];exact World.putObj_heap_other hk
 have zq:q+1<W2.heap.size:=(fw.1 d2).1;have sz:W2.heap.size<=W3.heap.size:=by rw[hW3];simp
 have bel3:RowKit.Below z w W3:=by refine fZ.trans ?_;rw[hW3];exact⟨rfl,rfl,rfl,by simp,λk hk=>World.putObj_heap_other (by omega)⟩
 rw[<-hW3];clear hW3;replace c0:=(pk _ (by omega)).trans c0;replace c1:=(pk _ (by omega)).trans c1;replace c2:=(pk _ (by omega)).trans c2;replace d1:=(pk _ (by omega)).trans d1;replace r2:=Bm r2 λg hg _=>pk g (by omega);obtain⟨k,hk1⟩:∃k,R.length=k+1:=⟨R.length -1,by omega⟩;rw[hk1] at r2;obtain⟨g1,cp1,rfl⟩:=ownsRow_succ r2;have nb:∀k,k<q+2->some k≠(Value.slice (some ⟨g1,0,none⟩) (R.length) cp1).ownBlock:=λk hk e=>by cases e;have:q+2<=g1:=(r2.lt g1 rfl).1;have hk:g1<q+2:=hk;omega
 obtain⟨p0,f0⟩:=cell_of c0;obtain⟨p1,f1⟩:=cell_of c1;obtain⟨p2,f2⟩:=cell_of c2;obtain⟨i0,hi,hz0,hz1,hz2⟩:=info_parts S0;have ne:¬(((k+1:Nat):Int)=0):=by omega
 clear pk
 gi_wp2_with (gi_at_builtin;refine wpListIn_append_own _ rfl _ _ 47 rfl (q+2) 3 i0 (.int .i64 0) 1 8 Tryz.underlying47 hi hz0 hz1 hz2 rfl (by decide) _ _ _ rfl (r2.alloc _) ⟨W3.heap.size,0,none⟩ 1 1 [.int .i64 n] rfl rfl (cell_one_new _ _ _) (by simp[Value.oneCell']) (by show _<=9223372036854775807;omega) (by omega) (by simp;omega) ?_;intro v' w1 hown hgrow hnil;obtain⟨g',cap',rfl⟩:=ownsRow_succ hown;have hb0:w1.heap[z]? =some (.cells #[v0] 47 (0,0)):=(hgrow.block z (by simp;omega) (nb _ (by omega))).trans ((Below.heap_alloc _ _ _ (by omega)).trans c0);have hb1:w1.heap[z+1]? =some (.cells #[v1] 36 (0,0)):=(hgrow.block (z+1) (by simp;omega) (nb _ (by omega))).trans ((Below.heap_alloc _ _ _ (by omega)).trans c1);obtain⟨hc0,hf0⟩:=cell_of hb0;obtain⟨hc1,hf1⟩:=cell_of hb1)
 have e1:∀k (x y:Qu),k≠z->k≠z+1->k≠q->(((w1.setCell ⟨z,0,none⟩ x).setCell ⟨z+1,0,none⟩ y).putObj q (.deferred none)).heap[k]? =w1.heap[k]? :=λk x y h1 h2 h3=>(World.putObj_heap_other h3).trans ((Below.heap_setCell _ _ _ k h2).trans (Below.heap_setCell _ _ _ k h1));have dq:∀(x y:Qu),((w1.setCell ⟨z,0,none⟩ x).setCell ⟨z+1,0,none⟩ y).heap[q]? =some (.deferred (some [])):=λx y=>(Below.heap_setCell _ _ _ q (by show q≠z+1;omega)).trans ((Below.heap_setCell _ _ _ q (by show q≠z;omega)).trans ((hgrow.block q (by rw[jm];omega) (nb _ (by omega))).trans ((Below.heap_alloc _ _ _ (by omega)).trans d1)));refine⟨by simp,.inl ⟨_,_,rfl,run_takeDeferred (dq _ _),?_⟩⟩;have g0:∀(x y:Qu),(((w1.setCell ⟨z,0,none⟩ x).setCell ⟨z+1,0,none⟩ y).putObj q (.deferred none)).cell? ⟨z,0,none⟩=some x:=λx y=>(cell_of ((World.putObj_heap_other (by omega)).trans ((Below.heap_setCell _ _ _ z (by show z≠z+1;omega)).trans (Boxed.set x hb0)))).1;have g1:∀(x y:Qu),(((w1.setCell ⟨z,0,none⟩ x).setCell ⟨z+1,0,none⟩ y).putObj q (.deferred none)).cell? ⟨z+1,0,none⟩=some y:=λx y=>(cell_of ((World.putObj_heap_other (by omega)).trans (Boxed.set y (show Boxed _ (z+1) _ v1 from(Below.heap_setCell _ _ _ (z+1) (by show z+1≠z;omega)).trans hb1)))).1;have z3:=hgrow.size;rw[jm] at z3;refine⟨.tuple #[.slice (some ⟨g',0,none⟩) (k+1+1) cap',.int .i64 0],by simp[results,Tryz.f23,cU,go_sem,g0,g1],_,rfl,⟨?_,?_,?_,?_,λi hi=>?_⟩,?_⟩
 ·exact hgrow.os.trans bel3.os
 ·exact hgrow.tape.trans bel3.tape
 ·exact hgrow.output.trans bel3.output
 ·have:=bel3.size;simp;omega
 ·exact(e1 i _ _ (by omega) (by omega) (by omega)).trans ((hgrow.block i (by rw[jm];have:=bel3.size;omega) (nb _ (by omega))).trans ((Below.heap_alloc _ _ _ (by have:=bel3.size;omega)).trans (bel3.block i (by omega))))
 ·have hl:(List.map (Value.int .i64) R++[Value.int .i64 (n:Int)]).length=k+1+1:=by rw[aP,cH,hk1];rfl
  have e:List.map (Value.int .i64) R++[Value.int .i64 (n:Int)]=(R++[(n:Int)]).map (Value.int .i64):=by rw[fY];rfl
  have ow:=Bm hown (W':=((w1.setCell ⟨z,0,none⟩ (.slice (some ⟨g',0,none⟩) (k+1+1) cap')).setCell ⟨z+1,0,none⟩ (.int .i64 0)).putObj q (.deferred none)) λg hg _=>e1 g _ _ (by omega) (by omega) (by omega);rw[<-hl] at ow⊢;exact Lt.VD (by omega) ow (by rw[e];exact(Lt.Eo _).1) (by rw[e];exact(Lt.Eo (m:=m) _).2)
namespace Lt
theorem abw(w:Nat){A:qQ}(HA:cQ Tryz.prog 97 [.v,.i .i64] (.aH [.i .i64,.b]) A):cQ Tryz.prog 23 [.v] nE (findF w A):=by
 refine .mk λls r e hl us hu=>?_;obtain⟨x,r1,us1,h1,h2,rfl⟩:=gJ hu;obtain⟨rfl,rfl⟩:=nK h2;obtain rfl:=kY h1;have hx:aZ [x]=true:=hl x (by simp);replace e:findF w A x=some r:=e;unfold findF at e;split at e
 case h_2=>cases e
 rename_i n cs hr;obtain⟨hn,e⟩:=aW e;obtain⟨R,hR,e⟩:=ax e;obtain⟨hq,e⟩:=aW e;rw[bt] at hq;have e:=(jC e).symm;refine⟨xQ (by rw[e];show aZ [ae _ _]=true;rfl),_,rfl,zG λm args' w hm A=>?_⟩;subst e;obtain⟨al⟩:=args';replace A:bD m _ al:=A;obtain⟨_,_,rfl,a0,A⟩:=PW.inv A;obtain rfl:=A.dY;obtain⟨a,c,rfl,_⟩:=FP hr a0;exact abz hm HA ⟨hx,hx⟩ (by have:=dW hn;omega) a0 hR (fb hq.1) (dW hq.2)
end Lt
end
section
open Go.Shelf Go.RowKit Go.Lib
attribute [local go_sem] Oper.semAt_some
section
variable{n:Nat} {P:Program} {ops:Array Oper} {md:Region.Mode} {w:Hx}
theorem alZ{i:Nat}{a:Act}{K:Act->Prop}{K':Act->Hx->Prop}{Q':Exit->Act->Hx->Prop}(h:∀a,K a->K' a w)(hh:stOp P ops w i K a):wpOpIn Fence.wide n P ops Q' i K' a w:=by
 unfold stOp at hh;unfold wpOpIn;split
 ·rename_i ho;simp only[ho] at hh;exact h _ hh
 ·rename_i o ho;simp only[ho] at hh;split
  ·rename_i hw;simp only[hw,ea] at hh;unfold Oper.still at hh;unfold Oper.wpIn;refine⟨λ_ _=>trivial,?_⟩;rw[show Fence.wide.round=none from rfl,Oper.semAt_none];generalize(execOp a.eval o).run P w=r at*;cases r with
   |ok x w'=>
    cases x<;>simp only[Oper.stillUpon] at hh<;>simp only[Oper.uponIn]
    case enter f args=>obtain⟨rfl,v,hc,hn⟩:=hh;exact⟨λh=>(by cases h),(callsIn_wide.2 hc).mono λe w'' ⟨he,hw⟩=>by subst he;subst hw;exact h _ hn⟩
    all_goals(obtain⟨rfl,h2⟩:=hh;exact h _ h2)
   |halt x w'=>simp only[Oper.stillUpon] at hh
  ·rename_i hw;simp only[hw] at hh;exact⟨λ_ _=>trivial,h _ hh⟩
theorem Ss{m g:Nat}{L:Array Bool->Act->Prop}{Q':Exit->Act->Hx->Prop}(hL:∀listed a,L listed a->wpAnyIn Fence.wide n P md ops Q' g listed a w):
 ∀(f:Nat)(listed:Array Bool)(a:Act),wpAnyL P md ops w m L f listed a->wpAnyIn Fence.wide n P md ops Q' (f+g) listed a w
 |0,listed,a,h=>by rw[fI];exact hL _ _ h
 |f+1,listed,a,h=>by rw[show f+1+g=(f+g)+1 by omega];exact⟨λh0=>absurd h0 h.1,λi hi=>alZ (λa' h'=>Ss hL f _ a' h') (h.2 i hi).2⟩
theorem XM{Q':Exit->Act->Hx->Prop}:∀(l:H1 Oper)(k:Nat)(listed:Array Bool)(a:Act)(w:Hx),(∀j,l[j]? =ops[k+j]?)->
 Region.seqB md ops l.length k listed=true->wpListIn Fence.wide n P ops Q' l a w->wpAnyIn Fence.wide n P md ops Q' l.length listed a w
 |[],_,_,_,_,_,hB,h=>⟨by simpa[Region.seqB] using hB,h⟩
 |o::l,k,listed,a,w,hl,hB,h=>by
  have h0:ops[k]? =some o:=by simpa using(hl 0).symm
  simp only[cc,Region.seqB,bt,cm] at hB;refine⟨λh1=>(by rw[hB.1] at h1;cases h1),λi hi=>?_⟩;rw[hB.1] at hi;have hik:i=k:=by simpa using hi
  subst hik;have hw:wpOpIn Fence.wide n P ops Q' i (wpListIn Fence.wide n P ops Q' l) a w:=by unfold wpOpIn;simp only[h0];exact h
  exact wpOpIn_mono (λa' w' h'=>XM l (i+1) _ a' w' (λj=>by have:=hl (j+1);simpa[o8,Nat.add_comm 1 j] using this) hB.2 h') hw
theorem amf{id:Nat}{Q:Exit->Act->Hx->Prop}{a:Act}{l:H1 Oper}(m:Nat)(hm:P.follows .mixedOrders=true)(hB:Region.lexTailB .any l.toArray m=true)
 (h:wpStill P l.toArray {w with drawn:=w.drawn+1} (λa'=>wpListIn Fence.wide n P l.toArray Q (l.drop m) a' {w with drawn:=w.drawn+1}) (l.take m) a):(Code.region id l.toArray true).wpIn Fence.wide n P Q a w:=by
 simp only[Region.lexTailB,bt,cm] at hB;obtain⟨⟨⟨⟨hsel,hn⟩,hs⟩,hc⟩,hlex⟩:=hB;have hn':m<l.length:=by simpa using hn
 have htl:(l.take m).length=m:=by simp;omega
 have iM:(l.drop m).length=l.toArray.size -m:=by simp
 have dY:HeadInv .any l.toArray m (Array.replicate l.toArray.size false):=
  ⟨by simp,λj oj _ hl=>(by rw[getD_replicate_false] at hl;cases hl),λt _ ht=>getD_in (by simpa using ht) (getD_replicate_false _ _)⟩
 have H:=wpAnyL_lex (md:=.any) (g:=l.toArray.size -m) hsel hs hc hn (l.take m) 0 _ a (λj hj=>by
  have hj':j<m:=by rw[htl] at hj;exact hj
  simp[hj']) (by simpa using htl) dY (by rw[htl];exact hlex) h
 refine wpIn_region_any hm ?_;have:=Ss (n:=n) (Q':=Q) (g:=l.toArray.size -m) (λlisted a' hL=>by
  have:=XM (n:=n) (md:=.any) (Q':=Q) (l.drop m) m listed a' {w with drawn:=w.drawn+1} (λj=>by simp[s8]) (by rw[iM];exact hL.1) hL.2
  rwa[iM] at this) _ _ _ H
 rw[htl,show m+(l.toArray.size -m)=l.toArray.size by omega] at this;exact this
end
theorem aac(a b:Zh Addr)(n c n' c':Nat)(w:Hx):Calls Tryz.prog 93 #[.slice a n c,.slice b n' c'] w λe w'=>e=.returned (.func (.func 149) #[] #[.pointer (some ⟨w.heap.size+1,0,none⟩),.pointer (some ⟨w.heap.size,0,none⟩)])/\w'=(w.alloc (.cells #[.slice a n c] 26)).alloc (.cells #[.slice b n' c'] 47):=by
 go_enter Tryz.func93,Tryz.ntmps93
 go_wp2_with fail
 go_ret
 exact⟨by simp,rfl⟩
theorem aad(Xa Xs l:Nat){b o n c pb po ca:Nat}(S:H1 Int)(hS:S.length<1000000001)(hc:n<=c)(hs:∀(k:Nat)(a e:Int),S[k]? =some a->S[k+1]? =some e->0<=a/\a<e/\e<=(n:Int))
 (J:Nat->Hx->Prop) (hJ:∀k W,J k W->W.cell? ⟨Xa,0,none⟩=some (.slice (some ⟨pb,po,none⟩) S.length ca)/\W.cell? ⟨Xs,0,none⟩=some (.slice (some ⟨b,o,none⟩) n c)/\∀i z,S[i]? =some z->W.cell? ⟨pb,po+i,none⟩=some (.int .i64 z))
 (hJd:∀k W,J k W->J k W.drew)
 (hy:∀k (a e:Nat) W,J k W->S[k]? =some (a:Int)->S[k+1]? =some (e:Int)->YieldAt Fence.wide 0 Tryz.prog l #[.slice (some ⟨b,o+a,none⟩) (e -a) (c -a)] W λx W'=>x=.returned (.bool true)/\J (k+1) W')
 (W:Hx) (hj:J 0 W) (h0:0<S.length):
 CallsIn Fence.wide 0 Tryz.prog 149 #[.func (.yield l) #[] #[],.pointer (some ⟨Xa,0,none⟩),.pointer (some ⟨Xs,0,none⟩)] W λe W'=>(∃v,e=.returned v)/\J (S.length -1) W':=by
 refine callsIn_of_wp Tryz.func149 rfl trivial ?_ rfl;simp only[Tryz.ntmps149,p9,cc,List.length_nil,Nat.reduceAdd,Nat.reduceSub,pW,pX,pZ,pY,fy,eD]
 gi_wp2
 gi_loopw [4] (λp wr=>∃k:Nat,p=.int .i64 ((k+1:Nat):Int)/\k+1<=S.length/\J k wr) (λp wr=>((S.length:Int) -Lib.intOf p).toNat)
 case atStart=>exact⟨0,rfl,h0,hj⟩
 case round=>
  obtain⟨k,rfl,hk,jr⟩:=hrel;obtain⟨q1,q2,q3⟩:=hJ k _ jr;by_cases hl:k+1<S.length
  ·obtain⟨h1,h2,h3⟩:=hs k S[k] S[k+1] (cw (by omega)) (cw hl);obtain⟨a,ha⟩:∃a:Nat,S[k]=(a:Int):=⟨S[k].toNat,by omega⟩;obtain⟨e,he⟩:∃e:Nat,S[k+1]=(e:Int):=⟨S[k+1].toNat,by omega⟩;have ka:S[k]? =some (a:Int):=by rw[cw (by omega),ha]
   have ke:S[k+1]? =some (e:Int):=by rw[cw hl,he]
   rw[ha] at h1 h2;rw[he] at h2 h3;have c1:=q3 k _ ka;have c2:=q3 (k+1) _ ke;have mixed:Tryz.prog.follows .mixedOrders=true:=by kernel_rfl
   obtain⟨fn,tmps,assign,body,hyv,hR⟩:=hy k a e wr.drew (hJd _ _ jr) ka ke;have m1:((k:Int)+1<(S.length:Int)):=by omega
   have m2:IntKind.i64.wrap ((k:Int)+1 -1)=(k:Int):=by rw[IntKind.wrap_i64];omega
   have m3:IntKind.i64.wrap (k:Int)=(k:Int):=by rw[IntKind.wrap_i64];omega
   have m4:(k:Int)<(S.length:Int):=by omega
   have m5:(0:Int)<=(k:Int)+1:=by omega
   have m6:((k:Int)+1).toNat=k+1:=by omega
   have m7:k<S.length:=by omega
   have m8:(a:Int)<=(e:Int):=by omega
   have m9:(e:Int)<=(c:Int):=by omega
   have m10:¬c=a:=by omega
   have m11:a<=e:=by omega
   have m12:e<=c:=by omega
   gi_wp2
   refine amf 12 mixed (by kernel_rfl) ?_;simp only[ox,qa,List.drop_succ_cons,er]
   repeat still_step
   refine wpStill_nil ?_;change wpListIn _ _ _ _ _ _ _ wr.drew
   gi_wp2
   refine⟨rfl,hR.mono ?_⟩
   rintro x W4 ⟨rfl,j4⟩
   gi_wp2
   exact⟨⟨k+1,rfl,by omega,j4⟩,by simp only[Lib.intOf];omega⟩
  ·obtain rfl:k=S.length -1:=by omega
   have n1:¬(((S.length -1+1:Nat):Int)<(S.length:Int)):=by omega
   gi_wp2
   go_end0
   exact⟨⟨_,rfl⟩,jr⟩
end
namespace Lt
def u7(xs:H1 Int):H1 Int->Zh (H1 Qu)
 |a::b::r=>cond (!ak a 0&&(ak a b&&!ak xs.length b)) (ob (u7 xs (b::r)) λl=>some (ae (b -a).toNat (bk ((xs.drop a.toNat).take (b -a).toNat))::l)) none
 |[_]=>some []
 |[]=>none
def qY:H1 Qu->Zh (H1 Int)
 |[]=>some []
 | .int .i64 z::l=>ob (qY l) λr=>some (z::r)
 |_=>none
def An(I:Qu->Zh (Qu×Qu×Int))(x:Qu):Zh (Qu×Int):=ob (I x) λr=>cond (!aj r.2.2 0) (some (ae 0 [],r.2.2)) (jV x λxs=>cond (Nat.ble xs.length 1000000000) (match rowOf r.2.1 with
 |some (k,st)=>cond (Nat.blt 1 k&&(Nat.beq k st.length&&Nat.ble k 1000000)) (ob (qY st) λS=>ob (u7 xs S) λl=>some (ae l.length l,0)) none
 |none=>none) none)
end Lt
section
open Go.Shelf Go.RowKit Go.Lib
attribute [local go_sem] Oper.semAt_some
namespace Lt
theorem JC{xs:H1 Int}:∀{S:H1 Int}{l:H1 Qu},u7 xs S=some l->l.length+1=S.length/\∀(i:Nat)(a e:Int),S[i]? =some a->S[i+1]? =some e->0<=a/\a<e/\e<=(xs.length:Int)/\l[i]? =some (ae (e -a).toNat (bk ((xs.drop a.toNat).take (e -a).toNat)))
 |[],l,h=>by cases h
 |[_],l,h=>by cases h;exact⟨rfl,λi a e _ h2=>by simp at h2⟩
 |a::b::r,l,h=>by
  unfold u7 at h;obtain⟨hq,h⟩:=aW h;obtain⟨l',h1,h⟩:=ax h;cases h;obtain⟨k1,k2⟩:=JC h1;simp only[bt,uI,nO,cm,gQ] at hq;refine⟨by simp at k1⊢;omega,λi x e hx he=>?_⟩;cases i with
  |zero=>cases hx;cases he;exact⟨by omega,hq.2.1,by omega,rfl⟩
  |succ i=>exact k2 i x e hx he
theorem ints_at{m:Nat->Nat->Zh Qu}:∀{st ys:H1 Qu}{S:H1 Int},qY st=some S->bD m st ys->S.length=st.length/\∀(i:Nat)(z:Int),S[i]? =some z->ys[i]? =some (.int .i64 z)
 |[],ys,S,h,A=>by cases h;exact⟨rfl,λi z h=>by simp at h⟩
 |x::st,ys,S,h,A=>by
  unfold qY at h;split at h
  ·rename_i q;cases q
  ·rename_i z l q;cases q;obtain⟨r,h1,h⟩:=ax h;cases h;obtain⟨y,ys',rfl,a0,A2⟩:=PW.inv A;cases a0;obtain⟨k1,k2⟩:=ints_at h1 A2;refine⟨by simp[k1],λi z h=>?_⟩;cases i with
   |zero=>cases h;rfl
   |succ i=>exact k2 i z h
  ·cases h
theorem Sy:∀{st:H1 Qu}{S:H1 Int},qY st=some S->S.length=st.length
 |[],S,h=>by cases h;rfl
 |x::st,S,h=>by
  unfold qY at h;split at h
  ·rename_i q;cases q
  ·rename_i z l q;cases q;obtain⟨r,h1,h⟩:=ax h;cases h;simp[Sy h1]
  ·cases h
theorem ZQ{P:Program}{g:FuncId}{I:Qu->Zh (Qu×Qu×Int)}(HI:cQ P g [.v] (.aH [.v,.v,.i .i64]) I){x:Qu}{r:Qu×Qu×Int}(e:I x=some r)(hx:aZ [x]=true):
 ∀{m:Nat->Nat->Zh Qu}{W:Hx}{y:Qu},Kn m W->aK m x y->Calls P g #[y] W λe W'=>∃a b,e=.returned (.tuple #[a,b,.int .i64 r.2.2])/\RowKit.Below W.heap.size W W'/\aK (cJ m W W') r.2.1 b:=by
 obtain⟨u,v,z⟩:=r;intro m W y hm L;refine(HI [.v x] (u,v,z) e (λz hz=>by simp at hz;rw[hz];exact hx) _ rfl m _ W hm (.cons L .nil)).mono λe w' ⟨v',q1,q2,pv,f2,_,q3⟩=>?_;have f2:some (Value.tuple #[u,v,.int .i64 z],([]:H1 bq))=some (pv,[]):=f2;cases f2;subst q1;cases q3 with
 |@aH xs xs' h0 h=>
 obtain⟨xl⟩:=xs';obtain⟨a,_,rfl,h1,T1⟩:=PW.inv (show bD (cJ m W w') [u,v,.int .i64 z] xl from⟨h0,h⟩);obtain⟨b,_,rfl,h2,T2⟩:=PW.inv T1;obtain⟨_,_,rfl,h3,T3⟩:=PW.inv T2;cases h3;obtain rfl:=T3.dY;exact⟨a,b,rfl,q2,h2⟩
end Lt
theorem vP{W W':Hx}{B k:Nat}{e:TypeId}{v:Qu}{xs:H1 Qu}(h:W.ownsRow B e 1 v k xs)(f:∀g cur,v.ownBlock=some g->B<=g->W.heap[g]? =some (.cells cur e (0,0))->W'.heap[g]? =W.heap[g]?):W'.ownsRow B e 1 v k xs:=by
 obtain⟨l,h|⟨g,cap,cur,e1,e2,e3,r⟩⟩:=h
 ·exact⟨l,.inl h⟩
 ·subst e1;exact⟨l,.inr ⟨g,cap,cur,rfl,e2,(f g cur rfl e2 e3).trans e3,r⟩⟩
theorem ahb{W:Hx}{B B' k:Nat}{e:TypeId}{v:Qu}{xs:H1 Qu}(h:W.ownsRow B e 1 v k xs)(hb:B'<=B):W.ownsRow B' e 1 v k xs:=by
 obtain⟨l,h|⟨g,cap,cur,e1,e2,r⟩⟩:=h
 ·exact⟨l,.inl h⟩
 ·exact⟨l,.inr ⟨g,cap,cur,e1,fE hb e2,r⟩⟩
theorem Ml{W:Hx}{B k g:Nat}{e:TypeId}{v:Qu}{xs:H1 Qu}(h:W.ownsRow B e 1 v k xs)(hg:v.ownBlock=some g):B<=g/\∃cur,W.heap[g]? =some (.cells cur e (0,0)):=by
 obtain⟨l,⟨h,_⟩|⟨g',cap,cur,e1,e2,e3,_⟩⟩:=h
 ·subst h;cases hg
 ·subst e1;cases hg;exact⟨e2,cur,e3⟩
theorem ahc{W:Hx}{B k:Nat}{e:TypeId}{v:Qu}{xs:H1 Qu}(h:W.ownsRow B e 1 v k xs)(hv:v≠.slice none 0 0):∃g c,v=.slice (some ⟨g,0,none⟩) k c:=by
 obtain⟨_,⟨h,_⟩|⟨g,c,_,h,_⟩⟩:=h
 ·exact absurd h hv
 ·exact⟨g,c,h⟩
theorem bytesRow:(Tryz.prog.info? 26).map (λi=>(i.zero,i.size,i.bytes))=some (some (.slice none 0 0),1,24):=by kernel_rfl
def QB(ats:Array TypeId)(ty:TypeId)(args:Array Qu):Sem Qu:=Builtin.append_ ats ty args
theorem ab1{ats:Array TypeId}{ty:TypeId}{cs:Array Bool}{args:Array Qu}:builtin .append ats ty cs args=(do pure (.value (<-QB ats ty args))):=rfl
attribute [local go_sem↓high] ab1
def w8(W:Hx)(B:Nat)(xs S:H1 Int)(i:Nat)(u:Qu):Prop:=∃a e:Int,S[i]? =some a/\S[i+1]? =some e/\W.ownsRow B 5 1 u (e -a).toNat (Lt.bk ((xs.drop a.toNat).take (e -a).toNat))
structure uO(w:World)(z q:Nat)(R0:Loop)(s a:Value)(xs S:List Int)(k:Nat)(W:World):Prop where
 fZ:RowKit.Below z w W
 b2:∃v vs,W.heap[z]? =some (.cells #[v] 35 (0,0))/\W.ownsRow (q+2) 26 1 v k vs/\∀i u,vs[i]? =some u->w8 W (q+2) xs S i u
 b3:W.heap[z+1]? =some (.cells #[s] 26 (0,0))
 b4:W.heap[z+1+1]? =some (.cells #[a] 47 (0,0))
 b5:W.heap[q]? =some (.deferred (some []))
 b6:W.heap[q+1]? =some (.loop R0)
theorem w8.tR{W W':Hx}{B:Nat}{xs S:H1 Int}{i:Nat}{u:Qu}(h:w8 W B xs S i u)(f:∀g cur,u.ownBlock=some g->B<=g->W.heap[g]? =some (.cells cur 5 (0,0))->W'.heap[g]? =W.heap[g]?):w8 W' B xs S i u:=by obtain⟨a,e,h1,h2,h3⟩:=h;exact⟨a,e,h1,h2,vP h3 f⟩
theorem uO.drew{w:Hx}{z q:Nat}{R0:Loop}{s a:Qu}{xs S:H1 Int}{k:Nat}{W:Hx}(h:uO w z q R0 s a xs S k W):uO w z q R0 s a xs S k W.drew:=by obtain⟨⟨a1,a2,a3,a4,a5⟩,b,c,d,e,f⟩:=h;exact⟨⟨a1,a2,a3,a4,a5⟩,b,c,d,e,f⟩
theorem aaS{w:Hx}{z q:Nat}{R0 R1:Loop}{s t:Qu}{xs S:H1 Int}{k:Nat}{W W7 w9:Hx}{v2 v' v9:Qu}{vs:H1 Qu}{o:Obj}{a e:Nat}
 (zq:z+3<=q) (fZ:RowKit.Below z w W) (r2:W.ownsRow (q+2) 26 1 v2 k vs) (cl:∀i u,vs[i]? =some u->w8 W (q+2) xs S i u)
 (c2:W.heap[z]? =some (.cells #[v2] 35 (0,0))) (c3:W.heap[z+1]? =some (.cells #[s] 26 (0,0))) (c4:W.heap[z+1+1]? =some (.cells #[t] 47 (0,0))) (d1:W.heap[q]? =some (.deferred (some []))) (d2:W.heap[q+1]? =some (.loop R0))
 (ha:S[k]? =some (a:Int)) (he:S[k+1]? =some (e:Int))
 (h7:W7.ownsRow W.heap.size 5 1 v' (e -a) (((xs.drop a).take (e -a)).map (Value.int .u8))) (b7:RowKit.Below W.heap.size (W.putObj (q+1) (.loop R1)) W7)
 (h9:w9.ownsRow (q+2) 26 1 v9 (k+1) (vs++[v'])) (g9:(W7.alloc o).grownBy w9 v2.ownBlock):
 (w9.setCell ⟨z,0,none⟩ v9).heap[q+1]? =some (.loop R1)/\uO w z q R0 s t xs S (k+1) ((w9.setCell ⟨z,0,none⟩ v9).putObj (q+1) (.loop R0)):=by
 have zl:q+1<W.heap.size:=(fw.1 d2).1;have pk:∀j,j≠q+1->(W.putObj (q+1) (.loop R1)).heap[j]? =W.heap[j]? :=λj h=>World.putObj_heap_other h;have z9:=g9.size;have z7:=b7.size;rw[jm] at z9;rw[World.putObj_size] at z7;have nb:∀j,some j=v2.ownBlock->q+2<=j/\j<W.heap.size/\∃cur,W.heap[j]? =some (.cells cur 26 (0,0)):=λj h=>by obtain⟨h1,cur,h2⟩:=Ml r2 h.symm;exact⟨h1,(fw.1 h2).1,cur,h2⟩
 have e7:∀j,j<W7.heap.size->j≠z->some j≠v2.ownBlock->(w9.setCell ⟨z,0,none⟩ v9).heap[j]? =W7.heap[j]? :=λj h1 h2 h3=>
  (Below.heap_setCell _ _ _ j h2).trans ((g9.block j (by rw[jm];omega) h3).trans (Below.heap_alloc _ _ _ h1))
 have e1:∀j,j<W.heap.size->j≠z->j≠q+1->some j≠v2.ownBlock->(w9.setCell ⟨z,0,none⟩ v9).heap[j]? =W.heap[j]? :=λj h1 h2 h3 h4=>
  (e7 j (by omega) h2 h4).trans ((b7.block j h1).trans (pk j h3))
 have lo:∀j,j<q+2->some j≠v2.ownBlock:=λj h e=>by have:=(nb j e).1;omega
 have po:∀j,j≠q+1->((w9.setCell ⟨z,0,none⟩ v9).putObj (q+1) (.loop R0)).heap[j]? =(w9.setCell ⟨z,0,none⟩ v9).heap[j]? :=λj h=>World.putObj_heap_other h;have al:∀j,j<q+2->j≠z->j≠q+1->((w9.setCell ⟨z,0,none⟩ v9).putObj (q+1) (.loop R0)).heap[j]? =W.heap[j]? :=λj h1 h2 h3=>(po j h3).trans (e1 j (by omega) h2 h3 (lo j h1));have k9:w9.heap[z]? =some (.cells #[v2] 35 (0,0)):=(g9.block z (by rw[jm];omega) (lo z (by omega))).trans ((Below.heap_alloc _ _ _ (by omega)).trans ((b7.block z (by omega)).trans ((pk z (by omega)).trans c2)));have kl:(w9.setCell ⟨z,0,none⟩ v9).heap[q+1]? =some (.loop R1):=(e7 (q+1) (by omega) (by omega) (lo _ (by omega))).trans ((b7.block (q+1) zl).trans (World.putObj_heap_same zl));have hvs:vs.length=k:=by have:=r2.1;omega
 refine⟨kl,⟨?_,?_,?_,?_,λj hj=>?_⟩,⟨v9,vs++[v'],(po z (by omega)).trans (Boxed.set _ k9),?_,λi u hu=>?_⟩,(al _ (by omega) (by omega) (by omega)).trans c3,(al _ (by omega) (by omega) (by omega)).trans c4,(al _ (by omega) (by omega) (by omega)).trans d1,World.putObj_heap_same (fw.1 kl).1⟩
 ·exact g9.os.trans (b7.os.trans fZ.os)
 ·exact g9.tape.trans (b7.tape.trans fZ.tape)
 ·exact g9.output.trans (b7.output.trans fZ.output)
 ·have:=fZ.size;simp;omega
 ·have:=fZ.size;exact(al j (by omega) (by omega) (by omega)).trans (fZ.block j hj)
 ·exact vP h9 λg cur _ hg _=>(po g (by omega)).trans (Below.heap_setCell _ _ _ g (by show g≠z;omega))
 ·rcases gY i vs.length with h|h
  ·rw[rQ h] at hu;refine(cl i u hu).tR λg cur _ hg hc=>(po g (by omega)).trans (e1 g (fw.1 hc).1 (by omega) (by omega) λq=>?_);obtain⟨_,_,cur',h'⟩:=nb g q;rw[hc] at h';cases h'
  ·rw[uJ h] at hu;have hi:i=vs.length:=by
    have:=(mJ.1 hu).1;simp at this;omega
   subst hi;have hu:some v'=some u:=by rw[<-hu];simp
   cases hu;rw[hvs];refine⟨a,e,ha,he,?_⟩;rw[show((e:Int) -(a:Int)).toNat=e -a by omega,show((a:Int)).toNat=a from rfl];have h8:W7.ownsRow (q+2) 5 1 v' (e -a) (Lt.bk ((xs.drop a).take (e -a))):=ahb h7 (by omega);refine vP (vP (W':=w9.setCell ⟨z,0,none⟩ v9) h8 λg cur eg hg hc=>?_) λg cur _ hg _=>po g (by omega);have:=(Ml h7 eg).1;exact e7 g (fw.1 hc).1 (by omega) λq=>by have:=(nb g q).2.1;omega
theorem Am{m:Nat->Nat->Zh Qu}{w W:Hx}{B k:Nat}{v:Qu}{xs S:H1 Int}{vs l:H1 Qu}(hB:w.heap.size<=B)(h:W.ownsRow B 26 1 v k vs)(cl:∀i u,vs[i]? =some u->w8 W B xs S i u)(hl:l.length+1=S.length)(hk:k+1=S.length)
 (hla:∀(i:Nat)(a e:Int),S[i]? =some a->S[i+1]? =some e->l[i]? =some (Lt.ae (e -a).toNat (Lt.bk ((xs.drop a.toNat).take (e -a).toNat)))):Lt.aK (Lt.cJ m w W) (Lt.ae l.length l) v:=by
 have on:Lt.aZ l=true:=Lt.iV.2 λx hx=>by obtain⟨i,hi,rfl⟩:=List.mem_iff_getElem.1 hx;have q:=hla i _ _ (cw (show i<S.length by omega)) (cw (show i+1<S.length by omega));rw[cw hi] at q;rw[jC q];rfl
 have h1:=h.1;obtain⟨_,⟨rfl,hn⟩|⟨g,cap,cur,rfl,hg1,hg,hnc,_,hcs,htk⟩⟩:=h
 ·have:l=[]:=kC (by omega);subst this;exact .fW
 ·rw[show l.length=k by omega];refine .row (ys:=vs) ⟨by omega,λi x y hx hy=>?_⟩ (λi y hy=>?_) rfl hnc on
  ·obtain⟨a,e,k1,k2,k3⟩:=cl i y hy;have q:=hla i a e k1 k2;rw[hx] at q;rw[jC q];generalize(xs.drop a.toNat).take (e -a).toNat=t at k3⊢;generalize(e -a).toNat=n at k3⊢;have k4:t.length=n:=by have:=k3.1;rw[Lt.bk,cH] at this;omega
   subst k4;exact Lt.Fk hB k3
  ·unfold Lt.cJ;rw[aq (by show¬g<_;omega),Lt.sq hg];have:vs[i]? =cur.toList[i]? :=by
    rw[<-htk,zK];rcases gY i (k*1) with q|q
    ·exact q
    ·rw[kR (by omega)] at hy;cases hy
   rw[this] at hy;simpa using hy
theorem aaT{m:Nat->Nat->Zh Qu}{w:Hx}(hk:Lt.Kn m w){I:Qu->Zh (Qu×Qu×Int)}(HI:Lt.cQ Tryz.prog 37 [.v] (.aH [.v,.v,.i .i64]) I){x:Qu}(hx:Lt.aZ [x]=true){r:Qu×Qu×Int}(hr:I x=some r)(h0:r.2.2 =0)
 {b o c:Nat} {xs:H1 Int} (hn:xs.length<=1000000000) (hcp:xs.length<=c) (L:Lt.aK m x (.slice (some ⟨b,o,none⟩) xs.length c)) (hcell:∀i,i<xs.length->w.cell? ⟨b,o+i,none⟩=some (.int .u8 (xs.getD i 0)))
 {k:Nat} {st:H1 Qu} (hst:Lt.rowOf r.2.1 =some (k,st)) (hk1:1<k) (hk2:k=st.length) (hk3:k<=1000000) {S:H1 Int} (hS:Lt.qY st=some S) {l:H1 Qu} (hl:Lt.u7 xs S=some l):
 Calls Tryz.prog 43 #[.slice (some ⟨b,o,none⟩) xs.length c] w λe w'=>∃v,e=.returned (.tuple #[v,.int .i64 0])/\RowKit.Below w.heap.size w w'/\Lt.aK (Lt.cJ m w w') (Lt.ae l.length l) v:=by
 refine(callsIn_wide (n:=0)).1 ?_;refine callsIn_of_wp_marks Tryz.func43 rfl trivial ?_ rfl;simp only[Tryz.ntmps43,p9,cc,List.length_nil,Nat.reduceAdd,Nat.reduceSub,pW,pX,pZ,pY,fy,eD];have CI:=Lt.ZQ HI hr hx hk L;rw[h0] at CI
 gi_wp2
 refine⟨trivial,rfl,(callsIn_wide.2 CI).mono ?_⟩
 rintro e w1 ⟨ai,bi,rfl,BB,HL⟩
 obtain⟨pa,ca,rfl,hrow⟩:=Lt.FP hst HL;obtain⟨pb,po,ys,rfl,hca,hys,hyc⟩:=hrow (by omega);obtain⟨tP,hSi⟩:=Lt.ints_at hS hys;obtain⟨hll,hla⟩:=Lt.JC hl;obtain rfl:k=S.length:=by omega
 have hat:∀i z,S[i]? =some z->w1.cell? ⟨pb,po+i,none⟩=some (.int .i64 z):=λi z h=>hyc i _ (hSi i z h) w1 (hk.new BB);have hcell1:∀i,i<xs.length->w1.cell? ⟨b,o+i,none⟩=some (.int .u8 (xs.getD i 0)):=λi hi=>(BB.cell (p:=⟨b,o+i,none⟩) (ja _ _ (hcell i hi))).trans (hcell i hi);clear hk2 tP hSi hys hyc hrow HL CI hcell hst hS hl
 gi_wp2
 refine⟨trivial,rfl,(callsIn_wide.2 (aac _ _ _ _ _ _ _)).mono ?_⟩
 rintro e w2 ⟨rfl,rfl⟩
 gi_wp2
 obtain⟨z,hz⟩:∃z,z=w1.heap.size:=⟨_,rfl⟩;obtain⟨w2,hw2⟩:∃w2,w2=((w1.alloc (.cells #[.slice none 0 0] 35)).alloc (.cells #[.slice (some ⟨b,o,none⟩) xs.length c] 26)).alloc (.cells #[.slice (some ⟨pb,po,none⟩) S.length ca] 47):=⟨_,rfl⟩;have J0:RowKit.Below z w1 w2/\w2.heap.size=z+3/\w2.heap[z]? =some (.cells #[.slice none 0 0] 35 (0,0))/\w2.heap[z+1]? =some (.cells #[.slice (some ⟨b,o,none⟩) xs.length c] 26 (0,0))/\w2.heap[z+1+1]? =some (.cells #[.slice (some ⟨pb,po,none⟩) S.length ca] 47 (0,0)):=by
  rw[hw2,hz];refine⟨(((fq _ w1).alloc (aM _) _).alloc (by simp) _).alloc (by simp;omega) _,by simp,?_,?_,?_⟩;all_goals
   simp only[Qx,jm,ea]
   repeat rw[aq (by omega)]
 rw[<-hw2,<-hz];clear hw2;obtain⟨J1,J2,J3,J4,J5⟩:=J0;refine Bz (gf:=149) (lb:=#[.pointer (some ⟨z+1+1,0,none⟩),.pointer (some ⟨z+1,0,none⟩)]) rfl (enters_of Tryz.func149 (by kernel_rfl) rfl) ?_;intro fn W1 hW1;refine(callsIn_wide (n:=0)).1 ?_;generalize hR0:iX fn _ _ _ _ _ .ready=R0 at hW1⊢;obtain⟨q,hq⟩:∃q,q=w2.heap.size:=⟨_,rfl⟩;have j0:uO w1 z q R0 (.slice (some ⟨b,o,none⟩) xs.length c) (.slice (some ⟨pb,po,none⟩) S.length ca) xs S 0 W1:=by
  have bl:RowKit.Below w2.heap.size w2 W1:=by rw[hW1];exact((fq _ w2).alloc (aM _) _).alloc (by simp) _
  have k:∀{q o},w2.heap[q]? =some o->W1.heap[q]? =some o:=λ{q o} e=>(bl.block q (fw.1 e).1).trans e;refine⟨J1.trans (bl.mono (by omega)),⟨_,[],k J3,World.ownsRow_nil _ _ _ _,λi u h=>by simp at h⟩,k J4,k J5,?_,?_⟩
  ·rw[hW1,hq];exact(Below.heap_alloc _ _ _ (by simp)).trans (World.alloc_heap_new w2 _)
  ·have:=World.alloc_heap_new (w2.alloc (.deferred (some []))) (.loop R0);rw[jm] at this;rw[hW1,hq];exact this
 rw[<-hq];have zq3:z+3<=q:=by omega
 have z1:z<=w1.heap.size:=by omega
 have z2:w1.heap.size<=z:=by omega
 clear hq hW1 J1 J2 J3 J4 J5 hz;refine(aad (z+1+1) (z+1) (q+1) (b:=b) (o:=o) (n:=xs.length) (c:=c) (pb:=pb) (po:=po) (ca:=ca) S (by omega) hcp (λk a e h1 h2=>⟨(hla k a e h1 h2).1,(hla k a e h1 h2).2.1,(hla k a e h1 h2).2.2.1⟩) (uO w1 z q R0 (.slice (some ⟨b,o,none⟩) xs.length c) (.slice (some ⟨pb,po,none⟩) S.length ca) xs S) (λk W h=>⟨(cell_of h.b4).1,(cell_of h.b3).1,λi v hv=>?_⟩) (λk W h=>h.drew) ?hy W1 j0 (by omega)).mono ?_
 ·have:pb<w1.heap.size:=ja _ _ (hat i v hv);exact(h.fZ.cell (p:=⟨pb,po+i,none⟩) (by show pb<z;omega)).trans (hat i v hv)
 case hy=>
  intro k a e W hj hka hke;obtain⟨fZ,⟨v2,vs,c2,r2,cl⟩,c3,c4,d1,d2⟩:=hj;have d20:=d2;rw[<-hR0] at d2;refine(FN (n:=0) (R:=uO w1 z q R0 (.slice (some ⟨b,o,none⟩) xs.length c) (.slice (some ⟨pb,po,none⟩) S.length ca) xs S (k+1)) d2 rfl ?_).mono λe' W' h=>h;rw[hR0] at d2⊢;generalize iX fn _ _ _ _ _ .busy=R1;have D2:=Lib.hid d2;clear d2
  gi_wp2
  have mixed:Tryz.prog.follows .mixedOrders=true:=by kernel_rfl
  obtain⟨W2,hW2⟩:∃W2,W2=W.putObj (q+1) (.loop R1):=⟨_,rfl⟩;have zl:q+1<W.heap.size:=(fw.1 d20).1;have s2:W2.heap.size=W.heap.size:=by rw[hW2];simp
  have pk:∀j,j≠q+1->W2.heap[j]? =W.heap[j]? :=λj h=>by rw[hW2];exact World.putObj_heap_other h
  have k2:=(pk _ (by omega)).trans c2;have r22:=vP (W':=W2) r2 λg cur _ hg _=>pk g (by omega);obtain⟨_,l2,l3,_⟩:=hla k a e hka hke;have kS:k+1<S.length:=(mJ.1 hke).1;have HC:=Tryz.bytes_Clone_at ⟨b,o+a,none⟩ (e -a) (c -a) ((xs.drop a).take (e -a)) W2.drew (by rw[dk,eu];omega) (by omega) (λi hi=>by have h1:=hcell1 (a+i) (by omega);have h2:b<w1.heap.size:=ja _ _ h1;have h3:W2.cell? ⟨b,o+(a+i),none⟩=w1.cell? ⟨b,o+(a+i),none⟩:=jl (a:=⟨b,o+(a+i),none⟩) ((pk b (by omega)).trans (fZ.block b (by omega)));rw[Addr.add_lit,o8];refine(show W2.drew.cell? _=W2.cell? _ from rfl).trans (h3.trans (h1.trans ?_));simp only[List.getD,o6,s8,ay hi]);have AP:∀(W7:Hx)(v':Qu),RowKit.Below W2.heap.size W2 W7->W7.ownsRow W2.heap.size 5 1 v' (e -a) (((xs.drop a).take (e -a)).map (Value.int .u8))->∃v9 w9,(QB #[35,35] 35 #[v2,.slice (some ⟨W7.heap.size,0,none⟩) 1 1]).run Tryz.prog (W7.alloc (.cells #[v'] 26))=.ok v9 w9/\w9.ownsRow (q+2) 26 1 v9 (k+1) (vs++[v'])/\(W7.alloc (.cells #[v'] 26)).grownBy w9 v2.ownBlock:=by
   intro W7 v' b7 h7;obtain⟨i0,hi,hz0,hz1,hz2⟩:=info_parts bytesRow;have s7:=b7.size;have r7:=vP (W':=W7.alloc (.cells #[v'] 26)) r22 λg cur _ _ hg=>(Below.heap_alloc _ _ _ (by have:=(fw.1 hg).1;omega)).trans (b7.block g (fw.1 hg).1);have ov:v'.oneCell'=true:=by obtain⟨_,⟨rfl,_⟩|⟨_,_,_,rfl,_⟩⟩:=h7<;>rfl
   obtain⟨v9,w9,h1,h2,h3,_⟩:=run_append_own (P:=Tryz.prog) (W7.alloc (.cells #[v'] 26)) (q+2) 35 35 26 i0 (.slice none 0 0) 1 24 Tryz.underlying35 hi hz0 hz1 hz2 rfl (by decide) v2 k vs r7 ⟨W7.heap.size,0,none⟩ 1 1 [v'] rfl (cell_one_new _ _ _) (by simp[ov]) (by show _<=9223372036854775807;omega) (by omega) (by simp;omega);exact⟨v9,w9,h1,h2,h3⟩
  rw[<-hW2];have HC:=Lib.hid HC;have HW:=Lib.hid hW2;clear hW2;have f0:=(cell_of k2).1;have HS:=Lib.hid s2;clear l2 l3 zl s2;have zW:z<W2.heap.size:=(fw.1 k2).1;have nz:some z≠v2.ownBlock:=λh=>by have:=(Ml r22 h.symm).1;omega
  gi_region_with_o (refine⟨trivial,rfl,(CallsIn.inRound _ (callsIn_wide.2 HC.out)).mono ?_⟩;rintro e' W7 ⟨v',rfl,h7,cA,b7⟩;obtain⟨v9,w9,hrun,h9,g9⟩:=AP W7 v' ⟨b7.os,b7.tape,b7.output,b7.size,b7.block⟩ h7;obtain⟨g7,c7,rfl⟩:=ahc h7 cA;obtain⟨gr,cr,rfl⟩:=ownsRow_succ h9;have k7:=(b7.block z zW).trans k2;have ka7:=λo=>(Below.heap_alloc W7 o z (fw.1 k7).1).trans k7;have k9:=(g9.block z (by rw[jm];have:=(fw.1 k7).1;omega) nz).trans (ka7 _);obtain⟨f7,_⟩:=cell_of k7;have fa7:=λo=>(cell_of (ka7 o)).1;obtain⟨f9,fz9⟩:=cell_of k9)
  all_goals
   have b8:RowKit.Below W.heap.size (W.putObj (q+1) (.loop R1)) W7:=by rw[<-HW.out,<-HS.out];exact⟨b7.os,b7.tape,b7.output,b7.size,b7.block⟩
   have h8:W7.ownsRow W.heap.size 5 1 (.slice (some ⟨g7,0,none⟩) (e -a) c7) (e -a) (((xs.drop a).take (e -a)).map (Value.int .u8)):=by rw[<-HS.out];exact h7
   exact aaS (by omega) fZ r2 cl c2 c3 c4 d1 d20 hka hke h8 b8 h9 g9
 rintro e W2 ⟨⟨v,rfl⟩,j⟩
 refine⟨⟨_,rfl⟩,j.b6,?_⟩;generalize iX fn _ _ _ _ _ .exhausted=R9;obtain⟨fZ,⟨v2,vs,c2,r2,cl⟩,c3,c4,d1,d2⟩:=j;obtain⟨W3,hW3⟩:∃W3,W3=W2.putObj (q+1) (.loop R9):=⟨_,rfl⟩;have pk:∀k,k≠q+1->W3.heap[k]? =W2.heap[k]? :=λk hk=>by rw[hW3];exact World.putObj_heap_other hk
 have zq:q+1<W2.heap.size:=(fw.1 d2).1;have bel3:RowKit.Below z w1 W3:=by refine fZ.trans ?_;rw[hW3];exact⟨rfl,rfl,rfl,by simp,λk hk=>World.putObj_heap_other (by omega)⟩
 rw[<-hW3];clear hW3;replace c2:=(pk _ (by omega)).trans c2;replace d1:=(pk _ (by omega)).trans d1;have p2:=(cell_of c2).1
 gi_wp2
 refine⟨by simp,.inl ⟨_,_,rfl,run_takeDeferred d1,?_⟩⟩;have po:∀k,k≠q->(W3.putObj q (.deferred none)).heap[k]? =W3.heap[k]? :=λk h=>World.putObj_heap_other h;have kp:∀k,q+2<=k->(W3.putObj q (.deferred none)).heap[k]? =W2.heap[k]? :=λk h=>(po k (by omega)).trans (pk k (by omega));refine⟨.tuple #[v2,.int .i64 0],by simp[results,Tryz.f43,go_sem],_,rfl,?_,?_⟩
 ·exact BB.trans ((bel3.mono (by have:=BB.size;omega)).trans ⟨rfl,rfl,rfl,by simp,λk hk=>World.putObj_heap_other (by have:=BB.size;omega)⟩)
 ·exact Am (by have:=BB.size;omega) (vP r2 λg cur _ hg _=>kp g hg) (λi u h=>(cl i u h).tR λg cur _ hg _=>kp g hg) hll (by omega) λi a e h1 h2=>(hla i a e h1 h2).2.2.2
theorem aaN{w:Hx}{y:Qu}{P:Qu->Hx->Prop}{z:Int}(CI:Calls Tryz.prog 37 #[y] w λe W'=>∃a b,e=.returned (.tuple #[a,b,.int .i64 z])/\RowKit.Below w.heap.size w W'/\P b W')(h0:¬z=0):
 Calls Tryz.prog 43 #[y] w λe w'=>e=.returned (.tuple #[.slice none 0 0,.int .i64 z])/\RowKit.Below w.heap.size w w':=by
 refine(callsIn_wide (n:=0)).1 ?_;refine callsIn_of_wp_marks Tryz.func43 rfl trivial ?_ rfl;simp only[Tryz.ntmps43,p9,cc,List.length_nil,Nat.reduceAdd,Nat.reduceSub,pW,pX,pZ,pY,fy,eD]
 gi_wp2
 refine⟨trivial,rfl,(callsIn_wide.2 CI).mono ?_⟩
 rintro e w1 ⟨ai,bi,rfl,BB,_⟩
 gi_wp2
 exact⟨.tuple #[.slice none 0 0,.int .i64 z],by simp[results,Tryz.f43,go_sem],rfl,BB⟩
namespace Lt
theorem aaU{I:Qu->Zh (Qu×Qu×Int)}(HI:cQ Tryz.prog 37 [.v] (.aH [.v,.v,.i .i64]) I):cQ Tryz.prog 43 [.v] nE (An I):=by
 refine .mk λls r e hl us hu=>?_;obtain⟨x,r1,us1,h1,h2,rfl⟩:=gJ hu;obtain⟨rfl,rfl⟩:=nK h2;obtain rfl:=kY h1;have hx:aZ [x]=true:=hl x (by simp);replace e:An I x=some r:=e;unfold An at e;obtain⟨t,ht,e⟩:=ax e;by_cases h0:t.2.2 =0
 case neg=>rw[show aj t.2.2 0=false by rw[vA];exact eB h0] at e;have e:r=(ae 0 [],t.2.2):=(jC e).symm;refine⟨xQ (by rw[e];rfl),_,rfl,zG λm args' w hm A=>?_⟩;subst e;obtain⟨al⟩:=args';replace A:bD m _ al:=A;obtain⟨y,_,rfl,a0,A⟩:=PW.inv A;obtain rfl:=A.dY;exact(aaN (ZQ HI ht hx hm a0) h0).mono λe w' ⟨h1,h2⟩=>⟨_,h1,h2,.fW⟩
 rw[show aj t.2.2 0=true by rw[vA];exact dZ h0] at e;have e2:jV x _=some r:=e;refine⟨xQ (DC e2 λxs r e=>?_),_,rfl,zG λm args' w hm A=>?_⟩
 ·obtain⟨_,e⟩:=aW e;split at e
  ·obtain⟨_,e⟩:=aW e;obtain⟨_,_,e⟩:=ax e;obtain⟨_,_,e⟩:=ax e;cases e;rfl
  ·cases e
 obtain⟨al⟩:=args';replace A:bD m _ al:=A;obtain⟨_,_,rfl,a0,A⟩:=PW.inv A;obtain rfl:=A.dY;obtain⟨xs,hK,hv⟩:=xu hm e2 a0;obtain⟨hn,hK⟩:=aW hK;split at hK
 case h_2=>cases hK
 rename_i k st hst;obtain⟨hq,hK⟩:=aW hK;obtain⟨S,hS,hK⟩:=ax hK;obtain⟨l,hl2,hK⟩:=ax hK;cases hK;simp only[bt] at hq;have q1:=fb hq.1;have q2:=bT hq.2.1;have q3:=dW hq.2.2;obtain⟨_,hla⟩:=JC hl2;have hpos:0<xs.length:=by have tP:S.length=st.length:=Sy hS;obtain⟨_,h2,h3,_⟩:=hla 0 _ _ (cw (show 0<S.length by omega)) (cw (show 1<S.length by omega));omega
 obtain⟨a,c,rfl,hc,hcell⟩|⟨rfl,_⟩:=hv
 ·obtain⟨b,o,sp⟩:=a;obtain rfl:sp=none:=by
   generalize xs.length=n at a0 hpos;cases a0 with
   |kv _ _ _ hs _ _=>exact hs
   |fW=>exact absurd hpos (Nat.lt_irrefl 0)
   |zH=>exact absurd hpos (Nat.lt_irrefl 0)
   |AF r=>cases r with
    |kv _ _ _ hs _ _=>exact hs
    |fW=>exact absurd hpos (Nat.lt_irrefl 0)
  exact aaT hm HI hx ht h0 (dW hn) hc a0 (λi hi=>by have:=hcell i hi;rwa[Addr.add_lit] at this) hst q1 q2 q3 hS hl2
 ·exact absurd hpos (Nat.lt_irrefl 0)
end Lt
end
namespace Lt
section
variable{β:Type}
@[simp] theorem aU(a b:Int):ak a b=decide (a<b):=nO a b
@[simp] theorem bY(a b:Int):aj a b=decide (a=b):=by rw[vA];rfl
@[simp] theorem mQ(a b:Nat):Nat.blt a b=decide (a<b):=by rw[iD,cm,Nat.blt_eq]
@[simp] theorem gA(a b:Nat):Nat.ble a b=decide (a<=b):=by rw[iD,cm,iq]
@[simp] theorem Ag(a b:Nat):Nat.beq a b=decide (a=b):=by rw[iD,cm,Nat.beq_eq]
@[simp] theorem qT{α:Type}{p:Prop}[Decidable p](a b:α):cond (decide p) a b=if p then a else b:=by by_cases h:p<;>simp
theorem amL{α:Type}(c:Bool)(a b:α):cond c a b=if c=true then a else b:=by cases c<;>rfl
@[simp] theorem aB{α β:Type}(a:α)(f:α->Zh β):ob (some a) f=f a:=rfl
@[simp] theorem amN{α β:Type}(f:α->Zh β):ob none f=none:=rfl
@[simp] theorem iO{α γ δ:Type}(a:α)(f:α->δ)(g:γ->δ):dI (.inl a) f g=f a:=rfl
@[simp] theorem IA{α γ δ:Type}(a:γ)(f:α->δ)(g:γ->δ):dI (.inr a) f g=g a:=rfl
@[simp] theorem bc(x:Qu)(r:H1 Qu)(K:Qu->H1 Qu->Zh β):af (x::r) K=K x r:=rfl
@[simp] theorem amP(K:Qu->H1 Qu->Zh β):af [] K=none:=rfl
@[simp] theorem amM(r:Zh β):oP [] r=r:=rfl
@[simp] theorem bK(k:IntKind)(n:Int)(K:Int->Zh β):aw k (.int k n) K=K n:=by unfold aw;simp
@[simp] theorem amG(b:Bool)(K:Bool->Zh β):Ac (.bool b) K=K b:=rfl
@[simp] theorem amK(s:ByteArray)(K:ByteArray->Zh β):Ad (.string s) K=K s:=rfl
@[simp] theorem bH(n:Nat)(K:Nat->Zh β):aE (n:Int) K=K n:=rfl
@[simp] theorem amI(n:Nat)(K:Nat->Zh β):aE (Int.ofNat n) K=K n:=rfl
@[simp] theorem amJ(K:Nat->Zh β):aE 0 K=K 0:=rfl
@[simp] theorem amH(n:Nat)(K:Nat->Zh β):aE (no_index(OfNat.ofNat n)) K=K (OfNat.ofNat n):=rfl
theorem lZ{n:Int}(h:0<=n)(K:Nat->Zh β):aE n K=K n.toNat:=by obtain⟨m,rfl⟩:=Int.eq_ofNat_of_zero_le h;rfl
@[simp] theorem ac6(n:Nat)(c:H1 Qu)(K:Nat->Zh β):ar (ae n c) K=K n:=rfl
@[simp] theorem abn[QF](x:Qu)(r:Zh β):lf x x r=r:=xE x r
theorem Tf(sz m n:Nat)(c:H1 Qu)(K:H1 Qu->Zh β):aJ sz m (ae n c) K=if m<n then K (c.drop (m*sz)) else none:=by unfold aJ ae;simp
theorem aaL(sz l h n:Nat)(c:H1 Qu)(K:Qu->Zh β):gC sz l h (ae n c) K=K (ae (h -l) ((c.drop (l*sz)).take ((h -l)*sz))):=rfl
theorem abM(E n:Nat)(c:H1 Qu)(K:Nat->H1 Qu->Zh β):dN E (ae n c) K=if n*E<=c.length then K n (c.take (n*E)) else none:=by unfold dN ae;simp
@[simp] theorem amO(n:Nat):aF n=decide (n<=1000000000):=by unfold aF;rw[gA]
theorem aQ{n:Int}(h1:-9223372036854775808<=n)(h2:n<9223372036854775808):ag .i64 n=n:=by
 unfold ag;have:vD .i64 n=true:=by
  cases n with
  |ofNat m=>show Nat.blt m 9223372036854775808=true;simp_all;omega
  |negSucc m=>show Nat.blt m 9223372036854775808=true;rw[mQ,cm];omega
 grind
theorem tw{n:Int}(h1:0<=n)(h2:n<18446744073709551616):ag .u64 n=n:=by
 unfold ag;have:vD .u64 n=true:=by
  cases n with
  |ofNat m=>show Nat.blt m 18446744073709551616=true;simp_all;omega
  |negSucc m=>omega
 grind
@[simp] theorem jh(a b:Int):Int.sub a b=a -b:=rfl
@[simp] theorem cf(a b:Int):Int.add a b=a+b:=rfl
@[simp] theorem pH(a b:Int):Int.mul a b=a*b:=rfl
@[simp] theorem bO(n:Nat):Int.ofNat n=(n:Int):=rfl
theorem adk{α:Type}(z:α)(F:α->α)(n:Nat):lp z F (n+1)=F (lp z F n):=rfl
theorem eU{α:Type}(z:α)(F:α->α){n:Nat}(h:0<n):lp z F n=F (lp z F (n -1)):=by
 cases n with
 |zero=>omega
 |succ n=>rfl
theorem gV{α γ:Type}{z:α}{F:α->α}{r:γ}{w:Nat}(ev:Nat->α->γ)(m:Nat)(hs:∀i g,i<m->ev i (F g)=ev (i+1) g)(he:∀g,ev m (F g)=r)(h:m<w):ev 0 (lp z F w)=r:=by
 have:∀(d i v:Nat),i+d=m->d<v->ev i (lp z F v)=r:=by
  intro d;induction d with
  |zero=>intro i v hi hv;rw[eU z F (by omega),show i=m by omega,he]
  |succ d ih=>
   intro i v hi hv;rw[eU z F (by omega)]
   grind
 grind
def aA{α:Type}(f:α->H1 Qu)(l:H1 α):Qu:=ae l.length (l.flatMap f)
def bh(b:UInt8):Qu:=.int .u8 (b.toNat:Int)
def pC(b:UInt8):H1 Qu:=[bh b]
def ah(l:H1 UInt8):Qu:=aA pC l
theorem cy{α:Type}{f:α->H1 Qu}{k:Nat}(hf:∀x,(f x).length=k):∀l:H1 α,(l.flatMap f).length=l.length*k
 |[]=>by simp
 |x::l=>by rw[dG,aP,hf,cy hf l,cc,lW,Nat.one_mul,Nat.add_comm]
theorem mT{α:Type}{f:α->H1 Qu}{k:Nat}(hf:∀x,(f x).length=k):∀(l:H1 α)(m:Nat),(l.flatMap f).drop (m*k)=(l.drop m).flatMap f
 |l,0=>by simp
 |[],m+1=>by simp
 |x::l,m+1=>by rw[dG,lW,Nat.one_mul,Nat.add_comm (m*k),<-List.drop_drop,List.drop_left' (hf x),mT hf l m];rfl
theorem vr{α:Type}{f:α->H1 Qu}{k:Nat}(hf:∀x,(f x).length=k):∀(l:H1 α)(m:Nat),(l.flatMap f).take (m*k)=(l.take m).flatMap f
 |l,0=>by simp
 |[],m+1=>by simp
 |x::l,m+1=>by rw[dG,lW,Nat.one_mul,Nat.add_comm (m*k),List.take_append,eQ (by rw[hf];omega),hf,IW,vr hf l m];rfl
@[simp] theorem bU{α:Type}(f:α->H1 Qu)(l:H1 α)(K:Nat->Zh β):ar (aA f l) K=K l.length:=rfl
theorem bu{α:Type}{f:α->H1 Qu}{k:Nat}(hf:∀x,(f x).length=k){l:H1 α}{m:Nat}(h:m<l.length)(K:H1 Qu->Zh β):aJ k m (aA f l) K=K (f l[m]++(l.drop (m+1)).flatMap f):=by unfold aA;rw[Tf,ay h,mT hf,cW h,dG]
theorem r8{α:Type}{f:α->H1 Qu}{k:Nat}(hf:∀x,(f x).length=k)(l:H1 α){a b:Nat}(h:b<=l.length)(K:Qu->Zh β):gC k a b (aA f l) K=K (aA f ((l.drop a).take (b -a))):=by
 unfold aA;rw[aaL,mT hf,vr hf]
 grind
theorem vw{α:Type}{f:α->H1 Qu}{k:Nat}(hf:∀x,(f x).length=k)(l:H1 α)(K:Nat->H1 Qu->Zh β):dN k (aA f l) K=K l.length (l.flatMap f):=by unfold aA;rw[abM,cy hf,ay (aM _),eQ (by rw[cy hf];exact aM _)]
theorem JE(b:UInt8):(pC b).length=1:=rfl
@[simp] theorem cN(l:H1 UInt8)(K:Nat->Zh β):ar (ah l) K=K l.length:=rfl
theorem oO{l:H1 UInt8}{m:Nat}(h:m<l.length)(K:H1 Qu->Zh β):aJ 1 m (ah l) K=K (bh l[m]::(l.drop (m+1)).flatMap pC):=bu JE h K
theorem mS(l:H1 UInt8){a b:Nat}(h:b<=l.length)(K:Qu->Zh β):gC 1 a b (ah l) K=K (ah ((l.drop a).take (b -a))):=r8 JE l h K
theorem iL(l:H1 UInt8)(K:Nat->H1 Qu->Zh β):dN 1 (ah l) K=K l.length (l.flatMap pC):=vw JE l K
theorem iR(l:H1 UInt8):l.flatMap pC=l.map bh:=by
 induction l with
 |nil=>rfl
 |cons x l ih=>rw[dG,ih];rfl
@[simp] theorem qf(b:UInt8)(K:Int->Zh β):aw .u8 (bh b) K=K (b.toNat:Int):=bK _ _ _
theorem adj{α:Type}{z:α}{F:α->α}{G:Nat->α}(h:lp z F=G)(n:Nat):G (n+1)=F (G n):=by subst h;rfl
end
theorem wu{w:Nat}(h:4<=w)(a b:Int):rB w a b=some (gk a b):=by
 obtain⟨v,rfl⟩:=wY h;have e:Ho (v+4) (ae 3 [Value.int IntKind.i64 1,Value.int IntKind.i64 2,Value.int IntKind.i64 4]) a=some (if a=1 then 0 else if a=2 then 1 else if a=4 then 2 else-1):=by
  unfold Ho OL;simp[adk,Tf,aQ,@eq_comm _ _ a]
  repeat' split
  all_goals rfl
 unfold rB OF;rw[e];simp[gk,CZ];have hb:(if b=1 then some true else some (decide (b=2)))=some (b==1||b==2):=by by_cases hb:b=1<;>grind
 rw[hb];by_cases h1:a=1
 ·simp[h1]
 ·by_cases h2:a=2
  ·simp[h2]
  ·by_cases h4:a=4
   ·simp[h4]
   ·simp_all
theorem tV{s o:Int}(h:gk s o=true):(s=1\/s=2\/s=4)/\(o=1\/o=2):=by
 unfold gk CZ at h
 grind
theorem ag3{n b:Nat}(hn:n<2^40)(hb:b<256):(BitVec.ofInt 64 ((n:Int)*256)|||BitVec.ofInt 64 (b:Int)).toNat=n*256+b:=by
 rw[(show((n:Int)*256)=((n*256:Nat):Int) from by omega),BitVec.ofInt_natCast];have:=Nat.shiftLeft_add_eq_or_of_lt (i:=8) (by omega) n;rw[Nat.shiftLeft_eq] at this
 grind
theorem VN{l:H1 UInt8}{p s:Nat}{o:Int}(h:p+s<=l.length):(gS l p s o).length=s:=by
 unfold gS
 grind
theorem ahr{l:H1 UInt8}{p s i:Nat}{o:Int}(h:p+s<=l.length)(hi:i<s):(gS l p s o)[i]'(by rw[VN h];exact hi)=if o=1 then l[p+s -1 -i]'(by omega) else l[p+i]'(by omega):=by
 unfold gS
 grind
theorem Ch{w:Nat}(hw:5<=w)(l:H1 UInt8)(hl:l.length<2^60)(p s o:Int)(hp:p<2^62):
 jN w (ah l) p s o=some (match pG l p s o with|some n=>(n,true)|none=>(0,false)):=by
 unfold jN pG NL;rw[wu (by omega)];cases hm:gk s o with
 |false=>simp
 |true=>
  obtain⟨hs,ho⟩:=tV hm;simp only[aB,bW,aD,aU,qT,cN];by_cases h0:p<0
  ·rw[ay h0,aq (by omega)]
  rw[aq h0];rw[aQ (by simp;omega) (by simp;omega)];by_cases h1:(Int.ofNat l.length).sub s<p
  ·rw[ay h1,aq (by simp at h1;omega)]
  rw[aq h1,ay ⟨trivial,by omega,by simp at h1;omega⟩];obtain⟨p,rfl⟩:=Int.eq_ofNat_of_zero_le (Int.not_lt.1 h0);obtain⟨s,rfl⟩:=Int.eq_ofNat_of_zero_le (a:=s) (by omega);have hps:p+s<=l.length:=by simp at h1;omega
  have hs4:s<=4:=by omega
  have hk:=VN (o:=o) hps;refine gV (ev:=λi (g:Qu->Int->Int->Int->Int->Int->Int->Zh (Int×Bool))=>g (ah l) p s o (ib ((gS l p s o).take i):Int) s i) s ?_ ?_ (by omega)
  ·intro i g hi;have hi':((i:Int)<(s:Int)):=by omega
   have hn:ib ((gS l p s o).take i)<2^40:=o9 (Lw _) (by
    rw[dk,hk];exact fE (Nat.pow_le_pow_right (by decide) (show min i s<=4 by omega)) (by decide))
   have e1:(gS l p s o).take (i+1)=(gS l p s o).take i++[(gS l p s o)[i]'(by omega)]:=by rw[im (by omega)]
   simp only[hi',ea,bY];have hb:=ag3 hn (gS l p s o)[i].toNat_lt;have hv:ib ((gS l p s o).take i)*256+(gS l p s o)[i].toNat<2^50:=by have:=(gS l p s o)[i].toNat_lt;omega
   rw[e1,EL];rw[ahr hps hi] at hb hv⊢;by_cases h2:o=1
   ·simp only[h2,bd,aC,ea] at hb hv⊢;simp(disch:=omega) only[jh,cf,aQ,lZ];rw[oO (show(((p:Int)+s -1 -i).toNat<l.length) by omega)];have e2:((p:Int)+s -1 -i).toNat=p+s -1 -i:=by omega
    simp(disch:=omega) only[e2,bc,qf,pH,aQ];rw[show((2:Int)^8)=256 from rfl];simp(disch:=omega) only[aQ,hb];rfl
   ·simp only[h2,bM,aD,gR] at hb hv⊢;simp(disch:=omega) only[jh,cf,aQ,lZ];rw[oO (show(((p:Int)+i).toNat<l.length) by omega)];have e2:((p:Int)+i).toNat=p+i:=by omega
    simp(disch:=omega) only[e2,bc,qf,pH,aQ];rw[show((2:Int)^8)=256 from rfl];simp(disch:=omega) only[aQ,hb];rfl
  ·intro g;simp[hk,eQ]
section
variable{β:Type}
@[simp] theorem Fw(n:Nat)(v:Qu)(c:H1 Qu):aX n [v] c=c.set n v:=rfl
theorem Fv:∀(vs old pre post:H1 Qu),old.length=vs.length->aX pre.length vs (pre++(old++post))=pre++(vs++post)
 |[],old,pre,post,h=>by obtain rfl:=qM.1 h;rfl
 |v::vs,[],pre,post,h=>by grind
 |v::vs,o::old,pre,post,h=>by
  have:=Fv vs old (pre++[v]) post (by grind);show aX (pre.length+1) vs ((pre++(o::old++post)).set pre.length v)=_
  grind
theorem ZK{c:H1 Qu}{n:Nat}(h:n<c.length)(K:Qu->H1 Qu->Zh β):af (c.drop n) K=K c[n] (c.drop (n+1)):=by rw[cW h];rfl
def nc(l:H1 UInt8)(k:Nat):H1 UInt8:=(List.range l.length).map λj=>if j<k\/l.length -k<=j then(l[l.length -1 -j]?).getD 0 else(l[j]?).getD 0
@[simp] theorem WM(l:H1 UInt8)(k:Nat):(nc l k).length=l.length:=by simp[nc]
theorem yq(l:H1 UInt8)(k j:Nat)(h:j<l.length):(nc l k)[j]? =if j<k\/l.length -k<=j then l[l.length -1 -j]? else l[j]? :=by
 unfold nc
 grind
theorem ail(l:H1 UInt8):nc l 0=l:=by
 apply rP;intro j;by_cases h:j<l.length
 ·rw[yq _ _ _ h,aq (by omega)]
 simp_all
theorem aij(l:H1 UInt8){k:Nat}(hk:l.length<=2*k+1):nc l k=l.reverse:=by
 apply rP;intro j;by_cases h:j<l.length
 ·rw[yq _ _ _ h]
  grind
 simp_all
theorem aik(l:H1 UInt8){k:Nat}(hk:2*k+1<l.length):((nc l k).set k (l[l.length -1 -k]'(by omega))).set (l.length -1 -k) (l[k]'(by omega))=nc l (k+1):=by
 apply rP;intro j;by_cases h:j<l.length
 ·rw[yq _ _ _ h,List.getElem?_set,List.getElem?_set,yq _ _ _ h];simp
  grind
 simp_all
theorem TY{pre m post:H1 UInt8}{k:Nat}{b:UInt8}(h:m[k]? =some b)(hk:pre.length+k<((pre++(m++post)).map bh).length):((pre++(m++post)).map bh)[pre.length+k]=bh b:=by grind
theorem Ln(pre m post:H1 UInt8){k:Nat}(b:UInt8)(h:k<m.length):((pre++(m++post)).map bh).set (pre.length+k) (bh b)=(pre++(m.set k b++post)).map bh:=by simp_all
theorem QO(b:UInt8):(SV.i IntKind.u8 (b.toNat:Int)).cells.length.beq 1=true:=rfl
theorem Ox{w:Nat}(pre l post:H1 UInt8)(hl:l.length<2^60)(hw:l.length+1<w)(c:Nat):uo w pre.length l.length c ((pre++(l++post)).map bh)=some ((pre++(l.reverse++post)).map bh):=by
 unfold uo;rw[jh,bO,aQ (by omega) (by omega),<-aij l (k:=l.length/2) (by omega)];rw[show(pre++(l++post))=pre++(nc l 0++post) by rw[ail],show(l.length:Int) -1=(l.length:Int) -1 -((0:Nat):Int) by omega];refine gV (ev:=λi (g:Nat->Nat->Nat->Int->Int->H1 Qu->Zh (H1 Qu))=>g pre.length l.length c i ((l.length:Int) -1 -i) ((pre++(nc l i++post)).map bh)) (l.length/2) ?_ ?_ (show l.length/2<w by omega)
 ·intro i g hi;have e1:((i:Int)<(l.length:Int) -1 -i):=by omega
  simp(disch:=omega) only[aU,e1,bd,aC,lZ,nq,mQ,gy];have e2:((l.length:Int) -1 -i).toNat=l.length -1 -i:=by omega
  rw[e2];have h1:l.length -1 -i<l.length:=by omega
  have h2:i<l.length:=by omega
  have h3:((pre++(nc l i++post)).map bh).length=pre.length+(l.length+post.length):=by simp
  have g1:((pre++(nc l i++post)).map bh)[pre.length+(l.length -1 -i)]'(by omega)=bh (l[l.length -1 -i]):=TY (by
   rw[yq _ _ _ h1,aq (by omega),cw h1]) _
  have g2:((pre++(nc l i++post)).map bh)[pre.length+i]'(by omega)=bh (l[i]):=TY (by
   rw[yq _ _ _ h2,aq (by omega),cw h2]) _
  simp only[h1,h2,aC];rw[ZK (by omega),g1];simp only[qf];rw[ZK (by omega),g2];simp only[qf,QO,gA,nZ];have f1:pre.length+i+1<=((pre++(nc l i++post)).map bh).length:=by omega
  have f2:pre.length+(l.length -1 -i)+1<=((pre++(nc l i++post)).map bh).length:=by omega
  simp only[f1,f2,aC,Fw,jh,cf];rw[aQ (by omega) (by omega),aQ (by omega) (by omega)];rw[show Value.int IntKind.u8 (l[l.length -1 -i].toNat:Int)=bh l[l.length -1 -i] from rfl,show Value.int IntKind.u8 (l[i].toNat:Int)=bh l[i] from rfl];rw[Ln _ _ _ _ (by rw[WM];exact h2),Ln _ _ _ _ (by rw[List.length_set,WM];exact h1),aik l (by omega)];rw[show(l.length:Int) -1 -i -1=(l.length:Int) -1 -((i+1:Nat):Int) by omega];rfl
 ·intro g;have e1:¬(((l.length/2:Nat):Int)<(l.length:Int) -1 -((l.length/2:Nat):Int)):=by omega
  simp only[aU,e1,bM,aD]
theorem adl{α α':Type}{z:α}{F:α->α}{z':α'}{F':α'->α'}(R:α->α'->Prop)(h0:R z z')(hs:∀g g',R g g'->R (F g) (F' g'))(w:Nat):R (lp z F w) (lp z' F' w):=by
 induction w with
 |zero=>exact h0
 |succ w ih=>exact hs _ _ ih
theorem akj(w a b:Nat)(c:H1 Qu):G7 w a b c=uo w 0 a b c:=by
 refine adl (R:=λ(g:Nat->Nat->Int->Int->H1 Qu->Zh (H1 Qu))(g':Nat->Nat->Nat->Int->Int->H1 Qu->Zh (H1 Qu))=>∀a b i j c,g a b i j c=g' 0 a b i j c) ?_ ?_ w _ _ _ _ _
 ·intros;rfl
 ·intro g g' h a b i j c;simp_all
theorem aki{w:Nat}(l:H1 UInt8)(hl:l.length<2^60)(hw:l.length+1<w)(c:Nat):G7 w l.length c (l.map bh)=some (l.reverse.map bh):=by
 rw[akj];have:=Ox [] l [] hl hw c
 grind
theorem QH:∀(i n:Nat),fa n (i+1)=UInt8.ofNat (n/256^i%256)::fa n i
 |0,n=>by simp[fa]
 |i+1,n=>by show fa (n/256) (i+1)++_=_;rw[QH i (n/256)];show _=_::(fa (n/256) i++_);rw[eD,Nat.div_div_eq_div_mul,Nat.pow_succ,nw]
theorem akh{s:Int}(h:s=1\/s=2\/s=4)(w:Nat):yR w s=some ((256^s.toNat:Nat):Int):=by rcases h with rfl|rfl|rfl<;>rfl
theorem amp(i:Nat):(2:Int)^(8*i)=((256^i:Nat):Int):=by rw[<-(show(2:Nat)^(8*i)=256^i from by rw[Nat.pow_mul])];simp
theorem oG(l:H1 UInt8):ah l=ae l.length (l.map bh):=by unfold ah aA;rw[iR]
theorem ue:∀n:Nat,rep n (Value.int IntKind.u8 0).cells.toList=(List.replicate n (0:UInt8)).map bh
 |0=>rfl
 |n+1=>by show _=bh 0::_;rw[<-ue n];rfl
theorem sR{w:Nat}(hw:8<=w)(n s o:Int):iB w n s o=some (match(if gk s o=true then pN n s.toNat o else none) with|some l=>(ah l,true)|none=>(ae 0 [],false)):=by
 unfold iB;rw[wu (by omega)];cases hm:gk s o with
 |false=>simp
 |true=>
  obtain⟨hs,ho⟩:=tV hm;unfold pN;simp only[aB,bW,aD,aU,qT,ea];by_cases h0:n<0
  ·rw[ay h0,aq (by omega)]
  rw[aq h0,akh hs];simp only[aB];by_cases h1:¬n<((256^s.toNat:Nat):Int)
  ·rw[aq (by omega)];simp only[h1,bM,fH,aC]
  replace h1:=qK.1 h1;rw[ay (by omega)];obtain⟨n,rfl⟩:=Int.eq_ofNat_of_zero_le (Int.not_lt.1 h0);obtain⟨s,rfl⟩:=Int.eq_ofNat_of_zero_le (a:=s) (by omega);have hs4:s<=4:=by omega
  have hr:Nat.ble s 1000000000=true:=by rw[iq];omega
  have hr2:Nat.ble s s=true:=by rw[iq];omega
  simp only[h1,bd,bW,aD];simp only[bH,hr,hr2,kA,ue,nq,o5];rw[show List.replicate s (0:UInt8)=List.replicate (s -0) 0++fa n 0 by simp[fa]];refine gV (ev:=λi (g:Int->Int->Int->Nat->Nat->Int->Int->H1 Qu->Zh (Qu×Bool))=>g n s o s s s i ((List.replicate (s -i) (0:UInt8)++fa n i).map bh)) s ?_ ?_ (by omega)
  ·intro i g hi;have e1:((i:Int)<(s:Int)):=by omega
   simp only[e1,ea];have e2:(ag IntKind.u64 (Int.mul 8 (ag IntKind.u64 (i:Int))))=((8*i:Nat):Int):=by rw[pH,tw (n:=(i:Int)) (by omega) (by omega),tw (by omega) (by omega)];omega
   have e3:(n:Int).fdiv (2^min ((8*i:Nat):Int).toNat 64)=((n/256^i:Nat):Int):=by rw[nq,lI (by omega),amp,Int.fdiv_eq_ediv_of_nonneg _ (Int.natCast_nonneg _)];rfl
   have e4:ag IntKind.u8 ((n/256^i:Nat):Int)=((UInt8.ofNat (n/256^i%256)).toNat:Int):=by rw[py,IntKind.wrap_u8];simp
   rw[e2,aq (by omega),e3,e4];simp(disch:=omega) only[jh,cf,aQ,lZ,QO,eY,gA,mQ];have e5:((s:Int) -1 -i).toNat=s -1 -i:=by omega
   have e6:s -1 -i<s:=by omega
   have e7:((List.replicate (s -i) (0:UInt8)++fa n i).map bh).length=s:=by simp[pB];omega
   have e8:0+(s -1 -i)*1+1<=s:=by omega
   simp only[e5,e6,e7,e8,bd,aC];rw[show 0+(s -1 -i)*1=s -1 -i by omega,Fw,show Value.int IntKind.u8 ((UInt8.ofNat (n/256^i%256)).toNat:Int)=bh (UInt8.ofNat (n/256^i%256)) from rfl];have e9:(List.replicate (s -i) (0:UInt8)++fa n i)=List.replicate (s -1 -i) 0++([0]++fa n i):=by rw[<-ed,<-List.replicate_succ',show s -1 -i+1=s -i by omega]
   have e10:=Ln (List.replicate (s -1 -i) 0) [0] (fa n i) (k:=0) (UInt8.ofNat (n/256^i%256)) (by simp);rw[uK,Nat.add_zero] at e10;rw[e9,e10,QH,show s -(i+1)=s -1 -i by omega];rfl
  ·intro g;simp;unfold aY;have hb:=pB s n;by_cases h2:o=1
   ·subst h2;have:=aki (w:=w) (fa n s) (by omega) (by omega) s;rw[hb] at this;simp only[show aj 1 1=true from rfl,aC,this,aB,er,ea];rw[oG,List.length_reverse,hb]
   ·simp_all;rw[oG,hb]
end
theorem II(l:H1 UInt8)(s m i:Nat)(h:i<l.length)(hs:0<s)(hm:m<=l.length)(hd:m%s=0):(iC l s m)[i]? =if i<m then l[i -i%s+(s -1 -i%s)]? else l[i]? :=by
 rw[C2 _ _ _ _ h];split
 ·next h1=>
  have:i -i%s+(s -1 -i%s)<l.length:=by
   have h3:=Nat.div_add_mod i s;have h4:=Nat.div_add_mod m s;have h5:i/s<m/s:=by apply Nat.lt_of_mul_lt_mul_left (a:=s);omega
   have h6:s*(i/s+1)<=s*(m/s):=Nat.mul_le_mul_left _ h5;rw[Nat.mul_add] at h6;omega
  grind
 ·rw[cw h];rfl
theorem Zy(l:H1 UInt8){s i:Nat}(hs:0<s)(h:i*s+s<=l.length):
 iC l s ((i+1)*s)=(iC l s (i*s)).take (i*s)++((((iC l s (i*s)).drop (i*s)).take s).reverse++(iC l s (i*s)).drop (i*s+s)):=by
 apply rP;intro j;have e1:(i+1)*s=i*s+s:=by rw[lW,Nat.one_mul]
 have d1:(i*s)%s=0:=Nat.mul_mod_left _ _;have d2:((i+1)*s)%s=0:=Nat.mul_mod_left _ _;have hlen:=pT l s (i*s);by_cases hj:j<l.length
 ·rw[II _ _ _ _ hj hs (by omega) d2];by_cases h1:j<i*s
  ·rw[ay (by omega),rQ (by rw[dk];omega),zK h1,II _ _ _ _ hj hs (by omega) d1,ay h1]
  ·by_cases h2:j<i*s+s
   ·have hm:j%s=j -i*s:=by
     have:=qO (show j -i*s<s by omega);rw[<-this]
     conv=>lhs;rw[show j=(j -i*s)+s*i by rw[nw s i];omega]
     rw[Nat.add_mul_mod_self_left]
    rw[ay (by omega),uJ (by rw[dk];omega),dk,hlen,lI (by omega)];rw[rQ (by rw[List.length_reverse,dk,eu];omega)];rw[List.getElem?_reverse (by rw[dk,eu];omega),dk,eu,hlen,lI (by omega)];rw[zK (by omega),s8,II _ _ _ _ (by omega) hs (by omega) d1,aq (by omega),hm]
    congr 1
    omega
   ·rw[aq (by omega),uJ (by rw[dk];omega),uJ (by simp;omega)];simp;rw[II _ _ _ _ (by omega) hs (by omega) d1,aq (by omega)]
    congr 1
    omega
 ·rw[kR (by rw[pT];omega),kR (by simp;omega)]
theorem Zx(l:H1 UInt8)(s:Nat):iC l s 0=l:=by
 apply rP;intro i;by_cases h:i<l.length
 ·rw[C2 _ _ _ _ h,cw h];rfl
 ·rw[kR (by rw[pT];omega),kR (by omega)]
theorem HU(w:Nat){a b c:Int}(h:-2^62<c/\c<2^62)(ha:a<2^62):wE w a b c=some (decide (0<=a/\0<=b/\a<=c/\b<=c -a)):=by
 unfold wE;simp;by_cases h1:a<0
 ·simp[h1];omega
 by_cases h2:b<0
 ·simp_all;omega
 by_cases h3:c<a
 ·simp_all;omega
 rw[aQ (by omega) (by omega)];by_cases h4:c -a<b<;>grind
theorem ald(w:Nat){n:Nat}(h:n<2^60):H6 w (n:Int)=some (aI n:Int):=by
 unfold H6 aI;have e:(BitVec.ofInt 64 (n:Int)&&&BitVec.ofInt 64 1).toNat=n%2:=by simp
 rw[e,aQ (n:=((n%2:Nat):Int)) (by omega) (by omega),cf,aQ (by omega) (by omega)];rfl
theorem Zv{w:Nat}(l:H1 UInt8)(hl:l.length<2^29)(hw:l.length+10<=w)(s:Nat)(o:Int)(hs:(s:Int)=1\/(s:Int)=2\/(s:Int)=4\/(s:Int)=8)(ho:o=1\/o=2):
 lp (λ(x8 x9:Int)(x10 x11:Nat)(x12:Int)(x13:H1 Qu)=>(none:Zh Qu))
     (λ(x14:Int->Int->Nat->Nat->Int->H1 Qu->Zh Qu)(x15 x16:Int)(x17 x18:Nat)(x19:Int)(x20:H1 Qu)=>
      bif aj x16 1 then
       bif !ak (Int.ofNat x17) (ag IntKind.i64 (x19.add x15)) then
        aE (ag IntKind.i64 (x19.add x15)) λx21=>
         aE x19 λx22=>
          bif x21.ble x18&&x22.ble x21 then
           ob (uo w (bif x18.beq x22 then 0 else 0+x22*1) (x21 -x22) (x18 -x22) x20) λx23=>
            x14 x15 x16 x17 x18 (ag IntKind.i64 (x19.add x15)) x23
          else none
       else some (ae x17 (List.drop 0 x20))
      else some (ae x17 (List.drop 0 x20)))
     w (s:Int) o l.length l.length 0 (l.map bh)=some (if o=1 then ah (iC l s (l.length/s*s)) else ah l):=by
 have hs0:0<s:=by omega
 have hs8:s<=8:=by omega
 have hd2:l.length/s<=l.length:=Nat.div_le_self _ _;by_cases h1:o=1
 ·subst h1;have hd:s*(l.length/s)<=l.length:=Nat.mul_div_le _ _;have hd3:l.length<s*(l.length/s)+s:=Nat.lt_mul_div_succ _ hs0;rw[show l.map bh=(iC l s (s*0)).map bh by rw[Nat.mul_zero,Zx],ay rfl];refine gV (ev:=λi (g:Int->Int->Nat->Nat->Int->H1 Qu->Zh Qu)=>g (s:Int) 1 l.length l.length ((s*i:Nat):Int) ((iC l s (s*i)).map bh)) (l.length/s) ?_ ?_ (by omega)
  ·intro i g hi;have hle:s*(i+1)<=s*(l.length/s):=Nat.mul_le_mul_left _ hi;have e1:s*(i+1)=s*i+s:=by rw[Nat.mul_add,gy]
   have e2:(((s*i:Nat):Int).add (s:Int))=((s*(i+1):Nat):Int):=by rw[cf,e1];omega
   simp only[e2,show aj 1 1=true from rfl,aC,aU,bO];rw[aQ (by omega) (by omega)];have e3:¬((l.length:Int)<((s*(i+1):Nat):Int)):=by omega
   simp only[e3,bM,fH,aC,bH,gA,Ag];have e4:s*(i+1)<=l.length:=by omega
   have e5:s*i<=s*(i+1):=by omega
   have e6:¬(l.length=s*i):=by omega
   simp only[e4,e5,e6,bd,bM,kA,aC,aD];have hlen:=pT l s (s*i);have:=Ox (w:=w) ((iC l s (s*i)).take (s*i)) (((iC l s (s*i)).drop (s*i)).take s) ((iC l s (s*i)).drop (s*i+s)) (by simp;omega) (by simp;omega) (l.length -s*i);rw[<-nw i s,<-Zy l hs0 (by rw[nw];omega),nw i s,nw (i+1) s,<-List.drop_drop,kF,kF,dk,dk,eu,hlen,lI (by omega),lI (by omega)] at this;rw[show 0+s*i*1=s*i by omega,show s*(i+1) -s*i=s by omega,this];rfl
  ·intro g;simp only[show aj 1 1=true from rfl,aC,aU,bO,cf];rw[aQ (by omega) (by omega)];have e3:((l.length:Int)<((s*(l.length/s):Nat):Int)+(s:Int)):=by omega
   simp_all;rw[oG,pT,nw]
 ·rw[aq h1,eU _ _ (by omega)];simp only[bY,h1,bM,aD,er,oG]
theorem alf{w:Nat}(l:H1 UInt8)(hl:l.length<2^29)(hw:l.length+10<=w)(s o:Int):
 H7 w (ah l) s o=some (if gk s o=true\/(s=8/\gk 1 o=true) then(if o=1 then ah (iC l s.toNat (l.length/s.toNat*s.toNat)) else ah l) else ae 0 []):=by
 unfold H7 ND;rw[wu (by omega)];have hr:Nat.ble l.length 1000000000=true:=by rw[iq];omega
 have hr2:Nat.ble l.length l.length=true:=by rw[iq];omega
 have hi:aX 0 (List.take (l.length*1) (l.map bh)) (List.map bh (List.replicate l.length 0))=l.map bh:=by have:=Fv (l.map bh) (List.map bh (List.replicate l.length 0)) [] [] (by simp);simp only[List.length_nil,fy,dP] at this;rw[gy,eQ (by simp),this]
 have hq:((l.map bh).length.beq (l.length*1)&&(0+l.length*1).ble (List.map bh (List.replicate l.length 0)).length)=true:=by simp
 by_cases hc:¬(gk s o=true\/(s=8/\gk 1 o=true))
 ·rw[aq hc];have hm:gk s o=false:=by cases h:gk s o<;>simp_all
  simp[aC];by_cases h8:s=8
  ·have hm1:gk 1 o=false:=by cases h:gk 1 o<;>simp_all
   simp_all;rw[wu (by omega),hm1];rfl
  ·simp_all
 replace hc:=qK.1 hc;have hs:s=1\/s=2\/s=4\/s=8:=by
  rcases hc with h|h
  ·have:=(tV h).1;omega
  ·omega
 have ho:o=1\/o=2:=by
  rcases hc with h|h
  ·exact(tV h).2
  ·exact(tV h.2).2
 obtain⟨s,rfl⟩:=Int.eq_ofNat_of_zero_le (a:=s) (by omega);have hs0:0<s:=by omega
 have hs8:s<=8:=by omega
 rw[ay hc,nq];cases hm:gk s o;all_goals simp only[aB,bW,fH,aC,aD]
 ·have h8:(s:Int)=8:=by rcases hc with h|h;(rw[hm] at h;cases h);exact h.1
  have hm1:gk 1 o=true:=by rcases hc with h|h;(rw[hm] at h;cases h);exact h.2
  rw[wu (by omega),hm1,show aj (s:Int) 8=true by rw[h8];rfl];simp only[bW,aD,aB,cN,iL,hr,hr2,kA,aC,ue,iR,Nat.min_self];rw[hq,aC,hi];exact Zv l hl hw s o hs ho
 ·simp only[cN,iL,hr,hr2,kA,aC,ue,iR,Nat.min_self];rw[hq,aC,hi];exact Zv l hl hw s o hs ho
theorem yV(w:Nat)(t:Int):sX w t=some (kindOf t):=by
 by_cases o:t<1\/12<t
 ·rw[Et o];unfold sX;simp only[aU,qT];by_cases h:t<0
  ·rw[ay h]
  rw[aq h];by_cases h2:12<t
  ·rw[ay h2]
  rw[show t=0 by omega];rfl
 ·have hc:t=1\/t=2\/t=3\/t=4\/t=5\/t=6\/t=7\/t=8\/t=9\/t=10\/t=11\/t=12:=by omega
  rcases hc with rfl|rfl|rfl|rfl|rfl|rfl|rfl|rfl|rfl|rfl|rfl|rfl<;>rfl
theorem AQ(t:Int):0<=(kindOf t).1 /\(kindOf t).1 <=8:=by
 by_cases o:t<1\/12<t
 ·rw[Et o];exact⟨by decide,by decide⟩
 ·have hc:t=1\/t=2\/t=3\/t=4\/t=5\/t=6\/t=7\/t=8\/t=9\/t=10\/t=11\/t=12:=by omega
  rcases hc with rfl|rfl|rfl|rfl|rfl|rfl|rfl|rfl|rfl|rfl|rfl|rfl<;>exact⟨by decide,by decide⟩
theorem YI(w:Nat)(t:Int):CA w t=some (kindOf t).1 :=by unfold CA;rw[yV];rfl
theorem PZ:∀l:H1 UInt8,rK (l.map bh)=some (l.map λb=>(b.toNat:Int))
 |[]=>rfl
 |b::l=>by show ob (rK (l.map bh)) _=_;rw[PZ l];rfl
theorem rX{β:Type}(l:H1 UInt8)(K:H1 Int->Zh β):jV (ah l) K=K (l.map λb=>(b.toNat:Int)):=by rw[oG];show cond (Nat.ble l.length (l.map bh).length) (ob (rK ((l.map bh).take l.length)) K) none=_;rw[eQ (by simp),PZ,cH,show Nat.ble l.length l.length=true by rw[iq];exact aM _];rfl
theorem aam(l:H1 UInt8):Lib.bytesOf (l.map λb=>(b.toNat:Int))=l:=by
 unfold Lib.bytesOf;rw[List.map_map]
 conv=>rhs;rw[<-List.map_id l]
 apply List.map_congr_left;simp
theorem Rr(b:UInt8)(l:H1 UInt8):Au (b::l)=(((b==0)==l.isEmpty)&&Au l):=by
 unfold Au;rw[cc,uM,List.all_cons,List.all_map]
 grind
theorem SM:∀l:H1 UInt8,l≠[]->((Lib.indexByte l 0=(l.length:Int) -1)↔Au l=true)
 |[],h=>absurd rfl h
 |[b],_=>by
  rw[Rr];by_cases hb:b=0
  ·subst hb;decide
  ·simp[hb,Lib.indexByte]
 |b::c::l,_=>by
  rw[Rr];have ih:=SM (c::l) (by simp);unfold Lib.indexByte;by_cases hb:b=0
  ·subst hb;simp;omega
  ·have hb':(b==0)=false:=by simpa using hb
   simp only[hb',gR,List.isEmpty_cons,BEq.rfl,eY];rw[<-ih];by_cases h1:Lib.indexByte (c::l) 0=-1
   ·simp;omega
   ·have h1':(Lib.indexByte (c::l) 0==-1)=false:=by simpa using h1
    simp only[h1',gR];simp
theorem akZ(w:Nat){l:H1 UInt8}(h:l≠[]):Cx w (ah l) 0=some (Lib.indexByte l 0):=by
 unfold Cx;rw[rX,aam];cases l with
 |nil=>grind
 |cons b l=>rfl
theorem yY(w:Nat)(ty az:Int)(l:H1 UInt8)(hl:l.length<2^40):qH w ty az (ah l)=some (eI ty az l):=by
 unfold qH eI;rw[yV];have hk:=AQ ty;simp;by_cases h1:(kindOf ty).1 =0
 ·simp[h1]
 by_cases h2:az<1
 ·rw[ay h2];have:¬(1<=az):=by omega
  simp[this]
 rw[aq h2];by_cases h3:65536<az
 ·rw[ay h3];have:¬(az<=65536):=by omega
  simp[this]
 rw[aq h3];have h5:az*(kindOf ty).1 <=65536*8:=Int.mul_le_mul (by omega) (by omega) (by omega) (by omega);have h6:0<=az*(kindOf ty).1 :=Int.mul_nonneg (by omega) (by omega);rw[aQ (by omega) (by omega)];by_cases h4:(l.length:Int)=az*(kindOf ty).1
 ·have h1':(kindOf ty).1 ≠0:=h1;have h2':1<=az:=by omega
  have h3':az<=65536:=by omega
  have h0:l≠[]:=by
   rintro rfl
   have:1*1<=az*(kindOf ty).1 :=Int.mul_le_mul h2' (by omega) (by decide) (by omega);simp at h4;omega
  rw[akZ w h0];simp only[h4,h1',h2',h3',bd,bW,aD,aB,ne_eq,and_self,eY];rw[<-h4,aQ (by omega) (by omega)];have:=SM l h0;by_cases h7:ty=2
  ·subst h7;simp_all
  ·simp[h7]
 ·simp[h4]
theorem Tm(t:Int)(h:(kindOf t).1 ≠0):(kindOf t).2.1 =1\/(kindOf t).2.1 =2\/(kindOf t).2.1 =4\/(kindOf t).2.1 =8:=by obtain⟨s,m,e1,e2,e3⟩:=K3 t h;omega
theorem YK{w:Nat}(ty az:Int)(l:H1 UInt8)(hl:l.length<2^29)(hw:l.length+10<=w)(o:Int)(ho:o=1\/o=2):
 CC w ty az (ah l) o=some (match pM ty az l o with|some d=>(ty,az,ah d,true)|none=>(0,0,ae 0 [],false)):=by
 unfold CC pM;rw[yV];have hk:=AQ ty;simp only[aB,bY,aU,qT,cN,bO,pH];by_cases h1:(kindOf ty).1 =0
 ·simp[h1]
 rw[aq h1];by_cases h2:az<1
 ·rw[ay h2,aq (by omega)]
 rw[aq h2];by_cases h3:65536<az
 ·rw[ay h3,aq (by omega)]
 rw[aq h3];have h5:az*(kindOf ty).1 <=65536*8:=Int.mul_le_mul (by omega) (by omega) (by omega) (by omega);have h6:0<=az*(kindOf ty).1 :=Int.mul_nonneg (by omega) (by omega);rw[aQ (by omega) (by omega)];by_cases h4:(l.length:Int)<az*(kindOf ty).1
 ·rw[ay h4,aq (by omega)]
 rw[aq h4];have h7:(az*(kindOf ty).1).toNat<=l.length:=by omega
 simp only[lZ h6,gA,h7,gU,bd,aC];rw[mS l h7,er,Nat.sub_zero];have hlen:(l.take (az*(kindOf ty).1).toNat).length=(az*(kindOf ty).1).toNat:=by rw[dk];omega
 rw[alf _ (by omega) (by omega)];have hc:gk (kindOf ty).2.1 o=true\/((kindOf ty).2.1 =8/\gk 1 o=true):=by rcases(Tm ty h1) with h|h|h|h<;>rcases ho with rfl|rfl<;>rw[h]<;>simp[gk,CZ]
 rw[ay hc];obtain⟨s,m,e1,e2,e3⟩:=K3 ty h1;have hd:(l.take (az*(kindOf ty).1).toNat).length/(kindOf ty).2.1.toNat*(kindOf ty).2.1.toNat=(l.take (az*(kindOf ty).1).toNat).length:=by rw[hlen,e1,nq];apply Nat.div_mul_cancel;rw[e2];refine⟨az.toNat*m,?_⟩;obtain⟨c,rfl⟩:=Int.eq_ofNat_of_zero_le (a:=az) (by omega);rw[<-Int.natCast_mul,nq,nq,<-Nat.mul_assoc,nw]
 rw[hd];have ht:(if o=1 then ah (iC (l.take (az*(kindOf ty).1).toNat) (kindOf ty).2.1.toNat (l.take (az*(kindOf ty).1).toNat).length) else ah (l.take (az*(kindOf ty).1).toNat))=ah (iY (l.take (az*(kindOf ty).1).toNat) (kindOf ty).2.1.toNat o):=by unfold iY;split<;>rfl
 rw[ht];simp;rw[yY _ _ _ _ (by rw[wR];omega)];cases hm:eI ty az (iY (l.take (az*(kindOf ty).1).toNat) (kindOf ty).2.1.toNat o) with
 |true=>rw[ay ⟨h1,by omega,by omega,by omega,rfl⟩];rfl
 |false=>rw[aq (by simp)];rfl
theorem TD(ty az:Int):0<=ji ty az/\ji ty az<=65536*8:=by
 unfold ji;have hk:=AQ ty;split
 ·simp
 ·exact⟨Int.mul_nonneg (by omega) (by omega),Int.mul_le_mul (by omega) (by omega) (by omega) (by simp)⟩
theorem YN(w:Nat)(ty az:Int):CF w ty az=some (ji ty az):=by
 have hs:=TD ty az;unfold CF;unfold ji at hs⊢;simp;by_cases h1:az<1
 ·rw[ay h1,ay (.inl h1)]
 rw[aq h1];by_cases h2:65536<az
 ·rw[ay h2,ay (.inr h2)]
 rw[aq h2,aq (by omega),YI];simp;rw[aQ (by omega) (by omega)]
theorem YJ(w:Nat)(ty az:Int):CB w ty az=some (bQ ty az:Int):=by
 unfold CB bQ;rw[YN];simp
 grind
theorem alg(w:Nat)(ty az:Int):Ia w ty az=some (decide (0<ji ty az/\ji ty az<=4)):=by
 unfold Ia;rw[YN];simp;by_cases h:0<ji ty az
 ·rw[ay h];by_cases h2:4<ji ty az
  ·grind
  grind
 grind
def dD{α:Type}(p:α->Bool)(l:H1 α):Int:=match l.findIdx? p with
 |some i=>(i:Int)
 |none=>-1
theorem xL{α:Type}(p:α->Bool)(l:H1 α):dD p l<0↔l.all (λx=>!p x)=true:=by
 unfold dD;cases h:l.findIdx? p with
 |none=>grind
 |some i=>
  obtain⟨hi,h1,-⟩:=List.findIdx?_eq_some_iff_getElem.1 h
  grind
theorem mX{α δ:Type}{z:δ}{F:δ->δ}{w:Nat}(l:H1 α)(p:α->Bool)(ev:Nat->δ->Zh Int)(hs:∀i g (h:i<l.length),ev i (F g)=if p l[i]=true then some (i:Int) else ev (i+1) g)(he:∀g,ev l.length (F g)=some (-1))(hw:l.length<w):
 ev 0 (lp z F w)=some (dD p l):=by
 have key:∀(d i v:Nat),i+d=l.length->d<v->ev i (lp z F v)=some (match(l.drop i).findIdx? p with|some j=>((i+j:Nat):Int)|none=>-1):=by
  intro d;induction d with
  |zero=>
   intro i v hi hv;obtain rfl:i=l.length:=by omega
   rw[eU z F (by omega),he,rN];rfl
  |succ d ih=>
   intro i v hi hv;have hlt:i<l.length:=by omega
   rw[eU z F (by omega),hs i _ hlt,cW hlt,List.findIdx?_cons];by_cases hp:p l[i]=true
   ·rw[ay hp,ay hp];rfl
   ·grind
 have:=key l.length 0 w (by omega) hw;rw[this,er];unfold dD;cases l.findIdx? p<;>simp
theorem ali{w:Nat}(l:H1 UInt8)(hl:l.length<2^40)(hw:l.length<w):Pm w (ah l)=some (dD (λb=>b !=0) l):=by
 refine mX l (λb=>b !=0) (ev:=λi (g:Qu->Int->Int->Zh Int)=>g (ah l) l.length i) ?_ ?_ hw
 ·intro i g h;have e1:((i:Int)<(l.length:Int)):=by omega
  simp only[aU,e1,aC,bH];rw[oO h];simp only[bc,qf];unfold Ph;simp only[bY,cf];rw[aQ (by omega) (by omega)];have e2:(decide ((l[i].toNat:Int)=0))=!(l[i]!=0):=by rw[iD];simp[<-oy]
  rw[e2];cases l[i]!=0<;>simp
 ·intro g;simp
theorem alh{w:Nat}(l:H1 UInt8)(hl:l.length<2^40)(hw:l.length<w):Ib w (ah l)=some (!l.all (·==0)):=by
 unfold Ib;rw[ali l hl hw];simp;have:=xL (λb:UInt8=>b !=0) l
 grind
theorem MH(n:Int)(o:Int):pN n 4 o=if 0<=n/\n<4294967296 then some (aY n.toNat 4 o) else none:=rfl
def IJ(ty az slot order:Int):Zh (H1 UInt8×Bool):=
 if 0<=slot/\slot<4294967296/\0<ji ty az/\ji ty az<=4 then
  (pM ty az (aY slot.toNat 4 order) order).map λd=>(d,((aY slot.toNat 4 order).drop d.length).all (·==0))
 else none
theorem adJ{ty az:Int}{b d:H1 UInt8}{o:Int}(h:pM ty az b o=some d):d.length<=b.length:=by
 unfold pM at h;split at h
 ·cases h;rw[wR,dk];omega
 grind
theorem ala{w:Nat}(hw:100<=w)(tag ty az slot o:Int)(ho:o=1\/o=2):
 H5 w tag ty az slot o=some (match IJ ty az slot o with|some (d,c)=>(ty,az,ah d,c,true)|none=>(0,0,ae 0 [],false,false)):=by
 unfold H5 IJ;rw[sR (by omega),ay (by rcases ho with rfl|rfl<;>rfl),show(4:Int).toNat=4 from rfl,MH,alg];by_cases h1:¬(0<=slot/\slot<4294967296)
 ·rw[aq h1,aq (by omega)];rfl
 replace h1:=qK.1 h1;rw[ay h1];by_cases h2:¬(0<ji ty az/\ji ty az<=4)
 ·rw[aq (by omega)];simp[h2]
 simp_all;have hl:(aY slot.toNat 4 o).length=4:=eL _ _ _;rw[YK ty az _ (by omega) (by omega) o ho];cases hv:pM ty az (aY slot.toNat 4 o) o with
 |none=>rfl
 |some d=>simp[(adJ hv)];rw[mS _ (aM _),eQ (by rw[eu];omega),alh _ (by rw[eu];omega) (by rw[eu];omega)];simp
theorem H9{w:Nat}(hw:5<=w)(l:H1 UInt8)(hl:l.length<2^60)(s o p:Int)(ok:Bool)(hp:0<=p/\p<2^60)(hs:0<=s/\s<=8):
 wG w s (ah l) o p ok=some ((pG l p s o).getD 0,ah l,o,p+s,ok&&(pG l p s o).isSome):=by
 unfold wG Pk;rw[Ch hw l hl p s o (by omega)];simp;rw[aQ (by omega) (by omega)]
 grind
theorem ak7{w:Nat}(hw:5<=w)(l:H1 UInt8)(hl:l.length<2^50)(p:Nat)(o:Int)(ho:o=1\/o=2):
 HZ w (ah l) p o=some (if p+12<=l.length then((cq l p 2 o:Int),(cq l (p+2) 2 o:Int),(cq l (p+4) 4 o:Int),(cq l (p+8) 4 o:Int),true) else(0,0,0,0,false)):=by
 unfold HZ;rw[cN];by_cases hp:¬(p+12<=l.length)
 ·by_cases hb:(p:Int)<2^62
  ·rw[HU w ⟨by simp;omega,by simp only[o5];omega⟩ hb];have:¬(0<=(p:Int)/\(0:Int)<=12/\(p:Int)<=Int.ofNat l.length/\(12:Int)<=Int.ofNat l.length -p):=by
    simp;omega
   simp only[aB,this,bM,fH,aC];rw[aq hp]
  ·unfold wE;have e1:¬((p:Int)<0):=by omega
   have e2:Int.ofNat l.length<(p:Int):=by simp;omega
   simp only[aU,e1,e2,bM,bd,fH,bW,aC,aD,show decide ((12:Int)<0)=false from rfl,aB];rw[aq hp]
 replace hp:=qK.1 hp;rw[ay hp,HU w ⟨by simp;omega,by simp only[o5];omega⟩ (by omega)];have:(0<=(p:Int)/\(0:Int)<=12/\(p:Int)<=Int.ofNat l.length/\(12:Int)<=Int.ofNat l.length -p):=by simp;omega
 simp_all;have g:∀(k s:Nat),(s=2\/s=4)->k+s<=12->(pG l ((p:Int)+k) s o).isSome=true/\(pG l ((p:Int)+k) s o).getD 0=(cq l (p+k) s o:Int):=by intro k s hs hk;have:=xI (l:=l) (p:=p+k) (s:=s) (by omega) ho (by omega);rw[show((p+k:Nat):Int)=(p:Int)+k by omega] at this;unfold cq;rw[show((p+k:Nat):Int)=(p:Int)+k by omega,this];exact⟨rfl,by simp⟩
 rw[H9 hw l (by omega) 2 o p true (by omega) (by omega)];simp;rw[H9 hw l (by omega) 2 o _ _ (by omega) (by omega)];simp;rw[H9 hw l (by omega) 4 o _ _ (by omega) (by omega)];simp;rw[H9 hw l (by omega) 4 o _ _ (by omega) (by omega)];have g0:=g 0 2 (.inl rfl) (by decide);have g1:=g 2 2 (.inl rfl) (by decide);have g2:=g 4 4 (.inr rfl) (by decide);have g3:=g 8 4 (.inr rfl) (by decide);rw[show(p:Int)+((0:Nat):Int)=p by omega] at g0;rw[show(p:Int)+2+2=(p:Int)+4 by omega,show(p:Int)+4+4=(p:Int)+8 by omega];simp at g0 g1 g2 g3;rw[g0.1,g1.1,g2.1,g3.1,g0.2,g1.2,g2.2,g3.2];rfl
def cC(t:aN):H1 Qu:=[.int .i64 t.tag,.int .i64 t.ty,.int .i64 t.az,ah t.data]
theorem ig(t:aN):(cC t).length=4:=rfl
def au(l:H1 aN):Qu:=aA cC l
def mn(x:iF):H1 Qu:=[.int .i64 x.tag,.int .i64 x.shape]
theorem tT(x:iF):(mn x).length=2:=rfl
def gL(l:H1 iF):Qu:=aA mn l
def jz(s:bg):H1 Qu:=[gL s.bP,.int .i64 s.at_,.int .i64 s.cG,.int .i64 s.next]
theorem zk(s:bg):(jz s).length=4:=rfl
def ct(l:H1 bg):Qu:=aA jz l
mutual
def dr:aV->H1 Qu
 | .mk tags subs blob=>[au tags,ae (cj subs) (gO subs),ah blob]
def gO:cK->H1 Qu
 | .nil=>[]
 | .cons tag d r=>.int .i64 tag::(dr d++gO r)
end
theorem kX(d:aV):(dr d).length=3:=by cases d;rfl
theorem Zd:∀s:cK,(gO s).length=cj s*4
 | .nil=>rfl
 | .cons tag d r=>by show(dr d++gO r).length+1=(cj r+1)*4;rw[aP,kX,Zd r];omega
theorem TF{δ:Type}{z:δ}{F:δ->δ}{w:Nat}(m:Nat)(ok:Nat->Bool)(ev:Nat->δ->Zh Bool)(hs:∀i g,i<m->ev i (F g)=if ok i=true then ev (i+1) g else some false)(he:∀g,ev m (F g)=some true)(hw:m<w):
 ev 0 (lp z F w)=some ((List.range m).all ok):=by
 have key:∀(d i v:Nat),i+d=m->d<v->ev i (lp z F v)=some ((List.range d).all λj=>ok (i+j)):=by
  intro d;induction d with
  |zero=>intro i v hi hv;rw[eU z F (by omega),show i=m by omega,he];rfl
  |succ d ih=>
   intro i v hi hv;rw[eU z F (by omega),hs i _ (by omega),uM];by_cases h:ok i=true
   ·rw[ih (i+1) (v -1) (by omega) (by omega)];simp[h]
    congr 2
    funext j
    congr 1;omega
   ·rw[aq h];simp[h]
 have:=key m 0 w (by omega) hw;simpa using this
theorem akU{w:Nat}(hw:8<=w)(n:Int):zd w n=some (np n):=by unfold zd;rw[sR hw];have hm:gk 2 2=true:=rfl;rw[ay hm];unfold pN np;by_cases h:0<=n/\n<65536<;>simp[h]
theorem Hg(w:Nat)(tags:H1 aN)(subs:cK)(blob:H1 UInt8)(h:tags.length+cj subs<2^60):kP w (au tags) (ae (cj subs) (gO subs)) (ah blob)=some (bE (.mk tags subs blob):Int):=by
 unfold kP au bE;simp only[bU,ac6,cN,aU,qT,bO,cf];rw[aQ (n:=(tags.length:Int)+(cj subs:Int)) (by omega) (by omega)];by_cases hb:blob.length=0
 ·rw[aq (by omega),ay hb];rfl
 ·rw[ay (by omega),aq hb,aQ (by omega) (by omega)];rfl
theorem akQ{w:Nat}(l:H1 iF)(n:Int)(hl:l.length<2^40)(hw:l.length<w):OU w (gL l) n=some (dD (λx=>x.tag==n) l):=by
 refine mX l (λx=>x.tag==n) (ev:=λi (g:Qu->H1 Qu->Int->Int->Zh Int)=>g (aA mn l) [.int .i64 n] l.length i) ?_ ?_ hw
 ·intro i g h;simp_all;rw[bu tT h];unfold mn Pj;simp only[eD,bc,bK,aB,bY,cf];rw[aQ (by omega) (by omega)];by_cases e2:l[i].tag=n<;>grind
 ·intro g;simp
theorem ak9{w:Nat}(l:H1 iF)(n:Int)(hl:l.length<2^40)(hw:l.length<w):Cz w (gL l) n=some (l.any λx=>x.tag==n):=by
 unfold Cz;rw[akQ l n hl hw];simp;have:=xL (λx:iF=>x.tag==n) l
 grind
def I6(S:bg):Prop:=0<=S.at_
theorem ale{w:Nat}(S:bg)(n:Int)(hs:I6 S)(hl:S.bP.length<2^40)(hw:S.bP.length<w):CD w (gL S.bP) S.at_ S.cG S.next n=some (eW S n):=by
 have hs:0<=S.at_:=hs;unfold CD eW fK fG;rw[ak9 S.bP n hl hw];simp;by_cases h0:0<S.at_
 ·have h1:S.at_≠0:=by omega
  grind
 grind
theorem aio(l:H1 aN):fP l=(List.range l.length).all λi=>decide (i=0)||decide ((l[i -1]?.getD ⟨0,0,0,[]⟩).tag<(l[i]?.getD ⟨0,0,0,[]⟩).tag):=by
 induction l with
 |nil=>rfl
 |cons a l ih=>
  cases l with
  |nil=>rfl
  |cons b l=>
   show(decide (a.tag<b.tag)&&fP (b::l))=_;rw[ih,cc (a:=a),uM,cc,uM];simp
   congr 1
theorem ame(S:bg)(l:H1 aN):ky S l=(List.range l.length).all λi=>(decide (i=0)||decide ((l[i -1]?.getD ⟨0,0,0,[]⟩).tag<(l[i]?.getD ⟨0,0,0,[]⟩).tag))&&(np (l[i]?.getD ⟨0,0,0,[]⟩).tag&&(!eW S (l[i]?.getD ⟨0,0,0,[]⟩).tag&&eI (l[i]?.getD ⟨0,0,0,[]⟩).ty (l[i]?.getD ⟨0,0,0,[]⟩).az (l[i]?.getD ⟨0,0,0,[]⟩).data)):=by
 unfold ky;rw[aio,iD];simp;constructor
 ·grind
 ·intro h;refine⟨λi hi=>(h i hi).1,λx hx=>?_⟩;obtain⟨i,hi,rfl⟩:=List.getElem_of_mem hx
  grind
theorem ak2{w:Nat}(S:bg)(l:H1 aN)(X Y Z:Qu)(hs:I6 S)(hS:S.bP.length<2^40)(hl:l.length<2^40)(hd:∀t∈l,t.data.length<2^40)(hw:S.bP.length+l.length+10<=w):
 HH w X (au l) Y Z (gL S.bP) S.at_ S.cG S.next=some (ky S l):=by
 unfold HH au;rw[bU,ame];refine TF l.length _ (ev:=λi (g:Qu->Int->Int->Qu->Qu->Qu->Qu->Int->Int->Int->Zh Bool)=>g (aA cC l) l.length i (aA cC l) Y Z (gL S.bP) S.at_ S.cG S.next) ?_ ?_ (by omega)
 ·intro i g h;have e1:((i:Int)<(l.length:Int)):=by omega
  simp only[aU,e1,bd,aC,bH];rw[bu ig h,cw h];have hdi:=hd _ (cx h);have tg:∀(t:aN)(r:H1 Qu),cC t++r=.int .i64 t.tag::.int .i64 t.ty::.int .i64 t.az::ah t.data::r:=λ_ _=>rfl;simp only[tg,bc,bK,cf,jh,qP];rw[akU (by omega),aQ (n:=(i:Int)+1) (by omega) (by omega)];simp only[aB];rw[ale S _ hs hS (by omega),yY w _ _ _ hdi];simp only[aB];have fin:∀a b:Bool,(cond a (some false) (cond (!b) (some false) (g (aA cC l) (l.length:Int) ((i:Int)+1) (aA cC l) Y Z (gL S.bP) S.at_ S.cG S.next)))=if(!a&&b)=true then g (aA cC l) (l.length:Int) ((i+1:Nat):Int) (aA cC l) Y Z (gL S.bP) S.at_ S.cG S.next else some false:=by intro a b;cases a<;>cases b<;>rfl
  rcases Bool.eq_false_or_eq_true (np l[i].tag) with ht|ht
  ·simp only[ht,bW,aD,eY];by_cases h0:i=0
   ·have e2:¬((0:Int)<(i:Int)):=by omega
    have e3:decide (i=0)=true:=by simp[h0]
    simp only[e2,bM,aD,fin,e3,Bool.true_or,eY]
   ·have e2:((0:Int)<(i:Int)):=by omega
    rw[aQ (n:=(i:Int) -1) (by omega) (by omega),lZ (by omega),show((i:Int) -1).toNat=i -1 by omega];rw[bu ig (show i -1<l.length by omega)];simp_all;by_cases h3:l[i -1].tag<l[i].tag<;>grind
  ·simp_all
 ·intro g;have e1:¬((l.length:Int)<(l.length:Int)):=by omega
  simp
def aS:cK->H1 (Int×aV)
 | .nil=>[]
 | .cons tag d r=>(tag,d)::aS r
def dT:aV->Qu
 | .mk tags _ _=>au tags
def dS:aV->Qu
 | .mk _ subs _=>ae (cj subs) (gO subs)
def dB:aV->Qu
 | .mk _ _ blob=>ah blob
theorem ql(d:aV):dr d=[dT d,dS d,dB d]:=by cases d;rfl
def gw(p:Int×aV):H1 Qu:=.int .i64 p.1 ::dr p.2
theorem uC(p:Int×aV):(gw p).length=4:=by unfold gw;rw[cc,kX]
theorem uE:∀s:cK,(aS s).length=cj s
 | .nil=>rfl
 | .cons _ _ r=>by show(aS r).length+1=cj r+1;rw[uE r]
theorem PL:∀s:cK,gO s=(aS s).flatMap gw
 | .nil=>rfl
 | .cons t d r=>by show Value.int .i64 t::(dr d++gO r)=(Value.int .i64 t::dr d)++(aS r).flatMap gw;rw[PL r];rfl
theorem CX(s:cK):ae (cj s) (gO s)=aA gw (aS s):=by unfold aA;rw[uE,PL]
mutual
def iG(m:Nat):aV->Prop
 | .mk tags subs blob=>tags.length<=m/\cj subs<=m/\blob.length<=m/\(∀t∈tags,t.data.length<=m)/\iH m subs
def iH(m:Nat):cK->Prop
 | .nil=>True
 | .cons _ d r=>iG m d/\iH m r
end
theorem xi{m:Nat}:∀{s:cK},iH m s->∀p∈aS s,iG m p.2
 | .nil,_,p,h=>by cases h
 | .cons t d r,h,p,hp=>by
  rcases cX.1 hp with rfl|hp
  ·exact h.1
  ·exact xi h.2 p hp
theorem DR:∀{s:cK},∀p∈aS s,gj p.2 <=jX s
 | .nil,p,h=>by cases h
 | .cons t d r,p,hp=>by
  rcases cX.1 hp with rfl|hp
  ·exact Nat.le_max_left _ _
  ·exact fE (DR p hp) (Nat.le_max_right _ _)
theorem akM{w:Nat}(l:H1 iF)(n:Int)(a b c:Qu)(hl:l.length<2^40)(hw:l.length<w):OV w (gL l) n a b c=some (dD (λx=>x.tag==n) l):=by
 refine mX l (λx=>x.tag==n) (ev:=λi (g:Qu->H1 Qu->Int->Int->Zh Int)=>g (aA mn l) [.int .i64 n,a,b,c] l.length i) ?_ ?_ hw
 ·intro i g h;simp_all;rw[bu tT h];unfold mn O9;rw[aQ (by omega) (by omega)];simp
 simp
theorem K7(S:bg)(n:Int):(dD (λx:iF=>x.tag==n) S.bP<0/\fG S n=false)\/
 ∃k,∃h:k<S.bP.length,dD (λx:iF=>x.tag==n) S.bP=(k:Int)/\fG S n=true/\(lO S n).getD 0=(S.bP[k]).shape.toNat:=by
 unfold fG lO dD;cases h:S.bP.findIdx? (λx=>x.tag==n) with
 |none=>left;refine⟨by decide,?_⟩;rw[List.findIdx?_eq_none_iff] at h;rw[Bool.eq_false_iff];intro q;obtain⟨x,hx,e⟩:=List.any_eq_true.1 q;rw[h x hx] at e;cases e
 |some k=>
  right;obtain⟨hk,h1,h2⟩:=List.findIdx?_eq_some_iff_getElem.1 h;refine⟨k,hk,rfl,List.any_eq_true.2 ⟨_,cx hk,h1⟩,?_⟩;have:S.bP.find? (λx=>x.tag==n)=some S.bP[k]:=by rw[List.find?_eq_some_iff_getElem];exact⟨h1,k,hk,rfl,λj hj=>by have:=h2 j hj;simpa using this⟩
  rw[this];rfl
theorem ain(l:H1 Int):oa l=(List.range l.length).all λi=>decide (i=0)||decide ((l[i -1]?.getD 0)<(l[i]?.getD 0)):=by
 induction l with
 |nil=>rfl
 |cons a l ih=>
  cases l with
  |nil=>rfl
  |cons b l=>
   show(decide (a<b)&&oa (b::l))=_;rw[ih,cc (a:=a),uM,cc,uM];simp
   congr 1
theorem Zc:∀s:cK,lD s=(aS s).map Prod.fst
 | .nil=>rfl
 | .cons t d r=>by show t::lD r=t::(aS r).map Prod.fst;rw[Zc r]
theorem Sq(sh:H1 bg)(S:bg):∀s:cK,jg sh S s=(aS s).all λp=>fG S p.1 &&cM sh ((lO S p.1).getD 0) p.2
 | .nil=>by simp[jg,aS]
 | .cons t d r=>by simp only[jg,aS,List.all_cons];rw[Sq sh S r,Bool.and_assoc]
def xU:Int×aV:=(0,.mk [] .nil [])
theorem abW(sh:H1 bg)(S:bg)(s:cK):(oa (lD s)&&jg sh S s)=(List.range (aS s).length).all λi=>
 (decide (i=0)||decide (((aS s)[i -1]?.getD xU).1 <((aS s)[i]?.getD xU).1))&&(fG S ((aS s)[i]?.getD xU).1 &&cM sh ((lO S ((aS s)[i]?.getD xU).1).getD 0) ((aS s)[i]?.getD xU).2):=by
 rw[ain,Sq,Zc,cH,iD];simp only[bt,iE,List.mem_range];have hf:∀i:Nat,((List.map Prod.fst (aS s))[i]?).getD 0=((aS s)[i]?.getD xU).1 :=by intro i;rw[List.getElem?_map];cases(aS s)[i]? <;>rfl
 simp only[hf];constructor
 ·grind
 ·intro h;refine⟨λi hi=>(h i hi).1,λx hx=>?_⟩;obtain⟨i,hi,rfl⟩:=List.getElem_of_mem hx
  grind
theorem alY{w m:Nat}(hm:m<2^38)(hw:2*m+100<=w)(sh:H1 bg)(hsh:jc sh)(hl:∀s,s<sh.length->(aR sh s).bP.length<=m)(rec:Qu->Qu->Qu->Qu->Int->Zh Bool)
 (d:aV) (s:Nat) (hs:s<sh.length) (hd:iG m d) (hrec:∀p∈aS (match d with| .mk _ subs _=>subs),∀k:Nat,k<sh.length->rec (ct sh) (dT p.2) (dS p.2) (dB p.2) (k:Int)=some (cM sh k p.2)):
 Iw w rec (ct sh) (dT d) (dS d) (dB d) (s:Int)=some (cM sh s d):=by
 obtain⟨tags,subs,blob⟩:=d;have hd:tags.length<=m/\cj subs<=m/\blob.length<=m/\(∀t∈tags,t.data.length<=m)/\iH m subs:=hd;have hS:sh[s]=aR sh s:=by unfold aR;rw[cw hs];rfl
 have hp:I6 (aR sh s):=by
  have:=(hsh.ok s).pair;show 0<=(aR sh s).at_;by_cases q:(aR sh s).at_=0
  ·omega
  ·have:=this q;omega
 have hln:=hl s hs;unfold Iw ct cM NB;simp only[dT,dS,dB,bH];rw[bu zk hs,hS];have tg:∀(S:bg)(r:H1 Qu),jz S++r=gL S.bP::.int .i64 S.at_::.int .i64 S.cG::.int .i64 S.next::r:=λ_ _=>rfl;simp only[tg,bc,bK];rw[Hg w tags subs blob (by omega),ak2 (aR sh s) tags _ _ _ hp (by omega) (by omega) (λt ht=>by have:=hd.2.2.2.1 t ht;omega) (by omega)];simp only[aB,aU,qT,bY];generalize hE:bE (.mk tags subs blob)=E;by_cases h1:(E:Int)<1
 ·rw[ay h1];have:¬(1<=E/\E<=65535):=by omega
  simp[this]
 rw[aq h1];by_cases h2:65535<(E:Int)
 ·rw[ay h2];have:¬(1<=E/\E<=65535):=by omega
  simp[this]
 rw[aq h2];have h3:(1<=E/\E<=65535):=by omega
 simp only[h3,and_self,bd,eY];rcases Bool.eq_false_or_eq_true (ky (aR sh s) tags) with ht|ht
 ·simp only[ht,bW,aD,eY];rw[cN];have sg:∀(p:Int×aV)(r:H1 Qu),gw p++r=.int .i64 p.1 ::dT p.2 ::dS p.2 ::dB p.2 ::r:=by
   intro p r;unfold gw;rw[ql];rfl
  have hsl:=uE subs;have fin:∀(b:Bool)(x y:Zh Bool),(cond (!b) x y)=if b=true then y else x:=by intro b x y;cases b<;>rfl
  by_cases hb:blob.length=0
  case' pos=>rw[aq (by simp only[o5];omega)];simp only[hb,bd,Bool.true_or,eY]
  case' neg=>
   rw[ay (by simp only[o5];omega)];by_cases ha:(aR sh s).at_=0
   case pos=>rw[ay ha];simp[hb,ha]
   rw[aq ha];simp only[hb,ha,bM,ne_eq,not_false_eq_true,bd,Bool.or_true,eY]
  all_goals
   rw[CX,bU,abW];refine TF (aS subs).length _ (ev:=λi (g:Qu->Int->Int->Qu->Qu->Qu->Qu->Qu->Int->Int->Int->Zh Bool)=>g (aA gw (aS subs)) (aS subs).length i (aA jz sh) (au tags) (aA gw (aS subs)) (ah blob) (gL (aR sh s).bP) (aR sh s).at_ (aR sh s).cG (aR sh s).next) ?_ ?_ (by omega)
   ·intro i g h;have e1:((i:Int)<((aS subs).length:Int)):=by omega
    simp only[e1,ea,bH];rw[bu uC h,cw h];simp only[sg,bc,bK,cf,jh,qP];rw[akM _ _ _ _ _ (by omega) (by omega)];simp only[aB];rcases K7 (aR sh s) (aS subs)[i].1 with⟨hn,hb0⟩|⟨k,hk,e,hb1,e2⟩
    ·rw[ay hn];simp only[hb0,Bool.false_and,Bool.and_false,kB,gR]
    ·rw[e,aq (by omega)];have hmem:=cx (l:=(aR sh s).bP) hk;have hlk:=hsh.bP s hs _ hmem;have hr:=hrec _ (cx h) ((aR sh s).bP[k]).shape.toNat (by omega);rw[mI (by omega)] at hr;have lg:∀(x:iF)(r:H1 Qu),(mn x++r).drop 1=.int .i64 x.shape::r:=λ_ _=>rfl;rw[aQ (n:=(i:Int)+1) (by omega) (by omega)];unfold gL;simp only[bH];rw[bu tT hk];simp only[lg,bc,bK];unfold ct at hr;rw[hr];simp only[aB,fin,hb1,eY,e2];by_cases h0:i=0
     ·have e3:decide (i=0)=true:=by simp[h0]
      rw[aq (by omega)];simp only[e3,Bool.true_or,eY];rfl
     ·rw[ay (by omega),aQ (n:=(i:Int) -1) (by omega) (by omega),lZ (by omega),show((i:Int) -1).toNat=i -1 by omega];rw[bu uC (show i -1<(aS subs).length by omega),cw (show i -1<(aS subs).length by omega)];simp only[er,sg,bc,bK,qP];by_cases h3:(aS subs)[i -1].1 <(aS subs)[i].1
      ·simp only[h3,bd,ea,Bool.or_true,eY];rfl
      ·simp only[h3,bM,h0,Bool.or_self,Bool.false_and,kB,gR]
   ·intro g;have e1:¬(((aS subs).length:Int)<((aS subs).length:Int)):=by omega
    simp only[e1,gR]
 ·simp only[ht,fH,aC,Bool.false_and]
theorem Sr{w m:Nat}(hm:m<2^38)(hw:2*m+100<=w)(sh:H1 bg)(hsh:jc sh)(hl:∀s,s<sh.length->(aR sh s).bP.length<=m)(z:Qu->Qu->Qu->Qu->Int->Zh Bool):
 ∀(n:Nat)(d:aV)(s:Nat),gj d<=n->s<sh.length->iG m d->mh z (Iw w) n (ct sh) (dT d) (dS d) (dB d) (s:Int)=some (cM sh s d)
 |0,d,s,h,_,_=>by obtain⟨tags,subs,blob⟩:=d;unfold gj at h;omega
 |n+1,d,s,h,hs,hd=>by refine alY hm hw sh hsh hl _ d s hs hd ?_;obtain⟨tags,subs,blob⟩:=d;intro p hp k hk;have hp:p∈aS subs:=hp;have:=DR p hp;unfold gj at h;exact Sr hm hw sh hsh hl z n p.2 k (by omega) hk (xi hd.2.2.2.2 p hp)
theorem akH{w m:Nat}(hm:m<2^38)(hw:2*m+100<=w)(sh:H1 bg)(hsh:jc sh)(hl:∀s,s<sh.length->(aR sh s).bP.length<=m)(d:aV)(s:Nat)(hs:s<sh.length)(hd:iG m d)(kb:gj d<=w):
 OR w (ct sh) (dT d) (dS d) (dB d) (s:Int)=some (cM sh s d):=Sr hm hw sh hsh hl _ w d s kb hs hd
def cd(x:bo):H1 Qu:=[.int .i64 x.oq,.int .i64 x.dir,.int .i64 x.tag,.int .i64 x.at_,.int .i64 x.cG]
theorem CV(x:bo):(cd x).length=5:=rfl
theorem vj(n:Nat):aI n<=n+1:=by unfold aI;omega
theorem VB(ty az:Int):bQ ty az<=524288:=by
 have:=TD ty az;unfold bQ
 grind
theorem OP(w:Nat)(oq dir tag no:Int){n e:Nat}(hn:n<2^50)(he:e<2^50)(c:H1 Qu)(hc:c.length<=1000000000):
 wD w oq dir tag n e no c=some (((aI e+n:Nat):Int),no,c++cd ⟨oq,dir,tag,aI e,n⟩):=by
 have hv:=vj e;unfold wD O8;rw[ald w (by omega)];simp;rw[aQ (by omega) (by omega)];simp_all;rfl
theorem JZ(t:aN):∀(l:H1 aN)(e:Nat),cn e (l++[t])=if bQ t.ty t.az=0 then cn e l else aI (cn e l)+bQ t.ty t.az
 |[],e=>rfl
 |a::l,e=>by show(if bQ a.ty a.az=0 then cn e (l++[t]) else cn (aI e+bQ a.ty a.az) (l++[t]))=_;rw[JZ t l e,JZ t l (aI e+bQ a.ty a.az)];by_cases h:bQ a.ty a.az=0<;>simp[cn,h]
theorem Y3(no:Nat)(t:aN):∀(l:H1 aN)(e:Nat),dw no e (l++[t])=dw no e l++(if bQ t.ty t.az=0 then[] else[⟨3,no,t.tag,aI (cn e l),bQ t.ty t.az⟩])
 |[],e=>by simp[dw,cn]
 |a::l,e=>by by_cases h:bQ a.ty a.az=0<;>simp[dw,cn,h,Y3 no t l]
theorem JY{K:Nat}(hK:524289<=K):∀(l:H1 aN)(e:Nat),cn e l<=e+l.length*K
 |[],e=>Nat.le_add_right _ _
 |a::l,e=>by
  have h1:=JY hK l e;have h2:=JY hK l (aI e+bQ a.ty a.az);have h3:=vj e;have h4:=VB a.ty a.az;have h5:(a::l).length*K=l.length*K+K:=by rw[cc,Nat.succ_mul]
  unfold cn
  grind
theorem abb(l:H1 aN)(e:Nat):cn e l<=e+l.length*600000:=JY (by simp) l e
theorem PG(no:Nat):∀(l:H1 aN)(e:Nat),(dw no e l).length<=l.length
 |[],e=>by simp[dw]
 |a::l,e=>by
  have h1:=PG no l e;have h2:=PG no l (aI e+bQ a.ty a.az);unfold dw
  grind
theorem alO(no:Nat)(l:H1 aN)(e i:Nat):(dw no e (l.take i)).length<=(dw no e l).length:=by
 have:∀(a b:H1 aN)(e:Nat),dw no e (a++b)=dw no e a++dw no (cn e a) b:=by
  intro a;induction a with
  |nil=>intro b e;rfl
  |cons p a ih=>intro b e;by_cases h:bQ p.ty p.az=0<;>simp[dw,cn,h,ih]
 rw[<-kF i l,this];simp
theorem wL(l:H1 bo):(l.flatMap cd).length=l.length*5:=cy CV l
theorem ak1{w:Nat}(l:H1 aN)(X Y:Qu)(no:Nat)(k:Int){e:Nat}(c:H1 Qu)(he:e+l.length*600000<2^50)(hc:c.length+(dw no e l).length*5<=1000000000)(hw:l.length<w):
 HG w (au l) X Y no e k c=some ((cn e l:Int),k,c++(dw no e l).flatMap cd):=by
 unfold HG au;rw[bU];have s0:c=c++(dw no e (l.take 0)).flatMap cd:=by simp[dw]
 conv=>lhs;rw[s0]
 refine gV (ev:=λi (g:Int->Qu->Int->Int->Int->Int->H1 Qu->Zh (Int×Int×H1 Qu))=>g no (aA cC l) l.length i (cn e (l.take i):Nat) k (c++(dw no e (l.take i)).flatMap cd)) l.length ?_ ?_ hw
 ·intro i g h;have e1:((i:Int)<(l.length:Int)):=by omega
  simp[e1];rw[bu ig h];have tg:∀(t:aN)(r:H1 Qu),cC t++r=.int .i64 t.tag::.int .i64 t.ty::.int .i64 t.az::ah t.data::r:=λ_ _=>rfl;simp[tg];rw[YJ,aQ (n:=(i:Int)+1) (by omega) (by omega)];simp only[aB];rw[im h,JZ,Y3];have hlt:(l.take i).length<=l.length:=by rw[dk];omega
  have b1:=abb (l.take i) e;have b2:=alO no l e i;have b3:=VB l[i].ty l[i].az;by_cases h0:bQ l[i].ty l[i].az=0
  ·simp only[h0,aD,ea,dP];rfl
  ·have e2:((0:Int)<((bQ l[i].ty l[i].az:Nat):Int)):=by omega
   simp only[e2,bd,aC,h0,gR];rw[OP w 3 no l[i].tag k (by omega) (by omega) _ (by rw[aP,wL];omega)];simp only[aB,fo,dG,lH,dP,ed];rfl
 ·intro g;simp
def hM(e:Nat):H1 (Int×aV)->Nat
 |[]=>e
 |p::l=>hM (bB e p.2) l
def gh:H1 (Int×aV)->Nat
 |[]=>0
 |p::l=>dL p.2 +gh l
def gq(no e:Nat):H1 (Int×aV)->H1 bo
 |[]=>[]
 |p::l=>gp no e p.2 ++gq (no+dL p.2) (bB e p.2) l
theorem JX:∀(s:cK)(e:Nat),eH e s=hM e (aS s)
 | .nil,e=>by simp[eH,aS,hM]
 | .cons t d r,e=>by simp[eH,aS,hM,JX r]
theorem JL:∀(s:cK),iu s=gh (aS s)
 | .nil=>by simp[iu,aS,gh]
 | .cons t d r=>by simp[iu,aS,gh,JL r]
theorem Iq:∀(s:cK)(no e:Nat),kQ no e s=gq no e (aS s)
 | .nil,no,e=>by simp[kQ,aS,gq]
 | .cons t d r,no,e=>by simp[kQ,aS,gq,Iq r]
theorem Rn(p:Int×aV):∀(l:H1 (Int×aV))(e:Nat),hM e (l++[p])=bB (hM e l) p.2
 |[],e=>rfl
 |a::l,e=>Rn p l (bB e a.2)
theorem QZ(p:Int×aV):∀(l:H1 (Int×aV)),gh (l++[p])=gh l+dL p.2
 |[]=>by simp[gh]
 |a::l=>by simp[gh,QZ p l,o8]
theorem Y1(p:Int×aV):∀(l:H1 (Int×aV))(no e:Nat),gq no e (l++[p])=gq no e l++gp (no+gh l) (hM e l) p.2
 |[],no,e=>by simp[gq,gh,hM]
 |a::l,no,e=>by simp[gq,gh,hM,Y1 p l,o8]
theorem DX:∀(l:H1 (Int×aV))(e:Nat),e<=hM e l
 |[],_=>aM _
 |p::l,e=>fE (Ar p.2 e) (DX l (bB e p.2))
theorem aba(l:H1 (Int×aV))(e i:Nat):hM e (l.take i)<=hM e l:=by
 have:∀(a b:H1 (Int×aV))(e:Nat),hM e (a++b)=hM (hM e a) b:=by
  intro a;induction a with
  |nil=>intro b e;rfl
  |cons p a ih=>intro b e;exact ih b (bB e p.2)
 conv=>rhs;rw[<-kF i l,this]
 exact DX _ _
theorem aaG(l:H1 (Int×aV))(i:Nat):gh (l.take i)<=gh l:=by
 have:∀(a b:H1 (Int×aV)),gh (a++b)=gh a+gh b:=by
  intro a;induction a with
  |nil=>simp[gh]
  |cons p a ih=>intro b;simp[gh,ih b,o8]
 rw[<-kF i l,this];simp
theorem alL(l:H1 (Int×aV))(no e i:Nat):(gq no e (l.take i)).length<=(gq no e l).length:=by
 have:∀(a b:H1 (Int×aV))(no e:Nat),gq no e (a++b)=gq no e a++gq (no+gh a) (hM e a) b:=by
  intro a;induction a with
  |nil=>simp[gq,gh,hM]
  |cons p a ih=>intro b no e;simp[gq,gh,hM,ih b,o8]
 rw[<-kF i l,this];simp
theorem alX{w m:Nat}(hm:m<2^28)(hw:2*m+100<=w)(rec:Qu->Qu->Qu->Int->Int->H1 Qu->Zh (Int×Int×H1 Qu))(d:aV)(no e:Nat)(c:H1 Qu)(he:bB e d<2^49)(hno:no+dL d<2^50)
 (hc:c.length+(gp no e d).length*5<=1000000000) (hd:iG m d)
 (hrec:∀p∈aS (match d with| .mk _ subs _=>subs),∀(no' e':Nat)(c':H1 Qu),bB e' p.2 <2^49->no'+dL p.2 <2^50->c'.length+(gp no' e' p.2).length*5<=1000000000->rec (dT p.2) (dS p.2) (dB p.2) e' no' c'=some ((bB e' p.2 :Int),((no'+dL p.2 :Nat):Int),c'++(gp no' e' p.2).flatMap cd)):
 Iu w rec (dT d) (dS d) (dB d) e no c=some ((bB e d:Int),((no+dL d:Nat):Int),c++(gp no e d).flatMap cd):=by
 obtain⟨tags,subs,blob⟩:=d;have hd:tags.length<=m/\cj subs<=m/\blob.length<=m/\(∀t∈tags,t.data.length<=m)/\iH m subs:=hd;have hE:bE (.mk tags subs blob)<=2*m+2:=by show tags.length+cj subs+(if blob.length=0 then 0 else 2)<=2*m+2;split<;>omega
 unfold dL at hno⊢;rw[JL] at hno⊢;unfold bB at he⊢;unfold gp at hc⊢;simp only[Iq] at hc⊢;simp only[JX] at he hc⊢;unfold Iu;simp only[dT,dS,dB];rw[Hg w tags subs blob (by omega)];simp only[aB,pH,cf];generalize bE (.mk tags subs blob)=E at he hc hE⊢;rw[aQ (n:=12*(E:Int)) (by omega) (by omega),aQ (n:=2+12*(E:Int)) (by omega) (by omega),aQ (n:=2+12*(E:Int)+4) (by omega) (by omega),aQ (n:=(no:Int)+1) (by omega) (by omega)];rw[show(2:Int)+12*(E:Int)+4=((6+12*E:Nat):Int) by omega,show(no:Int)+1=((no+1:Nat):Int) by omega];have v1:=vj e;have v0:e<=aI e:=by unfold aI;omega
 have g1:=qU tags (aI e+(6+12*E));have g2:=DX (aS subs) (cn (aI e+(6+12*E)) tags);have g3:hM (cn (aI e+(6+12*E)) tags) (aS subs)<2^49:=by
  by_cases q:blob.length=0
  ·rw[ay q] at he;exact he
  ·rw[aq q] at he;have:∀n:Nat,n<=aI n:=λn=>by unfold aI;omega
   have:=this (hM (cn (aI e+(6+12*E)) tags) (aS subs));omega
 rw[OP w 2 no 0 _ (by omega) (by omega) c (by omega)];simp only[aB];simp only[cc,aP] at hc;rw[ak1 tags _ _ no _ _ (by omega) (by rw[aP,CV];omega) (by omega)];simp only[aB];rw[CX,bU];have sg:∀(p:Int×aV)(r:H1 Qu),gw p++r=.int .i64 p.1 ::dT p.2 ::dS p.2 ::dB p.2 ::r:=by intro p r;unfold gw;rw[ql];rfl
 have hsl:=uE subs;generalize hE2:cn (aI e+(6+12*E)) tags=E2 at*;generalize hC:c++cd ⟨2,no,0,aI e,6+12*E⟩++(dw no (aI e+(6+12*E)) tags).flatMap cd=C;have hCl:C.length=c.length+5+(dw no (aI e+(6+12*E)) tags).length*5:=by rw[<-hC,aP,aP,wL];rfl
 have s0:C=C++(gq (no+1) E2 ((aS subs).take 0)).flatMap cd:=by simp[gq]
 conv=>lhs;rw[s0]
 refine gV (ev:=λi (g:Int->Qu->Int->Int->Int->Int->Qu->Qu->Qu->H1 Qu->Zh (Int×Int×H1 Qu))=>g no (aA gw (aS subs)) (aS subs).length i (hM E2 ((aS subs).take i):Nat) ((no+1+gh ((aS subs).take i):Nat):Int) (au tags) (aA gw (aS subs)) (ah blob) (C++(gq (no+1) E2 ((aS subs).take i)).flatMap cd)) (aS subs).length ?_ ?_ (by omega)
 ·intro i g h;have e1:((i:Int)<((aS subs).length:Int)):=by omega
  simp only[aU,e1,bd,aC,bH];rw[bu uC h];simp only[sg,bc,bK];have k1:=aba (aS subs) E2 (i+1);have k2:=aaG (aS subs) (i+1);have k3:=alL (aS subs) (no+1) E2 (i+1);rw[im h] at k1 k2 k3⊢;rw[Rn] at k1⊢;rw[QZ] at k2⊢;rw[Y1] at k3⊢;rw[aP] at k3;rw[hrec _ (cx h) (no+1+gh ((aS subs).take i)) (hM E2 ((aS subs).take i)) _ (by omega) (by omega) (by rw[aP,wL];omega)];simp only[aB];rw[aQ (n:=(i:Int)+1) (by omega) (by omega),fo,<-ed,o8 (no+1)];rfl
 ·intro g;have e1:¬(((aS subs).length:Int)<((aS subs).length:Int)):=by omega
  simp only[aU,e1,bM,aD,mL,cN,bO];have hcs:c++(⟨2,no,0,aI e,6+12*E⟩::(dw no (aI e+(6+12*E)) tags++(gq (no+1) E2 (aS subs)++(if blob.length=0 then[] else[⟨4,no,0,aI (hM E2 (aS subs)),blob.length⟩]:H1 bo)))).flatMap cd=C++(gq (no+1) E2 (aS subs)).flatMap cd++(if blob.length=0 then[] else[⟨4,no,0,aI (hM E2 (aS subs)),blob.length⟩]:H1 bo).flatMap cd:=by rw[<-hC];simp[dG,fo,ed]
  rw[hcs];by_cases hb:blob.length=0
  ·simp only[hb,show decide ((0:Int)<((0:Nat):Int))=false from rfl,aD,ea,lH,dP,o8];rw[Nat.add_comm 1]
  ·have e2:((0:Int)<(blob.length:Int)):=by omega
   simp only[e2,bd,aC,hb,gR];simp only[hb,gR,cc,List.length_nil] at hc;rw[OP w 4 no 0 _ (by omega) (by omega) _ (by rw[aP,wL];omega)];simp only[aB,dG,lH,dP,o8];rw[Nat.add_comm 1]
theorem Rg{w m:Nat}(hm:m<2^28)(hw:2*m+100<=w)(z:Qu->Qu->Qu->Int->Int->H1 Qu->Zh (Int×Int×H1 Qu)):
 ∀(n:Nat)(d:aV)(no e:Nat)(c:H1 Qu),gj d<=n->bB e d<2^49->no+dL d<2^50->c.length+(gp no e d).length*5<=1000000000->iG m d->
  mh z (Iu w) n (dT d) (dS d) (dB d) e no c=some ((bB e d:Int),((no+dL d:Nat):Int),c++(gp no e d).flatMap cd)
 |0,d,no,e,c,h,_,_,_,_=>by obtain⟨tags,subs,blob⟩:=d;unfold gj at h;omega
 |n+1,d,no,e,c,h,he,hno,hc,hd=>by refine alX hm hw _ d no e c he hno hc hd ?_;obtain⟨tags,subs,blob⟩:=d;intro p hp no' e' c' h1 h2 h3;have hp:p∈aS subs:=hp;have:=DR p hp;unfold gj at h;exact Rg hm hw z n p.2 no' e' c' (by omega) h1 h2 h3 (xi hd.2.2.2.2 p hp)
theorem akG{w m:Nat}(hm:m<2^28)(hw:2*m+100<=w)(d:aV)(no e:Nat)(c:H1 Qu)(kb:gj d<=w)(he:bB e d<2^49)(hno:no+dL d<2^50)(hc:c.length+(gp no e d).length*5<=1000000000)(hd:iG m d):
 OQ w (dT d) (dS d) (dB d) e no c=some ((bB e d:Int),((no+dL d:Nat):Int),c++(gp no e d).flatMap cd):=Rg hm hw _ w d no e c kb he hno hc hd
theorem ahy(n:Int)(o:Int):pN n 2 o=if 0<=n/\n<65536 then some (aY n.toNat 2 o) else none:=rfl
theorem akS{w:Nat}(hw:8<=w)(a b c d o:Int)(ho:o=1\/o=2):Ht w a b c d o=some (if(0<=a/\a<65536)/\(0<=b/\b<65536)/\(0<=c/\c<4294967296)/\(0<=d/\d<4294967296) then(ah (aY a.toNat 2 o++(aY b.toNat 2 o++(aY c.toNat 4 o++aY d.toNat 4 o))),true) else(ae 0 [],false)):=by
 have m4:gk 4 o=true:=by rcases ho with rfl|rfl<;>rfl
 have p2:∀n:Int,iB w n 2 o=some (if 0<=n/\n<65536 then(ah (aY n.toNat 2 o),true) else(ae 0 [],false)):=by intro n;rw[sR hw,ay (by rcases ho with rfl|rfl<;>rfl),show(2:Int).toNat=2 from rfl,ahy];by_cases h:0<=n/\n<65536<;>grind
 have p4:∀n:Int,iB w n 4 o=some (if 0<=n/\n<4294967296 then(ah (aY n.toNat 4 o),true) else(ae 0 [],false)):=by intro n;rw[sR hw,ay m4,show(4:Int).toNat=4 from rfl,MH];by_cases h:0<=n/\n<4294967296<;>grind
 have fl:∀(l:H1 UInt8),(l.flatMap pC).length=l.length:=λl=>by rw[iR,cH]
 have l2:∀n:Int,(aY n.toNat 2 o).length=2:=λn=>eL _ _ _;have l4:∀n:Int,(aY n.toNat 4 o).length=4:=λn=>eL _ _ _;unfold Ht;rw[p2 a];by_cases ha:0<=a/\a<65536
 case neg=>rw[aq ha,aq (λq=>ha q.1)];rfl
 rw[ay ha];simp only[aB,bW,aD,iL,fl,l2,l4,show aF 2=true from rfl,show aF 4=true from rfl,kA,aC];rw[p2 b];by_cases hb:0<=b/\b<65536
 case neg=>rw[aq hb,aq (λq=>hb q.2.1)];rfl
 rw[ay hb];simp only[aB,bW,aD,iL,fl,l2,l4,show aF 2=true from rfl,show aF 4=true from rfl,kA,aC];rw[p4 c];by_cases hc:0<=c/\c<4294967296
 case neg=>rw[aq hc,aq (λq=>hc q.2.2.1)];rfl
 rw[ay hc];simp only[aB,bW,aD,iL,fl,l2,l4,aP,show aF 2=true from rfl,show aF (2+2)=true from rfl,show aF 4=true from rfl,kA,aC];rw[p4 d];by_cases hd:0<=d/\d<4294967296
 case neg=>rw[aq hd,aq (λq=>hd q.2.2.2)];rfl
 rw[ay hd];simp only[aB,bW,aD,iL,fl,l2,l4,aP,show aF (2+2)=true from rfl,show aF (2+2+4)=true from rfl,show aF 4=true from rfl,kA,aC];unfold ah aA;simp_all
theorem Zw{w:Nat}(l:H1 UInt8)(hl:l.length<2^29)(hw:l.length+10<=w)(s:Nat)(o:Int)(hs:(s:Int)=1\/(s:Int)=2\/(s:Int)=4\/(s:Int)=8)(ho:o=1\/o=2):
 lp (λ(x8 x9:Int)(x10 x11:Nat)(x12:Int)(x13:H1 Qu)=>(none:Zh (Nat×Nat×H1 Qu)))
     (λx14 (x15 x16:Int) (x17 x18:Nat) (x19:Int) (x20:H1 Qu)=>
      bif aj x16 1 then
       bif !ak (Int.ofNat x17) (ag IntKind.i64 (x19.add x15)) then
        aE (ag IntKind.i64 (x19.add x15)) λx21=>
         aE x19 λx22=>
          bif x21.ble x18&&x22.ble x21 then
           ob (uo w (bif x18.beq x22 then 0 else 0+x22*1) (x21 -x22) (x18 -x22) x20) λx23=>
            x14 x15 x16 x17 x18 (ag IntKind.i64 (x19.add x15)) x23
          else none
       else some (x17,x18,x20)
      else some (x17,x18,x20))
     w (s:Int) o l.length l.length 0 (l.map bh)=some (l.length,l.length,(if o=1 then iC l s (l.length/s*s) else l).map bh):=by
 have hs0:0<s:=by omega
 have hs8:s<=8:=by omega
 have hd2:l.length/s<=l.length:=Nat.div_le_self _ _;by_cases h1:o=1
 ·subst h1;have hd:s*(l.length/s)<=l.length:=Nat.mul_div_le _ _;have hd3:l.length<s*(l.length/s)+s:=Nat.lt_mul_div_succ _ hs0;rw[show l.map bh=(iC l s (s*0)).map bh by rw[Nat.mul_zero,Zx],ay rfl];refine gV (ev:=λi (g:Int->Int->Nat->Nat->Int->H1 Qu->Zh (Nat×Nat×H1 Qu))=>g (s:Int) 1 l.length l.length ((s*i:Nat):Int) ((iC l s (s*i)).map bh)) (l.length/s) ?_ ?_ (by omega)
  ·intro i g hi;have hle:s*(i+1)<=s*(l.length/s):=Nat.mul_le_mul_left _ hi;have e1:s*(i+1)=s*i+s:=by rw[Nat.mul_add,gy]
   have e2:(((s*i:Nat):Int).add (s:Int))=((s*(i+1):Nat):Int):=by rw[cf,e1];omega
   simp only[e2,show aj 1 1=true from rfl,aC,aU,bO];rw[aQ (by omega) (by omega)];have e3:¬((l.length:Int)<((s*(i+1):Nat):Int)):=by omega
   simp only[e3,bM,fH,aC,bH,gA,Ag];have e4:s*(i+1)<=l.length:=by omega
   have e5:s*i<=s*(i+1):=by omega
   have e6:¬(l.length=s*i):=by omega
   simp only[e4,e5,e6,bd,bM,kA,aC,aD];have hlen:=pT l s (s*i);have:=Ox (w:=w) ((iC l s (s*i)).take (s*i)) (((iC l s (s*i)).drop (s*i)).take s) ((iC l s (s*i)).drop (s*i+s)) (by simp;omega) (by simp;omega) (l.length -s*i);rw[<-nw i s,<-Zy l hs0 (by rw[nw];omega),nw i s,nw (i+1) s,<-List.drop_drop,kF,kF,dk,dk,eu,hlen,lI (by omega),lI (by omega)] at this;rw[show 0+s*i*1=s*i by omega,show s*(i+1) -s*i=s by omega,this];rfl
  ·intro g;simp only[show aj 1 1=true from rfl,aC,aU,bO,cf];rw[aQ (by omega) (by omega)];have e3:((l.length:Int)<((s*(l.length/s):Nat):Int)+(s:Int)):=by omega
   simp only[e3,bd,bW,aD];rw[nw]
 ·rw[aq h1,eU _ _ (by omega)];simp only[bY,h1,bM,aD,gR]
theorem YM{w:Nat}(l:H1 UInt8)(hl:l.length<2^29)(hw:l.length+10<=w)(s o:Int)(hc:gk s o=true\/(s=8/\gk 1 o=true)):
 CE w (ah l) s o=some (l.length,l.length,(if o=1 then iC l s.toNat (l.length/s.toNat*s.toNat) else l).map bh):=by
 unfold CE NF;rw[wu (by omega)];have hr:Nat.ble l.length 1000000000=true:=by rw[iq];omega
 have hr2:Nat.ble l.length l.length=true:=by rw[iq];omega
 have hi:aX 0 (List.take (l.length*1) (l.map bh)) (List.map bh (List.replicate l.length 0))=l.map bh:=by have:=Fv (l.map bh) (List.map bh (List.replicate l.length 0)) [] [] (by simp);simp only[List.length_nil,fy,dP] at this;rw[eQ (by simp),this]
 have hq:((l.map bh).length.beq (l.length*1)&&(0+l.length*1).ble (List.map bh (List.replicate l.length 0)).length)=true:=by simp
 have hs:s=1\/s=2\/s=4\/s=8:=by
  rcases hc with h|h
  ·have:=(tV h).1;omega
  ·omega
 have ho:o=1\/o=2:=by
  rcases hc with h|h
  ·exact(tV h).2
  ·exact(tV h.2).2
 obtain⟨s,rfl⟩:=Int.eq_ofNat_of_zero_le (a:=s) (by omega);cases hm:gk s o;all_goals simp only[aB,bW,aC,aD]
 ·have h8:(s:Int)=8:=by rcases hc with h|h;(rw[hm] at h;cases h);exact h.1
  rw[wu (by omega),(show gk 1 o=true from by rcases hc with h|h;(rw[hm] at h;cases h);exact h.2),show aj (s:Int) 8=true by rw[h8];rfl];simp only[bW,aD,aB,cN,iL,hr,hr2,kA,aC,ue,iR,Nat.min_self];rw[hq,hi];exact Zw l hl hw s o hs ho
 ·simp only[cN,iL,hr,hr2,kA,aC,ue,iR,Nat.min_self];rw[hq,hi];exact Zw l hl hw s o hs ho
def mw(n:Int):Bool:=decide (0<=n/\n<=4294967295)
theorem OO(w:Nat)(n:Int):za w n=some (mw n):=by
 unfold za mw;by_cases h1:n<0
 ·have:¬(0<=n/\n<=4294967295):=by omega
  simp_all
 ·by_cases h2:4294967295<n
  ·simp_all
  ·have:(0<=n/\n<=4294967295):=by omega
   simp[h2,this]
theorem Yp(w:Nat)(a b:Int):Hd w a b=some (if mw a=true/\mw b=true/\mw (a+b)=true then(a+b,true) else(0,false)):=by
 unfold Hd;rw[OO,OO];by_cases ha:mw a=true
 case neg=>simp[ha]
 by_cases hb:mw b=true
 case neg=>simp_all
 have a1:0<=a/\a<=4294967295:=by simpa[mw] using ha
 have b1:0<=b/\b<=4294967295:=by simpa[mw] using hb
 simp_all;rw[aQ (by omega) (by omega),OO];cases hc:mw (a+b)<;>simp
theorem GP(w:Nat)(b:Bool):sU w b=some (if b=true then 0 else-1):=by cases b<;>rfl
def xx(n:Nat):Nat:=(n+65518)/65519
theorem YU(w n:Nat)(h:n<2^60):CO w (n:Int)=some (xx n:Int):=by
 unfold CO xx;simp only[aU,qT,jh,cf];by_cases h1:(n:Int)<1
 ·rw[show n=0 by omega];rfl
 rw[aq h1,aQ (n:=(n:Int) -1) (by omega) (by omega),show(n:Int) -1=((n -1:Nat):Int) by omega];have e:(((n -1:Nat):Int)).tdiv 65519=(((n -1)/65519:Nat):Int):=rfl;rw[e];have:(n+65518)/65519=(n -1)/65519+1:=by omega
 rw[this,aQ (n:=(((n -1)/65519:Nat):Int)) (by omega) (by omega),aQ (by omega) (by omega)];rfl
theorem VG{ty az:Int}{l:H1 UInt8}{o:Int}(h:eI ty az l=true)(ho:o=1\/o=2):
 (gk (kindOf ty).2.1 o=true\/((kindOf ty).2.1 =8/\gk 1 o=true))/\l.length/(kindOf ty).2.1.toNat*(kindOf ty).2.1.toNat=l.length:=by
 refine⟨?_,?_⟩
 ·rcases(Tm ty ((vM h).1)) with h|h|h|h<;>rcases ho with rfl|rfl<;>rw[h]<;>simp[gk,CZ]
 ·obtain⟨s,q,e1,e2,e3⟩:=TV h
  grind
theorem ak4{w:Nat}{ty az:Int}{l:H1 UInt8}(hm:eI ty az l=true)(hl:l.length<2^29)(hw:l.length+10<=w){o:Int}(ho:o=1\/o=2):
 HK w ty az (ah l) o=some (l.length,l.length,(iY l (kindOf ty).2.1.toNat o).map bh):=by
 obtain⟨h1,h2⟩:=VG hm ho;unfold HK;rw[yY w ty az l (by omega),hm,yV];simp;rw[YM l hl hw _ _ h1,h2];rfl
theorem ak3{w:Nat}{ty az:Int}{l:H1 UInt8}(hm:eI ty az l=true)(hl:l.length<2^29)(hw:l.length+10<=w){o:Int}(ho:o=1\/o=2):
 HM w ty az (ah l) o=some (ah (iY l (kindOf ty).2.1.toNat o)):=by
 obtain⟨h1,h2⟩:=VG hm ho;unfold HM;rw[yY w ty az l (by omega),hm,yV];simp;rw[YM l hl hw _ _ h1,h2,oG,wR];rfl
theorem vc(l:H1 UInt8)(n:Nat)(h:n=l.length):ae n (l.map bh)=ah l:=by rw[oG,h]
theorem YH{w:Nat}(hw:100<=w)(t:aN)(hm:eI t.ty t.az t.data=true)(hl:t.data.length<2^29)(hw2:t.data.length+10<=w){o:Int}(ho:o=1\/o=2)(ht:np t.tag=true):
 HJ w t.tag t.ty t.az (ah t.data) o=some (if bQ t.ty t.az=0 then(t.tag,t.ty,t.az,(pI o t:Int),true) else(0,0,0,0,false)):=by
 unfold HJ;rw[ak4 hm hl hw2 ho,sR (by omega)];have m2:gk 2 o=true:=by rcases ho with rfl|rfl<;>rfl
 have htr:0<=t.tag/\t.tag<65536:=by unfold np at ht;simpa using ht
 have hp:pN t.tag (2:Int).toNat o=some (aY t.tag.toNat 2 o):=by unfold pN;rw[ay ⟨htr.1,by show t.tag<((256^2:Nat):Int);omega⟩];rfl
 rw[ay m2,hp];have hout:=yg hm;obtain⟨k1,k2,k3,k4⟩:=vM hm;have hk:=AQ t.ty;have hpos:t.data.length≠0:=by intro q;have:1*1<=t.az*(kindOf t.ty).1 :=Int.mul_le_mul k2 (by omega) (by decide) (by omega);omega
 simp only[aB,bW,aD,bY,aU,bO];have e1:¬((t.data.length:Int)=0):=by omega
 simp only[e1,bM,aD];by_cases h4:t.data.length<=4
 ·have e2:¬((4:Int)<(t.data.length:Int)):=by omega
  simp only[e2,bM,aD];rw[ay h4] at hout;rw[ay hout,jh,aQ (by omega) (by omega),lZ (by omega)];have e3:((4:Int) -(t.data.length:Int)).toNat=4 -t.data.length:=by omega
  have hv:(iY t.data (kindOf t.ty).2.1.toNat o).length=t.data.length:=wR _ _ _;have hget:∀b:H1 UInt8,b=iY t.data (kindOf t.ty).2.1.toNat o++List.replicate (4 -t.data.length) 0->jN w (ah b) 0 4 o=some ((pI o t:Int),true):=by
   intro b hb;have hbl:b.length=4:=by rw[hb,aP,hv,uK];omega
   rw[Ch (by omega) b (by omega) 0 4 o (by omega)];have:=xI (l:=b) (p:=0) (s:=4) (order:=o) (.inr (.inr rfl)) ho (by omega);rw[show((0:Nat):Int)=0 from rfl,show((4:Nat):Int)=4 from rfl] at this;rw[this];unfold pI lG;rw[hb]
  rw[e3];have r1:(4 -t.data.length).ble 1000000000=true:=by rw[iq];omega
  simp only[r1,ue,cH,uK,gy,fI,hv,aC,Ag,gA,er,aM,bd,jB,show Nat.beq 5 5=true from rfl];by_cases h5:t.data.length=4
  ·have e4:t.data.length+(4 -t.data.length)<=t.data.length:=by omega
   simp only[e4,bd,aC];have:4 -t.data.length=0:=by omega
   rw[this];simp only[List.replicate_zero,List.map_nil,aX];rw[vc _ _ (by rw[hv];omega),hget _ (by rw[this];simp)];rfl
  ·have e4:¬(4<=t.data.length):=by omega
   have e5:t.data.length+(4 -t.data.length)=4:=by omega
   have hn:=nextslicecap_le (need:=4) (old:=t.data.length) (by omega);have r3:aF (4 -t.data.length)=true:=by simp;omega
   have r4:aF t.data.length=true:=by simp;omega
   have r5:Builtin.nextslicecap 4 t.data.length<=5000000000:=by omega
   simp only[e4,bM,aD,e5,r3,r4,r5,bd,jB,aC];have h6:List.take t.data.length ((iY t.data (kindOf t.ty).2.1.toNat o).map bh)++(List.replicate (4 -t.data.length) (0:UInt8)).map bh=(iY t.data (kindOf t.ty).2.1.toNat o++List.replicate (4 -t.data.length) 0).map bh:=by rw[eQ (by rw[cH,hv];exact aM _),fY]
   rw[h6];rw[vc _ _ (by rw[kG,cH]),hget _ rfl];rfl
 ·have e2:((4:Int)<(t.data.length:Int)):=by omega
  simp only[e2,bd,aC];rw[aq h4] at hout;rw[aq (by omega)]
theorem nQ{α γ σ:Type}{z:α}{F:α->α}{r:γ}{w:Nat}(ev:Nat->σ->α->γ)(Inv:Nat->σ->Prop)(m:Nat)(s0:σ)(h0:Inv 0 s0)(hs:∀i g s,i<m->Inv i s->∃s',Inv (i+1) s'/\ev i s (F g)=ev (i+1) s' g)(he:∀g s,Inv m s->ev m s (F g)=r)(h:m<w):ev 0 s0 (lp z F w)=r:=by
 have:∀(d i v:Nat)(s:σ),i+d=m->d<v->Inv i s->ev i s (lp z F v)=r:=by
  intro d;induction d with
  |zero=>intro i v s hi hv hI;rw[eU z F (by omega)];simp_all
  |succ d ih=>
   intro i v s hi hv hI;obtain⟨s',h1,h2⟩:=hs i (lp z F (v -1)) s (by omega) hI;rw[eU z F (by omega)]
   grind
 grind
def db(l:H1 aV):Qu:=aA dr l
theorem Ao(d:aV)(r:H1 Qu):dr d++r=dT d::dS d::dB d::r:=by rw[ql];rfl
def kV:H1 aV->Nat
 |[]=>0
 |d::ds=>max (gj d) (kV ds)
theorem DQ:∀{ds:H1 aV}{d:aV},d∈ds->gj d<=kV ds
 |[],d,h=>by grind
 |a::ds,d,h=>by
  rcases cX.1 h with rfl|h
  ·exact Nat.le_max_left _ _
  ·exact fE (DQ h) (Nat.le_max_right _ _)
def oC(m:Nat)(ds:H1 aV):Prop:=∀d∈ds,iG m d
theorem Y5(l:H1 bo)(c:H1 Qu)(h:c=l.flatMap cd):ae (c.length/5) c=aA cd l:=by subst h;unfold aA;rw[wL,ir _ (by simp)]
theorem Ys{w m:Nat}(hm:m<2^28)(hw:2*m+100<=w)(o:Int)(ds:H1 aV)(xK:wC w o (db ds)=some true)(kb:kV ds<=w)(hl:ds.length<=m)(he:eG 8 ds<2^49)(hc:(fD ⟨o,ds⟩).length*5<=1000000000)(hn:gZ ds<2^50)(hd:oC m ds):
 yU w o (db ds)=some (if eG 8 ds<=4294967295 then(aA cd (fD ⟨o,ds⟩),true) else(ae 0 [],false)):=by
 unfold yU;rw[xK];simp;unfold db;refine nQ (σ:=Nat×Nat×H1 bo) (ev:=λi s (g:Qu->Int->Int->Int->Int->H1 Qu->Zh (Qu×Bool))=>g (aA dr ds) ds.length i (s.1 :Nat) (s.2.1 :Nat) (s.2.2.flatMap cd))
  (Inv:=λi s=>eG s.1 (ds.drop i)=eG 8 ds/\s.2.1 +gZ (ds.drop i)=gZ ds/\s.2.2 ++jA s.2.1 s.1 (ds.drop i)=fD ⟨o,ds⟩) ds.length (8,0,[⟨1,-1,0,0,8⟩]) ?_ ?_ ?_ (by omega)
 ·exact⟨rfl,by simp,rfl⟩
 ·rintro i g ⟨e,no,sp⟩ hi ⟨h1,h2,h3⟩
  simp only at h1 h2 h3;rw[cW hi] at h1 h2 h3;rw[eG] at h1;rw[gZ] at h2;rw[jA] at h3;refine⟨(bB e ds[i],no+dL ds[i],sp++gp no e ds[i]),⟨h1,by simp only;omega,by simp only;rw[<-h3,ed]⟩,?_⟩;have e1:((i:Int)<(ds.length:Int)):=by omega
  simp only[aU,e1,aC,bH];rw[bu kX hi];simp only[Ao,bc];have hmem:=cx hi;have g1:=qm (ds.drop (i+1)) (bB e ds[i]);have g2:(sp++gp no e ds[i]).length<=(fD ⟨o,ds⟩).length:=by rw[<-h3];simp only[aP];omega
  rw[aP] at g2;have h4:=DQ hmem;rw[akG hm hw ds[i] no e _ (by omega) (by omega) (by omega) (by rw[wL];omega) (hd _ hmem)];simp only[aB];rw[aQ (by omega) (by omega),fo];rfl
 ·rintro g ⟨e,no,sp⟩ ⟨h1,h2,h3⟩
  simp[rN,eG,jA,dP] at h1 h3;have e1:¬((ds.length:Int)<(ds.length:Int)):=by omega
  rw[Y5 _ _ rfl,h3];by_cases q:eG 8 ds<=4294967295
  ·have:¬((4294967295:Int)<((eG 8 ds:Nat):Int)):=by omega
   simp_all
  ·have:((4294967295:Int)<((eG 8 ds:Nat):Int)):=by omega
   simp_all
def qo(l:H1 bo)(e:Nat):Nat:=match l.getLast? with
 |some x=>x.at_+x.cG
 |none=>e
theorem AR(a b:H1 bo)(e:Nat):qo (a++b) e=qo b (qo a e):=by
 unfold qo
 grind
theorem K5(x:bo)(b:H1 bo)(e:Nat):qo (x::b) e=qo b (x.at_+x.cG):=AR [x] b e
theorem K4(no:Nat):∀(l:H1 aN)(e:Nat),qo (dw no e l) e=cn e l
 |[],_=>rfl
 |t::l,e=>by
  unfold dw cn;split
  ·exact K4 no l e
  ·rw[K5];exact K4 no l _
mutual
theorem Tp:∀(d:aV)(no e:Nat),qo (gp no e d) e=bB e d
 | .mk tags subs blob,no,e=>by unfold gp bB;rw[K5,AR,AR,K4,Tq];split<;>rfl
theorem Tq:∀(r:cK)(no e:Nat),qo (kQ no e r) e=eH e r
 | .nil,no,e=>rfl
 | .cons _ d r,no,e=>by unfold kQ eH;rw[AR,Tp,Tq]
end
theorem To:∀(ds:H1 aV)(no e:Nat),qo (jA no e ds) e=eG e ds
 |[],no,e=>rfl
 |d::ds,no,e=>by unfold jA eG;rw[AR,Tp,To]
theorem acT(o:Int)(ds:H1 aV):∃x l,fD ⟨o,ds⟩=l++[x]/\x.at_+x.cG=eG 8 ds:=by
 have e:qo (fD ⟨o,ds⟩) 0=eG 8 ds:=by unfold fD;rw[K5];exact(To ds 0 8)
 have cA:fD ⟨o,ds⟩≠[]:=by unfold fD;simp
 exact⟨(fD ⟨o,ds⟩).getLast cA,(fD ⟨o,ds⟩).dropLast,(List.dropLast_concat_getLast cA).symm,(e)⟩
theorem ajY{w m:Nat}(hm:m<2^28)(hw:2*m+100<=w)(o:Int)(ds:H1 aV)(xK:wC w o (db ds)=some true)(kb:kV ds<=w)(hl:ds.length<=m)(he:eG 8 ds<=4294967295)(hc:(fD ⟨o,ds⟩).length*5<=1000000000)(hn:gZ ds<2^50)(hd:oC m ds):
 sV w o (db ds)=some (eG 8 ds:Int):=by
 unfold sV;rw[Ys hm hw o ds xK kb hl (by omega) hc hn hd,ay he];obtain⟨x,l,h1,h2⟩:=acT o ds;have hlen:(fD ⟨o,ds⟩).length=l.length+1:=by rw[h1];simp
 simp;rw[aQ (by omega) (by omega),lZ (by omega),show(((fD ⟨o,ds⟩).length:Int) -1).toNat=l.length by omega,bu CV (show l.length<(fD ⟨o,ds⟩).length by omega)];have tg:∀(x:bo)(r:H1 Qu),cd x++r=.int .i64 x.oq::.int .i64 x.dir::.int .i64 x.tag::.int .i64 x.at_::.int .i64 x.cG::r:=λ_ _=>rfl;simp_all;rw[aQ (by omega) (by omega),<-h2];rfl
theorem aky{w:Nat}(hw:20<=w):rC w (ct dC)=some true:=by obtain⟨v,rfl⟩:=wY hw;rfl
theorem Yv{w:Nat}(hw:20<=w):rC w (ct gB)=some true:=by obtain⟨v,rfl⟩:=wY hw;rfl
theorem Yu{w:Nat}(hw:20<=w):rC w (ct kU)=some true:=by obtain⟨v,rfl⟩:=wY hw;rfl
noncomputable def DG(w:Nat)(sv:Qu)(a o:Int)(dv:Qu)(cs:H1 Qu):Zh Int:=
 wi w dv cs sv o
def cF(n:Int):H1 Qu:=[.int .i64 n]
theorem mg(n:Int):(cF n).length=1:=rfl
def oL(l:H1 Int):H1 Qu:=l.map (Value.int .i64)
theorem acp{l:H1 Int}{i:Nat}(h:i<l.length):(oL l).drop i=Value.int .i64 l[i]::oL (l.drop (i+1)):=by unfold oL;rw[<-List.map_drop,cW h,ij]
theorem aax{w m:Nat}(hm:m<2^28)(hw:2*m+100<=w)(sh:H1 bg)(hsh:jc sh)(hl:∀s,s<sh.length->(aR sh s).bP.length<=m)(a o:Int)(ds:H1 aV)(l:H1 Int)(hlen:l.length=ds.length)(iM:ds.length<=m)(hd:oC m ds)(kb:kV ds<=w)
 (hh:∀j (h:j<ds.length),0<=l[j]/\l[j]<sh.length/\cM sh l[j].toNat ds[j]=true) {n:Nat} (hn:0<n) (h138:sV w o (db ds)=some (n:Int)):DG w (ct sh) a o (db ds) (oL l)=some 0:=by
 unfold DG wi db;have hcl:(oL l).length=ds.length:=by unfold oL;rw[cH,hlen]
 simp only[bU,kG,hcl,aU,bO];have e0:¬((ds.length:Int)<(ds.length:Int)):=by omega
 simp only[e0,bM,aD];refine gV (ev:=λi (g:Qu->Qu->Int->Int->Int->Qu->H1 Qu->Zh Int)=>g (ct sh) (aA dr ds) ds.length i o (aA dr ds) (oL l)) ds.length ?_ ?_ (by omega)
 ·intro i g hi;have e1:((i:Int)<(ds.length:Int)):=by omega
  simp only[e1,bd,aC,bH];rw[bu kX hi];simp only[Ao,bc,hcl,gy,fI,mQ,hi,bd,show Nat.beq 1 1=true from rfl,jB,aC];rw[acp (by omega)];obtain⟨h1,h2,h3⟩:=hh i hi;have hs:(l[i].toNat:Int)=l[i]:=mI h1;have hmem:=cx hi;have h4:=DQ hmem;simp only[bc,bK];have:=akH (w:=w) (m:=m) (by omega) hw sh hsh hl ds[i] l[i].toNat (by omega) (hd _ hmem) (by omega);rw[hs,h3] at this;rw[this];simp only[aB,bW,aD,cf];rw[aQ (by omega) (by omega)];rfl
 ·intro g;simp only[e0,bM,aD];unfold db at h138;rw[h138];have:¬((n:Int)=0):=by omega
  simp_all
theorem akv{w m:Nat}(hm:m<2^28)(hw:2*m+100<=w)(sh:H1 bg)(hsh:jc sh)(tO:rC w (ct sh)=some true)(hs0:0<sh.length)(hl:∀s,s<sh.length->(aR sh s).bP.length<=m){o:Int}(ho:o=1\/o=2)(ds:H1 aV)(cA:ds≠[])(iM:ds.length<=m)(hd:oC m ds)(kb:kV ds<=w)
 (hh:gE sh 0 ds=true) {n:Nat} (hn:0<n) (h138:sV w o (db ds)=some (n:Int)):ur w o (db ds) (ct sh)=some 0:=by
 have hpos:0<ds.length:=List.length_pos_iff.2 cA;unfold ur NH wi;rw[tO];simp only[aB,bW,aD,bY];have e0:¬((Int.ofNat ds.length:Int)=0):=by simp only[bO];omega
 rcases ho with rfl|rfl
 case' inl=>simp only[bd,bW,aD]
 case' inr=>simp only[show decide ((2:Int)=1)=false from rfl,show decide ((2:Int)=2)=true from rfl,fH,bW,aC,aD]
 all_goals
  unfold db;rw[bU];simp only[e0,bM,aD];refine nQ (σ:=Int×H1 Int) (ev:=λi s (g:Qu->Int->Int->Qu->H1 Qu->Zh Int)=>g (ct sh) s.1 _ (aA dr ds) (oL s.2))
   (Inv:=λi s=>s.2.length=i/\s.1 <sh.length/\gE sh s.1 (ds.drop i)=true/\∀j (h:j<i) (h2:j<s.2.length) (h3:j<ds.length),0<=s.2[j]/\s.2[j]<sh.length/\cM sh s.2[j].toNat ds[j]=true) ds.length (0,[]) ?_ ?_ ?_ (by omega)
  ·exact⟨rfl,by omega,hh,λj h=>by omega⟩
  ·rintro i g ⟨a,l⟩ hi ⟨h1,h2,h3,h4⟩
   simp only at h1 h2 h3 h4;rw[cW hi] at h3;simp only[gE,bt,cm] at h3;obtain⟨h5,h6,h7⟩:=h3;have hs:(a.toNat:Int)=a:=mI h5;have hat:a.toNat<sh.length:=by omega
   have hnx:=hsh.next a.toNat hat;refine⟨((aR sh a.toNat).next,l++[a]),⟨by simp[h1],by simp only;omega,h7,?_⟩,?_⟩
   ·intro j hj hj2 hj3;simp only at hj2⊢;by_cases q:j<i
    ·rw[List.getElem_append_left (by omega)];exact h4 j q (by omega) hj3
    ·have:j=i:=by omega
     subst this;have e:(l++[a])[j]'hj2=a:=by rw[List.getElem_append_right (by omega)];simp
     rw[e];exact⟨h5,by omega,h6⟩
   ·have hcl:(oL l).length=i:=by unfold oL;rw[cH,h1]
    have e1:¬(a<0):=by omega
    have e2:((i:Int)<(ds.length:Int)):=by omega
    have r1:aF i=true:=by simp;omega
    simp only[aU,e1,bM,fH,aC,bU,kG,hcl,bO,e2,bd,r1,cc,List.length_nil,fI,gy,show aF 1=true from rfl,nv,jB,lZ h5];have hS:sh[a.toNat]=aR sh a.toNat:=by unfold aR;rw[cw hat];rfl
    have tg:∀(S:bg)(r:H1 Qu),(jz S++r).drop 3=.int .i64 S.next::r:=λ_ _=>rfl;unfold ct;rw[bu zk hat,hS];simp only[tg,bc,bK];unfold oL;rw[fY];rfl
  ·rintro g ⟨a,l⟩ ⟨h1,h2,h3,h4⟩
   simp only at h1 h2 h3 h4;have hcl:(oL l).length=ds.length:=by unfold oL;rw[cH,h1]
   have hr:=λo=>aax hm hw sh hsh hl a o ds l h1 iM hd kb (λj h=>h4 j h (by omega) h) hn;by_cases q:a<0
   ·simp only[aU,q,bd,bW,aD];have:=hr _ h138;unfold DG wi db at this;simpa only[aU,bY] using this
   ·have e2:¬((ds.length:Int)<(ds.length:Int)):=by omega
    simp only[aU,q,bM,fH,aC];have:=hr _ h138;unfold DG wi db at this;simp only[bU,kG,hcl,bO,aU,bY,e2,bM,aD] at this⊢;exact this
theorem MJ(pre v old post:H1 UInt8)(h:old.length=v.length)(p:Nat)(hp:p=pre.length):aX p (v.map bh) ((pre++(old++post)).map bh)=(pre++(v++post)).map bh:=by
 have:=Fv (v.map bh) (old.map bh) (pre.map bh) (post.map bh) (by grind)
 grind
theorem OJ{w:Nat}(hw:8<=w)(pre old post:H1 UInt8)(n s:Nat)(hs:s=2\/s=4)(hn:n<256^s){o:Int}(ho:o=1\/o=2)(X Y:Qu)(no:Int)(hold:old.length=s)(L:Nat)(hL:L=(pre++(old++post)).length)(hlt:L<2^60)(p:Int)(hp:p=(pre.length:Int))(k:Int)(hk:k=(s:Int))(q:Int)(hq:q=(n:Int)):
 sW w p q k L L o X Y no ((pre++(old++post)).map bh)=some (L,L,o,X,Y,no,(pre++(aY n s o++post)).map bh):=by
 subst hp hk hq;unfold sW;rw[sR hw];have hpf:pN (n:Int) (s:Int).toNat o=some (aY n s o):=by unfold pN;rw[ay ⟨by omega,by rw[nq];exact_mod_cast hn⟩];simp
 rw[ay (by rcases hs with rfl|rfl<;>rcases ho with rfl|rfl<;>rfl),hpf];have hlen:L=pre.length+(s+post.length):=by simp_all
 have cA:¬(L=pre.length):=by omega
 have e1:pre.length<=L:=by omega
 have ev:(aY n s o).length=s:=eL _ _ _;simp only[aB,bH,gA,e1,aM,aC,iL,iR,cH,ev,gy,Ag,cA,bM,aD,fI];rw[show s.min (L -pre.length)=s from(show min s (L -pre.length)=s from by omega)];have e3:pre.length+s<=(pre++(old++post)).length:=by omega
 simp only[e3];rw[eQ (by rw[cH,ev];exact aM _),MJ _ _ _ _ (by rw[hold,ev]) _ rfl];rfl
def mF(oq dir tag:Int)(x:bo):Bool:=x.oq==oq&&(x.dir==dir&&x.tag==tag)
theorem ak5{w:Nat}(l:H1 bo)(a b c:Int)(hl:l.length<2^40)(hw:l.length<w):Pb w (aA cd l) a b c=some (dD (mF a b c) l):=by
 refine mX l (mF a b c) (ev:=λi (g:Qu->H1 Qu->H1 Qu->H1 Qu->Int->Int->Zh Int)=>g (aA cd l) [.int .i64 a] [.int .i64 b] [.int .i64 c] l.length i) ?_ ?_ hw
 ·intro i g h;simp_all;rw[bu CV h];have tg:∀(x:bo)(r:H1 Qu),cd x++r=.int .i64 x.oq::.int .i64 x.dir::.int .i64 x.tag::.int .i64 x.at_::.int .i64 x.cG::r:=λ_ _=>rfl;unfold Pc mF;simp_all;rw[aQ (by omega) (by omega)];by_cases q1:l[i].oq=a
  ·by_cases q2:l[i].dir=b
   ·by_cases q3:l[i].tag=c
    ·simp_all
    ·simp_all
   ·simp_all
  ·simp[q1]
 ·intro g;simp
theorem O0{w:Nat}{A B:H1 bo}{x:bo}(hl:(A++x::B).length<2^40)(hw:(A++x::B).length<w)(a b c:Int)(hA:∀y∈A,mF a b c y=false)(hx:mF a b c x=true)(L c2:Nat)(o:Int)(Y:Qu)(no:Int)(cs:H1 Qu):
 uw w a b c L c2 o (aA cd (A++x::B)) Y no cs=some ((x.at_:Int),L,c2,o,aA cd (A++x::B),Y,no,cs):=by
 have hi:dD (mF a b c) (A++x::B)=(A.length:Int):=by
  unfold dD
  grind
 unfold uw;rw[ak5 _ a b c hl hw,hi];simp;rw[bu CV (show A.length<(A++x::B).length by simp)];have tg:∀(x:bo)(r:H1 Qu),(cd x++r).drop 3=.int .i64 x.at_::.int .i64 x.cG::r:=λ_ _=>rfl;simp_all
theorem JM(pre v old post:H1 UInt8)(hold:old.length=v.length){L:Nat}(hL:L=(pre++(old++post)).length){β:Type}(K:H1 Qu->Zh β):
 (bif Nat.ble L L&&pre.length.ble L then dN 1 (ah v) λn (c:H1 Qu)=>bif c.length.beq (n*1)&&((bif Nat.beq L pre.length then 0 else 0+pre.length*1)+n.min (L -pre.length)*1).ble ((pre++(old++post)).map bh,5).fst.length then
  K (aX (bif Nat.beq L pre.length then 0 else 0+pre.length*1) (List.take (n.min (L -pre.length)*1) c) ((pre++(old++post)).map bh,5).fst) else none else none)=K ((pre++(v++post)).map bh):=by
 have hlen:L=pre.length+(v.length+post.length):=by simp_all
 have e1:pre.length<=L:=by omega
 simp only[gA,e1,aM,bd,iL,iR,cH,gy,nv,eY,fI];rw[(show v.length.min (L -pre.length)=v.length from by show min _ _=_;omega)];by_cases h0:L=pre.length
 ·have hv:v=[]:=kC (by omega);subst hv;have ho:=kC hold;subst ho;simp[h0,aX]
 ·have e3:pre.length+v.length<=(pre++(old++post)).length:=by rw[<-hL];omega
  simp only[Ag,h0,bM,aD,e3,bd,aC];rw[eQ (by rw[cH];exact aM _),MJ _ _ _ _ hold _ rfl]
theorem akK{w:Nat}(hw:100<=w)(t:aN)(hm:eI t.ty t.az t.data=true)(hl:t.data.length<2^29)(hw2:t.data.length+10<=w){o:Int}(ho:o=1\/o=2)(ht:np t.tag=true)(h0:bQ t.ty t.az=0)(dir:Int)(L c2:Nat)(X Y:Qu)(no:Int)(cs:H1 Qu):
 zb w t.tag t.ty t.az (ah t.data) dir L c2 o X Y no cs=some (t.tag,t.ty,t.az,(pI o t:Int),L,c2,o,X,Y,no,cs):=by
 unfold zb;rw[YH hw t hm hl hw2 ho ht,ay h0];rfl
theorem akL{w:Nat}(hw:100<=w)(t:aN)(hm:eI t.ty t.az t.data=true)(hl:t.data.length<2^29)(hw2:t.data.length+10<=w){o:Int}(ho:o=1\/o=2)(ht:np t.tag=true)(h0:bQ t.ty t.az≠0)(dir:Int){A B:H1 bo}{x:bo}(hsl:(A++x::B).length<2^40)(hsw:(A++x::B).length<w)
 (hA:∀y∈A,mF 3 dir t.tag y=false) (hx:mF 3 dir t.tag x=true) (pre old post:H1 UInt8) (hold:old.length=t.data.length) (hat:x.at_=pre.length) {L:Nat} (hL:L=(pre++(old++post)).length) (Y:Qu) (no:Int):
 zb w t.tag t.ty t.az (ah t.data) dir L L o (aA cd (A++x::B)) Y no ((pre++(old++post)).map bh)=some (t.tag,t.ty,t.az,(pre.length:Int),L,L,o,aA cd (A++x::B),Y,no,(pre++(lG o t++post)).map bh):=by
 unfold zb;rw[YH hw t hm hl hw2 ho ht,aq h0,O0 hsl hsw 3 dir t.tag hA hx];simp only[aB,hat];rw[ak3 hm hl hw2 ho];simp only[nv];exact JM pre (lG o t) old post (by rw[zA];exact hold) hL λcs=>some (t.tag,t.ty,t.az,(pre.length:Int),L,L,o,aA cd (A++x::B),Y,no,cs)
theorem OS(w:Nat)(e:bn)(c:H1 Qu)(hc:c.length<=1000000000):Cv w [.int .i64 e.tag,.int .i64 e.ty,.int .i64 e.az,.int .i64 e.slot] c=some (c++[.int .i64 e.tag,.int .i64 e.ty,.int .i64 e.az,.int .i64 e.slot]):=by
 unfold Cv;have:aF c.length=true:=by simp;omega
 simp only[this,show aF 1=true from rfl,cc,List.length_nil,er,ox,qa];rfl
section
open Go.Sort
def e4(x:bn):E4:=(x.tag,x.ty,x.az,(x.slot:Int))
def rJ(x:E4):bn:=⟨x.1,x.2.1,x.2.2.1,x.2.2.2.toNat⟩
theorem ZC(x:bn):rJ (e4 x)=x:=by obtain⟨a,b,c,d⟩:=x;show bn.mk a b c ((d:Int)).toNat=_;simp
def bR(x:bn):H1 Qu:=[.int .i64 x.tag,.int .i64 x.ty,.int .i64 x.az,.int .i64 x.slot]
theorem kZ(x:bn):(bR x).length=4:=rfl
theorem Rs(l:H1 bn):l.flatMap bR=(l.map e4).flatMap fM:=by
 induction l with
 |nil=>rfl
 |cons x l ih=>rw[dG,ih];rfl
theorem ZF:∀l:H1 E4,wS (l.flatMap fM)=some l
 |[]=>rfl
 |(a,b,c,d)::l=>by show wS (.int .i64 a::.int .i64 b::.int .i64 c::.int .i64 d::l.flatMap fM)=_;unfold wS;rw[ZF l];rfl
theorem WR:∀{a b:H1 bn},ff a=true->ff b=true->(∀x,x∈a↔x∈b)->a=b
 |[],[],_,_,_=>rfl
 |[],y::b,_,_,h=>by have:=(h y).2 (by simp);cases this
 |x::a,[],_,_,h=>by have:=(h x).1 (by simp);cases this
 |x::a,y::b,ha,hb,h=>by
  have ha':ff a=true/\∀z∈a,x.tag<z.tag:=by have:=M5 ha;omega
  have hb':=M5 hb;have hxy:x=y:=by grind
  congr 1
  refine WR ha'.1 hb'.1 λz=>?_
  grind
where
 M5:∀{x:bn}{a:H1 bn},ff (x::a)=true->ff a=true/\∀z∈a,x.tag<z.tag
  |x,[],_=>⟨rfl,λz h=>by cases h⟩
  |x,b::a,h=>by
   simp[ff] at h;obtain⟨_,h2⟩:=M5 h.2
   grind
theorem WT:∀{l:H1 bn},l.Pairwise (λa b=>a.tag<b.tag)->ff l=true
 |[],_=>rfl
 |[x],_=>rfl
 |x::y::l,h=>by rw[List.pairwise_cons] at h;simp[ff];exact⟨h.1 y (by simp),WT h.2⟩
theorem Jp:∀{l:H1 bn},oz l->(l.map bn.tag).Nodup
 |[],_=>by simp
 |x::l,h=>by rw[ij,List.nodup_cons];refine⟨λq=>?_,Jp h.2⟩;obtain⟨y,hy,e⟩:=mK.1 q;exact h.1 y hy e
theorem alD{l:H1 bn}(h:oz l):kx (l.map e4)=(gK l).map e4:=by
 obtain⟨h1,h2,h3⟩:=YZ (l.map e4);generalize kx (l.map e4)=p at h1 h2 h3;have hk:(p.map rJ).Perm l:=by have:=h2.map rJ;rw[List.map_map] at this;rw[(show(rJ∘e4)=id from by funext x;exact ZC x),List.map_id] at this;exact this
 have hp:(p.map rJ).map e4=p:=by
  rw[List.map_map]
  conv=>rhs;rw[<-List.map_id p]
  apply List.map_congr_left;intro x hx;obtain⟨y,-,hy⟩:=mK.1 (h2.mem_iff.1 hx);simp;rw[<-hy,ZC]
 have hr:ff (p.map rJ)=true:=by
  apply WT;rw[List.pairwise_iff_getElem];intro i j hi hj hij;have cA:(p.map rJ)[i].tag≠(p.map rJ)[j].tag:=by intro q;have:=(List.nodup_iff_pairwise_ne.1 ((hk.map bn.tag).nodup_iff.2 (Jp h)));rw[List.pairwise_iff_getElem] at this;have:=this i j (by simpa using hi) (by simpa using hj) hij;apply this;simp at q⊢;exact q
  simp at hi hj;have hs:=h3 i j (gU _) hij (by rw[<-h1];exact hj);rw[EA] at hs;simp_all;have a1:(rJ p[i]).tag=p[i].1 :=rfl;have a2:(rJ p[j]).tag=p[j].1 :=rfl;omega
 rw[<-(WR hr (KY h) λx=>by rw[hk.mem_iff,xN]),hp]
theorem akR(w:Nat){l:H1 bn}(h:oz l)(cA:l≠[])(hl:l.length<=1000000000):uy w (l.flatMap bR)=some ((gK l).flatMap bR):=by unfold uy;rw[Rs,ZF];simp only[aB,(show(l.map e4).isEmpty=false from by simp_all),(show aF (l.map e4).length=true from by simp;omega),bW,Bool.or_self,aD];rw[alD h,<-Rs]
noncomputable def DN(w:Nat)(mine:Int)(L c:Nat)(o:Int)(X Y:Qu)(no:Int)(bs es:H1 Qu):Zh (Int×Nat×Nat×Int×Qu×Qu×Int×H1 Qu):=
 ob (uy w es) λa=>ob (uw w 2 mine 0 L c o X Y no bs) λb=>BU w b a
def bj(n:Nat):H1 UInt8:=List.replicate n 0
theorem jk(n:Nat):(bj n).length=n:=uK
theorem pV(a b:Nat):bj (a+b)=bj a++bj b:=by unfold bj;simp
theorem abk{l:H1 bn}{i:Nat}(h:i<l.length)(o:Int):(l.take (i+1)).flatMap (jf o)=(l.take i).flatMap (jf o)++jf o l[i]:=by rw[im h,fo];simp
theorem aaV{w:Nat}(hw:100<=w){E:H1 bn}(hE:oz E)(cA:E≠[])(hEo:∀x∈E,Go.Proofs.YtcfjfbeadhnknaaGreatDoor.mM x)(hEn:E.length<=65535)(hEw:E.length<w){A B:H1 bo}{x:bo}(hsl:(A++x::B).length<2^40)(hsw:(A++x::B).length<w)(mine:Int)
 (hA:∀y∈A,mF 2 mine 0 y=false) (hx:mF 2 mine 0 x=true) (pre post:H1 UInt8) (hat:x.at_=pre.length) {L:Nat} (hL:L=(pre++(bj (6+12*E.length)++post)).length) (hlt:L<2^40) {o:Int} (ho:o=1\/o=2) (Y:Qu) (no:Int):
 DN w mine L L o (aA cd (A++x::B)) Y no ((pre++(bj (6+12*E.length)++post)).map bh) (E.flatMap bR)=some ((pre.length:Int),L,L,o,aA cd (A++x::B),Y,no,(pre++(kW o (gK E) 0++post)).map bh):=by
 unfold DN BU;rw[akR w hE cA (by omega)];simp only[aB];rw[O0 hsl hsw 2 mine 0 hA hx];simp only[aB,hat];have hn:(gK E).length=E.length:=AN E;have hsE:∀y∈gK E,Go.Proofs.YtcfjfbeadhnknaaGreatDoor.mM y:=λy hy=>hEo y (xN.1 hy);generalize gK E=F at hn hsE⊢;have hfl:(F.flatMap bR).length/4=F.length:=by rw[cy kZ];omega
 rw[hfl];rw[<-hn] at hL hEn hEw⊢;have hz:bj (6+12*F.length)=bj 2++bj (12*F.length+4):=by rw[<-pV];congr 1;omega
 rw[hz,ed];have hlenL:L=pre.length+(6+12*F.length+post.length):=by rw[hL];simp[jk]
 rw[OJ (by omega) pre (bj 2) (bj (12*F.length+4)++post) F.length 2 (.inl rfl) (by omega) ho _ Y no (jk 2) L (by rw[hL,hz,ed]) (by omega) (pre.length:Int) rfl (2:Int) rfl (Int.ofNat F.length) rfl];simp only[aB];have hlast:aY 0 4 o=bj 4:=by rcases ho with rfl|rfl<;>rfl
 refine nQ (σ:=H1 UInt8) (ev:=λi s (g:Int->Int->Int->Nat->Nat->Int->Qu->Qu->Int->H1 Qu->H1 Qu->Zh (Int×Nat×Nat×Int×Qu×Qu×Int×H1 Qu))=>g pre.length (F.length:Int) i L L o (aA cd (A++x::B)) Y no (F.flatMap bR) (s.map bh))
  (Inv:=λi s=>s=pre++(aY F.length 2 o++((F.take i).flatMap (jf o)++(bj (12*(F.length -i)+4)++post)))) F.length _ ?_ ?_ ?_ (by omega)
 ·simp
 ·rintro i g s hi rfl
  refine⟨pre++(aY F.length 2 o++((F.take (i+1)).flatMap (jf o)++(bj (12*(F.length -(i+1))+4)++post))),rfl,?_⟩;have e1:((i:Int)<(F.length:Int)):=by omega
  have e2:i*4<(F.flatMap bR).length:=by omega
  simp only[aU,e1,bd,aC,bH,show Nat.beq 4 4=true from rfl,eY,mQ,e2];rw[show 0+i*4=i*4 from fI _,mT kZ,cW hi,dG];have tg:∀(x:bn)(r:H1 Qu),bR x++r=.int .i64 x.tag::.int .i64 x.ty::.int .i64 x.az::.int .i64 x.slot::r:=λ_ _=>rfl;simp only[tg,bc,bK];have hok:=hsE _ (cx hi);have b1:=hok.tag;have b2:=hok.ty;have b3:=hok.az;have b4:=hok.slot;rw[akS (by omega) _ _ _ _ o ho,ay ⟨⟨b1.1,b1.2⟩,⟨b2.1,b2.2⟩,⟨b3.1,b3.2⟩,by omega,by omega⟩];simp only[aB,cf,pH];rw[aQ (n:=12*(i:Int)) (by omega) (by omega),aQ (n:=(pre.length:Int)+2) (by omega) (by omega),aQ (n:=(pre.length:Int)+2+12*(i:Int)) (by omega) (by omega),aQ (n:=(i:Int)+1) (by omega) (by omega),lZ (by omega)];have ek:((pre.length:Int)+2+12*(i:Int)).toNat=(pre++(aY F.length 2 o++(F.take i).flatMap (jf o))).length:=by rw[aP,aP,eL,xD,dk];omega
  rw[ek];have eb:aY F[i].tag.toNat 2 o++(aY F[i].ty.toNat 2 o++(aY F[i].az.toNat 4 o++aY ((F[i].slot:Int)).toNat 4 o))=jf o F[i]:=by unfold jf;simp
  rw[eb];have ez:bj (12*(F.length -i)+4)=bj 12++bj (12*(F.length -(i+1))+4):=by rw[<-pV];congr 1;omega
  have ebs:pre++(aY F.length 2 o++((F.take i).flatMap (jf o)++(bj (12*(F.length -i)+4)++post)))=(pre++(aY F.length 2 o++(F.take i).flatMap (jf o)))++(bj 12++(bj (12*(F.length -(i+1))+4)++post)):=by rw[ez];simp
  rw[ebs];have:=JM (pre++(aY F.length 2 o++(F.take i).flatMap (jf o))) (jf o F[i]) (bj 12) (bj (12*(F.length -(i+1))+4)++post) (by rw[jk,J7]) (L:=L) (by
   rw[hlenL];simp only[aP,jk,eL,xD,dk];omega)
   (λcs=>g (pre.length:Int) (F.length:Int) ((i:Int)+1) L L o (aA cd (A++x::B)) Y no (F.flatMap bR) cs)
  refine this.trans ?_;rw[abk hi];simp only[ed];rfl
 ·rintro g s rfl
  have e1:¬((F.length:Int)<(F.length:Int)):=by omega
  simp only[aU,e1,bM,aD];rw[mL,Nat.sub_self,Nat.mul_zero,fI];unfold kW;rw[hlast];simp only[ed]
end
theorem Mn(e:Nat):ec e=bj (aI e -e):=by
 unfold ec aI;by_cases h:e%2=0
 ·rw[ay h,show e+e%2 -e=0 by omega];rfl
 ·rw[aq h,show e+e%2 -e=1 by omega];rfl
theorem CU{no:Nat}{y:bo}:∀{l:H1 aN}{e:Nat},y∈dw no e l->y.oq=3/\y.dir=(no:Int)/\∃t∈l,y.tag=t.tag
 |[],_,h=>by cases h
 |t::l,e,h=>by
  unfold dw at h;split at h
  ·obtain⟨a,b,t',c,d⟩:=CU h
   grind
  ·rcases cX.1 h with rfl|h
   ·simp
   ·obtain⟨a,b,t',c,d⟩:=CU h
    grind
theorem aaF(d:aV):1<=dL d:=by cases d;unfold dL;omega
mutual
theorem PE{y:bo}:∀{d:aV}{no e:Nat},y∈gp no e d->(no:Int)<=y.dir/\y.dir<(no:Int)+dL d
 | .mk tags subs blob,no,e,h=>by
  unfold dL;rcases cX.1 h with rfl|h
  ·exact⟨Int.le_refl _,by simp only;omega⟩
  ·rcases fQ.1 h with h|h
   ·have:=(CU h).2.1;omega
   ·rcases fQ.1 h with h|h
    ·have:=PF h;omega
    grind
theorem PF{y:bo}:∀{r:cK}{no e:Nat},y∈kQ no e r->(no:Int)<=y.dir/\y.dir<(no:Int)+iu r
 | .nil,no,e,h=>by unfold kQ at h;cases h
 | .cons t d r,no,e,h=>by
  unfold iu;rcases fQ.1 h with h|h
  ·have:=PE h;omega
  ·have:=PF h;omega
end
def mR(o:Int)(sh:H1 bg)(S:bg)(e:Nat):H1 (Int×aV)->H1 UInt8
 |[]=>[]
 |p::l=>jq o sh ((lO S p.1).getD 0) 0 e p.2 ++mR o sh S (bB e p.2) l
theorem QP(o:Int)(sh:H1 bg)(S:bg):∀(s:cK)(e:Nat),jW o sh S e s=mR o sh S e (aS s)
 | .nil,e=>by simp[jW,aS,mR]
 | .cons t d r,e=>by simp[jW,aS,mR,QP o sh S r]
def oH(e:Nat):H1 (Int×aV)->H1 bn
 |[]=>[]
 |p::l=>⟨p.1,4,1,aI e⟩::oH (bB e p.2) l
theorem Rw:∀(s:cK)(e:Nat),iJ e s=oH e (aS s)
 | .nil,e=>by simp[iJ,aS,oH]
 | .cons t d r,e=>by simp[iJ,aS,oH,Rw r]
theorem KK{sh:H1 bg}{S:bg}:∀{s:cK},jg sh S s=true->∀p∈aS s,fG S p.1 =true/\cM sh ((lO S p.1).getD 0) p.2 =true
 | .nil,_,p,h=>by cases h
 | .cons t d r,h,p,hp=>by
  simp[jg] at h;rcases cX.1 hp with rfl|hp
  ·grind
  ·exact KK h.2.2 p hp
theorem akN{w:Nat}(l:H1 iF)(n:Int)(a b c:Qu)(hl:l.length<2^40)(hw:l.length<w):OW w (gL l) n a b c=some (dD (λx=>x.tag==n) l):=by
 refine mX l (λx=>x.tag==n) (ev:=λi (g:Qu->H1 Qu->Int->Int->Zh Int)=>g (aA mn l) [.int .i64 n,a,b,c] l.length i) ?_ ?_ hw
 ·intro i g h;simp_all;rw[bu tT h];unfold mn OZ;rw[aQ (by omega) (by omega)];simp
 simp
theorem akJ(w:Nat)(x y:bn)(c:H1 Qu)(hc:c.length<=1000000000):Cw w [.int .i64 x.tag,.int .i64 x.ty,.int .i64 x.az,.int .i64 x.slot,.int .i64 y.tag,.int .i64 y.ty,.int .i64 y.az,.int .i64 y.slot] c=some (c++(bR x++bR y)):=by unfold Cw;simp_all;rfl
theorem vZ{l:H1 aN}(h:fP l=true){i j:Nat}(hij:i<j)(hj:j<l.length):l[i].tag<l[j].tag:=by
 induction l generalizing i j with
 |nil=>grind
 |cons a l ih=>
  obtain⟨h1,h2⟩:=FH h;cases j with
  |zero=>omega
  |succ j=>
   cases i with
   |zero=>grind
   |succ i=>grind
structure zS(w m:Nat)(sh:List bg)(o:Int)(L:Nat)(Sp:List bo):Prop where
 hm:m<2^28
 hw:2*m+1000<=w
 ok:jc sh
 bP:∀s,s<sh.length->(aR sh s).bP.length<=m
 ho:o=1\/o=2
 hL:L<4294967296
 tP:Sp.length<2^40
 vy:Sp.length<w
 AK:70000<=w
def zM(sh:H1 bg)(o:Int)(L:Nat)(Sp:H1 bo)(rec:Qu->Qu->Qu->Int->Nat->Nat->Int->Qu->Qu->Int->H1 Qu->Zh (Int×Nat×Nat×Int×Qu×Qu×Int×H1 Qu))(d:aV)(s:Nat):Prop:=
 ∀(no e:Nat)(A B:H1 bo)(pre post:H1 UInt8),(∀y∈A,y.dir<(no:Int))->pre.length=e->Sp=A++(gp no e d++B)->L=(pre++(bj (bB e d -e)++post)).length->no+dL d<2^40->
  rec (dT d) (dS d) (dB d) (s:Int) L L o (aA cd Sp) (ct sh) (no:Int) ((pre++(bj (bB e d -e)++post)).map bh)=
   some ((aI e:Int),L,L,o,aA cd Sp,ct sh,((no+dL d:Nat):Int),(pre++(jq o sh s 0 e d++post)).map bh)
theorem Rq(e:Nat)(t:aN)(ts:H1 aN):cn e (t::ts)=if bQ t.ty t.az=0 then cn e ts else cn (aI e+bQ t.ty t.az) ts:=rfl
theorem ams(o:Int)(e:Nat)(t:aN)(ts:H1 aN):gH o e (t::ts)=if bQ t.ty t.az=0 then gH o e ts else ec e++(lG o t++gH o (aI e+bQ t.ty t.az) ts):=rfl
theorem abj(o:Int)(e:Nat)(t:aN)(ts:H1 aN):eK o e (t::ts)=if bQ t.ty t.az=0 then⟨t.tag,t.ty,t.az,pI o t⟩::eK o e ts else⟨t.tag,t.ty,t.az,aI e⟩::eK o (aI e+bQ t.ty t.az) ts:=rfl
theorem alM(no e:Nat)(t:aN)(ts:H1 aN):dw no e (t::ts)=if bQ t.ty t.az=0 then dw no e ts else⟨3,no,t.tag,aI e,bQ t.ty t.az⟩::dw no (aI e+bQ t.ty t.az) ts:=rfl
theorem SU(x:bn):∀l:H1 bn,(kh x l).Perm (x::l)
 |[]=>List.Perm.refl _
 |y::l=>by
  unfold kh;split
  ·simp
  ·exact((SU x l).cons y).trans (List.Perm.swap x y l)
theorem Tc:∀l:H1 bn,(gK l).Perm l
 |[]=>List.Perm.refl _
 |x::l=>by exact(SU x _).trans ((Tc l).cons x)
theorem Ud:∀{l:H1 bn},(l.map bn.tag).Nodup->oz l
 |[],_=>trivial
 |x::l,h=>by rw[ij,List.nodup_cons] at h;refine⟨λy hy e=>h.1 ?_,Ud h.2⟩;simp_all
theorem Z4{l:H1 bn}(h:ff (gK l)=true):oz l:=
 Ud (((Tc l).map bn.tag).nodup_iff.1 (Jp (zZ h)))
theorem alV{w m:Nat}{sh:H1 bg}{o:Int}{L:Nat}{Sp:H1 bo}(H:zS w m sh o L Sp)(rec:Qu->Qu->Qu->Int->Nat->Nat->Int->Qu->Qu->Int->H1 Qu->Zh (Int×Nat×Nat×Int×Qu×Qu×Int×H1 Qu))(d:aV)(s:Nat)(hs:s<sh.length)(hd:iG m d)(hh:cM sh s d=true)
 (hrec:∀p∈aS (match d with| .mk _ subs _=>subs),∀k:Nat,k<sh.length->cM sh k p.2 =true->zM sh o L Sp rec p.2 k):zM sh o L Sp (Is w rec) d s:=by
 obtain⟨hm,hw,hsh,hl,ho,hLt,tP,vy,AK⟩:=H;obtain⟨tags,subs,blob⟩:=d;intro no e A B pre post hA hp hSp hL tQ;have hd:tags.length<=m/\cj subs<=m/\blob.length<=m/\(∀t∈tags,t.data.length<=m)/\iH m subs:=hd;replace hrec:∀p∈aS subs,∀k:Nat,k<sh.length->cM sh k p.2 =true->zM sh o L Sp rec p.2 k:=hrec;have hlenB:=tD o sh (.mk tags subs blob) s 0 e hh;have hh0:=hh;simp only[cM,bt,sZ,cm] at hh;obtain⟨⟨n1,n2⟩,ht,hbl,hr,hss⟩:=hh;have htg:∀t∈tags,np t.tag=true/\eI t.ty t.az t.data=true:=λt h=>by simp only[ky,bt,iE] at ht;exact⟨(ht.2 t h).1,(ht.2 t h).2.2⟩
 have htr:fP tags=true:=by simp only[ky,bt] at ht;exact ht.1
 obtain⟨N,hN⟩:∃N,bE (.mk tags subs blob)=N:=⟨_,rfl⟩;rw[hN] at n1 n2;have hNt:tags.length+cj subs<=N:=by rw[<-hN];show _<=tags.length+cj subs+_;omega
 obtain⟨e1,he1⟩:∃e1,aI e+(6+12*N)=e1:=⟨_,rfl⟩;obtain⟨e2,he2⟩:∃e2,cn e1 tags=e2:=⟨_,rfl⟩;obtain⟨e3,he3⟩:∃e3,eH e2 subs=e3:=⟨_,rfl⟩;obtain⟨S,hS⟩:∃S,aR sh s=S:=⟨_,rfl⟩;have hSo:=hsh.ok s;have hSlk:=hsh.bP s hs;have hln:=hl s hs;rw[hS] at hSo ht hbl hss hSlk hln;have hSg:sh[s]=S:=by rw[<-hS];unfold aR;rw[cw hs];rfl
 have g1:=nL e;have g2:=qU tags e1;have g3:=tJ subs e2;have g4:=nL e3;rw[he2] at g2;rw[he3] at g3;obtain⟨D,hD⟩:∃D,bB e (.mk tags subs blob)=D:=⟨_,rfl⟩;have hend:D=if blob.length=0 then e3 else aI e3+blob.length:=by rw[<-hD,bB,hN,he1,he2,he3]
 rw[hD] at hL hlenB⊢;have hDe:e3<=D:=by rw[hend];split<;>omega
 have hlenL:L=D+post.length:=by rw[hL,aP,aP,jk];omega
 obtain⟨E,hE⟩:∃E,eK o e1 tags++(iJ e2 subs++hU S e3 blob)=E:=⟨_,rfl⟩;have c1:=(QY (order:=o) (e1:=e1) (e2:=e2) (e3:=e3) hSo ht hbl hr hss rfl).1;rw[hE] at c1;have hEap:oz E:=Z4 c1;have hEn:E.length=N:=by rw[<-hE,aP,aP,tK,Ax,DY,<-hN];show _=tags.length+cj subs+(if blob.length=0 then 0 else 2);omega
 have hEne:E≠[]:=by intro q;rw[q] at hEn;simp at hEn;omega
 have hEo:∀x∈E,Go.Proofs.YtcfjfbeadhnknaaGreatDoor.mM x:=by
  intro x hx;rw[<-hE] at hx;rcases fQ.1 hx with hx|hx
  ·exact DZ (S:=S) htg (by rw[he2];omega) x hx
  ·rcases fQ.1 hx with hx|hx
   ·exact J9 hSo (Ei hss) (by rw[he3];omega) x hx
   ·unfold hU at hx;split at hx
    ·cases hx
    ·rename_i hb0;rw[aq hb0] at hend;have hat:=hSo.pair (hbl.resolve_left hb0);simp only[cX,nu,nA] at hx;rcases hx with rfl|rfl
     ·exact⟨by simp only;omega,by simp only;omega,by simp only;omega,by simp only;omega⟩
     ·exact⟨by simp only;omega,by simp only;omega,by simp only;omega,by simp only;omega⟩
 obtain⟨bS,hbS⟩:∃bS:H1 bo,(if blob.length=0 then[] else[⟨4,no,0,aI e3,blob.length⟩])=bS:=⟨_,rfl⟩;have hSp1:Sp=A++(⟨2,no,0,aI e,6+12*N⟩::(dw no e1 tags++(gq (no+1) e2 (aS subs)++(bS++B)))):=by rw[hSp,gp,hN,he1,he2,he3,hbS,Iq];simp only[eD,ed]
 have hcN:dL (.mk tags subs blob)=gh (aS subs)+1:=by rw[dL,JL]
 rw[hcN] at tQ⊢;have hvl:=IK o tags e1 λt h=>(htg t h).2;rw[he2] at hvl;unfold Is ct BU;simp only[dT,dS,dB,bH];rw[bu zk hs,hSg];have tg:∀(S:bg)(r:H1 Qu),jz S++r=gL S.bP::.int .i64 S.at_::.int .i64 S.cG::.int .i64 S.next::r:=λ_ _=>rfl;simp only[tg,bc,bK,cf];unfold au;rw[bU,aQ (n:=(no:Int)+1) (by omega) (by omega)];have hz1:bj (D -e)=bj (e1 -e)++([]++bj (D -e1)):=by rw[fy,<-pV];congr 1;omega
 rw[hz1];simp only[ed];refine nQ (σ:=Nat×H1 UInt8×H1 bn×H1 bo) (ev:=λi s (g:Int->Qu->Int->Int->Nat->Nat->Int->Qu->Qu->Int->Qu->Qu->Qu->Qu->Int->Int->Int->H1 Qu->H1 Qu->Zh (Int×Nat×Nat×Int×Qu×Qu×Int×H1 Qu))=>g no (aA cC tags) tags.length i L L o (aA cd Sp) (aA jz sh) ((no:Int)+1) (aA cC tags) (ae (cj subs) (gO subs)) (ah blob) (gL S.bP) S.at_ S.cG S.next ((pre++(bj (e1 -e)++(s.2.1 ++(bj (D -s.1)++post)))).map bh) (s.2.2.1.flatMap bR))
  (Inv:=λi s=>cn s.1 (tags.drop i)=e2/\e1+s.2.1.length=s.1 /\s.2.1 ++gH o s.1 (tags.drop i)=gH o e1 tags/\s.2.2.1 ++eK o s.1 (tags.drop i)=eK o e1 tags/\s.2.2.2 ++dw no s.1 (tags.drop i)=dw no e1 tags/\∀y∈s.2.2.2,y.oq=3/\y.dir=(no:Int)/\∃t∈tags.take i,y.tag=t.tag) tags.length (e1,[],[],[]) ?_ ?_ ?_ (by omega)
 ·exact⟨by simpa using he2,by simp,by simp,by simp,by simp,λy hy=>by cases hy⟩
 ·rintro i g ⟨ei,X,es,Q⟩ hi ⟨h1,h2,h3,h4,h5,h6⟩
  simp only at h1 h2 h3 h4 h5 h6;have hmem:=cx hi;obtain⟨ht1,ht2⟩:=htg _ hmem;have iM:=hd.2.2.2.1 _ hmem;have hel:(es.flatMap bR).length<=1000000000:=by
   rw[cy kZ];have:es.length<=tags.length:=by have:=bX List.length h4;rw[aP,tK,tK] at this;omega
   omega
  rw[cW hi] at h1 h3 h4 h5;rw[Rq] at h1;rw[ams] at h3;rw[abj] at h4;rw[alM] at h5;have e0:((i:Int)<(tags.length:Int)):=by omega
  have tt:∀(t:aN)(r:H1 Qu),cC t++r=.int .i64 t.tag::.int .i64 t.ty::.int .i64 t.az::ah t.data::r:=λ_ _=>rfl;by_cases h0:bQ tags[i].ty tags[i].az=0
  ·rw[ay h0] at h1 h3 h4 h5;refine⟨(ei,X,es++[⟨tags[i].tag,tags[i].ty,tags[i].az,pI o tags[i]⟩],Q),⟨h1,h2,h3,by rw[<-h4];simp,h5,λy hy=>?_⟩,?_⟩
   ·obtain⟨a,b,t,c,q⟩:=h6 y hy;exact⟨a,b,t,by rw[im hi];exact fQ.2 (.inl c),q⟩
   ·simp only[aU,e0,bd,aC,bH];rw[bu ig hi];simp only[tt,bc,bK];rw[akK (by omega) tags[i] ht2 (by omega) (by omega) ho ht1 h0];simp only[aB];rw[OS w ⟨tags[i].tag,tags[i].ty,tags[i].az,pI o tags[i]⟩ _ hel];simp only[aB];rw[aQ (by omega) (by omega),fo];simp only[dG,lH,dP];rfl
  ·rw[aq h0] at h1 h3 h4 h5;have hout:=yg ht2;have hoL:bQ tags[i].ty tags[i].az=tags[i].data.length:=by rw[hout] at h0⊢;split<;>simp_all
   have hge:=qU (tags.drop (i+1)) (aI ei+bQ tags[i].ty tags[i].az);rw[h1] at hge;have hev:=nL ei;have hpd:=qw ei;have hvB:(lG o tags[i]).length=bQ tags[i].ty tags[i].az:=by rw[zA,hoL]
   refine⟨(aI ei+bQ tags[i].ty tags[i].az,X++(ec ei++lG o tags[i]),es++[⟨tags[i].tag,tags[i].ty,tags[i].az,aI ei⟩],Q++[⟨3,no,tags[i].tag,aI ei,bQ tags[i].ty tags[i].az⟩]),⟨h1,?_,by rw[<-h3];simp,by rw[<-h4];simp,by rw[<-h5];simp,λy hy=>?_⟩,?_⟩
   ·simp only[aP,hvB];omega
   ·rcases fQ.1 hy with hy|hy
    ·obtain⟨a,b,t,c,q⟩:=h6 y hy;exact⟨a,b,t,by rw[im hi];exact fQ.2 (.inl c),q⟩
    ·rw[nt.1 hy];exact⟨rfl,rfl,tags[i],by rw[im hi];exact fQ.2 (.inr (by simp)),rfl⟩
   ·simp only[aU,e0,bd,aC,bH];rw[bu ig hi];simp only[tt,bc,bK];have hSpi:Sp=(A++(⟨2,no,0,aI e,6+12*N⟩::Q))++⟨3,no,tags[i].tag,aI ei,bQ tags[i].ty tags[i].az⟩::(dw no (aI ei+bQ tags[i].ty tags[i].az) (tags.drop (i+1))++(gq (no+1) e2 (aS subs)++(bS++B))):=by
     rw[hSp1,<-h5];simp
    have hbuf:pre++(bj (e1 -e)++(X++(bj (D -ei)++post)))=(pre++(bj (e1 -e)++(X++ec ei)))++(bj (bQ tags[i].ty tags[i].az)++(bj (D -(aI ei+bQ tags[i].ty tags[i].az))++post)):=by
     have:bj (D -ei)=ec ei++(bj (bQ tags[i].ty tags[i].az)++bj (D -(aI ei+bQ tags[i].ty tags[i].az))):=by rw[Mn,<-pV,<-pV];congr 1;omega
     rw[this];simp
    have hpl:(pre++(bj (e1 -e)++(X++ec ei))).length=aI ei:=by simp only[aP,jk];omega
    have hq:=akL (w:=w) (by omega) tags[i] ht2 (by omega) (by omega) ho ht1 h0 (no:Int) (A:=A++(⟨2,no,0,aI e,6+12*N⟩::Q)) (B:=dw no (aI ei+bQ tags[i].ty tags[i].az) (tags.drop (i+1))++(gq (no+1) e2 (aS subs)++(bS++B))) (x:=⟨3,no,tags[i].tag,aI ei,bQ tags[i].ty tags[i].az⟩) (by rw[<-hSpi];exact tP) (by rw[<-hSpi];exact vy) (λy hy=>by
     unfold mF;rcases fQ.1 hy with hy|hy
     ·have:=hA y hy;have:(y.dir==(no:Int))=false:=by simp;omega
      rw[this];simp
     ·rcases cX.1 hy with rfl|hy
      ·rfl
      ·obtain⟨-,-,t,c,q⟩:=h6 y hy;obtain⟨j,hj,rfl⟩:=List.getElem_of_mem c;rw[dk] at hj;rw[List.getElem_take] at q;have:=vZ htr (show j<i by omega) hi;have:(y.tag==tags[i].tag)=false:=by simp;omega
       rw[this];simp) (by simp[mF]) (pre++(bj (e1 -e)++(X++ec ei))) (bj (bQ tags[i].ty tags[i].az)) (bj (D -(aI ei+bQ tags[i].ty tags[i].az))++post) (by rw[jk,hoL]) hpl.symm (L:=L) (by rw[hlenL];simp only[aP,jk];omega) (aA jz sh) ((no:Int)+1)
    rw[<-hSpi,<-hbuf] at hq;rw[hq];simp only[aB];rw[hpl];rw[OS w ⟨tags[i].tag,tags[i].ty,tags[i].az,aI ei⟩ _ hel];simp only[aB];rw[aQ (by omega) (by omega),fo];simp only[dG,lH,dP,ed];rfl
 ·rintro g ⟨ei,X,es,Q⟩ ⟨h1,h2,h3,h4,h5,h6⟩
  simp only[rN,cn,gH,eK,dw,dP] at h1 h2 h3 h4 h5 h6;subst h1 h3 h4;have e0:ak (tags.length:Int) (tags.length:Int)=false:=by simp
  simp only[e0,aD];rw[CX,bU];have hsl:=uE subs;have sg:∀(p:Int×aV)(r:H1 Qu),gw p++r=.int .i64 p.1 ::dT p.2 ::dS p.2 ::dB p.2 ::r:=by intro p r;unfold gw;rw[ql];rfl
  have hvlen:(gH o e1 tags).length=ei -e1:=by omega
  generalize hV:gH o e1 tags=V at*;rw[show(no:Int)+1=((no+1:Nat):Int) by omega];refine nQ (σ:=Nat×Nat×H1 UInt8×H1 bn×H1 bo) (ev:=λi s (g:Int->Qu->Int->Int->Nat->Nat->Int->Qu->Qu->Int->Qu->Qu->Qu->Qu->Int->Int->Int->H1 Qu->H1 Qu->Zh (Int×Nat×Nat×Int×Qu×Qu×Int×H1 Qu))=>g no (aA gw (aS subs)) (aS subs).length i L L o (aA cd Sp) (aA jz sh) (s.2.1 :Nat) (aA cC tags) (aA gw (aS subs)) (ah blob) (gL S.bP) S.at_ S.cG S.next ((pre++(bj (e1 -e)++(s.2.2.1 ++(bj (D -s.1)++post)))).map bh) (s.2.2.2.1.flatMap bR))
   (Inv:=λi s=>hM s.1 ((aS subs).drop i)=e3/\s.2.1 +gh ((aS subs).drop i)=no+1+gh (aS subs)/\e1+s.2.2.1.length=s.1 /\s.2.2.1 ++mR o sh S s.1 ((aS subs).drop i)=V++mR o sh S ei (aS subs)/\s.2.2.2.1 ++oH s.1 ((aS subs).drop i)=eK o e1 tags++oH ei (aS subs)/\s.2.2.2.2 ++gq s.2.1 s.1 ((aS subs).drop i)=gq (no+1) ei (aS subs)/\no+1<=s.2.1 /\s.2.2.2.1.length=tags.length+i/\∀y∈s.2.2.2.2,y.dir<(s.2.1 :Int)) (aS subs).length (ei,no+1,V,eK o e1 tags,[]) ?_ ?_ ?_ ?_
  ·exact⟨by rw[er,<-JX];exact he3,by simp,by simp only;omega,by simp,by simp,by simp,aM _,by simp[tK],λy hy=>by cases hy⟩
  ·rintro i g ⟨fi,ni,X,es,R⟩ hi ⟨k1,k2,k3,k4,k5,k6,k7,k8,k9⟩
   simp only at k1 k2 k3 k4 k5 k6 k7 k8 k9;have hmem:=cx hi;rw[cW hi] at k1 k2 k4 k5 k6;rw[hM] at k1;rw[gh] at k2;rw[mR] at k4;rw[oH] at k5;rw[gq] at k6;obtain⟨p1,p2⟩:=KK hss _ hmem;have hge:=DX ((aS subs).drop (i+1)) (bB fi (aS subs)[i].2);have hge2:=Ar (aS subs)[i].2 fi;have hbl2:=tD o sh (aS subs)[i].2 ((lO S (aS subs)[i].1).getD 0) 0 fi p2;rw[k1] at hge;have e5:((i:Int)<((aS subs).length:Int)):=by omega
   rcases K7 S (aS subs)[i].1 with⟨-,hb0⟩|⟨k,hk,ek,-,e2⟩
   ·rw[p1] at hb0;cases hb0
   have hlk:=hSlk _ (cx hk);have hsh2:((S.bP[k].shape.toNat:Nat):Int)=S.bP[k].shape:=mI (by omega);rw[e2] at p2 k4 hbl2;refine⟨(bB fi (aS subs)[i].2,ni+dL (aS subs)[i].2,X++jq o sh S.bP[k].shape.toNat 0 fi (aS subs)[i].2,es++[⟨(aS subs)[i].1,4,1,aI fi⟩],R++gp ni fi (aS subs)[i].2),⟨k1,by simp only;omega,by simp only[aP];omega,by rw[<-k4];simp,by rw[<-k5];simp,by rw[<-k6];simp,by simp only;omega,by simp only[aP,wX];omega,λy hy=>?_⟩,?_⟩
   ·rcases fQ.1 hy with hy|hy
    ·have:=k9 y hy;simp only;omega
    ·have:=PE hy;simp only;omega
   ·simp only[aU,e5,bd,aC,bH];rw[bu uC hi];simp only[sg,bc,bK];rw[akN _ _ _ _ _ (by omega) (by omega),ek];simp only[aB,bH];unfold gL;rw[bu tT hk];have lg:∀(x:iF)(r:H1 Qu),(mn x++r).drop 1=.int .i64 x.shape::r:=λ_ _=>rfl;simp only[lg,bc,bK];have hSpi:Sp=(A++(⟨2,no,0,aI e,6+12*N⟩::(dw no e1 tags++R)))++(gp ni fi (aS subs)[i].2 ++(gq (ni+dL (aS subs)[i].2) (bB fi (aS subs)[i].2) ((aS subs).drop (i+1))++(bS++B))):=by
     rw[hSp1,<-k6];simp
    have hzz:bj (D -fi)=bj (bB fi (aS subs)[i].2 -fi)++bj (D -bB fi (aS subs)[i].2):=by rw[<-pV];congr 1;omega
    have hbuf:pre++(bj (e1 -e)++(X++(bj (D -fi)++post)))=(pre++(bj (e1 -e)++X))++(bj (bB fi (aS subs)[i].2 -fi)++(bj (D -bB fi (aS subs)[i].2)++post)):=by rw[hzz];simp
    have hpl:(pre++(bj (e1 -e)++X)).length=fi:=by simp only[aP,jk];omega
    have hr:=hrec _ hmem S.bP[k].shape.toNat (by omega) p2 ni fi (A++(⟨2,no,0,aI e,6+12*N⟩::(dw no e1 tags++R))) (gq (ni+dL (aS subs)[i].2) (bB fi (aS subs)[i].2) ((aS subs).drop (i+1))++(bS++B)) (pre++(bj (e1 -e)++X)) (bj (D -bB fi (aS subs)[i].2)++post) (λy hy=>by
     rcases fQ.1 hy with hy|hy
     ·have:=hA y hy;omega
     ·rcases cX.1 hy with rfl|hy
      ·simp only;omega
      ·rcases fQ.1 hy with hy|hy
       ·have:=(CU hy).2.1;omega
       ·exact k9 y hy) hpl hSpi (by rw[hlenL];simp only[aP,jk];omega) (by omega)
    rw[hsh2] at hr;unfold ct at hr;rw[<-hbuf] at hr;rw[hr];simp only[aB,bY,bd,aC];unfold uv;simp only[aB];rw[OS w ⟨(aS subs)[i].1,4,1,aI fi⟩ _ (by rw[cy kZ];omega)];simp only[aB,cf];rw[aQ (by omega) (by omega)];simp only[fo,dG,lH,dP,ed];rfl
  ·rintro g ⟨fi,ni,X,es,R⟩ ⟨k1,k2,k3,k4,k5,k6,k7,k8,k9⟩
   simp only[rN,hM,gh,mR,oH,gq,dP,Nat.add_zero] at k1 k2 k3 k4 k5 k6 k7 k8 k9;subst k1 k2 k4 k5;have e6:ak ((aS subs).length:Int) ((aS subs).length:Int)=false:=by simp
   simp only[e6,aD];rw[cN];have hE2:eK o e1 tags++oH ei (aS subs)++hU S fi blob=E:=by rw[<-hE,Rw];simp
   have hbD:jq o sh s 0 e (.mk tags subs blob)=ec e++(kW o (gK E) 0++(V++(mR o sh S ei (aS subs)++(if blob.length=0 then[] else ec fi++blob)))):=by rw[jq,hN,he1,he2,he3,hS,hE,QP,hV]
   have hpl:(pre++ec e).length=aI e:=by have:=qw e;rw[aP];omega
   have hz2:bj (e1 -e)=ec e++bj (6+12*E.length):=by rw[Mn,<-pV];congr 1;omega
   have hfin:∀post':H1 UInt8,L=(pre++(bj (e1 -e)++post')).length->DN w no L L o (aA cd Sp) (aA jz sh) ((no+1+gh (aS subs):Nat):Int) ((pre++(bj (e1 -e)++post')).map bh) (E.flatMap bR)=
    some ((aI e:Int),L,L,o,aA cd Sp,aA jz sh,((no+1+gh (aS subs):Nat):Int),(pre++(ec e++(kW o (gK E) 0++post'))).map bh):=by
    intro post' hLp;have hb:pre++(bj (e1 -e)++post')=(pre++ec e)++(bj (6+12*E.length)++post'):=by rw[hz2];simp
    have:=aaV (w:=w) (by omega) hEap hEne hEo (by omega) (by omega) (A:=A) (B:=dw no e1 tags++(gq (no+1) ei (aS subs)++(bS++B))) (x:=⟨2,no,0,aI e,6+12*N⟩) (by rw[<-hSp1];exact tP) (by rw[<-hSp1];exact vy) (no:Int) (λy hy=>by
     have:=hA y hy;unfold mF;have:(y.dir==(no:Int))=false:=by simp;omega
     rw[this];simp) (by simp[mF]) (pre++ec e) post' hpl.symm (L:=L) (by rw[<-hb];exact hLp) (by omega) ho (aA jz sh) ((no+1+gh (aS subs):Nat):Int)
    rw[<-hSp1,<-hb,hpl] at this;rw[this];simp
   by_cases hb0:blob.length=0
   ·rw[ay hb0] at hend hbS;have hB0:hU S fi blob=[]:=by unfold hU;rw[ay hb0]
    rw[hB0,dP] at hE2;have e7:ak 0 (Int.ofNat blob.length)=false:=by rw[hb0];rfl
    simp only[e7,aD];rw[hE2,hbD,ay hb0];refine(hfin _ (by rw[hlenL];simp only[aP,jk] at*;omega)).trans ?_;rw[show D -fi=0 by omega];simp only[bj,List.replicate_zero,fy,dP,ed]
    congr 9
    omega
   ·rw[aq hb0] at hend hbS;have hB0:hU S fi blob=[⟨S.at_,4,1,aI fi⟩,⟨S.cG,4,1,blob.length⟩]:=by unfold hU;rw[aq hb0]
    have e7:ak 0 (Int.ofNat blob.length)=true:=by simp;omega
    have hpf:=qw fi;simp only[e7,aC];have hSpi:Sp=(A++(⟨2,no,0,aI e,6+12*N⟩::(dw no e1 tags++gq (no+1) ei (aS subs))))++⟨4,no,0,aI fi,blob.length⟩::B:=by rw[hSp1,<-hbS];simp
    have hq:=O0 (w:=w) (A:=A++(⟨2,no,0,aI e,6+12*N⟩::(dw no e1 tags++gq (no+1) ei (aS subs)))) (B:=B) (x:=⟨4,no,0,aI fi,blob.length⟩) (by rw[<-hSpi];exact tP) (by rw[<-hSpi];exact vy) 4 (no:Int) 0 (λy hy=>by
     unfold mF;rcases fQ.1 hy with hy|hy
     ·have:=hA y hy;have:(y.dir==(no:Int))=false:=by simp;omega
      rw[this];simp
     ·rcases cX.1 hy with rfl|hy
      ·rfl
      ·rcases fQ.1 hy with hy|hy
       ·rw[(CU hy).1];rfl
       ·rw[<-Iq] at hy;have:=(PF hy).1;have:(y.dir==(no:Int))=false:=by simp;omega
        rw[this];simp) (by simp[mF])
    rw[<-hSpi] at hq;rw[hq];simp only[aB,bH];have hbuf:pre++(bj (e1 -e)++(V++mR o sh S ei (aS subs)++(bj (D -fi)++post)))=(pre++(bj (e1 -e)++(V++mR o sh S ei (aS subs)++ec fi)))++(bj blob.length++post):=by
     have:bj (D -fi)=ec fi++bj blob.length:=by rw[Mn,<-pV];congr 1;omega
     rw[this];simp
    have hpl2:(pre++(bj (e1 -e)++(V++mR o sh S ei (aS subs)++ec fi))).length=aI fi:=by simp only[aP,jk] at*;omega
    rw[hbuf];have hcp:=JM (pre++(bj (e1 -e)++(V++mR o sh S ei (aS subs)++ec fi))) blob (bj blob.length) post (jk _) (L:=L) (by rw[hlenL];simp only[aP,jk] at*;omega) (λcs=>ob (uv w S.at_ (aI fi:Int)) λ(x144:Int×Int×Int×Int)=>ar (ah blob) λ(x145:Nat)=>ob (uv w S.cG (Int.ofNat x145)) λ(x146:Int×Int×Int×Int)=>
     ob (Cw w [Value.int IntKind.i64 x144.fst,Value.int IntKind.i64 x144.snd.fst,Value.int IntKind.i64 x144.snd.snd.fst,Value.int IntKind.i64 x144.snd.snd.snd,Value.int IntKind.i64 x146.fst,Value.int IntKind.i64 x146.snd.fst,Value.int IntKind.i64 x146.snd.snd.fst,Value.int IntKind.i64 x146.snd.snd.snd] ((eK o e1 tags++oH ei (aS subs)).flatMap bR)) λ(x147:H1 Qu)=>DN w no L L o (aA cd Sp) (aA jz sh) ((no+1+gh (aS subs):Nat):Int) cs x147)
    rw[hpl2] at hcp;refine Eq.trans hcp ?_;unfold uv;simp only[aB,cN];have hlen2:(eK o e1 tags++oH ei (aS subs)).length<=70000:=by have:=bX List.length hE2;rw[aP] at this;omega
    have h260:=akJ w ⟨S.at_,4,1,aI fi⟩ ⟨S.cG,4,1,blob.length⟩ ((eK o e1 tags++oH ei (aS subs)).flatMap bR) (by rw[cy kZ];omega);simp only[bO] at h260⊢;rw[h260];simp only[aB];have hEc:(eK o e1 tags++oH ei (aS subs)).flatMap bR++(bR ⟨S.at_,4,1,aI fi⟩++bR ⟨S.cG,4,1,blob.length⟩)=E.flatMap bR:=by rw[<-hE2,hB0];simp[fo]
    rw[hEc];have hbuf2:(pre++(bj (e1 -e)++(V++mR o sh S ei (aS subs)++ec fi)))++(blob++post)=pre++(bj (e1 -e)++(V++(mR o sh S ei (aS subs)++(ec fi++(blob++post))))):=by simp
    rw[hbuf2,hbD,aq hb0];refine(hfin _ (by rw[hlenL];simp only[aP,jk] at*;omega)).trans ?_;simp only[ed]
    congr 9
    omega
  ·omega
theorem Rf{w m:Nat}{sh:H1 bg}{o:Int}{L:Nat}{Sp:H1 bo}(H:zS w m sh o L Sp)(z:Qu->Qu->Qu->Int->Nat->Nat->Int->Qu->Qu->Int->H1 Qu->Zh (Int×Nat×Nat×Int×Qu×Qu×Int×H1 Qu)):
 ∀(n:Nat)(d:aV)(s:Nat),gj d<=n->s<sh.length->iG m d->cM sh s d=true->zM sh o L Sp (mh z (Is w) n) d s
 |0,d,s,h,_,_,_=>by obtain⟨tags,subs,blob⟩:=d;unfold gj at h;omega
 |n+1,d,s,h,hs,hd,hh=>by refine alV H _ d s hs hd hh ?_;obtain⟨tags,subs,blob⟩:=d;intro p hp k hk hpk;have hp:p∈aS subs:=hp;have:=DR p hp;unfold gj at h;exact Rf H z n p.2 k (by omega) hk (xi hd.2.2.2.2 p hp) hpk
theorem akw{w m:Nat}{sh:H1 bg}{o:Int}{L:Nat}{Sp:H1 bo}(H:zS w m sh o L Sp)(d:aV)(s:Nat)(hs:s<sh.length)(hd:iG m d)(hh:cM sh s d=true)(kb:gj d<=w):zM sh o L Sp (Hf w) d s:=Rf H _ w d s kb hs hd hh
theorem aal(o:Int)(sh:H1 bg)(s next e:Nat)(d:aV)(hh:cM sh s d=true):∃a b,jq o sh s next e d=a++(aY next 4 o++b)/\e+a.length=aI e+(2+12*bE d)/\∀n,jq o sh s n e d=a++(aY n 4 o++b):=by
 obtain⟨tags,subs,blob⟩:=d;have hl:∀E,E=gK (eK o (aI e+(6+12*bE (.mk tags subs blob))) tags++(iJ (cn (aI e+(6+12*bE (.mk tags subs blob))) tags) subs++hU (aR sh s) (eH (cn (aI e+(6+12*bE (.mk tags subs blob))) tags) subs) blob))->E.length=bE (.mk tags subs blob):=by
  rintro E rfl
  rw[AN,aP,aP,tK,Ax,DY];show _=tags.length+cj subs+(if blob.length=0 then 0 else 2);omega
 obtain⟨E,hE⟩:∃E,gK (eK o (aI e+(6+12*bE (.mk tags subs blob))) tags++(iJ (cn (aI e+(6+12*bE (.mk tags subs blob))) tags) subs++hU (aR sh s) (eH (cn (aI e+(6+12*bE (.mk tags subs blob))) tags) subs) blob))=E:=⟨_,rfl⟩;refine⟨ec e++(aY E.length 2 o++E.flatMap (jf o)),gH o (aI e+(6+12*bE (.mk tags subs blob))) tags++(jW o sh (aR sh s) (cn (aI e+(6+12*bE (.mk tags subs blob))) tags) subs++(if blob.length=0 then[] else ec (eH (cn (aI e+(6+12*bE (.mk tags subs blob))) tags) subs)++blob)),by rw[jq,hE];unfold kW;simp,?_,?_⟩
 ·have:=qw e;simp only[aP,eL,xD,(hl E hE.symm)];omega
 ·intro n;rw[jq,hE];unfold kW;simp
theorem ZT{o:Int}(ho:o=1\/o=2):aY 0 4 o=bj 4:=by rcases ho with rfl|rfl<;>rfl
theorem aa9:∀{ds:H1 aV}{e:Nat},ds≠[]->aI e+6<=eG e ds
 |[],_,h=>by grind
 |d::ds,e,_=>by rw[eG];have:=Mz (d:=d) (e:=e);have:=qm ds (bB e d);omega
noncomputable def P4(w:Nat):Qu->Int->Int->Qu->Int->Int->Nat->Nat->Int->Qu->Qu->Int->H1 Qu->Zh (Qu×Int):=
 lp (λ(x55:Qu)(x56 x57:Int)(x58:Qu)(x59 x60:Int)(x61 x62:Nat)(x63:Int)(x64 x65:Qu)(x66:Int)(x67:H1 Qu)=>none) (λ(x68:Qu->Int->Int->Qu->Int->Int->Nat->Nat->Int->Qu->Qu->Int->H1 Qu->Zh (Qu×Int))(x69:Qu)(x70 x71:Int)(x72:Qu)(x73 x74:Int)(x75 x76:Nat)(x77:Int)(x78 x79:Qu)(x80:Int)(x81:H1 Qu)=>bif ak x74 x73 then aE x74 λ(x82:Nat)=>aJ 3 x82 x72 λ(x83:H1 Qu)=>af x83 λ(x84:Qu)(x85:H1 Qu)=>af x85 λ(x86:Qu)(x87:H1 Qu)=>af x87 λ(x88:Qu)(x89:H1 Qu)=>ob (Hf w x84 x86 x88 x70 x75 x76 x77 x78 x79 x80 x81) λ(x90:Int×Nat×Nat×Int×Qu×Qu×Int×H1 Qu)=>ob (sW w x71 x90.fst 4 x90.snd.fst x90.snd.snd.fst x90.snd.snd.snd.fst x90.snd.snd.snd.snd.fst x90.snd.snd.snd.snd.snd.fst x90.snd.snd.snd.snd.snd.snd.fst x90.snd.snd.snd.snd.snd.snd.snd) λ(x91:Nat×Nat×Int×Qu×Qu×Int×H1 Qu)=>ob (kP w x84 x86 x88) λ(x92:Int)=>aE x70 λ(x93:Nat)=>aJ 4 x93 x69 λ(x94:H1 Qu)=>af (List.drop 3 x94) λ(x95:Qu)(x96:H1 Qu)=>aw IntKind.i64 x95 λ(x97:Int)=>x68 x69 x97 (ag IntKind.i64 ((ag IntKind.i64 (Int.add x90.fst 2)).add (ag IntKind.i64 (Int.mul 12 x92)))) x72 x73 (ag IntKind.i64 (x74.add 1)) x91.fst x91.snd.fst x91.snd.snd.fst x91.snd.snd.snd.fst x91.snd.snd.snd.snd.fst x91.snd.snd.snd.snd.snd.fst x91.snd.snd.snd.snd.snd.snd else some (ae x75 (List.drop 0 x81),0)) w
theorem amA{w m:Nat}{sh:H1 bg}{o:Int}{L:Nat}{Sp:H1 bo}(H:zS w m sh o L Sp)(ds:H1 aV)(iM:ds.length<=m)(hd:oC m ds)(kb:kV ds<=w)(hh:gE sh 0 ds=true)(hs0:0<sh.length)(hds:ds≠[])(hSp:Sp=fD ⟨o,ds⟩)(tQ:gZ ds<2^39)(hLe:L=eG 8 ds)(pre0:H1 UInt8)(hp0:pre0.length=4):
 P4 w (ct sh) 0 (pre0.length:Int) (db ds) ds.length 0 L L o (aA cd Sp) (ct sh) 0 ((pre0++(bj 4++([]++bj (L -8)))).map bh)=some (ah (pre0++(aY 8 4 o++chainB o sh 0 8 ds)),0):=by
 have H0:=H;obtain⟨hm,hw,hsh,hl,ho,hLt,tP,vy,AK⟩:=H;have h8:=qm ds 8;unfold P4 db;have key:∀(e:Nat)(rest:H1 aV),(if rest.isEmpty then 0 else aI e)<4294967296\/True:=λ_ _=>.inr trivial;refine nQ (σ:=Nat×Nat×Int×H1 UInt8×H1 UInt8×H1 bo) (ev:=λi s (g:Qu->Int->Int->Qu->Int->Int->Nat->Nat->Int->Qu->Qu->Int->H1 Qu->Zh (Qu×Int))=>g (ct sh) s.2.2.1 (s.2.2.2.1.length:Int) (aA dr ds) ds.length i L L o (aA cd Sp) (ct sh) (s.2.1 :Nat) ((s.2.2.2.1 ++(bj 4++(s.2.2.2.2.1 ++bj (L -s.1)))).map bh))
  (Inv:=λi s=>eG s.1 (ds.drop i)=L/\s.2.1 +gZ (ds.drop i)=gZ ds/\gE sh s.2.2.1 (ds.drop i)=true/\s.2.2.1 <sh.length/\s.2.2.2.1.length+4+s.2.2.2.2.1.length=s.1 /\s.2.2.2.2.2 ++jA s.2.1 s.1 (ds.drop i)=Sp/\(∀y∈s.2.2.2.2.2,y.dir<(s.2.1 :Int))/\
   s.2.2.2.1 ++(aY (if(ds.drop i).isEmpty then 0 else aI s.1) 4 o++(s.2.2.2.2.1 ++chainB o sh s.2.2.1 s.1 (ds.drop i)))=pre0++(aY 8 4 o++chainB o sh 0 8 ds)) ds.length (8,0,0,pre0,[],[⟨1,-1,0,0,8⟩]) ?_ ?_ ?_ (by omega)
 ·refine⟨hLe.symm,by simp,hh,by simp only;omega,by simp only[hp0,List.length_nil],by rw[hSp];rfl,λy hy=>by rw[nt.1 hy];show(-1:Int)<((0:Nat):Int);decide,?_⟩;rw[er];have:ds.isEmpty=false:=by cases ds with
   |nil=>exact absurd rfl hds
   |cons _ _=>rfl
  simp only[this,kB,gR,fy];rfl
 ·rintro i g ⟨e,no,s,P,M,R⟩ hi ⟨h1,h2,h3,h4,h5,h6,h7,h9⟩
  simp only at h1 h2 h3 h4 h5 h6 h7 h9;have hmem:=cx hi;rw[cW hi] at h1 h2 h3 h6 h9;rw[eG] at h1;rw[gZ] at h2;rw[jA] at h6;rw[chainB] at h9;simp only[gE,bt,cm] at h3;obtain⟨k1,k2,k3⟩:=h3;have hs:(s.toNat:Int)=s:=mI k1;have hst:s.toNat<sh.length:=by omega
  have hnx:=hsh.next s.toNat hst;have hge:=qm (ds.drop (i+1)) (bB e ds[i]);have hge2:=Ar ds[i] e;have hpos:=Mz (d:=ds[i]) (e:=e);have hev:=nL e;have hbl:=tD o sh ds[i] s.toNat 0 e k2;obtain⟨a,b,q1,q2,q3⟩:=aal o sh s.toNat 0 e ds[i] k2;have hcp:=aaF ds[i];have h10:=DQ hmem;have e1:((i:Int)<(ds.length:Int)):=by omega
  refine⟨(bB e ds[i],no+dL ds[i],(aR sh s.toNat).next,P++(aY (aI e) 4 o++(M++a)),b,R++gp no e ds[i]),⟨h1,by simp only;omega,k3,by simp only;omega,?_,by rw[<-h6];simp,λy hy=>?_,?_⟩,?_⟩
  ·simp only[aP,eL];have:=bX List.length q1;simp only[aP,eL] at this;omega
  ·rcases fQ.1 hy with hy|hy
   ·have:=h7 y hy;simp only;omega
   ·have:=PE hy;simp only;omega
  ·rw[<-h9];have:qs e ds[i] (ds.drop (i+1))=if(ds.drop (i+1)).isEmpty then 0 else aI (bB e ds[i]):=rfl;rw[q3,this];simp only[List.isEmpty_cons,kB,gR,ed]
  ·simp only[aU,e1,bd,aC,bH];rw[bu kX hi];simp only[Ao,bc];have hzz:bj (L -e)=bj (bB e ds[i] -e)++bj (L -bB e ds[i]):=by rw[<-pV];congr 1;omega
   have hLl:L=((P++(bj 4++M))++(bj (bB e ds[i] -e)++bj (L -bB e ds[i]))).length:=by simp only[aP,jk];omega
   have hW:=akw H0 ds[i] s.toNat hst (hd _ hmem) k2 (by omega) no e R (jA (no+dL ds[i]) (bB e ds[i]) (ds.drop (i+1))) (P++(bj 4++M)) (bj (L -bB e ds[i])) h7 (by simp only[aP,jk];omega) h6.symm hLl (by omega);have hb1:P++(bj 4++(M++bj (L -e)))=(P++(bj 4++M))++(bj (bB e ds[i] -e)++bj (L -bB e ds[i])):=by rw[hzz];simp
   rw[hs] at hW;rw[hb1,hW];simp only[aB];have hb2:(P++(bj 4++M))++(jq o sh s.toNat 0 e ds[i]++bj (L -bB e ds[i]))=P++(bj 4++(M++(jq o sh s.toNat 0 e ds[i]++bj (L -bB e ds[i])))):=by simp
   rw[hb2,OJ (by omega) P (bj 4) (M++(jq o sh s.toNat 0 e ds[i]++bj (L -bB e ds[i]))) (aI e) 4 (.inr rfl) (by omega) ho _ _ _ (jk 4) L (by simp only[aP,jk];omega) (by omega) (P.length:Int) rfl (4:Int) rfl ((aI e:Nat):Int) rfl];simp only[aB];have h203:kP w (dT ds[i]) (dS ds[i]) (dB ds[i])=some (bE ds[i]:Int):=by have hsm:=hd _ hmem;generalize ds[i]=d at hsm⊢;obtain⟨tags,subs,blob⟩:=d;have hsm:tags.length<=m/\cj subs<=m/\blob.length<=m/\(∀t∈tags,t.data.length<=m)/\iH m subs:=hsm;exact Hg w tags subs blob (by omega)
   rw[h203];simp only[aB,cf,pH];rw[lZ k1];have hS:sh[s.toNat]=aR sh s.toNat:=by unfold aR;rw[cw hst];rfl
   have tg:∀(S:bg)(r:H1 Qu),(jz S++r).drop 3=.int .i64 S.next::r:=λ_ _=>rfl;have hsv:ct sh=aA jz sh:=rfl;rw[hsv,bu zk hst,hS];simp only[tg,bc,bK];have hen:bE ds[i]<=65535:=by generalize ds[i]=d at k2;obtain⟨tags,subs,blob⟩:=d;simp only[cM,bt,cm] at k2;exact k2.1.2
   rw[aQ (n:=12*(bE ds[i]:Int)) (by omega) (by omega),aQ (n:=((aI e:Nat):Int)+2) (by omega) (by omega),aQ (n:=((aI e:Nat):Int)+2+12*(bE ds[i]:Int)) (by omega) (by omega),aQ (n:=(i:Int)+1) (by omega) (by omega)];have ek:((aI e:Nat):Int)+2+12*(bE ds[i]:Int)=(((P++(aY (aI e) 4 o++(M++a))).length:Nat):Int):=by simp only[aP,eL];omega
   rw[ek,q1,ZT ho];simp only[ed];rfl
 ·rintro g ⟨e,no,s,P,M,R⟩ ⟨h1,h2,h3,h4,h5,h6,h7,h9⟩
  simp only[rN,eG,chainB,dP,List.isEmpty_nil,ea] at h1 h5 h9;have e1:¬((ds.length:Int)<(ds.length:Int)):=by omega
  simp only[aU,e1,bM,aD,er];rw[<-h9,ZT ho,show L -e=0 by omega];simp only[bj,List.replicate_zero,dP];rw[vc _ _ (by simp only[aP,uK];omega)]
structure pj(w m:Nat)(sh:List bg)(o:Int)(ds:List aV):Prop where
 hm:m<2^28
 hw:2*m+1000<=w
 AK:70000<=w
 ok:jc sh
 tO:rC w (ct sh)=some true
 s0:0<sh.length
 bP:∀s,s<sh.length->(aR sh s).bP.length<=m
 ho:o=1\/o=2
 cA:ds≠[]
 iM:ds.length<=m
 hd:oC m ds
 kb:kV ds<=w
 hh:gE sh 0 ds=true
 he:eG 8 ds<=1000000000
 vy:(fD ⟨o,ds⟩).length<w
 KI:(fD ⟨o,ds⟩).length*5<=1000000000
 tQ:gZ ds<2^39
 xK:wC w o (db ds)=some true
theorem pj.cG{w m:Nat}{sh:H1 bg}{o:Int}{ds:H1 aV}(T:pj w m sh o ds):sV w o (db ds)=some (eG 8 ds:Int):=by have:=T.he;have:=T.tQ;have:=T.hw;exact ajY T.hm (by omega) o ds T.xK T.kb T.iM (by omega) T.KI (by omega) T.hd
theorem pj.laid{w m:Nat}{sh:H1 bg}{o:Int}{ds:H1 aV}(T:pj w m sh o ds):yU w o (db ds)=some (aA cd (fD ⟨o,ds⟩),true):=by have:=T.he;have:=T.tQ;have:=T.hw;rw[Ys T.hm (by omega) o ds T.xK T.kb T.iM (by omega) T.KI (by omega) T.hd,ay (by omega)]
theorem pj.check{w m:Nat}{sh:H1 bg}{o:Int}{ds:H1 aV}(T:pj w m sh o ds):ur w o (db ds) (ct sh)=some 0:=by have:=T.hw;have:=qm ds 8;exact akv T.hm (by omega) sh T.ok T.tO T.s0 T.bP T.ho ds T.cA T.iM T.hd T.kb T.hh (by omega) T.cG
theorem V5(v:H1 UInt8)(n:Nat)(pre:H1 UInt8)(hv:v.length=2)(hp:pre.length=2){L:Nat}(hL:L=2+n):aX 0 (List.take (Nat.min 2 L*1) (v.map bh)) ((pre++bj n).map bh)=(v++bj n).map bh:=by
 rw[eQ (by grind)];have:=MJ [] v pre (bj n) (by omega) 0 rfl
 grind
theorem Yf{w m:Nat}{sh:H1 bg}{o:Int}{ds:H1 aV}(T:pj w m sh o ds):Ck w o (db ds) (ct sh)=some (ah (eM ⟨o,ds⟩ sh),0):=by
 have t1:=T.he;have t2:=T.vy;have t3:=T.KI;have t4:=T.AK;have hpos:=aa9 (e:=8) T.cA;have hev:aI 8=8:=rfl;unfold Ck Gb NA;rw[T.check,T.cG,T.laid];simp only[aB,show aj 0 0=true from rfl,bW,aD,bH];obtain⟨L,hL⟩:∃L,eG 8 ds=L:=⟨_,rfl⟩;rw[hL] at t1 hpos⊢;have r1:L.ble L=true:=by rw[iq];exact aM _
 have r2:L.ble 1000000000=true:=by rw[iq];exact t1
 have e2:Nat.min 2 L=2:=by show min _ _=_;omega
 have hrep:rep L (Value.int IntKind.u8 0).cells.toList=(bj L).map bh:=ue L;have hz:bj L=bj 2++bj (L -2):=by rw[<-pV];congr 1;omega
 have r3:∀v:H1 UInt8,v.length=L->(0+Nat.min 2 L*1).ble (v.map bh).length=true:=by intro v hv;rw[e2,cH,hv,iq];omega
 simp only[r1,r2,jB,aC,hrep,nv,eY];rw[r3 _ (jk L),aC];have m1:List.map (λ(b:UInt8)=>Value.int IntKind.u8 (Int.ofNat b.toNat)) (ByteArray.mk #[77,77]).data.toList=[(77:UInt8),77].map bh:=rfl;have m2:List.map (λ(b:UInt8)=>Value.int IntKind.u8 (Int.ofNat b.toNat)) (ByteArray.mk #[73,73]).data.toList=[(73:UInt8),73].map bh:=rfl;rw[m1,m2,hz,V5 [77,77] (L -2) (bj 2) rfl rfl (by omega)];have hz2:bj (L -2)=bj 2++bj (L -4):=by rw[<-pV];congr 1;omega
 have hz3:bj (L -4)=bj 4++([]++bj (L -8)):=by rw[fy,<-pV];congr 1;omega
 have W:zS w m sh o L (fD ⟨o,ds⟩):=⟨T.hm,T.hw,T.ok,T.bP,T.ho,by omega,by omega,t2,t4⟩;have fin:∀sg:H1 UInt8,sg.length=2->(ob (sW w 2 42 2 L L o (aA cd (fD ⟨o,ds⟩)) (ct sh) 0 ((sg++bj (L -2)).map bh)) λ(x53:Nat×Nat×Int×Qu×Qu×Int×H1 Qu)=>ar (db ds) λ(x54:Nat)=>P4 w (ct sh) 0 4 (db ds) (Int.ofNat x54) 0 x53.fst x53.snd.fst x53.snd.snd.fst x53.snd.snd.snd.fst x53.snd.snd.snd.snd.fst x53.snd.snd.snd.snd.snd.fst x53.snd.snd.snd.snd.snd.snd)=some (ah (sg++(aY 42 2 o++(aY 8 4 o++chainB o sh 0 8 ds))),0):=by
  intro sg hsg;rw[hz2,OJ (by omega) sg (bj 2) (bj (L -4)) 42 2 (.inl rfl) (by decide) T.ho _ _ 0 (jk 2) L (by simp only[aP,jk];omega) (by omega) (2:Int) (by omega) (2:Int) rfl (42:Int) rfl];simp only[aB];unfold db;rw[bU];have:=amA W ds T.iM T.hd T.kb T.hh T.s0 T.cA rfl T.tQ hL.symm (sg++aY 42 2 o) (by rw[aP,eL,hsg]);have e4:(((sg++aY 42 2 o).length:Nat):Int)=4:=by rw[aP,eL,hsg];rfl
  rw[e4] at this;unfold db at this;rw[hz3];simp at this⊢;exact this
 rcases T.ho with ho|ho
 ·have hb:=V5 [73,73] (L -2) [77,77] rfl rfl (L:=L) (by omega);simp only[ho,show aj 1 1=true from rfl,aC];have r4:(0+Nat.min 2 L*1).ble (([77,77]++bj (L -2)).map bh).length=true:=r3 _ (by simp[jk];omega);have f:=fin [73,73] rfl;rw[ho] at f;simp only[r4,hb,aC];refine Eq.trans ?_ (f.trans ?_)
  ·rfl
  ·unfold eM;rfl
 ·simp only[ho,show aj 2 1=false from rfl,aD];have f:=fin [77,77] rfl;rw[ho] at f;refine Eq.trans ?_ (f.trans ?_)
  ·rfl
  ·unfold eM;rfl
abbrev rU:=Nat×Nat×H1 Nat×Nat
def W8(e:rU):Qu:=.agg #[.int .i64 e.1,.int .i64 e.2.1]
def Nb(e:rU):Qu:=.agg #[ae e.2.2.1.length (e.2.2.1.map λt=>.int .i64 (Int.ofNat t)),.int .i64 e.2.2.2]
theorem ZI:∀l:H1 rU,zy (l.map Na)=some (l.map λe=>(W8 e,Nb e))
 |[]=>rfl
 |e::l=>by show ob (zy (l.map Na)) _=_;rw[ZI l];rfl
theorem acQ(a b:Int)(e:rU):ju [.int .i64 a,.int .i64 b] [.int .i64 e.1,.int .i64 e.2.1]=some (decide (a=(e.1 :Int)/\b=(e.2.1 :Int))):=by
 unfold ju;unfold ju;unfold ju;by_cases h1:a=(e.1 :Int)
 ·by_cases h2:b=(e.2.1 :Int)
  ·simp_all
  ·simp_all
 ·simp[h1]
def qC(a b:Int)(e:rU):Bool:=decide (a=(e.1 :Int)/\b=(e.2.1 :Int))
theorem RT(a b:Int):∀(l:H1 rU)(i:Nat),∃j,uY [.int .i64 a,.int .i64 b] (l.map λe=>(W8 e,Nb e)) i=some ((l.find? (qC a b)).map λe=>(j,Nb e))
 |[],i=>⟨0,rfl⟩
 |e::l,i=>by
  rw[ij,List.find?_cons];show∃j,(ob (ju [.int .i64 a,.int .i64 b] [.int .i64 e.1,.int .i64 e.2.1]) λq=>cond q _ _)=_;rw[acQ];show∃j,cond (qC a b e) _ _=_;cases h:qC a b e with
  |true=>simp
  |false=>obtain⟨j,hj⟩:=RT a b l (i+1);exact⟨j,hj⟩
def oU:H1 rU:=[(0,256,[3,4],1),(0,257,[3,4],1),(0,259,[3],1),(0,274,[3],1),(0,296,[3],1),(0,531,[3],1),(0,270,[2],0),(0,271,[2],0),(0,272,[2],0),(0,305,[2],0),(0,315,[2],0),(0,33432,[2],0),(0,306,[2],20),(0,282,[5],1),(0,283,[5],1),(1,256,[3,4],1),(1,257,[3,4],1),(1,259,[3],1),(1,274,[3],1),(1,296,[3],1),(1,531,[3],1),(1,270,[2],0),(1,271,[2],0),(1,272,[2],0),(1,305,[2],0),(1,315,[2],0),(1,33432,[2],0),(1,306,[2],20),(1,282,[5],1),(1,283,[5],1),(2,33434,[5],1),(2,33437,[5],1),(2,37378,[5],1),(2,37386,[5],1),(2,34850,[3],1),(2,37383,[3],1),(2,37384,[3],1),(2,37385,[3],1),(2,40961,[3],1),(2,41986,[3],1),(2,36864,[7],4),(2,37121,[7],4),(2,40960,[7],4),(2,37377,[10],1),(2,37380,[10],1),(2,36867,[2],20),(2,36868,[2],20),(2,40962,[3,4],1),(2,40963,[3,4],1),(2,34855,[3],0),(2,37510,[7],0),(2,37520,[2],0),(2,41728,[7],1),(2,42016,[2],33),(2,42034,[5],4),(3,0,[1],4),(3,5,[1],1),(3,6,[5],1),(3,1,[2],2),(3,3,[2],2),(3,2,[5],3),(3,4,[5],3),(3,7,[5],3),(3,18,[2],0),(3,29,[2],11),(4,1,[2],4),(4,2,[7],4),(5,45056,[7],4),(5,45313,[4],1),(5,45569,[4],1),(5,45570,[4],1),(5,45572,[5],1),(5,45574,[5],1),(5,45573,[10],1),(5,45576,[10],1)]
theorem akl(w:Nat):Oy w=some (yw oU):=rfl
def WZ(e:rU):(Int×Int)×H1 Int×Int:=(((e.1 :Int),(e.2.1 :Int)),e.2.2.1.map (λn:Nat=>(n:Int)),(e.2.2.2 :Int))
theorem aiw:W9=oU.map WZ:=by decide
theorem aiu(d t:Int):Nc d t=(oU.find? (qC d t)).map λe=>(e.2.2.1.map (λn:Nat=>(n:Int)),(e.2.2.2 :Int)):=by
 unfold Nc;rw[aiw];generalize oU=l;induction l with
 |nil=>rfl
 |cons e l ih=>
  rw[ij,List.find?_cons];unfold WZ;rw[List.lookup_cons];have:((d,t)==(((e.1 :Int),(e.2.1 :Int))))=qC d t e:=by
   unfold qC
   grind
  rw[this];cases qC d t e with
  |true=>rfl
  |false=>exact ih
theorem TI{α:Type}[BEq α](l:H1 α)(x:α):(dD (λy=>x==y) l<0)=(l.any (λy=>x==y)=false):=by rw[xL];simp
theorem ak0{w:Nat}(l:H1 Int)(x:Int)(hl:l.length<2^40)(hw:l.length<w):O4 w (aA cF l) x=some (dD (λy=>x==y) l):=by
 refine mX l (λy=>x==y) (ev:=λi (g:Qu->Int->Int->Int->Zh Int)=>g (aA cF l) x l.length i) ?_ ?_ hw
 ·intro i g h;simp;rw[bu mg h];simp[cF];rw[aQ (by omega) (by omega)]
  grind
 simp
theorem akC{w:Nat}(l:H1 Int)(x:Int)(hl:l.length<2^40)(hw:l.length<w):Hn w (aA cF l) x=some (l.contains x):=by
 unfold Hn;rw[ak0 l x hl hw]
 congr 1
 have:=TI l x;rw[(show l.contains x=l.any (λy=>x==y) from by rw[List.contains_eq_any_beq])];cases h:l.any (λy=>x==y) with
 |true=>simp_all
 |false=>simp_all
def Bn(p:Int×Int):H1 Qu:=[.int .i64 p.1,.int .i64 p.2]
theorem ahf(p:Int×Int):(Bn p).length=2:=rfl
theorem alb{w:Nat}(l:H1 (Int×Int))(a b:Int)(hl:l.length<2^40)(hw:l.length<w):Pf w (aA Bn l) a b=some (dD (λy=>(a,b)==y) l):=by
 refine mX l (λy=>(a,b)==y) (ev:=λi (g:Qu->Int->Int->Int->Int->Zh Int)=>g (aA Bn l) l.length i a b) ?_ ?_ hw
 ·intro i g h;have e1:((i:Int)<(l.length:Int)):=by omega
  simp only[aU,e1,bH];rw[bu ahf h];simp only[(show∀(x:Int×Int)(r:H1 Qu),Bn x++r=.int .i64 x.1 ::.int .i64 x.2 ::r fromλ_ _=>rfl),cf];rw[aQ (by omega) (by omega)];have hb:((a,b)==l[i])=(decide (a=l[i].1)&&decide (b=l[i].2)):=by rw[iD,beq_iff_eq,bt,cm,cm,Prod.ext_iff]
  rw[hb];by_cases e2:a=l[i].1
  ·by_cases e3:b=l[i].2
   ·simp
   ·simp
  ·simp
 ·intro g;simp
theorem akB{w:Nat}(hw:20<=w)(a b:Int):Hm w a b=some (pO.contains (a,b)):=by
 unfold Hm O3;have e:ae 8 (List.drop 0 [Value.int IntKind.i64 0,Value.int IntKind.i64 34665,Value.int IntKind.i64 0,Value.int IntKind.i64 34853,Value.int IntKind.i64 1,Value.int IntKind.i64 513,Value.int IntKind.i64 1,Value.int IntKind.i64 514,Value.int IntKind.i64 2,Value.int IntKind.i64 37500,Value.int IntKind.i64 2,Value.int IntKind.i64 40965,Value.int IntKind.i64 5,Value.int IntKind.i64 45057,Value.int IntKind.i64 5,Value.int IntKind.i64 45058])=aA Bn pO:=rfl;rw[e,alb _ _ _ (by decide) (by show 8<w;omega)]
 congr 1
 have:=TI pO (a,b);rw[(show pO.contains (a,b)=pO.any (λy=>(a,b)==y) from by rw[List.contains_eq_any_beq])];cases h:pO.any (λy=>(a,b)==y) with
 |true=>simp_all
 |false=>simp_all
theorem aiv{d t:Int}{e:rU}(h:oU.find? (qC d t)=some e):e.2.2.1.length<=2:=by
 have:∀e∈oU,e.2.2.1.length<=2:=by decide
 grind
theorem akm{w:Nat}(hw:20<=w)(d:Int)(t:aN)(hl:t.data.length<2^40):Cq w (yw oU) d t.tag t.ty t.az (ah t.data)=some (sB d t):=by
 unfold Cq sB;simp only[aU,qT];by_cases h1:d<0
 ·rw[ay h1];have:¬(0<=d):=by omega
  simp[this]
 rw[aq h1];by_cases h2:d<6
 case neg=>simp[h2]
 by_cases h3:t.tag<0
 ·rw[ay h3];have:¬(0<=t.tag):=by omega
  simp[this]
 rw[aq h3];by_cases h4:65535<t.tag
 ·rw[ay h4];have:¬(t.tag<=65535):=by omega
  simp[this]
 rw[aq h4];have h5:0<=d/\d<6/\0<=t.tag/\t.tag<=65535:=by omega
 rw[akB hw,yY _ _ _ _ hl];simp only[aB,h5,and_self,bd];cases hr:pO.contains (d,t.tag) with
 |true=>rfl
 |false=>
  cases hm:eI t.ty t.az t.data with
  |false=>rfl
  |true=>
   rw[aiu];obtain⟨j,hj⟩:=RT d t.tag oU 0;have hL:∀(zs:H1 Qu)(K:Bool->H1 Qu->Zh Bool),AZ nk.T 402 (yw oU) (.agg (Array.mk [.int .i64 d,.int .i64 t.tag])) zs K=match oU.find? (qC d t.tag) with
    |none=>K false (zs.map zN)
    |some e=>K true [ae e.2.2.1.length (e.2.2.1.map λt=>.int .i64 (Int.ofNat t)),.int .i64 e.2.2.2]:=by
    intro zs K;unfold AZ yw;simp only;rw[ZI];simp;rw[hj];cases oU.find? (qC d t.tag) with
    |none=>rfl
    |some e=>rfl
   rw[hL];cases hf:oU.find? (qC d t.tag) with
   |none=>rfl
   |some e=>
    have hle:=aiv hf;simp only[bc,rR];have e1:ae e.2.2.1.length (e.2.2.1.map λt=>Value.int .i64 (Int.ofNat t))=aA cF (e.2.2.1.map (λn:Nat=>(n:Int))):=by
     unfold aA;rw[cH]
     congr 1
     generalize e.2.2.1 =l;induction l with
     |nil=>rfl
     |cons a l ih=>rw[ij,ij,ih];rfl
    rw[e1,akC _ _ (by rw[cH];omega) (by rw[cH];omega)];cases(e.2.2.1.map (λn:Nat=>(n:Int))).contains t.ty with
    |false=>rfl
    |true=>
     by_cases h0:e.2.2.2 =0
     ·simp[h0]
     ·have h0':¬((e.2.2.2 :Int)=0):=by omega
      rw[(show((e.2.2.2 :Int)==0)=false from by simpa using h0')];simp_all;rfl
theorem WS:∀{l:H1 aN},(∀i (hi:i+1<l.length),l[i].tag<l[i+1].tag)->fP l=true
 |[],_=>rfl
 |[a],_=>rfl
 |a::b::l,h=>by simp[fP];exact⟨h 0 (by simp),WS λi hi=>h (i+1) (by grind)⟩
theorem ais(d:Int)(l:H1 aN):da d l=((List.range l.length).all (λi=>(decide (i=0)||decide ((l[i -1]?.map aN.tag).getD 0<(l[i]?.map aN.tag).getD 0))&&((l[i]?.map (sB d)).getD true))&&decide (0<=d/\d<6)):=by
 unfold da
 congr 1
 rw[iD];simp;constructor
 ·rintro ⟨h1,h2⟩ i hi
  refine⟨?_,?_⟩
  ·by_cases q:i=0
   ·grind
   ·right;rw[cw hi,cw (show i -1<l.length by omega)];exact vZ h1 (by omega) hi
  grind
 ·intro h;refine⟨?_,λx hx=>?_⟩
  ·refine WS λi hi=>?_
   grind
  ·obtain⟨i,hi,rfl⟩:=List.getElem_of_mem hx
   grind
theorem adi{δ:Type}{z:δ}{F:δ->δ}{w:Nat}(m:Nat)(ok:Nat->Bool)(r:Bool)(ev:Nat->δ->Zh Bool)(hs:∀i g,i<m->ev i (F g)=if ok i=true then ev (i+1) g else some false)(he:∀g,ev m (F g)=some r)(hw:m<w):
 ev 0 (lp z F w)=some ((List.range m).all ok&&r):=by
 have key:∀(d i v:Nat),i+d=m->d<v->ev i (lp z F v)=some (((List.range d).all λj=>ok (i+j))&&r):=by
  intro d;induction d with
  |zero=>intro i v hi hv;rw[eU z F (by omega),show i=m by omega,he];rfl
  |succ d ih=>
   intro i v hi hv;rw[eU z F (by omega),hs i _ (by omega),uM];by_cases h:ok i=true
   ·rw[ih (i+1) (v -1) (by omega) (by omega)];simp[h]
    grind
   grind
 grind
theorem ru{w:Nat}(hw:20<=w)(d:Int)(l:H1 aN)(hl:l.length<2^40)(hd:∀t∈l,t.data.length<2^40)(hlw:l.length<w):oi w d (au l)=some (da d l):=by
 unfold oi au;rw[akl,ais];simp only[aB];refine adi l.length _ (decide (0<=d/\d<6)) (ev:=λi (g:Int->Qu->Qu->Qu->Int->Int->Zh Bool)=>g d (aA cC l) (yw oU) (aA cC l) l.length i) ?_ ?_ hlw
 ·intro i g h;have e1:((i:Int)<(l.length:Int)):=by omega
  simp only[aU,e1,aC,bH];rw[bu ig h];have tt:∀(t:aN)(r:H1 Qu),cC t++r=.int .i64 t.tag::.int .i64 t.ty::.int .i64 t.az::ah t.data::r:=λ_ _=>rfl;simp only[tt,bc,bK];rw[akm hw d l[i] (hd _ (cx h)),cw h];simp only[aB,cf,jh,rR];rw[aQ (n:=(i:Int)+1) (by omega) (by omega)];by_cases h0:i=0
  ·have e2:¬((0:Int)<(i:Int)):=by omega
   have e3:decide (i=0)=true:=by simp[h0]
   simp only[e2,bM,aD,e3,Bool.true_or];cases sB d l[i]<;>rfl
  ·have e2:((0:Int)<(i:Int)):=by omega
   simp_all;rw[aQ (by omega) (by omega),lZ (by omega),show((i:Int) -1).toNat=i -1 by omega];rw[bu ig (show i -1<l.length by omega),cw (show i -1<l.length by omega)];simp_all;by_cases h3:l[i -1].tag<l[i].tag
   ·simp only[h3,bd,aD,eY];cases sB d l[i]<;>rfl
   ·simp[h3]
 ·intro g;have e1:¬((l.length:Int)<(l.length:Int)):=by omega
  by_cases h1:d<0
  ·have:¬(0<=d):=by omega
   simp[this]
  ·have:0<=d:=by omega
   simp[h1,this]
end Lt
end Go.Proofs.YtcfjfbeadhnknaaGreatDoor

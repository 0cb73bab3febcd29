import Derived.Maps.AppendAt
import Derived.RangeFuncBox
import Derived.StillTailTactics
import Derived.OrdersIn
import Derived.Laws.Append
import Derived.Test.YtcfjfbeadhnknaaGreatDoorUE
namespace Go.Proofs.YtcfjfbeadhnknaaGreatDoor
set_option linter.unusedVariables false
set_option linter.unusedSimpArgs false
set_option linter.unusedSectionVars false
set_option linter.constructorNameAsVariable false
set_option maxRecDepth 100000
set_option maxHeartbeats 8000000
section
open Go.Shelf Go.RowKit Go.Lib
attribute [local go_sem] Oper.semAt_some
theorem cell_of{W:World}{b:Nat}{v:Value}{t:TypeId}(h:W.heap[b]? =some (.cells #[v] t (0,0))):W.cell? ⟨b,0,none⟩=some v/\W.frozen? ⟨b,0,none⟩=false:=by
 constructor
 ·unfold World.cell?;simp only[h];rfl
 ·unfold World.frozen?;simp only[h];rfl
theorem Qd(W:World)(o:Obj)(q:Nat):(W.alloc o).heap[q]? =if q=W.heap.size then some o else W.heap[q]? :=by
 split
 ·rename_i h;subst h;exact World.alloc_heap_new W o
 ·rcases gW q W.heap.size with h|h
  ·exact Below.heap_alloc _ _ _ h
  ·rw[Array.getElem?_eq_none (by rw[jk];omega),Array.getElem?_eq_none h]
theorem AX{W W':World}{B k:Nat}{v:Value}{xs:List Value}(h:W.ownsRow B 3 1 v k xs)(e:∀g,B<=g->g<W.heap.size->W'.heap[g]? =W.heap[g]?):W'.ownsRow B 3 1 v k xs:=by
 obtain⟨l,h|⟨g,cap,cur,e1,e2,e3,r⟩⟩:=h
 ·exact⟨l,.inl h⟩
 ·exact⟨l,.inr ⟨g,cap,cur,e1,e2,(e g e2 (fa.1 e3).1).trans e3,r⟩⟩
theorem Sw:(Tryz.prog.info? 3).map (λi=>(i.zero,i.size,i.bytes))=some (some (.int .i64 0),1,8):=by kernel_rfl
namespace Lt
theorem D9{m:Nat->Nat->Option Value}:∀l:List Int,bG m (l.map (Value.int .i64)) (l.map (Value.int .i64))/\bd (l.map (Value.int .i64))=true
 |[]=>⟨.nil,rfl⟩
 |_::l=>⟨.cons (.int _ _) (D9 l).1,(D9 (m:=m) l).2⟩
end Lt
structure wL(w:World)(z q:Nat)(R0:Loop)(p:Option Addr)(n c:Nat)(acc:List Int)(W:World):Prop where
 gp:RowKit.Below z w W
 b0:∃v,W.heap[z]? =some (.cells #[v] 47 (0,0))
 b1:∃v,W.heap[z+1]? =some (.cells #[v] 36 (0,0))
 b2:∃v,W.heap[z+1+1]? =some (.cells #[v] 47 (0,0))/\W.ownsRow (q+2) 3 1 v acc.length (acc.map (Value.int .i64))
 b3:W.heap[z+1+1+1]? =some (.cells #[.slice p n c] 26 (0,0))
 b4:W.heap[q]? =some (.deferred (some []))
 b5:W.heap[q+1]? =some (.loop R0)
theorem wL.tC{w:World}{z q:Nat}{R0:Loop}{p:Option Addr}{n c:Nat}{acc:List Int}{W W':World}(h:wL w z q R0 p n c acc W)(hz:z<=w.heap.size)(b:RowKit.Below W.heap.size W W'):wL w z q R0 p n c acc W':=by have k:∀{q o},W.heap[q]? =some o->W'.heap[q]? =some o:=λ{q o} e=>(b.block q (fa.1 e).1).trans e;obtain⟨a,⟨v0,h0⟩,⟨v1,h1⟩,⟨v2,h2,r2⟩,h3,h4,h5⟩:=h;exact⟨a.trans (b.mono (fu hz a.size)),⟨v0,k h0⟩,⟨v1,k h1⟩,⟨v2,k h2,AX r2 λg _ hg=>b.block g hg⟩,k h3,k h4,k h5⟩
theorem aa1{m:Nat->Nat->Option Value}{w:World}(hk:Lt.Kn m w){A:Lt.qE}(HA:Lt.cL Tryz.prog 97 [.v,.i .i64] (.aH [.i .i64,.b]) A){x:Value}(hx:Lt.gm x/\Lt.bd [x]=true){p:Option Addr}{n c:Nat}(hn:n<1000000001)(L:Lt.aL m x (.slice p n c))
 {f:Nat} {R:List Int} (hf:Lt.xj A x n f 0 []=some R) (h0:0<R.length) (h1:R.length<=1000000):
 Calls Tryz.prog 23 #[.slice p n c] w λe w'=>∃v,e=.returned (.tuple #[v,.int .i64 0])/\RowKit.Below w.heap.size w w'/\Lt.aL (Lt.cG m w w') (Lt.ae (R.length+1) ((R++[(n:Int)]).map (Value.int .i64))) v:=by
 refine(callsIn_wide (n:=0)).1 ?_;refine callsIn_of_wp_marks Tryz.func23 rfl trivial ?_ rfl;simp only[Tryz.ntmps23,pO,bX,List.length_nil,Nat.reduceAdd,Nat.reduceSub,pJ,pK,pN,pL,fA,eE]
 gi_wp2
 refine⟨trivial,rfl,(callsIn_wide.2 (abA _ _ _ _)).mono ?_⟩
 rintro e w2 ⟨rfl,rfl⟩
 gi_wp2
 obtain⟨z,hz⟩:∃z,z=w.heap.size:=⟨_,rfl⟩;obtain⟨w2,hw2⟩:∃w2,w2=(((w.alloc (.cells #[.slice none 0 0] 47)).alloc (.cells #[.int .i64 0] 36)).alloc (.cells #[.slice none 0 0] 47)).alloc (.cells #[.slice p n c] 26):=⟨_,rfl⟩;have J0:RowKit.Below z w w2/\w2.heap.size=z+4/\w2.heap[z]? =some (.cells #[.slice none 0 0] 47 (0,0))/\w2.heap[z+1]? =some (.cells #[.int .i64 0] 36 (0,0))/\w2.heap[z+1+1]? =some (.cells #[.slice none 0 0] 47 (0,0))/\w2.heap[z+1+1+1]? =some (.cells #[.slice p n c] 26 (0,0)):=by
  rw[hw2,hz];refine⟨((((eX _ w).alloc (aM _) _).alloc (by simp) _).alloc (by simp;omega) _).alloc (by simp;omega) _,by simp,?_,?_,?_,?_⟩;all_goals
   simp only[Qd,jk,dM]
   repeat rw[aq (by omega)]
 rw[<-hw2,<-hz];clear hw2;obtain⟨J1,J2,J3,J4,J5,J6⟩:=J0;refine Bc (gf:=121) (lb:=#[.pointer (some ⟨z+1+1+1,0,none⟩)]) rfl (enters_of Tryz.func121 (by kernel_rfl) rfl) ?_;intro fn W1 hW1;refine(callsIn_wide (n:=0)).1 ?_;generalize hR0:iS fn _ _ _ _ _ .ready=R0 at hW1⊢;obtain⟨q,hq⟩:∃q,q=w2.heap.size:=⟨_,rfl⟩;have j0:wL w z q R0 p n c [] W1:=by
  have bl:RowKit.Below w2.heap.size w2 W1:=by rw[hW1];exact((eX _ w2).alloc (aM _) _).alloc (by simp) _
  have k:∀{q o},w2.heap[q]? =some o->W1.heap[q]? =some o:=λ{q o} e=>(bl.block q (fa.1 e).1).trans e;refine⟨J1.trans (bl.mono (by omega)),⟨_,k J3⟩,⟨_,k J4⟩,⟨_,k J5,World.ownsRow_nil _ _ _ _⟩,k J6,?_,?_⟩
  ·rw[hW1,hq];exact(Below.heap_alloc _ _ _ (by simp)).trans (World.alloc_heap_new w2 _)
  ·have:=World.alloc_heap_new (w2.alloc (.deferred (some []))) (.loop R0);rw[jk] at this;rw[hW1,hq];exact this
 rw[<-hq];have zq4:z+4<=q:=by omega
 have z1:z<=w.heap.size:=by omega
 have z2:w.heap.size<=z:=by omega
 clear hq hW1 J1 J2 J3 J4 J5 J6 hz;refine(abB (z+1+1+1) (q+1) HA hx (by omega) L (wL w z q R0 p n c) (λacc W h=>⟨?_,(cell_of h.b3).1⟩) (λacc W W' h b=>h.tC (by omega) b) ?hy hf W1 j0).mono ?_
 ·exactλb i v e=>(Lt.rS (h.gp.block b (by have:=Lt.mI (hk b i v e);omega))).trans (hk b i v e)
 case hy=>
  intro acc a e W hj hl hlt;obtain⟨gp,⟨v0,c0⟩,⟨v1,c1⟩,⟨v2,c2,r2⟩,c3,d1,d2⟩:=hj;rw[<-hR0] at d2;refine(Ft (n:=0) (R:=wL w z q R0 p n c (acc++[a])) d2 rfl ?_).mono λe' W' h=>h;rw[hR0] at d2⊢;generalize iS fn _ _ _ _ _ .busy=R1;have D2:=Lib.hid d2;clear d2
  gi_wp2
  refine⟨D2.out,?_⟩;obtain⟨W2,hW2⟩:∃W2,W2=W.putObj (q+1) (.loop R1):=⟨_,rfl⟩;have zq:q+1<W.heap.size:=(fa.1 D2.out).1;have sz:W.heap.size<=W2.heap.size:=by rw[hW2];simp
  have sz2:W2.heap.size<=W.heap.size:=by rw[hW2];simp
  have kl:W2.heap[q+1]? =some (.loop R1):=by rw[hW2];exact World.putObj_heap_same zq
  have pk:∀k,k≠q+1->W2.heap[k]? =W.heap[k]? :=λk hk=>by rw[hW2];exact World.putObj_heap_other hk
  have os2:W2.os=W.os/\W2.tape=W.tape/\W2.output=W.output:=by rw[hW2];exact⟨rfl,rfl,rfl⟩
  rw[<-hW2];clear hW2;have k2:=(pk _ (by omega)).trans c2;have r2:=AX r2 λg hg _=>pk g (by omega);have nb:∀k,k<q+2->some k≠v2.ownBlock:=λk hk e=>by have:=(r2.lt k e.symm).1;omega
  obtain⟨q1,q2⟩:=cell_of k2;have ne:¬a=e:=by omega
  obtain⟨i0,hi,hz0,hz1,hz2⟩:=info_parts Sw
  gi_wp2_with (gi_at_builtin;refine wpListIn_append_own _ rfl _ _ 47 rfl (q+2) 3 i0 (.int .i64 0) 1 8 Tryz.underlying47 hi hz0 hz1 hz2 rfl (by decide) _ _ _ rfl (r2.alloc _) ⟨W2.heap.size,0,none⟩ 1 1 [.int .i64 a] rfl rfl (cell_one_new _ _ _) (by simp[Value.oneCell']) (by show _<=9223372036854775807;omega) (by omega) (by simp;omega) ?_;intro v' w1 hown hgrow hnil;obtain⟨g',cap',rfl⟩:=ownsRow_succ hown;have hb1:w1.heap[z+1+1]? =some (.cells #[v2] 47 (0,0)):=(hgrow.block (z+1+1) (by simp;omega) (nb _ (by omega))).trans ((Below.heap_alloc _ _ _ (by omega)).trans k2);obtain⟨hc1,hf1⟩:=cell_of hb1)
  have z3:=hgrow.size;rw[jk] at z3;have e1:∀k (v:Value),k<q+2->k≠z+1+1->(w1.setCell ⟨z+1+1,0,none⟩ v).heap[k]? =W2.heap[k]? :=λk v hk cF=>(Below.heap_setCell _ _ _ k cF).trans ((hgrow.block k (by rw[jk];omega) (nb k hk)).trans (Below.heap_alloc _ _ _ (by omega)));have po:∀(Wf:World) k,k≠q+1->(Wf.putObj (q+1) (.loop R0)).heap[k]? =Wf.heap[k]? :=λWf k h=>World.putObj_heap_other h;have al:∀(k:Nat)(v:Value){o},k<q+2->k≠z+1+1->k≠q+1->W.heap[k]? =some o->((w1.setCell ⟨z+1+1,0,none⟩ v).putObj (q+1) (.loop R0)).heap[k]? =some o:=λk v o h1 h2 h3 h=>(po _ k h3).trans ((e1 k v h1 h2).trans ((pk k h3).trans h));refine⟨(e1 (q+1) _ (by omega) (by omega)).trans kl,⟨⟨?_,?_,?_,?_,λk hk=>?_⟩,⟨v0,al _ _ (by omega) (by omega) (by omega) c0⟩,⟨v1,al _ _ (by omega) (by omega) (by omega) c1⟩,⟨_,(po _ _ (by omega)).trans (Boxed.set _ hb1),?_⟩,al _ _ (by omega) (by omega) (by omega) c3,al _ _ (by omega) (by omega) (by omega) d1,World.putObj_heap_same (by simp;omega)⟩⟩
  ·exact hgrow.os.trans (os2.1.trans gp.os)
  ·exact hgrow.tape.trans (os2.2.1.trans gp.tape)
  ·exact hgrow.output.trans (os2.2.2.trans gp.output)
  ·have:=gp.size;simp;omega
  ·exact(po _ k (by omega)).trans ((e1 k _ (by omega) (by omega)).trans ((pk k (by omega)).trans (gp.block k hk)))
  ·rw[aS,gV];exact AX hown λg hg _=>(po _ g (by omega)).trans (Below.heap_setCell _ _ _ g (by show g≠z+1+1;omega))
 rintro e W2 ⟨⟨v,rfl⟩,j⟩
 refine⟨⟨_,rfl⟩,j.b5,?_⟩;generalize iS fn _ _ _ _ _ .exhausted=R9;obtain⟨gp,⟨v0,c0⟩,⟨v1,c1⟩,⟨v2,c2,r2⟩,c3,d1,d2⟩:=j;obtain⟨W3,hW3⟩:∃W3,W3=W2.putObj (q+1) (.loop R9):=⟨_,rfl⟩;have pk:∀k,k≠q+1->W3.heap[k]? =W2.heap[k]? :=λk hk=>by rw[hW3];exact World.putObj_heap_other hk
 have zq:q+1<W2.heap.size:=(fa.1 d2).1;have sz:W2.heap.size<=W3.heap.size:=by rw[hW3];simp
 have bel3:RowKit.Below z w W3:=by refine gp.trans ?_;rw[hW3];exact⟨rfl,rfl,rfl,by simp,λk hk=>World.putObj_heap_other (by omega)⟩
 rw[<-hW3];clear hW3;replace c0:=(pk _ (by omega)).trans c0;replace c1:=(pk _ (by omega)).trans c1;replace c2:=(pk _ (by omega)).trans c2;replace d1:=(pk _ (by omega)).trans d1;replace r2:=AX r2 λg hg _=>pk g (by omega);obtain⟨k,hk1⟩:∃k,R.length=k+1:=⟨R.length -1,by omega⟩;rw[hk1] at r2;obtain⟨g1,cp1,rfl⟩:=ownsRow_succ r2;have nb:∀k,k<q+2->some k≠(Value.slice (some ⟨g1,0,none⟩) (R.length) cp1).ownBlock:=λk hk e=>by cases e;have:q+2<=g1:=(r2.lt g1 rfl).1;have hk:g1<q+2:=hk;omega
 obtain⟨p0,f0⟩:=cell_of c0;obtain⟨p1,f1⟩:=cell_of c1;obtain⟨p2,f2⟩:=cell_of c2;obtain⟨i0,hi,hz0,hz1,hz2⟩:=info_parts Sw;have ne:¬(((k+1:Nat):Int)=0):=by omega
 clear pk
 gi_wp2_with (gi_at_builtin;refine wpListIn_append_own _ rfl _ _ 47 rfl (q+2) 3 i0 (.int .i64 0) 1 8 Tryz.underlying47 hi hz0 hz1 hz2 rfl (by decide) _ _ _ rfl (r2.alloc _) ⟨W3.heap.size,0,none⟩ 1 1 [.int .i64 n] rfl rfl (cell_one_new _ _ _) (by simp[Value.oneCell']) (by show _<=9223372036854775807;omega) (by omega) (by simp;omega) ?_;intro v' w1 hown hgrow hnil;obtain⟨g',cap',rfl⟩:=ownsRow_succ hown;have hb0:w1.heap[z]? =some (.cells #[v0] 47 (0,0)):=(hgrow.block z (by simp;omega) (nb _ (by omega))).trans ((Below.heap_alloc _ _ _ (by omega)).trans c0);have hb1:w1.heap[z+1]? =some (.cells #[v1] 36 (0,0)):=(hgrow.block (z+1) (by simp;omega) (nb _ (by omega))).trans ((Below.heap_alloc _ _ _ (by omega)).trans c1);obtain⟨hc0,hf0⟩:=cell_of hb0;obtain⟨hc1,hf1⟩:=cell_of hb1)
 have e1:∀k (x y:Value),k≠z->k≠z+1->k≠q->(((w1.setCell ⟨z,0,none⟩ x).setCell ⟨z+1,0,none⟩ y).putObj q (.deferred none)).heap[k]? =w1.heap[k]? :=λk x y h1 h2 h3=>(World.putObj_heap_other h3).trans ((Below.heap_setCell _ _ _ k h2).trans (Below.heap_setCell _ _ _ k h1));have dq:∀(x y:Value),((w1.setCell ⟨z,0,none⟩ x).setCell ⟨z+1,0,none⟩ y).heap[q]? =some (.deferred (some [])):=λx y=>(Below.heap_setCell _ _ _ q (by show q≠z+1;omega)).trans ((Below.heap_setCell _ _ _ q (by show q≠z;omega)).trans ((hgrow.block q (by rw[jk];omega) (nb _ (by omega))).trans ((Below.heap_alloc _ _ _ (by omega)).trans d1)));refine⟨by simp,.inl ⟨_,_,rfl,run_takeDeferred (dq _ _),?_⟩⟩;have g0:∀(x y:Value),(((w1.setCell ⟨z,0,none⟩ x).setCell ⟨z+1,0,none⟩ y).putObj q (.deferred none)).cell? ⟨z,0,none⟩=some x:=λx y=>(cell_of ((World.putObj_heap_other (by omega)).trans ((Below.heap_setCell _ _ _ z (by show z≠z+1;omega)).trans (Boxed.set x hb0)))).1;have g1:∀(x y:Value),(((w1.setCell ⟨z,0,none⟩ x).setCell ⟨z+1,0,none⟩ y).putObj q (.deferred none)).cell? ⟨z+1,0,none⟩=some y:=λx y=>(cell_of ((World.putObj_heap_other (by omega)).trans (Boxed.set y (show Boxed _ (z+1) _ v1 from(Below.heap_setCell _ _ _ (z+1) (by show z+1≠z;omega)).trans hb1)))).1;have z3:=hgrow.size;rw[jk] at z3;refine⟨.tuple #[.slice (some ⟨g',0,none⟩) (k+1+1) cap',.int .i64 0],by simp[results,Tryz.f23,da,go_sem,g0,g1],_,rfl,⟨?_,?_,?_,?_,λi hi=>?_⟩,?_⟩
 ·exact hgrow.os.trans bel3.os
 ·exact hgrow.tape.trans bel3.tape
 ·exact hgrow.output.trans bel3.output
 ·have:=bel3.size;simp;omega
 ·exact(e1 i _ _ (by omega) (by omega) (by omega)).trans ((hgrow.block i (by rw[jk];have:=bel3.size;omega) (nb _ (by omega))).trans ((Below.heap_alloc _ _ _ (by have:=bel3.size;omega)).trans (bel3.block i (by omega))))
 ·have hl:(List.map (Value.int .i64) R++[Value.int .i64 (n:Int)]).length=k+1+1:=by rw[aS,cZ,hk1];rfl
  have e:List.map (Value.int .i64) R++[Value.int .i64 (n:Int)]=(R++[(n:Int)]).map (Value.int .i64):=by rw[gV];rfl
  have ow:=AX hown (W':=((w1.setCell ⟨z,0,none⟩ (.slice (some ⟨g',0,none⟩) (k+1+1) cap')).setCell ⟨z+1,0,none⟩ (.int .i64 0)).putObj q (.deferred none)) λg hg _=>e1 g _ _ (by omega) (by omega) (by omega);rw[<-hl] at ow⊢;exact Lt.Vb (by omega) ow (by rw[e];exact(Lt.D9 _).1) (by rw[e];exact(Lt.D9 (m:=m) _).2)
namespace Lt
theorem aaZ(w:Nat){A:qE}(HA:cL Tryz.prog 97 [.v,.i .i64] (.aH [.i .i64,.b]) A):cL Tryz.prog 23 [.v] nj (findF w A):=by
 refine .mk λls r e hl us hu=>?_;obtain⟨x,r1,us1,h1,h2,rfl⟩:=gE hu;obtain⟨rfl,rfl⟩:=nw h2;obtain rfl:=kR h1;have hx:bd [x]=true:=hl x (by simp);replace e:findF w A x=some r:=e;unfold findF at e;split at e
 case h_2=>cases e
 rename_i n cs hr;obtain⟨hn,e⟩:=aX e;obtain⟨R,hR,e⟩:=ax e;obtain⟨hq,e⟩:=aX e;rw[bu] at hq;have e:=(jB e).symm;refine⟨xy (by rw[e];show bd [ae _ _]=true;rfl),_,rfl,zj λm args' w hm A=>?_⟩;subst e;obtain⟨al⟩:=args';replace A:bG m _ al:=A;obtain⟨_,_,rfl,a0,A⟩:=PW.inv A;obtain rfl:=A.dO;obtain⟨a,c,rfl,_⟩:=Fv hr a0;exact aa1 hm HA ⟨hx,hx⟩ (by have:=dX hn;omega) a0 hR (eQ hq.1) (dX hq.2)
end Lt
end
section
open Go.Shelf Go.RowKit Go.Lib
attribute [local go_sem] Oper.semAt_some
section
variable{n:Nat} {P:Program} {ops:Array Oper} {md:Region.Mode} {w:World}
theorem als{i:Nat}{a:Act}{K:Act->Prop}{K':Act->World->Prop}{Q':Exit->Act->World->Prop}(h:∀a,K a->K' a w)(hh:stOp P ops w i K a):wpOpIn Fence.wide n P ops Q' i K' a w:=by
 unfold stOp at hh;unfold wpOpIn;split
 ·rename_i ho;simp only[ho] at hh;exact h _ hh
 ·rename_i o ho;simp only[ho] at hh;split
  ·rename_i hw;simp only[hw,dM] at hh;unfold Oper.still at hh;unfold Oper.wpIn;refine⟨λ_ _=>trivial,?_⟩;rw[show Fence.wide.round=none from rfl,Oper.semAt_none];generalize(execOp a.eval o).run P w=r at*;cases r with
   |ok x w'=>
    cases x<;>simp only[Oper.stillUpon] at hh<;>simp only[Oper.uponIn]
    case enter f args=>obtain⟨rfl,v,hc,hn⟩:=hh;exact⟨λh=>(by cases h),(callsIn_wide.2 hc).mono λe w'' ⟨he,hw⟩=>by subst he;subst hw;exact h _ hn⟩
    all_goals(obtain⟨rfl,h2⟩:=hh;exact h _ h2)
   |halt x w'=>simp only[Oper.stillUpon] at hh
  ·rename_i hw;simp only[hw] at hh;exact⟨λ_ _=>trivial,h _ hh⟩
theorem RR{m g:Nat}{L:Array Bool->Act->Prop}{Q':Exit->Act->World->Prop}(hL:∀listed a,L listed a->wpAnyIn Fence.wide n P md ops Q' g listed a w):
 ∀(f:Nat)(listed:Array Bool)(a:Act),wpAnyL P md ops w m L f listed a->wpAnyIn Fence.wide n P md ops Q' (f+g) listed a w
 |0,listed,a,h=>by rw[gj];exact hL _ _ h
 |f+1,listed,a,h=>by rw[show f+1+g=(f+g)+1 by omega];exact⟨λh0=>absurd h0 h.1,λi hi=>als (λa' h'=>RR hL f _ a' h') (h.2 i hi).2⟩
theorem Xl{Q':Exit->Act->World->Prop}:∀(l:List Oper)(k:Nat)(listed:Array Bool)(a:Act)(w:World),(∀j,l[j]? =ops[k+j]?)->
 Region.seqB md ops l.length k listed=true->wpListIn Fence.wide n P ops Q' l a w->wpAnyIn Fence.wide n P md ops Q' l.length listed a w
 |[],_,_,_,_,_,hB,h=>⟨by simpa[Region.seqB] using hB,h⟩
 |o::l,k,listed,a,w,hl,hB,h=>by
  have h0:ops[k]? =some o:=by simpa using(hl 0).symm
  simp only[bX,Region.seqB,bu,bZ] at hB;refine⟨λh1=>(by rw[hB.1] at h1;cases h1),λi hi=>?_⟩;rw[hB.1] at hi;have hik:i=k:=by simpa using hi
  subst hik;have hw:wpOpIn Fence.wide n P ops Q' i (wpListIn Fence.wide n P ops Q' l) a w:=by unfold wpOpIn;simp only[h0];exact h
  exact wpOpIn_mono (λa' w' h'=>Xl l (i+1) _ a' w' (λj=>by have:=hl (j+1);simpa[oP,Nat.add_comm 1 j] using this) hB.2 h') hw
theorem alJ{id:Nat}{Q:Exit->Act->World->Prop}{a:Act}{l:List Oper}(m:Nat)(hm:P.follows .mixedOrders=true)(hB:Region.lexTailB .any l.toArray m=true)
 (h:wpStill P l.toArray {w with drawn:=w.drawn+1} (λa'=>wpListIn Fence.wide n P l.toArray Q (l.drop m) a' {w with drawn:=w.drawn+1}) (l.take m) a):(Code.region id l.toArray true).wpIn Fence.wide n P Q a w:=by
 simp only[Region.lexTailB,bu,bZ] at hB;obtain⟨⟨⟨⟨hsel,hn⟩,hs⟩,hc⟩,hlex⟩:=hB;have hn':m<l.length:=by simpa using hn
 have htl:(l.take m).length=m:=by simp;omega
 have iD:(l.drop m).length=l.toArray.size -m:=by simp
 have dO:HeadInv .any l.toArray m (Array.replicate l.toArray.size false):=
  ⟨by simp,λj oj _ hl=>(by rw[getD_replicate_false] at hl;cases hl),λt _ ht=>getD_in (by simpa using ht) (getD_replicate_false _ _)⟩
 have H:=wpAnyL_lex (md:=.any) (g:=l.toArray.size -m) hsel hs hc hn (l.take m) 0 _ a (λj hj=>by
  have hj':j<m:=by rw[htl] at hj;exact hj
  simp[hj']) (by simpa using htl) dO (by rw[htl];exact hlex) h
 refine wpIn_region_any hm ?_;have:=RR (n:=n) (Q':=Q) (g:=l.toArray.size -m) (λlisted a' hL=>by
  have:=Xl (n:=n) (md:=.any) (Q':=Q) (l.drop m) m listed a' {w with drawn:=w.drawn+1} (λj=>by simp[sJ]) (by rw[iD];exact hL.1) hL.2
  rwa[iD] at this) _ _ _ H
 rw[htl,show m+(l.toArray.size -m)=l.toArray.size by omega] at this;exact this
end
theorem ZE(a b:Option Addr)(n c n' c':Nat)(w:World):Calls Tryz.prog 93 #[.slice a n c,.slice b n' c'] w λe w'=>e=.returned (.func (.func 149) #[] #[.pointer (some ⟨w.heap.size+1,0,none⟩),.pointer (some ⟨w.heap.size,0,none⟩)])/\w'=(w.alloc (.cells #[.slice a n c] 26)).alloc (.cells #[.slice b n' c'] 47):=by
 go_enter Tryz.func93,Tryz.ntmps93
 go_wp2_with fail
 go_ret
 exact⟨by simp,rfl⟩
theorem ZF(Xa Xs l:Nat){b o n c pb po ca:Nat}(S:List Int)(hS:S.length<1000000001)(hc:n<=c)(hs:∀(k:Nat)(a e:Int),S[k]? =some a->S[k+1]? =some e->0<=a/\a<e/\e<=(n:Int))
 (J:Nat->World->Prop) (hJ:∀k W,J k W->W.cell? ⟨Xa,0,none⟩=some (.slice (some ⟨pb,po,none⟩) S.length ca)/\W.cell? ⟨Xs,0,none⟩=some (.slice (some ⟨b,o,none⟩) n c)/\∀i z,S[i]? =some z->W.cell? ⟨pb,po+i,none⟩=some (.int .i64 z))
 (hJd:∀k W,J k W->J k W.drew)
 (hy:∀k (a e:Nat) W,J k W->S[k]? =some (a:Int)->S[k+1]? =some (e:Int)->YieldAt Fence.wide 0 Tryz.prog l #[.slice (some ⟨b,o+a,none⟩) (e -a) (c -a)] W λx W'=>x=.returned (.bool true)/\J (k+1) W')
 (W:World) (hj:J 0 W) (h0:0<S.length):
 CallsIn Fence.wide 0 Tryz.prog 149 #[.func (.yield l) #[] #[],.pointer (some ⟨Xa,0,none⟩),.pointer (some ⟨Xs,0,none⟩)] W λe W'=>(∃v,e=.returned v)/\J (S.length -1) W':=by
 refine callsIn_of_wp Tryz.func149 rfl trivial ?_ rfl;simp only[Tryz.ntmps149,pO,bX,List.length_nil,Nat.reduceAdd,Nat.reduceSub,pJ,pK,pN,pL,fA,eE]
 gi_wp2
 gi_loopw [4] (λp wr=>∃k:Nat,p=.int .i64 ((k+1:Nat):Int)/\k+1<=S.length/\J k wr) (λp wr=>((S.length:Int) -Lib.intOf p).toNat)
 case atStart=>exact⟨0,rfl,h0,hj⟩
 case round=>
  obtain⟨k,rfl,hk,jr⟩:=hrel;obtain⟨q1,q2,q3⟩:=hJ k _ jr;by_cases hl:k+1<S.length
  ·obtain⟨h1,h2,h3⟩:=hs k S[k] S[k+1] (cu (by omega)) (cu hl);obtain⟨a,ha⟩:∃a:Nat,S[k]=(a:Int):=⟨S[k].toNat,by omega⟩;obtain⟨e,he⟩:∃e:Nat,S[k+1]=(e:Int):=⟨S[k+1].toNat,by omega⟩;have ka:S[k]? =some (a:Int):=by rw[cu (by omega),ha]
   have ke:S[k+1]? =some (e:Int):=by rw[cu hl,he]
   rw[ha] at h1 h2;rw[he] at h2 h3;have c1:=q3 k _ ka;have c2:=q3 (k+1) _ ke;have mixed:Tryz.prog.follows .mixedOrders=true:=by kernel_rfl
   obtain⟨fn,tmps,assign,body,hyv,hR⟩:=hy k a e wr.drew (hJd _ _ jr) ka ke;have m1:((k:Int)+1<(S.length:Int)):=by omega
   have m2:IntKind.i64.wrap ((k:Int)+1 -1)=(k:Int):=by rw[IntKind.wrap_i64];omega
   have m3:IntKind.i64.wrap (k:Int)=(k:Int):=by rw[IntKind.wrap_i64];omega
   have m4:(k:Int)<(S.length:Int):=by omega
   have m5:(0:Int)<=(k:Int)+1:=by omega
   have m6:((k:Int)+1).toNat=k+1:=by omega
   have m7:k<S.length:=by omega
   have m8:(a:Int)<=(e:Int):=by omega
   have m9:(e:Int)<=(c:Int):=by omega
   have m10:¬c=a:=by omega
   have m11:a<=e:=by omega
   have m12:e<=c:=by omega
   gi_wp2
   refine alJ 12 mixed (by kernel_rfl) ?_;simp only[nW,pP,List.drop_succ_cons,eu]
   repeat still_step
   refine wpStill_nil ?_;change wpListIn _ _ _ _ _ _ _ wr.drew
   gi_wp2
   refine⟨rfl,hR.mono ?_⟩
   rintro x W4 ⟨rfl,j4⟩
   gi_wp2
   exact⟨⟨k+1,rfl,by omega,j4⟩,by simp only[Lib.intOf];omega⟩
  ·obtain rfl:k=S.length -1:=by omega
   have n1:¬(((S.length -1+1:Nat):Int)<(S.length:Int)):=by omega
   gi_wp2
   go_end0
   exact⟨⟨_,rfl⟩,jr⟩
end
namespace Lt
def zP(xs:List Int):List Int->Option (List Value)
 |a::b::r=>cond (!ak a 0&&(ak a b&&!ak xs.length b)) (ob (zP xs (b::r)) λl=>some (ae (b -a).toNat (bk ((xs.drop a.toNat).take (b -a).toNat))::l)) none
 |[_]=>some []
 |[]=>none
def ve:List Value->Option (List Int)
 |[]=>some []
 | .int .i64 z::l=>ob (ve l) λr=>some (z::r)
 |_=>none
def Dz(I:Value->Option (Value×Value×Int))(x:Value):Option (Value×Int):=ob (I x) λr=>cond (!aj r.2.2 0) (some (ae 0 [],r.2.2)) (jS x λxs=>cond (Nat.ble xs.length 1000000000) (match rowOf r.2.1 with
 |some (k,st)=>cond (Nat.blt 1 k&&(Nat.beq k st.length&&Nat.ble k 1000000)) (ob (ve st) λS=>ob (zP xs S) λl=>some (ae l.length l,0)) none
 |none=>none) none)
end Lt
section
open Go.Shelf Go.RowKit Go.Lib
attribute [local go_sem] Oper.semAt_some
namespace Lt
theorem Jf{xs:List Int}:∀{S:List Int}{l:List Value},zP xs S=some l->l.length+1=S.length/\∀(i:Nat)(a e:Int),S[i]? =some a->S[i+1]? =some e->0<=a/\a<e/\e<=(xs.length:Int)/\l[i]? =some (ae (e -a).toNat (bk ((xs.drop a.toNat).take (e -a).toNat)))
 |[],l,h=>by cases h
 |[_],l,h=>by cases h;exact⟨rfl,λi a e _ h2=>by simp at h2⟩
 |a::b::r,l,h=>by
  unfold zP at h;obtain⟨hq,h⟩:=aX h;obtain⟨l',h1,h⟩:=ax h;cases h;obtain⟨k1,k2⟩:=Jf h1;simp only[bu,uq,nD,bZ,gM] at hq;refine⟨by simp at k1⊢;omega,λi x e hx he=>?_⟩;cases i with
  |zero=>cases hx;cases he;exact⟨by omega,hq.2.1,by omega,rfl⟩
  |succ i=>exact k2 i x e hx he
theorem ints_at{m:Nat->Nat->Option Value}:∀{st ys:List Value}{S:List Int},ve st=some S->bG m st ys->S.length=st.length/\∀(i:Nat)(z:Int),S[i]? =some z->ys[i]? =some (.int .i64 z)
 |[],ys,S,h,A=>by cases h;exact⟨rfl,λi z h=>by simp at h⟩
 |x::st,ys,S,h,A=>by
  unfold ve at h;split at h
  ·rename_i q;cases q
  ·rename_i z l q;cases q;obtain⟨r,h1,h⟩:=ax h;cases h;obtain⟨y,ys',rfl,a0,A2⟩:=PW.inv A;cases a0;obtain⟨k1,k2⟩:=ints_at h1 A2;refine⟨by simp[k1],λi z h=>?_⟩;cases i with
   |zero=>cases h;rfl
   |succ i=>exact k2 i z h
  ·cases h
theorem RV:∀{st:List Value}{S:List Int},ve st=some S->S.length=st.length
 |[],S,h=>by cases h;rfl
 |x::st,S,h=>by
  unfold ve at h;split at h
  ·rename_i q;cases q
  ·rename_i z l q;cases q;obtain⟨r,h1,h⟩:=ax h;cases h;simp[RV h1]
  ·cases h
theorem Zk{P:Program}{g:FuncId}{I:Value->Option (Value×Value×Int)}(HI:cL P g [.v] (.aH [.v,.v,.i .i64]) I){x:Value}{r:Value×Value×Int}(e:I x=some r)(hx:bd [x]=true):
 ∀{m:Nat->Nat->Option Value}{W:World}{y:Value},Kn m W->aL m x y->Calls P g #[y] W λe W'=>∃a b,e=.returned (.tuple #[a,b,.int .i64 r.2.2])/\RowKit.Below W.heap.size W W'/\aL (cG m W W') r.2.1 b:=by
 obtain⟨u,v,z⟩:=r;intro m W y hm L;refine(HI [.v x] (u,v,z) e (λz hz=>by simp at hz;rw[hz];exact hx) _ rfl m _ W hm (.cons L .nil)).mono λe w' ⟨v',q1,q2,pv,f2,_,q3⟩=>?_;have f2:some (Value.tuple #[u,v,.int .i64 z],([]:List bq))=some (pv,[]):=f2;cases f2;subst q1;cases q3 with
 |@aH xs xs' h0 h=>
 obtain⟨xl⟩:=xs';obtain⟨a,_,rfl,h1,T1⟩:=PW.inv (show bG (cG m W w') [u,v,.int .i64 z] xl from⟨h0,h⟩);obtain⟨b,_,rfl,h2,T2⟩:=PW.inv T1;obtain⟨_,_,rfl,h3,T3⟩:=PW.inv T2;cases h3;obtain rfl:=T3.dO;exact⟨a,b,rfl,q2,h2⟩
end Lt
theorem vr{W W':World}{B k:Nat}{e:TypeId}{v:Value}{xs:List Value}(h:W.ownsRow B e 1 v k xs)(f:∀g cur,v.ownBlock=some g->B<=g->W.heap[g]? =some (.cells cur e (0,0))->W'.heap[g]? =W.heap[g]?):W'.ownsRow B e 1 v k xs:=by
 obtain⟨l,h|⟨g,cap,cur,e1,e2,e3,r⟩⟩:=h
 ·exact⟨l,.inl h⟩
 ·subst e1;exact⟨l,.inr ⟨g,cap,cur,rfl,e2,(f g cur rfl e2 e3).trans e3,r⟩⟩
theorem agA{W:World}{B B' k:Nat}{e:TypeId}{v:Value}{xs:List Value}(h:W.ownsRow B e 1 v k xs)(hb:B'<=B):W.ownsRow B' e 1 v k xs:=by
 obtain⟨l,h|⟨g,cap,cur,e1,e2,r⟩⟩:=h
 ·exact⟨l,.inl h⟩
 ·exact⟨l,.inr ⟨g,cap,cur,e1,fu hb e2,r⟩⟩
theorem LI{W:World}{B k g:Nat}{e:TypeId}{v:Value}{xs:List Value}(h:W.ownsRow B e 1 v k xs)(hg:v.ownBlock=some g):B<=g/\∃cur,W.heap[g]? =some (.cells cur e (0,0)):=by
 obtain⟨l,⟨h,_⟩|⟨g',cap,cur,e1,e2,e3,_⟩⟩:=h
 ·subst h;cases hg
 ·subst e1;cases hg;exact⟨e2,cur,e3⟩
theorem agB{W:World}{B k:Nat}{e:TypeId}{v:Value}{xs:List Value}(h:W.ownsRow B e 1 v k xs)(hv:v≠.slice none 0 0):∃g c,v=.slice (some ⟨g,0,none⟩) k c:=by
 obtain⟨_,⟨h,_⟩|⟨g,c,_,h,_⟩⟩:=h
 ·exact absurd h hv
 ·exact⟨g,c,h⟩
theorem bytesRow:(Tryz.prog.info? 26).map (λi=>(i.zero,i.size,i.bytes))=some (some (.slice none 0 0),1,24):=by kernel_rfl
def Qg(ats:Array TypeId)(ty:TypeId)(args:Array Value):Sem Value:=Builtin.append_ ats ty args
theorem abu{ats:Array TypeId}{ty:TypeId}{cs:Array Bool}{args:Array Value}:builtin .append ats ty cs args=(do pure (.value (<-Qg ats ty args))):=rfl
attribute [local go_sem↓high] abu
def wH(W:World)(B:Nat)(xs S:List Int)(i:Nat)(u:Value):Prop:=∃a e:Int,S[i]? =some a/\S[i+1]? =some e/\W.ownsRow B 5 1 u (e -a).toNat (Lt.bk ((xs.drop a.toNat).take (e -a).toNat))
structure uz(w:World)(z q:Nat)(R0:Loop)(s a:Value)(xs S:List Int)(k:Nat)(W:World):Prop where
 gp:RowKit.Below z w W
 b2:∃v vs,W.heap[z]? =some (.cells #[v] 35 (0,0))/\W.ownsRow (q+2) 26 1 v k vs/\∀i u,vs[i]? =some u->wH W (q+2) xs S i u
 b3:W.heap[z+1]? =some (.cells #[s] 26 (0,0))
 b4:W.heap[z+1+1]? =some (.cells #[a] 47 (0,0))
 b5:W.heap[q]? =some (.deferred (some []))
 b6:W.heap[q+1]? =some (.loop R0)
theorem wH.tC{W W':World}{B:Nat}{xs S:List Int}{i:Nat}{u:Value}(h:wH W B xs S i u)(f:∀g cur,u.ownBlock=some g->B<=g->W.heap[g]? =some (.cells cur 5 (0,0))->W'.heap[g]? =W.heap[g]?):wH W' B xs S i u:=by obtain⟨a,e,h1,h2,h3⟩:=h;exact⟨a,e,h1,h2,vr h3 f⟩
theorem uz.drew{w:World}{z q:Nat}{R0:Loop}{s a:Value}{xs S:List Int}{k:Nat}{W:World}(h:uz w z q R0 s a xs S k W):uz w z q R0 s a xs S k W.drew:=by obtain⟨⟨a1,a2,a3,a4,a5⟩,b,c,d,e,f⟩:=h;exact⟨⟨a1,a2,a3,a4,a5⟩,b,c,d,e,f⟩
theorem aan{w:World}{z q:Nat}{R0 R1:Loop}{s t:Value}{xs S:List Int}{k:Nat}{W W7 w9:World}{v2 v' v9:Value}{vs:List Value}{o:Obj}{a e:Nat}
 (zq:z+3<=q) (gp:RowKit.Below z w W) (r2:W.ownsRow (q+2) 26 1 v2 k vs) (cl:∀i u,vs[i]? =some u->wH W (q+2) xs S i u)
 (c2:W.heap[z]? =some (.cells #[v2] 35 (0,0))) (c3:W.heap[z+1]? =some (.cells #[s] 26 (0,0))) (c4:W.heap[z+1+1]? =some (.cells #[t] 47 (0,0))) (d1:W.heap[q]? =some (.deferred (some []))) (d2:W.heap[q+1]? =some (.loop R0))
 (ha:S[k]? =some (a:Int)) (he:S[k+1]? =some (e:Int))
 (h7:W7.ownsRow W.heap.size 5 1 v' (e -a) (((xs.drop a).take (e -a)).map (Value.int .u8))) (b7:RowKit.Below W.heap.size (W.putObj (q+1) (.loop R1)) W7)
 (h9:w9.ownsRow (q+2) 26 1 v9 (k+1) (vs++[v'])) (g9:(W7.alloc o).grownBy w9 v2.ownBlock):
 (w9.setCell ⟨z,0,none⟩ v9).heap[q+1]? =some (.loop R1)/\uz w z q R0 s t xs S (k+1) ((w9.setCell ⟨z,0,none⟩ v9).putObj (q+1) (.loop R0)):=by
 have zl:q+1<W.heap.size:=(fa.1 d2).1;have pk:∀j,j≠q+1->(W.putObj (q+1) (.loop R1)).heap[j]? =W.heap[j]? :=λj h=>World.putObj_heap_other h;have z9:=g9.size;have z7:=b7.size;rw[jk] at z9;rw[World.putObj_size] at z7;have nb:∀j,some j=v2.ownBlock->q+2<=j/\j<W.heap.size/\∃cur,W.heap[j]? =some (.cells cur 26 (0,0)):=λj h=>by obtain⟨h1,cur,h2⟩:=LI r2 h.symm;exact⟨h1,(fa.1 h2).1,cur,h2⟩
 have e7:∀j,j<W7.heap.size->j≠z->some j≠v2.ownBlock->(w9.setCell ⟨z,0,none⟩ v9).heap[j]? =W7.heap[j]? :=λj h1 h2 h3=>
  (Below.heap_setCell _ _ _ j h2).trans ((g9.block j (by rw[jk];omega) h3).trans (Below.heap_alloc _ _ _ h1))
 have e1:∀j,j<W.heap.size->j≠z->j≠q+1->some j≠v2.ownBlock->(w9.setCell ⟨z,0,none⟩ v9).heap[j]? =W.heap[j]? :=λj h1 h2 h3 h4=>
  (e7 j (by omega) h2 h4).trans ((b7.block j h1).trans (pk j h3))
 have lo:∀j,j<q+2->some j≠v2.ownBlock:=λj h e=>by have:=(nb j e).1;omega
 have po:∀j,j≠q+1->((w9.setCell ⟨z,0,none⟩ v9).putObj (q+1) (.loop R0)).heap[j]? =(w9.setCell ⟨z,0,none⟩ v9).heap[j]? :=λj h=>World.putObj_heap_other h;have al:∀j,j<q+2->j≠z->j≠q+1->((w9.setCell ⟨z,0,none⟩ v9).putObj (q+1) (.loop R0)).heap[j]? =W.heap[j]? :=λj h1 h2 h3=>(po j h3).trans (e1 j (by omega) h2 h3 (lo j h1));have k9:w9.heap[z]? =some (.cells #[v2] 35 (0,0)):=(g9.block z (by rw[jk];omega) (lo z (by omega))).trans ((Below.heap_alloc _ _ _ (by omega)).trans ((b7.block z (by omega)).trans ((pk z (by omega)).trans c2)));have kl:(w9.setCell ⟨z,0,none⟩ v9).heap[q+1]? =some (.loop R1):=(e7 (q+1) (by omega) (by omega) (lo _ (by omega))).trans ((b7.block (q+1) zl).trans (World.putObj_heap_same zl));have hvs:vs.length=k:=by have:=r2.1;omega
 refine⟨kl,⟨?_,?_,?_,?_,λj hj=>?_⟩,⟨v9,vs++[v'],(po z (by omega)).trans (Boxed.set _ k9),?_,λi u hu=>?_⟩,(al _ (by omega) (by omega) (by omega)).trans c3,(al _ (by omega) (by omega) (by omega)).trans c4,(al _ (by omega) (by omega) (by omega)).trans d1,World.putObj_heap_same (fa.1 kl).1⟩
 ·exact g9.os.trans (b7.os.trans gp.os)
 ·exact g9.tape.trans (b7.tape.trans gp.tape)
 ·exact g9.output.trans (b7.output.trans gp.output)
 ·have:=gp.size;simp;omega
 ·have:=gp.size;exact(al j (by omega) (by omega) (by omega)).trans (gp.block j hj)
 ·exact vr h9 λg cur _ hg _=>(po g (by omega)).trans (Below.heap_setCell _ _ _ g (by show g≠z;omega))
 ·rcases gW i vs.length with h|h
  ·rw[wC h] at hu;refine(cl i u hu).tC λg cur _ hg hc=>(po g (by omega)).trans (e1 g (fa.1 hc).1 (by omega) (by omega) λq=>?_);obtain⟨_,_,cur',h'⟩:=nb g q;rw[hc] at h';cases h'
  ·rw[ur h] at hu;have hi:i=vs.length:=by
    have:=(oN.1 hu).1;simp at this;omega
   subst hi;have hu:some v'=some u:=by rw[<-hu];simp
   cases hu;rw[hvs];refine⟨a,e,ha,he,?_⟩;rw[show((e:Int) -(a:Int)).toNat=e -a by omega,show((a:Int)).toNat=a from rfl];have h8:W7.ownsRow (q+2) 5 1 v' (e -a) (Lt.bk ((xs.drop a).take (e -a))):=agA h7 (by omega);refine vr (vr (W':=w9.setCell ⟨z,0,none⟩ v9) h8 λg cur eg hg hc=>?_) λg cur _ hg _=>po g (by omega);have:=(LI h7 eg).1;exact e7 g (fa.1 hc).1 (by omega) λq=>by have:=(nb g q).2.1;omega
theorem Dy{m:Nat->Nat->Option Value}{w W:World}{B k:Nat}{v:Value}{xs S:List Int}{vs l:List Value}(hB:w.heap.size<=B)(h:W.ownsRow B 26 1 v k vs)(cl:∀i u,vs[i]? =some u->wH W B xs S i u)(hl:l.length+1=S.length)(hk:k+1=S.length)
 (hla:∀(i:Nat)(a e:Int),S[i]? =some a->S[i+1]? =some e->l[i]? =some (Lt.ae (e -a).toNat (Lt.bk ((xs.drop a.toNat).take (e -a).toNat)))):Lt.aL (Lt.cG m w W) (Lt.ae l.length l) v:=by
 have on:Lt.bd l=true:=Lt.iR.2 λx hx=>by obtain⟨i,hi,rfl⟩:=List.mem_iff_getElem.1 hx;have q:=hla i _ _ (cu (show i<S.length by omega)) (cu (show i+1<S.length by omega));rw[cu hi] at q;rw[jB q];rfl
 have h1:=h.1;obtain⟨_,⟨rfl,hn⟩|⟨g,cap,cur,rfl,hg1,hg,hnc,_,hcs,htk⟩⟩:=h
 ·have:l=[]:=kK (by omega);subst this;exact .fV
 ·rw[show l.length=k by omega];refine .row (ys:=vs) ⟨by omega,λi x y hx hy=>?_⟩ (λi y hy=>?_) rfl hnc on
  ·obtain⟨a,e,k1,k2,k3⟩:=cl i y hy;have q:=hla i a e k1 k2;rw[hx] at q;rw[jB q];generalize(xs.drop a.toNat).take (e -a).toNat=t at k3⊢;generalize(e -a).toNat=n at k3⊢;have k4:t.length=n:=by have:=k3.1;rw[Lt.bk,cZ] at this;omega
   subst k4;exact Lt.EZ hB k3
  ·unfold Lt.cG;rw[aq (by show¬g<_;omega),Lt.tF hg];have:vs[i]? =cur.toList[i]? :=by
    rw[<-htk,zo];rcases gW i (k*1) with q|q
    ·exact q
    ·rw[kL (by omega)] at hy;cases hy
   rw[this] at hy;simpa using hy
theorem aao{m:Nat->Nat->Option Value}{w:World}(hk:Lt.Kn m w){I:Value->Option (Value×Value×Int)}(HI:Lt.cL Tryz.prog 37 [.v] (.aH [.v,.v,.i .i64]) I){x:Value}(hx:Lt.bd [x]=true){r:Value×Value×Int}(hr:I x=some r)(h0:r.2.2 =0)
 {b o c:Nat} {xs:List Int} (hn:xs.length<=1000000000) (hcp:xs.length<=c) (L:Lt.aL m x (.slice (some ⟨b,o,none⟩) xs.length c)) (hcell:∀i,i<xs.length->w.cell? ⟨b,o+i,none⟩=some (.int .u8 (xs.getD i 0)))
 {k:Nat} {st:List Value} (hst:Lt.rowOf r.2.1 =some (k,st)) (hk1:1<k) (hk2:k=st.length) (hk3:k<=1000000) {S:List Int} (hS:Lt.ve st=some S) {l:List Value} (hl:Lt.zP xs S=some l):
 Calls Tryz.prog 43 #[.slice (some ⟨b,o,none⟩) xs.length c] w λe w'=>∃v,e=.returned (.tuple #[v,.int .i64 0])/\RowKit.Below w.heap.size w w'/\Lt.aL (Lt.cG m w w') (Lt.ae l.length l) v:=by
 refine(callsIn_wide (n:=0)).1 ?_;refine callsIn_of_wp_marks Tryz.func43 rfl trivial ?_ rfl;simp only[Tryz.ntmps43,pO,bX,List.length_nil,Nat.reduceAdd,Nat.reduceSub,pJ,pK,pN,pL,fA,eE];have CI:=Lt.Zk HI hr hx hk L;rw[h0] at CI
 gi_wp2
 refine⟨trivial,rfl,(callsIn_wide.2 CI).mono ?_⟩
 rintro e w1 ⟨ai,bi,rfl,BB,HL⟩
 obtain⟨pa,ca,rfl,hrow⟩:=Lt.Fv hst HL;obtain⟨pb,po,ys,rfl,hca,hys,hyc⟩:=hrow (by omega);obtain⟨tA,hSi⟩:=Lt.ints_at hS hys;obtain⟨hll,hla⟩:=Lt.Jf hl;obtain rfl:k=S.length:=by omega
 have hat:∀i z,S[i]? =some z->w1.cell? ⟨pb,po+i,none⟩=some (.int .i64 z):=λi z h=>hyc i _ (hSi i z h) w1 (hk.new BB);have hcell1:∀i,i<xs.length->w1.cell? ⟨b,o+i,none⟩=some (.int .u8 (xs.getD i 0)):=λi hi=>(BB.cell (p:=⟨b,o+i,none⟩) (iX _ _ (hcell i hi))).trans (hcell i hi);clear hk2 tA hSi hys hyc hrow HL CI hcell hst hS hl
 gi_wp2
 refine⟨trivial,rfl,(callsIn_wide.2 (ZE _ _ _ _ _ _ _)).mono ?_⟩
 rintro e w2 ⟨rfl,rfl⟩
 gi_wp2
 obtain⟨z,hz⟩:∃z,z=w1.heap.size:=⟨_,rfl⟩;obtain⟨w2,hw2⟩:∃w2,w2=((w1.alloc (.cells #[.slice none 0 0] 35)).alloc (.cells #[.slice (some ⟨b,o,none⟩) xs.length c] 26)).alloc (.cells #[.slice (some ⟨pb,po,none⟩) S.length ca] 47):=⟨_,rfl⟩;have J0:RowKit.Below z w1 w2/\w2.heap.size=z+3/\w2.heap[z]? =some (.cells #[.slice none 0 0] 35 (0,0))/\w2.heap[z+1]? =some (.cells #[.slice (some ⟨b,o,none⟩) xs.length c] 26 (0,0))/\w2.heap[z+1+1]? =some (.cells #[.slice (some ⟨pb,po,none⟩) S.length ca] 47 (0,0)):=by
  rw[hw2,hz];refine⟨(((eX _ w1).alloc (aM _) _).alloc (by simp) _).alloc (by simp;omega) _,by simp,?_,?_,?_⟩;all_goals
   simp only[Qd,jk,dM]
   repeat rw[aq (by omega)]
 rw[<-hw2,<-hz];clear hw2;obtain⟨J1,J2,J3,J4,J5⟩:=J0;refine Bc (gf:=149) (lb:=#[.pointer (some ⟨z+1+1,0,none⟩),.pointer (some ⟨z+1,0,none⟩)]) rfl (enters_of Tryz.func149 (by kernel_rfl) rfl) ?_;intro fn W1 hW1;refine(callsIn_wide (n:=0)).1 ?_;generalize hR0:iS fn _ _ _ _ _ .ready=R0 at hW1⊢;obtain⟨q,hq⟩:∃q,q=w2.heap.size:=⟨_,rfl⟩;have j0:uz w1 z q R0 (.slice (some ⟨b,o,none⟩) xs.length c) (.slice (some ⟨pb,po,none⟩) S.length ca) xs S 0 W1:=by
  have bl:RowKit.Below w2.heap.size w2 W1:=by rw[hW1];exact((eX _ w2).alloc (aM _) _).alloc (by simp) _
  have k:∀{q o},w2.heap[q]? =some o->W1.heap[q]? =some o:=λ{q o} e=>(bl.block q (fa.1 e).1).trans e;refine⟨J1.trans (bl.mono (by omega)),⟨_,[],k J3,World.ownsRow_nil _ _ _ _,λi u h=>by simp at h⟩,k J4,k J5,?_,?_⟩
  ·rw[hW1,hq];exact(Below.heap_alloc _ _ _ (by simp)).trans (World.alloc_heap_new w2 _)
  ·have:=World.alloc_heap_new (w2.alloc (.deferred (some []))) (.loop R0);rw[jk] at this;rw[hW1,hq];exact this
 rw[<-hq];have zq3:z+3<=q:=by omega
 have z1:z<=w1.heap.size:=by omega
 have z2:w1.heap.size<=z:=by omega
 clear hq hW1 J1 J2 J3 J4 J5 hz;refine(ZF (z+1+1) (z+1) (q+1) (b:=b) (o:=o) (n:=xs.length) (c:=c) (pb:=pb) (po:=po) (ca:=ca) S (by omega) hcp (λk a e h1 h2=>⟨(hla k a e h1 h2).1,(hla k a e h1 h2).2.1,(hla k a e h1 h2).2.2.1⟩) (uz w1 z q R0 (.slice (some ⟨b,o,none⟩) xs.length c) (.slice (some ⟨pb,po,none⟩) S.length ca) xs S) (λk W h=>⟨(cell_of h.b4).1,(cell_of h.b3).1,λi v hv=>?_⟩) (λk W h=>h.drew) ?hy W1 j0 (by omega)).mono ?_
 ·have:pb<w1.heap.size:=iX _ _ (hat i v hv);exact(h.gp.cell (p:=⟨pb,po+i,none⟩) (by show pb<z;omega)).trans (hat i v hv)
 case hy=>
  intro k a e W hj hka hke;obtain⟨gp,⟨v2,vs,c2,r2,cl⟩,c3,c4,d1,d2⟩:=hj;have d20:=d2;rw[<-hR0] at d2;refine(Ft (n:=0) (R:=uz w1 z q R0 (.slice (some ⟨b,o,none⟩) xs.length c) (.slice (some ⟨pb,po,none⟩) S.length ca) xs S (k+1)) d2 rfl ?_).mono λe' W' h=>h;rw[hR0] at d2⊢;generalize iS fn _ _ _ _ _ .busy=R1;have D2:=Lib.hid d2;clear d2
  gi_wp2
  have mixed:Tryz.prog.follows .mixedOrders=true:=by kernel_rfl
  obtain⟨W2,hW2⟩:∃W2,W2=W.putObj (q+1) (.loop R1):=⟨_,rfl⟩;have zl:q+1<W.heap.size:=(fa.1 d20).1;have s2:W2.heap.size=W.heap.size:=by rw[hW2];simp
  have pk:∀j,j≠q+1->W2.heap[j]? =W.heap[j]? :=λj h=>by rw[hW2];exact World.putObj_heap_other h
  have k2:=(pk _ (by omega)).trans c2;have r22:=vr (W':=W2) r2 λg cur _ hg _=>pk g (by omega);obtain⟨_,l2,l3,_⟩:=hla k a e hka hke;have kS:k+1<S.length:=(oN.1 hke).1;have HC:=Tryz.bytes_Clone_at ⟨b,o+a,none⟩ (e -a) (c -a) ((xs.drop a).take (e -a)) W2.drew (by rw[dk,eU];omega) (by omega) (λi hi=>by have h1:=hcell1 (a+i) (by omega);have h2:b<w1.heap.size:=iX _ _ h1;have h3:W2.cell? ⟨b,o+(a+i),none⟩=w1.cell? ⟨b,o+(a+i),none⟩:=jj (a:=⟨b,o+(a+i),none⟩) ((pk b (by omega)).trans (gp.block b (by omega)));rw[Addr.add_lit,oP];refine(show W2.drew.cell? _=W2.cell? _ from rfl).trans (h3.trans (h1.trans ?_));simp only[List.getD,pM,sJ,ay hi]);have AP:∀(W7:World)(v':Value),RowKit.Below W2.heap.size W2 W7->W7.ownsRow W2.heap.size 5 1 v' (e -a) (((xs.drop a).take (e -a)).map (Value.int .u8))->∃v9 w9,(Qg #[35,35] 35 #[v2,.slice (some ⟨W7.heap.size,0,none⟩) 1 1]).run Tryz.prog (W7.alloc (.cells #[v'] 26))=.ok v9 w9/\w9.ownsRow (q+2) 26 1 v9 (k+1) (vs++[v'])/\(W7.alloc (.cells #[v'] 26)).grownBy w9 v2.ownBlock:=by
   intro W7 v' b7 h7;obtain⟨i0,hi,hz0,hz1,hz2⟩:=info_parts bytesRow;have s7:=b7.size;have r7:=vr (W':=W7.alloc (.cells #[v'] 26)) r22 λg cur _ _ hg=>(Below.heap_alloc _ _ _ (by have:=(fa.1 hg).1;omega)).trans (b7.block g (fa.1 hg).1);have ov:v'.oneCell'=true:=by obtain⟨_,⟨rfl,_⟩|⟨_,_,_,rfl,_⟩⟩:=h7<;>rfl
   obtain⟨v9,w9,h1,h2,h3,_⟩:=run_append_own (P:=Tryz.prog) (W7.alloc (.cells #[v'] 26)) (q+2) 35 35 26 i0 (.slice none 0 0) 1 24 Tryz.underlying35 hi hz0 hz1 hz2 rfl (by decide) v2 k vs r7 ⟨W7.heap.size,0,none⟩ 1 1 [v'] rfl (cell_one_new _ _ _) (by simp[ov]) (by show _<=9223372036854775807;omega) (by omega) (by simp;omega);exact⟨v9,w9,h1,h2,h3⟩
  rw[<-hW2];have HC:=Lib.hid HC;have HW:=Lib.hid hW2;clear hW2;have f0:=(cell_of k2).1;have HS:=Lib.hid s2;clear l2 l3 zl s2;have zW:z<W2.heap.size:=(fa.1 k2).1;have nz:some z≠v2.ownBlock:=λh=>by have:=(LI r22 h.symm).1;omega
  gi_region_with_o (refine⟨trivial,rfl,(CallsIn.inRound _ (callsIn_wide.2 HC.out)).mono ?_⟩;rintro e' W7 ⟨v',rfl,h7,cF,b7⟩;obtain⟨v9,w9,hrun,h9,g9⟩:=AP W7 v' ⟨b7.os,b7.tape,b7.output,b7.size,b7.block⟩ h7;obtain⟨g7,c7,rfl⟩:=agB h7 cF;obtain⟨gr,cr,rfl⟩:=ownsRow_succ h9;have k7:=(b7.block z zW).trans k2;have ka7:=λo=>(Below.heap_alloc W7 o z (fa.1 k7).1).trans k7;have k9:=(g9.block z (by rw[jk];have:=(fa.1 k7).1;omega) nz).trans (ka7 _);obtain⟨f7,_⟩:=cell_of k7;have fa7:=λo=>(cell_of (ka7 o)).1;obtain⟨f9,fz9⟩:=cell_of k9)
  all_goals
   have b8:RowKit.Below W.heap.size (W.putObj (q+1) (.loop R1)) W7:=by rw[<-HW.out,<-HS.out];exact⟨b7.os,b7.tape,b7.output,b7.size,b7.block⟩
   have h8:W7.ownsRow W.heap.size 5 1 (.slice (some ⟨g7,0,none⟩) (e -a) c7) (e -a) (((xs.drop a).take (e -a)).map (Value.int .u8)):=by rw[<-HS.out];exact h7
   exact aan (by omega) gp r2 cl c2 c3 c4 d1 d20 hka hke h8 b8 h9 g9
 rintro e W2 ⟨⟨v,rfl⟩,j⟩
 refine⟨⟨_,rfl⟩,j.b6,?_⟩;generalize iS fn _ _ _ _ _ .exhausted=R9;obtain⟨gp,⟨v2,vs,c2,r2,cl⟩,c3,c4,d1,d2⟩:=j;obtain⟨W3,hW3⟩:∃W3,W3=W2.putObj (q+1) (.loop R9):=⟨_,rfl⟩;have pk:∀k,k≠q+1->W3.heap[k]? =W2.heap[k]? :=λk hk=>by rw[hW3];exact World.putObj_heap_other hk
 have zq:q+1<W2.heap.size:=(fa.1 d2).1;have bel3:RowKit.Below z w1 W3:=by refine gp.trans ?_;rw[hW3];exact⟨rfl,rfl,rfl,by simp,λk hk=>World.putObj_heap_other (by omega)⟩
 rw[<-hW3];clear hW3;replace c2:=(pk _ (by omega)).trans c2;replace d1:=(pk _ (by omega)).trans d1;have p2:=(cell_of c2).1
 gi_wp2
 refine⟨by simp,.inl ⟨_,_,rfl,run_takeDeferred d1,?_⟩⟩;have po:∀k,k≠q->(W3.putObj q (.deferred none)).heap[k]? =W3.heap[k]? :=λk h=>World.putObj_heap_other h;have kp:∀k,q+2<=k->(W3.putObj q (.deferred none)).heap[k]? =W2.heap[k]? :=λk h=>(po k (by omega)).trans (pk k (by omega));refine⟨.tuple #[v2,.int .i64 0],by simp[results,Tryz.f43,go_sem],_,rfl,?_,?_⟩
 ·exact BB.trans ((bel3.mono (by have:=BB.size;omega)).trans ⟨rfl,rfl,rfl,by simp,λk hk=>World.putObj_heap_other (by have:=BB.size;omega)⟩)
 ·exact Dy (by have:=BB.size;omega) (vr r2 λg cur _ hg _=>kp g hg) (λi u h=>(cl i u h).tC λg cur _ hg _=>kp g hg) hll (by omega) λi a e h1 h2=>(hla i a e h1 h2).2.2.2
theorem aai{w:World}{y:Value}{P:Value->World->Prop}{z:Int}(CI:Calls Tryz.prog 37 #[y] w λe W'=>∃a b,e=.returned (.tuple #[a,b,.int .i64 z])/\RowKit.Below w.heap.size w W'/\P b W')(h0:¬z=0):
 Calls Tryz.prog 43 #[y] w λe w'=>e=.returned (.tuple #[.slice none 0 0,.int .i64 z])/\RowKit.Below w.heap.size w w':=by
 refine(callsIn_wide (n:=0)).1 ?_;refine callsIn_of_wp_marks Tryz.func43 rfl trivial ?_ rfl;simp only[Tryz.ntmps43,pO,bX,List.length_nil,Nat.reduceAdd,Nat.reduceSub,pJ,pK,pN,pL,fA,eE]
 gi_wp2
 refine⟨trivial,rfl,(callsIn_wide.2 CI).mono ?_⟩
 rintro e w1 ⟨ai,bi,rfl,BB,_⟩
 gi_wp2
 exact⟨.tuple #[.slice none 0 0,.int .i64 z],by simp[results,Tryz.f43,go_sem],rfl,BB⟩
namespace Lt
theorem aap{I:Value->Option (Value×Value×Int)}(HI:cL Tryz.prog 37 [.v] (.aH [.v,.v,.i .i64]) I):cL Tryz.prog 43 [.v] nj (Dz I):=by
 refine .mk λls r e hl us hu=>?_;obtain⟨x,r1,us1,h1,h2,rfl⟩:=gE hu;obtain⟨rfl,rfl⟩:=nw h2;obtain rfl:=kR h1;have hx:bd [x]=true:=hl x (by simp);replace e:Dz I x=some r:=e;unfold Dz at e;obtain⟨t,ht,e⟩:=ax e;by_cases h0:t.2.2 =0
 case neg=>rw[show aj t.2.2 0=false by rw[vf];exact gk h0] at e;have e:r=(ae 0 [],t.2.2):=(jB e).symm;refine⟨xy (by rw[e];rfl),_,rfl,zj λm args' w hm A=>?_⟩;subst e;obtain⟨al⟩:=args';replace A:bG m _ al:=A;obtain⟨y,_,rfl,a0,A⟩:=PW.inv A;obtain rfl:=A.dO;exact(aai (Zk HI ht hx hm a0) h0).mono λe w' ⟨h1,h2⟩=>⟨_,h1,h2,.fV⟩
 rw[show aj t.2.2 0=true by rw[vf];exact fC h0] at e;have e2:jS x _=some r:=e;refine⟨xy (Dn e2 λxs r e=>?_),_,rfl,zj λm args' w hm A=>?_⟩
 ·obtain⟨_,e⟩:=aX e;split at e
  ·obtain⟨_,e⟩:=aX e;obtain⟨_,_,e⟩:=ax e;obtain⟨_,_,e⟩:=ax e;cases e;rfl
  ·cases e
 obtain⟨al⟩:=args';replace A:bG m _ al:=A;obtain⟨_,_,rfl,a0,A⟩:=PW.inv A;obtain rfl:=A.dO;obtain⟨xs,hK,hv⟩:=wX hm e2 a0;obtain⟨hn,hK⟩:=aX hK;split at hK
 case h_2=>cases hK
 rename_i k st hst;obtain⟨hq,hK⟩:=aX hK;obtain⟨S,hS,hK⟩:=ax hK;obtain⟨l,hl2,hK⟩:=ax hK;cases hK;simp only[bu] at hq;have q1:=eQ hq.1;have q2:=bV hq.2.1;have q3:=dX hq.2.2;obtain⟨_,hla⟩:=Jf hl2;have hpos:0<xs.length:=by have tA:S.length=st.length:=RV hS;obtain⟨_,h2,h3,_⟩:=hla 0 _ _ (cu (show 0<S.length by omega)) (cu (show 1<S.length by omega));omega
 obtain⟨a,c,rfl,hc,hcell⟩|⟨rfl,_⟩:=hv
 ·obtain⟨b,o,sp⟩:=a;obtain rfl:sp=none:=by
   generalize xs.length=n at a0 hpos;cases a0 with
   |kZ _ _ _ hs _ _=>exact hs
   |fV=>exact absurd hpos (Nat.lt_irrefl 0)
   |zk=>exact absurd hpos (Nat.lt_irrefl 0)
  exact aao hm HI hx ht h0 (dX hn) hc a0 (λi hi=>by have:=hcell i hi;rwa[Addr.add_lit] at this) hst q1 q2 q3 hS hl2
 ·exact absurd hpos (Nat.lt_irrefl 0)
end Lt
end
namespace Lt
section
variable{β:Type}
@[simp] theorem aV(a b:Int):ak a b=decide (a<b):=nD a b
@[simp] theorem cg(a b:Int):aj a b=decide (a=b):=by rw[vf];rfl
@[simp] theorem mE(a b:Nat):Nat.blt a b=decide (a<b):=by rw[ir,bZ,Nat.blt_eq]
@[simp] theorem gq(a b:Nat):Nat.ble a b=decide (a<=b):=by rw[ir,bZ,iV]
@[simp] theorem zM(a b:Nat):Nat.beq a b=decide (a=b):=by rw[ir,bZ,Nat.beq_eq]
@[simp] theorem qH{α:Type}{p:Prop}[Decidable p](a b:α):cond (decide p) a b=if p then a else b:=by by_cases h:p<;>simp
theorem ami{α:Type}(c:Bool)(a b:α):cond c a b=if c=true then a else b:=by cases c<;>rfl
@[simp] theorem aB{α β:Type}(a:α)(f:α->Option β):ob (some a) f=f a:=rfl
@[simp] theorem amk{α β:Type}(f:α->Option β):ob none f=none:=rfl
@[simp] theorem iG{α γ δ:Type}(a:α)(f:α->δ)(g:γ->δ):dt (.inl a) f g=f a:=rfl
@[simp] theorem Ic{α γ δ:Type}(a:γ)(f:α->δ)(g:γ->δ):dt (.inr a) f g=g a:=rfl
@[simp] theorem aZ(x:Value)(r:List Value)(K:Value->List Value->Option β):af (x::r) K=K x r:=rfl
@[simp] theorem amm(K:Value->List Value->Option β):af [] K=none:=rfl
@[simp] theorem amj(r:Option β):oB [] r=r:=rfl
@[simp] theorem bE(k:IntKind)(n:Int)(K:Int->Option β):ar k (.int k n) K=K n:=by unfold ar;simp
@[simp] theorem amd(b:Bool)(K:Bool->Option β):zI (.bool b) K=K b:=rfl
@[simp] theorem amh(s:ByteArray)(K:ByteArray->Option β):zJ (.string s) K=K s:=rfl
@[simp] theorem bR(n:Nat)(K:Nat->Option β):aA (n:Int) K=K n:=rfl
@[simp] theorem amf(n:Nat)(K:Nat->Option β):aA (Int.ofNat n) K=K n:=rfl
@[simp] theorem amg(K:Nat->Option β):aA 0 K=K 0:=rfl
@[simp] theorem ame(n:Nat)(K:Nat->Option β):aA (no_index(OfNat.ofNat n)) K=K (OfNat.ofNat n):=rfl
theorem lU{n:Int}(h:0<=n)(K:Nat->Option β):aA n K=K n.toNat:=by obtain⟨m,rfl⟩:=Int.eq_ofNat_of_zero_le h;rfl
@[simp] theorem acy(n:Nat)(c:List Value)(K:Nat->Option β):au (ae n c) K=K n:=rfl
@[simp] theorem aaR[QF](x:Value)(r:Option β):kU x x r=r:=xf x r
theorem SH(sz m n:Nat)(c:List Value)(K:List Value->Option β):aI sz m (ae n c) K=if m<n then K (c.drop (m*sz)) else none:=by unfold aI ae;simp
theorem aah(sz l h n:Nat)(c:List Value)(K:Value->Option β):gR sz l h (ae n c) K=K (ae (h -l) ((c.drop (l*sz)).take ((h -l)*sz))):=rfl
theorem abe(E n:Nat)(c:List Value)(K:Nat->List Value->Option β):ed E (ae n c) K=if n*E<=c.length then K n (c.take (n*E)) else none:=by unfold ed ae;simp
@[simp] theorem aml(n:Nat):aE n=decide (n<=1000000000):=by unfold aE;rw[gq]
theorem aN{n:Int}(h1:-9223372036854775808<=n)(h2:n<9223372036854775808):ag .i64 n=n:=by
 unfold ag;have:vh .i64 n=true:=by
  cases n with
  |ofNat m=>show Nat.blt m 9223372036854775808=true;simp_all;omega
  |negSucc m=>show Nat.blt m 9223372036854775808=true;rw[mE,bZ];omega
 grind
theorem sS{n:Int}(h1:0<=n)(h2:n<18446744073709551616):ag .u64 n=n:=by
 unfold ag;have:vh .u64 n=true:=by
  cases n with
  |ofNat m=>show Nat.blt m 18446744073709551616=true;simp_all;omega
  |negSucc m=>omega
 grind
@[simp] theorem jd(a b:Int):Int.sub a b=a -b:=rfl
@[simp] theorem cc(a b:Int):Int.add a b=a+b:=rfl
@[simp] theorem o8(a b:Int):Int.mul a b=a*b:=rfl
@[simp] theorem bU(n:Nat):Int.ofNat n=(n:Int):=rfl
theorem acI{α:Type}(z:α)(F:α->α)(n:Nat):lp z F (n+1)=F (lp z F n):=rfl
theorem eG{α:Type}(z:α)(F:α->α){n:Nat}(h:0<n):lp z F n=F (lp z F (n -1)):=by
 cases n with
 |zero=>omega
 |succ n=>rfl
theorem gS{α γ:Type}{z:α}{F:α->α}{r:γ}{w:Nat}(ev:Nat->α->γ)(m:Nat)(hs:∀i g,i<m->ev i (F g)=ev (i+1) g)(he:∀g,ev m (F g)=r)(h:m<w):ev 0 (lp z F w)=r:=by
 have:∀(d i v:Nat),i+d=m->d<v->ev i (lp z F v)=r:=by
  intro d;induction d with
  |zero=>intro i v hi hv;rw[eG z F (by omega),show i=m by omega,he]
  |succ d ih=>
   intro i v hi hv;rw[eG z F (by omega)]
   grind
 grind
def aC{α:Type}(f:α->List Value)(l:List α):Value:=ae l.length (l.flatMap f)
def bg(b:UInt8):Value:=.int .u8 (b.toNat:Int)
def pY(b:UInt8):List Value:=[bg b]
def ah(l:List UInt8):Value:=aC pY l
theorem cS{α:Type}{f:α->List Value}{k:Nat}(hf:∀x,(f x).length=k):∀l:List α,(l.flatMap f).length=l.length*k
 |[]=>by simp
 |x::l=>by rw[dK,aS,hf,cS hf l,bX,lP,Nat.one_mul,Nat.add_comm]
theorem nB{α:Type}{f:α->List Value}{k:Nat}(hf:∀x,(f x).length=k):∀(l:List α)(m:Nat),(l.flatMap f).drop (m*k)=(l.drop m).flatMap f
 |l,0=>by simp
 |[],m+1=>by simp
 |x::l,m+1=>by rw[dK,lP,Nat.one_mul,Nat.add_comm (m*k),<-List.drop_drop,List.drop_left' (hf x),nB hf l m];rfl
theorem xk{α:Type}{f:α->List Value}{k:Nat}(hf:∀x,(f x).length=k):∀(l:List α)(m:Nat),(l.flatMap f).take (m*k)=(l.take m).flatMap f
 |l,0=>by simp
 |[],m+1=>by simp
 |x::l,m+1=>by rw[dK,lP,Nat.one_mul,Nat.add_comm (m*k),List.take_append,fg (by rw[hf];omega),hf,Ix,xk hf l m];rfl
@[simp] theorem cw{α:Type}(f:α->List Value)(l:List α)(K:Nat->Option β):au (aC f l) K=K l.length:=rfl
theorem bt{α:Type}{f:α->List Value}{k:Nat}(hf:∀x,(f x).length=k){l:List α}{m:Nat}(h:m<l.length)(K:List Value->Option β):aI k m (aC f l) K=K (f l[m]++(l.drop (m+1)).flatMap f):=by unfold aC;rw[SH,ay h,nB hf,dw h,dK]
theorem uR{α:Type}{f:α->List Value}{k:Nat}(hf:∀x,(f x).length=k)(l:List α){a b:Nat}(h:b<=l.length)(K:Value->Option β):gR k a b (aC f l) K=K (aC f ((l.drop a).take (b -a))):=by
 unfold aC;rw[aah,nB hf,xk hf]
 grind
theorem Al{α:Type}{f:α->List Value}{k:Nat}(hf:∀x,(f x).length=k)(l:List α)(K:Nat->List Value->Option β):ed k (aC f l) K=K l.length (l.flatMap f):=by unfold aC;rw[abe,cS hf,ay (aM _),fg (by rw[cS hf];exact aM _)]
theorem Jh(b:UInt8):(pY b).length=1:=rfl
@[simp] theorem cN(l:List UInt8)(K:Nat->Option β):au (ah l) K=K l.length:=rfl
theorem oA{l:List UInt8}{m:Nat}(h:m<l.length)(K:List Value->Option β):aI 1 m (ah l) K=K (bg l[m]::(l.drop (m+1)).flatMap pY):=bt Jh h K
theorem nv(l:List UInt8){a b:Nat}(h:b<=l.length)(K:Value->Option β):gR 1 a b (ah l) K=K (ah ((l.drop a).take (b -a))):=uR Jh l h K
theorem iC(l:List UInt8)(K:Nat->List Value->Option β):ed 1 (ah l) K=K l.length (l.flatMap pY):=Al Jh l K
theorem iL(l:List UInt8):l.flatMap pY=l.map bg:=by
 induction l with
 |nil=>rfl
 |cons x l ih=>rw[dK,ih];rfl
@[simp] theorem pW(b:UInt8)(K:Int->Option β):ar .u8 (bg b) K=K (b.toNat:Int):=bE _ _ _
theorem acH{α:Type}{z:α}{F:α->α}{G:Nat->α}(h:lp z F=G)(n:Nat):G (n+1)=F (G n):=by subst h;rfl
end
theorem vN{w:Nat}(h:4<=w)(a b:Int):rb w a b=some (fT a b):=by
 obtain⟨v,rfl⟩:=wE h;have e:G5 (v+4) (ae 3 [Value.int IntKind.i64 1,Value.int IntKind.i64 2,Value.int IntKind.i64 4]) a=some (if a=1 then 0 else if a=2 then 1 else if a=4 then 2 else-1):=by
  unfold G5 On;simp[acI,SH,aN,@eq_comm _ _ a]
  repeat' split
  all_goals rfl
 unfold rb Oh;rw[e];simp[fT,CH];have hb:(if b=1 then some true else some (decide (b=2)))=some (b==1||b==2):=by by_cases hb:b=1<;>grind
 rw[hb];by_cases h1:a=1
 ·simp[h1]
 ·by_cases h2:a=2
  ·simp[h2]
  ·by_cases h4:a=4
   ·simp[h4]
   ·simp_all
theorem tH{s o:Int}(h:fT s o=true):(s=1\/s=2\/s=4)/\(o=1\/o=2):=by
 unfold fT CH at h
 grind
theorem agt{n b:Nat}(hn:n<2^40)(hb:b<256):(BitVec.ofInt 64 ((n:Int)*256)|||BitVec.ofInt 64 (b:Int)).toNat=n*256+b:=by
 rw[(show((n:Int)*256)=((n*256:Nat):Int) from by omega),BitVec.ofInt_natCast];have:=Nat.shiftLeft_add_eq_or_of_lt (i:=8) (by omega) n;rw[Nat.shiftLeft_eq] at this
 grind
theorem Vl{l:List UInt8}{p s:Nat}{o:Int}(h:p+s<=l.length):(gN l p s o).length=s:=by
 unfold gN
 grind
theorem agP{l:List UInt8}{p s i:Nat}{o:Int}(h:p+s<=l.length)(hi:i<s):(gN l p s o)[i]'(by rw[Vl h];exact hi)=if o=1 then l[p+s -1 -i]'(by omega) else l[p+i]'(by omega):=by
 unfold gN
 grind
theorem BP{w:Nat}(hw:5<=w)(l:List UInt8)(hl:l.length<2^60)(p s o:Int)(hp:p<2^62):
 jM w (ah l) p s o=some (match o6 l p s o with|some n=>(n,true)|none=>(0,false)):=by
 unfold jM o6 Nl;rw[vN (by omega)];cases hm:fT s o with
 |false=>simp
 |true=>
  obtain⟨hs,ho⟩:=tH hm;simp only[aB,bJ,aF,aV,qH,cN];by_cases h0:p<0
  ·rw[ay h0,aq (by omega)]
  rw[aq h0];rw[aN (by simp;omega) (by simp;omega)];by_cases h1:(Int.ofNat l.length).sub s<p
  ·rw[ay h1,aq (by simp at h1;omega)]
  rw[aq h1,ay ⟨trivial,by omega,by simp at h1;omega⟩];obtain⟨p,rfl⟩:=Int.eq_ofNat_of_zero_le (Int.not_lt.1 h0);obtain⟨s,rfl⟩:=Int.eq_ofNat_of_zero_le (a:=s) (by omega);have hps:p+s<=l.length:=by simp at h1;omega
  have hs4:s<=4:=by omega
  have hk:=Vl (o:=o) hps;refine gS (ev:=λi (g:Value->Int->Int->Int->Int->Int->Int->Option (Int×Bool))=>g (ah l) p s o (hU ((gN l p s o).take i):Int) s i) s ?_ ?_ (by omega)
  ·intro i g hi;have hi':((i:Int)<(s:Int)):=by omega
   have hn:hU ((gN l p s o).take i)<2^40:=oQ (K0 _) (by
    rw[dk,hk];exact fu (Nat.pow_le_pow_right (by decide) (show min i s<=4 by omega)) (by decide))
   have e1:(gN l p s o).take (i+1)=(gN l p s o).take i++[(gN l p s o)[i]'(by omega)]:=by rw[iI (by omega)]
   simp only[hi',dM,cg];have hb:=agt hn (gN l p s o)[i].toNat_lt;have hv:hU ((gN l p s o).take i)*256+(gN l p s o)[i].toNat<2^50:=by have:=(gN l p s o)[i].toNat_lt;omega
   rw[e1,Eu];rw[agP hps hi] at hb hv⊢;by_cases h2:o=1
   ·simp only[h2,aW,aD,dM] at hb hv⊢;simp(disch:=omega) only[jd,cc,aN,lU];rw[oA (show(((p:Int)+s -1 -i).toNat<l.length) by omega)];have e2:((p:Int)+s -1 -i).toNat=p+s -1 -i:=by omega
    simp(disch:=omega) only[e2,aZ,pW,o8,aN];rw[show((2:Int)^8)=256 from rfl];simp(disch:=omega) only[aN,hb];rfl
   ·simp only[h2,bF,aF,gQ] at hb hv⊢;simp(disch:=omega) only[jd,cc,aN,lU];rw[oA (show(((p:Int)+i).toNat<l.length) by omega)];have e2:((p:Int)+i).toNat=p+i:=by omega
    simp(disch:=omega) only[e2,aZ,pW,o8,aN];rw[show((2:Int)^8)=256 from rfl];simp(disch:=omega) only[aN,hb];rfl
  ·intro g;simp[hk,fg]
section
variable{β:Type}
@[simp] theorem Fb(n:Nat)(v:Value)(c:List Value):bh n [v] c=c.set n v:=rfl
theorem Fa:∀(vs old pre post:List Value),old.length=vs.length->bh pre.length vs (pre++(old++post))=pre++(vs++post)
 |[],old,pre,post,h=>by obtain rfl:=qC.1 h;rfl
 |v::vs,[],pre,post,h=>by grind
 |v::vs,o::old,pre,post,h=>by
  have:=Fa vs old (pre++[v]) post (by grind);show bh (pre.length+1) vs ((pre++(o::old++post)).set pre.length v)=_
  grind
theorem Zf{c:List Value}{n:Nat}(h:n<c.length)(K:Value->List Value->Option β):af (c.drop n) K=K c[n] (c.drop (n+1)):=by rw[dw h];rfl
def mO(l:List UInt8)(k:Nat):List UInt8:=(List.range l.length).map λj=>if j<k\/l.length -k<=j then(l[l.length -1 -j]?).getD 0 else(l[j]?).getD 0
@[simp] theorem Wi(l:List UInt8)(k:Nat):(mO l k).length=l.length:=by simp[mO]
theorem xW(l:List UInt8)(k j:Nat)(h:j<l.length):(mO l k)[j]? =if j<k\/l.length -k<=j then l[l.length -1 -j]? else l[j]? :=by
 unfold mO
 grind
theorem ahM(l:List UInt8):mO l 0=l:=by
 apply rC;intro j;by_cases h:j<l.length
 ·rw[xW _ _ _ h,aq (by omega)]
 simp_all
theorem ahK(l:List UInt8){k:Nat}(hk:l.length<=2*k+1):mO l k=l.reverse:=by
 apply rC;intro j;by_cases h:j<l.length
 ·rw[xW _ _ _ h]
  grind
 simp_all
theorem ahL(l:List UInt8){k:Nat}(hk:2*k+1<l.length):((mO l k).set k (l[l.length -1 -k]'(by omega))).set (l.length -1 -k) (l[k]'(by omega))=mO l (k+1):=by
 apply rC;intro j;by_cases h:j<l.length
 ·rw[xW _ _ _ h,List.getElem?_set,List.getElem?_set,xW _ _ _ h];simp
  grind
 simp_all
theorem Tu{pre m post:List UInt8}{k:Nat}{b:UInt8}(h:m[k]? =some b)(hk:pre.length+k<((pre++(m++post)).map bg).length):((pre++(m++post)).map bg)[pre.length+k]=bg b:=by grind
theorem KS(pre m post:List UInt8){k:Nat}(b:UInt8)(h:k<m.length):((pre++(m++post)).map bg).set (pre.length+k) (bg b)=(pre++(m.set k b++post)).map bg:=by simp_all
theorem Qr(b:UInt8):(SV.i IntKind.u8 (b.toNat:Int)).cells.length.beq 1=true:=rfl
theorem N9{w:Nat}(pre l post:List UInt8)(hl:l.length<2^60)(hw:l.length+1<w)(c:Nat):tZ w pre.length l.length c ((pre++(l++post)).map bg)=some ((pre++(l.reverse++post)).map bg):=by
 unfold tZ;rw[jd,bU,aN (by omega) (by omega),<-ahK l (k:=l.length/2) (by omega)];rw[show(pre++(l++post))=pre++(mO l 0++post) by rw[ahM],show(l.length:Int) -1=(l.length:Int) -1 -((0:Nat):Int) by omega];refine gS (ev:=λi (g:Nat->Nat->Nat->Int->Int->List Value->Option (List Value))=>g pre.length l.length c i ((l.length:Int) -1 -i) ((pre++(mO l i++post)).map bg)) (l.length/2) ?_ ?_ (show l.length/2<w by omega)
 ·intro i g hi;have e1:((i:Int)<(l.length:Int) -1 -i):=by omega
  simp(disch:=omega) only[aV,e1,aW,aD,lU,mT,mE,gB];have e2:((l.length:Int) -1 -i).toNat=l.length -1 -i:=by omega
  rw[e2];have h1:l.length -1 -i<l.length:=by omega
  have h2:i<l.length:=by omega
  have h3:((pre++(mO l i++post)).map bg).length=pre.length+(l.length+post.length):=by simp
  have g1:((pre++(mO l i++post)).map bg)[pre.length+(l.length -1 -i)]'(by omega)=bg (l[l.length -1 -i]):=Tu (by
   rw[xW _ _ _ h1,aq (by omega),cu h1]) _
  have g2:((pre++(mO l i++post)).map bg)[pre.length+i]'(by omega)=bg (l[i]):=Tu (by
   rw[xW _ _ _ h2,aq (by omega),cu h2]) _
  simp only[h1,h2,aD];rw[Zf (by omega),g1];simp only[pW];rw[Zf (by omega),g2];simp only[pW,Qr,gq,nM];have f1:pre.length+i+1<=((pre++(mO l i++post)).map bg).length:=by omega
  have f2:pre.length+(l.length -1 -i)+1<=((pre++(mO l i++post)).map bg).length:=by omega
  simp only[f1,f2,aD,Fb,jd,cc];rw[aN (by omega) (by omega),aN (by omega) (by omega)];rw[show Value.int IntKind.u8 (l[l.length -1 -i].toNat:Int)=bg l[l.length -1 -i] from rfl,show Value.int IntKind.u8 (l[i].toNat:Int)=bg l[i] from rfl];rw[KS _ _ _ _ (by rw[Wi];exact h2),KS _ _ _ _ (by rw[List.length_set,Wi];exact h1),ahL l (by omega)];rw[show(l.length:Int) -1 -i -1=(l.length:Int) -1 -((i+1:Nat):Int) by omega];rfl
 ·intro g;have e1:¬(((l.length/2:Nat):Int)<(l.length:Int) -1 -((l.length/2:Nat):Int)):=by omega
  simp only[aV,e1,bF,aF]
theorem acJ{α α':Type}{z:α}{F:α->α}{z':α'}{F':α'->α'}(R:α->α'->Prop)(h0:R z z')(hs:∀g g',R g g'->R (F g) (F' g'))(w:Nat):R (lp z F w) (lp z' F' w):=by
 induction w with
 |zero=>exact h0
 |succ w ih=>exact hs _ _ ih
theorem ajM(w a b:Nat)(c:List Value):GM w a b c=tZ w 0 a b c:=by
 refine acJ (R:=λ(g:Nat->Nat->Int->Int->List Value->Option (List Value))(g':Nat->Nat->Nat->Int->Int->List Value->Option (List Value))=>∀a b i j c,g a b i j c=g' 0 a b i j c) ?_ ?_ w _ _ _ _ _
 ·intros;rfl
 ·intro g g' h a b i j c;simp_all
theorem ajL{w:Nat}(l:List UInt8)(hl:l.length<2^60)(hw:l.length+1<w)(c:Nat):GM w l.length c (l.map bg)=some (l.reverse.map bg):=by
 rw[ajM];have:=N9 [] l [] hl hw c
 grind
theorem Qm:∀(i n:Nat),eP n (i+1)=UInt8.ofNat (n/256^i%256)::eP n i
 |0,n=>by simp[eP]
 |i+1,n=>by show eP (n/256) (i+1)++_=_;rw[Qm i (n/256)];show _=_::(eP (n/256) i++_);rw[eE,Nat.div_div_eq_div_mul,Nat.pow_succ,mY]
theorem ajK{s:Int}(h:s=1\/s=2\/s=4)(w:Nat):yz w s=some ((256^s.toNat:Nat):Int):=by rcases h with rfl|rfl|rfl<;>rfl
theorem alV(i:Nat):(2:Int)^(8*i)=((256^i:Nat):Int):=by rw[<-(show(2:Nat)^(8*i)=256^i from by rw[Nat.pow_mul])];simp
theorem oo(l:List UInt8):ah l=ae l.length (l.map bg):=by unfold ah aC;rw[iL]
theorem tP:∀n:Nat,rep n (Value.int IntKind.u8 0).cells.toList=(List.replicate n (0:UInt8)).map bg
 |0=>rfl
 |n+1=>by show _=bg 0::_;rw[<-tP n];rfl
theorem su{w:Nat}(hw:8<=w)(n s o:Int):im w n s o=some (match(if fT s o=true then pA n s.toNat o else none) with|some l=>(ah l,true)|none=>(ae 0 [],false)):=by
 unfold im;rw[vN (by omega)];cases hm:fT s o with
 |false=>simp
 |true=>
  obtain⟨hs,ho⟩:=tH hm;unfold pA;simp only[aB,bJ,aF,aV,qH,dM];by_cases h0:n<0
  ·rw[ay h0,aq (by omega)]
  rw[aq h0,ajK hs];simp only[aB];by_cases h1:¬n<((256^s.toNat:Nat):Int)
  ·rw[aq (by omega)];simp only[h1,bF,gh,aD]
  replace h1:=qA.1 h1;rw[ay (by omega)];obtain⟨n,rfl⟩:=Int.eq_ofNat_of_zero_le (Int.not_lt.1 h0);obtain⟨s,rfl⟩:=Int.eq_ofNat_of_zero_le (a:=s) (by omega);have hs4:s<=4:=by omega
  have hr:Nat.ble s 1000000000=true:=by rw[iV];omega
  have hr2:Nat.ble s s=true:=by rw[iV];omega
  simp only[h1,aW,bJ,aF];simp only[bR,hr,hr2,kj,tP,mT,oM];rw[show List.replicate s (0:UInt8)=List.replicate (s -0) 0++eP n 0 by simp[eP]];refine gS (ev:=λi (g:Int->Int->Int->Nat->Nat->Int->Int->List Value->Option (Value×Bool))=>g n s o s s s i ((List.replicate (s -i) (0:UInt8)++eP n i).map bg)) s ?_ ?_ (by omega)
  ·intro i g hi;have e1:((i:Int)<(s:Int)):=by omega
   simp only[e1,dM];have e2:(ag IntKind.u64 (Int.mul 8 (ag IntKind.u64 (i:Int))))=((8*i:Nat):Int):=by rw[o8,sS (n:=(i:Int)) (by omega) (by omega),sS (by omega) (by omega)];omega
   have e3:(n:Int).fdiv (2^min ((8*i:Nat):Int).toNat 64)=((n/256^i:Nat):Int):=by rw[mT,lC (by omega),alV,Int.fdiv_eq_ediv_of_nonneg _ (Int.natCast_nonneg _)];rfl
   have e4:ag IntKind.u8 ((n/256^i:Nat):Int)=((UInt8.ofNat (n/256^i%256)).toNat:Int):=by rw[oV,IntKind.wrap_u8];simp
   rw[e2,aq (by omega),e3,e4];simp(disch:=omega) only[jd,cc,aN,lU,Qr,eJ,gq,mE];have e5:((s:Int) -1 -i).toNat=s -1 -i:=by omega
   have e6:s -1 -i<s:=by omega
   have e7:((List.replicate (s -i) (0:UInt8)++eP n i).map bg).length=s:=by simp[oX];omega
   have e8:0+(s -1 -i)*1+1<=s:=by omega
   simp only[e5,e6,e7,e8,aW,aD];rw[show 0+(s -1 -i)*1=s -1 -i by omega,Fb,show Value.int IntKind.u8 ((UInt8.ofNat (n/256^i%256)).toNat:Int)=bg (UInt8.ofNat (n/256^i%256)) from rfl];have e9:(List.replicate (s -i) (0:UInt8)++eP n i)=List.replicate (s -1 -i) 0++([0]++eP n i):=by rw[<-dV,<-List.replicate_succ',show s -1 -i+1=s -i by omega]
   have e10:=KS (List.replicate (s -1 -i) 0) [0] (eP n i) (k:=0) (UInt8.ofNat (n/256^i%256)) (by simp);rw[uu,Nat.add_zero] at e10;rw[e9,e10,Qm,show s -(i+1)=s -1 -i by omega];rfl
  ·intro g;simp;unfold aY;have hb:=oX s n;by_cases h2:o=1
   ·subst h2;have:=ajL (w:=w) (eP n s) (by omega) (by omega) s;rw[hb] at this;simp only[show aj 1 1=true from rfl,aD,this,aB,eu,dM];rw[oo,List.length_reverse,hb]
   ·simp_all;rw[oo,hb]
end
theorem Ij(l:List UInt8)(s m i:Nat)(h:i<l.length)(hs:0<s)(hm:m<=l.length)(hd:m%s=0):(iq l s m)[i]? =if i<m then l[i -i%s+(s -1 -i%s)]? else l[i]? :=by
 rw[CN _ _ _ _ h];split
 ·next h1=>
  have:i -i%s+(s -1 -i%s)<l.length:=by
   have h3:=Nat.div_add_mod i s;have h4:=Nat.div_add_mod m s;have h5:i/s<m/s:=by apply Nat.lt_of_mul_lt_mul_left (a:=s);omega
   have h6:s*(i/s+1)<=s*(m/s):=Nat.mul_le_mul_left _ h5;rw[Nat.mul_add] at h6;omega
  grind
 ·rw[cu h];rfl
theorem Y3(l:List UInt8){s i:Nat}(hs:0<s)(h:i*s+s<=l.length):
 iq l s ((i+1)*s)=(iq l s (i*s)).take (i*s)++((((iq l s (i*s)).drop (i*s)).take s).reverse++(iq l s (i*s)).drop (i*s+s)):=by
 apply rC;intro j;have e1:(i+1)*s=i*s+s:=by rw[lP,Nat.one_mul]
 have d1:(i*s)%s=0:=Nat.mul_mod_left _ _;have d2:((i+1)*s)%s=0:=Nat.mul_mod_left _ _;have hlen:=pG l s (i*s);by_cases hj:j<l.length
 ·rw[Ij _ _ _ _ hj hs (by omega) d2];by_cases h1:j<i*s
  ·rw[ay (by omega),wC (by rw[dk];omega),zo h1,Ij _ _ _ _ hj hs (by omega) d1,ay h1]
  ·by_cases h2:j<i*s+s
   ·have hm:j%s=j -i*s:=by
     have:=pR (show j -i*s<s by omega);rw[<-this]
     conv=>lhs;rw[show j=(j -i*s)+s*i by rw[mY s i];omega]
     rw[Nat.add_mul_mod_self_left]
    rw[ay (by omega),ur (by rw[dk];omega),dk,hlen,lC (by omega)];rw[wC (by rw[List.length_reverse,dk,eU];omega)];rw[List.getElem?_reverse (by rw[dk,eU];omega),dk,eU,hlen,lC (by omega)];rw[zo (by omega),sJ,Ij _ _ _ _ (by omega) hs (by omega) d1,aq (by omega),hm]
    congr 1
    omega
   ·rw[aq (by omega),ur (by rw[dk];omega),ur (by simp;omega)];simp;rw[Ij _ _ _ _ (by omega) hs (by omega) d1,aq (by omega)]
    congr 1
    omega
 ·rw[kL (by rw[pG];omega),kL (by simp;omega)]
theorem Y2(l:List UInt8)(s:Nat):iq l s 0=l:=by
 apply rC;intro i;by_cases h:i<l.length
 ·rw[CN _ _ _ _ h,cu h];rfl
 ·rw[kL (by rw[pG];omega),kL (by omega)]
theorem Hn(w:Nat){a b c:Int}(h:-2^62<c/\c<2^62)(ha:a<2^62):vW w a b c=some (decide (0<=a/\0<=b/\a<=c/\b<=c -a)):=by
 unfold vW;simp;by_cases h1:a<0
 ·simp[h1];omega
 by_cases h2:b<0
 ·simp_all;omega
 by_cases h3:c<a
 ·simp_all;omega
 rw[aN (by omega) (by omega)];by_cases h4:c -a<b<;>grind
theorem akG(w:Nat){n:Nat}(h:n<2^60):Hs w (n:Int)=some (aJ n:Int):=by
 unfold Hs aJ;have e:(BitVec.ofInt 64 (n:Int)&&&BitVec.ofInt 64 1).toNat=n%2:=by simp
 rw[e,aN (n:=((n%2:Nat):Int)) (by omega) (by omega),cc,aN (by omega) (by omega)];rfl
theorem Y0{w:Nat}(l:List UInt8)(hl:l.length<2^29)(hw:l.length+10<=w)(s:Nat)(o:Int)(hs:(s:Int)=1\/(s:Int)=2\/(s:Int)=4\/(s:Int)=8)(ho:o=1\/o=2):
 lp (λ(x8 x9:Int)(x10 x11:Nat)(x12:Int)(x13:List Value)=>(none:Option Value))
     (λ(x14:Int->Int->Nat->Nat->Int->List Value->Option Value)(x15 x16:Int)(x17 x18:Nat)(x19:Int)(x20:List Value)=>
      bif aj x16 1 then
       bif !ak (Int.ofNat x17) (ag IntKind.i64 (x19.add x15)) then
        aA (ag IntKind.i64 (x19.add x15)) λx21=>
         aA x19 λx22=>
          bif x21.ble x18&&x22.ble x21 then
           ob (tZ w (bif x18.beq x22 then 0 else 0+x22*1) (x21 -x22) (x18 -x22) x20) λx23=>
            x14 x15 x16 x17 x18 (ag IntKind.i64 (x19.add x15)) x23
          else none
       else some (ae x17 (List.drop 0 x20))
      else some (ae x17 (List.drop 0 x20)))
     w (s:Int) o l.length l.length 0 (l.map bg)=some (if o=1 then ah (iq l s (l.length/s*s)) else ah l):=by
 have hs0:0<s:=by omega
 have hs8:s<=8:=by omega
 have hd2:l.length/s<=l.length:=Nat.div_le_self _ _;by_cases h1:o=1
 ·subst h1;have hd:s*(l.length/s)<=l.length:=Nat.mul_div_le _ _;have hd3:l.length<s*(l.length/s)+s:=Nat.lt_mul_div_succ _ hs0;rw[show l.map bg=(iq l s (s*0)).map bg by rw[Nat.mul_zero,Y2],ay rfl];refine gS (ev:=λi (g:Int->Int->Nat->Nat->Int->List Value->Option Value)=>g (s:Int) 1 l.length l.length ((s*i:Nat):Int) ((iq l s (s*i)).map bg)) (l.length/s) ?_ ?_ (by omega)
  ·intro i g hi;have hle:s*(i+1)<=s*(l.length/s):=Nat.mul_le_mul_left _ hi;have e1:s*(i+1)=s*i+s:=by rw[Nat.mul_add,gB]
   have e2:(((s*i:Nat):Int).add (s:Int))=((s*(i+1):Nat):Int):=by rw[cc,e1];omega
   simp only[e2,show aj 1 1=true from rfl,aD,aV,bU];rw[aN (by omega) (by omega)];have e3:¬((l.length:Int)<((s*(i+1):Nat):Int)):=by omega
   simp only[e3,bF,gh,aD,bR,gq,zM];have e4:s*(i+1)<=l.length:=by omega
   have e5:s*i<=s*(i+1):=by omega
   have e6:¬(l.length=s*i):=by omega
   simp only[e4,e5,e6,aW,bF,kj,aD,aF];have hlen:=pG l s (s*i);have:=N9 (w:=w) ((iq l s (s*i)).take (s*i)) (((iq l s (s*i)).drop (s*i)).take s) ((iq l s (s*i)).drop (s*i+s)) (by simp;omega) (by simp;omega) (l.length -s*i);rw[<-mY i s,<-Y3 l hs0 (by rw[mY];omega),mY i s,mY (i+1) s,<-List.drop_drop,lO,lO,dk,dk,eU,hlen,lC (by omega),lC (by omega)] at this;rw[show 0+s*i*1=s*i by omega,show s*(i+1) -s*i=s by omega,this];rfl
  ·intro g;simp only[show aj 1 1=true from rfl,aD,aV,bU,cc];rw[aN (by omega) (by omega)];have e3:((l.length:Int)<((s*(l.length/s):Nat):Int)+(s:Int)):=by omega
   simp_all;rw[oo,pG,mY]
 ·rw[aq h1,eG _ _ (by omega)];simp only[cg,h1,bF,aF,eu,oo]
theorem akI{w:Nat}(l:List UInt8)(hl:l.length<2^29)(hw:l.length+10<=w)(s o:Int):
 Ht w (ah l) s o=some (if fT s o=true\/(s=8/\fT 1 o=true) then(if o=1 then ah (iq l s.toNat (l.length/s.toNat*s.toNat)) else ah l) else ae 0 []):=by
 unfold Ht Nd;rw[vN (by omega)];have hr:Nat.ble l.length 1000000000=true:=by rw[iV];omega
 have hr2:Nat.ble l.length l.length=true:=by rw[iV];omega
 have hi:bh 0 (List.take (l.length*1) (l.map bg)) (List.map bg (List.replicate l.length 0))=l.map bg:=by have:=Fa (l.map bg) (List.map bg (List.replicate l.length 0)) [] [] (by simp);simp only[List.length_nil,fA,dW] at this;rw[gB,fg (by simp),this]
 have hq:((l.map bg).length.beq (l.length*1)&&(0+l.length*1).ble (List.map bg (List.replicate l.length 0)).length)=true:=by simp
 by_cases hc:¬(fT s o=true\/(s=8/\fT 1 o=true))
 ·rw[aq hc];have hm:fT s o=false:=by cases h:fT s o<;>simp_all
  simp[aD];by_cases h8:s=8
  ·have hm1:fT 1 o=false:=by cases h:fT 1 o<;>simp_all
   simp_all;rw[vN (by omega),hm1];rfl
  ·simp_all
 replace hc:=qA.1 hc;have hs:s=1\/s=2\/s=4\/s=8:=by
  rcases hc with h|h
  ·have:=(tH h).1;omega
  ·omega
 have ho:o=1\/o=2:=by
  rcases hc with h|h
  ·exact(tH h).2
  ·exact(tH h.2).2
 obtain⟨s,rfl⟩:=Int.eq_ofNat_of_zero_le (a:=s) (by omega);have hs0:0<s:=by omega
 have hs8:s<=8:=by omega
 rw[ay hc,mT];cases hm:fT s o;all_goals simp only[aB,bJ,gh,aD,aF]
 ·have h8:(s:Int)=8:=by rcases hc with h|h;(rw[hm] at h;cases h);exact h.1
  have hm1:fT 1 o=true:=by rcases hc with h|h;(rw[hm] at h;cases h);exact h.2
  rw[vN (by omega),hm1,show aj (s:Int) 8=true by rw[h8];rfl];simp only[bJ,aF,aB,cN,iC,hr,hr2,kj,aD,tP,iL,Nat.min_self];rw[hq,aD,hi];exact Y0 l hl hw s o hs ho
 ·simp only[cN,iC,hr,hr2,kj,aD,tP,iL,Nat.min_self];rw[hq,aD,hi];exact Y0 l hl hw s o hs ho
theorem yD(w:Nat)(t:Int):sD w t=some (kindOf t):=by
 by_cases o:t<1\/12<t
 ·rw[Ed o];unfold sD;simp only[aV,qH];by_cases h:t<0
  ·rw[ay h]
  rw[aq h];by_cases h2:12<t
  ·rw[ay h2]
  rw[show t=0 by omega];rfl
 ·have hc:t=1\/t=2\/t=3\/t=4\/t=5\/t=6\/t=7\/t=8\/t=9\/t=10\/t=11\/t=12:=by omega
  rcases hc with rfl|rfl|rfl|rfl|rfl|rfl|rfl|rfl|rfl|rfl|rfl|rfl<;>rfl
theorem Au(t:Int):0<=(kindOf t).1 /\(kindOf t).1 <=8:=by
 by_cases o:t<1\/12<t
 ·rw[Ed o];exact⟨by decide,by decide⟩
 ·have hc:t=1\/t=2\/t=3\/t=4\/t=5\/t=6\/t=7\/t=8\/t=9\/t=10\/t=11\/t=12:=by omega
  rcases hc with rfl|rfl|rfl|rfl|rfl|rfl|rfl|rfl|rfl|rfl|rfl|rfl<;>exact⟨by decide,by decide⟩
theorem Yg(w:Nat)(t:Int):Ci w t=some (kindOf t).1 :=by unfold Ci;rw[yD];rfl
theorem PB:∀l:List UInt8,rq (l.map bg)=some (l.map λb=>(b.toNat:Int))
 |[]=>rfl
 |b::l=>by show ob (rq (l.map bg)) _=_;rw[PB l];rfl
theorem sY{β:Type}(l:List UInt8)(K:List Int->Option β):jS (ah l) K=K (l.map λb=>(b.toNat:Int)):=by rw[oo];show cond (Nat.ble l.length (l.map bg).length) (ob (rq ((l.map bg).take l.length)) K) none=_;rw[fg (by simp),PB,cZ,show Nat.ble l.length l.length=true by rw[iV];exact aM _];rfl
theorem ZP(l:List UInt8):Lib.bytesOf (l.map λb=>(b.toNat:Int))=l:=by
 unfold Lib.bytesOf;rw[List.map_map]
 conv=>rhs;rw[<-List.map_id l]
 apply List.map_congr_left;simp
theorem QZ(b:UInt8)(l:List UInt8):zZ (b::l)=(((b==0)==l.isEmpty)&&zZ l):=by
 unfold zZ;rw[bX,uw,List.all_cons,List.all_map]
 grind
theorem Si:∀l:List UInt8,l≠[]->((Lib.indexByte l 0=(l.length:Int) -1)↔zZ l=true)
 |[],h=>absurd rfl h
 |[b],_=>by
  rw[QZ];by_cases hb:b=0
  ·subst hb;decide
  ·simp[hb,Lib.indexByte]
 |b::c::l,_=>by
  rw[QZ];have ih:=Si (c::l) (by simp);unfold Lib.indexByte;by_cases hb:b=0
  ·subst hb;simp;omega
  ·have hb':(b==0)=false:=by simpa using hb
   simp only[hb',gQ,List.isEmpty_cons,BEq.rfl,eJ];rw[<-ih];by_cases h1:Lib.indexByte (c::l) 0=-1
   ·simp;omega
   ·have h1':(Lib.indexByte (c::l) 0==-1)=false:=by simpa using h1
    simp only[h1',gQ];simp
theorem aks(w:Nat){l:List UInt8}(h:l≠[]):Cf w (ah l) 0=some (Lib.indexByte l 0):=by
 unfold Cf;rw[sY,ZP];cases l with
 |nil=>grind
 |cons b l=>rfl
theorem yG(w:Nat)(ty az:Int)(l:List UInt8)(hl:l.length<2^40):qy w ty az (ah l)=some (er ty az l):=by
 unfold qy er;rw[yD];have hk:=Au ty;simp;by_cases h1:(kindOf ty).1 =0
 ·simp[h1]
 by_cases h2:az<1
 ·rw[ay h2];have:¬(1<=az):=by omega
  simp[this]
 rw[aq h2];by_cases h3:65536<az
 ·rw[ay h3];have:¬(az<=65536):=by omega
  simp[this]
 rw[aq h3];have h5:az*(kindOf ty).1 <=65536*8:=Int.mul_le_mul (by omega) (by omega) (by omega) (by omega);have h6:0<=az*(kindOf ty).1 :=Int.mul_nonneg (by omega) (by omega);rw[aN (by omega) (by omega)];by_cases h4:(l.length:Int)=az*(kindOf ty).1
 ·have h1':(kindOf ty).1 ≠0:=h1;have h2':1<=az:=by omega
  have h3':az<=65536:=by omega
  have h0:l≠[]:=by
   rintro rfl
   have:1*1<=az*(kindOf ty).1 :=Int.mul_le_mul h2' (by omega) (by decide) (by omega);simp at h4;omega
  rw[aks w h0];simp only[h4,h1',h2',h3',aW,bJ,aF,aB,ne_eq,and_self,eJ];rw[<-h4,aN (by omega) (by omega)];have:=Si l h0;by_cases h7:ty=2
  ·subst h7;simp_all
  ·simp[h7]
 ·simp[h4]
theorem SN(t:Int)(h:(kindOf t).1 ≠0):(kindOf t).2.1 =1\/(kindOf t).2.1 =2\/(kindOf t).2.1 =4\/(kindOf t).2.1 =8:=by obtain⟨s,m,e1,e2,e3⟩:=KE t h;omega
theorem Yi{w:Nat}(ty az:Int)(l:List UInt8)(hl:l.length<2^29)(hw:l.length+10<=w)(o:Int)(ho:o=1\/o=2):
 Ck w ty az (ah l) o=some (match py ty az l o with|some d=>(ty,az,ah d,true)|none=>(0,0,ae 0 [],false)):=by
 unfold Ck py;rw[yD];have hk:=Au ty;simp only[aB,cg,aV,qH,cN,bU,o8];by_cases h1:(kindOf ty).1 =0
 ·simp[h1]
 rw[aq h1];by_cases h2:az<1
 ·rw[ay h2,aq (by omega)]
 rw[aq h2];by_cases h3:65536<az
 ·rw[ay h3,aq (by omega)]
 rw[aq h3];have h5:az*(kindOf ty).1 <=65536*8:=Int.mul_le_mul (by omega) (by omega) (by omega) (by omega);have h6:0<=az*(kindOf ty).1 :=Int.mul_nonneg (by omega) (by omega);rw[aN (by omega) (by omega)];by_cases h4:(l.length:Int)<az*(kindOf ty).1
 ·rw[ay h4,aq (by omega)]
 rw[aq h4];have h7:(az*(kindOf ty).1).toNat<=l.length:=by omega
 simp only[lU h6,gq,h7,ia,aW,aD];rw[nv l h7,eu,Nat.sub_zero];have hlen:(l.take (az*(kindOf ty).1).toNat).length=(az*(kindOf ty).1).toNat:=by rw[dk];omega
 rw[akI _ (by omega) (by omega)];have hc:fT (kindOf ty).2.1 o=true\/((kindOf ty).2.1 =8/\fT 1 o=true):=by rcases(SN ty h1) with h|h|h|h<;>rcases ho with rfl|rfl<;>rw[h]<;>simp[fT,CH]
 rw[ay hc];obtain⟨s,m,e1,e2,e3⟩:=KE ty h1;have hd:(l.take (az*(kindOf ty).1).toNat).length/(kindOf ty).2.1.toNat*(kindOf ty).2.1.toNat=(l.take (az*(kindOf ty).1).toNat).length:=by rw[hlen,e1,mT];apply Nat.div_mul_cancel;rw[e2];refine⟨az.toNat*m,?_⟩;obtain⟨c,rfl⟩:=Int.eq_ofNat_of_zero_le (a:=az) (by omega);rw[<-Int.natCast_mul,mT,mT,<-Nat.mul_assoc,mY]
 rw[hd];have ht:(if o=1 then ah (iq (l.take (az*(kindOf ty).1).toNat) (kindOf ty).2.1.toNat (l.take (az*(kindOf ty).1).toNat).length) else ah (l.take (az*(kindOf ty).1).toNat))=ah (iT (l.take (az*(kindOf ty).1).toNat) (kindOf ty).2.1.toNat o):=by unfold iT;split<;>rfl
 rw[ht];simp;rw[yG _ _ _ _ (by rw[wo];omega)];cases hm:er ty az (iT (l.take (az*(kindOf ty).1).toNat) (kindOf ty).2.1.toNat o) with
 |true=>rw[ay ⟨h1,by omega,by omega,by omega,rfl⟩];rfl
 |false=>rw[aq (by simp)];rfl
theorem Tb(ty az:Int):0<=jf ty az/\jf ty az<=65536*8:=by
 unfold jf;have hk:=Au ty;split
 ·simp
 ·exact⟨Int.mul_nonneg (by omega) (by omega),Int.mul_le_mul (by omega) (by omega) (by omega) (by simp)⟩
theorem Yl(w:Nat)(ty az:Int):Co w ty az=some (jf ty az):=by
 have hs:=Tb ty az;unfold Co;unfold jf at hs⊢;simp;by_cases h1:az<1
 ·rw[ay h1,ay (.inl h1)]
 rw[aq h1];by_cases h2:65536<az
 ·rw[ay h2,ay (.inr h2)]
 rw[aq h2,aq (by omega),Yg];simp;rw[aN (by omega) (by omega)]
theorem Yh(w:Nat)(ty az:Int):Cj w ty az=some (bO ty az:Int):=by
 unfold Cj bO;rw[Yl];simp
 grind
theorem akJ(w:Nat)(ty az:Int):Hw w ty az=some (decide (0<jf ty az/\jf ty az<=4)):=by
 unfold Hw;rw[Yl];simp;by_cases h:0<jf ty az
 ·rw[ay h];by_cases h2:4<jf ty az
  ·grind
  grind
 grind
def dc{α:Type}(p:α->Bool)(l:List α):Int:=match l.findIdx? p with
 |some i=>(i:Int)
 |none=>-1
theorem xr{α:Type}(p:α->Bool)(l:List α):dc p l<0↔l.all (λx=>!p x)=true:=by
 unfold dc;cases h:l.findIdx? p with
 |none=>grind
 |some i=>
  obtain⟨hi,h1,-⟩:=List.findIdx?_eq_some_iff_getElem.1 h
  grind
theorem mJ{α δ:Type}{z:δ}{F:δ->δ}{w:Nat}(l:List α)(p:α->Bool)(ev:Nat->δ->Option Int)(hs:∀i g (h:i<l.length),ev i (F g)=if p l[i]=true then some (i:Int) else ev (i+1) g)(he:∀g,ev l.length (F g)=some (-1))(hw:l.length<w):
 ev 0 (lp z F w)=some (dc p l):=by
 have key:∀(d i v:Nat),i+d=l.length->d<v->ev i (lp z F v)=some (match(l.drop i).findIdx? p with|some j=>((i+j:Nat):Int)|none=>-1):=by
  intro d;induction d with
  |zero=>
   intro i v hi hv;obtain rfl:i=l.length:=by omega
   rw[eG z F (by omega),he,rB];rfl
  |succ d ih=>
   intro i v hi hv;have hlt:i<l.length:=by omega
   rw[eG z F (by omega),hs i _ hlt,dw hlt,List.findIdx?_cons];by_cases hp:p l[i]=true
   ·rw[ay hp,ay hp];rfl
   ·grind
 have:=key l.length 0 w (by omega) hw;rw[this,eu];unfold dc;cases l.findIdx? p<;>simp
theorem akL{w:Nat}(l:List UInt8)(hl:l.length<2^40)(hw:l.length<w):OY w (ah l)=some (dc (λb=>b !=0) l):=by
 refine mJ l (λb=>b !=0) (ev:=λi (g:Value->Int->Int->Option Int)=>g (ah l) l.length i) ?_ ?_ hw
 ·intro i g h;have e1:((i:Int)<(l.length:Int)):=by omega
  simp only[aV,e1,aD,bR];rw[oA h];simp only[aZ,pW];unfold OV;simp only[cg,cc];rw[aN (by omega) (by omega)];have e2:(decide ((l[i].toNat:Int)=0))=!(l[i]!=0):=by rw[ir];simp[<-nX]
  rw[e2];cases l[i]!=0<;>simp
 ·intro g;simp
theorem akK{w:Nat}(l:List UInt8)(hl:l.length<2^40)(hw:l.length<w):Hy w (ah l)=some (!l.all (·==0)):=by
 unfold Hy;rw[akL l hl hw];simp;have:=xr (λb:UInt8=>b !=0) l
 grind
theorem Mh(n:Int)(o:Int):pA n 4 o=if 0<=n/\n<4294967296 then some (aY n.toNat 4 o) else none:=rfl
def Ik(ty az slot order:Int):Option (List UInt8×Bool):=
 if 0<=slot/\slot<4294967296/\0<jf ty az/\jf ty az<=4 then
  (py ty az (aY slot.toNat 4 order) order).map λd=>(d,((aY slot.toNat 4 order).drop d.length).all (·==0))
 else none
theorem ac6{ty az:Int}{b d:List UInt8}{o:Int}(h:py ty az b o=some d):d.length<=b.length:=by
 unfold py at h;split at h
 ·cases h;rw[wo,dk];omega
 grind
theorem akD{w:Nat}(hw:100<=w)(tag ty az slot o:Int)(ho:o=1\/o=2):
 Hr w tag ty az slot o=some (match Ik ty az slot o with|some (d,c)=>(ty,az,ah d,c,true)|none=>(0,0,ae 0 [],false,false)):=by
 unfold Hr Ik;rw[su (by omega),ay (by rcases ho with rfl|rfl<;>rfl),show(4:Int).toNat=4 from rfl,Mh,akJ];by_cases h1:¬(0<=slot/\slot<4294967296)
 ·rw[aq h1,aq (by omega)];rfl
 replace h1:=qA.1 h1;rw[ay h1];by_cases h2:¬(0<jf ty az/\jf ty az<=4)
 ·rw[aq (by omega)];simp[h2]
 simp_all;have hl:(aY slot.toNat 4 o).length=4:=eB _ _ _;rw[Yi ty az _ (by omega) (by omega) o ho];cases hv:py ty az (aY slot.toNat 4 o) o with
 |none=>rfl
 |some d=>simp[(ac6 hv)];rw[nv _ (aM _),fg (by rw[eU];omega),akK _ (by rw[eU];omega) (by rw[eU];omega)];simp
theorem Hv{w:Nat}(hw:5<=w)(l:List UInt8)(hl:l.length<2^60)(s o p:Int)(ok:Bool)(hp:0<=p/\p<2^60)(hs:0<=s/\s<=8):
 vY w s (ah l) o p ok=some ((o6 l p s o).getD 0,ah l,o,p+s,ok&&(o6 l p s o).isSome):=by
 unfold vY OX;rw[BP hw l hl p s o (by omega)];simp;rw[aN (by omega) (by omega)]
 grind
theorem akA{w:Nat}(hw:5<=w)(l:List UInt8)(hl:l.length<2^50)(p:Nat)(o:Int)(ho:o=1\/o=2):
 Hp w (ah l) p o=some (if p+12<=l.length then((cm l p 2 o:Int),(cm l (p+2) 2 o:Int),(cm l (p+4) 4 o:Int),(cm l (p+8) 4 o:Int),true) else(0,0,0,0,false)):=by
 unfold Hp;rw[cN];by_cases hp:¬(p+12<=l.length)
 ·by_cases hb:(p:Int)<2^62
  ·rw[Hn w ⟨by simp;omega,by simp only[oM];omega⟩ hb];have:¬(0<=(p:Int)/\(0:Int)<=12/\(p:Int)<=Int.ofNat l.length/\(12:Int)<=Int.ofNat l.length -p):=by
    simp;omega
   simp only[aB,this,bF,gh,aD];rw[aq hp]
  ·unfold vW;have e1:¬((p:Int)<0):=by omega
   have e2:Int.ofNat l.length<(p:Int):=by simp;omega
   simp only[aV,e1,e2,bF,aW,gh,bJ,aD,aF,show decide ((12:Int)<0)=false from rfl,aB];rw[aq hp]
 replace hp:=qA.1 hp;rw[ay hp,Hn w ⟨by simp;omega,by simp only[oM];omega⟩ (by omega)];have:(0<=(p:Int)/\(0:Int)<=12/\(p:Int)<=Int.ofNat l.length/\(12:Int)<=Int.ofNat l.length -p):=by simp;omega
 simp_all;have g:∀(k s:Nat),(s=2\/s=4)->k+s<=12->(o6 l ((p:Int)+k) s o).isSome=true/\(o6 l ((p:Int)+k) s o).getD 0=(cm l (p+k) s o:Int):=by intro k s hs hk;have:=xm (l:=l) (p:=p+k) (s:=s) (by omega) ho (by omega);rw[show((p+k:Nat):Int)=(p:Int)+k by omega] at this;unfold cm;rw[show((p+k:Nat):Int)=(p:Int)+k by omega,this];exact⟨rfl,by simp⟩
 rw[Hv hw l (by omega) 2 o p true (by omega) (by omega)];simp;rw[Hv hw l (by omega) 2 o _ _ (by omega) (by omega)];simp;rw[Hv hw l (by omega) 4 o _ _ (by omega) (by omega)];simp;rw[Hv hw l (by omega) 4 o _ _ (by omega) (by omega)];have g0:=g 0 2 (.inl rfl) (by decide);have g1:=g 2 2 (.inl rfl) (by decide);have g2:=g 4 4 (.inr rfl) (by decide);have g3:=g 8 4 (.inr rfl) (by decide);rw[show(p:Int)+((0:Nat):Int)=p by omega] at g0;rw[show(p:Int)+2+2=(p:Int)+4 by omega,show(p:Int)+4+4=(p:Int)+8 by omega];simp at g0 g1 g2 g3;rw[g0.1,g1.1,g2.1,g3.1,g0.2,g1.2,g2.2,g3.2];rfl
def ct(t:aK):List Value:=[.int .i64 t.tag,.int .i64 t.ty,.int .i64 t.az,ah t.data]
theorem gO(t:aK):(ct t).length=4:=rfl
def aw(l:List aK):Value:=aC ct l
def mc(x:iv):List Value:=[.int .i64 x.tag,.int .i64 x.shape]
theorem tE(x:iv):(mc x).length=2:=rfl
def gG(l:List iv):Value:=aC mc l
def jy(s:bc):List Value:=[gG s.bN,.int .i64 s.at_,.int .i64 s.cC,.int .i64 s.next]
theorem yX(s:bc):(jy s).length=4:=rfl
def cq(l:List bc):Value:=aC jy l
mutual
def cU:aU->List Value
 | .mk tags subs blob=>[aw tags,ae (cd subs) (gK subs),ah blob]
def gK:cI->List Value
 | .nil=>[]
 | .cons tag d r=>.int .i64 tag::(cU d++gK r)
end
theorem kQ(d:aU):(cU d).length=3:=by cases d;rfl
theorem YL:∀s:cI,(gK s).length=cd s*4
 | .nil=>rfl
 | .cons tag d r=>by show(cU d++gK r).length+1=(cd r+1)*4;rw[aS,kQ,YL r];omega
theorem Tc{δ:Type}{z:δ}{F:δ->δ}{w:Nat}(m:Nat)(ok:Nat->Bool)(ev:Nat->δ->Option Bool)(hs:∀i g,i<m->ev i (F g)=if ok i=true then ev (i+1) g else some false)(he:∀g,ev m (F g)=some true)(hw:m<w):
 ev 0 (lp z F w)=some ((List.range m).all ok):=by
 have key:∀(d i v:Nat),i+d=m->d<v->ev i (lp z F v)=some ((List.range d).all λj=>ok (i+j)):=by
  intro d;induction d with
  |zero=>intro i v hi hv;rw[eG z F (by omega),show i=m by omega,he];rfl
  |succ d ih=>
   intro i v hi hv;rw[eG z F (by omega),hs i _ (by omega),uw];by_cases h:ok i=true
   ·rw[ih (i+1) (v -1) (by omega) (by omega)];simp[h]
    congr 2
    funext j
    congr 1;omega
   ·rw[aq h];simp[h]
 have:=key m 0 w (by omega) hw;simpa using this
theorem akn{w:Nat}(hw:8<=w)(n:Int):yL w n=some (mS n):=by unfold yL;rw[su hw];have hm:fT 2 2=true:=rfl;rw[ay hm];unfold pA mS;by_cases h:0<=n/\n<65536<;>simp[h]
theorem GW(w:Nat)(tags:List aK)(subs:cI)(blob:List UInt8)(h:tags.length+cd subs<2^60):kH w (aw tags) (ae (cd subs) (gK subs)) (ah blob)=some (bH (.mk tags subs blob):Int):=by
 unfold kH aw bH;simp only[cw,acy,cN,aV,qH,bU,cc];rw[aN (n:=(tags.length:Int)+(cd subs:Int)) (by omega) (by omega)];by_cases hb:blob.length=0
 ·rw[aq (by omega),ay hb];rfl
 ·rw[ay (by omega),aq hb,aN (by omega) (by omega)];rfl
theorem akk{w:Nat}(l:List iv)(n:Int)(hl:l.length<2^40)(hw:l.length<w):Oy w (gG l) n=some (dc (λx=>x.tag==n) l):=by
 refine mJ l (λx=>x.tag==n) (ev:=λi (g:Value->List Value->Int->Int->Option Int)=>g (aC mc l) [.int .i64 n] l.length i) ?_ ?_ hw
 ·intro i g h;simp_all;rw[bt tE h];unfold mc OW;simp only[eE,aZ,bE,aB,cg,cc];rw[aN (by omega) (by omega)];by_cases e2:l[i].tag=n<;>grind
 ·intro g;simp
theorem akC{w:Nat}(l:List iv)(n:Int)(hl:l.length<2^40)(hw:l.length<w):Ch w (gG l) n=some (l.any λx=>x.tag==n):=by
 unfold Ch;rw[akk l n hl hw];simp;have:=xr (λx:iv=>x.tag==n) l
 grind
def IH(S:bc):Prop:=0<=S.at_
theorem akH{w:Nat}(S:bc)(n:Int)(hs:IH S)(hl:S.bN.length<2^40)(hw:S.bN.length<w):Cm w (gG S.bN) S.at_ S.cC S.next n=some (eH S n):=by
 have hs:0<=S.at_:=hs;unfold Cm eH fy fo;rw[akC S.bN n hl hw];simp;by_cases h0:0<S.at_
 ·have h1:S.at_≠0:=by omega
  grind
 grind
theorem ahP(l:List aK):fH l=(List.range l.length).all λi=>decide (i=0)||decide ((l[i -1]?.getD ⟨0,0,0,[]⟩).tag<(l[i]?.getD ⟨0,0,0,[]⟩).tag):=by
 induction l with
 |nil=>rfl
 |cons a l ih=>
  cases l with
  |nil=>rfl
  |cons b l=>
   show(decide (a.tag<b.tag)&&fH (b::l))=_;rw[ih,bX (a:=a),uw,bX,uw];simp
   congr 1
theorem alI(S:bc)(l:List aK):kh S l=(List.range l.length).all λi=>(decide (i=0)||decide ((l[i -1]?.getD ⟨0,0,0,[]⟩).tag<(l[i]?.getD ⟨0,0,0,[]⟩).tag))&&(mS (l[i]?.getD ⟨0,0,0,[]⟩).tag&&(!eH S (l[i]?.getD ⟨0,0,0,[]⟩).tag&&er (l[i]?.getD ⟨0,0,0,[]⟩).ty (l[i]?.getD ⟨0,0,0,[]⟩).az (l[i]?.getD ⟨0,0,0,[]⟩).data)):=by
 unfold kh;rw[ahP,ir];simp;constructor
 ·grind
 ·intro h;refine⟨λi hi=>(h i hi).1,λx hx=>?_⟩;obtain⟨i,hi,rfl⟩:=List.getElem_of_mem hx
  grind
theorem akv{w:Nat}(S:bc)(l:List aK)(X Y Z:Value)(hs:IH S)(hS:S.bN.length<2^40)(hl:l.length<2^40)(hd:∀t∈l,t.data.length<2^40)(hw:S.bN.length+l.length+10<=w):
 Hj w X (aw l) Y Z (gG S.bN) S.at_ S.cC S.next=some (kh S l):=by
 unfold Hj aw;rw[cw,alI];refine Tc l.length _ (ev:=λi (g:Value->Int->Int->Value->Value->Value->Value->Int->Int->Int->Option Bool)=>g (aC ct l) l.length i (aC ct l) Y Z (gG S.bN) S.at_ S.cC S.next) ?_ ?_ (by omega)
 ·intro i g h;have e1:((i:Int)<(l.length:Int)):=by omega
  simp only[aV,e1,aW,aD,bR];rw[bt gO h,cu h];have hdi:=hd _ (cy h);have tg:∀(t:aK)(r:List Value),ct t++r=.int .i64 t.tag::.int .i64 t.ty::.int .i64 t.az::ah t.data::r:=λ_ _=>rfl;simp only[tg,aZ,bE,cc,jd,pS];rw[akn (by omega),aN (n:=(i:Int)+1) (by omega) (by omega)];simp only[aB];rw[akH S _ hs hS (by omega),yG w _ _ _ hdi];simp only[aB];have fin:∀a b:Bool,(cond a (some false) (cond (!b) (some false) (g (aC ct l) (l.length:Int) ((i:Int)+1) (aC ct l) Y Z (gG S.bN) S.at_ S.cC S.next)))=if(!a&&b)=true then g (aC ct l) (l.length:Int) ((i+1:Nat):Int) (aC ct l) Y Z (gG S.bN) S.at_ S.cC S.next else some false:=by intro a b;cases a<;>cases b<;>rfl
  rcases Bool.eq_false_or_eq_true (mS l[i].tag) with ht|ht
  ·simp only[ht,bJ,aF,eJ];by_cases h0:i=0
   ·have e2:¬((0:Int)<(i:Int)):=by omega
    have e3:decide (i=0)=true:=by simp[h0]
    simp only[e2,bF,aF,fin,e3,Bool.true_or,eJ]
   ·have e2:((0:Int)<(i:Int)):=by omega
    rw[aN (n:=(i:Int) -1) (by omega) (by omega),lU (by omega),show((i:Int) -1).toNat=i -1 by omega];rw[bt gO (show i -1<l.length by omega)];simp_all;by_cases h3:l[i -1].tag<l[i].tag<;>grind
  ·simp_all
 ·intro g;have e1:¬((l.length:Int)<(l.length:Int)):=by omega
  simp
def aP:cI->List (Int×aU)
 | .nil=>[]
 | .cons tag d r=>(tag,d)::aP r
def dT:aU->Value
 | .mk tags _ _=>aw tags
def dS:aU->Value
 | .mk _ subs _=>ae (cd subs) (gK subs)
def dB:aU->Value
 | .mk _ _ blob=>ah blob
theorem qb(d:aU):cU d=[dT d,dS d,dB d]:=by cases d;rfl
def fZ(p:Int×aU):List Value:=.int .i64 p.1 ::cU p.2
theorem uh(p:Int×aU):(fZ p).length=4:=by unfold fZ;rw[bX,kQ]
theorem uj:∀s:cI,(aP s).length=cd s
 | .nil=>rfl
 | .cons _ _ r=>by show(aP r).length+1=cd r+1;rw[uj r]
theorem Pq:∀s:cI,gK s=(aP s).flatMap fZ
 | .nil=>rfl
 | .cons t d r=>by show Value.int .i64 t::(cU d++gK r)=(Value.int .i64 t::cU d)++(aP r).flatMap fZ;rw[Pq r];rfl
theorem CG(s:cI):ae (cd s) (gK s)=aC fZ (aP s):=by unfold aC;rw[uj,Pq]
mutual
def iw(m:Nat):aU->Prop
 | .mk tags subs blob=>tags.length<=m/\cd subs<=m/\blob.length<=m/\(∀t∈tags,t.data.length<=m)/\iy m subs
def iy(m:Nat):cI->Prop
 | .nil=>True
 | .cons _ d r=>iw m d/\iy m r
end
theorem wP{m:Nat}:∀{s:cI},iy m s->∀p∈aP s,iw m p.2
 | .nil,_,p,h=>by cases h
 | .cons t d r,h,p,hp=>by
  rcases cQ.1 hp with rfl|hp
  ·exact h.1
  ·exact wP h.2 p hp
theorem DD:∀{s:cI},∀p∈aP s,fR p.2 <=jU s
 | .nil,p,h=>by cases h
 | .cons t d r,p,hp=>by
  rcases cQ.1 hp with rfl|hp
  ·exact Nat.le_max_left _ _
  ·exact fu (DD p hp) (Nat.le_max_right _ _)
theorem akg{w:Nat}(l:List iv)(n:Int)(a b c:Value)(hl:l.length<2^40)(hw:l.length<w):Oz w (gG l) n a b c=some (dc (λx=>x.tag==n) l):=by
 refine mJ l (λx=>x.tag==n) (ev:=λi (g:Value->List Value->Int->Int->Option Int)=>g (aC mc l) [.int .i64 n,a,b,c] l.length i) ?_ ?_ hw
 ·intro i g h;simp_all;rw[bt tE h];unfold mc ON;rw[aN (by omega) (by omega)];simp
 simp
theorem KJ(S:bc)(n:Int):(dc (λx:iv=>x.tag==n) S.bN<0/\fo S n=false)\/
 ∃k,∃h:k<S.bN.length,dc (λx:iv=>x.tag==n) S.bN=(k:Int)/\fo S n=true/\(lK S n).getD 0=(S.bN[k]).shape.toNat:=by
 unfold fo lK dc;cases h:S.bN.findIdx? (λx=>x.tag==n) with
 |none=>left;refine⟨by decide,?_⟩;rw[List.findIdx?_eq_none_iff] at h;rw[Bool.eq_false_iff];intro q;obtain⟨x,hx,e⟩:=List.any_eq_true.1 q;rw[h x hx] at e;cases e
 |some k=>
  right;obtain⟨hk,h1,h2⟩:=List.findIdx?_eq_some_iff_getElem.1 h;refine⟨k,hk,rfl,List.any_eq_true.2 ⟨_,cy hk,h1⟩,?_⟩;have:S.bN.find? (λx=>x.tag==n)=some S.bN[k]:=by rw[List.find?_eq_some_iff_getElem];exact⟨h1,k,hk,rfl,λj hj=>by have:=h2 j hj;simpa using this⟩
  rw[this];rfl
theorem ahO(l:List Int):nN l=(List.range l.length).all λi=>decide (i=0)||decide ((l[i -1]?.getD 0)<(l[i]?.getD 0)):=by
 induction l with
 |nil=>rfl
 |cons a l ih=>
  cases l with
  |nil=>rfl
  |cons b l=>
   show(decide (a<b)&&nN (b::l))=_;rw[ih,bX (a:=a),uw,bX,uw];simp
   congr 1
theorem YK:∀s:cI,lf s=(aP s).map Prod.fst
 | .nil=>rfl
 | .cons t d r=>by show t::lf r=t::(aP r).map Prod.fst;rw[YK r]
theorem RP(sh:List bc)(S:bc):∀s:cI,jc sh S s=(aP s).all λp=>fo S p.1 &&cK sh ((lK S p.1).getD 0) p.2
 | .nil=>by simp[jc,aP]
 | .cons t d r=>by simp only[jc,aP,List.all_cons];rw[RP sh S r,Bool.and_assoc]
def xD:Int×aU:=(0,.mk [] .nil [])
theorem abo(sh:List bc)(S:bc)(s:cI):(nN (lf s)&&jc sh S s)=(List.range (aP s).length).all λi=>
 (decide (i=0)||decide (((aP s)[i -1]?.getD xD).1 <((aP s)[i]?.getD xD).1))&&(fo S ((aP s)[i]?.getD xD).1 &&cK sh ((lK S ((aP s)[i]?.getD xD).1).getD 0) ((aP s)[i]?.getD xD).2):=by
 rw[ahO,RP,YK,cZ,ir];simp only[bu,iu,List.mem_range];have hf:∀i:Nat,((List.map Prod.fst (aP s))[i]?).getD 0=((aP s)[i]?.getD xD).1 :=by intro i;rw[List.getElem?_map];cases(aP s)[i]? <;>rfl
 simp only[hf];constructor
 ·grind
 ·intro h;refine⟨λi hi=>(h i hi).1,λx hx=>?_⟩;obtain⟨i,hi,rfl⟩:=List.getElem_of_mem hx
  grind
theorem alr{w m:Nat}(hm:m<2^38)(hw:2*m+100<=w)(sh:List bc)(hsh:iZ sh)(hl:∀s,s<sh.length->(aO sh s).bN.length<=m)(rec:Value->Value->Value->Value->Int->Option Bool)
 (d:aU) (s:Nat) (hs:s<sh.length) (hd:iw m d) (hrec:∀p∈aP (match d with| .mk _ subs _=>subs),∀k:Nat,k<sh.length->rec (cq sh) (dT p.2) (dS p.2) (dB p.2) (k:Int)=some (cK sh k p.2)):
 H8 w rec (cq sh) (dT d) (dS d) (dB d) (s:Int)=some (cK sh s d):=by
 obtain⟨tags,subs,blob⟩:=d;have hd:tags.length<=m/\cd subs<=m/\blob.length<=m/\(∀t∈tags,t.data.length<=m)/\iy m subs:=hd;have hS:sh[s]=aO sh s:=by unfold aO;rw[cu hs];rfl
 have hp:IH (aO sh s):=by
  have:=(hsh.ok s).pair;show 0<=(aO sh s).at_;by_cases q:(aO sh s).at_=0
  ·omega
  ·have:=this q;omega
 have hln:=hl s hs;unfold H8 cq cK Nb;simp only[dT,dS,dB,bR];rw[bt yX hs,hS];have tg:∀(S:bc)(r:List Value),jy S++r=gG S.bN::.int .i64 S.at_::.int .i64 S.cC::.int .i64 S.next::r:=λ_ _=>rfl;simp only[tg,aZ,bE];rw[GW w tags subs blob (by omega),akv (aO sh s) tags _ _ _ hp (by omega) (by omega) (λt ht=>by have:=hd.2.2.2.1 t ht;omega) (by omega)];simp only[aB,aV,qH,cg];generalize hE:bH (.mk tags subs blob)=E;by_cases h1:(E:Int)<1
 ·rw[ay h1];have:¬(1<=E/\E<=65535):=by omega
  simp[this]
 rw[aq h1];by_cases h2:65535<(E:Int)
 ·rw[ay h2];have:¬(1<=E/\E<=65535):=by omega
  simp[this]
 rw[aq h2];have h3:(1<=E/\E<=65535):=by omega
 simp only[h3,and_self,aW,eJ];rcases Bool.eq_false_or_eq_true (kh (aO sh s) tags) with ht|ht
 ·simp only[ht,bJ,aF,eJ];rw[cN];have sg:∀(p:Int×aU)(r:List Value),fZ p++r=.int .i64 p.1 ::dT p.2 ::dS p.2 ::dB p.2 ::r:=by
   intro p r;unfold fZ;rw[qb];rfl
  have hsl:=uj subs;have fin:∀(b:Bool)(x y:Option Bool),(cond (!b) x y)=if b=true then y else x:=by intro b x y;cases b<;>rfl
  by_cases hb:blob.length=0
  case' pos=>rw[aq (by simp only[oM];omega)];simp only[hb,aW,Bool.true_or,eJ]
  case' neg=>
   rw[ay (by simp only[oM];omega)];by_cases ha:(aO sh s).at_=0
   case pos=>rw[ay ha];simp[hb,ha]
   rw[aq ha];simp only[hb,ha,bF,ne_eq,not_false_eq_true,aW,Bool.or_true,eJ]
  all_goals
   rw[CG,cw,abo];refine Tc (aP subs).length _ (ev:=λi (g:Value->Int->Int->Value->Value->Value->Value->Value->Int->Int->Int->Option Bool)=>g (aC fZ (aP subs)) (aP subs).length i (aC jy sh) (aw tags) (aC fZ (aP subs)) (ah blob) (gG (aO sh s).bN) (aO sh s).at_ (aO sh s).cC (aO sh s).next) ?_ ?_ (by omega)
   ·intro i g h;have e1:((i:Int)<((aP subs).length:Int)):=by omega
    simp only[e1,dM,bR];rw[bt uh h,cu h];simp only[sg,aZ,bE,cc,jd,pS];rw[akg _ _ _ _ _ (by omega) (by omega)];simp only[aB];rcases KJ (aO sh s) (aP subs)[i].1 with⟨hn,hb0⟩|⟨k,hk,e,hb1,e2⟩
    ·rw[ay hn];simp only[hb0,Bool.false_and,Bool.and_false,kJ,gQ]
    ·rw[e,aq (by omega)];have hmem:=cy (l:=(aO sh s).bN) hk;have hlk:=hsh.bN s hs _ hmem;have hr:=hrec _ (cy h) ((aO sh s).bN[k]).shape.toNat (by omega);rw[mz (by omega)] at hr;have lg:∀(x:iv)(r:List Value),(mc x++r).drop 1=.int .i64 x.shape::r:=λ_ _=>rfl;rw[aN (n:=(i:Int)+1) (by omega) (by omega)];unfold gG;simp only[bR];rw[bt tE hk];simp only[lg,aZ,bE];unfold cq at hr;rw[hr];simp only[aB,fin,hb1,eJ,e2];by_cases h0:i=0
     ·have e3:decide (i=0)=true:=by simp[h0]
      rw[aq (by omega)];simp only[e3,Bool.true_or,eJ];rfl
     ·rw[ay (by omega),aN (n:=(i:Int) -1) (by omega) (by omega),lU (by omega),show((i:Int) -1).toNat=i -1 by omega];rw[bt uh (show i -1<(aP subs).length by omega),cu (show i -1<(aP subs).length by omega)];simp only[eu,sg,aZ,bE,pS];by_cases h3:(aP subs)[i -1].1 <(aP subs)[i].1
      ·simp only[h3,aW,dM,Bool.or_true,eJ];rfl
      ·simp only[h3,bF,h0,Bool.or_self,Bool.false_and,kJ,gQ]
   ·intro g;have e1:¬(((aP subs).length:Int)<((aP subs).length:Int)):=by omega
    simp only[e1,gQ]
 ·simp only[ht,gh,aD,Bool.false_and]
theorem RQ{w m:Nat}(hm:m<2^38)(hw:2*m+100<=w)(sh:List bc)(hsh:iZ sh)(hl:∀s,s<sh.length->(aO sh s).bN.length<=m)(z:Value->Value->Value->Value->Int->Option Bool):
 ∀(n:Nat)(d:aU)(s:Nat),fR d<=n->s<sh.length->iw m d->lZ z (H8 w) n (cq sh) (dT d) (dS d) (dB d) (s:Int)=some (cK sh s d)
 |0,d,s,h,_,_=>by obtain⟨tags,subs,blob⟩:=d;unfold fR at h;omega
 |n+1,d,s,h,hs,hd=>by refine alr hm hw sh hsh hl _ d s hs hd ?_;obtain⟨tags,subs,blob⟩:=d;intro p hp k hk;have hp:p∈aP subs:=hp;have:=DD p hp;unfold fR at h;exact RQ hm hw sh hsh hl z n p.2 k (by omega) hk (wP hd.2.2.2.2 p hp)
theorem aka{w m:Nat}(hm:m<2^38)(hw:2*m+100<=w)(sh:List bc)(hsh:iZ sh)(hl:∀s,s<sh.length->(aO sh s).bN.length<=m)(d:aU)(s:Nat)(hs:s<sh.length)(hd:iw m d)(jX:fR d<=w):
 Ow w (cq sh) (dT d) (dS d) (dB d) (s:Int)=some (cK sh s d):=RQ hm hw sh hsh hl _ w d s jX hs hd
def bY(x:bo):List Value:=[.int .i64 x.nS,.int .i64 x.dir,.int .i64 x.tag,.int .i64 x.at_,.int .i64 x.cC]
theorem CC(x:bo):(bY x).length=5:=rfl
theorem uT(n:Nat):aJ n<=n+1:=by unfold aJ;omega
theorem U9(ty az:Int):bO ty az<=524288:=by
 have:=Tb ty az;unfold bO
 grind
theorem Ou(w:Nat)(nS dir tag no:Int){n e:Nat}(hn:n<2^50)(he:e<2^50)(c:List Value)(hc:c.length<=1000000000):
 vU w nS dir tag n e no c=some (((aJ e+n:Nat):Int),no,c++bY ⟨nS,dir,tag,aJ e,n⟩):=by
 have hv:=uT e;unfold vU OM;rw[akG w (by omega)];simp;rw[aN (by omega) (by omega)];simp_all;rfl
theorem JD(t:aK):∀(l:List aK)(e:Nat),cf e (l++[t])=if bO t.ty t.az=0 then cf e l else aJ (cf e l)+bO t.ty t.az
 |[],e=>rfl
 |a::l,e=>by show(if bO a.ty a.az=0 then cf e (l++[t]) else cf (aJ e+bO a.ty a.az) (l++[t]))=_;rw[JD t l e,JD t l (aJ e+bO a.ty a.az)];by_cases h:bO a.ty a.az=0<;>simp[cf,h]
theorem YC(no:Nat)(t:aK):∀(l:List aK)(e:Nat),cW no e (l++[t])=cW no e l++(if bO t.ty t.az=0 then[] else[⟨3,no,t.tag,aJ (cf e l),bO t.ty t.az⟩])
 |[],e=>by simp[cW,cf]
 |a::l,e=>by by_cases h:bO a.ty a.az=0<;>simp[cW,cf,h,YC no t l]
theorem JC{K:Nat}(hK:524289<=K):∀(l:List aK)(e:Nat),cf e l<=e+l.length*K
 |[],e=>Nat.le_add_right _ _
 |a::l,e=>by
  have h1:=JC hK l e;have h2:=JC hK l (aJ e+bO a.ty a.az);have h3:=uT e;have h4:=U9 a.ty a.az;have h5:(a::l).length*K=l.length*K+K:=by rw[bX,Nat.succ_mul]
  unfold cf
  grind
theorem aaG(l:List aK)(e:Nat):cf e l<=e+l.length*600000:=JC (by simp) l e
theorem Pm(no:Nat):∀(l:List aK)(e:Nat),(cW no e l).length<=l.length
 |[],e=>by simp[cW]
 |a::l,e=>by
  have h1:=Pm no l e;have h2:=Pm no l (aJ e+bO a.ty a.az);unfold cW
  grind
theorem alg(no:Nat)(l:List aK)(e i:Nat):(cW no e (l.take i)).length<=(cW no e l).length:=by
 have:∀(a b:List aK)(e:Nat),cW no e (a++b)=cW no e a++cW no (cf e a) b:=by
  intro a;induction a with
  |nil=>intro b e;rfl
  |cons p a ih=>intro b e;by_cases h:bO p.ty p.az=0<;>simp[cW,cf,h,ih]
 rw[<-lO i l,this];simp
theorem wg(l:List bo):(l.flatMap bY).length=l.length*5:=cS CC l
theorem aku{w:Nat}(l:List aK)(X Y:Value)(no:Nat)(k:Int){e:Nat}(c:List Value)(he:e+l.length*600000<2^50)(hc:c.length+(cW no e l).length*5<=1000000000)(hw:l.length<w):
 Hi w (aw l) X Y no e k c=some ((cf e l:Int),k,c++(cW no e l).flatMap bY):=by
 unfold Hi aw;rw[cw];have s0:c=c++(cW no e (l.take 0)).flatMap bY:=by simp[cW]
 conv=>lhs;rw[s0]
 refine gS (ev:=λi (g:Int->Value->Int->Int->Int->Int->List Value->Option (Int×Int×List Value))=>g no (aC ct l) l.length i (cf e (l.take i):Nat) k (c++(cW no e (l.take i)).flatMap bY)) l.length ?_ ?_ hw
 ·intro i g h;have e1:((i:Int)<(l.length:Int)):=by omega
  simp[e1];rw[bt gO h];have tg:∀(t:aK)(r:List Value),ct t++r=.int .i64 t.tag::.int .i64 t.ty::.int .i64 t.az::ah t.data::r:=λ_ _=>rfl;simp[tg];rw[Yh,aN (n:=(i:Int)+1) (by omega) (by omega)];simp only[aB];rw[iI h,JD,YC];have hlt:(l.take i).length<=l.length:=by rw[dk];omega
  have b1:=aaG (l.take i) e;have b2:=alg no l e i;have b3:=U9 l[i].ty l[i].az;by_cases h0:bO l[i].ty l[i].az=0
  ·simp only[h0,aF,dM,dW];rfl
  ·have e2:((0:Int)<((bO l[i].ty l[i].az:Nat):Int)):=by omega
   simp only[e2,aW,aD,h0,gQ];rw[Ou w 3 no l[i].tag k (by omega) (by omega) _ (by rw[aS,wg];omega)];simp only[aB,ft,dK,lu,dW,dV];rfl
 ·intro g;simp
def gY(e:Nat):List (Int×aU)->Nat
 |[]=>e
 |p::l=>gY (bB e p.2) l
def fQ:List (Int×aU)->Nat
 |[]=>0
 |p::l=>dD p.2 +fQ l
def fX(no e:Nat):List (Int×aU)->List bo
 |[]=>[]
 |p::l=>fW no e p.2 ++fX (no+dD p.2) (bB e p.2) l
theorem JB:∀(s:cI)(e:Nat),ej e s=gY e (aP s)
 | .nil,e=>by simp[ej,aP,gY]
 | .cons t d r,e=>by simp[ej,aP,gY,JB r]
theorem Jp:∀(s:cI),ib s=fQ (aP s)
 | .nil=>by simp[ib,aP,fQ]
 | .cons t d r=>by simp[ib,aP,fQ,Jp r]
theorem H4:∀(s:cI)(no e:Nat),kI no e s=fX no e (aP s)
 | .nil,no,e=>by simp[kI,aP,fX]
 | .cons t d r,no,e=>by simp[kI,aP,fX,H4 r]
theorem QW(p:Int×aU):∀(l:List (Int×aU))(e:Nat),gY e (l++[p])=bB (gY e l) p.2
 |[],e=>rfl
 |a::l,e=>QW p l (bB e a.2)
theorem QB(p:Int×aU):∀(l:List (Int×aU)),fQ (l++[p])=fQ l+dD p.2
 |[]=>by simp[fQ]
 |a::l=>by simp[fQ,QB p l,oP]
theorem YA(p:Int×aU):∀(l:List (Int×aU))(no e:Nat),fX no e (l++[p])=fX no e l++fW (no+fQ l) (gY e l) p.2
 |[],no,e=>by simp[fX,fQ,gY]
 |a::l,no,e=>by simp[fX,fQ,gY,YA p l,oP]
theorem DI:∀(l:List (Int×aU))(e:Nat),e<=gY e l
 |[],_=>aM _
 |p::l,e=>fu (zV p.2 e) (DI l (bB e p.2))
theorem aaF(l:List (Int×aU))(e i:Nat):gY e (l.take i)<=gY e l:=by
 have:∀(a b:List (Int×aU))(e:Nat),gY e (a++b)=gY (gY e a) b:=by
  intro a;induction a with
  |nil=>intro b e;rfl
  |cons p a ih=>intro b e;exact ih b (bB e p.2)
 conv=>rhs;rw[<-lO i l,this]
 exact DI _ _
theorem aac(l:List (Int×aU))(i:Nat):fQ (l.take i)<=fQ l:=by
 have:∀(a b:List (Int×aU)),fQ (a++b)=fQ a+fQ b:=by
  intro a;induction a with
  |nil=>simp[fQ]
  |cons p a ih=>intro b;simp[fQ,ih b,oP]
 rw[<-lO i l,this];simp
theorem ald(l:List (Int×aU))(no e i:Nat):(fX no e (l.take i)).length<=(fX no e l).length:=by
 have:∀(a b:List (Int×aU))(no e:Nat),fX no e (a++b)=fX no e a++fX (no+fQ a) (gY e a) b:=by
  intro a;induction a with
  |nil=>simp[fX,fQ,gY]
  |cons p a ih=>intro b no e;simp[fX,fQ,gY,ih b,oP]
 rw[<-lO i l,this];simp
theorem alq{w m:Nat}(hm:m<2^28)(hw:2*m+100<=w)(rec:Value->Value->Value->Int->Int->List Value->Option (Int×Int×List Value))(d:aU)(no e:Nat)(c:List Value)(he:bB e d<2^49)(hno:no+dD d<2^50)
 (hc:c.length+(fW no e d).length*5<=1000000000) (hd:iw m d)
 (hrec:∀p∈aP (match d with| .mk _ subs _=>subs),∀(no' e':Nat)(c':List Value),bB e' p.2 <2^49->no'+dD p.2 <2^50->c'.length+(fW no' e' p.2).length*5<=1000000000->rec (dT p.2) (dS p.2) (dB p.2) e' no' c'=some ((bB e' p.2 :Int),((no'+dD p.2 :Nat):Int),c'++(fW no' e' p.2).flatMap bY)):
 H7 w rec (dT d) (dS d) (dB d) e no c=some ((bB e d:Int),((no+dD d:Nat):Int),c++(fW no e d).flatMap bY):=by
 obtain⟨tags,subs,blob⟩:=d;have hd:tags.length<=m/\cd subs<=m/\blob.length<=m/\(∀t∈tags,t.data.length<=m)/\iy m subs:=hd;have hE:bH (.mk tags subs blob)<=2*m+2:=by show tags.length+cd subs+(if blob.length=0 then 0 else 2)<=2*m+2;split<;>omega
 unfold dD at hno⊢;rw[Jp] at hno⊢;unfold bB at he⊢;unfold fW at hc⊢;simp only[H4] at hc⊢;simp only[JB] at he hc⊢;unfold H7;simp only[dT,dS,dB];rw[GW w tags subs blob (by omega)];simp only[aB,o8,cc];generalize bH (.mk tags subs blob)=E at he hc hE⊢;rw[aN (n:=12*(E:Int)) (by omega) (by omega),aN (n:=2+12*(E:Int)) (by omega) (by omega),aN (n:=2+12*(E:Int)+4) (by omega) (by omega),aN (n:=(no:Int)+1) (by omega) (by omega)];rw[show(2:Int)+12*(E:Int)+4=((6+12*E:Nat):Int) by omega,show(no:Int)+1=((no+1:Nat):Int) by omega];have v1:=uT e;have v0:e<=aJ e:=by unfold aJ;omega
 have g1:=qI tags (aJ e+(6+12*E));have g2:=DI (aP subs) (cf (aJ e+(6+12*E)) tags);have g3:gY (cf (aJ e+(6+12*E)) tags) (aP subs)<2^49:=by
  by_cases q:blob.length=0
  ·rw[ay q] at he;exact he
  ·rw[aq q] at he;have:∀n:Nat,n<=aJ n:=λn=>by unfold aJ;omega
   have:=this (gY (cf (aJ e+(6+12*E)) tags) (aP subs));omega
 rw[Ou w 2 no 0 _ (by omega) (by omega) c (by omega)];simp only[aB];simp only[bX,aS] at hc;rw[aku tags _ _ no _ _ (by omega) (by rw[aS,CC];omega) (by omega)];simp only[aB];rw[CG,cw];have sg:∀(p:Int×aU)(r:List Value),fZ p++r=.int .i64 p.1 ::dT p.2 ::dS p.2 ::dB p.2 ::r:=by intro p r;unfold fZ;rw[qb];rfl
 have hsl:=uj subs;generalize hE2:cf (aJ e+(6+12*E)) tags=E2 at*;generalize hC:c++bY ⟨2,no,0,aJ e,6+12*E⟩++(cW no (aJ e+(6+12*E)) tags).flatMap bY=C;have hCl:C.length=c.length+5+(cW no (aJ e+(6+12*E)) tags).length*5:=by rw[<-hC,aS,aS,wg];rfl
 have s0:C=C++(fX (no+1) E2 ((aP subs).take 0)).flatMap bY:=by simp[fX]
 conv=>lhs;rw[s0]
 refine gS (ev:=λi (g:Int->Value->Int->Int->Int->Int->Value->Value->Value->List Value->Option (Int×Int×List Value))=>g no (aC fZ (aP subs)) (aP subs).length i (gY E2 ((aP subs).take i):Nat) ((no+1+fQ ((aP subs).take i):Nat):Int) (aw tags) (aC fZ (aP subs)) (ah blob) (C++(fX (no+1) E2 ((aP subs).take i)).flatMap bY)) (aP subs).length ?_ ?_ (by omega)
 ·intro i g h;have e1:((i:Int)<((aP subs).length:Int)):=by omega
  simp only[aV,e1,aW,aD,bR];rw[bt uh h];simp only[sg,aZ,bE];have k1:=aaF (aP subs) E2 (i+1);have k2:=aac (aP subs) (i+1);have k3:=ald (aP subs) (no+1) E2 (i+1);rw[iI h] at k1 k2 k3⊢;rw[QW] at k1⊢;rw[QB] at k2⊢;rw[YA] at k3⊢;rw[aS] at k3;rw[hrec _ (cy h) (no+1+fQ ((aP subs).take i)) (gY E2 ((aP subs).take i)) _ (by omega) (by omega) (by rw[aS,wg];omega)];simp only[aB];rw[aN (n:=(i:Int)+1) (by omega) (by omega),ft,<-dV,oP (no+1)];rfl
 ·intro g;have e1:¬(((aP subs).length:Int)<((aP subs).length:Int)):=by omega
  simp only[aV,e1,bF,aF,mW,cN,bU];have hcs:c++(⟨2,no,0,aJ e,6+12*E⟩::(cW no (aJ e+(6+12*E)) tags++(fX (no+1) E2 (aP subs)++(if blob.length=0 then[] else[⟨4,no,0,aJ (gY E2 (aP subs)),blob.length⟩]:List bo)))).flatMap bY=C++(fX (no+1) E2 (aP subs)).flatMap bY++(if blob.length=0 then[] else[⟨4,no,0,aJ (gY E2 (aP subs)),blob.length⟩]:List bo).flatMap bY:=by rw[<-hC];simp[dK,ft,dV]
  rw[hcs];by_cases hb:blob.length=0
  ·simp only[hb,show decide ((0:Int)<((0:Nat):Int))=false from rfl,aF,dM,lu,dW,oP];rw[Nat.add_comm 1]
  ·have e2:((0:Int)<(blob.length:Int)):=by omega
   simp only[e2,aW,aD,hb,gQ];simp only[hb,gQ,bX,List.length_nil] at hc;rw[Ou w 4 no 0 _ (by omega) (by omega) _ (by rw[aS,wg];omega)];simp only[aB,dK,lu,dW,oP];rw[Nat.add_comm 1]
theorem QP{w m:Nat}(hm:m<2^28)(hw:2*m+100<=w)(z:Value->Value->Value->Int->Int->List Value->Option (Int×Int×List Value)):
 ∀(n:Nat)(d:aU)(no e:Nat)(c:List Value),fR d<=n->bB e d<2^49->no+dD d<2^50->c.length+(fW no e d).length*5<=1000000000->iw m d->
  lZ z (H7 w) n (dT d) (dS d) (dB d) e no c=some ((bB e d:Int),((no+dD d:Nat):Int),c++(fW no e d).flatMap bY)
 |0,d,no,e,c,h,_,_,_,_=>by obtain⟨tags,subs,blob⟩:=d;unfold fR at h;omega
 |n+1,d,no,e,c,h,he,hno,hc,hd=>by refine alq hm hw _ d no e c he hno hc hd ?_;obtain⟨tags,subs,blob⟩:=d;intro p hp no' e' c' h1 h2 h3;have hp:p∈aP subs:=hp;have:=DD p hp;unfold fR at h;exact QP hm hw z n p.2 no' e' c' (by omega) h1 h2 h3 (wP hd.2.2.2.2 p hp)
theorem aj9{w m:Nat}(hm:m<2^28)(hw:2*m+100<=w)(d:aU)(no e:Nat)(c:List Value)(jX:fR d<=w)(he:bB e d<2^49)(hno:no+dD d<2^50)(hc:c.length+(fW no e d).length*5<=1000000000)(hd:iw m d):
 Ov w (dT d) (dS d) (dB d) e no c=some ((bB e d:Int),((no+dD d:Nat):Int),c++(fW no e d).flatMap bY):=QP hm hw _ w d no e c jX he hno hc hd
theorem agX(n:Int)(o:Int):pA n 2 o=if 0<=n/\n<65536 then some (aY n.toNat 2 o) else none:=rfl
theorem akm{w:Nat}(hw:8<=w)(a b c d o:Int)(ho:o=1\/o=2):Ha w a b c d o=some (if(0<=a/\a<65536)/\(0<=b/\b<65536)/\(0<=c/\c<4294967296)/\(0<=d/\d<4294967296) then(ah (aY a.toNat 2 o++(aY b.toNat 2 o++(aY c.toNat 4 o++aY d.toNat 4 o))),true) else(ae 0 [],false)):=by
 have m4:fT 4 o=true:=by rcases ho with rfl|rfl<;>rfl
 have p2:∀n:Int,im w n 2 o=some (if 0<=n/\n<65536 then(ah (aY n.toNat 2 o),true) else(ae 0 [],false)):=by intro n;rw[su hw,ay (by rcases ho with rfl|rfl<;>rfl),show(2:Int).toNat=2 from rfl,agX];by_cases h:0<=n/\n<65536<;>grind
 have p4:∀n:Int,im w n 4 o=some (if 0<=n/\n<4294967296 then(ah (aY n.toNat 4 o),true) else(ae 0 [],false)):=by intro n;rw[su hw,ay m4,show(4:Int).toNat=4 from rfl,Mh];by_cases h:0<=n/\n<4294967296<;>grind
 have fl:∀(l:List UInt8),(l.flatMap pY).length=l.length:=λl=>by rw[iL,cZ]
 have l2:∀n:Int,(aY n.toNat 2 o).length=2:=λn=>eB _ _ _;have l4:∀n:Int,(aY n.toNat 4 o).length=4:=λn=>eB _ _ _;unfold Ha;rw[p2 a];by_cases ha:0<=a/\a<65536
 case neg=>rw[aq ha,aq (λq=>ha q.1)];rfl
 rw[ay ha];simp only[aB,bJ,aF,iC,fl,l2,l4,show aE 2=true from rfl,show aE 4=true from rfl,kj,aD];rw[p2 b];by_cases hb:0<=b/\b<65536
 case neg=>rw[aq hb,aq (λq=>hb q.2.1)];rfl
 rw[ay hb];simp only[aB,bJ,aF,iC,fl,l2,l4,show aE 2=true from rfl,show aE 4=true from rfl,kj,aD];rw[p4 c];by_cases hc:0<=c/\c<4294967296
 case neg=>rw[aq hc,aq (λq=>hc q.2.2.1)];rfl
 rw[ay hc];simp only[aB,bJ,aF,iC,fl,l2,l4,aS,show aE 2=true from rfl,show aE (2+2)=true from rfl,show aE 4=true from rfl,kj,aD];rw[p4 d];by_cases hd:0<=d/\d<4294967296
 case neg=>rw[aq hd,aq (λq=>hd q.2.2.2)];rfl
 rw[ay hd];simp only[aB,bJ,aF,iC,fl,l2,l4,aS,show aE (2+2)=true from rfl,show aE (2+2+4)=true from rfl,show aE 4=true from rfl,kj,aD];unfold ah aC;simp_all
theorem Y1{w:Nat}(l:List UInt8)(hl:l.length<2^29)(hw:l.length+10<=w)(s:Nat)(o:Int)(hs:(s:Int)=1\/(s:Int)=2\/(s:Int)=4\/(s:Int)=8)(ho:o=1\/o=2):
 lp (λ(x8 x9:Int)(x10 x11:Nat)(x12:Int)(x13:List Value)=>(none:Option (Nat×Nat×List Value)))
     (λx14 (x15 x16:Int) (x17 x18:Nat) (x19:Int) (x20:List Value)=>
      bif aj x16 1 then
       bif !ak (Int.ofNat x17) (ag IntKind.i64 (x19.add x15)) then
        aA (ag IntKind.i64 (x19.add x15)) λx21=>
         aA x19 λx22=>
          bif x21.ble x18&&x22.ble x21 then
           ob (tZ w (bif x18.beq x22 then 0 else 0+x22*1) (x21 -x22) (x18 -x22) x20) λx23=>
            x14 x15 x16 x17 x18 (ag IntKind.i64 (x19.add x15)) x23
          else none
       else some (x17,x18,x20)
      else some (x17,x18,x20))
     w (s:Int) o l.length l.length 0 (l.map bg)=some (l.length,l.length,(if o=1 then iq l s (l.length/s*s) else l).map bg):=by
 have hs0:0<s:=by omega
 have hs8:s<=8:=by omega
 have hd2:l.length/s<=l.length:=Nat.div_le_self _ _;by_cases h1:o=1
 ·subst h1;have hd:s*(l.length/s)<=l.length:=Nat.mul_div_le _ _;have hd3:l.length<s*(l.length/s)+s:=Nat.lt_mul_div_succ _ hs0;rw[show l.map bg=(iq l s (s*0)).map bg by rw[Nat.mul_zero,Y2],ay rfl];refine gS (ev:=λi (g:Int->Int->Nat->Nat->Int->List Value->Option (Nat×Nat×List Value))=>g (s:Int) 1 l.length l.length ((s*i:Nat):Int) ((iq l s (s*i)).map bg)) (l.length/s) ?_ ?_ (by omega)
  ·intro i g hi;have hle:s*(i+1)<=s*(l.length/s):=Nat.mul_le_mul_left _ hi;have e1:s*(i+1)=s*i+s:=by rw[Nat.mul_add,gB]
   have e2:(((s*i:Nat):Int).add (s:Int))=((s*(i+1):Nat):Int):=by rw[cc,e1];omega
   simp only[e2,show aj 1 1=true from rfl,aD,aV,bU];rw[aN (by omega) (by omega)];have e3:¬((l.length:Int)<((s*(i+1):Nat):Int)):=by omega
   simp only[e3,bF,gh,aD,bR,gq,zM];have e4:s*(i+1)<=l.length:=by omega
   have e5:s*i<=s*(i+1):=by omega
   have e6:¬(l.length=s*i):=by omega
   simp only[e4,e5,e6,aW,bF,kj,aD,aF];have hlen:=pG l s (s*i);have:=N9 (w:=w) ((iq l s (s*i)).take (s*i)) (((iq l s (s*i)).drop (s*i)).take s) ((iq l s (s*i)).drop (s*i+s)) (by simp;omega) (by simp;omega) (l.length -s*i);rw[<-mY i s,<-Y3 l hs0 (by rw[mY];omega),mY i s,mY (i+1) s,<-List.drop_drop,lO,lO,dk,dk,eU,hlen,lC (by omega),lC (by omega)] at this;rw[show 0+s*i*1=s*i by omega,show s*(i+1) -s*i=s by omega,this];rfl
  ·intro g;simp only[show aj 1 1=true from rfl,aD,aV,bU,cc];rw[aN (by omega) (by omega)];have e3:((l.length:Int)<((s*(l.length/s):Nat):Int)+(s:Int)):=by omega
   simp only[e3,aW,bJ,aF];rw[mY]
 ·rw[aq h1,eG _ _ (by omega)];simp only[cg,h1,bF,aF,gQ]
theorem Yk{w:Nat}(l:List UInt8)(hl:l.length<2^29)(hw:l.length+10<=w)(s o:Int)(hc:fT s o=true\/(s=8/\fT 1 o=true)):
 Cn w (ah l) s o=some (l.length,l.length,(if o=1 then iq l s.toNat (l.length/s.toNat*s.toNat) else l).map bg):=by
 unfold Cn Nf;rw[vN (by omega)];have hr:Nat.ble l.length 1000000000=true:=by rw[iV];omega
 have hr2:Nat.ble l.length l.length=true:=by rw[iV];omega
 have hi:bh 0 (List.take (l.length*1) (l.map bg)) (List.map bg (List.replicate l.length 0))=l.map bg:=by have:=Fa (l.map bg) (List.map bg (List.replicate l.length 0)) [] [] (by simp);simp only[List.length_nil,fA,dW] at this;rw[fg (by simp),this]
 have hq:((l.map bg).length.beq (l.length*1)&&(0+l.length*1).ble (List.map bg (List.replicate l.length 0)).length)=true:=by simp
 have hs:s=1\/s=2\/s=4\/s=8:=by
  rcases hc with h|h
  ·have:=(tH h).1;omega
  ·omega
 have ho:o=1\/o=2:=by
  rcases hc with h|h
  ·exact(tH h).2
  ·exact(tH h.2).2
 obtain⟨s,rfl⟩:=Int.eq_ofNat_of_zero_le (a:=s) (by omega);cases hm:fT s o;all_goals simp only[aB,bJ,aD,aF]
 ·have h8:(s:Int)=8:=by rcases hc with h|h;(rw[hm] at h;cases h);exact h.1
  rw[vN (by omega),(show fT 1 o=true from by rcases hc with h|h;(rw[hm] at h;cases h);exact h.2),show aj (s:Int) 8=true by rw[h8];rfl];simp only[bJ,aF,aB,cN,iC,hr,hr2,kj,aD,tP,iL,Nat.min_self];rw[hq,hi];exact Y1 l hl hw s o hs ho
 ·simp only[cN,iC,hr,hr2,kj,aD,tP,iL,Nat.min_self];rw[hq,hi];exact Y1 l hl hw s o hs ho
def mj(n:Int):Bool:=decide (0<=n/\n<=4294967295)
theorem Ot(w:Nat)(n:Int):yI w n=some (mj n):=by
 unfold yI mj;by_cases h1:n<0
 ·have:¬(0<=n/\n<=4294967295):=by omega
  simp_all
 ·by_cases h2:4294967295<n
  ·simp_all
  ·have:(0<=n/\n<=4294967295):=by omega
   simp[h2,this]
theorem XW(w:Nat)(a b:Int):GS w a b=some (if mj a=true/\mj b=true/\mj (a+b)=true then(a+b,true) else(0,false)):=by
 unfold GS;rw[Ot,Ot];by_cases ha:mj a=true
 case neg=>simp[ha]
 by_cases hb:mj b=true
 case neg=>simp_all
 have a1:0<=a/\a<=4294967295:=by simpa[mj] using ha
 have b1:0<=b/\b<=4294967295:=by simpa[mj] using hb
 simp_all;rw[aN (by omega) (by omega),Ot];cases hc:mj (a+b)<;>simp
theorem Gu(w:Nat)(b:Bool):sy w b=some (if b=true then 0 else-1):=by cases b<;>rfl
def w7(n:Nat):Nat:=(n+65518)/65519
theorem Ys(w n:Nat)(h:n<2^60):Cv w (n:Int)=some (w7 n:Int):=by
 unfold Cv w7;simp only[aV,qH,jd,cc];by_cases h1:(n:Int)<1
 ·rw[show n=0 by omega];rfl
 rw[aq h1,aN (n:=(n:Int) -1) (by omega) (by omega),show(n:Int) -1=((n -1:Nat):Int) by omega];have e:(((n -1:Nat):Int)).tdiv 65519=(((n -1)/65519:Nat):Int):=rfl;rw[e];have:(n+65518)/65519=(n -1)/65519+1:=by omega
 rw[this,aN (n:=(((n -1)/65519:Nat):Int)) (by omega) (by omega),aN (by omega) (by omega)];rfl
theorem Ve{ty az:Int}{l:List UInt8}{o:Int}(h:er ty az l=true)(ho:o=1\/o=2):
 (fT (kindOf ty).2.1 o=true\/((kindOf ty).2.1 =8/\fT 1 o=true))/\l.length/(kindOf ty).2.1.toNat*(kindOf ty).2.1.toNat=l.length:=by
 refine⟨?_,?_⟩
 ·rcases(SN ty ((vo h).1)) with h|h|h|h<;>rcases ho with rfl|rfl<;>rw[h]<;>simp[fT,CH]
 ·obtain⟨s,q,e1,e2,e3⟩:=Tq h
  grind
theorem akx{w:Nat}{ty az:Int}{l:List UInt8}(hm:er ty az l=true)(hl:l.length<2^29)(hw:l.length+10<=w){o:Int}(ho:o=1\/o=2):
 Hl w ty az (ah l) o=some (l.length,l.length,(iT l (kindOf ty).2.1.toNat o).map bg):=by
 obtain⟨h1,h2⟩:=Ve hm ho;unfold Hl;rw[yG w ty az l (by omega),hm,yD];simp;rw[Yk l hl hw _ _ h1,h2];rfl
theorem akw{w:Nat}{ty az:Int}{l:List UInt8}(hm:er ty az l=true)(hl:l.length<2^29)(hw:l.length+10<=w){o:Int}(ho:o=1\/o=2):
 Hm w ty az (ah l) o=some (ah (iT l (kindOf ty).2.1.toNat o)):=by
 obtain⟨h1,h2⟩:=Ve hm ho;unfold Hm;rw[yG w ty az l (by omega),hm,yD];simp;rw[Yk l hl hw _ _ h1,h2,oo,wo];rfl
theorem uN(l:List UInt8)(n:Nat)(h:n=l.length):ae n (l.map bg)=ah l:=by rw[oo,h]
theorem Yf{w:Nat}(hw:100<=w)(t:aK)(hm:er t.ty t.az t.data=true)(hl:t.data.length<2^29)(hw2:t.data.length+10<=w){o:Int}(ho:o=1\/o=2)(ht:mS t.tag=true):
 Hk w t.tag t.ty t.az (ah t.data) o=some (if bO t.ty t.az=0 then(t.tag,t.ty,t.az,(o9 o t:Int),true) else(0,0,0,0,false)):=by
 unfold Hk;rw[akx hm hl hw2 ho,su (by omega)];have m2:fT 2 o=true:=by rcases ho with rfl|rfl<;>rfl
 have htr:0<=t.tag/\t.tag<65536:=by unfold mS at ht;simpa using ht
 have hp:pA t.tag (2:Int).toNat o=some (aY t.tag.toNat 2 o):=by unfold pA;rw[ay ⟨htr.1,by show t.tag<((256^2:Nat):Int);omega⟩];rfl
 rw[ay m2,hp];have hout:=xO hm;obtain⟨k1,k2,k3,k4⟩:=vo hm;have hk:=Au t.ty;have hpos:t.data.length≠0:=by intro q;have:1*1<=t.az*(kindOf t.ty).1 :=Int.mul_le_mul k2 (by omega) (by decide) (by omega);omega
 simp only[aB,bJ,aF,cg,aV,bU];have e1:¬((t.data.length:Int)=0):=by omega
 simp only[e1,bF,aF];by_cases h4:t.data.length<=4
 ·have e2:¬((4:Int)<(t.data.length:Int)):=by omega
  simp only[e2,bF,aF];rw[ay h4] at hout;rw[ay hout,jd,aN (by omega) (by omega),lU (by omega)];have e3:((4:Int) -(t.data.length:Int)).toNat=4 -t.data.length:=by omega
  have hv:(iT t.data (kindOf t.ty).2.1.toNat o).length=t.data.length:=wo _ _ _;have hget:∀b:List UInt8,b=iT t.data (kindOf t.ty).2.1.toNat o++List.replicate (4 -t.data.length) 0->jM w (ah b) 0 4 o=some ((o9 o t:Int),true):=by
   intro b hb;have hbl:b.length=4:=by rw[hb,aS,hv,uu];omega
   rw[BP (by omega) b (by omega) 0 4 o (by omega)];have:=xm (l:=b) (p:=0) (s:=4) (order:=o) (.inr (.inr rfl)) ho (by omega);rw[show((0:Nat):Int)=0 from rfl,show((4:Nat):Int)=4 from rfl] at this;rw[this];unfold o9 ll;rw[hb]
  rw[e3];have r1:(4 -t.data.length).ble 1000000000=true:=by rw[iV];omega
  simp only[r1,tP,cZ,uu,gB,gj,hv,aD,zM,gq,eu,aM,aW,jA,show Nat.beq 5 5=true from rfl];by_cases h5:t.data.length=4
  ·have e4:t.data.length+(4 -t.data.length)<=t.data.length:=by omega
   simp only[e4,aW,aD];have:4 -t.data.length=0:=by omega
   rw[this];simp only[List.replicate_zero,List.map_nil,bh];rw[uN _ _ (by rw[hv];omega),hget _ (by rw[this];simp)];rfl
  ·have e4:¬(4<=t.data.length):=by omega
   have e5:t.data.length+(4 -t.data.length)=4:=by omega
   have hn:=nextslicecap_le (need:=4) (old:=t.data.length) (by omega);have r3:aE (4 -t.data.length)=true:=by simp;omega
   have r4:aE t.data.length=true:=by simp;omega
   have r5:Builtin.nextslicecap 4 t.data.length<=5000000000:=by omega
   simp only[e4,bF,aF,e5,r3,r4,r5,aW,jA,aD];have h6:List.take t.data.length ((iT t.data (kindOf t.ty).2.1.toNat o).map bg)++(List.replicate (4 -t.data.length) (0:UInt8)).map bg=(iT t.data (kindOf t.ty).2.1.toNat o++List.replicate (4 -t.data.length) 0).map bg:=by rw[fg (by rw[cZ,hv];exact aM _),gV]
   rw[h6];rw[uN _ _ (by rw[lA,cZ]),hget _ rfl];rfl
 ·have e2:((4:Int)<(t.data.length:Int)):=by omega
  simp only[e2,aW,aD];rw[aq h4] at hout;rw[aq (by omega)]
theorem nG{α γ σ:Type}{z:α}{F:α->α}{r:γ}{w:Nat}(ev:Nat->σ->α->γ)(Inv:Nat->σ->Prop)(m:Nat)(s0:σ)(h0:Inv 0 s0)(hs:∀i g s,i<m->Inv i s->∃s',Inv (i+1) s'/\ev i s (F g)=ev (i+1) s' g)(he:∀g s,Inv m s->ev m s (F g)=r)(h:m<w):ev 0 s0 (lp z F w)=r:=by
 have:∀(d i v:Nat)(s:σ),i+d=m->d<v->Inv i s->ev i s (lp z F v)=r:=by
  intro d;induction d with
  |zero=>intro i v s hi hv hI;rw[eG z F (by omega)];simp_all
  |succ d ih=>
   intro i v s hi hv hI;obtain⟨s',h1,h2⟩:=hs i (lp z F (v -1)) s (by omega) hI;rw[eG z F (by omega)]
   grind
 grind
def cR(l:List aU):Value:=aC cU l
theorem zT(d:aU)(r:List Value):cU d++r=dT d::dS d::dB d::r:=by rw[qb];rfl
def kO:List aU->Nat
 |[]=>0
 |d::ds=>max (fR d) (kO ds)
theorem DC:∀{ds:List aU}{d:aU},d∈ds->fR d<=kO ds
 |[],d,h=>by grind
 |a::ds,d,h=>by
  rcases cQ.1 h with rfl|h
  ·exact Nat.le_max_left _ _
  ·exact fu (DC h) (Nat.le_max_right _ _)
def oe(m:Nat)(ds:List aU):Prop:=∀d∈ds,iw m d
theorem YE(l:List bo)(c:List Value)(h:c=l.flatMap bY):ae (c.length/5) c=aC bY l:=by subst h;unfold aC;rw[wg,iW _ (by simp)]
theorem XZ{w m:Nat}(hm:m<2^28)(hw:2*m+100<=w)(o:Int)(ds:List aU)(xq:vT w o (cR ds)=some true)(jX:kO ds<=w)(hl:ds.length<=m)(he:ef 8 ds<2^49)(hc:(ff ⟨o,ds⟩).length*5<=1000000000)(hn:gX ds<2^50)(hd:oe m ds):
 yC w o (cR ds)=some (if ef 8 ds<=4294967295 then(aC bY (ff ⟨o,ds⟩),true) else(ae 0 [],false)):=by
 unfold yC;rw[xq];simp;unfold cR;refine nG (σ:=Nat×Nat×List bo) (ev:=λi s (g:Value->Int->Int->Int->Int->List Value->Option (Value×Bool))=>g (aC cU ds) ds.length i (s.1 :Nat) (s.2.1 :Nat) (s.2.2.flatMap bY))
  (Inv:=λi s=>ef s.1 (ds.drop i)=ef 8 ds/\s.2.1 +gX (ds.drop i)=gX ds/\s.2.2 ++jz s.2.1 s.1 (ds.drop i)=ff ⟨o,ds⟩) ds.length (8,0,[⟨1,-1,0,0,8⟩]) ?_ ?_ ?_ (by omega)
 ·exact⟨rfl,by simp,rfl⟩
 ·rintro i g ⟨e,no,sp⟩ hi ⟨h1,h2,h3⟩
  simp only at h1 h2 h3;rw[dw hi] at h1 h2 h3;rw[ef] at h1;rw[gX] at h2;rw[jz] at h3;refine⟨(bB e ds[i],no+dD ds[i],sp++fW no e ds[i]),⟨h1,by simp only;omega,by simp only;rw[<-h3,dV]⟩,?_⟩;have e1:((i:Int)<(ds.length:Int)):=by omega
  simp only[aV,e1,aD,bR];rw[bt kQ hi];simp only[zT,aZ];have hmem:=cy hi;have g1:=qc (ds.drop (i+1)) (bB e ds[i]);have g2:(sp++fW no e ds[i]).length<=(ff ⟨o,ds⟩).length:=by rw[<-h3];simp only[aS];omega
  rw[aS] at g2;have h4:=DC hmem;rw[aj9 hm hw ds[i] no e _ (by omega) (by omega) (by omega) (by rw[wg];omega) (hd _ hmem)];simp only[aB];rw[aN (by omega) (by omega),ft];rfl
 ·rintro g ⟨e,no,sp⟩ ⟨h1,h2,h3⟩
  simp[rB,ef,jz,dW] at h1 h3;have e1:¬((ds.length:Int)<(ds.length:Int)):=by omega
  rw[YE _ _ rfl,h3];by_cases q:ef 8 ds<=4294967295
  ·have:¬((4294967295:Int)<((ef 8 ds:Nat):Int)):=by omega
   simp_all
  ·have:((4294967295:Int)<((ef 8 ds:Nat):Int)):=by omega
   simp_all
def qd(l:List bo)(e:Nat):Nat:=match l.getLast? with
 |some x=>x.at_+x.cC
 |none=>e
theorem Av(a b:List bo)(e:Nat):qd (a++b) e=qd b (qd a e):=by
 unfold qd
 grind
theorem KG(x:bo)(b:List bo)(e:Nat):qd (x::b) e=qd b (x.at_+x.cC):=Av [x] b e
theorem KF(no:Nat):∀(l:List aK)(e:Nat),qd (cW no e l) e=cf e l
 |[],_=>rfl
 |t::l,e=>by
  unfold cW cf;split
  ·exact KF no l e
  ·rw[KG];exact KF no l _
mutual
theorem SR:∀(d:aU)(no e:Nat),qd (fW no e d) e=bB e d
 | .mk tags subs blob,no,e=>by unfold fW bB;rw[KG,Av,Av,KF,SS];split<;>rfl
theorem SS:∀(r:cI)(no e:Nat),qd (kI no e r) e=ej e r
 | .nil,no,e=>rfl
 | .cons _ d r,no,e=>by unfold kI ej;rw[Av,SR,SS]
end
theorem SQ:∀(ds:List aU)(no e:Nat),qd (jz no e ds) e=ef e ds
 |[],no,e=>rfl
 |d::ds,no,e=>by unfold jz ef;rw[Av,SR,SQ]
theorem acj(o:Int)(ds:List aU):∃x l,ff ⟨o,ds⟩=l++[x]/\x.at_+x.cC=ef 8 ds:=by
 have e:qd (ff ⟨o,ds⟩) 0=ef 8 ds:=by unfold ff;rw[KG];exact(SQ ds 0 8)
 have cF:ff ⟨o,ds⟩≠[]:=by unfold ff;simp
 exact⟨(ff ⟨o,ds⟩).getLast cF,(ff ⟨o,ds⟩).dropLast,(List.dropLast_concat_getLast cF).symm,(e)⟩
theorem ajr{w m:Nat}(hm:m<2^28)(hw:2*m+100<=w)(o:Int)(ds:List aU)(xq:vT w o (cR ds)=some true)(jX:kO ds<=w)(hl:ds.length<=m)(he:ef 8 ds<=4294967295)(hc:(ff ⟨o,ds⟩).length*5<=1000000000)(hn:gX ds<2^50)(hd:oe m ds):
 sB w o (cR ds)=some (ef 8 ds:Int):=by
 unfold sB;rw[XZ hm hw o ds xq jX hl (by omega) hc hn hd,ay he];obtain⟨x,l,h1,h2⟩:=acj o ds;have hlen:(ff ⟨o,ds⟩).length=l.length+1:=by rw[h1];simp
 simp;rw[aN (by omega) (by omega),lU (by omega),show(((ff ⟨o,ds⟩).length:Int) -1).toNat=l.length by omega,bt CC (show l.length<(ff ⟨o,ds⟩).length by omega)];have tg:∀(x:bo)(r:List Value),bY x++r=.int .i64 x.nS::.int .i64 x.dir::.int .i64 x.tag::.int .i64 x.at_::.int .i64 x.cC::r:=λ_ _=>rfl;simp_all;rw[aN (by omega) (by omega),<-h2];rfl
theorem aj1{w:Nat}(hw:20<=w):re w (cq db)=some true:=by obtain⟨v,rfl⟩:=wE hw;rfl
theorem X2{w:Nat}(hw:20<=w):re w (cq gu)=some true:=by obtain⟨v,rfl⟩:=wE hw;rfl
theorem X1{w:Nat}(hw:20<=w):re w (cq kN)=some true:=by obtain⟨v,rfl⟩:=wE hw;rfl
noncomputable def Ds(w:Nat)(sv:Value)(a o:Int)(dv:Value)(cs:List Value):Option Int:=
 vH w dv cs sv o
def dI(n:Int):List Value:=[.int .i64 n]
theorem qM(n:Int):(dI n).length=1:=rfl
def oy(l:List Int):List Value:=l.map (Value.int .i64)
theorem abQ{l:List Int}{i:Nat}(h:i<l.length):(oy l).drop i=Value.int .i64 l[i]::oy (l.drop (i+1)):=by unfold oy;rw[<-List.map_drop,dw h,iH]
theorem Z3{w m:Nat}(hm:m<2^28)(hw:2*m+100<=w)(sh:List bc)(hsh:iZ sh)(hl:∀s,s<sh.length->(aO sh s).bN.length<=m)(a o:Int)(ds:List aU)(l:List Int)(hlen:l.length=ds.length)(iD:ds.length<=m)(hd:oe m ds)(jX:kO ds<=w)
 (hh:∀j (h:j<ds.length),0<=l[j]/\l[j]<sh.length/\cK sh l[j].toNat ds[j]=true) {n:Nat} (hn:0<n) (h138:sB w o (cR ds)=some (n:Int)):Ds w (cq sh) a o (cR ds) (oy l)=some 0:=by
 unfold Ds vH cR;have hcl:(oy l).length=ds.length:=by unfold oy;rw[cZ,hlen]
 simp only[cw,lA,hcl,aV,bU];have e0:¬((ds.length:Int)<(ds.length:Int)):=by omega
 simp only[e0,bF,aF];refine gS (ev:=λi (g:Value->Value->Int->Int->Int->Value->List Value->Option Int)=>g (cq sh) (aC cU ds) ds.length i o (aC cU ds) (oy l)) ds.length ?_ ?_ (by omega)
 ·intro i g hi;have e1:((i:Int)<(ds.length:Int)):=by omega
  simp only[e1,aW,aD,bR];rw[bt kQ hi];simp only[zT,aZ,hcl,gB,gj,mE,hi,aW,show Nat.beq 1 1=true from rfl,jA,aD];rw[abQ (by omega)];obtain⟨h1,h2,h3⟩:=hh i hi;have hs:(l[i].toNat:Int)=l[i]:=mz h1;have hmem:=cy hi;have h4:=DC hmem;simp only[aZ,bE];have:=aka (w:=w) (m:=m) (by omega) hw sh hsh hl ds[i] l[i].toNat (by omega) (hd _ hmem) (by omega);rw[hs,h3] at this;rw[this];simp only[aB,bJ,aF,cc];rw[aN (by omega) (by omega)];rfl
 ·intro g;simp only[e0,bF,aF];unfold cR at h138;rw[h138];have:¬((n:Int)=0):=by omega
  simp_all
theorem ajY{w m:Nat}(hm:m<2^28)(hw:2*m+100<=w)(sh:List bc)(hsh:iZ sh)(tz:re w (cq sh)=some true)(hs0:0<sh.length)(hl:∀s,s<sh.length->(aO sh s).bN.length<=m){o:Int}(ho:o=1\/o=2)(ds:List aU)(cF:ds≠[])(iD:ds.length<=m)(hd:oe m ds)(jX:kO ds<=w)
 (hh:gx sh 0 ds=true) {n:Nat} (hn:0<n) (h138:sB w o (cR ds)=some (n:Int)):ub w o (cR ds) (cq sh)=some 0:=by
 have hpos:0<ds.length:=List.length_pos_iff.2 cF;unfold ub Nh vH;rw[tz];simp only[aB,bJ,aF,cg];have e0:¬((Int.ofNat ds.length:Int)=0):=by simp only[bU];omega
 rcases ho with rfl|rfl
 case' inl=>simp only[aW,bJ,aF]
 case' inr=>simp only[show decide ((2:Int)=1)=false from rfl,show decide ((2:Int)=2)=true from rfl,gh,bJ,aD,aF]
 all_goals
  unfold cR;rw[cw];simp only[e0,bF,aF];refine nG (σ:=Int×List Int) (ev:=λi s (g:Value->Int->Int->Value->List Value->Option Int)=>g (cq sh) s.1 _ (aC cU ds) (oy s.2))
   (Inv:=λi s=>s.2.length=i/\s.1 <sh.length/\gx sh s.1 (ds.drop i)=true/\∀j (h:j<i) (h2:j<s.2.length) (h3:j<ds.length),0<=s.2[j]/\s.2[j]<sh.length/\cK sh s.2[j].toNat ds[j]=true) ds.length (0,[]) ?_ ?_ ?_ (by omega)
  ·exact⟨rfl,by omega,hh,λj h=>by omega⟩
  ·rintro i g ⟨a,l⟩ hi ⟨h1,h2,h3,h4⟩
   simp only at h1 h2 h3 h4;rw[dw hi] at h3;simp only[gx,bu,bZ] at h3;obtain⟨h5,h6,h7⟩:=h3;have hs:(a.toNat:Int)=a:=mz h5;have hat:a.toNat<sh.length:=by omega
   have hnx:=hsh.next a.toNat hat;refine⟨((aO sh a.toNat).next,l++[a]),⟨by simp[h1],by simp only;omega,h7,?_⟩,?_⟩
   ·intro j hj hj2 hj3;simp only at hj2⊢;by_cases q:j<i
    ·rw[List.getElem_append_left (by omega)];exact h4 j q (by omega) hj3
    ·have:j=i:=by omega
     subst this;have e:(l++[a])[j]'hj2=a:=by rw[List.getElem_append_right (by omega)];simp
     rw[e];exact⟨h5,by omega,h6⟩
   ·have hcl:(oy l).length=i:=by unfold oy;rw[cZ,h1]
    have e1:¬(a<0):=by omega
    have e2:((i:Int)<(ds.length:Int)):=by omega
    have r1:aE i=true:=by simp;omega
    simp only[aV,e1,bF,gh,aD,cw,lA,hcl,bU,e2,aW,r1,bX,List.length_nil,gj,gB,show aE 1=true from rfl,mX,jA,lU h5];have hS:sh[a.toNat]=aO sh a.toNat:=by unfold aO;rw[cu hat];rfl
    have tg:∀(S:bc)(r:List Value),(jy S++r).drop 3=.int .i64 S.next::r:=λ_ _=>rfl;unfold cq;rw[bt yX hat,hS];simp only[tg,aZ,bE];unfold oy;rw[gV];rfl
  ·rintro g ⟨a,l⟩ ⟨h1,h2,h3,h4⟩
   simp only at h1 h2 h3 h4;have hcl:(oy l).length=ds.length:=by unfold oy;rw[cZ,h1]
   have hr:=λo=>Z3 hm hw sh hsh hl a o ds l h1 iD hd jX (λj h=>h4 j h (by omega) h) hn;by_cases q:a<0
   ·simp only[aV,q,aW,bJ,aF];have:=hr _ h138;unfold Ds vH cR at this;simpa only[aV,cg] using this
   ·have e2:¬((ds.length:Int)<(ds.length:Int)):=by omega
    simp only[aV,q,bF,gh,aD];have:=hr _ h138;unfold Ds vH cR at this;simp only[cw,lA,hcl,bU,aV,cg,e2,bF,aF] at this⊢;exact this
theorem Mj(pre v old post:List UInt8)(h:old.length=v.length)(p:Nat)(hp:p=pre.length):bh p (v.map bg) ((pre++(old++post)).map bg)=(pre++(v++post)).map bg:=by
 have:=Fa (v.map bg) (old.map bg) (pre.map bg) (post.map bg) (by grind)
 grind
theorem Om{w:Nat}(hw:8<=w)(pre old post:List UInt8)(n s:Nat)(hs:s=2\/s=4)(hn:n<256^s){o:Int}(ho:o=1\/o=2)(X Y:Value)(no:Int)(hold:old.length=s)(L:Nat)(hL:L=(pre++(old++post)).length)(hlt:L<2^60)(p:Int)(hp:p=(pre.length:Int))(k:Int)(hk:k=(s:Int))(q:Int)(hq:q=(n:Int)):
 sC w p q k L L o X Y no ((pre++(old++post)).map bg)=some (L,L,o,X,Y,no,(pre++(aY n s o++post)).map bg):=by
 subst hp hk hq;unfold sC;rw[su hw];have hpf:pA (n:Int) (s:Int).toNat o=some (aY n s o):=by unfold pA;rw[ay ⟨by omega,by rw[mT];exact_mod_cast hn⟩];simp
 rw[ay (by rcases hs with rfl|rfl<;>rcases ho with rfl|rfl<;>rfl),hpf];have hlen:L=pre.length+(s+post.length):=by simp_all
 have cF:¬(L=pre.length):=by omega
 have e1:pre.length<=L:=by omega
 have ev:(aY n s o).length=s:=eB _ _ _;simp only[aB,bR,gq,e1,aM,aD,iC,iL,cZ,ev,gB,zM,cF,bF,aF,gj];rw[show s.min (L -pre.length)=s from(show min s (L -pre.length)=s from by omega)];have e3:pre.length+s<=(pre++(old++post)).length:=by omega
 simp only[e3];rw[fg (by rw[cZ,ev];exact aM _),Mj _ _ _ _ (by rw[hold,ev]) _ rfl];rfl
def mr(nS dir tag:Int)(x:bo):Bool:=x.nS==nS&&(x.dir==dir&&x.tag==tag)
theorem aky{w:Nat}(l:List bo)(a b c:Int)(hl:l.length<2^40)(hw:l.length<w):OO w (aC bY l) a b c=some (dc (mr a b c) l):=by
 refine mJ l (mr a b c) (ev:=λi (g:Value->List Value->List Value->List Value->Int->Int->Option Int)=>g (aC bY l) [.int .i64 a] [.int .i64 b] [.int .i64 c] l.length i) ?_ ?_ hw
 ·intro i g h;simp_all;rw[bt CC h];have tg:∀(x:bo)(r:List Value),bY x++r=.int .i64 x.nS::.int .i64 x.dir::.int .i64 x.tag::.int .i64 x.at_::.int .i64 x.cC::r:=λ_ _=>rfl;unfold OP mr;simp_all;rw[aN (by omega) (by omega)];by_cases q1:l[i].nS=a
  ·by_cases q2:l[i].dir=b
   ·by_cases q3:l[i].tag=c
    ·simp_all
    ·simp_all
   ·simp_all
  ·simp[q1]
 ·intro g;simp
theorem OE{w:Nat}{A B:List bo}{x:bo}(hl:(A++x::B).length<2^40)(hw:(A++x::B).length<w)(a b c:Int)(hA:∀y∈A,mr a b c y=false)(hx:mr a b c x=true)(L c2:Nat)(o:Int)(Y:Value)(no:Int)(cs:List Value):
 ud w a b c L c2 o (aC bY (A++x::B)) Y no cs=some ((x.at_:Int),L,c2,o,aC bY (A++x::B),Y,no,cs):=by
 have hi:dc (mr a b c) (A++x::B)=(A.length:Int):=by
  unfold dc
  grind
 unfold ud;rw[aky _ a b c hl hw,hi];simp;rw[bt CC (show A.length<(A++x::B).length by simp)];have tg:∀(x:bo)(r:List Value),(bY x++r).drop 3=.int .i64 x.at_::.int .i64 x.cC::r:=λ_ _=>rfl;simp_all
theorem Jq(pre v old post:List UInt8)(hold:old.length=v.length){L:Nat}(hL:L=(pre++(old++post)).length){β:Type}(K:List Value->Option β):
 (bif Nat.ble L L&&pre.length.ble L then ed 1 (ah v) λn (c:List Value)=>bif c.length.beq (n*1)&&((bif Nat.beq L pre.length then 0 else 0+pre.length*1)+n.min (L -pre.length)*1).ble ((pre++(old++post)).map bg,5).fst.length then
  K (bh (bif Nat.beq L pre.length then 0 else 0+pre.length*1) (List.take (n.min (L -pre.length)*1) c) ((pre++(old++post)).map bg,5).fst) else none else none)=K ((pre++(v++post)).map bg):=by
 have hlen:L=pre.length+(v.length+post.length):=by simp_all
 have e1:pre.length<=L:=by omega
 simp only[gq,e1,aM,aW,iC,iL,cZ,gB,mX,eJ,gj];rw[(show v.length.min (L -pre.length)=v.length from by show min _ _=_;omega)];by_cases h0:L=pre.length
 ·have hv:v=[]:=kK (by omega);subst hv;have ho:=kK hold;subst ho;simp[h0,bh]
 ·have e3:pre.length+v.length<=(pre++(old++post)).length:=by rw[<-hL];omega
  simp only[zM,h0,bF,aF,e3,aW,aD];rw[fg (by rw[cZ];exact aM _),Mj _ _ _ _ hold _ rfl]
theorem ake{w:Nat}(hw:100<=w)(t:aK)(hm:er t.ty t.az t.data=true)(hl:t.data.length<2^29)(hw2:t.data.length+10<=w){o:Int}(ho:o=1\/o=2)(ht:mS t.tag=true)(h0:bO t.ty t.az=0)(dir:Int)(L c2:Nat)(X Y:Value)(no:Int)(cs:List Value):
 yJ w t.tag t.ty t.az (ah t.data) dir L c2 o X Y no cs=some (t.tag,t.ty,t.az,(o9 o t:Int),L,c2,o,X,Y,no,cs):=by
 unfold yJ;rw[Yf hw t hm hl hw2 ho ht,ay h0];rfl
theorem akf{w:Nat}(hw:100<=w)(t:aK)(hm:er t.ty t.az t.data=true)(hl:t.data.length<2^29)(hw2:t.data.length+10<=w){o:Int}(ho:o=1\/o=2)(ht:mS t.tag=true)(h0:bO t.ty t.az≠0)(dir:Int){A B:List bo}{x:bo}(hsl:(A++x::B).length<2^40)(hsw:(A++x::B).length<w)
 (hA:∀y∈A,mr 3 dir t.tag y=false) (hx:mr 3 dir t.tag x=true) (pre old post:List UInt8) (hold:old.length=t.data.length) (hat:x.at_=pre.length) {L:Nat} (hL:L=(pre++(old++post)).length) (Y:Value) (no:Int):
 yJ w t.tag t.ty t.az (ah t.data) dir L L o (aC bY (A++x::B)) Y no ((pre++(old++post)).map bg)=some (t.tag,t.ty,t.az,(pre.length:Int),L,L,o,aC bY (A++x::B),Y,no,(pre++(ll o t++post)).map bg):=by
 unfold yJ;rw[Yf hw t hm hl hw2 ho ht,aq h0,OE hsl hsw 3 dir t.tag hA hx];simp only[aB,hat];rw[akw hm hl hw2 ho];simp only[mX];exact Jq pre (ll o t) old post (by rw[zh];exact hold) hL λcs=>some (t.tag,t.ty,t.az,(pre.length:Int),L,L,o,aC bY (A++x::B),Y,no,cs)
theorem Ox(w:Nat)(e:bn)(c:List Value)(hc:c.length<=1000000000):Cc w [.int .i64 e.tag,.int .i64 e.ty,.int .i64 e.az,.int .i64 e.slot] c=some (c++[.int .i64 e.tag,.int .i64 e.ty,.int .i64 e.az,.int .i64 e.slot]):=by
 unfold Cc;have:aE c.length=true:=by simp;omega
 simp only[this,show aE 1=true from rfl,bX,List.length_nil,eu,nW,pP];rfl
section
open Go.Sort
def e4(x:bn):E4:=(x.tag,x.ty,x.az,(x.slot:Int))
def rp(x:E4):bn:=⟨x.1,x.2.1,x.2.2.1,x.2.2.2.toNat⟩
theorem Y7(x:bn):rp (e4 x)=x:=by obtain⟨a,b,c,d⟩:=x;show bn.mk a b c ((d:Int)).toNat=_;simp
def bP(x:bn):List Value:=[.int .i64 x.tag,.int .i64 x.ty,.int .i64 x.az,.int .i64 x.slot]
theorem kT(x:bn):(bP x).length=4:=rfl
theorem Q0(l:List bn):l.flatMap bP=(l.map e4).flatMap fD:=by
 induction l with
 |nil=>rfl
 |cons x l ih=>rw[dK,ih];rfl
theorem Za:∀l:List E4,wq (l.flatMap fD)=some l
 |[]=>rfl
 |(a,b,c,d)::l=>by show wq (.int .i64 a::.int .i64 b::.int .i64 c::.int .i64 d::l.flatMap fD)=_;unfold wq;rw[Za l];rfl
theorem Wm:∀{a b:List bn},eR a=true->eR b=true->(∀x,x∈a↔x∈b)->a=b
 |[],[],_,_,_=>rfl
 |[],y::b,_,_,h=>by have:=(h y).2 (by simp);cases this
 |x::a,[],_,_,h=>by have:=(h x).1 (by simp);cases this
 |x::a,y::b,ha,hb,h=>by
  have ha':eR a=true/\∀z∈a,x.tag<z.tag:=by have:=MB ha;omega
  have hb':=MB hb;have hxy:x=y:=by grind
  congr 1
  refine Wm ha'.1 hb'.1 λz=>?_
  grind
where
 MB:∀{x:bn}{a:List bn},eR (x::a)=true->eR a=true/\∀z∈a,x.tag<z.tag
  |x,[],_=>⟨rfl,λz h=>by cases h⟩
  |x,b::a,h=>by
   simp[eR] at h;obtain⟨_,h2⟩:=MB h.2
   grind
theorem Wo:∀{l:List bn},l.Pairwise (λa b=>a.tag<b.tag)->eR l=true
 |[],_=>rfl
 |[x],_=>rfl
 |x::y::l,h=>by rw[List.pairwise_cons] at h;simp[eR];exact⟨h.1 y (by simp),Wo h.2⟩
theorem I3:∀{l:List bn},nZ l->(l.map bn.tag).Nodup
 |[],_=>by simp
 |x::l,h=>by rw[iH,List.nodup_cons];refine⟨λq=>?_,I3 h.2⟩;obtain⟨y,hy,e⟩:=List.mem_map.1 q;exact h.1 y hy e
theorem ak5{l:List bn}(h:nZ l):kg (l.map e4)=(gF l).map e4:=by
 obtain⟨h1,h2,h3⟩:=Yy (l.map e4);generalize kg (l.map e4)=p at h1 h2 h3;have hk:(p.map rp).Perm l:=by have:=h2.map rp;rw[List.map_map] at this;rw[(show(rp∘e4)=id from by funext x;exact Y7 x),List.map_id] at this;exact this
 have hp:(p.map rp).map e4=p:=by
  rw[List.map_map]
  conv=>rhs;rw[<-List.map_id p]
  apply List.map_congr_left;intro x hx;obtain⟨y,-,hy⟩:=List.mem_map.1 (h2.mem_iff.1 hx);simp;rw[<-hy,Y7]
 have hr:eR (p.map rp)=true:=by
  apply Wo;rw[List.pairwise_iff_getElem];intro i j hi hj hij;have cF:(p.map rp)[i].tag≠(p.map rp)[j].tag:=by intro q;have:=(List.nodup_iff_pairwise_ne.1 ((hk.map bn.tag).nodup_iff.2 (I3 h)));rw[List.pairwise_iff_getElem] at this;have:=this i j (by simpa using hi) (by simpa using hj) hij;apply this;simp at q⊢;exact q
  simp at hi hj;have hs:=h3 i j (ia _) hij (by rw[<-h1];exact hj);rw[Ej] at hs;simp_all;have a1:(rp p[i]).tag=p[i].1 :=rfl;have a2:(rp p[j]).tag=p[j].1 :=rfl;omega
 rw[<-(Wm hr (KA h) λx=>by rw[hk.mem_iff,xv]),hp]
theorem akl(w:Nat){l:List bn}(h:nZ l)(cF:l≠[])(hl:l.length<=1000000000):ue w (l.flatMap bP)=some ((gF l).flatMap bP):=by unfold ue;rw[Q0,Za];simp only[aB,(show(l.map e4).isEmpty=false from by simp_all),(show aE (l.map e4).length=true from by simp;omega),bJ,Bool.or_self,aF];rw[ak5 h,<-Q0]
noncomputable def DA(w:Nat)(mine:Int)(L c:Nat)(o:Int)(X Y:Value)(no:Int)(bs es:List Value):Option (Int×Nat×Nat×Int×Value×Value×Int×List Value):=
 ob (ue w es) λa=>ob (ud w 2 mine 0 L c o X Y no bs) λb=>By w b a
def bj(n:Nat):List UInt8:=List.replicate n 0
theorem ji(n:Nat):(bj n).length=n:=uu
theorem pI(a b:Nat):bj (a+b)=bj a++bj b:=by unfold bj;simp
theorem aaO{l:List bn}{i:Nat}(h:i<l.length)(o:Int):(l.take (i+1)).flatMap (jb o)=(l.take i).flatMap (jb o)++jb o l[i]:=by rw[iI h,ft];simp
theorem aaq{w:Nat}(hw:100<=w){E:List bn}(hE:nZ E)(cF:E≠[])(hEo:∀x∈E,Go.Proofs.YtcfjfbeadhnknaaGreatDoor.mB x)(hEn:E.length<=65535)(hEw:E.length<w){A B:List bo}{x:bo}(hsl:(A++x::B).length<2^40)(hsw:(A++x::B).length<w)(mine:Int)
 (hA:∀y∈A,mr 2 mine 0 y=false) (hx:mr 2 mine 0 x=true) (pre post:List UInt8) (hat:x.at_=pre.length) {L:Nat} (hL:L=(pre++(bj (6+12*E.length)++post)).length) (hlt:L<2^40) {o:Int} (ho:o=1\/o=2) (Y:Value) (no:Int):
 DA w mine L L o (aC bY (A++x::B)) Y no ((pre++(bj (6+12*E.length)++post)).map bg) (E.flatMap bP)=some ((pre.length:Int),L,L,o,aC bY (A++x::B),Y,no,(pre++(kP o (gF E) 0++post)).map bg):=by
 unfold DA By;rw[akl w hE cF (by omega)];simp only[aB];rw[OE hsl hsw 2 mine 0 hA hx];simp only[aB,hat];have hn:(gF E).length=E.length:=Ar E;have hsE:∀y∈gF E,Go.Proofs.YtcfjfbeadhnknaaGreatDoor.mB y:=λy hy=>hEo y (xv.1 hy);generalize gF E=F at hn hsE⊢;have hfl:(F.flatMap bP).length/4=F.length:=by rw[cS kT];omega
 rw[hfl];rw[<-hn] at hL hEn hEw⊢;have hz:bj (6+12*F.length)=bj 2++bj (12*F.length+4):=by rw[<-pI];congr 1;omega
 rw[hz,dV];have hlenL:L=pre.length+(6+12*F.length+post.length):=by rw[hL];simp[ji]
 rw[Om (by omega) pre (bj 2) (bj (12*F.length+4)++post) F.length 2 (.inl rfl) (by omega) ho _ Y no (ji 2) L (by rw[hL,hz,dV]) (by omega) (pre.length:Int) rfl (2:Int) rfl (Int.ofNat F.length) rfl];simp only[aB];have hlast:aY 0 4 o=bj 4:=by rcases ho with rfl|rfl<;>rfl
 refine nG (σ:=List UInt8) (ev:=λi s (g:Int->Int->Int->Nat->Nat->Int->Value->Value->Int->List Value->List Value->Option (Int×Nat×Nat×Int×Value×Value×Int×List Value))=>g pre.length (F.length:Int) i L L o (aC bY (A++x::B)) Y no (F.flatMap bP) (s.map bg))
  (Inv:=λi s=>s=pre++(aY F.length 2 o++((F.take i).flatMap (jb o)++(bj (12*(F.length -i)+4)++post)))) F.length _ ?_ ?_ ?_ (by omega)
 ·simp
 ·rintro i g s hi rfl
  refine⟨pre++(aY F.length 2 o++((F.take (i+1)).flatMap (jb o)++(bj (12*(F.length -(i+1))+4)++post))),rfl,?_⟩;have e1:((i:Int)<(F.length:Int)):=by omega
  have e2:i*4<(F.flatMap bP).length:=by omega
  simp only[aV,e1,aW,aD,bR,show Nat.beq 4 4=true from rfl,eJ,mE,e2];rw[show 0+i*4=i*4 from gj _,nB kT,dw hi,dK];have tg:∀(x:bn)(r:List Value),bP x++r=.int .i64 x.tag::.int .i64 x.ty::.int .i64 x.az::.int .i64 x.slot::r:=λ_ _=>rfl;simp only[tg,aZ,bE];have hok:=hsE _ (cy hi);have b1:=hok.tag;have b2:=hok.ty;have b3:=hok.az;have b4:=hok.slot;rw[akm (by omega) _ _ _ _ o ho,ay ⟨⟨b1.1,b1.2⟩,⟨b2.1,b2.2⟩,⟨b3.1,b3.2⟩,by omega,by omega⟩];simp only[aB,cc,o8];rw[aN (n:=12*(i:Int)) (by omega) (by omega),aN (n:=(pre.length:Int)+2) (by omega) (by omega),aN (n:=(pre.length:Int)+2+12*(i:Int)) (by omega) (by omega),aN (n:=(i:Int)+1) (by omega) (by omega),lU (by omega)];have ek:((pre.length:Int)+2+12*(i:Int)).toNat=(pre++(aY F.length 2 o++(F.take i).flatMap (jb o))).length:=by rw[aS,aS,eB,xe,dk];omega
  rw[ek];have eb:aY F[i].tag.toNat 2 o++(aY F[i].ty.toNat 2 o++(aY F[i].az.toNat 4 o++aY ((F[i].slot:Int)).toNat 4 o))=jb o F[i]:=by unfold jb;simp
  rw[eb];have ez:bj (12*(F.length -i)+4)=bj 12++bj (12*(F.length -(i+1))+4):=by rw[<-pI];congr 1;omega
  have ebs:pre++(aY F.length 2 o++((F.take i).flatMap (jb o)++(bj (12*(F.length -i)+4)++post)))=(pre++(aY F.length 2 o++(F.take i).flatMap (jb o)))++(bj 12++(bj (12*(F.length -(i+1))+4)++post)):=by rw[ez];simp
  rw[ebs];have:=Jq (pre++(aY F.length 2 o++(F.take i).flatMap (jb o))) (jb o F[i]) (bj 12) (bj (12*(F.length -(i+1))+4)++post) (by rw[ji,JE]) (L:=L) (by
   rw[hlenL];simp only[aS,ji,eB,xe,dk];omega)
   (λcs=>g (pre.length:Int) (F.length:Int) ((i:Int)+1) L L o (aC bY (A++x::B)) Y no (F.flatMap bP) cs)
  refine this.trans ?_;rw[aaO hi];simp only[dV];rfl
 ·rintro g s rfl
  have e1:¬((F.length:Int)<(F.length:Int)):=by omega
  simp only[aV,e1,bF,aF];rw[mW,Nat.sub_self,Nat.mul_zero,gj];unfold kP;rw[hlast];simp only[dV]
end
theorem LL(e:Nat):dN e=bj (aJ e -e):=by
 unfold dN aJ;by_cases h:e%2=0
 ·rw[ay h,show e+e%2 -e=0 by omega];rfl
 ·rw[aq h,show e+e%2 -e=1 by omega];rfl
theorem CB{no:Nat}{y:bo}:∀{l:List aK}{e:Nat},y∈cW no e l->y.nS=3/\y.dir=(no:Int)/\∃t∈l,y.tag=t.tag
 |[],_,h=>by cases h
 |t::l,e,h=>by
  unfold cW at h;split at h
  ·obtain⟨a,b,t',c,d⟩:=CB h
   grind
  ·rcases cQ.1 h with rfl|h
   ·simp
   ·obtain⟨a,b,t',c,d⟩:=CB h
    grind
theorem aab(d:aU):1<=dD d:=by cases d;unfold dD;omega
mutual
theorem Pj{y:bo}:∀{d:aU}{no e:Nat},y∈fW no e d->(no:Int)<=y.dir/\y.dir<(no:Int)+dD d
 | .mk tags subs blob,no,e,h=>by
  unfold dD;rcases cQ.1 h with rfl|h
  ·exact⟨Int.le_refl _,by simp only;omega⟩
  ·rcases fI.1 h with h|h
   ·have:=(CB h).2.1;omega
   ·rcases fI.1 h with h|h
    ·have:=Pk h;omega
    grind
theorem Pk{y:bo}:∀{r:cI}{no e:Nat},y∈kI no e r->(no:Int)<=y.dir/\y.dir<(no:Int)+ib r
 | .nil,no,e,h=>by unfold kI at h;cases h
 | .cons t d r,no,e,h=>by
  unfold ib;rcases fI.1 h with h|h
  ·have:=Pj h;omega
  ·have:=Pk h;omega
end
def mF(o:Int)(sh:List bc)(S:bc)(e:Nat):List (Int×aU)->List UInt8
 |[]=>[]
 |p::l=>jo o sh ((lK S p.1).getD 0) 0 e p.2 ++mF o sh S (bB e p.2) l
theorem Qs(o:Int)(sh:List bc)(S:bc):∀(s:cI)(e:Nat),jT o sh S e s=mF o sh S e (aP s)
 | .nil,e=>by simp[jT,aP,mF]
 | .cons t d r,e=>by simp[jT,aP,mF,Qs o sh S r]
def oq(e:Nat):List (Int×aU)->List bn
 |[]=>[]
 |p::l=>⟨p.1,4,1,aJ e⟩::oq (bB e p.2) l
theorem Q4:∀(s:cI)(e:Nat),iA e s=oq e (aP s)
 | .nil,e=>by simp[iA,aP,oq]
 | .cons t d r,e=>by simp[iA,aP,oq,Q4 r]
theorem Ko{sh:List bc}{S:bc}:∀{s:cI},jc sh S s=true->∀p∈aP s,fo S p.1 =true/\cK sh ((lK S p.1).getD 0) p.2 =true
 | .nil,_,p,h=>by cases h
 | .cons t d r,h,p,hp=>by
  simp[jc] at h;rcases cQ.1 hp with rfl|hp
  ·grind
  ·exact Ko h.2.2 p hp
theorem akh{w:Nat}(l:List iv)(n:Int)(a b c:Value)(hl:l.length<2^40)(hw:l.length<w):OA w (gG l) n a b c=some (dc (λx=>x.tag==n) l):=by
 refine mJ l (λx=>x.tag==n) (ev:=λi (g:Value->List Value->Int->Int->Option Int)=>g (aC mc l) [.int .i64 n,a,b,c] l.length i) ?_ ?_ hw
 ·intro i g h;simp_all;rw[bt tE h];unfold mc OD;rw[aN (by omega) (by omega)];simp
 simp
theorem akd(w:Nat)(x y:bn)(c:List Value)(hc:c.length<=1000000000):Cd w [.int .i64 x.tag,.int .i64 x.ty,.int .i64 x.az,.int .i64 x.slot,.int .i64 y.tag,.int .i64 y.ty,.int .i64 y.az,.int .i64 y.slot] c=some (c++(bP x++bP y)):=by unfold Cd;simp_all;rfl
theorem vC{l:List aK}(h:fH l=true){i j:Nat}(hij:i<j)(hj:j<l.length):l[i].tag<l[j].tag:=by
 induction l generalizing i j with
 |nil=>grind
 |cons a l ih=>
  obtain⟨h1,h2⟩:=Fl h;cases j with
  |zero=>omega
  |succ j=>
   cases i with
   |zero=>grind
   |succ i=>grind
structure zy(w m:Nat)(sh:List bc)(o:Int)(L:Nat)(Sp:List bo):Prop where
 hm:m<2^28
 hw:2*m+1000<=w
 ok:iZ sh
 bN:∀s,s<sh.length->(aO sh s).bN.length<=m
 ho:o=1\/o=2
 hL:L<4294967296
 tA:Sp.length<2^40
 u9:Sp.length<w
 Ao:70000<=w
def zp(sh:List bc)(o:Int)(L:Nat)(Sp:List bo)(rec:Value->Value->Value->Int->Nat->Nat->Int->Value->Value->Int->List Value->Option (Int×Nat×Nat×Int×Value×Value×Int×List Value))(d:aU)(s:Nat):Prop:=
 ∀(no e:Nat)(A B:List bo)(pre post:List UInt8),(∀y∈A,y.dir<(no:Int))->pre.length=e->Sp=A++(fW no e d++B)->L=(pre++(bj (bB e d -e)++post)).length->no+dD d<2^40->
  rec (dT d) (dS d) (dB d) (s:Int) L L o (aC bY Sp) (cq sh) (no:Int) ((pre++(bj (bB e d -e)++post)).map bg)=
   some ((aJ e:Int),L,L,o,aC bY Sp,cq sh,((no+dD d:Nat):Int),(pre++(jo o sh s 0 e d++post)).map bg)
theorem QY(e:Nat)(t:aK)(ts:List aK):cf e (t::ts)=if bO t.ty t.az=0 then cf e ts else cf (aJ e+bO t.ty t.az) ts:=rfl
theorem alY(o:Int)(e:Nat)(t:aK)(ts:List aK):gA o e (t::ts)=if bO t.ty t.az=0 then gA o e ts else dN e++(ll o t++gA o (aJ e+bO t.ty t.az) ts):=rfl
theorem aaN(o:Int)(e:Nat)(t:aK)(ts:List aK):eA o e (t::ts)=if bO t.ty t.az=0 then⟨t.tag,t.ty,t.az,o9 o t⟩::eA o e ts else⟨t.tag,t.ty,t.az,aJ e⟩::eA o (aJ e+bO t.ty t.az) ts:=rfl
theorem ale(no e:Nat)(t:aK)(ts:List aK):cW no e (t::ts)=if bO t.ty t.az=0 then cW no e ts else⟨3,no,t.tag,aJ e,bO t.ty t.az⟩::cW no (aJ e+bO t.ty t.az) ts:=rfl
theorem Sr(x:bn):∀l:List bn,(jZ x l).Perm (x::l)
 |[]=>List.Perm.refl _
 |y::l=>by
  unfold jZ;split
  ·simp
  ·exact((Sr x l).cons y).trans (List.Perm.swap x y l)
theorem SE:∀l:List bn,(gF l).Perm l
 |[]=>List.Perm.refl _
 |x::l=>by exact(Sr x _).trans ((SE l).cons x)
theorem TG:∀{l:List bn},(l.map bn.tag).Nodup->nZ l
 |[],_=>trivial
 |x::l,h=>by rw[iH,List.nodup_cons] at h;refine⟨λy hy e=>h.1 ?_,TG h.2⟩;simp_all
theorem Zw{l:List bn}(h:eR (gF l)=true):nZ l:=
 TG (((SE l).map bn.tag).nodup_iff.1 (I3 (zF h)))
theorem alo{w m:Nat}{sh:List bc}{o:Int}{L:Nat}{Sp:List bo}(H:zy w m sh o L Sp)(rec:Value->Value->Value->Int->Nat->Nat->Int->Value->Value->Int->List Value->Option (Int×Nat×Nat×Int×Value×Value×Int×List Value))(d:aU)(s:Nat)(hs:s<sh.length)(hd:iw m d)(hh:cK sh s d=true)
 (hrec:∀p∈aP (match d with| .mk _ subs _=>subs),∀k:Nat,k<sh.length->cK sh k p.2 =true->zp sh o L Sp rec p.2 k):zp sh o L Sp (H5 w rec) d s:=by
 obtain⟨hm,hw,hsh,hl,ho,hLt,tA,u9,Ao⟩:=H;obtain⟨tags,subs,blob⟩:=d;intro no e A B pre post hA hp hSp hL tB;have hd:tags.length<=m/\cd subs<=m/\blob.length<=m/\(∀t∈tags,t.data.length<=m)/\iy m subs:=hd;replace hrec:∀p∈aP subs,∀k:Nat,k<sh.length->cK sh k p.2 =true->zp sh o L Sp rec p.2 k:=hrec;have hlenB:=sX o sh (.mk tags subs blob) s 0 e hh;have hh0:=hh;simp only[cK,bu,sI,bZ] at hh;obtain⟨⟨n1,n2⟩,ht,hbl,hr,hss⟩:=hh;have htg:∀t∈tags,mS t.tag=true/\er t.ty t.az t.data=true:=λt h=>by simp only[kh,bu,iu] at ht;exact⟨(ht.2 t h).1,(ht.2 t h).2.2⟩
 have htr:fH tags=true:=by simp only[kh,bu] at ht;exact ht.1
 obtain⟨N,hN⟩:∃N,bH (.mk tags subs blob)=N:=⟨_,rfl⟩;rw[hN] at n1 n2;have hNt:tags.length+cd subs<=N:=by rw[<-hN];show _<=tags.length+cd subs+_;omega
 obtain⟨e1,he1⟩:∃e1,aJ e+(6+12*N)=e1:=⟨_,rfl⟩;obtain⟨e2,he2⟩:∃e2,cf e1 tags=e2:=⟨_,rfl⟩;obtain⟨e3,he3⟩:∃e3,ej e2 subs=e3:=⟨_,rfl⟩;obtain⟨S,hS⟩:∃S,aO sh s=S:=⟨_,rfl⟩;have hSo:=hsh.ok s;have hSlk:=hsh.bN s hs;have hln:=hl s hs;rw[hS] at hSo ht hbl hss hSlk hln;have hSg:sh[s]=S:=by rw[<-hS];unfold aO;rw[cu hs];rfl
 have g1:=ny e;have g2:=qI tags e1;have g3:=te subs e2;have g4:=ny e3;rw[he2] at g2;rw[he3] at g3;obtain⟨D,hD⟩:∃D,bB e (.mk tags subs blob)=D:=⟨_,rfl⟩;have hend:D=if blob.length=0 then e3 else aJ e3+blob.length:=by rw[<-hD,bB,hN,he1,he2,he3]
 rw[hD] at hL hlenB⊢;have hDe:e3<=D:=by rw[hend];split<;>omega
 have hlenL:L=D+post.length:=by rw[hL,aS,aS,ji];omega
 obtain⟨E,hE⟩:∃E,eA o e1 tags++(iA e2 subs++gZ S e3 blob)=E:=⟨_,rfl⟩;have c1:=(QA (order:=o) (e1:=e1) (e2:=e2) (e3:=e3) hSo ht hbl hr hss rfl).1;rw[hE] at c1;have hEap:nZ E:=Zw c1;have hEn:E.length=N:=by rw[<-hE,aS,aS,tj,Ab,DJ,<-hN];show _=tags.length+cd subs+(if blob.length=0 then 0 else 2);omega
 have hEne:E≠[]:=by intro q;rw[q] at hEn;simp at hEn;omega
 have hEo:∀x∈E,Go.Proofs.YtcfjfbeadhnknaaGreatDoor.mB x:=by
  intro x hx;rw[<-hE] at hx;rcases fI.1 hx with hx|hx
  ·exact DK (S:=S) htg (by rw[he2];omega) x hx
  ·rcases fI.1 hx with hx|hx
   ·exact JG hSo (D3 hss) (by rw[he3];omega) x hx
   ·unfold gZ at hx;split at hx
    ·cases hx
    ·rename_i hb0;rw[aq hb0] at hend;have hat:=hSo.pair (hbl.resolve_left hb0);simp only[cQ,mV,mZ] at hx;rcases hx with rfl|rfl
     ·exact⟨by simp only;omega,by simp only;omega,by simp only;omega,by simp only;omega⟩
     ·exact⟨by simp only;omega,by simp only;omega,by simp only;omega,by simp only;omega⟩
 obtain⟨bS,hbS⟩:∃bS:List bo,(if blob.length=0 then[] else[⟨4,no,0,aJ e3,blob.length⟩])=bS:=⟨_,rfl⟩;have hSp1:Sp=A++(⟨2,no,0,aJ e,6+12*N⟩::(cW no e1 tags++(fX (no+1) e2 (aP subs)++(bS++B)))):=by rw[hSp,fW,hN,he1,he2,he3,hbS,H4];simp only[eE,dV]
 have hcN:dD (.mk tags subs blob)=fQ (aP subs)+1:=by rw[dD,Jp]
 rw[hcN] at tB⊢;have hvl:=Il o tags e1 λt h=>(htg t h).2;rw[he2] at hvl;unfold H5 cq By;simp only[dT,dS,dB,bR];rw[bt yX hs,hSg];have tg:∀(S:bc)(r:List Value),jy S++r=gG S.bN::.int .i64 S.at_::.int .i64 S.cC::.int .i64 S.next::r:=λ_ _=>rfl;simp only[tg,aZ,bE,cc];unfold aw;rw[cw,aN (n:=(no:Int)+1) (by omega) (by omega)];have hz1:bj (D -e)=bj (e1 -e)++([]++bj (D -e1)):=by rw[fA,<-pI];congr 1;omega
 rw[hz1];simp only[dV];refine nG (σ:=Nat×List UInt8×List bn×List bo) (ev:=λi s (g:Int->Value->Int->Int->Nat->Nat->Int->Value->Value->Int->Value->Value->Value->Value->Int->Int->Int->List Value->List Value->Option (Int×Nat×Nat×Int×Value×Value×Int×List Value))=>g no (aC ct tags) tags.length i L L o (aC bY Sp) (aC jy sh) ((no:Int)+1) (aC ct tags) (ae (cd subs) (gK subs)) (ah blob) (gG S.bN) S.at_ S.cC S.next ((pre++(bj (e1 -e)++(s.2.1 ++(bj (D -s.1)++post)))).map bg) (s.2.2.1.flatMap bP))
  (Inv:=λi s=>cf s.1 (tags.drop i)=e2/\e1+s.2.1.length=s.1 /\s.2.1 ++gA o s.1 (tags.drop i)=gA o e1 tags/\s.2.2.1 ++eA o s.1 (tags.drop i)=eA o e1 tags/\s.2.2.2 ++cW no s.1 (tags.drop i)=cW no e1 tags/\∀y∈s.2.2.2,y.nS=3/\y.dir=(no:Int)/\∃t∈tags.take i,y.tag=t.tag) tags.length (e1,[],[],[]) ?_ ?_ ?_ (by omega)
 ·exact⟨by simpa using he2,by simp,by simp,by simp,by simp,λy hy=>by cases hy⟩
 ·rintro i g ⟨ei,X,es,Q⟩ hi ⟨h1,h2,h3,h4,h5,h6⟩
  simp only at h1 h2 h3 h4 h5 h6;have hmem:=cy hi;obtain⟨ht1,ht2⟩:=htg _ hmem;have iD:=hd.2.2.2.1 _ hmem;have hel:(es.flatMap bP).length<=1000000000:=by
   rw[cS kT];have:es.length<=tags.length:=by have:=bT List.length h4;rw[aS,tj,tj] at this;omega
   omega
  rw[dw hi] at h1 h3 h4 h5;rw[QY] at h1;rw[alY] at h3;rw[aaN] at h4;rw[ale] at h5;have e0:((i:Int)<(tags.length:Int)):=by omega
  have tt:∀(t:aK)(r:List Value),ct t++r=.int .i64 t.tag::.int .i64 t.ty::.int .i64 t.az::ah t.data::r:=λ_ _=>rfl;by_cases h0:bO tags[i].ty tags[i].az=0
  ·rw[ay h0] at h1 h3 h4 h5;refine⟨(ei,X,es++[⟨tags[i].tag,tags[i].ty,tags[i].az,o9 o tags[i]⟩],Q),⟨h1,h2,h3,by rw[<-h4];simp,h5,λy hy=>?_⟩,?_⟩
   ·obtain⟨a,b,t,c,q⟩:=h6 y hy;exact⟨a,b,t,by rw[iI hi];exact fI.2 (.inl c),q⟩
   ·simp only[aV,e0,aW,aD,bR];rw[bt gO hi];simp only[tt,aZ,bE];rw[ake (by omega) tags[i] ht2 (by omega) (by omega) ho ht1 h0];simp only[aB];rw[Ox w ⟨tags[i].tag,tags[i].ty,tags[i].az,o9 o tags[i]⟩ _ hel];simp only[aB];rw[aN (by omega) (by omega),ft];simp only[dK,lu,dW];rfl
  ·rw[aq h0] at h1 h3 h4 h5;have hout:=xO ht2;have hoL:bO tags[i].ty tags[i].az=tags[i].data.length:=by rw[hout] at h0⊢;split<;>simp_all
   have hge:=qI (tags.drop (i+1)) (aJ ei+bO tags[i].ty tags[i].az);rw[h1] at hge;have hev:=ny ei;have hpd:=qh ei;have hvB:(ll o tags[i]).length=bO tags[i].ty tags[i].az:=by rw[zh,hoL]
   refine⟨(aJ ei+bO tags[i].ty tags[i].az,X++(dN ei++ll o tags[i]),es++[⟨tags[i].tag,tags[i].ty,tags[i].az,aJ ei⟩],Q++[⟨3,no,tags[i].tag,aJ ei,bO tags[i].ty tags[i].az⟩]),⟨h1,?_,by rw[<-h3];simp,by rw[<-h4];simp,by rw[<-h5];simp,λy hy=>?_⟩,?_⟩
   ·simp only[aS,hvB];omega
   ·rcases fI.1 hy with hy|hy
    ·obtain⟨a,b,t,c,q⟩:=h6 y hy;exact⟨a,b,t,by rw[iI hi];exact fI.2 (.inl c),q⟩
    ·rw[nV.1 hy];exact⟨rfl,rfl,tags[i],by rw[iI hi];exact fI.2 (.inr (by simp)),rfl⟩
   ·simp only[aV,e0,aW,aD,bR];rw[bt gO hi];simp only[tt,aZ,bE];have hSpi:Sp=(A++(⟨2,no,0,aJ e,6+12*N⟩::Q))++⟨3,no,tags[i].tag,aJ ei,bO tags[i].ty tags[i].az⟩::(cW no (aJ ei+bO tags[i].ty tags[i].az) (tags.drop (i+1))++(fX (no+1) e2 (aP subs)++(bS++B))):=by
     rw[hSp1,<-h5];simp
    have hbuf:pre++(bj (e1 -e)++(X++(bj (D -ei)++post)))=(pre++(bj (e1 -e)++(X++dN ei)))++(bj (bO tags[i].ty tags[i].az)++(bj (D -(aJ ei+bO tags[i].ty tags[i].az))++post)):=by
     have:bj (D -ei)=dN ei++(bj (bO tags[i].ty tags[i].az)++bj (D -(aJ ei+bO tags[i].ty tags[i].az))):=by rw[LL,<-pI,<-pI];congr 1;omega
     rw[this];simp
    have hpl:(pre++(bj (e1 -e)++(X++dN ei))).length=aJ ei:=by simp only[aS,ji];omega
    have hq:=akf (w:=w) (by omega) tags[i] ht2 (by omega) (by omega) ho ht1 h0 (no:Int) (A:=A++(⟨2,no,0,aJ e,6+12*N⟩::Q)) (B:=cW no (aJ ei+bO tags[i].ty tags[i].az) (tags.drop (i+1))++(fX (no+1) e2 (aP subs)++(bS++B))) (x:=⟨3,no,tags[i].tag,aJ ei,bO tags[i].ty tags[i].az⟩) (by rw[<-hSpi];exact tA) (by rw[<-hSpi];exact u9) (λy hy=>by
     unfold mr;rcases fI.1 hy with hy|hy
     ·have:=hA y hy;have:(y.dir==(no:Int))=false:=by simp;omega
      rw[this];simp
     ·rcases cQ.1 hy with rfl|hy
      ·rfl
      ·obtain⟨-,-,t,c,q⟩:=h6 y hy;obtain⟨j,hj,rfl⟩:=List.getElem_of_mem c;rw[dk] at hj;rw[List.getElem_take] at q;have:=vC htr (show j<i by omega) hi;have:(y.tag==tags[i].tag)=false:=by simp;omega
       rw[this];simp) (by simp[mr]) (pre++(bj (e1 -e)++(X++dN ei))) (bj (bO tags[i].ty tags[i].az)) (bj (D -(aJ ei+bO tags[i].ty tags[i].az))++post) (by rw[ji,hoL]) hpl.symm (L:=L) (by rw[hlenL];simp only[aS,ji];omega) (aC jy sh) ((no:Int)+1)
    rw[<-hSpi,<-hbuf] at hq;rw[hq];simp only[aB];rw[hpl];rw[Ox w ⟨tags[i].tag,tags[i].ty,tags[i].az,aJ ei⟩ _ hel];simp only[aB];rw[aN (by omega) (by omega),ft];simp only[dK,lu,dW,dV];rfl
 ·rintro g ⟨ei,X,es,Q⟩ ⟨h1,h2,h3,h4,h5,h6⟩
  simp only[rB,cf,gA,eA,cW,dW] at h1 h2 h3 h4 h5 h6;subst h1 h3 h4;have e0:ak (tags.length:Int) (tags.length:Int)=false:=by simp
  simp only[e0,aF];rw[CG,cw];have hsl:=uj subs;have sg:∀(p:Int×aU)(r:List Value),fZ p++r=.int .i64 p.1 ::dT p.2 ::dS p.2 ::dB p.2 ::r:=by intro p r;unfold fZ;rw[qb];rfl
  have hvlen:(gA o e1 tags).length=ei -e1:=by omega
  generalize hV:gA o e1 tags=V at*;rw[show(no:Int)+1=((no+1:Nat):Int) by omega];refine nG (σ:=Nat×Nat×List UInt8×List bn×List bo) (ev:=λi s (g:Int->Value->Int->Int->Nat->Nat->Int->Value->Value->Int->Value->Value->Value->Value->Int->Int->Int->List Value->List Value->Option (Int×Nat×Nat×Int×Value×Value×Int×List Value))=>g no (aC fZ (aP subs)) (aP subs).length i L L o (aC bY Sp) (aC jy sh) (s.2.1 :Nat) (aC ct tags) (aC fZ (aP subs)) (ah blob) (gG S.bN) S.at_ S.cC S.next ((pre++(bj (e1 -e)++(s.2.2.1 ++(bj (D -s.1)++post)))).map bg) (s.2.2.2.1.flatMap bP))
   (Inv:=λi s=>gY s.1 ((aP subs).drop i)=e3/\s.2.1 +fQ ((aP subs).drop i)=no+1+fQ (aP subs)/\e1+s.2.2.1.length=s.1 /\s.2.2.1 ++mF o sh S s.1 ((aP subs).drop i)=V++mF o sh S ei (aP subs)/\s.2.2.2.1 ++oq s.1 ((aP subs).drop i)=eA o e1 tags++oq ei (aP subs)/\s.2.2.2.2 ++fX s.2.1 s.1 ((aP subs).drop i)=fX (no+1) ei (aP subs)/\no+1<=s.2.1 /\s.2.2.2.1.length=tags.length+i/\∀y∈s.2.2.2.2,y.dir<(s.2.1 :Int)) (aP subs).length (ei,no+1,V,eA o e1 tags,[]) ?_ ?_ ?_ ?_
  ·exact⟨by rw[eu,<-JB];exact he3,by simp,by simp only;omega,by simp,by simp,by simp,aM _,by simp[tj],λy hy=>by cases hy⟩
  ·rintro i g ⟨fi,ni,X,es,R⟩ hi ⟨k1,k2,k3,k4,k5,k6,k7,k8,k9⟩
   simp only at k1 k2 k3 k4 k5 k6 k7 k8 k9;have hmem:=cy hi;rw[dw hi] at k1 k2 k4 k5 k6;rw[gY] at k1;rw[fQ] at k2;rw[mF] at k4;rw[oq] at k5;rw[fX] at k6;obtain⟨p1,p2⟩:=Ko hss _ hmem;have hge:=DI ((aP subs).drop (i+1)) (bB fi (aP subs)[i].2);have hge2:=zV (aP subs)[i].2 fi;have hbl2:=sX o sh (aP subs)[i].2 ((lK S (aP subs)[i].1).getD 0) 0 fi p2;rw[k1] at hge;have e5:((i:Int)<((aP subs).length:Int)):=by omega
   rcases KJ S (aP subs)[i].1 with⟨-,hb0⟩|⟨k,hk,ek,-,e2⟩
   ·rw[p1] at hb0;cases hb0
   have hlk:=hSlk _ (cy hk);have hsh2:((S.bN[k].shape.toNat:Nat):Int)=S.bN[k].shape:=mz (by omega);rw[e2] at p2 k4 hbl2;refine⟨(bB fi (aP subs)[i].2,ni+dD (aP subs)[i].2,X++jo o sh S.bN[k].shape.toNat 0 fi (aP subs)[i].2,es++[⟨(aP subs)[i].1,4,1,aJ fi⟩],R++fW ni fi (aP subs)[i].2),⟨k1,by simp only;omega,by simp only[aS];omega,by rw[<-k4];simp,by rw[<-k5];simp,by rw[<-k6];simp,by simp only;omega,by simp only[aS,wD];omega,λy hy=>?_⟩,?_⟩
   ·rcases fI.1 hy with hy|hy
    ·have:=k9 y hy;simp only;omega
    ·have:=Pj hy;simp only;omega
   ·simp only[aV,e5,aW,aD,bR];rw[bt uh hi];simp only[sg,aZ,bE];rw[akh _ _ _ _ _ (by omega) (by omega),ek];simp only[aB,bR];unfold gG;rw[bt tE hk];have lg:∀(x:iv)(r:List Value),(mc x++r).drop 1=.int .i64 x.shape::r:=λ_ _=>rfl;simp only[lg,aZ,bE];have hSpi:Sp=(A++(⟨2,no,0,aJ e,6+12*N⟩::(cW no e1 tags++R)))++(fW ni fi (aP subs)[i].2 ++(fX (ni+dD (aP subs)[i].2) (bB fi (aP subs)[i].2) ((aP subs).drop (i+1))++(bS++B))):=by
     rw[hSp1,<-k6];simp
    have hzz:bj (D -fi)=bj (bB fi (aP subs)[i].2 -fi)++bj (D -bB fi (aP subs)[i].2):=by rw[<-pI];congr 1;omega
    have hbuf:pre++(bj (e1 -e)++(X++(bj (D -fi)++post)))=(pre++(bj (e1 -e)++X))++(bj (bB fi (aP subs)[i].2 -fi)++(bj (D -bB fi (aP subs)[i].2)++post)):=by rw[hzz];simp
    have hpl:(pre++(bj (e1 -e)++X)).length=fi:=by simp only[aS,ji];omega
    have hr:=hrec _ hmem S.bN[k].shape.toNat (by omega) p2 ni fi (A++(⟨2,no,0,aJ e,6+12*N⟩::(cW no e1 tags++R))) (fX (ni+dD (aP subs)[i].2) (bB fi (aP subs)[i].2) ((aP subs).drop (i+1))++(bS++B)) (pre++(bj (e1 -e)++X)) (bj (D -bB fi (aP subs)[i].2)++post) (λy hy=>by
     rcases fI.1 hy with hy|hy
     ·have:=hA y hy;omega
     ·rcases cQ.1 hy with rfl|hy
      ·simp only;omega
      ·rcases fI.1 hy with hy|hy
       ·have:=(CB hy).2.1;omega
       ·exact k9 y hy) hpl hSpi (by rw[hlenL];simp only[aS,ji];omega) (by omega)
    rw[hsh2] at hr;unfold cq at hr;rw[<-hbuf] at hr;rw[hr];simp only[aB,cg,aW,aD];unfold uc;simp only[aB];rw[Ox w ⟨(aP subs)[i].1,4,1,aJ fi⟩ _ (by rw[cS kT];omega)];simp only[aB,cc];rw[aN (by omega) (by omega)];simp only[ft,dK,lu,dW,dV];rfl
  ·rintro g ⟨fi,ni,X,es,R⟩ ⟨k1,k2,k3,k4,k5,k6,k7,k8,k9⟩
   simp only[rB,gY,fQ,mF,oq,fX,dW,Nat.add_zero] at k1 k2 k3 k4 k5 k6 k7 k8 k9;subst k1 k2 k4 k5;have e6:ak ((aP subs).length:Int) ((aP subs).length:Int)=false:=by simp
   simp only[e6,aF];rw[cN];have hE2:eA o e1 tags++oq ei (aP subs)++gZ S fi blob=E:=by rw[<-hE,Q4];simp
   have hbD:jo o sh s 0 e (.mk tags subs blob)=dN e++(kP o (gF E) 0++(V++(mF o sh S ei (aP subs)++(if blob.length=0 then[] else dN fi++blob)))):=by rw[jo,hN,he1,he2,he3,hS,hE,Qs,hV]
   have hpl:(pre++dN e).length=aJ e:=by have:=qh e;rw[aS];omega
   have hz2:bj (e1 -e)=dN e++bj (6+12*E.length):=by rw[LL,<-pI];congr 1;omega
   have hfin:∀post':List UInt8,L=(pre++(bj (e1 -e)++post')).length->DA w no L L o (aC bY Sp) (aC jy sh) ((no+1+fQ (aP subs):Nat):Int) ((pre++(bj (e1 -e)++post')).map bg) (E.flatMap bP)=
    some ((aJ e:Int),L,L,o,aC bY Sp,aC jy sh,((no+1+fQ (aP subs):Nat):Int),(pre++(dN e++(kP o (gF E) 0++post'))).map bg):=by
    intro post' hLp;have hb:pre++(bj (e1 -e)++post')=(pre++dN e)++(bj (6+12*E.length)++post'):=by rw[hz2];simp
    have:=aaq (w:=w) (by omega) hEap hEne hEo (by omega) (by omega) (A:=A) (B:=cW no e1 tags++(fX (no+1) ei (aP subs)++(bS++B))) (x:=⟨2,no,0,aJ e,6+12*N⟩) (by rw[<-hSp1];exact tA) (by rw[<-hSp1];exact u9) (no:Int) (λy hy=>by
     have:=hA y hy;unfold mr;have:(y.dir==(no:Int))=false:=by simp;omega
     rw[this];simp) (by simp[mr]) (pre++dN e) post' hpl.symm (L:=L) (by rw[<-hb];exact hLp) (by omega) ho (aC jy sh) ((no+1+fQ (aP subs):Nat):Int)
    rw[<-hSp1,<-hb,hpl] at this;rw[this];simp
   by_cases hb0:blob.length=0
   ·rw[ay hb0] at hend hbS;have hB0:gZ S fi blob=[]:=by unfold gZ;rw[ay hb0]
    rw[hB0,dW] at hE2;have e7:ak 0 (Int.ofNat blob.length)=false:=by rw[hb0];rfl
    simp only[e7,aF];rw[hE2,hbD,ay hb0];refine(hfin _ (by rw[hlenL];simp only[aS,ji] at*;omega)).trans ?_;rw[show D -fi=0 by omega];simp only[bj,List.replicate_zero,fA,dW,dV]
    congr 9
    omega
   ·rw[aq hb0] at hend hbS;have hB0:gZ S fi blob=[⟨S.at_,4,1,aJ fi⟩,⟨S.cC,4,1,blob.length⟩]:=by unfold gZ;rw[aq hb0]
    have e7:ak 0 (Int.ofNat blob.length)=true:=by simp;omega
    have hpf:=qh fi;simp only[e7,aD];have hSpi:Sp=(A++(⟨2,no,0,aJ e,6+12*N⟩::(cW no e1 tags++fX (no+1) ei (aP subs))))++⟨4,no,0,aJ fi,blob.length⟩::B:=by rw[hSp1,<-hbS];simp
    have hq:=OE (w:=w) (A:=A++(⟨2,no,0,aJ e,6+12*N⟩::(cW no e1 tags++fX (no+1) ei (aP subs)))) (B:=B) (x:=⟨4,no,0,aJ fi,blob.length⟩) (by rw[<-hSpi];exact tA) (by rw[<-hSpi];exact u9) 4 (no:Int) 0 (λy hy=>by
     unfold mr;rcases fI.1 hy with hy|hy
     ·have:=hA y hy;have:(y.dir==(no:Int))=false:=by simp;omega
      rw[this];simp
     ·rcases cQ.1 hy with rfl|hy
      ·rfl
      ·rcases fI.1 hy with hy|hy
       ·rw[(CB hy).1];rfl
       ·rw[<-H4] at hy;have:=(Pk hy).1;have:(y.dir==(no:Int))=false:=by simp;omega
        rw[this];simp) (by simp[mr])
    rw[<-hSpi] at hq;rw[hq];simp only[aB,bR];have hbuf:pre++(bj (e1 -e)++(V++mF o sh S ei (aP subs)++(bj (D -fi)++post)))=(pre++(bj (e1 -e)++(V++mF o sh S ei (aP subs)++dN fi)))++(bj blob.length++post):=by
     have:bj (D -fi)=dN fi++bj blob.length:=by rw[LL,<-pI];congr 1;omega
     rw[this];simp
    have hpl2:(pre++(bj (e1 -e)++(V++mF o sh S ei (aP subs)++dN fi))).length=aJ fi:=by simp only[aS,ji] at*;omega
    rw[hbuf];have hcp:=Jq (pre++(bj (e1 -e)++(V++mF o sh S ei (aP subs)++dN fi))) blob (bj blob.length) post (ji _) (L:=L) (by rw[hlenL];simp only[aS,ji] at*;omega) (λcs=>ob (uc w S.at_ (aJ fi:Int)) λ(x144:Int×Int×Int×Int)=>au (ah blob) λ(x145:Nat)=>ob (uc w S.cC (Int.ofNat x145)) λ(x146:Int×Int×Int×Int)=>
     ob (Cd w [Value.int IntKind.i64 x144.fst,Value.int IntKind.i64 x144.snd.fst,Value.int IntKind.i64 x144.snd.snd.fst,Value.int IntKind.i64 x144.snd.snd.snd,Value.int IntKind.i64 x146.fst,Value.int IntKind.i64 x146.snd.fst,Value.int IntKind.i64 x146.snd.snd.fst,Value.int IntKind.i64 x146.snd.snd.snd] ((eA o e1 tags++oq ei (aP subs)).flatMap bP)) λ(x147:List Value)=>DA w no L L o (aC bY Sp) (aC jy sh) ((no+1+fQ (aP subs):Nat):Int) cs x147)
    rw[hpl2] at hcp;refine Eq.trans hcp ?_;unfold uc;simp only[aB,cN];have hlen2:(eA o e1 tags++oq ei (aP subs)).length<=70000:=by have:=bT List.length hE2;rw[aS] at this;omega
    have h260:=akd w ⟨S.at_,4,1,aJ fi⟩ ⟨S.cC,4,1,blob.length⟩ ((eA o e1 tags++oq ei (aP subs)).flatMap bP) (by rw[cS kT];omega);simp only[bU] at h260⊢;rw[h260];simp only[aB];have hEc:(eA o e1 tags++oq ei (aP subs)).flatMap bP++(bP ⟨S.at_,4,1,aJ fi⟩++bP ⟨S.cC,4,1,blob.length⟩)=E.flatMap bP:=by rw[<-hE2,hB0];simp[ft]
    rw[hEc];have hbuf2:(pre++(bj (e1 -e)++(V++mF o sh S ei (aP subs)++dN fi)))++(blob++post)=pre++(bj (e1 -e)++(V++(mF o sh S ei (aP subs)++(dN fi++(blob++post))))):=by simp
    rw[hbuf2,hbD,aq hb0];refine(hfin _ (by rw[hlenL];simp only[aS,ji] at*;omega)).trans ?_;simp only[dV]
    congr 9
    omega
  ·omega
theorem QO{w m:Nat}{sh:List bc}{o:Int}{L:Nat}{Sp:List bo}(H:zy w m sh o L Sp)(z:Value->Value->Value->Int->Nat->Nat->Int->Value->Value->Int->List Value->Option (Int×Nat×Nat×Int×Value×Value×Int×List Value)):
 ∀(n:Nat)(d:aU)(s:Nat),fR d<=n->s<sh.length->iw m d->cK sh s d=true->zp sh o L Sp (lZ z (H5 w) n) d s
 |0,d,s,h,_,_,_=>by obtain⟨tags,subs,blob⟩:=d;unfold fR at h;omega
 |n+1,d,s,h,hs,hd,hh=>by refine alo H _ d s hs hd hh ?_;obtain⟨tags,subs,blob⟩:=d;intro p hp k hk hpk;have hp:p∈aP subs:=hp;have:=DD p hp;unfold fR at h;exact QO H z n p.2 k (by omega) hk (wP hd.2.2.2.2 p hp) hpk
theorem ajZ{w m:Nat}{sh:List bc}{o:Int}{L:Nat}{Sp:List bo}(H:zy w m sh o L Sp)(d:aU)(s:Nat)(hs:s<sh.length)(hd:iw m d)(hh:cK sh s d=true)(jX:fR d<=w):zp sh o L Sp (GV w) d s:=QO H _ w d s jX hs hd hh
theorem ZO(o:Int)(sh:List bc)(s next e:Nat)(d:aU)(hh:cK sh s d=true):∃a b,jo o sh s next e d=a++(aY next 4 o++b)/\e+a.length=aJ e+(2+12*bH d)/\∀n,jo o sh s n e d=a++(aY n 4 o++b):=by
 obtain⟨tags,subs,blob⟩:=d;have hl:∀E,E=gF (eA o (aJ e+(6+12*bH (.mk tags subs blob))) tags++(iA (cf (aJ e+(6+12*bH (.mk tags subs blob))) tags) subs++gZ (aO sh s) (ej (cf (aJ e+(6+12*bH (.mk tags subs blob))) tags) subs) blob))->E.length=bH (.mk tags subs blob):=by
  rintro E rfl
  rw[Ar,aS,aS,tj,Ab,DJ];show _=tags.length+cd subs+(if blob.length=0 then 0 else 2);omega
 obtain⟨E,hE⟩:∃E,gF (eA o (aJ e+(6+12*bH (.mk tags subs blob))) tags++(iA (cf (aJ e+(6+12*bH (.mk tags subs blob))) tags) subs++gZ (aO sh s) (ej (cf (aJ e+(6+12*bH (.mk tags subs blob))) tags) subs) blob))=E:=⟨_,rfl⟩;refine⟨dN e++(aY E.length 2 o++E.flatMap (jb o)),gA o (aJ e+(6+12*bH (.mk tags subs blob))) tags++(jT o sh (aO sh s) (cf (aJ e+(6+12*bH (.mk tags subs blob))) tags) subs++(if blob.length=0 then[] else dN (ej (cf (aJ e+(6+12*bH (.mk tags subs blob))) tags) subs)++blob)),by rw[jo,hE];unfold kP;simp,?_,?_⟩
 ·have:=qh e;simp only[aS,eB,xe,(hl E hE.symm)];omega
 ·intro n;rw[jo,hE];unfold kP;simp
theorem Zn{o:Int}(ho:o=1\/o=2):aY 0 4 o=bj 4:=by rcases ho with rfl|rfl<;>rfl
theorem aaE:∀{ds:List aU}{e:Nat},ds≠[]->aJ e+6<=ef e ds
 |[],_,h=>by grind
 |d::ds,e,_=>by rw[ef];have:=LY (d:=d) (e:=e);have:=qc ds (bB e d);omega
noncomputable def PG(w:Nat):Value->Int->Int->Value->Int->Int->Nat->Nat->Int->Value->Value->Int->List Value->Option (Value×Int):=
 lp (λ(x55:Value)(x56 x57:Int)(x58:Value)(x59 x60:Int)(x61 x62:Nat)(x63:Int)(x64 x65:Value)(x66:Int)(x67:List Value)=>none) (λ(x68:Value->Int->Int->Value->Int->Int->Nat->Nat->Int->Value->Value->Int->List Value->Option (Value×Int))(x69:Value)(x70 x71:Int)(x72:Value)(x73 x74:Int)(x75 x76:Nat)(x77:Int)(x78 x79:Value)(x80:Int)(x81:List Value)=>bif ak x74 x73 then aA x74 λ(x82:Nat)=>aI 3 x82 x72 λ(x83:List Value)=>af x83 λ(x84:Value)(x85:List Value)=>af x85 λ(x86:Value)(x87:List Value)=>af x87 λ(x88:Value)(x89:List Value)=>ob (GV w x84 x86 x88 x70 x75 x76 x77 x78 x79 x80 x81) λ(x90:Int×Nat×Nat×Int×Value×Value×Int×List Value)=>ob (sC w x71 x90.fst 4 x90.snd.fst x90.snd.snd.fst x90.snd.snd.snd.fst x90.snd.snd.snd.snd.fst x90.snd.snd.snd.snd.snd.fst x90.snd.snd.snd.snd.snd.snd.fst x90.snd.snd.snd.snd.snd.snd.snd) λ(x91:Nat×Nat×Int×Value×Value×Int×List Value)=>ob (kH w x84 x86 x88) λ(x92:Int)=>aA x70 λ(x93:Nat)=>aI 4 x93 x69 λ(x94:List Value)=>af (List.drop 3 x94) λ(x95:Value)(x96:List Value)=>ar IntKind.i64 x95 λ(x97:Int)=>x68 x69 x97 (ag IntKind.i64 ((ag IntKind.i64 (Int.add x90.fst 2)).add (ag IntKind.i64 (Int.mul 12 x92)))) x72 x73 (ag IntKind.i64 (x74.add 1)) x91.fst x91.snd.fst x91.snd.snd.fst x91.snd.snd.snd.fst x91.snd.snd.snd.snd.fst x91.snd.snd.snd.snd.snd.fst x91.snd.snd.snd.snd.snd.snd else some (ae x75 (List.drop 0 x81),0)) w
theorem al7{w m:Nat}{sh:List bc}{o:Int}{L:Nat}{Sp:List bo}(H:zy w m sh o L Sp)(ds:List aU)(iD:ds.length<=m)(hd:oe m ds)(jX:kO ds<=w)(hh:gx sh 0 ds=true)(hs0:0<sh.length)(hds:ds≠[])(hSp:Sp=ff ⟨o,ds⟩)(tB:gX ds<2^39)(hLe:L=ef 8 ds)(pre0:List UInt8)(hp0:pre0.length=4):
 PG w (cq sh) 0 (pre0.length:Int) (cR ds) ds.length 0 L L o (aC bY Sp) (cq sh) 0 ((pre0++(bj 4++([]++bj (L -8)))).map bg)=some (ah (pre0++(aY 8 4 o++chainB o sh 0 8 ds)),0):=by
 have H0:=H;obtain⟨hm,hw,hsh,hl,ho,hLt,tA,u9,Ao⟩:=H;have h8:=qc ds 8;unfold PG cR;have key:∀(e:Nat)(rest:List aU),(if rest.isEmpty then 0 else aJ e)<4294967296\/True:=λ_ _=>.inr trivial;refine nG (σ:=Nat×Nat×Int×List UInt8×List UInt8×List bo) (ev:=λi s (g:Value->Int->Int->Value->Int->Int->Nat->Nat->Int->Value->Value->Int->List Value->Option (Value×Int))=>g (cq sh) s.2.2.1 (s.2.2.2.1.length:Int) (aC cU ds) ds.length i L L o (aC bY Sp) (cq sh) (s.2.1 :Nat) ((s.2.2.2.1 ++(bj 4++(s.2.2.2.2.1 ++bj (L -s.1)))).map bg))
  (Inv:=λi s=>ef s.1 (ds.drop i)=L/\s.2.1 +gX (ds.drop i)=gX ds/\gx sh s.2.2.1 (ds.drop i)=true/\s.2.2.1 <sh.length/\s.2.2.2.1.length+4+s.2.2.2.2.1.length=s.1 /\s.2.2.2.2.2 ++jz s.2.1 s.1 (ds.drop i)=Sp/\(∀y∈s.2.2.2.2.2,y.dir<(s.2.1 :Int))/\
   s.2.2.2.1 ++(aY (if(ds.drop i).isEmpty then 0 else aJ s.1) 4 o++(s.2.2.2.2.1 ++chainB o sh s.2.2.1 s.1 (ds.drop i)))=pre0++(aY 8 4 o++chainB o sh 0 8 ds)) ds.length (8,0,0,pre0,[],[⟨1,-1,0,0,8⟩]) ?_ ?_ ?_ (by omega)
 ·refine⟨hLe.symm,by simp,hh,by simp only;omega,by simp only[hp0,List.length_nil],by rw[hSp];rfl,λy hy=>by rw[nV.1 hy];show(-1:Int)<((0:Nat):Int);decide,?_⟩;rw[eu];have:ds.isEmpty=false:=by cases ds with
   |nil=>exact absurd rfl hds
   |cons _ _=>rfl
  simp only[this,kJ,gQ,fA];rfl
 ·rintro i g ⟨e,no,s,P,M,R⟩ hi ⟨h1,h2,h3,h4,h5,h6,h7,h9⟩
  simp only at h1 h2 h3 h4 h5 h6 h7 h9;have hmem:=cy hi;rw[dw hi] at h1 h2 h3 h6 h9;rw[ef] at h1;rw[gX] at h2;rw[jz] at h6;rw[chainB] at h9;simp only[gx,bu,bZ] at h3;obtain⟨k1,k2,k3⟩:=h3;have hs:(s.toNat:Int)=s:=mz k1;have hst:s.toNat<sh.length:=by omega
  have hnx:=hsh.next s.toNat hst;have hge:=qc (ds.drop (i+1)) (bB e ds[i]);have hge2:=zV ds[i] e;have hpos:=LY (d:=ds[i]) (e:=e);have hev:=ny e;have hbl:=sX o sh ds[i] s.toNat 0 e k2;obtain⟨a,b,q1,q2,q3⟩:=ZO o sh s.toNat 0 e ds[i] k2;have hcp:=aab ds[i];have h10:=DC hmem;have e1:((i:Int)<(ds.length:Int)):=by omega
  refine⟨(bB e ds[i],no+dD ds[i],(aO sh s.toNat).next,P++(aY (aJ e) 4 o++(M++a)),b,R++fW no e ds[i]),⟨h1,by simp only;omega,k3,by simp only;omega,?_,by rw[<-h6];simp,λy hy=>?_,?_⟩,?_⟩
  ·simp only[aS,eB];have:=bT List.length q1;simp only[aS,eB] at this;omega
  ·rcases fI.1 hy with hy|hy
   ·have:=h7 y hy;simp only;omega
   ·have:=Pj hy;simp only;omega
  ·rw[<-h9];have:qf e ds[i] (ds.drop (i+1))=if(ds.drop (i+1)).isEmpty then 0 else aJ (bB e ds[i]):=rfl;rw[q3,this];simp only[List.isEmpty_cons,kJ,gQ,dV]
  ·simp only[aV,e1,aW,aD,bR];rw[bt kQ hi];simp only[zT,aZ];have hzz:bj (L -e)=bj (bB e ds[i] -e)++bj (L -bB e ds[i]):=by rw[<-pI];congr 1;omega
   have hLl:L=((P++(bj 4++M))++(bj (bB e ds[i] -e)++bj (L -bB e ds[i]))).length:=by simp only[aS,ji];omega
   have hW:=ajZ H0 ds[i] s.toNat hst (hd _ hmem) k2 (by omega) no e R (jz (no+dD ds[i]) (bB e ds[i]) (ds.drop (i+1))) (P++(bj 4++M)) (bj (L -bB e ds[i])) h7 (by simp only[aS,ji];omega) h6.symm hLl (by omega);have hb1:P++(bj 4++(M++bj (L -e)))=(P++(bj 4++M))++(bj (bB e ds[i] -e)++bj (L -bB e ds[i])):=by rw[hzz];simp
   rw[hs] at hW;rw[hb1,hW];simp only[aB];have hb2:(P++(bj 4++M))++(jo o sh s.toNat 0 e ds[i]++bj (L -bB e ds[i]))=P++(bj 4++(M++(jo o sh s.toNat 0 e ds[i]++bj (L -bB e ds[i])))):=by simp
   rw[hb2,Om (by omega) P (bj 4) (M++(jo o sh s.toNat 0 e ds[i]++bj (L -bB e ds[i]))) (aJ e) 4 (.inr rfl) (by omega) ho _ _ _ (ji 4) L (by simp only[aS,ji];omega) (by omega) (P.length:Int) rfl (4:Int) rfl ((aJ e:Nat):Int) rfl];simp only[aB];have h203:kH w (dT ds[i]) (dS ds[i]) (dB ds[i])=some (bH ds[i]:Int):=by have hsm:=hd _ hmem;generalize ds[i]=d at hsm⊢;obtain⟨tags,subs,blob⟩:=d;have hsm:tags.length<=m/\cd subs<=m/\blob.length<=m/\(∀t∈tags,t.data.length<=m)/\iy m subs:=hsm;exact GW w tags subs blob (by omega)
   rw[h203];simp only[aB,cc,o8];rw[lU k1];have hS:sh[s.toNat]=aO sh s.toNat:=by unfold aO;rw[cu hst];rfl
   have tg:∀(S:bc)(r:List Value),(jy S++r).drop 3=.int .i64 S.next::r:=λ_ _=>rfl;have hsv:cq sh=aC jy sh:=rfl;rw[hsv,bt yX hst,hS];simp only[tg,aZ,bE];have hen:bH ds[i]<=65535:=by generalize ds[i]=d at k2;obtain⟨tags,subs,blob⟩:=d;simp only[cK,bu,bZ] at k2;exact k2.1.2
   rw[aN (n:=12*(bH ds[i]:Int)) (by omega) (by omega),aN (n:=((aJ e:Nat):Int)+2) (by omega) (by omega),aN (n:=((aJ e:Nat):Int)+2+12*(bH ds[i]:Int)) (by omega) (by omega),aN (n:=(i:Int)+1) (by omega) (by omega)];have ek:((aJ e:Nat):Int)+2+12*(bH ds[i]:Int)=(((P++(aY (aJ e) 4 o++(M++a))).length:Nat):Int):=by simp only[aS,eB];omega
   rw[ek,q1,Zn ho];simp only[dV];rfl
 ·rintro g ⟨e,no,s,P,M,R⟩ ⟨h1,h2,h3,h4,h5,h6,h7,h9⟩
  simp only[rB,ef,chainB,dW,List.isEmpty_nil,dM] at h1 h5 h9;have e1:¬((ds.length:Int)<(ds.length:Int)):=by omega
  simp only[aV,e1,bF,aF,eu];rw[<-h9,Zn ho,show L -e=0 by omega];simp only[bj,List.replicate_zero,dW];rw[uN _ _ (by simp only[aS,uu];omega)]
structure oT(w m:Nat)(sh:List bc)(o:Int)(ds:List aU):Prop where
 hm:m<2^28
 hw:2*m+1000<=w
 Ao:70000<=w
 ok:iZ sh
 tz:re w (cq sh)=some true
 s0:0<sh.length
 bN:∀s,s<sh.length->(aO sh s).bN.length<=m
 ho:o=1\/o=2
 cF:ds≠[]
 iD:ds.length<=m
 hd:oe m ds
 jX:kO ds<=w
 hh:gx sh 0 ds=true
 he:ef 8 ds<=1000000000
 u9:(ff ⟨o,ds⟩).length<w
 Kl:(ff ⟨o,ds⟩).length*5<=1000000000
 tB:gX ds<2^39
 xq:vT w o (cR ds)=some true
theorem oT.cC{w m:Nat}{sh:List bc}{o:Int}{ds:List aU}(T:oT w m sh o ds):sB w o (cR ds)=some (ef 8 ds:Int):=by have:=T.he;have:=T.tB;have:=T.hw;exact ajr T.hm (by omega) o ds T.xq T.jX T.iD (by omega) T.Kl (by omega) T.hd
theorem oT.laid{w m:Nat}{sh:List bc}{o:Int}{ds:List aU}(T:oT w m sh o ds):yC w o (cR ds)=some (aC bY (ff ⟨o,ds⟩),true):=by have:=T.he;have:=T.tB;have:=T.hw;rw[XZ T.hm (by omega) o ds T.xq T.jX T.iD (by omega) T.Kl (by omega) T.hd,ay (by omega)]
theorem oT.check{w m:Nat}{sh:List bc}{o:Int}{ds:List aU}(T:oT w m sh o ds):ub w o (cR ds) (cq sh)=some 0:=by have:=T.hw;have:=qc ds 8;exact ajY T.hm (by omega) sh T.ok T.tz T.s0 T.bN T.ho ds T.cF T.iD T.hd T.jX T.hh (by omega) T.cC
theorem Vz(v:List UInt8)(n:Nat)(pre:List UInt8)(hv:v.length=2)(hp:pre.length=2){L:Nat}(hL:L=2+n):bh 0 (List.take (Nat.min 2 L*1) (v.map bg)) ((pre++bj n).map bg)=(v++bj n).map bg:=by
 rw[fg (by grind)];have:=Mj [] v pre (bj n) (by omega) 0 rfl
 grind
theorem XG{w m:Nat}{sh:List bc}{o:Int}{ds:List aU}(T:oT w m sh o ds):BW w o (cR ds) (cq sh)=some (ah (eC ⟨o,ds⟩ sh),0):=by
 have t1:=T.he;have t2:=T.u9;have t3:=T.Kl;have t4:=T.Ao;have hpos:=aaE (e:=8) T.cF;have hev:aJ 8=8:=rfl;unfold BW FR Na;rw[T.check,T.cC,T.laid];simp only[aB,show aj 0 0=true from rfl,bJ,aF,bR];obtain⟨L,hL⟩:∃L,ef 8 ds=L:=⟨_,rfl⟩;rw[hL] at t1 hpos⊢;have r1:L.ble L=true:=by rw[iV];exact aM _
 have r2:L.ble 1000000000=true:=by rw[iV];exact t1
 have e2:Nat.min 2 L=2:=by show min _ _=_;omega
 have hrep:rep L (Value.int IntKind.u8 0).cells.toList=(bj L).map bg:=tP L;have hz:bj L=bj 2++bj (L -2):=by rw[<-pI];congr 1;omega
 have r3:∀v:List UInt8,v.length=L->(0+Nat.min 2 L*1).ble (v.map bg).length=true:=by intro v hv;rw[e2,cZ,hv,iV];omega
 simp only[r1,r2,jA,aD,hrep,mX,eJ];rw[r3 _ (ji L),aD];have m1:List.map (λ(b:UInt8)=>Value.int IntKind.u8 (Int.ofNat b.toNat)) (ByteArray.mk #[77,77]).data.toList=[(77:UInt8),77].map bg:=rfl;have m2:List.map (λ(b:UInt8)=>Value.int IntKind.u8 (Int.ofNat b.toNat)) (ByteArray.mk #[73,73]).data.toList=[(73:UInt8),73].map bg:=rfl;rw[m1,m2,hz,Vz [77,77] (L -2) (bj 2) rfl rfl (by omega)];have hz2:bj (L -2)=bj 2++bj (L -4):=by rw[<-pI];congr 1;omega
 have hz3:bj (L -4)=bj 4++([]++bj (L -8)):=by rw[fA,<-pI];congr 1;omega
 have W:zy w m sh o L (ff ⟨o,ds⟩):=⟨T.hm,T.hw,T.ok,T.bN,T.ho,by omega,by omega,t2,t4⟩;have fin:∀sg:List UInt8,sg.length=2->(ob (sC w 2 42 2 L L o (aC bY (ff ⟨o,ds⟩)) (cq sh) 0 ((sg++bj (L -2)).map bg)) λ(x53:Nat×Nat×Int×Value×Value×Int×List Value)=>au (cR ds) λ(x54:Nat)=>PG w (cq sh) 0 4 (cR ds) (Int.ofNat x54) 0 x53.fst x53.snd.fst x53.snd.snd.fst x53.snd.snd.snd.fst x53.snd.snd.snd.snd.fst x53.snd.snd.snd.snd.snd.fst x53.snd.snd.snd.snd.snd.snd)=some (ah (sg++(aY 42 2 o++(aY 8 4 o++chainB o sh 0 8 ds))),0):=by
  intro sg hsg;rw[hz2,Om (by omega) sg (bj 2) (bj (L -4)) 42 2 (.inl rfl) (by decide) T.ho _ _ 0 (ji 2) L (by simp only[aS,ji];omega) (by omega) (2:Int) (by omega) (2:Int) rfl (42:Int) rfl];simp only[aB];unfold cR;rw[cw];have:=al7 W ds T.iD T.hd T.jX T.hh T.s0 T.cF rfl T.tB hL.symm (sg++aY 42 2 o) (by rw[aS,eB,hsg]);have e4:(((sg++aY 42 2 o).length:Nat):Int)=4:=by rw[aS,eB,hsg];rfl
  rw[e4] at this;unfold cR at this;rw[hz3];simp at this⊢;exact this
 rcases T.ho with ho|ho
 ·have hb:=Vz [73,73] (L -2) [77,77] rfl rfl (L:=L) (by omega);simp only[ho,show aj 1 1=true from rfl,aD];have r4:(0+Nat.min 2 L*1).ble (([77,77]++bj (L -2)).map bg).length=true:=r3 _ (by simp[ji];omega);have f:=fin [73,73] rfl;rw[ho] at f;simp only[r4,hb,aD];refine Eq.trans ?_ (f.trans ?_)
  ·rfl
  ·unfold eC;rfl
 ·simp only[ho,show aj 2 1=false from rfl,aF];have f:=fin [77,77] rfl;rw[ho] at f;refine Eq.trans ?_ (f.trans ?_)
  ·rfl
  ·unfold eC;rfl
end Lt
end Go.Proofs.YtcfjfbeadhnknaaGreatDoor

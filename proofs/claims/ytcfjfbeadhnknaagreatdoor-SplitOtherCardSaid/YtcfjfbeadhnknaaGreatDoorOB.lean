import Derived.Orders
import Derived.Scope
import Derived.Test.YtcfjfbeadhnknaaGreatDoorOA
namespace Go.Proofs.YtcfjfbeadhnknaaGreatDoor
set_option linter.unusedVariables false
set_option linter.unusedSimpArgs false
set_option linter.unusedSectionVars false
set_option linter.constructorNameAsVariable false
namespace Lt
section
variable{β:Type}
def pe(v:Qu):PanicEntry:={v:=v,recovered:=false}
abbrev cD(β:Type):=St->H1 SV->(Bool->SV->St->Zh β)->Zh β
def End(p:Bool)(v:Qu):Ending:=cond p (.panicked [pe v]) (.returned v)
def mM(P:Program)(g:FuncId)(e:cD β):Prop:=
 ∀st args K b,e st args K=some b->∃p sv st',K p sv st'=some b/\st'.tm=st.tm/\st.sx<=st'.sx/\∀{B:Bs}{σ:Ren}{F:Nat->Prop}{w:Hx},(∀id,st.sx<=id->id<st'.sx->F id)->Mem B σ (hG st.h) F w->∀args':Array Qu,eR σ args args'.toList->
  Calls P g args' w λx w'=>∃σ' v,x=End p v/\Ext σ σ'/\DV σ' sv v/\Mem B σ' (hG st'.h) (mf F st.sx st'.sx) w'
def nD(P:Program)(pt:FuncId->Zh (cD β)):Prop:=∀g e,pt g=some e->mM P g e
def aiE(X:eC)(pt:FuncId->Zh (cD β))(st:St)(c:Call)(K:Bool->SV->St->Zh β):Zh β:=
 ob (BZ st.tm c.args.toList) λargs=>match c.callee with
  | .value x=>ob (dH st.tm x) λfv=>match fv with
   | .fn g l=>ob (pt (g%65536)) λe=>ob (X.F.get (g%65536)) λ_=>e st (l.take (g/65536)++(args++l.drop (g/65536))) K
   |_=>bC 27
  | .builtin .len=>match args with
   |[x]=>ob (c.argTypes.toList[0]?) λt=>Xl X.T st t x λv=>K false v st
   |_=>bC 28
  | .builtin .copy=>match args with
   |[d,x]=>ob (c.argTypes.toList[0]?) λt=>Xh X.T st t d x (K false)
   |_=>bC 47
  | .builtin .append=>match args with
   |[s,x]=>Nl X.T st c.argTypes.toList s x (K false)
   |_=>bC 29
  | .builtin .min=>F3 false args λv=>K false v st
  | .builtin .max=>F3 true args λv=>K false v st
  |_=>bC 30
def opC:Op->Nat
 | .move ..=>0
 | .assign ..=>1
 | .pick ..=>2
 | .alloc ..=>3
 | .box ..=>4
 | .build ..=>5
 | .buildSlice ..=>6
 | .insert ..=>7
 | .load ..=>8
 | .store ..=>9
 | .ready ..=>10
 | .waits ..=>11
 | .nilCheck ..=>12
 | .binOp ..=>13
 | .unOp ..=>14
 | .convert ..=>15
 | .sliceToArrayPointer ..=>16
 | .makeInterface ..=>17
 | .makeFunc ..=>18
 | .makeMap ..=>19
 | .makeChan ..=>20
 | .makeSlice ..=>21
 | .slice ..=>22
 | .fieldAddr ..=>23
 | .field ..=>24
 | .indexAddr ..=>25
 | .index ..=>26
 | .lookup ..=>27
 | .mapUpdate ..=>28
 | .mapEntry ..=>29
 | .entryStore ..=>30
 | .range ..=>31
 | .next ..=>32
 | .entry ..=>33
 | .typeAssert ..=>34
 | .extract ..=>35
 | .call ..=>36
 |_=>99
def Vw(X:eC)(t:TypeId)(n:Nat):Bool:=match X.T.get t with
 |some i=>match i.desc with
  | .slice e=>match X.T.get e with
   |some j=>oN j.desc&&Nat.beq n 1
   |none=>false
  |_=>false
 |none=>false
def Mk(sx:Nat)(v:SV)(so:SO)(K:SV->SO->Zh β):Zh β:=match v,so with
 | .sl id off n c,.arr cs t=>cond (Nat.beq id sx&&(Nat.beq off 0&&(Nat.beq n 1&&(Nat.beq c 1&&Nat.beq cs.length 1)))) (K (.gr sx 1) (.grow 1 cs t)) (bC 78)
 |_,_=>bC 79
def CS(X:eC)(pt:FuncId->Zh (cD β))(st:St)(o:Op)(K:Bool->SV->St->Zh β):Zh β:=match o with
 | .move x=>ob (dH st.tm x) λv=>K false v st
 | .assign x=>ob (dH st.tm x) λv=>K false v st
 | .alloc t=>rm X st (.alloc t) λv so=>K false v {st with h:=st.h.set st.sx so,sx:=st.sx+1}
 | .box t x=>rm X st (.box t x) λv so=>K false v {st with h:=st.h.set st.sx so,sx:=st.sx+1}
 | .buildSlice t n ps=>cond (Vw X t n) (rm X st (.buildSlice t n ps) λv so=>Mk st.sx v so λv so=>K false v {st with h:=st.h.set st.sx so,sx:=st.sx+1}) (rm X st (.buildSlice t n ps) λv so=>K false v {st with h:=st.h.set st.sx so,sx:=st.sx+1})
 | .build t ps=>ob (Gk st.tm ps.toList) λus=>Xg X.T t us λv=>K false v st
 | .load t a=>ob (dH st.tm a) λp=>Nu X.T st t p λv=>K false v st
 | .nilCheck x=>ob (dH st.tm x) λv=>match v with
  | .ptr _ _=>K false v st
  | .lp _=>K false v st
  |_=>bC 34
 | .binOp op t x y _=>ob (dH st.tm x) λa=>ob (dH st.tm y) λb=>match a,b with
  | .ni,.ni=>cond (vF x||vF y) (Xp X.T op t λv=>K false v st) none
  |a,b=>Nn X.T op t a b λv=>K false v st
 | .typeAssert x _ t ok=>ob (dH st.tm x) λa=>Xf X.T a t ok λv=>K false v st
 | .unOp op _ x=>ob (dH st.tm x) λa=>Ny op a λv=>K false v st
 | .convert s d x=>ob (dH st.tm x) λa=>No X.T st s d a λv=>K false v st
 | .makeSlice t l c=>ob (dH st.tm l) λa=>ob (dH st.tm c) λb=>Nw X.T st t a b λv so=>K false v {st with h:=st.h.set st.sx so,sx:=st.sx+1}
 | .slice t x lo hi mx=>ob (dH st.tm x) λa=>ob (Gj st.tm lo) λl=>ob (Gj st.tm hi) λu=>ob (Gj st.tm mx) λm=>Xr X.T t a l u m λv=>K false v st
 | .fieldAddr s x f=>ob (dH st.tm x) λa=>Xj X.T s a f λv=>K false v st
 | .field t x f=>ob (dH st.tm x) λa=>Nr X.T t a f λv=>K false v st
 | .indexAddr t x ix=>ob (dH st.tm x) λa=>ob (dH st.tm ix) λb=>Nt X.T st t a b λv=>K false v st
 | .index t x ix=>ob (dH st.tm x) λa=>ob (dH st.tm ix) λb=>Ns X.T t a b λv=>K false v st
 | .extract t i=>ob (dH st.tm t) λa=>Nq a i λv=>K false v st
 | .call c=>aiE X pt st c K
 | .panic x=>ob (dH st.tm x) λv=>match v with
  | .fe t u=>K true (.fe t u) st
  |_=>bC 53
 | .makeInterface t x=>ob (dH st.tm x) λa=>Xk X.T t a λv=>K false v st
 | .makeFunc (.func f) first captured=>cond (Nat.blt f 65536) (ob (BZ st.tm first.toList) λa=>ob (BZ st.tm captured.toList) λl=>K false (.fn (f+65536*first.toList.length) (a++l)) st) none
 | .lookup t x k ok=>ob (dH st.tm x) λa=>ob (dH st.tm k) λc=>Xn X.T t a c ok λv=>K false v st
 | .makeMap t none=>K false (.mp st.sx) {st with h:=st.h.set st.sx (.mp []),sx:=st.sx+1}
 | .insert t m k x=>ob (dH st.tm m) λa=>ob (dH st.tm k) λc=>ob (dH st.tm x) λy=>F2 X.T st t a c y λh=>K false (.aH []) {st with h:=h}
 | .mapUpdate t m k x=>ob (dH st.tm m) λa=>ob (dH st.tm k) λc=>ob (dH st.tm x) λy=>F2 X.T st t a c y λh=>K false (.aH []) {st with h:=h}
 |o=>bC (100+opC o)
def mz(o:Op):Bool:=match o with
 | .move _=>true
 | .assign _=>true
 | .build _ _=>true
 | .load _ _=>true
 | .nilCheck _=>true
 | .binOp _ _ _ _ _=>true
 | .unOp _ _ _=>true
 | .convert _ _ _=>true
 | .slice _ _ _ _ _=>true
 | .fieldAddr _ _ _=>true
 | .field _ _ _=>true
 | .indexAddr _ _ _=>true
 | .index _ _ _=>true
 | .extract _ _=>true
 | .makeFunc _ _ _=>true
 | .makeInterface _ _=>true
 | .typeAssert _ _ _ _=>true
 | .lookup _ _ _ _=>true
 | .call c=>match c.callee with
  | .builtin .len=>true
  | .builtin .min=>true
  | .builtin .max=>true
  |_=>false
 |_=>false
def te(P:Program)(o:Oper)(st:St)(sv:SV):Prop:=
 ∀{B:Bs}{σ:Ren}{G:Nat->SO->Prop}{F:Nat->Prop}{w:Hx}(a:Act),Ev σ st.tm a->(∀id so,st.h.get id=some so->G id so)->Mem B σ G F w->∀(K:Act->Hx->Prop) Q,
  (∀σ' v w',Ext σ σ'->DV σ' sv v->Mem B σ' G F w'->K (a.put o.dst v) w')->o.wp P a w K Q
def xb(P:Program)(p:Bool)(o:Oper)(st st':St)(sv:SV):Prop:=
 ∀{B:Bs}{σ:Ren}{F:Nat->Prop}{w:Hx}(a:Act),Ev σ st.tm a->(∀id,st.sx<=id->id<st'.sx->F id)->Mem B σ (hG st.h) F w->∀(K:Act->Hx->Prop) Q,
  (∀σ' v w',Ext σ σ'->DV σ' sv v->Mem B σ' (hG st'.h) (mf F st.sx st'.sx) w'->cond p (Q (.panic [pe v]) a w') (K (a.put o.dst v) w'))->o.wp P a w K Q
theorem mC{P:Program}{s:Sem Qu}{u:Qu}{w w':Hx}(h:s.run P w=.ok u w'):(do pure (Next.value (<-s)):Sem Next).run P w=.ok (.value u) w':=by simp only[cU,h,eA,eE]
theorem DV.Ub{σ:Ren}{v:Qu}(d:DV σ .ni v):v=.nilIface:=by cases d;rfl
theorem DV.ab5{σ:Ren}{t:TypeId}{x:SV}{v:Qu}(d:DV σ (.fe t x) v):∃y,v=.iface t y:=by cases d;exact⟨_,rfl⟩
theorem rM{P:Program}{o:Oper}{a:Act}{w w':Hx}{v:Qu}{K:Act->Hx->Prop}{Q:Exit->Act->Hx->Prop}(h:(execOp a.eval o).run P w=.ok (.value v) w')(k:K (a.put o.dst v) w'):o.wp P a w K Q:=by unfold Oper.wp;rw[h];exact k
theorem aiR(X:eC)(st:St)(l c:Operand)(t:TypeId){K:SV->St->Zh β}:rm X st (.makeSlice t l c) (λv so=>K v {st with h:=st.h.set st.sx so,sx:=st.sx+1})=ob (dH st.tm l) λa=>ob (dH st.tm c) λb=>Nw X.T st t a b λv so=>K v {st with h:=st.h.set st.sx so,sx:=st.sx+1}:=rfl
theorem PD{P:Program}{X:eC}(OK:iP P X){pt:FuncId->Zh (cD β)}(PT:nD P pt){o:Oper}{st:St}{K:Bool->SV->St->Zh β}{b:β}(e:CS X pt st o.op K=some b):
 ∃p sv st',K p sv st'=some b/\st'.tm=st.tm/\st.sx<=st'.sx/\xb P p o st st' sv/\(mz o.op=true->p=false/\te P o st sv):=by
 have quiet:∀{sv:SV},K false sv st=some b->(∀{B:Bs}{σ:Ren}{F:Nat->Prop}{w:Hx}(a:Act),Ev σ st.tm a->Mem B σ (hG st.h) F w->∃v,(execOp a.eval o).run P w=.ok (.value v) w/\DV σ sv v)->
  ∃p sv st',K p sv st'=some b/\st'.tm=st.tm/\st.sx<=st'.sx/\xb P p o st st' sv/\(mz o.op=true->p=false/\te P o st sv):=by
  intro sv h q;refine⟨false,sv,st,h,rfl,aM _,λ{B σ F w} a R hF M K Q k=>?_,λ_=>⟨rfl,λ{B σ G F w} a R s M K Q k=>?_⟩⟩
  ·obtain⟨v,v1,v2⟩:=q a R M;exact rM v1 (k σ v w (Ext.refl _) v2 (M.less (λ_ _ h=>h) λ_ h=>h.1))
  ·obtain⟨v,v1,v2⟩:=q a R (M.less s λ_ h=>h);exact rM v1 (k σ v w (Ext.refl _) v2 M)
 have loud:∀{sv:SV}{st':St},mz o.op=false->K false sv st'=some b->st'.tm=st.tm->st.sx<=st'.sx->(∀{B:Bs}{σ:Ren}{F:Nat->Prop}{w:Hx}(a:Act),Ev σ st.tm a->(∀id,st.sx<=id->id<st'.sx->F id)->Mem B σ (hG st.h) F w->∃v w' σ',(execOp a.eval o).run P w=.ok (.value v) w'/\Ext σ σ'/\DV σ' sv v/\Mem B σ' (hG st'.h) (mf F st.sx st'.sx) w')->
  ∃p sv st',K p sv st'=some b/\st'.tm=st.tm/\st.sx<=st'.sx/\xb P p o st st' sv/\(mz o.op=true->p=false/\te P o st sv):=by
  intro sv st' hq h ht hx q;refine⟨false,sv,st',h,ht,hx,λ{B σ F w} a R hF M K Q k=>?_,λz=>by rw[hq] at z;cases z⟩;obtain⟨v,w',σ',v1,v2,v3,v4⟩:=q a R hF M;exact rM v1 (k σ' v w' v2 v3 v4)
 have make:∀{K':SV->St->Zh β},(∀sv st,K' sv st=K false sv st)->mz o.op=false->rm X st o.op (λv so=>K' v {st with h:=st.h.set st.sx so,sx:=st.sx+1})=some b->
  ∃p sv st',K p sv st'=some b/\st'.tm=st.tm/\st.sx<=st'.sx/\xb P p o st st' sv/\(mz o.op=true->p=false/\te P o st sv):=by
  intro K' hK hq e;obtain⟨sv,so,h1,h3⟩:=Nv OK e;rw[hK] at h1;refine loud hq h1 rfl (qb _) λ{B σ F w} a R hF M=>?_;obtain⟨u,w',g1,g2,g3⟩:=h3 a R w;obtain⟨k1,k2,_⟩:=g3 (σ.add st.sx (some (w.heap.size,0),0)) 0 0 (Ren.zV (M.fresh _ (hF _ (aM _) (kT _)))) (Ren.jE _ _ _);obtain⟨E,M'⟩:=M.new (hF _ (aM _) (kT _)) g2 k2;exact⟨u,w',_,g1,E,k1,M'⟩
 have makeO:∀{K':SV->St->Zh β},(∀sv st,K' sv st=K false sv st)->mz o.op=false->rm X st o.op (λv so=>Mk st.sx v so λv so=>K' v {st with h:=st.h.set st.sx so,sx:=st.sx+1})=some b->
  ∃p sv st',K p sv st'=some b/\st'.tm=st.tm/\st.sx<=st'.sx/\xb P p o st st' sv/\(mz o.op=true->p=false/\te P o st sv):=by
  intro K' hK hq e;obtain⟨sv,so,h1,h3⟩:=Nv OK e;unfold Mk at h1;split at h1
  ·rename_i id off m c cs t;obtain⟨c1,h2⟩:=aW h1;simp only[bt] at c1;obtain⟨e1,e2,e3,e4,e5⟩:=c1;have e1:=bT e1;have e2:=bT e2;have e3:=bT e3;have e4:=bT e4;have e5:=bT e5;subst e1 e2 e3 e4;replace h2:=(hK _ _).symm.trans h2;refine loud hq h2 rfl (qb _) λ{B σ F w} a R hF M=>?_;obtain⟨u,w',g1,g2,g3⟩:=h3 a R w;obtain⟨_,_,k3⟩:=g3 (σ.add st.sx (some (w.heap.size,1),1)) 1 1 (Ren.zV (M.fresh _ (hF _ (aM _) (kT _)))) (Ren.jE _ _ _);obtain⟨rfl,k4⟩:=k3 _ _ _ _ rfl rfl;obtain⟨E,M'⟩:=M.new (hF _ (aM _) (kT _)) g2 (k4 e5 rfl rfl);exact⟨_,w',_,g1,E,.gr (Ren.jE _ _ _) rfl (aM _),M'⟩
  ·cases h1
 have ins:∀{t:TypeId}{m k x:Operand}{p q r:SV},mz o.op=false->dH st.tm m=some p->dH st.tm k=some q->dH st.tm x=some r->F2 X.T st t p q r (λh=>K false (.aH []) {st with h:=h})=some b->(∀(a:Act) w w',(Instr.mapUpdate t (a.eval m) (a.eval k) (a.eval x)).run P w=.ok () w'->(execOp a.eval o).run P w=.ok .skip w')->
  ∃p sv st',K p sv st'=some b/\st'.tm=st.tm/\st.sx<=st'.sx/\xb P p o st st' sv/\(mz o.op=true->p=false/\te P o st sv):=by
  intro t m k x p q r hq k1 k2 k3 e run;obtain⟨h',h1,h2⟩:=aiO OK.T e;refine⟨false,_,_,h1,rfl,aM _,λ{B σ F w} a R hF M K Q k=>?_,λz=>by rw[hq] at z;cases z⟩;obtain⟨w',v1,v2⟩:=h2 M _ _ _ (ej R k1) (ej R k2) (ej R k3);unfold Oper.wp;rw[run a w w' v1];exact k σ undef w' (Ext.refl _) (.aH rfl (λi x y h=>by simp at h)) (v2.less (λ_ _ h=>h) λ_ h=>h.1)
 unfold CS at e;split at e
 ·rename_i x hop;obtain⟨v,h1,e⟩:=ax e;exact quiet e λa R M=>⟨_,by unfold execOp;simp only[hop,eE],ej R h1⟩
 ·rename_i x hop;obtain⟨v,h1,e⟩:=ax e;exact quiet e λa R M=>⟨_,by unfold execOp;simp only[hop,eE],ej R h1⟩
 ·rename_i t hop;rw[<-hop] at e;exact make (K':=λv st=>K false v st) (λ_ _=>rfl) (by rw[hop];rfl) e
 ·rename_i t x hop;rw[<-hop] at e;exact make (K':=λv st=>K false v st) (λ_ _=>rfl) (by rw[hop];rfl) e
 ·rename_i t n ps hop;rw[<-hop] at e;cases hb:Vw X t n with
  |true=>rw[hb,aC] at e;exact makeO (K':=λv st=>K false v st) (λ_ _=>rfl) (by rw[hop];rfl) e
  |false=>rw[hb,aD] at e;exact make (K':=λv st=>K false v st) (λ_ _=>rfl) (by rw[hop];rfl) e
 ·rename_i t ps hop;obtain⟨us,k1,e⟩:=ax e;obtain⟨sv,h1,h2⟩:=aiD OK.T e;refine quiet h1 λa R M=>?_;obtain⟨u,v1,v2⟩:=h2 _ (ps.map λ(i,x)=>(i,a.eval x)) _ (by rw[Array.toList_map];exact N0 R k1);exact⟨u,by unfold execOp;simp only[hop];exact mC v1,v2⟩
 ·rename_i t x hop;obtain⟨p,k1,e⟩:=ax e;obtain⟨sv,h1,h2⟩:=Xm OK.T e;refine quiet h1 λa R M=>?_;obtain⟨u,v1,v2⟩:=h2 M _ (ej R k1);exact⟨u,by unfold execOp;simp only[hop];exact mC v1,v2⟩
 ·rename_i x hop;obtain⟨p,k1,e⟩:=ax e;split at e
  ·refine quiet e λa R M=>⟨a.eval x,?_,ej R k1⟩;obtain⟨ad,q,_⟩:=(ej R k1).ME;unfold execOp;simp[hop,q]
  ·refine quiet e λa R M=>⟨a.eval x,?_,ej R k1⟩;obtain⟨ad,q,_⟩:=(ej R k1).Lh;unfold execOp;simp[hop,q]
  ·cases e
 ·rename_i op t x y yt hop;obtain⟨p,k1,e⟩:=ax e;obtain⟨q,k2,e⟩:=ax e;split at e
  ·obtain⟨hc,e⟩:=aW e;obtain⟨sv,h1,h2⟩:=aiT OK.T e;refine quiet h1 λ{B σ F w} a R M=>?_;have d1:=ej R k1;have d2:=ej R k2;obtain⟨u,v1,v2⟩:=h2 x y w hc;have q1:=d1.Ub;have q2:=d2.Ub;exact⟨u,by unfold execOp;simp only[hop,q1,q2];exact mC v1,v2 _⟩
  ·obtain⟨sv,h1,h2⟩:=aiC OK.T e;refine quiet h1 λ{B σ F w} a R M=>?_;obtain⟨u,v1,v2⟩:=h2 _ _ _ x y w (ej R k1) (ej R k2);exact⟨u,by unfold execOp;simp only[hop];exact mC v1,v2⟩
 ·rename_i x xt t ok hop;obtain⟨p,k1,e⟩:=ax e;obtain⟨sv,h1,h2⟩:=aiB OK.T e;refine quiet h1 λ{B σ F w} a R M=>?_;obtain⟨u,v1,v2⟩:=h2 _ _ xt w (ej R k1);exact⟨u,by unfold execOp;simp only[hop];exact mC v1,v2⟩
 ·rename_i op t x hop;obtain⟨p,k1,e⟩:=ax e;obtain⟨sv,h1,h2⟩:=aiW e;refine quiet h1 λ{B σ F w} a R M=>?_;obtain⟨u,v1,v2⟩:=h2 _ _ w (ej R k1);exact⟨u,by unfold execOp;simp only[hop];exact mC v1,v2⟩
 ·rename_i s d x hop;obtain⟨p,k1,e⟩:=ax e;obtain⟨sv,h1,h2⟩:=aiH OK.T e;have run:∀{a:Act}{w w':Hx}{u:Qu},(convert s d (a.eval x)).run P w=.ok u w'->(execOp a.eval o).run P w=.ok (.value u) w':=λh=>by unfold execOp;simp only[hop];exact mC h
  refine⟨false,sv,st,h1,rfl,aM _,λ{B σ F w} a R hF M K Q k=>?_,λ_=>⟨rfl,λ{B σ G F w} a R s M K Q k=>?_⟩⟩
  ·obtain⟨u,w',v1,v2,v3⟩:=h2 (λ_ _ h=>h) M _ (ej R k1);exact rM (run v1) (k σ u w' (Ext.refl _) v2 (v3.less (λ_ _ h=>h) λ_ h=>h.1))
  ·obtain⟨u,w',v1,v2,v3⟩:=h2 s M _ (ej R k1);exact rM (run v1) (k σ u w' (Ext.refl _) v2 v3)
 ·rename_i t l c hop;rw[<-aiR X st l c t] at e;rw[<-hop] at e;exact make (K':=λv st=>K false v st) (λ_ _=>rfl) (by rw[hop];rfl) e
 ·rename_i t x lo hi mx hop;obtain⟨p,k1,e⟩:=ax e;obtain⟨l,k2,e⟩:=ax e;obtain⟨u,k3,e⟩:=ax e;obtain⟨m,k4,e⟩:=ax e;obtain⟨sv,h1,h2⟩:=aiU OK.T e;refine quiet h1 λ{B σ F w} a R M=>?_;obtain⟨u,v1,v2⟩:=h2 _ _ _ _ _ w (ej R k1) (NZ R k2) (NZ R k3) (NZ R k4);exact⟨u,by unfold execOp;simp only[hop];exact mC v1,v2⟩
 ·rename_i s x f hop;obtain⟨p,k1,e⟩:=ax e;obtain⟨sv,h1,h2⟩:=aiJ OK.T e;refine quiet h1 λ{B σ F w} a R M=>?_;obtain⟨u,v1,v2⟩:=h2 _ _ w (ej R k1);exact⟨u,by unfold execOp;simp only[hop];exact mC v1,v2⟩
 ·rename_i t x f hop;obtain⟨p,k1,e⟩:=ax e;obtain⟨sv,h1,h2⟩:=aiK OK.T e;refine quiet h1 λ{B σ F w} a R M=>?_;obtain⟨u,v1,v2⟩:=h2 _ _ w (ej R k1);exact⟨u,by unfold execOp;simp only[hop];exact mC v1,v2⟩
 ·rename_i t x ix hop;obtain⟨p,k1,e⟩:=ax e;obtain⟨q,k2,e⟩:=ax e;obtain⟨sv,h1,h2⟩:=aiM OK.T e;refine quiet h1 λ{B σ F w} a R M=>?_;obtain⟨u,v1,v2⟩:=h2 M _ _ (ej R k1) (ej R k2);exact⟨u,by unfold execOp;simp only[hop];exact mC v1,v2⟩
 ·rename_i t x ix hop;obtain⟨p,k1,e⟩:=ax e;obtain⟨q,k2,e⟩:=ax e;obtain⟨sv,h1,h2⟩:=aiN OK.T e;refine quiet h1 λ{B σ F w} a R M=>?_;obtain⟨u,v1,v2⟩:=h2 _ _ _ w (ej R k1) (ej R k2);exact⟨u,by unfold execOp;simp only[hop];exact mC v1,v2⟩
 ·rename_i t j hop;obtain⟨p,k1,e⟩:=ax e;obtain⟨sv,h1,h2⟩:=aiI (P:=P) e;refine quiet h1 λ{B σ F w} a R M=>?_;obtain⟨u,v1,v2⟩:=h2 _ _ w (ej R k1);exact⟨u,by unfold execOp;simp only[hop];exact mC v1,v2⟩
 ·rename_i c hop;obtain⟨args,k1,e⟩:=ax e;have ra:∀{σ:Ren}{a:Act},Ev σ st.tm a->eR σ args (c.args.map a.eval).toList:=λR=>by rw[Array.toList_map];exact Gl R k1
  have bi:∀{bf:Builtin}{s:Array TypeId->TypeId->Array Qu->Sem Qu}{a:Act}{w w':Hx}{v:Qu},c.callee=.builtin bf->(∀ts ty cs as,builtin bf ts ty cs as=do pure (.value (<-s ts ty as)))->
   (s c.argTypes o.type (c.args.map a.eval)).run P w=.ok v w'->(execOp a.eval o).run P w=.ok (.value v) w':=by
   intro bf s a w w' v hc hs h;unfold execOp resolve;simp only[hop,hc,cU,eE,eA];unfold invoke;simp only[hs,cU,h,eA,eE]
  split at e
  ·rename_i x0 hc;obtain⟨fv,k0,e⟩:=ax e;split at e
   case h_2=>cases e
   rename_i g l;obtain⟨en,k2,e⟩:=ax e;obtain⟨fn,k3,e⟩:=ax e;obtain⟨p,sv,st',h1,ht,hx',h2⟩:=PT (g%65536) en k2 _ _ _ _ e;refine⟨p,sv,st',h1,ht,hx',λ{B σ F w} a R hF M K Q k=>?_,λq=>by rw[hop] at q;simp only[mz,hc] at q;cases q⟩;obtain⟨f1,f2,f3⟩:=OK.F _ _ k3;have d:=ej R k0;generalize hx:a.eval x0=fx at d;cases d with
   |fn hl hr=>
    rename_i ys;have d:eR σ l ys:=⟨hl,hr⟩;have run:(execOp a.eval o).run P w=.ok (.enter (g%65536) ((⟨ys.take (g/65536)⟩:Array Qu)++c.args.map a.eval++⟨ys.drop (g/65536)⟩)) w:=by
     unfold execOp resolve;simp only[hop,hc,hx,se,Deferred.ofValue,cU,eE,eA];unfold invoke callFunc;have h4:fn.body.isNone=false:=by cases hb:fn.body with
      |none=>rw[hb] at f3;cases f3
      |some b=>rfl
     simp only[cU,run_program,eA,f1,f2,h4,kB,gR,eE]
    unfold Oper.wp;rw[run];have dd:eR σ (l.take (g/65536)++(args++l.drop (g/65536))) ((⟨ys.take (g/65536)⟩:Array Qu)++c.args.map a.eval++⟨ys.drop (g/65536)⟩).toList:=by rw[Array.toList_append,Array.toList_append,ed];exact(d.take _).append ((ra R).append (d.drop _))
    refine Calls.mono (h2 hF M _ dd) λx w' ⟨σ',v,q1,q2,q3,q4⟩=>?_;subst q1;have:=k σ' v w' q2 q3 q4;cases p<;>exact this
  ·rename_i hc;split at e
   ·rename_i x;obtain⟨t,k2,e⟩:=ax e;obtain⟨sv,h1,h2⟩:=aiP OK.T k2 e;refine quiet h1 λ{B σ F w} a R M=>?_;obtain⟨v,l,q1,q2,q3⟩:=(ra R).inv;obtain⟨u,v1,v2⟩:=h2 M (c.args.map a.eval) o.type v (by rw[<-lR,q1];rfl) q2;exact⟨u,bi hc (λ_ _ _ _=>rfl) v1,v2⟩
   ·cases e
  ·rename_i hc;split at e
   ·rename_i x y;obtain⟨t,k2,e⟩:=ax e;obtain⟨sv,h',h1,h2⟩:=aiG OK.T k2 e;refine loud (by rw[hop];simp[mz,hc]) h1 rfl (aM _) λ{B σ F w} a R hF M=>?_;obtain⟨v,l,q1,q2,q3⟩:=(ra R).inv;obtain⟨v',l',rfl,q4,q5⟩:=q3.inv;obtain⟨u,w',v1,v2,v3⟩:=h2 M (c.args.map a.eval) o.type v v' (by rw[<-lR,q1];rfl) (by rw[<-lR,q1];rfl) q2 q4;exact⟨u,w',σ,bi hc (λ_ _ _ _=>rfl) v1,Ext.refl _,v2,v3.less (λ_ _ h=>h) λ_ h=>h.1⟩
   ·cases e
  ·rename_i hc;split at e
   ·rename_i x y;obtain⟨sv,h',d,h1,h2⟩:=aiA (P:=P) OK.T e;refine loud (by rw[hop];simp[mz,hc]) h1 rfl (Nat.le_add_right _ _) λ{B σ F w} a R hF M=>?_;obtain⟨v,l,q1,q2,q3⟩:=(ra R).inv;obtain⟨v',l',rfl,q4,q5⟩:=q3.inv;obtain⟨u,w',σ',v1,v2,v3,v4⟩:=h2 hF M (c.args.map a.eval) o.type v v' (by rw[<-lR,q1];rfl) (by rw[<-lR,q1];rfl) q2 q4;exact⟨u,w',σ',bi hc (λ_ _ _ _=>rfl) v1,v2,v3,v4⟩
   ·cases e
  ·rename_i hc;obtain⟨sv,h1,h2⟩:=Xo (P:=P) e;refine quiet h1 λ{B σ F w} a R M=>?_;obtain⟨u,v1,v2⟩:=h2 σ _ c.argTypes o.type w (ra R);exact⟨u,bi hc (λ_ _ _ _=>rfl) v1,v2⟩
  ·rename_i hc;obtain⟨sv,h1,h2⟩:=Xo (P:=P) e;refine quiet h1 λ{B σ F w} a R M=>?_;obtain⟨u,v1,v2⟩:=h2 σ _ c.argTypes o.type w (ra R);exact⟨u,bi hc (λ_ _ _ _=>rfl) v1,v2⟩
  ·cases e
 ·rename_i x hop;obtain⟨v,k1,e⟩:=ax e;split at e
  ·rename_i t u;refine⟨true,_,st,e,rfl,aM _,λ{B σ F w} a R hF M K Q k=>?_,λq=>by rw[hop] at q;cases q⟩;have d:=ej R k1;obtain⟨y,q⟩:=d.ab5;have run:(execOp a.eval o).run P w=.halt (.panic (a.eval x)) w:=by unfold execOp;simp[hop,q,Instr.panic]
   unfold Oper.wp;rw[run];exact k σ _ w (Ext.refl _) d (M.less (λ_ _ h=>h) λ_ h=>h.1)
  ·cases e
 ·rename_i t x hop;obtain⟨p,k1,e⟩:=ax e;obtain⟨sv,h1,h2⟩:=aiL OK.T e;refine quiet h1 λ{B σ F w} a R M=>?_;obtain⟨u,v1,v2⟩:=h2 _ _ w (ej R k1);exact⟨u,by unfold execOp;simp only[hop];exact mC v1,v2⟩
 ·rename_i f first captured hop
  obtain⟨q,e⟩:=aW e;obtain⟨x,k1,e⟩:=ax e;obtain⟨y,k2,e⟩:=ax e;have q:=fb q;refine quiet e λ{B σ F w} a R M=>?_;have d:=(Gl R k1).append (Gl R k2);refine⟨_,?_,.fn d.1 d.2⟩;unfold execOp se;have hl:(first.toList.map a.eval).length=first.toList.length:=by simp
  rw[Nat.add_mul_mod_self_left,qO q,Nat.add_mul_div_left _ _ (by decide),Nat.div_eq_of_lt q,fI,<-hl,List.take_left',List.drop_left']
  ·simp[hop,Instr.makeFunc];exact⟨by rw[<-Array.toList_map],by rw[<-Array.toList_map]⟩
  ·rfl
  ·rfl
 ·rename_i t x k ok hop;obtain⟨p,k1,e⟩:=ax e;obtain⟨q,k2,e⟩:=ax e;obtain⟨sv,h1,h2⟩:=aiQ OK.T e;refine quiet h1 λ{B σ F w} a R M=>?_;obtain⟨u,v1,v2⟩:=h2 M _ _ (ej R k1) (ej R k2);exact⟨u,by unfold execOp;simp only[hop];exact mC v1,v2⟩
 ·rename_i t hop;refine loud (by rw[hop];rfl) e rfl (qb _) λ{B σ F w} a R hF M=>?_;obtain⟨v,w',σ',v1,v2,v3,v4⟩:=aiS (P:=P) (hF _ (aM _) (kT _)) M t;exact⟨v,w',σ',by unfold execOp;simp only[hop];exact mC v1,v2,v3,v4⟩
 ·rename_i t m k x hop;obtain⟨p,k1,e⟩:=ax e;obtain⟨q,k2,e⟩:=ax e;obtain⟨r,k3,e⟩:=ax e;exact ins (by rw[hop];rfl) k1 k2 k3 e λa w w' h=>by unfold execOp;simp only[hop,cU,h,eA,eE]
 ·rename_i t m k x hop;obtain⟨p,k1,e⟩:=ax e;obtain⟨q,k2,e⟩:=ax e;obtain⟨r,k3,e⟩:=ax e;exact ins (by rw[hop];rfl) k1 k2 k3 e λa w w' h=>by unfold execOp;simp only[hop,cU,h,eA,eE]
 ·cases e
end
section
variable{β:Type}
def kN(tm:Tr SV)(d:Zh Nat)(v:SV):Tr SV:=match d with
 |some d=>tm.set d v
 |none=>tm
def Eh(ops:Array Oper)(tm:Tr SV)(o:Oper)(K:Bool->Tr SV->Zh β):Zh β:=match o.guard with
 |none=>K true tm
 |some (j,want)=>ob (ops[j]?) λoj=>ob oj.dst λd=>ob (tm.get d) λv=>match v with
  | .b x=>cond x (K (true==want) (tm.set d (.b true))) (K (false==want) (tm.set d (.b false)))
  | .aH _=>K false tm
  |_=>none
def Bi(X:eC)(pt:FuncId->Zh (cD β))(st:St)(o:Oper)(K:Zh SV->St->Zh β):Zh β:=match o.op with
 | .store t a y=>match o.dst with
  |none=>ob (dH st.tm a) λp=>ob (dH st.tm y) λu=>Xt X.T st t p u (K none)
  |some _=>none
 | .pick c a b=>ob (dH st.tm c) λv=>match v with
  | .b x=>cond x (ob (dH st.tm a) λu=>K none {st with tm:=kN st.tm o.dst u}) (ob (dH st.tm b) λu=>K none {st with tm:=kN st.tm o.dst u})
  |_=>bC 36
 |op=>CS X pt st op λp v st'=>cond p (K (some v) st') (K none {st' with tm:=kN st'.tm o.dst v})
def DT(n:Nat)(o:Oper)(r:Zh β):Zh β:=match o.dst with
 |none=>r
 |some d=>cond (Nat.blt d n) r none
theorem Rj{n:Nat}{o:Oper}{r:Zh β}{b:β}(e:DT n o r=some b):r=some b/\∀d,o.dst=some d->d<n:=by
 unfold DT at e;split at e
 ·grind
 ·rename_i d0 h;obtain⟨e1,e⟩:=aW e;simp_all
def yC(X:eC)(pt:FuncId->Zh (cD β))(n:Nat)(ops:Array Oper):H1 Oper->St->(Zh SV->St->Zh β)->Zh β
 |[],st,K=>K none st
 |o::os,st,K=>Eh ops st.tm o λw tm=>DT n o (cond w (Bi X pt {st with tm:=tm} o λq st'=>match q with|none=>yC X pt n ops os st' K|some v=>K (some v) st') (yC X pt n ops os {st with tm:=kN tm o.dst (.aH [])} K))
def looks(ops:Array Oper)(o:Oper):H1 Nat:=
 (o.op.operands.toList.filterMap λx=>match x with| .tmp t=>some t|_=>none)++(match o.guard with|some (g,_)=>((ops[g]?).bind (·.dst)).toList|none=>[])
def jx(tm:Tr SV):H1 Nat->Tr SV->Tr SV
 |[],acc=>acc
 |t::ts,acc=>match tm.get t with
  |some v=>jx tm ts (acc.set t v)
  |none=>jx tm ts acc
theorem Bg{tm:Tr SV}:∀(ts:H1 Nat)(acc:Tr SV)(t:Nat)(u:SV),(jx tm ts acc).get t=some u->(t∈ts/\tm.get t=some u)\/acc.get t=some u
 |[],_,_,_,h=>.inr h
 |x::xs,acc,t,u,h=>by
  unfold jx at h;cases hx:tm.get x with
  |none=>rw[hx] at h;rcases Bg xs acc t u h with⟨a,b⟩|a<;>grind
  |some v=>
   rw[hx] at h;rcases Bg xs (acc.set x v) t u h with⟨a,b⟩|a
   ·grind
   ·rw[Tr.fN] at a
    grind
structure dK(B:Bs)(σ:Ren)(st:St)(a:Act)(w:World):Prop where
 size:a.tmps.size=B.n
 dQ:a.defers=B.dQ
 ev:Ev σ st.tm a
 mem:jb B σ st.h st.sx w
theorem P0{σ:Ren}:DV σ (.aH []) undef:=.aH rfl (λi x y h=>by simp at h)
theorem eval_put{a:Act}{d:Zh Nat}{v:Qu}{t:Nat}:(∀k,d=some k->k<a.tmps.size)->(a.put d v).eval (.tmp t)=if d=some t then v else a.eval (.tmp t):=by
 intro h;cases d with
 |none=>rfl
 |some k=>
  show(a.tmps.setIfInBounds k v).getD t undef=_;rw[qJ,Array.getElem?_setIfInBounds];by_cases e:k=t
  ·subst e;rw[ay rfl,ay (h k rfl),ay rfl];rfl
  ·rw[aq e,aq (by simpa using e),<-qJ];rfl
theorem Ev.put{σ σ':Ren}{tm:Tr SV}{a:Act}(R:Ev σ tm a)(E:Ext σ σ'){d:Zh Nat}{sv:SV}{v:Qu}(hd:∀k,d=some k->k<a.tmps.size)(dv:DV σ' sv v):Ev σ' (kN tm d sv) (a.put d v):=λt s hs=>by
 rw[eval_put hd];cases d with
 |none=>rw[aq (by simp)];exact(R t s hs).mono E
 |some k=>
  have hs:(tm.set k sv).get t=some s:=hs;rw[Tr.fN] at hs;by_cases e:t=k
  ·subst e;rw[ay rfl] at hs⊢;cases hs;exact dv
  ·rw[aq e] at hs;rw[aq (by simpa using Ne.symm e)];exact(R t s hs).mono E
theorem dK.put{B:Bs}{σ σ':Ren}{st:St}{a:Act}{w w':Hx}{h':Tr SO}{sx':Nat}(R:dK B σ st a w)(E:Ext σ σ')(M:jb B σ' h' sx' w'){d:Zh Nat}{sv:SV}{v:Qu}(hd:∀k,d=some k->k<B.n)(dv:DV σ' sv v):dK B σ' ⟨kN st.tm d sv,h',sx'⟩ (a.put d v) w':=
 ⟨by cases d<;>simp[Act.put,R.size],by cases d<;>exact R.dQ,R.ev.put E (by rw[R.size];exact hd) dv,M⟩
def uR(B:Bs)(q:Zh SV)(st:St)(Q:Exit->Act->Hx->Prop):Prop:=∀σ a w,dK B σ st a w->match q with
 |none=>Q .normal a w
 |some sv=>∀v,DV σ sv v->Q (.panic [pe v]) a w
def Sub(a b:Tr SV):Prop:=∀t sv,a.get t=some sv->b.get t=some sv
theorem Ev.sub{σ:Ren}{tm tm':Tr SV}{a:Act}(R:Ev σ tm a)(s:Sub tm' tm):Ev σ tm' a:=λt sv h=>R t sv (s t sv h)
theorem Vt{tm:Tr SV}{ts:H1 Nat}:Sub (jx tm ts .nil) tm:=λt sv h=>by
 rcases Bg _ _ _ _ h with⟨_,q⟩|q
 ·exact q
 ·rw[Tr.get_nil] at q;cases q
theorem Fc{tm:Tr SV}{t:Nat}{sv:SV}(h:tm.get t=some sv):∀(ts:H1 Nat)(acc:Tr SV),t∈ts\/acc.get t=some sv->(jx tm ts acc).get t=some sv
 |[],acc,k=>by rcases k with k|k;cases k;exact k
 |x::ts,acc,k=>by
  unfold jx;cases hx:tm.get x with
  |none=>
   refine Fc h ts acc ?_;rcases k with k|k
   ·rcases cX.1 k with rfl|k
    ·rw[h] at hx;cases hx
    ·exact .inl k
   ·exact .inr k
  |some v=>
   refine Fc h ts _ ?_;by_cases e:t=x
   ·subst e;rw[h] at hx;cases hx;exact .inr (by rw[Tr.fN,ay rfl])
   ·rcases k with k|k
    ·exact .inl (by rcases cX.1 k with q|q;exact absurd q e;exact q)
    ·exact .inr (by rw[Tr.fN,aq e];exact k)
theorem DV.bv{σ:Ren}{x:Bool}{v:Qu}(d:DV σ (.b x) v):v=.bool x:=by cases d;rfl
theorem Sj{ops:Array Oper}{tm:Tr SV}{o:Oper}{K:Bool->Tr SV->Zh β}{b:β}(e:Eh ops tm o K=some b):
 ∃w tm',K w tm'=some b/\Sub tm' tm/\∀{σ:Ren}{a:Act},Ev σ (jx tm' (looks ops o) .nil) a->Region.wanted o (yielded ops a.tmps)=w:=by
 unfold Eh at e;split at e
 ·rename_i hg;exact⟨_,_,e,λ_ _ h=>h,λR=>by unfold Region.wanted;rw[hg]⟩
 ·rename_i j want hg;obtain⟨oj,h1,e⟩:=ax e;obtain⟨d,h2,e⟩:=ax e;obtain⟨v,h3,e⟩:=ax e;have mem:d∈looks ops o:=by simp[looks,hg,h1,h2]
  have yl:∀{a:Act}{u:Qu},a.eval (.tmp d)=u->yielded ops a.tmps j=(match u with| .bool b=>some b|_=>none):=by
   intro a u hu;unfold yielded;simp only[h1,Option.bind_some,h2];simp only[Act.eval,qJ] at hu;cases hx:a.tmps[d]? with
   |none=>rw[hx] at hu;subst hu;rfl
   |some x=>rw[hx] at hu;simp only[qP] at hu;subst hu;cases x<;>rfl
  split at e
  ·rename_i x;have key:Sub (tm.set d (.b x)) tm/\∀{σ:Ren}{a:Act},Ev σ (jx (tm.set d (.b x)) (looks ops o) .nil) a->Region.wanted o (yielded ops a.tmps)=(x==want):=by
    refine⟨λt sv h=>?_,λ{σ a} R=>?_⟩
    ·rw[Tr.fN] at h;by_cases q:t=d
     ·rw[ay q] at h;cases h;rw[q];exact h3
     ·rw[aq q] at h;exact h
    ·have:=(R d (.b x) (Fc (by rw[Tr.fN,ay rfl]) _ _ (.inl mem))).bv;unfold Region.wanted;rw[hg];simp only[yl this];cases x<;>cases want<;>rfl
   cases x with
   |true=>exact⟨_,_,e,key⟩
   |false=>exact⟨_,_,e,key⟩
  ·refine⟨_,_,e,λ_ _ h=>h,λ{σ a} R=>?_⟩;have:=R d _ (Fc h3 _ _ (.inl mem));generalize hu:a.eval (.tmp d)=u at this;cases this;unfold Region.wanted;rw[hg];simp only[yl hu];cases want<;>rfl
  ·cases e
theorem Mi{P:Program}{X:eC}(OK:iP P X){pt:FuncId->Zh (cD β)}(PT:nD P pt){o:Oper}{st:St}{K:Zh SV->St->Zh β}{b:β}(e:Bi X pt st o K=some b):
 ∃q sv st',K q st'=some b/\st.sx<=st'.sx/\(q=none/\st'.tm=kN st.tm o.dst sv\/q=some sv/\st'.tm=st.tm)/\
  ∀{B:Bs}{σ:Ren}{F:Nat->Prop}{w:Hx}(a:Act),Ev σ st.tm a->(∀id,st.sx<=id->id<st'.sx->F id)->Mem B σ (hG st.h) F w->∀(K:Act->Hx->Prop) Q,
   (∀σ' v w',Ext σ σ'->DV σ' sv v->Mem B σ' (hG st'.h) (mf F st.sx st'.sx) w'->match q with|none=>K (a.put o.dst v) w'|some _=>Q (.panic [pe v]) a w')->o.wp P a w K Q:=by
 have sub:∀{B:Bs}{σ:Ren}{G:Nat->SO->Prop}{F:Nat->Prop}{w:Hx}{x y:Nat},Mem B σ G F w->Mem B σ G (mf F x y) w:=λM=>M.less (λ_ _ h=>h) λ_ h=>h.1;unfold Bi at e;split at e
 ·rename_i t x y hop;split at e
  ·rename_i hdst;obtain⟨p,k1,e⟩:=ax e;obtain⟨u,k2,e⟩:=ax e;obtain⟨h',h1,h2⟩:=aiV (P:=P) OK.T e;refine⟨none,.aH [],_,h1,aM _,.inl ⟨rfl,by rw[hdst];rfl⟩,λ{B σ F w} a R hF M K Q k=>?_⟩;obtain⟨w',g1,g2⟩:=h2 M _ _ (ej R k1) (ej R k2);have run:(execOp a.eval o).run P w=.ok .skip w':=by
    unfold execOp;simp only[hop,cU,g1,eA,eE]
   unfold Oper.wp;rw[run];exact k σ _ w' (Ext.refl _) P0 (sub g2)
  ·cases e
 ·rename_i c x y hop;obtain⟨v,k1,e⟩:=ax e;split at e
  ·rename_i q;have run:∀{σ:Ren}{a:Act}{w:Hx},Ev σ st.tm a->(execOp a.eval o).run P w=.ok (.value (cond q (a.eval x) (a.eval y))) w:=by
    intro σ a w R;have d:=(ej R k1).bv;unfold execOp;simp only[hop,d,asBool,cU,eE,eA];cases q<;>rfl
   cases q with
   |true=>obtain⟨u,k2,e⟩:=ax e;exact⟨none,u,_,e,aM _,.inl ⟨rfl,rfl⟩,λa R hF M K Q k=>rM (run R) (k _ _ _ (Ext.refl _) (ej R k2) (sub M))⟩
   |false=>obtain⟨u,k2,e⟩:=ax e;exact⟨none,u,_,e,aM _,.inl ⟨rfl,rfl⟩,λa R hF M K Q k=>rM (run R) (k _ _ _ (Ext.refl _) (ej R k2) (sub M))⟩
  ·cases e
 ·obtain⟨p,sv,st',h1,h2,hx,h3,_⟩:=PD OK PT e;cases p with
  |false=>exact⟨none,sv,_,h1,hx,.inl ⟨rfl,by simp only[h2]⟩,h3⟩
  |true=>exact⟨some sv,sv,_,h1,hx,.inr ⟨rfl,h2⟩,h3⟩
theorem jb.next{B:Bs}{σ:Ren}{G:Nat->SO->Prop}{w:Hx}{x y:Nat}(h:x<=y)(M:Mem B σ G (mf (λid=>x<=id) x y) w):Mem B σ G (λid=>y<=id) w:=M.less (λ_ _ h=>h) λid k=>⟨fE h k,λq=>by omega⟩
theorem BY{P:Program}{X:eC}(OK:iP P X){pt:FuncId->Zh (cD β)}(PT:nD P pt){ops:Array Oper}{n:Nat}:∀(os:H1 Oper)(s:Nat),(∀i o,os[i]? =some o->ops[s+i]? =some o)->∀(st:St)(K:Zh SV->St->Zh β)(b:β),yC X pt n ops os st K=some b->
 ∃q st',K q st'=some b/\∀{B:Bs}{σ:Ren}{a:Act}{w:Hx},B.n=n->dK B σ st a w->∀Q,uR B q st' Q->wpOps P ops Q (List.range' s os.length) a w
 |[],s,_,st,K,b,e=>⟨none,st,e,λhn R Q k=>k _ _ _ R⟩
 |o::os,s,hs,st,K,b,e=>by
  obtain⟨wt,tm1,e1,sb,g⟩:=Sj e;obtain⟨e2,hd⟩:=Rj e1;have ho:=hs 0 o rfl;rw[Nat.add_zero] at ho;have hs':∀i o',os[i]? =some o'->ops[s+1+i]? =some o':=λi o' hi=>by have:=hs (i+1) o' (by simpa using hi);rw[show s+1+i=s+(i+1) by omega];exact this
  have go:∀{B:Bs}{σ:Ren}{a:Act}{w:Hx}{Q},dK B σ st a w->(dK B σ {st with tm:=tm1} a w->Region.wanted o (yielded ops a.tmps)=wt->wpOp P ops Q s (wpOps P ops Q (List.range' (s+1) os.length)) a w)->wpOps P ops Q (List.range' s (o::os).length) a w:=by intro B σ a w Q R k;rw[cc,List.range'_succ,wpOps_cons];exact k ⟨R.size,R.dQ,R.ev.sub sb,R.mem⟩ (g ((R.ev.sub sb).sub Vt))
  cases wt with
  |true=>
   rw[aC] at e2;obtain⟨q,sv,st1,e3,hx,ht,D⟩:=Mi OK PT e2;cases q with
   |none=>
    have ht:st1.tm=kN tm1 o.dst sv:=by rcases ht with h|h;exact h.2;cases h.1
    obtain⟨q',st',e4,D2⟩:=BY OK PT os (s+1) hs' st1 K b e3;refine⟨q',st',e4,λ{B σ a w} hn R Q k=>go R λR1 hw=>?_⟩;unfold wpOp;simp only[ho,hw,ea];exact .inl (D a R1.ev (λ_ h _=>h) R1.mem _ _ λσ' v w' E dv M=>D2 hn (by have:=R1.put E (jb.next hx M) (by rw[hn];exact hd) dv;rwa[<-ht] at this) Q k)
   |some sv'=>
    obtain⟨rfl,ht2⟩:sv'=sv/\st1.tm=tm1:=by rcases ht with h|h;cases h.1;exact⟨jC h.1,h.2⟩
    refine⟨some sv',_,e3,λ{B σ a w} hn R Q k=>go R λR1 hw=>?_⟩;unfold wpOp;simp only[ho,hw,ea];exact .inl (D a R1.ev (λ_ h _=>h) R1.mem _ _ λσ' v w' E dv M=>k σ' a w' ⟨R1.size,R1.dQ,λt s hs=>by rw[ht2] at hs;exact(R1.ev t s hs).mono E,jb.next hx M⟩ v dv)
  |false=>obtain⟨q,st',e4,D2⟩:=BY OK PT os (s+1) hs' _ K b e2;refine⟨q,st',e4,λ{B σ a w} hn R Q k=>go R λR1 hw=>?_⟩;unfold wpOp;simp only[ho,hw,kB,gR];exact D2 hn (R1.put (Ext.refl _) R1.mem (by rw[hn];exact hd) P0) Q k
end
section
variable{β:Type}
def rT(N:Nat)(A:Nat->Nat->Prop):(Nat->Prop)->H1 Nat->Prop
 |done,[]=>∀i,i<N->done i
 |done,i::rest=>i<N/\¬done i/\(∀j,A i j->done j)/\rT N A (λx=>done x\/x=i) rest
def Aq(o:Oper):H1 Nat:=(o.after.toList.filter (Region.binds .any)).map (·.on)
def A1(ms:H1 Nat):H1 Nat->Nat
 |[]=>0
 |j::js=>Nat.lor (Nat.lor (Nat.shiftLeft 1 j) (ms.getD j 0)) (A1 ms js)
def pK:H1 Oper->H1 Nat->H1 Nat
 |[],ms=>ms
 |o::os,ms=>pK os (ms++[A1 ms (Aq o)])
def bit(ms:H1 Nat)(i j:Nat):Bool:=Nat.testBit (ms.getD i 0) j
theorem amh(j l:Nat):Nat.testBit (Nat.shiftLeft 1 j) l=decide (j=l):=by show Nat.testBit (1<<<j) l=_;rw[Nat.one_shiftLeft,Nat.testBit_two_pow]
def I5(es:Nat->H1 Nat)(ms:H1 Nat):Prop:=
 ∀i l,bit ms i l=true->∀D:Nat->Prop,(∀a,D a->∀b∈es a,D b)->(∀b∈es i,D b)->D l
theorem TL{es:Nat->H1 Nat}{ms:H1 Nat}(H:I5 es ms)(D:Nat->Prop)(cl:∀a,D a->∀b∈es a,D b):∀js:H1 Nat,(∀b∈js,D b)->∀l,Nat.testBit (A1 ms js) l=true->D l
 |[],_,l,h=>by simp[A1] at h
 |j::js,hj,l,h=>by
  unfold A1 at h;have e:∀a b:Nat,Nat.lor a b=a|||b:=λ_ _=>rfl;rw[e,e,Nat.testBit_or,Nat.testBit_or,amh] at h;simp at h;rcases h with(rfl|h)|h
  ·grind
  ·exact H j l h D cl (cl j (hj j (by simp)))
  ·exact TL H D cl js (λb hb=>hj b (by grind)) l h
theorem TN{es:Nat->H1 Nat}:∀(os:H1 Oper)(ms:H1 Nat),I5 es ms->(∀i o,os[i]? =some o->Aq o=es (ms.length+i))->I5 es (pK os ms)
 |[],ms,H,_=>H
 |o::os,ms,H,he=>by
  refine TN os _ ?_ λi o' hi=>?_
  ·intro i l hl D cl hi;unfold bit at hl;rw[wW] at hl;rcases Nat.lt_trichotomy i ms.length with h|h|h
   ·rw[rQ h] at hl;exact H i l (by unfold bit;rw[wW];exact hl) D cl hi
   ·subst h;simp_all;have:=he 0 o (by simp);exact TL H D cl _ (by grind) l hl
   grind
  ·have:=he (i+1) o' (by grind)
   grind
def zQ(ops:Array Oper)(i j:Nat):Prop:=bit (pK ops.toList []) i j=true
def pF(ops:Array Oper)(i:Nat):H1 Nat:=match ops[i]? with
 |some o=>Aq o
 |none=>[]
theorem Ua(ops:Array Oper){i l:Nat}(h:zQ ops i l)(D:Nat->Prop)(cl:∀a,D a->∀b∈pF ops a,D b)(hi:∀b∈pF ops i,D b):D l:=by
 refine TN ops.toList [] ?_ ?_ i l h D cl hi
 ·intro i l hl;simp[bit] at hl
 ·intro i o ho;have:ops[i]? =some o:=by rw[<-lR];exact ho
  simp[pF,this]
def Ae(ops:Array Oper):Prop:=∀i,i<ops.size->∀b∈pF ops i,b<i
theorem adz{ops:Array Oper}(B:Ae ops){i l:Nat}(hi:i<ops.size)(h:zQ ops i l):l<i:=by
 refine Ua ops h (λx=>x<i) ?_ (λb hb=>B i hi b hb)
 ·intro a ha b hb;have:=B a (by omega) b hb;omega
theorem MX{ops:Array Oper}{listed:Array Bool}{i:Nat}:i∈Region.ready .any ops listed↔i<ops.size/\listed.getD i true=false/\∀b∈pF ops i,listed.getD b false=true:=by
 unfold Region.ready;rw[o7,List.mem_range];constructor
 ·rintro ⟨h1,h2⟩
  simp only[bt,uI] at h2;refine⟨h1,h2.1,?_⟩;have ho:=zI h1;rw[ho] at h2;simp only[rR,qP,Array.all_eq_true'] at h2;intro b hb;unfold pF at hb;rw[ho] at hb;simp[Aq] at hb
  grind
 ·rintro ⟨h1,h2,h3⟩
  refine⟨h1,?_⟩;have ho:=zI h1;simp only[bt,uI];refine⟨h2,?_⟩;rw[ho];simp only[rR,qP,Array.all_eq_true'];intro e he;cases hb:Region.binds .any e with
  |false=>rfl
  |true=>
   have:=h3 e.on (by
    unfold pF;rw[ho];simp[Aq];exact⟨e,⟨by simpa using he,hb⟩,rfl⟩)
   grind
def count(listed:Array Bool):Nat:=(listed.toList.filter (·==false)).length
theorem count_set{listed:Array Bool}{i:Nat}(h:listed.getD i true=false):count (listed.setIfInBounds i true)+1=count listed:=by
 unfold count;rw[Array.toList_setIfInBounds];have hg:listed.toList[i]? =some false:=by
  rw[qJ] at h;cases hx:listed[i]? with
  |none=>grind
  |some b=>grind
 generalize listed.toList=l at hg;clear h;induction l generalizing i with
 |nil=>grind
 |cons b l ih=>
  cases i with
  |zero=>grind
  |succ i=>grind
theorem Tw{ops:Array Oper}(B:Ae ops):∀(fuel t:Nat)(listed:Array Bool)(done:Nat->Prop),listed.size=ops.size->(∀i,i<ops.size->(done i↔listed.getD i false=true))->(∀i,done i->i<ops.size)->
 (∀a,done a->∀b∈pF ops a,done b)->count listed<=fuel->rT ops.size (zQ ops) done (Region.linearise.go .any ops fuel t listed [])
 |fuel,t,listed,done,hs,hd,hb,cl,hc=>by
  have hgd:∀i,i<ops.size->(listed.getD i true=listed.getD i false):=by intro i hi;rw[qJ,qJ,zI (by omega)];rfl
  have none_ready:Region.ready .any ops listed=[]->∀i,i<ops.size->done i:=by
   intro h;intro i;induction i using Nat.strongRecOn with
   |ind i ih=>
    intro hi;by_cases hdi:done i
    ·exact hdi
    ·exfalso;have:i∈Region.ready .any ops listed:=by
      rw[MX];refine⟨hi,?_,?_⟩
      ·rw[hgd i hi];cases hx:listed.getD i false with
       |false=>rfl
       |true=>exact absurd ((hd i hi).2 hx) hdi
      ·intro b hb';have hlt:=B i hi b hb';exact(hd b (by omega)).1 (ih b hlt (by omega))
     rw[h] at this;cases this
  cases fuel with
  |zero=>
   refine none_ready ?_;cases hr:Region.ready .any ops listed with
   |nil=>rfl
   |cons x xs=>
    have hx:x∈Region.ready .any ops listed:=by rw[hr];simp
    rw[MX] at hx;have:=count_set hx.2.1;omega
  |succ fuel=>
   change rT ops.size (zQ ops) done (match(Region.ready .any ops listed)[t%(Region.ready .any ops listed).length]? with
    |some i=>Region.linearise.go .any ops fuel (t/(Region.ready .any ops listed).length) (listed.setIfInBounds i true) [i]
    |none=>[].reverse)
   cases hi:(Region.ready .any ops listed)[t%(Region.ready .any ops listed).length]? with
   |none=>
    have hnil:Region.ready .any ops listed=[]:=by
     cases hr:Region.ready .any ops listed with
     |nil=>rfl
     |cons x xs=>rw[hr] at hi;have hlt:t%(x::xs).length<(x::xs).length:=Nat.mod_lt _ (by simp);simp at hi;simp at hlt;omega
    exact none_ready hnil
   |some i=>
    have hm:=ou hi;rw[MX] at hm;obtain⟨m1,m2,m3⟩:=hm;simp;rw[linearise_go_acc];have nd:¬done i:=λh=>by have:=(hd i m1).1 h;rw[<-hgd i m1,m2] at this;cases this
    have de:=λb hb'=>(hd b (by have:=B i m1 b hb';omega)).2 (m3 b hb');refine⟨m1,nd,λj hj=>Ua ops hj done cl de,?_⟩;refine Tw B fuel _ _ _ (by simpa using hs) ?_ ?_ ?_ ?_
    ·intro x hx;rw[qJ,Array.getElem?_setIfInBounds];by_cases e:i=x
     ·subst e;simp_all
     ·rw[aq e,<-qJ];rw[<-hd x hx];constructor
      ·rintro (h|rfl)
       ·exact h
       ·exact absurd rfl e
      ·exact .inl
    ·rintro x (h|rfl)
     ·exact hb x h
     ·exact m1
    ·rintro a (h|rfl) b hb'
     ·exact .inl (cl a h b hb')
     ·exact .inl (de b hb')
    ·have:=count_set m2;omega
theorem Tz{P:Program}(hm:P.follows .mixedOrders=true){ops:Array Oper}(B:Ae ops)(t:Nat):rT ops.size (zQ ops) (λ_=>False) (Region.schedule (P.follows .mixedOrders) ops t):=by
 simp_all;refine Tw B _ _ _ _ (by simp) (by simp_all) (λ_ h=>h.elim) (λ_ h=>h.elim) ?_
 ·unfold count;simp
def jo:Nat->(Nat->Bool)->Bool
 |0,_=>true
 |n+1,f=>cond (f n) (jo n f) false
theorem lY{f:Nat->Bool}:∀{n:Nat},jo n f=true->∀i,i<n->f i=true
 |0,_,i,h=>by omega
 |n+1,e,i,h=>by
  unfold jo at e;cases hf:f n with
  |false=>grind
  |true=>
   simp_all;rcases gY i n with h1|h1
   ·exact lY e i h1
   grind
def jH(ops:Array Oper)(i:Nat):Zh Nat:=(ops[i]?).bind (·.dst)
def isDst(ops:Array Oper)(j t:Nat):Bool:=match jH ops j with
 |some d=>Nat.beq d t
 |none=>false
theorem S6{ops:Array Oper}{j t:Nat}:isDst ops j t=true↔(ops[j]?).bind (·.dst)=some t:=by
 unfold isDst jH;split
 ·simp_all
 grind
def stat(ops:Array Oper)(ms:H1 Nat)(n:Nat):Bool:=
 cond (jo ops.size λi=>(pF ops i).all λb=>Nat.blt b i)
  (cond (jo ops.size λi=>match jH ops i with
   |none=>true
   |some t=>cond (Nat.blt t n) (jo i λj=>!isDst ops j t) false)
   (jo ops.size λi=>match ops[i]? with
    |none=>true
    |some o=>(looks ops o).all λt=>jo ops.size λj=>cond (isDst ops j t) (Nat.beq j i||(bit ms i j||bit ms j i)) true)
   false)
  false
theorem nI{a b:Bool}(h:cond a b false=true):a=true/\b=true:=by grind
theorem Za{ops:Array Oper}{n:Nat}(hs:stat ops (pK ops.toList []) n=true):Ae ops:=by
 have s1:(jo ops.size λi=>(pF ops i).all λb=>Nat.blt b i)=true:=by
  unfold stat at hs;generalize(jo ops.size λi=>(pF ops i).all λb=>Nat.blt b i)=z at hs⊢;cases z with
  |true=>rfl
  |false=>grind
 intro i hi b hb;have:=lY s1 i hi;simp_all
def K1(tm:Tr SV)(d:Zh Nat)(tm':Tr SV):Tr SV:=match d with
 |none=>tm
 |some d=>match tm'.get d with
  |some v=>tm.set d v
  |none=>tm.del d
def sw(o:Op):Bool:=match o with
 | .alloc _=>true
 | .box _ _=>true
 | .buildSlice _ _ _=>true
 | .makeSlice _ _ _=>true
 |_=>false
mutual
def vU:SV->Bool
 | .i _ _=>true
 | .b _=>true
 | .s _=>true
 | .v _=>true
 | .nl=>true
 | .ni=>true
 | .agg l=>vW l
 | .aH l=>vW l
 | .fn _ l=>vW l
 | .lp _=>true
 |_=>false
def vW:H1 SV->Bool
 |[]=>true
 |x::xs=>vU x&&vW xs
end
def Vu(o:Op):H1 Nat:=o.operands.toList.filterMap λx=>match x with| .tmp t=>some t|_=>none
def MF(tm:Tr SV):H1 Nat->Bool
 |[]=>true
 |t::ts=>(match tm.get t with|some sv=>vU sv|none=>false)&&MF tm ts
theorem V0{tm:Tr SV}:∀{ts:H1 Nat},MF tm ts=true->∀t∈ts,∃sv,tm.get t=some sv/\vU sv=true
 |[],_,t,h=>by grind
 |x::ts,e,t,h=>by
  have e:=Bool.and_eq_true_iff.1 e;rcases cX.1 h with rfl|h
  ·grind
  ·exact V0 e.2 t h
def Zk(ops:Array Oper)(ms:H1 Nat)(i:Nat):Bool:=jo ops.size λj=>cond (Nat.ble j i) true (bit ms j i)
def sa(a b:Nat)(r:Zh β):Zh β:=cond (Nat.beq a b) r none
noncomputable def lf(x y:Qu)(r:Zh β):Zh β:=open Classical in if x=y then r else none
mutual
noncomputable def Kc:SV->SV->Zh β->Zh β
 | .i k n,.i k' m,r=>cond (decide (k=k')) (cond (aj n m) r none) none
 | .b x,.b y,r=>cond x (cond y r none) (cond y none r)
 | .ptr a x,.ptr a' x',r=>sa a a' (sa x x' r)
 | .sl a x n c,.sl a' x' n' c',r=>sa a a' (sa x x' (sa n n' (sa c c' r)))
 | .gr a x,.gr a' x',r=>sa a a' (sa x x' r)
 | .nl,.nl,r=>r
 | .ni,.ni,r=>r
 | .agg l,.agg l',r=>Kd l l' r
 | .v x,.v y,r=>lf x y r
 |_,_,_=>bC 74
noncomputable def Kd:H1 SV->H1 SV->Zh β->Zh β
 |[],[],r=>r
 |x::xs,y::ys,r=>Kc x y (Kd xs ys r)
 |_,_,_=>none
end
structure oB where
 i:Nat
 o:Oper
 tm:Tr SV
 sv:SV
def WA(tm:Tr SV)(o:Op):Bool:=match o with
 | .load _ a=>match dH tm a with
  |some (.ptr _ _)=>true
  |_=>false
 |_=>false
def vQ(ms:H1 Nat)(s:Nat):H1 oB->H1 oB
 |[]=>[]
 |x::xs=>cond (bit ms s x.i) (vQ ms s xs) (x::vQ ms s xs)
theorem VI{ms:H1 Nat}{s:Nat}{x:oB}:∀{pe:H1 oB},x∈pe->bit ms s x.i=true\/x∈vQ ms s pe
 |y::pe,h=>by
  unfold vQ;rcases cX.1 h with rfl|h
  ·grind
  ·rcases VI h with k|k
   ·exact .inl k
   grind
def AV{α:Type}:H1 Oper->Tr α->Tr α
 |[],t=>t
 |o::os,t=>AV os (match o.dst with|some d=>t.del d|none=>t)
theorem Tv{α:Type}:∀{os:H1 Oper}{t:Tr α}{k:Nat}{v:α},(AV os t).get k=some v↔(∀o∈os,o.dst≠some k)/\t.get k=some v
 |[],t,k,v=>by simp[AV]
 |o::os,t,k,v=>by
  unfold AV;rw[Tv];cases hd:o.dst with
  |none=>grind
  |some d=>
   simp[Tr.sk]
   grind
theorem VZ:∀{l:H1 SV},vW l=true->∀x∈l,vU x=true
 |y::l,h,x,hx=>by
  simp only[vW,bt] at h;rcases cX.1 hx with rfl|hx
  ·exact h.1
  ·exact VZ h.2 x hx
theorem VY{σ σ':Ren}(hl:∀b i v,σ.lit b i=some v->σ'.lit b i=some v){x:SV}{v:Qu}(d:DV σ x v):vU x=true->DV σ' x v:=by
 have mem:∀{l:H1 SV}{i:Nat}{x:SV},vW l=true->l[i]? =some x->vU x=true:=λh e=>VZ h _ (ou e)
 induction d with
 |i=>exactλ_=>.i _ _
 |b=>exactλ_=>.b _
 |s=>exactλ_=>.s _
 |v h h1=>exactλ_=>.v (h.mono hl) h1
 |nl=>exactλ_=>.nl
 |agg kl _ ih=>exactλp=>.agg kl λi x y a b=>ih i x y a b (mem p a)
 |aH kl _ ih=>exactλp=>.aH kl λi x y a b=>ih i x y a b (mem p a)
 |lp h=>exactλ_=>.lp (h.mono hl)
 |fn kl _ ih=>exactλp=>.fn kl λi x y a b=>ih i x y a b (mem p a)
 |ni=>exactλ_=>.ni
 |_=>intro p;cases p
theorem Mem.lits{B:Bs}{σ:Ren}{G:Nat->SO->Prop}{F:Nat->Prop}{w w':Hx}(M:Mem B σ G F w)(fr:eS (λ_=>False) w w'){m:Nat->Nat->Zh Qu}(e:∀b i v,σ.lit b i=some v->m b i=some v)(k:∀b i v,m b i=some v->fJ w' b i=some v)
 (n:∀b i v,m b i=some v->σ.lit b i=some v\/w.heap.size<=b):Mem B ⟨σ.nm,m⟩ G F w':=by
 have E:Ext σ ⟨σ.nm,m⟩:=⟨λ_ _ h=>h,e⟩;have M':=M.same fr;refine⟨λid so h=>(M'.obj id so h).mono E λ_ _ _=>rfl,M.inj,M.fresh,k,λb i v h q=>?_,M'.base,M.owned,λb i v h=>?_,M.jU,λb i v h=>e b i v (M.mW b i v h)⟩
 ·rcases n b i v h with p|p
  ·exact M.free b i v p q
  ·obtain⟨id,so,o,n,h1,h2,h3⟩:=q;have:=M.lt h1 h2;omega
 ·rcases n b i v h with p|p
  ·exact M.lP b i v p
  ·exact .inr (.inr (fE M.base.size p))
theorem pL{id:Nat}{so:SO}(h:hG .nil id so):False:=by have h:(Tr.nil:Tr SO).get id=some so:=h;rw[Tr.get_nil] at h;cases h
def BE(w:Hx)(own:Nat->Prop)(m:Nat->Nat->Zh Qu):Bs:=⟨w,own,m,0,λ_=>none,0,[]⟩
theorem xE(x:Qu)(r:Zh β):lf x x r=r:=by unfold lf;rw[ay rfl]
theorem abm{x y:Qu}{r:Zh β}{b:β}(e:lf x y r=some b):x=y/\r=some b:=by
 unfold lf at e
 grind
theorem tL{a b:Nat}{r:Zh β}{c:β}(e:sa a b r=some c):a=b/\r=some c:=by obtain⟨h,e⟩:=aW e;exact⟨bT h,e⟩
mutual
theorem RG:∀(x y:SV)(r:Zh β)(b:β),Kc x y r=some b->x=y/\r=some b
 | .i k n,.i k' m,r,b,e=>by obtain⟨h1,e1⟩:=aW e;obtain⟨h2,e2⟩:=aW e1;have h1:=ny h1;rw[vA] at h2;exact⟨by rw[h1,eq_of_beq h2],e2⟩
 | .b x,.b y,r,b,e=>by cases x<;>cases y<;>first|exact⟨rfl,e⟩|cases e
 | .ptr a x,.ptr a' x',r,b,e=>by obtain⟨h1,e1⟩:=tL e;obtain⟨h2,e2⟩:=tL e1;exact⟨by rw[h1,h2],e2⟩
 | .sl a x n c,.sl a' x' n' c',r,b,e=>by obtain⟨h1,e1⟩:=tL e;obtain⟨h2,e2⟩:=tL e1;obtain⟨h3,e3⟩:=tL e2;obtain⟨h4,e4⟩:=tL e3;exact⟨by rw[h1,h2,h3,h4],e4⟩
 | .gr a x,.gr a' x',r,b,e=>by obtain⟨h1,e1⟩:=tL e;obtain⟨h2,e2⟩:=tL e1;exact⟨by rw[h1,h2],e2⟩
 | .nl,.nl,r,b,e=>⟨rfl,e⟩
 | .ni,.ni,r,b,e=>⟨rfl,e⟩
 | .agg l,.agg l',r,b,e=>by obtain⟨h1,h2⟩:=RI l l' r b e;exact⟨by rw[h1],h2⟩
 | .v x,.v y,r,b,e=>by obtain⟨h1,h2⟩:=abm e;exact⟨by rw[h1],h2⟩
theorem RI:∀(x y:H1 SV)(r:Zh β)(b:β),Kd x y r=some b->x=y/\r=some b
 |[],[],r,b,e=>⟨rfl,e⟩
 |x::xs,y::ys,r,b,e=>by obtain⟨h1,e⟩:=RG x y _ b e;obtain⟨h2,e⟩:=RI xs ys r b e;exact⟨by rw[h1,h2],e⟩
end
class QF where
 q:FuncId->Bool
variable[QF]
def KW(o:Op):Bool:=match o with
 | .call c=>match c.callee with
  | .value (.func f)=>QF.q f
  |_=>false
 |_=>false
def Bj(X:eC)(pt:FuncId->Zh (cD β))(st:St)(o:Oper)(K:SV->Zh β):Zh β:=match o.op with
 | .pick c a b=>ob (dH st.tm c) λv=>match v with
  | .b x=>cond x (ob (dH st.tm a) K) (ob (dH st.tm b) K)
  |_=>none
 |op=>cond (KW op) (cond (MF st.tm (Vu op)) (CS X pt ⟨jx st.tm (Vu op) .nil,.nil,st.sx⟩ op λp v _=>cond p none (cond (vU v) (K v) (bC 76))) (bC 75)) (CS X pt st op λp v _=>cond p none (K v))
def qB(o:Op):Bool:=match o with
 | .pick _ _ _=>true
 |o=>KW o||mz o
def yf(ops:Array Oper)(ms:H1 Nat)(i:Nat):Bool:=
 jo ops.size λj=>match ops[j]? with
  |some o=>qB o.op||(sw o.op||(bit ms i j||bit ms j i))
  |none=>true
def VA(ops:Array Oper)(ms:H1 Nat)(i:Nat):Bool:=
 jo i λj=>match ops[j]? with
  |some o=>qB o.op||(sw o.op||bit ms i j)
  |none=>true
noncomputable def Bq(X:eC)(pt:FuncId->Zh (cD β))(ms:H1 Nat)(s:Nat)(st:St):H1 oB->Zh β->Zh β
 |[],r=>r
 |x::xs,r=>cond (bit ms s x.i) (Bq X pt ms s st xs r) (cond (qB x.o.op) (Bj X pt ⟨x.tm,st.h,st.sx⟩ x.o λsv=>Kc x.sv sv (Bq X pt ms s st xs r)) none)
noncomputable def pE(X:eC)(pt:FuncId->Zh (cD β))(ops:Array Oper)(ms:H1 Nat):H1 Oper->Nat->St->Tr SO->H1 Nat->H1 oB->(Zh SV->St->Zh β)->Zh β
 |[],_,st,_,_,_,K=>K none st
 |o::os,i,st,hL,ks,pe,K=>Eh ops st.tm o λw tm1=>cond w
  (cond (qB o.op)
   (cond (WA tm1 o.op&&!yf ops ms i)
    (cond (VA ops ms i) (Bj X pt ⟨jx tm1 (looks ops o) .nil,hL,st.sx⟩ o λsv=>pE X pt ops ms os (i+1) {st with tm:=kN tm1 o.dst sv} hL ks (⟨i,o,jx tm1 (looks ops o) .nil,sv⟩::pe) K) (bC 73))
    (Bj X pt ⟨jx tm1 (looks ops o) .nil,cond (yf ops ms i) hL .nil,st.sx⟩ o λsv=>pE X pt ops ms os (i+1) {st with tm:=kN tm1 o.dst sv} hL ks pe K))
   (cond (sw o.op)
    (rm X ⟨jx tm1 (looks ops o) .nil,.nil,st.sx⟩ o.op λsv so=>pE X pt ops ms os (i+1) ⟨kN tm1 o.dst sv,st.h.set st.sx so,st.sx+1⟩ hL (i::ks) pe K)
    (cond (ks.all λj=>bit ms i j) (Bi X pt {st with tm:=jx tm1 (looks ops o) .nil} o λq st'=>match q with
     |none=>Bq X pt ms i st' pe (pE X pt ops ms os (i+1) ⟨K1 tm1 o.dst st'.tm,st'.h,st'.sx⟩ st'.h (i::ks) (vQ ms i pe) K)
     |some v=>cond (Zk ops ms i) (K (some v) ⟨AV ops.toList tm1,st'.h,st'.sx⟩) (bC 71)) (bC 72))))
  (pE X pt ops ms os (i+1) {st with tm:=kN tm1 o.dst (.aH [])} hL ks pe K)
theorem Mj{P:Program}{X:eC}(OK:iP P X){pt:FuncId->Zh (cD β)}(PT:nD P pt){o:Oper}(hq:qB o.op=true){st:St}{K:SV->Zh β}{b:β}(e:Bj X pt st o K=some b):
 ∃sv,K sv=some b/\te P o st sv:=by
 unfold Bj at e;split at e
 ·rename_i c x y hop;obtain⟨v,k1,e⟩:=ax e;split at e
  ·rename_i q;have run:∀{σ:Ren}{a:Act}{w:Hx},Ev σ st.tm a->(execOp a.eval o).run P w=.ok (.value (cond q (a.eval x) (a.eval y))) w:=by
    intro σ a w R;have d:=(ej R k1).bv;unfold execOp;simp only[hop,d,asBool,cU,eE,eA];cases q<;>rfl
   cases q with
   |true=>obtain⟨u,k2,e⟩:=ax e;exact⟨u,e,λa R s M K Q k=>rM (run R) (k _ _ _ (Ext.refl _) (ej R k2) M)⟩
   |false=>obtain⟨u,k2,e⟩:=ax e;exact⟨u,e,λa R s M K Q k=>rM (run R) (k _ _ _ (Ext.refl _) (ej R k2) M)⟩
  ·cases e
 ·rename_i hnp;cases hc:KW o.op with
  |true=>
   rw[hc] at e;obtain⟨hp,e⟩:=aW e;obtain⟨p,sv,st',h1,h2,hx,h3,_⟩:=PD OK PT e;cases p with
   |true=>cases h1
   |false=>
    obtain⟨hs,h1⟩:=aW h1;refine⟨sv,h1,λ{B σ G F w} a R s M K Q k=>?_⟩
    let σ0:Ren:=⟨λ_=>none,σ.lit⟩
    have M0:Mem (BE w (λ_=>False) σ.lit) σ0 (hG .nil) (λ_=>True) w:=
     ⟨λid so h=>(pL h).elim,λi j so so' o o' n n' h=>(pL h).elim,λ_ _=>rfl,M.lit,λb i v _ ⟨id,so,o,n,h,_⟩=>pL h,eS.refl _ _,λb ⟨id,so,o,n,h,_⟩=>(pL h).elim,λb i v h=>.inl h,λk hk=>(Nat.not_lt_zero k hk).elim,λ_ _ _ h=>h⟩
    refine h3 (σ:=σ0) a (λt u hu=>?_) (λ_ _ _=>trivial) M0 K Q λσ' v w' E dv M'=>?_
    ·rcases Bg _ _ _ _ hu with⟨q1,q2⟩|q
     ·obtain⟨u',q3,q4⟩:=V0 hp t q1;rw[q2] at q3;cases q3;exact VY (σ:=σ) (σ':=σ0) (λ_ _ _ h=>h) (R t u q2) q4
     ·rw[Tr.get_nil] at q;cases q
    ·have ml:=M.lits M'.base E.lit M'.lit λb i v h=>by
      rcases M'.lP b i v h with q|q|q
      ·exact .inl q
      ·exact q.elim
      ·exact .inr q
     exact k ⟨σ.nm,σ'.lit⟩ v w' ⟨λ_ _ h=>h,E.lit⟩ (VY (σ:=σ') (σ':=⟨σ.nm,σ'.lit⟩) (λ_ _ _ h=>h) dv hs) ml
  |false=>
   rw[hc,aD] at e;obtain⟨p,sv,st',h1,h2,hx,h3,h4⟩:=PD OK PT e;have hqb:mz o.op=true:=by
    unfold qB at hq;split at hq
    ·rename_i c x y hop;exact absurd hop (hnp c x y)
    ·rw[hc] at hq;simpa using hq
   obtain⟨rfl,h5⟩:=h4 hqb;exact⟨sv,h1,h5⟩
end
section
variable{β:Type}
variable[QF]
structure Rc where
 k:Nat
 v:SV
 h:Tr SO
 x:Nat
def qd(P:Program)(ops:Array Oper)(i:Nat)(o:Oper)(tm:Tr SV)(v:SV)(hl:Tr SO):Prop:=
 ∀{B:Bs}{σ:Ren}{G:Nat->SO->Prop}{F:Nat->Prop}{w:Hx}(a:Act),Ev σ tm a->(∀id so,hl.get id=some so->G id so)->Mem B σ G F w->∀(K:Act->Hx->Prop) Q,
  (∀σ' u w',Ext σ σ'->DV σ' v u->Mem B σ' G F w'->K (a.put o.dst u) w')->wpOp P ops Q i K a w
def ZV(P:Program)(ops:Array Oper)(o:Oper)(tm:Tr SV)(v:SV)(so:SO)(x:Nat):Prop:=
 ∀{σ:Ren}(a:Act),Ev σ tm a->Region.wanted o (yielded ops a.tmps)=true/\∀w,∃u w',(execOp a.eval o).run P w=.ok (.value u) w'/\eS (λ_=>False) w w'/\
  ∀σ' c n,Ext σ σ'->σ'.nm x=some (some (w.heap.size,c),n)->DV σ' v u/\DO σ' w' x so
def I3(P:Program)(ops:Array Oper)(i:Nat)(o:Oper)(tm:Tr SV)(v:SV)(h:Tr SO)(x:Nat)(h':Tr SO)(x':Nat)(p:Bool):Prop:=
 ∀{B:Bs}{σ:Ren}{F:Nat->Prop}{w:Hx}(a:Act),Ev σ tm a->(∀id,x<=id->id<x'->F id)->Mem B σ (hG h) F w->∀(K:Act->Hx->Prop) Q,
  (∀σ' u w',Ext σ σ'->DV σ' v u->Mem B σ' (hG h') (mf F x x') w'->cond p (Q (.panic [pe u]) a w') (K (a.put o.dst u) w'))->wpOp P ops Q i K a w
def qc(ops:Array Oper)(s i:Nat)(R:Nat->Rc)(tm0 tm:Tr SV):Prop:=∀t sv,tm.get t=some sv->(∃j,s<=j/\j<i/\jH ops j=some t/\(R j).v=sv)\/((∀j,s<=j->j<i->jH ops j≠some t)/\tm0.get t=some sv)
def zP(s:Nat)(hL:Tr SO)(R:Nat->Rc)(i:Nat)(h:Tr SO):Prop:=(∃p,s<=p/\p<i/\(R p).k=2/\(∀q,p<q->q<i->(R q).k≠2)/\h=(R (p+1)).h)\/((∀q,s<=q->q<i->(R q).k≠2)/\h=hL)
def Dh(ops:Array Oper)(o:Oper)(tm:Tr SV):Prop:=∀t sv,tm.get t=some sv->t∈looks ops o
structure Fact(P:Program)(ops:Array Oper)(ms:List Nat)(s m:Nat)(tm0:Tr SV)(hL:Tr SO)(ks:List Nat)(R:Nat->Rc)(i:Nat)(o:Oper)(tm:Tr SV):Prop where
 op:ops[i]? =some o
 VV:qc ops s i R tm0 tm
 only:Dh ops o tm
 le:(R i).x<=(R (i+1)).x
 kind:((R i).k=0/\(R (i+1)).h=(R i).h/\(R (i+1)).x=(R i).x/\(qd P ops i o tm (R i).v .nil\/∃h,zP s hL R i h/\qd P ops i o tm (R i).v h/\
  (yf ops ms i=true\/VA ops ms i=true/\∀j,i<j->j<m->(R j).k=2->(∀l,i<l->l<=j->(R l).k=2->bit ms l i=false)->qd P ops i o tm (R i).v (R (j+1)).h)))\/
  ((R i).k=1/\sw o.op=true/\∃so,ZV P ops o tm (R i).v so (R i).x/\(R (i+1)).h=(R i).h.set (R i).x so/\(R (i+1)).x=(R i).x+1)\/
  ((R i).k=2/\I3 P ops i o tm (R i).v (R i).h (R i).x (R (i+1)).h (R (i+1)).x false/\qB o.op=false/\sw o.op=false/\(∀j,s<=j->j<i->(R j).k≠0->bit ms i j=true)/\∀j∈ks,bit ms i j=true)
def Qc(ops:Array Oper)(x:oB):Prop:=ops[x.i]? =some x.o/\∀{σ:Ren}{a:Act},Ev σ x.tm a->Region.wanted x.o (yielded ops a.tmps)=true
def Fin(P:Program)(ops:Array Oper)(ms:H1 Nat)(s e m:Nat)(tm0:Tr SV)(ks:H1 Nat)(R:Nat->Rc)(q:Zh SV)(gu:St):Prop:=match q with
 |none=>m=e/\gu.h=(R m).h/\gu.sx=(R m).x/\qc ops s m R tm0 gu.tm
 |some sv=>∃o tm,ops[m]? =some o/\m<e/\qc ops s m R tm0 tm/\Dh ops o tm/\I3 P ops m o tm sv (R m).h (R m).x gu.h gu.sx true/\(R m).x<=gu.sx/\Zk ops ms m=true/\(∀j,s<=j->j<m->(R j).k≠0->bit ms m j=true)/\(∀j∈ks,bit ms m j=true)/\
  qB o.op=false/\sw o.op=false/\∀t u,gu.tm.get t=some u->(∀o∈ops.toList,o.dst≠some t)/\tm0.get t=some u
def Out(P:Program)(ops:Array Oper)(ms:H1 Nat)(s e:Nat)(st:St)(hL:Tr SO)(ks:H1 Nat)(ps:H1 oB)(K:Zh SV->St->Zh β)(b:β):Prop:=
 ∃(R:Nat->Rc)(m:Nat)(q:Zh SV)(gu:St),K q gu=some b/\s<=m/\m<=e/\(R s).h=st.h/\(R s).x=st.sx/\(∀i,s<=i->i<m->∃o tm,Fact P ops ms s m st.tm hL ks R i o tm)/\
  (∀x∈ps,∀j,s<=j->j<m->(R j).k=2->(∀l,s<=l->l<=j->(R l).k=2->bit ms l x.i=false)->qd P ops x.i x.o x.tm x.sv (R (j+1)).h)/\Fin P ops ms s e m st.tm ks R q gu
theorem qc.step{ops:Array Oper}{s i:Nat}{R R':Nat->Rc}{tm0 tm1 tm:Tr SV}{o:Oper}(ho:ops[s]? =some o)(hs:s<i)(hR:∀j,s<j->R j=R' j)(sb:Sub tm1 tm0)(h:qc ops (s+1) i R' (kN tm1 o.dst (R s).v) tm):qc ops s i R tm0 tm:=λt sv ht=>by
 have hd:jH ops s=o.dst:=by simp[jH,ho]
 rcases h t sv ht with⟨j,h1,h2,h3,h4⟩|⟨h1,h2⟩
 ·exact .inl ⟨j,by omega,h2,h3,by rw[hR j (by omega)];exact h4⟩
 ·cases hdst:o.dst with
  |none=>
   rw[hdst] at h2;refine .inr ⟨λj j1 j2=>?_,sb _ _ h2⟩;rcases Nat.eq_or_lt_of_le j1 with rfl|j1
   ·rw[hd,hdst];simp
   ·exact h1 j j1 j2
  |some d=>
   rw[hdst] at h2;have h2:(tm1.set d (R s).v).get t=some sv:=h2;rw[Tr.fN] at h2;by_cases q:t=d
   ·rw[ay q] at h2;exact .inl ⟨s,aM _,hs,by rw[hd,hdst,q],by cases h2;rfl⟩
   ·rw[aq q] at h2;refine .inr ⟨λj j1 j2=>?_,sb _ _ h2⟩;rcases Nat.eq_or_lt_of_le j1 with rfl|j1
    ·rw[hd,hdst];simpa using Ne.symm q
    ·exact h1 j j1 j2
theorem zP.step{s i:Nat}{R R':Nat->Rc}{hL hL1 h:Tr SO}(hs:s<i)(hR:∀j,s<j->R j=R' j)(hl:(R s).k=2/\hL1=(R' (s+1)).h\/(R s).k≠2/\hL1=hL)(k:zP (s+1) hL1 R' i h):zP s hL R i h:=by
 rcases k with⟨p,h1,h2,h3,h4,h5⟩|⟨h1,h2⟩
 ·exact .inl ⟨p,by omega,h2,by rw[hR p h1];exact h3,λq q1 q2=>by rw[hR q (by omega)];exact h4 q q1 q2,by rw[hR _ (by omega)];exact h5⟩
 ·rcases hl with⟨k1,k2⟩|⟨k1,k2⟩
  ·exact .inl ⟨s,aM _,hs,k1,λq q1 q2=>by rw[hR q q1];exact h1 q q1 q2,by rw[hR _ (kT _),h2,k2]⟩
  ·refine .inr ⟨λq q1 q2=>?_,by rw[h2,k2]⟩;rcases Nat.eq_or_lt_of_le q1 with rfl|q1
   ·exact k1
   ·rw[hR q q1];exact h1 q q1 q2
theorem Out.cons{P:Program}{ops:Array Oper}{ms:H1 Nat}{s e:Nat}{st st1:St}{hL hL1:Tr SO}{ks ks1:H1 Nat}{ps ps1:H1 oB}{K:Zh SV->St->Zh β}{b:β}{o:Oper}(ho:ops[s]? =some o){k:Nat}{v:SV}{tm1:Tr SV}(ht:st1.tm=kN tm1 o.dst v)(sb:Sub tm1 st.tm)
 (hl:k=2/\hL1=st1.h\/k≠2/\hL1=hL) (hk:k≠0/\ks1=s::ks\/k=0/\ks1=ks) (hp:∀x∈ps,x∈ps1\/k=2/\bit ms s x.i=true) (hp2:k=2->∀x∈ps,bit ms s x.i=false->qd P ops x.i x.o x.tm x.sv st1.h) (hx:st.sx<=st1.sx)
 (hf:∀(R:Nat->Rc)(m:Nat),(R s)=⟨k,v,st.h,st.sx⟩->(R (s+1)).h=st1.h->(R (s+1)).x=st1.sx->(∀x∈ps1,∀j,s+1<=j->j<m->(R j).k=2->(∀l,s+1<=l->l<=j->(R l).k=2->bit ms l x.i=false)->qd P ops x.i x.o x.tm x.sv (R (j+1)).h)->∃tm,Fact P ops ms s m st.tm hL ks R s o tm)
 (O:Out P ops ms (s+1) e st1 hL1 ks1 ps1 K b):Out P ops ms s e st hL ks ps K b:=by
 obtain⟨R',m,q,gu,h1,h2,h3,h4,h5,h6,h7,h8⟩:=O
 let R:Nat->Rc:=λi=>if i=s then⟨k,v,st.h,st.sx⟩ else R' i
 have hs:R s=⟨k,v,st.h,st.sx⟩:=ay rfl;have hR:∀j,s<j->R j=R' j:=λj hj=>aq (by omega);have hl':(R s).k=2/\hL1=(R' (s+1)).h\/(R s).k≠2/\hL1=hL:=by rw[hs,h4];exact hl
 have hv:(R s).v=v:=by rw[hs]
 have bits:∀{i:Nat},(∀j,s+1<=j->j<i->(R' j).k≠0->bit ms i j=true)->(∀j∈ks1,bit ms i j=true)->(∀j,s<=j->j<i->(R j).k≠0->bit ms i j=true)/\∀j∈ks,bit ms i j=true:=by
  intro i b1 b2;refine⟨λj j1 j2 j3=>?_,λj hj=>b2 j ?_⟩
  ·rcases Nat.eq_or_lt_of_le j1 with rfl|j1
   ·rw[hs] at j3;rcases hk with⟨_,q⟩|⟨q,_⟩
    ·exact b2 _ (by rw[q];simp)
    ·exact absurd q j3
   ·rw[hR j j1] at j3;exact b1 j j1 j2 j3
  ·rcases hk with⟨_,q⟩|⟨_,q⟩
   ·rw[q];exact lU _ hj
   ·rw[q];exact hj
 have pv:∀{i:Nat}{tm:Tr SV},s<i->qc ops (s+1) i R' st1.tm tm->qc ops s i R st.tm tm:=λhi h=>qc.step ho hi hR sb (by rw[hv,<-ht];exact h);have pq:∀x∈ps1,∀j,s+1<=j->j<m->(R j).k=2->(∀l,s+1<=l->l<=j->(R l).k=2->bit ms l x.i=false)->qd P ops x.i x.o x.tm x.sv (R (j+1)).h:=by intro x hx j j1 j2 j3 j4;rw[hR j j1] at j3;rw[hR (j+1) (by omega)];exact h7 x hx j j1 j2 j3 λl l1 l2 l3=>j4 l l1 l2 (by rw[hR l l1];exact l3)
 refine⟨R,m,q,gu,h1,by omega,h3,by rw[hs],by rw[hs],λi i1 i2=>?_,λx hx j j1 j2 j3 j4=>?_,?_⟩
 ·rcases Nat.eq_or_lt_of_le i1 with rfl|i1
  ·obtain⟨tm,f⟩:=hf R m hs (by rw[hR _ (kT _),h4]) (by rw[hR _ (kT _),h5]) pq;exact⟨o,tm,f⟩
  ·obtain⟨o',tm,f⟩:=h6 i i1 i2;have e1:=hR i i1;have e2:=hR (i+1) (by omega);refine⟨o',tm,f.op,pv i1 f.VV,f.only,by rw[e1,e2];exact f.le,?_⟩;rw[e1,e2];rcases f.kind with⟨a1,a2,a3,a4⟩|a|⟨a1,a2,a3,a4,a5,a6⟩
   ·refine .inl ⟨a1,a2,a3,?_⟩;rcases a4 with a4|⟨h,b1,b2,b3⟩
    ·exact .inl a4
    ·refine .inr ⟨h,b1.step i1 hR hl',b2,?_⟩;rcases b3 with b3|⟨b3,b4⟩
     ·exact .inl b3
     ·exact .inr ⟨b3,λj j1 j2 j3 j4=>by rw[hR j (by omega)] at j3;rw[hR (j+1) (by omega)];exact b4 j j1 j2 j3 λl l1 l2 l3=>j4 l l1 l2 (by rw[hR l (by omega)];exact l3)⟩
   ·exact .inr (.inl a)
   ·exact .inr (.inr ⟨a1,a2,a3,a4,bits a5 a6⟩)
 ·rcases Nat.eq_or_lt_of_le j1 with rfl|j1
  ·rw[hs] at j3;rw[hR _ (kT _),h4];exact hp2 j3 x hx (j4 s (aM _) (aM _) (by rw[hs];exact j3))
  ·rcases hp x hx with q|⟨q1,q2⟩
   ·exact pq x q j j1 j2 j3 λl l1 l2 l3=>j4 l (by omega) l2 l3
   ·have:=j4 s (aM _) (by omega) (by rw[hs];exact q1);rw[q2] at this;cases this
 ·cases q with
  |none=>obtain⟨a1,a2,a3,a4⟩:=h8;exact⟨a1,by rw[hR m (by omega)];exact a2,by rw[hR m (by omega)];exact a3,pv (by omega) a4⟩
  |some sv=>
   obtain⟨o',tm,a1,a2,a3,a4,a5,a6,a7,a8,a9,a10,a11,a12⟩:=h8;rw[<-hR m (by omega)] at a5 a6;refine⟨o',tm,a1,a2,pv (by omega) a3,a4,a5,a6,a7,(bits a8 a9).1,(bits a8 a9).2,a10,a11,λt u hu=>?_⟩;obtain⟨c1,c2⟩:=a12 t u hu;refine⟨c1,sb _ _ ?_⟩;rw[ht] at c2;have:=c1 o (Array.mem_toList_iff.2 (Array.mem_of_getElem? ho));cases hd:o.dst with
   |none=>rw[hd] at c2;exact c2
   |some d=>rw[hd] at c2;have c2:(tm1.set d v).get t=some u:=c2;rw[Tr.fN,aq (by rw[hd] at this;simpa using Ne.symm this)] at c2;exact c2
end
section
variable{β:Type}
theorem MK{P:Program}{ops:Array Oper}{i:Nat}{o:Oper}{tm:Tr SV}{h:Tr SO}{sx:Nat}{sv:SV}(ho:ops[i]? =some o)(g:∀{σ:Ren}{a:Act},Ev σ tm a->Region.wanted o (yielded ops a.tmps)=true)(d:te P o ⟨tm,h,sx⟩ sv):qd P ops i o tm sv h:=λa R s M K Q k=>by unfold wpOp;simp only[ho,g R,ea];exact .inl (d a R s M K Q k)
theorem Mq[QF]{P:Program}{X:eC}(OK:iP P X){pt:FuncId->Zh (cD β)}(PT:nD P pt){ops:Array Oper}{ms:H1 Nat}{s:Nat}{st:St}:∀{ps:H1 oB}{r:Zh β}{b:β},Bq X pt ms s st ps r=some b->(∀x∈ps,Qc ops x)->r=some b/\∀x∈ps,bit ms s x.i=false->qd P ops x.i x.o x.tm x.sv st.h
 |[],r,b,e,_=>⟨e,λ_ h=>by cases h⟩
 |x::ps,r,b,e,hp=>by
  have hp':=λy hy=>hp y (lU x hy);unfold Bq at e;cases hb:bit ms s x.i with
  |true=>
   rw[hb,aC] at e;obtain⟨h1,h2⟩:=Mq OK PT e hp';refine⟨h1,λy hy q=>?_⟩;rcases cX.1 hy with rfl|hy
   ·rw[hb] at q;cases q
   ·exact h2 y hy q
  |false=>
   rw[hb,aD] at e;obtain⟨hq,e⟩:=aW e;obtain⟨sv,e,d⟩:=Mj OK PT hq e;obtain⟨e1,e⟩:=RG _ _ _ _ e;obtain⟨h1,h2⟩:=Mq OK PT e hp';refine⟨h1,λy hy q=>?_⟩;rcases cX.1 hy with rfl|hy
   ·obtain⟨p1,p2⟩:=hp y (nr ..);rw[e1];exact MK p1 p2 d
   ·exact h2 y hy q
theorem Mr{ms:H1 Nat}{s:Nat}{x:oB}:∀{ps:H1 oB},x∈vQ ms s ps->x∈ps
 |y::ps,h=>by
  unfold vQ at h;cases hb:bit ms s y.i with
  |true=>rw[hb] at h;exact lU _ (Mr h)
  |false=>
   rw[hb] at h;rcases cX.1 h with rfl|h
   ·exact nr ..
   ·exact lU _ (Mr h)
theorem acM{tm1 tm2:Tr SV}{d:Zh Nat}{ts:H1 Nat}{v:SV}(h:tm2=kN (jx tm1 ts .nil) d v):K1 tm1 d tm2=kN tm1 d v:=by
 subst h;cases d with
 |none=>rfl
 |some d=>simp[K1,kN,Tr.fN]
theorem yd{ops:Array Oper}{o:Oper}{tm:Tr SV}:Dh ops o (jx tm (looks ops o) .nil):=λt sv h=>by
 rcases Bg _ _ _ _ h with⟨q,_⟩|q
 ·exact q
 ·rw[Tr.get_nil] at q;cases q
theorem xB[QF]{P:Program}{X:eC}(OK:iP P X){pt:FuncId->Zh (cD β)}(PT:nD P pt){ops:Array Oper}{ms:H1 Nat}:∀(os:H1 Oper)(s:Nat),(∀i o,os[i]? =some o->ops[s+i]? =some o)->s+os.length=ops.size->∀(st:St)(hL:Tr SO)(ks:H1 Nat)(ps:H1 oB)(K:Zh SV->St->Zh β)(b:β),
 pE X pt ops ms os s st hL ks ps K=some b->(∀x∈ps,Qc ops x)->Out P ops ms s ops.size st hL ks ps K b
 |[],s,_,hl,st,hL,ks,ps,K,b,e,_=>
  ⟨λ_=>⟨0,.nl,st.h,st.sx⟩,s,none,st,e,aM _,ta hl,rfl,rfl,λi h1 h2=>by omega,λ_ _ j h1 h2=>by omega,hl,rfl,rfl,λt sv h=>.inr ⟨λj h1 h2=>by omega,h⟩⟩
 |o::os,s,hs,hl,st,hL,ks,ps,K,b,e,hp=>by
  have ho:ops[s]? =some o:=hs 0 o rfl;have hs':∀i o',os[i]? =some o'->ops[s+1+i]? =some o':=λi o' hi=>by have:=hs (i+1) o' (by simpa using hi);rw[show s+1+i=s+(i+1) by omega];exact this
  have hl':s+1+os.length=ops.size:=by rw[<-hl,cc];omega
  unfold pE at e;obtain⟨wt,tm1,e,sb,g⟩:=Sj e;have sub:Sub (jx tm1 (looks ops o) .nil) st.tm:=λt sv h=>sb _ _ (Vt t sv h);have pr:∀{R:Nat->Rc},qc ops s s R st.tm (jx tm1 (looks ops o) .nil):=λt sv h=>.inr ⟨λj h1 h2=>by omega,sub t sv h⟩;have lh:∀{R:Nat->Rc},zP s hL R s hL:=.inr ⟨λq h1 h2=>by omega,rfl⟩;cases wt with
  |false=>rw[aD] at e;have O:=xB OK PT os (s+1) hs' hl' _ _ _ _ K b e hp;refine O.cons ho (k:=0) (v:=.aH []) rfl sb (.inr ⟨by decide,rfl⟩) (.inr ⟨rfl,rfl⟩) (λx h=>.inl h) (λq=>by cases q) (by exact aM _) (λR m r1 r2 r3 _=>⟨_,ho,pr,yd,by rw[r1,r3];exact aM _,.inl ⟨by rw[r1],by rw[r1,r2],by rw[r1,r3],.inl ?_⟩⟩);rw[r1];intro B σ G F w a R s M K Q k;unfold wpOp;simp only[ho,g R,kB,gR];exact k σ undef w (Ext.refl _) P0 M
  |true=>
   rw[aC] at e;cases hq:qB o.op with
   |true=>
    rw[hq,aC] at e;cases hr:(WA tm1 o.op&&!yf ops ms s) with
    |true=>
     rw[hr,aC] at e;obtain⟨hB,e⟩:=aW e;obtain⟨sv,e,d⟩:=Mj OK PT hq e;have O:=xB OK PT os (s+1) hs' hl' _ _ _ _ K b e λx h=>(cX.1 h).elim (λq=>by subst q;exact⟨ho,g⟩) (hp x);refine O.cons ho (k:=0) (v:=sv) rfl sb (.inr ⟨by decide,rfl⟩) (.inr ⟨rfl,rfl⟩) (λx h=>.inl (lU _ h)) (λq=>by cases q) (by exact aM _)
      (λR m r1 r2 r3 pq=>⟨_,ho,pr,yd,by rw[r1,r3];exact aM _,.inl ⟨by rw[r1],by rw[r1,r2],by rw[r1,r3],.inr ⟨hL,lh,?_,.inr ⟨hB,λj h1 h2 h3 h4=>?_⟩⟩⟩⟩)
     ·rw[r1];exact MK ho g d
     ·rw[r1];exact pq _ (nr ..) j h1 h2 h3 h4
    |false=>
     rw[hr,aD] at e;obtain⟨sv,e,d⟩:=Mj OK PT hq e;have O:=xB OK PT os (s+1) hs' hl' _ _ _ _ K b e hp;refine O.cons ho (k:=0) (v:=sv) rfl sb (.inr ⟨by decide,rfl⟩) (.inr ⟨rfl,rfl⟩) (λx h=>.inl h) (λq=>by cases q) (by exact aM _)
      (λR m r1 r2 r3 pq=>⟨_,ho,pr,yd,by rw[r1,r3];exact aM _,.inl ⟨by rw[r1],by rw[r1,r2],by rw[r1,r3],?_⟩⟩)
     rw[r1];replace d:qd P ops s o (jx tm1 (looks ops o) .nil) sv (cond (yf ops ms s) hL .nil):=MK ho g d;cases hd:yf ops ms s with
     |true=>rw[hd] at d;exact .inr ⟨hL,lh,d,.inl rfl⟩
     |false=>rw[hd] at d;exact .inl d
   |false=>
    rw[hq,aD] at e;cases hm:sw o.op with
    |true=>
     rw[hm,aC] at e;obtain⟨sv,so,e,d⟩:=Nv OK e;have O:=xB OK PT os (s+1) hs' hl' _ _ _ _ K b e hp;refine O.cons ho (k:=1) (v:=sv) rfl sb (.inr ⟨by decide,rfl⟩) (.inl ⟨by decide,rfl⟩) (λx h=>.inl h) (λq=>by cases q) (by exact qb _)
      (λR m r1 r2 r3 pq=>⟨_,ho,pr,yd,by rw[r1,r3];exact qb _,.inr (.inl ⟨by rw[r1],hm,so,?_,by rw[r1,r2],by rw[r1,r3]⟩)⟩)
     rw[r1];intro σ a R;refine⟨g R,λw=>?_⟩;obtain⟨u,w',g1,g2,g3⟩:=d a R w;exact⟨u,w',g1,g2,λσ' c n E h=>by obtain⟨k1,k2,_⟩:=g3 σ' c n E h;exact⟨k1,k2⟩⟩
    |false=>
     rw[hm,aD] at e;obtain⟨hk,e⟩:=aW e;have hk:∀j∈ks,bit ms s j=true:=λj hj=>iE.1 hk j hj;obtain⟨q,sv,st',e,hx,ht,D⟩:=Mi OK PT e;have hx:st.sx<=st'.sx:=hx;cases q with
     |none=>
      have ht:st'.tm=kN (jx tm1 (looks ops o) .nil) o.dst sv:=by rcases ht with h|h;exact h.2;cases h.1
      obtain⟨e,pq⟩:=Mq OK PT e hp;have L:∀{p:Bool},p=false->I3 P ops s o (jx tm1 (looks ops o) .nil) sv st.h st.sx st'.h st'.sx p:=by
       rintro _ rfl B σ F w a R hF M K Q k
       unfold wpOp;simp only[ho,g R,ea];exact .inl (D a R hF M K Q k)
      have O:=xB OK PT os (s+1) hs' hl' _ _ _ _ K b e λx h=>hp x (Mr h);refine O.cons ho (k:=2) (v:=sv) (acM ht) sb (by exact .inl ⟨rfl,rfl⟩) (.inl ⟨by decide,rfl⟩) (λx h=>?_) (λ_=>by exact pq) (by exact hx)
       (λR m r1 r2 r3 _=>⟨_,ho,pr,yd,by rw[r1,r3];exact hx,.inr (.inr ⟨by rw[r1],?_,hq,hm,λj h1 h2=>by omega,hk⟩)⟩)
      ·rcases VI (ms:=ms) (s:=s) h with q|q
       ·exact .inr ⟨rfl,q⟩
       ·exact .inl q
      ·rw[r1,r2,r3];exact L rfl
     |some sv'=>
      obtain⟨rfl,_⟩:sv'=sv/\_:=by rcases ht with h|h;cases h.1;exact⟨jC h.1,h.2⟩
      obtain⟨ht,e⟩:=aW e;refine⟨λ_=>⟨0,.nl,st.h,st.sx⟩,s,some sv',_,e,aM _,by rw[<-hl,cc];omega,rfl,rfl,λi h1 h2=>by omega,λ_ _ j h1 h2=>by omega,o,_,ho,by rw[<-hl,cc];omega,pr,yd,?_,hx,ht,λj h1 h2=>by omega,hk,hq,hm,λt u hu=>?_⟩
      ·intro B σ F w a R hF M K Q k;unfold wpOp;simp only[ho,g R,ea];exact .inl (D a R hF M K Q k)
      ·obtain⟨h1,h2⟩:=Tv.1 hu;exact⟨h1,sb _ _ h2⟩
end
section
variable{β:Type}
theorem Mem.Ed{B:Bs}{σ:Ren}{G h:Nat->SO->Prop}{F:Nat->Prop}{w:Hx}(M:Mem B σ G F w)(s:∀id so,h id so->G id so):Mem (BE w (Own σ h) σ.lit) σ h F w:=
 have M1:=M.less s λ_ q=>q
 ⟨M1.obj,M1.inj,M1.fresh,M1.lit,M1.free,eS.refl _ _,λ_ q=>.inl q,λ_ _ _ q=>.inl q,λk hk=>(Nat.not_lt_zero k hk).elim,λ_ _ _ q=>q⟩
theorem Mem.frame{B:Bs}{σ σ':Ren}{G h h':Nat->SO->Prop}{F F':Nat->Prop}{w w':Hx}(M:Mem B σ G F w)(s:∀id so,h id so->G id so)(E:Ext σ σ')(M':Mem (BE w (Own σ h) σ.lit) σ' h' F' w'):
 Mem B σ' (λid so=>h' id so\/G id so/\∀so',¬h id so') F' w':=by
 have ow:∀b,Own σ h b->Own σ G b:=λb ⟨id,so,o,n,a,p,q⟩=>⟨id,so,o,n,s _ _ a,p,q⟩;have ow':∀{b},Own σ' h' b->Own σ G b\/w.heap.size<=b:=λq=>(M'.owned _ q).imp (ow _) λq=>q;have nmG:∀{id so o n},G id so->σ'.nm id=some (some o,n)->σ.nm id=some (some o,n):=by intro id so o n g q;rcases(M.obj id so g).nm with k|⟨_,_,k,_⟩<;>rw[E.nm _ _ k] at q<;>cases q;exact k
 have apart:∀{id so o n},G id so->(∀so',¬h id so')->σ'.nm id=some (some o,n)->o.1 <w.heap.size/\¬Own σ h o.1 :=by intro id so o n g q k;have k:=nmG g k;refine⟨M.lt g k,λ⟨id',so',o',n',a,p,r⟩=>?_⟩;have:=M.inj _ _ _ _ _ _ _ _ g (s _ _ a) k p r.symm;subst this;exact q _ a
 have far:∀{b id so o n},Own σ' h' b->G id so->(∀so',¬h id so')->σ'.nm id=some (some o,n)->b≠o.1 :=by
  rintro b id so o n q g k r rfl
  have:=apart g k r;rcases M'.owned _ q with z|z
  ·exact this.2 z
  ·exact Nat.not_le_of_lt this.1 z
 refine⟨λid so q=>?_,λi j so so' o o' n n' a a' b b' c=>?_,M'.fresh,M'.lit,λb i v q ⟨id,so,o,n,a,p,r⟩=>?_,M.base.trans (M'.base.wide ow) M.owned,λb ⟨id,so,o,n,a,p,r⟩=>?_,λb i v q=>?_,λk hk x hx=>E.nm _ _ (M.jU k hk x hx),λb i v q=>E.lit b i v (M.mW b i v q)⟩
 ·rcases q with q|⟨q,k⟩
  ·exact M'.obj id so q
  ·exact(M.obj id so q).mono E λo n r=>(have z:=apart q k (E.nm _ _ r);M'.base.block _ z.1 z.2)
 ·rcases a with a|⟨a,k⟩<;>rcases a' with a'|⟨a',k'⟩
  ·exact M'.inj _ _ _ _ _ _ _ _ a a' b b' c
  ·exact absurd c (far ⟨i,so,o,n,a,b,rfl⟩ a' k' b')
  ·exact absurd c.symm (far ⟨j,so',o',n',a',b',rfl⟩ a k b)
  ·exact M.inj _ _ _ _ _ _ _ _ a a' (nmG a b) (nmG a' b') c
 ·rcases a with a|⟨a,k⟩
  ·exact M'.free b i v q ⟨id,so,o,n,a,p,r⟩
  ·have z:=apart a k p;rw[r] at z;rcases M'.lP b i v q with y|y|y
   ·exact M.free b i v y ⟨id,so,o,n,a,nmG a p,r⟩
   ·exact z.2 y
   ·exact Nat.not_le_of_lt z.1 y
 ·rcases a with a|⟨a,k⟩
  ·rcases ow' ⟨id,so,o,n,a,p,r⟩ with q|q
   ·exact M.owned b q
   ·exact .inr (fE M.base.size q)
  ·exact M.owned b ⟨id,so,o,n,a,nmG a p,r⟩
 ·rcases M'.lP b i v q with y|y|y
  ·exact M.lP b i v y
  ·exact .inr (M.owned b (ow b y))
  ·exact .inr (.inr (fE M.base.size y))
theorem amz{P:Program}{ops:Array Oper}{i:Nat}{a:Act}{w:Hx}{G:Prop}(h:wpOp P ops (λ_ _ _=>False) i (λ_ _=>G) a w):G:=by
 unfold wpOp at h;split at h
 ·exact h
 split at h
 ·rcases h with h|⟨_,_,_,h⟩
  ·unfold Oper.wp Oper.upon at h;split at h
   ·exact h
   ·exact h
   ·exact h
   ·obtain⟨e,w',fr,r,_⟩:=h [];cases e with
    |returned v=>exact r
    |panicked c=>exact r.elim
    |outgrown=>obtain⟨_,_,r⟩:=r;exact r.elim
   ·obtain⟨v,w',r,_⟩:=h default [];exact r
   ·exact h.elim
   ·exact h.elim
  ·exact h.elim
 ·exact h
def GD(R:Nat->Rc)(D:Nat->Prop)(p m:Nat)(id:Nat)(so:SO):Prop:=(R p).h.get id=some so\/∃j,p<=j/\j<m/\D j/\(R j).k=1/\id=(R j).x/\(R (j+1)).h.get id=some so
def FD(R:Nat->Rc)(D:Nat->Prop)(m id:Nat):Prop:=(R 0).x<=id/\∀j,j<m->D j->id<(R j).x\/(R (j+1)).x<=id
structure Iv(B:Bs)(ops:Array Oper)(ms:List Nat)(R:Nat->Rc)(m:Nat)(tm0:Tr SV)(D:Nat->Prop)(p:Nat)(σ:Ren)(a:Act)(w:World):Prop where
 pm:p<=m
 pk:p=0\/∃q,p=q+1/\(R q).k=2
 lo:∀j,j<m->(R j).k=2->(D j↔j<p)
 T6:∀j,j<p->(R j).k=1->D j
 sub:∀j,D j->j<m
 cl:∀j l,D j->bit ms j l=true->D l
 size:a.tmps.size=B.n
 dQ:a.defers=B.dQ
 mem:Mem B σ (GD R D p m) (FD R D m) w
 val:∀j t,D j->jH ops j=some t->DV σ (R j).v (a.eval (.tmp t))
 rest:∀t sv,(∀j,D j->jH ops j≠some t)->tm0.get t=some sv->DV σ sv (a.eval (.tmp t))
structure xj(ops:Array Oper)(ms:List Nat)(n:Nat):Prop where
 lt:∀i j,i<ops.size->bit ms i j=true->j<i
 dn:∀i t,jH ops i=some t->t<n
 one:∀i j t,jH ops i=some t->jH ops j=some t->i=j
 look:∀i o t j,ops[i]? =some o->t∈looks ops o->jH ops j=some t->j=i\/bit ms i j=true\/bit ms j i=true
def Y8(ops:Array Oper)(ms:H1 Nat)(n:Nat):Bool:=
 cond (jo ops.size λi=>match jH ops i with
  |none=>true
  |some t=>cond (Nat.blt t n) (jo i λj=>!isDst ops j t) false)
  (jo ops.size λi=>match ops[i]? with
   |none=>true
   |some o=>(looks ops o).all λt=>jo ops.size λj=>cond (isDst ops j t) (Nat.beq j i||(bit ms i j||bit ms j i)) true)
  false
theorem Y6{ops:Array Oper}{ms:H1 Nat}{n:Nat}(lt:∀i j,i<ops.size->bit ms i j=true->j<i)(hs:Y8 ops ms n=true):xj ops ms n:=by
 obtain⟨s2,s3⟩:=nI hs;have dlt:∀{i t},jH ops i=some t->i<ops.size:=λh=>by unfold jH at h;obtain⟨o,h,_⟩:=Option.bind_eq_some_iff.1 h;exact(fw.1 h).1
 have d2:∀{i t},jH ops i=some t->t<n/\∀j,j<i->isDst ops j t=false:=λ{i t} h=>by have:=lY s2 i (dlt h);simp only[h] at this;obtain⟨h1,h2⟩:=nI this;exact⟨fb h1,λj hj=>by simpa using lY h2 j hj⟩
 have one:∀{i j t},jH ops i=some t->jH ops j=some t->¬j<i:=λh k q=>by have:=(d2 h).2 _ q;rw[S6.2 k] at this;cases this
 refine⟨lt,λi t h=>(d2 h).1,λi j t h k=>Nat.le_antisymm (Nat.not_lt.1 (one h k)) (Nat.not_lt.1 (one k h)),λi o t j ho ht h=>?_⟩;have:=lY s3 i (fw.1 ho).1;simp only[ho] at this;have:=lY (iE.1 this t ht) j (dlt h);rw[S6.2 h,aC] at this;simp only[sZ] at this;exact this.imp bT id
theorem al5{ops:Array Oper}{n:Nat}(hs:stat ops (pK ops.toList []) n=true):xj ops (pK ops.toList []) n:=
 Y6 (λi j hi h=>adz (Za hs) hi h) (nI hs).2
section
variable[QF] {P:Program} {ops:Array Oper} {ms:H1 Nat} {n m:Nat} (S:xj ops ms n) {B:Bs} (hn:B.n=n) {R:Nat->Rc} {tm0:Tr SV} (hm:m<=ops.size) (hf:∀i,i<m->∃o tm,Fact P ops ms 0 m tm0 (R 0).h [] R i o tm) {D:Nat->Prop} {p:Nat} {σ:Ren} {a:Act} {w:Hx} (I:Iv B ops ms R m tm0 D p σ a w) {i:Nat}
include S hm I in
theorem Iv.ev{o:Oper}{tm:Tr SV}(ho:ops[i]? =some o)(nd:¬D i)(hd:∀j,bit ms i j=true->D j)(pr:qc ops 0 i R tm0 tm)(on:Dh ops o tm):Ev σ tm a:=λt sv h=>by
 have ht:=on t sv h;have hi:=(fw.1 ho).1;rcases pr t sv h with⟨j,_,h1,h2,rfl⟩|⟨h1,h2⟩
 ·refine I.val j t ?_ h2;rcases S.look i o t j ho ht h2 with q|q|q
  ·omega
  ·exact hd j q
  ·have:=S.lt j i (by omega) q;omega
 ·refine I.rest t sv (λj dj q=>?_) h2;rcases S.look i o t j ho ht q with e|e|e
  ·subst e;exact nd dj
  ·exact h1 j (gU _) (S.lt i j hi e) q
  ·exact nd (I.cl j i dj e)
include hf in
theorem qV:∀{j:Nat},i<=j->j<=m->(R i).x<=(R j).x:=by
 intro j h;induction h with
 |refl=>exactλ_=>aM _
 |step h ih=>intro hj;obtain⟨o,tm,f⟩:=hf _ hj;exact fE (ih (Nat.le_of_lt hj)) f.le
include hf I in
theorem Iv.Iz(hi:i<=m)(hd:∀j,j<i->(R j).k≠0->D j):∀{q:Nat},p<=q->q<=i->∀id so,(R q).h.get id=some so->GD R D p m id so:=by
 intro q hq;induction hq with
 |refl=>exactλ_ id so h=>.inl h
 |@step q hq ih=>
  intro qi id so h;have ih:=ih (Nat.le_of_lt qi);obtain⟨o,tm,f⟩:=hf q (o9 qi hi);rcases f.kind with⟨_,e,_⟩|⟨k1,_,so0,_,e,_⟩|⟨k2,_⟩
  ·rw[e] at h;exact ih id so h
  ·by_cases c:id=(R q).x
   ·exact .inr ⟨q,hq,o9 qi hi,hd q qi (by rw[k1];decide),k1,c,h⟩
   ·rw[e,Tr.fN,aq c] at h;exact ih id so h
  ·have:=(I.lo q (o9 qi hi) k2).1 (hd q qi (by rw[k2];decide));exact absurd hq (Nat.not_le_of_lt this)
include S hn hm hf I in
theorem Iv.step(hi:i<m)(nd:¬D i)(hd:∀j,bit ms i j=true->D j)(dj:∀j,i<j->D j->(R j).k=1->(R i).h.get (R j).x=none){K:Act->Hx->Prop}{Q:Exit->Act->Hx->Prop}(k:∀p' σ' a' w',Iv B ops ms R m tm0 (λx=>D x\/x=i) p' σ' a' w'->K a' w'):wpOp P ops Q i K a w:=by
 obtain⟨o,tm,f⟩:=hf i hi;have ho:=f.op;have di:jH ops i=o.dst:=by simp[jH,ho]
 have ev:=I.ev S hm ho nd hd f.VV f.only;have hsz:i<ops.size:=o9 hi hm;have fin:∀{p' σ' u w'},p'<=m->(p'=0\/∃q,p'=q+1/\(R q).k=2)->(∀j,j<m->(R j).k=2->(D j\/j=i↔j<p'))->(∀j,j<p'->(R j).k=1->D j\/j=i)->Ext σ σ'->DV σ' (R i).v u->Mem B σ' (GD R (λx=>D x\/x=i) p' m) (FD R (λx=>D x\/x=i) m) w'->K (a.put o.dst u) w':=by
  intro p' σ' u w' h1 h2 h3 h4 E dv M;have ep:∀{t},(a.put o.dst u).eval (.tmp t)=if o.dst=some t then u else a.eval (.tmp t):=eval_put λk hk=>by rw[I.size,hn];exact S.dn i k (di.trans hk)
  refine k p' σ' _ w' ⟨h1,h2,h3,h4,λj hj=>hj.elim (I.sub j) λq=>q▸hi,λj l hj hl=>.inl (hj.elim (λq=>I.cl j l q hl) λq=>hd l (q▸hl)),by cases o.dst<;>simp[Act.put,I.size],by cases o.dst<;>exact I.dQ,M,λj t hj ht=>?_,λt sv h1 h2=>?_⟩
  ·rw[ep];by_cases c:o.dst=some t
   ·rw[ay c];have:=S.one i j t (di.trans c) ht;subst this;exact dv
   ·rw[aq c];rcases hj with q|q
    ·exact(I.val j t q ht).mono E
    ·subst q;exact absurd (di.symm.trans ht) c
  ·rw[ep,aq (by rw[<-di];exact h1 i (.inr rfl))];exact(I.rest t sv (λj hj=>h1 j (.inl hj)) h2).mono E
 have ids:(R i).x<=(R (i+1)).x->∀id,(R i).x<=id->id<(R (i+1)).x->FD R D m id:=λ_ id h1 h2=>⟨fE (qV hf (gU _) (Nat.le_of_lt hi)) h1,λj hj dd=>by
  rcases Nat.lt_trichotomy j i with q|q|q
  ·exact .inr (fE (qV hf q (Nat.le_of_lt hi)) h1)
  ·subst q;exact absurd dd nd
  ·exact .inl (o9 h2 (qV hf q (Nat.le_of_lt hj)))⟩
 have FS:∀id,FD R (λx=>D x\/x=i) m id->FD R D m id:=λid h=>⟨h.1,λj hj dj=>h.2 j hj (.inl dj)⟩;have cut:∀id,FD R (λx=>D x\/x=i) m id->mf (FD R D m) (R i).x (R (i+1)).x id:=λid h=>⟨FS id h,λq=>by have:=h.2 i hi (.inr rfl);omega⟩;have lo0:(R i).k≠2->∀j,j<m->(R j).k=2->(D j\/j=i↔j<p):=λc j hj hk=>(or_iff_left λq:j=i=>c (by rw[<-q];exact hk)).trans (I.lo j hj hk);rcases f.kind with⟨k0,eh,ex,q⟩|⟨k1,_,so,mk,eh,ex⟩|⟨k2,L,_,_,b1,_⟩
 ·have use:∀{h:Tr SO},(∀id so,h.get id=some so->GD R D p m id so)->qd P ops i o tm (R i).v h->wpOp P ops Q i K a w:=λs q=>q a ev s I.mem K Q λσ' u w' E dv M=>
   fin I.pm I.pk (lo0 (by rw[k0];decide)) (λj h1 h2=>.inl (I.T6 j h1 h2)) E dv (M.less (λid so h=>h.imp_right λ⟨j,h1,h2,h3,h4,h5⟩=>⟨j,h1,h2,h3.resolve_right (λc=>by rw[c,k0] at h4;cases h4),h4,h5⟩) FS)
  rcases q with q|⟨h,lh,q,ord⟩
  ·exact use (λid so h=>(pL h).elim) q
  have lq:∀{j},j<m->(R j).k=2->∃o,ops[j]? =some o/\qB o.op=false/\sw o.op=false:=λhj hk=>by
   obtain⟨o,tm,f⟩:=hf _ hj;rcases f.kind with⟨c,_⟩|⟨c,_⟩|⟨_,_,c1,c2,_⟩
   ·rw[hk] at c;cases c
   ·rw[hk] at c;cases c
   ·exact⟨o,f.op,c1,c2⟩
  have bef:∀{j},j<i->(R j).k=2->D j:=λ{j} hj hk=>by
   obtain⟨o',h1,h2,h3⟩:=lq (Nat.lt_trans hj hi) hk;rcases ord with ord|⟨ord,_⟩
   ·have:=lY ord j (Nat.lt_trans hj hsz);simp only[h1,h2,h3,zJ,sZ] at this;rcases this with c|c
    ·exact hd j c
    ·have:=S.lt j i (Nat.lt_trans hj hsz) c;omega
   ·have:=lY ord j hj;simp only[h1,h2,h3,zJ] at this;exact hd j this
  have bef':∀{j},j<i->(R j).k=2->j<p:=λhj hk=>(I.lo _ (Nat.lt_trans hj hi) hk).1 (bef hj hk);have same:p<=i->h=(R p).h:=λhpi=>by
   rcases I.pk with p0|⟨q',p0,kq⟩<;>rcases lh with⟨q,_,l2,l3,l4,l5⟩|⟨l1,l2⟩
   ·have:=bef' l2 l3;omega
   ·rw[l2,p0]
   ·have:=bef' l2 l3;have:¬q<q':=λc=>l4 q' c (by omega) kq;rw[l5,p0,show q=q' by omega]
   ·exact absurd kq (l1 q' (gU _) (by omega))
  by_cases hpi:p<=i
  ·exact use (λid so g=>.inl (same hpi▸g)) q
  ·rcases I.pk with p0|⟨q',p0,kq⟩
   ·omega
   ·have dq:=(I.lo q' (by have:=I.pm;omega) kq).2 (by omega);have ne:q'≠i:=λc=>nd (c▸dq);rcases ord with ord|⟨_,ord⟩
    ·obtain⟨o',h1,h2,h3⟩:=lq (by have:=I.pm;omega) kq;have:=lY ord q' (o9 (I.sub _ dq) hm);simp only[h1,h2,h3,zJ,sZ] at this;rcases this with c|c
     ·have:=S.lt i q' hsz c;omega
     ·exact absurd (I.cl q' i dq c) nd
    ·refine use (λid so g=>.inl (by rw[p0];exact g)) (ord q' (by omega) (I.sub _ dq) kq λl l1 l2 l3=>?_);cases c:bit ms l i with
     |false=>rfl
     |true=>exact absurd (I.cl l i ((I.lo l (by have:=I.sub _ dq;omega) l3).2 (by omega)) c) nd
 ·obtain⟨g1,g2⟩:=mk a ev;obtain⟨u,w',r1,r2,r3⟩:=g2 w;have hF:=ids f.le (R i).x (aM _) (by omega);have ns:∀id so,hG .nil id so->GD R D p m id so:=λid so h=>(pL h).elim;have E0:Ext σ (σ.add (R i).x (some (w.heap.size,0),0)):=Ren.zV (I.mem.fresh _ hF);obtain⟨dv,d⟩:=r3 _ 0 0 E0 (Ren.jE _ _ _);obtain⟨E,M⟩:=(I.mem.Ed ns).new hF r2 d;have M:=I.mem.frame ns E M;unfold wpOp;simp only[ho,g1,ea];refine .inl (rM r1 (fin I.pm I.pk (lo0 (by rw[k1];decide)) (λj h1 h2=>.inl (I.T6 j h1 h2)) E dv (M.less (λid so h=>?_) λid h=>?_)))
  ·rcases h with h|⟨j,h1,h2,h3,h4,h5,h6⟩
   ·exact .inr ⟨.inl h,λ_=>pL⟩
   ·rcases h3 with h3|h3
    ·exact .inr ⟨.inr ⟨j,h1,h2,h3,h4,h5,h6⟩,λ_=>pL⟩
    ·subst h3;rw[eh,Tr.fN,ay h5] at h6;exact .inl (by simp only[hG,Tr.fN,ay h5];exact h6)
  ·have:=cut id h;rwa[ex] at this
 ·have dn:∀j,j<i->(R j).k≠0->D j:=λj hj hk=>hd j (b1 j (gU _) hj hk);have hpi:p<=i:=Nat.not_lt.1 λc=>nd ((I.lo i hi k2).2 c);have hs:=I.Iz hf (Nat.le_of_lt hi) dn hpi (aM _);refine L a ev (ids f.le) (I.mem.Ed hs) K Q λσ' u w' E dv M=>?_;have M:=I.mem.frame hs E M;refine fin hi (.inr ⟨i,rfl,k2⟩) (λj hj hk=>⟨λc=>?_,λc=>?_⟩) (λj hj hk=>?_) E dv (M.less (λid so h=>?_) cut)
  ·rcases c with c|c
   ·have:=(I.lo j hj hk).1 c;omega
   ·omega
  ·rcases Nat.lt_succ_iff_lt_or_eq.1 c with c|c
   ·exact .inl (dn j c (by rw[hk];decide))
   ·exact .inr c
  ·rcases Nat.lt_succ_iff_lt_or_eq.1 hj with c|c
   ·exact .inl (dn j c (by rw[hk];decide))
   ·exact .inr c
  ·rcases h with h|⟨j,h1,h2,h3,h4,h5,h6⟩
   ·exact .inl h
   ·have h3:=h3.resolve_right (by omega);refine .inr ⟨.inr ⟨j,by omega,h2,h3,h4,h5,h6⟩,λso' c=>?_⟩;have:=dj j h1 h3 h4;rw[h5] at c;rw[show(R i).h.get (R j).x=some so' from c] at this;cases this
end
end
section
variable{β:Type} [QF]
section
variable{P:Program} {ops:Array Oper} {ms:H1 Nat} {n m:Nat} (S:xj ops ms n) {B:Bs} (hn:B.n=n) {R:Nat->Rc} {tm0:Tr SV} (hm:m<=ops.size) (hf:∀i,i<m->∃o tm,Fact P ops ms 0 m tm0 (R 0).h [] R i o tm) {q:Zh SV} {gu:St} (hq:Fin P ops ms 0 ops.size m tm0 [] R q gu)
 (hb:∀i,i<=m->∀id so,(R i).h.get id=some so->id<(R i).x)
include S hn hm hf hq hb
theorem Ty{Q:Exit->Act->Hx->Prop}(ps:uR B q gu Q):∀(l:H1 Nat){D:Nat->Prop}{p:Nat}{σ:Ren}{a:Act}{w:Hx},rT ops.size (λi j=>bit ms i j=true) D l->Iv B ops ms R m tm0 D p σ a w->wpOps P ops Q l a w
 |[],D,p,σ,a,w,L,I=>by
  have L:∀i,i<ops.size->D i:=L;cases q with
  |none=>
   obtain⟨h1,h2,h3,h4⟩:=hq;refine ps σ a w ⟨I.size,I.dQ,λt sv h=>?_,I.mem.less (λid so h=>?_) λid h=>⟨fE (qV hf (gU _) (aM _)) (by rw[<-h3];exact h),λj hj _=>.inr (fE (qV hf hj (aM _)) (by rw[<-h3];exact h))⟩⟩
   ·rcases h4 t sv h with⟨j,_,c1,c2,rfl⟩|⟨c1,c2⟩
    ·exact I.val j t (L j (by omega)) c2
    ·exact I.rest t sv (λj dj=>c1 j (gU _) (I.sub j dj)) c2
   ·rw[h2] at h;exact I.Iz hf (aM _) (λj hj _=>L j (by omega)) I.pm (aM _) id so h
  |some sv=>obtain⟨o,tm,h1,h2,_⟩:=hq;exact absurd (I.sub m (L m h2)) (Nat.lt_irrefl _)
 |i::l,D,p,σ,a,w,L,I=>by
  obtain⟨hi,nd,hd,L⟩:=L;have hd:∀j,bit ms i j=true->D j:=hd;rw[wpOps_cons];rcases Nat.lt_trichotomy i m with c|c|c
  ·refine I.step S hn hm hf c nd hd (λj hj dj _=>?_) λp' σ' a' w' I'=>Ty ps l L I';cases h:(R i).h.get (R j).x with
   |none=>rfl
   |some so=>have:=hb i (Nat.le_of_lt c) _ _ h;have:=qV hf (Nat.le_of_lt hj) (Nat.le_of_lt (I.sub j dj));omega
  ·subst c;cases q with
   |none=>obtain⟨h1,_⟩:=hq;omega
   |some sv=>obtain⟨o,tm,ho,_,pr,on,L,hx,_,b1,_,_,_,tl⟩:=hq;have hs:=I.Iz hf (aM _) (λj hj hk=>hd j (b1 j (gU _) hj hk)) I.pm (aM _);have lo:∀id,(R i).x<=id->∀j,j<i->D j->id<(R j).x\/(R (j+1)).x<=id:=λid h j hj _=>.inr (fE (qV hf hj (aM _)) h);have z:=qV hf (gU i) (aM _);refine L a (I.ev S hm ho nd hd pr on) (λid h _=>⟨fE z h,lo id h⟩) (I.mem.Ed hs) _ Q λσ' u w' E dv M=>?_;refine ps σ' a w' ⟨I.size,I.dQ,λt sv h=>?_,(I.mem.frame hs E M).less (λid so h=>.inl h) λid h=>⟨⟨by omega,lo id (fE hx h)⟩,λq=>by omega⟩⟩ u dv;obtain⟨c1,c2⟩:=tl t sv h;refine(I.rest t sv (λj dj c=>?_) c2).mono E;obtain⟨o',e1,e2⟩:=Option.bind_eq_some_iff.1 c;exact c1 o' (Array.mem_toList_iff.2 (Array.mem_of_getElem? e1)) e2
  ·cases q with
   |none=>obtain⟨h1,_⟩:=hq;omega
   |some sv=>obtain⟨o,tm,_,_,_,_,_,_,tl,_⟩:=hq;have:=lY tl i hi;rw[show Nat.ble i m=false from Bool.eq_false_iff.2 λh=>by have:=dW h;omega,aD] at this;exact absurd (I.sub m (hd m this)) (Nat.lt_irrefl _)
end
theorem Rh{P:Program}{X:eC}(OK:iP P X){pt:FuncId->Zh (cD β)}(PT:nD P pt){ops:Array Oper}{ms:H1 Nat}{n:Nat}(S:xj ops ms n){st:St}{K:Zh SV->St->Zh β}{b:β}(e:pE X pt ops ms ops.toList 0 st st.h [] [] K=some b):
 ∃q st',K q st'=some b/\∀{B:Bs}{σ:Ren}{a:Act}{w:Hx},B.n=n->dK B σ st a w->∀Q,uR B q st' Q->∀l,rT ops.size (λi j=>bit ms i j=true) (λ_=>False) l->wpOps P ops Q l a {w with drawn:=w.drawn+1}:=by
 obtain⟨R,m,q,gu,h1,_,hm,h4,h5,hf,_,hq⟩:=xB OK PT ops.toList 0 (λi o h=>by simpa using h) (by simp) st st.h [] [] K b e λ_ h=>by cases h
 rw[<-h4] at hf;refine⟨q,gu,h1,λ{B σ a w} hn r Q ps l hl=>?_⟩;have hf:∀i,i<m->∃o tm,Fact P ops ms 0 m st.tm (R 0).h [] R i o tm:=λi hi=>hf i (gU _) hi;have I0:Iv B ops ms R m st.tm (λ_=>False) 0 σ a {w with drawn:=w.drawn+1}:=
  ⟨gU _,.inl rfl,λj _ _=>⟨False.elim,λh=>by omega⟩,λj h=>by omega,λj h=>h.elim,λj l h=>h.elim,r.size,r.dQ,
   (r.mem.same (w':={w with drawn:=w.drawn+1}) ⟨rfl,rfl,rfl,aM _,λ_ _ _=>rfl⟩).less (G':=GD R (λ_=>False) 0 m) (F':=FD R (λ_=>False) m) (λid so h=>by
    rcases h with h|⟨j,_,_,h,_⟩
    ·rw[h4] at h;exact h
    ·exact h.elim) λid h=>by have:=h.1;rw[h5] at this;exact this,λj t h=>h.elim,λt sv _ h=>r.ev t sv h⟩
 have seq:∀i,i<=m->∃p σ a w,Iv B ops ms R m st.tm (λj=>j<i) p σ a w:=by
  intro i;induction i with
  |zero=>exactλ_=>⟨_,_,_,_,by simpa using I0⟩
  |succ i ih=>intro hi;obtain⟨p,σ,a,w,I⟩:=ih (Nat.le_of_lt hi);refine amz (I.step S hn hm hf hi (Nat.lt_irrefl _) (λj h=>S.lt i j (o9 hi hm) h) (λj h1 h2=>by omega) λp' σ' a' w' I'=>⟨p',σ',a',w',?_⟩);have:(λx=>x<i\/x=i)=λx=>x<i+1:=funext λx=>propext (by omega);rwa[this] at I'
 refine Ty S hn hm hf hq (λi hi id so h=>Nat.not_le.1 λc=>?_) ps _ hl I0;obtain⟨p,σ,a,w,I⟩:=seq i hi;have hd:=I.mem.obj id so (I.Iz hf hi (λj hj _=>hj) (Nat.not_lt.1 λc=>by
  rcases I.pk with q|⟨q,q1,q2⟩
  ·omega
  ·have:=(I.lo q (by have:=I.pm;omega) q2).2 (by omega);omega) (aM _) id so h)
 have:=I.mem.fresh id ⟨fE (qV hf (gU _) hi) c,λj _ hj=>.inr (fE (qV hf hj hi) c)⟩;rcases hd.nm with k|⟨_,_,k,_⟩<;>rw[this] at k<;>cases k
theorem aa3{P:Program}{X:eC}(OK:iP P X){pt:FuncId->Zh (cD β)}(PT:nD P pt)(mx:P.follows .mixedOrders=true){ops:Array Oper}{n id:Nat}(hs:stat ops (pK ops.toList []) n=true){st:St}{K:Zh SV->St->Zh β}{b:β}(e:pE X pt ops (pK ops.toList []) ops.toList 0 st st.h [] [] K=some b):
 ∃q st',K q st'=some b/\∀{B:Bs}{σ:Ren}{a:Act}{w:Hx},B.n=n->dK B σ st a w->∀Q,uR B q st' Q->(Code.region id ops true).wp P Q a w:=by
 obtain⟨q,st',h,g⟩:=Rh OK PT (al5 hs) e;exact⟨q,st',h,λhn r Q ps=>wp_region_draw λt=>g hn r Q ps _ (Tz mx (Za hs) t)⟩
def acu(ops:Array Oper)(i:Nat):Bool:=match ops[i]? with
 |some o=>sw o.op
 |none=>false
def A3(i:Nat):H1 Nat->Bool
 |[]=>false
 |x::l=>cond (Nat.beq i x) true (A3 i l)
def S9(ops:Array Oper)(i:Nat):Bool:=match ops[i]? with
 |some o=>qB o.op
 |none=>false
def Lr(ms:H1 Nat)(i:Nat)(acc:H1 Nat):Nat->Bool
 |0=>true
 |n+1=>cond (bit ms i n) (cond (A3 n acc) (Lr ms i acc n) false) (Lr ms i acc n)
def V8(ops:Array Oper)(ms:H1 Nat)(acc:H1 Nat):Nat->H1 Nat
 |0=>acc
 |n+1=>(λa=>cond (S9 ops n&&!A3 n a&&Lr ms n a n) (a++[n]) a) (V8 ops ms acc n)
def Qv(ms:H1 Nat)(i:Nat)(acc:H1 Nat):Nat->H1 Nat
 |0=>acc
 |n+1=>(λa=>cond (bit ms i n&&!A3 n a) (a++[n]) a) (Qv ms i acc n)
def Vz(ops:Array Oper)(ms:H1 Nat):Nat->H1 Nat
 |0=>[]
 |n+1=>(λa=>cond (acu ops n||S9 ops n) a (Qv ms n (V8 ops ms a ops.size) n++[n])) (Vz ops ms n)
def WL(acc:H1 Nat):Nat->H1 Nat
 |0=>acc
 |n+1=>(λa=>cond (A3 n a) a (a++[n])) (WL acc n)
def ye(ops:Array Oper)(ms:H1 Nat):H1 Nat:=WL (Vz ops ms ops.size) ops.size
def sn(i:Nat):H1 Nat->Nat
 |[]=>0
 |x::l=>cond (Nat.beq i x) 0 (sn i l+1)
def qx(ops:Array Oper)(ps:H1 Nat):Array Oper:=(ps.map λi=>ops.getD i default).toArray
def Mx(ms ps:H1 Nat)(i:Nat):Nat->Nat
 |0=>0
 |n+1=>cond (bit ms i (ps.getD n 0)) (Nat.lor (Nat.shiftLeft 1 n) (Mx ms ps i n)) (Mx ms ps i n)
def My(ms ps:H1 Nat):Nat->H1 Nat
 |0=>[]
 |n+1=>My ms ps n++[Mx ms ps (ps.getD n 0) n]
def Y9(ops ops':Array Oper)(ms ms' ps:H1 Nat)(n:Nat):Bool:=
 cond (jo ops.size λi=>(pF ops i).all λb=>Nat.blt b i)
  (cond (Nat.beq ps.length ops.size)
   (cond (jo ops.size λi=>cond (Nat.blt (ps.getD i 0) ops.size) (cond (Nat.blt (sn i ps) ops.size) (cond (Nat.beq (ps.getD (sn i ps) 0) i) (Nat.beq (sn (ps.getD i 0) ps) i) false) false) false)
    (cond (jo ops.size λi=>match(ops.getD i default).guard with
     |none=>true
     |some _=>false)
     (cond (jo ops.size λi=>cond (Nat.blt (ms'.getD i 0) (Nat.pow 2 i)) (jo ops.size λj=>cond (bit ms' i j) (bit ms (ps.getD i 0) (ps.getD j 0)) true) false)
      (Y8 ops' ms' n) false) false) false) false) false
theorem VJ{N:Nat}{A A':Nat->Nat->Prop}{p q:Nat->Nat}(hp:∀i,i<N->p i<N)(hq:∀i,i<N->q i<N)(pq:∀i,i<N->p (q i)=i)(qp:∀i,i<N->q (p i)=i)(lt:∀i j,i<N->A' i j->j<N)(hA:∀i j,i<N->j<N->A' i j->A (p i) (p j)):∀(l:H1 Nat)(D D':Nat->Prop),(∀x,x<N->(D' x↔D (p x)))->rT N A D l->rT N A' D' (l.map q)
 |[],D,D',h,L=>λi hi=>(h i hi).2 (L _ (hp i hi))
 |i::l,D,D',h,⟨hi,nd,hd,L⟩=>by
  refine⟨hq i hi,λc=>nd ?_,λj hj=>?_,VJ hp hq pq qp lt hA l _ _ (λx hx=>?_) L⟩
  ·have:=(h _ (hq i hi)).1 c;rwa[pq i hi] at this
  ·have lj:=lt _ _ (hq i hi) hj;have:=hA _ _ (hq i hi) lj hj;rw[pq i hi] at this;exact(h j lj).2 (hd _ this)
  ·rw[h x hx];refine or_congr Iff.rfl ⟨λe=>?_,λe=>?_⟩
   ·rw[e,pq i hi]
   ·rw[<-e,qp x hx]
theorem Tx{N:Nat}{A:Nat->Nat->Prop}:∀{l:H1 Nat}{D:Nat->Prop},rT N A D l->∀i∈l,i<N
 |j::l,D,⟨hj,_,_,L⟩,i,h=>by
  rcases cX.1 h with rfl|h
  ·exact hj
  ·exact Tx L i h
theorem VK{P:Program}{ops ops':Array Oper}{Q:Exit->Act->Hx->Prop}{q:Nat->Nat}(H:∀i,i<ops.size->ops'[q i]? =ops[i]?)(ng:∀(i:Nat)(o:Oper),ops[i]? =some o->o.guard=none):∀(l:H1 Nat),(∀i∈l,i<ops.size)->wpOps P ops Q l=wpOps P ops' Q (l.map q)
 |[],_=>rfl
 |i::l,h=>by
  have ih:=VK (P:=P) (Q:=Q) H ng l λj hj=>h j (lU _ hj)
  funext a w
  rw[ij,wpOps_cons,wpOps_cons,<-ih];unfold wpOp;rw[H i (h i nr)];cases ho:ops[i]? with
  |none=>rfl
  |some o=>simp only[Region.wanted,ng i o ho]
theorem aa2{P:Program}{X:eC}(OK:iP P X){pt:FuncId->Zh (cD β)}(PT:nD P pt)(mx:P.follows .mixedOrders=true){ops:Array Oper}{ms' ps:H1 Nat}{n id:Nat}(hs:Y9 ops (qx ops ps) (pK ops.toList []) ms' ps n=true){st:St}{K:Zh SV->St->Zh β}{b:β}(e:pE X pt (qx ops ps) ms' (qx ops ps).toList 0 st st.h [] [] K=some b):
 ∃q st',K q st'=some b/\∀{B:Bs}{σ:Ren}{a:Act}{w:Hx},B.n=n->dK B σ st a w->∀Q,uR B q st' Q->(Code.region id ops true).wp P Q a w:=by
 obtain⟨h1,hs⟩:=nI hs;obtain⟨h2,hs⟩:=nI hs;obtain⟨h3,hs⟩:=nI hs;obtain⟨h4,hs⟩:=nI hs;obtain⟨h5,hs⟩:=nI hs;have B:Ae ops:=λi hi b hb=>fb (iE.1 (lY h1 i hi) b hb);have hl:ps.length=ops.size:=bT h2;have hz:(qx ops ps).size=ops.size:=by simp[qx,hl]
 have pr:∀i,i<ops.size->ps.getD i 0<ops.size/\sn i ps<ops.size/\ps.getD (sn i ps) 0=i/\sn (ps.getD i 0) ps=i:=λi hi=>by obtain⟨a,h⟩:=nI (lY h3 i hi);obtain⟨b,h⟩:=nI h;obtain⟨c,d⟩:=nI h;exact⟨fb a,fb b,bT c,bT d⟩
 have mt:∀i j,i<ops.size->bit ms' i j=true->j<i:=λi j hi h=>by have:=fb (nI (lY h5 i hi)).1;refine Nat.not_le.1 λc=>?_;have:=Nat.testBit_lt_two_pow (o9 this (Nat.pow_le_pow_right (by omega) c));unfold bit at h;rw[this] at h;cases h
 have mi:∀i j,i<ops.size->j<ops.size->bit ms' i j=true->bit (pK ops.toList []) (ps.getD i 0) (ps.getD j 0)=true:=λi j hi hj h=>by have:=lY (nI (lY h5 i hi)).2 j hj;rwa[h] at this
 have S:xj (qx ops ps) ms' n:=Y6 (λi j hi h=>mt i j (by rwa[hz] at hi) h) hs;obtain⟨q,st',h,g⟩:=Rh OK PT S e;refine⟨q,st',h,λhn r Q k=>wp_region_draw λt=>?_⟩;have L:=Tz mx B t;rw[VK (q:=λi=>sn i ps) (ops':=qx ops ps) (λi hi=>?_) (λi o ho=>?_) _ (Tx L)]
 ·refine g hn r Q k _ ?_;rw[hz];exact VJ (p:=λi=>ps.getD i 0) (λi hi=>(pr i hi).1) (λi hi=>(pr i hi).2.1) (λi hi=>(pr i hi).2.2.1) (λi hi=>(pr i hi).2.2.2) (λi j hi h=>Nat.lt_trans (mt i j hi h) hi) (λi j hi hj h=>mi i j hi hj h) _ _ _ (λ_ _=>Iff.rfl) L
 ·obtain⟨_,a,b,_⟩:=pr i hi;rw[wW,cw (by omega)] at b;simp only[qx,List.getElem?_toArray,List.getElem?_map];rw[cw (by omega),rR,show ps[sn i ps]=i from b];simp[hi]
 ·have hi:=(fw.1 ho).1;have:=lY h4 i hi;have e0:ops.getD i default=o:=by simp[qJ,ho]
  simp only[e0] at this;cases hg:o.guard with
  |none=>rfl
  |some x=>rw[hg] at this;cases this
noncomputable def Ri(p:Bool)(X:eC)(pt:FuncId->Zh (cD β))(n:Nat)(ops:Array Oper)(ms:H1 Nat)(st:St)(K:Zh SV->St->Zh β):Zh β:=
 cond p (cond (Y9 ops (qx ops (ye ops ms)) ms (My ms (ye ops ms) ops.size) (ye ops ms) n) (pE X pt (qx ops (ye ops ms)) (My ms (ye ops ms) ops.size) (qx ops (ye ops ms)).toList 0 st st.h [] [] K) (bC 70))
  (cond (stat ops ms n) (pE X pt ops ms ops.toList 0 st st.h [] [] K) (bC 70))
theorem aa8{P:Program}{X:eC}(OK:iP P X){pt:FuncId->Zh (cD β)}(PT:nD P pt)(mx:P.follows .mixedOrders=true){p:Bool}{ops:Array Oper}{n id:Nat}{st:St}{K:Zh SV->St->Zh β}{b:β}(e:Ri p X pt n ops (pK ops.toList []) st K=some b):
 ∃q st',K q st'=some b/\∀{B:Bs}{σ:Ren}{a:Act}{w:Hx},B.n=n->dK B σ st a w->∀Q,uR B q st' Q->(Code.region id ops true).wp P Q a w:=by
 cases p with
 |true=>obtain⟨hs,e⟩:=aW e;exact aa2 OK PT mx hs e
 |false=>obtain⟨hs,e⟩:=aW e;exact aa3 OK PT mx hs e
end
section
variable{β:Type}
inductive LK where
 |i|b|s|v|c|n
inductive bq where
 |i (x:Int)|b (x:Bool)|s (x:ByteArray)|v (x:Value)|c (x:List Value)|n (x:Nat)
def Fn:H1 LK->Type->Type
 |[],α=>α
 | .i::ks,α=>Int->Fn ks α
 | .b::ks,α=>Bool->Fn ks α
 | .s::ks,α=>ByteArray->Fn ks α
 | .v::ks,α=>Qu->Fn ks α
 | .c::ks,α=>H1 Qu->Fn ks α
 | .n::ks,α=>Nat->Fn ks α
def iI:(ks:H1 LK)->Fn ks (Zh β)->H1 bq->Zh β
 |[],f,[]=>f
 | .i::ks,f,.i x::ls=>iI ks (f x) ls
 | .b::ks,f,.b x::ls=>iI ks (f x) ls
 | .s::ks,f,.s x::ls=>iI ks (f x) ls
 | .v::ks,f,.v x::ls=>iI ks (f x) ls
 | .c::ks,f,.c x::ls=>iI ks (f x) ls
 | .n::ks,f,.n x::ls=>iI ks (f x) ls
 |_,_,_=>none
def mc:(ks:H1 LK)->(H1 bq->Zh β)->Fn ks (Zh β)
 |[],F=>F []
 | .i::ks,F=>λx=>mc ks λls=>F (.i x::ls)
 | .b::ks,F=>λx=>mc ks λls=>F (.b x::ls)
 | .s::ks,F=>λx=>mc ks λls=>F (.s x::ls)
 | .v::ks,F=>λx=>mc ks λls=>F (.v x::ls)
 | .c::ks,F=>λx=>mc ks λls=>F (.c x::ls)
 | .n::ks,F=>λx=>mc ks λls=>F (.n x::ls)
def iZ:(ks:H1 LK)->Fn ks (Zh β)
 |[]=>(none:Zh β)
 | .i::ks=>λ_=>iZ ks
 | .b::ks=>λ_=>iZ ks
 | .s::ks=>λ_=>iZ ks
 | .v::ks=>λ_=>iZ ks
 | .c::ks=>λ_=>iZ ks
 | .n::ks=>λ_=>iZ ks
theorem nG:∀(ks:H1 LK)(F:H1 bq->Zh β)(ls:H1 bq)(b:β),iI ks (mc ks F) ls=some b->F ls=some b
 |[],F,[],b,e=>e
 |[],F,_::_,b,e=>by cases e
 | .i::ks,F,.i x::ls,b,e=>nG ks (λls=>F (.i x::ls)) ls b e
 | .b::ks,F,.b x::ls,b,e=>nG ks (λls=>F (.b x::ls)) ls b e
 | .s::ks,F,.s x::ls,b,e=>nG ks (λls=>F (.s x::ls)) ls b e
 | .v::ks,F,.v x::ls,b,e=>nG ks (λls=>F (.v x::ls)) ls b e
 | .c::ks,F,.c x::ls,b,e=>nG ks (λls=>F (.c x::ls)) ls b e
 | .n::ks,F,.n x::ls,b,e=>nG ks (λls=>F (.n x::ls)) ls b e
 |k::ks,F,[],b,e=>by cases k<;>cases e
 | .i::ks,F,.b _::_,b,e| .i::ks,F,.s _::_,b,e| .i::ks,F,.v _::_,b,e| .i::ks,F,.c _::_,b,e| .i::ks,F,.n _::_,b,e=>by cases e
 | .b::ks,F,.i _::_,b,e| .b::ks,F,.s _::_,b,e| .b::ks,F,.v _::_,b,e| .b::ks,F,.c _::_,b,e| .b::ks,F,.n _::_,b,e=>by cases e
 | .s::ks,F,.i _::_,b,e| .s::ks,F,.b _::_,b,e| .s::ks,F,.v _::_,b,e| .s::ks,F,.c _::_,b,e| .s::ks,F,.n _::_,b,e=>by cases e
 | .v::ks,F,.i _::_,b,e| .v::ks,F,.b _::_,b,e| .v::ks,F,.s _::_,b,e| .v::ks,F,.c _::_,b,e| .v::ks,F,.n _::_,b,e=>by cases e
 | .c::ks,F,.i _::_,b,e| .c::ks,F,.b _::_,b,e| .c::ks,F,.s _::_,b,e| .c::ks,F,.v _::_,b,e| .c::ks,F,.n _::_,b,e=>by cases e
 | .n::ks,F,.i _::_,b,e| .n::ks,F,.b _::_,b,e| .n::ks,F,.s _::_,b,e| .n::ks,F,.v _::_,b,e| .n::ks,F,.c _::_,b,e=>by cases e
theorem Aa:∀(ks:H1 LK)(ls:H1 bq)(b:β),iI ks (iZ ks) ls=some b->False
 |[],[],b,e=>by cases e
 |[],_::_,b,e=>by cases e
 |k::ks,[],b,e=>by cases k<;>cases e
 |k::ks,l::ls,b,e=>by cases k<;>cases l<;>first|exact Aa ks ls b e|cases e
inductive VT where
 |i (k:IntKind)|b|s|v
 |agg (l:List VT)|aH (l:List VT)
 |fn (f:FuncId) (l:List VT)
 |lp (l:List VT)
 |pJ
 |fe (t:TypeId) (x:VT)
 |em (b:Bool)
 |ptr (id off:Nat)|sl (id off:Nat)|CP (id:Nat)|gr (id E:Nat)
 |wK (id off n c:Nat)
 |nf
inductive OT where
 |cells (l:List VT) (t:TypeId)
 |arr (t:TypeId)
 |grow (E:Nat) (t:TypeId)
structure cL where
 Ip:List (Nat×VT)
 qu:List (Nat×OT)
 sx:Nat
mutual
def VT.ks:VT->H1 LK
 | .i _=>[.i]
 | .b=>[.b]
 | .s=>[.s]
 | .v=>[.v]
 | .agg l=>VT.fu l
 | .aH l=>VT.fu l
 | .fn _ l=>VT.fu l
 | .fe _ x=>VT.ks x
 | .em _=>[]
 | .lp l=>VT.fu l
 | .pJ=>[.c]
 | .ptr _ _=>[]
 | .sl _ _=>[.n,.n]
 | .CP _=>[.n,.n,.n]
 | .gr _ _=>[]
 | .wK _ _ _ _=>[]
 | .nf=>[]
def VT.fu:H1 VT->H1 LK
 |[]=>[]
 |x::xs=>VT.ks x++VT.fu xs
end
def OT.ks:OT->H1 LK
 | .cells l _=>VT.fu l
 | .arr _=>[.c]
 | .grow _ _=>[.c]
def cL.ks(t:cL):H1 LK:=VT.fu (t.Ip.map (·.2))++(t.qu.map λo=>o.2.ks).flatten
def qW:H1 VT->Bool
 |[]=>true
 | .i _::l=>qW l
 | .b::l=>qW l
 | .s::l=>qW l
 | .v::l=>qW l
 |_=>false
abbrev Mp:=H1 (Nat×Zh Nat)
def ew(id:Nat):Mp->Zh (Zh Nat)
 |[]=>none
 |(j,x)::m=>cond (Nat.beq j id) (some x) (ew id m)
def taken(a:Nat):Mp->Bool
 |[]=>false
 |(_,some x)::m=>cond (Nat.beq x a) true (taken a m)
 |(_,none)::m=>taken a m
def tz(id:Nat)(x:Zh Nat)(m:Mp)(K:Mp->Zh β):Zh β:=match ew id m with
 |some y=>match x,y with
  |some a,some a'=>cond (Nat.beq a a') (K m) none
  |none,none=>K m
  |_,_=>none
 |none=>match x with
  |some a=>cond (taken a m) none (K ((id,some a)::m))
  |none=>K ((id,none)::m)
mutual
def Az:VT->SV->Mp->(H1 bq->Mp->Zh β)->Zh β
 | .i k,.i k' n,m,K=>cond (decide (k=k')) (K [.i n] m) none
 | .b,.b x,m,K=>K [.b x] m
 | .s,.s x,m,K=>K [.s x] m
 | .v,.v x,m,K=>K [.v x] m
 | .v,.nl,m,K=>K [.v (ae 0 [])] m
 | .v,.ni,m,K=>K [.v .nilIface] m
 | .agg ts,.agg l,m,K=>vm ts l m K
 | .aH ts,.aH l,m,K=>vm ts l m K
 | .fn f ts,.fn f' l,m,K=>cond (Nat.beq f f') (vm ts l m K) none
 | .fe t vt,.fe t' x,m,K=>cond (Nat.beq t t') (Az vt x m K) none
 | .em true,.em true,m,K=>K [] m
 | .em false,.em false,m,K=>K [] m
 | .pJ,.lp cs,m,K=>K [.c cs] m
 | .ptr id off,.ptr id' off',m,K=>cond (Nat.beq off off') (tz id (some id') m λm'=>K [] m') none
 | .sl id off,.sl id' off' n c,m,K=>cond (Nat.beq off off') (tz id (some id') m λm'=>K [.n n,.n c] m') none
 | .CP id,.sl id' off n c,m,K=>tz id (some id') m λm'=>K [.n off,.n n,.n c] m'
 | .gr id E,.gr id' E',m,K=>cond (Nat.beq E E') (tz id (some id') m λm'=>K [] m') none
 | .gr id _,.nl,m,K=>tz id none m λm'=>K [] m'
 | .wK id off n0 c0,.sl id' off' n c,m,K=>cond (Nat.beq off off'&&(Nat.beq n0 n&&Nat.beq c0 c)) (tz id (some id') m λm'=>K [] m') none
 | .nf,.v .nilFunc,m,K=>K [] m
 |_,_,_,_=>none
def vm:H1 VT->H1 SV->Mp->(H1 bq->Mp->Zh β)->Zh β
 |[],[],m,K=>K [] m
 |t::ts,x::xs,m,K=>Az t x m λl1 m1=>vm ts xs m1 λl2 m2=>K (l1++l2) m2
 |_,_,_,_=>none
end
mutual
def tW:VT->H1 bq->Zh (SV×H1 bq)
 | .i k,.i n::ls=>some (.i k n,ls)
 | .b,.b x::ls=>some (.b x,ls)
 | .s,.s x::ls=>some (.s x,ls)
 | .v,.v x::ls=>some (.v x,ls)
 | .agg ts,ls=>ob (sC ts ls) λr=>some (.agg r.1,r.2)
 | .aH ts,ls=>ob (sC ts ls) λr=>some (.aH r.1,r.2)
 | .fn f ts,ls=>ob (sC ts ls) λr=>some (.fn f r.1,r.2)
 | .fe t vt,ls=>ob (tW vt ls) λr=>some (.fe t r.1,r.2)
 | .em b,ls=>some (.em b,ls)
 | .pJ,.c cs::ls=>some (.lp cs,ls)
 | .ptr id off,ls=>some (.ptr id off,ls)
 | .sl id off,.n n::.n c::ls=>some (.sl id off n c,ls)
 | .CP id,.n off::.n n::.n c::ls=>some (.sl id off n c,ls)
 | .gr id E,ls=>some (.gr id E,ls)
 | .wK id off n c,ls=>some (.sl id off n c,ls)
 | .nf,ls=>some (.v .nilFunc,ls)
 |_,_=>none
def sC:H1 VT->H1 bq->Zh (H1 SV×H1 bq)
 |[],ls=>some ([],ls)
 |t::ts,ls=>ob (tW t ls) λr=>ob (sC ts r.2) λq=>some (r.1 ::q.1,q.2)
end
def Kj:H1 (Nat×VT)->Tr SV->Mp->(H1 bq->Mp->Zh β)->Zh β
 |[],_,m,K=>K [] m
 |(t,vt)::r,tm,m,K=>ob (tm.get t) λsv=>Az vt sv m λl1 m1=>Kj r tm m1 λl2 m2=>K (l1++l2) m2
def Kh:Nat->OT->Tr SO->Mp->(H1 bq->Mp->Zh β)->Zh β
 |id,.cells ts t,h,m,K=>ob (ew id m) λx=>ob x λa=>ob (h.get a) λso=>match so with
  | .cells l t'=>cond (Nat.beq t t') (vm ts l m K) none
  |_=>none
 |id,.arr t,h,m,K=>ob (ew id m) λx=>ob x λa=>ob (h.get a) λso=>match so with
  | .arr c t'=>cond (Nat.beq t t') (K [.c c] m) none
  |_=>none
 |id,.grow E t,h,m,K=>ob (ew id m) λx=>match x with
  |none=>cond (Nat.blt 0 E) (K [.c []] m) none
  |some a=>ob (h.get a) λso=>match so with
   | .grow E' c t'=>cond (Nat.beq E E'&&Nat.beq t t') (K [.c c] m) none
   |_=>none
def Ki:H1 (Nat×OT)->Tr SO->Mp->(H1 bq->Mp->Zh β)->Zh β
 |[],_,m,K=>K [] m
 |(id,ot)::r,h,m,K=>Kh id ot h m λl1 m1=>Ki r h m1 λl2 m2=>K (l1++l2) m2
def A5:H1 (Nat×VT)->H1 bq->Zh (Tr SV×H1 bq)
 |[],ls=>some (.nil,ls)
 |(t,vt)::r,ls=>ob (tW vt ls) λq=>ob (A5 r q.2) λp=>some (p.1.set t q.1,p.2)
def TZ:OT->H1 bq->Zh (SO×H1 bq)
 | .cells ts t,ls=>ob (sC ts ls) λq=>some (.cells q.1 t,q.2)
 | .arr t,.c c::ls=>some (.arr c t,ls)
 | .grow E t,.c c::ls=>some (.grow E c t,ls)
 |_,_=>none
def xS:H1 (Nat×OT)->H1 bq->Zh (Tr SO×H1 bq)
 |[],ls=>some (.nil,ls)
 |(id,ot)::r,ls=>ob (TZ ot ls) λq=>ob (xS r q.2) λp=>some (p.1.set id q.1,p.2)
def jU:Nat->Mp
 |0=>[]
 |n+1=>(n,some n)::jU n
def vk(m0:Mp)(t:cL)(st:St)(K:H1 bq->Mp->Zh β):Zh β:=
 Kj t.Ip st.tm m0 λl1 m1=>Ki t.qu st.h m1 λl2 m2=>cond (m2.all λp=>Nat.blt p.1 t.sx) (K (l1++l2) m2) none
def lk(an:Nat)(t:cL)(st:St)(K:H1 bq->Zh β):Zh β:=vk (jU an) t st λls _=>K ls
def iy(t:cL)(ls:H1 bq):Zh St:=
 ob (A5 t.Ip ls) λp=>ob (xS t.qu p.2) λq=>some ⟨p.1,q.1,t.sx⟩
def ft(m m':Mp):Prop:=∀id x,ew id m=some x->ew id m'=some x
def lJ(m:Mp):Prop:=∀id id' a,ew id m=some (some a)->ew id' m=some (some a)->id=id'
theorem ft.refl(m:Mp):ft m m:=λ_ _ h=>h
theorem ft.trans{a b c:Mp}(h:ft a b)(k:ft b c):ft a c:=λi x e=>k i x (h i x e)
theorem Zn{a:Nat}:∀{m:Mp}{id:Nat},ew id m=some (some a)->taken a m=true
 |[],id,h=>by cases h
 |(j,x)::m,id,h=>by
  unfold ew at h;cases hb:Nat.beq j id with
  |true=>rw[hb] at h;cases h;unfold taken;simp
  |false=>
   rw[hb] at h;have:=Zn h;cases x with
   |none=>exact this
   |some y=>
    unfold taken;cases hy:Nat.beq y a with
    |true=>rfl
    |false=>grind
theorem rb{id j:Nat}{x:Zh Nat}{m:Mp}:ew id ((j,x)::m)=if j=id then some x else ew id m:=by show cond (Nat.beq j id) (some x) (ew id m)=_;simp
theorem xk{id:Nat}{x:Zh Nat}{m:Mp}{K:Mp->Zh β}{b:β}(e:tz id x m K=some b):
 ∃m',K m'=some b/\ft m m'/\ew id m'=some x/\(lJ m->lJ m'):=by
 unfold tz at e;split at e
 ·rename_i y hy;split at e
  ·rename_i a a';obtain⟨e1,f⟩:=aW e;have:=bT e1;subst this;exact⟨m,f,ft.refl m,hy,λI=>I⟩
  ·exact⟨m,e,ft.refl m,hy,λI=>I⟩
  grind
 ·rename_i hn;have sub:∀x,ft m ((id,x)::m):=λx j y h=>by
   rw[rb]
   grind
  split at e
  ·rename_i a;cases ht:taken a m with
   |true=>grind
   |false=>
    rw[ht] at e;refine⟨_,e,sub _,by rw[rb,ay rfl],λI i j c h1 h2=>?_⟩;rw[rb] at h1 h2;have no:∀k,ew k m=some (some a)->False:=λk hk=>by rw[Zn hk] at ht;cases ht
    by_cases q:id=i
    ·grind
    ·rw[aq q] at h1;by_cases q2:id=j
     ·grind
     ·rw[aq q2] at h2;exact I i j c h1 h2
  ·refine⟨_,e,sub _,by rw[rb,ay rfl],λI i j c h1 h2=>?_⟩;rw[rb] at h1 h2;by_cases q:id=i
   ·grind
   ·rw[aq q] at h1;by_cases q2:id=j
    ·grind
    ·rw[aq q2] at h2;exact I i j c h1 h2
def σm(σ:Ren)(M:Mp):Ren:=⟨λid=>match ew id M with
 |some (some a)=>σ.nm a
 |some none=>some (none,0)
 |none=>none,σ.lit⟩
theorem σm_some{σ:Ren}{M:Mp}{id a:Nat}(h:ew id M=some (some a)):(σm σ M).nm id=σ.nm a:=by simp only[σm,h]
theorem σm_none{σ:Ren}{M:Mp}{id:Nat}(h:ew id M=some none):(σm σ M).nm id=some (none,0):=by simp only[σm,h]
mutual
theorem Kk:∀(vt:VT)(sv:SV)(m:Mp)(K:H1 bq->Mp->Zh β)(b:β),Az vt sv m K=some b->
 ∃ls m',K ls m'=some b/\ft m m'/\(lJ m->lJ m')/\∀rest,∃sv',tW vt (ls++rest)=some (sv',rest)/\∀(σ:Ren)(M:Mp)(v:Qu),ft m' M->DV σ sv v->DV (σm σ M) sv' v:=by
 intro vt sv m K b e;unfold Az at e;split at e
 ·obtain⟨e1,f⟩:=aW e;have:=ny e1;subst this;exact⟨_,_,f,ft.refl _,id,λrest=>⟨_,rfl,λσ M v _ d=>by cases d;exact .i _ _⟩⟩
 ·exact⟨_,_,e,ft.refl _,id,λrest=>⟨_,rfl,λσ M v _ d=>by cases d;exact .b _⟩⟩
 ·exact⟨_,_,e,ft.refl _,id,λrest=>⟨_,rfl,λσ M v _ d=>by cases d;exact .s _⟩⟩
 ·refine⟨_,_,e,ft.refl _,id,λrest=>⟨_,rfl,λσ M v _ d=>?_⟩⟩;cases d with
  |v h h1=>exact .v h h1
 ·exact⟨_,_,e,ft.refl _,id,λrest=>⟨_,rfl,λσ M v _ d=>by cases d;exact .v .fW rfl⟩⟩
 ·exact⟨_,_,e,ft.refl _,id,λrest=>⟨_,rfl,λσ M v _ d=>by cases d;exact .v .nilIface rfl⟩⟩
 ·rename_i ts l;obtain⟨ls,m',h1,h2,h3,h4⟩:=AA ts l m K b e;refine⟨ls,m',h1,h2,h3,λrest=>?_⟩;obtain⟨svs,g1,g2⟩:=h4 rest;refine⟨.agg svs,by unfold tW;rw[g1];rfl,λσ M v s d=>?_⟩;cases d with
  |agg hl g=>exact .agg (g2 σ M _ s ⟨hl,g⟩).1 (g2 σ M _ s ⟨hl,g⟩).2
 ·rename_i ts l;obtain⟨ls,m',h1,h2,h3,h4⟩:=AA ts l m K b e;refine⟨ls,m',h1,h2,h3,λrest=>?_⟩;obtain⟨svs,g1,g2⟩:=h4 rest;refine⟨.aH svs,by unfold tW;rw[g1];rfl,λσ M v s d=>?_⟩;cases d with
  |aH hl g=>exact .aH (g2 σ M _ s ⟨hl,g⟩).1 (g2 σ M _ s ⟨hl,g⟩).2
 ·rename_i g0 ts g0' l;obtain⟨e1,f⟩:=aW e;have:=bT e1;subst this;obtain⟨ls,m',h1,h2,h3,h4⟩:=AA ts l m K b f;refine⟨ls,m',h1,h2,h3,λrest=>?_⟩;obtain⟨svs,g1,g2⟩:=h4 rest;refine⟨.fn g0 svs,by unfold tW;rw[g1];rfl,λσ M v s d=>?_⟩;cases d with
  |fn hl g=>exact .fn (g2 σ M _ s ⟨hl,g⟩).1 (g2 σ M _ s ⟨hl,g⟩).2
 ·rename_i t0 vt0 t0' x0;obtain⟨e1,f⟩:=aW e;have:=bT e1;subst this;obtain⟨ls,m',h1,h2,h3,h4⟩:=Kk vt0 x0 m K b f;refine⟨ls,m',h1,h2,h3,λrest=>?_⟩;obtain⟨sv,g1,g2⟩:=h4 rest;refine⟨.fe t0 sv,by unfold tW;rw[g1];rfl,λσ M v s d=>?_⟩;cases d with
  |fe g=>exact .fe (g2 σ M _ s g)
 ·exact⟨_,_,e,ft.refl _,λI=>I,λrest=>⟨_,rfl,λσ M v _ d=>by cases d;exact .em (by assumption)⟩⟩
 ·exact⟨_,_,e,ft.refl _,λI=>I,λrest=>⟨_,rfl,λσ M v _ d=>by cases d;exact .em (by assumption)⟩⟩
 ·exact⟨_,_,e,ft.refl _,λI=>I,λrest=>⟨_,rfl,λσ M v _ d=>by cases d;exact .lp (by assumption)⟩⟩
 ·rename_i id0 off id' off';obtain⟨e1,f⟩:=aW e;have:=bT e1;subst this;obtain⟨m',h1,h2,h3,h4⟩:=xk f;refine⟨_,m',h1,h2,h4,λrest=>⟨_,rfl,λσ M v s d=>?_⟩⟩;cases d with
  |ptr g=>exact .ptr (by rw[σm_some (s _ _ h3)];exact g)
 ·rename_i id0 off id' off' n c;obtain⟨e1,f⟩:=aW e;have:=bT e1;subst this;obtain⟨m',h1,h2,h3,h4⟩:=xk f;refine⟨_,m',h1,h2,h4,λrest=>⟨_,rfl,λσ M v s d=>?_⟩⟩;cases d with
  |sl g hn=>exact .sl (by rw[σm_some (s _ _ h3)];exact g) hn
 ·rename_i id0 id' off n c;obtain⟨m',h1,h2,h3,h4⟩:=xk e;refine⟨_,m',h1,h2,h4,λrest=>⟨_,rfl,λσ M v s d=>?_⟩⟩;cases d with
  |sl g hn=>exact .sl (by rw[σm_some (s _ _ h3)];exact g) hn
 ·rename_i id0 E id' E';obtain⟨e1,f⟩:=aW e;have:=bT e1;subst this;obtain⟨m',h1,h2,h3,h4⟩:=xk f;refine⟨_,m',h1,h2,h4,λrest=>⟨_,rfl,λσ M v s d=>?_⟩⟩;cases d with
  |jJ g=>exact .jJ (by rw[σm_some (s _ _ h3)];exact g)
  |gr g hc hn=>exact .gr (by rw[σm_some (s _ _ h3)];exact g) hc hn
 ·obtain⟨m',h1,h2,h3,h4⟩:=xk e;refine⟨_,m',h1,h2,h4,λrest=>⟨_,rfl,λσ M v s d=>?_⟩⟩;cases d;exact .jJ (σm_none (s _ _ h3))
 ·rename_i id0 off n0 c0 id' off' n c;obtain⟨e1,f⟩:=aW e;simp only[bt] at e1;have g1:=bT e1.1;have g2:=bT e1.2.1;have g3:=bT e1.2.2;subst g1 g2 g3;obtain⟨m',h1,h2,h3,h4⟩:=xk f;refine⟨_,m',h1,h2,h4,λrest=>⟨_,rfl,λσ M v s d=>?_⟩⟩;cases d with
  |sl g hn=>exact .sl (by rw[σm_some (s _ _ h3)];exact g) hn
 ·refine⟨_,_,e,ft.refl _,λI=>I,λrest=>⟨_,rfl,λσ M v _ d=>?_⟩⟩;cases d with
  |v h h1=>exact .v h h1
 ·cases e
theorem AA:∀(vts:H1 VT)(svs:H1 SV)(m:Mp)(K:H1 bq->Mp->Zh β)(b:β),vm vts svs m K=some b->
 ∃ls m',K ls m'=some b/\ft m m'/\(lJ m->lJ m')/\∀rest,∃svs',sC vts (ls++rest)=some (svs',rest)/\∀(σ:Ren)(M:Mp)(vs:H1 Qu),ft m' M->eR σ svs vs->eR (σm σ M) svs' vs:=by
 intro vts svs m K b e;unfold vm at e;split at e
 ·exact⟨_,_,e,ft.refl _,id,λrest=>⟨_,rfl,λσ M v _ d=>by rw[d.dY];exact .nil⟩⟩
 ·rename_i t ts x xs;obtain⟨l1,m1,h1,h2,h3,h4⟩:=Kk t x m _ b e;obtain⟨l2,m2,g1,g2,g3,g4⟩:=AA ts xs m1 _ b h1;refine⟨l1++l2,m2,g1,h2.trans g2,λI=>g3 (h3 I),λrest=>?_⟩;obtain⟨s1,p1,p2⟩:=h4 (l2++rest);obtain⟨s2,q1,q2⟩:=g4 rest;refine⟨s1::s2,?_,λσ M vs s d=>?_⟩
  ·rw[ed];unfold sC;rw[p1];show ob (sC ts (l2++rest)) _=_;rw[q1];rfl
  ·obtain⟨_,_,rfl,a,t⟩:=d.inv;exact .cons (p2 σ M _ (g2.trans s) a) (q2 σ M _ s t)
 ·cases e
end
theorem RP:∀(sl:H1 (Nat×VT))(T0:Tr SV)(m:Mp)(K:H1 bq->Mp->Zh β)(b:β),Kj sl T0 m K=some b->
 ∃ls m',K ls m'=some b/\ft m m'/\(lJ m->lJ m')/\∀rest,∃T,A5 sl (ls++rest)=some (T,rest)/\∀(σ:Ren)(M:Mp)(a:Act),ft m' M->Ev σ T0 a->Ev (σm σ M) T a
 |[],T0,m,K,b,e=>⟨_,_,e,ft.refl _,id,λrest=>⟨_,rfl,λσ M tm _ _ t sv h=>by rw[Tr.get_nil] at h;cases h⟩⟩
 |(t,vt)::r,T0,m,K,b,e=>by
  obtain⟨sv,hsv,e⟩:=ax e;obtain⟨l1,m1,h1,h2,h3,h4⟩:=Kk vt sv m _ b e;obtain⟨l2,m2,g1,g2,g3,g4⟩:=RP r T0 m1 _ b h1;refine⟨l1++l2,m2,g1,h2.trans g2,λI=>g3 (h3 I),λrest=>?_⟩;obtain⟨s1,p1,p2⟩:=h4 (l2++rest);obtain⟨T,q1,q2⟩:=g4 rest;refine⟨T.set t s1,?_,λσ M tm s H t' sv' h=>?_⟩
  ·rw[ed];unfold A5;rw[p1];show ob (A5 r (l2++rest)) _=_;rw[q1];rfl
  ·rw[Tr.fN] at h;by_cases e:t'=t
   ·rw[ay e] at h;cases h;rw[e];exact p2 σ M _ (g2.trans s) (H t sv hsv)
   ·rw[aq e] at h;exact q2 σ M tm s H t' sv' h
theorem abo{id:Nat}{ot:OT}{h0:Tr SO}{m:Mp}{K:H1 bq->Mp->Zh β}{b:β}(e:Kh id ot h0 m K=some b):
 ∃ls m',K ls m'=some b/\ft m m'/\(lJ m->lJ m')/\(ew id m=some none\/∃a so,ew id m=some (some a)/\h0.get a=some so)/\∀rest,∃so',TZ ot (ls++rest)=some (so',rest)/\
  ∀(σ:Ren)(M:Mp)(h:Hx),ft m' M->(∀id so,h0.get id=some so->DO σ h id so)->DO (σm σ M) h id so':=by
 unfold Kh at e;split at e
 ·obtain⟨x,hx,f⟩:=ax e;obtain⟨a,ha,g⟩:=ax f;subst ha;obtain⟨so,hso,k⟩:=ax g;split at k
  ·rename_i ts t _ l t';obtain⟨e1,q⟩:=aW k;have:=bT e1;subst this;obtain⟨ls,m',h1,h2,h3,h4⟩:=AA ts l m K b q;refine⟨ls,m',h1,h2,h3,.inr ⟨a,_,hx,hso⟩,λrest=>?_⟩;obtain⟨s,p1,p2⟩:=h4 rest;refine⟨.cells s t,by show ob (sC ts (ls++rest)) _=_;rw[p1];rfl,λσ M h sm H=>?_⟩;obtain⟨o,n,vs,q1,q2,q3⟩:=H a _ hso;exact⟨o,n,vs,by rw[σm_some (sm _ _ (h2 _ _ hx))];exact q1,q2,p2 σ M _ sm q3⟩
  ·cases k
 ·obtain⟨x,hx,f⟩:=ax e;obtain⟨a,ha,g⟩:=ax f;subst ha;obtain⟨so,hso,k⟩:=ax g;split at k
  ·obtain⟨e1,q⟩:=aW k;have:=bT e1;subst this;refine⟨_,m,q,ft.refl _,λI=>I,.inr ⟨a,_,hx,hso⟩,λrest=>⟨_,rfl,λσ M h sm H=>?_⟩⟩;obtain⟨o,n,vs,q1,q2,q3⟩:=H a _ hso;exact⟨o,n,vs,by rw[σm_some (sm _ _ hx)];exact q1,q2,q3⟩
  ·cases k
 ·obtain⟨x,hx,e⟩:=ax e;split at e
  ·obtain⟨e1,e⟩:=aW e;exact⟨_,m,e,ft.refl _,λI=>I,.inl hx,λrest=>⟨_,rfl,λσ M h sm H=>(⟨fb e1,rfl,.inl ⟨σm_none (sm _ _ hx),rfl⟩⟩)⟩⟩
  ·rename_i a;obtain⟨so,hso,e⟩:=ax e;split at e
   ·obtain⟨e1,f⟩:=aW e;rw[bt] at e1;have e2:=bT e1.1;have e3:=bT e1.2;subst e2 e3;refine⟨_,m,f,ft.refl _,λI=>I,.inr ⟨a,_,hx,hso⟩,λrest=>⟨_,rfl,λσ M h sm H=>?_⟩⟩;obtain⟨q1,q2,q3⟩:=H a _ hso;have hs:=σm_some (σ:=σ) (sm _ _ hx);refine⟨q1,q2,?_⟩;rw[<-hs] at q3;exact q3
   ·cases e
theorem RN:∀(ol:H1 (Nat×OT))(h0:Tr SO)(m:Mp)(K:H1 bq->Mp->Zh β)(b:β),Ki ol h0 m K=some b->
 ∃ls m',K ls m'=some b/\ft m m'/\(lJ m->lJ m')/\∀rest,∃T,xS ol (ls++rest)=some (T,rest)/\∀(σ:Ren)(M:Mp)(h:Hx),ft m' M->(∀id so,h0.get id=some so->DO σ h id so)->
  ∀id so,T.get id=some so->DO (σm σ M) h id so/\(ew id M=some none\/∃a so,ew id M=some (some a)/\h0.get a=some so)
 |[],h0,m,K,b,e=>⟨_,_,e,ft.refl _,id,λrest=>⟨_,rfl,λσ M h _ _ t sv h=>by rw[Tr.get_nil] at h;cases h⟩⟩
 |(id0,ot)::r,h0,m,K,b,e=>by
  obtain⟨l1,m1,h1,h2,h3,hl,h4⟩:=abo e;obtain⟨l2,m2,g1,g2,g3,g4⟩:=RN r h0 m1 _ b h1;refine⟨l1++l2,m2,g1,h2.trans g2,λI=>g3 (h3 I),λrest=>?_⟩;obtain⟨s1,p1,p2⟩:=h4 (l2++rest);obtain⟨T,q1,q2⟩:=g4 rest;refine⟨T.set id0 s1,?_,λσ M h s H id so hg=>?_⟩
  ·rw[ed];unfold xS;rw[p1];show ob (xS r (l2++rest)) _=_;rw[q1];rfl
  ·rw[Tr.fN] at hg;by_cases e:id=id0
   ·rw[ay e] at hg;cases hg;rw[e];refine⟨p2 σ M h (g2.trans s) H,?_⟩;rcases hl with hl|⟨a,so,k1,k2⟩
    ·exact .inl (s _ _ (g2 _ _ (h2 _ _ hl)))
    ·exact .inr ⟨a,so,s _ _ (g2 _ _ (h2 _ _ k1)),k2⟩
   ·rw[aq e] at hg;exact q2 σ M h s H id so hg
theorem TA{n:Nat}:∀{m:Mp},(m.all λp=>Nat.blt p.1 n)=true->∀id x,ew id m=some x->id<n
 |[],_,id,x,h=>by cases h
 |(j,y)::m,e,id,x,h=>by
  rw[List.all_cons,bt] at e;rw[rb] at h;by_cases q:j=id
  ·simp_all
  ·rw[aq q] at h;exact TA e.2 id x h
theorem TB:∀{an k:Nat},k<an->ew k (jU an)=some (some k)
 |0,k,h=>by omega
 |n+1,k,h=>by
  show ew k ((n,some n)::jU n)=_;rw[rb];by_cases e:n=k
  ·grind
  ·rw[aq e];exact TB (by omega)
theorem K8:∀{an k:Nat}{x:Zh Nat},ew k (jU an)=some x->x=some k
 |0,k,x,h=>by cases h
 |n+1,k,x,h=>by
  have h:ew k ((n,some n)::jU n)=some x:=h;rw[rb] at h;by_cases e:n=k
  ·grind
  ·rw[aq e] at h;exact K8 h
theorem Z3(an:Nat):lJ (jU an):=λi j a h1 h2=>by
 have:=K8 h1;have:=K8 h2
 grind
theorem D5{m0:Mp}(I0:lJ m0){t:cL}{st:St}{K:H1 bq->Mp->Zh β}{b:β}(e:vk m0 t st K=some b):
 ∃ls m,K ls m=some b/\ft m0 m/\lJ m/\(∀id x,ew id m=some x->id<t.sx)/\∃st',iy t ls=some st'/\st'.sx=t.sx/\∀{σ:Ren}{a:Act}{w:Hx},Ev σ st.tm a->(∀id so,st.h.get id=some so->DO σ w id so)->Ev (σm σ m) st'.tm a/\
  ∀id so,st'.h.get id=some so->DO (σm σ m) w id so/\(ew id m=some none\/∃a so',ew id m=some (some a)/\st.h.get a=some so'):=by
 obtain⟨l1,m1,h1,h2,h3,h4⟩:=RP _ _ _ _ _ e;obtain⟨l2,m2,g1,g2,g3,g4⟩:=RN _ _ _ _ _ h1;obtain⟨e1,e2⟩:=aW g1;refine⟨_,_,e2,h2.trans g2,g3 (h3 I0),TA e1,?_⟩;obtain⟨T,p1,p2⟩:=h4 l2;obtain⟨H,q1,q2⟩:=g4 [];rw[dP] at q1;refine⟨⟨T,H,t.sx⟩,?_,rfl,λR O=>⟨p2 _ m2 _ g2 R,q2 _ m2 _ (ft.refl _) O⟩⟩;unfold iy;rw[p1];show ob (xS t.qu l2) _=_;rw[q1];rfl
theorem Mem.map{B B':Bs}{σ:Ren}{G:Nat->SO->Prop}{h':Tr SO}{F:Nat->Prop}{sx:Nat}{w:Hx}{m:Mp}(M:Mem B σ G F w)(I:lJ m)(lt:∀id x,ew id m=some x->id<sx)
 (O:∀id so,h'.get id=some so->DO (σm σ m) w id so/\(ew id m=some none\/∃a so',ew id m=some (some a)/\G a so')) (base:eS B'.own B'.w w) (ow:∀b,Own σ G b->B'.own b\/B'.w.heap.size<=b)
 (ln:∀b i v,σ.lit b i=some v->B'.lit b i=some v\/B'.own b\/B'.w.heap.size<=b) (an:∀k,k<B'.an->∀x,B'.nm k=some x->(σm σ m).nm k=some x) (lm:∀b i v,B'.lit b i=some v->σ.lit b i=some v):jb B' (σm σ m) h' sx w:=by
 have nm:∀{id so o n},h'.get id=some so->(σm σ m).nm id=some (some o,n)->∃a so',ew id m=some (some a)/\G a so'/\σ.nm a=some (some o,n):=by
  intro id so o n h1 h2;rcases(O id so h1).2 with k|⟨a,so',k1,k2⟩
  ·rw[σm_none k] at h2;cases h2
  ·rw[σm_some k1] at h2;exact⟨a,so',k1,k2,h2⟩
 have own:∀b,Own (σm σ m) (hG h') b->Own σ G b:=λb ⟨id,so,o,n,a1,a2,a3⟩=>(have⟨a,so',_,k2,k3⟩:=nm a1 a2;⟨a,so',o,n,k2,k3,a3⟩);refine⟨λid so k=>(O id so k).1,λi j so so' o o' n n' a1 a2 b1 b2 e=>?_,λid hid=>?_,M.lit,λb i v k q=>M.free b i v k (own b q),base,λb q=>ow b (own b q),ln,an,lm⟩
 ·obtain⟨x,s1,k1,k2,k3⟩:=nm a1 b1;obtain⟨y,s2,k4,k5,k6⟩:=nm a2 b2;have:=M.inj _ _ _ _ _ _ _ _ k2 k5 k3 k6 e;subst this;exact I _ _ _ k1 k4
 ·cases q:ew id m with
  |none=>simp only[σm,q]
  |some x=>exact absurd (lt id x q) (Nat.not_lt.2 hid)
theorem vl{B:Bs}{t:cL}{st:St}{K:H1 bq->Zh β}{b:β}(e:lk B.an t st K=some b):
 ∃ls,K ls=some b/\∃st',iy t ls=some st'/\st'.sx=t.sx/\∀{σ:Ren}{a:Act}{w:Hx},Ev σ st.tm a->jb B σ st.h st.sx w->∃σ',Ev σ' st'.tm a/\jb B σ' st'.h st'.sx w:=by
 obtain⟨ls,m,h1,h2,I,lt,st',h4,h5,h6⟩:=D5 (Z3 B.an) e;refine⟨ls,h1,st',h4,h5,λ{σ a w} R M=>⟨σm σ m,?_⟩⟩;obtain⟨h7,h8⟩:=h6 R M.obj;exact⟨h7,by rw[h5];exact M.map I lt h8 M.base M.owned M.lP (λk hk x hx=>by rw[σm_some (h2 _ _ (TB hk))];exact M.jU k hk x hx) M.mW⟩
end
section
variable{β:Type}
def oP(cs:H1 Qu)(r:Zh β):Zh β:=match cs with
 |[]=>r
 |_=>none
def xR:H1 VT->H1 Qu->(H1 bq->Zh β)->Zh β
 |[],cs,K=>oP cs (K [])
 | .i k::ts,cs,K=>af cs λx r=>aw k x λn=>xR ts r λl=>K (.i n::l)
 | .b::ts,cs,K=>af cs λx r=>Ac x λn=>xR ts r λl=>K (.b n::l)
 | .s::ts,cs,K=>af cs λx r=>Ad x λn=>xR ts r λl=>K (.s n::l)
 | .v::ts,cs,K=>af cs λx r=>xR ts r λl=>K (.v x::l)
 |_,_,_=>none
def tN{γ:Type}(g:SV->Zh γ):H1 SV->Zh (H1 γ)
 |[]=>some []
 |x::xs=>ob (g x) λu=>ob (tN g xs) λus=>some (u::us)
def Sl(g:SV->Zh Qu):SV->Zh Qu
 | .agg l=>ob (tN g l) λus=>some (.agg ⟨us⟩)
 |x=>g x
def K2:Qu->Bool
 | .agg xs=>xs.toList.all λx=>match x with| .int _ _=>true|_=>false
 |_=>false
def KG(g:SV->Zh Qu):H1 (Qu×SV)->Zh (H1 Qu)
 |[]=>some []
 |e::es=>cond (K2 e.1) (ob (Sl g e.2) λu=>ob (KG g es) λus=>some (.func (.func 0) #[e.1] #[u]::us)) none
def gv(h:Tr SO):Nat->SV->Zh Qu
 |0,_=>none
 |f+1,x=>match x with
  | .i k n=>some (.int k n)
  | .b q=>some (.bool q)
  | .s q=>some (.string q)
  | .v q=>some q
  | .nl=>some (ae 0 [])
  | .ni=>some .nilIface
  | .fe t y=>IE (.fe t y)
  | .gr id E=>ob (h.get id) λso=>match so with
   | .grow E' c _=>cond (Nat.beq E E') (some (ae (c.length/E) c)) none
   |_=>bC 39
  | .sl id off n _=>ob (h.get id) λso=>match so with
   | .arr c _=>cond (Nat.ble off c.length) (some (ae n (c.drop off))) none
   | .cells cs _=>cond (Nat.ble off cs.length) (ob (tN (gv h f) (cs.drop off)) λus=>some (ae n us)) none
   |_=>bC 40
  | .mp id=>ob (h.get id) λso=>match so with
   | .mp es=>ob (KG (gv h f) es) λus=>some (.func (.method "") ⟨us⟩ #[])
   |_=>bC 44
  |_=>bC 41
mutual
def AH(st:St):VT->SV->(H1 bq->Zh β)->Zh β
 | .i k,.i k' n,K=>cond (decide (k=k')) (K [.i n]) none
 | .b,.b x,K=>K [.b x]
 | .s,.s x,K=>K [.s x]
 | .v,.v x,K=>K [.v x]
 | .v,.nl,K=>K [.v (ae 0 [])]
 | .v,.ni,K=>K [.v .nilIface]
 | .v,.gr id E,K=>ob (gv st.h 20 (.gr id E)) λu=>K [.v u]
 | .v,.sl id off n c,K=>ob (gv st.h 20 (.sl id off n c)) λu=>K [.v u]
 | .v,.mp id,K=>ob (gv st.h 20 (.mp id)) λu=>K [.v u]
 | .em true,.em true,K=>K []
 | .em false,.em false,K=>K []
 | .nf,.v .nilFunc,K=>K []
 | .agg ts,.agg l,K=>si st ts l K
 | .aH ts,.aH l,K=>si st ts l K
 | .fn f ts,.fn f' l,K=>cond (Nat.beq f f') (cond (Nat.blt f 65536) (si st ts l K) none) none
 | .lp ts,.lp cs,K=>cond (qW ts) (xR ts cs K) none
 | .lp ts,.ptr id off,K=>ob (st.h.get id) λso=>match so with
  | .cells c _=>cond (Nat.ble off c.length&&qW ts) (si st ts (c.drop off) K) none
  |_=>bC 42
 |_,_,_=>bC 43
def si(st:St):H1 VT->H1 SV->(H1 bq->Zh β)->Zh β
 |[],[],K=>K []
 |t::ts,x::xs,K=>AH st t x λl1=>si st ts xs λl2=>K (l1++l2)
 |_,_,_=>none
end
mutual
def jY:VT->H1 bq->Zh (Qu×H1 bq)
 | .i k,.i n::ls=>some (.int k n,ls)
 | .b,.b x::ls=>some (.bool x,ls)
 | .s,.s x::ls=>some (.string x,ls)
 | .v,.v x::ls=>some (x,ls)
 | .agg ts,ls=>ob (fR ts ls) λr=>some (.agg ⟨r.1⟩,r.2)
 | .aH ts,ls=>ob (fR ts ls) λr=>some (.tuple ⟨r.1⟩,r.2)
 | .fn f ts,ls=>cond (Nat.blt f 65536) (ob (fR ts ls) λr=>some (.func (.func f) #[] ⟨r.1⟩,r.2)) none
 | .lp ts,ls=>cond (qW ts) (ob (fR ts ls) λr=>some (Ex r.1,r.2)) none
 | .em b,ls=>some (DU b,ls)
 | .nf,ls=>some (.nilFunc,ls)
 |_,_=>none
def fR:H1 VT->H1 bq->Zh (H1 Qu×H1 bq)
 |[],ls=>some ([],ls)
 |t::ts,ls=>ob (jY t ls) λr=>ob (fR ts r.2) λq=>some (r.1 ::q.1,q.2)
end
mutual
def IB:VT->H1 bq->Zh (SV×H1 bq)
 | .i k,.i n::ls=>some (.i k n,ls)
 | .b,.b x::ls=>some (.b x,ls)
 | .s,.s x::ls=>some (.s x,ls)
 | .v,.v x::ls=>some (.v x,ls)
 | .agg ts,ls=>ob (wM ts ls) λr=>some (.agg r.1,r.2)
 | .aH ts,ls=>ob (wM ts ls) λr=>some (.aH r.1,r.2)
 | .fn f ts,ls=>cond (Nat.blt f 65536) (ob (wM ts ls) λr=>some (.fn f r.1,r.2)) none
 | .lp ts,ls=>cond (qW ts) (ob (fR ts ls) λr=>some (.lp r.1,r.2)) none
 | .em b,ls=>some (.em b,ls)
 | .nf,ls=>some (.v .nilFunc,ls)
 |_,_=>none
def wM:H1 VT->H1 bq->Zh (H1 SV×H1 bq)
 |[],ls=>some ([],ls)
 |t::ts,ls=>ob (IB t ls) λr=>ob (wM ts r.2) λq=>some (r.1 ::q.1,q.2)
end
mutual
def SV.ids:SV->H1 Nat
 | .ptr id _=>[id]
 | .sl id _ _ _=>[id]
 | .gr id _=>[id]
 | .mp id=>[id]
 | .agg l=>SV.kg l
 | .aH l=>SV.kg l
 | .fn _ l=>SV.kg l
 | .fe _ x=>SV.ids x
 |_=>[]
def SV.kg:H1 SV->H1 Nat
 |[]=>[]
 |x::xs=>SV.ids x++SV.kg xs
end
def SO.ids:SO->H1 Nat
 | .cells c _=>SV.kg c
 |_=>[]
def jj:Nat->H1 Nat->Tr SO->Tr SO->Tr SO×Tr SO
 |0,_,a,r=>(a,r)
 |_+1,[],a,r=>(a,r)
 |n+1,id::ids,a,r=>match r.get id with
  |none=>jj n ids a r
  |some so=>jj n (so.ids++ids) (a.set id so) (r.del id)
theorem xT{h:Tr SO}:∀(n:Nat)(ids:H1 Nat)(a r:Tr SO),(∀id so,a.get id=some so->h.get id=some so/\r.get id=none)->(∀id so,r.get id=some so->h.get id=some so/\a.get id=none)->
 (∀id so,(jj n ids a r).1.get id=some so->h.get id=some so/\(jj n ids a r).2.get id=none)/\(∀id so,(jj n ids a r).2.get id=some so->h.get id=some so/\(jj n ids a r).1.get id=none)
 |0,_,a,r,h1,h2=>⟨h1,h2⟩
 |_+1,[],a,r,h1,h2=>⟨h1,h2⟩
 |n+1,id::ids,a,r,h1,h2=>by
  unfold jj;split
  ·exact xT n ids a r h1 h2
  ·rename_i so hso;refine xT n (so.ids++ids) _ _ (λj s hj=>?_) (λj s hj=>?_)
   ·rw[Tr.fN] at hj;rw[Tr.sk]
    grind
   ·rw[Tr.sk] at hj;by_cases e:j=id
    ·grind
    ·rw[aq e] at hj;rw[Tr.fN];simp_all
def M8(h:Tr SO):H1 SV->Zh Nat
 |[]=>none
 | .sl id _ _ _::r=>match h.get id with
  |some (.cells _ _)=>some id
  |_=>M8 h r
 |_::r=>M8 h r
def Bv(st:St):H1 Operand->Zh Nat
 |[]=>none
 | .tmp t::r=>match st.tm.get t with
  |some (.ptr id _)=>match st.h.get id with
   |some (.cells cs _)=>match M8 st.h cs with
    |some i=>some i
    |none=>Bv st r
   |_=>Bv st r
  |_=>Bv st r
 |_::r=>Bv st r
def Vy(st:St):H1 Oper->Zh Nat
 |[]=>none
 |o::r=>match Bv st o.op.operands.toList with
  |some i=>some i
  |none=>Vy st r
def Kz(st:St)(id:Nat)(K:St->Zh β):Zh β:=ob (st.h.get id) λso=>match so with
 | .cells cs t=>ob (tN (gv (jj 1000 (SV.kg cs) .nil (st.h.del id)).1 20) cs) λus=>K {st with h:=(jj 1000 (SV.kg cs) .nil (st.h.del id)).2.set id (.arr us t)}
 |_=>bC 91
def KB(b:Bool)(ops:H1 Oper)(st:St)(K:St->Zh β):Zh β:=cond b (match Vy st ops with|some id=>Kz st id K|none=>K st) (K st)
def rE(g:Bool):H1 SV->H1 Nat
 |[]=>[]
 | .sl id _ _ _::r=>id::rE g r
 | .gr id _::r=>cond g (id::rE g r) (rE g r)
 |_::r=>rE g r
def Sn(g:Bool)(A:Tr SO):SV->Zh SV
 | .sl id off n c=>ob (gv A 20 (.sl id off n c)) λu=>some (.v u)
 | .gr id E=>cond g (ob (gv A 20 (.gr id E)) λu=>some (.v u)) (some (.gr id E))
 |x=>some x
def Ef(id:Nat)(g:Bool)(st:St)(K:St->Zh β):Zh β:=ob (st.h.get id) λso=>match so with
 | .cells cs t=>ob (tN (Sn g (jj 1000 (rE g cs) .nil (st.h.del id)).1) cs) λus=>K {st with h:=(jj 1000 (rE g cs) .nil (st.h.del id)).2.set id (.cells us t)}
 |_=>bC 91
def Se(b:Bool)(st:St)(K:St->Zh β):Zh β:=cond b (Ef 0 false st K) (K st)
def Bu(m:Nat)(st:St):H1 Operand->Zh Nat
 |[]=>none
 | .tmp t::r=>match st.tm.get t with
  |some (.ptr id _)=>match st.h.get id with
   |some (.cells cs _)=>cond (Nat.blt m cs.length&&!(rE true cs).isEmpty) (some id) (Bu m st r)
   |_=>Bu m st r
  |_=>Bu m st r
 |_::r=>Bu m st r
def Vx(m:Nat)(st:St):H1 Oper->Zh Nat
 |[]=>none
 |o::r=>match Bu m st o.op.operands.toList with
  |some i=>some i
  |none=>Vx m st r
def KA(m:Nat)(b:Bool)(ops:H1 Oper)(st:St)(K:St->Zh β):Zh β:=cond b (match Vx m st ops with|some id=>Ef id true st K|none=>K st) (K st)
def Ts(st:St):H1 Oper->Zh (Nat×Nat)
 |[]=>none
 |o::r=>match Ts st r with
  |some q=>some q
  |none=>match o.dst with
   |some t=>match st.tm.get t with
    |some (.sl id _ _ _)=>some (t,id)
    |_=>none
   |none=>none
def KC(t:Nat)(st:St)(K:St->Zh β):Zh β:=ob (st.tm.get t) λsv=>match sv with
 | .sl id off n c=>ob (st.h.get id) λso=>match so with
  | .arr us ty=>cond ((Nat.beq off 0&&Nat.beq n c)&&(Nat.blt 0 (us.length/n)&&Nat.beq (n*(us.length/n)) us.length)) (K ⟨st.tm.set t (.gr st.sx (us.length/n)),(st.h.del id).set st.sx (.grow (us.length/n) us ty),st.sx+1⟩) (bC 93)
  |_=>bC 93
 |_=>bC 93
def AI(b:Bool)(ops:H1 Oper)(st:St)(K:St->Zh β):Zh β:=cond b (match Ts st ops with|some q=>(match st.h.get q.2 with|some (.arr _ _)=>KC q.1 st K|_=>Kz st q.2 λst=>KC q.1 st K)|none=>K st) (K st)
def KF(st:St):H1 Operand->Zh Nat
 |[]=>none
 | .tmp t::r=>match st.tm.get t with
  |some (.gr _ _)=>some t
  |_=>KF st r
 |_::r=>KF st r
def Si(st:St):H1 Oper->Zh Nat
 |[]=>none
 |o::r=>match KF st o.op.operands.toList with
  |some t=>some t
  |none=>Si st r
def KD(b:Bool)(ops:H1 Oper)(st:St)(K:St->Zh β):Zh β:=cond b (match Si st ops with|some t=>ob (st.tm.get t) λsv=>ob (gv (jj 1000 (SV.ids sv) .nil st.h).1 20 sv) λu=>K {st with tm:=st.tm.set t (.v u),h:=(jj 1000 (SV.ids sv) .nil st.h).2 }|none=>K st) (K st)
theorem adB{cs:H1 Qu}{r:Zh β}{b:β}(e:oP cs r=some b):cs=[]/\r=some b:=by
 unfold oP at e
 grind
def fF(ls:H1 bq):Prop:=∀x,bq.v x∈ls->aZ [x]=true
theorem fF.nil:fF []:=λx hx=>by cases hx
theorem fF.one{x:Qu}(h:aZ [x]=true):fF [.v x]:=λy hy=>by simp at hy;rw[hy];exact h
theorem fF.tail{l:bq}{ls:H1 bq}(h:fF (l::ls)):fF ls:=λx hx=>h x (lU _ hx)
theorem fF.append{xs ys:H1 bq}(h:fF xs)(k:fF ys):fF (xs++ys):=λx hx=>(fQ.1 hx).elim (h x) (k x)
theorem Fb{x:Qu}{r:H1 Qu}(h:aZ (x::r)=true):aZ r=true:=by rw[qv,bt] at h;exact h.2
theorem AY:∀(ts:H1 VT)(cs:H1 Qu)(K:H1 bq->Zh β)(b:β),xR ts cs K=some b->
 ∃ls,K ls=some b/\(aZ cs=true->fF ls)/\∀rest,fR ts (ls++rest)=some (cs,rest)
 |[],cs,K,b,e=>by obtain⟨rfl,e⟩:=adB e;exact⟨[],e,λ_ x hx=>(by cases hx),λrest=>by unfold fR;rfl⟩
 | .i k::ts,cs0,K,b,e=>by
  obtain⟨x,cs,rfl,e2⟩:=zz e;unfold aw at e2;split at e2
  ·obtain⟨e1,f⟩:=aW e2;have:=ny e1;subst this;obtain⟨ls,h1,h2,h3⟩:=AY ts cs _ b f;refine⟨_,h1,λp y hy=>?_,λrest=>?_⟩
   ·rcases cX.1 hy with hy|hy
    ·cases hy
    ·exact h2 (Fb p) y hy
   ·show fR _ (_::(ls++rest))=_;show ob (fR ts (ls++rest)) _=_;rw[h3];rfl
  ·cases e2
 | .b::ts,cs0,K,b,e=>by
  obtain⟨x,cs,rfl,e2⟩:=zz e;unfold Ac at e2;split at e2
  ·obtain⟨ls,h1,h2,h3⟩:=AY ts cs _ b e2;refine⟨_,h1,λp y hy=>?_,λrest=>?_⟩
   ·rcases cX.1 hy with hy|hy
    ·cases hy
    ·exact h2 (Fb p) y hy
   ·show fR _ (_::(ls++rest))=_;show ob (fR ts (ls++rest)) _=_;rw[h3];rfl
  ·cases e2
 | .s::ts,cs0,K,b,e=>by
  obtain⟨x,cs,rfl,e2⟩:=zz e;unfold Ad at e2;split at e2
  ·obtain⟨ls,h1,h2,h3⟩:=AY ts cs _ b e2;refine⟨_,h1,λp y hy=>?_,λrest=>?_⟩
   ·rcases cX.1 hy with hy|hy
    ·cases hy
    ·exact h2 (Fb p) y hy
   ·show fR _ (_::(ls++rest))=_;show ob (fR ts (ls++rest)) _=_;rw[h3];rfl
  ·cases e2
 | .v::ts,cs0,K,b,e=>by
  obtain⟨x,cs,rfl,e⟩:=zz e;obtain⟨ls,h1,h2,h3⟩:=AY ts cs _ b e;refine⟨_,h1,λp y hy=>?_,λrest=>?_⟩
  ·rcases cX.1 hy with hy|hy
   ·cases hy;exact(by rw[qv,bt] at p;exact p.1)
   ·exact h2 (Fb p) y hy
  ·show fR _ (_::(ls++rest))=_;show ob (fR ts (ls++rest)) _=_;rw[h3];rfl
theorem vx{γ:Type}{R:SV->Qu->Prop}{S:γ->Qu->Prop}{g:SV->Zh γ}(H:∀x u v,g x=some u->R x v->S u v):∀{xs:H1 SV}{us:H1 γ},tN g xs=some us->∀{vs:H1 Qu},PW R xs vs->PW S us vs
 |[],us,e,vs,d=>by cases e;rw[d.dY];exact .nil
 |x::xs,us,e,vs,d=>by obtain⟨u,h1,e⟩:=ax e;obtain⟨r,h2,e⟩:=ax e;cases e;obtain⟨y,ys,rfl,a,t⟩:=d.inv;exact .cons (H _ _ _ h1 a) (vx H h2 t)
structure Seen(σ:Ren)(m:Nat->Nat->Option Value)(h:Tr SO)(w:World):Prop where
 lit:∀b i v,σ.lit b i=some v->m b i=some v
 obj:∀id so,h.get id=some so->DO σ w id so
 cell:∀id so,h.get id=some so->∀o n,σ.nm id=some (some o,n)->∀i v,fJ w o.1 i=some v->m o.1 i=some v
theorem Seen.of{σ:Ren}{m:Nat->Nat->Zh Qu}{h:Tr SO}{w:Hx}(S:Seen σ m h w){id n:Nat}{so:SO}{o:Nat×Nat}{cs:Array Qu}{t:TypeId}(ho:h.get id=some so)(hn:σ.nm id=some (some o,n))(c:Cl w o.1 cs t){i:Nat}{v:Qu}(hi:cs.toList[i]? =some v):m o.1 i=some v:=by obtain⟨fz,c,_⟩:=c;exact S.cell _ _ ho _ _ hn i v (by rw[sq c];simpa using hi)
theorem V6{α γ:Type}{R S:α->γ->Prop}{xs:H1 α}{ys:H1 γ}(h:PW (λx y=>R x y/\S x y) xs ys):PW R xs ys/\PW S xs ys:=⟨h.mono λ_ _ q=>q.1,h.mono λ_ _ q=>q.2⟩
theorem V7{us:H1 Qu}{vs:H1 Qu}(h:PW (λu (_:Qu)=>aZ [u]=true) us vs):aZ us=true:=iV.2 λu hu=>by obtain⟨i,hi⟩:=List.mem_iff_getElem?.1 hu;obtain⟨_,_,q⟩:=h.get hi;exact q
theorem acO{m:Nat->Nat->Zh Qu}{k:Qu}(h:K2 k=true):aK m k k:=by
 unfold K2 at h;split at h
 ·rename_i xs;refine .agg rfl λi x y a b=>?_;rw[a] at b;cases b;have:=iE.1 h x (ou a);split at this
  ·exact .int _ _
  ·cases this
 ·cases h
theorem Sm{σ:Ren}{m:Nat->Nat->Zh Qu}{g:SV->Zh Qu}(H:∀x u v,g x=some u->DV σ x v->aK m u v):∀{es:H1 (Qu×SV)}{us:H1 Qu}{es':H1 MapEntry},KG g es=some us->PW (I4 σ) es es'->PW (aK m) us (es'.map λe=>.func (.func 0) #[e.key] #[e.val])
 |[],us,es',e,p=>by cases e;rw[p.dY];exact .nil
 |x::es,us,es',e,p=>by
  obtain⟨y,ys,rfl,a,t⟩:=p.inv;obtain⟨hk,e⟩:=aW e;obtain⟨u,h1,e⟩:=ax e;obtain⟨r,h2,e⟩:=ax e;cases e;have hv:aK m u y.val:=by
   have d:=a.2;unfold Sl at h1;split at h1
   ·rename_i l hl;obtain⟨q,h3,e⟩:=ax h1;cases e;rw[hl] at d;generalize y.val=z at d;cases d with
    |agg d1 d2=>have q:=vx H h3 ⟨d1,d2⟩;exact .agg q.1 q.2
   ·exact H _ _ _ h1 d
  have key:aK m x.1 y.key:=by rw[a.1];exact acO hk
  exact .cons (.fn rfl (λi x y p q=>by cases i<;>simp at p q;subst p q;exact key) rfl λi x y p q=>by cases i<;>simp at p q;subst p q;exact hv) (Sm H h2 t)
theorem oK{σ:Ren}{m:Nat->Nat->Zh Qu}{h:Tr SO}{w:Hx}(S:Seen σ m h w):∀(f:Nat)(x:SV)(u v:Qu),gv h f x=some u->DV σ x v->aK m u v/\aZ [u]=true
 |0,_,_,_,e,_=>by cases e
 |f+1,x,u,v,e,d=>by
  unfold gv at e;split at e
  ·cases e;cases d;exact⟨.int _ _,rfl⟩
  ·cases e;cases d;exact⟨.bool _,rfl⟩
  ·cases e;cases d;exact⟨.str _,rfl⟩
  ·cases e;cases d with
   |v h h1=>exact⟨h.mono S.lit,h1⟩
  ·cases e;cases d;exact⟨.fW,rfl⟩
  ·cases e;cases d;exact⟨.nilIface,rfl⟩
  ·obtain⟨r,o⟩:=Zq d e;exact⟨r.mono S.lit,o⟩
  ·rename_i id E;obtain⟨so,hso,e⟩:=ax e;split at e
   ·rename_i E' c t;obtain⟨q,e1⟩:=aW e;clear e;replace q:=bT q;subst q;cases e1;obtain⟨hE,oc,D⟩:=S.obj _ _ hso;cases d with
    |jJ g=>
     rcases D with⟨_,rfl⟩|⟨o,n,cs,k,_⟩
     ·exact⟨by simp only[List.length_nil,Nat.zero_div];exact .fW,rfl⟩
     ·rw[g] at k;cases k
    |gr g hc hn=>
     rcases D with⟨k,_⟩|⟨o',n',cs,k,cl,h1,h2,h3,h4⟩
     ·rw[g] at k;cases k
     ·have k':=g.symm.trans k;simp only[tb,Prod.mk.injEq] at k';obtain⟨rfl,rfl⟩:=k';rw[h2,ir _ hE];have h4:=h4.mono λ_ _=>aK.mono S.lit;refine⟨.kv h4.1 h4.2 (λi y hy=>?_) rfl hn oc,rfl⟩;rw[o6] at hy;split at hy
      ·rw[fI];exact S.of hso k cl hy
      ·cases hy
   ·cases e
  ·rename_i id off n cap;obtain⟨so,hso,e⟩:=ax e;cases d with
   |sl g hn=>
   split at e
   ·rename_i c t;obtain⟨_,e⟩:=aW e;cases e;obtain⟨o',n',cs,k,cl,oc,r⟩:=S.obj _ _ hso;rw[g] at k;cases k;have r:=(r.mono λ_ _=>aK.mono S.lit).drop off;refine⟨.kv r.1 r.2 (λi y hy=>?_) rfl hn (re oc λx hx=>qN hx),rfl⟩;rw[s8] at hy;exact S.of hso g cl hy
   ·rename_i cs0 t;obtain⟨_,e⟩:=aW e;obtain⟨us,hu,e⟩:=ax e;cases e;obtain⟨o',n',cs,k,cl,r⟩:=S.obj _ _ hso;rw[g] at k;cases k;obtain⟨r1,r2⟩:=V6 (vx (λx u v e d=>oK S f x u v e d) hu (r.drop off));refine⟨.kv r1.1 r1.2 (λi y hy=>?_) rfl hn (V7 r2),rfl⟩;rw[s8] at hy;exact S.of hso g cl hy
   ·cases e
  ·rename_i id;obtain⟨so,hso,e⟩:=ax e;split at e
   ·rename_i es;obtain⟨us,hu,e1⟩:=ax e;cases e1;obtain⟨o',n',es',ck,k,cl,r⟩:=S.obj _ _ hso;cases d with
    |mp g=>
    rename_i n2 o2;have ho:o2=o':=by have g':=g.symm.trans k;simp only[tb,Prod.mk.injEq] at g';exact g'.1
    rw[ho];have q:=Sm (λx u v e d=>(oK S f x u v e d).1) hu r;exact⟨.EF q.1 q.2 λi=>S.cell _ _ hso _ _ k i _ (by unfold fJ;rw[cl];rfl),rfl⟩
   ·cases e
  ·cases e
open Classical in
noncomputable def kI(σ:Ren)(A:Nat->SO->Prop)(w:Hx)(b i:Nat):Zh Qu:=if Own σ A b then fJ w b i else σ.lit b i
theorem Mem.AJ{B:Bs}{σ:Ren}{G A G':Nat->SO->Prop}{F:Nat->Prop}{w:Hx}(M:Mem B σ G F w)(sA:∀id so,A id so->G id so)(sG:∀id so,G' id so->∃so',G id so'/\∀s,¬A id s)(ob:Ext σ ⟨σ.nm,kI σ A w⟩->∀id so,G' id so->DO ⟨σ.nm,kI σ A w⟩ w id so):
 Ext σ ⟨σ.nm,kI σ A w⟩/\Mem B ⟨σ.nm,kI σ A w⟩ G' F w:=by
 have ow:∀b,Own σ A b->Own σ G b:=λb ⟨i,s,o,n,a,p,q⟩=>⟨i,s,o,n,sA i s a,p,q⟩;have me:∀b i v,σ.lit b i=some v->kI σ A w b i=some v:=λb i v h=>by unfold kI;rw[aq λq=>M.free b i v h (ow b q)];exact h
 have E:Ext σ ⟨σ.nm,kI σ A w⟩:=⟨λ_ _ h=>h,me⟩;have ow':∀b,Own ⟨σ.nm,kI σ A w⟩ G' b->Own σ G b/\¬Own σ A b:=λb ⟨i,s,o,n,a,p,q⟩=>by obtain⟨s',k1,k2⟩:=sG i s a;refine⟨⟨i,s',o,n,k1,p,q⟩,λ⟨j,s2,o2,n2,a2,p2,q2⟩=>?_⟩;have:=M.inj _ _ _ _ _ _ _ _ k1 (sA j s2 a2) p p2 (q.trans q2.symm);subst this;exact k2 _ a2
 refine⟨E,ob E,λi j s s' o o' n n' a a' p p' q=>?_,M.fresh,λb i v h=>?_,λb i v h q=>?_,M.base,λb q=>M.owned b (ow' b q).1,λb i v h=>?_,M.jU,λb i v h=>me b i v (M.mW b i v h)⟩
 ·obtain⟨_,k,_⟩:=sG i s a;obtain⟨_,k',_⟩:=sG j s' a';exact M.inj _ _ _ _ _ _ _ _ k k' p p' q
 ·simp only[kI] at h;split at h
  ·exact h
  ·exact M.lit b i v h
 ·obtain⟨q1,q2⟩:=ow' b q;simp only[kI] at h;rw[aq q2] at h;exact M.free b i v h q1
 ·simp only[kI] at h;split at h
  ·rename_i q;exact .inr (M.owned b (ow b q))
  ·exact M.lP b i v h
theorem Mem.seen{B:Bs}{σ:Ren}{G:Nat->SO->Prop}{F:Nat->Prop}{w:Hx}{h:Tr SO}(M:Mem B σ G F w)(s:∀id so,h.get id=some so->G id so):Seen σ (kI σ (hG h) w) h w:=
 ⟨λb i v q=>by unfold kI;rw[aq λ⟨j,so,o,n,a,p,r⟩=>M.free b i v q ⟨j,so,o,n,s j so a,p,r⟩];exact q,λi so q=>M.obj i so (s i so q),λi s h o n hn j v hv=>by unfold kI;rw[ay ⟨i,s,o,n,h,hn,rfl⟩];exact hv⟩
theorem Sc{st:St}{id:Nat}{K:St->Zh β}{b:β}(e:Kz st id K=some b):∃st',K st'=some b/\∀{B:Bs}{σ:Ren}{a:Act}{w:Hx},dK B σ st a w->∃σ',dK B σ' st' a w:=by
 obtain⟨so,hso,e⟩:=ax e;split at e
 case h_2=>cases e
 rename_i cs t;obtain⟨us,hu,e⟩:=ax e;refine⟨_,e,λ{B σ a w} R=>?_⟩;have mv:=xT (h:=st.h.del id) 1000 (SV.kg cs) .nil (st.h.del id) (λi s h=>by rw[Tr.get_nil] at h;cases h) λi s h=>⟨h,Tr.get_nil _⟩;generalize(jj 1000 (SV.kg cs) .nil (st.h.del id)).1 =A at mv hu;generalize(jj 1000 (SV.kg cs) .nil (st.h.del id)).2 =r at mv;have dl:∀{i s},(st.h.del id).get i=some s->i≠id/\st.h.get i=some s:=λ{i s} h=>by rw[Tr.sk] at h;grind
 have mA:∀i s,A.get i=some s->i≠id/\st.h.get i=some s:=λi s h=>dl (mv.1 i s h).1;have S:=R.mem.seen λi s h=>(mA i s h).2;obtain⟨E,M⟩:=R.mem.AJ (A:=hG A) (G':=hG (r.set id (.arr us t))) (λi s h=>(mA i s h).2) (λi s h=>by
  simp only[hG,Tr.fN] at h;split at h
  ·rename_i q;subst q;exact⟨_,hso,λs q=>(mA i s q).1 rfl⟩
  ·exact⟨s,(dl (mv.2 i s h).1).2,λs' q=>by have:=(mv.2 i s h).2;rw[show A.get i=some s' from q] at this;cases this⟩) λE i s h=>by
  simp only[hG,Tr.fN] at h;split at h
  ·rename_i q;subst q;cases h;obtain⟨o,n,cs',g1,g2,g3⟩:=R.mem.obj _ _ hso;obtain⟨r1,r2⟩:=V6 (vx (λx u v e d=>oK S 20 x u v e d) hu g3);exact⟨o,n,cs',g1,g2,V7 r2,r1⟩
  ·exact(R.mem.obj i s (dl (mv.2 i s h).1).2).mono E λ_ _ _=>rfl
 exact⟨_,R.size,R.dQ,λk sv h=>(R.ev k sv h).mono E,M⟩
theorem Sd{id:Nat}{g:Bool}{st:St}{K:St->Zh β}{b:β}(e:Ef id g st K=some b):∃st',K st'=some b/\∀{B:Bs}{σ:Ren}{a:Act}{w:Hx},dK B σ st a w->∃σ',dK B σ' st' a w:=by
 unfold Ef at e;obtain⟨so,hso,e⟩:=ax e;split at e
 case h_2=>cases e
 rename_i cs t;obtain⟨us,hu,e⟩:=ax e;refine⟨_,e,λ{B σ a w} R=>?_⟩;have mv:=xT (h:=st.h.del id) 1000 (rE g cs) .nil (st.h.del id) (λi s h=>by rw[Tr.get_nil] at h;cases h) λi s h=>⟨h,Tr.get_nil _⟩;generalize(jj 1000 (rE g cs) .nil (st.h.del id)).1 =A at mv hu;generalize(jj 1000 (rE g cs) .nil (st.h.del id)).2 =r at mv;have dl:∀{i s},(st.h.del id).get i=some s->i≠id/\st.h.get i=some s:=λ{i s} h=>by rw[Tr.sk] at h;grind
 have mA:∀i s,A.get i=some s->i≠id/\st.h.get i=some s:=λi s h=>dl (mv.1 i s h).1;have S:=R.mem.seen λi s h=>(mA i s h).2;obtain⟨E,M⟩:=R.mem.AJ (A:=hG A) (G':=hG (r.set id (.cells us t))) (λi s h=>(mA i s h).2) (λi s h=>by
  simp only[hG,Tr.fN] at h;split at h
  ·rename_i q;subst q;exact⟨_,hso,λs q=>(mA _ s q).1 rfl⟩
  ·exact⟨s,(dl (mv.2 i s h).1).2,λs' q=>by have:=(mv.2 i s h).2;rw[show A.get i=some s' from q] at this;cases this⟩) λE i s h=>by
  simp only[hG,Tr.fN] at h;split at h
  ·rename_i q;subst q;cases h;obtain⟨o,n,cs',g1,g2,g3⟩:=R.mem.obj _ _ hso;refine⟨o,n,cs',g1,g2,vx (λx u v e d=>?_) hu g3⟩;unfold Sn at e;split at e
   ·obtain⟨q,h1,e⟩:=ax e;cases e;obtain⟨a,b⟩:=oK S 20 _ _ _ h1 d;exact .v a b
   ·cases g with
    |true=>obtain⟨q,h1,e⟩:=ax e;cases e;obtain⟨a,b⟩:=oK S 20 _ _ _ h1 d;exact .v a b
    |false=>cases e;exact d.mono E
   ·cases e;exact d.mono E
  ·exact(R.mem.obj i s (dl (mv.2 i s h).1).2).mono E λ_ _ _=>rfl
 exact⟨_,R.size,R.dQ,λk sv h=>(R.ev k sv h).mono E,M⟩
theorem abP{z:Bool}{st:St}{K:St->Zh β}{b:β}(e:Se z st K=some b):∃st',K st'=some b/\∀{B:Bs}{σ:Ren}{a:Act}{w:Hx},dK B σ st a w->∃σ',dK B σ' st' a w:=by
 cases z with
 |false=>exact⟨st,e,λR=>⟨_,R⟩⟩
 |true=>exact Sd e
theorem abN{m:Nat}{z:Bool}{ops:H1 Oper}{st:St}{K:St->Zh β}{b:β}(e:KA m z ops st K=some b):∃st',K st'=some b/\∀{B:Bs}{σ:Ren}{a:Act}{w:Hx},dK B σ st a w->∃σ',dK B σ' st' a w:=by
 unfold KA at e;cases z with
 |false=>exact⟨st,e,λR=>⟨_,R⟩⟩
 |true=>
  rw[aC] at e;split at e
  ·exact Sd e
  ·exact⟨st,e,λR=>⟨_,R⟩⟩
theorem abQ{z:Bool}{ops:H1 Oper}{st:St}{K:St->Zh β}{b:β}(e:KB z ops st K=some b):∃st',K st'=some b/\∀{B:Bs}{σ:Ren}{a:Act}{w:Hx},dK B σ st a w->∃σ',dK B σ' st' a w:=by
 unfold KB at e;cases z with
 |false=>exact⟨st,e,λR=>⟨_,R⟩⟩
 |true=>
  rw[aC] at e;split at e
  ·exact Sc e
  ·exact⟨st,e,λR=>⟨_,R⟩⟩
theorem Sf{t:Nat}{st:St}{K:St->Zh β}{b:β}(e:KC t st K=some b):∃st',K st'=some b/\∀{B:Bs}{σ:Ren}{a:Act}{w:Hx},dK B σ st a w->∃σ',dK B σ' st' a w:=by
 obtain⟨sv,hsv,e⟩:=ax e;split at e
 case h_2=>cases e
 rename_i id off n c;obtain⟨so,hso,e⟩:=ax e;split at e
 case h_2=>cases e
 rename_i us ty;obtain⟨hq,e2⟩:=aW e;clear e;simp only[bt] at hq;obtain⟨⟨h1,h2⟩,h3,h4⟩:=hq;have h1:=bT h1;have h2:=bT h2;have h3:=fb h3;have h4:=bT h4;subst h1 h2;refine⟨_,e2,λ{B σ a w} R=>?_⟩;obtain⟨o,m,cs,g1,cl,on,r⟩:=R.mem.obj _ _ hso;have hl:us.length=cs.size:=r.1;obtain⟨E,M⟩:=R.mem.swap (id:=id) (x:=(some (o.1,us.length),n)) (so:=.grow (us.length/n) us ty) (w':=w) (aM _) (eS.refl _ _) (λo' n' h=>.inr ⟨_,m,o,hso,g1,by cases h;rfl⟩) (λ_ _ _ _ _ _ _=>rfl)
  ⟨h3,on,.inr ⟨(o.1,us.length),n,cs,Ren.jE ..,cl,hl,h4.symm,ta hl,by rw[eQ (by rw[hl];exact aM _)];exact r⟩⟩
 refine⟨_,R.size,R.dQ,λk sv h=>?_,jb.next (qb _) M⟩;rw[Tr.fN] at h;split at h
 ·rename_i q;cases h;subst q;have d:=R.ev _ _ hsv;generalize a.eval (.tmp k)=v at d⊢;cases d with
  |sl g hn=>rw[g1] at g;cases g;exact DV.gr (o:=(o.1,us.length)) (Ren.jE ..) h4 (aM _)
 ·exact(R.ev k sv h).mono E
theorem abO{z:Bool}{ops:H1 Oper}{st:St}{K:St->Zh β}{b:β}(e:AI z ops st K=some b):∃st',K st'=some b/\∀{B:Bs}{σ:Ren}{a:Act}{w:Hx},dK B σ st a w->∃σ',dK B σ' st' a w:=by
 unfold AI at e;cases z with
 |false=>exact⟨st,e,λR=>⟨_,R⟩⟩
 |true=>
  rw[aC] at e;split at e
  ·split at e
   ·exact Sf e
   obtain⟨st1,e,h1⟩:=Sc e;obtain⟨st2,e,h2⟩:=Sf e;exact⟨st2,e,λR=>(h1 R).elim λ_ R1=>h2 R1⟩
  ·exact⟨st,e,λR=>⟨_,R⟩⟩
theorem abR{z:Bool}{ops:H1 Oper}{st:St}{K:St->Zh β}{b:β}(e:KD z ops st K=some b):∃st',K st'=some b/\∀{B:Bs}{σ:Ren}{a:Act}{w:Hx},dK B σ st a w->∃σ',dK B σ' st' a w:=by
 unfold KD at e;cases z with
 |false=>exact⟨st,e,λR=>⟨_,R⟩⟩
 |true=>
 rw[aC] at e;split at e
 case h_2=>exact⟨st,e,λR=>⟨_,R⟩⟩
 rename_i t _;obtain⟨sv,hsv,e⟩:=ax e;obtain⟨u,hu,e⟩:=ax e;refine⟨_,e,λ{B σ a w} R=>?_⟩;have mv:=xT (h:=st.h) 1000 (SV.ids sv) .nil st.h (λi s h=>by rw[Tr.get_nil] at h;cases h) λi s h=>⟨h,Tr.get_nil _⟩;generalize(jj 1000 (SV.ids sv) .nil st.h).1 =A at mv hu;generalize(jj 1000 (SV.ids sv) .nil st.h).2 =r at mv;have S:=R.mem.seen λi s h=>(mv.1 i s h).1;obtain⟨E,M⟩:=R.mem.AJ (A:=hG A) (G':=hG r) (λi s h=>(mv.1 i s h).1) (λi s h=>⟨s,(mv.2 i s h).1,λs' q=>by have:=(mv.2 i s h).2;rw[show A.get i=some s' from q] at this;cases this⟩) λE i s h=>(R.mem.obj i s (mv.2 i s h).1).mono E λ_ _ _=>rfl;refine⟨_,R.size,R.dQ,λk x h=>?_,M⟩;rw[Tr.fN] at h;split at h
 ·rename_i q;cases h;subst q;obtain⟨p,q⟩:=oK S 20 _ _ _ hu (R.ev _ _ hsv);exact .v p q
 ·exact(R.ev k x h).mono E
end
section
variable{β:Type}
structure jS(β:Type) where
 len:Nat
 t:cL
 F:Fn t.ks (Option β)
def vz(d:Nat):H1 (jS β)->Zh (jS β)
 |[]=>none
 |r::rs=>cond (Nat.beq r.len d) (some r) (vz d rs)
def zx(d:Nat):H1 (jS β)->H1 (jS β)
 |[]=>[]
 |r::rs=>cond (Nat.ble r.len d) (r::zx d rs) (zx d rs)
structure Ctx(β:Type) where
 X:eC
 pt:FuncId->Option (cD β)
 n:Nat
 rs:List ResultVar
 lv:Nat->Option cL
 jv:Nat->Option cL
 un:Nat->Bool
 df:Bool
 fuel:Nat
 an:Nat
 iw:SV->St->Option β
 mj:SV->St->Option β
def lp{α:Type}(z:α)(F:α->α)(n:Nat):α:=Nat.rec z (λ_ r=>F r) n
def amy{α γ:Type}(J:α)(F:α->γ):γ:=F J
def vu(un:Nat->Bool)(n:Nat):Bool:=cond (un 999999) false (un n)
def adh:H1 Item->Zh Nat
 | .inBlock id::_=>some id
 |_=>none
def Ej:Code->Zh Nat
 | .region id _ _=>some id
 | .seq a _=>Ej a
 | .block _ a=>Ej a
 | .scope a=>Ej a
 |_=>none
def yn(c:Operand)(q:Bool)(st:St):St:=match c with
 | .tmp t=>{st with tm:=st.tm.set t (.b q)}
 |_=>st
def vo(T:TT)(st:St):H1 ResultVar->(H1 SV->Zh β)->Zh β
 |[],K=>K []
 | .tmp t::rs,K=>ob (st.tm.get t) λv=>vo T st rs λvs=>K (v::vs)
 | .cell a t::rs,K=>ob (st.tm.get a) λp=>Nu T st t p λv=>vo T st rs λvs=>K (v::vs)
def AB(iw:SV->St->Zh β)(st:St):H1 SV->Zh β
 |[v]=>iw v st
 |vs=>iw (.aH vs) st
def coC:Code->Nat
 | .skip=>0
 | .region ..=>1
 | .seq ..=>2
 | .cond ..=>3
 | .block ..=>4
 | .loop ..=>5
 | .rangeFunc ..=>6
 | .exit ..=>7
 | .scope ..=>8
 | .label ..=>9
 | .goto ..=>10
 | .ret=>11
 | .refuse ..=>12
section
variable[QF]
noncomputable def JT(C:Ctx β)(go:H1 (jS β)->H1 Item->St->Zh β)(rs:H1 (jS β))(todo:H1 Item)(st:St):Zh β:=
 match vz todo.length rs with
 |some r=>lk C.an r.t st λls=>iI r.t.ks r.F ls
 |none=>match todo with
  |[]=>cond C.df (C.iw (.aH []) st) (vo C.X.T st C.rs (AB C.iw st))
  | .code .ret::_=>cond C.df (C.iw (.aH []) st) (vo C.X.T st C.rs (AB C.iw st))
  | .code .skip::k=>go rs k st
  | .code (.label _)::k=>go rs k st
  | .inBlock _::k=>go rs k st
  | .inScope _::k=>go rs k st
  | .code (.seq x y)::k=>match Ej y with
   |some key=>match C.jv key with
    |some t=>amy (mc t.ks λls=>ob (iy t ls) λst'=>go rs (.code y::k) st') λJ=>go (⟨(Item.code y::k).length,t,J⟩::rs) (.code x::.code y::k) st
    |none=>go rs (.code x::.code y::k) st
   |none=>go rs (.code x::.code y::k) st
  | .code (.cond c x y)::k=>ob (dH st.tm c) λv=>match v with
   | .b q=>cond q (go rs (.code x::k) (yn c true st)) (go rs (.code y::k) (yn c false st))
   |_=>bC 37
  | .code (.block id x)::k=>go rs (.code x::.inBlock id::k) st
  | .inLoop x::k=>go rs (.code x::.inLoop x::k) st
  | .code (.loop x)::k=>ob (adh k) λkey=>cond (C.un key) (go rs (.code x::.inLoop x::k) st) (ob (C.lv key) λt=>lk C.an t st λls=>
   iI t.ks (lp (iZ t.ks) (λrec=>mc t.ks λls=>ob (iy t ls) λst'=>go (⟨(Item.inLoop x::k).length,t,rec⟩::rs) (.code x::.inLoop x::k) st') C.fuel) ls)
  | .code (.scope x)::k=>go rs (.code x::.inScope x::k) st
  | .code (.exit id)::k=>ob (exitTo id k) λk1=>go (zx k1.length rs) k1 st
  | .code (.region l ops d)::k=>KB (C.un (100000+l)) ops.toList st λst=>Se (vu C.un (300000+l)) st λst=>KA (cond (C.un (700000+l)) 0 1) (vu C.un (400000+l)) ops.toList st λst=>KD (vu C.un (600000+l)) ops.toList st λst=>cond d (Ri (vu C.un (200000+l)) C.X C.pt C.n ops (pK ops.toList []) st λq st'=>match q with|none=>AI (vu C.un (500000+l)) ops.toList st' λst'=>go rs k st'|some v=>C.mj v st')
   (yC C.X C.pt C.n ops ops.toList st λq st'=>match q with|none=>AI (vu C.un (500000+l)) ops.toList st' λst'=>go rs k st'|some v=>C.mj v st')
  | .code c::_=>bC (200+coC c)
  |_=>bC 38
noncomputable def dn(C:Ctx β)(n:Nat):H1 (jS β)->H1 Item->St->Zh β:=Nat.rec (motive:=λ_=>H1 (jS β)->H1 Item->St->Zh β) (λ_ _ _=>none) (λ_ go=>JT C go) n
end
theorem aii{st:St}{c:Operand}{q:Bool}(e:dH st.tm c=some (.b q)):Sub (yn c q st).tm st.tm/\(yn c q st).h=st.h/\(yn c q st).sx=st.sx:=by
 cases c with
 |tmp t=>
  refine⟨λs sv h=>?_,rfl,rfl⟩;replace h:(st.tm.set t (.b q)).get s=some sv:=h;rw[Tr.fN] at h;split at h
  ·rename_i k;rw[k];cases h;exact e
  ·exact h
 |_=>exact⟨λ_ _ h=>h,rfl,rfl⟩
def nC(P:Program)(todo:H1 Item)(Q:Exit->Act->Hx->Prop)(a:Act)(w:Hx):Prop:=
 ∀(b:Frame)(k:H1 Item)(cs:H1 Frame),∃e a' w',Q e a' w'/\Arrives P (lone (b.at a (todo++k)) cs w) b k cs e a' w'
section
variable{P:Program} {Q:Exit->Act->Hx->Prop} {a:Act} {w:Hx} {T T':H1 Item}
theorem nC.step(h:∀(b:Frame)(k:H1 Item)(cs:H1 Frame),step P (lone (b.at a (T++k)) cs w)=.next (lone (b.at a (T'++k)) cs w))(g:nC P T' Q a w):nC P T Q a w:=λb k cs=>
 let⟨e,a',w',q,r⟩:=g b k cs;⟨e,a',w',q,.of_steps (.one (h b k cs)) r⟩
theorem nC.code{c:Code}(h:c.wp P (λe a w=>match e with| .normal=>nC P T Q a w| .panic ch=>Q (.panic ch) a w|_=>False) a w):nC P (.code c::T) Q a w:=λb k cs=>by
 obtain⟨e,a1,w1,q,r⟩:=h b (T++k) cs;cases e with
 |normal=>obtain⟨e2,a2,w2,q2,r2⟩:=q b k cs;exact⟨e2,a2,w2,q2,.of_steps r r2⟩
 |panic ch=>exact⟨.panic ch,a1,w1,q,r⟩
 |_=>exact q.elim
end
def uP(P:Program)(C:Ctx β)(fn:Func)(B:Bs)(b:β):Exit->Act->Hx->Prop
 | .panic ch,a,w=>∃σ st sv v,dK B σ st a w/\C.mj sv st=some b/\ch=[pe v]/\DV σ sv v
 | .normal,a,w=>∃σ st sv,dK B σ st a w/\C.iw sv st=some b/\cond C.df (sv=.aH []) (∃v,(results fn a.tmps).run P w=.ok v w/\DV σ sv v)
 | .ret,a,w=>∃σ st sv,dK B σ st a w/\C.iw sv st=some b/\cond C.df (sv=.aH []) (∃v,(results fn a.tmps).run P w=.ok v w/\DV σ sv v)
 |_,_,_=>False
theorem Sw{d:Nat}:∀{rs:H1 (jS β)}{r:jS β},vz d rs=some r->r∈rs/\r.len=d
 |[],r,h=>by cases h
 |x::rs,r,h=>by
  unfold vz at h;cases hb:Nat.beq x.len d with
  |true=>simp_all
  |false=>rw[hb] at h;obtain⟨a,b⟩:=Sw h;simp_all
theorem Sv{d:Nat}:∀{rs:H1 (jS β)},vz d rs=none->∀r∈rs,r.len≠d
 |x::rs,h,r,hr=>by
  unfold vz at h;cases hb:Nat.beq x.len d with
  |true=>grind
  |false=>
   rw[hb] at h;rcases cX.1 hr with rfl|hr
   ·intro e;rw[e,nv] at hb;cases hb
   ·exact Sv h r hr
theorem PX{d:Nat}:∀{rs:H1 (jS β)}{r:jS β},r∈zx d rs->r∈rs/\r.len<=d
 |[],r,h=>by cases h
 |x::rs,r,h=>by
  unfold zx at h;cases hb:Nat.ble x.len d with
  |true=>
   rw[hb] at h;rcases cX.1 h with rfl|h
   ·simp_all
   ·obtain⟨a,b⟩:=PX h;exact⟨lU _ a,b⟩
  |false=>rw[hb] at h;obtain⟨a,b⟩:=PX h;exact⟨lU _ a,b⟩
theorem Ko{id:Nat}:∀{k k1:H1 Item},exitTo id k=some k1->k1<:+k
 |[],k1,h=>by cases h
 |x::k,k1,h=>by
  cases x with
  |inBlock j=>
   unfold exitTo at h;split at h
   ·grind
   ·exact(Ko h).trans (List.suffix_cons _ _)
  |_=>exact(Ko (k:=k) h).trans (List.suffix_cons _ _)
theorem Km{id:Nat}{k:H1 Item}:∀{T T1:H1 Item},exitTo id T=some T1->exitTo id (T++k)=some (T1++k)
 |[],T1,h=>by cases h
 |x::T,T1,h=>by
  cases x with
  |inBlock j=>
   unfold exitTo at h⊢;simp only[eD];split at h
   ·rename_i q;cases h;simp[q]
   ·rename_i q;simp only[q];exact Km h
  |_=>exact Km (T:=T) h
def FF(tmps:Array Qu):ResultVar->Sem Qu
 | .tmp t=>pure (tmps.getD t undef)
 | .cell a t=>do loadVar t (<-asAddr (tmps.getD a undef))
theorem Kq{P:Program}{T:TT}(HT:eZ P T){st:St}:∀{rs:H1 ResultVar}{K:H1 SV->Zh β}{b:β},vo T st rs K=some b->
 ∃svs,K svs=some b/\∀{B:Bs}{σ:Ren}{a:Act}{w:Hx},dK B σ st a w->∃vs,(rs.mapM (FF a.tmps)).run P w=.ok vs w/\eR σ svs vs
 |[],K,b,e=>⟨[],e,λR=>⟨[],rfl,.nil⟩⟩
 | .tmp t::rs,K,b,e=>by obtain⟨v,h1,e⟩:=ax e;obtain⟨svs,k1,k2⟩:=Kq HT e;refine⟨v::svs,k1,λ{B σ a w} R=>?_⟩;obtain⟨vs,v1,v2⟩:=k2 R;refine⟨_::vs,?_,.cons (R.ev t v h1) v2⟩;simp only[List.mapM_cons,FF,cU,eE,eA,v1];rfl
 | .cell a0 t::rs,K,b,e=>by
  obtain⟨p,h1,e⟩:=ax e;obtain⟨sv,g1,g2⟩:=Xm HT e;obtain⟨svs,k1,k2⟩:=Kq HT g1;refine⟨sv::svs,k1,λ{B σ a w} R=>?_⟩;obtain⟨vs,v1,v2⟩:=k2 R;have d:=R.ev a0 p h1;obtain⟨u,u1,u2⟩:=g2 R.mem _ d;refine⟨u::vs,?_,.cons u2 v2⟩;generalize hp:a.eval (.tmp a0)=q at d u1;obtain⟨ad,rfl⟩:∃ad,q=.pointer (some ad):=by
   unfold Instr.loadAt Instr.sureAddr at u1;cases q with
   |pointer ad=>cases ad with
    |some ad=>exact⟨ad,rfl⟩
    |none=>simp at u1
   |_=>simp at u1
  have hq:a.tmps.getD a0 undef=.pointer (some ad):=hp;have hA:(asAddr (.pointer (some ad))).run P w=.ok ad w:=rfl;have g7:(loadVar t ad).run P w=.ok u w:=by unfold Instr.loadAt Instr.sureAddr at u1;simpa using u1
  simp only[List.mapM_cons,FF,hq,cU,eE,eA,hA,g7,v1]
theorem Kr{P:Program}{C:Ctx β}{fn:Func}{B:Bs}(HT:eZ P C.X.T)(hf:fn.results.toList=C.rs){st:St}{b:β}(e:cond C.df (C.iw (.aH []) st) (vo C.X.T st C.rs (AB C.iw st))=some b){σ:Ren}{a:Act}{w:Hx}(R:dK B σ st a w):
 ∃σ st sv,dK B σ st a w/\C.iw sv st=some b/\cond C.df (sv=.aH []) (∃v,(results fn a.tmps).run P w=.ok v w/\DV σ sv v):=by
 cases hdf:C.df with
 |true=>rw[hdf] at e;exact⟨σ,st,_,R,e,rfl⟩
 |false=>
  rw[hdf] at e;obtain⟨svs,k1,k2⟩:=Kq HT e;obtain⟨vs,v1,v2⟩:=k2 R;have e0:results fn a.tmps=(do let vs<-Array.mapM (FF a.tmps) fn.results;pure (if h:vs.size=1 then vs[0] else .tuple vs)):=by
   unfold results
   congr 2
  have run:(results fn a.tmps).run P w=.ok (if h:vs.toArray.size=1 then vs.toArray[0] else .tuple vs.toArray) w:=by rw[e0,Array.mapM_eq_mapM_toList,hf];simp[v1]
  have hl:=v2.1;unfold AB at k1;split at k1
  ·obtain⟨v,l,rfl,d,t⟩:=v2.inv;have:=t.dY;subst this;exact⟨σ,st,_,R,k1,v,by rw[run];rfl,d⟩
  ·rename_i cA;refine⟨σ,st,_,R,k1,_,by rw[run,dif_neg];intro hh;simp at hh;rw[hh] at hl;match svs,hl with|[v],_=>exact cA v rfl,.aH v2.1 v2.2⟩
section
variable{P:Program} {C:Ctx β} {fn:Func} {B:Bs}
def P8(P:Program)(C:Ctx β)(fn:Func)(B:Bs)(r:jS β)(k:H1 Item):Prop:=
 ∀ls b st',iI r.t.ks r.F ls=some b->iy r.t ls=some st'->∀{σ:Ren}{a:Act}{w:Hx},dK B σ st' a w->nC P k (uP P C fn B b) a w
def lK(P:Program)(C:Ctx β)(fn:Func)(B:Bs)(rs:H1 (jS β))(todo:H1 Item):Prop:=
 ∀r∈rs,∃k,k.length=r.len/\k<:+todo/\P8 P C fn B r k
theorem lK.tail{rs:H1 (jS β)}{x:Item}{k:H1 Item}(h:lK P C fn B rs (x::k))(hn:vz (x::k).length rs=none):lK P C fn B rs k:=by intro r hr;obtain⟨k1,a,b,g⟩:=h r hr;have:=Sv hn r hr;refine⟨k1,a,?_,g⟩;rcases List.suffix_cons_iff.1 b with e|e<;>grind
theorem lK.push{rs:H1 (jS β)}{k:H1 Item}(h:lK P C fn B rs k)(x:Item):lK P C fn B rs (x::k):=λr hr=>by
 obtain⟨k1,a,b,g⟩:=h r hr
 grind
theorem lK.trim{rs:H1 (jS β)}{k k1:H1 Item}(h:lK P C fn B rs k)(s:k1<:+k):lK P C fn B (zx k1.length rs) k1:=λr hr=>by obtain⟨a,b⟩:=PX hr;obtain⟨k2,a2,b2,g⟩:=h r a;exact⟨k2,a2,List.suffix_of_suffix_length_le b2 s (by omega),g⟩
theorem lK.add{rs:H1 (jS β)}{k:H1 Item}(h:lK P C fn B rs k){t:cL}{F:Fn t.ks (Zh β)}(g:P8 P C fn B ⟨k.length,t,F⟩ k):lK P C fn B (⟨k.length,t,F⟩::rs) k:=λr hr=>by
 rcases cX.1 hr with rfl|hr
 ·grind
 ·exact h r hr
set_option maxHeartbeats 2000000 in
theorem tH[QF](OK:iP P C.X)(mx:P.follows .mixedOrders=true)(PT:nD P C.pt)(hf:fn.results.toList=C.rs)(hn:B.n=C.n)(ha:B.an=C.an):
 ∀(f:Nat)(rs:H1 (jS β))(todo:H1 Item)(st:St)(b:β),dn C f rs todo st=some b->lK P C fn B rs todo->∀{σ:Ren}{a:Act}{w:Hx},dK B σ st a w->nC P todo (uP P C fn B b) a w
 |0,rs,todo,st,b,e,_,σ,a,w,R=>by cases e
 |f+1,rs,todo,st,b,e,RO,σ,a,w,R=>by
  have ih:=tH OK mx PT hf hn ha f;replace e:JT C (dn C f) rs todo st=some b:=e;unfold JT at e;rw[<-ha] at e;split at e
  ·rename_i r hh;obtain⟨hm,hl⟩:=Sw hh;obtain⟨k,k1,k2,g⟩:=RO r hm;have:k=todo:=k2.eq_of_length (by rw[k1,hl]);subst this;obtain⟨ls,h1,st',h2,_,h3⟩:=vl e;obtain⟨σ',R',M'⟩:=h3 R.ev R.mem;replace R':dK B σ' st' a w:=⟨R.size,R.dQ,R',M'⟩;exact g ls b st' h1 h2 R'
  ·rename_i hh;split at e
   ·exactλb0 k cs=>⟨.normal,a,w,Kr OK.T hf e R,.refl _ _⟩
   ·exactλb0 k cs=>⟨.ret,a,w,Kr OK.T hf e R,_,.one step_ret⟩
   ·exact(ih _ _ _ _ e (RO.tail hh) R).step λ_ _ _=>step_skip
   ·exact(ih _ _ _ _ e (RO.tail hh) R).step λ_ _ _=>step_label
   ·exact(ih _ _ _ _ e (RO.tail hh) R).step λ_ _ _=>step_inBlock
   ·exact(ih _ _ _ _ e (RO.tail hh) R).step λ_ _ _=>step_inScope
   ·rename_i x y k;have plain:dn C f rs (.code x::.code y::k) st=some b->nC P (.code (.seq x y)::k) (uP P C fn B b) a w:=λe=>
     (ih _ _ _ _ e (((RO.tail hh).push _).push _) R).step λ_ _ _=>step_seq
    split at e
    ·split at e
     ·rename_i t _;refine(ih _ _ _ _ e (lK.push (lK.add ((RO.tail hh).push (.code y)) ?_) _) R).step λ_ _ _=>step_seq;intro ls b' st' h1 h2 σ' a' w' R';obtain⟨st2,g1,g2⟩:=ax (nG _ _ _ _ h1);rw[h2] at g1;cases g1;exact ih _ _ _ _ g2 ((RO.tail hh).push _) R'
     ·exact plain e
    ·exact plain e
   ·rename_i q x y k;obtain⟨v,hv,e⟩:=ax e;split at e
    ·rename_i z;have hs:=aii hv;have R':dK B σ (yn q z st) a w:=⟨R.size,R.dQ,R.ev.sub hs.1,by rw[hs.2.1,hs.2.2];exact R.mem⟩;have d:=(ej R.ev hv).bv;cases z with
     |true=>exact(ih _ _ _ _ e ((RO.tail hh).push _) R').step λ_ _ _=>step_cond d
     |false=>exact(ih _ _ _ _ e ((RO.tail hh).push _) R').step λ_ _ _=>step_cond d
    ·cases e
   ·exact(ih _ _ _ _ e (((RO.tail hh).push _).push _) R).step λ_ _ _=>step_block
   ·exact(ih _ _ _ _ e (((RO.tail hh).push _).push _) R).step λ_ _ _=>step_inLoop
   ·rename_i x k;obtain⟨key,_,e⟩:=ax e;cases hu:C.un key with
    |true=>rw[hu] at e;exact(ih _ _ _ _ e (((RO.tail hh).push _).push _) R).step λ_ _ _=>step_loop
    |false=>
    rw[hu] at e;obtain⟨t,_,e⟩:=ax e;have head:∀(n:Nat),∀ls b st',iI t.ks (lp (iZ t.ks) (λrec=>mc t.ks λls=>ob (iy t ls) λst'=>dn C f (⟨(Item.inLoop x::k).length,t,rec⟩::rs) (.code x::.inLoop x::k) st') n) ls=some b->iy t ls=some st'->
     ∀{σ:Ren}{a:Act}{w:Hx},dK B σ st' a w->nC P (.code x::.inLoop x::k) (uP P C fn B b) a w:=by
     intro n;induction n with
     |zero=>intro ls b st' h1;exact(Aa _ _ _ h1).elim
     |succ n ihn=>intro ls b' st' h1 h2 σ' a' w' R';obtain⟨st2,g1,g2⟩:=ax (nG _ _ _ _ h1);rw[h2] at g1;cases g1;refine ih _ _ _ _ g2 (lK.push (lK.add ((RO.tail hh).push (.inLoop x)) ?_) _) R';intro ls b2 st2 q1 q2 σ2 a2 w2 R2;exact(ihn ls b2 st2 q1 q2 R2).step λ_ _ _=>step_inLoop
    obtain⟨ls,h1,st',h2,_,h3⟩:=vl e;obtain⟨σ',R',M'⟩:=h3 R.ev R.mem;replace R':dK B σ' st' a w:=⟨R.size,R.dQ,R',M'⟩;exact(head _ ls b st' h1 h2 R').step λ_ _ _=>step_loop
   ·exact(ih _ _ _ _ e (((RO.tail hh).push _).push _) R).step λ_ _ _=>step_scope
   ·rename_i l k;obtain⟨k1,h1,e⟩:=ax e;exact(ih _ _ _ _ e ((RO.tail hh).trim (Ko h1)) R).step λ_ _ _=>step_exit (Km h1)
   ·rename_i l ops d k;obtain⟨st0,e,hfz⟩:=abQ e;obtain⟨σ0,R0⟩:=hfz R;obtain⟨sta,e,hfz⟩:=abP e;obtain⟨σa,Ra⟩:=hfz R0;obtain⟨stb,e,hfz⟩:=abN e;obtain⟨σb,Rb⟩:=hfz Ra;obtain⟨st1,e,hfz⟩:=abR e;obtain⟨σ1,R1⟩:=hfz Rb;have fin:∀{q:Zh SV}{st':St},(match q with|none=>AI (vu C.un (500000+l)) ops.toList st' λst'=>dn C f rs k st'|some v=>C.mj v st')=some b->uR B q st' λe a w=>match e with| .normal=>nC P k (uP P C fn B b) a w| .panic ch=>uP P C fn B b (.panic ch) a w|_=>False:=by
     intro q st' g σ a w R;cases q with
     |none=>obtain⟨st2,g,hz⟩:=abO g;obtain⟨σ2,R2⟩:=hz R;exact ih _ _ _ _ g (RO.tail hh) R2
     |some sv=>exactλv dv=>⟨σ,st',sv,v,R,g,rfl,dv⟩
    cases d with
    |true=>obtain⟨q,st',g1,g2⟩:=aa8 OK PT mx (id:=l) e;exact .code (g2 hn R1 _ (fin g1))
    |false=>obtain⟨q,st',g1,g2⟩:=BY OK PT ops.toList 0 (λi o ho=>by rw[fI,<-lR];exact ho) _ _ _ e;refine .code (wp_region ?_);rw[(show List.range ops.size=List.range' 0 ops.toList.length from by rw[List.range_eq_range'];simp)];exact g2 hn R1 _ (fin g1)
   ·cases e
   ·cases e
end
end
section
variable{β:Type}
theorem Kw{f:Nat}(h:f<65536)(ys:H1 Qu):se f ys=.func (.func f) #[] ⟨ys⟩:=by unfold se;rw[qO h,Nat.div_eq_of_lt h];rfl
noncomputable def cJ(m:Nat->Nat->Zh Qu)(w w':Hx)(b i:Nat):Zh Qu:=
 if b<w.heap.size then m b i else fJ w' b i
def Kn(m:Nat->Nat->Zh Qu)(w:Hx):Prop:=∀b i v,m b i=some v->fJ w b i=some v
theorem Kn.below{m:Nat->Nat->Zh Qu}{w w':Hx}(h:Kn m w)(B:RowKit.Below w.heap.size w w'):Kn m w':=λb i v hv=>
 (q9 (B.block b (mq (h b i v hv)))).trans (h b i v hv)
theorem Kn.new{m:Nat->Nat->Zh Qu}{w w':Hx}(h:Kn m w)(B:RowKit.Below w.heap.size w w'):Kn (cJ m w w') w':=λb i v hv=>by
 unfold cJ at hv;split at hv
 ·exact h.below B b i v hv
 ·exact hv
theorem Kn.mono{m:Nat->Nat->Zh Qu}{w w':Hx}(h:Kn m w):∀b i v,m b i=some v->cJ m w w' b i=some v:=λb i v hv=>by unfold cJ;rw[ay (mq (h b i v hv))];exact hv
def LK.ty:LK->Type
 | .i=>Int
 | .b=>Bool
 | .s=>ByteArray
 | .v=>Qu
 | .c=>H1 Qu
 | .n=>Nat
def bL:H1 LK->Type
 |[]=>Unit
 |[k]=>k.ty
 |k::l::ks=>k.ty×bL (l::ks)
def JP:(k:LK)->bq->Zh k.ty
 | .i,.i x=>some x
 | .b,.b x=>some x
 | .s,.s x=>some x
 | .v,.v x=>some x
 | .c,.c x=>some x
 | .n,.n x=>some x
 |_,_=>none
def wT:(k:LK)->k.ty->bq
 | .i,x=>.i x
 | .b,x=>.b x
 | .s,x=>.s x
 | .v,x=>.v x
 | .c,x=>.c x
 | .n,x=>.n x
def dec:(ks:H1 LK)->H1 bq->Zh (bL ks)
 |[],[]=>some ()
 |[k],[l]=>JP k l
 |k::l::ks,x::xs=>ob (JP k x) λa=>ob (dec (l::ks) xs) λb=>some (a,b)
 |_,_=>none
def gP:(ks:H1 LK)->bL ks->H1 bq
 |[],_=>[]
 |[k],x=>[wT k x]
 |k::l::ks,x=>wT k x.1 ::gP (l::ks) x.2
theorem Q5:∀(k:LK)(l:bq)(x:k.ty),JP k l=some x->wT k x=l:=by intro k l x e;cases k<;>cases l<;>first|cases e;rfl|cases e
theorem qk:∀(ks:H1 LK)(ls:H1 bq)(x:bL ks),dec ks ls=some x->gP ks x=ls
 |[],[],x,e=>rfl
 |[],_::_,x,e=>by cases e
 |[k],[l],x,e=>by have:=Q5 k l x e;show[wT k x]=[l];rw[this]
 |[k],[],x,e=>by cases e
 |[k],_::_::_,x,e=>by cases e
 |k::l::ks,[],x,e=>by cases e
 |k::l::ks,y::ys,x,e=>by obtain⟨a,h1,e⟩:=ax e;obtain⟨b,h2,e⟩:=ax e;cases e;show wT k a::gP (l::ks) b=y::ys;rw[Q5 k y a h1,qk (l::ks) ys b h2]
def oX:H1 SV->Nat->Tr SV->Tr SV
 |[],_,t=>t
 |v::vs,n,t=>oX vs (n+1) (t.set n v)
theorem JU:∀(vts:H1 VT)(ls r1:H1 bq)(pvs:H1 Qu),fR vts ls=some (pvs,r1)->pvs.length=vts.length
 |[],ls,_,pvs,e1=>by cases e1;rfl
 |t::ts,ls,_,pvs,e1=>by obtain⟨⟨a,b⟩,h1,e1⟩:=ax e1;obtain⟨⟨a',b'⟩,h1',e1⟩:=ax e1;cases e1;simp[JU ts b _ _ h1']
mutual
def qG:VT->Bool
 | .i _=>true
 | .b=>true
 | .s=>true
 | .agg l=>BX l
 | .aH l=>BX l
 |_=>false
def BX:H1 VT->Bool
 |[]=>true
 |x::xs=>qG x&&BX xs
end
theorem JV:∀(vts:H1 VT)(ls r1:H1 bq)(pvs:H1 Qu),qW vts=true->fF ls->fR vts ls=some (pvs,r1)->aZ pvs=true/\fF r1
 |[],ls,_,pvs,_,h,e1=>by cases e1;exact⟨rfl,h⟩
 |t::ts,ls,_,pvs,ht,h,e1=>by
  obtain⟨⟨a,b⟩,h1,e1⟩:=ax e1;obtain⟨⟨a',b'⟩,h1',e1⟩:=ax e1;cases e1;have one:aZ [a]=true/\fF b/\qW ts=true:=by
   cases t with
   |i k=>
    cases ls with
    |nil=>cases h1
    |cons l ls=>cases l<;>first|(cases h1;exact⟨rfl,h.tail,ht⟩)|cases h1
   |b=>
    cases ls with
    |nil=>cases h1
    |cons l ls=>cases l<;>first|(cases h1;exact⟨rfl,h.tail,ht⟩)|cases h1
   |s=>
    cases ls with
    |nil=>cases h1
    |cons l ls=>cases l<;>first|(cases h1;exact⟨rfl,h.tail,ht⟩)|cases h1
   |v=>
    cases ls with
    |nil=>cases h1
    |cons l ls=>cases l<;>first|(cases h1;exact⟨h _ nr,h.tail,ht⟩)|cases h1
   |_=>cases ht
  obtain⟨o1,o2,o3⟩:=one;obtain⟨k1,k2⟩:=JV ts b _ _ o3 o2 h1';exact⟨by rw[qv,o1,k1];rfl,k2⟩
mutual
theorem JW:∀(vt:VT)(ls r1 r2:H1 bq)(pv:Qu)(sv:SV),fF ls->jY vt ls=some (pv,r1)->IB vt ls=some (sv,r2)->r1=r2/\(∀{σ:Ren}{v:Qu},aK σ.lit pv v->DV σ sv v)/\fF r1
 | .i k,.i n::ls,_,_,pv,sv,h,e1,e2=>by cases e1;cases e2;exact⟨rfl,λr=>(by cases r;exact .i _ _),h.tail⟩
 | .b,.b n::ls,_,_,pv,sv,h,e1,e2=>by cases e1;cases e2;exact⟨rfl,λr=>(by cases r;exact .b _),h.tail⟩
 | .s,.s n::ls,_,_,pv,sv,h,e1,e2=>by cases e1;cases e2;exact⟨rfl,λr=>(by cases r;exact .s _),h.tail⟩
 | .v,.v n::ls,_,_,pv,sv,h,e1,e2=>by cases e1;cases e2;exact⟨rfl,λr=>.v r (h n nr),h.tail⟩
 | .agg ts,ls,r1,r2,pv,sv,h,e1,e2=>by
  obtain⟨⟨a,b⟩,h1,e1⟩:=ax e1;obtain⟨⟨c,d⟩,h2,e2⟩:=ax e2;cases e1;cases e2;obtain⟨g0,g1,g2⟩:=xC ts ls _ _ _ _ h h1 h2;refine⟨g0,λr=>?_,g2⟩;cases r with
  |agg hl k=>have q:=g1 ⟨hl,k⟩;exact .agg q.1 q.2
 | .aH ts,ls,r1,r2,pv,sv,h,e1,e2=>by
  obtain⟨⟨a,b⟩,h1,e1⟩:=ax e1;obtain⟨⟨c,d⟩,h2,e2⟩:=ax e2;cases e1;cases e2;obtain⟨g0,g1,g2⟩:=xC ts ls _ _ _ _ h h1 h2;refine⟨g0,λr=>?_,g2⟩;cases r with
  |aH hl k=>have q:=g1 ⟨hl,k⟩;exact .aH q.1 q.2
 | .fn g ts,ls,r1,r2,pv,sv,h,e1,e2=>by
  obtain⟨hg,e1⟩:=aW e1;obtain⟨_,e2⟩:=aW e2;obtain⟨⟨a,b⟩,h1,e1⟩:=ax e1;obtain⟨⟨c,d⟩,h2,e2⟩:=ax e2;cases e1;cases e2;obtain⟨g0,g1,g2⟩:=xC ts ls _ _ _ _ h h1 h2;refine⟨g0,λr=>?_,g2⟩;cases r with
  |fn hl hh kl k=>
   rename_i xs' ys';have q:=g1 ⟨kl,k⟩;have e0:xs'=#[]:=by simpa using hl.symm
   rw[e0,show(Value.func (.func g) #[] ys')=se g ys'.toList from(Kw (fb hg) _).symm];exact .fn q.1 q.2
 | .lp ts,ls,r1,r2,pv,sv,h,e1,e2=>by obtain⟨q,e1⟩:=aW e1;obtain⟨_,e2⟩:=aW e2;obtain⟨⟨a,b⟩,h1,e1⟩:=ax e1;obtain⟨⟨c,d⟩,h2,e2⟩:=ax e2;cases e1;cases e2;rw[h1] at h2;cases h2;exact⟨rfl,λr=>.lp r,(JV ts ls _ _ q h h1).2⟩
 | .em b,ls,_,_,pv,sv,h,e1,e2=>by cases e1;cases e2;exact⟨rfl,λr=>.em r,h⟩
 | .nf,ls,_,_,pv,sv,h,e1,e2=>by cases e1;cases e2;exact⟨rfl,λr=>.v r rfl,h⟩
theorem xC:∀(vts:H1 VT)(ls r1 r2:H1 bq)(pvs:H1 Qu)(svs:H1 SV),fF ls->fR vts ls=some (pvs,r1)->wM vts ls=some (svs,r2)->r1=r2/\(∀{σ:Ren}{vs:H1 Qu},PW (aK σ.lit) pvs vs->eR σ svs vs)/\fF r1
 |[],ls,_,_,pvs,svs,h,e1,e2=>by cases e1;cases e2;exact⟨rfl,λr=>(by rw[r.dY];exact .nil),h⟩
 |t::ts,ls,_,_,pvs,svs,h,e1,e2=>by obtain⟨⟨a,b⟩,h1,e1⟩:=ax e1;obtain⟨⟨a',b'⟩,h1',e1⟩:=ax e1;obtain⟨⟨c,d⟩,h2,e2⟩:=ax e2;obtain⟨⟨c',d'⟩,h2',e2⟩:=ax e2;cases e1;cases e2;obtain⟨g0,g1,g2⟩:=JW t ls _ _ _ _ h h1 h2;subst g0;obtain⟨k0,k1,k2⟩:=xC ts b _ _ _ _ g2 h1' h2';refine⟨k0,λr=>?_,k2⟩;obtain⟨_,_,rfl,r1,r2⟩:=r.inv;exact .cons (g1 r1) (k1 r2)
end
def Plain(pv:Qu):Prop:=∀(m m':Nat->Nat->Zh Qu)(x:Qu),aK m pv x->aK m' pv x
mutual
theorem Xx:∀(vt:VT)(ls r1:H1 bq)(pv:Qu),qG vt=true->jY vt ls=some (pv,r1)->Plain pv
 | .i k,.i n::ls,_,pv,_,e1=>by cases e1;intro m m' x h;cases h;exact .int _ _
 | .b,.b n::ls,_,pv,_,e1=>by cases e1;intro m m' x h;cases h;exact .bool _
 | .s,.s n::ls,_,pv,_,e1=>by cases e1;intro m m' x h;cases h;exact .str _
 | .agg ts,ls,r1,pv,ht,e1=>by
  obtain⟨⟨a,b⟩,h1,e1⟩:=ax e1;cases e1;intro m m' x h;cases h with
  |agg hl r=>have q:=NT ts ls _ _ (by unfold qG at ht;exact ht) h1 m m' _ ⟨hl,r⟩;exact .agg q.1 q.2
 | .aH ts,ls,r1,pv,ht,e1=>by
  obtain⟨⟨a,b⟩,h1,e1⟩:=ax e1;cases e1;intro m m' x h;cases h with
  |aH hl r=>have q:=NT ts ls _ _ (by unfold qG at ht;exact ht) h1 m m' _ ⟨hl,r⟩;exact .aH q.1 q.2
 | .v,ls,r1,pv,ht,_=>by unfold qG at ht;cases ht
 | .fn _ _,ls,r1,pv,ht,_=>by unfold qG at ht;cases ht
 | .lp _,ls,r1,pv,ht,_=>by unfold qG at ht;cases ht
 | .em _,ls,r1,pv,ht,_=>by unfold qG at ht;cases ht
 | .nf,ls,r1,pv,ht,_=>by unfold qG at ht;cases ht
theorem NT:∀(vts:H1 VT)(ls r1:H1 bq)(pvs:H1 Qu),BX vts=true->fR vts ls=some (pvs,r1)->∀(m m':Nat->Nat->Zh Qu)(xs:H1 Qu),PW (aK m) pvs xs->PW (aK m') pvs xs
 |[],ls,_,pvs,_,e1=>by cases e1;exactλm m' xs h=>by rw[h.dY];exact .nil
 |t::ts,ls,_,pvs,ht,e1=>by obtain⟨⟨a,b⟩,h1,e1⟩:=ax e1;obtain⟨⟨a',b'⟩,h1',e1⟩:=ax e1;cases e1;unfold BX at ht;rw[bt] at ht;intro m m' xs h;obtain⟨_,_,rfl,r1,r2⟩:=h.inv;exact .cons (Xx t ls _ _ ht.1 h1 m m' _ r1) (NT ts b _ _ ht.2 h1' m m' _ r2)
end
mutual
theorem Ky{st:St}:∀(vt:VT)(sv:SV)(K:H1 bq->Zh β)(b:β),AH st vt sv K=some b->
 ∃ls,K ls=some b/\∀rest,∃pv,jY vt (ls++rest)=some (pv,rest)/\∀{σ:Ren}{m:Nat->Nat->Zh Qu}{w:Hx}{v:Qu},Seen σ m st.h w->DV σ sv v->aK m pv v/\fF ls:=by
 intro vt sv K b e;have none:fF []:=fF.nil;have skip:∀{l:bq},(∀x,bq.v x≠l)->fF [l]:=λh x hx=>by simp at hx;exact absurd hx (h x)
 unfold AH at e;split at e
 ·obtain⟨e1,f⟩:=aW e;have:=ny e1;subst this;exact⟨_,f,λrest=>⟨_,rfl,λS d=>by cases d;exact⟨.int _ _,skip (by simp)⟩⟩⟩
 ·exact⟨_,e,λrest=>⟨_,rfl,λS d=>by cases d;exact⟨.bool _,skip (by simp)⟩⟩⟩
 ·exact⟨_,e,λrest=>⟨_,rfl,λS d=>by cases d;exact⟨.str _,skip (by simp)⟩⟩⟩
 ·exact⟨_,e,λrest=>⟨_,rfl,λS d=>by cases d with|v p q=>exact⟨p.mono S.lit,.one q⟩⟩⟩
 ·exact⟨_,e,λrest=>⟨_,rfl,λS d=>by cases d;exact⟨.fW,.one rfl⟩⟩⟩
 ·exact⟨_,e,λrest=>⟨_,rfl,λS d=>by cases d;exact⟨.nilIface,.one rfl⟩⟩⟩
 ·replace e:=ax e;obtain⟨u,hu,f⟩:=e;exact⟨_,f,λrest=>⟨_,rfl,λS d=>⟨(oK S _ _ _ _ hu d).1,.one (oK S _ _ _ _ hu d).2⟩⟩⟩
 ·replace e:=ax e;obtain⟨u,hu,f⟩:=e;exact⟨_,f,λrest=>⟨_,rfl,λS d=>⟨(oK S _ _ _ _ hu d).1,.one (oK S _ _ _ _ hu d).2⟩⟩⟩
 ·replace e:=ax e;obtain⟨u,hu,f⟩:=e;exact⟨_,f,λrest=>⟨_,rfl,λS d=>⟨(oK S _ _ _ _ hu d).1,.one (oK S _ _ _ _ hu d).2⟩⟩⟩
 ·exact⟨_,e,λrest=>⟨_,rfl,λS d=>by cases d with|em h=>exact⟨h.mono S.lit,none⟩⟩⟩
 ·exact⟨_,e,λrest=>⟨_,rfl,λS d=>by cases d with|em h=>exact⟨h.mono S.lit,none⟩⟩⟩
 ·exact⟨_,e,λrest=>⟨_,rfl,λS d=>by cases d with|v h=>exact⟨h.mono S.lit,none⟩⟩⟩
 ·rename_i ts l;obtain⟨ls,h1,h3⟩:=vv ts l K b e;refine⟨ls,h1,λrest=>?_⟩;obtain⟨pvs,p1,p3⟩:=h3 rest;refine⟨.agg ⟨pvs⟩,by unfold jY;rw[p1];rfl,λS d=>?_⟩;cases d with
  |agg hl g=>have⟨q,k⟩:=p3 S ⟨hl,g⟩;exact⟨.agg q.1 q.2,k⟩
 ·rename_i ts l;obtain⟨ls,h1,h3⟩:=vv ts l K b e;refine⟨ls,h1,λrest=>?_⟩;obtain⟨pvs,p1,p3⟩:=h3 rest;refine⟨.tuple ⟨pvs⟩,by unfold jY;rw[p1];rfl,λS d=>?_⟩;cases d with
  |aH hl g=>have⟨q,k⟩:=p3 S ⟨hl,g⟩;exact⟨.aH q.1 q.2,k⟩
 ·rename_i g0 ts g0' l;obtain⟨e1,f⟩:=aW e;have:=bT e1;subst this;obtain⟨e2,f⟩:=aW f;obtain⟨ls,h1,h3⟩:=vv ts l K b f;refine⟨ls,h1,λrest=>?_⟩;obtain⟨pvs,p1,p3⟩:=h3 rest;refine⟨.func (.func g0) #[] ⟨pvs⟩,by unfold jY;rw[e2,aC,p1];rfl,λS d=>?_⟩;cases d with
  |fn hl g=>have⟨q,k⟩:=p3 S ⟨hl,g⟩;rw[Kw (fb e2)];exact⟨.fn rfl (λi x y h=>by simp at h) q.1 q.2,k⟩
 ·rename_i ts cs;obtain⟨e1,f⟩:=aW e;obtain⟨ls,h1,h2,h3⟩:=AY ts cs K b f;refine⟨ls,h1,λrest=>⟨Ex cs,by unfold jY;rw[e1,h3];rfl,λS d=>?_⟩⟩;cases d with
  |lp p=>exact⟨p.mono S.lit,h2 (by cases p with|vR _ _ _ _ ho=>exact ho)⟩
 ·rename_i ts id off;replace e:=ax e;obtain⟨so,hso,f⟩:=e;split at f
  ·rename_i c t;obtain⟨e1,f1⟩:=aW f;rw[bt] at e1;obtain⟨ls,h1,h3⟩:=vv ts (c.drop off) K b f1;refine⟨ls,h1,λrest=>?_⟩;obtain⟨pvs,p1,p3⟩:=h3 rest;refine⟨Ex pvs,by unfold jY;rw[e1.2,p1];rfl,λS d=>?_⟩;obtain⟨o,n,cs,g1,g2,g3⟩:=S.obj _ _ hso;have⟨q,k⟩:=p3 S (g3.drop off);cases d with
   |ptr g=>
    have g':=g.symm.trans g1;simp only[tb,Prod.mk.injEq] at g';obtain⟨rfl,rfl⟩:=g';obtain⟨pvs',p1',_⟩:=h3 [];rw[dP] at p1';have on:aZ pvs=true:=by obtain⟨pvs2,p2,p4⟩:=h3 [];rw[dP] at p2;have⟨q2,k2⟩:=p4 S (g3.drop off);have:=(JV ts ls [] pvs2 e1.2 k2 p2).1;refine iV.2 λx hx=>?_;obtain⟨i,hi⟩:=List.mem_iff_getElem?.1 hx;obtain⟨y,y1,y2⟩:=q.get hi;have hl:=q2.1;have hl':=(mJ.1 y1).1;have z:=q2.2 i pvs2[i] y (by simp) y1;have:=iV.1 this _ (cx (by omega:i<pvs2.length));rw[<-y2.one,z.one];exact this
    refine⟨.vR q.1 q.2 (λi y hy=>?_) rfl on,k⟩;rw[s8] at hy;exact S.of hso g g2 hy
  ·cases f
 ·cases e
theorem vv{st:St}:∀(vts:H1 VT)(svs:H1 SV)(K:H1 bq->Zh β)(b:β),si st vts svs K=some b->
 ∃ls,K ls=some b/\∀rest,∃pvs,fR vts (ls++rest)=some (pvs,rest)/\∀{σ:Ren}{m:Nat->Nat->Zh Qu}{w:Hx}{vs:H1 Qu},Seen σ m st.h w->eR σ svs vs->PW (aK m) pvs vs/\fF ls:=by
 intro vts svs K b e;unfold si at e;split at e
 ·exact⟨_,e,λrest=>⟨_,rfl,λS d=>⟨by rw[d.dY];exact .nil,fF.nil⟩⟩⟩
 ·rename_i t ts x xs;obtain⟨l1,h1,h3⟩:=Ky t x _ b e;obtain⟨l2,g1,g3⟩:=vv ts xs _ b h1;refine⟨l1++l2,g1,λrest=>?_⟩;obtain⟨p1,a1,a3⟩:=h3 (l2++rest);obtain⟨p2,b1,b3⟩:=g3 rest;refine⟨p1::p2,?_,λS d=>?_⟩
  ·rw[ed];unfold fR;rw[a1];show ob (fR ts (l2++rest)) _=_;rw[b1];rfl
  ·obtain⟨_,_,rfl,d1,d2⟩:=d.inv;have⟨x1,x2⟩:=a3 S d1;have⟨y1,y2⟩:=b3 S d2;exact⟨.cons x1 y1,x2.append y2⟩
 ·cases e
end
end
section
def xf(P:Program)(g:FuncId)(us:H1 Qu)(R:(Nat->Nat->Zh Qu)->Qu->Prop):Prop:=∀(m:Nat->Nat->Zh Qu)(args':Array Qu)(w:Hx),Kn m w->PW (aK m) us args'.toList->
 Calls P g args' w λe w'=>∃v',e=.returned v'/\RowKit.Below w.heap.size w w'/\R (cJ m w w') v'
def cQ(P:Program)(g:FuncId)(avt:H1 VT)(rvt:VT)(Sh:Fn (VT.fu avt) (Zh (bL rvt.ks))):Prop:=
 ∀ls r,iI (VT.fu avt) Sh ls=some r->fF ls->∀us,fR avt ls=some (us,[])->xf P g us λm v=>∃pv,jY rvt (gP rvt.ks r)=some (pv,[])/\fF (gP rvt.ks r)/\aK m pv v
theorem eS.below{w w':Hx}(h:eS (λ_=>False) w w'):RowKit.Below w.heap.size w w':=⟨h.os,h.tape,h.output,h.size,λb hb=>h.block b hb id⟩
theorem eS.Ly{w w':Hx}(h:RowKit.Below w.heap.size w w'):eS (λ_=>False) w w':=⟨h.os,h.tape,h.output,h.size,λb hb _=>h.block b hb⟩
theorem Mem.start{m:Nat->Nat->Zh Qu}{w:Hx}(K:Kn m w){n:Nat}{dQ:H1 Deferred}{F:Nat->Prop}:Mem ⟨w,λ_=>False,m,0,λ_=>none,n,dQ⟩ ⟨λ_=>none,m⟩ (hG .nil) F w:=
 ⟨λid so h=>(pL h).elim,λi j so so' o o' n n' h=>(pL h).elim,λ_ _=>rfl,K,λb i v _ ⟨id,so,o,n,h,_⟩=>pL h,eS.refl _ _,λb ⟨id,so,o,n,h,_⟩=>(pL h).elim,λb i v h=>.inl h,λk hk=>(Nat.not_lt_zero k hk).elim,λ_ _ _ h=>h⟩
theorem Mem.XG{m:Nat->Nat->Zh Qu}{w w':Hx}(K:Kn m w){an n:Nat}{nm:Nat->Zh (Zh (Nat×Nat)×Nat)}{dQ:H1 Deferred}{F:Nat->Prop}{σ:Ren}{h:Tr SO}(M:Mem ⟨w,λ_=>False,m,an,nm,n,dQ⟩ σ (hG h) F w'):Seen σ (cJ m w w') h w':=by
 refine⟨λb i v q=>?_,M.obj,λid so ho o n hn i v hv=>?_⟩
 ·unfold cJ;rcases M.lP b i v q with k|k|k
  ·rw[ay (mq (K b i v k))];exact k
  ·exact k.elim
  ·rw[aq (Nat.not_lt.2 k)];exact M.lit b i v q
 ·rcases M.owned o.1 ⟨id,so,o,_,ho,hn,rfl⟩ with k|k
  ·exact k.elim
  ·unfold cJ;rw[aq (Nat.not_lt.2 k)];exact hv
theorem YX:∀{svs:H1 SV}{n:Nat}{T:Tr SV}{t:Nat}{sv:SV},(oX svs n T).get t=some sv->(∃i,t=n+i/\svs[i]? =some sv)\/T.get t=some sv
 |[],n,T,t,sv,h=>.inr h
 |x::svs,n,T,t,sv,h=>by
  rcases YX (svs:=svs) h with⟨i,h1,h2⟩|h
  ·exact .inl ⟨i+1,by omega,h2⟩
  ·rw[Tr.fN] at h;split at h
   ·rename_i q;cases h;exact .inl ⟨0,q,rfl⟩
   ·exact .inr h
theorem CQ{σ:Ren}{svs:H1 SV}{args:Array Qu}(d:eR σ svs args.toList){dQ:H1 Deferred}:Ev σ (oX svs 0 .nil) {tmps:=args,defers:=dQ}:=λt sv h=>by
 rcases YX h with⟨i,rfl,hi⟩|h
 ·obtain⟨y,h1,h2⟩:=d.get hi;rw[lR] at h1;simp only[Act.eval,fI,qJ,h1,qP];exact h2
 ·rw[Tr.get_nil] at h;cases h
theorem tM{σ:Ren}{tm:Tr SV}{args:Array Qu}{k:Nat}{dQ dfs':H1 Deferred}(R:Ev σ tm {tmps:=args,defers:=dQ}):Ev σ tm {tmps:=args++Array.replicate k undef,defers:=dfs'}:=λt sv h=>by
 have e:(args++Array.replicate k undef).getD t undef=args.getD t undef:=by
  simp only[qJ,Array.getElem?_append,Array.getElem?_replicate];split
  ·rfl
  ·rename_i q;rw[Array.getElem?_eq_none (Nat.not_lt.1 q)];split<;>rfl
 have:=R t sv h;simp only[Act.eval] at this⊢;rwa[e]
section
noncomputable def aaf{β:Type}[QF](C:Ctx β)(N:Nat)(avt:H1 VT)(body:Code)(ls:H1 bq):Zh β:=
 ob (wM avt ls) λq=>dn C N [] [.code body] ⟨oX q.1 0 .nil,.nil,0⟩
noncomputable def Jz[QF](w:Nat)(X:eC)(pt:(β:Type)->FuncId->Zh (cD β))(fn:Func)(avt:H1 VT)(rvt:VT)(lv jv:Nat->Zh cL)(un:Nat->Bool):Fn (VT.fu avt) (Zh (bL rvt.ks)):=
 mc (VT.fu avt) (aaf {X:=X,pt:=pt _,n:=avt.length+(fn.ntmps -avt.length),rs:=fn.results.toList,lv:=lv,jv:=jv,un:=un,df:=false,fuel:=w,an:=0,iw:=λsv st=>AH st rvt sv (dec rvt.ks),mj:=λ_ _=>bC 52} 100000 avt (fn.body.getD .skip))
def jn(P:Program)(pt:(β:Type)->FuncId->Zh (cD β)):Prop:=∀β,nD P (pt β)
theorem uc{P:Program}:jn P (λ_ _=>none):=λ_ g e h=>by cases h
theorem Av{β:Type}{P:Program}{C:Ctx β}{fn:Func}{g:FuncId}{B:Bs}{b:β}{args:Array Qu}{w:Hx}{R:Ending->Hx->Prop}(hf:P.funcs[g]? =some fn)(hb:fn.body=some (fn.body.getD .skip))(hd:C.df=false)(hB:B.dQ=[])
 (G:nC P [.code (fn.body.getD .skip)] (uP P C fn B b) {tmps:=args++Array.replicate (fn.ntmps -args.size) undef,defers:=[]} w)
 (k:∀{σ:Ren}{st:St}{sv:SV}{a:Act}{w':Hx}{v:Qu},dK B σ st a w'->DV σ sv v->(C.iw sv st=some b->R (.returned v) w')/\(C.mj sv st=some b->R (.panicked [pe v]) w')):Calls P g args w R:=by
 refine calls_of_wp hf hb (wp_mono (λb k cs=>G b k cs) λx a w' q=>?_);cases x with
 |panic ch=>obtain⟨σ,st,sv,v,r,kp,rfl,d⟩:=q;exact⟨r.dQ.trans hB,(k r d).2 kp⟩
 |normal=>obtain⟨σ,st,sv,r,kr,q⟩:=q;rw[hd] at q;obtain⟨v,q1,q2⟩:=q;exact⟨r.dQ.trans hB,v,q1,(k r q2).1 kr⟩
 |ret=>obtain⟨σ,st,sv,r,kr,q⟩:=q;rw[hd] at q;obtain⟨v,q1,q2⟩:=q;exact⟨r.dQ.trans hB,v,q1,(k r q2).1 kr⟩
 |_=>exact q.elim
theorem Sa[QF]{P:Program}{X:eC}(OK:iP P X)(mx:P.follows .mixedOrders=true){pt:(β:Type)->FuncId->Zh (cD β)}(PT:jn P pt){g:FuncId}{fn:Func}{avt:H1 VT}{rvt:VT}{lv jv:Nat->Zh cL}{un:Nat->Bool}{w:Nat}{Sh:Fn (VT.fu avt) (Zh (bL rvt.ks))}
 (hF:X.F.get g=some fn) (hb:fn.body=some (fn.body.getD .skip)) (hS:Sh=Jz w X pt fn avt rvt lv jv un):cQ P g avt rvt Sh:=by
 intro ls r e lo us hu m args' w0 K A;subst hS;have e1:=nG _ _ _ _ e;obtain⟨⟨svs,rest⟩,h1,e2⟩:=ax e1;obtain⟨_,q1,_⟩:=xC avt ls _ _ _ _ lo hu h1;have hl:args'.size=avt.length:=by rw[<-JU _ _ _ _ hu,<-Array.length_toList];exact A.1.symm
 refine Av (B:=⟨w0,λ_=>False,m,0,λ_=>none,avt.length+(fn.ntmps -avt.length),[]⟩) (OK.F _ _ hF).1 hb rfl rfl (tH OK mx (PT _) rfl rfl rfl _ _ _ _ _ e2 (λr hr=>by cases hr) (σ:=⟨λ_=>none,m⟩) ⟨by simp[hl],rfl,tM (CQ (q1 A) (dQ:=[])),Mem.start K⟩) λR d=>⟨λkr=>?_,λkp=>by cases kp⟩;obtain⟨ls',f1,f3⟩:=Ky _ _ _ _ kr;obtain⟨pv,g1,g3⟩:=f3 [];rw[dP,<-qk _ _ _ f1] at g1;obtain⟨z1,z2⟩:=g3 (Mem.XG K R.mem) d;rw[<-qk _ _ _ f1] at z2;exact⟨_,rfl,R.mem.base.below,pv,g1,z2,z1⟩
end
theorem Mem.kn{B:Bs}{σ:Ren}{G A:Nat->SO->Prop}{F:Nat->Prop}{w:Hx}(M:Mem B σ G F w):Kn (kI σ A w) w:=λb i v h=>by
 unfold kI at h;split at h
 ·exact h
 ·exact M.lit b i v h
section
variable{β:Type}
def J8(avt:H1 VT)(rvt:VT)(Sh:Fn (VT.fu avt) (Zh (bL rvt.ks))):cD β:=λst args K=>
 cond (qG rvt)
  (si st avt args λls=>ob (iI (VT.fu avt) Sh ls) λr=>ob (IB rvt (gP rvt.ks r)) λq=>K false q.1 st)
  (si {st with h:=(jj 1000 (SV.kg args) .nil st.h).1 } avt args λls=>ob (iI (VT.fu avt) Sh ls) λr=>ob (IB rvt (gP rvt.ks r)) λq=>K false q.1 {st with h:=(jj 1000 (SV.kg args) .nil st.h).2 })
theorem abg{P:Program}{g:FuncId}{avt:H1 VT}{rvt:VT}{Sh:Fn (VT.fu avt) (Zh (bL rvt.ks))}(F:cQ P g avt rvt Sh):mM P g (J8 (β:=β) avt rvt Sh):=by
 intro st args K b e;unfold J8 at e;cases hs:qG rvt with
 |true=>rw[hs] at e;obtain⟨ls,h1,h3⟩:=vv _ _ _ _ e;obtain⟨r,k1,h1⟩:=ax h1;obtain⟨⟨sv,rest⟩,k2,h1⟩:=ax h1;obtain⟨us,p1,p3⟩:=h3 [];rw[dP] at p1;refine⟨false,sv,st,h1,rfl,aM _,λ{B σ Fr w} _ M args' d=>?_⟩;obtain⟨A,lo⟩:=p3 (M.seen λ_ _ h=>h) d;refine Calls.mono (F ls r k1 lo us p1 _ args' w M.kn A) λx w' ⟨v',e1,Bl,pv,g1,g2,g3⟩=>?_;obtain⟨_,q,_⟩:=JW _ _ _ _ _ _ g2 g1 k2;exact⟨σ,v',e1,Ext.refl _,q (Xx _ _ _ _ hs g1 _ _ _ g3),(M.same (.Ly Bl)).less (λ_ _ h=>h) λ_ h=>h.1⟩
 |false=>
  rw[hs] at e;obtain⟨m1,m2⟩:=xT 1000 (SV.kg args) .nil st.h (λid so q=>by rw[Tr.get_nil] at q;cases q) (λid so q=>⟨q,Tr.get_nil _⟩);generalize hA:(jj 1000 (SV.kg args) .nil st.h).1 =A at e m1 m2;generalize hB:(jj 1000 (SV.kg args) .nil st.h).2 =Bh at e m1 m2;obtain⟨ls,h1,h3⟩:=vv _ _ _ _ e;obtain⟨r,k1,h1⟩:=ax h1;obtain⟨⟨sv,rest⟩,k2,h1⟩:=ax h1;obtain⟨us,p1,p3⟩:=h3 [];rw[dP] at p1;refine⟨false,sv,{st with h:=Bh},h1,rfl,aM _,λ{B σ Fr w} _ M args' d=>?_⟩
  obtain⟨E,M1⟩:=M.AJ (A:=hG A) (G':=hG Bh) (λi s h=>(m1 i s h).1) (λi s h=>⟨s,(m2 i s h).1,λs' q=>by have:=(m2 i s h).2;rw[show A.get i=some s' from q] at this;cases this⟩) λE i s h=>(M.obj i s (m2 i s h).1).mono E λ_ _ _=>rfl;obtain⟨A',lo⟩:=p3 (M.seen λi s h=>(m1 i s h).1) d;have K:Kn (kI σ (hG A) w) w:=M.kn;refine Calls.mono (F ls r k1 lo us p1 _ args' w K A') λx w' ⟨v',e1,Bl,pv,g1,g2,g3⟩=>?_;obtain⟨_,q,_⟩:=JW _ _ _ _ _ _ g2 g1 k2;have M2:=M1.lits (.Ly Bl) (m:=cJ (kI σ (hG A) w) w w') K.mono (K.new Bl) λb i v h=>by
   unfold cJ at h;split at h
   ·exact .inl h
   ·rename_i z;exact .inr (Nat.not_lt.1 z)
  exact⟨⟨σ.nm,cJ (kI σ (hG A) w) w w'⟩,v',e1,E.trans ⟨λ_ _ h=>h,K.mono⟩,q g3,M2.less (λ_ _ h=>h) λ_ h=>h.1⟩
end
mutual
def fits(st:St):VT->SV->Bool
 | .i k,.i k' _=>decide (k=k')
 | .b,.b _=>true
 | .s,.s _=>true
 | .v,.v _=>true
 | .v,.nl=>true
 | .v,.ni=>true
 | .v,.gr _ _=>true
 | .v,.sl _ _ _ _=>true
 | .agg ts,.agg l=>vq st ts l
 | .aH ts,.aH l=>vq st ts l
 | .fn f ts,.fn f' l=>Nat.beq f f'&&vq st ts l
 | .em b,.em b'=>b==b'
 | .nf,.v .nilFunc=>true
 | .lp _,.lp _=>true
 | .lp ts,.ptr id off=>match st.h.get id with
  |some (.cells c _)=>vq st ts (c.drop off)
  |_=>false
 |_,_=>false
def vq(st:St):H1 VT->H1 SV->Bool
 |[],[]=>true
 |t::ts,x::xs=>fits st t x&&vq st ts xs
 |_,_=>false
end
def MA(pt:(β:Type)->FuncId->Zh (cD β))(g:FuncId)(avt:H1 VT)(rvt:VT)(Sh:Fn (VT.fu avt) (Zh (bL rvt.ks))):(β:Type)->FuncId->Zh (cD β):=
 λβ f=>cond (Nat.beq f g) (some λst args K=>cond (vq st avt args) (J8 avt rvt Sh st args K) (ob (pt β f) λe=>e st args K)) (pt β f)
theorem iN{P:Program}{pt:(β:Type)->FuncId->Zh (cD β)}(PT:jn P pt){g:FuncId}{avt:H1 VT}{rvt:VT}{Sh:Fn (VT.fu avt) (Zh (bL rvt.ks))}(F:cQ P g avt rvt Sh):jn P (MA pt g avt rvt Sh):=by
 intro β f e h;unfold MA at h;cases hb:Nat.beq f g with
 |true=>
  rw[hb] at h;have hg:=bT hb;subst hg;cases h;intro st args K b k;cases hf:vq st avt args with
  |true=>simp[hf] at k;exact abg F st args K b k
  |false=>simp[hf] at k;obtain⟨e0,h0,k⟩:=ax k;exact PT β f e0 h0 st args K b k
 |false=>rw[hb] at h;exact PT β f e h
theorem Ec{P:Program}{g:FuncId}{Sh0:Fn (VT.fu [.v]) (Zh (bL (VT.ks .v)))}(F:cQ P g [.v] .v Sh0)(Fz:cQ P g [.em false] .v (some (ae 0 [])))(Fn:cQ P g [.em true] .v (some (ae 0 []))):
 cQ P g [.v] .v (λx=>ar x λn=>cond (Nat.beq n 0) (some (ae 0 [])) (Sh0 x)):=by
 intro ls r e lo us hu;have hls:∃x,ls=[.v x]:=by
  cases ls with
  |nil=>cases e
  |cons l ls=>
   cases l with
   |v x=>
    cases ls with
    |nil=>simp
    |cons _ _=>cases hu
   |_=>cases e
 obtain⟨x,rfl⟩:=hls;have e:(ar x λn=>cond (Nat.beq n 0) (some (ae 0 [])) (Sh0 x))=some r:=e;unfold ar at e;split at e
 ·rename_i n p f cs ys hxx;replace e:cond (Nat.beq n 0) (some (ae 0 [])) (iI (VT.fu [.v]) Sh0 [.v (.func (.via n p f true) cs ys)])=some r:=e;cases hn:Nat.beq n 0 with
  |false=>rw[hn] at e;exact F _ r e lo us hu
  |true=>
   have hn:=bT hn;subst hn;cases e;cases hu;intro m args' w K A;obtain⟨y,l,h1,h2,h3⟩:=A.inv;have h3:=h3.dY;subst h3;have key:∃a c,y=.slice a 0 c:=by cases h2<;>exact⟨_,_,rfl⟩
   obtain⟨a,c,rfl⟩:=key;cases a with
   |none=>exact Fn [] (ae 0 []) rfl fF.nil [DU true] rfl m args' w K (by rw[h1];exact .cons .A7 .nil)
   |some a=>exact Fz [] (ae 0 []) rfl fF.nil [DU false] rfl m args' w K (by rw[h1];exact .cons .zH .nil)
 ·cases e
end
end Lt
end Go.Proofs.YtcfjfbeadhnknaaGreatDoor

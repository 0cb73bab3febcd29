import Derived.Orders
import Derived.Scope
import Derived.Test.YtcfjfbeadhnknaaGreatDoorUA
namespace Go.Proofs.YtcfjfbeadhnknaaGreatDoor
set_option linter.unusedVariables false
set_option linter.unusedSimpArgs false
set_option linter.unusedSectionVars false
set_option linter.constructorNameAsVariable false
namespace Lt
section
variable{β:Type}
def pe(v:Value):PanicEntry:={v:=v,recovered:=false}
abbrev cA(β:Type):=St->List SV->(Bool->SV->St->Option β)->Option β
def End(p:Bool)(v:Value):Ending:=cond p (.panicked [pe v]) (.returned v)
def mB(P:Program)(g:FuncId)(e:cA β):Prop:=
 ∀st args K b,e st args K=some b->∃p sv st',K p sv st'=some b/\st'.tm=st.tm/\st.sx<=st'.sx/\∀{B:Bs}{σ:Ren}{F:Nat->Prop}{w:World},(∀id,st.sx<=id->id<st'.sx->F id)->Mem B σ (hG st.h) F w->∀args':Array Value,eV σ args args'.toList->
  Calls P g args' w λx w'=>∃σ' v,x=End p v/\Ext σ σ'/\DV σ' sv v/\Mem B σ' (hG st'.h) (lY F st.sx st'.sx) w'
def nh(P:Program)(pt:FuncId->Option (cA β)):Prop:=∀g e,pt g=some e->mB P g e
def ah3(X:ew)(pt:FuncId->Option (cA β))(st:St)(c:Call)(K:Bool->SV->St->Option β):Option β:=
 ob (BD st.tm c.args.toList) λargs=>match c.callee with
  | .value x=>ob (dF st.tm x) λfv=>match fv with
   | .fn g l=>ob (pt (g%65536)) λe=>ob (X.F.get (g%65536)) λ_=>e st (l.take (g/65536)++(args++l.drop (g/65536))) K
   |_=>bI 27
  | .builtin .len=>match args with
   |[x]=>ob (c.argTypes.toList[0]?) λt=>WG X.T st t x λv=>K false v st
   |_=>bI 28
  | .builtin .copy=>match args with
   |[d,x]=>ob (c.argTypes.toList[0]?) λt=>WB X.T st t d x (K false)
   |_=>bI 47
  | .builtin .append=>match args with
   |[s,x]=>MR X.T st c.argTypes.toList s x (K false)
   |_=>bI 29
  | .builtin .min=>FI false args λv=>K false v st
  | .builtin .max=>FI true args λv=>K false v st
  |_=>bI 30
def opC:Op->Nat
 | .move ..=>0
 | .assign ..=>1
 | .pick ..=>2
 | .alloc ..=>3
 | .box ..=>4
 | .build ..=>5
 | .buildSlice ..=>6
 | .insert ..=>7
 | .load ..=>8
 | .store ..=>9
 | .ready ..=>10
 | .waits ..=>11
 | .nilCheck ..=>12
 | .binOp ..=>13
 | .unOp ..=>14
 | .convert ..=>15
 | .sliceToArrayPointer ..=>16
 | .makeInterface ..=>17
 | .makeFunc ..=>18
 | .makeMap ..=>19
 | .makeChan ..=>20
 | .makeSlice ..=>21
 | .slice ..=>22
 | .fieldAddr ..=>23
 | .field ..=>24
 | .indexAddr ..=>25
 | .index ..=>26
 | .lookup ..=>27
 | .mapUpdate ..=>28
 | .mapEntry ..=>29
 | .entryStore ..=>30
 | .range ..=>31
 | .next ..=>32
 | .entry ..=>33
 | .typeAssert ..=>34
 | .extract ..=>35
 | .call ..=>36
 |_=>99
def U4(X:ew)(t:TypeId)(n:Nat):Bool:=match X.T.get t with
 |some i=>match i.desc with
  | .slice e=>match X.T.get e with
   |some j=>oz j.desc&&Nat.beq n 1
   |none=>false
  |_=>false
 |none=>false
def LH(sx:Nat)(v:SV)(so:SO)(K:SV->SO->Option β):Option β:=match v,so with
 | .sl id off n c,.arr cs t=>cond (Nat.beq id sx&&(Nat.beq off 0&&(Nat.beq n 1&&(Nat.beq c 1&&Nat.beq cs.length 1)))) (K (.gr sx 1) (.grow 1 cs t)) (bI 78)
 |_,_=>bI 79
def Cz(X:ew)(pt:FuncId->Option (cA β))(st:St)(o:Op)(K:Bool->SV->St->Option β):Option β:=match o with
 | .move x=>ob (dF st.tm x) λv=>K false v st
 | .assign x=>ob (dF st.tm x) λv=>K false v st
 | .alloc t=>qY X st (.alloc t) λv so=>K false v {st with h:=st.h.set st.sx so,sx:=st.sx+1}
 | .box t x=>qY X st (.box t x) λv so=>K false v {st with h:=st.h.set st.sx so,sx:=st.sx+1}
 | .buildSlice t n ps=>cond (U4 X t n) (qY X st (.buildSlice t n ps) λv so=>LH st.sx v so λv so=>K false v {st with h:=st.h.set st.sx so,sx:=st.sx+1}) (qY X st (.buildSlice t n ps) λv so=>K false v {st with h:=st.h.set st.sx so,sx:=st.sx+1})
 | .build t ps=>ob (F4 st.tm ps.toList) λus=>WA X.T t us λv=>K false v st
 | .load t a=>ob (dF st.tm a) λp=>M4 X.T st t p λv=>K false v st
 | .nilCheck x=>ob (dF st.tm x) λv=>match v with
  | .ptr _ _=>K false v st
  | .lp _=>K false v st
  |_=>bI 34
 | .binOp op t x y _=>ob (dF st.tm x) λa=>ob (dF st.tm y) λb=>match a,b with
  | .ni,.ni=>cond (vi x||vi y) (WK X.T op t λv=>K false v st) none
  |a,b=>MS X.T op t a b λv=>K false v st
 | .typeAssert x _ t ok=>ob (dF st.tm x) λa=>Wz X.T a t ok λv=>K false v st
 | .unOp op _ x=>ob (dF st.tm x) λa=>M8 op a λv=>K false v st
 | .convert s d x=>ob (dF st.tm x) λa=>MU X.T st s d a λv=>K false v st
 | .makeSlice t l c=>ob (dF st.tm l) λa=>ob (dF st.tm c) λb=>M6 X.T st t a b λv so=>K false v {st with h:=st.h.set st.sx so,sx:=st.sx+1}
 | .slice t x lo hi mx=>ob (dF st.tm x) λa=>ob (F3 st.tm lo) λl=>ob (F3 st.tm hi) λu=>ob (F3 st.tm mx) λm=>WM X.T t a l u m λv=>K false v st
 | .fieldAddr s x f=>ob (dF st.tm x) λa=>WD X.T s a f λv=>K false v st
 | .field t x f=>ob (dF st.tm x) λa=>MX X.T t a f λv=>K false v st
 | .indexAddr t x ix=>ob (dF st.tm x) λa=>ob (dF st.tm ix) λb=>MZ X.T st t a b λv=>K false v st
 | .index t x ix=>ob (dF st.tm x) λa=>ob (dF st.tm ix) λb=>MY X.T t a b λv=>K false v st
 | .extract t i=>ob (dF st.tm t) λa=>MW a i λv=>K false v st
 | .call c=>ah3 X pt st c K
 | .panic x=>ob (dF st.tm x) λv=>match v with
  | .fF t u=>K true (.fF t u) st
  |_=>bI 53
 | .makeInterface t x=>ob (dF st.tm x) λa=>WE X.T t a λv=>K false v st
 | .makeFunc (.func f) first captured=>cond (Nat.blt f 65536) (ob (BD st.tm first.toList) λa=>ob (BD st.tm captured.toList) λl=>K false (.fn (f+65536*first.toList.length) (a++l)) st) none
 | .lookup t x k ok=>ob (dF st.tm x) λa=>ob (dF st.tm k) λc=>WI X.T t a c ok λv=>K false v st
 | .makeMap t none=>K false (.mp st.sx) {st with h:=st.h.set st.sx (.mp []),sx:=st.sx+1}
 | .insert t m k x=>ob (dF st.tm m) λa=>ob (dF st.tm k) λc=>ob (dF st.tm x) λy=>FH X.T st t a c y λh=>K false (.aH []) {st with h:=h}
 | .mapUpdate t m k x=>ob (dF st.tm m) λa=>ob (dF st.tm k) λc=>ob (dF st.tm x) λy=>FH X.T st t a c y λh=>K false (.aH []) {st with h:=h}
 |o=>bI (100+opC o)
def mN(o:Op):Bool:=match o with
 | .move _=>true
 | .assign _=>true
 | .build _ _=>true
 | .load _ _=>true
 | .nilCheck _=>true
 | .binOp _ _ _ _ _=>true
 | .unOp _ _ _=>true
 | .convert _ _ _=>true
 | .slice _ _ _ _ _=>true
 | .fieldAddr _ _ _=>true
 | .field _ _ _=>true
 | .indexAddr _ _ _=>true
 | .index _ _ _=>true
 | .extract _ _=>true
 | .makeFunc _ _ _=>true
 | .makeInterface _ _=>true
 | .typeAssert _ _ _ _=>true
 | .lookup _ _ _ _=>true
 | .call c=>match c.callee with
  | .builtin .len=>true
  | .builtin .min=>true
  | .builtin .max=>true
  |_=>false
 |_=>false
def sN(P:Program)(o:Oper)(st:St)(sv:SV):Prop:=
 ∀{B:Bs}{σ:Ren}{G:Nat->SO->Prop}{F:Nat->Prop}{w:World}(a:Act),Ev σ st.tm a->(∀id so,st.h.get id=some so->G id so)->Mem B σ G F w->∀(K:Act->World->Prop) Q,
  (∀σ' v w',Ext σ σ'->DV σ' sv v->Mem B σ' G F w'->K (a.put o.dst v) w')->o.wp P a w K Q
def wJ(P:Program)(p:Bool)(o:Oper)(st st':St)(sv:SV):Prop:=
 ∀{B:Bs}{σ:Ren}{F:Nat->Prop}{w:World}(a:Act),Ev σ st.tm a->(∀id,st.sx<=id->id<st'.sx->F id)->Mem B σ (hG st.h) F w->∀(K:Act->World->Prop) Q,
  (∀σ' v w',Ext σ σ'->DV σ' sv v->Mem B σ' (hG st'.h) (lY F st.sx st'.sx) w'->cond p (Q (.panic [pe v]) a w') (K (a.put o.dst v) w'))->o.wp P a w K Q
theorem mn{P:Program}{s:Sem Value}{u:Value}{w w':World}(h:s.run P w=.ok u w'):(do pure (Next.value (<-s)):Sem Next).run P w=.ok (.value u) w':=by simp only[da,h,eK,eL]
theorem DV.TD{σ:Ren}{v:Value}(d:DV σ .ni v):v=.nilIface:=by cases d;rfl
theorem DV.aby{σ:Ren}{t:TypeId}{x:SV}{v:Value}(d:DV σ (.fF t x) v):∃y,v=.iface t y:=by cases d;exact⟨_,rfl⟩
theorem rA{P:Program}{o:Oper}{a:Act}{w w':World}{v:Value}{K:Act->World->Prop}{Q:Exit->Act->World->Prop}(h:(execOp a.eval o).run P w=.ok (.value v) w')(k:K (a.put o.dst v) w'):o.wp P a w K Q:=by unfold Oper.wp;rw[h];exact k
theorem aih(X:ew)(st:St)(l c:Operand)(t:TypeId){K:SV->St->Option β}:qY X st (.makeSlice t l c) (λv so=>K v {st with h:=st.h.set st.sx so,sx:=st.sx+1})=ob (dF st.tm l) λa=>ob (dF st.tm c) λb=>M6 X.T st t a b λv so=>K v {st with h:=st.h.set st.sx so,sx:=st.sx+1}:=rfl
theorem Ph{P:Program}{X:ew}(OK:iJ P X){pt:FuncId->Option (cA β)}(PT:nh P pt){o:Oper}{st:St}{K:Bool->SV->St->Option β}{b:β}(e:Cz X pt st o.op K=some b):
 ∃p sv st',K p sv st'=some b/\st'.tm=st.tm/\st.sx<=st'.sx/\wJ P p o st st' sv/\(mN o.op=true->p=false/\sN P o st sv):=by
 have quiet:∀{sv:SV},K false sv st=some b->(∀{B:Bs}{σ:Ren}{F:Nat->Prop}{w:World}(a:Act),Ev σ st.tm a->Mem B σ (hG st.h) F w->∃v,(execOp a.eval o).run P w=.ok (.value v) w/\DV σ sv v)->
  ∃p sv st',K p sv st'=some b/\st'.tm=st.tm/\st.sx<=st'.sx/\wJ P p o st st' sv/\(mN o.op=true->p=false/\sN P o st sv):=by
  intro sv h q;refine⟨false,sv,st,h,rfl,aM _,λ{B σ F w} a R hF M K Q k=>?_,λ_=>⟨rfl,λ{B σ G F w} a R s M K Q k=>?_⟩⟩
  ·obtain⟨v,v1,v2⟩:=q a R M;exact rA v1 (k σ v w (Ext.refl _) v2 (M.less (λ_ _ h=>h) λ_ h=>h.1))
  ·obtain⟨v,v1,v2⟩:=q a R (M.less s λ_ h=>h);exact rA v1 (k σ v w (Ext.refl _) v2 M)
 have loud:∀{sv:SV}{st':St},mN o.op=false->K false sv st'=some b->st'.tm=st.tm->st.sx<=st'.sx->(∀{B:Bs}{σ:Ren}{F:Nat->Prop}{w:World}(a:Act),Ev σ st.tm a->(∀id,st.sx<=id->id<st'.sx->F id)->Mem B σ (hG st.h) F w->∃v w' σ',(execOp a.eval o).run P w=.ok (.value v) w'/\Ext σ σ'/\DV σ' sv v/\Mem B σ' (hG st'.h) (lY F st.sx st'.sx) w')->
  ∃p sv st',K p sv st'=some b/\st'.tm=st.tm/\st.sx<=st'.sx/\wJ P p o st st' sv/\(mN o.op=true->p=false/\sN P o st sv):=by
  intro sv st' hq h ht hx q;refine⟨false,sv,st',h,ht,hx,λ{B σ F w} a R hF M K Q k=>?_,λz=>by rw[hq] at z;cases z⟩;obtain⟨v,w',σ',v1,v2,v3,v4⟩:=q a R hF M;exact rA v1 (k σ' v w' v2 v3 v4)
 have make:∀{K':SV->St->Option β},(∀sv st,K' sv st=K false sv st)->mN o.op=false->qY X st o.op (λv so=>K' v {st with h:=st.h.set st.sx so,sx:=st.sx+1})=some b->
  ∃p sv st',K p sv st'=some b/\st'.tm=st.tm/\st.sx<=st'.sx/\wJ P p o st st' sv/\(mN o.op=true->p=false/\sN P o st sv):=by
  intro K' hK hq e;obtain⟨sv,so,h1,h3⟩:=M5 OK e;rw[hK] at h1;refine loud hq h1 rfl (pQ _) λ{B σ F w} a R hF M=>?_;obtain⟨u,w',g1,g2,g3⟩:=h3 a R w;obtain⟨k1,k2,_⟩:=g3 (σ.add st.sx (some (w.heap.size,0),0)) 0 0 (Ren.zC (M.fresh _ (hF _ (aM _) (kM _)))) (Ren.jE _ _ _);obtain⟨E,M'⟩:=M.new (hF _ (aM _) (kM _)) g2 k2;exact⟨u,w',_,g1,E,k1,M'⟩
 have makeO:∀{K':SV->St->Option β},(∀sv st,K' sv st=K false sv st)->mN o.op=false->qY X st o.op (λv so=>LH st.sx v so λv so=>K' v {st with h:=st.h.set st.sx so,sx:=st.sx+1})=some b->
  ∃p sv st',K p sv st'=some b/\st'.tm=st.tm/\st.sx<=st'.sx/\wJ P p o st st' sv/\(mN o.op=true->p=false/\sN P o st sv):=by
  intro K' hK hq e;obtain⟨sv,so,h1,h3⟩:=M5 OK e;unfold LH at h1;split at h1
  ·rename_i id off m c cs t;obtain⟨c1,h2⟩:=aX h1;simp only[bu] at c1;obtain⟨e1,e2,e3,e4,e5⟩:=c1;have e1:=bV e1;have e2:=bV e2;have e3:=bV e3;have e4:=bV e4;have e5:=bV e5;subst e1 e2 e3 e4;replace h2:=(hK _ _).symm.trans h2;refine loud hq h2 rfl (pQ _) λ{B σ F w} a R hF M=>?_;obtain⟨u,w',g1,g2,g3⟩:=h3 a R w;obtain⟨_,_,k3⟩:=g3 (σ.add st.sx (some (w.heap.size,1),1)) 1 1 (Ren.zC (M.fresh _ (hF _ (aM _) (kM _)))) (Ren.jE _ _ _);obtain⟨rfl,k4⟩:=k3 _ _ _ _ rfl rfl;obtain⟨E,M'⟩:=M.new (hF _ (aM _) (kM _)) g2 (k4 e5 rfl rfl);exact⟨_,w',_,g1,E,.gr (Ren.jE _ _ _) rfl (aM _),M'⟩
  ·cases h1
 have ins:∀{t:TypeId}{m k x:Operand}{p q r:SV},mN o.op=false->dF st.tm m=some p->dF st.tm k=some q->dF st.tm x=some r->FH X.T st t p q r (λh=>K false (.aH []) {st with h:=h})=some b->(∀(a:Act) w w',(Instr.mapUpdate t (a.eval m) (a.eval k) (a.eval x)).run P w=.ok () w'->(execOp a.eval o).run P w=.ok .skip w')->
  ∃p sv st',K p sv st'=some b/\st'.tm=st.tm/\st.sx<=st'.sx/\wJ P p o st st' sv/\(mN o.op=true->p=false/\sN P o st sv):=by
  intro t m k x p q r hq k1 k2 k3 e run;obtain⟨h',h1,h2⟩:=aid OK.T e;refine⟨false,_,_,h1,rfl,aM _,λ{B σ F w} a R hF M K Q k=>?_,λz=>by rw[hq] at z;cases z⟩;obtain⟨w',v1,v2⟩:=h2 M _ _ _ (ec R k1) (ec R k2) (ec R k3);unfold Oper.wp;rw[run a w w' v1];exact k σ undef w' (Ext.refl _) (.aH rfl (λi x y h=>by simp at h)) (v2.less (λ_ _ h=>h) λ_ h=>h.1)
 unfold Cz at e;split at e
 ·rename_i x hop;obtain⟨v,h1,e⟩:=ax e;exact quiet e λa R M=>⟨_,by unfold execOp;simp only[hop,eL],ec R h1⟩
 ·rename_i x hop;obtain⟨v,h1,e⟩:=ax e;exact quiet e λa R M=>⟨_,by unfold execOp;simp only[hop,eL],ec R h1⟩
 ·rename_i t hop;rw[<-hop] at e;exact make (K':=λv st=>K false v st) (λ_ _=>rfl) (by rw[hop];rfl) e
 ·rename_i t x hop;rw[<-hop] at e;exact make (K':=λv st=>K false v st) (λ_ _=>rfl) (by rw[hop];rfl) e
 ·rename_i t n ps hop;rw[<-hop] at e;cases hb:U4 X t n with
  |true=>rw[hb,aD] at e;exact makeO (K':=λv st=>K false v st) (λ_ _=>rfl) (by rw[hop];rfl) e
  |false=>rw[hb,aF] at e;exact make (K':=λv st=>K false v st) (λ_ _=>rfl) (by rw[hop];rfl) e
 ·rename_i t ps hop;obtain⟨us,k1,e⟩:=ax e;obtain⟨sv,h1,h2⟩:=ah2 OK.T e;refine quiet h1 λa R M=>?_;obtain⟨u,v1,v2⟩:=h2 _ (ps.map λ(i,x)=>(i,a.eval x)) _ (by rw[Array.toList_map];exact NC R k1);exact⟨u,by unfold execOp;simp only[hop];exact mn v1,v2⟩
 ·rename_i t x hop;obtain⟨p,k1,e⟩:=ax e;obtain⟨sv,h1,h2⟩:=WH OK.T e;refine quiet h1 λa R M=>?_;obtain⟨u,v1,v2⟩:=h2 M _ (ec R k1);exact⟨u,by unfold execOp;simp only[hop];exact mn v1,v2⟩
 ·rename_i x hop;obtain⟨p,k1,e⟩:=ax e;split at e
  ·refine quiet e λa R M=>⟨a.eval x,?_,ec R k1⟩;obtain⟨ad,q,_⟩:=(ec R k1).Md;unfold execOp;simp[hop,q]
  ·refine quiet e λa R M=>⟨a.eval x,?_,ec R k1⟩;obtain⟨ad,q,_⟩:=(ec R k1).KN;unfold execOp;simp[hop,q]
  ·cases e
 ·rename_i op t x y yt hop;obtain⟨p,k1,e⟩:=ax e;obtain⟨q,k2,e⟩:=ax e;split at e
  ·obtain⟨hc,e⟩:=aX e;obtain⟨sv,h1,h2⟩:=aij OK.T e;refine quiet h1 λ{B σ F w} a R M=>?_;have d1:=ec R k1;have d2:=ec R k2;obtain⟨u,v1,v2⟩:=h2 x y w hc;have q1:=d1.TD;have q2:=d2.TD;exact⟨u,by unfold execOp;simp only[hop,q1,q2];exact mn v1,v2 _⟩
  ·obtain⟨sv,h1,h2⟩:=ah1 OK.T e;refine quiet h1 λ{B σ F w} a R M=>?_;obtain⟨u,v1,v2⟩:=h2 _ _ _ x y w (ec R k1) (ec R k2);exact⟨u,by unfold execOp;simp only[hop];exact mn v1,v2⟩
 ·rename_i x xt t ok hop;obtain⟨p,k1,e⟩:=ax e;obtain⟨sv,h1,h2⟩:=ah0 OK.T e;refine quiet h1 λ{B σ F w} a R M=>?_;obtain⟨u,v1,v2⟩:=h2 _ _ xt w (ec R k1);exact⟨u,by unfold execOp;simp only[hop];exact mn v1,v2⟩
 ·rename_i op t x hop;obtain⟨p,k1,e⟩:=ax e;obtain⟨sv,h1,h2⟩:=aim e;refine quiet h1 λ{B σ F w} a R M=>?_;obtain⟨u,v1,v2⟩:=h2 _ _ w (ec R k1);exact⟨u,by unfold execOp;simp only[hop];exact mn v1,v2⟩
 ·rename_i s d x hop;obtain⟨p,k1,e⟩:=ax e;obtain⟨sv,h1,h2⟩:=ah6 OK.T e;have run:∀{a:Act}{w w':World}{u:Value},(convert s d (a.eval x)).run P w=.ok u w'->(execOp a.eval o).run P w=.ok (.value u) w':=λh=>by unfold execOp;simp only[hop];exact mn h
  refine⟨false,sv,st,h1,rfl,aM _,λ{B σ F w} a R hF M K Q k=>?_,λ_=>⟨rfl,λ{B σ G F w} a R s M K Q k=>?_⟩⟩
  ·obtain⟨u,w',v1,v2,v3⟩:=h2 (λ_ _ h=>h) M _ (ec R k1);exact rA (run v1) (k σ u w' (Ext.refl _) v2 (v3.less (λ_ _ h=>h) λ_ h=>h.1))
  ·obtain⟨u,w',v1,v2,v3⟩:=h2 s M _ (ec R k1);exact rA (run v1) (k σ u w' (Ext.refl _) v2 v3)
 ·rename_i t l c hop;rw[<-aih X st l c t] at e;rw[<-hop] at e;exact make (K':=λv st=>K false v st) (λ_ _=>rfl) (by rw[hop];rfl) e
 ·rename_i t x lo hi mx hop;obtain⟨p,k1,e⟩:=ax e;obtain⟨l,k2,e⟩:=ax e;obtain⟨u,k3,e⟩:=ax e;obtain⟨m,k4,e⟩:=ax e;obtain⟨sv,h1,h2⟩:=aik OK.T e;refine quiet h1 λ{B σ F w} a R M=>?_;obtain⟨u,v1,v2⟩:=h2 _ _ _ _ _ w (ec R k1) (NB R k2) (NB R k3) (NB R k4);exact⟨u,by unfold execOp;simp only[hop];exact mn v1,v2⟩
 ·rename_i s x f hop;obtain⟨p,k1,e⟩:=ax e;obtain⟨sv,h1,h2⟩:=ah8 OK.T e;refine quiet h1 λ{B σ F w} a R M=>?_;obtain⟨u,v1,v2⟩:=h2 _ _ w (ec R k1);exact⟨u,by unfold execOp;simp only[hop];exact mn v1,v2⟩
 ·rename_i t x f hop;obtain⟨p,k1,e⟩:=ax e;obtain⟨sv,h1,h2⟩:=ah9 OK.T e;refine quiet h1 λ{B σ F w} a R M=>?_;obtain⟨u,v1,v2⟩:=h2 _ _ w (ec R k1);exact⟨u,by unfold execOp;simp only[hop];exact mn v1,v2⟩
 ·rename_i t x ix hop;obtain⟨p,k1,e⟩:=ax e;obtain⟨q,k2,e⟩:=ax e;obtain⟨sv,h1,h2⟩:=aib OK.T e;refine quiet h1 λ{B σ F w} a R M=>?_;obtain⟨u,v1,v2⟩:=h2 M _ _ (ec R k1) (ec R k2);exact⟨u,by unfold execOp;simp only[hop];exact mn v1,v2⟩
 ·rename_i t x ix hop;obtain⟨p,k1,e⟩:=ax e;obtain⟨q,k2,e⟩:=ax e;obtain⟨sv,h1,h2⟩:=aic OK.T e;refine quiet h1 λ{B σ F w} a R M=>?_;obtain⟨u,v1,v2⟩:=h2 _ _ _ w (ec R k1) (ec R k2);exact⟨u,by unfold execOp;simp only[hop];exact mn v1,v2⟩
 ·rename_i t j hop;obtain⟨p,k1,e⟩:=ax e;obtain⟨sv,h1,h2⟩:=ah7 (P:=P) e;refine quiet h1 λ{B σ F w} a R M=>?_;obtain⟨u,v1,v2⟩:=h2 _ _ w (ec R k1);exact⟨u,by unfold execOp;simp only[hop];exact mn v1,v2⟩
 ·rename_i c hop;obtain⟨args,k1,e⟩:=ax e;have ra:∀{σ:Ren}{a:Act},Ev σ st.tm a->eV σ args (c.args.map a.eval).toList:=λR=>by rw[Array.toList_map];exact F5 R k1
  have bi:∀{bf:Builtin}{s:Array TypeId->TypeId->Array Value->Sem Value}{a:Act}{w w':World}{v:Value},c.callee=.builtin bf->(∀ts ty cs as,builtin bf ts ty cs as=do pure (.value (<-s ts ty as)))->
   (s c.argTypes o.type (c.args.map a.eval)).run P w=.ok v w'->(execOp a.eval o).run P w=.ok (.value v) w':=by
   intro bf s a w w' v hc hs h;unfold execOp resolve;simp only[hop,hc,da,eL,eK];unfold invoke;simp only[hs,da,h,eK,eL]
  split at e
  ·rename_i x0 hc;obtain⟨fv,k0,e⟩:=ax e;split at e
   case h_2=>cases e
   rename_i g l;obtain⟨en,k2,e⟩:=ax e;obtain⟨fn,k3,e⟩:=ax e;obtain⟨p,sv,st',h1,ht,hx',h2⟩:=PT (g%65536) en k2 _ _ _ _ e;refine⟨p,sv,st',h1,ht,hx',λ{B σ F w} a R hF M K Q k=>?_,λq=>by rw[hop] at q;simp only[mN,hc] at q;cases q⟩;obtain⟨f1,f2,f3⟩:=OK.F _ _ k3;have d:=ec R k0;generalize hx:a.eval x0=fx at d;cases d with
   |fn hl hr=>
    rename_i ys;have d:eV σ l ys:=⟨hl,hr⟩;have run:(execOp a.eval o).run P w=.ok (.enter (g%65536) ((⟨ys.take (g/65536)⟩:Array Value)++c.args.map a.eval++⟨ys.drop (g/65536)⟩)) w:=by
     unfold execOp resolve;simp only[hop,hc,hx,rN,Deferred.ofValue,da,eL,eK];unfold invoke callFunc;have h4:fn.body.isNone=false:=by cases hb:fn.body with
      |none=>rw[hb] at f3;cases f3
      |some b=>rfl
     simp only[da,run_program,eK,f1,f2,h4,kJ,gQ,eL]
    unfold Oper.wp;rw[run];have dd:eV σ (l.take (g/65536)++(args++l.drop (g/65536))) ((⟨ys.take (g/65536)⟩:Array Value)++c.args.map a.eval++⟨ys.drop (g/65536)⟩).toList:=by rw[Array.toList_append,Array.toList_append,dV];exact(d.take _).append ((ra R).append (d.drop _))
    refine Calls.mono (h2 hF M _ dd) λx w' ⟨σ',v,q1,q2,q3,q4⟩=>?_;subst q1;have:=k σ' v w' q2 q3 q4;cases p<;>exact this
  ·rename_i hc;split at e
   ·rename_i x;obtain⟨t,k2,e⟩:=ax e;obtain⟨sv,h1,h2⟩:=aie OK.T k2 e;refine quiet h1 λ{B σ F w} a R M=>?_;obtain⟨v,l,q1,q2,q3⟩:=(ra R).inv;obtain⟨u,v1,v2⟩:=h2 M (c.args.map a.eval) o.type v (by rw[<-my,q1];rfl) q2;exact⟨u,bi hc (λ_ _ _ _=>rfl) v1,v2⟩
   ·cases e
  ·rename_i hc;split at e
   ·rename_i x y;obtain⟨t,k2,e⟩:=ax e;obtain⟨sv,h',h1,h2⟩:=ah5 OK.T k2 e;refine loud (by rw[hop];simp[mN,hc]) h1 rfl (aM _) λ{B σ F w} a R hF M=>?_;obtain⟨v,l,q1,q2,q3⟩:=(ra R).inv;obtain⟨v',l',rfl,q4,q5⟩:=q3.inv;obtain⟨u,w',v1,v2,v3⟩:=h2 M (c.args.map a.eval) o.type v v' (by rw[<-my,q1];rfl) (by rw[<-my,q1];rfl) q2 q4;exact⟨u,w',σ,bi hc (λ_ _ _ _=>rfl) v1,Ext.refl _,v2,v3.less (λ_ _ h=>h) λ_ h=>h.1⟩
   ·cases e
  ·rename_i hc;split at e
   ·rename_i x y;obtain⟨sv,h',d,h1,h2⟩:=ahZ (P:=P) OK.T e;refine loud (by rw[hop];simp[mN,hc]) h1 rfl (Nat.le_add_right _ _) λ{B σ F w} a R hF M=>?_;obtain⟨v,l,q1,q2,q3⟩:=(ra R).inv;obtain⟨v',l',rfl,q4,q5⟩:=q3.inv;obtain⟨u,w',σ',v1,v2,v3,v4⟩:=h2 hF M (c.args.map a.eval) o.type v v' (by rw[<-my,q1];rfl) (by rw[<-my,q1];rfl) q2 q4;exact⟨u,w',σ',bi hc (λ_ _ _ _=>rfl) v1,v2,v3,v4⟩
   ·cases e
  ·rename_i hc;obtain⟨sv,h1,h2⟩:=WJ (P:=P) e;refine quiet h1 λ{B σ F w} a R M=>?_;obtain⟨u,v1,v2⟩:=h2 σ _ c.argTypes o.type w (ra R);exact⟨u,bi hc (λ_ _ _ _=>rfl) v1,v2⟩
  ·rename_i hc;obtain⟨sv,h1,h2⟩:=WJ (P:=P) e;refine quiet h1 λ{B σ F w} a R M=>?_;obtain⟨u,v1,v2⟩:=h2 σ _ c.argTypes o.type w (ra R);exact⟨u,bi hc (λ_ _ _ _=>rfl) v1,v2⟩
  ·cases e
 ·rename_i x hop;obtain⟨v,k1,e⟩:=ax e;split at e
  ·rename_i t u;refine⟨true,_,st,e,rfl,aM _,λ{B σ F w} a R hF M K Q k=>?_,λq=>by rw[hop] at q;cases q⟩;have d:=ec R k1;obtain⟨y,q⟩:=d.aby;have run:(execOp a.eval o).run P w=.halt (.panic (a.eval x)) w:=by unfold execOp;simp[hop,q,Instr.panic]
   unfold Oper.wp;rw[run];exact k σ _ w (Ext.refl _) d (M.less (λ_ _ h=>h) λ_ h=>h.1)
  ·cases e
 ·rename_i t x hop;obtain⟨p,k1,e⟩:=ax e;obtain⟨sv,h1,h2⟩:=aia OK.T e;refine quiet h1 λ{B σ F w} a R M=>?_;obtain⟨u,v1,v2⟩:=h2 _ _ w (ec R k1);exact⟨u,by unfold execOp;simp only[hop];exact mn v1,v2⟩
 ·rename_i f first captured hop
  obtain⟨q,e⟩:=aX e;obtain⟨x,k1,e⟩:=ax e;obtain⟨y,k2,e⟩:=ax e;have q:=eQ q;refine quiet e λ{B σ F w} a R M=>?_;have d:=(F5 R k1).append (F5 R k2);refine⟨_,?_,.fn d.1 d.2⟩;unfold execOp rN;have hl:(first.toList.map a.eval).length=first.toList.length:=by simp
  rw[Nat.add_mul_mod_self_left,pR q,Nat.add_mul_div_left _ _ (by decide),Nat.div_eq_of_lt q,gj,<-hl,List.take_left',List.drop_left']
  ·simp[hop,Instr.makeFunc];exact⟨by rw[<-Array.toList_map],by rw[<-Array.toList_map]⟩
  ·rfl
  ·rfl
 ·rename_i t x k ok hop;obtain⟨p,k1,e⟩:=ax e;obtain⟨q,k2,e⟩:=ax e;obtain⟨sv,h1,h2⟩:=aif OK.T e;refine quiet h1 λ{B σ F w} a R M=>?_;obtain⟨u,v1,v2⟩:=h2 M _ _ (ec R k1) (ec R k2);exact⟨u,by unfold execOp;simp only[hop];exact mn v1,v2⟩
 ·rename_i t hop;refine loud (by rw[hop];rfl) e rfl (pQ _) λ{B σ F w} a R hF M=>?_;obtain⟨v,w',σ',v1,v2,v3,v4⟩:=aii (P:=P) (hF _ (aM _) (kM _)) M t;exact⟨v,w',σ',by unfold execOp;simp only[hop];exact mn v1,v2,v3,v4⟩
 ·rename_i t m k x hop;obtain⟨p,k1,e⟩:=ax e;obtain⟨q,k2,e⟩:=ax e;obtain⟨r,k3,e⟩:=ax e;exact ins (by rw[hop];rfl) k1 k2 k3 e λa w w' h=>by unfold execOp;simp only[hop,da,h,eK,eL]
 ·rename_i t m k x hop;obtain⟨p,k1,e⟩:=ax e;obtain⟨q,k2,e⟩:=ax e;obtain⟨r,k3,e⟩:=ax e;exact ins (by rw[hop];rfl) k1 k2 k3 e λa w w' h=>by unfold execOp;simp only[hop,da,h,eK,eL]
 ·cases e
end
section
variable{β:Type}
def kF(tm:Tr SV)(d:Option Nat)(v:SV):Tr SV:=match d with
 |some d=>tm.set d v
 |none=>tm
def DZ(ops:Array Oper)(tm:Tr SV)(o:Oper)(K:Bool->Tr SV->Option β):Option β:=match o.guard with
 |none=>K true tm
 |some (j,want)=>ob (ops[j]?) λoj=>ob oj.dst λd=>ob (tm.get d) λv=>match v with
  | .b x=>cond x (K (true==want) (tm.set d (.b true))) (K (false==want) (tm.set d (.b false)))
  | .aH _=>K false tm
  |_=>none
def AU(X:ew)(pt:FuncId->Option (cA β))(st:St)(o:Oper)(K:Option SV->St->Option β):Option β:=match o.op with
 | .store t a y=>match o.dst with
  |none=>ob (dF st.tm a) λp=>ob (dF st.tm y) λu=>WN X.T st t p u (K none)
  |some _=>none
 | .pick c a b=>ob (dF st.tm c) λv=>match v with
  | .b x=>cond x (ob (dF st.tm a) λu=>K none {st with tm:=kF st.tm o.dst u}) (ob (dF st.tm b) λu=>K none {st with tm:=kF st.tm o.dst u})
  |_=>bI 36
 |op=>Cz X pt st op λp v st'=>cond p (K (some v) st') (K none {st' with tm:=kF st'.tm o.dst v})
def DF(n:Nat)(o:Oper)(r:Option β):Option β:=match o.dst with
 |none=>r
 |some d=>cond (Nat.blt d n) r none
theorem QS{n:Nat}{o:Oper}{r:Option β}{b:β}(e:DF n o r=some b):r=some b/\∀d,o.dst=some d->d<n:=by
 unfold DF at e;split at e
 ·grind
 ·rename_i d0 h;obtain⟨e1,e⟩:=aX e;simp_all
def yg(X:ew)(pt:FuncId->Option (cA β))(n:Nat)(ops:Array Oper):List Oper->St->(Option SV->St->Option β)->Option β
 |[],st,K=>K none st
 |o::os,st,K=>DZ ops st.tm o λw tm=>DF n o (cond w (AU X pt {st with tm:=tm} o λq st'=>match q with|none=>yg X pt n ops os st' K|some v=>K (some v) st') (yg X pt n ops os {st with tm:=kF tm o.dst (.aH [])} K))
def looks(ops:Array Oper)(o:Oper):List Nat:=
 (o.op.operands.toList.filterMap λx=>match x with| .tmp t=>some t|_=>none)++(match o.guard with|some (g,_)=>((ops[g]?).bind (·.dst)).toList|none=>[])
def jw(tm:Tr SV):List Nat->Tr SV->Tr SV
 |[],acc=>acc
 |t::ts,acc=>match tm.get t with
  |some v=>jw tm ts (acc.set t v)
  |none=>jw tm ts acc
theorem AT{tm:Tr SV}:∀(ts:List Nat)(acc:Tr SV)(t:Nat)(u:SV),(jw tm ts acc).get t=some u->(t∈ts/\tm.get t=some u)\/acc.get t=some u
 |[],_,_,_,h=>.inr h
 |x::xs,acc,t,u,h=>by
  unfold jw at h;cases hx:tm.get x with
  |none=>rw[hx] at h;rcases AT xs acc t u h with⟨a,b⟩|a<;>grind
  |some v=>
   rw[hx] at h;rcases AT xs (acc.set x v) t u h with⟨a,b⟩|a
   ·grind
   ·rw[Tr.fE] at a
    grind
structure dA(B:Bs)(σ:Ren)(st:St)(a:Act)(w:World):Prop where
 size:a.tmps.size=B.n
 dH:a.defers=B.dH
 ev:Ev σ st.tm a
 mem:iY B σ st.h st.sx w
theorem PC{σ:Ren}:DV σ (.aH []) undef:=.aH rfl (λi x y h=>by simp at h)
theorem eval_put{a:Act}{d:Option Nat}{v:Value}{t:Nat}:(∀k,d=some k->k<a.tmps.size)->(a.put d v).eval (.tmp t)=if d=some t then v else a.eval (.tmp t):=by
 intro h;cases d with
 |none=>rfl
 |some k=>
  show(a.tmps.setIfInBounds k v).getD t undef=_;rw[qz,Array.getElem?_setIfInBounds];by_cases e:k=t
  ·subst e;rw[ay rfl,ay (h k rfl),ay rfl];rfl
  ·rw[aq e,aq (by simpa using e),<-qz];rfl
theorem Ev.put{σ σ':Ren}{tm:Tr SV}{a:Act}(R:Ev σ tm a)(E:Ext σ σ'){d:Option Nat}{sv:SV}{v:Value}(hd:∀k,d=some k->k<a.tmps.size)(dv:DV σ' sv v):Ev σ' (kF tm d sv) (a.put d v):=λt s hs=>by
 rw[eval_put hd];cases d with
 |none=>rw[aq (by simp)];exact(R t s hs).mono E
 |some k=>
  have hs:(tm.set k sv).get t=some s:=hs;rw[Tr.fE] at hs;by_cases e:t=k
  ·subst e;rw[ay rfl] at hs⊢;cases hs;exact dv
  ·rw[aq e] at hs;rw[aq (by simpa using Ne.symm e)];exact(R t s hs).mono E
theorem dA.put{B:Bs}{σ σ':Ren}{st:St}{a:Act}{w w':World}{h':Tr SO}{sx':Nat}(R:dA B σ st a w)(E:Ext σ σ')(M:iY B σ' h' sx' w'){d:Option Nat}{sv:SV}{v:Value}(hd:∀k,d=some k->k<B.n)(dv:DV σ' sv v):dA B σ' ⟨kF st.tm d sv,h',sx'⟩ (a.put d v) w':=
 ⟨by cases d<;>simp[Act.put,R.size],by cases d<;>exact R.dH,R.ev.put E (by rw[R.size];exact hd) dv,M⟩
def uC(B:Bs)(q:Option SV)(st:St)(Q:Exit->Act->World->Prop):Prop:=∀σ a w,dA B σ st a w->match q with
 |none=>Q .normal a w
 |some sv=>∀v,DV σ sv v->Q (.panic [pe v]) a w
def Sub(a b:Tr SV):Prop:=∀t sv,a.get t=some sv->b.get t=some sv
theorem Ev.sub{σ:Ren}{tm tm':Tr SV}{a:Act}(R:Ev σ tm a)(s:Sub tm' tm):Ev σ tm' a:=λt sv h=>R t sv (s t sv h)
theorem U1{tm:Tr SV}{ts:List Nat}:Sub (jw tm ts .nil) tm:=λt sv h=>by
 rcases AT _ _ _ _ h with⟨_,q⟩|q
 ·exact q
 ·rw[Tr.get_nil] at q;cases q
theorem EU{tm:Tr SV}{t:Nat}{sv:SV}(h:tm.get t=some sv):∀(ts:List Nat)(acc:Tr SV),t∈ts\/acc.get t=some sv->(jw tm ts acc).get t=some sv
 |[],acc,k=>by rcases k with k|k;cases k;exact k
 |x::ts,acc,k=>by
  unfold jw;cases hx:tm.get x with
  |none=>
   refine EU h ts acc ?_;rcases k with k|k
   ·rcases cQ.1 k with rfl|k
    ·rw[h] at hx;cases hx
    ·exact .inl k
   ·exact .inr k
  |some v=>
   refine EU h ts _ ?_;by_cases e:t=x
   ·subst e;rw[h] at hx;cases hx;exact .inr (by rw[Tr.fE,ay rfl])
   ·rcases k with k|k
    ·exact .inl (by rcases cQ.1 k with q|q;exact absurd q e;exact q)
    ·exact .inr (by rw[Tr.fE,aq e];exact k)
theorem DV.bv{σ:Ren}{x:Bool}{v:Value}(d:DV σ (.b x) v):v=.bool x:=by cases d;rfl
theorem RI{ops:Array Oper}{tm:Tr SV}{o:Oper}{K:Bool->Tr SV->Option β}{b:β}(e:DZ ops tm o K=some b):
 ∃w tm',K w tm'=some b/\Sub tm' tm/\∀{σ:Ren}{a:Act},Ev σ (jw tm' (looks ops o) .nil) a->Region.wanted o (yielded ops a.tmps)=w:=by
 unfold DZ at e;split at e
 ·rename_i hg;exact⟨_,_,e,λ_ _ h=>h,λR=>by unfold Region.wanted;rw[hg]⟩
 ·rename_i j want hg;obtain⟨oj,h1,e⟩:=ax e;obtain⟨d,h2,e⟩:=ax e;obtain⟨v,h3,e⟩:=ax e;have mem:d∈looks ops o:=by simp[looks,hg,h1,h2]
  have yl:∀{a:Act}{u:Value},a.eval (.tmp d)=u->yielded ops a.tmps j=(match u with| .bool b=>some b|_=>none):=by
   intro a u hu;unfold yielded;simp only[h1,Option.bind_some,h2];simp only[Act.eval,qz] at hu;cases hx:a.tmps[d]? with
   |none=>rw[hx] at hu;subst hu;rfl
   |some x=>rw[hx] at hu;simp only[pS] at hu;subst hu;cases x<;>rfl
  split at e
  ·rename_i x;have key:Sub (tm.set d (.b x)) tm/\∀{σ:Ren}{a:Act},Ev σ (jw (tm.set d (.b x)) (looks ops o) .nil) a->Region.wanted o (yielded ops a.tmps)=(x==want):=by
    refine⟨λt sv h=>?_,λ{σ a} R=>?_⟩
    ·rw[Tr.fE] at h;by_cases q:t=d
     ·rw[ay q] at h;cases h;rw[q];exact h3
     ·rw[aq q] at h;exact h
    ·have:=(R d (.b x) (EU (by rw[Tr.fE,ay rfl]) _ _ (.inl mem))).bv;unfold Region.wanted;rw[hg];simp only[yl this];cases x<;>cases want<;>rfl
   cases x with
   |true=>exact⟨_,_,e,key⟩
   |false=>exact⟨_,_,e,key⟩
  ·refine⟨_,_,e,λ_ _ h=>h,λ{σ a} R=>?_⟩;have:=R d _ (EU h3 _ _ (.inl mem));generalize hu:a.eval (.tmp d)=u at this;cases this;unfold Region.wanted;rw[hg];simp only[yl hu];cases want<;>rfl
  ·cases e
theorem LF{P:Program}{X:ew}(OK:iJ P X){pt:FuncId->Option (cA β)}(PT:nh P pt){o:Oper}{st:St}{K:Option SV->St->Option β}{b:β}(e:AU X pt st o K=some b):
 ∃q sv st',K q st'=some b/\st.sx<=st'.sx/\(q=none/\st'.tm=kF st.tm o.dst sv\/q=some sv/\st'.tm=st.tm)/\
  ∀{B:Bs}{σ:Ren}{F:Nat->Prop}{w:World}(a:Act),Ev σ st.tm a->(∀id,st.sx<=id->id<st'.sx->F id)->Mem B σ (hG st.h) F w->∀(K:Act->World->Prop) Q,
   (∀σ' v w',Ext σ σ'->DV σ' sv v->Mem B σ' (hG st'.h) (lY F st.sx st'.sx) w'->match q with|none=>K (a.put o.dst v) w'|some _=>Q (.panic [pe v]) a w')->o.wp P a w K Q:=by
 have sub:∀{B:Bs}{σ:Ren}{G:Nat->SO->Prop}{F:Nat->Prop}{w:World}{x y:Nat},Mem B σ G F w->Mem B σ G (lY F x y) w:=λM=>M.less (λ_ _ h=>h) λ_ h=>h.1;unfold AU at e;split at e
 ·rename_i t x y hop;split at e
  ·rename_i hdst;obtain⟨p,k1,e⟩:=ax e;obtain⟨u,k2,e⟩:=ax e;obtain⟨h',h1,h2⟩:=ail (P:=P) OK.T e;refine⟨none,.aH [],_,h1,aM _,.inl ⟨rfl,by rw[hdst];rfl⟩,λ{B σ F w} a R hF M K Q k=>?_⟩;obtain⟨w',g1,g2⟩:=h2 M _ _ (ec R k1) (ec R k2);have run:(execOp a.eval o).run P w=.ok .skip w':=by
    unfold execOp;simp only[hop,da,g1,eK,eL]
   unfold Oper.wp;rw[run];exact k σ _ w' (Ext.refl _) PC (sub g2)
  ·cases e
 ·rename_i c x y hop;obtain⟨v,k1,e⟩:=ax e;split at e
  ·rename_i q;have run:∀{σ:Ren}{a:Act}{w:World},Ev σ st.tm a->(execOp a.eval o).run P w=.ok (.value (cond q (a.eval x) (a.eval y))) w:=by
    intro σ a w R;have d:=(ec R k1).bv;unfold execOp;simp only[hop,d,asBool,da,eL,eK];cases q<;>rfl
   cases q with
   |true=>obtain⟨u,k2,e⟩:=ax e;exact⟨none,u,_,e,aM _,.inl ⟨rfl,rfl⟩,λa R hF M K Q k=>rA (run R) (k _ _ _ (Ext.refl _) (ec R k2) (sub M))⟩
   |false=>obtain⟨u,k2,e⟩:=ax e;exact⟨none,u,_,e,aM _,.inl ⟨rfl,rfl⟩,λa R hF M K Q k=>rA (run R) (k _ _ _ (Ext.refl _) (ec R k2) (sub M))⟩
  ·cases e
 ·obtain⟨p,sv,st',h1,h2,hx,h3,_⟩:=Ph OK PT e;cases p with
  |false=>exact⟨none,sv,_,h1,hx,.inl ⟨rfl,by simp only[h2]⟩,h3⟩
  |true=>exact⟨some sv,sv,_,h1,hx,.inr ⟨rfl,h2⟩,h3⟩
theorem iY.next{B:Bs}{σ:Ren}{G:Nat->SO->Prop}{w:World}{x y:Nat}(h:x<=y)(M:Mem B σ G (lY (λid=>x<=id) x y) w):Mem B σ G (λid=>y<=id) w:=M.less (λ_ _ h=>h) λid k=>⟨fu h k,λq=>by omega⟩
theorem BC{P:Program}{X:ew}(OK:iJ P X){pt:FuncId->Option (cA β)}(PT:nh P pt){ops:Array Oper}{n:Nat}:∀(os:List Oper)(s:Nat),(∀i o,os[i]? =some o->ops[s+i]? =some o)->∀(st:St)(K:Option SV->St->Option β)(b:β),yg X pt n ops os st K=some b->
 ∃q st',K q st'=some b/\∀{B:Bs}{σ:Ren}{a:Act}{w:World},B.n=n->dA B σ st a w->∀Q,uC B q st' Q->wpOps P ops Q (List.range' s os.length) a w
 |[],s,_,st,K,b,e=>⟨none,st,e,λhn R Q k=>k _ _ _ R⟩
 |o::os,s,hs,st,K,b,e=>by
  obtain⟨wt,tm1,e1,sb,g⟩:=RI e;obtain⟨e2,hd⟩:=QS e1;have ho:=hs 0 o rfl;rw[Nat.add_zero] at ho;have hs':∀i o',os[i]? =some o'->ops[s+1+i]? =some o':=λi o' hi=>by have:=hs (i+1) o' (by simpa using hi);rw[show s+1+i=s+(i+1) by omega];exact this
  have go:∀{B:Bs}{σ:Ren}{a:Act}{w:World}{Q},dA B σ st a w->(dA B σ {st with tm:=tm1} a w->Region.wanted o (yielded ops a.tmps)=wt->wpOp P ops Q s (wpOps P ops Q (List.range' (s+1) os.length)) a w)->wpOps P ops Q (List.range' s (o::os).length) a w:=by intro B σ a w Q R k;rw[bX,List.range'_succ,wpOps_cons];exact k ⟨R.size,R.dH,R.ev.sub sb,R.mem⟩ (g ((R.ev.sub sb).sub U1))
  cases wt with
  |true=>
   rw[aD] at e2;obtain⟨q,sv,st1,e3,hx,ht,D⟩:=LF OK PT e2;cases q with
   |none=>
    have ht:st1.tm=kF tm1 o.dst sv:=by rcases ht with h|h;exact h.2;cases h.1
    obtain⟨q',st',e4,D2⟩:=BC OK PT os (s+1) hs' st1 K b e3;refine⟨q',st',e4,λ{B σ a w} hn R Q k=>go R λR1 hw=>?_⟩;unfold wpOp;simp only[ho,hw,dM];exact .inl (D a R1.ev (λ_ h _=>h) R1.mem _ _ λσ' v w' E dv M=>D2 hn (by have:=R1.put E (iY.next hx M) (by rw[hn];exact hd) dv;rwa[<-ht] at this) Q k)
   |some sv'=>
    obtain⟨rfl,ht2⟩:sv'=sv/\st1.tm=tm1:=by rcases ht with h|h;cases h.1;exact⟨jB h.1,h.2⟩
    refine⟨some sv',_,e3,λ{B σ a w} hn R Q k=>go R λR1 hw=>?_⟩;unfold wpOp;simp only[ho,hw,dM];exact .inl (D a R1.ev (λ_ h _=>h) R1.mem _ _ λσ' v w' E dv M=>k σ' a w' ⟨R1.size,R1.dH,λt s hs=>by rw[ht2] at hs;exact(R1.ev t s hs).mono E,iY.next hx M⟩ v dv)
  |false=>obtain⟨q,st',e4,D2⟩:=BC OK PT os (s+1) hs' _ K b e2;refine⟨q,st',e4,λ{B σ a w} hn R Q k=>go R λR1 hw=>?_⟩;unfold wpOp;simp only[ho,hw,kJ,gQ];exact D2 hn (R1.put (Ext.refl _) R1.mem (by rw[hn];exact hd) PC) Q k
end
section
variable{β:Type}
def rF(N:Nat)(A:Nat->Nat->Prop):(Nat->Prop)->List Nat->Prop
 |done,[]=>∀i,i<N->done i
 |done,i::rest=>i<N/\¬done i/\(∀j,A i j->done j)/\rF N A (λx=>done x\/x=i) rest
def zU(o:Oper):List Nat:=(o.after.toList.filter (Region.binds .any)).map (·.on)
def AF(ms:List Nat):List Nat->Nat
 |[]=>0
 |j::js=>Nat.lor (Nat.lor (Nat.shiftLeft 1 j) (ms.getD j 0)) (AF ms js)
def pj:List Oper->List Nat->List Nat
 |[],ms=>ms
 |o::os,ms=>pj os (ms++[AF ms (zU o)])
def bit(ms:List Nat)(i j:Nat):Bool:=Nat.testBit (ms.getD i 0) j
theorem alL(j l:Nat):Nat.testBit (Nat.shiftLeft 1 j) l=decide (j=l):=by show Nat.testBit (1<<<j) l=_;rw[Nat.one_shiftLeft,Nat.testBit_two_pow]
def IG(es:Nat->List Nat)(ms:List Nat):Prop:=
 ∀i l,bit ms i l=true->∀D:Nat->Prop,(∀a,D a->∀b∈es a,D b)->(∀b∈es i,D b)->D l
theorem Ti{es:Nat->List Nat}{ms:List Nat}(H:IG es ms)(D:Nat->Prop)(cl:∀a,D a->∀b∈es a,D b):∀js:List Nat,(∀b∈js,D b)->∀l,Nat.testBit (AF ms js) l=true->D l
 |[],_,l,h=>by simp[AF] at h
 |j::js,hj,l,h=>by
  unfold AF at h;have e:∀a b:Nat,Nat.lor a b=a|||b:=λ_ _=>rfl;rw[e,e,Nat.testBit_or,Nat.testBit_or,alL] at h;simp at h;rcases h with(rfl|h)|h
  ·grind
  ·exact H j l h D cl (cl j (hj j (by simp)))
  ·exact Ti H D cl js (λb hb=>hj b (by grind)) l h
theorem Tl{es:Nat->List Nat}:∀(os:List Oper)(ms:List Nat),IG es ms->(∀i o,os[i]? =some o->zU o=es (ms.length+i))->IG es (pj os ms)
 |[],ms,H,_=>H
 |o::os,ms,H,he=>by
  refine Tl os _ ?_ λi o' hi=>?_
  ·intro i l hl D cl hi;unfold bit at hl;rw[wB] at hl;rcases Nat.lt_trichotomy i ms.length with h|h|h
   ·rw[wC h] at hl;exact H i l (by unfold bit;rw[wB];exact hl) D cl hi
   ·subst h;simp_all;have:=he 0 o (by simp);exact Ti H D cl _ (by grind) l hl
   grind
  ·have:=he (i+1) o' (by grind)
   grind
def zw(ops:Array Oper)(i j:Nat):Prop:=bit (pj ops.toList []) i j=true
def o5(ops:Array Oper)(i:Nat):List Nat:=match ops[i]? with
 |some o=>zU o
 |none=>[]
theorem TC(ops:Array Oper){i l:Nat}(h:zw ops i l)(D:Nat->Prop)(cl:∀a,D a->∀b∈o5 ops a,D b)(hi:∀b∈o5 ops i,D b):D l:=by
 refine Tl ops.toList [] ?_ ?_ i l h D cl hi
 ·intro i l hl;simp[bit] at hl
 ·intro i o ho;have:ops[i]? =some o:=by rw[<-my];exact ho
  simp[o5,this]
def zK(ops:Array Oper):Prop:=∀i,i<ops.size->∀b∈o5 ops i,b<i
theorem acX{ops:Array Oper}(B:zK ops){i l:Nat}(hi:i<ops.size)(h:zw ops i l):l<i:=by
 refine TC ops h (λx=>x<i) ?_ (λb hb=>B i hi b hb)
 ·intro a ha b hb;have:=B a (by omega) b hb;omega
theorem Mx{ops:Array Oper}{listed:Array Bool}{i:Nat}:i∈Region.ready .any ops listed↔i<ops.size/\listed.getD i true=false/\∀b∈o5 ops i,listed.getD b false=true:=by
 unfold Region.ready;rw[oO,List.mem_range];constructor
 ·rintro ⟨h1,h2⟩
  simp only[bu,uq] at h2;refine⟨h1,h2.1,?_⟩;have ho:=zm h1;rw[ho] at h2;simp only[rD,pS,Array.all_eq_true'] at h2;intro b hb;unfold o5 at hb;rw[ho] at hb;simp[zU] at hb
  grind
 ·rintro ⟨h1,h2,h3⟩
  refine⟨h1,?_⟩;have ho:=zm h1;simp only[bu,uq];refine⟨h2,?_⟩;rw[ho];simp only[rD,pS,Array.all_eq_true'];intro e he;cases hb:Region.binds .any e with
  |false=>rfl
  |true=>
   have:=h3 e.on (by
    unfold o5;rw[ho];simp[zU];exact⟨e,⟨by simpa using he,hb⟩,rfl⟩)
   grind
def count(listed:Array Bool):Nat:=(listed.toList.filter (·==false)).length
theorem count_set{listed:Array Bool}{i:Nat}(h:listed.getD i true=false):count (listed.setIfInBounds i true)+1=count listed:=by
 unfold count;rw[Array.toList_setIfInBounds];have hg:listed.toList[i]? =some false:=by
  rw[qz] at h;cases hx:listed[i]? with
  |none=>grind
  |some b=>grind
 generalize listed.toList=l at hg;clear h;induction l generalizing i with
 |nil=>grind
 |cons b l ih=>
  cases i with
  |zero=>grind
  |succ i=>grind
theorem S0{ops:Array Oper}(B:zK ops):∀(fuel t:Nat)(listed:Array Bool)(done:Nat->Prop),listed.size=ops.size->(∀i,i<ops.size->(done i↔listed.getD i false=true))->(∀i,done i->i<ops.size)->
 (∀a,done a->∀b∈o5 ops a,done b)->count listed<=fuel->rF ops.size (zw ops) done (Region.linearise.go .any ops fuel t listed [])
 |fuel,t,listed,done,hs,hd,hb,cl,hc=>by
  have hgd:∀i,i<ops.size->(listed.getD i true=listed.getD i false):=by intro i hi;rw[qz,qz,zm (by omega)];rfl
  have none_ready:Region.ready .any ops listed=[]->∀i,i<ops.size->done i:=by
   intro h;intro i;induction i using Nat.strongRecOn with
   |ind i ih=>
    intro hi;by_cases hdi:done i
    ·exact hdi
    ·exfalso;have:i∈Region.ready .any ops listed:=by
      rw[Mx];refine⟨hi,?_,?_⟩
      ·rw[hgd i hi];cases hx:listed.getD i false with
       |false=>rfl
       |true=>exact absurd ((hd i hi).2 hx) hdi
      ·intro b hb';have hlt:=B i hi b hb';exact(hd b (by omega)).1 (ih b hlt (by omega))
     rw[h] at this;cases this
  cases fuel with
  |zero=>
   refine none_ready ?_;cases hr:Region.ready .any ops listed with
   |nil=>rfl
   |cons x xs=>
    have hx:x∈Region.ready .any ops listed:=by rw[hr];simp
    rw[Mx] at hx;have:=count_set hx.2.1;omega
  |succ fuel=>
   change rF ops.size (zw ops) done (match(Region.ready .any ops listed)[t%(Region.ready .any ops listed).length]? with
    |some i=>Region.linearise.go .any ops fuel (t/(Region.ready .any ops listed).length) (listed.setIfInBounds i true) [i]
    |none=>[].reverse)
   cases hi:(Region.ready .any ops listed)[t%(Region.ready .any ops listed).length]? with
   |none=>
    have hnil:Region.ready .any ops listed=[]:=by
     cases hr:Region.ready .any ops listed with
     |nil=>rfl
     |cons x xs=>rw[hr] at hi;have hlt:t%(x::xs).length<(x::xs).length:=Nat.mod_lt _ (by simp);simp at hi;simp at hlt;omega
    exact none_ready hnil
   |some i=>
    have hm:=nU hi;rw[Mx] at hm;obtain⟨m1,m2,m3⟩:=hm;simp;rw[linearise_go_acc];have nd:¬done i:=λh=>by have:=(hd i m1).1 h;rw[<-hgd i m1,m2] at this;cases this
    have de:=λb hb'=>(hd b (by have:=B i m1 b hb';omega)).2 (m3 b hb');refine⟨m1,nd,λj hj=>TC ops hj done cl de,?_⟩;refine S0 B fuel _ _ _ (by simpa using hs) ?_ ?_ ?_ ?_
    ·intro x hx;rw[qz,Array.getElem?_setIfInBounds];by_cases e:i=x
     ·subst e;simp_all
     ·rw[aq e,<-qz];rw[<-hd x hx];constructor
      ·rintro (h|rfl)
       ·exact h
       ·exact absurd rfl e
      ·exact .inl
    ·rintro x (h|rfl)
     ·exact hb x h
     ·exact m1
    ·rintro a (h|rfl) b hb'
     ·exact .inl (cl a h b hb')
     ·exact .inl (de b hb')
    ·have:=count_set m2;omega
theorem S7{P:Program}(hm:P.follows .mixedOrders=true){ops:Array Oper}(B:zK ops)(t:Nat):rF ops.size (zw ops) (λ_=>False) (Region.schedule (P.follows .mixedOrders) ops t):=by
 simp_all;refine S0 B _ _ _ _ (by simp) (by simp_all) (λ_ h=>h.elim) (λ_ h=>h.elim) ?_
 ·unfold count;simp
def jn:Nat->(Nat->Bool)->Bool
 |0,_=>true
 |n+1,f=>cond (f n) (jn n f) false
theorem lR{f:Nat->Bool}:∀{n:Nat},jn n f=true->∀i,i<n->f i=true
 |0,_,i,h=>by omega
 |n+1,e,i,h=>by
  unfold jn at e;cases hf:f n with
  |false=>grind
  |true=>
   simp_all;rcases gW i n with h1|h1
   ·exact lR e i h1
   grind
def jG(ops:Array Oper)(i:Nat):Option Nat:=(ops[i]?).bind (·.dst)
def isDst(ops:Array Oper)(j t:Nat):Bool:=match jG ops j with
 |some d=>Nat.beq d t
 |none=>false
theorem Sz{ops:Array Oper}{j t:Nat}:isDst ops j t=true↔(ops[j]?).bind (·.dst)=some t:=by
 unfold isDst jG;split
 ·simp_all
 grind
def stat(ops:Array Oper)(ms:List Nat)(n:Nat):Bool:=
 cond (jn ops.size λi=>(o5 ops i).all λb=>Nat.blt b i)
  (cond (jn ops.size λi=>match jG ops i with
   |none=>true
   |some t=>cond (Nat.blt t n) (jn i λj=>!isDst ops j t) false)
   (jn ops.size λi=>match ops[i]? with
    |none=>true
    |some o=>(looks ops o).all λt=>jn ops.size λj=>cond (isDst ops j t) (Nat.beq j i||(bit ms i j||bit ms j i)) true)
   false)
  false
theorem nt{a b:Bool}(h:cond a b false=true):a=true/\b=true:=by grind
theorem YI{ops:Array Oper}{n:Nat}(hs:stat ops (pj ops.toList []) n=true):zK ops:=by
 have s1:(jn ops.size λi=>(o5 ops i).all λb=>Nat.blt b i)=true:=by
  unfold stat at hs;generalize(jn ops.size λi=>(o5 ops i).all λb=>Nat.blt b i)=z at hs⊢;cases z with
  |true=>rfl
  |false=>grind
 intro i hi b hb;have:=lR s1 i hi;simp_all
def KC(tm:Tr SV)(d:Option Nat)(tm':Tr SV):Tr SV:=match d with
 |none=>tm
 |some d=>match tm'.get d with
  |some v=>tm.set d v
  |none=>tm.del d
def rU(o:Op):Bool:=match o with
 | .alloc _=>true
 | .box _ _=>true
 | .buildSlice _ _ _=>true
 | .makeSlice _ _ _=>true
 |_=>false
mutual
def vx:SV->Bool
 | .i _ _=>true
 | .b _=>true
 | .s _=>true
 | .v _=>true
 | .nl=>true
 | .ni=>true
 | .agg l=>vy l
 | .aH l=>vy l
 | .fn _ l=>vy l
 | .lp _=>true
 |_=>false
def vy:List SV->Bool
 |[]=>true
 |x::xs=>vx x&&vy xs
end
def U2(o:Op):List Nat:=o.operands.toList.filterMap λx=>match x with| .tmp t=>some t|_=>none
def Me(tm:Tr SV):List Nat->Bool
 |[]=>true
 |t::ts=>(match tm.get t with|some sv=>vx sv|none=>false)&&Me tm ts
theorem Vw{tm:Tr SV}:∀{ts:List Nat},Me tm ts=true->∀t∈ts,∃sv,tm.get t=some sv/\vx sv=true
 |[],_,t,h=>by grind
 |x::ts,e,t,h=>by
  have e:=Bool.and_eq_true_iff.1 e;rcases cQ.1 h with rfl|h
  ·grind
  ·exact Vw e.2 t h
def YR(ops:Array Oper)(ms:List Nat)(i:Nat):Bool:=jn ops.size λj=>cond (Nat.ble j i) true (bit ms j i)
def rM(a b:Nat)(r:Option β):Option β:=cond (Nat.beq a b) r none
noncomputable def kU(x y:Value)(r:Option β):Option β:=open Classical in if x=y then r else none
mutual
noncomputable def JJ:SV->SV->Option β->Option β
 | .i k n,.i k' m,r=>cond (decide (k=k')) (cond (aj n m) r none) none
 | .b x,.b y,r=>cond x (cond y r none) (cond y none r)
 | .ptr a x,.ptr a' x',r=>rM a a' (rM x x' r)
 | .sl a x n c,.sl a' x' n' c',r=>rM a a' (rM x x' (rM n n' (rM c c' r)))
 | .gr a x,.gr a' x',r=>rM a a' (rM x x' r)
 | .nl,.nl,r=>r
 | .ni,.ni,r=>r
 | .agg l,.agg l',r=>JK l l' r
 | .v x,.v y,r=>kU x y r
 |_,_,_=>bI 74
noncomputable def JK:List SV->List SV->Option β->Option β
 |[],[],r=>r
 |x::xs,y::ys,r=>JJ x y (JK xs ys r)
 |_,_,_=>none
end
structure oa where
 i:Nat
 o:Oper
 tm:Tr SV
 sv:SV
def V6(tm:Tr SV)(o:Op):Bool:=match o with
 | .load _ a=>match dF tm a with
  |some (.ptr _ _)=>true
  |_=>false
 |_=>false
def vu(ms:List Nat)(s:Nat):List oa->List oa
 |[]=>[]
 |x::xs=>cond (bit ms s x.i) (vu ms s xs) (x::vu ms s xs)
theorem Vg{ms:List Nat}{s:Nat}{x:oa}:∀{pe:List oa},x∈pe->bit ms s x.i=true\/x∈vu ms s pe
 |y::pe,h=>by
  unfold vu;rcases cQ.1 h with rfl|h
  ·grind
  ·rcases Vg h with k|k
   ·exact .inl k
   grind
def Az{α:Type}:List Oper->Tr α->Tr α
 |[],t=>t
 |o::os,t=>Az os (match o.dst with|some d=>t.del d|none=>t)
theorem SZ{α:Type}:∀{os:List Oper}{t:Tr α}{k:Nat}{v:α},(Az os t).get k=some v↔(∀o∈os,o.dst≠some k)/\t.get k=some v
 |[],t,k,v=>by simp[Az]
 |o::os,t,k,v=>by
  unfold Az;rw[SZ];cases hd:o.dst with
  |none=>grind
  |some d=>
   simp[Tr.rP]
   grind
theorem Vv:∀{l:List SV},vy l=true->∀x∈l,vx x=true
 |y::l,h,x,hx=>by
  simp only[vy,bu] at h;rcases cQ.1 hx with rfl|hx
  ·exact h.1
  ·exact Vv h.2 x hx
theorem Vu{σ σ':Ren}(hl:∀b i v,σ.lit b i=some v->σ'.lit b i=some v){x:SV}{v:Value}(d:DV σ x v):vx x=true->DV σ' x v:=by
 have mem:∀{l:List SV}{i:Nat}{x:SV},vy l=true->l[i]? =some x->vx x=true:=λh e=>Vv h _ (nU e)
 induction d with
 |i=>exactλ_=>.i _ _
 |b=>exactλ_=>.b _
 |s=>exactλ_=>.s _
 |v h h1=>exactλ_=>.v (h.mono hl) h1
 |nl=>exactλ_=>.nl
 |agg kl _ ih=>exactλp=>.agg kl λi x y a b=>ih i x y a b (mem p a)
 |aH kl _ ih=>exactλp=>.aH kl λi x y a b=>ih i x y a b (mem p a)
 |lp h=>exactλ_=>.lp (h.mono hl)
 |fn kl _ ih=>exactλp=>.fn kl λi x y a b=>ih i x y a b (mem p a)
 |ni=>exactλ_=>.ni
 |_=>intro p;cases p
theorem Mem.lits{B:Bs}{σ:Ren}{G:Nat->SO->Prop}{F:Nat->Prop}{w w':World}(M:Mem B σ G F w)(fr:eM (λ_=>False) w w'){m:Nat->Nat->Option Value}(e:∀b i v,σ.lit b i=some v->m b i=some v)(k:∀b i v,m b i=some v->fG w' b i=some v)
 (n:∀b i v,m b i=some v->σ.lit b i=some v\/w.heap.size<=b):Mem B ⟨σ.nm,m⟩ G F w':=by
 have E:Ext σ ⟨σ.nm,m⟩:=⟨λ_ _ h=>h,e⟩;have M':=M.same fr;refine⟨λid so h=>(M'.obj id so h).mono E λ_ _ _=>rfl,M.inj,M.fresh,k,λb i v h q=>?_,M'.base,M.owned,λb i v h=>?_,M.ko,λb i v h=>e b i v (M.nF b i v h)⟩
 ·rcases n b i v h with p|p
  ·exact M.free b i v p q
  ·obtain⟨id,so,o,n,h1,h2,h3⟩:=q;have:=M.lt h1 h2;omega
 ·rcases n b i v h with p|p
  ·exact M.mf b i v p
  ·exact .inr (.inr (fu M.base.size p))
theorem pw{id:Nat}{so:SO}(h:hG .nil id so):False:=by have h:(Tr.nil:Tr SO).get id=some so:=h;rw[Tr.get_nil] at h;cases h
def Bg(w:World)(own:Nat->Prop)(m:Nat->Nat->Option Value):Bs:=⟨w,own,m,0,λ_=>none,0,[]⟩
theorem xf(x:Value)(r:Option β):kU x x r=r:=by unfold kU;rw[ay rfl]
theorem aaQ{x y:Value}{r:Option β}{b:β}(e:kU x y r=some b):x=y/\r=some b:=by
 unfold kU at e
 grind
theorem tq{a b:Nat}{r:Option β}{c:β}(e:rM a b r=some c):a=b/\r=some c:=by obtain⟨h,e⟩:=aX e;exact⟨bV h,e⟩
mutual
theorem Rh:∀(x y:SV)(r:Option β)(b:β),JJ x y r=some b->x=y/\r=some b
 | .i k n,.i k' m,r,b,e=>by obtain⟨h1,e1⟩:=aX e;obtain⟨h2,e2⟩:=aX e1;have h1:=nY h1;rw[vf] at h2;exact⟨by rw[h1,eq_of_beq h2],e2⟩
 | .b x,.b y,r,b,e=>by cases x<;>cases y<;>first|exact⟨rfl,e⟩|cases e
 | .ptr a x,.ptr a' x',r,b,e=>by obtain⟨h1,e1⟩:=tq e;obtain⟨h2,e2⟩:=tq e1;exact⟨by rw[h1,h2],e2⟩
 | .sl a x n c,.sl a' x' n' c',r,b,e=>by obtain⟨h1,e1⟩:=tq e;obtain⟨h2,e2⟩:=tq e1;obtain⟨h3,e3⟩:=tq e2;obtain⟨h4,e4⟩:=tq e3;exact⟨by rw[h1,h2,h3,h4],e4⟩
 | .gr a x,.gr a' x',r,b,e=>by obtain⟨h1,e1⟩:=tq e;obtain⟨h2,e2⟩:=tq e1;exact⟨by rw[h1,h2],e2⟩
 | .nl,.nl,r,b,e=>⟨rfl,e⟩
 | .ni,.ni,r,b,e=>⟨rfl,e⟩
 | .agg l,.agg l',r,b,e=>by obtain⟨h1,h2⟩:=Ri l l' r b e;exact⟨by rw[h1],h2⟩
 | .v x,.v y,r,b,e=>by obtain⟨h1,h2⟩:=aaQ e;exact⟨by rw[h1],h2⟩
theorem Ri:∀(x y:List SV)(r:Option β)(b:β),JK x y r=some b->x=y/\r=some b
 |[],[],r,b,e=>⟨rfl,e⟩
 |x::xs,y::ys,r,b,e=>by obtain⟨h1,e⟩:=Rh x y _ b e;obtain⟨h2,e⟩:=Ri xs ys r b e;exact⟨by rw[h1,h2],e⟩
end
class QF where
 q:FuncId->Bool
variable[QF]
def Ky(o:Op):Bool:=match o with
 | .call c=>match c.callee with
  | .value (.func f)=>QF.q f
  |_=>false
 |_=>false
def AV(X:ew)(pt:FuncId->Option (cA β))(st:St)(o:Oper)(K:SV->Option β):Option β:=match o.op with
 | .pick c a b=>ob (dF st.tm c) λv=>match v with
  | .b x=>cond x (ob (dF st.tm a) K) (ob (dF st.tm b) K)
  |_=>none
 |op=>cond (Ky op) (cond (Me st.tm (U2 op)) (Cz X pt ⟨jw st.tm (U2 op) .nil,.nil,st.sx⟩ op λp v _=>cond p none (cond (vx v) (K v) (bI 76))) (bI 75)) (Cz X pt st op λp v _=>cond p none (K v))
def qn(o:Op):Bool:=match o with
 | .pick _ _ _=>true
 |o=>Ky o||mN o
def xN(ops:Array Oper)(ms:List Nat)(i:Nat):Bool:=
 jn ops.size λj=>match ops[j]? with
  |some o=>qn o.op||(rU o.op||(bit ms i j||bit ms j i))
  |none=>true
def U8(ops:Array Oper)(ms:List Nat)(i:Nat):Bool:=
 jn i λj=>match ops[j]? with
  |some o=>qn o.op||(rU o.op||bit ms i j)
  |none=>true
noncomputable def A3(X:ew)(pt:FuncId->Option (cA β))(ms:List Nat)(s:Nat)(st:St):List oa->Option β->Option β
 |[],r=>r
 |x::xs,r=>cond (bit ms s x.i) (A3 X pt ms s st xs r) (cond (qn x.o.op) (AV X pt ⟨x.tm,st.h,st.sx⟩ x.o λsv=>JJ x.sv sv (A3 X pt ms s st xs r)) none)
noncomputable def oZ(X:ew)(pt:FuncId->Option (cA β))(ops:Array Oper)(ms:List Nat):List Oper->Nat->St->Tr SO->List Nat->List oa->(Option SV->St->Option β)->Option β
 |[],_,st,_,_,_,K=>K none st
 |o::os,i,st,hL,ks,pe,K=>DZ ops st.tm o λw tm1=>cond w
  (cond (qn o.op)
   (cond (V6 tm1 o.op&&!xN ops ms i)
    (cond (U8 ops ms i) (AV X pt ⟨jw tm1 (looks ops o) .nil,hL,st.sx⟩ o λsv=>oZ X pt ops ms os (i+1) {st with tm:=kF tm1 o.dst sv} hL ks (⟨i,o,jw tm1 (looks ops o) .nil,sv⟩::pe) K) (bI 73))
    (AV X pt ⟨jw tm1 (looks ops o) .nil,cond (xN ops ms i) hL .nil,st.sx⟩ o λsv=>oZ X pt ops ms os (i+1) {st with tm:=kF tm1 o.dst sv} hL ks pe K))
   (cond (rU o.op)
    (qY X ⟨jw tm1 (looks ops o) .nil,.nil,st.sx⟩ o.op λsv so=>oZ X pt ops ms os (i+1) ⟨kF tm1 o.dst sv,st.h.set st.sx so,st.sx+1⟩ hL (i::ks) pe K)
    (cond (ks.all λj=>bit ms i j) (AU X pt {st with tm:=jw tm1 (looks ops o) .nil} o λq st'=>match q with
     |none=>A3 X pt ms i st' pe (oZ X pt ops ms os (i+1) ⟨KC tm1 o.dst st'.tm,st'.h,st'.sx⟩ st'.h (i::ks) (vu ms i pe) K)
     |some v=>cond (YR ops ms i) (K (some v) ⟨Az ops.toList tm1,st'.h,st'.sx⟩) (bI 71)) (bI 72))))
  (oZ X pt ops ms os (i+1) {st with tm:=kF tm1 o.dst (.aH [])} hL ks pe K)
theorem LG{P:Program}{X:ew}(OK:iJ P X){pt:FuncId->Option (cA β)}(PT:nh P pt){o:Oper}(hq:qn o.op=true){st:St}{K:SV->Option β}{b:β}(e:AV X pt st o K=some b):
 ∃sv,K sv=some b/\sN P o st sv:=by
 unfold AV at e;split at e
 ·rename_i c x y hop;obtain⟨v,k1,e⟩:=ax e;split at e
  ·rename_i q;have run:∀{σ:Ren}{a:Act}{w:World},Ev σ st.tm a->(execOp a.eval o).run P w=.ok (.value (cond q (a.eval x) (a.eval y))) w:=by
    intro σ a w R;have d:=(ec R k1).bv;unfold execOp;simp only[hop,d,asBool,da,eL,eK];cases q<;>rfl
   cases q with
   |true=>obtain⟨u,k2,e⟩:=ax e;exact⟨u,e,λa R s M K Q k=>rA (run R) (k _ _ _ (Ext.refl _) (ec R k2) M)⟩
   |false=>obtain⟨u,k2,e⟩:=ax e;exact⟨u,e,λa R s M K Q k=>rA (run R) (k _ _ _ (Ext.refl _) (ec R k2) M)⟩
  ·cases e
 ·rename_i hnp;cases hc:Ky o.op with
  |true=>
   rw[hc] at e;obtain⟨hp,e⟩:=aX e;obtain⟨p,sv,st',h1,h2,hx,h3,_⟩:=Ph OK PT e;cases p with
   |true=>cases h1
   |false=>
    obtain⟨hs,h1⟩:=aX h1;refine⟨sv,h1,λ{B σ G F w} a R s M K Q k=>?_⟩
    let σ0:Ren:=⟨λ_=>none,σ.lit⟩
    have M0:Mem (Bg w (λ_=>False) σ.lit) σ0 (hG .nil) (λ_=>True) w:=
     ⟨λid so h=>(pw h).elim,λi j so so' o o' n n' h=>(pw h).elim,λ_ _=>rfl,M.lit,λb i v _ ⟨id,so,o,n,h,_⟩=>pw h,eM.refl _ _,λb ⟨id,so,o,n,h,_⟩=>(pw h).elim,λb i v h=>.inl h,λk hk=>(Nat.not_lt_zero k hk).elim,λ_ _ _ h=>h⟩
    refine h3 (σ:=σ0) a (λt u hu=>?_) (λ_ _ _=>trivial) M0 K Q λσ' v w' E dv M'=>?_
    ·rcases AT _ _ _ _ hu with⟨q1,q2⟩|q
     ·obtain⟨u',q3,q4⟩:=Vw hp t q1;rw[q2] at q3;cases q3;exact Vu (σ:=σ) (σ':=σ0) (λ_ _ _ h=>h) (R t u q2) q4
     ·rw[Tr.get_nil] at q;cases q
    ·have ml:=M.lits M'.base E.lit M'.lit λb i v h=>by
      rcases M'.mf b i v h with q|q|q
      ·exact .inl q
      ·exact q.elim
      ·exact .inr q
     exact k ⟨σ.nm,σ'.lit⟩ v w' ⟨λ_ _ h=>h,E.lit⟩ (Vu (σ:=σ') (σ':=⟨σ.nm,σ'.lit⟩) (λ_ _ _ h=>h) dv hs) ml
  |false=>
   rw[hc,aF] at e;obtain⟨p,sv,st',h1,h2,hx,h3,h4⟩:=Ph OK PT e;have hqb:mN o.op=true:=by
    unfold qn at hq;split at hq
    ·rename_i c x y hop;exact absurd hop (hnp c x y)
    ·rw[hc] at hq;simpa using hq
   obtain⟨rfl,h5⟩:=h4 hqb;exact⟨sv,h1,h5⟩
end
section
variable{β:Type}
variable[QF]
structure Rc where
 k:Nat
 v:SV
 h:Tr SO
 x:Nat
def pU(P:Program)(ops:Array Oper)(i:Nat)(o:Oper)(tm:Tr SV)(v:SV)(hl:Tr SO):Prop:=
 ∀{B:Bs}{σ:Ren}{G:Nat->SO->Prop}{F:Nat->Prop}{w:World}(a:Act),Ev σ tm a->(∀id so,hl.get id=some so->G id so)->Mem B σ G F w->∀(K:Act->World->Prop) Q,
  (∀σ' u w',Ext σ σ'->DV σ' v u->Mem B σ' G F w'->K (a.put o.dst u) w')->wpOp P ops Q i K a w
def Zp(P:Program)(ops:Array Oper)(o:Oper)(tm:Tr SV)(v:SV)(so:SO)(x:Nat):Prop:=
 ∀{σ:Ren}(a:Act),Ev σ tm a->Region.wanted o (yielded ops a.tmps)=true/\∀w,∃u w',(execOp a.eval o).run P w=.ok (.value u) w'/\eM (λ_=>False) w w'/\
  ∀σ' c n,Ext σ σ'->σ'.nm x=some (some (w.heap.size,c),n)->DV σ' v u/\DO σ' w' x so
def IE(P:Program)(ops:Array Oper)(i:Nat)(o:Oper)(tm:Tr SV)(v:SV)(h:Tr SO)(x:Nat)(h':Tr SO)(x':Nat)(p:Bool):Prop:=
 ∀{B:Bs}{σ:Ren}{F:Nat->Prop}{w:World}(a:Act),Ev σ tm a->(∀id,x<=id->id<x'->F id)->Mem B σ (hG h) F w->∀(K:Act->World->Prop) Q,
  (∀σ' u w',Ext σ σ'->DV σ' v u->Mem B σ' (hG h') (lY F x x') w'->cond p (Q (.panic [pe u]) a w') (K (a.put o.dst u) w'))->wpOp P ops Q i K a w
def pT(ops:Array Oper)(s i:Nat)(R:Nat->Rc)(tm0 tm:Tr SV):Prop:=∀t sv,tm.get t=some sv->(∃j,s<=j/\j<i/\jG ops j=some t/\(R j).v=sv)\/((∀j,s<=j->j<i->jG ops j≠some t)/\tm0.get t=some sv)
def zu(s:Nat)(hL:Tr SO)(R:Nat->Rc)(i:Nat)(h:Tr SO):Prop:=(∃p,s<=p/\p<i/\(R p).k=2/\(∀q,p<q->q<i->(R q).k≠2)/\h=(R (p+1)).h)\/((∀q,s<=q->q<i->(R q).k≠2)/\h=hL)
def C2(ops:Array Oper)(o:Oper)(tm:Tr SV):Prop:=∀t sv,tm.get t=some sv->t∈looks ops o
structure Fact(P:Program)(ops:Array Oper)(ms:List Nat)(s m:Nat)(tm0:Tr SV)(hL:Tr SO)(ks:List Nat)(R:Nat->Rc)(i:Nat)(o:Oper)(tm:Tr SV):Prop where
 op:ops[i]? =some o
 Vr:pT ops s i R tm0 tm
 only:C2 ops o tm
 le:(R i).x<=(R (i+1)).x
 kind:((R i).k=0/\(R (i+1)).h=(R i).h/\(R (i+1)).x=(R i).x/\(pU P ops i o tm (R i).v .nil\/∃h,zu s hL R i h/\pU P ops i o tm (R i).v h/\
  (xN ops ms i=true\/U8 ops ms i=true/\∀j,i<j->j<m->(R j).k=2->(∀l,i<l->l<=j->(R l).k=2->bit ms l i=false)->pU P ops i o tm (R i).v (R (j+1)).h)))\/
  ((R i).k=1/\rU o.op=true/\∃so,Zp P ops o tm (R i).v so (R i).x/\(R (i+1)).h=(R i).h.set (R i).x so/\(R (i+1)).x=(R i).x+1)\/
  ((R i).k=2/\IE P ops i o tm (R i).v (R i).h (R i).x (R (i+1)).h (R (i+1)).x false/\qn o.op=false/\rU o.op=false/\(∀j,s<=j->j<i->(R j).k≠0->bit ms i j=true)/\∀j∈ks,bit ms i j=true)
def PR(ops:Array Oper)(x:oa):Prop:=ops[x.i]? =some x.o/\∀{σ:Ren}{a:Act},Ev σ x.tm a->Region.wanted x.o (yielded ops a.tmps)=true
def Fin(P:Program)(ops:Array Oper)(ms:List Nat)(s e m:Nat)(tm0:Tr SV)(ks:List Nat)(R:Nat->Rc)(q:Option SV)(fY:St):Prop:=match q with
 |none=>m=e/\fY.h=(R m).h/\fY.sx=(R m).x/\pT ops s m R tm0 fY.tm
 |some sv=>∃o tm,ops[m]? =some o/\m<e/\pT ops s m R tm0 tm/\C2 ops o tm/\IE P ops m o tm sv (R m).h (R m).x fY.h fY.sx true/\(R m).x<=fY.sx/\YR ops ms m=true/\(∀j,s<=j->j<m->(R j).k≠0->bit ms m j=true)/\(∀j∈ks,bit ms m j=true)/\
  qn o.op=false/\rU o.op=false/\∀t u,fY.tm.get t=some u->(∀o∈ops.toList,o.dst≠some t)/\tm0.get t=some u
def Out(P:Program)(ops:Array Oper)(ms:List Nat)(s e:Nat)(st:St)(hL:Tr SO)(ks:List Nat)(ps:List oa)(K:Option SV->St->Option β)(b:β):Prop:=
 ∃(R:Nat->Rc)(m:Nat)(q:Option SV)(fY:St),K q fY=some b/\s<=m/\m<=e/\(R s).h=st.h/\(R s).x=st.sx/\(∀i,s<=i->i<m->∃o tm,Fact P ops ms s m st.tm hL ks R i o tm)/\
  (∀x∈ps,∀j,s<=j->j<m->(R j).k=2->(∀l,s<=l->l<=j->(R l).k=2->bit ms l x.i=false)->pU P ops x.i x.o x.tm x.sv (R (j+1)).h)/\Fin P ops ms s e m st.tm ks R q fY
theorem pT.step{ops:Array Oper}{s i:Nat}{R R':Nat->Rc}{tm0 tm1 tm:Tr SV}{o:Oper}(ho:ops[s]? =some o)(hs:s<i)(hR:∀j,s<j->R j=R' j)(sb:Sub tm1 tm0)(h:pT ops (s+1) i R' (kF tm1 o.dst (R s).v) tm):pT ops s i R tm0 tm:=λt sv ht=>by
 have hd:jG ops s=o.dst:=by simp[jG,ho]
 rcases h t sv ht with⟨j,h1,h2,h3,h4⟩|⟨h1,h2⟩
 ·exact .inl ⟨j,by omega,h2,h3,by rw[hR j (by omega)];exact h4⟩
 ·cases hdst:o.dst with
  |none=>
   rw[hdst] at h2;refine .inr ⟨λj j1 j2=>?_,sb _ _ h2⟩;rcases Nat.eq_or_lt_of_le j1 with rfl|j1
   ·rw[hd,hdst];simp
   ·exact h1 j j1 j2
  |some d=>
   rw[hdst] at h2;have h2:(tm1.set d (R s).v).get t=some sv:=h2;rw[Tr.fE] at h2;by_cases q:t=d
   ·rw[ay q] at h2;exact .inl ⟨s,aM _,hs,by rw[hd,hdst,q],by cases h2;rfl⟩
   ·rw[aq q] at h2;refine .inr ⟨λj j1 j2=>?_,sb _ _ h2⟩;rcases Nat.eq_or_lt_of_le j1 with rfl|j1
    ·rw[hd,hdst];simpa using Ne.symm q
    ·exact h1 j j1 j2
theorem zu.step{s i:Nat}{R R':Nat->Rc}{hL hL1 h:Tr SO}(hs:s<i)(hR:∀j,s<j->R j=R' j)(hl:(R s).k=2/\hL1=(R' (s+1)).h\/(R s).k≠2/\hL1=hL)(k:zu (s+1) hL1 R' i h):zu s hL R i h:=by
 rcases k with⟨p,h1,h2,h3,h4,h5⟩|⟨h1,h2⟩
 ·exact .inl ⟨p,by omega,h2,by rw[hR p h1];exact h3,λq q1 q2=>by rw[hR q (by omega)];exact h4 q q1 q2,by rw[hR _ (by omega)];exact h5⟩
 ·rcases hl with⟨k1,k2⟩|⟨k1,k2⟩
  ·exact .inl ⟨s,aM _,hs,k1,λq q1 q2=>by rw[hR q q1];exact h1 q q1 q2,by rw[hR _ (kM _),h2,k2]⟩
  ·refine .inr ⟨λq q1 q2=>?_,by rw[h2,k2]⟩;rcases Nat.eq_or_lt_of_le q1 with rfl|q1
   ·exact k1
   ·rw[hR q q1];exact h1 q q1 q2
theorem Out.cons{P:Program}{ops:Array Oper}{ms:List Nat}{s e:Nat}{st st1:St}{hL hL1:Tr SO}{ks ks1:List Nat}{ps ps1:List oa}{K:Option SV->St->Option β}{b:β}{o:Oper}(ho:ops[s]? =some o){k:Nat}{v:SV}{tm1:Tr SV}(ht:st1.tm=kF tm1 o.dst v)(sb:Sub tm1 st.tm)
 (hl:k=2/\hL1=st1.h\/k≠2/\hL1=hL) (hk:k≠0/\ks1=s::ks\/k=0/\ks1=ks) (hp:∀x∈ps,x∈ps1\/k=2/\bit ms s x.i=true) (hp2:k=2->∀x∈ps,bit ms s x.i=false->pU P ops x.i x.o x.tm x.sv st1.h) (hx:st.sx<=st1.sx)
 (hf:∀(R:Nat->Rc)(m:Nat),(R s)=⟨k,v,st.h,st.sx⟩->(R (s+1)).h=st1.h->(R (s+1)).x=st1.sx->(∀x∈ps1,∀j,s+1<=j->j<m->(R j).k=2->(∀l,s+1<=l->l<=j->(R l).k=2->bit ms l x.i=false)->pU P ops x.i x.o x.tm x.sv (R (j+1)).h)->∃tm,Fact P ops ms s m st.tm hL ks R s o tm)
 (O:Out P ops ms (s+1) e st1 hL1 ks1 ps1 K b):Out P ops ms s e st hL ks ps K b:=by
 obtain⟨R',m,q,fY,h1,h2,h3,h4,h5,h6,h7,h8⟩:=O
 let R:Nat->Rc:=λi=>if i=s then⟨k,v,st.h,st.sx⟩ else R' i
 have hs:R s=⟨k,v,st.h,st.sx⟩:=ay rfl;have hR:∀j,s<j->R j=R' j:=λj hj=>aq (by omega);have hl':(R s).k=2/\hL1=(R' (s+1)).h\/(R s).k≠2/\hL1=hL:=by rw[hs,h4];exact hl
 have hv:(R s).v=v:=by rw[hs]
 have bits:∀{i:Nat},(∀j,s+1<=j->j<i->(R' j).k≠0->bit ms i j=true)->(∀j∈ks1,bit ms i j=true)->(∀j,s<=j->j<i->(R j).k≠0->bit ms i j=true)/\∀j∈ks,bit ms i j=true:=by
  intro i b1 b2;refine⟨λj j1 j2 j3=>?_,λj hj=>b2 j ?_⟩
  ·rcases Nat.eq_or_lt_of_le j1 with rfl|j1
   ·rw[hs] at j3;rcases hk with⟨_,q⟩|⟨q,_⟩
    ·exact b2 _ (by rw[q];simp)
    ·exact absurd q j3
   ·rw[hR j j1] at j3;exact b1 j j1 j2 j3
  ·rcases hk with⟨_,q⟩|⟨_,q⟩
   ·rw[q];exact mU _ hj
   ·rw[q];exact hj
 have pv:∀{i:Nat}{tm:Tr SV},s<i->pT ops (s+1) i R' st1.tm tm->pT ops s i R st.tm tm:=λhi h=>pT.step ho hi hR sb (by rw[hv,<-ht];exact h);have pq:∀x∈ps1,∀j,s+1<=j->j<m->(R j).k=2->(∀l,s+1<=l->l<=j->(R l).k=2->bit ms l x.i=false)->pU P ops x.i x.o x.tm x.sv (R (j+1)).h:=by intro x hx j j1 j2 j3 j4;rw[hR j j1] at j3;rw[hR (j+1) (by omega)];exact h7 x hx j j1 j2 j3 λl l1 l2 l3=>j4 l l1 l2 (by rw[hR l l1];exact l3)
 refine⟨R,m,q,fY,h1,by omega,h3,by rw[hs],by rw[hs],λi i1 i2=>?_,λx hx j j1 j2 j3 j4=>?_,?_⟩
 ·rcases Nat.eq_or_lt_of_le i1 with rfl|i1
  ·obtain⟨tm,f⟩:=hf R m hs (by rw[hR _ (kM _),h4]) (by rw[hR _ (kM _),h5]) pq;exact⟨o,tm,f⟩
  ·obtain⟨o',tm,f⟩:=h6 i i1 i2;have e1:=hR i i1;have e2:=hR (i+1) (by omega);refine⟨o',tm,f.op,pv i1 f.Vr,f.only,by rw[e1,e2];exact f.le,?_⟩;rw[e1,e2];rcases f.kind with⟨a1,a2,a3,a4⟩|a|⟨a1,a2,a3,a4,a5,a6⟩
   ·refine .inl ⟨a1,a2,a3,?_⟩;rcases a4 with a4|⟨h,b1,b2,b3⟩
    ·exact .inl a4
    ·refine .inr ⟨h,b1.step i1 hR hl',b2,?_⟩;rcases b3 with b3|⟨b3,b4⟩
     ·exact .inl b3
     ·exact .inr ⟨b3,λj j1 j2 j3 j4=>by rw[hR j (by omega)] at j3;rw[hR (j+1) (by omega)];exact b4 j j1 j2 j3 λl l1 l2 l3=>j4 l l1 l2 (by rw[hR l (by omega)];exact l3)⟩
   ·exact .inr (.inl a)
   ·exact .inr (.inr ⟨a1,a2,a3,a4,bits a5 a6⟩)
 ·rcases Nat.eq_or_lt_of_le j1 with rfl|j1
  ·rw[hs] at j3;rw[hR _ (kM _),h4];exact hp2 j3 x hx (j4 s (aM _) (aM _) (by rw[hs];exact j3))
  ·rcases hp x hx with q|⟨q1,q2⟩
   ·exact pq x q j j1 j2 j3 λl l1 l2 l3=>j4 l (by omega) l2 l3
   ·have:=j4 s (aM _) (by omega) (by rw[hs];exact q1);rw[q2] at this;cases this
 ·cases q with
  |none=>obtain⟨a1,a2,a3,a4⟩:=h8;exact⟨a1,by rw[hR m (by omega)];exact a2,by rw[hR m (by omega)];exact a3,pv (by omega) a4⟩
  |some sv=>
   obtain⟨o',tm,a1,a2,a3,a4,a5,a6,a7,a8,a9,a10,a11,a12⟩:=h8;rw[<-hR m (by omega)] at a5 a6;refine⟨o',tm,a1,a2,pv (by omega) a3,a4,a5,a6,a7,(bits a8 a9).1,(bits a8 a9).2,a10,a11,λt u hu=>?_⟩;obtain⟨c1,c2⟩:=a12 t u hu;refine⟨c1,sb _ _ ?_⟩;rw[ht] at c2;have:=c1 o (Array.mem_toList_iff.2 (Array.mem_of_getElem? ho));cases hd:o.dst with
   |none=>rw[hd] at c2;exact c2
   |some d=>rw[hd] at c2;have c2:(tm1.set d v).get t=some u:=c2;rw[Tr.fE,aq (by rw[hd] at this;simpa using Ne.symm this)] at c2;exact c2
end
section
variable{β:Type}
theorem Mk{P:Program}{ops:Array Oper}{i:Nat}{o:Oper}{tm:Tr SV}{h:Tr SO}{sx:Nat}{sv:SV}(ho:ops[i]? =some o)(g:∀{σ:Ren}{a:Act},Ev σ tm a->Region.wanted o (yielded ops a.tmps)=true)(d:sN P o ⟨tm,h,sx⟩ sv):pU P ops i o tm sv h:=λa R s M K Q k=>by unfold wpOp;simp only[ho,g R,dM];exact .inl (d a R s M K Q k)
theorem LN[QF]{P:Program}{X:ew}(OK:iJ P X){pt:FuncId->Option (cA β)}(PT:nh P pt){ops:Array Oper}{ms:List Nat}{s:Nat}{st:St}:∀{ps:List oa}{r:Option β}{b:β},A3 X pt ms s st ps r=some b->(∀x∈ps,PR ops x)->r=some b/\∀x∈ps,bit ms s x.i=false->pU P ops x.i x.o x.tm x.sv st.h
 |[],r,b,e,_=>⟨e,λ_ h=>by cases h⟩
 |x::ps,r,b,e,hp=>by
  have hp':=λy hy=>hp y (mU x hy);unfold A3 at e;cases hb:bit ms s x.i with
  |true=>
   rw[hb,aD] at e;obtain⟨h1,h2⟩:=LN OK PT e hp';refine⟨h1,λy hy q=>?_⟩;rcases cQ.1 hy with rfl|hy
   ·rw[hb] at q;cases q
   ·exact h2 y hy q
  |false=>
   rw[hb,aF] at e;obtain⟨hq,e⟩:=aX e;obtain⟨sv,e,d⟩:=LG OK PT hq e;obtain⟨e1,e⟩:=Rh _ _ _ _ e;obtain⟨h1,h2⟩:=LN OK PT e hp';refine⟨h1,λy hy q=>?_⟩;rcases cQ.1 hy with rfl|hy
   ·obtain⟨p1,p2⟩:=hp y (nT ..);rw[e1];exact Mk p1 p2 d
   ·exact h2 y hy q
theorem LO{ms:List Nat}{s:Nat}{x:oa}:∀{ps:List oa},x∈vu ms s ps->x∈ps
 |y::ps,h=>by
  unfold vu at h;cases hb:bit ms s y.i with
  |true=>rw[hb] at h;exact mU _ (LO h)
  |false=>
   rw[hb] at h;rcases cQ.1 h with rfl|h
   ·exact nT ..
   ·exact mU _ (LO h)
theorem acb{tm1 tm2:Tr SV}{d:Option Nat}{ts:List Nat}{v:SV}(h:tm2=kF (jw tm1 ts .nil) d v):KC tm1 d tm2=kF tm1 d v:=by
 subst h;cases d with
 |none=>rfl
 |some d=>simp[KC,kF,Tr.fE]
theorem xL{ops:Array Oper}{o:Oper}{tm:Tr SV}:C2 ops o (jw tm (looks ops o) .nil):=λt sv h=>by
 rcases AT _ _ _ _ h with⟨q,_⟩|q
 ·exact q
 ·rw[Tr.get_nil] at q;cases q
theorem xc[QF]{P:Program}{X:ew}(OK:iJ P X){pt:FuncId->Option (cA β)}(PT:nh P pt){ops:Array Oper}{ms:List Nat}:∀(os:List Oper)(s:Nat),(∀i o,os[i]? =some o->ops[s+i]? =some o)->s+os.length=ops.size->∀(st:St)(hL:Tr SO)(ks:List Nat)(ps:List oa)(K:Option SV->St->Option β)(b:β),
 oZ X pt ops ms os s st hL ks ps K=some b->(∀x∈ps,PR ops x)->Out P ops ms s ops.size st hL ks ps K b
 |[],s,_,hl,st,hL,ks,ps,K,b,e,_=>
  ⟨λ_=>⟨0,.nl,st.h,st.sx⟩,s,none,st,e,aM _,sL hl,rfl,rfl,λi h1 h2=>by omega,λ_ _ j h1 h2=>by omega,hl,rfl,rfl,λt sv h=>.inr ⟨λj h1 h2=>by omega,h⟩⟩
 |o::os,s,hs,hl,st,hL,ks,ps,K,b,e,hp=>by
  have ho:ops[s]? =some o:=hs 0 o rfl;have hs':∀i o',os[i]? =some o'->ops[s+1+i]? =some o':=λi o' hi=>by have:=hs (i+1) o' (by simpa using hi);rw[show s+1+i=s+(i+1) by omega];exact this
  have hl':s+1+os.length=ops.size:=by rw[<-hl,bX];omega
  unfold oZ at e;obtain⟨wt,tm1,e,sb,g⟩:=RI e;have sub:Sub (jw tm1 (looks ops o) .nil) st.tm:=λt sv h=>sb _ _ (U1 t sv h);have pr:∀{R:Nat->Rc},pT ops s s R st.tm (jw tm1 (looks ops o) .nil):=λt sv h=>.inr ⟨λj h1 h2=>by omega,sub t sv h⟩;have lh:∀{R:Nat->Rc},zu s hL R s hL:=.inr ⟨λq h1 h2=>by omega,rfl⟩;cases wt with
  |false=>rw[aF] at e;have O:=xc OK PT os (s+1) hs' hl' _ _ _ _ K b e hp;refine O.cons ho (k:=0) (v:=.aH []) rfl sb (.inr ⟨by decide,rfl⟩) (.inr ⟨rfl,rfl⟩) (λx h=>.inl h) (λq=>by cases q) (by exact aM _) (λR m r1 r2 r3 _=>⟨_,ho,pr,xL,by rw[r1,r3];exact aM _,.inl ⟨by rw[r1],by rw[r1,r2],by rw[r1,r3],.inl ?_⟩⟩);rw[r1];intro B σ G F w a R s M K Q k;unfold wpOp;simp only[ho,g R,kJ,gQ];exact k σ undef w (Ext.refl _) PC M
  |true=>
   rw[aD] at e;cases hq:qn o.op with
   |true=>
    rw[hq,aD] at e;cases hr:(V6 tm1 o.op&&!xN ops ms s) with
    |true=>
     rw[hr,aD] at e;obtain⟨hB,e⟩:=aX e;obtain⟨sv,e,d⟩:=LG OK PT hq e;have O:=xc OK PT os (s+1) hs' hl' _ _ _ _ K b e λx h=>(cQ.1 h).elim (λq=>by subst q;exact⟨ho,g⟩) (hp x);refine O.cons ho (k:=0) (v:=sv) rfl sb (.inr ⟨by decide,rfl⟩) (.inr ⟨rfl,rfl⟩) (λx h=>.inl (mU _ h)) (λq=>by cases q) (by exact aM _)
      (λR m r1 r2 r3 pq=>⟨_,ho,pr,xL,by rw[r1,r3];exact aM _,.inl ⟨by rw[r1],by rw[r1,r2],by rw[r1,r3],.inr ⟨hL,lh,?_,.inr ⟨hB,λj h1 h2 h3 h4=>?_⟩⟩⟩⟩)
     ·rw[r1];exact Mk ho g d
     ·rw[r1];exact pq _ (nT ..) j h1 h2 h3 h4
    |false=>
     rw[hr,aF] at e;obtain⟨sv,e,d⟩:=LG OK PT hq e;have O:=xc OK PT os (s+1) hs' hl' _ _ _ _ K b e hp;refine O.cons ho (k:=0) (v:=sv) rfl sb (.inr ⟨by decide,rfl⟩) (.inr ⟨rfl,rfl⟩) (λx h=>.inl h) (λq=>by cases q) (by exact aM _)
      (λR m r1 r2 r3 pq=>⟨_,ho,pr,xL,by rw[r1,r3];exact aM _,.inl ⟨by rw[r1],by rw[r1,r2],by rw[r1,r3],?_⟩⟩)
     rw[r1];replace d:pU P ops s o (jw tm1 (looks ops o) .nil) sv (cond (xN ops ms s) hL .nil):=Mk ho g d;cases hd:xN ops ms s with
     |true=>rw[hd] at d;exact .inr ⟨hL,lh,d,.inl rfl⟩
     |false=>rw[hd] at d;exact .inl d
   |false=>
    rw[hq,aF] at e;cases hm:rU o.op with
    |true=>
     rw[hm,aD] at e;obtain⟨sv,so,e,d⟩:=M5 OK e;have O:=xc OK PT os (s+1) hs' hl' _ _ _ _ K b e hp;refine O.cons ho (k:=1) (v:=sv) rfl sb (.inr ⟨by decide,rfl⟩) (.inl ⟨by decide,rfl⟩) (λx h=>.inl h) (λq=>by cases q) (by exact pQ _)
      (λR m r1 r2 r3 pq=>⟨_,ho,pr,xL,by rw[r1,r3];exact pQ _,.inr (.inl ⟨by rw[r1],hm,so,?_,by rw[r1,r2],by rw[r1,r3]⟩)⟩)
     rw[r1];intro σ a R;refine⟨g R,λw=>?_⟩;obtain⟨u,w',g1,g2,g3⟩:=d a R w;exact⟨u,w',g1,g2,λσ' c n E h=>by obtain⟨k1,k2,_⟩:=g3 σ' c n E h;exact⟨k1,k2⟩⟩
    |false=>
     rw[hm,aF] at e;obtain⟨hk,e⟩:=aX e;have hk:∀j∈ks,bit ms s j=true:=λj hj=>iu.1 hk j hj;obtain⟨q,sv,st',e,hx,ht,D⟩:=LF OK PT e;have hx:st.sx<=st'.sx:=hx;cases q with
     |none=>
      have ht:st'.tm=kF (jw tm1 (looks ops o) .nil) o.dst sv:=by rcases ht with h|h;exact h.2;cases h.1
      obtain⟨e,pq⟩:=LN OK PT e hp;have L:∀{p:Bool},p=false->IE P ops s o (jw tm1 (looks ops o) .nil) sv st.h st.sx st'.h st'.sx p:=by
       rintro _ rfl B σ F w a R hF M K Q k
       unfold wpOp;simp only[ho,g R,dM];exact .inl (D a R hF M K Q k)
      have O:=xc OK PT os (s+1) hs' hl' _ _ _ _ K b e λx h=>hp x (LO h);refine O.cons ho (k:=2) (v:=sv) (acb ht) sb (by exact .inl ⟨rfl,rfl⟩) (.inl ⟨by decide,rfl⟩) (λx h=>?_) (λ_=>by exact pq) (by exact hx)
       (λR m r1 r2 r3 _=>⟨_,ho,pr,xL,by rw[r1,r3];exact hx,.inr (.inr ⟨by rw[r1],?_,hq,hm,λj h1 h2=>by omega,hk⟩)⟩)
      ·rcases Vg (ms:=ms) (s:=s) h with q|q
       ·exact .inr ⟨rfl,q⟩
       ·exact .inl q
      ·rw[r1,r2,r3];exact L rfl
     |some sv'=>
      obtain⟨rfl,_⟩:sv'=sv/\_:=by rcases ht with h|h;cases h.1;exact⟨jB h.1,h.2⟩
      obtain⟨ht,e⟩:=aX e;refine⟨λ_=>⟨0,.nl,st.h,st.sx⟩,s,some sv',_,e,aM _,by rw[<-hl,bX];omega,rfl,rfl,λi h1 h2=>by omega,λ_ _ j h1 h2=>by omega,o,_,ho,by rw[<-hl,bX];omega,pr,xL,?_,hx,ht,λj h1 h2=>by omega,hk,hq,hm,λt u hu=>?_⟩
      ·intro B σ F w a R hF M K Q k;unfold wpOp;simp only[ho,g R,dM];exact .inl (D a R hF M K Q k)
      ·obtain⟨h1,h2⟩:=SZ.1 hu;exact⟨h1,sb _ _ h2⟩
end
section
variable{β:Type}
theorem Mem.DX{B:Bs}{σ:Ren}{G h:Nat->SO->Prop}{F:Nat->Prop}{w:World}(M:Mem B σ G F w)(s:∀id so,h id so->G id so):Mem (Bg w (Own σ h) σ.lit) σ h F w:=
 have M1:=M.less s λ_ q=>q
 ⟨M1.obj,M1.inj,M1.fresh,M1.lit,M1.free,eM.refl _ _,λ_ q=>.inl q,λ_ _ _ q=>.inl q,λk hk=>(Nat.not_lt_zero k hk).elim,λ_ _ _ q=>q⟩
theorem Mem.frame{B:Bs}{σ σ':Ren}{G h h':Nat->SO->Prop}{F F':Nat->Prop}{w w':World}(M:Mem B σ G F w)(s:∀id so,h id so->G id so)(E:Ext σ σ')(M':Mem (Bg w (Own σ h) σ.lit) σ' h' F' w'):
 Mem B σ' (λid so=>h' id so\/G id so/\∀so',¬h id so') F' w':=by
 have ow:∀b,Own σ h b->Own σ G b:=λb ⟨id,so,o,n,a,p,q⟩=>⟨id,so,o,n,s _ _ a,p,q⟩;have ow':∀{b},Own σ' h' b->Own σ G b\/w.heap.size<=b:=λq=>(M'.owned _ q).imp (ow _) λq=>q;have nmG:∀{id so o n},G id so->σ'.nm id=some (some o,n)->σ.nm id=some (some o,n):=by intro id so o n g q;rcases(M.obj id so g).nm with k|⟨_,_,k,_⟩<;>rw[E.nm _ _ k] at q<;>cases q;exact k
 have apart:∀{id so o n},G id so->(∀so',¬h id so')->σ'.nm id=some (some o,n)->o.1 <w.heap.size/\¬Own σ h o.1 :=by intro id so o n g q k;have k:=nmG g k;refine⟨M.lt g k,λ⟨id',so',o',n',a,p,r⟩=>?_⟩;have:=M.inj _ _ _ _ _ _ _ _ g (s _ _ a) k p r.symm;subst this;exact q _ a
 have far:∀{b id so o n},Own σ' h' b->G id so->(∀so',¬h id so')->σ'.nm id=some (some o,n)->b≠o.1 :=by
  rintro b id so o n q g k r rfl
  have:=apart g k r;rcases M'.owned _ q with z|z
  ·exact this.2 z
  ·exact Nat.not_le_of_lt this.1 z
 refine⟨λid so q=>?_,λi j so so' o o' n n' a a' b b' c=>?_,M'.fresh,M'.lit,λb i v q ⟨id,so,o,n,a,p,r⟩=>?_,M.base.trans (M'.base.wide ow) M.owned,λb ⟨id,so,o,n,a,p,r⟩=>?_,λb i v q=>?_,λk hk x hx=>E.nm _ _ (M.ko k hk x hx),λb i v q=>E.lit b i v (M.nF b i v q)⟩
 ·rcases q with q|⟨q,k⟩
  ·exact M'.obj id so q
  ·exact(M.obj id so q).mono E λo n r=>(have z:=apart q k (E.nm _ _ r);M'.base.block _ z.1 z.2)
 ·rcases a with a|⟨a,k⟩<;>rcases a' with a'|⟨a',k'⟩
  ·exact M'.inj _ _ _ _ _ _ _ _ a a' b b' c
  ·exact absurd c (far ⟨i,so,o,n,a,b,rfl⟩ a' k' b')
  ·exact absurd c.symm (far ⟨j,so',o',n',a',b',rfl⟩ a k b)
  ·exact M.inj _ _ _ _ _ _ _ _ a a' (nmG a b) (nmG a' b') c
 ·rcases a with a|⟨a,k⟩
  ·exact M'.free b i v q ⟨id,so,o,n,a,p,r⟩
  ·have z:=apart a k p;rw[r] at z;rcases M'.mf b i v q with y|y|y
   ·exact M.free b i v y ⟨id,so,o,n,a,nmG a p,r⟩
   ·exact z.2 y
   ·exact Nat.not_le_of_lt z.1 y
 ·rcases a with a|⟨a,k⟩
  ·rcases ow' ⟨id,so,o,n,a,p,r⟩ with q|q
   ·exact M.owned b q
   ·exact .inr (fu M.base.size q)
  ·exact M.owned b ⟨id,so,o,n,a,nmG a p,r⟩
 ·rcases M'.mf b i v q with y|y|y
  ·exact M.mf b i v y
  ·exact .inr (M.owned b (ow b y))
  ·exact .inr (.inr (fu M.base.size y))
theorem al6{P:Program}{ops:Array Oper}{i:Nat}{a:Act}{w:World}{G:Prop}(h:wpOp P ops (λ_ _ _=>False) i (λ_ _=>G) a w):G:=by
 unfold wpOp at h;split at h
 ·exact h
 split at h
 ·rcases h with h|⟨_,_,_,h⟩
  ·unfold Oper.wp Oper.upon at h;split at h
   ·exact h
   ·exact h
   ·exact h
   ·obtain⟨e,w',fr,r,_⟩:=h [];cases e with
    |returned v=>exact r
    |panicked c=>exact r.elim
    |outgrown=>obtain⟨_,_,r⟩:=r;exact r.elim
   ·obtain⟨v,w',r,_⟩:=h default [];exact r
   ·exact h.elim
   ·exact h.elim
  ·exact h.elim
 ·exact h
def GD(R:Nat->Rc)(D:Nat->Prop)(p m:Nat)(id:Nat)(so:SO):Prop:=(R p).h.get id=some so\/∃j,p<=j/\j<m/\D j/\(R j).k=1/\id=(R j).x/\(R (j+1)).h.get id=some so
def FD(R:Nat->Rc)(D:Nat->Prop)(m id:Nat):Prop:=(R 0).x<=id/\∀j,j<m->D j->id<(R j).x\/(R (j+1)).x<=id
structure Iv(B:Bs)(ops:Array Oper)(ms:List Nat)(R:Nat->Rc)(m:Nat)(tm0:Tr SV)(D:Nat->Prop)(p:Nat)(σ:Ren)(a:Act)(w:World):Prop where
 pm:p<=m
 pk:p=0\/∃q,p=q+1/\(R q).k=2
 lo:∀j,j<m->(R j).k=2->(D j↔j<p)
 Ty:∀j,j<p->(R j).k=1->D j
 sub:∀j,D j->j<m
 cl:∀j l,D j->bit ms j l=true->D l
 size:a.tmps.size=B.n
 dH:a.defers=B.dH
 mem:Mem B σ (GD R D p m) (FD R D m) w
 val:∀j t,D j->jG ops j=some t->DV σ (R j).v (a.eval (.tmp t))
 rest:∀t sv,(∀j,D j->jG ops j≠some t)->tm0.get t=some sv->DV σ sv (a.eval (.tmp t))
structure wQ(ops:Array Oper)(ms:List Nat)(n:Nat):Prop where
 lt:∀i j,i<ops.size->bit ms i j=true->j<i
 dn:∀i t,jG ops i=some t->t<n
 one:∀i j t,jG ops i=some t->jG ops j=some t->i=j
 look:∀i o t j,ops[i]? =some o->t∈looks ops o->jG ops j=some t->j=i\/bit ms i j=true\/bit ms j i=true
def YG(ops:Array Oper)(ms:List Nat)(n:Nat):Bool:=
 cond (jn ops.size λi=>match jG ops i with
  |none=>true
  |some t=>cond (Nat.blt t n) (jn i λj=>!isDst ops j t) false)
  (jn ops.size λi=>match ops[i]? with
   |none=>true
   |some o=>(looks ops o).all λt=>jn ops.size λj=>cond (isDst ops j t) (Nat.beq j i||(bit ms i j||bit ms j i)) true)
  false
theorem YF{ops:Array Oper}{ms:List Nat}{n:Nat}(lt:∀i j,i<ops.size->bit ms i j=true->j<i)(hs:YG ops ms n=true):wQ ops ms n:=by
 obtain⟨s2,s3⟩:=nt hs;have dlt:∀{i t},jG ops i=some t->i<ops.size:=λh=>by unfold jG at h;obtain⟨o,h,_⟩:=Option.bind_eq_some_iff.1 h;exact(fa.1 h).1
 have d2:∀{i t},jG ops i=some t->t<n/\∀j,j<i->isDst ops j t=false:=λ{i t} h=>by have:=lR s2 i (dlt h);simp only[h] at this;obtain⟨h1,h2⟩:=nt this;exact⟨eQ h1,λj hj=>by simpa using lR h2 j hj⟩
 have one:∀{i j t},jG ops i=some t->jG ops j=some t->¬j<i:=λh k q=>by have:=(d2 h).2 _ q;rw[Sz.2 k] at this;cases this
 refine⟨lt,λi t h=>(d2 h).1,λi j t h k=>Nat.le_antisymm (Nat.not_lt.1 (one h k)) (Nat.not_lt.1 (one k h)),λi o t j ho ht h=>?_⟩;have:=lR s3 i (fa.1 ho).1;simp only[ho] at this;have:=lR (iu.1 this t ht) j (dlt h);rw[Sz.2 h,aD] at this;simp only[sI] at this;exact this.imp bV id
theorem alz{ops:Array Oper}{n:Nat}(hs:stat ops (pj ops.toList []) n=true):wQ ops (pj ops.toList []) n:=
 YF (λi j hi h=>acX (YI hs) hi h) (nt hs).2
section
variable[QF] {P:Program} {ops:Array Oper} {ms:List Nat} {n m:Nat} (S:wQ ops ms n) {B:Bs} (hn:B.n=n) {R:Nat->Rc} {tm0:Tr SV} (hm:m<=ops.size) (hf:∀i,i<m->∃o tm,Fact P ops ms 0 m tm0 (R 0).h [] R i o tm) {D:Nat->Prop} {p:Nat} {σ:Ren} {a:Act} {w:World} (I:Iv B ops ms R m tm0 D p σ a w) {i:Nat}
include S hm I in
theorem Iv.ev{o:Oper}{tm:Tr SV}(ho:ops[i]? =some o)(nd:¬D i)(hd:∀j,bit ms i j=true->D j)(pr:pT ops 0 i R tm0 tm)(on:C2 ops o tm):Ev σ tm a:=λt sv h=>by
 have ht:=on t sv h;have hi:=(fa.1 ho).1;rcases pr t sv h with⟨j,_,h1,h2,rfl⟩|⟨h1,h2⟩
 ·refine I.val j t ?_ h2;rcases S.look i o t j ho ht h2 with q|q|q
  ·omega
  ·exact hd j q
  ·have:=S.lt j i (by omega) q;omega
 ·refine I.rest t sv (λj dj q=>?_) h2;rcases S.look i o t j ho ht q with e|e|e
  ·subst e;exact nd dj
  ·exact h1 j (ia _) (S.lt i j hi e) q
  ·exact nd (I.cl j i dj e)
include hf in
theorem qJ:∀{j:Nat},i<=j->j<=m->(R i).x<=(R j).x:=by
 intro j h;induction h with
 |refl=>exactλ_=>aM _
 |step h ih=>intro hj;obtain⟨o,tm,f⟩:=hf _ hj;exact fu (ih (Nat.le_of_lt hj)) f.le
include hf I in
theorem Iv.Ib(hi:i<=m)(hd:∀j,j<i->(R j).k≠0->D j):∀{q:Nat},p<=q->q<=i->∀id so,(R q).h.get id=some so->GD R D p m id so:=by
 intro q hq;induction hq with
 |refl=>exactλ_ id so h=>.inl h
 |@step q hq ih=>
  intro qi id so h;have ih:=ih (Nat.le_of_lt qi);obtain⟨o,tm,f⟩:=hf q (oQ qi hi);rcases f.kind with⟨_,e,_⟩|⟨k1,_,so0,_,e,_⟩|⟨k2,_⟩
  ·rw[e] at h;exact ih id so h
  ·by_cases c:id=(R q).x
   ·exact .inr ⟨q,hq,oQ qi hi,hd q qi (by rw[k1];decide),k1,c,h⟩
   ·rw[e,Tr.fE,aq c] at h;exact ih id so h
  ·have:=(I.lo q (oQ qi hi) k2).1 (hd q qi (by rw[k2];decide));exact absurd hq (Nat.not_le_of_lt this)
include S hn hm hf I in
theorem Iv.step(hi:i<m)(nd:¬D i)(hd:∀j,bit ms i j=true->D j)(dj:∀j,i<j->D j->(R j).k=1->(R i).h.get (R j).x=none){K:Act->World->Prop}{Q:Exit->Act->World->Prop}(k:∀p' σ' a' w',Iv B ops ms R m tm0 (λx=>D x\/x=i) p' σ' a' w'->K a' w'):wpOp P ops Q i K a w:=by
 obtain⟨o,tm,f⟩:=hf i hi;have ho:=f.op;have di:jG ops i=o.dst:=by simp[jG,ho]
 have ev:=I.ev S hm ho nd hd f.Vr f.only;have hsz:i<ops.size:=oQ hi hm;have fin:∀{p' σ' u w'},p'<=m->(p'=0\/∃q,p'=q+1/\(R q).k=2)->(∀j,j<m->(R j).k=2->(D j\/j=i↔j<p'))->(∀j,j<p'->(R j).k=1->D j\/j=i)->Ext σ σ'->DV σ' (R i).v u->Mem B σ' (GD R (λx=>D x\/x=i) p' m) (FD R (λx=>D x\/x=i) m) w'->K (a.put o.dst u) w':=by
  intro p' σ' u w' h1 h2 h3 h4 E dv M;have ep:∀{t},(a.put o.dst u).eval (.tmp t)=if o.dst=some t then u else a.eval (.tmp t):=eval_put λk hk=>by rw[I.size,hn];exact S.dn i k (di.trans hk)
  refine k p' σ' _ w' ⟨h1,h2,h3,h4,λj hj=>hj.elim (I.sub j) λq=>q▸hi,λj l hj hl=>.inl (hj.elim (λq=>I.cl j l q hl) λq=>hd l (q▸hl)),by cases o.dst<;>simp[Act.put,I.size],by cases o.dst<;>exact I.dH,M,λj t hj ht=>?_,λt sv h1 h2=>?_⟩
  ·rw[ep];by_cases c:o.dst=some t
   ·rw[ay c];have:=S.one i j t (di.trans c) ht;subst this;exact dv
   ·rw[aq c];rcases hj with q|q
    ·exact(I.val j t q ht).mono E
    ·subst q;exact absurd (di.symm.trans ht) c
  ·rw[ep,aq (by rw[<-di];exact h1 i (.inr rfl))];exact(I.rest t sv (λj hj=>h1 j (.inl hj)) h2).mono E
 have ids:(R i).x<=(R (i+1)).x->∀id,(R i).x<=id->id<(R (i+1)).x->FD R D m id:=λ_ id h1 h2=>⟨fu (qJ hf (ia _) (Nat.le_of_lt hi)) h1,λj hj dd=>by
  rcases Nat.lt_trichotomy j i with q|q|q
  ·exact .inr (fu (qJ hf q (Nat.le_of_lt hi)) h1)
  ·subst q;exact absurd dd nd
  ·exact .inl (oQ h2 (qJ hf q (Nat.le_of_lt hj)))⟩
 have FS:∀id,FD R (λx=>D x\/x=i) m id->FD R D m id:=λid h=>⟨h.1,λj hj dj=>h.2 j hj (.inl dj)⟩;have cut:∀id,FD R (λx=>D x\/x=i) m id->lY (FD R D m) (R i).x (R (i+1)).x id:=λid h=>⟨FS id h,λq=>by have:=h.2 i hi (.inr rfl);omega⟩;have lo0:(R i).k≠2->∀j,j<m->(R j).k=2->(D j\/j=i↔j<p):=λc j hj hk=>(or_iff_left λq:j=i=>c (by rw[<-q];exact hk)).trans (I.lo j hj hk);rcases f.kind with⟨k0,eh,ex,q⟩|⟨k1,_,so,mk,eh,ex⟩|⟨k2,L,_,_,b1,_⟩
 ·have use:∀{h:Tr SO},(∀id so,h.get id=some so->GD R D p m id so)->pU P ops i o tm (R i).v h->wpOp P ops Q i K a w:=λs q=>q a ev s I.mem K Q λσ' u w' E dv M=>
   fin I.pm I.pk (lo0 (by rw[k0];decide)) (λj h1 h2=>.inl (I.Ty j h1 h2)) E dv (M.less (λid so h=>h.imp_right λ⟨j,h1,h2,h3,h4,h5⟩=>⟨j,h1,h2,h3.resolve_right (λc=>by rw[c,k0] at h4;cases h4),h4,h5⟩) FS)
  rcases q with q|⟨h,lh,q,ord⟩
  ·exact use (λid so h=>(pw h).elim) q
  have lq:∀{j},j<m->(R j).k=2->∃o,ops[j]? =some o/\qn o.op=false/\rU o.op=false:=λhj hk=>by
   obtain⟨o,tm,f⟩:=hf _ hj;rcases f.kind with⟨c,_⟩|⟨c,_⟩|⟨_,_,c1,c2,_⟩
   ·rw[hk] at c;cases c
   ·rw[hk] at c;cases c
   ·exact⟨o,f.op,c1,c2⟩
  have bef:∀{j},j<i->(R j).k=2->D j:=λ{j} hj hk=>by
   obtain⟨o',h1,h2,h3⟩:=lq (Nat.lt_trans hj hi) hk;rcases ord with ord|⟨ord,_⟩
   ·have:=lR ord j (Nat.lt_trans hj hsz);simp only[h1,h2,h3,zn,sI] at this;rcases this with c|c
    ·exact hd j c
    ·have:=S.lt j i (Nat.lt_trans hj hsz) c;omega
   ·have:=lR ord j hj;simp only[h1,h2,h3,zn] at this;exact hd j this
  have bef':∀{j},j<i->(R j).k=2->j<p:=λhj hk=>(I.lo _ (Nat.lt_trans hj hi) hk).1 (bef hj hk);have same:p<=i->h=(R p).h:=λhpi=>by
   rcases I.pk with p0|⟨q',p0,kq⟩<;>rcases lh with⟨q,_,l2,l3,l4,l5⟩|⟨l1,l2⟩
   ·have:=bef' l2 l3;omega
   ·rw[l2,p0]
   ·have:=bef' l2 l3;have:¬q<q':=λc=>l4 q' c (by omega) kq;rw[l5,p0,show q=q' by omega]
   ·exact absurd kq (l1 q' (ia _) (by omega))
  by_cases hpi:p<=i
  ·exact use (λid so g=>.inl (same hpi▸g)) q
  ·rcases I.pk with p0|⟨q',p0,kq⟩
   ·omega
   ·have dq:=(I.lo q' (by have:=I.pm;omega) kq).2 (by omega);have ne:q'≠i:=λc=>nd (c▸dq);rcases ord with ord|⟨_,ord⟩
    ·obtain⟨o',h1,h2,h3⟩:=lq (by have:=I.pm;omega) kq;have:=lR ord q' (oQ (I.sub _ dq) hm);simp only[h1,h2,h3,zn,sI] at this;rcases this with c|c
     ·have:=S.lt i q' hsz c;omega
     ·exact absurd (I.cl q' i dq c) nd
    ·refine use (λid so g=>.inl (by rw[p0];exact g)) (ord q' (by omega) (I.sub _ dq) kq λl l1 l2 l3=>?_);cases c:bit ms l i with
     |false=>rfl
     |true=>exact absurd (I.cl l i ((I.lo l (by have:=I.sub _ dq;omega) l3).2 (by omega)) c) nd
 ·obtain⟨g1,g2⟩:=mk a ev;obtain⟨u,w',r1,r2,r3⟩:=g2 w;have hF:=ids f.le (R i).x (aM _) (by omega);have ns:∀id so,hG .nil id so->GD R D p m id so:=λid so h=>(pw h).elim;have E0:Ext σ (σ.add (R i).x (some (w.heap.size,0),0)):=Ren.zC (I.mem.fresh _ hF);obtain⟨dv,d⟩:=r3 _ 0 0 E0 (Ren.jE _ _ _);obtain⟨E,M⟩:=(I.mem.DX ns).new hF r2 d;have M:=I.mem.frame ns E M;unfold wpOp;simp only[ho,g1,dM];refine .inl (rA r1 (fin I.pm I.pk (lo0 (by rw[k1];decide)) (λj h1 h2=>.inl (I.Ty j h1 h2)) E dv (M.less (λid so h=>?_) λid h=>?_)))
  ·rcases h with h|⟨j,h1,h2,h3,h4,h5,h6⟩
   ·exact .inr ⟨.inl h,λ_=>pw⟩
   ·rcases h3 with h3|h3
    ·exact .inr ⟨.inr ⟨j,h1,h2,h3,h4,h5,h6⟩,λ_=>pw⟩
    ·subst h3;rw[eh,Tr.fE,ay h5] at h6;exact .inl (by simp only[hG,Tr.fE,ay h5];exact h6)
  ·have:=cut id h;rwa[ex] at this
 ·have dn:∀j,j<i->(R j).k≠0->D j:=λj hj hk=>hd j (b1 j (ia _) hj hk);have hpi:p<=i:=Nat.not_lt.1 λc=>nd ((I.lo i hi k2).2 c);have hs:=I.Ib hf (Nat.le_of_lt hi) dn hpi (aM _);refine L a ev (ids f.le) (I.mem.DX hs) K Q λσ' u w' E dv M=>?_;have M:=I.mem.frame hs E M;refine fin hi (.inr ⟨i,rfl,k2⟩) (λj hj hk=>⟨λc=>?_,λc=>?_⟩) (λj hj hk=>?_) E dv (M.less (λid so h=>?_) cut)
  ·rcases c with c|c
   ·have:=(I.lo j hj hk).1 c;omega
   ·omega
  ·rcases Nat.lt_succ_iff_lt_or_eq.1 c with c|c
   ·exact .inl (dn j c (by rw[hk];decide))
   ·exact .inr c
  ·rcases Nat.lt_succ_iff_lt_or_eq.1 hj with c|c
   ·exact .inl (dn j c (by rw[hk];decide))
   ·exact .inr c
  ·rcases h with h|⟨j,h1,h2,h3,h4,h5,h6⟩
   ·exact .inl h
   ·have h3:=h3.resolve_right (by omega);refine .inr ⟨.inr ⟨j,by omega,h2,h3,h4,h5,h6⟩,λso' c=>?_⟩;have:=dj j h1 h3 h4;rw[h5] at c;rw[show(R i).h.get (R j).x=some so' from c] at this;cases this
end
end
section
variable{β:Type} [QF]
section
variable{P:Program} {ops:Array Oper} {ms:List Nat} {n m:Nat} (S:wQ ops ms n) {B:Bs} (hn:B.n=n) {R:Nat->Rc} {tm0:Tr SV} (hm:m<=ops.size) (hf:∀i,i<m->∃o tm,Fact P ops ms 0 m tm0 (R 0).h [] R i o tm) {q:Option SV} {fY:St} (hq:Fin P ops ms 0 ops.size m tm0 [] R q fY)
 (hb:∀i,i<=m->∀id so,(R i).h.get id=some so->id<(R i).x)
include S hn hm hf hq hb
theorem S6{Q:Exit->Act->World->Prop}(ps:uC B q fY Q):∀(l:List Nat){D:Nat->Prop}{p:Nat}{σ:Ren}{a:Act}{w:World},rF ops.size (λi j=>bit ms i j=true) D l->Iv B ops ms R m tm0 D p σ a w->wpOps P ops Q l a w
 |[],D,p,σ,a,w,L,I=>by
  have L:∀i,i<ops.size->D i:=L;cases q with
  |none=>
   obtain⟨h1,h2,h3,h4⟩:=hq;refine ps σ a w ⟨I.size,I.dH,λt sv h=>?_,I.mem.less (λid so h=>?_) λid h=>⟨fu (qJ hf (ia _) (aM _)) (by rw[<-h3];exact h),λj hj _=>.inr (fu (qJ hf hj (aM _)) (by rw[<-h3];exact h))⟩⟩
   ·rcases h4 t sv h with⟨j,_,c1,c2,rfl⟩|⟨c1,c2⟩
    ·exact I.val j t (L j (by omega)) c2
    ·exact I.rest t sv (λj dj=>c1 j (ia _) (I.sub j dj)) c2
   ·rw[h2] at h;exact I.Ib hf (aM _) (λj hj _=>L j (by omega)) I.pm (aM _) id so h
  |some sv=>obtain⟨o,tm,h1,h2,_⟩:=hq;exact absurd (I.sub m (L m h2)) (Nat.lt_irrefl _)
 |i::l,D,p,σ,a,w,L,I=>by
  obtain⟨hi,nd,hd,L⟩:=L;have hd:∀j,bit ms i j=true->D j:=hd;rw[wpOps_cons];rcases Nat.lt_trichotomy i m with c|c|c
  ·refine I.step S hn hm hf c nd hd (λj hj dj _=>?_) λp' σ' a' w' I'=>S6 ps l L I';cases h:(R i).h.get (R j).x with
   |none=>rfl
   |some so=>have:=hb i (Nat.le_of_lt c) _ _ h;have:=qJ hf (Nat.le_of_lt hj) (Nat.le_of_lt (I.sub j dj));omega
  ·subst c;cases q with
   |none=>obtain⟨h1,_⟩:=hq;omega
   |some sv=>obtain⟨o,tm,ho,_,pr,on,L,hx,_,b1,_,_,_,tl⟩:=hq;have hs:=I.Ib hf (aM _) (λj hj hk=>hd j (b1 j (ia _) hj hk)) I.pm (aM _);have lo:∀id,(R i).x<=id->∀j,j<i->D j->id<(R j).x\/(R (j+1)).x<=id:=λid h j hj _=>.inr (fu (qJ hf hj (aM _)) h);have z:=qJ hf (ia i) (aM _);refine L a (I.ev S hm ho nd hd pr on) (λid h _=>⟨fu z h,lo id h⟩) (I.mem.DX hs) _ Q λσ' u w' E dv M=>?_;refine ps σ' a w' ⟨I.size,I.dH,λt sv h=>?_,(I.mem.frame hs E M).less (λid so h=>.inl h) λid h=>⟨⟨by omega,lo id (fu hx h)⟩,λq=>by omega⟩⟩ u dv;obtain⟨c1,c2⟩:=tl t sv h;refine(I.rest t sv (λj dj c=>?_) c2).mono E;obtain⟨o',e1,e2⟩:=Option.bind_eq_some_iff.1 c;exact c1 o' (Array.mem_toList_iff.2 (Array.mem_of_getElem? e1)) e2
  ·cases q with
   |none=>obtain⟨h1,_⟩:=hq;omega
   |some sv=>obtain⟨o,tm,_,_,_,_,_,_,tl,_⟩:=hq;have:=lR tl i hi;rw[show Nat.ble i m=false from Bool.eq_false_iff.2 λh=>by have:=dX h;omega,aF] at this;exact absurd (I.sub m (hd m this)) (Nat.lt_irrefl _)
end
theorem QQ{P:Program}{X:ew}(OK:iJ P X){pt:FuncId->Option (cA β)}(PT:nh P pt){ops:Array Oper}{ms:List Nat}{n:Nat}(S:wQ ops ms n){st:St}{K:Option SV->St->Option β}{b:β}(e:oZ X pt ops ms ops.toList 0 st st.h [] [] K=some b):
 ∃q st',K q st'=some b/\∀{B:Bs}{σ:Ren}{a:Act}{w:World},B.n=n->dA B σ st a w->∀Q,uC B q st' Q->∀l,rF ops.size (λi j=>bit ms i j=true) (λ_=>False) l->wpOps P ops Q l a {w with drawn:=w.drawn+1}:=by
 obtain⟨R,m,q,fY,h1,_,hm,h4,h5,hf,_,hq⟩:=xc OK PT ops.toList 0 (λi o h=>by simpa using h) (by simp) st st.h [] [] K b e λ_ h=>by cases h
 rw[<-h4] at hf;refine⟨q,fY,h1,λ{B σ a w} hn r Q ps l hl=>?_⟩;have hf:∀i,i<m->∃o tm,Fact P ops ms 0 m st.tm (R 0).h [] R i o tm:=λi hi=>hf i (ia _) hi;have I0:Iv B ops ms R m st.tm (λ_=>False) 0 σ a {w with drawn:=w.drawn+1}:=
  ⟨ia _,.inl rfl,λj _ _=>⟨False.elim,λh=>by omega⟩,λj h=>by omega,λj h=>h.elim,λj l h=>h.elim,r.size,r.dH,
   (r.mem.same (w':={w with drawn:=w.drawn+1}) ⟨rfl,rfl,rfl,aM _,λ_ _ _=>rfl⟩).less (G':=GD R (λ_=>False) 0 m) (F':=FD R (λ_=>False) m) (λid so h=>by
    rcases h with h|⟨j,_,_,h,_⟩
    ·rw[h4] at h;exact h
    ·exact h.elim) λid h=>by have:=h.1;rw[h5] at this;exact this,λj t h=>h.elim,λt sv _ h=>r.ev t sv h⟩
 have seq:∀i,i<=m->∃p σ a w,Iv B ops ms R m st.tm (λj=>j<i) p σ a w:=by
  intro i;induction i with
  |zero=>exactλ_=>⟨_,_,_,_,by simpa using I0⟩
  |succ i ih=>intro hi;obtain⟨p,σ,a,w,I⟩:=ih (Nat.le_of_lt hi);refine al6 (I.step S hn hm hf hi (Nat.lt_irrefl _) (λj h=>S.lt i j (oQ hi hm) h) (λj h1 h2=>by omega) λp' σ' a' w' I'=>⟨p',σ',a',w',?_⟩);have:(λx=>x<i\/x=i)=λx=>x<i+1:=funext λx=>propext (by omega);rwa[this] at I'
 refine S6 S hn hm hf hq (λi hi id so h=>Nat.not_le.1 λc=>?_) ps _ hl I0;obtain⟨p,σ,a,w,I⟩:=seq i hi;have hd:=I.mem.obj id so (I.Ib hf hi (λj hj _=>hj) (Nat.not_lt.1 λc=>by
  rcases I.pk with q|⟨q,q1,q2⟩
  ·omega
  ·have:=(I.lo q (by have:=I.pm;omega) q2).2 (by omega);omega) (aM _) id so h)
 have:=I.mem.fresh id ⟨fu (qJ hf (ia _) hi) c,λj _ hj=>.inr (fu (qJ hf hj hi) c)⟩;rcases hd.nm with k|⟨_,_,k,_⟩<;>rw[this] at k<;>cases k
theorem aay{P:Program}{X:ew}(OK:iJ P X){pt:FuncId->Option (cA β)}(PT:nh P pt)(mx:P.follows .mixedOrders=true){ops:Array Oper}{n id:Nat}(hs:stat ops (pj ops.toList []) n=true){st:St}{K:Option SV->St->Option β}{b:β}(e:oZ X pt ops (pj ops.toList []) ops.toList 0 st st.h [] [] K=some b):
 ∃q st',K q st'=some b/\∀{B:Bs}{σ:Ren}{a:Act}{w:World},B.n=n->dA B σ st a w->∀Q,uC B q st' Q->(Code.region id ops true).wp P Q a w:=by
 obtain⟨q,st',h,g⟩:=QQ OK PT (alz hs) e;exact⟨q,st',h,λhn r Q ps=>wp_region_draw λt=>g hn r Q ps _ (S7 mx (YI hs) t)⟩
def abU(ops:Array Oper)(i:Nat):Bool:=match ops[i]? with
 |some o=>rU o.op
 |none=>false
def AG(i:Nat):List Nat->Bool
 |[]=>false
 |x::l=>cond (Nat.beq i x) true (AG i l)
def SC(ops:Array Oper)(i:Nat):Bool:=match ops[i]? with
 |some o=>qn o.op
 |none=>false
def KV(ms:List Nat)(i:Nat)(acc:List Nat):Nat->Bool
 |0=>true
 |n+1=>cond (bit ms i n) (cond (AG n acc) (KV ms i acc n) false) (KV ms i acc n)
def VC(ops:Array Oper)(ms:List Nat)(acc:List Nat):Nat->List Nat
 |0=>acc
 |n+1=>(λa=>cond (SC ops n&&!AG n a&&KV ms n a n) (a++[n]) a) (VC ops ms acc n)
def Qb(ms:List Nat)(i:Nat)(acc:List Nat):Nat->List Nat
 |0=>acc
 |n+1=>(λa=>cond (bit ms i n&&!AG n a) (a++[n]) a) (Qb ms i acc n)
def U7(ops:Array Oper)(ms:List Nat):Nat->List Nat
 |0=>[]
 |n+1=>(λa=>cond (abU ops n||SC ops n) a (Qb ms n (VC ops ms a ops.size) n++[n])) (U7 ops ms n)
def Wh(acc:List Nat):Nat->List Nat
 |0=>acc
 |n+1=>(λa=>cond (AG n a) a (a++[n])) (Wh acc n)
def xM(ops:Array Oper)(ms:List Nat):List Nat:=Wh (U7 ops ms ops.size) ops.size
def rR(i:Nat):List Nat->Nat
 |[]=>0
 |x::l=>cond (Nat.beq i x) 0 (rR i l+1)
def qj(ops:Array Oper)(ps:List Nat):Array Oper:=(ps.map λi=>ops.getD i default).toArray
def LW(ms ps:List Nat)(i:Nat):Nat->Nat
 |0=>0
 |n+1=>cond (bit ms i (ps.getD n 0)) (Nat.lor (Nat.shiftLeft 1 n) (LW ms ps i n)) (LW ms ps i n)
def LX(ms ps:List Nat):Nat->List Nat
 |0=>[]
 |n+1=>LX ms ps n++[LW ms ps (ps.getD n 0) n]
def YH(ops ops':Array Oper)(ms ms' ps:List Nat)(n:Nat):Bool:=
 cond (jn ops.size λi=>(o5 ops i).all λb=>Nat.blt b i)
  (cond (Nat.beq ps.length ops.size)
   (cond (jn ops.size λi=>cond (Nat.blt (ps.getD i 0) ops.size) (cond (Nat.blt (rR i ps) ops.size) (cond (Nat.beq (ps.getD (rR i ps) 0) i) (Nat.beq (rR (ps.getD i 0) ps) i) false) false) false)
    (cond (jn ops.size λi=>match(ops.getD i default).guard with
     |none=>true
     |some _=>false)
     (cond (jn ops.size λi=>cond (Nat.blt (ms'.getD i 0) (Nat.pow 2 i)) (jn ops.size λj=>cond (bit ms' i j) (bit ms (ps.getD i 0) (ps.getD j 0)) true) false)
      (YG ops' ms' n) false) false) false) false) false
theorem Vh{N:Nat}{A A':Nat->Nat->Prop}{p q:Nat->Nat}(hp:∀i,i<N->p i<N)(hq:∀i,i<N->q i<N)(pq:∀i,i<N->p (q i)=i)(qp:∀i,i<N->q (p i)=i)(lt:∀i j,i<N->A' i j->j<N)(hA:∀i j,i<N->j<N->A' i j->A (p i) (p j)):∀(l:List Nat)(D D':Nat->Prop),(∀x,x<N->(D' x↔D (p x)))->rF N A D l->rF N A' D' (l.map q)
 |[],D,D',h,L=>λi hi=>(h i hi).2 (L _ (hp i hi))
 |i::l,D,D',h,⟨hi,nd,hd,L⟩=>by
  refine⟨hq i hi,λc=>nd ?_,λj hj=>?_,Vh hp hq pq qp lt hA l _ _ (λx hx=>?_) L⟩
  ·have:=(h _ (hq i hi)).1 c;rwa[pq i hi] at this
  ·have lj:=lt _ _ (hq i hi) hj;have:=hA _ _ (hq i hi) lj hj;rw[pq i hi] at this;exact(h j lj).2 (hd _ this)
  ·rw[h x hx];refine or_congr Iff.rfl ⟨λe=>?_,λe=>?_⟩
   ·rw[e,pq i hi]
   ·rw[<-e,qp x hx]
theorem S5{N:Nat}{A:Nat->Nat->Prop}:∀{l:List Nat}{D:Nat->Prop},rF N A D l->∀i∈l,i<N
 |j::l,D,⟨hj,_,_,L⟩,i,h=>by
  rcases cQ.1 h with rfl|h
  ·exact hj
  ·exact S5 L i h
theorem Vi{P:Program}{ops ops':Array Oper}{Q:Exit->Act->World->Prop}{q:Nat->Nat}(H:∀i,i<ops.size->ops'[q i]? =ops[i]?)(ng:∀(i:Nat)(o:Oper),ops[i]? =some o->o.guard=none):∀(l:List Nat),(∀i∈l,i<ops.size)->wpOps P ops Q l=wpOps P ops' Q (l.map q)
 |[],_=>rfl
 |i::l,h=>by
  have ih:=Vi (P:=P) (Q:=Q) H ng l λj hj=>h j (mU _ hj)
  funext a w
  rw[iH,wpOps_cons,wpOps_cons,<-ih];unfold wpOp;rw[H i (h i nT)];cases ho:ops[i]? with
  |none=>rfl
  |some o=>simp only[Region.wanted,ng i o ho]
theorem aax{P:Program}{X:ew}(OK:iJ P X){pt:FuncId->Option (cA β)}(PT:nh P pt)(mx:P.follows .mixedOrders=true){ops:Array Oper}{ms' ps:List Nat}{n id:Nat}(hs:YH ops (qj ops ps) (pj ops.toList []) ms' ps n=true){st:St}{K:Option SV->St->Option β}{b:β}(e:oZ X pt (qj ops ps) ms' (qj ops ps).toList 0 st st.h [] [] K=some b):
 ∃q st',K q st'=some b/\∀{B:Bs}{σ:Ren}{a:Act}{w:World},B.n=n->dA B σ st a w->∀Q,uC B q st' Q->(Code.region id ops true).wp P Q a w:=by
 obtain⟨h1,hs⟩:=nt hs;obtain⟨h2,hs⟩:=nt hs;obtain⟨h3,hs⟩:=nt hs;obtain⟨h4,hs⟩:=nt hs;obtain⟨h5,hs⟩:=nt hs;have B:zK ops:=λi hi b hb=>eQ (iu.1 (lR h1 i hi) b hb);have hl:ps.length=ops.size:=bV h2;have hz:(qj ops ps).size=ops.size:=by simp[qj,hl]
 have pr:∀i,i<ops.size->ps.getD i 0<ops.size/\rR i ps<ops.size/\ps.getD (rR i ps) 0=i/\rR (ps.getD i 0) ps=i:=λi hi=>by obtain⟨a,h⟩:=nt (lR h3 i hi);obtain⟨b,h⟩:=nt h;obtain⟨c,d⟩:=nt h;exact⟨eQ a,eQ b,bV c,bV d⟩
 have mt:∀i j,i<ops.size->bit ms' i j=true->j<i:=λi j hi h=>by have:=eQ (nt (lR h5 i hi)).1;refine Nat.not_le.1 λc=>?_;have:=Nat.testBit_lt_two_pow (oQ this (Nat.pow_le_pow_right (by omega) c));unfold bit at h;rw[this] at h;cases h
 have mi:∀i j,i<ops.size->j<ops.size->bit ms' i j=true->bit (pj ops.toList []) (ps.getD i 0) (ps.getD j 0)=true:=λi j hi hj h=>by have:=lR (nt (lR h5 i hi)).2 j hj;rwa[h] at this
 have S:wQ (qj ops ps) ms' n:=YF (λi j hi h=>mt i j (by rwa[hz] at hi) h) hs;obtain⟨q,st',h,g⟩:=QQ OK PT S e;refine⟨q,st',h,λhn r Q k=>wp_region_draw λt=>?_⟩;have L:=S7 mx B t;rw[Vi (q:=λi=>rR i ps) (ops':=qj ops ps) (λi hi=>?_) (λi o ho=>?_) _ (S5 L)]
 ·refine g hn r Q k _ ?_;rw[hz];exact Vh (p:=λi=>ps.getD i 0) (λi hi=>(pr i hi).1) (λi hi=>(pr i hi).2.1) (λi hi=>(pr i hi).2.2.1) (λi hi=>(pr i hi).2.2.2) (λi j hi h=>Nat.lt_trans (mt i j hi h) hi) (λi j hi hj h=>mi i j hi hj h) _ _ _ (λ_ _=>Iff.rfl) L
 ·obtain⟨_,a,b,_⟩:=pr i hi;rw[wB,cu (by omega)] at b;simp only[qj,List.getElem?_toArray,List.getElem?_map];rw[cu (by omega),rD,show ps[rR i ps]=i from b];simp[hi]
 ·have hi:=(fa.1 ho).1;have:=lR h4 i hi;have e0:ops.getD i default=o:=by simp[qz,ho]
  simp only[e0] at this;cases hg:o.guard with
  |none=>rfl
  |some x=>rw[hg] at this;cases this
noncomputable def QR(p:Bool)(X:ew)(pt:FuncId->Option (cA β))(n:Nat)(ops:Array Oper)(ms:List Nat)(st:St)(K:Option SV->St->Option β):Option β:=
 cond p (cond (YH ops (qj ops (xM ops ms)) ms (LX ms (xM ops ms) ops.size) (xM ops ms) n) (oZ X pt (qj ops (xM ops ms)) (LX ms (xM ops ms) ops.size) (qj ops (xM ops ms)).toList 0 st st.h [] [] K) (bI 70))
  (cond (stat ops ms n) (oZ X pt ops ms ops.toList 0 st st.h [] [] K) (bI 70))
theorem aaD{P:Program}{X:ew}(OK:iJ P X){pt:FuncId->Option (cA β)}(PT:nh P pt)(mx:P.follows .mixedOrders=true){p:Bool}{ops:Array Oper}{n id:Nat}{st:St}{K:Option SV->St->Option β}{b:β}(e:QR p X pt n ops (pj ops.toList []) st K=some b):
 ∃q st',K q st'=some b/\∀{B:Bs}{σ:Ren}{a:Act}{w:World},B.n=n->dA B σ st a w->∀Q,uC B q st' Q->(Code.region id ops true).wp P Q a w:=by
 cases p with
 |true=>obtain⟨hs,e⟩:=aX e;exact aax OK PT mx hs e
 |false=>obtain⟨hs,e⟩:=aX e;exact aay OK PT mx hs e
end
section
variable{β:Type}
inductive LK where
 |i|b|s|v|c|n
inductive bq where
 |i (x:Int)|b (x:Bool)|s (x:ByteArray)|v (x:Value)|c (x:List Value)|n (x:Nat)
def Fn:List LK->Type->Type
 |[],α=>α
 | .i::ks,α=>Int->Fn ks α
 | .b::ks,α=>Bool->Fn ks α
 | .s::ks,α=>ByteArray->Fn ks α
 | .v::ks,α=>Value->Fn ks α
 | .c::ks,α=>List Value->Fn ks α
 | .n::ks,α=>Nat->Fn ks α
def iz:(ks:List LK)->Fn ks (Option β)->List bq->Option β
 |[],f,[]=>f
 | .i::ks,f,.i x::ls=>iz ks (f x) ls
 | .b::ks,f,.b x::ls=>iz ks (f x) ls
 | .s::ks,f,.s x::ls=>iz ks (f x) ls
 | .v::ks,f,.v x::ls=>iz ks (f x) ls
 | .c::ks,f,.c x::ls=>iz ks (f x) ls
 | .n::ks,f,.n x::ls=>iz ks (f x) ls
 |_,_,_=>none
def lX:(ks:List LK)->(List bq->Option β)->Fn ks (Option β)
 |[],F=>F []
 | .i::ks,F=>λx=>lX ks λls=>F (.i x::ls)
 | .b::ks,F=>λx=>lX ks λls=>F (.b x::ls)
 | .s::ks,F=>λx=>lX ks λls=>F (.s x::ls)
 | .v::ks,F=>λx=>lX ks λls=>F (.v x::ls)
 | .c::ks,F=>λx=>lX ks λls=>F (.c x::ls)
 | .n::ks,F=>λx=>lX ks λls=>F (.n x::ls)
def iU:(ks:List LK)->Fn ks (Option β)
 |[]=>(none:Option β)
 | .i::ks=>λ_=>iU ks
 | .b::ks=>λ_=>iU ks
 | .s::ks=>λ_=>iU ks
 | .v::ks=>λ_=>iU ks
 | .c::ks=>λ_=>iU ks
 | .n::ks=>λ_=>iU ks
theorem np:∀(ks:List LK)(F:List bq->Option β)(ls:List bq)(b:β),iz ks (lX ks F) ls=some b->F ls=some b
 |[],F,[],b,e=>e
 |[],F,_::_,b,e=>by cases e
 | .i::ks,F,.i x::ls,b,e=>np ks (λls=>F (.i x::ls)) ls b e
 | .b::ks,F,.b x::ls,b,e=>np ks (λls=>F (.b x::ls)) ls b e
 | .s::ks,F,.s x::ls,b,e=>np ks (λls=>F (.s x::ls)) ls b e
 | .v::ks,F,.v x::ls,b,e=>np ks (λls=>F (.v x::ls)) ls b e
 | .c::ks,F,.c x::ls,b,e=>np ks (λls=>F (.c x::ls)) ls b e
 | .n::ks,F,.n x::ls,b,e=>np ks (λls=>F (.n x::ls)) ls b e
 |k::ks,F,[],b,e=>by cases k<;>cases e
 | .i::ks,F,.b _::_,b,e| .i::ks,F,.s _::_,b,e| .i::ks,F,.v _::_,b,e| .i::ks,F,.c _::_,b,e| .i::ks,F,.n _::_,b,e=>by cases e
 | .b::ks,F,.i _::_,b,e| .b::ks,F,.s _::_,b,e| .b::ks,F,.v _::_,b,e| .b::ks,F,.c _::_,b,e| .b::ks,F,.n _::_,b,e=>by cases e
 | .s::ks,F,.i _::_,b,e| .s::ks,F,.b _::_,b,e| .s::ks,F,.v _::_,b,e| .s::ks,F,.c _::_,b,e| .s::ks,F,.n _::_,b,e=>by cases e
 | .v::ks,F,.i _::_,b,e| .v::ks,F,.b _::_,b,e| .v::ks,F,.s _::_,b,e| .v::ks,F,.c _::_,b,e| .v::ks,F,.n _::_,b,e=>by cases e
 | .c::ks,F,.i _::_,b,e| .c::ks,F,.b _::_,b,e| .c::ks,F,.s _::_,b,e| .c::ks,F,.v _::_,b,e| .c::ks,F,.n _::_,b,e=>by cases e
 | .n::ks,F,.i _::_,b,e| .n::ks,F,.b _::_,b,e| .n::ks,F,.s _::_,b,e| .n::ks,F,.v _::_,b,e| .n::ks,F,.c _::_,b,e=>by cases e
theorem zH:∀(ks:List LK)(ls:List bq)(b:β),iz ks (iU ks) ls=some b->False
 |[],[],b,e=>by cases e
 |[],_::_,b,e=>by cases e
 |k::ks,[],b,e=>by cases k<;>cases e
 |k::ks,l::ls,b,e=>by cases k<;>cases l<;>first|exact zH ks ls b e|cases e
inductive VT where
 |i (k:IntKind)|b|s|v
 |agg (l:List VT)|aH (l:List VT)
 |fn (f:FuncId) (l:List VT)
 |lp (l:List VT)
 |pg
 |fF (t:TypeId) (x:VT)
 |em (b:Bool)
 |ptr (id off:Nat)|sl (id off:Nat)|Cw (id:Nat)|gr (id E:Nat)
 |we (id off n c:Nat)
 |nf
inductive OT where
 |cells (l:List VT) (t:TypeId)
 |arr (t:TypeId)
 |grow (E:Nat) (t:TypeId)
structure cJ where
 HZ:List (Nat×VT)
 qg:List (Nat×OT)
 sx:Nat
mutual
def VT.ks:VT->List LK
 | .i _=>[.i]
 | .b=>[.b]
 | .s=>[.s]
 | .v=>[.v]
 | .agg l=>VT.eZ l
 | .aH l=>VT.eZ l
 | .fn _ l=>VT.eZ l
 | .fF _ x=>VT.ks x
 | .em _=>[]
 | .lp l=>VT.eZ l
 | .pg=>[.c]
 | .ptr _ _=>[]
 | .sl _ _=>[.n,.n]
 | .Cw _=>[.n,.n,.n]
 | .gr _ _=>[]
 | .we _ _ _ _=>[]
 | .nf=>[]
def VT.eZ:List VT->List LK
 |[]=>[]
 |x::xs=>VT.ks x++VT.eZ xs
end
def OT.ks:OT->List LK
 | .cells l _=>VT.eZ l
 | .arr _=>[.c]
 | .grow _ _=>[.c]
def cJ.ks(t:cJ):List LK:=VT.eZ (t.HZ.map (·.2))++(t.qg.map λo=>o.2.ks).flatten
def qK:List VT->Bool
 |[]=>true
 | .i _::l=>qK l
 | .b::l=>qK l
 | .s::l=>qK l
 | .v::l=>qK l
 |_=>false
abbrev Mp:=List (Nat×Option Nat)
def ea(id:Nat):Mp->Option (Option Nat)
 |[]=>none
 |(j,x)::m=>cond (Nat.beq j id) (some x) (ea id m)
def taken(a:Nat):Mp->Bool
 |[]=>false
 |(_,some x)::m=>cond (Nat.beq x a) true (taken a m)
 |(_,none)::m=>taken a m
def sU(id:Nat)(x:Option Nat)(m:Mp)(K:Mp->Option β):Option β:=match ea id m with
 |some y=>match x,y with
  |some a,some a'=>cond (Nat.beq a a') (K m) none
  |none,none=>K m
  |_,_=>none
 |none=>match x with
  |some a=>cond (taken a m) none (K ((id,some a)::m))
  |none=>K ((id,none)::m)
mutual
def Ae:VT->SV->Mp->(List bq->Mp->Option β)->Option β
 | .i k,.i k' n,m,K=>cond (decide (k=k')) (K [.i n] m) none
 | .b,.b x,m,K=>K [.b x] m
 | .s,.s x,m,K=>K [.s x] m
 | .v,.v x,m,K=>K [.v x] m
 | .v,.nl,m,K=>K [.v (ae 0 [])] m
 | .v,.ni,m,K=>K [.v .nilIface] m
 | .agg ts,.agg l,m,K=>uW ts l m K
 | .aH ts,.aH l,m,K=>uW ts l m K
 | .fn f ts,.fn f' l,m,K=>cond (Nat.beq f f') (uW ts l m K) none
 | .fF t vt,.fF t' x,m,K=>cond (Nat.beq t t') (Ae vt x m K) none
 | .em true,.em true,m,K=>K [] m
 | .em false,.em false,m,K=>K [] m
 | .pg,.lp cs,m,K=>K [.c cs] m
 | .ptr id off,.ptr id' off',m,K=>cond (Nat.beq off off') (sU id (some id') m λm'=>K [] m') none
 | .sl id off,.sl id' off' n c,m,K=>cond (Nat.beq off off') (sU id (some id') m λm'=>K [.n n,.n c] m') none
 | .Cw id,.sl id' off n c,m,K=>sU id (some id') m λm'=>K [.n off,.n n,.n c] m'
 | .gr id E,.gr id' E',m,K=>cond (Nat.beq E E') (sU id (some id') m λm'=>K [] m') none
 | .gr id _,.nl,m,K=>sU id none m λm'=>K [] m'
 | .we id off n0 c0,.sl id' off' n c,m,K=>cond (Nat.beq off off'&&(Nat.beq n0 n&&Nat.beq c0 c)) (sU id (some id') m λm'=>K [] m') none
 | .nf,.v .nilFunc,m,K=>K [] m
 |_,_,_,_=>none
def uW:List VT->List SV->Mp->(List bq->Mp->Option β)->Option β
 |[],[],m,K=>K [] m
 |t::ts,x::xs,m,K=>Ae t x m λl1 m1=>uW ts xs m1 λl2 m2=>K (l1++l2) m2
 |_,_,_,_=>none
end
mutual
def tI:VT->List bq->Option (SV×List bq)
 | .i k,.i n::ls=>some (.i k n,ls)
 | .b,.b x::ls=>some (.b x,ls)
 | .s,.s x::ls=>some (.s x,ls)
 | .v,.v x::ls=>some (.v x,ls)
 | .agg ts,ls=>ob (rX ts ls) λr=>some (.agg r.1,r.2)
 | .aH ts,ls=>ob (rX ts ls) λr=>some (.aH r.1,r.2)
 | .fn f ts,ls=>ob (rX ts ls) λr=>some (.fn f r.1,r.2)
 | .fF t vt,ls=>ob (tI vt ls) λr=>some (.fF t r.1,r.2)
 | .em b,ls=>some (.em b,ls)
 | .pg,.c cs::ls=>some (.lp cs,ls)
 | .ptr id off,ls=>some (.ptr id off,ls)
 | .sl id off,.n n::.n c::ls=>some (.sl id off n c,ls)
 | .Cw id,.n off::.n n::.n c::ls=>some (.sl id off n c,ls)
 | .gr id E,ls=>some (.gr id E,ls)
 | .we id off n c,ls=>some (.sl id off n c,ls)
 | .nf,ls=>some (.v .nilFunc,ls)
 |_,_=>none
def rX:List VT->List bq->Option (List SV×List bq)
 |[],ls=>some ([],ls)
 |t::ts,ls=>ob (tI t ls) λr=>ob (rX ts r.2) λq=>some (r.1 ::q.1,q.2)
end
def JR:List (Nat×VT)->Tr SV->Mp->(List bq->Mp->Option β)->Option β
 |[],_,m,K=>K [] m
 |(t,vt)::r,tm,m,K=>ob (tm.get t) λsv=>Ae vt sv m λl1 m1=>JR r tm m1 λl2 m2=>K (l1++l2) m2
def JP:Nat->OT->Tr SO->Mp->(List bq->Mp->Option β)->Option β
 |id,.cells ts t,h,m,K=>ob (ea id m) λx=>ob x λa=>ob (h.get a) λso=>match so with
  | .cells l t'=>cond (Nat.beq t t') (uW ts l m K) none
  |_=>none
 |id,.arr t,h,m,K=>ob (ea id m) λx=>ob x λa=>ob (h.get a) λso=>match so with
  | .arr c t'=>cond (Nat.beq t t') (K [.c c] m) none
  |_=>none
 |id,.grow E t,h,m,K=>ob (ea id m) λx=>match x with
  |none=>cond (Nat.blt 0 E) (K [.c []] m) none
  |some a=>ob (h.get a) λso=>match so with
   | .grow E' c t'=>cond (Nat.beq E E'&&Nat.beq t t') (K [.c c] m) none
   |_=>none
def JQ:List (Nat×OT)->Tr SO->Mp->(List bq->Mp->Option β)->Option β
 |[],_,m,K=>K [] m
 |(id,ot)::r,h,m,K=>JP id ot h m λl1 m1=>JQ r h m1 λl2 m2=>K (l1++l2) m2
def AH:List (Nat×VT)->List bq->Option (Tr SV×List bq)
 |[],ls=>some (.nil,ls)
 |(t,vt)::r,ls=>ob (tI vt ls) λq=>ob (AH r q.2) λp=>some (p.1.set t q.1,p.2)
def Tv:OT->List bq->Option (SO×List bq)
 | .cells ts t,ls=>ob (rX ts ls) λq=>some (.cells q.1 t,q.2)
 | .arr t,.c c::ls=>some (.arr c t,ls)
 | .grow E t,.c c::ls=>some (.grow E c t,ls)
 |_,_=>none
def xA:List (Nat×OT)->List bq->Option (Tr SO×List bq)
 |[],ls=>some (.nil,ls)
 |(id,ot)::r,ls=>ob (Tv ot ls) λq=>ob (xA r q.2) λp=>some (p.1.set id q.1,p.2)
def ko:Nat->Mp
 |0=>[]
 |n+1=>(n,some n)::ko n
def uU(m0:Mp)(t:cJ)(st:St)(K:List bq->Mp->Option β):Option β:=
 JR t.HZ st.tm m0 λl1 m1=>JQ t.qg st.h m1 λl2 m2=>cond (m2.all λp=>Nat.blt p.1 t.sx) (K (l1++l2) m2) none
def kV(an:Nat)(t:cJ)(st:St)(K:List bq->Option β):Option β:=uU (ko an) t st λls _=>K ls
def il(t:cJ)(ls:List bq):Option St:=
 ob (AH t.HZ ls) λp=>ob (xA t.qg p.2) λq=>some ⟨p.1,q.1,t.sx⟩
def eY(m m':Mp):Prop:=∀id x,ea id m=some x->ea id m'=some x
def lD(m:Mp):Prop:=∀id id' a,ea id m=some (some a)->ea id' m=some (some a)->id=id'
theorem eY.refl(m:Mp):eY m m:=λ_ _ h=>h
theorem eY.trans{a b c:Mp}(h:eY a b)(k:eY b c):eY a c:=λi x e=>k i x (h i x e)
theorem YU{a:Nat}:∀{m:Mp}{id:Nat},ea id m=some (some a)->taken a m=true
 |[],id,h=>by cases h
 |(j,x)::m,id,h=>by
  unfold ea at h;cases hb:Nat.beq j id with
  |true=>rw[hb] at h;cases h;unfold taken;simp
  |false=>
   rw[hb] at h;have:=YU h;cases x with
   |none=>exact this
   |some y=>
    unfold taken;cases hy:Nat.beq y a with
    |true=>rfl
    |false=>grind
theorem qQ{id j:Nat}{x:Option Nat}{m:Mp}:ea id ((j,x)::m)=if j=id then some x else ea id m:=by show cond (Nat.beq j id) (some x) (ea id m)=_;simp
theorem wR{id:Nat}{x:Option Nat}{m:Mp}{K:Mp->Option β}{b:β}(e:sU id x m K=some b):
 ∃m',K m'=some b/\eY m m'/\ea id m'=some x/\(lD m->lD m'):=by
 unfold sU at e;split at e
 ·rename_i y hy;split at e
  ·rename_i a a';obtain⟨e1,f⟩:=aX e;have:=bV e1;subst this;exact⟨m,f,eY.refl m,hy,λI=>I⟩
  ·exact⟨m,e,eY.refl m,hy,λI=>I⟩
  grind
 ·rename_i hn;have sub:∀x,eY m ((id,x)::m):=λx j y h=>by
   rw[qQ]
   grind
  split at e
  ·rename_i a;cases ht:taken a m with
   |true=>grind
   |false=>
    rw[ht] at e;refine⟨_,e,sub _,by rw[qQ,ay rfl],λI i j c h1 h2=>?_⟩;rw[qQ] at h1 h2;have no:∀k,ea k m=some (some a)->False:=λk hk=>by rw[YU hk] at ht;cases ht
    by_cases q:id=i
    ·grind
    ·rw[aq q] at h1;by_cases q2:id=j
     ·grind
     ·rw[aq q2] at h2;exact I i j c h1 h2
  ·refine⟨_,e,sub _,by rw[qQ,ay rfl],λI i j c h1 h2=>?_⟩;rw[qQ] at h1 h2;by_cases q:id=i
   ·grind
   ·rw[aq q] at h1;by_cases q2:id=j
    ·grind
    ·rw[aq q2] at h2;exact I i j c h1 h2
def σm(σ:Ren)(M:Mp):Ren:=⟨λid=>match ea id M with
 |some (some a)=>σ.nm a
 |some none=>some (none,0)
 |none=>none,σ.lit⟩
theorem σm_some{σ:Ren}{M:Mp}{id a:Nat}(h:ea id M=some (some a)):(σm σ M).nm id=σ.nm a:=by simp only[σm,h]
theorem σm_none{σ:Ren}{M:Mp}{id:Nat}(h:ea id M=some none):(σm σ M).nm id=some (none,0):=by simp only[σm,h]
mutual
theorem JS:∀(vt:VT)(sv:SV)(m:Mp)(K:List bq->Mp->Option β)(b:β),Ae vt sv m K=some b->
 ∃ls m',K ls m'=some b/\eY m m'/\(lD m->lD m')/\∀rest,∃sv',tI vt (ls++rest)=some (sv',rest)/\∀(σ:Ren)(M:Mp)(v:Value),eY m' M->DV σ sv v->DV (σm σ M) sv' v:=by
 intro vt sv m K b e;unfold Ae at e;split at e
 ·obtain⟨e1,f⟩:=aX e;have:=nY e1;subst this;exact⟨_,_,f,eY.refl _,id,λrest=>⟨_,rfl,λσ M v _ d=>by cases d;exact .i _ _⟩⟩
 ·exact⟨_,_,e,eY.refl _,id,λrest=>⟨_,rfl,λσ M v _ d=>by cases d;exact .b _⟩⟩
 ·exact⟨_,_,e,eY.refl _,id,λrest=>⟨_,rfl,λσ M v _ d=>by cases d;exact .s _⟩⟩
 ·refine⟨_,_,e,eY.refl _,id,λrest=>⟨_,rfl,λσ M v _ d=>?_⟩⟩;cases d with
  |v h h1=>exact .v h h1
 ·exact⟨_,_,e,eY.refl _,id,λrest=>⟨_,rfl,λσ M v _ d=>by cases d;exact .v .fV rfl⟩⟩
 ·exact⟨_,_,e,eY.refl _,id,λrest=>⟨_,rfl,λσ M v _ d=>by cases d;exact .v .nilIface rfl⟩⟩
 ·rename_i ts l;obtain⟨ls,m',h1,h2,h3,h4⟩:=Af ts l m K b e;refine⟨ls,m',h1,h2,h3,λrest=>?_⟩;obtain⟨svs,g1,g2⟩:=h4 rest;refine⟨.agg svs,by unfold tI;rw[g1];rfl,λσ M v s d=>?_⟩;cases d with
  |agg hl g=>exact .agg (g2 σ M _ s ⟨hl,g⟩).1 (g2 σ M _ s ⟨hl,g⟩).2
 ·rename_i ts l;obtain⟨ls,m',h1,h2,h3,h4⟩:=Af ts l m K b e;refine⟨ls,m',h1,h2,h3,λrest=>?_⟩;obtain⟨svs,g1,g2⟩:=h4 rest;refine⟨.aH svs,by unfold tI;rw[g1];rfl,λσ M v s d=>?_⟩;cases d with
  |aH hl g=>exact .aH (g2 σ M _ s ⟨hl,g⟩).1 (g2 σ M _ s ⟨hl,g⟩).2
 ·rename_i g0 ts g0' l;obtain⟨e1,f⟩:=aX e;have:=bV e1;subst this;obtain⟨ls,m',h1,h2,h3,h4⟩:=Af ts l m K b f;refine⟨ls,m',h1,h2,h3,λrest=>?_⟩;obtain⟨svs,g1,g2⟩:=h4 rest;refine⟨.fn g0 svs,by unfold tI;rw[g1];rfl,λσ M v s d=>?_⟩;cases d with
  |fn hl g=>exact .fn (g2 σ M _ s ⟨hl,g⟩).1 (g2 σ M _ s ⟨hl,g⟩).2
 ·rename_i t0 vt0 t0' x0;obtain⟨e1,f⟩:=aX e;have:=bV e1;subst this;obtain⟨ls,m',h1,h2,h3,h4⟩:=JS vt0 x0 m K b f;refine⟨ls,m',h1,h2,h3,λrest=>?_⟩;obtain⟨sv,g1,g2⟩:=h4 rest;refine⟨.fF t0 sv,by unfold tI;rw[g1];rfl,λσ M v s d=>?_⟩;cases d with
  |fF g=>exact .fF (g2 σ M _ s g)
 ·exact⟨_,_,e,eY.refl _,λI=>I,λrest=>⟨_,rfl,λσ M v _ d=>by cases d;exact .em (by assumption)⟩⟩
 ·exact⟨_,_,e,eY.refl _,λI=>I,λrest=>⟨_,rfl,λσ M v _ d=>by cases d;exact .em (by assumption)⟩⟩
 ·exact⟨_,_,e,eY.refl _,λI=>I,λrest=>⟨_,rfl,λσ M v _ d=>by cases d;exact .lp (by assumption)⟩⟩
 ·rename_i id0 off id' off';obtain⟨e1,f⟩:=aX e;have:=bV e1;subst this;obtain⟨m',h1,h2,h3,h4⟩:=wR f;refine⟨_,m',h1,h2,h4,λrest=>⟨_,rfl,λσ M v s d=>?_⟩⟩;cases d with
  |ptr g=>exact .ptr (by rw[σm_some (s _ _ h3)];exact g)
 ·rename_i id0 off id' off' n c;obtain⟨e1,f⟩:=aX e;have:=bV e1;subst this;obtain⟨m',h1,h2,h3,h4⟩:=wR f;refine⟨_,m',h1,h2,h4,λrest=>⟨_,rfl,λσ M v s d=>?_⟩⟩;cases d with
  |sl g hn=>exact .sl (by rw[σm_some (s _ _ h3)];exact g) hn
 ·rename_i id0 id' off n c;obtain⟨m',h1,h2,h3,h4⟩:=wR e;refine⟨_,m',h1,h2,h4,λrest=>⟨_,rfl,λσ M v s d=>?_⟩⟩;cases d with
  |sl g hn=>exact .sl (by rw[σm_some (s _ _ h3)];exact g) hn
 ·rename_i id0 E id' E';obtain⟨e1,f⟩:=aX e;have:=bV e1;subst this;obtain⟨m',h1,h2,h3,h4⟩:=wR f;refine⟨_,m',h1,h2,h4,λrest=>⟨_,rfl,λσ M v s d=>?_⟩⟩;cases d with
  |jI g=>exact .jI (by rw[σm_some (s _ _ h3)];exact g)
  |gr g hc hn=>exact .gr (by rw[σm_some (s _ _ h3)];exact g) hc hn
 ·obtain⟨m',h1,h2,h3,h4⟩:=wR e;refine⟨_,m',h1,h2,h4,λrest=>⟨_,rfl,λσ M v s d=>?_⟩⟩;cases d;exact .jI (σm_none (s _ _ h3))
 ·rename_i id0 off n0 c0 id' off' n c;obtain⟨e1,f⟩:=aX e;simp only[bu] at e1;have g1:=bV e1.1;have g2:=bV e1.2.1;have g3:=bV e1.2.2;subst g1 g2 g3;obtain⟨m',h1,h2,h3,h4⟩:=wR f;refine⟨_,m',h1,h2,h4,λrest=>⟨_,rfl,λσ M v s d=>?_⟩⟩;cases d with
  |sl g hn=>exact .sl (by rw[σm_some (s _ _ h3)];exact g) hn
 ·refine⟨_,_,e,eY.refl _,λI=>I,λrest=>⟨_,rfl,λσ M v _ d=>?_⟩⟩;cases d with
  |v h h1=>exact .v h h1
 ·cases e
theorem Af:∀(vts:List VT)(svs:List SV)(m:Mp)(K:List bq->Mp->Option β)(b:β),uW vts svs m K=some b->
 ∃ls m',K ls m'=some b/\eY m m'/\(lD m->lD m')/\∀rest,∃svs',rX vts (ls++rest)=some (svs',rest)/\∀(σ:Ren)(M:Mp)(vs:List Value),eY m' M->eV σ svs vs->eV (σm σ M) svs' vs:=by
 intro vts svs m K b e;unfold uW at e;split at e
 ·exact⟨_,_,e,eY.refl _,id,λrest=>⟨_,rfl,λσ M v _ d=>by rw[d.dO];exact .nil⟩⟩
 ·rename_i t ts x xs;obtain⟨l1,m1,h1,h2,h3,h4⟩:=JS t x m _ b e;obtain⟨l2,m2,g1,g2,g3,g4⟩:=Af ts xs m1 _ b h1;refine⟨l1++l2,m2,g1,h2.trans g2,λI=>g3 (h3 I),λrest=>?_⟩;obtain⟨s1,p1,p2⟩:=h4 (l2++rest);obtain⟨s2,q1,q2⟩:=g4 rest;refine⟨s1::s2,?_,λσ M vs s d=>?_⟩
  ·rw[dV];unfold rX;rw[p1];show ob (rX ts (l2++rest)) _=_;rw[q1];rfl
  ·obtain⟨_,_,rfl,a,t⟩:=d.inv;exact .cons (p2 σ M _ (g2.trans s) a) (q2 σ M _ s t)
 ·cases e
end
theorem Rn:∀(sl:List (Nat×VT))(T0:Tr SV)(m:Mp)(K:List bq->Mp->Option β)(b:β),JR sl T0 m K=some b->
 ∃ls m',K ls m'=some b/\eY m m'/\(lD m->lD m')/\∀rest,∃T,AH sl (ls++rest)=some (T,rest)/\∀(σ:Ren)(M:Mp)(a:Act),eY m' M->Ev σ T0 a->Ev (σm σ M) T a
 |[],T0,m,K,b,e=>⟨_,_,e,eY.refl _,id,λrest=>⟨_,rfl,λσ M tm _ _ t sv h=>by rw[Tr.get_nil] at h;cases h⟩⟩
 |(t,vt)::r,T0,m,K,b,e=>by
  obtain⟨sv,hsv,e⟩:=ax e;obtain⟨l1,m1,h1,h2,h3,h4⟩:=JS vt sv m _ b e;obtain⟨l2,m2,g1,g2,g3,g4⟩:=Rn r T0 m1 _ b h1;refine⟨l1++l2,m2,g1,h2.trans g2,λI=>g3 (h3 I),λrest=>?_⟩;obtain⟨s1,p1,p2⟩:=h4 (l2++rest);obtain⟨T,q1,q2⟩:=g4 rest;refine⟨T.set t s1,?_,λσ M tm s H t' sv' h=>?_⟩
  ·rw[dV];unfold AH;rw[p1];show ob (AH r (l2++rest)) _=_;rw[q1];rfl
  ·rw[Tr.fE] at h;by_cases e:t'=t
   ·rw[ay e] at h;cases h;rw[e];exact p2 σ M _ (g2.trans s) (H t sv hsv)
   ·rw[aq e] at h;exact q2 σ M tm s H t' sv' h
theorem aaS{id:Nat}{ot:OT}{h0:Tr SO}{m:Mp}{K:List bq->Mp->Option β}{b:β}(e:JP id ot h0 m K=some b):
 ∃ls m',K ls m'=some b/\eY m m'/\(lD m->lD m')/\(ea id m=some none\/∃a so,ea id m=some (some a)/\h0.get a=some so)/\∀rest,∃so',Tv ot (ls++rest)=some (so',rest)/\
  ∀(σ:Ren)(M:Mp)(h:World),eY m' M->(∀id so,h0.get id=some so->DO σ h id so)->DO (σm σ M) h id so':=by
 unfold JP at e;split at e
 ·obtain⟨x,hx,f⟩:=ax e;obtain⟨a,ha,g⟩:=ax f;subst ha;obtain⟨so,hso,k⟩:=ax g;split at k
  ·rename_i ts t _ l t';obtain⟨e1,q⟩:=aX k;have:=bV e1;subst this;obtain⟨ls,m',h1,h2,h3,h4⟩:=Af ts l m K b q;refine⟨ls,m',h1,h2,h3,.inr ⟨a,_,hx,hso⟩,λrest=>?_⟩;obtain⟨s,p1,p2⟩:=h4 rest;refine⟨.cells s t,by show ob (rX ts (ls++rest)) _=_;rw[p1];rfl,λσ M h sm H=>?_⟩;obtain⟨o,n,vs,q1,q2,q3⟩:=H a _ hso;exact⟨o,n,vs,by rw[σm_some (sm _ _ (h2 _ _ hx))];exact q1,q2,p2 σ M _ sm q3⟩
  ·cases k
 ·obtain⟨x,hx,f⟩:=ax e;obtain⟨a,ha,g⟩:=ax f;subst ha;obtain⟨so,hso,k⟩:=ax g;split at k
  ·obtain⟨e1,q⟩:=aX k;have:=bV e1;subst this;refine⟨_,m,q,eY.refl _,λI=>I,.inr ⟨a,_,hx,hso⟩,λrest=>⟨_,rfl,λσ M h sm H=>?_⟩⟩;obtain⟨o,n,vs,q1,q2,q3⟩:=H a _ hso;exact⟨o,n,vs,by rw[σm_some (sm _ _ hx)];exact q1,q2,q3⟩
  ·cases k
 ·obtain⟨x,hx,e⟩:=ax e;split at e
  ·obtain⟨e1,e⟩:=aX e;exact⟨_,m,e,eY.refl _,λI=>I,.inl hx,λrest=>⟨_,rfl,λσ M h sm H=>(⟨eQ e1,rfl,.inl ⟨σm_none (sm _ _ hx),rfl⟩⟩)⟩⟩
  ·rename_i a;obtain⟨so,hso,e⟩:=ax e;split at e
   ·obtain⟨e1,f⟩:=aX e;rw[bu] at e1;have e2:=bV e1.1;have e3:=bV e1.2;subst e2 e3;refine⟨_,m,f,eY.refl _,λI=>I,.inr ⟨a,_,hx,hso⟩,λrest=>⟨_,rfl,λσ M h sm H=>?_⟩⟩;obtain⟨q1,q2,q3⟩:=H a _ hso;have hs:=σm_some (σ:=σ) (sm _ _ hx);refine⟨q1,q2,?_⟩;rw[<-hs] at q3;exact q3
   ·cases e
theorem Rm:∀(ol:List (Nat×OT))(h0:Tr SO)(m:Mp)(K:List bq->Mp->Option β)(b:β),JQ ol h0 m K=some b->
 ∃ls m',K ls m'=some b/\eY m m'/\(lD m->lD m')/\∀rest,∃T,xA ol (ls++rest)=some (T,rest)/\∀(σ:Ren)(M:Mp)(h:World),eY m' M->(∀id so,h0.get id=some so->DO σ h id so)->
  ∀id so,T.get id=some so->DO (σm σ M) h id so/\(ea id M=some none\/∃a so,ea id M=some (some a)/\h0.get a=some so)
 |[],h0,m,K,b,e=>⟨_,_,e,eY.refl _,id,λrest=>⟨_,rfl,λσ M h _ _ t sv h=>by rw[Tr.get_nil] at h;cases h⟩⟩
 |(id0,ot)::r,h0,m,K,b,e=>by
  obtain⟨l1,m1,h1,h2,h3,hl,h4⟩:=aaS e;obtain⟨l2,m2,g1,g2,g3,g4⟩:=Rm r h0 m1 _ b h1;refine⟨l1++l2,m2,g1,h2.trans g2,λI=>g3 (h3 I),λrest=>?_⟩;obtain⟨s1,p1,p2⟩:=h4 (l2++rest);obtain⟨T,q1,q2⟩:=g4 rest;refine⟨T.set id0 s1,?_,λσ M h s H id so hg=>?_⟩
  ·rw[dV];unfold xA;rw[p1];show ob (xA r (l2++rest)) _=_;rw[q1];rfl
  ·rw[Tr.fE] at hg;by_cases e:id=id0
   ·rw[ay e] at hg;cases hg;rw[e];refine⟨p2 σ M h (g2.trans s) H,?_⟩;rcases hl with hl|⟨a,so,k1,k2⟩
    ·exact .inl (s _ _ (g2 _ _ (h2 _ _ hl)))
    ·exact .inr ⟨a,so,s _ _ (g2 _ _ (h2 _ _ k1)),k2⟩
   ·rw[aq e] at hg;exact q2 σ M h s H id so hg
theorem S8{n:Nat}:∀{m:Mp},(m.all λp=>Nat.blt p.1 n)=true->∀id x,ea id m=some x->id<n
 |[],_,id,x,h=>by cases h
 |(j,y)::m,e,id,x,h=>by
  rw[List.all_cons,bu] at e;rw[qQ] at h;by_cases q:j=id
  ·simp_all
  ·rw[aq q] at h;exact S8 e.2 id x h
theorem S9:∀{an k:Nat},k<an->ea k (ko an)=some (some k)
 |0,k,h=>by omega
 |n+1,k,h=>by
  show ea k ((n,some n)::ko n)=_;rw[qQ];by_cases e:n=k
  ·grind
  ·rw[aq e];exact S9 (by omega)
theorem KK:∀{an k:Nat}{x:Option Nat},ea k (ko an)=some x->x=some k
 |0,k,x,h=>by cases h
 |n+1,k,x,h=>by
  have h:ea k ((n,some n)::ko n)=some x:=h;rw[qQ] at h;by_cases e:n=k
  ·grind
  ·rw[aq e] at h;exact KK h
theorem Zv(an:Nat):lD (ko an):=λi j a h1 h2=>by
 have:=KK h1;have:=KK h2
 grind
theorem DM{m0:Mp}(I0:lD m0){t:cJ}{st:St}{K:List bq->Mp->Option β}{b:β}(e:uU m0 t st K=some b):
 ∃ls m,K ls m=some b/\eY m0 m/\lD m/\(∀id x,ea id m=some x->id<t.sx)/\∃st',il t ls=some st'/\st'.sx=t.sx/\∀{σ:Ren}{a:Act}{w:World},Ev σ st.tm a->(∀id so,st.h.get id=some so->DO σ w id so)->Ev (σm σ m) st'.tm a/\
  ∀id so,st'.h.get id=some so->DO (σm σ m) w id so/\(ea id m=some none\/∃a so',ea id m=some (some a)/\st.h.get a=some so'):=by
 obtain⟨l1,m1,h1,h2,h3,h4⟩:=Rn _ _ _ _ _ e;obtain⟨l2,m2,g1,g2,g3,g4⟩:=Rm _ _ _ _ _ h1;obtain⟨e1,e2⟩:=aX g1;refine⟨_,_,e2,h2.trans g2,g3 (h3 I0),S8 e1,?_⟩;obtain⟨T,p1,p2⟩:=h4 l2;obtain⟨H,q1,q2⟩:=g4 [];rw[dW] at q1;refine⟨⟨T,H,t.sx⟩,?_,rfl,λR O=>⟨p2 _ m2 _ g2 R,q2 _ m2 _ (eY.refl _) O⟩⟩;unfold il;rw[p1];show ob (xA t.qg l2) _=_;rw[q1];rfl
theorem Mem.map{B B':Bs}{σ:Ren}{G:Nat->SO->Prop}{h':Tr SO}{F:Nat->Prop}{sx:Nat}{w:World}{m:Mp}(M:Mem B σ G F w)(I:lD m)(lt:∀id x,ea id m=some x->id<sx)
 (O:∀id so,h'.get id=some so->DO (σm σ m) w id so/\(ea id m=some none\/∃a so',ea id m=some (some a)/\G a so')) (base:eM B'.own B'.w w) (ow:∀b,Own σ G b->B'.own b\/B'.w.heap.size<=b)
 (ln:∀b i v,σ.lit b i=some v->B'.lit b i=some v\/B'.own b\/B'.w.heap.size<=b) (an:∀k,k<B'.an->∀x,B'.nm k=some x->(σm σ m).nm k=some x) (lm:∀b i v,B'.lit b i=some v->σ.lit b i=some v):iY B' (σm σ m) h' sx w:=by
 have nm:∀{id so o n},h'.get id=some so->(σm σ m).nm id=some (some o,n)->∃a so',ea id m=some (some a)/\G a so'/\σ.nm a=some (some o,n):=by
  intro id so o n h1 h2;rcases(O id so h1).2 with k|⟨a,so',k1,k2⟩
  ·rw[σm_none k] at h2;cases h2
  ·rw[σm_some k1] at h2;exact⟨a,so',k1,k2,h2⟩
 have own:∀b,Own (σm σ m) (hG h') b->Own σ G b:=λb ⟨id,so,o,n,a1,a2,a3⟩=>(have⟨a,so',_,k2,k3⟩:=nm a1 a2;⟨a,so',o,n,k2,k3,a3⟩);refine⟨λid so k=>(O id so k).1,λi j so so' o o' n n' a1 a2 b1 b2 e=>?_,λid hid=>?_,M.lit,λb i v k q=>M.free b i v k (own b q),base,λb q=>ow b (own b q),ln,an,lm⟩
 ·obtain⟨x,s1,k1,k2,k3⟩:=nm a1 b1;obtain⟨y,s2,k4,k5,k6⟩:=nm a2 b2;have:=M.inj _ _ _ _ _ _ _ _ k2 k5 k3 k6 e;subst this;exact I _ _ _ k1 k4
 ·cases q:ea id m with
  |none=>simp only[σm,q]
  |some x=>exact absurd (lt id x q) (Nat.not_lt.2 hid)
theorem uV{B:Bs}{t:cJ}{st:St}{K:List bq->Option β}{b:β}(e:kV B.an t st K=some b):
 ∃ls,K ls=some b/\∃st',il t ls=some st'/\st'.sx=t.sx/\∀{σ:Ren}{a:Act}{w:World},Ev σ st.tm a->iY B σ st.h st.sx w->∃σ',Ev σ' st'.tm a/\iY B σ' st'.h st'.sx w:=by
 obtain⟨ls,m,h1,h2,I,lt,st',h4,h5,h6⟩:=DM (Zv B.an) e;refine⟨ls,h1,st',h4,h5,λ{σ a w} R M=>⟨σm σ m,?_⟩⟩;obtain⟨h7,h8⟩:=h6 R M.obj;exact⟨h7,by rw[h5];exact M.map I lt h8 M.base M.owned M.mf (λk hk x hx=>by rw[σm_some (h2 _ _ (S9 hk))];exact M.ko k hk x hx) M.nF⟩
end
section
variable{β:Type}
def oB(cs:List Value)(r:Option β):Option β:=match cs with
 |[]=>r
 |_=>none
def xz:List VT->List Value->(List bq->Option β)->Option β
 |[],cs,K=>oB cs (K [])
 | .i k::ts,cs,K=>af cs λx r=>ar k x λn=>xz ts r λl=>K (.i n::l)
 | .b::ts,cs,K=>af cs λx r=>zI x λn=>xz ts r λl=>K (.b n::l)
 | .s::ts,cs,K=>af cs λx r=>zJ x λn=>xz ts r λl=>K (.s n::l)
 | .v::ts,cs,K=>af cs λx r=>xz ts r λl=>K (.v x::l)
 |_,_,_=>none
def tw{γ:Type}(g:SV->Option γ):List SV->Option (List γ)
 |[]=>some []
 |x::xs=>ob (g x) λu=>ob (tw g xs) λus=>some (u::us)
def RL(g:SV->Option Value):SV->Option Value
 | .agg l=>ob (tw g l) λus=>some (.agg ⟨us⟩)
 |x=>g x
def KD:Value->Bool
 | .agg xs=>xs.toList.all λx=>match x with| .int _ _=>true|_=>false
 |_=>false
def Kk(g:SV->Option Value):List (Value×SV)->Option (List Value)
 |[]=>some []
 |e::es=>cond (KD e.1) (ob (RL g e.2) λu=>ob (Kk g es) λus=>some (.func (.func 0) #[e.1] #[u]::us)) none
def gv(h:Tr SO):Nat->SV->Option Value
 |0,_=>none
 |f+1,x=>match x with
  | .i k n=>some (.int k n)
  | .b q=>some (.bool q)
  | .s q=>some (.string q)
  | .v q=>some q
  | .nl=>some (ae 0 [])
  | .ni=>some .nilIface
  | .gr id E=>ob (h.get id) λso=>match so with
   | .grow E' c _=>cond (Nat.beq E E') (some (ae (c.length/E) c)) none
   |_=>bI 39
  | .sl id off n _=>ob (h.get id) λso=>match so with
   | .arr c _=>cond (Nat.ble off c.length) (some (ae n (c.drop off))) none
   | .cells cs _=>cond (Nat.ble off cs.length) (ob (tw (gv h f) (cs.drop off)) λus=>some (ae n us)) none
   |_=>bI 40
  | .mp id=>ob (h.get id) λso=>match so with
   | .mp es=>ob (Kk (gv h f) es) λus=>some (.func (.method "") ⟨us⟩ #[])
   |_=>bI 44
  |_=>bI 41
mutual
def Ak(st:St):VT->SV->(List bq->Option β)->Option β
 | .i k,.i k' n,K=>cond (decide (k=k')) (K [.i n]) none
 | .b,.b x,K=>K [.b x]
 | .s,.s x,K=>K [.s x]
 | .v,.v x,K=>K [.v x]
 | .v,.nl,K=>K [.v (ae 0 [])]
 | .v,.ni,K=>K [.v .nilIface]
 | .v,.gr id E,K=>ob (gv st.h 20 (.gr id E)) λu=>K [.v u]
 | .v,.sl id off n c,K=>ob (gv st.h 20 (.sl id off n c)) λu=>K [.v u]
 | .v,.mp id,K=>ob (gv st.h 20 (.mp id)) λu=>K [.v u]
 | .em true,.em true,K=>K []
 | .em false,.em false,K=>K []
 | .nf,.v .nilFunc,K=>K []
 | .agg ts,.agg l,K=>rO st ts l K
 | .aH ts,.aH l,K=>rO st ts l K
 | .fn f ts,.fn f' l,K=>cond (Nat.beq f f') (cond (Nat.blt f 65536) (rO st ts l K) none) none
 | .lp ts,.lp cs,K=>cond (qK ts) (xz ts cs K) none
 | .lp ts,.ptr id off,K=>ob (st.h.get id) λso=>match so with
  | .cells c _=>cond (Nat.ble off c.length&&qK ts) (rO st ts (c.drop off) K) none
  |_=>bI 42
 |_,_,_=>bI 43
def rO(st:St):List VT->List SV->(List bq->Option β)->Option β
 |[],[],K=>K []
 |t::ts,x::xs,K=>Ak st t x λl1=>rO st ts xs λl2=>K (l1++l2)
 |_,_,_=>none
end
mutual
def jV:VT->List bq->Option (Value×List bq)
 | .i k,.i n::ls=>some (.int k n,ls)
 | .b,.b x::ls=>some (.bool x,ls)
 | .s,.s x::ls=>some (.string x,ls)
 | .v,.v x::ls=>some (x,ls)
 | .agg ts,ls=>ob (fJ ts ls) λr=>some (.agg ⟨r.1⟩,r.2)
 | .aH ts,ls=>ob (fJ ts ls) λr=>some (.tuple ⟨r.1⟩,r.2)
 | .fn f ts,ls=>cond (Nat.blt f 65536) (ob (fJ ts ls) λr=>some (.func (.func f) #[] ⟨r.1⟩,r.2)) none
 | .lp ts,ls=>cond (qK ts) (ob (fJ ts ls) λr=>some (Eg r.1,r.2)) none
 | .em b,ls=>some (DG b,ls)
 | .nf,ls=>some (.nilFunc,ls)
 |_,_=>none
def fJ:List VT->List bq->Option (List Value×List bq)
 |[],ls=>some ([],ls)
 |t::ts,ls=>ob (jV t ls) λr=>ob (fJ ts r.2) λq=>some (r.1 ::q.1,q.2)
end
mutual
def Ig:VT->List bq->Option (SV×List bq)
 | .i k,.i n::ls=>some (.i k n,ls)
 | .b,.b x::ls=>some (.b x,ls)
 | .s,.s x::ls=>some (.s x,ls)
 | .v,.v x::ls=>some (.v x,ls)
 | .agg ts,ls=>ob (wh ts ls) λr=>some (.agg r.1,r.2)
 | .aH ts,ls=>ob (wh ts ls) λr=>some (.aH r.1,r.2)
 | .fn f ts,ls=>cond (Nat.blt f 65536) (ob (wh ts ls) λr=>some (.fn f r.1,r.2)) none
 | .lp ts,ls=>cond (qK ts) (ob (fJ ts ls) λr=>some (.lp r.1,r.2)) none
 | .em b,ls=>some (.em b,ls)
 | .nf,ls=>some (.v .nilFunc,ls)
 |_,_=>none
def wh:List VT->List bq->Option (List SV×List bq)
 |[],ls=>some ([],ls)
 |t::ts,ls=>ob (Ig t ls) λr=>ob (wh ts r.2) λq=>some (r.1 ::q.1,q.2)
end
mutual
def SV.ids:SV->List Nat
 | .ptr id _=>[id]
 | .sl id _ _ _=>[id]
 | .gr id _=>[id]
 | .mp id=>[id]
 | .agg l=>SV.jY l
 | .aH l=>SV.jY l
 | .fn _ l=>SV.jY l
 | .fF _ x=>SV.ids x
 |_=>[]
def SV.jY:List SV->List Nat
 |[]=>[]
 |x::xs=>SV.ids x++SV.jY xs
end
def SO.ids:SO->List Nat
 | .cells c _=>SV.jY c
 |_=>[]
def jg:Nat->List Nat->Tr SO->Tr SO->Tr SO×Tr SO
 |0,_,a,r=>(a,r)
 |_+1,[],a,r=>(a,r)
 |n+1,id::ids,a,r=>match r.get id with
  |none=>jg n ids a r
  |some so=>jg n (so.ids++ids) (a.set id so) (r.del id)
theorem xB{h:Tr SO}:∀(n:Nat)(ids:List Nat)(a r:Tr SO),(∀id so,a.get id=some so->h.get id=some so/\r.get id=none)->(∀id so,r.get id=some so->h.get id=some so/\a.get id=none)->
 (∀id so,(jg n ids a r).1.get id=some so->h.get id=some so/\(jg n ids a r).2.get id=none)/\(∀id so,(jg n ids a r).2.get id=some so->h.get id=some so/\(jg n ids a r).1.get id=none)
 |0,_,a,r,h1,h2=>⟨h1,h2⟩
 |_+1,[],a,r,h1,h2=>⟨h1,h2⟩
 |n+1,id::ids,a,r,h1,h2=>by
  unfold jg;split
  ·exact xB n ids a r h1 h2
  ·rename_i so hso;refine xB n (so.ids++ids) _ _ (λj s hj=>?_) (λj s hj=>?_)
   ·rw[Tr.fE] at hj;rw[Tr.rP]
    grind
   ·rw[Tr.rP] at hj;by_cases e:j=id
    ·grind
    ·rw[aq e] at hj;rw[Tr.fE];simp_all
def ME(h:Tr SO):List SV->Option Nat
 |[]=>none
 | .sl id _ _ _::r=>match h.get id with
  |some (.cells _ _)=>some id
  |_=>ME h r
 |_::r=>ME h r
def A8(st:St):List Operand->Option Nat
 |[]=>none
 | .tmp t::r=>match st.tm.get t with
  |some (.ptr id _)=>match st.h.get id with
   |some (.cells cs _)=>match ME st.h cs with
    |some i=>some i
    |none=>A8 st r
   |_=>A8 st r
  |_=>A8 st r
 |_::r=>A8 st r
def U6(st:St):List Oper->Option Nat
 |[]=>none
 |o::r=>match A8 st o.op.operands.toList with
  |some i=>some i
  |none=>U6 st r
def Kc(st:St)(id:Nat)(K:St->Option β):Option β:=ob (st.h.get id) λso=>match so with
 | .cells cs t=>ob (tw (gv (jg 1000 (SV.jY cs) .nil (st.h.del id)).1 20) cs) λus=>K {st with h:=(jg 1000 (SV.jY cs) .nil (st.h.del id)).2.set id (.arr us t)}
 |_=>bI 91
def Ke(b:Bool)(ops:List Oper)(st:St)(K:St->Option β):Option β:=cond b (match U6 st ops with|some id=>Kc st id K|none=>K st) (K st)
def ri(g:Bool):List SV->List Nat
 |[]=>[]
 | .sl id _ _ _::r=>id::ri g r
 | .gr id _::r=>cond g (id::ri g r) (ri g r)
 |_::r=>ri g r
def RN(g:Bool)(A:Tr SO):SV->Option SV
 | .sl id off n c=>ob (gv A 20 (.sl id off n c)) λu=>some (.v u)
 | .gr id E=>cond g (ob (gv A 20 (.gr id E)) λu=>some (.v u)) (some (.gr id E))
 |x=>some x
def DY(id:Nat)(g:Bool)(st:St)(K:St->Option β):Option β:=ob (st.h.get id) λso=>match so with
 | .cells cs t=>ob (tw (RN g (jg 1000 (ri g cs) .nil (st.h.del id)).1) cs) λus=>K {st with h:=(jg 1000 (ri g cs) .nil (st.h.del id)).2.set id (.cells us t)}
 |_=>bI 91
def RD(b:Bool)(st:St)(K:St->Option β):Option β:=cond b (DY 0 false st K) (K st)
def A7(st:St):List Operand->Option Nat
 |[]=>none
 | .tmp t::r=>match st.tm.get t with
  |some (.ptr id _)=>match st.h.get id with
   |some (.cells cs _)=>cond (Nat.blt 1 cs.length&&!(ri true cs).isEmpty) (some id) (A7 st r)
   |_=>A7 st r
  |_=>A7 st r
 |_::r=>A7 st r
def U5(st:St):List Oper->Option Nat
 |[]=>none
 |o::r=>match A7 st o.op.operands.toList with
  |some i=>some i
  |none=>U5 st r
def Kd(b:Bool)(ops:List Oper)(st:St)(K:St->Option β):Option β:=cond b (match U5 st ops with|some id=>DY id true st K|none=>K st) (K st)
def SU(st:St):List Oper->Option (Nat×Nat)
 |[]=>none
 |o::r=>match SU st r with
  |some q=>some q
  |none=>match o.dst with
   |some t=>match st.tm.get t with
    |some (.sl id _ _ _)=>some (t,id)
    |_=>none
   |none=>none
def Kf(t:Nat)(st:St)(K:St->Option β):Option β:=ob (st.tm.get t) λsv=>match sv with
 | .sl id off n c=>ob (st.h.get id) λso=>match so with
  | .arr us ty=>cond ((Nat.beq off 0&&Nat.beq n c)&&(Nat.blt 0 (us.length/n)&&Nat.beq (n*(us.length/n)) us.length)) (K ⟨st.tm.set t (.gr st.sx (us.length/n)),(st.h.del id).set st.sx (.grow (us.length/n) us ty),st.sx+1⟩) (bI 93)
  |_=>bI 93
 |_=>bI 93
def Am(b:Bool)(ops:List Oper)(st:St)(K:St->Option β):Option β:=cond b (match SU st ops with|some q=>(match st.h.get q.2 with|some (.arr _ _)=>Kf q.1 st K|_=>Kc st q.2 λst=>Kf q.1 st K)|none=>K st) (K st)
def Kj(st:St):List Operand->Option Nat
 |[]=>none
 | .tmp t::r=>match st.tm.get t with
  |some (.gr _ _)=>some t
  |_=>Kj st r
 |_::r=>Kj st r
def RG(st:St):List Oper->Option Nat
 |[]=>none
 |o::r=>match Kj st o.op.operands.toList with
  |some t=>some t
  |none=>RG st r
def Kg(b:Bool)(ops:List Oper)(st:St)(K:St->Option β):Option β:=cond b (match RG st ops with|some t=>ob (st.tm.get t) λsv=>ob (gv (jg 1000 (SV.ids sv) .nil st.h).1 20 sv) λu=>K {st with tm:=st.tm.set t (.v u),h:=(jg 1000 (SV.ids sv) .nil st.h).2 }|none=>K st) (K st)
theorem acZ{cs:List Value}{r:Option β}{b:β}(e:oB cs r=some b):cs=[]/\r=some b:=by
 unfold oB at e
 grind
def fj(ls:List bq):Prop:=∀x,bq.v x∈ls->bd [x]=true
theorem fj.nil:fj []:=λx hx=>by cases hx
theorem fj.one{x:Value}(h:bd [x]=true):fj [.v x]:=λy hy=>by simp at hy;rw[hy];exact h
theorem fj.tail{l:bq}{ls:List bq}(h:fj (l::ls)):fj ls:=λx hx=>h x (mU _ hx)
theorem fj.append{xs ys:List bq}(h:fj xs)(k:fj ys):fj (xs++ys):=λx hx=>(fI.1 hx).elim (h x) (k x)
theorem ET{x:Value}{r:List Value}(h:bd (x::r)=true):bd r=true:=by rw[qR,bu] at h;exact h.2
theorem AD:∀(ts:List VT)(cs:List Value)(K:List bq->Option β)(b:β),xz ts cs K=some b->
 ∃ls,K ls=some b/\(bd cs=true->fj ls)/\∀rest,fJ ts (ls++rest)=some (cs,rest)
 |[],cs,K,b,e=>by obtain⟨rfl,e⟩:=acZ e;exact⟨[],e,λ_ x hx=>(by cases hx),λrest=>by unfold fJ;rfl⟩
 | .i k::ts,cs0,K,b,e=>by
  obtain⟨x,cs,rfl,e2⟩:=zg e;unfold ar at e2;split at e2
  ·obtain⟨e1,f⟩:=aX e2;have:=nY e1;subst this;obtain⟨ls,h1,h2,h3⟩:=AD ts cs _ b f;refine⟨_,h1,λp y hy=>?_,λrest=>?_⟩
   ·rcases cQ.1 hy with hy|hy
    ·cases hy
    ·exact h2 (ET p) y hy
   ·show fJ _ (_::(ls++rest))=_;show ob (fJ ts (ls++rest)) _=_;rw[h3];rfl
  ·cases e2
 | .b::ts,cs0,K,b,e=>by
  obtain⟨x,cs,rfl,e2⟩:=zg e;unfold zI at e2;split at e2
  ·obtain⟨ls,h1,h2,h3⟩:=AD ts cs _ b e2;refine⟨_,h1,λp y hy=>?_,λrest=>?_⟩
   ·rcases cQ.1 hy with hy|hy
    ·cases hy
    ·exact h2 (ET p) y hy
   ·show fJ _ (_::(ls++rest))=_;show ob (fJ ts (ls++rest)) _=_;rw[h3];rfl
  ·cases e2
 | .s::ts,cs0,K,b,e=>by
  obtain⟨x,cs,rfl,e2⟩:=zg e;unfold zJ at e2;split at e2
  ·obtain⟨ls,h1,h2,h3⟩:=AD ts cs _ b e2;refine⟨_,h1,λp y hy=>?_,λrest=>?_⟩
   ·rcases cQ.1 hy with hy|hy
    ·cases hy
    ·exact h2 (ET p) y hy
   ·show fJ _ (_::(ls++rest))=_;show ob (fJ ts (ls++rest)) _=_;rw[h3];rfl
  ·cases e2
 | .v::ts,cs0,K,b,e=>by
  obtain⟨x,cs,rfl,e⟩:=zg e;obtain⟨ls,h1,h2,h3⟩:=AD ts cs _ b e;refine⟨_,h1,λp y hy=>?_,λrest=>?_⟩
  ·rcases cQ.1 hy with hy|hy
   ·cases hy;exact(by rw[qR,bu] at p;exact p.1)
   ·exact h2 (ET p) y hy
  ·show fJ _ (_::(ls++rest))=_;show ob (fJ ts (ls++rest)) _=_;rw[h3];rfl
theorem u7{γ:Type}{R:SV->Value->Prop}{S:γ->Value->Prop}{g:SV->Option γ}(H:∀x u v,g x=some u->R x v->S u v):∀{xs:List SV}{us:List γ},tw g xs=some us->∀{vs:List Value},PW R xs vs->PW S us vs
 |[],us,e,vs,d=>by cases e;rw[d.dO];exact .nil
 |x::xs,us,e,vs,d=>by obtain⟨u,h1,e⟩:=ax e;obtain⟨r,h2,e⟩:=ax e;cases e;obtain⟨y,ys,rfl,a,t⟩:=d.inv;exact .cons (H _ _ _ h1 a) (u7 H h2 t)
structure Seen(σ:Ren)(m:Nat->Nat->Option Value)(h:Tr SO)(w:World):Prop where
 lit:∀b i v,σ.lit b i=some v->m b i=some v
 obj:∀id so,h.get id=some so->DO σ w id so
 cell:∀id so,h.get id=some so->∀o n,σ.nm id=some (some o,n)->∀i v,fG w o.1 i=some v->m o.1 i=some v
theorem Seen.of{σ:Ren}{m:Nat->Nat->Option Value}{h:Tr SO}{w:World}(S:Seen σ m h w){id n:Nat}{so:SO}{o:Nat×Nat}{cs:Array Value}{t:TypeId}(ho:h.get id=some so)(hn:σ.nm id=some (some o,n))(c:Cl w o.1 cs t){i:Nat}{v:Value}(hi:cs.toList[i]? =some v):m o.1 i=some v:=by obtain⟨fz,c,_⟩:=c;exact S.cell _ _ ho _ _ hn i v (by rw[tF c];simpa using hi)
theorem VA{α γ:Type}{R S:α->γ->Prop}{xs:List α}{ys:List γ}(h:PW (λx y=>R x y/\S x y) xs ys):PW R xs ys/\PW S xs ys:=⟨h.mono λ_ _ q=>q.1,h.mono λ_ _ q=>q.2⟩
theorem VB{us:List Value}{vs:List Value}(h:PW (λu (_:Value)=>bd [u]=true) us vs):bd us=true:=iR.2 λu hu=>by obtain⟨i,hi⟩:=List.mem_iff_getElem?.1 hu;obtain⟨_,_,q⟩:=h.get hi;exact q
theorem ace{m:Nat->Nat->Option Value}{k:Value}(h:KD k=true):aL m k k:=by
 unfold KD at h;split at h
 ·rename_i xs;refine .agg rfl λi x y a b=>?_;rw[a] at b;cases b;have:=iu.1 h x (nU a);split at this
  ·exact .int _ _
  ·cases this
 ·cases h
theorem RM{σ:Ren}{m:Nat->Nat->Option Value}{g:SV->Option Value}(H:∀x u v,g x=some u->DV σ x v->aL m u v):∀{es:List (Value×SV)}{us:List Value}{es':List MapEntry},Kk g es=some us->PW (IF σ) es es'->PW (aL m) us (es'.map λe=>.func (.func 0) #[e.key] #[e.val])
 |[],us,es',e,p=>by cases e;rw[p.dO];exact .nil
 |x::es,us,es',e,p=>by
  obtain⟨y,ys,rfl,a,t⟩:=p.inv;obtain⟨hk,e⟩:=aX e;obtain⟨u,h1,e⟩:=ax e;obtain⟨r,h2,e⟩:=ax e;cases e;have hv:aL m u y.val:=by
   have d:=a.2;unfold RL at h1;split at h1
   ·rename_i l hl;obtain⟨q,h3,e⟩:=ax h1;cases e;rw[hl] at d;generalize y.val=z at d;cases d with
    |agg d1 d2=>have q:=u7 H h3 ⟨d1,d2⟩;exact .agg q.1 q.2
   ·exact H _ _ _ h1 d
  have key:aL m x.1 y.key:=by rw[a.1];exact ace hk
  exact .cons (.fn rfl (λi x y p q=>by cases i<;>simp at p q;subst p q;exact key) rfl λi x y p q=>by cases i<;>simp at p q;subst p q;exact hv) (RM H h2 t)
theorem ox{σ:Ren}{m:Nat->Nat->Option Value}{h:Tr SO}{w:World}(S:Seen σ m h w):∀(f:Nat)(x:SV)(u v:Value),gv h f x=some u->DV σ x v->aL m u v/\bd [u]=true
 |0,_,_,_,e,_=>by cases e
 |f+1,x,u,v,e,d=>by
  unfold gv at e;split at e
  ·cases e;cases d;exact⟨.int _ _,rfl⟩
  ·cases e;cases d;exact⟨.bool _,rfl⟩
  ·cases e;cases d;exact⟨.str _,rfl⟩
  ·cases e;cases d with
   |v h h1=>exact⟨h.mono S.lit,h1⟩
  ·cases e;cases d;exact⟨.fV,rfl⟩
  ·cases e;cases d;exact⟨.nilIface,rfl⟩
  ·rename_i id E;obtain⟨so,hso,e⟩:=ax e;split at e
   ·rename_i E' c t;obtain⟨q,e1⟩:=aX e;clear e;replace q:=bV q;subst q;cases e1;obtain⟨hE,oc,D⟩:=S.obj _ _ hso;cases d with
    |jI g=>
     rcases D with⟨_,rfl⟩|⟨o,n,cs,k,_⟩
     ·exact⟨by simp only[List.length_nil,Nat.zero_div];exact .fV,rfl⟩
     ·rw[g] at k;cases k
    |gr g hc hn=>
     rcases D with⟨k,_⟩|⟨o',n',cs,k,cl,h1,h2,h3,h4⟩
     ·rw[g] at k;cases k
     ·have k':=g.symm.trans k;simp only[sM,Prod.mk.injEq] at k';obtain⟨rfl,rfl⟩:=k';rw[h2,iW _ hE];have h4:=h4.mono λ_ _=>aL.mono S.lit;refine⟨.kZ h4.1 h4.2 (λi y hy=>?_) rfl hn oc,rfl⟩;rw[pM] at hy;split at hy
      ·rw[gj];exact S.of hso k cl hy
      ·cases hy
   ·cases e
  ·rename_i id off n cap;obtain⟨so,hso,e⟩:=ax e;cases d with
   |sl g hn=>
   split at e
   ·rename_i c t;obtain⟨_,e⟩:=aX e;cases e;obtain⟨o',n',cs,k,cl,oc,r⟩:=S.obj _ _ hso;rw[g] at k;cases k;have r:=(r.mono λ_ _=>aL.mono S.lit).drop off;refine⟨.kZ r.1 r.2 (λi y hy=>?_) rfl hn (qS oc λx hx=>qD hx),rfl⟩;rw[sJ] at hy;exact S.of hso g cl hy
   ·rename_i cs0 t;obtain⟨_,e⟩:=aX e;obtain⟨us,hu,e⟩:=ax e;cases e;obtain⟨o',n',cs,k,cl,r⟩:=S.obj _ _ hso;rw[g] at k;cases k;obtain⟨r1,r2⟩:=VA (u7 (λx u v e d=>ox S f x u v e d) hu (r.drop off));refine⟨.kZ r1.1 r1.2 (λi y hy=>?_) rfl hn (VB r2),rfl⟩;rw[sJ] at hy;exact S.of hso g cl hy
   ·cases e
  ·rename_i id;obtain⟨so,hso,e⟩:=ax e;split at e
   ·rename_i es;obtain⟨us,hu,e1⟩:=ax e;cases e1;obtain⟨o',n',es',ck,k,cl,r⟩:=S.obj _ _ hso;cases d with
    |mp g=>
    rename_i n2 o2;have ho:o2=o':=by have g':=g.symm.trans k;simp only[sM,Prod.mk.injEq] at g';exact g'.1
    rw[ho];have q:=RM (λx u v e d=>(ox S f x u v e d).1) hu r;exact⟨.Eo q.1 q.2 λi=>S.cell _ _ hso _ _ k i _ (by unfold fG;rw[cl];rfl),rfl⟩
   ·cases e
  ·cases e
open Classical in
noncomputable def kv(σ:Ren)(A:Nat->SO->Prop)(w:World)(b i:Nat):Option Value:=if Own σ A b then fG w b i else σ.lit b i
theorem Mem.An{B:Bs}{σ:Ren}{G A G':Nat->SO->Prop}{F:Nat->Prop}{w:World}(M:Mem B σ G F w)(sA:∀id so,A id so->G id so)(sG:∀id so,G' id so->∃so',G id so'/\∀s,¬A id s)(ob:Ext σ ⟨σ.nm,kv σ A w⟩->∀id so,G' id so->DO ⟨σ.nm,kv σ A w⟩ w id so):
 Ext σ ⟨σ.nm,kv σ A w⟩/\Mem B ⟨σ.nm,kv σ A w⟩ G' F w:=by
 have ow:∀b,Own σ A b->Own σ G b:=λb ⟨i,s,o,n,a,p,q⟩=>⟨i,s,o,n,sA i s a,p,q⟩;have me:∀b i v,σ.lit b i=some v->kv σ A w b i=some v:=λb i v h=>by unfold kv;rw[aq λq=>M.free b i v h (ow b q)];exact h
 have E:Ext σ ⟨σ.nm,kv σ A w⟩:=⟨λ_ _ h=>h,me⟩;have ow':∀b,Own ⟨σ.nm,kv σ A w⟩ G' b->Own σ G b/\¬Own σ A b:=λb ⟨i,s,o,n,a,p,q⟩=>by obtain⟨s',k1,k2⟩:=sG i s a;refine⟨⟨i,s',o,n,k1,p,q⟩,λ⟨j,s2,o2,n2,a2,p2,q2⟩=>?_⟩;have:=M.inj _ _ _ _ _ _ _ _ k1 (sA j s2 a2) p p2 (q.trans q2.symm);subst this;exact k2 _ a2
 refine⟨E,ob E,λi j s s' o o' n n' a a' p p' q=>?_,M.fresh,λb i v h=>?_,λb i v h q=>?_,M.base,λb q=>M.owned b (ow' b q).1,λb i v h=>?_,M.ko,λb i v h=>me b i v (M.nF b i v h)⟩
 ·obtain⟨_,k,_⟩:=sG i s a;obtain⟨_,k',_⟩:=sG j s' a';exact M.inj _ _ _ _ _ _ _ _ k k' p p' q
 ·simp only[kv] at h;split at h
  ·exact h
  ·exact M.lit b i v h
 ·obtain⟨q1,q2⟩:=ow' b q;simp only[kv] at h;rw[aq q2] at h;exact M.free b i v h q1
 ·simp only[kv] at h;split at h
  ·rename_i q;exact .inr (M.owned b (ow b q))
  ·exact M.mf b i v h
theorem Mem.seen{B:Bs}{σ:Ren}{G:Nat->SO->Prop}{F:Nat->Prop}{w:World}{h:Tr SO}(M:Mem B σ G F w)(s:∀id so,h.get id=some so->G id so):Seen σ (kv σ (hG h) w) h w:=
 ⟨λb i v q=>by unfold kv;rw[aq λ⟨j,so,o,n,a,p,r⟩=>M.free b i v q ⟨j,so,o,n,s j so a,p,r⟩];exact q,λi so q=>M.obj i so (s i so q),λi s h o n hn j v hv=>by unfold kv;rw[ay ⟨i,s,o,n,h,hn,rfl⟩];exact hv⟩
theorem RB{st:St}{id:Nat}{K:St->Option β}{b:β}(e:Kc st id K=some b):∃st',K st'=some b/\∀{B:Bs}{σ:Ren}{a:Act}{w:World},dA B σ st a w->∃σ',dA B σ' st' a w:=by
 obtain⟨so,hso,e⟩:=ax e;split at e
 case h_2=>cases e
 rename_i cs t;obtain⟨us,hu,e⟩:=ax e;refine⟨_,e,λ{B σ a w} R=>?_⟩;have mv:=xB (h:=st.h.del id) 1000 (SV.jY cs) .nil (st.h.del id) (λi s h=>by rw[Tr.get_nil] at h;cases h) λi s h=>⟨h,Tr.get_nil _⟩;generalize(jg 1000 (SV.jY cs) .nil (st.h.del id)).1 =A at mv hu;generalize(jg 1000 (SV.jY cs) .nil (st.h.del id)).2 =r at mv;have dl:∀{i s},(st.h.del id).get i=some s->i≠id/\st.h.get i=some s:=λ{i s} h=>by rw[Tr.rP] at h;grind
 have mA:∀i s,A.get i=some s->i≠id/\st.h.get i=some s:=λi s h=>dl (mv.1 i s h).1;have S:=R.mem.seen λi s h=>(mA i s h).2;obtain⟨E,M⟩:=R.mem.An (A:=hG A) (G':=hG (r.set id (.arr us t))) (λi s h=>(mA i s h).2) (λi s h=>by
  simp only[hG,Tr.fE] at h;split at h
  ·rename_i q;subst q;exact⟨_,hso,λs q=>(mA i s q).1 rfl⟩
  ·exact⟨s,(dl (mv.2 i s h).1).2,λs' q=>by have:=(mv.2 i s h).2;rw[show A.get i=some s' from q] at this;cases this⟩) λE i s h=>by
  simp only[hG,Tr.fE] at h;split at h
  ·rename_i q;subst q;cases h;obtain⟨o,n,cs',g1,g2,g3⟩:=R.mem.obj _ _ hso;obtain⟨r1,r2⟩:=VA (u7 (λx u v e d=>ox S 20 x u v e d) hu g3);exact⟨o,n,cs',g1,g2,VB r2,r1⟩
  ·exact(R.mem.obj i s (dl (mv.2 i s h).1).2).mono E λ_ _ _=>rfl
 exact⟨_,R.size,R.dH,λk sv h=>(R.ev k sv h).mono E,M⟩
theorem RC{id:Nat}{g:Bool}{st:St}{K:St->Option β}{b:β}(e:DY id g st K=some b):∃st',K st'=some b/\∀{B:Bs}{σ:Ren}{a:Act}{w:World},dA B σ st a w->∃σ',dA B σ' st' a w:=by
 unfold DY at e;obtain⟨so,hso,e⟩:=ax e;split at e
 case h_2=>cases e
 rename_i cs t;obtain⟨us,hu,e⟩:=ax e;refine⟨_,e,λ{B σ a w} R=>?_⟩;have mv:=xB (h:=st.h.del id) 1000 (ri g cs) .nil (st.h.del id) (λi s h=>by rw[Tr.get_nil] at h;cases h) λi s h=>⟨h,Tr.get_nil _⟩;generalize(jg 1000 (ri g cs) .nil (st.h.del id)).1 =A at mv hu;generalize(jg 1000 (ri g cs) .nil (st.h.del id)).2 =r at mv;have dl:∀{i s},(st.h.del id).get i=some s->i≠id/\st.h.get i=some s:=λ{i s} h=>by rw[Tr.rP] at h;grind
 have mA:∀i s,A.get i=some s->i≠id/\st.h.get i=some s:=λi s h=>dl (mv.1 i s h).1;have S:=R.mem.seen λi s h=>(mA i s h).2;obtain⟨E,M⟩:=R.mem.An (A:=hG A) (G':=hG (r.set id (.cells us t))) (λi s h=>(mA i s h).2) (λi s h=>by
  simp only[hG,Tr.fE] at h;split at h
  ·rename_i q;subst q;exact⟨_,hso,λs q=>(mA _ s q).1 rfl⟩
  ·exact⟨s,(dl (mv.2 i s h).1).2,λs' q=>by have:=(mv.2 i s h).2;rw[show A.get i=some s' from q] at this;cases this⟩) λE i s h=>by
  simp only[hG,Tr.fE] at h;split at h
  ·rename_i q;subst q;cases h;obtain⟨o,n,cs',g1,g2,g3⟩:=R.mem.obj _ _ hso;refine⟨o,n,cs',g1,g2,u7 (λx u v e d=>?_) hu g3⟩;unfold RN at e;split at e
   ·obtain⟨q,h1,e⟩:=ax e;cases e;obtain⟨a,b⟩:=ox S 20 _ _ _ h1 d;exact .v a b
   ·cases g with
    |true=>obtain⟨q,h1,e⟩:=ax e;cases e;obtain⟨a,b⟩:=ox S 20 _ _ _ h1 d;exact .v a b
    |false=>cases e;exact d.mono E
   ·cases e;exact d.mono E
  ·exact(R.mem.obj i s (dl (mv.2 i s h).1).2).mono E λ_ _ _=>rfl
 exact⟨_,R.size,R.dH,λk sv h=>(R.ev k sv h).mono E,M⟩
theorem abh{z:Bool}{st:St}{K:St->Option β}{b:β}(e:RD z st K=some b):∃st',K st'=some b/\∀{B:Bs}{σ:Ren}{a:Act}{w:World},dA B σ st a w->∃σ',dA B σ' st' a w:=by
 cases z with
 |false=>exact⟨st,e,λR=>⟨_,R⟩⟩
 |true=>exact RC e
theorem abf{z:Bool}{ops:List Oper}{st:St}{K:St->Option β}{b:β}(e:Kd z ops st K=some b):∃st',K st'=some b/\∀{B:Bs}{σ:Ren}{a:Act}{w:World},dA B σ st a w->∃σ',dA B σ' st' a w:=by
 unfold Kd at e;cases z with
 |false=>exact⟨st,e,λR=>⟨_,R⟩⟩
 |true=>
  rw[aD] at e;split at e
  ·exact RC e
  ·exact⟨st,e,λR=>⟨_,R⟩⟩
theorem abi{z:Bool}{ops:List Oper}{st:St}{K:St->Option β}{b:β}(e:Ke z ops st K=some b):∃st',K st'=some b/\∀{B:Bs}{σ:Ren}{a:Act}{w:World},dA B σ st a w->∃σ',dA B σ' st' a w:=by
 unfold Ke at e;cases z with
 |false=>exact⟨st,e,λR=>⟨_,R⟩⟩
 |true=>
  rw[aD] at e;split at e
  ·exact RB e
  ·exact⟨st,e,λR=>⟨_,R⟩⟩
theorem RE{t:Nat}{st:St}{K:St->Option β}{b:β}(e:Kf t st K=some b):∃st',K st'=some b/\∀{B:Bs}{σ:Ren}{a:Act}{w:World},dA B σ st a w->∃σ',dA B σ' st' a w:=by
 obtain⟨sv,hsv,e⟩:=ax e;split at e
 case h_2=>cases e
 rename_i id off n c;obtain⟨so,hso,e⟩:=ax e;split at e
 case h_2=>cases e
 rename_i us ty;obtain⟨hq,e2⟩:=aX e;clear e;simp only[bu] at hq;obtain⟨⟨h1,h2⟩,h3,h4⟩:=hq;have h1:=bV h1;have h2:=bV h2;have h3:=eQ h3;have h4:=bV h4;subst h1 h2;refine⟨_,e2,λ{B σ a w} R=>?_⟩;obtain⟨o,m,cs,g1,cl,on,r⟩:=R.mem.obj _ _ hso;have hl:us.length=cs.size:=r.1;obtain⟨E,M⟩:=R.mem.swap (id:=id) (x:=(some (o.1,us.length),n)) (so:=.grow (us.length/n) us ty) (w':=w) (aM _) (eM.refl _ _) (λo' n' h=>.inr ⟨_,m,o,hso,g1,by cases h;rfl⟩) (λ_ _ _ _ _ _ _=>rfl)
  ⟨h3,on,.inr ⟨(o.1,us.length),n,cs,Ren.jE ..,cl,hl,h4.symm,sL hl,by rw[fg (by rw[hl];exact aM _)];exact r⟩⟩
 refine⟨_,R.size,R.dH,λk sv h=>?_,iY.next (pQ _) M⟩;rw[Tr.fE] at h;split at h
 ·rename_i q;cases h;subst q;have d:=R.ev _ _ hsv;generalize a.eval (.tmp k)=v at d⊢;cases d with
  |sl g hn=>rw[g1] at g;cases g;exact DV.gr (o:=(o.1,us.length)) (Ren.jE ..) h4 (aM _)
 ·exact(R.ev k sv h).mono E
theorem abg{z:Bool}{ops:List Oper}{st:St}{K:St->Option β}{b:β}(e:Am z ops st K=some b):∃st',K st'=some b/\∀{B:Bs}{σ:Ren}{a:Act}{w:World},dA B σ st a w->∃σ',dA B σ' st' a w:=by
 unfold Am at e;cases z with
 |false=>exact⟨st,e,λR=>⟨_,R⟩⟩
 |true=>
  rw[aD] at e;split at e
  ·split at e
   ·exact RE e
   obtain⟨st1,e,h1⟩:=RB e;obtain⟨st2,e,h2⟩:=RE e;exact⟨st2,e,λR=>(h1 R).elim λ_ R1=>h2 R1⟩
  ·exact⟨st,e,λR=>⟨_,R⟩⟩
theorem abj{z:Bool}{ops:List Oper}{st:St}{K:St->Option β}{b:β}(e:Kg z ops st K=some b):∃st',K st'=some b/\∀{B:Bs}{σ:Ren}{a:Act}{w:World},dA B σ st a w->∃σ',dA B σ' st' a w:=by
 unfold Kg at e;cases z with
 |false=>exact⟨st,e,λR=>⟨_,R⟩⟩
 |true=>
 rw[aD] at e;split at e
 case h_2=>exact⟨st,e,λR=>⟨_,R⟩⟩
 rename_i t _;obtain⟨sv,hsv,e⟩:=ax e;obtain⟨u,hu,e⟩:=ax e;refine⟨_,e,λ{B σ a w} R=>?_⟩;have mv:=xB (h:=st.h) 1000 (SV.ids sv) .nil st.h (λi s h=>by rw[Tr.get_nil] at h;cases h) λi s h=>⟨h,Tr.get_nil _⟩;generalize(jg 1000 (SV.ids sv) .nil st.h).1 =A at mv hu;generalize(jg 1000 (SV.ids sv) .nil st.h).2 =r at mv;have S:=R.mem.seen λi s h=>(mv.1 i s h).1;obtain⟨E,M⟩:=R.mem.An (A:=hG A) (G':=hG r) (λi s h=>(mv.1 i s h).1) (λi s h=>⟨s,(mv.2 i s h).1,λs' q=>by have:=(mv.2 i s h).2;rw[show A.get i=some s' from q] at this;cases this⟩) λE i s h=>(R.mem.obj i s (mv.2 i s h).1).mono E λ_ _ _=>rfl;refine⟨_,R.size,R.dH,λk x h=>?_,M⟩;rw[Tr.fE] at h;split at h
 ·rename_i q;cases h;subst q;obtain⟨p,q⟩:=ox S 20 _ _ _ hu (R.ev _ _ hsv);exact .v p q
 ·exact(R.ev k x h).mono E
end
section
variable{β:Type}
structure jQ(β:Type) where
 len:Nat
 t:cJ
 F:Fn t.ks (Option β)
def vc(d:Nat):List (jQ β)->Option (jQ β)
 |[]=>none
 |r::rs=>cond (Nat.beq r.len d) (some r) (vc d rs)
def ze(d:Nat):List (jQ β)->List (jQ β)
 |[]=>[]
 |r::rs=>cond (Nat.ble r.len d) (r::ze d rs) (ze d rs)
structure Ctx(β:Type) where
 X:ew
 pt:FuncId->Option (cA β)
 n:Nat
 rs:List ResultVar
 lv:Nat->Option cJ
 jv:Nat->Option cJ
 un:Nat->Bool
 df:Bool
 fuel:Nat
 an:Nat
 ij:SV->St->Option β
 ma:SV->St->Option β
def lp{α:Type}(z:α)(F:α->α)(n:Nat):α:=Nat.rec z (λ_ r=>F r) n
def al5{α γ:Type}(J:α)(F:α->γ):γ:=F J
def u0(un:Nat->Bool)(n:Nat):Bool:=cond (un 999999) false (un n)
def acF:List Item->Option Nat
 | .inBlock id::_=>some id
 |_=>none
def D4:Code->Option Nat
 | .region id _ _=>some id
 | .seq a _=>D4 a
 | .block _ a=>D4 a
 | .scope a=>D4 a
 |_=>none
def xU(c:Operand)(q:Bool)(st:St):St:=match c with
 | .tmp t=>{st with tm:=st.tm.set t (.b q)}
 |_=>st
def uX(T:TT)(st:St):List ResultVar->(List SV->Option β)->Option β
 |[],K=>K []
 | .tmp t::rs,K=>ob (st.tm.get t) λv=>uX T st rs λvs=>K (v::vs)
 | .cell a t::rs,K=>ob (st.tm.get a) λp=>M4 T st t p λv=>uX T st rs λvs=>K (v::vs)
def Ag(ij:SV->St->Option β)(st:St):List SV->Option β
 |[v]=>ij v st
 |vs=>ij (.aH vs) st
def coC:Code->Nat
 | .skip=>0
 | .region ..=>1
 | .seq ..=>2
 | .cond ..=>3
 | .block ..=>4
 | .loop ..=>5
 | .rangeFunc ..=>6
 | .exit ..=>7
 | .scope ..=>8
 | .label ..=>9
 | .goto ..=>10
 | .ret=>11
 | .refuse ..=>12
section
variable[QF]
noncomputable def Jw(C:Ctx β)(go:List (jQ β)->List Item->St->Option β)(rs:List (jQ β))(todo:List Item)(st:St):Option β:=
 match vc todo.length rs with
 |some r=>kV C.an r.t st λls=>iz r.t.ks r.F ls
 |none=>match todo with
  |[]=>cond C.df (C.ij (.aH []) st) (uX C.X.T st C.rs (Ag C.ij st))
  | .code .ret::_=>cond C.df (C.ij (.aH []) st) (uX C.X.T st C.rs (Ag C.ij st))
  | .code .skip::k=>go rs k st
  | .code (.label _)::k=>go rs k st
  | .inBlock _::k=>go rs k st
  | .inScope _::k=>go rs k st
  | .code (.seq x y)::k=>match D4 y with
   |some key=>match C.jv key with
    |some t=>al5 (lX t.ks λls=>ob (il t ls) λst'=>go rs (.code y::k) st') λJ=>go (⟨(Item.code y::k).length,t,J⟩::rs) (.code x::.code y::k) st
    |none=>go rs (.code x::.code y::k) st
   |none=>go rs (.code x::.code y::k) st
  | .code (.cond c x y)::k=>ob (dF st.tm c) λv=>match v with
   | .b q=>cond q (go rs (.code x::k) (xU c true st)) (go rs (.code y::k) (xU c false st))
   |_=>bI 37
  | .code (.block id x)::k=>go rs (.code x::.inBlock id::k) st
  | .inLoop x::k=>go rs (.code x::.inLoop x::k) st
  | .code (.loop x)::k=>ob (acF k) λkey=>cond (C.un key) (go rs (.code x::.inLoop x::k) st) (ob (C.lv key) λt=>kV C.an t st λls=>
   iz t.ks (lp (iU t.ks) (λrec=>lX t.ks λls=>ob (il t ls) λst'=>go (⟨(Item.inLoop x::k).length,t,rec⟩::rs) (.code x::.inLoop x::k) st') C.fuel) ls)
  | .code (.scope x)::k=>go rs (.code x::.inScope x::k) st
  | .code (.exit id)::k=>ob (exitTo id k) λk1=>go (ze k1.length rs) k1 st
  | .code (.region l ops d)::k=>Ke (C.un (100000+l)) ops.toList st λst=>RD (u0 C.un (300000+l)) st λst=>Kd (u0 C.un (400000+l)) ops.toList st λst=>Kg (u0 C.un (600000+l)) ops.toList st λst=>cond d (QR (u0 C.un (200000+l)) C.X C.pt C.n ops (pj ops.toList []) st λq st'=>match q with|none=>Am (u0 C.un (500000+l)) ops.toList st' λst'=>go rs k st'|some v=>C.ma v st')
   (yg C.X C.pt C.n ops ops.toList st λq st'=>match q with|none=>Am (u0 C.un (500000+l)) ops.toList st' λst'=>go rs k st'|some v=>C.ma v st')
  | .code c::_=>bI (200+coC c)
  |_=>bI 38
noncomputable def dn(C:Ctx β)(n:Nat):List (jQ β)->List Item->St->Option β:=Nat.rec (motive:=λ_=>List (jQ β)->List Item->St->Option β) (λ_ _ _=>none) (λ_ go=>Jw C go) n
end
theorem ahJ{st:St}{c:Operand}{q:Bool}(e:dF st.tm c=some (.b q)):Sub (xU c q st).tm st.tm/\(xU c q st).h=st.h/\(xU c q st).sx=st.sx:=by
 cases c with
 |tmp t=>
  refine⟨λs sv h=>?_,rfl,rfl⟩;replace h:(st.tm.set t (.b q)).get s=some sv:=h;rw[Tr.fE] at h;split at h
  ·rename_i k;rw[k];cases h;exact e
  ·exact h
 |_=>exact⟨λ_ _ h=>h,rfl,rfl⟩
def nc(P:Program)(todo:List Item)(Q:Exit->Act->World->Prop)(a:Act)(w:World):Prop:=
 ∀(b:Frame)(k:List Item)(cs:List Frame),∃e a' w',Q e a' w'/\Arrives P (lone (b.at a (todo++k)) cs w) b k cs e a' w'
section
variable{P:Program} {Q:Exit->Act->World->Prop} {a:Act} {w:World} {T T':List Item}
theorem nc.step(h:∀(b:Frame)(k:List Item)(cs:List Frame),step P (lone (b.at a (T++k)) cs w)=.next (lone (b.at a (T'++k)) cs w))(g:nc P T' Q a w):nc P T Q a w:=λb k cs=>
 let⟨e,a',w',q,r⟩:=g b k cs;⟨e,a',w',q,.of_steps (.one (h b k cs)) r⟩
theorem nc.code{c:Code}(h:c.wp P (λe a w=>match e with| .normal=>nc P T Q a w| .panic ch=>Q (.panic ch) a w|_=>False) a w):nc P (.code c::T) Q a w:=λb k cs=>by
 obtain⟨e,a1,w1,q,r⟩:=h b (T++k) cs;cases e with
 |normal=>obtain⟨e2,a2,w2,q2,r2⟩:=q b k cs;exact⟨e2,a2,w2,q2,.of_steps r r2⟩
 |panic ch=>exact⟨.panic ch,a1,w1,q,r⟩
 |_=>exact q.elim
end
def uA(P:Program)(C:Ctx β)(fn:Func)(B:Bs)(b:β):Exit->Act->World->Prop
 | .panic ch,a,w=>∃σ st sv v,dA B σ st a w/\C.ma sv st=some b/\ch=[pe v]/\DV σ sv v
 | .normal,a,w=>∃σ st sv,dA B σ st a w/\C.ij sv st=some b/\cond C.df (sv=.aH []) (∃v,(results fn a.tmps).run P w=.ok v w/\DV σ sv v)
 | .ret,a,w=>∃σ st sv,dA B σ st a w/\C.ij sv st=some b/\cond C.df (sv=.aH []) (∃v,(results fn a.tmps).run P w=.ok v w/\DV σ sv v)
 |_,_,_=>False
theorem RU{d:Nat}:∀{rs:List (jQ β)}{r:jQ β},vc d rs=some r->r∈rs/\r.len=d
 |[],r,h=>by cases h
 |x::rs,r,h=>by
  unfold vc at h;cases hb:Nat.beq x.len d with
  |true=>simp_all
  |false=>rw[hb] at h;obtain⟨a,b⟩:=RU h;simp_all
theorem RT{d:Nat}:∀{rs:List (jQ β)},vc d rs=none->∀r∈rs,r.len≠d
 |x::rs,h,r,hr=>by
  unfold vc at h;cases hb:Nat.beq x.len d with
  |true=>grind
  |false=>
   rw[hb] at h;rcases cQ.1 hr with rfl|hr
   ·intro e;rw[e,mX] at hb;cases hb
   ·exact RT h r hr
theorem Pz{d:Nat}:∀{rs:List (jQ β)}{r:jQ β},r∈ze d rs->r∈rs/\r.len<=d
 |[],r,h=>by cases h
 |x::rs,r,h=>by
  unfold ze at h;cases hb:Nat.ble x.len d with
  |true=>
   rw[hb] at h;rcases cQ.1 h with rfl|h
   ·simp_all
   ·obtain⟨a,b⟩:=Pz h;exact⟨mU _ a,b⟩
  |false=>rw[hb] at h;obtain⟨a,b⟩:=Pz h;exact⟨mU _ a,b⟩
theorem JV{id:Nat}:∀{k k1:List Item},exitTo id k=some k1->k1<:+k
 |[],k1,h=>by cases h
 |x::k,k1,h=>by
  cases x with
  |inBlock j=>
   unfold exitTo at h;split at h
   ·grind
   ·exact(JV h).trans (List.suffix_cons _ _)
  |_=>exact(JV (k:=k) h).trans (List.suffix_cons _ _)
theorem JU{id:Nat}{k:List Item}:∀{T T1:List Item},exitTo id T=some T1->exitTo id (T++k)=some (T1++k)
 |[],T1,h=>by cases h
 |x::T,T1,h=>by
  cases x with
  |inBlock j=>
   unfold exitTo at h⊢;simp only[eE];split at h
   ·rename_i q;cases h;simp[q]
   ·rename_i q;simp only[q];exact JU h
  |_=>exact JU (T:=T) h
def Fj(tmps:Array Value):ResultVar->Sem Value
 | .tmp t=>pure (tmps.getD t undef)
 | .cell a t=>do loadVar t (<-asAddr (tmps.getD a undef))
theorem JX{P:Program}{T:TT}(HT:fb P T){st:St}:∀{rs:List ResultVar}{K:List SV->Option β}{b:β},uX T st rs K=some b->
 ∃svs,K svs=some b/\∀{B:Bs}{σ:Ren}{a:Act}{w:World},dA B σ st a w->∃vs,(rs.mapM (Fj a.tmps)).run P w=.ok vs w/\eV σ svs vs
 |[],K,b,e=>⟨[],e,λR=>⟨[],rfl,.nil⟩⟩
 | .tmp t::rs,K,b,e=>by obtain⟨v,h1,e⟩:=ax e;obtain⟨svs,k1,k2⟩:=JX HT e;refine⟨v::svs,k1,λ{B σ a w} R=>?_⟩;obtain⟨vs,v1,v2⟩:=k2 R;refine⟨_::vs,?_,.cons (R.ev t v h1) v2⟩;simp only[List.mapM_cons,Fj,da,eL,eK,v1];rfl
 | .cell a0 t::rs,K,b,e=>by
  obtain⟨p,h1,e⟩:=ax e;obtain⟨sv,g1,g2⟩:=WH HT e;obtain⟨svs,k1,k2⟩:=JX HT g1;refine⟨sv::svs,k1,λ{B σ a w} R=>?_⟩;obtain⟨vs,v1,v2⟩:=k2 R;have d:=R.ev a0 p h1;obtain⟨u,u1,u2⟩:=g2 R.mem _ d;refine⟨u::vs,?_,.cons u2 v2⟩;generalize hp:a.eval (.tmp a0)=q at d u1;obtain⟨ad,rfl⟩:∃ad,q=.pointer (some ad):=by
   unfold Instr.loadAt Instr.sureAddr at u1;cases q with
   |pointer ad=>cases ad with
    |some ad=>exact⟨ad,rfl⟩
    |none=>simp at u1
   |_=>simp at u1
  have hq:a.tmps.getD a0 undef=.pointer (some ad):=hp;have hA:(asAddr (.pointer (some ad))).run P w=.ok ad w:=rfl;have g7:(loadVar t ad).run P w=.ok u w:=by unfold Instr.loadAt Instr.sureAddr at u1;simpa using u1
  simp only[List.mapM_cons,Fj,hq,da,eL,eK,hA,g7,v1]
theorem JY{P:Program}{C:Ctx β}{fn:Func}{B:Bs}(HT:fb P C.X.T)(hf:fn.results.toList=C.rs){st:St}{b:β}(e:cond C.df (C.ij (.aH []) st) (uX C.X.T st C.rs (Ag C.ij st))=some b){σ:Ren}{a:Act}{w:World}(R:dA B σ st a w):
 ∃σ st sv,dA B σ st a w/\C.ij sv st=some b/\cond C.df (sv=.aH []) (∃v,(results fn a.tmps).run P w=.ok v w/\DV σ sv v):=by
 cases hdf:C.df with
 |true=>rw[hdf] at e;exact⟨σ,st,_,R,e,rfl⟩
 |false=>
  rw[hdf] at e;obtain⟨svs,k1,k2⟩:=JX HT e;obtain⟨vs,v1,v2⟩:=k2 R;have e0:results fn a.tmps=(do let vs<-Array.mapM (Fj a.tmps) fn.results;pure (if h:vs.size=1 then vs[0] else .tuple vs)):=by
   unfold results
   congr 2
  have run:(results fn a.tmps).run P w=.ok (if h:vs.toArray.size=1 then vs.toArray[0] else .tuple vs.toArray) w:=by rw[e0,Array.mapM_eq_mapM_toList,hf];simp[v1]
  have hl:=v2.1;unfold Ag at k1;split at k1
  ·obtain⟨v,l,rfl,d,t⟩:=v2.inv;have:=t.dO;subst this;exact⟨σ,st,_,R,k1,v,by rw[run];rfl,d⟩
  ·rename_i cF;refine⟨σ,st,_,R,k1,_,by rw[run,dif_neg];intro hh;simp at hh;rw[hh] at hl;match svs,hl with|[v],_=>exact cF v rfl,.aH v2.1 v2.2⟩
section
variable{P:Program} {C:Ctx β} {fn:Func} {B:Bs}
def PL(P:Program)(C:Ctx β)(fn:Func)(B:Bs)(r:jQ β)(k:List Item):Prop:=
 ∀ls b st',iz r.t.ks r.F ls=some b->il r.t ls=some st'->∀{σ:Ren}{a:Act}{w:World},dA B σ st' a w->nc P k (uA P C fn B b) a w
def lE(P:Program)(C:Ctx β)(fn:Func)(B:Bs)(rs:List (jQ β))(todo:List Item):Prop:=
 ∀r∈rs,∃k,k.length=r.len/\k<:+todo/\PL P C fn B r k
theorem lE.tail{rs:List (jQ β)}{x:Item}{k:List Item}(h:lE P C fn B rs (x::k))(hn:vc (x::k).length rs=none):lE P C fn B rs k:=by intro r hr;obtain⟨k1,a,b,g⟩:=h r hr;have:=RT hn r hr;refine⟨k1,a,?_,g⟩;rcases List.suffix_cons_iff.1 b with e|e<;>grind
theorem lE.push{rs:List (jQ β)}{k:List Item}(h:lE P C fn B rs k)(x:Item):lE P C fn B rs (x::k):=λr hr=>by
 obtain⟨k1,a,b,g⟩:=h r hr
 grind
theorem lE.trim{rs:List (jQ β)}{k k1:List Item}(h:lE P C fn B rs k)(s:k1<:+k):lE P C fn B (ze k1.length rs) k1:=λr hr=>by obtain⟨a,b⟩:=Pz hr;obtain⟨k2,a2,b2,g⟩:=h r a;exact⟨k2,a2,List.suffix_of_suffix_length_le b2 s (by omega),g⟩
theorem lE.add{rs:List (jQ β)}{k:List Item}(h:lE P C fn B rs k){t:cJ}{F:Fn t.ks (Option β)}(g:PL P C fn B ⟨k.length,t,F⟩ k):lE P C fn B (⟨k.length,t,F⟩::rs) k:=λr hr=>by
 rcases cQ.1 hr with rfl|hr
 ·grind
 ·exact h r hr
set_option maxHeartbeats 2000000 in
theorem ta[QF](OK:iJ P C.X)(mx:P.follows .mixedOrders=true)(PT:nh P C.pt)(hf:fn.results.toList=C.rs)(hn:B.n=C.n)(ha:B.an=C.an):
 ∀(f:Nat)(rs:List (jQ β))(todo:List Item)(st:St)(b:β),dn C f rs todo st=some b->lE P C fn B rs todo->∀{σ:Ren}{a:Act}{w:World},dA B σ st a w->nc P todo (uA P C fn B b) a w
 |0,rs,todo,st,b,e,_,σ,a,w,R=>by cases e
 |f+1,rs,todo,st,b,e,RO,σ,a,w,R=>by
  have ih:=ta OK mx PT hf hn ha f;replace e:Jw C (dn C f) rs todo st=some b:=e;unfold Jw at e;rw[<-ha] at e;split at e
  ·rename_i r hh;obtain⟨hm,hl⟩:=RU hh;obtain⟨k,k1,k2,g⟩:=RO r hm;have:k=todo:=k2.eq_of_length (by rw[k1,hl]);subst this;obtain⟨ls,h1,st',h2,_,h3⟩:=uV e;obtain⟨σ',R',M'⟩:=h3 R.ev R.mem;replace R':dA B σ' st' a w:=⟨R.size,R.dH,R',M'⟩;exact g ls b st' h1 h2 R'
  ·rename_i hh;split at e
   ·exactλb0 k cs=>⟨.normal,a,w,JY OK.T hf e R,.refl _ _⟩
   ·exactλb0 k cs=>⟨.ret,a,w,JY OK.T hf e R,_,.one step_ret⟩
   ·exact(ih _ _ _ _ e (RO.tail hh) R).step λ_ _ _=>step_skip
   ·exact(ih _ _ _ _ e (RO.tail hh) R).step λ_ _ _=>step_label
   ·exact(ih _ _ _ _ e (RO.tail hh) R).step λ_ _ _=>step_inBlock
   ·exact(ih _ _ _ _ e (RO.tail hh) R).step λ_ _ _=>step_inScope
   ·rename_i x y k;have plain:dn C f rs (.code x::.code y::k) st=some b->nc P (.code (.seq x y)::k) (uA P C fn B b) a w:=λe=>
     (ih _ _ _ _ e (((RO.tail hh).push _).push _) R).step λ_ _ _=>step_seq
    split at e
    ·split at e
     ·rename_i t _;refine(ih _ _ _ _ e (lE.push (lE.add ((RO.tail hh).push (.code y)) ?_) _) R).step λ_ _ _=>step_seq;intro ls b' st' h1 h2 σ' a' w' R';obtain⟨st2,g1,g2⟩:=ax (np _ _ _ _ h1);rw[h2] at g1;cases g1;exact ih _ _ _ _ g2 ((RO.tail hh).push _) R'
     ·exact plain e
    ·exact plain e
   ·rename_i q x y k;obtain⟨v,hv,e⟩:=ax e;split at e
    ·rename_i z;have hs:=ahJ hv;have R':dA B σ (xU q z st) a w:=⟨R.size,R.dH,R.ev.sub hs.1,by rw[hs.2.1,hs.2.2];exact R.mem⟩;have d:=(ec R.ev hv).bv;cases z with
     |true=>exact(ih _ _ _ _ e ((RO.tail hh).push _) R').step λ_ _ _=>step_cond d
     |false=>exact(ih _ _ _ _ e ((RO.tail hh).push _) R').step λ_ _ _=>step_cond d
    ·cases e
   ·exact(ih _ _ _ _ e (((RO.tail hh).push _).push _) R).step λ_ _ _=>step_block
   ·exact(ih _ _ _ _ e (((RO.tail hh).push _).push _) R).step λ_ _ _=>step_inLoop
   ·rename_i x k;obtain⟨key,_,e⟩:=ax e;cases hu:C.un key with
    |true=>rw[hu] at e;exact(ih _ _ _ _ e (((RO.tail hh).push _).push _) R).step λ_ _ _=>step_loop
    |false=>
    rw[hu] at e;obtain⟨t,_,e⟩:=ax e;have head:∀(n:Nat),∀ls b st',iz t.ks (lp (iU t.ks) (λrec=>lX t.ks λls=>ob (il t ls) λst'=>dn C f (⟨(Item.inLoop x::k).length,t,rec⟩::rs) (.code x::.inLoop x::k) st') n) ls=some b->il t ls=some st'->
     ∀{σ:Ren}{a:Act}{w:World},dA B σ st' a w->nc P (.code x::.inLoop x::k) (uA P C fn B b) a w:=by
     intro n;induction n with
     |zero=>intro ls b st' h1;exact(zH _ _ _ h1).elim
     |succ n ihn=>intro ls b' st' h1 h2 σ' a' w' R';obtain⟨st2,g1,g2⟩:=ax (np _ _ _ _ h1);rw[h2] at g1;cases g1;refine ih _ _ _ _ g2 (lE.push (lE.add ((RO.tail hh).push (.inLoop x)) ?_) _) R';intro ls b2 st2 q1 q2 σ2 a2 w2 R2;exact(ihn ls b2 st2 q1 q2 R2).step λ_ _ _=>step_inLoop
    obtain⟨ls,h1,st',h2,_,h3⟩:=uV e;obtain⟨σ',R',M'⟩:=h3 R.ev R.mem;replace R':dA B σ' st' a w:=⟨R.size,R.dH,R',M'⟩;exact(head _ ls b st' h1 h2 R').step λ_ _ _=>step_loop
   ·exact(ih _ _ _ _ e (((RO.tail hh).push _).push _) R).step λ_ _ _=>step_scope
   ·rename_i l k;obtain⟨k1,h1,e⟩:=ax e;exact(ih _ _ _ _ e ((RO.tail hh).trim (JV h1)) R).step λ_ _ _=>step_exit (JU h1)
   ·rename_i l ops d k;obtain⟨st0,e,hfz⟩:=abi e;obtain⟨σ0,R0⟩:=hfz R;obtain⟨sta,e,hfz⟩:=abh e;obtain⟨σa,Ra⟩:=hfz R0;obtain⟨stb,e,hfz⟩:=abf e;obtain⟨σb,Rb⟩:=hfz Ra;obtain⟨st1,e,hfz⟩:=abj e;obtain⟨σ1,R1⟩:=hfz Rb;have fin:∀{q:Option SV}{st':St},(match q with|none=>Am (u0 C.un (500000+l)) ops.toList st' λst'=>dn C f rs k st'|some v=>C.ma v st')=some b->uC B q st' λe a w=>match e with| .normal=>nc P k (uA P C fn B b) a w| .panic ch=>uA P C fn B b (.panic ch) a w|_=>False:=by
     intro q st' g σ a w R;cases q with
     |none=>obtain⟨st2,g,hz⟩:=abg g;obtain⟨σ2,R2⟩:=hz R;exact ih _ _ _ _ g (RO.tail hh) R2
     |some sv=>exactλv dv=>⟨σ,st',sv,v,R,g,rfl,dv⟩
    cases d with
    |true=>obtain⟨q,st',g1,g2⟩:=aaD OK PT mx (id:=l) e;exact .code (g2 hn R1 _ (fin g1))
    |false=>obtain⟨q,st',g1,g2⟩:=BC OK PT ops.toList 0 (λi o ho=>by rw[gj,<-my];exact ho) _ _ _ e;refine .code (wp_region ?_);rw[(show List.range ops.size=List.range' 0 ops.toList.length from by rw[List.range_eq_range'];simp)];exact g2 hn R1 _ (fin g1)
   ·cases e
   ·cases e
end
end
section
variable{β:Type}
theorem J9{f:Nat}(h:f<65536)(ys:List Value):rN f ys=.func (.func f) #[] ⟨ys⟩:=by unfold rN;rw[pR h,Nat.div_eq_of_lt h];rfl
noncomputable def cG(m:Nat->Nat->Option Value)(w w':World)(b i:Nat):Option Value:=
 if b<w.heap.size then m b i else fG w' b i
def Kn(m:Nat->Nat->Option Value)(w:World):Prop:=∀b i v,m b i=some v->fG w b i=some v
theorem Kn.below{m:Nat->Nat->Option Value}{w w':World}(h:Kn m w)(B:RowKit.Below w.heap.size w w'):Kn m w':=λb i v hv=>
 (rS (B.block b (mI (h b i v hv)))).trans (h b i v hv)
theorem Kn.new{m:Nat->Nat->Option Value}{w w':World}(h:Kn m w)(B:RowKit.Below w.heap.size w w'):Kn (cG m w w') w':=λb i v hv=>by
 unfold cG at hv;split at hv
 ·exact h.below B b i v hv
 ·exact hv
theorem Kn.mono{m:Nat->Nat->Option Value}{w w':World}(h:Kn m w):∀b i v,m b i=some v->cG m w w' b i=some v:=λb i v hv=>by unfold cG;rw[ay (mI (h b i v hv))];exact hv
def LK.ty:LK->Type
 | .i=>Int
 | .b=>Bool
 | .s=>ByteArray
 | .v=>Value
 | .c=>List Value
 | .n=>Nat
def bL:List LK->Type
 |[]=>Unit
 |[k]=>k.ty
 |k::l::ks=>k.ty×bL (l::ks)
def Js:(k:LK)->bq->Option k.ty
 | .i,.i x=>some x
 | .b,.b x=>some x
 | .s,.s x=>some x
 | .v,.v x=>some x
 | .c,.c x=>some x
 | .n,.n x=>some x
 |_,_=>none
def wu:(k:LK)->k.ty->bq
 | .i,x=>.i x
 | .b,x=>.b x
 | .s,x=>.s x
 | .v,x=>.v x
 | .c,x=>.c x
 | .n,x=>.n x
def dec:(ks:List LK)->List bq->Option (bL ks)
 |[],[]=>some ()
 |[k],[l]=>Js k l
 |k::l::ks,x::xs=>ob (Js k x) λa=>ob (dec (l::ks) xs) λb=>some (a,b)
 |_,_=>none
def gL:(ks:List LK)->bL ks->List bq
 |[],_=>[]
 |[k],x=>[wu k x]
 |k::l::ks,x=>wu k x.1 ::gL (l::ks) x.2
theorem QI:∀(k:LK)(l:bq)(x:k.ty),Js k l=some x->wu k x=l:=by intro k l x e;cases k<;>cases l<;>first|cases e;rfl|cases e
theorem qa:∀(ks:List LK)(ls:List bq)(x:bL ks),dec ks ls=some x->gL ks x=ls
 |[],[],x,e=>rfl
 |[],_::_,x,e=>by cases e
 |[k],[l],x,e=>by have:=QI k l x e;show[wu k x]=[l];rw[this]
 |[k],[],x,e=>by cases e
 |[k],_::_::_,x,e=>by cases e
 |k::l::ks,[],x,e=>by cases e
 |k::l::ks,y::ys,x,e=>by obtain⟨a,h1,e⟩:=ax e;obtain⟨b,h2,e⟩:=ax e;cases e;show wu k a::gL (l::ks) b=y::ys;rw[QI k y a h1,qa (l::ks) ys b h2]
def oJ:List SV->Nat->Tr SV->Tr SV
 |[],_,t=>t
 |v::vs,n,t=>oJ vs (n+1) (t.set n v)
theorem Jy:∀(vts:List VT)(ls r1:List bq)(pvs:List Value),fJ vts ls=some (pvs,r1)->pvs.length=vts.length
 |[],ls,_,pvs,e1=>by cases e1;rfl
 |t::ts,ls,_,pvs,e1=>by obtain⟨⟨a,b⟩,h1,e1⟩:=ax e1;obtain⟨⟨a',b'⟩,h1',e1⟩:=ax e1;cases e1;simp[Jy ts b _ _ h1']
mutual
def qv:VT->Bool
 | .i _=>true
 | .b=>true
 | .s=>true
 | .agg l=>BA l
 | .aH l=>BA l
 |_=>false
def BA:List VT->Bool
 |[]=>true
 |x::xs=>qv x&&BA xs
end
theorem Jz:∀(vts:List VT)(ls r1:List bq)(pvs:List Value),qK vts=true->fj ls->fJ vts ls=some (pvs,r1)->bd pvs=true/\fj r1
 |[],ls,_,pvs,_,h,e1=>by cases e1;exact⟨rfl,h⟩
 |t::ts,ls,_,pvs,ht,h,e1=>by
  obtain⟨⟨a,b⟩,h1,e1⟩:=ax e1;obtain⟨⟨a',b'⟩,h1',e1⟩:=ax e1;cases e1;have one:bd [a]=true/\fj b/\qK ts=true:=by
   cases t with
   |i k=>
    cases ls with
    |nil=>cases h1
    |cons l ls=>cases l<;>first|(cases h1;exact⟨rfl,h.tail,ht⟩)|cases h1
   |b=>
    cases ls with
    |nil=>cases h1
    |cons l ls=>cases l<;>first|(cases h1;exact⟨rfl,h.tail,ht⟩)|cases h1
   |s=>
    cases ls with
    |nil=>cases h1
    |cons l ls=>cases l<;>first|(cases h1;exact⟨rfl,h.tail,ht⟩)|cases h1
   |v=>
    cases ls with
    |nil=>cases h1
    |cons l ls=>cases l<;>first|(cases h1;exact⟨h _ nT,h.tail,ht⟩)|cases h1
   |_=>cases ht
  obtain⟨o1,o2,o3⟩:=one;obtain⟨k1,k2⟩:=Jz ts b _ _ o3 o2 h1';exact⟨by rw[qR,o1,k1];rfl,k2⟩
mutual
theorem JA:∀(vt:VT)(ls r1 r2:List bq)(pv:Value)(sv:SV),fj ls->jV vt ls=some (pv,r1)->Ig vt ls=some (sv,r2)->r1=r2/\(∀{σ:Ren}{v:Value},aL σ.lit pv v->DV σ sv v)/\fj r1
 | .i k,.i n::ls,_,_,pv,sv,h,e1,e2=>by cases e1;cases e2;exact⟨rfl,λr=>(by cases r;exact .i _ _),h.tail⟩
 | .b,.b n::ls,_,_,pv,sv,h,e1,e2=>by cases e1;cases e2;exact⟨rfl,λr=>(by cases r;exact .b _),h.tail⟩
 | .s,.s n::ls,_,_,pv,sv,h,e1,e2=>by cases e1;cases e2;exact⟨rfl,λr=>(by cases r;exact .s _),h.tail⟩
 | .v,.v n::ls,_,_,pv,sv,h,e1,e2=>by cases e1;cases e2;exact⟨rfl,λr=>.v r (h n nT),h.tail⟩
 | .agg ts,ls,r1,r2,pv,sv,h,e1,e2=>by
  obtain⟨⟨a,b⟩,h1,e1⟩:=ax e1;obtain⟨⟨c,d⟩,h2,e2⟩:=ax e2;cases e1;cases e2;obtain⟨g0,g1,g2⟩:=xd ts ls _ _ _ _ h h1 h2;refine⟨g0,λr=>?_,g2⟩;cases r with
  |agg hl k=>have q:=g1 ⟨hl,k⟩;exact .agg q.1 q.2
 | .aH ts,ls,r1,r2,pv,sv,h,e1,e2=>by
  obtain⟨⟨a,b⟩,h1,e1⟩:=ax e1;obtain⟨⟨c,d⟩,h2,e2⟩:=ax e2;cases e1;cases e2;obtain⟨g0,g1,g2⟩:=xd ts ls _ _ _ _ h h1 h2;refine⟨g0,λr=>?_,g2⟩;cases r with
  |aH hl k=>have q:=g1 ⟨hl,k⟩;exact .aH q.1 q.2
 | .fn g ts,ls,r1,r2,pv,sv,h,e1,e2=>by
  obtain⟨hg,e1⟩:=aX e1;obtain⟨_,e2⟩:=aX e2;obtain⟨⟨a,b⟩,h1,e1⟩:=ax e1;obtain⟨⟨c,d⟩,h2,e2⟩:=ax e2;cases e1;cases e2;obtain⟨g0,g1,g2⟩:=xd ts ls _ _ _ _ h h1 h2;refine⟨g0,λr=>?_,g2⟩;cases r with
  |fn hl hh kl k=>
   rename_i xs' ys';have q:=g1 ⟨kl,k⟩;have e0:xs'=#[]:=by simpa using hl.symm
   rw[e0,show(Value.func (.func g) #[] ys')=rN g ys'.toList from(J9 (eQ hg) _).symm];exact .fn q.1 q.2
 | .lp ts,ls,r1,r2,pv,sv,h,e1,e2=>by obtain⟨q,e1⟩:=aX e1;obtain⟨_,e2⟩:=aX e2;obtain⟨⟨a,b⟩,h1,e1⟩:=ax e1;obtain⟨⟨c,d⟩,h2,e2⟩:=ax e2;cases e1;cases e2;rw[h1] at h2;cases h2;exact⟨rfl,λr=>.lp r,(Jz ts ls _ _ q h h1).2⟩
 | .em b,ls,_,_,pv,sv,h,e1,e2=>by cases e1;cases e2;exact⟨rfl,λr=>.em r,h⟩
 | .nf,ls,_,_,pv,sv,h,e1,e2=>by cases e1;cases e2;exact⟨rfl,λr=>.v r rfl,h⟩
theorem xd:∀(vts:List VT)(ls r1 r2:List bq)(pvs:List Value)(svs:List SV),fj ls->fJ vts ls=some (pvs,r1)->wh vts ls=some (svs,r2)->r1=r2/\(∀{σ:Ren}{vs:List Value},PW (aL σ.lit) pvs vs->eV σ svs vs)/\fj r1
 |[],ls,_,_,pvs,svs,h,e1,e2=>by cases e1;cases e2;exact⟨rfl,λr=>(by rw[r.dO];exact .nil),h⟩
 |t::ts,ls,_,_,pvs,svs,h,e1,e2=>by obtain⟨⟨a,b⟩,h1,e1⟩:=ax e1;obtain⟨⟨a',b'⟩,h1',e1⟩:=ax e1;obtain⟨⟨c,d⟩,h2,e2⟩:=ax e2;obtain⟨⟨c',d'⟩,h2',e2⟩:=ax e2;cases e1;cases e2;obtain⟨g0,g1,g2⟩:=JA t ls _ _ _ _ h h1 h2;subst g0;obtain⟨k0,k1,k2⟩:=xd ts b _ _ _ _ g2 h1' h2';refine⟨k0,λr=>?_,k2⟩;obtain⟨_,_,rfl,r1,r2⟩:=r.inv;exact .cons (g1 r1) (k1 r2)
end
def Plain(pv:Value):Prop:=∀(m m':Nat->Nat->Option Value)(x:Value),aL m pv x->aL m' pv x
mutual
theorem WS:∀(vt:VT)(ls r1:List bq)(pv:Value),qv vt=true->jV vt ls=some (pv,r1)->Plain pv
 | .i k,.i n::ls,_,pv,_,e1=>by cases e1;intro m m' x h;cases h;exact .int _ _
 | .b,.b n::ls,_,pv,_,e1=>by cases e1;intro m m' x h;cases h;exact .bool _
 | .s,.s n::ls,_,pv,_,e1=>by cases e1;intro m m' x h;cases h;exact .str _
 | .agg ts,ls,r1,pv,ht,e1=>by
  obtain⟨⟨a,b⟩,h1,e1⟩:=ax e1;cases e1;intro m m' x h;cases h with
  |agg hl r=>have q:=Nu ts ls _ _ (by unfold qv at ht;exact ht) h1 m m' _ ⟨hl,r⟩;exact .agg q.1 q.2
 | .aH ts,ls,r1,pv,ht,e1=>by
  obtain⟨⟨a,b⟩,h1,e1⟩:=ax e1;cases e1;intro m m' x h;cases h with
  |aH hl r=>have q:=Nu ts ls _ _ (by unfold qv at ht;exact ht) h1 m m' _ ⟨hl,r⟩;exact .aH q.1 q.2
 | .v,ls,r1,pv,ht,_=>by unfold qv at ht;cases ht
 | .fn _ _,ls,r1,pv,ht,_=>by unfold qv at ht;cases ht
 | .lp _,ls,r1,pv,ht,_=>by unfold qv at ht;cases ht
 | .em _,ls,r1,pv,ht,_=>by unfold qv at ht;cases ht
 | .nf,ls,r1,pv,ht,_=>by unfold qv at ht;cases ht
theorem Nu:∀(vts:List VT)(ls r1:List bq)(pvs:List Value),BA vts=true->fJ vts ls=some (pvs,r1)->∀(m m':Nat->Nat->Option Value)(xs:List Value),PW (aL m) pvs xs->PW (aL m') pvs xs
 |[],ls,_,pvs,_,e1=>by cases e1;exactλm m' xs h=>by rw[h.dO];exact .nil
 |t::ts,ls,_,pvs,ht,e1=>by obtain⟨⟨a,b⟩,h1,e1⟩:=ax e1;obtain⟨⟨a',b'⟩,h1',e1⟩:=ax e1;cases e1;unfold BA at ht;rw[bu] at ht;intro m m' xs h;obtain⟨_,_,rfl,r1,r2⟩:=h.inv;exact .cons (WS t ls _ _ ht.1 h1 m m' _ r1) (Nu ts b _ _ ht.2 h1' m m' _ r2)
end
mutual
theorem Kb{st:St}:∀(vt:VT)(sv:SV)(K:List bq->Option β)(b:β),Ak st vt sv K=some b->
 ∃ls,K ls=some b/\∀rest,∃pv,jV vt (ls++rest)=some (pv,rest)/\∀{σ:Ren}{m:Nat->Nat->Option Value}{w:World}{v:Value},Seen σ m st.h w->DV σ sv v->aL m pv v/\fj ls:=by
 intro vt sv K b e;have none:fj []:=fj.nil;have skip:∀{l:bq},(∀x,bq.v x≠l)->fj [l]:=λh x hx=>by simp at hx;exact absurd hx (h x)
 unfold Ak at e;split at e
 ·obtain⟨e1,f⟩:=aX e;have:=nY e1;subst this;exact⟨_,f,λrest=>⟨_,rfl,λS d=>by cases d;exact⟨.int _ _,skip (by simp)⟩⟩⟩
 ·exact⟨_,e,λrest=>⟨_,rfl,λS d=>by cases d;exact⟨.bool _,skip (by simp)⟩⟩⟩
 ·exact⟨_,e,λrest=>⟨_,rfl,λS d=>by cases d;exact⟨.str _,skip (by simp)⟩⟩⟩
 ·exact⟨_,e,λrest=>⟨_,rfl,λS d=>by cases d with|v p q=>exact⟨p.mono S.lit,.one q⟩⟩⟩
 ·exact⟨_,e,λrest=>⟨_,rfl,λS d=>by cases d;exact⟨.fV,.one rfl⟩⟩⟩
 ·exact⟨_,e,λrest=>⟨_,rfl,λS d=>by cases d;exact⟨.nilIface,.one rfl⟩⟩⟩
 ·replace e:=ax e;obtain⟨u,hu,f⟩:=e;exact⟨_,f,λrest=>⟨_,rfl,λS d=>⟨(ox S _ _ _ _ hu d).1,.one (ox S _ _ _ _ hu d).2⟩⟩⟩
 ·replace e:=ax e;obtain⟨u,hu,f⟩:=e;exact⟨_,f,λrest=>⟨_,rfl,λS d=>⟨(ox S _ _ _ _ hu d).1,.one (ox S _ _ _ _ hu d).2⟩⟩⟩
 ·replace e:=ax e;obtain⟨u,hu,f⟩:=e;exact⟨_,f,λrest=>⟨_,rfl,λS d=>⟨(ox S _ _ _ _ hu d).1,.one (ox S _ _ _ _ hu d).2⟩⟩⟩
 ·exact⟨_,e,λrest=>⟨_,rfl,λS d=>by cases d with|em h=>exact⟨h.mono S.lit,none⟩⟩⟩
 ·exact⟨_,e,λrest=>⟨_,rfl,λS d=>by cases d with|em h=>exact⟨h.mono S.lit,none⟩⟩⟩
 ·exact⟨_,e,λrest=>⟨_,rfl,λS d=>by cases d with|v h=>exact⟨h.mono S.lit,none⟩⟩⟩
 ·rename_i ts l;obtain⟨ls,h1,h3⟩:=u5 ts l K b e;refine⟨ls,h1,λrest=>?_⟩;obtain⟨pvs,p1,p3⟩:=h3 rest;refine⟨.agg ⟨pvs⟩,by unfold jV;rw[p1];rfl,λS d=>?_⟩;cases d with
  |agg hl g=>have⟨q,k⟩:=p3 S ⟨hl,g⟩;exact⟨.agg q.1 q.2,k⟩
 ·rename_i ts l;obtain⟨ls,h1,h3⟩:=u5 ts l K b e;refine⟨ls,h1,λrest=>?_⟩;obtain⟨pvs,p1,p3⟩:=h3 rest;refine⟨.tuple ⟨pvs⟩,by unfold jV;rw[p1];rfl,λS d=>?_⟩;cases d with
  |aH hl g=>have⟨q,k⟩:=p3 S ⟨hl,g⟩;exact⟨.aH q.1 q.2,k⟩
 ·rename_i g0 ts g0' l;obtain⟨e1,f⟩:=aX e;have:=bV e1;subst this;obtain⟨e2,f⟩:=aX f;obtain⟨ls,h1,h3⟩:=u5 ts l K b f;refine⟨ls,h1,λrest=>?_⟩;obtain⟨pvs,p1,p3⟩:=h3 rest;refine⟨.func (.func g0) #[] ⟨pvs⟩,by unfold jV;rw[e2,aD,p1];rfl,λS d=>?_⟩;cases d with
  |fn hl g=>have⟨q,k⟩:=p3 S ⟨hl,g⟩;rw[J9 (eQ e2)];exact⟨.fn rfl (λi x y h=>by simp at h) q.1 q.2,k⟩
 ·rename_i ts cs;obtain⟨e1,f⟩:=aX e;obtain⟨ls,h1,h2,h3⟩:=AD ts cs K b f;refine⟨ls,h1,λrest=>⟨Eg cs,by unfold jV;rw[e1,h3];rfl,λS d=>?_⟩⟩;cases d with
  |lp p=>exact⟨p.mono S.lit,h2 (by cases p with|vv _ _ _ _ ho=>exact ho)⟩
 ·rename_i ts id off;replace e:=ax e;obtain⟨so,hso,f⟩:=e;split at f
  ·rename_i c t;obtain⟨e1,f1⟩:=aX f;rw[bu] at e1;obtain⟨ls,h1,h3⟩:=u5 ts (c.drop off) K b f1;refine⟨ls,h1,λrest=>?_⟩;obtain⟨pvs,p1,p3⟩:=h3 rest;refine⟨Eg pvs,by unfold jV;rw[e1.2,p1];rfl,λS d=>?_⟩;obtain⟨o,n,cs,g1,g2,g3⟩:=S.obj _ _ hso;have⟨q,k⟩:=p3 S (g3.drop off);cases d with
   |ptr g=>
    have g':=g.symm.trans g1;simp only[sM,Prod.mk.injEq] at g';obtain⟨rfl,rfl⟩:=g';obtain⟨pvs',p1',_⟩:=h3 [];rw[dW] at p1';have on:bd pvs=true:=by obtain⟨pvs2,p2,p4⟩:=h3 [];rw[dW] at p2;have⟨q2,k2⟩:=p4 S (g3.drop off);have:=(Jz ts ls [] pvs2 e1.2 k2 p2).1;refine iR.2 λx hx=>?_;obtain⟨i,hi⟩:=List.mem_iff_getElem?.1 hx;obtain⟨y,y1,y2⟩:=q.get hi;have hl:=q2.1;have hl':=(oN.1 y1).1;have z:=q2.2 i pvs2[i] y (by simp) y1;have:=iR.1 this _ (cy (by omega:i<pvs2.length));rw[<-y2.one,z.one];exact this
    refine⟨.vv q.1 q.2 (λi y hy=>?_) rfl on,k⟩;rw[sJ] at hy;exact S.of hso g g2 hy
  ·cases f
 ·cases e
theorem u5{st:St}:∀(vts:List VT)(svs:List SV)(K:List bq->Option β)(b:β),rO st vts svs K=some b->
 ∃ls,K ls=some b/\∀rest,∃pvs,fJ vts (ls++rest)=some (pvs,rest)/\∀{σ:Ren}{m:Nat->Nat->Option Value}{w:World}{vs:List Value},Seen σ m st.h w->eV σ svs vs->PW (aL m) pvs vs/\fj ls:=by
 intro vts svs K b e;unfold rO at e;split at e
 ·exact⟨_,e,λrest=>⟨_,rfl,λS d=>⟨by rw[d.dO];exact .nil,fj.nil⟩⟩⟩
 ·rename_i t ts x xs;obtain⟨l1,h1,h3⟩:=Kb t x _ b e;obtain⟨l2,g1,g3⟩:=u5 ts xs _ b h1;refine⟨l1++l2,g1,λrest=>?_⟩;obtain⟨p1,a1,a3⟩:=h3 (l2++rest);obtain⟨p2,b1,b3⟩:=g3 rest;refine⟨p1::p2,?_,λS d=>?_⟩
  ·rw[dV];unfold fJ;rw[a1];show ob (fJ ts (l2++rest)) _=_;rw[b1];rfl
  ·obtain⟨_,_,rfl,d1,d2⟩:=d.inv;have⟨x1,x2⟩:=a3 S d1;have⟨y1,y2⟩:=b3 S d2;exact⟨.cons x1 y1,x2.append y2⟩
 ·cases e
end
end
end Lt
end Go.Proofs.YtcfjfbeadhnknaaGreatDoor

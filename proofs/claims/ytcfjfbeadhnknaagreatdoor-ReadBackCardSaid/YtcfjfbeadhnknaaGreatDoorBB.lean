import Derived.Orders
import Derived.Scope
import Derived.Test.YtcfjfbeadhnknaaGreatDoorBA
namespace Go.Proofs.YtcfjfbeadhnknaaGreatDoor
set_option linter.unusedVariables false
set_option linter.unusedSimpArgs false
set_option linter.unusedSectionVars false
set_option linter.constructorNameAsVariable false
namespace Lt
section
variable{β:Type}
def pe(v:Value):PanicEntry:={v:=v,recovered:=false}
abbrev cy(β:Type):=St->List SV->(Bool->SV->St->Option β)->Option β
def End(p:Bool)(v:Value):Ending:=cond p (.panicked [pe v]) (.returned v)
def mm(P:Program)(g:FuncId)(e:cy β):Prop:=
 ∀st args K b,e st args K=some b->∃p sv st',K p sv st'=some b/\st'.tm=st.tm/\st.sx<=st'.sx/\∀{B:Bs}{σ:Ren}{F:Nat->Prop}{w:World},(∀id,st.sx<=id->id<st'.sx->F id)->Mem B σ (hG st.h) F w->∀args':Array Value,eQ σ args args'.toList->
  Calls P g args' w λx w'=>∃σ' v,x=End p v/\Ext σ σ'/\DV σ' sv v/\Mem B σ' (hG st'.h) (lN F st.sx st'.sx) w'
def mP(P:Program)(pt:FuncId->Option (cy β)):Prop:=∀g e,pt g=some e->mm P g e
def ahE(X:ed)(pt:FuncId->Option (cy β))(st:St)(c:Call)(K:Bool->SV->St->Option β):Option β:=
 ob (AV st.tm c.args.toList) λargs=>match c.callee with
  | .value x=>ob (dC st.tm x) λfv=>match fv with
   | .fn g l=>ob (pt (g%65536)) λe=>ob (X.F.get (g%65536)) λ_=>e st (l.take (g/65536)++(args++l.drop (g/65536))) K
   |_=>bF 27
  | .builtin .len=>match args with
   |[x]=>ob (c.argTypes.toList[0]?) λt=>VA X.T st t x λv=>K false v st
   |_=>bF 28
  | .builtin .copy=>match args with
   |[d,x]=>ob (c.argTypes.toList[0]?) λt=>Vw X.T st t d x (K false)
   |_=>bF 47
  | .builtin .append=>match args with
   |[s,x]=>LM X.T st c.argTypes.toList s x (K false)
   |_=>bF 29
  | .builtin .min=>EB false args λv=>K false v st
  | .builtin .max=>EB true args λv=>K false v st
  |_=>bF 30
def opC:Op->Nat
 | .move ..=>0
 | .assign ..=>1
 | .pick ..=>2
 | .alloc ..=>3
 | .box ..=>4
 | .build ..=>5
 | .buildSlice ..=>6
 | .insert ..=>7
 | .load ..=>8
 | .store ..=>9
 | .ready ..=>10
 | .waits ..=>11
 | .nilCheck ..=>12
 | .binOp ..=>13
 | .unOp ..=>14
 | .convert ..=>15
 | .sliceToArrayPointer ..=>16
 | .makeInterface ..=>17
 | .makeFunc ..=>18
 | .makeMap ..=>19
 | .makeChan ..=>20
 | .makeSlice ..=>21
 | .slice ..=>22
 | .fieldAddr ..=>23
 | .field ..=>24
 | .indexAddr ..=>25
 | .index ..=>26
 | .lookup ..=>27
 | .mapUpdate ..=>28
 | .mapEntry ..=>29
 | .entryStore ..=>30
 | .range ..=>31
 | .next ..=>32
 | .entry ..=>33
 | .typeAssert ..=>34
 | .extract ..=>35
 | .call ..=>36
 |_=>99
def Ur(X:ed)(t:TypeId)(n:Nat):Bool:=match X.T.get t with
 |some i=>match i.desc with
  | .slice e=>match X.T.get e with
   |some j=>nP j.desc&&Nat.beq n 1
   |none=>false
  |_=>false
 |none=>false
def KK(sx:Nat)(v:SV)(so:SO)(K:SV->SO->Option β):Option β:=match v,so with
 | .sl id off n c,.arr cs t=>cond (Nat.beq id sx&&(Nat.beq off 0&&(Nat.beq n 1&&(Nat.beq c 1&&Nat.beq cs.length 1)))) (K (.gr sx 1) (.grow 1 cs t)) (bF 78)
 |_,_=>bF 79
def BM(X:ed)(pt:FuncId->Option (cy β))(st:St)(o:Op)(K:Bool->SV->St->Option β):Option β:=match o with
 | .move x=>ob (dC st.tm x) λv=>K false v st
 | .assign x=>ob (dC st.tm x) λv=>K false v st
 | .alloc t=>qA X st (.alloc t) λv so=>K false v {st with h:=st.h.set st.sx so,sx:=st.sx+1}
 | .box t x=>qA X st (.box t x) λv so=>K false v {st with h:=st.h.set st.sx so,sx:=st.sx+1}
 | .buildSlice t n ps=>cond (Ur X t n) (qA X st (.buildSlice t n ps) λv so=>KK st.sx v so λv so=>K false v {st with h:=st.h.set st.sx so,sx:=st.sx+1}) (qA X st (.buildSlice t n ps) λv so=>K false v {st with h:=st.h.set st.sx so,sx:=st.sx+1})
 | .build t ps=>ob (E1 st.tm ps.toList) λus=>Vv X.T t us λv=>K false v st
 | .load t a=>ob (dC st.tm a) λp=>LV X.T st t p λv=>K false v st
 | .nilCheck x=>ob (dC st.tm x) λv=>match v with
  | .ptr _ _=>K false v st
  | .lp _=>K false v st
  |_=>bF 34
 | .binOp op t x y _=>ob (dC st.tm x) λa=>ob (dC st.tm y) λb=>match a,b with
  | .ni,.ni=>cond (uH x||uH y) (VE X.T op t λv=>K false v st) none
  |a,b=>LN X.T op t a b λv=>K false v st
 | .typeAssert x _ t ok=>ob (dC st.tm x) λa=>Vu X.T a t ok λv=>K false v st
 | .unOp op _ x=>ob (dC st.tm x) λa=>LZ op a λv=>K false v st
 | .convert s d x=>ob (dC st.tm x) λa=>LO X.T st s d a λv=>K false v st
 | .makeSlice t l c=>ob (dC st.tm l) λa=>ob (dC st.tm c) λb=>LX X.T st t a b λv so=>K false v {st with h:=st.h.set st.sx so,sx:=st.sx+1}
 | .slice t x lo hi mx=>ob (dC st.tm x) λa=>ob (EZ st.tm lo) λl=>ob (EZ st.tm hi) λu=>ob (EZ st.tm mx) λm=>VG X.T t a l u m λv=>K false v st
 | .fieldAddr s x f=>ob (dC st.tm x) λa=>Vy X.T s a f λv=>K false v st
 | .field t x f=>ob (dC st.tm x) λa=>LR X.T t a f λv=>K false v st
 | .indexAddr t x ix=>ob (dC st.tm x) λa=>ob (dC st.tm ix) λb=>LU X.T st t a b λv=>K false v st
 | .index t x ix=>ob (dC st.tm x) λa=>ob (dC st.tm ix) λb=>LS X.T t a b λv=>K false v st
 | .extract t i=>ob (dC st.tm t) λa=>LQ a i λv=>K false v st
 | .call c=>ahE X pt st c K
 | .panic x=>ob (dC st.tm x) λv=>match v with
  | .fC t u=>K true (.fC t u) st
  |_=>bF 53
 | .makeInterface t x=>ob (dC st.tm x) λa=>Vz X.T t a λv=>K false v st
 | .makeFunc (.func f) first captured=>cond (Nat.blt f 65536) (ob (AV st.tm first.toList) λa=>ob (AV st.tm captured.toList) λl=>K false (.fn (f+65536*first.toList.length) (a++l)) st) none
 | .lookup t x k ok=>ob (dC st.tm x) λa=>ob (dC st.tm k) λc=>VC X.T t a c ok λv=>K false v st
 | .makeMap t none=>K false (.mp st.sx) {st with h:=st.h.set st.sx (.mp []),sx:=st.sx+1}
 | .insert t m k x=>ob (dC st.tm m) λa=>ob (dC st.tm k) λc=>ob (dC st.tm x) λy=>EA X.T st t a c y λh=>K false (.aH []) {st with h:=h}
 | .mapUpdate t m k x=>ob (dC st.tm m) λa=>ob (dC st.tm k) λc=>ob (dC st.tm x) λy=>EA X.T st t a c y λh=>K false (.aH []) {st with h:=h}
 |o=>bF (100+opC o)
def mE(o:Op):Bool:=match o with
 | .move _=>true
 | .assign _=>true
 | .build _ _=>true
 | .load _ _=>true
 | .nilCheck _=>true
 | .binOp _ _ _ _ _=>true
 | .unOp _ _ _=>true
 | .convert _ _ _=>true
 | .slice _ _ _ _ _=>true
 | .fieldAddr _ _ _=>true
 | .field _ _ _=>true
 | .indexAddr _ _ _=>true
 | .index _ _ _=>true
 | .extract _ _=>true
 | .makeFunc _ _ _=>true
 | .makeInterface _ _=>true
 | .typeAssert _ _ _ _=>true
 | .lookup _ _ _ _=>true
 | .call c=>match c.callee with
  | .builtin .len=>true
  | .builtin .min=>true
  | .builtin .max=>true
  |_=>false
 |_=>false
def r9(P:Program)(o:Oper)(st:St)(sv:SV):Prop:=
 ∀{B:Bs}{σ:Ren}{G:Nat->SO->Prop}{F:Nat->Prop}{w:World}(a:Act),Ev σ st.tm a->(∀id so,st.h.get id=some so->G id so)->Mem B σ G F w->∀(K:Act->World->Prop) Q,
  (∀σ' v w',Ext σ σ'->DV σ' sv v->Mem B σ' G F w'->K (a.put o.dst v) w')->o.wp P a w K Q
def vW(P:Program)(p:Bool)(o:Oper)(st st':St)(sv:SV):Prop:=
 ∀{B:Bs}{σ:Ren}{F:Nat->Prop}{w:World}(a:Act),Ev σ st.tm a->(∀id,st.sx<=id->id<st'.sx->F id)->Mem B σ (hG st.h) F w->∀(K:Act->World->Prop) Q,
  (∀σ' v w',Ext σ σ'->DV σ' sv v->Mem B σ' (hG st'.h) (lN F st.sx st'.sx) w'->cond p (Q (.panic [pe v]) a w') (K (a.put o.dst v) w'))->o.wp P a w K Q
theorem ma{P:Program}{s:Sem Value}{u:Value}{w w':World}(h:s.run P w=.ok u w'):(do pure (Next.value (<-s)):Sem Next).run P w=.ok (.value u) w':=by simp only[da,h,eE,eG]
theorem DV.SD{σ:Ren}{v:Value}(d:DV σ .ni v):v=.nilIface:=by cases d;rfl
theorem DV.abb{σ:Ren}{t:TypeId}{x:SV}{v:Value}(d:DV σ (.fC t x) v):∃y,v=.iface t y:=by cases d;exact⟨_,rfl⟩
theorem qR{P:Program}{o:Oper}{a:Act}{w w':World}{v:Value}{K:Act->World->Prop}{Q:Exit->Act->World->Prop}(h:(execOp a.eval o).run P w=.ok (.value v) w')(k:K (a.put o.dst v) w'):o.wp P a w K Q:=by unfold Oper.wp;rw[h];exact k
theorem ahR(X:ed)(st:St)(l c:Operand)(t:TypeId){K:SV->St->Option β}:qA X st (.makeSlice t l c) (λv so=>K v {st with h:=st.h.set st.sx so,sx:=st.sx+1})=ob (dC st.tm l) λa=>ob (dC st.tm c) λb=>LX X.T st t a b λv so=>K v {st with h:=st.h.set st.sx so,sx:=st.sx+1}:=rfl
theorem Ou{P:Program}{X:ed}(OK:iF P X){pt:FuncId->Option (cy β)}(PT:mP P pt){o:Oper}{st:St}{K:Bool->SV->St->Option β}{b:β}(e:BM X pt st o.op K=some b):
 ∃p sv st',K p sv st'=some b/\st'.tm=st.tm/\st.sx<=st'.sx/\vW P p o st st' sv/\(mE o.op=true->p=false/\r9 P o st sv):=by
 have quiet:∀{sv:SV},K false sv st=some b->(∀{B:Bs}{σ:Ren}{F:Nat->Prop}{w:World}(a:Act),Ev σ st.tm a->Mem B σ (hG st.h) F w->∃v,(execOp a.eval o).run P w=.ok (.value v) w/\DV σ sv v)->
  ∃p sv st',K p sv st'=some b/\st'.tm=st.tm/\st.sx<=st'.sx/\vW P p o st st' sv/\(mE o.op=true->p=false/\r9 P o st sv):=by
  intro sv h q;refine⟨false,sv,st,h,rfl,aL _,λ{B σ F w} a R hF M K Q k=>?_,λ_=>⟨rfl,λ{B σ G F w} a R s M K Q k=>?_⟩⟩
  ·obtain⟨v,v1,v2⟩:=q a R M;exact qR v1 (k σ v w (Ext.refl _) v2 (M.less (λ_ _ h=>h) λ_ h=>h.1))
  ·obtain⟨v,v1,v2⟩:=q a R (M.less s λ_ h=>h);exact qR v1 (k σ v w (Ext.refl _) v2 M)
 have loud:∀{sv:SV}{st':St},mE o.op=false->K false sv st'=some b->st'.tm=st.tm->st.sx<=st'.sx->(∀{B:Bs}{σ:Ren}{F:Nat->Prop}{w:World}(a:Act),Ev σ st.tm a->(∀id,st.sx<=id->id<st'.sx->F id)->Mem B σ (hG st.h) F w->∃v w' σ',(execOp a.eval o).run P w=.ok (.value v) w'/\Ext σ σ'/\DV σ' sv v/\Mem B σ' (hG st'.h) (lN F st.sx st'.sx) w')->
  ∃p sv st',K p sv st'=some b/\st'.tm=st.tm/\st.sx<=st'.sx/\vW P p o st st' sv/\(mE o.op=true->p=false/\r9 P o st sv):=by
  intro sv st' hq h ht hx q;refine⟨false,sv,st',h,ht,hx,λ{B σ F w} a R hF M K Q k=>?_,λz=>by rw[hq] at z;cases z⟩;obtain⟨v,w',σ',v1,v2,v3,v4⟩:=q a R hF M;exact qR v1 (k σ' v w' v2 v3 v4)
 have make:∀{K':SV->St->Option β},(∀sv st,K' sv st=K false sv st)->mE o.op=false->qA X st o.op (λv so=>K' v {st with h:=st.h.set st.sx so,sx:=st.sx+1})=some b->
  ∃p sv st',K p sv st'=some b/\st'.tm=st.tm/\st.sx<=st'.sx/\vW P p o st st' sv/\(mE o.op=true->p=false/\r9 P o st sv):=by
  intro K' hK hq e;obtain⟨sv,so,h1,h3⟩:=LW OK e;rw[hK] at h1;refine loud hq h1 rfl (o5 _) λ{B σ F w} a R hF M=>?_;obtain⟨u,w',g1,g2,g3⟩:=h3 a R w;obtain⟨k1,k2,_⟩:=g3 (σ.add st.sx (some (w.heap.size,0),0)) 0 0 (Ren.yQ (M.fresh _ (hF _ (aL _) (kA _)))) (Ren.jq _ _ _);obtain⟨E,M'⟩:=M.new (hF _ (aL _) (kA _)) g2 k2;exact⟨u,w',_,g1,E,k1,M'⟩
 have makeO:∀{K':SV->St->Option β},(∀sv st,K' sv st=K false sv st)->mE o.op=false->qA X st o.op (λv so=>KK st.sx v so λv so=>K' v {st with h:=st.h.set st.sx so,sx:=st.sx+1})=some b->
  ∃p sv st',K p sv st'=some b/\st'.tm=st.tm/\st.sx<=st'.sx/\vW P p o st st' sv/\(mE o.op=true->p=false/\r9 P o st sv):=by
  intro K' hK hq e;obtain⟨sv,so,h1,h3⟩:=LW OK e;unfold KK at h1;split at h1
  ·rename_i id off m c cs t;obtain⟨c1,h2⟩:=bc h1;simp only[bq] at c1;obtain⟨e1,e2,e3,e4,e5⟩:=c1;have e1:=bT e1;have e2:=bT e2;have e3:=bT e3;have e4:=bT e4;have e5:=bT e5;subst e1 e2 e3 e4;replace h2:=(hK _ _).symm.trans h2;refine loud hq h2 rfl (o5 _) λ{B σ F w} a R hF M=>?_;obtain⟨u,w',g1,g2,g3⟩:=h3 a R w;obtain⟨_,_,k3⟩:=g3 (σ.add st.sx (some (w.heap.size,1),1)) 1 1 (Ren.yQ (M.fresh _ (hF _ (aL _) (kA _)))) (Ren.jq _ _ _);obtain⟨rfl,k4⟩:=k3 _ _ _ _ rfl rfl;obtain⟨E,M'⟩:=M.new (hF _ (aL _) (kA _)) g2 (k4 e5 rfl rfl);exact⟨_,w',_,g1,E,.gr (Ren.jq _ _ _) rfl (aL _),M'⟩
  ·cases h1
 have ins:∀{t:TypeId}{m k x:Operand}{p q r:SV},mE o.op=false->dC st.tm m=some p->dC st.tm k=some q->dC st.tm x=some r->EA X.T st t p q r (λh=>K false (.aH []) {st with h:=h})=some b->(∀(a:Act) w w',(Instr.mapUpdate t (a.eval m) (a.eval k) (a.eval x)).run P w=.ok () w'->(execOp a.eval o).run P w=.ok .skip w')->
  ∃p sv st',K p sv st'=some b/\st'.tm=st.tm/\st.sx<=st'.sx/\vW P p o st st' sv/\(mE o.op=true->p=false/\r9 P o st sv):=by
  intro t m k x p q r hq k1 k2 k3 e run;obtain⟨h',h1,h2⟩:=ahO OK.T e;refine⟨false,_,_,h1,rfl,aL _,λ{B σ F w} a R hF M K Q k=>?_,λz=>by rw[hq] at z;cases z⟩;obtain⟨w',v1,v2⟩:=h2 M _ _ _ (dV R k1) (dV R k2) (dV R k3);unfold Oper.wp;rw[run a w w' v1];exact k σ undef w' (Ext.refl _) (.aH rfl (λi x y h=>by simp at h)) (v2.less (λ_ _ h=>h) λ_ h=>h.1)
 unfold BM at e;split at e
 ·rename_i x hop;obtain⟨v,h1,e⟩:=ay e;exact quiet e λa R M=>⟨_,by unfold execOp;simp only[hop,eG],dV R h1⟩
 ·rename_i x hop;obtain⟨v,h1,e⟩:=ay e;exact quiet e λa R M=>⟨_,by unfold execOp;simp only[hop,eG],dV R h1⟩
 ·rename_i t hop;rw[<-hop] at e;exact make (K':=λv st=>K false v st) (λ_ _=>rfl) (by rw[hop];rfl) e
 ·rename_i t x hop;rw[<-hop] at e;exact make (K':=λv st=>K false v st) (λ_ _=>rfl) (by rw[hop];rfl) e
 ·rename_i t n ps hop;rw[<-hop] at e;cases hb:Ur X t n with
  |true=>rw[hb,aE] at e;exact makeO (K':=λv st=>K false v st) (λ_ _=>rfl) (by rw[hop];rfl) e
  |false=>rw[hb,aF] at e;exact make (K':=λv st=>K false v st) (λ_ _=>rfl) (by rw[hop];rfl) e
 ·rename_i t ps hop;obtain⟨us,k1,e⟩:=ay e;obtain⟨sv,h1,h2⟩:=ahD OK.T e;refine quiet h1 λa R M=>?_;obtain⟨u,v1,v2⟩:=h2 _ (ps.map λ(i,x)=>(i,a.eval x)) _ (by rw[Array.toList_map];exact MD R k1);exact⟨u,by unfold execOp;simp only[hop];exact ma v1,v2⟩
 ·rename_i t x hop;obtain⟨p,k1,e⟩:=ay e;obtain⟨sv,h1,h2⟩:=VB OK.T e;refine quiet h1 λa R M=>?_;obtain⟨u,v1,v2⟩:=h2 M _ (dV R k1);exact⟨u,by unfold execOp;simp only[hop];exact ma v1,v2⟩
 ·rename_i x hop;obtain⟨p,k1,e⟩:=ay e;split at e
  ·refine quiet e λa R M=>⟨a.eval x,?_,dV R k1⟩;obtain⟨ad,q,_⟩:=(dV R k1).K6;unfold execOp;simp[hop,q]
  ·refine quiet e λa R M=>⟨a.eval x,?_,dV R k1⟩;obtain⟨ad,q,_⟩:=(dV R k1).JV;unfold execOp;simp[hop,q]
  ·cases e
 ·rename_i op t x y yt hop;obtain⟨p,k1,e⟩:=ay e;obtain⟨q,k2,e⟩:=ay e;split at e
  ·obtain⟨hc,e⟩:=bc e;obtain⟨sv,h1,h2⟩:=ahT OK.T e;refine quiet h1 λ{B σ F w} a R M=>?_;have d1:=dV R k1;have d2:=dV R k2;obtain⟨u,v1,v2⟩:=h2 x y w hc;have q1:=d1.SD;have q2:=d2.SD;exact⟨u,by unfold execOp;simp only[hop,q1,q2];exact ma v1,v2 _⟩
  ·obtain⟨sv,h1,h2⟩:=ahC OK.T e;refine quiet h1 λ{B σ F w} a R M=>?_;obtain⟨u,v1,v2⟩:=h2 _ _ _ x y w (dV R k1) (dV R k2);exact⟨u,by unfold execOp;simp only[hop];exact ma v1,v2⟩
 ·rename_i x xt t ok hop;obtain⟨p,k1,e⟩:=ay e;obtain⟨sv,h1,h2⟩:=ahB OK.T e;refine quiet h1 λ{B σ F w} a R M=>?_;obtain⟨u,v1,v2⟩:=h2 _ _ xt w (dV R k1);exact⟨u,by unfold execOp;simp only[hop];exact ma v1,v2⟩
 ·rename_i op t x hop;obtain⟨p,k1,e⟩:=ay e;obtain⟨sv,h1,h2⟩:=ahW e;refine quiet h1 λ{B σ F w} a R M=>?_;obtain⟨u,v1,v2⟩:=h2 _ _ w (dV R k1);exact⟨u,by unfold execOp;simp only[hop];exact ma v1,v2⟩
 ·rename_i s d x hop;obtain⟨p,k1,e⟩:=ay e;obtain⟨sv,h1,h2⟩:=ahH OK.T e;have run:∀{a:Act}{w w':World}{u:Value},(convert s d (a.eval x)).run P w=.ok u w'->(execOp a.eval o).run P w=.ok (.value u) w':=λh=>by unfold execOp;simp only[hop];exact ma h
  refine⟨false,sv,st,h1,rfl,aL _,λ{B σ F w} a R hF M K Q k=>?_,λ_=>⟨rfl,λ{B σ G F w} a R s M K Q k=>?_⟩⟩
  ·obtain⟨u,w',v1,v2,v3⟩:=h2 (λ_ _ h=>h) M _ (dV R k1);exact qR (run v1) (k σ u w' (Ext.refl _) v2 (v3.less (λ_ _ h=>h) λ_ h=>h.1))
  ·obtain⟨u,w',v1,v2,v3⟩:=h2 s M _ (dV R k1);exact qR (run v1) (k σ u w' (Ext.refl _) v2 v3)
 ·rename_i t l c hop;rw[<-ahR X st l c t] at e;rw[<-hop] at e;exact make (K':=λv st=>K false v st) (λ_ _=>rfl) (by rw[hop];rfl) e
 ·rename_i t x lo hi mx hop;obtain⟨p,k1,e⟩:=ay e;obtain⟨l,k2,e⟩:=ay e;obtain⟨u,k3,e⟩:=ay e;obtain⟨m,k4,e⟩:=ay e;obtain⟨sv,h1,h2⟩:=ahU OK.T e;refine quiet h1 λ{B σ F w} a R M=>?_;obtain⟨u,v1,v2⟩:=h2 _ _ _ _ _ w (dV R k1) (MC R k2) (MC R k3) (MC R k4);exact⟨u,by unfold execOp;simp only[hop];exact ma v1,v2⟩
 ·rename_i s x f hop;obtain⟨p,k1,e⟩:=ay e;obtain⟨sv,h1,h2⟩:=ahJ OK.T e;refine quiet h1 λ{B σ F w} a R M=>?_;obtain⟨u,v1,v2⟩:=h2 _ _ w (dV R k1);exact⟨u,by unfold execOp;simp only[hop];exact ma v1,v2⟩
 ·rename_i t x f hop;obtain⟨p,k1,e⟩:=ay e;obtain⟨sv,h1,h2⟩:=ahK OK.T e;refine quiet h1 λ{B σ F w} a R M=>?_;obtain⟨u,v1,v2⟩:=h2 _ _ w (dV R k1);exact⟨u,by unfold execOp;simp only[hop];exact ma v1,v2⟩
 ·rename_i t x ix hop;obtain⟨p,k1,e⟩:=ay e;obtain⟨q,k2,e⟩:=ay e;obtain⟨sv,h1,h2⟩:=ahM OK.T e;refine quiet h1 λ{B σ F w} a R M=>?_;obtain⟨u,v1,v2⟩:=h2 M _ _ (dV R k1) (dV R k2);exact⟨u,by unfold execOp;simp only[hop];exact ma v1,v2⟩
 ·rename_i t x ix hop;obtain⟨p,k1,e⟩:=ay e;obtain⟨q,k2,e⟩:=ay e;obtain⟨sv,h1,h2⟩:=ahN OK.T e;refine quiet h1 λ{B σ F w} a R M=>?_;obtain⟨u,v1,v2⟩:=h2 _ _ _ w (dV R k1) (dV R k2);exact⟨u,by unfold execOp;simp only[hop];exact ma v1,v2⟩
 ·rename_i t j hop;obtain⟨p,k1,e⟩:=ay e;obtain⟨sv,h1,h2⟩:=ahI (P:=P) e;refine quiet h1 λ{B σ F w} a R M=>?_;obtain⟨u,v1,v2⟩:=h2 _ _ w (dV R k1);exact⟨u,by unfold execOp;simp only[hop];exact ma v1,v2⟩
 ·rename_i c hop;obtain⟨args,k1,e⟩:=ay e;have ra:∀{σ:Ren}{a:Act},Ev σ st.tm a->eQ σ args (c.args.map a.eval).toList:=λR=>by rw[Array.toList_map];exact E5 R k1
  have bi:∀{bf:Builtin}{s:Array TypeId->TypeId->Array Value->Sem Value}{a:Act}{w w':World}{v:Value},c.callee=.builtin bf->(∀ts ty cs as,builtin bf ts ty cs as=do pure (.value (<-s ts ty as)))->
   (s c.argTypes o.type (c.args.map a.eval)).run P w=.ok v w'->(execOp a.eval o).run P w=.ok (.value v) w':=by
   intro bf s a w w' v hc hs h;unfold execOp resolve;simp only[hop,hc,da,eG,eE];unfold invoke;simp only[hs,da,h,eE,eG]
  split at e
  ·rename_i x0 hc;obtain⟨fv,k0,e⟩:=ay e;split at e
   case h_2=>cases e
   rename_i g l;obtain⟨en,k2,e⟩:=ay e;obtain⟨fn,k3,e⟩:=ay e;obtain⟨p,sv,st',h1,ht,hx',h2⟩:=PT (g%65536) en k2 _ _ _ _ e;refine⟨p,sv,st',h1,ht,hx',λ{B σ F w} a R hF M K Q k=>?_,λq=>by rw[hop] at q;simp only[mE,hc] at q;cases q⟩;obtain⟨f1,f2,f3⟩:=OK.F _ _ k3;have d:=dV R k0;generalize hx:a.eval x0=fx at d;cases d with
   |fn hl hr=>
    rename_i ys;have d:eQ σ l ys:=⟨hl,hr⟩;have run:(execOp a.eval o).run P w=.ok (.enter (g%65536) ((⟨ys.take (g/65536)⟩:Array Value)++c.args.map a.eval++⟨ys.drop (g/65536)⟩)) w:=by
     unfold execOp resolve;simp only[hop,hc,hx,ri,Deferred.ofValue,da,eG,eE];unfold invoke callFunc;have h4:fn.body.isNone=false:=by cases hb:fn.body with
      |none=>rw[hb] at f3;cases f3
      |some b=>rfl
     simp only[da,run_program,eE,f1,f2,h4,kx,gK,eG]
    unfold Oper.wp;rw[run];have dd:eQ σ (l.take (g/65536)++(args++l.drop (g/65536))) ((⟨ys.take (g/65536)⟩:Array Value)++c.args.map a.eval++⟨ys.drop (g/65536)⟩).toList:=by rw[Array.toList_append,Array.toList_append,dO];exact(d.take _).append ((ra R).append (d.drop _))
    refine Calls.mono (h2 hF M _ dd) λx w' ⟨σ',v,q1,q2,q3,q4⟩=>?_;subst q1;have:=k σ' v w' q2 q3 q4;cases p<;>exact this
  ·rename_i hc;split at e
   ·rename_i x;obtain⟨t,k2,e⟩:=ay e;obtain⟨sv,h1,h2⟩:=ahP OK.T k2 e;refine quiet h1 λ{B σ F w} a R M=>?_;obtain⟨v,l,q1,q2,q3⟩:=(ra R).inv;obtain⟨u,v1,v2⟩:=h2 M (c.args.map a.eval) o.type v (by rw[<-mh,q1];rfl) q2;exact⟨u,bi hc (λ_ _ _ _=>rfl) v1,v2⟩
   ·cases e
  ·rename_i hc;split at e
   ·rename_i x y;obtain⟨t,k2,e⟩:=ay e;obtain⟨sv,h',h1,h2⟩:=ahG OK.T k2 e;refine loud (by rw[hop];simp[mE,hc]) h1 rfl (aL _) λ{B σ F w} a R hF M=>?_;obtain⟨v,l,q1,q2,q3⟩:=(ra R).inv;obtain⟨v',l',rfl,q4,q5⟩:=q3.inv;obtain⟨u,w',v1,v2,v3⟩:=h2 M (c.args.map a.eval) o.type v v' (by rw[<-mh,q1];rfl) (by rw[<-mh,q1];rfl) q2 q4;exact⟨u,w',σ,bi hc (λ_ _ _ _=>rfl) v1,Ext.refl _,v2,v3.less (λ_ _ h=>h) λ_ h=>h.1⟩
   ·cases e
  ·rename_i hc;split at e
   ·rename_i x y;obtain⟨sv,h',d,h1,h2⟩:=ahA (P:=P) OK.T e;refine loud (by rw[hop];simp[mE,hc]) h1 rfl (Nat.le_add_right _ _) λ{B σ F w} a R hF M=>?_;obtain⟨v,l,q1,q2,q3⟩:=(ra R).inv;obtain⟨v',l',rfl,q4,q5⟩:=q3.inv;obtain⟨u,w',σ',v1,v2,v3,v4⟩:=h2 hF M (c.args.map a.eval) o.type v v' (by rw[<-mh,q1];rfl) (by rw[<-mh,q1];rfl) q2 q4;exact⟨u,w',σ',bi hc (λ_ _ _ _=>rfl) v1,v2,v3,v4⟩
   ·cases e
  ·rename_i hc;obtain⟨sv,h1,h2⟩:=VD (P:=P) e;refine quiet h1 λ{B σ F w} a R M=>?_;obtain⟨u,v1,v2⟩:=h2 σ _ c.argTypes o.type w (ra R);exact⟨u,bi hc (λ_ _ _ _=>rfl) v1,v2⟩
  ·rename_i hc;obtain⟨sv,h1,h2⟩:=VD (P:=P) e;refine quiet h1 λ{B σ F w} a R M=>?_;obtain⟨u,v1,v2⟩:=h2 σ _ c.argTypes o.type w (ra R);exact⟨u,bi hc (λ_ _ _ _=>rfl) v1,v2⟩
  ·cases e
 ·rename_i x hop;obtain⟨v,k1,e⟩:=ay e;split at e
  ·rename_i t u;refine⟨true,_,st,e,rfl,aL _,λ{B σ F w} a R hF M K Q k=>?_,λq=>by rw[hop] at q;cases q⟩;have d:=dV R k1;obtain⟨y,q⟩:=d.abb;have run:(execOp a.eval o).run P w=.halt (.panic (a.eval x)) w:=by unfold execOp;simp[hop,q,Instr.panic]
   unfold Oper.wp;rw[run];exact k σ _ w (Ext.refl _) d (M.less (λ_ _ h=>h) λ_ h=>h.1)
  ·cases e
 ·rename_i t x hop;obtain⟨p,k1,e⟩:=ay e;obtain⟨sv,h1,h2⟩:=ahL OK.T e;refine quiet h1 λ{B σ F w} a R M=>?_;obtain⟨u,v1,v2⟩:=h2 _ _ w (dV R k1);exact⟨u,by unfold execOp;simp only[hop];exact ma v1,v2⟩
 ·rename_i f first captured hop
  obtain⟨q,e⟩:=bc e;obtain⟨x,k1,e⟩:=ay e;obtain⟨y,k2,e⟩:=ay e;have q:=eX q;refine quiet e λ{B σ F w} a R M=>?_;have d:=(E5 R k1).append (E5 R k2);refine⟨_,?_,.fn d.1 d.2⟩;unfold execOp ri;have hl:(first.toList.map a.eval).length=first.toList.length:=by simp
  rw[Nat.add_mul_mod_self_left,qa q,Nat.add_mul_div_left _ _ (by decide),Nat.div_eq_of_lt q,gm,<-hl,List.take_left',List.drop_left']
  ·simp[hop,Instr.makeFunc];exact⟨by rw[<-Array.toList_map],by rw[<-Array.toList_map]⟩
  ·rfl
  ·rfl
 ·rename_i t x k ok hop;obtain⟨p,k1,e⟩:=ay e;obtain⟨q,k2,e⟩:=ay e;obtain⟨sv,h1,h2⟩:=ahQ OK.T e;refine quiet h1 λ{B σ F w} a R M=>?_;obtain⟨u,v1,v2⟩:=h2 M _ _ (dV R k1) (dV R k2);exact⟨u,by unfold execOp;simp only[hop];exact ma v1,v2⟩
 ·rename_i t hop;refine loud (by rw[hop];rfl) e rfl (o5 _) λ{B σ F w} a R hF M=>?_;obtain⟨v,w',σ',v1,v2,v3,v4⟩:=ahS (P:=P) (hF _ (aL _) (kA _)) M t;exact⟨v,w',σ',by unfold execOp;simp only[hop];exact ma v1,v2,v3,v4⟩
 ·rename_i t m k x hop;obtain⟨p,k1,e⟩:=ay e;obtain⟨q,k2,e⟩:=ay e;obtain⟨r,k3,e⟩:=ay e;exact ins (by rw[hop];rfl) k1 k2 k3 e λa w w' h=>by unfold execOp;simp only[hop,da,h,eE,eG]
 ·rename_i t m k x hop;obtain⟨p,k1,e⟩:=ay e;obtain⟨q,k2,e⟩:=ay e;obtain⟨r,k3,e⟩:=ay e;exact ins (by rw[hop];rfl) k1 k2 k3 e λa w w' h=>by unfold execOp;simp only[hop,da,h,eE,eG]
 ·cases e
end
section
variable{β:Type}
def km(tm:Tr SV)(d:Option Nat)(v:SV):Tr SV:=match d with
 |some d=>tm.set d v
 |none=>tm
def C8(ops:Array Oper)(tm:Tr SV)(o:Oper)(K:Bool->Tr SV->Option β):Option β:=match o.guard with
 |none=>K true tm
 |some (j,want)=>ob (ops[j]?) λoj=>ob oj.dst λd=>ob (tm.get d) λv=>match v with
  | .b x=>cond x (K (true==want) (tm.set d (.b true))) (K (false==want) (tm.set d (.b false)))
  | .aH _=>K false tm
  |_=>none
def Ak(X:ed)(pt:FuncId->Option (cy β))(st:St)(o:Oper)(K:Option SV->St->Option β):Option β:=match o.op with
 | .store t a y=>match o.dst with
  |none=>ob (dC st.tm a) λp=>ob (dC st.tm y) λu=>VH X.T st t p u (K none)
  |some _=>none
 | .pick c a b=>ob (dC st.tm c) λv=>match v with
  | .b x=>cond x (ob (dC st.tm a) λu=>K none {st with tm:=km st.tm o.dst u}) (ob (dC st.tm b) λu=>K none {st with tm:=km st.tm o.dst u})
  |_=>bF 36
 |op=>BM X pt st op λp v st'=>cond p (K (some v) st') (K none {st' with tm:=km st'.tm o.dst v})
def CS(n:Nat)(o:Oper)(r:Option β):Option β:=match o.dst with
 |none=>r
 |some d=>cond (Nat.blt d n) r none
theorem P9{n:Nat}{o:Oper}{r:Option β}{b:β}(e:CS n o r=some b):r=some b/\∀d,o.dst=some d->d<n:=by
 unfold CS at e;split at e
 ·grind
 ·rename_i d0 h;obtain⟨e1,e⟩:=bc e;simp_all
def xy(X:ed)(pt:FuncId->Option (cy β))(n:Nat)(ops:Array Oper):List Oper->St->(Option SV->St->Option β)->Option β
 |[],st,K=>K none st
 |o::os,st,K=>C8 ops st.tm o λw tm=>CS n o (cond w (Ak X pt {st with tm:=tm} o λq st'=>match q with|none=>xy X pt n ops os st' K|some v=>K (some v) st') (xy X pt n ops os {st with tm:=km tm o.dst (.aH [])} K))
def looks(ops:Array Oper)(o:Oper):List Nat:=
 (o.op.operands.toList.filterMap λx=>match x with| .tmp t=>some t|_=>none)++(match o.guard with|some (g,_)=>((ops[g]?).bind (·.dst)).toList|none=>[])
def jf(tm:Tr SV):List Nat->Tr SV->Tr SV
 |[],acc=>acc
 |t::ts,acc=>match tm.get t with
  |some v=>jf tm ts (acc.set t v)
  |none=>jf tm ts acc
theorem Aj{tm:Tr SV}:∀(ts:List Nat)(acc:Tr SV)(t:Nat)(u:SV),(jf tm ts acc).get t=some u->(t∈ts/\tm.get t=some u)\/acc.get t=some u
 |[],_,_,_,h=>.inr h
 |x::xs,acc,t,u,h=>by
  unfold jf at h;cases hx:tm.get x with
  |none=>rw[hx] at h;rcases Aj xs acc t u h with⟨a,b⟩|a<;>grind
  |some v=>
   rw[hx] at h;rcases Aj xs (acc.set x v) t u h with⟨a,b⟩|a
   ·grind
   ·rw[Tr.fA] at a
    grind
structure dt(B:Bs)(σ:Ren)(st:St)(a:Act)(w:World):Prop where
 size:a.tmps.size=B.n
 dG:a.defers=B.dG
 ev:Ev σ st.tm a
 mem:iP B σ st.h st.sx w
theorem OM{σ:Ren}:DV σ (.aH []) undef:=.aH rfl (λi x y h=>by simp at h)
theorem eval_put{a:Act}{d:Option Nat}{v:Value}{t:Nat}:(∀k,d=some k->k<a.tmps.size)->(a.put d v).eval (.tmp t)=if d=some t then v else a.eval (.tmp t):=by
 intro h;cases d with
 |none=>rfl
 |some k=>
  show(a.tmps.setIfInBounds k v).getD t undef=_;rw[pT,Array.getElem?_setIfInBounds];by_cases e:k=t
  ·subst e;rw[az rfl,az (h k rfl),az rfl];rfl
  ·rw[ar e,ar (by simpa using e),<-pT];rfl
theorem Ev.put{σ σ':Ren}{tm:Tr SV}{a:Act}(R:Ev σ tm a)(E:Ext σ σ'){d:Option Nat}{sv:SV}{v:Value}(hd:∀k,d=some k->k<a.tmps.size)(dv:DV σ' sv v):Ev σ' (km tm d sv) (a.put d v):=λt s hs=>by
 rw[eval_put hd];cases d with
 |none=>rw[ar (by simp)];exact(R t s hs).mono E
 |some k=>
  have hs:(tm.set k sv).get t=some s:=hs;rw[Tr.fA] at hs;by_cases e:t=k
  ·subst e;rw[az rfl] at hs⊢;cases hs;exact dv
  ·rw[ar e] at hs;rw[ar (by simpa using Ne.symm e)];exact(R t s hs).mono E
theorem dt.put{B:Bs}{σ σ':Ren}{st:St}{a:Act}{w w':World}{h':Tr SO}{sx':Nat}(R:dt B σ st a w)(E:Ext σ σ')(M:iP B σ' h' sx' w'){d:Option Nat}{sv:SV}{v:Value}(hd:∀k,d=some k->k<B.n)(dv:DV σ' sv v):dt B σ' ⟨km st.tm d sv,h',sx'⟩ (a.put d v) w':=
 ⟨by cases d<;>simp[Act.put,R.size],by cases d<;>exact R.dG,R.ev.put E (by rw[R.size];exact hd) dv,M⟩
def tV(B:Bs)(q:Option SV)(st:St)(Q:Exit->Act->World->Prop):Prop:=∀σ a w,dt B σ st a w->match q with
 |none=>Q .normal a w
 |some sv=>∀v,DV σ sv v->Q (.panic [pe v]) a w
def Sub(a b:Tr SV):Prop:=∀t sv,a.get t=some sv->b.get t=some sv
theorem Ev.sub{σ:Ren}{tm tm':Tr SV}{a:Act}(R:Ev σ tm a)(s:Sub tm' tm):Ev σ tm' a:=λt sv h=>R t sv (s t sv h)
theorem Un{tm:Tr SV}{ts:List Nat}:Sub (jf tm ts .nil) tm:=λt sv h=>by
 rcases Aj _ _ _ _ h with⟨_,q⟩|q
 ·exact q
 ·rw[Tr.get_nil] at q;cases q
theorem D3{tm:Tr SV}{t:Nat}{sv:SV}(h:tm.get t=some sv):∀(ts:List Nat)(acc:Tr SV),t∈ts\/acc.get t=some sv->(jf tm ts acc).get t=some sv
 |[],acc,k=>by rcases k with k|k;cases k;exact k
 |x::ts,acc,k=>by
  unfold jf;cases hx:tm.get x with
  |none=>
   refine D3 h ts acc ?_;rcases k with k|k
   ·rcases cO.1 k with rfl|k
    ·rw[h] at hx;cases hx
    ·exact .inl k
   ·exact .inr k
  |some v=>
   refine D3 h ts _ ?_;by_cases e:t=x
   ·subst e;rw[h] at hx;cases hx;exact .inr (by rw[Tr.fA,az rfl])
   ·rcases k with k|k
    ·exact .inl (by rcases cO.1 k with q|q;exact absurd q e;exact q)
    ·exact .inr (by rw[Tr.fA,ar e];exact k)
theorem DV.bv{σ:Ren}{x:Bool}{v:Value}(d:DV σ (.b x) v):v=.bool x:=by cases d;rfl
theorem QT{ops:Array Oper}{tm:Tr SV}{o:Oper}{K:Bool->Tr SV->Option β}{b:β}(e:C8 ops tm o K=some b):
 ∃w tm',K w tm'=some b/\Sub tm' tm/\∀{σ:Ren}{a:Act},Ev σ (jf tm' (looks ops o) .nil) a->Region.wanted o (yielded ops a.tmps)=w:=by
 unfold C8 at e;split at e
 ·rename_i hg;exact⟨_,_,e,λ_ _ h=>h,λR=>by unfold Region.wanted;rw[hg]⟩
 ·rename_i j want hg;obtain⟨oj,h1,e⟩:=ay e;obtain⟨d,h2,e⟩:=ay e;obtain⟨v,h3,e⟩:=ay e;have mem:d∈looks ops o:=by simp[looks,hg,h1,h2]
  have yl:∀{a:Act}{u:Value},a.eval (.tmp d)=u->yielded ops a.tmps j=(match u with| .bool b=>some b|_=>none):=by
   intro a u hu;unfold yielded;simp only[h1,Option.bind_some,h2];simp only[Act.eval,pT] at hu;cases hx:a.tmps[d]? with
   |none=>rw[hx] at hu;subst hu;rfl
   |some x=>rw[hx] at hu;simp only[qb] at hu;subst hu;cases x<;>rfl
  split at e
  ·rename_i x;have key:Sub (tm.set d (.b x)) tm/\∀{σ:Ren}{a:Act},Ev σ (jf (tm.set d (.b x)) (looks ops o) .nil) a->Region.wanted o (yielded ops a.tmps)=(x==want):=by
    refine⟨λt sv h=>?_,λ{σ a} R=>?_⟩
    ·rw[Tr.fA] at h;by_cases q:t=d
     ·rw[az q] at h;cases h;rw[q];exact h3
     ·rw[ar q] at h;exact h
    ·have:=(R d (.b x) (D3 (by rw[Tr.fA,az rfl]) _ _ (.inl mem))).bv;unfold Region.wanted;rw[hg];simp only[yl this];cases x<;>cases want<;>rfl
   cases x with
   |true=>exact⟨_,_,e,key⟩
   |false=>exact⟨_,_,e,key⟩
  ·refine⟨_,_,e,λ_ _ h=>h,λ{σ a} R=>?_⟩;have:=R d _ (D3 h3 _ _ (.inl mem));generalize hu:a.eval (.tmp d)=u at this;cases this;unfold Region.wanted;rw[hg];simp only[yl hu];cases want<;>rfl
  ·cases e
theorem KI{P:Program}{X:ed}(OK:iF P X){pt:FuncId->Option (cy β)}(PT:mP P pt){o:Oper}{st:St}{K:Option SV->St->Option β}{b:β}(e:Ak X pt st o K=some b):
 ∃q sv st',K q st'=some b/\st.sx<=st'.sx/\(q=none/\st'.tm=km st.tm o.dst sv\/q=some sv/\st'.tm=st.tm)/\
  ∀{B:Bs}{σ:Ren}{F:Nat->Prop}{w:World}(a:Act),Ev σ st.tm a->(∀id,st.sx<=id->id<st'.sx->F id)->Mem B σ (hG st.h) F w->∀(K:Act->World->Prop) Q,
   (∀σ' v w',Ext σ σ'->DV σ' sv v->Mem B σ' (hG st'.h) (lN F st.sx st'.sx) w'->match q with|none=>K (a.put o.dst v) w'|some _=>Q (.panic [pe v]) a w')->o.wp P a w K Q:=by
 have sub:∀{B:Bs}{σ:Ren}{G:Nat->SO->Prop}{F:Nat->Prop}{w:World}{x y:Nat},Mem B σ G F w->Mem B σ G (lN F x y) w:=λM=>M.less (λ_ _ h=>h) λ_ h=>h.1;unfold Ak at e;split at e
 ·rename_i t x y hop;split at e
  ·rename_i hdst;obtain⟨p,k1,e⟩:=ay e;obtain⟨u,k2,e⟩:=ay e;obtain⟨h',h1,h2⟩:=ahV (P:=P) OK.T e;refine⟨none,.aH [],_,h1,aL _,.inl ⟨rfl,by rw[hdst];rfl⟩,λ{B σ F w} a R hF M K Q k=>?_⟩;obtain⟨w',g1,g2⟩:=h2 M _ _ (dV R k1) (dV R k2);have run:(execOp a.eval o).run P w=.ok .skip w':=by
    unfold execOp;simp only[hop,da,g1,eE,eG]
   unfold Oper.wp;rw[run];exact k σ _ w' (Ext.refl _) OM (sub g2)
  ·cases e
 ·rename_i c x y hop;obtain⟨v,k1,e⟩:=ay e;split at e
  ·rename_i q;have run:∀{σ:Ren}{a:Act}{w:World},Ev σ st.tm a->(execOp a.eval o).run P w=.ok (.value (cond q (a.eval x) (a.eval y))) w:=by
    intro σ a w R;have d:=(dV R k1).bv;unfold execOp;simp only[hop,d,asBool,da,eG,eE];cases q<;>rfl
   cases q with
   |true=>obtain⟨u,k2,e⟩:=ay e;exact⟨none,u,_,e,aL _,.inl ⟨rfl,rfl⟩,λa R hF M K Q k=>qR (run R) (k _ _ _ (Ext.refl _) (dV R k2) (sub M))⟩
   |false=>obtain⟨u,k2,e⟩:=ay e;exact⟨none,u,_,e,aL _,.inl ⟨rfl,rfl⟩,λa R hF M K Q k=>qR (run R) (k _ _ _ (Ext.refl _) (dV R k2) (sub M))⟩
  ·cases e
 ·obtain⟨p,sv,st',h1,h2,hx,h3,_⟩:=Ou OK PT e;cases p with
  |false=>exact⟨none,sv,_,h1,hx,.inl ⟨rfl,by simp only[h2]⟩,h3⟩
  |true=>exact⟨some sv,sv,_,h1,hx,.inr ⟨rfl,h2⟩,h3⟩
theorem iP.next{B:Bs}{σ:Ren}{G:Nat->SO->Prop}{w:World}{x y:Nat}(h:x<=y)(M:Mem B σ G (lN (λid=>x<=id) x y) w):Mem B σ G (λid=>y<=id) w:=M.less (λ_ _ h=>h) λid k=>⟨fG h k,λq=>by omega⟩
theorem AU{P:Program}{X:ed}(OK:iF P X){pt:FuncId->Option (cy β)}(PT:mP P pt){ops:Array Oper}{n:Nat}:∀(os:List Oper)(s:Nat),(∀i o,os[i]? =some o->ops[s+i]? =some o)->∀(st:St)(K:Option SV->St->Option β)(b:β),xy X pt n ops os st K=some b->
 ∃q st',K q st'=some b/\∀{B:Bs}{σ:Ren}{a:Act}{w:World},B.n=n->dt B σ st a w->∀Q,tV B q st' Q->wpOps P ops Q (List.range' s os.length) a w
 |[],s,_,st,K,b,e=>⟨none,st,e,λhn R Q k=>k _ _ _ R⟩
 |o::os,s,hs,st,K,b,e=>by
  obtain⟨wt,tm1,e1,sb,g⟩:=QT e;obtain⟨e2,hd⟩:=P9 e1;have ho:=hs 0 o rfl;rw[Nat.add_zero] at ho;have hs':∀i o',os[i]? =some o'->ops[s+1+i]? =some o':=λi o' hi=>by have:=hs (i+1) o' (by simpa using hi);rw[show s+1+i=s+(i+1) by omega];exact this
  have go:∀{B:Bs}{σ:Ren}{a:Act}{w:World}{Q},dt B σ st a w->(dt B σ {st with tm:=tm1} a w->Region.wanted o (yielded ops a.tmps)=wt->wpOp P ops Q s (wpOps P ops Q (List.range' (s+1) os.length)) a w)->wpOps P ops Q (List.range' s (o::os).length) a w:=by intro B σ a w Q R k;rw[cm,List.range'_succ,wpOps_cons];exact k ⟨R.size,R.dG,R.ev.sub sb,R.mem⟩ (g ((R.ev.sub sb).sub Un))
  cases wt with
  |true=>
   rw[aE] at e2;obtain⟨q,sv,st1,e3,hx,ht,D⟩:=KI OK PT e2;cases q with
   |none=>
    have ht:st1.tm=km tm1 o.dst sv:=by rcases ht with h|h;exact h.2;cases h.1
    obtain⟨q',st',e4,D2⟩:=AU OK PT os (s+1) hs' st1 K b e3;refine⟨q',st',e4,λ{B σ a w} hn R Q k=>go R λR1 hw=>?_⟩;unfold wpOp;simp only[ho,hw,dW];exact .inl (D a R1.ev (λ_ h _=>h) R1.mem _ _ λσ' v w' E dv M=>D2 hn (by have:=R1.put E (iP.next hx M) (by rw[hn];exact hd) dv;rwa[<-ht] at this) Q k)
   |some sv'=>
    obtain⟨rfl,ht2⟩:sv'=sv/\st1.tm=tm1:=by rcases ht with h|h;cases h.1;exact⟨lH h.1,h.2⟩
    refine⟨some sv',_,e3,λ{B σ a w} hn R Q k=>go R λR1 hw=>?_⟩;unfold wpOp;simp only[ho,hw,dW];exact .inl (D a R1.ev (λ_ h _=>h) R1.mem _ _ λσ' v w' E dv M=>k σ' a w' ⟨R1.size,R1.dG,λt s hs=>by rw[ht2] at hs;exact(R1.ev t s hs).mono E,iP.next hx M⟩ v dv)
  |false=>obtain⟨q,st',e4,D2⟩:=AU OK PT os (s+1) hs' _ K b e2;refine⟨q,st',e4,λ{B σ a w} hn R Q k=>go R λR1 hw=>?_⟩;unfold wpOp;simp only[ho,hw,kx,gK];exact D2 hn (R1.put (Ext.refl _) R1.mem (by rw[hn];exact hd) OM) Q k
end
section
variable{β:Type}
def qY(N:Nat)(A:Nat->Nat->Prop):(Nat->Prop)->List Nat->Prop
 |done,[]=>∀i,i<N->done i
 |done,i::rest=>i<N/\¬done i/\(∀j,A i j->done j)/\qY N A (λx=>done x\/x=i) rest
def zg(o:Oper):List Nat:=(o.after.toList.filter (Region.binds .any)).map (·.on)
def zX(ms:List Nat):List Nat->Nat
 |[]=>0
 |j::js=>Nat.lor (Nat.lor (Nat.shiftLeft 1 j) (ms.getD j 0)) (zX ms js)
def oM:List Oper->List Nat->List Nat
 |[],ms=>ms
 |o::os,ms=>oM os (ms++[zX ms (zg o)])
def bit(ms:List Nat)(i j:Nat):Bool:=Nat.testBit (ms.getD i 0) j
theorem akT(j l:Nat):Nat.testBit (Nat.shiftLeft 1 j) l=decide (j=l):=by show Nat.testBit (1<<<j) l=_;rw[Nat.one_shiftLeft,Nat.testBit_two_pow]
def HD(es:Nat->List Nat)(ms:List Nat):Prop:=
 ∀i l,bit ms i l=true->∀D:Nat->Prop,(∀a,D a->∀b∈es a,D b)->(∀b∈es i,D b)->D l
theorem Sj{es:Nat->List Nat}{ms:List Nat}(H:HD es ms)(D:Nat->Prop)(cl:∀a,D a->∀b∈es a,D b):∀js:List Nat,(∀b∈js,D b)->∀l,Nat.testBit (zX ms js) l=true->D l
 |[],_,l,h=>by simp[zX] at h
 |j::js,hj,l,h=>by
  unfold zX at h;have e:∀a b:Nat,Nat.lor a b=a|||b:=λ_ _=>rfl;rw[e,e,Nat.testBit_or,Nat.testBit_or,akT] at h;simp at h;rcases h with(rfl|h)|h
  ·grind
  ·exact H j l h D cl (cl j (hj j (by simp)))
  ·exact Sj H D cl js (λb hb=>hj b (by grind)) l h
theorem Sl{es:Nat->List Nat}:∀(os:List Oper)(ms:List Nat),HD es ms->(∀i o,os[i]? =some o->zg o=es (ms.length+i))->HD es (oM os ms)
 |[],ms,H,_=>H
 |o::os,ms,H,he=>by
  refine Sl os _ ?_ λi o' hi=>?_
  ·intro i l hl D cl hi;unfold bit at hl;rw[vQ] at hl;rcases Nat.lt_trichotomy i ms.length with h|h|h
   ·rw[List.getElem?_append_left h] at hl;exact H i l (by unfold bit;rw[vQ];exact hl) D cl hi
   ·subst h;simp_all;have:=he 0 o (by simp);exact Sj H D cl _ (by grind) l hl
   grind
  ·have:=he (i+1) o' (by grind)
   grind
def yL(ops:Array Oper)(i j:Nat):Prop:=bit (oM ops.toList []) i j=true
def oG(ops:Array Oper)(i:Nat):List Nat:=match ops[i]? with
 |some o=>zg o
 |none=>[]
theorem SC(ops:Array Oper){i l:Nat}(h:yL ops i l)(D:Nat->Prop)(cl:∀a,D a->∀b∈oG ops a,D b)(hi:∀b∈oG ops i,D b):D l:=by
 refine Sl ops.toList [] ?_ ?_ i l h D cl hi
 ·intro i l hl;simp[bit] at hl
 ·intro i o ho;have:ops[i]? =some o:=by rw[<-mh];exact ho
  simp[oG,this]
def yX(ops:Array Oper):Prop:=∀i,i<ops.size->∀b∈oG ops i,b<i
theorem acu{ops:Array Oper}(B:yX ops){i l:Nat}(hi:i<ops.size)(h:yL ops i l):l<i:=by
 refine SC ops h (λx=>x<i) ?_ (λb hb=>B i hi b hb)
 ·intro a ha b hb;have:=B a (by omega) b hb;omega
theorem Lo{ops:Array Oper}{listed:Array Bool}{i:Nat}:i∈Region.ready .any ops listed↔i<ops.size/\listed.getD i true=false/\∀b∈oG ops i,listed.getD b false=true:=by
 unfold Region.ready;rw[oh,List.mem_range];constructor
 ·rintro ⟨h1,h2⟩
  simp only[bq,tN] at h2;refine⟨h1,h2.1,?_⟩;have ho:=yF h1;rw[ho] at h2;simp only[qV,qb,Array.all_eq_true'] at h2;intro b hb;unfold oG at hb;rw[ho] at hb;simp[zg] at hb
  grind
 ·rintro ⟨h1,h2,h3⟩
  refine⟨h1,?_⟩;have ho:=yF h1;simp only[bq,tN];refine⟨h2,?_⟩;rw[ho];simp only[qV,qb,Array.all_eq_true'];intro e he;cases hb:Region.binds .any e with
  |false=>rfl
  |true=>
   have:=h3 e.on (by
    unfold oG;rw[ho];simp[zg];exact⟨e,⟨by simpa using he,hb⟩,rfl⟩)
   grind
def count(listed:Array Bool):Nat:=(listed.toList.filter (·==false)).length
theorem count_set{listed:Array Bool}{i:Nat}(h:listed.getD i true=false):count (listed.setIfInBounds i true)+1=count listed:=by
 unfold count;rw[Array.toList_setIfInBounds];have hg:listed.toList[i]? =some false:=by
  rw[pT] at h;cases hx:listed[i]? with
  |none=>grind
  |some b=>grind
 generalize listed.toList=l at hg;clear h;induction l generalizing i with
 |nil=>grind
 |cons b l ih=>
  cases i with
  |zero=>grind
  |succ i=>grind
theorem RU{ops:Array Oper}(B:yX ops):∀(fuel t:Nat)(listed:Array Bool)(done:Nat->Prop),listed.size=ops.size->(∀i,i<ops.size->(done i↔listed.getD i false=true))->(∀i,done i->i<ops.size)->
 (∀a,done a->∀b∈oG ops a,done b)->count listed<=fuel->qY ops.size (yL ops) done (Region.linearise.go .any ops fuel t listed [])
 |fuel,t,listed,done,hs,hd,hb,cl,hc=>by
  have hgd:∀i,i<ops.size->(listed.getD i true=listed.getD i false):=by intro i hi;rw[pT,pT,yF (by omega)];rfl
  have none_ready:Region.ready .any ops listed=[]->∀i,i<ops.size->done i:=by
   intro h;intro i;induction i using Nat.strongRecOn with
   |ind i ih=>
    intro hi;by_cases hdi:done i
    ·exact hdi
    ·exfalso;have:i∈Region.ready .any ops listed:=by
      rw[Lo];refine⟨hi,?_,?_⟩
      ·rw[hgd i hi];cases hx:listed.getD i false with
       |false=>rfl
       |true=>exact absurd ((hd i hi).2 hx) hdi
      ·intro b hb';have hlt:=B i hi b hb';exact(hd b (by omega)).1 (ih b hlt (by omega))
     rw[h] at this;cases this
  cases fuel with
  |zero=>
   refine none_ready ?_;cases hr:Region.ready .any ops listed with
   |nil=>rfl
   |cons x xs=>
    have hx:x∈Region.ready .any ops listed:=by rw[hr];simp
    rw[Lo] at hx;have:=count_set hx.2.1;omega
  |succ fuel=>
   change qY ops.size (yL ops) done (match(Region.ready .any ops listed)[t%(Region.ready .any ops listed).length]? with
    |some i=>Region.linearise.go .any ops fuel (t/(Region.ready .any ops listed).length) (listed.setIfInBounds i true) [i]
    |none=>[].reverse)
   cases hi:(Region.ready .any ops listed)[t%(Region.ready .any ops listed).length]? with
   |none=>
    have hnil:Region.ready .any ops listed=[]:=by
     cases hr:Region.ready .any ops listed with
     |nil=>rfl
     |cons x xs=>rw[hr] at hi;have hlt:t%(x::xs).length<(x::xs).length:=Nat.mod_lt _ (by simp);simp at hi;simp at hlt;omega
    exact none_ready hnil
   |some i=>
    have hm:=nB hi;rw[Lo] at hm;obtain⟨m1,m2,m3⟩:=hm;simp;rw[linearise_go_acc];have nd:¬done i:=λh=>by have:=(hd i m1).1 h;rw[<-hgd i m1,m2] at this;cases this
    have de:=λb hb'=>(hd b (by have:=B i m1 b hb';omega)).2 (m3 b hb');refine⟨m1,nd,λj hj=>SC ops hj done cl de,?_⟩;refine RU B fuel _ _ _ (by simpa using hs) ?_ ?_ ?_ ?_
    ·intro x hx;rw[pT,Array.getElem?_setIfInBounds];by_cases e:i=x
     ·subst e;simp_all
     ·rw[ar e,<-pT];rw[<-hd x hx];constructor
      ·rintro (h|rfl)
       ·exact h
       ·exact absurd rfl e
      ·exact .inl
    ·rintro x (h|rfl)
     ·exact hb x h
     ·exact m1
    ·rintro a (h|rfl) b hb'
     ·exact .inl (cl a h b hb')
     ·exact .inl (de b hb')
    ·have:=count_set m2;omega
theorem RX{P:Program}(hm:P.follows .mixedOrders=true){ops:Array Oper}(B:yX ops)(t:Nat):qY ops.size (yL ops) (λ_=>False) (Region.schedule (P.follows .mixedOrders) ops t):=by
 simp_all;refine RU B _ _ _ _ (by simp) (by simp_all) (λ_ h=>h.elim) (λ_ h=>h.elim) ?_
 ·unfold count;simp
def ja:Nat->(Nat->Bool)->Bool
 |0,_=>true
 |n+1,f=>cond (f n) (ja n f) false
theorem lJ{f:Nat->Bool}:∀{n:Nat},ja n f=true->∀i,i<n->f i=true
 |0,_,i,h=>by omega
 |n+1,e,i,h=>by
  unfold ja at e;cases hf:f n with
  |false=>grind
  |true=>
   simp_all;rcases iE i n with h1|h1
   ·exact lJ e i h1
   grind
def ju(ops:Array Oper)(i:Nat):Option Nat:=(ops[i]?).bind (·.dst)
def isDst(ops:Array Oper)(j t:Nat):Bool:=match ju ops j with
 |some d=>Nat.beq d t
 |none=>false
theorem Ru{ops:Array Oper}{j t:Nat}:isDst ops j t=true↔(ops[j]?).bind (·.dst)=some t:=by
 unfold isDst ju;split
 ·simp_all
 grind
def stat(ops:Array Oper)(ms:List Nat)(n:Nat):Bool:=
 cond (ja ops.size λi=>(oG ops i).all λb=>Nat.blt b i)
  (cond (ja ops.size λi=>match ju ops i with
   |none=>true
   |some t=>cond (Nat.blt t n) (ja i λj=>!isDst ops j t) false)
   (ja ops.size λi=>match ops[i]? with
    |none=>true
    |some o=>(looks ops o).all λt=>ja ops.size λj=>cond (isDst ops j t) (Nat.beq j i||(bit ms i j||bit ms j i)) true)
   false)
  false
theorem mS{a b:Bool}(h:cond a b false=true):a=true/\b=true:=by grind
theorem YB{ops:Array Oper}{n:Nat}(hs:stat ops (oM ops.toList []) n=true):yX ops:=by
 have s1:(ja ops.size λi=>(oG ops i).all λb=>Nat.blt b i)=true:=by
  unfold stat at hs;generalize(ja ops.size λi=>(oG ops i).all λb=>Nat.blt b i)=z at hs⊢;cases z with
  |true=>rfl
  |false=>grind
 intro i hi b hb;have:=lJ s1 i hi;simp_all
def JJ(tm:Tr SV)(d:Option Nat)(tm':Tr SV):Tr SV:=match d with
 |none=>tm
 |some d=>match tm'.get d with
  |some v=>tm.set d v
  |none=>tm.del d
def rn(o:Op):Bool:=match o with
 | .alloc _=>true
 | .box _ _=>true
 | .buildSlice _ _ _=>true
 | .makeSlice _ _ _=>true
 |_=>false
mutual
def uU:SV->Bool
 | .i _ _=>true
 | .b _=>true
 | .s _=>true
 | .v _=>true
 | .nl=>true
 | .ni=>true
 | .agg l=>uV l
 | .aH l=>uV l
 | .fn _ l=>uV l
 | .lp _=>true
 |_=>false
def uV:List SV->Bool
 |[]=>true
 |x::xs=>uU x&&uV xs
end
def Uo(o:Op):List Nat:=o.operands.toList.filterMap λx=>match x with| .tmp t=>some t|_=>none
def K7(tm:Tr SV):List Nat->Bool
 |[]=>true
 |t::ts=>(match tm.get t with|some sv=>uU sv|none=>false)&&K7 tm ts
theorem UQ{tm:Tr SV}:∀{ts:List Nat},K7 tm ts=true->∀t∈ts,∃sv,tm.get t=some sv/\uU sv=true
 |[],_,t,h=>by grind
 |x::ts,e,t,h=>by
  have e:=Bool.and_eq_true_iff.1 e;rcases cO.1 h with rfl|h
  ·grind
  ·exact UQ e.2 t h
def YJ(ops:Array Oper)(ms:List Nat)(i:Nat):Bool:=ja ops.size λj=>cond (Nat.ble j i) true (bit ms j i)
def rh(a b:Nat)(r:Option β):Option β:=cond (Nat.beq a b) r none
noncomputable def lP(x y:Value)(r:Option β):Option β:=open Classical in if x=y then r else none
mutual
noncomputable def IU:SV->SV->Option β->Option β
 | .i k n,.i k' m,r=>cond (decide (k=k')) (cond (ah n m) r none) none
 | .b x,.b y,r=>cond x (cond y r none) (cond y none r)
 | .ptr a x,.ptr a' x',r=>rh a a' (rh x x' r)
 | .sl a x n c,.sl a' x' n' c',r=>rh a a' (rh x x' (rh n n' (rh c c' r)))
 | .gr a x,.gr a' x',r=>rh a a' (rh x x' r)
 | .nl,.nl,r=>r
 | .ni,.ni,r=>r
 | .agg l,.agg l',r=>IV l l' r
 | .v x,.v y,r=>lP x y r
 |_,_,_=>bF 74
noncomputable def IV:List SV->List SV->Option β->Option β
 |[],[],r=>r
 |x::xs,y::ys,r=>IU x y (IV xs ys r)
 |_,_,_=>none
end
structure nF where
 i:Nat
 o:Oper
 tm:Tr SV
 sv:SV
def U1(tm:Tr SV)(o:Op):Bool:=match o with
 | .load _ a=>match dC tm a with
  |some (.ptr _ _)=>true
  |_=>false
 |_=>false
def uR(ms:List Nat)(s:Nat):List nF->List nF
 |[]=>[]
 |x::xs=>cond (bit ms s x.i) (uR ms s xs) (x::uR ms s xs)
theorem UB{ms:List Nat}{s:Nat}{x:nF}:∀{pe:List nF},x∈pe->bit ms s x.i=true\/x∈uR ms s pe
 |y::pe,h=>by
  unfold uR;rcases cO.1 h with rfl|h
  ·grind
  ·rcases UB h with k|k
   ·exact .inl k
   grind
def zR{α:Type}:List Oper->Tr α->Tr α
 |[],t=>t
 |o::os,t=>zR os (match o.dst with|some d=>t.del d|none=>t)
theorem RT{α:Type}:∀{os:List Oper}{t:Tr α}{k:Nat}{v:α},(zR os t).get k=some v↔(∀o∈os,o.dst≠some k)/\t.get k=some v
 |[],t,k,v=>by simp[zR]
 |o::os,t,k,v=>by
  unfold zR;rw[RT];cases hd:o.dst with
  |none=>grind
  |some d=>
   simp[Tr.rk]
   grind
theorem UP:∀{l:List SV},uV l=true->∀x∈l,uU x=true
 |y::l,h,x,hx=>by
  simp only[uV,bq] at h;rcases cO.1 hx with rfl|hx
  ·exact h.1
  ·exact UP h.2 x hx
theorem UO{σ σ':Ren}(hl:∀b i v,σ.lit b i=some v->σ'.lit b i=some v){x:SV}{v:Value}(d:DV σ x v):uU x=true->DV σ' x v:=by
 have mem:∀{l:List SV}{i:Nat}{x:SV},uV l=true->l[i]? =some x->uU x=true:=λh e=>UP h _ (nB e)
 induction d with
 |i=>exactλ_=>.i _ _
 |b=>exactλ_=>.b _
 |s=>exactλ_=>.s _
 |v h h1=>exactλ_=>.v (h.mono hl) h1
 |nl=>exactλ_=>.nl
 |agg kl _ ih=>exactλp=>.agg kl λi x y a b=>ih i x y a b (mem p a)
 |aH kl _ ih=>exactλp=>.aH kl λi x y a b=>ih i x y a b (mem p a)
 |lp h=>exactλ_=>.lp (h.mono hl)
 |fn kl _ ih=>exactλp=>.fn kl λi x y a b=>ih i x y a b (mem p a)
 |ni=>exactλ_=>.ni
 |_=>intro p;cases p
theorem Mem.lits{B:Bs}{σ:Ren}{G:Nat->SO->Prop}{F:Nat->Prop}{w w':World}(M:Mem B σ G F w)(fr:eH (λ_=>False) w w'){m:Nat->Nat->Option Value}(e:∀b i v,σ.lit b i=some v->m b i=some v)(k:∀b i v,m b i=some v->fD w' b i=some v)
 (n:∀b i v,m b i=some v->σ.lit b i=some v\/w.heap.size<=b):Mem B ⟨σ.nm,m⟩ G F w':=by
 have E:Ext σ ⟨σ.nm,m⟩:=⟨λ_ _ h=>h,e⟩;have M':=M.same fr;refine⟨λid so h=>(M'.obj id so h).mono E λ_ _ _=>rfl,M.inj,M.fresh,k,λb i v h q=>?_,M'.base,M.owned,λb i v h=>?_,M.jY,λb i v h=>e b i v (M.na b i v h)⟩
 ·rcases n b i v h with p|p
  ·exact M.free b i v p q
  ·obtain⟨id,so,o,n,h1,h2,h3⟩:=q;have:=M.lt h1 h2;omega
 ·rcases n b i v h with p|p
  ·exact M.lW b i v p
  ·exact .inr (.inr (fG M.base.size p))
theorem oN{id:Nat}{so:SO}(h:hG .nil id so):False:=by have h:(Tr.nil:Tr SO).get id=some so:=h;rw[Tr.get_nil] at h;cases h
def Ay(w:World)(own:Nat->Prop)(m:Nat->Nat->Option Value):Bs:=⟨w,own,m,0,λ_=>none,0,[]⟩
theorem zo(x:Value)(r:Option β):lP x x r=r:=by unfold lP;rw[az rfl]
theorem aay{x y:Value}{r:Option β}{b:β}(e:lP x y r=some b):x=y/\r=some b:=by
 unfold lP at e
 grind
theorem sI{a b:Nat}{r:Option β}{c:β}(e:rh a b r=some c):a=b/\r=some c:=by obtain⟨h,e⟩:=bc e;exact⟨bT h,e⟩
mutual
theorem Qu:∀(x y:SV)(r:Option β)(b:β),IU x y r=some b->x=y/\r=some b
 | .i k n,.i k' m,r,b,e=>by obtain⟨h1,e1⟩:=bc e;obtain⟨h2,e2⟩:=bc e1;have h1:=oo h1;rw[zG] at h2;exact⟨by rw[h1,eq_of_beq h2],e2⟩
 | .b x,.b y,r,b,e=>by cases x<;>cases y<;>first|exact⟨rfl,e⟩|cases e
 | .ptr a x,.ptr a' x',r,b,e=>by obtain⟨h1,e1⟩:=sI e;obtain⟨h2,e2⟩:=sI e1;exact⟨by rw[h1,h2],e2⟩
 | .sl a x n c,.sl a' x' n' c',r,b,e=>by obtain⟨h1,e1⟩:=sI e;obtain⟨h2,e2⟩:=sI e1;obtain⟨h3,e3⟩:=sI e2;obtain⟨h4,e4⟩:=sI e3;exact⟨by rw[h1,h2,h3,h4],e4⟩
 | .gr a x,.gr a' x',r,b,e=>by obtain⟨h1,e1⟩:=sI e;obtain⟨h2,e2⟩:=sI e1;exact⟨by rw[h1,h2],e2⟩
 | .nl,.nl,r,b,e=>⟨rfl,e⟩
 | .ni,.ni,r,b,e=>⟨rfl,e⟩
 | .agg l,.agg l',r,b,e=>by obtain⟨h1,h2⟩:=Qv l l' r b e;exact⟨by rw[h1],h2⟩
 | .v x,.v y,r,b,e=>by obtain⟨h1,h2⟩:=aay e;exact⟨by rw[h1],h2⟩
theorem Qv:∀(x y:List SV)(r:Option β)(b:β),IV x y r=some b->x=y/\r=some b
 |[],[],r,b,e=>⟨rfl,e⟩
 |x::xs,y::ys,r,b,e=>by obtain⟨h1,e⟩:=Qu x y _ b e;obtain⟨h2,e⟩:=Qv xs ys r b e;exact⟨by rw[h1,h2],e⟩
end
class QF where
 q:FuncId->Bool
variable[QF]
def JF(o:Op):Bool:=match o with
 | .call c=>match c.callee with
  | .value (.func f)=>QF.q f
  |_=>false
 |_=>false
def Al(X:ed)(pt:FuncId->Option (cy β))(st:St)(o:Oper)(K:SV->Option β):Option β:=match o.op with
 | .pick c a b=>ob (dC st.tm c) λv=>match v with
  | .b x=>cond x (ob (dC st.tm a) K) (ob (dC st.tm b) K)
  |_=>none
 |op=>cond (JF op) (cond (K7 st.tm (Uo op)) (BM X pt ⟨jf st.tm (Uo op) .nil,.nil,st.sx⟩ op λp v _=>cond p none (cond (uU v) (K v) (bF 76))) (bF 75)) (BM X pt st op λp v _=>cond p none (K v))
def pL(o:Op):Bool:=match o with
 | .pick _ _ _=>true
 |o=>JF o||mE o
def xc(ops:Array Oper)(ms:List Nat)(i:Nat):Bool:=
 ja ops.size λj=>match ops[j]? with
  |some o=>pL o.op||(rn o.op||(bit ms i j||bit ms j i))
  |none=>true
def Uv(ops:Array Oper)(ms:List Nat)(i:Nat):Bool:=
 ja i λj=>match ops[j]? with
  |some o=>pL o.op||(rn o.op||bit ms i j)
  |none=>true
noncomputable def Ap(X:ed)(pt:FuncId->Option (cy β))(ms:List Nat)(s:Nat)(st:St):List nF->Option β->Option β
 |[],r=>r
 |x::xs,r=>cond (bit ms s x.i) (Ap X pt ms s st xs r) (cond (pL x.o.op) (Al X pt ⟨x.tm,st.h,st.sx⟩ x.o λsv=>IU x.sv sv (Ap X pt ms s st xs r)) none)
noncomputable def oE(X:ed)(pt:FuncId->Option (cy β))(ops:Array Oper)(ms:List Nat):List Oper->Nat->St->Tr SO->List Nat->List nF->(Option SV->St->Option β)->Option β
 |[],_,st,_,_,_,K=>K none st
 |o::os,i,st,hL,ks,pe,K=>C8 ops st.tm o λw tm1=>cond w
  (cond (pL o.op)
   (cond (U1 tm1 o.op&&!xc ops ms i)
    (cond (Uv ops ms i) (Al X pt ⟨jf tm1 (looks ops o) .nil,hL,st.sx⟩ o λsv=>oE X pt ops ms os (i+1) {st with tm:=km tm1 o.dst sv} hL ks (⟨i,o,jf tm1 (looks ops o) .nil,sv⟩::pe) K) (bF 73))
    (Al X pt ⟨jf tm1 (looks ops o) .nil,cond (xc ops ms i) hL .nil,st.sx⟩ o λsv=>oE X pt ops ms os (i+1) {st with tm:=km tm1 o.dst sv} hL ks pe K))
   (cond (rn o.op)
    (qA X ⟨jf tm1 (looks ops o) .nil,.nil,st.sx⟩ o.op λsv so=>oE X pt ops ms os (i+1) ⟨km tm1 o.dst sv,st.h.set st.sx so,st.sx+1⟩ hL (i::ks) pe K)
    (cond (ks.all λj=>bit ms i j) (Ak X pt {st with tm:=jf tm1 (looks ops o) .nil} o λq st'=>match q with
     |none=>Ap X pt ms i st' pe (oE X pt ops ms os (i+1) ⟨JJ tm1 o.dst st'.tm,st'.h,st'.sx⟩ st'.h (i::ks) (uR ms i pe) K)
     |some v=>cond (YJ ops ms i) (K (some v) ⟨zR ops.toList tm1,st'.h,st'.sx⟩) (bF 71)) (bF 72))))
  (oE X pt ops ms os (i+1) {st with tm:=km tm1 o.dst (.aH [])} hL ks pe K)
theorem KJ{P:Program}{X:ed}(OK:iF P X){pt:FuncId->Option (cy β)}(PT:mP P pt){o:Oper}(hq:pL o.op=true){st:St}{K:SV->Option β}{b:β}(e:Al X pt st o K=some b):
 ∃sv,K sv=some b/\r9 P o st sv:=by
 unfold Al at e;split at e
 ·rename_i c x y hop;obtain⟨v,k1,e⟩:=ay e;split at e
  ·rename_i q;have run:∀{σ:Ren}{a:Act}{w:World},Ev σ st.tm a->(execOp a.eval o).run P w=.ok (.value (cond q (a.eval x) (a.eval y))) w:=by
    intro σ a w R;have d:=(dV R k1).bv;unfold execOp;simp only[hop,d,asBool,da,eG,eE];cases q<;>rfl
   cases q with
   |true=>obtain⟨u,k2,e⟩:=ay e;exact⟨u,e,λa R s M K Q k=>qR (run R) (k _ _ _ (Ext.refl _) (dV R k2) M)⟩
   |false=>obtain⟨u,k2,e⟩:=ay e;exact⟨u,e,λa R s M K Q k=>qR (run R) (k _ _ _ (Ext.refl _) (dV R k2) M)⟩
  ·cases e
 ·rename_i hnp;cases hc:JF o.op with
  |true=>
   rw[hc] at e;obtain⟨hp,e⟩:=bc e;obtain⟨p,sv,st',h1,h2,hx,h3,_⟩:=Ou OK PT e;cases p with
   |true=>cases h1
   |false=>
    obtain⟨hs,h1⟩:=bc h1;refine⟨sv,h1,λ{B σ G F w} a R s M K Q k=>?_⟩
    let σ0:Ren:=⟨λ_=>none,σ.lit⟩
    have M0:Mem (Ay w (λ_=>False) σ.lit) σ0 (hG .nil) (λ_=>True) w:=
     ⟨λid so h=>(oN h).elim,λi j so so' o o' n n' h=>(oN h).elim,λ_ _=>rfl,M.lit,λb i v _ ⟨id,so,o,n,h,_⟩=>oN h,eH.refl _ _,λb ⟨id,so,o,n,h,_⟩=>(oN h).elim,λb i v h=>.inl h,λk hk=>(Nat.not_lt_zero k hk).elim,λ_ _ _ h=>h⟩
    refine h3 (σ:=σ0) a (λt u hu=>?_) (λ_ _ _=>trivial) M0 K Q λσ' v w' E dv M'=>?_
    ·rcases Aj _ _ _ _ hu with⟨q1,q2⟩|q
     ·obtain⟨u',q3,q4⟩:=UQ hp t q1;rw[q2] at q3;cases q3;exact UO (σ:=σ) (σ':=σ0) (λ_ _ _ h=>h) (R t u q2) q4
     ·rw[Tr.get_nil] at q;cases q
    ·have ml:=M.lits M'.base E.lit M'.lit λb i v h=>by
      rcases M'.lW b i v h with q|q|q
      ·exact .inl q
      ·exact q.elim
      ·exact .inr q
     exact k ⟨σ.nm,σ'.lit⟩ v w' ⟨λ_ _ h=>h,E.lit⟩ (UO (σ:=σ') (σ':=⟨σ.nm,σ'.lit⟩) (λ_ _ _ h=>h) dv hs) ml
  |false=>
   rw[hc,aF] at e;obtain⟨p,sv,st',h1,h2,hx,h3,h4⟩:=Ou OK PT e;have hqb:mE o.op=true:=by
    unfold pL at hq;split at hq
    ·rename_i c x y hop;exact absurd hop (hnp c x y)
    ·rw[hc] at hq;simpa using hq
   obtain⟨rfl,h5⟩:=h4 hqb;exact⟨sv,h1,h5⟩
end
section
variable{β:Type}
variable[QF]
structure Rc where
 k:Nat
 v:SV
 h:Tr SO
 x:Nat
def o7(P:Program)(ops:Array Oper)(i:Nat)(o:Oper)(tm:Tr SV)(v:SV)(hl:Tr SO):Prop:=
 ∀{B:Bs}{σ:Ren}{G:Nat->SO->Prop}{F:Nat->Prop}{w:World}(a:Act),Ev σ tm a->(∀id so,hl.get id=some so->G id so)->Mem B σ G F w->∀(K:Act->World->Prop) Q,
  (∀σ' u w',Ext σ σ'->DV σ' v u->Mem B σ' G F w'->K (a.put o.dst u) w')->wpOp P ops Q i K a w
def Zg(P:Program)(ops:Array Oper)(o:Oper)(tm:Tr SV)(v:SV)(so:SO)(x:Nat):Prop:=
 ∀{σ:Ren}(a:Act),Ev σ tm a->Region.wanted o (yielded ops a.tmps)=true/\∀w,∃u w',(execOp a.eval o).run P w=.ok (.value u) w'/\eH (λ_=>False) w w'/\
  ∀σ' c n,Ext σ σ'->σ'.nm x=some (some (w.heap.size,c),n)->DV σ' v u/\DO σ' w' x so
def Hy(P:Program)(ops:Array Oper)(i:Nat)(o:Oper)(tm:Tr SV)(v:SV)(h:Tr SO)(x:Nat)(h':Tr SO)(x':Nat)(p:Bool):Prop:=
 ∀{B:Bs}{σ:Ren}{F:Nat->Prop}{w:World}(a:Act),Ev σ tm a->(∀id,x<=id->id<x'->F id)->Mem B σ (hG h) F w->∀(K:Act->World->Prop) Q,
  (∀σ' u w',Ext σ σ'->DV σ' v u->Mem B σ' (hG h') (lN F x x') w'->cond p (Q (.panic [pe u]) a w') (K (a.put o.dst u) w'))->wpOp P ops Q i K a w
def o6(ops:Array Oper)(s i:Nat)(R:Nat->Rc)(tm0 tm:Tr SV):Prop:=∀t sv,tm.get t=some sv->(∃j,s<=j/\j<i/\ju ops j=some t/\(R j).v=sv)\/((∀j,s<=j->j<i->ju ops j≠some t)/\tm0.get t=some sv)
def yK(s:Nat)(hL:Tr SO)(R:Nat->Rc)(i:Nat)(h:Tr SO):Prop:=(∃p,s<=p/\p<i/\(R p).k=2/\(∀q,p<q->q<i->(R q).k≠2)/\h=(R (p+1)).h)\/((∀q,s<=q->q<i->(R q).k≠2)/\h=hL)
def Ck(ops:Array Oper)(o:Oper)(tm:Tr SV):Prop:=∀t sv,tm.get t=some sv->t∈looks ops o
structure Fact(P:Program)(ops:Array Oper)(ms:List Nat)(s m:Nat)(tm0:Tr SV)(hL:Tr SO)(ks:List Nat)(R:Nat->Rc)(i:Nat)(o:Oper)(tm:Tr SV):Prop where
 op:ops[i]? =some o
 UL:o6 ops s i R tm0 tm
 only:Ck ops o tm
 le:(R i).x<=(R (i+1)).x
 kind:((R i).k=0/\(R (i+1)).h=(R i).h/\(R (i+1)).x=(R i).x/\(o7 P ops i o tm (R i).v .nil\/∃h,yK s hL R i h/\o7 P ops i o tm (R i).v h/\
  (xc ops ms i=true\/Uv ops ms i=true/\∀j,i<j->j<m->(R j).k=2->(∀l,i<l->l<=j->(R l).k=2->bit ms l i=false)->o7 P ops i o tm (R i).v (R (j+1)).h)))\/
  ((R i).k=1/\rn o.op=true/\∃so,Zg P ops o tm (R i).v so (R i).x/\(R (i+1)).h=(R i).h.set (R i).x so/\(R (i+1)).x=(R i).x+1)\/
  ((R i).k=2/\Hy P ops i o tm (R i).v (R i).h (R i).x (R (i+1)).h (R (i+1)).x false/\pL o.op=false/\rn o.op=false/\(∀j,s<=j->j<i->(R j).k≠0->bit ms i j=true)/\∀j∈ks,bit ms i j=true)
def O0(ops:Array Oper)(x:nF):Prop:=ops[x.i]? =some x.o/\∀{σ:Ren}{a:Act},Ev σ x.tm a->Region.wanted x.o (yielded ops a.tmps)=true
def Fin(P:Program)(ops:Array Oper)(ms:List Nat)(s e m:Nat)(tm0:Tr SV)(ks:List Nat)(R:Nat->Rc)(q:Option SV)(fT:St):Prop:=match q with
 |none=>m=e/\fT.h=(R m).h/\fT.sx=(R m).x/\o6 ops s m R tm0 fT.tm
 |some sv=>∃o tm,ops[m]? =some o/\m<e/\o6 ops s m R tm0 tm/\Ck ops o tm/\Hy P ops m o tm sv (R m).h (R m).x fT.h fT.sx true/\(R m).x<=fT.sx/\YJ ops ms m=true/\(∀j,s<=j->j<m->(R j).k≠0->bit ms m j=true)/\(∀j∈ks,bit ms m j=true)/\
  pL o.op=false/\rn o.op=false/\∀t u,fT.tm.get t=some u->(∀o∈ops.toList,o.dst≠some t)/\tm0.get t=some u
def Out(P:Program)(ops:Array Oper)(ms:List Nat)(s e:Nat)(st:St)(hL:Tr SO)(ks:List Nat)(ps:List nF)(K:Option SV->St->Option β)(b:β):Prop:=
 ∃(R:Nat->Rc)(m:Nat)(q:Option SV)(fT:St),K q fT=some b/\s<=m/\m<=e/\(R s).h=st.h/\(R s).x=st.sx/\(∀i,s<=i->i<m->∃o tm,Fact P ops ms s m st.tm hL ks R i o tm)/\
  (∀x∈ps,∀j,s<=j->j<m->(R j).k=2->(∀l,s<=l->l<=j->(R l).k=2->bit ms l x.i=false)->o7 P ops x.i x.o x.tm x.sv (R (j+1)).h)/\Fin P ops ms s e m st.tm ks R q fT
theorem o6.step{ops:Array Oper}{s i:Nat}{R R':Nat->Rc}{tm0 tm1 tm:Tr SV}{o:Oper}(ho:ops[s]? =some o)(hs:s<i)(hR:∀j,s<j->R j=R' j)(sb:Sub tm1 tm0)(h:o6 ops (s+1) i R' (km tm1 o.dst (R s).v) tm):o6 ops s i R tm0 tm:=λt sv ht=>by
 have hd:ju ops s=o.dst:=by simp[ju,ho]
 rcases h t sv ht with⟨j,h1,h2,h3,h4⟩|⟨h1,h2⟩
 ·exact .inl ⟨j,by omega,h2,h3,by rw[hR j (by omega)];exact h4⟩
 ·cases hdst:o.dst with
  |none=>
   rw[hdst] at h2;refine .inr ⟨λj j1 j2=>?_,sb _ _ h2⟩;rcases Nat.eq_or_lt_of_le j1 with rfl|j1
   ·rw[hd,hdst];simp
   ·exact h1 j j1 j2
  |some d=>
   rw[hdst] at h2;have h2:(tm1.set d (R s).v).get t=some sv:=h2;rw[Tr.fA] at h2;by_cases q:t=d
   ·rw[az q] at h2;exact .inl ⟨s,aL _,hs,by rw[hd,hdst,q],by cases h2;rfl⟩
   ·rw[ar q] at h2;refine .inr ⟨λj j1 j2=>?_,sb _ _ h2⟩;rcases Nat.eq_or_lt_of_le j1 with rfl|j1
    ·rw[hd,hdst];simpa using Ne.symm q
    ·exact h1 j j1 j2
theorem yK.step{s i:Nat}{R R':Nat->Rc}{hL hL1 h:Tr SO}(hs:s<i)(hR:∀j,s<j->R j=R' j)(hl:(R s).k=2/\hL1=(R' (s+1)).h\/(R s).k≠2/\hL1=hL)(k:yK (s+1) hL1 R' i h):yK s hL R i h:=by
 rcases k with⟨p,h1,h2,h3,h4,h5⟩|⟨h1,h2⟩
 ·exact .inl ⟨p,by omega,h2,by rw[hR p h1];exact h3,λq q1 q2=>by rw[hR q (by omega)];exact h4 q q1 q2,by rw[hR _ (by omega)];exact h5⟩
 ·rcases hl with⟨k1,k2⟩|⟨k1,k2⟩
  ·exact .inl ⟨s,aL _,hs,k1,λq q1 q2=>by rw[hR q q1];exact h1 q q1 q2,by rw[hR _ (kA _),h2,k2]⟩
  ·refine .inr ⟨λq q1 q2=>?_,by rw[h2,k2]⟩;rcases Nat.eq_or_lt_of_le q1 with rfl|q1
   ·exact k1
   ·rw[hR q q1];exact h1 q q1 q2
theorem Out.cons{P:Program}{ops:Array Oper}{ms:List Nat}{s e:Nat}{st st1:St}{hL hL1:Tr SO}{ks ks1:List Nat}{ps ps1:List nF}{K:Option SV->St->Option β}{b:β}{o:Oper}(ho:ops[s]? =some o){k:Nat}{v:SV}{tm1:Tr SV}(ht:st1.tm=km tm1 o.dst v)(sb:Sub tm1 st.tm)
 (hl:k=2/\hL1=st1.h\/k≠2/\hL1=hL) (hk:k≠0/\ks1=s::ks\/k=0/\ks1=ks) (hp:∀x∈ps,x∈ps1\/k=2/\bit ms s x.i=true) (hp2:k=2->∀x∈ps,bit ms s x.i=false->o7 P ops x.i x.o x.tm x.sv st1.h) (hx:st.sx<=st1.sx)
 (hf:∀(R:Nat->Rc)(m:Nat),(R s)=⟨k,v,st.h,st.sx⟩->(R (s+1)).h=st1.h->(R (s+1)).x=st1.sx->(∀x∈ps1,∀j,s+1<=j->j<m->(R j).k=2->(∀l,s+1<=l->l<=j->(R l).k=2->bit ms l x.i=false)->o7 P ops x.i x.o x.tm x.sv (R (j+1)).h)->∃tm,Fact P ops ms s m st.tm hL ks R s o tm)
 (O:Out P ops ms (s+1) e st1 hL1 ks1 ps1 K b):Out P ops ms s e st hL ks ps K b:=by
 obtain⟨R',m,q,fT,h1,h2,h3,h4,h5,h6,h7,h8⟩:=O
 let R:Nat->Rc:=λi=>if i=s then⟨k,v,st.h,st.sx⟩ else R' i
 have hs:R s=⟨k,v,st.h,st.sx⟩:=az rfl;have hR:∀j,s<j->R j=R' j:=λj hj=>ar (by omega);have hl':(R s).k=2/\hL1=(R' (s+1)).h\/(R s).k≠2/\hL1=hL:=by rw[hs,h4];exact hl
 have hv:(R s).v=v:=by rw[hs]
 have bits:∀{i:Nat},(∀j,s+1<=j->j<i->(R' j).k≠0->bit ms i j=true)->(∀j∈ks1,bit ms i j=true)->(∀j,s<=j->j<i->(R j).k≠0->bit ms i j=true)/\∀j∈ks,bit ms i j=true:=by
  intro i b1 b2;refine⟨λj j1 j2 j3=>?_,λj hj=>b2 j ?_⟩
  ·rcases Nat.eq_or_lt_of_le j1 with rfl|j1
   ·rw[hs] at j3;rcases hk with⟨_,q⟩|⟨q,_⟩
    ·exact b2 _ (by rw[q];simp)
    ·exact absurd q j3
   ·rw[hR j j1] at j3;exact b1 j j1 j2 j3
  ·rcases hk with⟨_,q⟩|⟨_,q⟩
   ·rw[q];exact mJ _ hj
   ·rw[q];exact hj
 have pv:∀{i:Nat}{tm:Tr SV},s<i->o6 ops (s+1) i R' st1.tm tm->o6 ops s i R st.tm tm:=λhi h=>o6.step ho hi hR sb (by rw[hv,<-ht];exact h);have pq:∀x∈ps1,∀j,s+1<=j->j<m->(R j).k=2->(∀l,s+1<=l->l<=j->(R l).k=2->bit ms l x.i=false)->o7 P ops x.i x.o x.tm x.sv (R (j+1)).h:=by intro x hx j j1 j2 j3 j4;rw[hR j j1] at j3;rw[hR (j+1) (by omega)];exact h7 x hx j j1 j2 j3 λl l1 l2 l3=>j4 l l1 l2 (by rw[hR l l1];exact l3)
 refine⟨R,m,q,fT,h1,by omega,h3,by rw[hs],by rw[hs],λi i1 i2=>?_,λx hx j j1 j2 j3 j4=>?_,?_⟩
 ·rcases Nat.eq_or_lt_of_le i1 with rfl|i1
  ·obtain⟨tm,f⟩:=hf R m hs (by rw[hR _ (kA _),h4]) (by rw[hR _ (kA _),h5]) pq;exact⟨o,tm,f⟩
  ·obtain⟨o',tm,f⟩:=h6 i i1 i2;have e1:=hR i i1;have e2:=hR (i+1) (by omega);refine⟨o',tm,f.op,pv i1 f.UL,f.only,by rw[e1,e2];exact f.le,?_⟩;rw[e1,e2];rcases f.kind with⟨a1,a2,a3,a4⟩|a|⟨a1,a2,a3,a4,a5,a6⟩
   ·refine .inl ⟨a1,a2,a3,?_⟩;rcases a4 with a4|⟨h,b1,b2,b3⟩
    ·exact .inl a4
    ·refine .inr ⟨h,b1.step i1 hR hl',b2,?_⟩;rcases b3 with b3|⟨b3,b4⟩
     ·exact .inl b3
     ·exact .inr ⟨b3,λj j1 j2 j3 j4=>by rw[hR j (by omega)] at j3;rw[hR (j+1) (by omega)];exact b4 j j1 j2 j3 λl l1 l2 l3=>j4 l l1 l2 (by rw[hR l (by omega)];exact l3)⟩
   ·exact .inr (.inl a)
   ·exact .inr (.inr ⟨a1,a2,a3,a4,bits a5 a6⟩)
 ·rcases Nat.eq_or_lt_of_le j1 with rfl|j1
  ·rw[hs] at j3;rw[hR _ (kA _),h4];exact hp2 j3 x hx (j4 s (aL _) (aL _) (by rw[hs];exact j3))
  ·rcases hp x hx with q|⟨q1,q2⟩
   ·exact pq x q j j1 j2 j3 λl l1 l2 l3=>j4 l (by omega) l2 l3
   ·have:=j4 s (aL _) (by omega) (by rw[hs];exact q1);rw[q2] at this;cases this
 ·cases q with
  |none=>obtain⟨a1,a2,a3,a4⟩:=h8;exact⟨a1,by rw[hR m (by omega)];exact a2,by rw[hR m (by omega)];exact a3,pv (by omega) a4⟩
  |some sv=>
   obtain⟨o',tm,a1,a2,a3,a4,a5,a6,a7,a8,a9,a10,a11,a12⟩:=h8;rw[<-hR m (by omega)] at a5 a6;refine⟨o',tm,a1,a2,pv (by omega) a3,a4,a5,a6,a7,(bits a8 a9).1,(bits a8 a9).2,a10,a11,λt u hu=>?_⟩;obtain⟨c1,c2⟩:=a12 t u hu;refine⟨c1,sb _ _ ?_⟩;rw[ht] at c2;have:=c1 o (Array.mem_toList_iff.2 (Array.mem_of_getElem? ho));cases hd:o.dst with
   |none=>rw[hd] at c2;exact c2
   |some d=>rw[hd] at c2;have c2:(tm1.set d v).get t=some u:=c2;rw[Tr.fA,ar (by rw[hd] at this;simpa using Ne.symm this)] at c2;exact c2
end
section
variable{β:Type}
theorem Lj{P:Program}{ops:Array Oper}{i:Nat}{o:Oper}{tm:Tr SV}{h:Tr SO}{sx:Nat}{sv:SV}(ho:ops[i]? =some o)(g:∀{σ:Ren}{a:Act},Ev σ tm a->Region.wanted o (yielded ops a.tmps)=true)(d:r9 P o ⟨tm,h,sx⟩ sv):o7 P ops i o tm sv h:=λa R s M K Q k=>by unfold wpOp;simp only[ho,g R,dW];exact .inl (d a R s M K Q k)
theorem KS[QF]{P:Program}{X:ed}(OK:iF P X){pt:FuncId->Option (cy β)}(PT:mP P pt){ops:Array Oper}{ms:List Nat}{s:Nat}{st:St}:∀{ps:List nF}{r:Option β}{b:β},Ap X pt ms s st ps r=some b->(∀x∈ps,O0 ops x)->r=some b/\∀x∈ps,bit ms s x.i=false->o7 P ops x.i x.o x.tm x.sv st.h
 |[],r,b,e,_=>⟨e,λ_ h=>by cases h⟩
 |x::ps,r,b,e,hp=>by
  have hp':=λy hy=>hp y (mJ x hy);unfold Ap at e;cases hb:bit ms s x.i with
  |true=>
   rw[hb,aE] at e;obtain⟨h1,h2⟩:=KS OK PT e hp';refine⟨h1,λy hy q=>?_⟩;rcases cO.1 hy with rfl|hy
   ·rw[hb] at q;cases q
   ·exact h2 y hy q
  |false=>
   rw[hb,aF] at e;obtain⟨hq,e⟩:=bc e;obtain⟨sv,e,d⟩:=KJ OK PT hq e;obtain⟨e1,e⟩:=Qu _ _ _ _ e;obtain⟨h1,h2⟩:=KS OK PT e hp';refine⟨h1,λy hy q=>?_⟩;rcases cO.1 hy with rfl|hy
   ·obtain⟨p1,p2⟩:=hp y (nA ..);rw[e1];exact Lj p1 p2 d
   ·exact h2 y hy q
theorem KT{ms:List Nat}{s:Nat}{x:nF}:∀{ps:List nF},x∈uR ms s ps->x∈ps
 |y::ps,h=>by
  unfold uR at h;cases hb:bit ms s y.i with
  |true=>rw[hb] at h;exact mJ _ (KT h)
  |false=>
   rw[hb] at h;rcases cO.1 h with rfl|h
   ·exact nA ..
   ·exact mJ _ (KT h)
theorem abN{tm1 tm2:Tr SV}{d:Option Nat}{ts:List Nat}{v:SV}(h:tm2=km (jf tm1 ts .nil) d v):JJ tm1 d tm2=km tm1 d v:=by
 subst h;cases d with
 |none=>rfl
 |some d=>simp[JJ,km,Tr.fA]
theorem xa{ops:Array Oper}{o:Oper}{tm:Tr SV}:Ck ops o (jf tm (looks ops o) .nil):=λt sv h=>by
 rcases Aj _ _ _ _ h with⟨q,_⟩|q
 ·exact q
 ·rw[Tr.get_nil] at q;cases q
theorem wC[QF]{P:Program}{X:ed}(OK:iF P X){pt:FuncId->Option (cy β)}(PT:mP P pt){ops:Array Oper}{ms:List Nat}:∀(os:List Oper)(s:Nat),(∀i o,os[i]? =some o->ops[s+i]? =some o)->s+os.length=ops.size->∀(st:St)(hL:Tr SO)(ks:List Nat)(ps:List nF)(K:Option SV->St->Option β)(b:β),
 oE X pt ops ms os s st hL ks ps K=some b->(∀x∈ps,O0 ops x)->Out P ops ms s ops.size st hL ks ps K b
 |[],s,_,hl,st,hL,ks,ps,K,b,e,_=>
  ⟨λ_=>⟨0,.nl,st.h,st.sx⟩,s,none,st,e,aL _,rZ hl,rfl,rfl,λi h1 h2=>by omega,λ_ _ j h1 h2=>by omega,hl,rfl,rfl,λt sv h=>.inr ⟨λj h1 h2=>by omega,h⟩⟩
 |o::os,s,hs,hl,st,hL,ks,ps,K,b,e,hp=>by
  have ho:ops[s]? =some o:=hs 0 o rfl;have hs':∀i o',os[i]? =some o'->ops[s+1+i]? =some o':=λi o' hi=>by have:=hs (i+1) o' (by simpa using hi);rw[show s+1+i=s+(i+1) by omega];exact this
  have hl':s+1+os.length=ops.size:=by rw[<-hl,cm];omega
  unfold oE at e;obtain⟨wt,tm1,e,sb,g⟩:=QT e;have sub:Sub (jf tm1 (looks ops o) .nil) st.tm:=λt sv h=>sb _ _ (Un t sv h);have pr:∀{R:Nat->Rc},o6 ops s s R st.tm (jf tm1 (looks ops o) .nil):=λt sv h=>.inr ⟨λj h1 h2=>by omega,sub t sv h⟩;have lh:∀{R:Nat->Rc},yK s hL R s hL:=.inr ⟨λq h1 h2=>by omega,rfl⟩;cases wt with
  |false=>rw[aF] at e;have O:=wC OK PT os (s+1) hs' hl' _ _ _ _ K b e hp;refine O.cons ho (k:=0) (v:=.aH []) rfl sb (.inr ⟨by decide,rfl⟩) (.inr ⟨rfl,rfl⟩) (λx h=>.inl h) (λq=>by cases q) (by exact aL _) (λR m r1 r2 r3 _=>⟨_,ho,pr,xa,by rw[r1,r3];exact aL _,.inl ⟨by rw[r1],by rw[r1,r2],by rw[r1,r3],.inl ?_⟩⟩);rw[r1];intro B σ G F w a R s M K Q k;unfold wpOp;simp only[ho,g R,kx,gK];exact k σ undef w (Ext.refl _) OM M
  |true=>
   rw[aE] at e;cases hq:pL o.op with
   |true=>
    rw[hq,aE] at e;cases hr:(U1 tm1 o.op&&!xc ops ms s) with
    |true=>
     rw[hr,aE] at e;obtain⟨hB,e⟩:=bc e;obtain⟨sv,e,d⟩:=KJ OK PT hq e;have O:=wC OK PT os (s+1) hs' hl' _ _ _ _ K b e λx h=>(cO.1 h).elim (λq=>by subst q;exact⟨ho,g⟩) (hp x);refine O.cons ho (k:=0) (v:=sv) rfl sb (.inr ⟨by decide,rfl⟩) (.inr ⟨rfl,rfl⟩) (λx h=>.inl (mJ _ h)) (λq=>by cases q) (by exact aL _)
      (λR m r1 r2 r3 pq=>⟨_,ho,pr,xa,by rw[r1,r3];exact aL _,.inl ⟨by rw[r1],by rw[r1,r2],by rw[r1,r3],.inr ⟨hL,lh,?_,.inr ⟨hB,λj h1 h2 h3 h4=>?_⟩⟩⟩⟩)
     ·rw[r1];exact Lj ho g d
     ·rw[r1];exact pq _ (nA ..) j h1 h2 h3 h4
    |false=>
     rw[hr,aF] at e;obtain⟨sv,e,d⟩:=KJ OK PT hq e;have O:=wC OK PT os (s+1) hs' hl' _ _ _ _ K b e hp;refine O.cons ho (k:=0) (v:=sv) rfl sb (.inr ⟨by decide,rfl⟩) (.inr ⟨rfl,rfl⟩) (λx h=>.inl h) (λq=>by cases q) (by exact aL _)
      (λR m r1 r2 r3 pq=>⟨_,ho,pr,xa,by rw[r1,r3];exact aL _,.inl ⟨by rw[r1],by rw[r1,r2],by rw[r1,r3],?_⟩⟩)
     rw[r1];replace d:o7 P ops s o (jf tm1 (looks ops o) .nil) sv (cond (xc ops ms s) hL .nil):=Lj ho g d;cases hd:xc ops ms s with
     |true=>rw[hd] at d;exact .inr ⟨hL,lh,d,.inl rfl⟩
     |false=>rw[hd] at d;exact .inl d
   |false=>
    rw[hq,aF] at e;cases hm:rn o.op with
    |true=>
     rw[hm,aE] at e;obtain⟨sv,so,e,d⟩:=LW OK e;have O:=wC OK PT os (s+1) hs' hl' _ _ _ _ K b e hp;refine O.cons ho (k:=1) (v:=sv) rfl sb (.inr ⟨by decide,rfl⟩) (.inl ⟨by decide,rfl⟩) (λx h=>.inl h) (λq=>by cases q) (by exact o5 _)
      (λR m r1 r2 r3 pq=>⟨_,ho,pr,xa,by rw[r1,r3];exact o5 _,.inr (.inl ⟨by rw[r1],hm,so,?_,by rw[r1,r2],by rw[r1,r3]⟩)⟩)
     rw[r1];intro σ a R;refine⟨g R,λw=>?_⟩;obtain⟨u,w',g1,g2,g3⟩:=d a R w;exact⟨u,w',g1,g2,λσ' c n E h=>by obtain⟨k1,k2,_⟩:=g3 σ' c n E h;exact⟨k1,k2⟩⟩
    |false=>
     rw[hm,aF] at e;obtain⟨hk,e⟩:=bc e;have hk:∀j∈ks,bit ms s j=true:=λj hj=>ij.1 hk j hj;obtain⟨q,sv,st',e,hx,ht,D⟩:=KI OK PT e;have hx:st.sx<=st'.sx:=hx;cases q with
     |none=>
      have ht:st'.tm=km (jf tm1 (looks ops o) .nil) o.dst sv:=by rcases ht with h|h;exact h.2;cases h.1
      obtain⟨e,pq⟩:=KS OK PT e hp;have L:∀{p:Bool},p=false->Hy P ops s o (jf tm1 (looks ops o) .nil) sv st.h st.sx st'.h st'.sx p:=by
       rintro _ rfl B σ F w a R hF M K Q k
       unfold wpOp;simp only[ho,g R,dW];exact .inl (D a R hF M K Q k)
      have O:=wC OK PT os (s+1) hs' hl' _ _ _ _ K b e λx h=>hp x (KT h);refine O.cons ho (k:=2) (v:=sv) (abN ht) sb (by exact .inl ⟨rfl,rfl⟩) (.inl ⟨by decide,rfl⟩) (λx h=>?_) (λ_=>by exact pq) (by exact hx)
       (λR m r1 r2 r3 _=>⟨_,ho,pr,xa,by rw[r1,r3];exact hx,.inr (.inr ⟨by rw[r1],?_,hq,hm,λj h1 h2=>by omega,hk⟩)⟩)
      ·rcases UB (ms:=ms) (s:=s) h with q|q
       ·exact .inr ⟨rfl,q⟩
       ·exact .inl q
      ·rw[r1,r2,r3];exact L rfl
     |some sv'=>
      obtain⟨rfl,_⟩:sv'=sv/\_:=by rcases ht with h|h;cases h.1;exact⟨lH h.1,h.2⟩
      obtain⟨ht,e⟩:=bc e;refine⟨λ_=>⟨0,.nl,st.h,st.sx⟩,s,some sv',_,e,aL _,by rw[<-hl,cm];omega,rfl,rfl,λi h1 h2=>by omega,λ_ _ j h1 h2=>by omega,o,_,ho,by rw[<-hl,cm];omega,pr,xa,?_,hx,ht,λj h1 h2=>by omega,hk,hq,hm,λt u hu=>?_⟩
      ·intro B σ F w a R hF M K Q k;unfold wpOp;simp only[ho,g R,dW];exact .inl (D a R hF M K Q k)
      ·obtain⟨h1,h2⟩:=RT.1 hu;exact⟨h1,sb _ _ h2⟩
end
section
variable{β:Type}
theorem Mem.C6{B:Bs}{σ:Ren}{G h:Nat->SO->Prop}{F:Nat->Prop}{w:World}(M:Mem B σ G F w)(s:∀id so,h id so->G id so):Mem (Ay w (Own σ h) σ.lit) σ h F w:=
 have M1:=M.less s λ_ q=>q
 ⟨M1.obj,M1.inj,M1.fresh,M1.lit,M1.free,eH.refl _ _,λ_ q=>.inl q,λ_ _ _ q=>.inl q,λk hk=>(Nat.not_lt_zero k hk).elim,λ_ _ _ q=>q⟩
theorem Mem.frame{B:Bs}{σ σ':Ren}{G h h':Nat->SO->Prop}{F F':Nat->Prop}{w w':World}(M:Mem B σ G F w)(s:∀id so,h id so->G id so)(E:Ext σ σ')(M':Mem (Ay w (Own σ h) σ.lit) σ' h' F' w'):
 Mem B σ' (λid so=>h' id so\/G id so/\∀so',¬h id so') F' w':=by
 have ow:∀b,Own σ h b->Own σ G b:=λb ⟨id,so,o,n,a,p,q⟩=>⟨id,so,o,n,s _ _ a,p,q⟩;have ow':∀{b},Own σ' h' b->Own σ G b\/w.heap.size<=b:=λq=>(M'.owned _ q).imp (ow _) λq=>q;have nmG:∀{id so o n},G id so->σ'.nm id=some (some o,n)->σ.nm id=some (some o,n):=by intro id so o n g q;rcases(M.obj id so g).nm with k|⟨_,_,k,_⟩<;>rw[E.nm _ _ k] at q<;>cases q;exact k
 have apart:∀{id so o n},G id so->(∀so',¬h id so')->σ'.nm id=some (some o,n)->o.1 <w.heap.size/\¬Own σ h o.1 :=by intro id so o n g q k;have k:=nmG g k;refine⟨M.lt g k,λ⟨id',so',o',n',a,p,r⟩=>?_⟩;have:=M.inj _ _ _ _ _ _ _ _ g (s _ _ a) k p r.symm;subst this;exact q _ a
 have far:∀{b id so o n},Own σ' h' b->G id so->(∀so',¬h id so')->σ'.nm id=some (some o,n)->b≠o.1 :=by
  rintro b id so o n q g k r rfl
  have:=apart g k r;rcases M'.owned _ q with z|z
  ·exact this.2 z
  ·exact Nat.not_le_of_lt this.1 z
 refine⟨λid so q=>?_,λi j so so' o o' n n' a a' b b' c=>?_,M'.fresh,M'.lit,λb i v q ⟨id,so,o,n,a,p,r⟩=>?_,M.base.trans (M'.base.wide ow) M.owned,λb ⟨id,so,o,n,a,p,r⟩=>?_,λb i v q=>?_,λk hk x hx=>E.nm _ _ (M.jY k hk x hx),λb i v q=>E.lit b i v (M.na b i v q)⟩
 ·rcases q with q|⟨q,k⟩
  ·exact M'.obj id so q
  ·exact(M.obj id so q).mono E λo n r=>(have z:=apart q k (E.nm _ _ r);M'.base.block _ z.1 z.2)
 ·rcases a with a|⟨a,k⟩<;>rcases a' with a'|⟨a',k'⟩
  ·exact M'.inj _ _ _ _ _ _ _ _ a a' b b' c
  ·exact absurd c (far ⟨i,so,o,n,a,b,rfl⟩ a' k' b')
  ·exact absurd c.symm (far ⟨j,so',o',n',a',b',rfl⟩ a k b)
  ·exact M.inj _ _ _ _ _ _ _ _ a a' (nmG a b) (nmG a' b') c
 ·rcases a with a|⟨a,k⟩
  ·exact M'.free b i v q ⟨id,so,o,n,a,p,r⟩
  ·have z:=apart a k p;rw[r] at z;rcases M'.lW b i v q with y|y|y
   ·exact M.free b i v y ⟨id,so,o,n,a,nmG a p,r⟩
   ·exact z.2 y
   ·exact Nat.not_le_of_lt z.1 y
 ·rcases a with a|⟨a,k⟩
  ·rcases ow' ⟨id,so,o,n,a,p,r⟩ with q|q
   ·exact M.owned b q
   ·exact .inr (fG M.base.size q)
  ·exact M.owned b ⟨id,so,o,n,a,nmG a p,r⟩
 ·rcases M'.lW b i v q with y|y|y
  ·exact M.lW b i v y
  ·exact .inr (M.owned b (ow b y))
  ·exact .inr (.inr (fG M.base.size y))
theorem ak9{P:Program}{ops:Array Oper}{i:Nat}{a:Act}{w:World}{G:Prop}(h:wpOp P ops (λ_ _ _=>False) i (λ_ _=>G) a w):G:=by
 unfold wpOp at h;split at h
 ·exact h
 split at h
 ·rcases h with h|⟨_,_,_,h⟩
  ·unfold Oper.wp Oper.upon at h;split at h
   ·exact h
   ·exact h
   ·exact h
   ·obtain⟨e,w',fr,r,_⟩:=h [];cases e with
    |returned v=>exact r
    |panicked c=>exact r.elim
    |outgrown=>obtain⟨_,_,r⟩:=r;exact r.elim
   ·obtain⟨v,w',r,_⟩:=h default [];exact r
   ·exact h.elim
   ·exact h.elim
  ·exact h.elim
 ·exact h
def GD(R:Nat->Rc)(D:Nat->Prop)(p m:Nat)(id:Nat)(so:SO):Prop:=(R p).h.get id=some so\/∃j,p<=j/\j<m/\D j/\(R j).k=1/\id=(R j).x/\(R (j+1)).h.get id=some so
def FD(R:Nat->Rc)(D:Nat->Prop)(m id:Nat):Prop:=(R 0).x<=id/\∀j,j<m->D j->id<(R j).x\/(R (j+1)).x<=id
structure Iv(B:Bs)(ops:Array Oper)(ms:List Nat)(R:Nat->Rc)(m:Nat)(tm0:Tr SV)(D:Nat->Prop)(p:Nat)(σ:Ren)(a:Act)(w:World):Prop where
 pm:p<=m
 pk:p=0\/∃q,p=q+1/\(R q).k=2
 lo:∀j,j<m->(R j).k=2->(D j↔j<p)
 Sz:∀j,j<p->(R j).k=1->D j
 sub:∀j,D j->j<m
 cl:∀j l,D j->bit ms j l=true->D l
 size:a.tmps.size=B.n
 dG:a.defers=B.dG
 mem:Mem B σ (GD R D p m) (FD R D m) w
 val:∀j t,D j->ju ops j=some t->DV σ (R j).v (a.eval (.tmp t))
 rest:∀t sv,(∀j,D j->ju ops j≠some t)->tm0.get t=some sv->DV σ sv (a.eval (.tmp t))
structure wg(ops:Array Oper)(ms:List Nat)(n:Nat):Prop where
 lt:∀i j,i<ops.size->bit ms i j=true->j<i
 dn:∀i t,ju ops i=some t->t<n
 one:∀i j t,ju ops i=some t->ju ops j=some t->i=j
 look:∀i o t j,ops[i]? =some o->t∈looks ops o->ju ops j=some t->j=i\/bit ms i j=true\/bit ms j i=true
def Yz(ops:Array Oper)(ms:List Nat)(n:Nat):Bool:=
 cond (ja ops.size λi=>match ju ops i with
  |none=>true
  |some t=>cond (Nat.blt t n) (ja i λj=>!isDst ops j t) false)
  (ja ops.size λi=>match ops[i]? with
   |none=>true
   |some o=>(looks ops o).all λt=>ja ops.size λj=>cond (isDst ops j t) (Nat.beq j i||(bit ms i j||bit ms j i)) true)
  false
theorem Yy{ops:Array Oper}{ms:List Nat}{n:Nat}(lt:∀i j,i<ops.size->bit ms i j=true->j<i)(hs:Yz ops ms n=true):wg ops ms n:=by
 obtain⟨s2,s3⟩:=mS hs;have dlt:∀{i t},ju ops i=some t->i<ops.size:=λh=>by unfold ju at h;obtain⟨o,h,_⟩:=Option.bind_eq_some_iff.1 h;exact(jV.1 h).1
 have d2:∀{i t},ju ops i=some t->t<n/\∀j,j<i->isDst ops j t=false:=λ{i t} h=>by have:=lJ s2 i (dlt h);simp only[h] at this;obtain⟨h1,h2⟩:=mS this;exact⟨eX h1,λj hj=>by simpa using lJ h2 j hj⟩
 have one:∀{i j t},ju ops i=some t->ju ops j=some t->¬j<i:=λh k q=>by have:=(d2 h).2 _ q;rw[Ru.2 k] at this;cases this
 refine⟨lt,λi t h=>(d2 h).1,λi j t h k=>Nat.le_antisymm (Nat.not_lt.1 (one h k)) (Nat.not_lt.1 (one k h)),λi o t j ho ht h=>?_⟩;have:=lJ s3 i (jV.1 ho).1;simp only[ho] at this;have:=lJ (ij.1 this t ht) j (dlt h);rw[Ru.2 h,aE] at this;simp only[qS] at this;exact this.imp bT id
theorem akI{ops:Array Oper}{n:Nat}(hs:stat ops (oM ops.toList []) n=true):wg ops (oM ops.toList []) n:=
 Yy (λi j hi h=>acu (YB hs) hi h) (mS hs).2
section
variable[QF] {P:Program} {ops:Array Oper} {ms:List Nat} {n m:Nat} (S:wg ops ms n) {B:Bs} (hn:B.n=n) {R:Nat->Rc} {tm0:Tr SV} (hm:m<=ops.size) (hf:∀i,i<m->∃o tm,Fact P ops ms 0 m tm0 (R 0).h [] R i o tm) {D:Nat->Prop} {p:Nat} {σ:Ren} {a:Act} {w:World} (I:Iv B ops ms R m tm0 D p σ a w) {i:Nat}
include S hm I in
theorem Iv.ev{o:Oper}{tm:Tr SV}(ho:ops[i]? =some o)(nd:¬D i)(hd:∀j,bit ms i j=true->D j)(pr:o6 ops 0 i R tm0 tm)(on:Ck ops o tm):Ev σ tm a:=λt sv h=>by
 have ht:=on t sv h;have hi:=(jV.1 ho).1;rcases pr t sv h with⟨j,_,h1,h2,rfl⟩|⟨h1,h2⟩
 ·refine I.val j t ?_ h2;rcases S.look i o t j ho ht h2 with q|q|q
  ·omega
  ·exact hd j q
  ·have:=S.lt j i (by omega) q;omega
 ·refine I.rest t sv (λj dj q=>?_) h2;rcases S.look i o t j ho ht q with e|e|e
  ·subst e;exact nd dj
  ·exact h1 j (il _) (S.lt i j hi e) q
  ·exact nd (I.cl j i dj e)
include hf in
theorem qg:∀{j:Nat},i<=j->j<=m->(R i).x<=(R j).x:=by
 intro j h;induction h with
 |refl=>exactλ_=>aL _
 |step h ih=>intro hj;obtain⟨o,tm,f⟩:=hf _ hj;exact fG (ih (Nat.le_of_lt hj)) f.le
include hf I in
theorem Iv.G8(hi:i<=m)(hd:∀j,j<i->(R j).k≠0->D j):∀{q:Nat},p<=q->q<=i->∀id so,(R q).h.get id=some so->GD R D p m id so:=by
 intro q hq;induction hq with
 |refl=>exactλ_ id so h=>.inl h
 |@step q hq ih=>
  intro qi id so h;have ih:=ih (Nat.le_of_lt qi);obtain⟨o,tm,f⟩:=hf q (om qi hi);rcases f.kind with⟨_,e,_⟩|⟨k1,_,so0,_,e,_⟩|⟨k2,_⟩
  ·rw[e] at h;exact ih id so h
  ·by_cases c:id=(R q).x
   ·exact .inr ⟨q,hq,om qi hi,hd q qi (by rw[k1];decide),k1,c,h⟩
   ·rw[e,Tr.fA,ar c] at h;exact ih id so h
  ·have:=(I.lo q (om qi hi) k2).1 (hd q qi (by rw[k2];decide));exact absurd hq (Nat.not_le_of_lt this)
include S hn hm hf I in
theorem Iv.step(hi:i<m)(nd:¬D i)(hd:∀j,bit ms i j=true->D j)(dj:∀j,i<j->D j->(R j).k=1->(R i).h.get (R j).x=none){K:Act->World->Prop}{Q:Exit->Act->World->Prop}(k:∀p' σ' a' w',Iv B ops ms R m tm0 (λx=>D x\/x=i) p' σ' a' w'->K a' w'):wpOp P ops Q i K a w:=by
 obtain⟨o,tm,f⟩:=hf i hi;have ho:=f.op;have di:ju ops i=o.dst:=by simp[ju,ho]
 have ev:=I.ev S hm ho nd hd f.UL f.only;have hsz:i<ops.size:=om hi hm;have fin:∀{p' σ' u w'},p'<=m->(p'=0\/∃q,p'=q+1/\(R q).k=2)->(∀j,j<m->(R j).k=2->(D j\/j=i↔j<p'))->(∀j,j<p'->(R j).k=1->D j\/j=i)->Ext σ σ'->DV σ' (R i).v u->Mem B σ' (GD R (λx=>D x\/x=i) p' m) (FD R (λx=>D x\/x=i) m) w'->K (a.put o.dst u) w':=by
  intro p' σ' u w' h1 h2 h3 h4 E dv M;have ep:∀{t},(a.put o.dst u).eval (.tmp t)=if o.dst=some t then u else a.eval (.tmp t):=eval_put λk hk=>by rw[I.size,hn];exact S.dn i k (di.trans hk)
  refine k p' σ' _ w' ⟨h1,h2,h3,h4,λj hj=>hj.elim (I.sub j) λq=>q▸hi,λj l hj hl=>.inl (hj.elim (λq=>I.cl j l q hl) λq=>hd l (q▸hl)),by cases o.dst<;>simp[Act.put,I.size],by cases o.dst<;>exact I.dG,M,λj t hj ht=>?_,λt sv h1 h2=>?_⟩
  ·rw[ep];by_cases c:o.dst=some t
   ·rw[az c];have:=S.one i j t (di.trans c) ht;subst this;exact dv
   ·rw[ar c];rcases hj with q|q
    ·exact(I.val j t q ht).mono E
    ·subst q;exact absurd (di.symm.trans ht) c
  ·rw[ep,ar (by rw[<-di];exact h1 i (.inr rfl))];exact(I.rest t sv (λj hj=>h1 j (.inl hj)) h2).mono E
 have ids:(R i).x<=(R (i+1)).x->∀id,(R i).x<=id->id<(R (i+1)).x->FD R D m id:=λ_ id h1 h2=>⟨fG (qg hf (il _) (Nat.le_of_lt hi)) h1,λj hj dd=>by
  rcases Nat.lt_trichotomy j i with q|q|q
  ·exact .inr (fG (qg hf q (Nat.le_of_lt hi)) h1)
  ·subst q;exact absurd dd nd
  ·exact .inl (om h2 (qg hf q (Nat.le_of_lt hj)))⟩
 have FS:∀id,FD R (λx=>D x\/x=i) m id->FD R D m id:=λid h=>⟨h.1,λj hj dj=>h.2 j hj (.inl dj)⟩;have cut:∀id,FD R (λx=>D x\/x=i) m id->lN (FD R D m) (R i).x (R (i+1)).x id:=λid h=>⟨FS id h,λq=>by have:=h.2 i hi (.inr rfl);omega⟩;have lo0:(R i).k≠2->∀j,j<m->(R j).k=2->(D j\/j=i↔j<p):=λc j hj hk=>(or_iff_left λq:j=i=>c (by rw[<-q];exact hk)).trans (I.lo j hj hk);rcases f.kind with⟨k0,eh,ex,q⟩|⟨k1,_,so,mk,eh,ex⟩|⟨k2,L,_,_,b1,_⟩
 ·have use:∀{h:Tr SO},(∀id so,h.get id=some so->GD R D p m id so)->o7 P ops i o tm (R i).v h->wpOp P ops Q i K a w:=λs q=>q a ev s I.mem K Q λσ' u w' E dv M=>
   fin I.pm I.pk (lo0 (by rw[k0];decide)) (λj h1 h2=>.inl (I.Sz j h1 h2)) E dv (M.less (λid so h=>h.imp_right λ⟨j,h1,h2,h3,h4,h5⟩=>⟨j,h1,h2,h3.resolve_right (λc=>by rw[c,k0] at h4;cases h4),h4,h5⟩) FS)
  rcases q with q|⟨h,lh,q,ord⟩
  ·exact use (λid so h=>(oN h).elim) q
  have lq:∀{j},j<m->(R j).k=2->∃o,ops[j]? =some o/\pL o.op=false/\rn o.op=false:=λhj hk=>by
   obtain⟨o,tm,f⟩:=hf _ hj;rcases f.kind with⟨c,_⟩|⟨c,_⟩|⟨_,_,c1,c2,_⟩
   ·rw[hk] at c;cases c
   ·rw[hk] at c;cases c
   ·exact⟨o,f.op,c1,c2⟩
  have bef:∀{j},j<i->(R j).k=2->D j:=λ{j} hj hk=>by
   obtain⟨o',h1,h2,h3⟩:=lq (Nat.lt_trans hj hi) hk;rcases ord with ord|⟨ord,_⟩
   ·have:=lJ ord j (Nat.lt_trans hj hsz);simp only[h1,h2,h3,yG,qS] at this;rcases this with c|c
    ·exact hd j c
    ·have:=S.lt j i (Nat.lt_trans hj hsz) c;omega
   ·have:=lJ ord j hj;simp only[h1,h2,h3,yG] at this;exact hd j this
  have bef':∀{j},j<i->(R j).k=2->j<p:=λhj hk=>(I.lo _ (Nat.lt_trans hj hi) hk).1 (bef hj hk);have same:p<=i->h=(R p).h:=λhpi=>by
   rcases I.pk with p0|⟨q',p0,kq⟩<;>rcases lh with⟨q,_,l2,l3,l4,l5⟩|⟨l1,l2⟩
   ·have:=bef' l2 l3;omega
   ·rw[l2,p0]
   ·have:=bef' l2 l3;have:¬q<q':=λc=>l4 q' c (by omega) kq;rw[l5,p0,show q=q' by omega]
   ·exact absurd kq (l1 q' (il _) (by omega))
  by_cases hpi:p<=i
  ·exact use (λid so g=>.inl (same hpi▸g)) q
  ·rcases I.pk with p0|⟨q',p0,kq⟩
   ·omega
   ·have dq:=(I.lo q' (by have:=I.pm;omega) kq).2 (by omega);have ne:q'≠i:=λc=>nd (c▸dq);rcases ord with ord|⟨_,ord⟩
    ·obtain⟨o',h1,h2,h3⟩:=lq (by have:=I.pm;omega) kq;have:=lJ ord q' (om (I.sub _ dq) hm);simp only[h1,h2,h3,yG,qS] at this;rcases this with c|c
     ·have:=S.lt i q' hsz c;omega
     ·exact absurd (I.cl q' i dq c) nd
    ·refine use (λid so g=>.inl (by rw[p0];exact g)) (ord q' (by omega) (I.sub _ dq) kq λl l1 l2 l3=>?_);cases c:bit ms l i with
     |false=>rfl
     |true=>exact absurd (I.cl l i ((I.lo l (by have:=I.sub _ dq;omega) l3).2 (by omega)) c) nd
 ·obtain⟨g1,g2⟩:=mk a ev;obtain⟨u,w',r1,r2,r3⟩:=g2 w;have hF:=ids f.le (R i).x (aL _) (by omega);have ns:∀id so,hG .nil id so->GD R D p m id so:=λid so h=>(oN h).elim;have E0:Ext σ (σ.add (R i).x (some (w.heap.size,0),0)):=Ren.yQ (I.mem.fresh _ hF);obtain⟨dv,d⟩:=r3 _ 0 0 E0 (Ren.jq _ _ _);obtain⟨E,M⟩:=(I.mem.C6 ns).new hF r2 d;have M:=I.mem.frame ns E M;unfold wpOp;simp only[ho,g1,dW];refine .inl (qR r1 (fin I.pm I.pk (lo0 (by rw[k1];decide)) (λj h1 h2=>.inl (I.Sz j h1 h2)) E dv (M.less (λid so h=>?_) λid h=>?_)))
  ·rcases h with h|⟨j,h1,h2,h3,h4,h5,h6⟩
   ·exact .inr ⟨.inl h,λ_=>oN⟩
   ·rcases h3 with h3|h3
    ·exact .inr ⟨.inr ⟨j,h1,h2,h3,h4,h5,h6⟩,λ_=>oN⟩
    ·subst h3;rw[eh,Tr.fA,az h5] at h6;exact .inl (by simp only[hG,Tr.fA,az h5];exact h6)
  ·have:=cut id h;rwa[ex] at this
 ·have dn:∀j,j<i->(R j).k≠0->D j:=λj hj hk=>hd j (b1 j (il _) hj hk);have hpi:p<=i:=Nat.not_lt.1 λc=>nd ((I.lo i hi k2).2 c);have hs:=I.G8 hf (Nat.le_of_lt hi) dn hpi (aL _);refine L a ev (ids f.le) (I.mem.C6 hs) K Q λσ' u w' E dv M=>?_;have M:=I.mem.frame hs E M;refine fin hi (.inr ⟨i,rfl,k2⟩) (λj hj hk=>⟨λc=>?_,λc=>?_⟩) (λj hj hk=>?_) E dv (M.less (λid so h=>?_) cut)
  ·rcases c with c|c
   ·have:=(I.lo j hj hk).1 c;omega
   ·omega
  ·rcases Nat.lt_succ_iff_lt_or_eq.1 c with c|c
   ·exact .inl (dn j c (by rw[hk];decide))
   ·exact .inr c
  ·rcases Nat.lt_succ_iff_lt_or_eq.1 hj with c|c
   ·exact .inl (dn j c (by rw[hk];decide))
   ·exact .inr c
  ·rcases h with h|⟨j,h1,h2,h3,h4,h5,h6⟩
   ·exact .inl h
   ·have h3:=h3.resolve_right (by omega);refine .inr ⟨.inr ⟨j,by omega,h2,h3,h4,h5,h6⟩,λso' c=>?_⟩;have:=dj j h1 h3 h4;rw[h5] at c;rw[show(R i).h.get (R j).x=some so' from c] at this;cases this
end
end
section
variable{β:Type} [QF]
section
variable{P:Program} {ops:Array Oper} {ms:List Nat} {n m:Nat} (S:wg ops ms n) {B:Bs} (hn:B.n=n) {R:Nat->Rc} {tm0:Tr SV} (hm:m<=ops.size) (hf:∀i,i<m->∃o tm,Fact P ops ms 0 m tm0 (R 0).h [] R i o tm) {q:Option SV} {fT:St} (hq:Fin P ops ms 0 ops.size m tm0 [] R q fT)
 (hb:∀i,i<=m->∀id so,(R i).h.get id=some so->id<(R i).x)
include S hn hm hf hq hb
theorem RW{Q:Exit->Act->World->Prop}(ps:tV B q fT Q):∀(l:List Nat){D:Nat->Prop}{p:Nat}{σ:Ren}{a:Act}{w:World},qY ops.size (λi j=>bit ms i j=true) D l->Iv B ops ms R m tm0 D p σ a w->wpOps P ops Q l a w
 |[],D,p,σ,a,w,L,I=>by
  have L:∀i,i<ops.size->D i:=L;cases q with
  |none=>
   obtain⟨h1,h2,h3,h4⟩:=hq;refine ps σ a w ⟨I.size,I.dG,λt sv h=>?_,I.mem.less (λid so h=>?_) λid h=>⟨fG (qg hf (il _) (aL _)) (by rw[<-h3];exact h),λj hj _=>.inr (fG (qg hf hj (aL _)) (by rw[<-h3];exact h))⟩⟩
   ·rcases h4 t sv h with⟨j,_,c1,c2,rfl⟩|⟨c1,c2⟩
    ·exact I.val j t (L j (by omega)) c2
    ·exact I.rest t sv (λj dj=>c1 j (il _) (I.sub j dj)) c2
   ·rw[h2] at h;exact I.G8 hf (aL _) (λj hj _=>L j (by omega)) I.pm (aL _) id so h
  |some sv=>obtain⟨o,tm,h1,h2,_⟩:=hq;exact absurd (I.sub m (L m h2)) (Nat.lt_irrefl _)
 |i::l,D,p,σ,a,w,L,I=>by
  obtain⟨hi,nd,hd,L⟩:=L;have hd:∀j,bit ms i j=true->D j:=hd;rw[wpOps_cons];rcases Nat.lt_trichotomy i m with c|c|c
  ·refine I.step S hn hm hf c nd hd (λj hj dj _=>?_) λp' σ' a' w' I'=>RW ps l L I';cases h:(R i).h.get (R j).x with
   |none=>rfl
   |some so=>have:=hb i (Nat.le_of_lt c) _ _ h;have:=qg hf (Nat.le_of_lt hj) (Nat.le_of_lt (I.sub j dj));omega
  ·subst c;cases q with
   |none=>obtain⟨h1,_⟩:=hq;omega
   |some sv=>obtain⟨o,tm,ho,_,pr,on,L,hx,_,b1,_,_,_,tl⟩:=hq;have hs:=I.G8 hf (aL _) (λj hj hk=>hd j (b1 j (il _) hj hk)) I.pm (aL _);have lo:∀id,(R i).x<=id->∀j,j<i->D j->id<(R j).x\/(R (j+1)).x<=id:=λid h j hj _=>.inr (fG (qg hf hj (aL _)) h);have z:=qg hf (il i) (aL _);refine L a (I.ev S hm ho nd hd pr on) (λid h _=>⟨fG z h,lo id h⟩) (I.mem.C6 hs) _ Q λσ' u w' E dv M=>?_;refine ps σ' a w' ⟨I.size,I.dG,λt sv h=>?_,(I.mem.frame hs E M).less (λid so h=>.inl h) λid h=>⟨⟨by omega,lo id (fG hx h)⟩,λq=>by omega⟩⟩ u dv;obtain⟨c1,c2⟩:=tl t sv h;refine(I.rest t sv (λj dj c=>?_) c2).mono E;obtain⟨o',e1,e2⟩:=Option.bind_eq_some_iff.1 c;exact c1 o' (Array.mem_toList_iff.2 (Array.mem_of_getElem? e1)) e2
  ·cases q with
   |none=>obtain⟨h1,_⟩:=hq;omega
   |some sv=>obtain⟨o,tm,_,_,_,_,_,_,tl,_⟩:=hq;have:=lJ tl i hi;rw[show Nat.ble i m=false from Bool.eq_false_iff.2 λh=>by have:=dY h;omega,aF] at this;exact absurd (I.sub m (hd m this)) (Nat.lt_irrefl _)
end
theorem P7{P:Program}{X:ed}(OK:iF P X){pt:FuncId->Option (cy β)}(PT:mP P pt){ops:Array Oper}{ms:List Nat}{n:Nat}(S:wg ops ms n){st:St}{K:Option SV->St->Option β}{b:β}(e:oE X pt ops ms ops.toList 0 st st.h [] [] K=some b):
 ∃q st',K q st'=some b/\∀{B:Bs}{σ:Ren}{a:Act}{w:World},B.n=n->dt B σ st a w->∀Q,tV B q st' Q->∀l,qY ops.size (λi j=>bit ms i j=true) (λ_=>False) l->wpOps P ops Q l a {w with drawn:=w.drawn+1}:=by
 obtain⟨R,m,q,fT,h1,_,hm,h4,h5,hf,_,hq⟩:=wC OK PT ops.toList 0 (λi o h=>by simpa using h) (by simp) st st.h [] [] K b e λ_ h=>by cases h
 rw[<-h4] at hf;refine⟨q,fT,h1,λ{B σ a w} hn r Q ps l hl=>?_⟩;have hf:∀i,i<m->∃o tm,Fact P ops ms 0 m st.tm (R 0).h [] R i o tm:=λi hi=>hf i (il _) hi;have I0:Iv B ops ms R m st.tm (λ_=>False) 0 σ a {w with drawn:=w.drawn+1}:=
  ⟨il _,.inl rfl,λj _ _=>⟨False.elim,λh=>by omega⟩,λj h=>by omega,λj h=>h.elim,λj l h=>h.elim,r.size,r.dG,
   (r.mem.same (w':={w with drawn:=w.drawn+1}) ⟨rfl,rfl,rfl,aL _,λ_ _ _=>rfl⟩).less (G':=GD R (λ_=>False) 0 m) (F':=FD R (λ_=>False) m) (λid so h=>by
    rcases h with h|⟨j,_,_,h,_⟩
    ·rw[h4] at h;exact h
    ·exact h.elim) λid h=>by have:=h.1;rw[h5] at this;exact this,λj t h=>h.elim,λt sv _ h=>r.ev t sv h⟩
 have seq:∀i,i<=m->∃p σ a w,Iv B ops ms R m st.tm (λj=>j<i) p σ a w:=by
  intro i;induction i with
  |zero=>exactλ_=>⟨_,_,_,_,by simpa using I0⟩
  |succ i ih=>intro hi;obtain⟨p,σ,a,w,I⟩:=ih (Nat.le_of_lt hi);refine ak9 (I.step S hn hm hf hi (Nat.lt_irrefl _) (λj h=>S.lt i j (om hi hm) h) (λj h1 h2=>by omega) λp' σ' a' w' I'=>⟨p',σ',a',w',?_⟩);have:(λx=>x<i\/x=i)=λx=>x<i+1:=funext λx=>propext (by omega);rwa[this] at I'
 refine RW S hn hm hf hq (λi hi id so h=>Nat.not_le.1 λc=>?_) ps _ hl I0;obtain⟨p,σ,a,w,I⟩:=seq i hi;have hd:=I.mem.obj id so (I.G8 hf hi (λj hj _=>hj) (Nat.not_lt.1 λc=>by
  rcases I.pk with q|⟨q,q1,q2⟩
  ·omega
  ·have:=(I.lo q (by have:=I.pm;omega) q2).2 (by omega);omega) (aL _) id so h)
 have:=I.mem.fresh id ⟨fG (qg hf (il _) hi) c,λj _ hj=>.inr (fG (qg hf hj hi) c)⟩;rcases hd.nm with k|⟨_,_,k,_⟩<;>rw[this] at k<;>cases k
theorem aaf{P:Program}{X:ed}(OK:iF P X){pt:FuncId->Option (cy β)}(PT:mP P pt)(mx:P.follows .mixedOrders=true){ops:Array Oper}{n id:Nat}(hs:stat ops (oM ops.toList []) n=true){st:St}{K:Option SV->St->Option β}{b:β}(e:oE X pt ops (oM ops.toList []) ops.toList 0 st st.h [] [] K=some b):
 ∃q st',K q st'=some b/\∀{B:Bs}{σ:Ren}{a:Act}{w:World},B.n=n->dt B σ st a w->∀Q,tV B q st' Q->(Code.region id ops true).wp P Q a w:=by
 obtain⟨q,st',h,g⟩:=P7 OK PT (akI hs) e;exact⟨q,st',h,λhn r Q ps=>wp_region_draw λt=>g hn r Q ps _ (RX mx (YB hs) t)⟩
def abw(ops:Array Oper)(i:Nat):Bool:=match ops[i]? with
 |some o=>rn o.op
 |none=>false
def zZ(i:Nat):List Nat->Bool
 |[]=>false
 |x::l=>cond (Nat.beq i x) true (zZ i l)
def Ry(ops:Array Oper)(i:Nat):Bool:=match ops[i]? with
 |some o=>pL o.op
 |none=>false
def J3(ms:List Nat)(i:Nat)(acc:List Nat):Nat->Bool
 |0=>true
 |n+1=>cond (bit ms i n) (cond (zZ n acc) (J3 ms i acc n) false) (J3 ms i acc n)
def UX(ops:Array Oper)(ms:List Nat)(acc:List Nat):Nat->List Nat
 |0=>acc
 |n+1=>(λa=>cond (Ry ops n&&!zZ n a&&J3 ms n a n) (a++[n]) a) (UX ops ms acc n)
def Pk(ms:List Nat)(i:Nat)(acc:List Nat):Nat->List Nat
 |0=>acc
 |n+1=>(λa=>cond (bit ms i n&&!zZ n a) (a++[n]) a) (Pk ms i acc n)
def Uu(ops:Array Oper)(ms:List Nat):Nat->List Nat
 |0=>[]
 |n+1=>(λa=>cond (abw ops n||Ry ops n) a (Pk ms n (UX ops ms a ops.size) n++[n])) (Uu ops ms n)
def Va(acc:List Nat):Nat->List Nat
 |0=>acc
 |n+1=>(λa=>cond (zZ n a) a (a++[n])) (Va acc n)
def xb(ops:Array Oper)(ms:List Nat):List Nat:=Va (Uu ops ms ops.size) ops.size
def rl(i:Nat):List Nat->Nat
 |[]=>0
 |x::l=>cond (Nat.beq i x) 0 (rl i l+1)
def pH(ops:Array Oper)(ps:List Nat):Array Oper:=(ps.map λi=>ops.getD i default).toArray
def KZ(ms ps:List Nat)(i:Nat):Nat->Nat
 |0=>0
 |n+1=>cond (bit ms i (ps.getD n 0)) (Nat.lor (Nat.shiftLeft 1 n) (KZ ms ps i n)) (KZ ms ps i n)
def K0(ms ps:List Nat):Nat->List Nat
 |0=>[]
 |n+1=>K0 ms ps n++[KZ ms ps (ps.getD n 0) n]
def YA(ops ops':Array Oper)(ms ms' ps:List Nat)(n:Nat):Bool:=
 cond (ja ops.size λi=>(oG ops i).all λb=>Nat.blt b i)
  (cond (Nat.beq ps.length ops.size)
   (cond (ja ops.size λi=>cond (Nat.blt (ps.getD i 0) ops.size) (cond (Nat.blt (rl i ps) ops.size) (cond (Nat.beq (ps.getD (rl i ps) 0) i) (Nat.beq (rl (ps.getD i 0) ps) i) false) false) false)
    (cond (ja ops.size λi=>match(ops.getD i default).guard with
     |none=>true
     |some _=>false)
     (cond (ja ops.size λi=>cond (Nat.blt (ms'.getD i 0) (Nat.pow 2 i)) (ja ops.size λj=>cond (bit ms' i j) (bit ms (ps.getD i 0) (ps.getD j 0)) true) false)
      (Yz ops' ms' n) false) false) false) false) false
theorem UC{N:Nat}{A A':Nat->Nat->Prop}{p q:Nat->Nat}(hp:∀i,i<N->p i<N)(hq:∀i,i<N->q i<N)(pq:∀i,i<N->p (q i)=i)(qp:∀i,i<N->q (p i)=i)(lt:∀i j,i<N->A' i j->j<N)(hA:∀i j,i<N->j<N->A' i j->A (p i) (p j)):∀(l:List Nat)(D D':Nat->Prop),(∀x,x<N->(D' x↔D (p x)))->qY N A D l->qY N A' D' (l.map q)
 |[],D,D',h,L=>λi hi=>(h i hi).2 (L _ (hp i hi))
 |i::l,D,D',h,⟨hi,nd,hd,L⟩=>by
  refine⟨hq i hi,λc=>nd ?_,λj hj=>?_,UC hp hq pq qp lt hA l _ _ (λx hx=>?_) L⟩
  ·have:=(h _ (hq i hi)).1 c;rwa[pq i hi] at this
  ·have lj:=lt _ _ (hq i hi) hj;have:=hA _ _ (hq i hi) lj hj;rw[pq i hi] at this;exact(h j lj).2 (hd _ this)
  ·rw[h x hx];refine or_congr Iff.rfl ⟨λe=>?_,λe=>?_⟩
   ·rw[e,pq i hi]
   ·rw[<-e,qp x hx]
theorem RV{N:Nat}{A:Nat->Nat->Prop}:∀{l:List Nat}{D:Nat->Prop},qY N A D l->∀i∈l,i<N
 |j::l,D,⟨hj,_,_,L⟩,i,h=>by
  rcases cO.1 h with rfl|h
  ·exact hj
  ·exact RV L i h
theorem UD{P:Program}{ops ops':Array Oper}{Q:Exit->Act->World->Prop}{q:Nat->Nat}(H:∀i,i<ops.size->ops'[q i]? =ops[i]?)(ng:∀(i:Nat)(o:Oper),ops[i]? =some o->o.guard=none):∀(l:List Nat),(∀i∈l,i<ops.size)->wpOps P ops Q l=wpOps P ops' Q (l.map q)
 |[],_=>rfl
 |i::l,h=>by
  have ih:=UD (P:=P) (Q:=Q) H ng l λj hj=>h j (mJ _ hj)
  funext a w
  rw[iD,wpOps_cons,wpOps_cons,<-ih];unfold wpOp;rw[H i (h i nA)];cases ho:ops[i]? with
  |none=>rfl
  |some o=>simp only[Region.wanted,ng i o ho]
theorem aae{P:Program}{X:ed}(OK:iF P X){pt:FuncId->Option (cy β)}(PT:mP P pt)(mx:P.follows .mixedOrders=true){ops:Array Oper}{ms' ps:List Nat}{n id:Nat}(hs:YA ops (pH ops ps) (oM ops.toList []) ms' ps n=true){st:St}{K:Option SV->St->Option β}{b:β}(e:oE X pt (pH ops ps) ms' (pH ops ps).toList 0 st st.h [] [] K=some b):
 ∃q st',K q st'=some b/\∀{B:Bs}{σ:Ren}{a:Act}{w:World},B.n=n->dt B σ st a w->∀Q,tV B q st' Q->(Code.region id ops true).wp P Q a w:=by
 obtain⟨h1,hs⟩:=mS hs;obtain⟨h2,hs⟩:=mS hs;obtain⟨h3,hs⟩:=mS hs;obtain⟨h4,hs⟩:=mS hs;obtain⟨h5,hs⟩:=mS hs;have B:yX ops:=λi hi b hb=>eX (ij.1 (lJ h1 i hi) b hb);have hl:ps.length=ops.size:=bT h2;have hz:(pH ops ps).size=ops.size:=by simp[pH,hl]
 have pr:∀i,i<ops.size->ps.getD i 0<ops.size/\rl i ps<ops.size/\ps.getD (rl i ps) 0=i/\rl (ps.getD i 0) ps=i:=λi hi=>by obtain⟨a,h⟩:=mS (lJ h3 i hi);obtain⟨b,h⟩:=mS h;obtain⟨c,d⟩:=mS h;exact⟨eX a,eX b,bT c,bT d⟩
 have mt:∀i j,i<ops.size->bit ms' i j=true->j<i:=λi j hi h=>by have:=eX (mS (lJ h5 i hi)).1;refine Nat.not_le.1 λc=>?_;have:=Nat.testBit_lt_two_pow (om this (Nat.pow_le_pow_right (by omega) c));unfold bit at h;rw[this] at h;cases h
 have mi:∀i j,i<ops.size->j<ops.size->bit ms' i j=true->bit (oM ops.toList []) (ps.getD i 0) (ps.getD j 0)=true:=λi j hi hj h=>by have:=lJ (mS (lJ h5 i hi)).2 j hj;rwa[h] at this
 have S:wg (pH ops ps) ms' n:=Yy (λi j hi h=>mt i j (by rwa[hz] at hi) h) hs;obtain⟨q,st',h,g⟩:=P7 OK PT S e;refine⟨q,st',h,λhn r Q k=>wp_region_draw λt=>?_⟩;have L:=RX mx B t;rw[UD (q:=λi=>rl i ps) (ops':=pH ops ps) (λi hi=>?_) (λi o ho=>?_) _ (RV L)]
 ·refine g hn r Q k _ ?_;rw[hz];exact UC (p:=λi=>ps.getD i 0) (λi hi=>(pr i hi).1) (λi hi=>(pr i hi).2.1) (λi hi=>(pr i hi).2.2.1) (λi hi=>(pr i hi).2.2.2) (λi j hi h=>Nat.lt_trans (mt i j hi h) hi) (λi j hi hj h=>mi i j hi hj h) _ _ _ (λ_ _=>Iff.rfl) L
 ·obtain⟨_,a,b,_⟩:=pr i hi;rw[vQ,cN (by omega)] at b;simp only[pH,List.getElem?_toArray,List.getElem?_map];rw[cN (by omega),qV,show ps[rl i ps]=i from b];simp[hi]
 ·have hi:=(jV.1 ho).1;have:=lJ h4 i hi;have e0:ops.getD i default=o:=by simp[pT,ho]
  simp only[e0] at this;cases hg:o.guard with
  |none=>rfl
  |some x=>rw[hg] at this;cases this
noncomputable def P8(p:Bool)(X:ed)(pt:FuncId->Option (cy β))(n:Nat)(ops:Array Oper)(ms:List Nat)(st:St)(K:Option SV->St->Option β):Option β:=
 cond p (cond (YA ops (pH ops (xb ops ms)) ms (K0 ms (xb ops ms) ops.size) (xb ops ms) n) (oE X pt (pH ops (xb ops ms)) (K0 ms (xb ops ms) ops.size) (pH ops (xb ops ms)).toList 0 st st.h [] [] K) (bF 70))
  (cond (stat ops ms n) (oE X pt ops ms ops.toList 0 st st.h [] [] K) (bF 70))
theorem aal{P:Program}{X:ed}(OK:iF P X){pt:FuncId->Option (cy β)}(PT:mP P pt)(mx:P.follows .mixedOrders=true){p:Bool}{ops:Array Oper}{n id:Nat}{st:St}{K:Option SV->St->Option β}{b:β}(e:P8 p X pt n ops (oM ops.toList []) st K=some b):
 ∃q st',K q st'=some b/\∀{B:Bs}{σ:Ren}{a:Act}{w:World},B.n=n->dt B σ st a w->∀Q,tV B q st' Q->(Code.region id ops true).wp P Q a w:=by
 cases p with
 |true=>obtain⟨hs,e⟩:=bc e;exact aae OK PT mx hs e
 |false=>obtain⟨hs,e⟩:=bc e;exact aaf OK PT mx hs e
end
section
variable{β:Type}
inductive LK where
 |i|b|s|v|c|n
inductive bo where
 |i (x:Int)|b (x:Bool)|s (x:ByteArray)|v (x:Value)|c (x:List Value)|n (x:Nat)
def Fn:List LK->Type->Type
 |[],α=>α
 | .i::ks,α=>Int->Fn ks α
 | .b::ks,α=>Bool->Fn ks α
 | .s::ks,α=>ByteArray->Fn ks α
 | .v::ks,α=>Value->Fn ks α
 | .c::ks,α=>List Value->Fn ks α
 | .n::ks,α=>Nat->Fn ks α
def iu:(ks:List LK)->Fn ks (Option β)->List bo->Option β
 |[],f,[]=>f
 | .i::ks,f,.i x::ls=>iu ks (f x) ls
 | .b::ks,f,.b x::ls=>iu ks (f x) ls
 | .s::ks,f,.s x::ls=>iu ks (f x) ls
 | .v::ks,f,.v x::ls=>iu ks (f x) ls
 | .c::ks,f,.c x::ls=>iu ks (f x) ls
 | .n::ks,f,.n x::ls=>iu ks (f x) ls
 |_,_,_=>none
def lL:(ks:List LK)->(List bo->Option β)->Fn ks (Option β)
 |[],F=>F []
 | .i::ks,F=>λx=>lL ks λls=>F (.i x::ls)
 | .b::ks,F=>λx=>lL ks λls=>F (.b x::ls)
 | .s::ks,F=>λx=>lL ks λls=>F (.s x::ls)
 | .v::ks,F=>λx=>lL ks λls=>F (.v x::ls)
 | .c::ks,F=>λx=>lL ks λls=>F (.c x::ls)
 | .n::ks,F=>λx=>lL ks λls=>F (.n x::ls)
def iN:(ks:List LK)->Fn ks (Option β)
 |[]=>(none:Option β)
 | .i::ks=>λ_=>iN ks
 | .b::ks=>λ_=>iN ks
 | .s::ks=>λ_=>iN ks
 | .v::ks=>λ_=>iN ks
 | .c::ks=>λ_=>iN ks
 | .n::ks=>λ_=>iN ks
theorem mR:∀(ks:List LK)(F:List bo->Option β)(ls:List bo)(b:β),iu ks (lL ks F) ls=some b->F ls=some b
 |[],F,[],b,e=>e
 |[],F,_::_,b,e=>by cases e
 | .i::ks,F,.i x::ls,b,e=>mR ks (λls=>F (.i x::ls)) ls b e
 | .b::ks,F,.b x::ls,b,e=>mR ks (λls=>F (.b x::ls)) ls b e
 | .s::ks,F,.s x::ls,b,e=>mR ks (λls=>F (.s x::ls)) ls b e
 | .v::ks,F,.v x::ls,b,e=>mR ks (λls=>F (.v x::ls)) ls b e
 | .c::ks,F,.c x::ls,b,e=>mR ks (λls=>F (.c x::ls)) ls b e
 | .n::ks,F,.n x::ls,b,e=>mR ks (λls=>F (.n x::ls)) ls b e
 |k::ks,F,[],b,e=>by cases k<;>cases e
 | .i::ks,F,.b _::_,b,e| .i::ks,F,.s _::_,b,e| .i::ks,F,.v _::_,b,e| .i::ks,F,.c _::_,b,e| .i::ks,F,.n _::_,b,e=>by cases e
 | .b::ks,F,.i _::_,b,e| .b::ks,F,.s _::_,b,e| .b::ks,F,.v _::_,b,e| .b::ks,F,.c _::_,b,e| .b::ks,F,.n _::_,b,e=>by cases e
 | .s::ks,F,.i _::_,b,e| .s::ks,F,.b _::_,b,e| .s::ks,F,.v _::_,b,e| .s::ks,F,.c _::_,b,e| .s::ks,F,.n _::_,b,e=>by cases e
 | .v::ks,F,.i _::_,b,e| .v::ks,F,.b _::_,b,e| .v::ks,F,.s _::_,b,e| .v::ks,F,.c _::_,b,e| .v::ks,F,.n _::_,b,e=>by cases e
 | .c::ks,F,.i _::_,b,e| .c::ks,F,.b _::_,b,e| .c::ks,F,.s _::_,b,e| .c::ks,F,.v _::_,b,e| .c::ks,F,.n _::_,b,e=>by cases e
 | .n::ks,F,.i _::_,b,e| .n::ks,F,.b _::_,b,e| .n::ks,F,.s _::_,b,e| .n::ks,F,.v _::_,b,e| .n::ks,F,.c _::_,b,e=>by cases e
theorem yT:∀(ks:List LK)(ls:List bo)(b:β),iu ks (iN ks) ls=some b->False
 |[],[],b,e=>by cases e
 |[],_::_,b,e=>by cases e
 |k::ks,[],b,e=>by cases k<;>cases e
 |k::ks,l::ls,b,e=>by cases k<;>cases l<;>first|exact yT ks ls b e|cases e
inductive VT where
 |i (k:IntKind)|b|s|v
 |agg (l:List VT)|aH (l:List VT)
 |fn (f:FuncId) (l:List VT)
 |lp (l:List VT)
 |oL
 |fC (t:TypeId) (x:VT)
 |em (b:Bool)
 |ptr (id off:Nat)|sl (id off:Nat)|BJ (id:Nat)|gr (id E:Nat)
 |vA (id off n c:Nat)
 |nf
inductive OT where
 |cells (l:List VT) (t:TypeId)
 |arr (t:TypeId)
 |grow (E:Nat) (t:TypeId)
structure cH where
 GZ:List (Nat×VT)
 pF:List (Nat×OT)
 sx:Nat
mutual
def VT.ks:VT->List LK
 | .i _=>[.i]
 | .b=>[.b]
 | .s=>[.s]
 | .v=>[.v]
 | .agg l=>VT.fa l
 | .aH l=>VT.fa l
 | .fn _ l=>VT.fa l
 | .fC _ x=>VT.ks x
 | .em _=>[]
 | .lp l=>VT.fa l
 | .oL=>[.c]
 | .ptr _ _=>[]
 | .sl _ _=>[.n,.n]
 | .BJ _=>[.n,.n,.n]
 | .gr _ _=>[]
 | .vA _ _ _ _=>[]
 | .nf=>[]
def VT.fa:List VT->List LK
 |[]=>[]
 |x::xs=>VT.ks x++VT.fa xs
end
def OT.ks:OT->List LK
 | .cells l _=>VT.fa l
 | .arr _=>[.c]
 | .grow _ _=>[.c]
def cH.ks(t:cH):List LK:=VT.fa (t.GZ.map (·.2))++(t.pF.map λo=>o.2.ks).flatten
def qh:List VT->Bool
 |[]=>true
 | .i _::l=>qh l
 | .b::l=>qh l
 | .s::l=>qh l
 | .v::l=>qh l
 |_=>false
abbrev Mp:=List (Nat×Option Nat)
def dU(id:Nat):Mp->Option (Option Nat)
 |[]=>none
 |(j,x)::m=>cond (Nat.beq j id) (some x) (dU id m)
def taken(a:Nat):Mp->Bool
 |[]=>false
 |(_,some x)::m=>cond (Nat.beq x a) true (taken a m)
 |(_,none)::m=>taken a m
def sk(id:Nat)(x:Option Nat)(m:Mp)(K:Mp->Option β):Option β:=match dU id m with
 |some y=>match x,y with
  |some a,some a'=>cond (Nat.beq a a') (K m) none
  |none,none=>K m
  |_,_=>none
 |none=>match x with
  |some a=>cond (taken a m) none (K ((id,some a)::m))
  |none=>K ((id,none)::m)
mutual
def zq:VT->SV->Mp->(List bo->Mp->Option β)->Option β
 | .i k,.i k' n,m,K=>cond (decide (k=k')) (K [.i n] m) none
 | .b,.b x,m,K=>K [.b x] m
 | .s,.s x,m,K=>K [.s x] m
 | .v,.v x,m,K=>K [.v x] m
 | .v,.nl,m,K=>K [.v (ae 0 [])] m
 | .v,.ni,m,K=>K [.v .nilIface] m
 | .agg ts,.agg l,m,K=>uv ts l m K
 | .aH ts,.aH l,m,K=>uv ts l m K
 | .fn f ts,.fn f' l,m,K=>cond (Nat.beq f f') (uv ts l m K) none
 | .fC t vt,.fC t' x,m,K=>cond (Nat.beq t t') (zq vt x m K) none
 | .em true,.em true,m,K=>K [] m
 | .em false,.em false,m,K=>K [] m
 | .oL,.lp cs,m,K=>K [.c cs] m
 | .ptr id off,.ptr id' off',m,K=>cond (Nat.beq off off') (sk id (some id') m λm'=>K [] m') none
 | .sl id off,.sl id' off' n c,m,K=>cond (Nat.beq off off') (sk id (some id') m λm'=>K [.n n,.n c] m') none
 | .BJ id,.sl id' off n c,m,K=>sk id (some id') m λm'=>K [.n off,.n n,.n c] m'
 | .gr id E,.gr id' E',m,K=>cond (Nat.beq E E') (sk id (some id') m λm'=>K [] m') none
 | .gr id _,.nl,m,K=>sk id none m λm'=>K [] m'
 | .vA id off n0 c0,.sl id' off' n c,m,K=>cond (Nat.beq off off'&&(Nat.beq n0 n&&Nat.beq c0 c)) (sk id (some id') m λm'=>K [] m') none
 | .nf,.v .nilFunc,m,K=>K [] m
 |_,_,_,_=>none
def uv:List VT->List SV->Mp->(List bo->Mp->Option β)->Option β
 |[],[],m,K=>K [] m
 |t::ts,x::xs,m,K=>zq t x m λl1 m1=>uv ts xs m1 λl2 m2=>K (l1++l2) m2
 |_,_,_,_=>none
end
mutual
def sU:VT->List bo->Option (SV×List bo)
 | .i k,.i n::ls=>some (.i k n,ls)
 | .b,.b x::ls=>some (.b x,ls)
 | .s,.s x::ls=>some (.s x,ls)
 | .v,.v x::ls=>some (.v x,ls)
 | .agg ts,ls=>ob (ru ts ls) λr=>some (.agg r.1,r.2)
 | .aH ts,ls=>ob (ru ts ls) λr=>some (.aH r.1,r.2)
 | .fn f ts,ls=>ob (ru ts ls) λr=>some (.fn f r.1,r.2)
 | .fC t vt,ls=>ob (sU vt ls) λr=>some (.fC t r.1,r.2)
 | .em b,ls=>some (.em b,ls)
 | .oL,.c cs::ls=>some (.lp cs,ls)
 | .ptr id off,ls=>some (.ptr id off,ls)
 | .sl id off,.n n::.n c::ls=>some (.sl id off n c,ls)
 | .BJ id,.n off::.n n::.n c::ls=>some (.sl id off n c,ls)
 | .gr id E,ls=>some (.gr id E,ls)
 | .vA id off n c,ls=>some (.sl id off n c,ls)
 | .nf,ls=>some (.v .nilFunc,ls)
 |_,_=>none
def ru:List VT->List bo->Option (List SV×List bo)
 |[],ls=>some ([],ls)
 |t::ts,ls=>ob (sU t ls) λr=>ob (ru ts r.2) λq=>some (r.1 ::q.1,q.2)
end
def I3:List (Nat×VT)->Tr SV->Mp->(List bo->Mp->Option β)->Option β
 |[],_,m,K=>K [] m
 |(t,vt)::r,tm,m,K=>ob (tm.get t) λsv=>zq vt sv m λl1 m1=>I3 r tm m1 λl2 m2=>K (l1++l2) m2
def I1:Nat->OT->Tr SO->Mp->(List bo->Mp->Option β)->Option β
 |id,.cells ts t,h,m,K=>ob (dU id m) λx=>ob x λa=>ob (h.get a) λso=>match so with
  | .cells l t'=>cond (Nat.beq t t') (uv ts l m K) none
  |_=>none
 |id,.arr t,h,m,K=>ob (dU id m) λx=>ob x λa=>ob (h.get a) λso=>match so with
  | .arr c t'=>cond (Nat.beq t t') (K [.c c] m) none
  |_=>none
 |id,.grow E t,h,m,K=>ob (dU id m) λx=>match x with
  |none=>cond (Nat.blt 0 E) (K [.c []] m) none
  |some a=>ob (h.get a) λso=>match so with
   | .grow E' c t'=>cond (Nat.beq E E'&&Nat.beq t t') (K [.c c] m) none
   |_=>none
def I2:List (Nat×OT)->Tr SO->Mp->(List bo->Mp->Option β)->Option β
 |[],_,m,K=>K [] m
 |(id,ot)::r,h,m,K=>I1 id ot h m λl1 m1=>I2 r h m1 λl2 m2=>K (l1++l2) m2
def z8:List (Nat×VT)->List bo->Option (Tr SV×List bo)
 |[],ls=>some (.nil,ls)
 |(t,vt)::r,ls=>ob (sU vt ls) λq=>ob (z8 r q.2) λp=>some (p.1.set t q.1,p.2)
def Sw:OT->List bo->Option (SO×List bo)
 | .cells ts t,ls=>ob (ru ts ls) λq=>some (.cells q.1 t,q.2)
 | .arr t,.c c::ls=>some (.arr c t,ls)
 | .grow E t,.c c::ls=>some (.grow E c t,ls)
 |_,_=>none
def wT:List (Nat×OT)->List bo->Option (Tr SO×List bo)
 |[],ls=>some (.nil,ls)
 |(id,ot)::r,ls=>ob (Sw ot ls) λq=>ob (wT r q.2) λp=>some (p.1.set id q.1,p.2)
def jY:Nat->Mp
 |0=>[]
 |n+1=>(n,some n)::jY n
def ur(m0:Mp)(t:cH)(st:St)(K:List bo->Mp->Option β):Option β:=
 I3 t.GZ st.tm m0 λl1 m1=>I2 t.pF st.h m1 λl2 m2=>cond (m2.all λp=>Nat.blt p.1 t.sx) (K (l1++l2) m2) none
def kJ(an:Nat)(t:cH)(st:St)(K:List bo->Option β):Option β:=ur (jY an) t st λls _=>K ls
def hU(t:cH)(ls:List bo):Option St:=
 ob (z8 t.GZ ls) λp=>ob (wT t.pF p.2) λq=>some ⟨p.1,q.1,t.sx⟩
def eU(m m':Mp):Prop:=∀id x,dU id m=some x->dU id m'=some x
def kV(m:Mp):Prop:=∀id id' a,dU id m=some (some a)->dU id' m=some (some a)->id=id'
theorem eU.refl(m:Mp):eU m m:=λ_ _ h=>h
theorem eU.trans{a b c:Mp}(h:eU a b)(k:eU b c):eU a c:=λi x e=>k i x (h i x e)
theorem YL{a:Nat}:∀{m:Mp}{id:Nat},dU id m=some (some a)->taken a m=true
 |[],id,h=>by cases h
 |(j,x)::m,id,h=>by
  unfold dU at h;cases hb:Nat.beq j id with
  |true=>rw[hb] at h;cases h;unfold taken;simp
  |false=>
   rw[hb] at h;have:=YL h;cases x with
   |none=>exact this
   |some y=>
    unfold taken;cases hy:Nat.beq y a with
    |true=>rfl
    |false=>grind
theorem qo{id j:Nat}{x:Option Nat}{m:Mp}:dU id ((j,x)::m)=if j=id then some x else dU id m:=by show cond (Nat.beq j id) (some x) (dU id m)=_;simp
theorem wh{id:Nat}{x:Option Nat}{m:Mp}{K:Mp->Option β}{b:β}(e:sk id x m K=some b):
 ∃m',K m'=some b/\eU m m'/\dU id m'=some x/\(kV m->kV m'):=by
 unfold sk at e;split at e
 ·rename_i y hy;split at e
  ·rename_i a a';obtain⟨e1,f⟩:=bc e;have:=bT e1;subst this;exact⟨m,f,eU.refl m,hy,λI=>I⟩
  ·exact⟨m,e,eU.refl m,hy,λI=>I⟩
  grind
 ·rename_i hn;have sub:∀x,eU m ((id,x)::m):=λx j y h=>by
   rw[qo]
   grind
  split at e
  ·rename_i a;cases ht:taken a m with
   |true=>grind
   |false=>
    rw[ht] at e;refine⟨_,e,sub _,by rw[qo,az rfl],λI i j c h1 h2=>?_⟩;rw[qo] at h1 h2;have no:∀k,dU k m=some (some a)->False:=λk hk=>by rw[YL hk] at ht;cases ht
    by_cases q:id=i
    ·grind
    ·rw[ar q] at h1;by_cases q2:id=j
     ·grind
     ·rw[ar q2] at h2;exact I i j c h1 h2
  ·refine⟨_,e,sub _,by rw[qo,az rfl],λI i j c h1 h2=>?_⟩;rw[qo] at h1 h2;by_cases q:id=i
   ·grind
   ·rw[ar q] at h1;by_cases q2:id=j
    ·grind
    ·rw[ar q2] at h2;exact I i j c h1 h2
def σm(σ:Ren)(M:Mp):Ren:=⟨λid=>match dU id M with
 |some (some a)=>σ.nm a
 |some none=>some (none,0)
 |none=>none,σ.lit⟩
theorem σm_some{σ:Ren}{M:Mp}{id a:Nat}(h:dU id M=some (some a)):(σm σ M).nm id=σ.nm a:=by simp only[σm,h]
theorem σm_none{σ:Ren}{M:Mp}{id:Nat}(h:dU id M=some none):(σm σ M).nm id=some (none,0):=by simp only[σm,h]
mutual
theorem I4:∀(vt:VT)(sv:SV)(m:Mp)(K:List bo->Mp->Option β)(b:β),zq vt sv m K=some b->
 ∃ls m',K ls m'=some b/\eU m m'/\(kV m->kV m')/\∀rest,∃sv',sU vt (ls++rest)=some (sv',rest)/\∀(σ:Ren)(M:Mp)(v:Value),eU m' M->DV σ sv v->DV (σm σ M) sv' v:=by
 intro vt sv m K b e;unfold zq at e;split at e
 ·obtain⟨e1,f⟩:=bc e;have:=oo e1;subst this;exact⟨_,_,f,eU.refl _,id,λrest=>⟨_,rfl,λσ M v _ d=>by cases d;exact .i _ _⟩⟩
 ·exact⟨_,_,e,eU.refl _,id,λrest=>⟨_,rfl,λσ M v _ d=>by cases d;exact .b _⟩⟩
 ·exact⟨_,_,e,eU.refl _,id,λrest=>⟨_,rfl,λσ M v _ d=>by cases d;exact .s _⟩⟩
 ·refine⟨_,_,e,eU.refl _,id,λrest=>⟨_,rfl,λσ M v _ d=>?_⟩⟩;cases d with
  |v h h1=>exact .v h h1
 ·exact⟨_,_,e,eU.refl _,id,λrest=>⟨_,rfl,λσ M v _ d=>by cases d;exact .v .gH rfl⟩⟩
 ·exact⟨_,_,e,eU.refl _,id,λrest=>⟨_,rfl,λσ M v _ d=>by cases d;exact .v .nilIface rfl⟩⟩
 ·rename_i ts l;obtain⟨ls,m',h1,h2,h3,h4⟩:=zr ts l m K b e;refine⟨ls,m',h1,h2,h3,λrest=>?_⟩;obtain⟨svs,g1,g2⟩:=h4 rest;refine⟨.agg svs,by unfold sU;rw[g1];rfl,λσ M v s d=>?_⟩;cases d with
  |agg hl g=>exact .agg (g2 σ M _ s ⟨hl,g⟩).1 (g2 σ M _ s ⟨hl,g⟩).2
 ·rename_i ts l;obtain⟨ls,m',h1,h2,h3,h4⟩:=zr ts l m K b e;refine⟨ls,m',h1,h2,h3,λrest=>?_⟩;obtain⟨svs,g1,g2⟩:=h4 rest;refine⟨.aH svs,by unfold sU;rw[g1];rfl,λσ M v s d=>?_⟩;cases d with
  |aH hl g=>exact .aH (g2 σ M _ s ⟨hl,g⟩).1 (g2 σ M _ s ⟨hl,g⟩).2
 ·rename_i g0 ts g0' l;obtain⟨e1,f⟩:=bc e;have:=bT e1;subst this;obtain⟨ls,m',h1,h2,h3,h4⟩:=zr ts l m K b f;refine⟨ls,m',h1,h2,h3,λrest=>?_⟩;obtain⟨svs,g1,g2⟩:=h4 rest;refine⟨.fn g0 svs,by unfold sU;rw[g1];rfl,λσ M v s d=>?_⟩;cases d with
  |fn hl g=>exact .fn (g2 σ M _ s ⟨hl,g⟩).1 (g2 σ M _ s ⟨hl,g⟩).2
 ·rename_i t0 vt0 t0' x0;obtain⟨e1,f⟩:=bc e;have:=bT e1;subst this;obtain⟨ls,m',h1,h2,h3,h4⟩:=I4 vt0 x0 m K b f;refine⟨ls,m',h1,h2,h3,λrest=>?_⟩;obtain⟨sv,g1,g2⟩:=h4 rest;refine⟨.fC t0 sv,by unfold sU;rw[g1];rfl,λσ M v s d=>?_⟩;cases d with
  |fC g=>exact .fC (g2 σ M _ s g)
 ·exact⟨_,_,e,eU.refl _,λI=>I,λrest=>⟨_,rfl,λσ M v _ d=>by cases d;exact .em (by assumption)⟩⟩
 ·exact⟨_,_,e,eU.refl _,λI=>I,λrest=>⟨_,rfl,λσ M v _ d=>by cases d;exact .em (by assumption)⟩⟩
 ·exact⟨_,_,e,eU.refl _,λI=>I,λrest=>⟨_,rfl,λσ M v _ d=>by cases d;exact .lp (by assumption)⟩⟩
 ·rename_i id0 off id' off';obtain⟨e1,f⟩:=bc e;have:=bT e1;subst this;obtain⟨m',h1,h2,h3,h4⟩:=wh f;refine⟨_,m',h1,h2,h4,λrest=>⟨_,rfl,λσ M v s d=>?_⟩⟩;cases d with
  |ptr g=>exact .ptr (by rw[σm_some (s _ _ h3)];exact g)
 ·rename_i id0 off id' off' n c;obtain⟨e1,f⟩:=bc e;have:=bT e1;subst this;obtain⟨m',h1,h2,h3,h4⟩:=wh f;refine⟨_,m',h1,h2,h4,λrest=>⟨_,rfl,λσ M v s d=>?_⟩⟩;cases d with
  |sl g hn=>exact .sl (by rw[σm_some (s _ _ h3)];exact g) hn
 ·rename_i id0 id' off n c;obtain⟨m',h1,h2,h3,h4⟩:=wh e;refine⟨_,m',h1,h2,h4,λrest=>⟨_,rfl,λσ M v s d=>?_⟩⟩;cases d with
  |sl g hn=>exact .sl (by rw[σm_some (s _ _ h3)];exact g) hn
 ·rename_i id0 E id' E';obtain⟨e1,f⟩:=bc e;have:=bT e1;subst this;obtain⟨m',h1,h2,h3,h4⟩:=wh f;refine⟨_,m',h1,h2,h4,λrest=>⟨_,rfl,λσ M v s d=>?_⟩⟩;cases d with
  |jx g=>exact .jx (by rw[σm_some (s _ _ h3)];exact g)
  |gr g hc hn=>exact .gr (by rw[σm_some (s _ _ h3)];exact g) hc hn
 ·obtain⟨m',h1,h2,h3,h4⟩:=wh e;refine⟨_,m',h1,h2,h4,λrest=>⟨_,rfl,λσ M v s d=>?_⟩⟩;cases d;exact .jx (σm_none (s _ _ h3))
 ·rename_i id0 off n0 c0 id' off' n c;obtain⟨e1,f⟩:=bc e;simp only[bq] at e1;have g1:=bT e1.1;have g2:=bT e1.2.1;have g3:=bT e1.2.2;subst g1 g2 g3;obtain⟨m',h1,h2,h3,h4⟩:=wh f;refine⟨_,m',h1,h2,h4,λrest=>⟨_,rfl,λσ M v s d=>?_⟩⟩;cases d with
  |sl g hn=>exact .sl (by rw[σm_some (s _ _ h3)];exact g) hn
 ·refine⟨_,_,e,eU.refl _,λI=>I,λrest=>⟨_,rfl,λσ M v _ d=>?_⟩⟩;cases d with
  |v h h1=>exact .v h h1
 ·cases e
theorem zr:∀(vts:List VT)(svs:List SV)(m:Mp)(K:List bo->Mp->Option β)(b:β),uv vts svs m K=some b->
 ∃ls m',K ls m'=some b/\eU m m'/\(kV m->kV m')/\∀rest,∃svs',ru vts (ls++rest)=some (svs',rest)/\∀(σ:Ren)(M:Mp)(vs:List Value),eU m' M->eQ σ svs vs->eQ (σm σ M) svs' vs:=by
 intro vts svs m K b e;unfold uv at e;split at e
 ·exact⟨_,_,e,eU.refl _,id,λrest=>⟨_,rfl,λσ M v _ d=>by rw[d.ew];exact .nil⟩⟩
 ·rename_i t ts x xs;obtain⟨l1,m1,h1,h2,h3,h4⟩:=I4 t x m _ b e;obtain⟨l2,m2,g1,g2,g3,g4⟩:=zr ts xs m1 _ b h1;refine⟨l1++l2,m2,g1,h2.trans g2,λI=>g3 (h3 I),λrest=>?_⟩;obtain⟨s1,p1,p2⟩:=h4 (l2++rest);obtain⟨s2,q1,q2⟩:=g4 rest;refine⟨s1::s2,?_,λσ M vs s d=>?_⟩
  ·rw[dO];unfold ru;rw[p1];show ob (ru ts (l2++rest)) _=_;rw[q1];rfl
  ·obtain⟨_,_,rfl,a,t⟩:=d.inv;exact .cons (p2 σ M _ (g2.trans s) a) (q2 σ M _ s t)
 ·cases e
end
theorem QA:∀(sl:List (Nat×VT))(T0:Tr SV)(m:Mp)(K:List bo->Mp->Option β)(b:β),I3 sl T0 m K=some b->
 ∃ls m',K ls m'=some b/\eU m m'/\(kV m->kV m')/\∀rest,∃T,z8 sl (ls++rest)=some (T,rest)/\∀(σ:Ren)(M:Mp)(a:Act),eU m' M->Ev σ T0 a->Ev (σm σ M) T a
 |[],T0,m,K,b,e=>⟨_,_,e,eU.refl _,id,λrest=>⟨_,rfl,λσ M tm _ _ t sv h=>by rw[Tr.get_nil] at h;cases h⟩⟩
 |(t,vt)::r,T0,m,K,b,e=>by
  obtain⟨sv,hsv,e⟩:=ay e;obtain⟨l1,m1,h1,h2,h3,h4⟩:=I4 vt sv m _ b e;obtain⟨l2,m2,g1,g2,g3,g4⟩:=QA r T0 m1 _ b h1;refine⟨l1++l2,m2,g1,h2.trans g2,λI=>g3 (h3 I),λrest=>?_⟩;obtain⟨s1,p1,p2⟩:=h4 (l2++rest);obtain⟨T,q1,q2⟩:=g4 rest;refine⟨T.set t s1,?_,λσ M tm s H t' sv' h=>?_⟩
  ·rw[dO];unfold z8;rw[p1];show ob (z8 r (l2++rest)) _=_;rw[q1];rfl
  ·rw[Tr.fA] at h;by_cases e:t'=t
   ·rw[az e] at h;cases h;rw[e];exact p2 σ M _ (g2.trans s) (H t sv hsv)
   ·rw[ar e] at h;exact q2 σ M tm s H t' sv' h
theorem aaA{id:Nat}{ot:OT}{h0:Tr SO}{m:Mp}{K:List bo->Mp->Option β}{b:β}(e:I1 id ot h0 m K=some b):
 ∃ls m',K ls m'=some b/\eU m m'/\(kV m->kV m')/\(dU id m=some none\/∃a so,dU id m=some (some a)/\h0.get a=some so)/\∀rest,∃so',Sw ot (ls++rest)=some (so',rest)/\
  ∀(σ:Ren)(M:Mp)(h:World),eU m' M->(∀id so,h0.get id=some so->DO σ h id so)->DO (σm σ M) h id so':=by
 unfold I1 at e;split at e
 ·obtain⟨x,hx,f⟩:=ay e;obtain⟨a,ha,g⟩:=ay f;subst ha;obtain⟨so,hso,k⟩:=ay g;split at k
  ·rename_i ts t _ l t';obtain⟨e1,q⟩:=bc k;have:=bT e1;subst this;obtain⟨ls,m',h1,h2,h3,h4⟩:=zr ts l m K b q;refine⟨ls,m',h1,h2,h3,.inr ⟨a,_,hx,hso⟩,λrest=>?_⟩;obtain⟨s,p1,p2⟩:=h4 rest;refine⟨.cells s t,by show ob (ru ts (ls++rest)) _=_;rw[p1];rfl,λσ M h sm H=>?_⟩;obtain⟨o,n,vs,q1,q2,q3⟩:=H a _ hso;exact⟨o,n,vs,by rw[σm_some (sm _ _ (h2 _ _ hx))];exact q1,q2,p2 σ M _ sm q3⟩
  ·cases k
 ·obtain⟨x,hx,f⟩:=ay e;obtain⟨a,ha,g⟩:=ay f;subst ha;obtain⟨so,hso,k⟩:=ay g;split at k
  ·obtain⟨e1,q⟩:=bc k;have:=bT e1;subst this;refine⟨_,m,q,eU.refl _,λI=>I,.inr ⟨a,_,hx,hso⟩,λrest=>⟨_,rfl,λσ M h sm H=>?_⟩⟩;obtain⟨o,n,vs,q1,q2,q3⟩:=H a _ hso;exact⟨o,n,vs,by rw[σm_some (sm _ _ hx)];exact q1,q2,q3⟩
  ·cases k
 ·obtain⟨x,hx,e⟩:=ay e;split at e
  ·obtain⟨e1,e⟩:=bc e;exact⟨_,m,e,eU.refl _,λI=>I,.inl hx,λrest=>⟨_,rfl,λσ M h sm H=>(⟨eX e1,rfl,.inl ⟨σm_none (sm _ _ hx),rfl⟩⟩)⟩⟩
  ·rename_i a;obtain⟨so,hso,e⟩:=ay e;split at e
   ·obtain⟨e1,f⟩:=bc e;rw[bq] at e1;have e2:=bT e1.1;have e3:=bT e1.2;subst e2 e3;refine⟨_,m,f,eU.refl _,λI=>I,.inr ⟨a,_,hx,hso⟩,λrest=>⟨_,rfl,λσ M h sm H=>?_⟩⟩;obtain⟨q1,q2,q3⟩:=H a _ hso;have hs:=σm_some (σ:=σ) (sm _ _ hx);refine⟨q1,q2,?_⟩;rw[<-hs] at q3;exact q3
   ·cases e
theorem Qz:∀(ol:List (Nat×OT))(h0:Tr SO)(m:Mp)(K:List bo->Mp->Option β)(b:β),I2 ol h0 m K=some b->
 ∃ls m',K ls m'=some b/\eU m m'/\(kV m->kV m')/\∀rest,∃T,wT ol (ls++rest)=some (T,rest)/\∀(σ:Ren)(M:Mp)(h:World),eU m' M->(∀id so,h0.get id=some so->DO σ h id so)->
  ∀id so,T.get id=some so->DO (σm σ M) h id so/\(dU id M=some none\/∃a so,dU id M=some (some a)/\h0.get a=some so)
 |[],h0,m,K,b,e=>⟨_,_,e,eU.refl _,id,λrest=>⟨_,rfl,λσ M h _ _ t sv h=>by rw[Tr.get_nil] at h;cases h⟩⟩
 |(id0,ot)::r,h0,m,K,b,e=>by
  obtain⟨l1,m1,h1,h2,h3,hl,h4⟩:=aaA e;obtain⟨l2,m2,g1,g2,g3,g4⟩:=Qz r h0 m1 _ b h1;refine⟨l1++l2,m2,g1,h2.trans g2,λI=>g3 (h3 I),λrest=>?_⟩;obtain⟨s1,p1,p2⟩:=h4 (l2++rest);obtain⟨T,q1,q2⟩:=g4 rest;refine⟨T.set id0 s1,?_,λσ M h s H id so hg=>?_⟩
  ·rw[dO];unfold wT;rw[p1];show ob (wT r (l2++rest)) _=_;rw[q1];rfl
  ·rw[Tr.fA] at hg;by_cases e:id=id0
   ·rw[az e] at hg;cases hg;rw[e];refine⟨p2 σ M h (g2.trans s) H,?_⟩;rcases hl with hl|⟨a,so,k1,k2⟩
    ·exact .inl (s _ _ (g2 _ _ (h2 _ _ hl)))
    ·exact .inr ⟨a,so,s _ _ (g2 _ _ (h2 _ _ k1)),k2⟩
   ·rw[ar e] at hg;exact q2 σ M h s H id so hg
theorem RY{n:Nat}:∀{m:Mp},(m.all λp=>Nat.blt p.1 n)=true->∀id x,dU id m=some x->id<n
 |[],_,id,x,h=>by cases h
 |(j,y)::m,e,id,x,h=>by
  rw[List.all_cons,bq] at e;rw[qo] at h;by_cases q:j=id
  ·simp_all
  ·rw[ar q] at h;exact RY e.2 id x h
theorem RZ:∀{an k:Nat},k<an->dU k (jY an)=some (some k)
 |0,k,h=>by omega
 |n+1,k,h=>by
  show dU k ((n,some n)::jY n)=_;rw[qo];by_cases e:n=k
  ·grind
  ·rw[ar e];exact RZ (by omega)
theorem JS:∀{an k:Nat}{x:Option Nat},dU k (jY an)=some x->x=some k
 |0,k,x,h=>by cases h
 |n+1,k,x,h=>by
  have h:dU k ((n,some n)::jY n)=some x:=h;rw[qo] at h;by_cases e:n=k
  ·grind
  ·rw[ar e] at h;exact JS h
theorem Zk(an:Nat):kV (jY an):=λi j a h1 h2=>by
 have:=JS h1;have:=JS h2
 grind
theorem CZ{m0:Mp}(I0:kV m0){t:cH}{st:St}{K:List bo->Mp->Option β}{b:β}(e:ur m0 t st K=some b):
 ∃ls m,K ls m=some b/\eU m0 m/\kV m/\(∀id x,dU id m=some x->id<t.sx)/\∃st',hU t ls=some st'/\st'.sx=t.sx/\∀{σ:Ren}{a:Act}{w:World},Ev σ st.tm a->(∀id so,st.h.get id=some so->DO σ w id so)->Ev (σm σ m) st'.tm a/\
  ∀id so,st'.h.get id=some so->DO (σm σ m) w id so/\(dU id m=some none\/∃a so',dU id m=some (some a)/\st.h.get a=some so'):=by
 obtain⟨l1,m1,h1,h2,h3,h4⟩:=QA _ _ _ _ _ e;obtain⟨l2,m2,g1,g2,g3,g4⟩:=Qz _ _ _ _ _ h1;obtain⟨e1,e2⟩:=bc g1;refine⟨_,_,e2,h2.trans g2,g3 (h3 I0),RY e1,?_⟩;obtain⟨T,p1,p2⟩:=h4 l2;obtain⟨H,q1,q2⟩:=g4 [];rw[dQ] at q1;refine⟨⟨T,H,t.sx⟩,?_,rfl,λR O=>⟨p2 _ m2 _ g2 R,q2 _ m2 _ (eU.refl _) O⟩⟩;unfold hU;rw[p1];show ob (wT t.pF l2) _=_;rw[q1];rfl
theorem Mem.map{B B':Bs}{σ:Ren}{G:Nat->SO->Prop}{h':Tr SO}{F:Nat->Prop}{sx:Nat}{w:World}{m:Mp}(M:Mem B σ G F w)(I:kV m)(lt:∀id x,dU id m=some x->id<sx)
 (O:∀id so,h'.get id=some so->DO (σm σ m) w id so/\(dU id m=some none\/∃a so',dU id m=some (some a)/\G a so')) (base:eH B'.own B'.w w) (ow:∀b,Own σ G b->B'.own b\/B'.w.heap.size<=b)
 (ln:∀b i v,σ.lit b i=some v->B'.lit b i=some v\/B'.own b\/B'.w.heap.size<=b) (an:∀k,k<B'.an->∀x,B'.nm k=some x->(σm σ m).nm k=some x) (lm:∀b i v,B'.lit b i=some v->σ.lit b i=some v):iP B' (σm σ m) h' sx w:=by
 have nm:∀{id so o n},h'.get id=some so->(σm σ m).nm id=some (some o,n)->∃a so',dU id m=some (some a)/\G a so'/\σ.nm a=some (some o,n):=by
  intro id so o n h1 h2;rcases(O id so h1).2 with k|⟨a,so',k1,k2⟩
  ·rw[σm_none k] at h2;cases h2
  ·rw[σm_some k1] at h2;exact⟨a,so',k1,k2,h2⟩
 have own:∀b,Own (σm σ m) (hG h') b->Own σ G b:=λb ⟨id,so,o,n,a1,a2,a3⟩=>(have⟨a,so',_,k2,k3⟩:=nm a1 a2;⟨a,so',o,n,k2,k3,a3⟩);refine⟨λid so k=>(O id so k).1,λi j so so' o o' n n' a1 a2 b1 b2 e=>?_,λid hid=>?_,M.lit,λb i v k q=>M.free b i v k (own b q),base,λb q=>ow b (own b q),ln,an,lm⟩
 ·obtain⟨x,s1,k1,k2,k3⟩:=nm a1 b1;obtain⟨y,s2,k4,k5,k6⟩:=nm a2 b2;have:=M.inj _ _ _ _ _ _ _ _ k2 k5 k3 k6 e;subst this;exact I _ _ _ k1 k4
 ·cases q:dU id m with
  |none=>simp only[σm,q]
  |some x=>exact absurd (lt id x q) (Nat.not_lt.2 hid)
theorem uu{B:Bs}{t:cH}{st:St}{K:List bo->Option β}{b:β}(e:kJ B.an t st K=some b):
 ∃ls,K ls=some b/\∃st',hU t ls=some st'/\st'.sx=t.sx/\∀{σ:Ren}{a:Act}{w:World},Ev σ st.tm a->iP B σ st.h st.sx w->∃σ',Ev σ' st'.tm a/\iP B σ' st'.h st'.sx w:=by
 obtain⟨ls,m,h1,h2,I,lt,st',h4,h5,h6⟩:=CZ (Zk B.an) e;refine⟨ls,h1,st',h4,h5,λ{σ a w} R M=>⟨σm σ m,?_⟩⟩;obtain⟨h7,h8⟩:=h6 R M.obj;exact⟨h7,by rw[h5];exact M.map I lt h8 M.base M.owned M.lW (λk hk x hx=>by rw[σm_some (h2 _ _ (RZ hk))];exact M.jY k hk x hx) M.na⟩
end
section
variable{β:Type}
def nR(cs:List Value)(r:Option β):Option β:=match cs with
 |[]=>r
 |_=>none
def wS:List VT->List Value->(List bo->Option β)->Option β
 |[],cs,K=>nR cs (K [])
 | .i k::ts,cs,K=>af cs λx r=>aq k x λn=>wS ts r λl=>K (.i n::l)
 | .b::ts,cs,K=>af cs λx r=>yV x λn=>wS ts r λl=>K (.b n::l)
 | .s::ts,cs,K=>af cs λx r=>yW x λn=>wS ts r λl=>K (.s n::l)
 | .v::ts,cs,K=>af cs λx r=>wS ts r λl=>K (.v x::l)
 |_,_,_=>none
def sL{γ:Type}(g:SV->Option γ):List SV->Option (List γ)
 |[]=>some []
 |x::xs=>ob (g x) λu=>ob (sL g xs) λus=>some (u::us)
def QV(g:SV->Option Value):SV->Option Value
 | .agg l=>ob (sL g l) λus=>some (.agg ⟨us⟩)
 |x=>g x
def JL:Value->Bool
 | .agg xs=>xs.toList.all λx=>match x with| .int _ _=>true|_=>false
 |_=>false
def Jr(g:SV->Option Value):List (Value×SV)->Option (List Value)
 |[]=>some []
 |e::es=>cond (JL e.1) (ob (QV g e.2) λu=>ob (Jr g es) λus=>some (.func (.func 0) #[e.1] #[u]::us)) none
def gv(h:Tr SO):Nat->SV->Option Value
 |0,_=>none
 |f+1,x=>match x with
  | .i k n=>some (.int k n)
  | .b q=>some (.bool q)
  | .s q=>some (.string q)
  | .v q=>some q
  | .nl=>some (ae 0 [])
  | .ni=>some .nilIface
  | .gr id E=>ob (h.get id) λso=>match so with
   | .grow E' c _=>cond (Nat.beq E E') (some (ae (c.length/E) c)) none
   |_=>bF 39
  | .sl id off n _=>ob (h.get id) λso=>match so with
   | .arr c _=>cond (Nat.ble off c.length) (some (ae n (c.drop off))) none
   | .cells cs _=>cond (Nat.ble off cs.length) (ob (sL (gv h f) (cs.drop off)) λus=>some (ae n us)) none
   |_=>bF 40
  | .mp id=>ob (h.get id) λso=>match so with
   | .mp es=>ob (Jr (gv h f) es) λus=>some (.func (.method "") ⟨us⟩ #[])
   |_=>bF 44
  |_=>bF 41
mutual
def zx(st:St):VT->SV->(List bo->Option β)->Option β
 | .i k,.i k' n,K=>cond (decide (k=k')) (K [.i n]) none
 | .b,.b x,K=>K [.b x]
 | .s,.s x,K=>K [.s x]
 | .v,.v x,K=>K [.v x]
 | .v,.nl,K=>K [.v (ae 0 [])]
 | .v,.ni,K=>K [.v .nilIface]
 | .v,.gr id E,K=>ob (gv st.h 20 (.gr id E)) λu=>K [.v u]
 | .v,.sl id off n c,K=>ob (gv st.h 20 (.sl id off n c)) λu=>K [.v u]
 | .v,.mp id,K=>ob (gv st.h 20 (.mp id)) λu=>K [.v u]
 | .em true,.em true,K=>K []
 | .em false,.em false,K=>K []
 | .nf,.v .nilFunc,K=>K []
 | .agg ts,.agg l,K=>rj st ts l K
 | .aH ts,.aH l,K=>rj st ts l K
 | .fn f ts,.fn f' l,K=>cond (Nat.beq f f') (cond (Nat.blt f 65536) (rj st ts l K) none) none
 | .lp ts,.lp cs,K=>cond (qh ts) (wS ts cs K) none
 | .lp ts,.ptr id off,K=>ob (st.h.get id) λso=>match so with
  | .cells c _=>cond (Nat.ble off c.length&&qh ts) (rj st ts (c.drop off) K) none
  |_=>bF 42
 |_,_,_=>bF 43
def rj(st:St):List VT->List SV->(List bo->Option β)->Option β
 |[],[],K=>K []
 |t::ts,x::xs,K=>zx st t x λl1=>rj st ts xs λl2=>K (l1++l2)
 |_,_,_=>none
end
mutual
def jK:VT->List bo->Option (Value×List bo)
 | .i k,.i n::ls=>some (.int k n,ls)
 | .b,.b x::ls=>some (.bool x,ls)
 | .s,.s x::ls=>some (.string x,ls)
 | .v,.v x::ls=>some (x,ls)
 | .agg ts,ls=>ob (fI ts ls) λr=>some (.agg ⟨r.1⟩,r.2)
 | .aH ts,ls=>ob (fI ts ls) λr=>some (.tuple ⟨r.1⟩,r.2)
 | .fn f ts,ls=>cond (Nat.blt f 65536) (ob (fI ts ls) λr=>some (.func (.func f) #[] ⟨r.1⟩,r.2)) none
 | .lp ts,ls=>cond (qh ts) (ob (fI ts ls) λr=>some (Dl r.1,r.2)) none
 | .em b,ls=>some (CT b,ls)
 | .nf,ls=>some (.nilFunc,ls)
 |_,_=>none
def fI:List VT->List bo->Option (List Value×List bo)
 |[],ls=>some ([],ls)
 |t::ts,ls=>ob (jK t ls) λr=>ob (fI ts r.2) λq=>some (r.1 ::q.1,q.2)
end
mutual
def Hb:VT->List bo->Option (SV×List bo)
 | .i k,.i n::ls=>some (.i k n,ls)
 | .b,.b x::ls=>some (.b x,ls)
 | .s,.s x::ls=>some (.s x,ls)
 | .v,.v x::ls=>some (.v x,ls)
 | .agg ts,ls=>ob (vD ts ls) λr=>some (.agg r.1,r.2)
 | .aH ts,ls=>ob (vD ts ls) λr=>some (.aH r.1,r.2)
 | .fn f ts,ls=>cond (Nat.blt f 65536) (ob (vD ts ls) λr=>some (.fn f r.1,r.2)) none
 | .lp ts,ls=>cond (qh ts) (ob (fI ts ls) λr=>some (.lp r.1,r.2)) none
 | .em b,ls=>some (.em b,ls)
 | .nf,ls=>some (.v .nilFunc,ls)
 |_,_=>none
def vD:List VT->List bo->Option (List SV×List bo)
 |[],ls=>some ([],ls)
 |t::ts,ls=>ob (Hb t ls) λr=>ob (vD ts r.2) λq=>some (r.1 ::q.1,q.2)
end
mutual
def SV.ids:SV->List Nat
 | .ptr id _=>[id]
 | .sl id _ _ _=>[id]
 | .gr id _=>[id]
 | .mp id=>[id]
 | .agg l=>SV.jN l
 | .aH l=>SV.jN l
 | .fn _ l=>SV.jN l
 | .fC _ x=>SV.ids x
 |_=>[]
def SV.jN:List SV->List Nat
 |[]=>[]
 |x::xs=>SV.ids x++SV.jN xs
end
def SO.ids:SO->List Nat
 | .cells c _=>SV.jN c
 |_=>[]
def iV:Nat->List Nat->Tr SO->Tr SO->Tr SO×Tr SO
 |0,_,a,r=>(a,r)
 |_+1,[],a,r=>(a,r)
 |n+1,id::ids,a,r=>match r.get id with
  |none=>iV n ids a r
  |some so=>iV n (so.ids++ids) (a.set id so) (r.del id)
theorem wU{h:Tr SO}:∀(n:Nat)(ids:List Nat)(a r:Tr SO),(∀id so,a.get id=some so->h.get id=some so/\r.get id=none)->(∀id so,r.get id=some so->h.get id=some so/\a.get id=none)->
 (∀id so,(iV n ids a r).1.get id=some so->h.get id=some so/\(iV n ids a r).2.get id=none)/\(∀id so,(iV n ids a r).2.get id=some so->h.get id=some so/\(iV n ids a r).1.get id=none)
 |0,_,a,r,h1,h2=>⟨h1,h2⟩
 |_+1,[],a,r,h1,h2=>⟨h1,h2⟩
 |n+1,id::ids,a,r,h1,h2=>by
  unfold iV;split
  ·exact wU n ids a r h1 h2
  ·rename_i so hso;refine wU n (so.ids++ids) _ _ (λj s hj=>?_) (λj s hj=>?_)
   ·rw[Tr.fA] at hj;rw[Tr.rk]
    grind
   ·rw[Tr.rk] at hj;by_cases e:j=id
    ·grind
    ·rw[ar e] at hj;rw[Tr.fA];simp_all
def Lw(h:Tr SO):List SV->Option Nat
 |[]=>none
 | .sl id _ _ _::r=>match h.get id with
  |some (.cells _ _)=>some id
  |_=>Lw h r
 |_::r=>Lw h r
def As(st:St):List Operand->Option Nat
 |[]=>none
 | .tmp t::r=>match st.tm.get t with
  |some (.ptr id _)=>match st.h.get id with
   |some (.cells cs _)=>match Lw st.h cs with
    |some i=>some i
    |none=>As st r
   |_=>As st r
  |_=>As st r
 |_::r=>As st r
def Ut(st:St):List Oper->Option Nat
 |[]=>none
 |o::r=>match As st o.op.operands.toList with
  |some i=>some i
  |none=>Ut st r
def Jj(st:St)(id:Nat)(K:St->Option β):Option β:=ob (st.h.get id) λso=>match so with
 | .cells cs t=>ob (sL (gv (iV 1000 (SV.jN cs) .nil (st.h.del id)).1 20) cs) λus=>K {st with h:=(iV 1000 (SV.jN cs) .nil (st.h.del id)).2.set id (.arr us t)}
 |_=>bF 91
def Jl(b:Bool)(ops:List Oper)(st:St)(K:St->Option β):Option β:=cond b (match Ut st ops with|some id=>Jj st id K|none=>K st) (K st)
def qI(g:Bool):List SV->List Nat
 |[]=>[]
 | .sl id _ _ _::r=>id::qI g r
 | .gr id _::r=>cond g (id::qI g r) (qI g r)
 |_::r=>qI g r
def QX(g:Bool)(A:Tr SO):SV->Option SV
 | .sl id off n c=>ob (gv A 20 (.sl id off n c)) λu=>some (.v u)
 | .gr id E=>cond g (ob (gv A 20 (.gr id E)) λu=>some (.v u)) (some (.gr id E))
 |x=>some x
def C7(id:Nat)(g:Bool)(st:St)(K:St->Option β):Option β:=ob (st.h.get id) λso=>match so with
 | .cells cs t=>ob (sL (QX g (iV 1000 (qI g cs) .nil (st.h.del id)).1) cs) λus=>K {st with h:=(iV 1000 (qI g cs) .nil (st.h.del id)).2.set id (.cells us t)}
 |_=>bF 91
def QP(b:Bool)(st:St)(K:St->Option β):Option β:=cond b (C7 0 false st K) (K st)
def Ar(st:St):List Operand->Option Nat
 |[]=>none
 | .tmp t::r=>match st.tm.get t with
  |some (.ptr id _)=>match st.h.get id with
   |some (.cells cs _)=>cond (Nat.blt 1 cs.length&&!(qI true cs).isEmpty) (some id) (Ar st r)
   |_=>Ar st r
  |_=>Ar st r
 |_::r=>Ar st r
def Us(st:St):List Oper->Option Nat
 |[]=>none
 |o::r=>match Ar st o.op.operands.toList with
  |some i=>some i
  |none=>Us st r
def Jk(b:Bool)(ops:List Oper)(st:St)(K:St->Option β):Option β:=cond b (match Us st ops with|some id=>C7 id true st K|none=>K st) (K st)
def RQ(st:St):List Oper->Option (Nat×Nat)
 |[]=>none
 |o::r=>match RQ st r with
  |some q=>some q
  |none=>match o.dst with
   |some t=>match st.tm.get t with
    |some (.sl id _ _ _)=>some (t,id)
    |_=>none
   |none=>none
def Jm(t:Nat)(st:St)(K:St->Option β):Option β:=ob (st.tm.get t) λsv=>match sv with
 | .sl id off n c=>ob (st.h.get id) λso=>match so with
  | .arr us ty=>cond ((Nat.beq off 0&&Nat.beq n c)&&(Nat.blt 0 (us.length/n)&&Nat.beq (n*(us.length/n)) us.length)) (K ⟨st.tm.set t (.gr st.sx (us.length/n)),(st.h.del id).set st.sx (.grow (us.length/n) us ty),st.sx+1⟩) (bF 93)
  |_=>bF 93
 |_=>bF 93
def zz(b:Bool)(ops:List Oper)(st:St)(K:St->Option β):Option β:=cond b (match RQ st ops with|some q=>(match st.h.get q.2 with|some (.arr _ _)=>Jm q.1 st K|_=>Jj st q.2 λst=>Jm q.1 st K)|none=>K st) (K st)
def Jq(st:St):List Operand->Option Nat
 |[]=>none
 | .tmp t::r=>match st.tm.get t with
  |some (.gr _ _)=>some t
  |_=>Jq st r
 |_::r=>Jq st r
def QS(st:St):List Oper->Option Nat
 |[]=>none
 |o::r=>match Jq st o.op.operands.toList with
  |some t=>some t
  |none=>QS st r
def Jn(b:Bool)(ops:List Oper)(st:St)(K:St->Option β):Option β:=cond b (match QS st ops with|some t=>ob (st.tm.get t) λsv=>ob (gv (iV 1000 (SV.ids sv) .nil st.h).1 20 sv) λu=>K {st with tm:=st.tm.set t (.v u),h:=(iV 1000 (SV.ids sv) .nil st.h).2 }|none=>K st) (K st)
theorem acw{cs:List Value}{r:Option β}{b:β}(e:nR cs r=some b):cs=[]/\r=some b:=by
 unfold nR at e
 grind
def ff(ls:List bo):Prop:=∀x,bo.v x∈ls->bd [x]=true
theorem ff.nil:ff []:=λx hx=>by cases hx
theorem ff.one{x:Value}(h:bd [x]=true):ff [.v x]:=λy hy=>by simp at hy;rw[hy];exact h
theorem ff.tail{l:bo}{ls:List bo}(h:ff (l::ls)):ff ls:=λx hx=>h x (mJ _ hx)
theorem ff.append{xs ys:List bo}(h:ff xs)(k:ff ys):ff (xs++ys):=λx hx=>(fF.1 hx).elim (h x) (k x)
theorem DZ{x:Value}{r:List Value}(h:bd (x::r)=true):bd r=true:=by rw[qs,bq] at h;exact h.2
theorem zU:∀(ts:List VT)(cs:List Value)(K:List bo->Option β)(b:β),wS ts cs K=some b->
 ∃ls,K ls=some b/\(bd cs=true->ff ls)/\∀rest,fI ts (ls++rest)=some (cs,rest)
 |[],cs,K,b,e=>by obtain⟨rfl,e⟩:=acw e;exact⟨[],e,λ_ x hx=>(by cases hx),λrest=>by unfold fI;rfl⟩
 | .i k::ts,cs0,K,b,e=>by
  obtain⟨x,cs,rfl,e2⟩:=yC e;unfold aq at e2;split at e2
  ·obtain⟨e1,f⟩:=bc e2;have:=oo e1;subst this;obtain⟨ls,h1,h2,h3⟩:=zU ts cs _ b f;refine⟨_,h1,λp y hy=>?_,λrest=>?_⟩
   ·rcases cO.1 hy with hy|hy
    ·cases hy
    ·exact h2 (DZ p) y hy
   ·show fI _ (_::(ls++rest))=_;show ob (fI ts (ls++rest)) _=_;rw[h3];rfl
  ·cases e2
 | .b::ts,cs0,K,b,e=>by
  obtain⟨x,cs,rfl,e2⟩:=yC e;unfold yV at e2;split at e2
  ·obtain⟨ls,h1,h2,h3⟩:=zU ts cs _ b e2;refine⟨_,h1,λp y hy=>?_,λrest=>?_⟩
   ·rcases cO.1 hy with hy|hy
    ·cases hy
    ·exact h2 (DZ p) y hy
   ·show fI _ (_::(ls++rest))=_;show ob (fI ts (ls++rest)) _=_;rw[h3];rfl
  ·cases e2
 | .s::ts,cs0,K,b,e=>by
  obtain⟨x,cs,rfl,e2⟩:=yC e;unfold yW at e2;split at e2
  ·obtain⟨ls,h1,h2,h3⟩:=zU ts cs _ b e2;refine⟨_,h1,λp y hy=>?_,λrest=>?_⟩
   ·rcases cO.1 hy with hy|hy
    ·cases hy
    ·exact h2 (DZ p) y hy
   ·show fI _ (_::(ls++rest))=_;show ob (fI ts (ls++rest)) _=_;rw[h3];rfl
  ·cases e2
 | .v::ts,cs0,K,b,e=>by
  obtain⟨x,cs,rfl,e⟩:=yC e;obtain⟨ls,h1,h2,h3⟩:=zU ts cs _ b e;refine⟨_,h1,λp y hy=>?_,λrest=>?_⟩
  ·rcases cO.1 hy with hy|hy
   ·cases hy;exact(by rw[qs,bq] at p;exact p.1)
   ·exact h2 (DZ p) y hy
  ·show fI _ (_::(ls++rest))=_;show ob (fI ts (ls++rest)) _=_;rw[h3];rfl
theorem uC{γ:Type}{R:SV->Value->Prop}{S:γ->Value->Prop}{g:SV->Option γ}(H:∀x u v,g x=some u->R x v->S u v):∀{xs:List SV}{us:List γ},sL g xs=some us->∀{vs:List Value},PW R xs vs->PW S us vs
 |[],us,e,vs,d=>by cases e;rw[d.ew];exact .nil
 |x::xs,us,e,vs,d=>by obtain⟨u,h1,e⟩:=ay e;obtain⟨r,h2,e⟩:=ay e;cases e;obtain⟨y,ys,rfl,a,t⟩:=d.inv;exact .cons (H _ _ _ h1 a) (uC H h2 t)
structure Seen(σ:Ren)(m:Nat->Nat->Option Value)(h:Tr SO)(w:World):Prop where
 lit:∀b i v,σ.lit b i=some v->m b i=some v
 obj:∀id so,h.get id=some so->DO σ w id so
 cell:∀id so,h.get id=some so->∀o n,σ.nm id=some (some o,n)->∀i v,fD w o.1 i=some v->m o.1 i=some v
theorem Seen.of{σ:Ren}{m:Nat->Nat->Option Value}{h:Tr SO}{w:World}(S:Seen σ m h w){id n:Nat}{so:SO}{o:Nat×Nat}{cs:Array Value}{t:TypeId}(ho:h.get id=some so)(hn:σ.nm id=some (some o,n))(c:Cl w o.1 cs t){i:Nat}{v:Value}(hi:cs.toList[i]? =some v):m o.1 i=some v:=by obtain⟨fz,c,_⟩:=c;exact S.cell _ _ ho _ _ hn i v (by rw[uK c];simpa using hi)
theorem UU{α γ:Type}{R S:α->γ->Prop}{xs:List α}{ys:List γ}(h:PW (λx y=>R x y/\S x y) xs ys):PW R xs ys/\PW S xs ys:=⟨h.mono λ_ _ q=>q.1,h.mono λ_ _ q=>q.2⟩
theorem UW{us:List Value}{vs:List Value}(h:PW (λu (_:Value)=>bd [u]=true) us vs):bd us=true:=iW.2 λu hu=>by obtain⟨i,hi⟩:=List.mem_iff_getElem?.1 hu;obtain⟨_,_,q⟩:=h.get hi;exact q
theorem abP{m:Nat->Nat->Option Value}{k:Value}(h:JL k=true):aK m k k:=by
 unfold JL at h;split at h
 ·rename_i xs;refine .agg rfl λi x y a b=>?_;rw[a] at b;cases b;have:=ij.1 h x (nB a);split at this
  ·exact .int _ _
  ·cases this
 ·cases h
theorem QW{σ:Ren}{m:Nat->Nat->Option Value}{g:SV->Option Value}(H:∀x u v,g x=some u->DV σ x v->aK m u v):∀{es:List (Value×SV)}{us:List Value}{es':List MapEntry},Jr g es=some us->PW (Hz σ) es es'->PW (aK m) us (es'.map λe=>.func (.func 0) #[e.key] #[e.val])
 |[],us,es',e,p=>by cases e;rw[p.ew];exact .nil
 |x::es,us,es',e,p=>by
  obtain⟨y,ys,rfl,a,t⟩:=p.inv;obtain⟨hk,e⟩:=bc e;obtain⟨u,h1,e⟩:=ay e;obtain⟨r,h2,e⟩:=ay e;cases e;have hv:aK m u y.val:=by
   have d:=a.2;unfold QV at h1;split at h1
   ·rename_i l hl;obtain⟨q,h3,e⟩:=ay h1;cases e;rw[hl] at d;generalize y.val=z at d;cases d with
    |agg d1 d2=>have q:=uC H h3 ⟨d1,d2⟩;exact .agg q.1 q.2
   ·exact H _ _ _ h1 d
  have key:aK m x.1 y.key:=by rw[a.1];exact abP hk
  exact .cons (.fn rfl (λi x y p q=>by cases i<;>simp at p q;subst p q;exact key) rfl λi x y p q=>by cases i<;>simp at p q;subst p q;exact hv) (QW H h2 t)
theorem nN{σ:Ren}{m:Nat->Nat->Option Value}{h:Tr SO}{w:World}(S:Seen σ m h w):∀(f:Nat)(x:SV)(u v:Value),gv h f x=some u->DV σ x v->aK m u v/\bd [u]=true
 |0,_,_,_,e,_=>by cases e
 |f+1,x,u,v,e,d=>by
  unfold gv at e;split at e
  ·cases e;cases d;exact⟨.int _ _,rfl⟩
  ·cases e;cases d;exact⟨.bool _,rfl⟩
  ·cases e;cases d;exact⟨.str _,rfl⟩
  ·cases e;cases d with
   |v h h1=>exact⟨h.mono S.lit,h1⟩
  ·cases e;cases d;exact⟨.gH,rfl⟩
  ·cases e;cases d;exact⟨.nilIface,rfl⟩
  ·rename_i id E;obtain⟨so,hso,e⟩:=ay e;split at e
   ·rename_i E' c t;obtain⟨q,e1⟩:=bc e;clear e;replace q:=bT q;subst q;cases e1;obtain⟨hE,oc,D⟩:=S.obj _ _ hso;cases d with
    |jx g=>
     rcases D with⟨_,rfl⟩|⟨o,n,cs,k,_⟩
     ·exact⟨by simp only[List.length_nil,Nat.zero_div];exact .gH,rfl⟩
     ·rw[g] at k;cases k
    |gr g hc hn=>
     rcases D with⟨k,_⟩|⟨o',n',cs,k,cl,h1,h2,h3,h4⟩
     ·rw[g] at k;cases k
     ·have k':=g.symm.trans k;simp only[r8,Prod.mk.injEq] at k';obtain⟨rfl,rfl⟩:=k';rw[h2,jk _ hE];have h4:=h4.mono λ_ _=>aK.mono S.lit;refine⟨.lC h4.1 h4.2 (λi y hy=>?_) rfl hn oc,rfl⟩;rw[pW] at hy;split at hy
      ·rw[gm];exact S.of hso k cl hy
      ·cases hy
   ·cases e
  ·rename_i id off n cap;obtain⟨so,hso,e⟩:=ay e;cases d with
   |sl g hn=>
   split at e
   ·rename_i c t;obtain⟨_,e⟩:=bc e;cases e;obtain⟨o',n',cs,k,cl,oc,r⟩:=S.obj _ _ hso;rw[g] at k;cases k;have r:=(r.mono λ_ _=>aK.mono S.lit).drop off;refine⟨.lC r.1 r.2 (λi y hy=>?_) rfl hn (qu oc λx hx=>pY hx),rfl⟩;rw[List.getElem?_drop] at hy;exact S.of hso g cl hy
   ·rename_i cs0 t;obtain⟨_,e⟩:=bc e;obtain⟨us,hu,e⟩:=ay e;cases e;obtain⟨o',n',cs,k,cl,r⟩:=S.obj _ _ hso;rw[g] at k;cases k;obtain⟨r1,r2⟩:=UU (uC (λx u v e d=>nN S f x u v e d) hu (r.drop off));refine⟨.lC r1.1 r1.2 (λi y hy=>?_) rfl hn (UW r2),rfl⟩;rw[List.getElem?_drop] at hy;exact S.of hso g cl hy
   ·cases e
  ·rename_i id;obtain⟨so,hso,e⟩:=ay e;split at e
   ·rename_i es;obtain⟨us,hu,e1⟩:=ay e;cases e1;obtain⟨o',n',es',ck,k,cl,r⟩:=S.obj _ _ hso;cases d with
    |mp g=>
    rename_i n2 o2;have ho:o2=o':=by have g':=g.symm.trans k;simp only[r8,Prod.mk.injEq] at g';exact g'.1
    rw[ho];have q:=QW (λx u v e d=>(nN S f x u v e d).1) hu r;exact⟨.Du q.1 q.2 λi=>S.cell _ _ hso _ _ k i _ (by unfold fD;rw[cl];rfl),rfl⟩
   ·cases e
  ·cases e
open Classical in
noncomputable def kb(σ:Ren)(A:Nat->SO->Prop)(w:World)(b i:Nat):Option Value:=if Own σ A b then fD w b i else σ.lit b i
theorem Mem.zA{B:Bs}{σ:Ren}{G A G':Nat->SO->Prop}{F:Nat->Prop}{w:World}(M:Mem B σ G F w)(sA:∀id so,A id so->G id so)(sG:∀id so,G' id so->∃so',G id so'/\∀s,¬A id s)(ob:Ext σ ⟨σ.nm,kb σ A w⟩->∀id so,G' id so->DO ⟨σ.nm,kb σ A w⟩ w id so):
 Ext σ ⟨σ.nm,kb σ A w⟩/\Mem B ⟨σ.nm,kb σ A w⟩ G' F w:=by
 have ow:∀b,Own σ A b->Own σ G b:=λb ⟨i,s,o,n,a,p,q⟩=>⟨i,s,o,n,sA i s a,p,q⟩;have me:∀b i v,σ.lit b i=some v->kb σ A w b i=some v:=λb i v h=>by unfold kb;rw[ar λq=>M.free b i v h (ow b q)];exact h
 have E:Ext σ ⟨σ.nm,kb σ A w⟩:=⟨λ_ _ h=>h,me⟩;have ow':∀b,Own ⟨σ.nm,kb σ A w⟩ G' b->Own σ G b/\¬Own σ A b:=λb ⟨i,s,o,n,a,p,q⟩=>by obtain⟨s',k1,k2⟩:=sG i s a;refine⟨⟨i,s',o,n,k1,p,q⟩,λ⟨j,s2,o2,n2,a2,p2,q2⟩=>?_⟩;have:=M.inj _ _ _ _ _ _ _ _ k1 (sA j s2 a2) p p2 (q.trans q2.symm);subst this;exact k2 _ a2
 refine⟨E,ob E,λi j s s' o o' n n' a a' p p' q=>?_,M.fresh,λb i v h=>?_,λb i v h q=>?_,M.base,λb q=>M.owned b (ow' b q).1,λb i v h=>?_,M.jY,λb i v h=>me b i v (M.na b i v h)⟩
 ·obtain⟨_,k,_⟩:=sG i s a;obtain⟨_,k',_⟩:=sG j s' a';exact M.inj _ _ _ _ _ _ _ _ k k' p p' q
 ·simp only[kb] at h;split at h
  ·exact h
  ·exact M.lit b i v h
 ·obtain⟨q1,q2⟩:=ow' b q;simp only[kb] at h;rw[ar q2] at h;exact M.free b i v h q1
 ·simp only[kb] at h;split at h
  ·rename_i q;exact .inr (M.owned b (ow b q))
  ·exact M.lW b i v h
theorem Mem.seen{B:Bs}{σ:Ren}{G:Nat->SO->Prop}{F:Nat->Prop}{w:World}{h:Tr SO}(M:Mem B σ G F w)(s:∀id so,h.get id=some so->G id so):Seen σ (kb σ (hG h) w) h w:=
 ⟨λb i v q=>by unfold kb;rw[ar λ⟨j,so,o,n,a,p,r⟩=>M.free b i v q ⟨j,so,o,n,s j so a,p,r⟩];exact q,λi so q=>M.obj i so (s i so q),λi s h o n hn j v hv=>by unfold kb;rw[az ⟨i,s,o,n,h,hn,rfl⟩];exact hv⟩
theorem QN{st:St}{id:Nat}{K:St->Option β}{b:β}(e:Jj st id K=some b):∃st',K st'=some b/\∀{B:Bs}{σ:Ren}{a:Act}{w:World},dt B σ st a w->∃σ',dt B σ' st' a w:=by
 obtain⟨so,hso,e⟩:=ay e;split at e
 case h_2=>cases e
 rename_i cs t;obtain⟨us,hu,e⟩:=ay e;refine⟨_,e,λ{B σ a w} R=>?_⟩;have mv:=wU (h:=st.h.del id) 1000 (SV.jN cs) .nil (st.h.del id) (λi s h=>by rw[Tr.get_nil] at h;cases h) λi s h=>⟨h,Tr.get_nil _⟩;generalize(iV 1000 (SV.jN cs) .nil (st.h.del id)).1 =A at mv hu;generalize(iV 1000 (SV.jN cs) .nil (st.h.del id)).2 =r at mv;have dl:∀{i s},(st.h.del id).get i=some s->i≠id/\st.h.get i=some s:=λ{i s} h=>by rw[Tr.rk] at h;grind
 have mA:∀i s,A.get i=some s->i≠id/\st.h.get i=some s:=λi s h=>dl (mv.1 i s h).1;have S:=R.mem.seen λi s h=>(mA i s h).2;obtain⟨E,M⟩:=R.mem.zA (A:=hG A) (G':=hG (r.set id (.arr us t))) (λi s h=>(mA i s h).2) (λi s h=>by
  simp only[hG,Tr.fA] at h;split at h
  ·rename_i q;subst q;exact⟨_,hso,λs q=>(mA i s q).1 rfl⟩
  ·exact⟨s,(dl (mv.2 i s h).1).2,λs' q=>by have:=(mv.2 i s h).2;rw[show A.get i=some s' from q] at this;cases this⟩) λE i s h=>by
  simp only[hG,Tr.fA] at h;split at h
  ·rename_i q;subst q;cases h;obtain⟨o,n,cs',g1,g2,g3⟩:=R.mem.obj _ _ hso;obtain⟨r1,r2⟩:=UU (uC (λx u v e d=>nN S 20 x u v e d) hu g3);exact⟨o,n,cs',g1,g2,UW r2,r1⟩
  ·exact(R.mem.obj i s (dl (mv.2 i s h).1).2).mono E λ_ _ _=>rfl
 exact⟨_,R.size,R.dG,λk sv h=>(R.ev k sv h).mono E,M⟩
theorem QO{id:Nat}{g:Bool}{st:St}{K:St->Option β}{b:β}(e:C7 id g st K=some b):∃st',K st'=some b/\∀{B:Bs}{σ:Ren}{a:Act}{w:World},dt B σ st a w->∃σ',dt B σ' st' a w:=by
 unfold C7 at e;obtain⟨so,hso,e⟩:=ay e;split at e
 case h_2=>cases e
 rename_i cs t;obtain⟨us,hu,e⟩:=ay e;refine⟨_,e,λ{B σ a w} R=>?_⟩;have mv:=wU (h:=st.h.del id) 1000 (qI g cs) .nil (st.h.del id) (λi s h=>by rw[Tr.get_nil] at h;cases h) λi s h=>⟨h,Tr.get_nil _⟩;generalize(iV 1000 (qI g cs) .nil (st.h.del id)).1 =A at mv hu;generalize(iV 1000 (qI g cs) .nil (st.h.del id)).2 =r at mv;have dl:∀{i s},(st.h.del id).get i=some s->i≠id/\st.h.get i=some s:=λ{i s} h=>by rw[Tr.rk] at h;grind
 have mA:∀i s,A.get i=some s->i≠id/\st.h.get i=some s:=λi s h=>dl (mv.1 i s h).1;have S:=R.mem.seen λi s h=>(mA i s h).2;obtain⟨E,M⟩:=R.mem.zA (A:=hG A) (G':=hG (r.set id (.cells us t))) (λi s h=>(mA i s h).2) (λi s h=>by
  simp only[hG,Tr.fA] at h;split at h
  ·rename_i q;subst q;exact⟨_,hso,λs q=>(mA _ s q).1 rfl⟩
  ·exact⟨s,(dl (mv.2 i s h).1).2,λs' q=>by have:=(mv.2 i s h).2;rw[show A.get i=some s' from q] at this;cases this⟩) λE i s h=>by
  simp only[hG,Tr.fA] at h;split at h
  ·rename_i q;subst q;cases h;obtain⟨o,n,cs',g1,g2,g3⟩:=R.mem.obj _ _ hso;refine⟨o,n,cs',g1,g2,uC (λx u v e d=>?_) hu g3⟩;unfold QX at e;split at e
   ·obtain⟨q,h1,e⟩:=ay e;cases e;obtain⟨a,b⟩:=nN S 20 _ _ _ h1 d;exact .v a b
   ·cases g with
    |true=>obtain⟨q,h1,e⟩:=ay e;cases e;obtain⟨a,b⟩:=nN S 20 _ _ _ h1 d;exact .v a b
    |false=>cases e;exact d.mono E
   ·cases e;exact d.mono E
  ·exact(R.mem.obj i s (dl (mv.2 i s h).1).2).mono E λ_ _ _=>rfl
 exact⟨_,R.size,R.dG,λk sv h=>(R.ev k sv h).mono E,M⟩
theorem aaW{z:Bool}{st:St}{K:St->Option β}{b:β}(e:QP z st K=some b):∃st',K st'=some b/\∀{B:Bs}{σ:Ren}{a:Act}{w:World},dt B σ st a w->∃σ',dt B σ' st' a w:=by
 cases z with
 |false=>exact⟨st,e,λR=>⟨_,R⟩⟩
 |true=>exact QO e
theorem aaU{z:Bool}{ops:List Oper}{st:St}{K:St->Option β}{b:β}(e:Jk z ops st K=some b):∃st',K st'=some b/\∀{B:Bs}{σ:Ren}{a:Act}{w:World},dt B σ st a w->∃σ',dt B σ' st' a w:=by
 unfold Jk at e;cases z with
 |false=>exact⟨st,e,λR=>⟨_,R⟩⟩
 |true=>
  rw[aE] at e;split at e
  ·exact QO e
  ·exact⟨st,e,λR=>⟨_,R⟩⟩
theorem aaX{z:Bool}{ops:List Oper}{st:St}{K:St->Option β}{b:β}(e:Jl z ops st K=some b):∃st',K st'=some b/\∀{B:Bs}{σ:Ren}{a:Act}{w:World},dt B σ st a w->∃σ',dt B σ' st' a w:=by
 unfold Jl at e;cases z with
 |false=>exact⟨st,e,λR=>⟨_,R⟩⟩
 |true=>
  rw[aE] at e;split at e
  ·exact QN e
  ·exact⟨st,e,λR=>⟨_,R⟩⟩
theorem QQ{t:Nat}{st:St}{K:St->Option β}{b:β}(e:Jm t st K=some b):∃st',K st'=some b/\∀{B:Bs}{σ:Ren}{a:Act}{w:World},dt B σ st a w->∃σ',dt B σ' st' a w:=by
 obtain⟨sv,hsv,e⟩:=ay e;split at e
 case h_2=>cases e
 rename_i id off n c;obtain⟨so,hso,e⟩:=ay e;split at e
 case h_2=>cases e
 rename_i us ty;obtain⟨hq,e2⟩:=bc e;clear e;simp only[bq] at hq;obtain⟨⟨h1,h2⟩,h3,h4⟩:=hq;have h1:=bT h1;have h2:=bT h2;have h3:=eX h3;have h4:=bT h4;subst h1 h2;refine⟨_,e2,λ{B σ a w} R=>?_⟩;obtain⟨o,m,cs,g1,cl,on,r⟩:=R.mem.obj _ _ hso;have hl:us.length=cs.size:=r.1;obtain⟨E,M⟩:=R.mem.swap (id:=id) (x:=(some (o.1,us.length),n)) (so:=.grow (us.length/n) us ty) (w':=w) (aL _) (eH.refl _ _) (λo' n' h=>.inr ⟨_,m,o,hso,g1,by cases h;rfl⟩) (λ_ _ _ _ _ _ _=>rfl)
  ⟨h3,on,.inr ⟨(o.1,us.length),n,cs,Ren.jq ..,cl,hl,h4.symm,rZ hl,by rw[fe (by rw[hl];exact aL _)];exact r⟩⟩
 refine⟨_,R.size,R.dG,λk sv h=>?_,iP.next (o5 _) M⟩;rw[Tr.fA] at h;split at h
 ·rename_i q;cases h;subst q;have d:=R.ev _ _ hsv;generalize a.eval (.tmp k)=v at d⊢;cases d with
  |sl g hn=>rw[g1] at g;cases g;exact DV.gr (o:=(o.1,us.length)) (Ren.jq ..) h4 (aL _)
 ·exact(R.ev k sv h).mono E
theorem aaV{z:Bool}{ops:List Oper}{st:St}{K:St->Option β}{b:β}(e:zz z ops st K=some b):∃st',K st'=some b/\∀{B:Bs}{σ:Ren}{a:Act}{w:World},dt B σ st a w->∃σ',dt B σ' st' a w:=by
 unfold zz at e;cases z with
 |false=>exact⟨st,e,λR=>⟨_,R⟩⟩
 |true=>
  rw[aE] at e;split at e
  ·split at e
   ·exact QQ e
   obtain⟨st1,e,h1⟩:=QN e;obtain⟨st2,e,h2⟩:=QQ e;exact⟨st2,e,λR=>(h1 R).elim λ_ R1=>h2 R1⟩
  ·exact⟨st,e,λR=>⟨_,R⟩⟩
theorem aaY{z:Bool}{ops:List Oper}{st:St}{K:St->Option β}{b:β}(e:Jn z ops st K=some b):∃st',K st'=some b/\∀{B:Bs}{σ:Ren}{a:Act}{w:World},dt B σ st a w->∃σ',dt B σ' st' a w:=by
 unfold Jn at e;cases z with
 |false=>exact⟨st,e,λR=>⟨_,R⟩⟩
 |true=>
 rw[aE] at e;split at e
 case h_2=>exact⟨st,e,λR=>⟨_,R⟩⟩
 rename_i t _;obtain⟨sv,hsv,e⟩:=ay e;obtain⟨u,hu,e⟩:=ay e;refine⟨_,e,λ{B σ a w} R=>?_⟩;have mv:=wU (h:=st.h) 1000 (SV.ids sv) .nil st.h (λi s h=>by rw[Tr.get_nil] at h;cases h) λi s h=>⟨h,Tr.get_nil _⟩;generalize(iV 1000 (SV.ids sv) .nil st.h).1 =A at mv hu;generalize(iV 1000 (SV.ids sv) .nil st.h).2 =r at mv;have S:=R.mem.seen λi s h=>(mv.1 i s h).1;obtain⟨E,M⟩:=R.mem.zA (A:=hG A) (G':=hG r) (λi s h=>(mv.1 i s h).1) (λi s h=>⟨s,(mv.2 i s h).1,λs' q=>by have:=(mv.2 i s h).2;rw[show A.get i=some s' from q] at this;cases this⟩) λE i s h=>(R.mem.obj i s (mv.2 i s h).1).mono E λ_ _ _=>rfl;refine⟨_,R.size,R.dG,λk x h=>?_,M⟩;rw[Tr.fA] at h;split at h
 ·rename_i q;cases h;subst q;obtain⟨p,q⟩:=nN S 20 _ _ _ hu (R.ev _ _ hsv);exact .v p q
 ·exact(R.ev k x h).mono E
end
section
variable{β:Type}
structure jG(β:Type) where
 len:Nat
 t:cH
 F:Fn t.ks (Option β)
def uE(d:Nat):List (jG β)->Option (jG β)
 |[]=>none
 |r::rs=>cond (Nat.beq r.len d) (some r) (uE d rs)
def yA(d:Nat):List (jG β)->List (jG β)
 |[]=>[]
 |r::rs=>cond (Nat.ble r.len d) (r::yA d rs) (yA d rs)
structure Ctx(β:Type) where
 X:ed
 pt:FuncId->Option (cy β)
 n:Nat
 rs:List ResultVar
 lv:Nat->Option cH
 jv:Nat->Option cH
 un:Nat->Bool
 df:Bool
 fuel:Nat
 an:Nat
 hM:SV->St->Option β
 lR:SV->St->Option β
def lp{α:Type}(z:α)(F:α->α)(n:Nat):α:=Nat.rec z (λ_ r=>F r) n
def ak8{α γ:Type}(J:α)(F:α->γ):γ:=F J
def uA(un:Nat->Bool)(n:Nat):Bool:=cond (un 999999) false (un n)
def aca:List Item->Option Nat
 | .inBlock id::_=>some id
 |_=>none
def Da:Code->Option Nat
 | .region id _ _=>some id
 | .seq a _=>Da a
 | .block _ a=>Da a
 | .scope a=>Da a
 |_=>none
def xh(c:Operand)(q:Bool)(st:St):St:=match c with
 | .tmp t=>{st with tm:=st.tm.set t (.b q)}
 |_=>st
def uw(T:TT)(st:St):List ResultVar->(List SV->Option β)->Option β
 |[],K=>K []
 | .tmp t::rs,K=>ob (st.tm.get t) λv=>uw T st rs λvs=>K (v::vs)
 | .cell a t::rs,K=>ob (st.tm.get a) λp=>LV T st t p λv=>uw T st rs λvs=>K (v::vs)
def zt(hM:SV->St->Option β)(st:St):List SV->Option β
 |[v]=>hM v st
 |vs=>hM (.aH vs) st
def ZW:Code->Nat
 | .skip=>0
 | .region ..=>1
 | .seq ..=>2
 | .cond ..=>3
 | .block ..=>4
 | .loop ..=>5
 | .rangeFunc ..=>6
 | .exit ..=>7
 | .scope ..=>8
 | .label ..=>9
 | .goto ..=>10
 | .ret=>11
 | .refuse ..=>12
section
variable[QF]
noncomputable def IF(C:Ctx β)(go:List (jG β)->List Item->St->Option β)(rs:List (jG β))(todo:List Item)(st:St):Option β:=
 match uE todo.length rs with
 |some r=>kJ C.an r.t st λls=>iu r.t.ks r.F ls
 |none=>match todo with
  |[]=>cond C.df (C.hM (.aH []) st) (uw C.X.T st C.rs (zt C.hM st))
  | .code .ret::_=>cond C.df (C.hM (.aH []) st) (uw C.X.T st C.rs (zt C.hM st))
  | .code .skip::k=>go rs k st
  | .code (.label _)::k=>go rs k st
  | .inBlock _::k=>go rs k st
  | .inScope _::k=>go rs k st
  | .code (.seq x y)::k=>match Da y with
   |some key=>match C.jv key with
    |some t=>ak8 (lL t.ks λls=>ob (hU t ls) λst'=>go rs (.code y::k) st') λJ=>go (⟨(Item.code y::k).length,t,J⟩::rs) (.code x::.code y::k) st
    |none=>go rs (.code x::.code y::k) st
   |none=>go rs (.code x::.code y::k) st
  | .code (.cond c x y)::k=>ob (dC st.tm c) λv=>match v with
   | .b q=>cond q (go rs (.code x::k) (xh c true st)) (go rs (.code y::k) (xh c false st))
   |_=>bF 37
  | .code (.block id x)::k=>go rs (.code x::.inBlock id::k) st
  | .inLoop x::k=>go rs (.code x::.inLoop x::k) st
  | .code (.loop x)::k=>ob (aca k) λkey=>cond (C.un key) (go rs (.code x::.inLoop x::k) st) (ob (C.lv key) λt=>kJ C.an t st λls=>
   iu t.ks (lp (iN t.ks) (λrec=>lL t.ks λls=>ob (hU t ls) λst'=>go (⟨(Item.inLoop x::k).length,t,rec⟩::rs) (.code x::.inLoop x::k) st') C.fuel) ls)
  | .code (.scope x)::k=>go rs (.code x::.inScope x::k) st
  | .code (.exit id)::k=>ob (exitTo id k) λk1=>go (yA k1.length rs) k1 st
  | .code (.region l ops d)::k=>Jl (C.un (100000+l)) ops.toList st λst=>QP (uA C.un (300000+l)) st λst=>Jk (uA C.un (400000+l)) ops.toList st λst=>Jn (uA C.un (600000+l)) ops.toList st λst=>cond d (P8 (uA C.un (200000+l)) C.X C.pt C.n ops (oM ops.toList []) st λq st'=>match q with|none=>zz (uA C.un (500000+l)) ops.toList st' λst'=>go rs k st'|some v=>C.lR v st')
   (xy C.X C.pt C.n ops ops.toList st λq st'=>match q with|none=>zz (uA C.un (500000+l)) ops.toList st' λst'=>go rs k st'|some v=>C.lR v st')
  | .code c::_=>bF (200+ZW c)
  |_=>bF 38
noncomputable def dn(C:Ctx β)(n:Nat):List (jG β)->List Item->St->Option β:=Nat.rec (motive:=λ_=>List (jG β)->List Item->St->Option β) (λ_ _ _=>none) (λ_ go=>IF C go) n
end
theorem ahk{st:St}{c:Operand}{q:Bool}(e:dC st.tm c=some (.b q)):Sub (xh c q st).tm st.tm/\(xh c q st).h=st.h/\(xh c q st).sx=st.sx:=by
 cases c with
 |tmp t=>
  refine⟨λs sv h=>?_,rfl,rfl⟩;replace h:(st.tm.set t (.b q)).get s=some sv:=h;rw[Tr.fA] at h;split at h
  ·rename_i k;rw[k];cases h;exact e
  ·exact h
 |_=>exact⟨λ_ _ h=>h,rfl,rfl⟩
def mO(P:Program)(todo:List Item)(Q:Exit->Act->World->Prop)(a:Act)(w:World):Prop:=
 ∀(b:Frame)(k:List Item)(cs:List Frame),∃e a' w',Q e a' w'/\Arrives P (lone (b.at a (todo++k)) cs w) b k cs e a' w'
section
variable{P:Program} {Q:Exit->Act->World->Prop} {a:Act} {w:World} {T T':List Item}
theorem mO.step(h:∀(b:Frame)(k:List Item)(cs:List Frame),step P (lone (b.at a (T++k)) cs w)=.next (lone (b.at a (T'++k)) cs w))(g:mO P T' Q a w):mO P T Q a w:=λb k cs=>
 let⟨e,a',w',q,r⟩:=g b k cs;⟨e,a',w',q,.of_steps (.one (h b k cs)) r⟩
theorem mO.code{c:Code}(h:c.wp P (λe a w=>match e with| .normal=>mO P T Q a w| .panic ch=>Q (.panic ch) a w|_=>False) a w):mO P (.code c::T) Q a w:=λb k cs=>by
 obtain⟨e,a1,w1,q,r⟩:=h b (T++k) cs;cases e with
 |normal=>obtain⟨e2,a2,w2,q2,r2⟩:=q b k cs;exact⟨e2,a2,w2,q2,.of_steps r r2⟩
 |panic ch=>exact⟨.panic ch,a1,w1,q,r⟩
 |_=>exact q.elim
end
def tT(P:Program)(C:Ctx β)(fn:Func)(B:Bs)(b:β):Exit->Act->World->Prop
 | .panic ch,a,w=>∃σ st sv v,dt B σ st a w/\C.lR sv st=some b/\ch=[pe v]/\DV σ sv v
 | .normal,a,w=>∃σ st sv,dt B σ st a w/\C.hM sv st=some b/\cond C.df (sv=.aH []) (∃v,(results fn a.tmps).run P w=.ok v w/\DV σ sv v)
 | .ret,a,w=>∃σ st sv,dt B σ st a w/\C.hM sv st=some b/\cond C.df (sv=.aH []) (∃v,(results fn a.tmps).run P w=.ok v w/\DV σ sv v)
 |_,_,_=>False
theorem Q2{d:Nat}:∀{rs:List (jG β)}{r:jG β},uE d rs=some r->r∈rs/\r.len=d
 |[],r,h=>by cases h
 |x::rs,r,h=>by
  unfold uE at h;cases hb:Nat.beq x.len d with
  |true=>simp_all
  |false=>rw[hb] at h;obtain⟨a,b⟩:=Q2 h;simp_all
theorem Q1{d:Nat}:∀{rs:List (jG β)},uE d rs=none->∀r∈rs,r.len≠d
 |x::rs,h,r,hr=>by
  unfold uE at h;cases hb:Nat.beq x.len d with
  |true=>grind
  |false=>
   rw[hb] at h;rcases cO.1 hr with rfl|hr
   ·intro e;rw[e,mL] at hb;cases hb
   ·exact Q1 h r hr
theorem OI{d:Nat}:∀{rs:List (jG β)}{r:jG β},r∈yA d rs->r∈rs/\r.len<=d
 |[],r,h=>by cases h
 |x::rs,r,h=>by
  unfold yA at h;cases hb:Nat.ble x.len d with
  |true=>
   rw[hb] at h;rcases cO.1 h with rfl|h
   ·simp_all
   ·obtain⟨a,b⟩:=OI h;exact⟨mJ _ a,b⟩
  |false=>rw[hb] at h;obtain⟨a,b⟩:=OI h;exact⟨mJ _ a,b⟩
theorem I7{id:Nat}:∀{k k1:List Item},exitTo id k=some k1->k1<:+k
 |[],k1,h=>by cases h
 |x::k,k1,h=>by
  cases x with
  |inBlock j=>
   unfold exitTo at h;split at h
   ·grind
   ·exact(I7 h).trans (List.suffix_cons _ _)
  |_=>exact(I7 (k:=k) h).trans (List.suffix_cons _ _)
theorem I6{id:Nat}{k:List Item}:∀{T T1:List Item},exitTo id T=some T1->exitTo id (T++k)=some (T1++k)
 |[],T1,h=>by cases h
 |x::T,T1,h=>by
  cases x with
  |inBlock j=>
   unfold exitTo at h⊢;simp only[eV];split at h
   ·rename_i q;cases h;simp[q]
   ·rename_i q;simp only[q];exact I6 h
  |_=>exact I6 (T:=T) h
def Ei(tmps:Array Value):ResultVar->Sem Value
 | .tmp t=>pure (tmps.getD t undef)
 | .cell a t=>do loadVar t (<-asAddr (tmps.getD a undef))
theorem I9{P:Program}{T:TT}(HT:eW P T){st:St}:∀{rs:List ResultVar}{K:List SV->Option β}{b:β},uw T st rs K=some b->
 ∃svs,K svs=some b/\∀{B:Bs}{σ:Ren}{a:Act}{w:World},dt B σ st a w->∃vs,(rs.mapM (Ei a.tmps)).run P w=.ok vs w/\eQ σ svs vs
 |[],K,b,e=>⟨[],e,λR=>⟨[],rfl,.nil⟩⟩
 | .tmp t::rs,K,b,e=>by obtain⟨v,h1,e⟩:=ay e;obtain⟨svs,k1,k2⟩:=I9 HT e;refine⟨v::svs,k1,λ{B σ a w} R=>?_⟩;obtain⟨vs,v1,v2⟩:=k2 R;refine⟨_::vs,?_,.cons (R.ev t v h1) v2⟩;simp only[List.mapM_cons,Ei,da,eG,eE,v1];rfl
 | .cell a0 t::rs,K,b,e=>by
  obtain⟨p,h1,e⟩:=ay e;obtain⟨sv,g1,g2⟩:=VB HT e;obtain⟨svs,k1,k2⟩:=I9 HT g1;refine⟨sv::svs,k1,λ{B σ a w} R=>?_⟩;obtain⟨vs,v1,v2⟩:=k2 R;have d:=R.ev a0 p h1;obtain⟨u,u1,u2⟩:=g2 R.mem _ d;refine⟨u::vs,?_,.cons u2 v2⟩;generalize hp:a.eval (.tmp a0)=q at d u1;obtain⟨ad,rfl⟩:∃ad,q=.pointer (some ad):=by
   unfold Instr.loadAt Instr.sureAddr at u1;cases q with
   |pointer ad=>cases ad with
    |some ad=>exact⟨ad,rfl⟩
    |none=>simp at u1
   |_=>simp at u1
  have hq:a.tmps.getD a0 undef=.pointer (some ad):=hp;have hA:(asAddr (.pointer (some ad))).run P w=.ok ad w:=rfl;have g7:(loadVar t ad).run P w=.ok u w:=by unfold Instr.loadAt Instr.sureAddr at u1;simpa using u1
  simp only[List.mapM_cons,Ei,hq,da,eG,eE,hA,g7,v1]
theorem Ja{P:Program}{C:Ctx β}{fn:Func}{B:Bs}(HT:eW P C.X.T)(hf:fn.results.toList=C.rs){st:St}{b:β}(e:cond C.df (C.hM (.aH []) st) (uw C.X.T st C.rs (zt C.hM st))=some b){σ:Ren}{a:Act}{w:World}(R:dt B σ st a w):
 ∃σ st sv,dt B σ st a w/\C.hM sv st=some b/\cond C.df (sv=.aH []) (∃v,(results fn a.tmps).run P w=.ok v w/\DV σ sv v):=by
 cases hdf:C.df with
 |true=>rw[hdf] at e;exact⟨σ,st,_,R,e,rfl⟩
 |false=>
  rw[hdf] at e;obtain⟨svs,k1,k2⟩:=I9 HT e;obtain⟨vs,v1,v2⟩:=k2 R;have e0:results fn a.tmps=(do let vs<-Array.mapM (Ei a.tmps) fn.results;pure (if h:vs.size=1 then vs[0] else .tuple vs)):=by
   unfold results
   congr 2
  have run:(results fn a.tmps).run P w=.ok (if h:vs.toArray.size=1 then vs.toArray[0] else .tuple vs.toArray) w:=by rw[e0,Array.mapM_eq_mapM_toList,hf];simp[v1]
  have hl:=v2.1;unfold zt at k1;split at k1
  ·obtain⟨v,l,rfl,d,t⟩:=v2.inv;have:=t.ew;subst this;exact⟨σ,st,_,R,k1,v,by rw[run];rfl,d⟩
  ·rename_i cu;refine⟨σ,st,_,R,k1,_,by rw[run,dif_neg];intro hh;simp at hh;rw[hh] at hl;match svs,hl with|[v],_=>exact cu v rfl,.aH v2.1 v2.2⟩
section
variable{P:Program} {C:Ctx β} {fn:Func} {B:Bs}
def OW(P:Program)(C:Ctx β)(fn:Func)(B:Bs)(r:jG β)(k:List Item):Prop:=
 ∀ls b st',iu r.t.ks r.F ls=some b->hU r.t ls=some st'->∀{σ:Ren}{a:Act}{w:World},dt B σ st' a w->mO P k (tT P C fn B b) a w
def kW(P:Program)(C:Ctx β)(fn:Func)(B:Bs)(rs:List (jG β))(todo:List Item):Prop:=
 ∀r∈rs,∃k,k.length=r.len/\k<:+todo/\OW P C fn B r k
theorem kW.tail{rs:List (jG β)}{x:Item}{k:List Item}(h:kW P C fn B rs (x::k))(hn:uE (x::k).length rs=none):kW P C fn B rs k:=by intro r hr;obtain⟨k1,a,b,g⟩:=h r hr;have:=Q1 hn r hr;refine⟨k1,a,?_,g⟩;rcases List.suffix_cons_iff.1 b with e|e<;>grind
theorem kW.push{rs:List (jG β)}{k:List Item}(h:kW P C fn B rs k)(x:Item):kW P C fn B rs (x::k):=λr hr=>by
 obtain⟨k1,a,b,g⟩:=h r hr
 grind
theorem kW.trim{rs:List (jG β)}{k k1:List Item}(h:kW P C fn B rs k)(s:k1<:+k):kW P C fn B (yA k1.length rs) k1:=λr hr=>by obtain⟨a,b⟩:=OI hr;obtain⟨k2,a2,b2,g⟩:=h r a;exact⟨k2,a2,List.suffix_of_suffix_length_le b2 s (by omega),g⟩
theorem kW.add{rs:List (jG β)}{k:List Item}(h:kW P C fn B rs k){t:cH}{F:Fn t.ks (Option β)}(g:OW P C fn B ⟨k.length,t,F⟩ k):kW P C fn B (⟨k.length,t,F⟩::rs) k:=λr hr=>by
 rcases cO.1 hr with rfl|hr
 ·grind
 ·exact h r hr
set_option maxHeartbeats 2000000 in
theorem sD[QF](OK:iF P C.X)(mx:P.follows .mixedOrders=true)(PT:mP P C.pt)(hf:fn.results.toList=C.rs)(hn:B.n=C.n)(ha:B.an=C.an):
 ∀(f:Nat)(rs:List (jG β))(todo:List Item)(st:St)(b:β),dn C f rs todo st=some b->kW P C fn B rs todo->∀{σ:Ren}{a:Act}{w:World},dt B σ st a w->mO P todo (tT P C fn B b) a w
 |0,rs,todo,st,b,e,_,σ,a,w,R=>by cases e
 |f+1,rs,todo,st,b,e,RO,σ,a,w,R=>by
  have ih:=sD OK mx PT hf hn ha f;replace e:IF C (dn C f) rs todo st=some b:=e;unfold IF at e;rw[<-ha] at e;split at e
  ·rename_i r hh;obtain⟨hm,hl⟩:=Q2 hh;obtain⟨k,k1,k2,g⟩:=RO r hm;have:k=todo:=k2.eq_of_length (by rw[k1,hl]);subst this;obtain⟨ls,h1,st',h2,_,h3⟩:=uu e;obtain⟨σ',R',M'⟩:=h3 R.ev R.mem;replace R':dt B σ' st' a w:=⟨R.size,R.dG,R',M'⟩;exact g ls b st' h1 h2 R'
  ·rename_i hh;split at e
   ·exactλb0 k cs=>⟨.normal,a,w,Ja OK.T hf e R,.refl _ _⟩
   ·exactλb0 k cs=>⟨.ret,a,w,Ja OK.T hf e R,_,.one step_ret⟩
   ·exact(ih _ _ _ _ e (RO.tail hh) R).step λ_ _ _=>step_skip
   ·exact(ih _ _ _ _ e (RO.tail hh) R).step λ_ _ _=>step_label
   ·exact(ih _ _ _ _ e (RO.tail hh) R).step λ_ _ _=>step_inBlock
   ·exact(ih _ _ _ _ e (RO.tail hh) R).step λ_ _ _=>step_inScope
   ·rename_i x y k;have plain:dn C f rs (.code x::.code y::k) st=some b->mO P (.code (.seq x y)::k) (tT P C fn B b) a w:=λe=>
     (ih _ _ _ _ e (((RO.tail hh).push _).push _) R).step λ_ _ _=>step_seq
    split at e
    ·split at e
     ·rename_i t _;refine(ih _ _ _ _ e (kW.push (kW.add ((RO.tail hh).push (.code y)) ?_) _) R).step λ_ _ _=>step_seq;intro ls b' st' h1 h2 σ' a' w' R';obtain⟨st2,g1,g2⟩:=ay (mR _ _ _ _ h1);rw[h2] at g1;cases g1;exact ih _ _ _ _ g2 ((RO.tail hh).push _) R'
     ·exact plain e
    ·exact plain e
   ·rename_i q x y k;obtain⟨v,hv,e⟩:=ay e;split at e
    ·rename_i z;have hs:=ahk hv;have R':dt B σ (xh q z st) a w:=⟨R.size,R.dG,R.ev.sub hs.1,by rw[hs.2.1,hs.2.2];exact R.mem⟩;have d:=(dV R.ev hv).bv;cases z with
     |true=>exact(ih _ _ _ _ e ((RO.tail hh).push _) R').step λ_ _ _=>step_cond d
     |false=>exact(ih _ _ _ _ e ((RO.tail hh).push _) R').step λ_ _ _=>step_cond d
    ·cases e
   ·exact(ih _ _ _ _ e (((RO.tail hh).push _).push _) R).step λ_ _ _=>step_block
   ·exact(ih _ _ _ _ e (((RO.tail hh).push _).push _) R).step λ_ _ _=>step_inLoop
   ·rename_i x k;obtain⟨key,_,e⟩:=ay e;cases hu:C.un key with
    |true=>rw[hu] at e;exact(ih _ _ _ _ e (((RO.tail hh).push _).push _) R).step λ_ _ _=>step_loop
    |false=>
    rw[hu] at e;obtain⟨t,_,e⟩:=ay e;have head:∀(n:Nat),∀ls b st',iu t.ks (lp (iN t.ks) (λrec=>lL t.ks λls=>ob (hU t ls) λst'=>dn C f (⟨(Item.inLoop x::k).length,t,rec⟩::rs) (.code x::.inLoop x::k) st') n) ls=some b->hU t ls=some st'->
     ∀{σ:Ren}{a:Act}{w:World},dt B σ st' a w->mO P (.code x::.inLoop x::k) (tT P C fn B b) a w:=by
     intro n;induction n with
     |zero=>intro ls b st' h1;exact(yT _ _ _ h1).elim
     |succ n ihn=>intro ls b' st' h1 h2 σ' a' w' R';obtain⟨st2,g1,g2⟩:=ay (mR _ _ _ _ h1);rw[h2] at g1;cases g1;refine ih _ _ _ _ g2 (kW.push (kW.add ((RO.tail hh).push (.inLoop x)) ?_) _) R';intro ls b2 st2 q1 q2 σ2 a2 w2 R2;exact(ihn ls b2 st2 q1 q2 R2).step λ_ _ _=>step_inLoop
    obtain⟨ls,h1,st',h2,_,h3⟩:=uu e;obtain⟨σ',R',M'⟩:=h3 R.ev R.mem;replace R':dt B σ' st' a w:=⟨R.size,R.dG,R',M'⟩;exact(head _ ls b st' h1 h2 R').step λ_ _ _=>step_loop
   ·exact(ih _ _ _ _ e (((RO.tail hh).push _).push _) R).step λ_ _ _=>step_scope
   ·rename_i l k;obtain⟨k1,h1,e⟩:=ay e;exact(ih _ _ _ _ e ((RO.tail hh).trim (I7 h1)) R).step λ_ _ _=>step_exit (I6 h1)
   ·rename_i l ops d k;obtain⟨st0,e,hfz⟩:=aaX e;obtain⟨σ0,R0⟩:=hfz R;obtain⟨sta,e,hfz⟩:=aaW e;obtain⟨σa,Ra⟩:=hfz R0;obtain⟨stb,e,hfz⟩:=aaU e;obtain⟨σb,Rb⟩:=hfz Ra;obtain⟨st1,e,hfz⟩:=aaY e;obtain⟨σ1,R1⟩:=hfz Rb;have fin:∀{q:Option SV}{st':St},(match q with|none=>zz (uA C.un (500000+l)) ops.toList st' λst'=>dn C f rs k st'|some v=>C.lR v st')=some b->tV B q st' λe a w=>match e with| .normal=>mO P k (tT P C fn B b) a w| .panic ch=>tT P C fn B b (.panic ch) a w|_=>False:=by
     intro q st' g σ a w R;cases q with
     |none=>obtain⟨st2,g,hz⟩:=aaV g;obtain⟨σ2,R2⟩:=hz R;exact ih _ _ _ _ g (RO.tail hh) R2
     |some sv=>exactλv dv=>⟨σ,st',sv,v,R,g,rfl,dv⟩
    cases d with
    |true=>obtain⟨q,st',g1,g2⟩:=aal OK PT mx (id:=l) e;exact .code (g2 hn R1 _ (fin g1))
    |false=>obtain⟨q,st',g1,g2⟩:=AU OK PT ops.toList 0 (λi o ho=>by rw[gm,<-mh];exact ho) _ _ _ e;refine .code (wp_region ?_);rw[(show List.range ops.size=List.range' 0 ops.toList.length from by rw[List.range_eq_range'];simp)];exact g2 hn R1 _ (fin g1)
   ·cases e
   ·cases e
end
end
section
variable{β:Type}
theorem Jg{f:Nat}(h:f<65536)(ys:List Value):ri f ys=.func (.func f) #[] ⟨ys⟩:=by unfold ri;rw[qa h,Nat.div_eq_of_lt h];rfl
noncomputable def cM(m:Nat->Nat->Option Value)(w w':World)(b i:Nat):Option Value:=
 if b<w.heap.size then m b i else fD w' b i
def Kn(m:Nat->Nat->Option Value)(w:World):Prop:=∀b i v,m b i=some v->fD w b i=some v
theorem Kn.below{m:Nat->Nat->Option Value}{w w':World}(h:Kn m w)(B:RowKit.Below w.heap.size w w'):Kn m w':=λb i v hv=>
 (sQ (B.block b (mZ (h b i v hv)))).trans (h b i v hv)
theorem Kn.new{m:Nat->Nat->Option Value}{w w':World}(h:Kn m w)(B:RowKit.Below w.heap.size w w'):Kn (cM m w w') w':=λb i v hv=>by
 unfold cM at hv;split at hv
 ·exact h.below B b i v hv
 ·exact hv
theorem Kn.mono{m:Nat->Nat->Option Value}{w w':World}(h:Kn m w):∀b i v,m b i=some v->cM m w w' b i=some v:=λb i v hv=>by unfold cM;rw[az (mZ (h b i v hv))];exact hv
def LK.ty:LK->Type
 | .i=>Int
 | .b=>Bool
 | .s=>ByteArray
 | .v=>Value
 | .c=>List Value
 | .n=>Nat
def bI:List LK->Type
 |[]=>Unit
 |[k]=>k.ty
 |k::l::ks=>k.ty×bI (l::ks)
def IB:(k:LK)->bo->Option k.ty
 | .i,.i x=>some x
 | .b,.b x=>some x
 | .s,.s x=>some x
 | .v,.v x=>some x
 | .c,.c x=>some x
 | .n,.n x=>some x
 |_,_=>none
def vL:(k:LK)->k.ty->bo
 | .i,x=>.i x
 | .b,x=>.b x
 | .s,x=>.s x
 | .v,x=>.v x
 | .c,x=>.c x
 | .n,x=>.n x
def dec:(ks:List LK)->List bo->Option (bI ks)
 |[],[]=>some ()
 |[k],[l]=>IB k l
 |k::l::ks,x::xs=>ob (IB k x) λa=>ob (dec (l::ks) xs) λb=>some (a,b)
 |_,_=>none
def gB:(ks:List LK)->bI ks->List bo
 |[],_=>[]
 |[k],x=>[vL k x]
 |k::l::ks,x=>vL k x.1 ::gB (l::ks) x.2
theorem PZ:∀(k:LK)(l:bo)(x:k.ty),IB k l=some x->vL k x=l:=by intro k l x e;cases k<;>cases l<;>first|cases e;rfl|cases e
theorem pw:∀(ks:List LK)(ls:List bo)(x:bI ks),dec ks ls=some x->gB ks x=ls
 |[],[],x,e=>rfl
 |[],_::_,x,e=>by cases e
 |[k],[l],x,e=>by have:=PZ k l x e;show[vL k x]=[l];rw[this]
 |[k],[],x,e=>by cases e
 |[k],_::_::_,x,e=>by cases e
 |k::l::ks,[],x,e=>by cases e
 |k::l::ks,y::ys,x,e=>by obtain⟨a,h1,e⟩:=ay e;obtain⟨b,h2,e⟩:=ay e;cases e;show vL k a::gB (l::ks) b=y::ys;rw[PZ k y a h1,pw (l::ks) ys b h2]
def nY:List SV->Nat->Tr SV->Tr SV
 |[],_,t=>t
 |v::vs,n,t=>nY vs (n+1) (t.set n v)
theorem IH:∀(vts:List VT)(ls r1:List bo)(pvs:List Value),fI vts ls=some (pvs,r1)->pvs.length=vts.length
 |[],ls,_,pvs,e1=>by cases e1;rfl
 |t::ts,ls,_,pvs,e1=>by obtain⟨⟨a,b⟩,h1,e1⟩:=ay e1;obtain⟨⟨a',b'⟩,h1',e1⟩:=ay e1;cases e1;simp[IH ts b _ _ h1']
mutual
def pQ:VT->Bool
 | .i _=>true
 | .b=>true
 | .s=>true
 | .agg l=>AQ l
 | .aH l=>AQ l
 |_=>false
def AQ:List VT->Bool
 |[]=>true
 |x::xs=>pQ x&&AQ xs
end
theorem II:∀(vts:List VT)(ls r1:List bo)(pvs:List Value),qh vts=true->ff ls->fI vts ls=some (pvs,r1)->bd pvs=true/\ff r1
 |[],ls,_,pvs,_,h,e1=>by cases e1;exact⟨rfl,h⟩
 |t::ts,ls,_,pvs,ht,h,e1=>by
  obtain⟨⟨a,b⟩,h1,e1⟩:=ay e1;obtain⟨⟨a',b'⟩,h1',e1⟩:=ay e1;cases e1;have one:bd [a]=true/\ff b/\qh ts=true:=by
   cases t with
   |i k=>
    cases ls with
    |nil=>cases h1
    |cons l ls=>cases l<;>first|(cases h1;exact⟨rfl,h.tail,ht⟩)|cases h1
   |b=>
    cases ls with
    |nil=>cases h1
    |cons l ls=>cases l<;>first|(cases h1;exact⟨rfl,h.tail,ht⟩)|cases h1
   |s=>
    cases ls with
    |nil=>cases h1
    |cons l ls=>cases l<;>first|(cases h1;exact⟨rfl,h.tail,ht⟩)|cases h1
   |v=>
    cases ls with
    |nil=>cases h1
    |cons l ls=>cases l<;>first|(cases h1;exact⟨h _ nA,h.tail,ht⟩)|cases h1
   |_=>cases ht
  obtain⟨o1,o2,o3⟩:=one;obtain⟨k1,k2⟩:=II ts b _ _ o3 o2 h1';exact⟨by rw[qs,o1,k1];rfl,k2⟩
mutual
theorem IJ:∀(vt:VT)(ls r1 r2:List bo)(pv:Value)(sv:SV),ff ls->jK vt ls=some (pv,r1)->Hb vt ls=some (sv,r2)->r1=r2/\(∀{σ:Ren}{v:Value},aK σ.lit pv v->DV σ sv v)/\ff r1
 | .i k,.i n::ls,_,_,pv,sv,h,e1,e2=>by cases e1;cases e2;exact⟨rfl,λr=>(by cases r;exact .i _ _),h.tail⟩
 | .b,.b n::ls,_,_,pv,sv,h,e1,e2=>by cases e1;cases e2;exact⟨rfl,λr=>(by cases r;exact .b _),h.tail⟩
 | .s,.s n::ls,_,_,pv,sv,h,e1,e2=>by cases e1;cases e2;exact⟨rfl,λr=>(by cases r;exact .s _),h.tail⟩
 | .v,.v n::ls,_,_,pv,sv,h,e1,e2=>by cases e1;cases e2;exact⟨rfl,λr=>.v r (h n nA),h.tail⟩
 | .agg ts,ls,r1,r2,pv,sv,h,e1,e2=>by
  obtain⟨⟨a,b⟩,h1,e1⟩:=ay e1;obtain⟨⟨c,d⟩,h2,e2⟩:=ay e2;cases e1;cases e2;obtain⟨g0,g1,g2⟩:=wD ts ls _ _ _ _ h h1 h2;refine⟨g0,λr=>?_,g2⟩;cases r with
  |agg hl k=>have q:=g1 ⟨hl,k⟩;exact .agg q.1 q.2
 | .aH ts,ls,r1,r2,pv,sv,h,e1,e2=>by
  obtain⟨⟨a,b⟩,h1,e1⟩:=ay e1;obtain⟨⟨c,d⟩,h2,e2⟩:=ay e2;cases e1;cases e2;obtain⟨g0,g1,g2⟩:=wD ts ls _ _ _ _ h h1 h2;refine⟨g0,λr=>?_,g2⟩;cases r with
  |aH hl k=>have q:=g1 ⟨hl,k⟩;exact .aH q.1 q.2
 | .fn g ts,ls,r1,r2,pv,sv,h,e1,e2=>by
  obtain⟨hg,e1⟩:=bc e1;obtain⟨_,e2⟩:=bc e2;obtain⟨⟨a,b⟩,h1,e1⟩:=ay e1;obtain⟨⟨c,d⟩,h2,e2⟩:=ay e2;cases e1;cases e2;obtain⟨g0,g1,g2⟩:=wD ts ls _ _ _ _ h h1 h2;refine⟨g0,λr=>?_,g2⟩;cases r with
  |fn hl hh kl k=>
   rename_i xs' ys';have q:=g1 ⟨kl,k⟩;have e0:xs'=#[]:=by simpa using hl.symm
   rw[e0,show(Value.func (.func g) #[] ys')=ri g ys'.toList from(Jg (eX hg) _).symm];exact .fn q.1 q.2
 | .lp ts,ls,r1,r2,pv,sv,h,e1,e2=>by obtain⟨q,e1⟩:=bc e1;obtain⟨_,e2⟩:=bc e2;obtain⟨⟨a,b⟩,h1,e1⟩:=ay e1;obtain⟨⟨c,d⟩,h2,e2⟩:=ay e2;cases e1;cases e2;rw[h1] at h2;cases h2;exact⟨rfl,λr=>.lp r,(II ts ls _ _ q h h1).2⟩
 | .em b,ls,_,_,pv,sv,h,e1,e2=>by cases e1;cases e2;exact⟨rfl,λr=>.em r,h⟩
 | .nf,ls,_,_,pv,sv,h,e1,e2=>by cases e1;cases e2;exact⟨rfl,λr=>.v r rfl,h⟩
theorem wD:∀(vts:List VT)(ls r1 r2:List bo)(pvs:List Value)(svs:List SV),ff ls->fI vts ls=some (pvs,r1)->vD vts ls=some (svs,r2)->r1=r2/\(∀{σ:Ren}{vs:List Value},PW (aK σ.lit) pvs vs->eQ σ svs vs)/\ff r1
 |[],ls,_,_,pvs,svs,h,e1,e2=>by cases e1;cases e2;exact⟨rfl,λr=>(by rw[r.ew];exact .nil),h⟩
 |t::ts,ls,_,_,pvs,svs,h,e1,e2=>by obtain⟨⟨a,b⟩,h1,e1⟩:=ay e1;obtain⟨⟨a',b'⟩,h1',e1⟩:=ay e1;obtain⟨⟨c,d⟩,h2,e2⟩:=ay e2;obtain⟨⟨c',d'⟩,h2',e2⟩:=ay e2;cases e1;cases e2;obtain⟨g0,g1,g2⟩:=IJ t ls _ _ _ _ h h1 h2;subst g0;obtain⟨k0,k1,k2⟩:=wD ts b _ _ _ _ g2 h1' h2';refine⟨k0,λr=>?_,k2⟩;obtain⟨_,_,rfl,r1,r2⟩:=r.inv;exact .cons (g1 r1) (k1 r2)
end
def Plain(pv:Value):Prop:=∀(m m':Nat->Nat->Option Value)(x:Value),aK m pv x->aK m' pv x
mutual
theorem VL:∀(vt:VT)(ls r1:List bo)(pv:Value),pQ vt=true->jK vt ls=some (pv,r1)->Plain pv
 | .i k,.i n::ls,_,pv,_,e1=>by cases e1;intro m m' x h;cases h;exact .int _ _
 | .b,.b n::ls,_,pv,_,e1=>by cases e1;intro m m' x h;cases h;exact .bool _
 | .s,.s n::ls,_,pv,_,e1=>by cases e1;intro m m' x h;cases h;exact .str _
 | .agg ts,ls,r1,pv,ht,e1=>by
  obtain⟨⟨a,b⟩,h1,e1⟩:=ay e1;cases e1;intro m m' x h;cases h with
  |agg hl r=>have q:=Mu ts ls _ _ (by unfold pQ at ht;exact ht) h1 m m' _ ⟨hl,r⟩;exact .agg q.1 q.2
 | .aH ts,ls,r1,pv,ht,e1=>by
  obtain⟨⟨a,b⟩,h1,e1⟩:=ay e1;cases e1;intro m m' x h;cases h with
  |aH hl r=>have q:=Mu ts ls _ _ (by unfold pQ at ht;exact ht) h1 m m' _ ⟨hl,r⟩;exact .aH q.1 q.2
 | .v,ls,r1,pv,ht,_=>by unfold pQ at ht;cases ht
 | .fn _ _,ls,r1,pv,ht,_=>by unfold pQ at ht;cases ht
 | .lp _,ls,r1,pv,ht,_=>by unfold pQ at ht;cases ht
 | .em _,ls,r1,pv,ht,_=>by unfold pQ at ht;cases ht
 | .nf,ls,r1,pv,ht,_=>by unfold pQ at ht;cases ht
theorem Mu:∀(vts:List VT)(ls r1:List bo)(pvs:List Value),AQ vts=true->fI vts ls=some (pvs,r1)->∀(m m':Nat->Nat->Option Value)(xs:List Value),PW (aK m) pvs xs->PW (aK m') pvs xs
 |[],ls,_,pvs,_,e1=>by cases e1;exactλm m' xs h=>by rw[h.ew];exact .nil
 |t::ts,ls,_,pvs,ht,e1=>by obtain⟨⟨a,b⟩,h1,e1⟩:=ay e1;obtain⟨⟨a',b'⟩,h1',e1⟩:=ay e1;cases e1;unfold AQ at ht;rw[bq] at ht;intro m m' xs h;obtain⟨_,_,rfl,r1,r2⟩:=h.inv;exact .cons (VL t ls _ _ ht.1 h1 m m' _ r1) (Mu ts b _ _ ht.2 h1' m m' _ r2)
end
mutual
theorem Ji{st:St}:∀(vt:VT)(sv:SV)(K:List bo->Option β)(b:β),zx st vt sv K=some b->
 ∃ls,K ls=some b/\∀rest,∃pv,jK vt (ls++rest)=some (pv,rest)/\∀{σ:Ren}{m:Nat->Nat->Option Value}{w:World}{v:Value},Seen σ m st.h w->DV σ sv v->aK m pv v/\ff ls:=by
 intro vt sv K b e;have none:ff []:=ff.nil;have skip:∀{l:bo},(∀x,bo.v x≠l)->ff [l]:=λh x hx=>by simp at hx;exact absurd hx (h x)
 unfold zx at e;split at e
 ·obtain⟨e1,f⟩:=bc e;have:=oo e1;subst this;exact⟨_,f,λrest=>⟨_,rfl,λS d=>by cases d;exact⟨.int _ _,skip (by simp)⟩⟩⟩
 ·exact⟨_,e,λrest=>⟨_,rfl,λS d=>by cases d;exact⟨.bool _,skip (by simp)⟩⟩⟩
 ·exact⟨_,e,λrest=>⟨_,rfl,λS d=>by cases d;exact⟨.str _,skip (by simp)⟩⟩⟩
 ·exact⟨_,e,λrest=>⟨_,rfl,λS d=>by cases d with|v p q=>exact⟨p.mono S.lit,.one q⟩⟩⟩
 ·exact⟨_,e,λrest=>⟨_,rfl,λS d=>by cases d;exact⟨.gH,.one rfl⟩⟩⟩
 ·exact⟨_,e,λrest=>⟨_,rfl,λS d=>by cases d;exact⟨.nilIface,.one rfl⟩⟩⟩
 ·replace e:=ay e;obtain⟨u,hu,f⟩:=e;exact⟨_,f,λrest=>⟨_,rfl,λS d=>⟨(nN S _ _ _ _ hu d).1,.one (nN S _ _ _ _ hu d).2⟩⟩⟩
 ·replace e:=ay e;obtain⟨u,hu,f⟩:=e;exact⟨_,f,λrest=>⟨_,rfl,λS d=>⟨(nN S _ _ _ _ hu d).1,.one (nN S _ _ _ _ hu d).2⟩⟩⟩
 ·replace e:=ay e;obtain⟨u,hu,f⟩:=e;exact⟨_,f,λrest=>⟨_,rfl,λS d=>⟨(nN S _ _ _ _ hu d).1,.one (nN S _ _ _ _ hu d).2⟩⟩⟩
 ·exact⟨_,e,λrest=>⟨_,rfl,λS d=>by cases d with|em h=>exact⟨h.mono S.lit,none⟩⟩⟩
 ·exact⟨_,e,λrest=>⟨_,rfl,λS d=>by cases d with|em h=>exact⟨h.mono S.lit,none⟩⟩⟩
 ·exact⟨_,e,λrest=>⟨_,rfl,λS d=>by cases d with|v h=>exact⟨h.mono S.lit,none⟩⟩⟩
 ·rename_i ts l;obtain⟨ls,h1,h3⟩:=uB ts l K b e;refine⟨ls,h1,λrest=>?_⟩;obtain⟨pvs,p1,p3⟩:=h3 rest;refine⟨.agg ⟨pvs⟩,by unfold jK;rw[p1];rfl,λS d=>?_⟩;cases d with
  |agg hl g=>have⟨q,k⟩:=p3 S ⟨hl,g⟩;exact⟨.agg q.1 q.2,k⟩
 ·rename_i ts l;obtain⟨ls,h1,h3⟩:=uB ts l K b e;refine⟨ls,h1,λrest=>?_⟩;obtain⟨pvs,p1,p3⟩:=h3 rest;refine⟨.tuple ⟨pvs⟩,by unfold jK;rw[p1];rfl,λS d=>?_⟩;cases d with
  |aH hl g=>have⟨q,k⟩:=p3 S ⟨hl,g⟩;exact⟨.aH q.1 q.2,k⟩
 ·rename_i g0 ts g0' l;obtain⟨e1,f⟩:=bc e;have:=bT e1;subst this;obtain⟨e2,f⟩:=bc f;obtain⟨ls,h1,h3⟩:=uB ts l K b f;refine⟨ls,h1,λrest=>?_⟩;obtain⟨pvs,p1,p3⟩:=h3 rest;refine⟨.func (.func g0) #[] ⟨pvs⟩,by unfold jK;rw[e2,aE,p1];rfl,λS d=>?_⟩;cases d with
  |fn hl g=>have⟨q,k⟩:=p3 S ⟨hl,g⟩;rw[Jg (eX e2)];exact⟨.fn rfl (λi x y h=>by simp at h) q.1 q.2,k⟩
 ·rename_i ts cs;obtain⟨e1,f⟩:=bc e;obtain⟨ls,h1,h2,h3⟩:=zU ts cs K b f;refine⟨ls,h1,λrest=>⟨Dl cs,by unfold jK;rw[e1,h3];rfl,λS d=>?_⟩⟩;cases d with
  |lp p=>exact⟨p.mono S.lit,h2 (by cases p with|uS _ _ _ _ ho=>exact ho)⟩
 ·rename_i ts id off;replace e:=ay e;obtain⟨so,hso,f⟩:=e;split at f
  ·rename_i c t;obtain⟨e1,f1⟩:=bc f;rw[bq] at e1;obtain⟨ls,h1,h3⟩:=uB ts (c.drop off) K b f1;refine⟨ls,h1,λrest=>?_⟩;obtain⟨pvs,p1,p3⟩:=h3 rest;refine⟨Dl pvs,by unfold jK;rw[e1.2,p1];rfl,λS d=>?_⟩;obtain⟨o,n,cs,g1,g2,g3⟩:=S.obj _ _ hso;have⟨q,k⟩:=p3 S (g3.drop off);cases d with
   |ptr g=>
    have g':=g.symm.trans g1;simp only[r8,Prod.mk.injEq] at g';obtain⟨rfl,rfl⟩:=g';obtain⟨pvs',p1',_⟩:=h3 [];rw[dQ] at p1';have on:bd pvs=true:=by obtain⟨pvs2,p2,p4⟩:=h3 [];rw[dQ] at p2;have⟨q2,k2⟩:=p4 S (g3.drop off);have:=(II ts ls [] pvs2 e1.2 k2 p2).1;refine iW.2 λx hx=>?_;obtain⟨i,hi⟩:=List.mem_iff_getElem?.1 hx;obtain⟨y,y1,y2⟩:=q.get hi;have hl:=q2.1;have hl':=(pV.1 y1).1;have z:=q2.2 i pvs2[i] y (by simp) y1;have:=iW.1 this _ (cG (by omega:i<pvs2.length));rw[<-y2.one,z.one];exact this
    refine⟨.uS q.1 q.2 (λi y hy=>?_) rfl on,k⟩;rw[List.getElem?_drop] at hy;exact S.of hso g g2 hy
  ·cases f
 ·cases e
theorem uB{st:St}:∀(vts:List VT)(svs:List SV)(K:List bo->Option β)(b:β),rj st vts svs K=some b->
 ∃ls,K ls=some b/\∀rest,∃pvs,fI vts (ls++rest)=some (pvs,rest)/\∀{σ:Ren}{m:Nat->Nat->Option Value}{w:World}{vs:List Value},Seen σ m st.h w->eQ σ svs vs->PW (aK m) pvs vs/\ff ls:=by
 intro vts svs K b e;unfold rj at e;split at e
 ·exact⟨_,e,λrest=>⟨_,rfl,λS d=>⟨by rw[d.ew];exact .nil,ff.nil⟩⟩⟩
 ·rename_i t ts x xs;obtain⟨l1,h1,h3⟩:=Ji t x _ b e;obtain⟨l2,g1,g3⟩:=uB ts xs _ b h1;refine⟨l1++l2,g1,λrest=>?_⟩;obtain⟨p1,a1,a3⟩:=h3 (l2++rest);obtain⟨p2,b1,b3⟩:=g3 rest;refine⟨p1::p2,?_,λS d=>?_⟩
  ·rw[dO];unfold fI;rw[a1];show ob (fI ts (l2++rest)) _=_;rw[b1];rfl
  ·obtain⟨_,_,rfl,d1,d2⟩:=d.inv;have⟨x1,x2⟩:=a3 S d1;have⟨y1,y2⟩:=b3 S d2;exact⟨.cons x1 y1,x2.append y2⟩
 ·cases e
end
end
end Lt
end Go.Proofs.YtcfjfbeadhnknaaGreatDoor

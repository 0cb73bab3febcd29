import Derived.Orders
import Derived.Scope
import Derived.Test.YtcfjfbeadhnknaaGreatDoorDA
namespace Go.Proofs.YtcfjfbeadhnknaaGreatDoor
set_option linter.unusedVariables false
set_option linter.unusedSimpArgs false
set_option linter.unusedSectionVars false
set_option linter.constructorNameAsVariable false
namespace Lt
section
variable{β:Type}
def pe(v:H1):PanicEntry:={v:=v,recovered:=false}
abbrev cH(β:Type):=St->qr SV->(Bool->SV->St->Hx β)->Hx β
def End(p:Bool)(v:H1):Ending:=cond p (.panicked [pe v]) (.returned v)
def mG(P:Program)(g:FuncId)(e:cH β):Prop:=
 ∀st args K b,e st args K=some b->∃p sv st',K p sv st'=some b/\st'.tm=st.tm/\st.sx<=st'.sx/\∀{B:Bs}{σ:Ren}{F:Nat->Prop}{w:jp},(∀id,st.sx<=id->id<st'.sx->F id)->Mem B σ (hG st.h) F w->∀args':Array H1,fm σ args args'.toList->
  Calls P g args' w λx w'=>∃σ' v,x=End p v/\Ext σ σ'/\DV σ' sv v/\Mem B σ' (hG st'.h) (lZ F st.sx st'.sx) w'
def nw(P:Program)(pt:FuncId->Hx (cH β)):Prop:=∀g e,pt g=some e->mG P g e
def aih(X:eL)(pt:FuncId->Hx (cH β))(st:St)(c:Call)(K:Bool->SV->St->Hx β):Hx β:=
 ob (BU st.tm c.args.toList) λargs=>match c.callee with
  | .value x=>ob (dK st.tm x) λfv=>match fv with
   | .fn g l=>ob (pt (g%65536)) λe=>ob (X.F.get (g%65536)) λ_=>e st (l.take (g/65536)++(args++l.drop (g/65536))) K
   |_=>bJ 27
  | .builtin .len=>match args with
   |[x]=>ob (c.argTypes.toList[0]?) λt=>WT X.T st t x λv=>K false v st
   |_=>bJ 28
  | .builtin .copy=>match args with
   |[d,x]=>ob (c.argTypes.toList[0]?) λt=>WO X.T st t d x (K false)
   |_=>bJ 47
  | .builtin .append=>match args with
   |[s,x]=>Nf X.T st c.argTypes.toList s x (K false)
   |_=>bJ 29
  | .builtin .min=>FZ false args λv=>K false v st
  | .builtin .max=>FZ true args λv=>K false v st
  |_=>bJ 30
def opC:Op->Nat
 | .move ..=>0
 | .assign ..=>1
 | .pick ..=>2
 | .alloc ..=>3
 | .box ..=>4
 | .build ..=>5
 | .buildSlice ..=>6
 | .insert ..=>7
 | .load ..=>8
 | .store ..=>9
 | .ready ..=>10
 | .waits ..=>11
 | .nilCheck ..=>12
 | .binOp ..=>13
 | .unOp ..=>14
 | .convert ..=>15
 | .sliceToArrayPointer ..=>16
 | .makeInterface ..=>17
 | .makeFunc ..=>18
 | .makeMap ..=>19
 | .makeChan ..=>20
 | .makeSlice ..=>21
 | .slice ..=>22
 | .fieldAddr ..=>23
 | .field ..=>24
 | .indexAddr ..=>25
 | .index ..=>26
 | .lookup ..=>27
 | .mapUpdate ..=>28
 | .mapEntry ..=>29
 | .entryStore ..=>30
 | .range ..=>31
 | .next ..=>32
 | .entry ..=>33
 | .typeAssert ..=>34
 | .extract ..=>35
 | .call ..=>36
 |_=>99
def Vj(X:eL)(t:TypeId)(n:Nat):Bool:=match X.T.get t with
 |some i=>match i.desc with
  | .slice e=>match X.T.get e with
   |some j=>oF j.desc&&Nat.beq n 1
   |none=>false
  |_=>false
 |none=>false
def Mc(sx:Nat)(v:SV)(so:SO)(K:SV->SO->Hx β):Hx β:=match v,so with
 | .sl id off n c,.arr cs t=>cond (Nat.beq id sx&&(Nat.beq off 0&&(Nat.beq n 1&&(Nat.beq c 1&&Nat.beq cs.length 1)))) (K (.gr sx 1) (.grow 1 cs t)) (bJ 78)
 |_,_=>bJ 79
def CQ(X:eL)(pt:FuncId->Hx (cH β))(st:St)(o:Op)(K:Bool->SV->St->Hx β):Hx β:=match o with
 | .move x=>ob (dK st.tm x) λv=>K false v st
 | .assign x=>ob (dK st.tm x) λv=>K false v st
 | .alloc t=>rb X st (.alloc t) λv so=>K false v {st with h:=st.h.set st.sx so,sx:=st.sx+1}
 | .box t x=>rb X st (.box t x) λv so=>K false v {st with h:=st.h.set st.sx so,sx:=st.sx+1}
 | .buildSlice t n ps=>cond (Vj X t n) (rb X st (.buildSlice t n ps) λv so=>Mc st.sx v so λv so=>K false v {st with h:=st.h.set st.sx so,sx:=st.sx+1}) (rb X st (.buildSlice t n ps) λv so=>K false v {st with h:=st.h.set st.sx so,sx:=st.sx+1})
 | .build t ps=>ob (Gg st.tm ps.toList) λus=>WN X.T t us λv=>K false v st
 | .load t a=>ob (dK st.tm a) λp=>No X.T st t p λv=>K false v st
 | .nilCheck x=>ob (dK st.tm x) λv=>match v with
  | .ptr _ _=>K false v st
  | .lp _=>K false v st
  |_=>bJ 34
 | .binOp op t x y _=>ob (dK st.tm x) λa=>ob (dK st.tm y) λb=>match a,b with
  | .ni,.ni=>cond (vD x||vD y) (WX X.T op t λv=>K false v st) none
  |a,b=>Ng X.T op t a b λv=>K false v st
 | .typeAssert x _ t ok=>ob (dK st.tm x) λa=>WM X.T a t ok λv=>K false v st
 | .unOp op _ x=>ob (dK st.tm x) λa=>Ns op a λv=>K false v st
 | .convert s d x=>ob (dK st.tm x) λa=>Nh X.T st s d a λv=>K false v st
 | .makeSlice t l c=>ob (dK st.tm l) λa=>ob (dK st.tm c) λb=>Nq X.T st t a b λv so=>K false v {st with h:=st.h.set st.sx so,sx:=st.sx+1}
 | .slice t x lo hi mx=>ob (dK st.tm x) λa=>ob (Gf st.tm lo) λl=>ob (Gf st.tm hi) λu=>ob (Gf st.tm mx) λm=>WZ X.T t a l u m λv=>K false v st
 | .fieldAddr s x f=>ob (dK st.tm x) λa=>WR X.T s a f λv=>K false v st
 | .field t x f=>ob (dK st.tm x) λa=>Nk X.T t a f λv=>K false v st
 | .indexAddr t x ix=>ob (dK st.tm x) λa=>ob (dK st.tm ix) λb=>Nn X.T st t a b λv=>K false v st
 | .index t x ix=>ob (dK st.tm x) λa=>ob (dK st.tm ix) λb=>Nl X.T t a b λv=>K false v st
 | .extract t i=>ob (dK st.tm t) λa=>Nj a i λv=>K false v st
 | .call c=>aih X pt st c K
 | .panic x=>ob (dK st.tm x) λv=>match v with
  | .fO t u=>K true (.fO t u) st
  |_=>bJ 53
 | .makeInterface t x=>ob (dK st.tm x) λa=>WS X.T t a λv=>K false v st
 | .makeFunc (.func f) first captured=>cond (Nat.blt f 65536) (ob (BU st.tm first.toList) λa=>ob (BU st.tm captured.toList) λl=>K false (.fn (f+65536*first.toList.length) (a++l)) st) none
 | .lookup t x k ok=>ob (dK st.tm x) λa=>ob (dK st.tm k) λc=>WV X.T t a c ok λv=>K false v st
 | .makeMap t none=>K false (.mp st.sx) {st with h:=st.h.set st.sx (.mp []),sx:=st.sx+1}
 | .insert t m k x=>ob (dK st.tm m) λa=>ob (dK st.tm k) λc=>ob (dK st.tm x) λy=>FY X.T st t a c y λh=>K false (.aG []) {st with h:=h}
 | .mapUpdate t m k x=>ob (dK st.tm m) λa=>ob (dK st.tm k) λc=>ob (dK st.tm x) λy=>FY X.T st t a c y λh=>K false (.aG []) {st with h:=h}
 |o=>bJ (100+opC o)
def mV(o:Op):Bool:=match o with
 | .move _=>true
 | .assign _=>true
 | .build _ _=>true
 | .load _ _=>true
 | .nilCheck _=>true
 | .binOp _ _ _ _ _=>true
 | .unOp _ _ _=>true
 | .convert _ _ _=>true
 | .slice _ _ _ _ _=>true
 | .fieldAddr _ _ _=>true
 | .field _ _ _=>true
 | .indexAddr _ _ _=>true
 | .index _ _ _=>true
 | .extract _ _=>true
 | .makeFunc _ _ _=>true
 | .makeInterface _ _=>true
 | .typeAssert _ _ _ _=>true
 | .lookup _ _ _ _=>true
 | .call c=>match c.callee with
  | .builtin .len=>true
  | .builtin .min=>true
  | .builtin .max=>true
  |_=>false
 |_=>false
def sY(P:Program)(o:Oper)(st:St)(sv:SV):Prop:=
 ∀{B:Bs}{σ:Ren}{G:Nat->SO->Prop}{F:Nat->Prop}{w:jp}(a:Act),Ev σ st.tm a->(∀id so,st.h.get id=some so->G id so)->Mem B σ G F w->∀(K:Act->jp->Prop) Q,
  (∀σ' v w',Ext σ σ'->DV σ' sv v->Mem B σ' G F w'->K (a.put o.dst v) w')->o.wp P a w K Q
def w7(P:Program)(p:Bool)(o:Oper)(st st':St)(sv:SV):Prop:=
 ∀{B:Bs}{σ:Ren}{F:Nat->Prop}{w:jp}(a:Act),Ev σ st.tm a->(∀id,st.sx<=id->id<st'.sx->F id)->Mem B σ (hG st.h) F w->∀(K:Act->jp->Prop) Q,
  (∀σ' v w',Ext σ σ'->DV σ' sv v->Mem B σ' (hG st'.h) (lZ F st.sx st'.sx) w'->cond p (Q (.panic [pe v]) a w') (K (a.put o.dst v) w'))->o.wp P a w K Q
theorem mw{P:Program}{s:Sem H1}{u:H1}{w w':jp}(h:s.run P w=.ok u w'):(do pure (Next.value (<-s)):Sem Next).run P w=.ok (.value u) w':=by simp only[dA,h,eW,eX]
theorem DV.TV{σ:Ren}{v:H1}(d:DV σ .ni v):v=.nilIface:=by cases d;rfl
theorem DV.abA{σ:Ren}{t:TypeId}{x:SV}{v:H1}(d:DV σ (.fO t x) v):∃y,v=.iface t y:=by cases d;exact⟨_,rfl⟩
theorem rF{P:Program}{o:Oper}{a:Act}{w w':jp}{v:H1}{K:Act->jp->Prop}{Q:Exit->Act->jp->Prop}(h:(execOp a.eval o).run P w=.ok (.value v) w')(k:K (a.put o.dst v) w'):o.wp P a w K Q:=by unfold Oper.wp;rw[h];exact k
theorem aiu(X:eL)(st:St)(l c:Operand)(t:TypeId){K:SV->St->Hx β}:rb X st (.makeSlice t l c) (λv so=>K v {st with h:=st.h.set st.sx so,sx:=st.sx+1})=ob (dK st.tm l) λa=>ob (dK st.tm c) λb=>Nq X.T st t a b λv so=>K v {st with h:=st.h.set st.sx so,sx:=st.sx+1}:=rfl
theorem Py{P:Program}{X:eL}(OK:iR P X){pt:FuncId->Hx (cH β)}(PT:nw P pt){o:Oper}{st:St}{K:Bool->SV->St->Hx β}{b:β}(e:CQ X pt st o.op K=some b):
 ∃p sv st',K p sv st'=some b/\st'.tm=st.tm/\st.sx<=st'.sx/\w7 P p o st st' sv/\(mV o.op=true->p=false/\sY P o st sv):=by
 have quiet:∀{sv:SV},K false sv st=some b->(∀{B:Bs}{σ:Ren}{F:Nat->Prop}{w:jp}(a:Act),Ev σ st.tm a->Mem B σ (hG st.h) F w->∃v,(execOp a.eval o).run P w=.ok (.value v) w/\DV σ sv v)->
  ∃p sv st',K p sv st'=some b/\st'.tm=st.tm/\st.sx<=st'.sx/\w7 P p o st st' sv/\(mV o.op=true->p=false/\sY P o st sv):=by
  intro sv h q;refine⟨false,sv,st,h,rfl,aM _,λ{B σ F w} a R hF M K Q k=>?_,λ_=>⟨rfl,λ{B σ G F w} a R s M K Q k=>?_⟩⟩
  ·obtain⟨v,v1,v2⟩:=q a R M;exact rF v1 (k σ v w (Ext.refl _) v2 (M.less (λ_ _ h=>h) λ_ h=>h.1))
  ·obtain⟨v,v1,v2⟩:=q a R (M.less s λ_ h=>h);exact rF v1 (k σ v w (Ext.refl _) v2 M)
 have loud:∀{sv:SV}{st':St},mV o.op=false->K false sv st'=some b->st'.tm=st.tm->st.sx<=st'.sx->(∀{B:Bs}{σ:Ren}{F:Nat->Prop}{w:jp}(a:Act),Ev σ st.tm a->(∀id,st.sx<=id->id<st'.sx->F id)->Mem B σ (hG st.h) F w->∃v w' σ',(execOp a.eval o).run P w=.ok (.value v) w'/\Ext σ σ'/\DV σ' sv v/\Mem B σ' (hG st'.h) (lZ F st.sx st'.sx) w')->
  ∃p sv st',K p sv st'=some b/\st'.tm=st.tm/\st.sx<=st'.sx/\w7 P p o st st' sv/\(mV o.op=true->p=false/\sY P o st sv):=by
  intro sv st' hq h ht hx q;refine⟨false,sv,st',h,ht,hx,λ{B σ F w} a R hF M K Q k=>?_,λz=>by rw[hq] at z;cases z⟩;obtain⟨v,w',σ',v1,v2,v3,v4⟩:=q a R hF M;exact rF v1 (k σ' v w' v2 v3 v4)
 have make:∀{K':SV->St->Hx β},(∀sv st,K' sv st=K false sv st)->mV o.op=false->rb X st o.op (λv so=>K' v {st with h:=st.h.set st.sx so,sx:=st.sx+1})=some b->
  ∃p sv st',K p sv st'=some b/\st'.tm=st.tm/\st.sx<=st'.sx/\w7 P p o st st' sv/\(mV o.op=true->p=false/\sY P o st sv):=by
  intro K' hK hq e;obtain⟨sv,so,h1,h3⟩:=Np OK e;rw[hK] at h1;refine loud hq h1 rfl (qa _) λ{B σ F w} a R hF M=>?_;obtain⟨u,w',g1,g2,g3⟩:=h3 a R w;obtain⟨k1,k2,_⟩:=g3 (σ.add st.sx (some (w.heap.size,0),0)) 0 0 (Ren.zT (M.fresh _ (hF _ (aM _) (kR _)))) (Ren.jK _ _ _);obtain⟨E,M'⟩:=M.new (hF _ (aM _) (kR _)) g2 k2;exact⟨u,w',_,g1,E,k1,M'⟩
 have makeO:∀{K':SV->St->Hx β},(∀sv st,K' sv st=K false sv st)->mV o.op=false->rb X st o.op (λv so=>Mc st.sx v so λv so=>K' v {st with h:=st.h.set st.sx so,sx:=st.sx+1})=some b->
  ∃p sv st',K p sv st'=some b/\st'.tm=st.tm/\st.sx<=st'.sx/\w7 P p o st st' sv/\(mV o.op=true->p=false/\sY P o st sv):=by
  intro K' hK hq e;obtain⟨sv,so,h1,h3⟩:=Np OK e;unfold Mc at h1;split at h1
  ·rename_i id off m c cs t;obtain⟨c1,h2⟩:=bd h1;simp only[bB] at c1;obtain⟨e1,e2,e3,e4,e5⟩:=c1;have e1:=bX e1;have e2:=bX e2;have e3:=bX e3;have e4:=bX e4;have e5:=bX e5;subst e1 e2 e3 e4;replace h2:=(hK _ _).symm.trans h2;refine loud hq h2 rfl (qa _) λ{B σ F w} a R hF M=>?_;obtain⟨u,w',g1,g2,g3⟩:=h3 a R w;obtain⟨_,_,k3⟩:=g3 (σ.add st.sx (some (w.heap.size,1),1)) 1 1 (Ren.zT (M.fresh _ (hF _ (aM _) (kR _)))) (Ren.jK _ _ _);obtain⟨rfl,k4⟩:=k3 _ _ _ _ rfl rfl;obtain⟨E,M'⟩:=M.new (hF _ (aM _) (kR _)) g2 (k4 e5 rfl rfl);exact⟨_,w',_,g1,E,.gr (Ren.jK _ _ _) rfl (aM _),M'⟩
  ·cases h1
 have ins:∀{t:TypeId}{m k x:Operand}{p q r:SV},mV o.op=false->dK st.tm m=some p->dK st.tm k=some q->dK st.tm x=some r->FY X.T st t p q r (λh=>K false (.aG []) {st with h:=h})=some b->(∀(a:Act) w w',(Instr.mapUpdate t (a.eval m) (a.eval k) (a.eval x)).run P w=.ok () w'->(execOp a.eval o).run P w=.ok .skip w')->
  ∃p sv st',K p sv st'=some b/\st'.tm=st.tm/\st.sx<=st'.sx/\w7 P p o st st' sv/\(mV o.op=true->p=false/\sY P o st sv):=by
  intro t m k x p q r hq k1 k2 k3 e run;obtain⟨h',h1,h2⟩:=air OK.T e;refine⟨false,_,_,h1,rfl,aM _,λ{B σ F w} a R hF M K Q k=>?_,λz=>by rw[hq] at z;cases z⟩;obtain⟨w',v1,v2⟩:=h2 M _ _ _ (ej R k1) (ej R k2) (ej R k3);unfold Oper.wp;rw[run a w w' v1];exact k σ undef w' (Ext.refl _) (.aG rfl (λi x y h=>by simp at h)) (v2.less (λ_ _ h=>h) λ_ h=>h.1)
 unfold CQ at e;split at e
 ·rename_i x hop;obtain⟨v,h1,e⟩:=ax e;exact quiet e λa R M=>⟨_,by unfold execOp;simp only[hop,eX],ej R h1⟩
 ·rename_i x hop;obtain⟨v,h1,e⟩:=ax e;exact quiet e λa R M=>⟨_,by unfold execOp;simp only[hop,eX],ej R h1⟩
 ·rename_i t hop;rw[<-hop] at e;exact make (K':=λv st=>K false v st) (λ_ _=>rfl) (by rw[hop];rfl) e
 ·rename_i t x hop;rw[<-hop] at e;exact make (K':=λv st=>K false v st) (λ_ _=>rfl) (by rw[hop];rfl) e
 ·rename_i t n ps hop;rw[<-hop] at e;cases hb:Vj X t n with
  |true=>rw[hb,aE] at e;exact makeO (K':=λv st=>K false v st) (λ_ _=>rfl) (by rw[hop];rfl) e
  |false=>rw[hb,aD] at e;exact make (K':=λv st=>K false v st) (λ_ _=>rfl) (by rw[hop];rfl) e
 ·rename_i t ps hop;obtain⟨us,k1,e⟩:=ax e;obtain⟨sv,h1,h2⟩:=aif OK.T e;refine quiet h1 λa R M=>?_;obtain⟨u,v1,v2⟩:=h2 _ (ps.map λ(i,x)=>(i,a.eval x)) _ (by rw[Array.toList_map];exact NU R k1);exact⟨u,by unfold execOp;simp only[hop];exact mw v1,v2⟩
 ·rename_i t x hop;obtain⟨p,k1,e⟩:=ax e;obtain⟨sv,h1,h2⟩:=WU OK.T e;refine quiet h1 λa R M=>?_;obtain⟨u,v1,v2⟩:=h2 M _ (ej R k1);exact⟨u,by unfold execOp;simp only[hop];exact mw v1,v2⟩
 ·rename_i x hop;obtain⟨p,k1,e⟩:=ax e;split at e
  ·refine quiet e λa R M=>⟨a.eval x,?_,ej R k1⟩;obtain⟨ad,q,_⟩:=(ej R k1).Mw;unfold execOp;simp[hop,q]
  ·refine quiet e λa R M=>⟨a.eval x,?_,ej R k1⟩;obtain⟨ad,q,_⟩:=(ej R k1).K7;unfold execOp;simp[hop,q]
  ·cases e
 ·rename_i op t x y yt hop;obtain⟨p,k1,e⟩:=ax e;obtain⟨q,k2,e⟩:=ax e;split at e
  ·obtain⟨hc,e⟩:=bd e;obtain⟨sv,h1,h2⟩:=aiw OK.T e;refine quiet h1 λ{B σ F w} a R M=>?_;have d1:=ej R k1;have d2:=ej R k2;obtain⟨u,v1,v2⟩:=h2 x y w hc;have q1:=d1.TV;have q2:=d2.TV;exact⟨u,by unfold execOp;simp only[hop,q1,q2];exact mw v1,v2 _⟩
  ·obtain⟨sv,h1,h2⟩:=aie OK.T e;refine quiet h1 λ{B σ F w} a R M=>?_;obtain⟨u,v1,v2⟩:=h2 _ _ _ x y w (ej R k1) (ej R k2);exact⟨u,by unfold execOp;simp only[hop];exact mw v1,v2⟩
 ·rename_i x xt t ok hop;obtain⟨p,k1,e⟩:=ax e;obtain⟨sv,h1,h2⟩:=aid OK.T e;refine quiet h1 λ{B σ F w} a R M=>?_;obtain⟨u,v1,v2⟩:=h2 _ _ xt w (ej R k1);exact⟨u,by unfold execOp;simp only[hop];exact mw v1,v2⟩
 ·rename_i op t x hop;obtain⟨p,k1,e⟩:=ax e;obtain⟨sv,h1,h2⟩:=aiz e;refine quiet h1 λ{B σ F w} a R M=>?_;obtain⟨u,v1,v2⟩:=h2 _ _ w (ej R k1);exact⟨u,by unfold execOp;simp only[hop];exact mw v1,v2⟩
 ·rename_i s d x hop;obtain⟨p,k1,e⟩:=ax e;obtain⟨sv,h1,h2⟩:=aik OK.T e;have run:∀{a:Act}{w w':jp}{u:H1},(convert s d (a.eval x)).run P w=.ok u w'->(execOp a.eval o).run P w=.ok (.value u) w':=λh=>by unfold execOp;simp only[hop];exact mw h
  refine⟨false,sv,st,h1,rfl,aM _,λ{B σ F w} a R hF M K Q k=>?_,λ_=>⟨rfl,λ{B σ G F w} a R s M K Q k=>?_⟩⟩
  ·obtain⟨u,w',v1,v2,v3⟩:=h2 (λ_ _ h=>h) M _ (ej R k1);exact rF (run v1) (k σ u w' (Ext.refl _) v2 (v3.less (λ_ _ h=>h) λ_ h=>h.1))
  ·obtain⟨u,w',v1,v2,v3⟩:=h2 s M _ (ej R k1);exact rF (run v1) (k σ u w' (Ext.refl _) v2 v3)
 ·rename_i t l c hop;rw[<-aiu X st l c t] at e;rw[<-hop] at e;exact make (K':=λv st=>K false v st) (λ_ _=>rfl) (by rw[hop];rfl) e
 ·rename_i t x lo hi mx hop;obtain⟨p,k1,e⟩:=ax e;obtain⟨l,k2,e⟩:=ax e;obtain⟨u,k3,e⟩:=ax e;obtain⟨m,k4,e⟩:=ax e;obtain⟨sv,h1,h2⟩:=aix OK.T e;refine quiet h1 λ{B σ F w} a R M=>?_;obtain⟨u,v1,v2⟩:=h2 _ _ _ _ _ w (ej R k1) (NT R k2) (NT R k3) (NT R k4);exact⟨u,by unfold execOp;simp only[hop];exact mw v1,v2⟩
 ·rename_i s x f hop;obtain⟨p,k1,e⟩:=ax e;obtain⟨sv,h1,h2⟩:=aim OK.T e;refine quiet h1 λ{B σ F w} a R M=>?_;obtain⟨u,v1,v2⟩:=h2 _ _ w (ej R k1);exact⟨u,by unfold execOp;simp only[hop];exact mw v1,v2⟩
 ·rename_i t x f hop;obtain⟨p,k1,e⟩:=ax e;obtain⟨sv,h1,h2⟩:=ain OK.T e;refine quiet h1 λ{B σ F w} a R M=>?_;obtain⟨u,v1,v2⟩:=h2 _ _ w (ej R k1);exact⟨u,by unfold execOp;simp only[hop];exact mw v1,v2⟩
 ·rename_i t x ix hop;obtain⟨p,k1,e⟩:=ax e;obtain⟨q,k2,e⟩:=ax e;obtain⟨sv,h1,h2⟩:=aip OK.T e;refine quiet h1 λ{B σ F w} a R M=>?_;obtain⟨u,v1,v2⟩:=h2 M _ _ (ej R k1) (ej R k2);exact⟨u,by unfold execOp;simp only[hop];exact mw v1,v2⟩
 ·rename_i t x ix hop;obtain⟨p,k1,e⟩:=ax e;obtain⟨q,k2,e⟩:=ax e;obtain⟨sv,h1,h2⟩:=aiq OK.T e;refine quiet h1 λ{B σ F w} a R M=>?_;obtain⟨u,v1,v2⟩:=h2 _ _ _ w (ej R k1) (ej R k2);exact⟨u,by unfold execOp;simp only[hop];exact mw v1,v2⟩
 ·rename_i t j hop;obtain⟨p,k1,e⟩:=ax e;obtain⟨sv,h1,h2⟩:=ail (P:=P) e;refine quiet h1 λ{B σ F w} a R M=>?_;obtain⟨u,v1,v2⟩:=h2 _ _ w (ej R k1);exact⟨u,by unfold execOp;simp only[hop];exact mw v1,v2⟩
 ·rename_i c hop;obtain⟨args,k1,e⟩:=ax e;have ra:∀{σ:Ren}{a:Act},Ev σ st.tm a->fm σ args (c.args.map a.eval).toList:=λR=>by rw[Array.toList_map];exact Gh R k1
  have bi:∀{bf:Builtin}{s:Array TypeId->TypeId->Array H1->Sem H1}{a:Act}{w w':jp}{v:H1},c.callee=.builtin bf->(∀ts ty cs as,builtin bf ts ty cs as=do pure (.value (<-s ts ty as)))->
   (s c.argTypes o.type (c.args.map a.eval)).run P w=.ok v w'->(execOp a.eval o).run P w=.ok (.value v) w':=by
   intro bf s a w w' v hc hs h;unfold execOp resolve;simp only[hop,hc,dA,eX,eW];unfold invoke;simp only[hs,dA,h,eW,eX]
  split at e
  ·rename_i x0 hc;obtain⟨fv,k0,e⟩:=ax e;split at e
   case h_2=>cases e
   rename_i g l;obtain⟨en,k2,e⟩:=ax e;obtain⟨fn,k3,e⟩:=ax e;obtain⟨p,sv,st',h1,ht,hx',h2⟩:=PT (g%65536) en k2 _ _ _ _ e;refine⟨p,sv,st',h1,ht,hx',λ{B σ F w} a R hF M K Q k=>?_,λq=>by rw[hop] at q;simp only[mV,hc] at q;cases q⟩;obtain⟨f1,f2,f3⟩:=OK.F _ _ k3;have d:=ej R k0;generalize hx:a.eval x0=fx at d;cases d with
   |fn hl hr=>
    rename_i ys;have d:fm σ l ys:=⟨hl,hr⟩;have run:(execOp a.eval o).run P w=.ok (.enter (g%65536) ((⟨ys.take (g/65536)⟩:Array H1)++c.args.map a.eval++⟨ys.drop (g/65536)⟩)) w:=by
     unfold execOp resolve;simp only[hop,hc,hx,rW,Deferred.ofValue,dA,eX,eW];unfold invoke callFunc;have h4:fn.body.isNone=false:=by cases hb:fn.body with
      |none=>rw[hb] at f3;cases f3
      |some b=>rfl
     simp only[dA,run_program,eW,f1,f2,h4,kO,gY,eX]
    unfold Oper.wp;rw[run];have dd:fm σ (l.take (g/65536)++(args++l.drop (g/65536))) ((⟨ys.take (g/65536)⟩:Array H1)++c.args.map a.eval++⟨ys.drop (g/65536)⟩).toList:=by rw[Array.toList_append,Array.toList_append,dM];exact(d.take _).append ((ra R).append (d.drop _))
    refine Calls.mono (h2 hF M _ dd) λx w' ⟨σ',v,q1,q2,q3,q4⟩=>?_;subst q1;have:=k σ' v w' q2 q3 q4;cases p<;>exact this
  ·rename_i hc;split at e
   ·rename_i x;obtain⟨t,k2,e⟩:=ax e;obtain⟨sv,h1,h2⟩:=ais OK.T k2 e;refine quiet h1 λ{B σ F w} a R M=>?_;obtain⟨v,l,q1,q2,q3⟩:=(ra R).inv;obtain⟨u,v1,v2⟩:=h2 M (c.args.map a.eval) o.type v (by rw[<-mC,q1];rfl) q2;exact⟨u,bi hc (λ_ _ _ _=>rfl) v1,v2⟩
   ·cases e
  ·rename_i hc;split at e
   ·rename_i x y;obtain⟨t,k2,e⟩:=ax e;obtain⟨sv,h',h1,h2⟩:=aij OK.T k2 e;refine loud (by rw[hop];simp[mV,hc]) h1 rfl (aM _) λ{B σ F w} a R hF M=>?_;obtain⟨v,l,q1,q2,q3⟩:=(ra R).inv;obtain⟨v',l',rfl,q4,q5⟩:=q3.inv;obtain⟨u,w',v1,v2,v3⟩:=h2 M (c.args.map a.eval) o.type v v' (by rw[<-mC,q1];rfl) (by rw[<-mC,q1];rfl) q2 q4;exact⟨u,w',σ,bi hc (λ_ _ _ _=>rfl) v1,Ext.refl _,v2,v3.less (λ_ _ h=>h) λ_ h=>h.1⟩
   ·cases e
  ·rename_i hc;split at e
   ·rename_i x y;obtain⟨sv,h',d,h1,h2⟩:=aic (P:=P) OK.T e;refine loud (by rw[hop];simp[mV,hc]) h1 rfl (Nat.le_add_right _ _) λ{B σ F w} a R hF M=>?_;obtain⟨v,l,q1,q2,q3⟩:=(ra R).inv;obtain⟨v',l',rfl,q4,q5⟩:=q3.inv;obtain⟨u,w',σ',v1,v2,v3,v4⟩:=h2 hF M (c.args.map a.eval) o.type v v' (by rw[<-mC,q1];rfl) (by rw[<-mC,q1];rfl) q2 q4;exact⟨u,w',σ',bi hc (λ_ _ _ _=>rfl) v1,v2,v3,v4⟩
   ·cases e
  ·rename_i hc;obtain⟨sv,h1,h2⟩:=WW (P:=P) e;refine quiet h1 λ{B σ F w} a R M=>?_;obtain⟨u,v1,v2⟩:=h2 σ _ c.argTypes o.type w (ra R);exact⟨u,bi hc (λ_ _ _ _=>rfl) v1,v2⟩
  ·rename_i hc;obtain⟨sv,h1,h2⟩:=WW (P:=P) e;refine quiet h1 λ{B σ F w} a R M=>?_;obtain⟨u,v1,v2⟩:=h2 σ _ c.argTypes o.type w (ra R);exact⟨u,bi hc (λ_ _ _ _=>rfl) v1,v2⟩
  ·cases e
 ·rename_i x hop;obtain⟨v,k1,e⟩:=ax e;split at e
  ·rename_i t u;refine⟨true,_,st,e,rfl,aM _,λ{B σ F w} a R hF M K Q k=>?_,λq=>by rw[hop] at q;cases q⟩;have d:=ej R k1;obtain⟨y,q⟩:=d.abA;have run:(execOp a.eval o).run P w=.halt (.panic (a.eval x)) w:=by unfold execOp;simp[hop,q,Instr.panic]
   unfold Oper.wp;rw[run];exact k σ _ w (Ext.refl _) d (M.less (λ_ _ h=>h) λ_ h=>h.1)
  ·cases e
 ·rename_i t x hop;obtain⟨p,k1,e⟩:=ax e;obtain⟨sv,h1,h2⟩:=aio OK.T e;refine quiet h1 λ{B σ F w} a R M=>?_;obtain⟨u,v1,v2⟩:=h2 _ _ w (ej R k1);exact⟨u,by unfold execOp;simp only[hop];exact mw v1,v2⟩
 ·rename_i f first captured hop
  obtain⟨q,e⟩:=bd e;obtain⟨x,k1,e⟩:=ax e;obtain⟨y,k2,e⟩:=ax e;have q:=fb q;refine quiet e λ{B σ F w} a R M=>?_;have d:=(Gh R k1).append (Gh R k2);refine⟨_,?_,.fn d.1 d.2⟩;unfold execOp rW;have hl:(first.toList.map a.eval).length=first.toList.length:=by simp
  rw[Nat.add_mul_mod_self_left,qH q,Nat.add_mul_div_left _ _ (by decide),Nat.div_eq_of_lt q,fU,<-hl,List.take_left',List.drop_left']
  ·simp[hop,Instr.makeFunc];exact⟨by rw[<-Array.toList_map],by rw[<-Array.toList_map]⟩
  ·rfl
  ·rfl
 ·rename_i t x k ok hop;obtain⟨p,k1,e⟩:=ax e;obtain⟨q,k2,e⟩:=ax e;obtain⟨sv,h1,h2⟩:=ait OK.T e;refine quiet h1 λ{B σ F w} a R M=>?_;obtain⟨u,v1,v2⟩:=h2 M _ _ (ej R k1) (ej R k2);exact⟨u,by unfold execOp;simp only[hop];exact mw v1,v2⟩
 ·rename_i t hop;refine loud (by rw[hop];rfl) e rfl (qa _) λ{B σ F w} a R hF M=>?_;obtain⟨v,w',σ',v1,v2,v3,v4⟩:=aiv (P:=P) (hF _ (aM _) (kR _)) M t;exact⟨v,w',σ',by unfold execOp;simp only[hop];exact mw v1,v2,v3,v4⟩
 ·rename_i t m k x hop;obtain⟨p,k1,e⟩:=ax e;obtain⟨q,k2,e⟩:=ax e;obtain⟨r,k3,e⟩:=ax e;exact ins (by rw[hop];rfl) k1 k2 k3 e λa w w' h=>by unfold execOp;simp only[hop,dA,h,eW,eX]
 ·rename_i t m k x hop;obtain⟨p,k1,e⟩:=ax e;obtain⟨q,k2,e⟩:=ax e;obtain⟨r,k3,e⟩:=ax e;exact ins (by rw[hop];rfl) k1 k2 k3 e λa w w' h=>by unfold execOp;simp only[hop,dA,h,eW,eX]
 ·cases e
end
section
variable{β:Type}
def kJ(tm:Tr SV)(d:Hx Nat)(v:SV):Tr SV:=match d with
 |some d=>tm.set d v
 |none=>tm
def Eg(ops:Array Oper)(tm:Tr SV)(o:Oper)(K:Bool->Tr SV->Hx β):Hx β:=match o.guard with
 |none=>K true tm
 |some (j,want)=>ob (ops[j]?) λoj=>ob oj.dst λd=>ob (tm.get d) λv=>match v with
  | .b x=>cond x (K (true==want) (tm.set d (.b true))) (K (false==want) (tm.set d (.b false)))
  | .aG _=>K false tm
  |_=>none
def Bc(X:eL)(pt:FuncId->Hx (cH β))(st:St)(o:Oper)(K:Hx SV->St->Hx β):Hx β:=match o.op with
 | .store t a y=>match o.dst with
  |none=>ob (dK st.tm a) λp=>ob (dK st.tm y) λu=>W8 X.T st t p u (K none)
  |some _=>none
 | .pick c a b=>ob (dK st.tm c) λv=>match v with
  | .b x=>cond x (ob (dK st.tm a) λu=>K none {st with tm:=kJ st.tm o.dst u}) (ob (dK st.tm b) λu=>K none {st with tm:=kJ st.tm o.dst u})
  |_=>bJ 36
 |op=>CQ X pt st op λp v st'=>cond p (K (some v) st') (K none {st' with tm:=kJ st'.tm o.dst v})
def DT(n:Nat)(o:Oper)(r:Hx β):Hx β:=match o.dst with
 |none=>r
 |some d=>cond (Nat.blt d n) r none
theorem Q7{n:Nat}{o:Oper}{r:Hx β}{b:β}(e:DT n o r=some b):r=some b/\∀d,o.dst=some d->d<n:=by
 unfold DT at e;split at e
 ·grind
 ·rename_i d0 h;obtain⟨e1,e⟩:=bd e;simp_all
def yC(X:eL)(pt:FuncId->Hx (cH β))(n:Nat)(ops:Array Oper):qr Oper->St->(Hx SV->St->Hx β)->Hx β
 |[],st,K=>K none st
 |o::os,st,K=>Eg ops st.tm o λw tm=>DT n o (cond w (Bc X pt {st with tm:=tm} o λq st'=>match q with|none=>yC X pt n ops os st' K|some v=>K (some v) st') (yC X pt n ops os {st with tm:=kJ tm o.dst (.aG [])} K))
def looks(ops:Array Oper)(o:Oper):qr Nat:=
 (o.op.operands.toList.filterMap λx=>match x with| .tmp t=>some t|_=>none)++(match o.guard with|some (g,_)=>((ops[g]?).bind (·.dst)).toList|none=>[])
def jD(tm:Tr SV):qr Nat->Tr SV->Tr SV
 |[],acc=>acc
 |t::ts,acc=>match tm.get t with
  |some v=>jD tm ts (acc.set t v)
  |none=>jD tm ts acc
theorem Bb{tm:Tr SV}:∀(ts:qr Nat)(acc:Tr SV)(t:Nat)(u:SV),(jD tm ts acc).get t=some u->(t∈ts/\tm.get t=some u)\/acc.get t=some u
 |[],_,_,_,h=>.inr h
 |x::xs,acc,t,u,h=>by
  unfold jD at h;cases hx:tm.get x with
  |none=>rw[hx] at h;rcases Bb xs acc t u h with⟨a,b⟩|a<;>grind
  |some v=>
   rw[hx] at h;rcases Bb xs (acc.set x v) t u h with⟨a,b⟩|a
   ·grind
   ·rw[Tr.fN] at a
    grind
structure dH(B:Bs)(σ:Ren)(st:St)(a:Act)(w:World):Prop where
 size:a.tmps.size=B.n
 dX:a.defers=B.dX
 ev:Ev σ st.tm a
 mem:jc B σ st.h st.sx w
theorem PU{σ:Ren}:DV σ (.aG []) undef:=.aG rfl (λi x y h=>by simp at h)
theorem eval_put{a:Act}{d:Hx Nat}{v:H1}{t:Nat}:(∀k,d=some k->k<a.tmps.size)->(a.put d v).eval (.tmp t)=if d=some t then v else a.eval (.tmp t):=by
 intro h;cases d with
 |none=>rfl
 |some k=>
  show(a.tmps.setIfInBounds k v).getD t undef=_;rw[qD,Array.getElem?_setIfInBounds];by_cases e:k=t
  ·subst e;rw[ay rfl,ay (h k rfl),ay rfl];rfl
  ·rw[aq e,aq (by simpa using e),<-qD];rfl
theorem Ev.put{σ σ':Ren}{tm:Tr SV}{a:Act}(R:Ev σ tm a)(E:Ext σ σ'){d:Hx Nat}{sv:SV}{v:H1}(hd:∀k,d=some k->k<a.tmps.size)(dv:DV σ' sv v):Ev σ' (kJ tm d sv) (a.put d v):=λt s hs=>by
 rw[eval_put hd];cases d with
 |none=>rw[aq (by simp)];exact(R t s hs).mono E
 |some k=>
  have hs:(tm.set k sv).get t=some s:=hs;rw[Tr.fN] at hs;by_cases e:t=k
  ·subst e;rw[ay rfl] at hs⊢;cases hs;exact dv
  ·rw[aq e] at hs;rw[aq (by simpa using Ne.symm e)];exact(R t s hs).mono E
theorem dH.put{B:Bs}{σ σ':Ren}{st:St}{a:Act}{w w':jp}{h':Tr SO}{sx':Nat}(R:dH B σ st a w)(E:Ext σ σ')(M:jc B σ' h' sx' w'){d:Hx Nat}{sv:SV}{v:H1}(hd:∀k,d=some k->k<B.n)(dv:DV σ' sv v):dH B σ' ⟨kJ st.tm d sv,h',sx'⟩ (a.put d v) w':=
 ⟨by cases d<;>simp[Act.put,R.size],by cases d<;>exact R.dX,R.ev.put E (by rw[R.size];exact hd) dv,M⟩
def uT(B:Bs)(q:Hx SV)(st:St)(Q:Exit->Act->jp->Prop):Prop:=∀σ a w,dH B σ st a w->match q with
 |none=>Q .normal a w
 |some sv=>∀v,DV σ sv v->Q (.panic [pe v]) a w
def Sub(a b:Tr SV):Prop:=∀t sv,a.get t=some sv->b.get t=some sv
theorem Ev.sub{σ:Ren}{tm tm':Tr SV}{a:Act}(R:Ev σ tm a)(s:Sub tm' tm):Ev σ tm' a:=λt sv h=>R t sv (s t sv h)
theorem Vg{tm:Tr SV}{ts:qr Nat}:Sub (jD tm ts .nil) tm:=λt sv h=>by
 rcases Bb _ _ _ _ h with⟨_,q⟩|q
 ·exact q
 ·rw[Tr.get_nil] at q;cases q
theorem Fb{tm:Tr SV}{t:Nat}{sv:SV}(h:tm.get t=some sv):∀(ts:qr Nat)(acc:Tr SV),t∈ts\/acc.get t=some sv->(jD tm ts acc).get t=some sv
 |[],acc,k=>by rcases k with k|k;cases k;exact k
 |x::ts,acc,k=>by
  unfold jD;cases hx:tm.get x with
  |none=>
   refine Fb h ts acc ?_;rcases k with k|k
   ·rcases cZ.1 k with rfl|k
    ·rw[h] at hx;cases hx
    ·exact .inl k
   ·exact .inr k
  |some v=>
   refine Fb h ts _ ?_;by_cases e:t=x
   ·subst e;rw[h] at hx;cases hx;exact .inr (by rw[Tr.fN,ay rfl])
   ·rcases k with k|k
    ·exact .inl (by rcases cZ.1 k with q|q;exact absurd q e;exact q)
    ·exact .inr (by rw[Tr.fN,aq e];exact k)
theorem DV.bv{σ:Ren}{x:Bool}{v:H1}(d:DV σ (.b x) v):v=.bool x:=by cases d;rfl
theorem Sb{ops:Array Oper}{tm:Tr SV}{o:Oper}{K:Bool->Tr SV->Hx β}{b:β}(e:Eg ops tm o K=some b):
 ∃w tm',K w tm'=some b/\Sub tm' tm/\∀{σ:Ren}{a:Act},Ev σ (jD tm' (looks ops o) .nil) a->Region.wanted o (yielded ops a.tmps)=w:=by
 unfold Eg at e;split at e
 ·rename_i hg;exact⟨_,_,e,λ_ _ h=>h,λR=>by unfold Region.wanted;rw[hg]⟩
 ·rename_i j want hg;obtain⟨oj,h1,e⟩:=ax e;obtain⟨d,h2,e⟩:=ax e;obtain⟨v,h3,e⟩:=ax e;have mem:d∈looks ops o:=by simp[looks,hg,h1,h2]
  have yl:∀{a:Act}{u:H1},a.eval (.tmp d)=u->yielded ops a.tmps j=(match u with| .bool b=>some b|_=>none):=by
   intro a u hu;unfold yielded;simp only[h1,Option.bind_some,h2];simp only[Act.eval,qD] at hu;cases hx:a.tmps[d]? with
   |none=>rw[hx] at hu;subst hu;rfl
   |some x=>rw[hx] at hu;simp only[qI] at hu;subst hu;cases x<;>rfl
  split at e
  ·rename_i x;have key:Sub (tm.set d (.b x)) tm/\∀{σ:Ren}{a:Act},Ev σ (jD (tm.set d (.b x)) (looks ops o) .nil) a->Region.wanted o (yielded ops a.tmps)=(x==want):=by
    refine⟨λt sv h=>?_,λ{σ a} R=>?_⟩
    ·rw[Tr.fN] at h;by_cases q:t=d
     ·rw[ay q] at h;cases h;rw[q];exact h3
     ·rw[aq q] at h;exact h
    ·have:=(R d (.b x) (Fb (by rw[Tr.fN,ay rfl]) _ _ (.inl mem))).bv;unfold Region.wanted;rw[hg];simp only[yl this];cases x<;>cases want<;>rfl
   cases x with
   |true=>exact⟨_,_,e,key⟩
   |false=>exact⟨_,_,e,key⟩
  ·refine⟨_,_,e,λ_ _ h=>h,λ{σ a} R=>?_⟩;have:=R d _ (Fb h3 _ _ (.inl mem));generalize hu:a.eval (.tmp d)=u at this;cases this;unfold Region.wanted;rw[hg];simp only[yl hu];cases want<;>rfl
  ·cases e
theorem Ma{P:Program}{X:eL}(OK:iR P X){pt:FuncId->Hx (cH β)}(PT:nw P pt){o:Oper}{st:St}{K:Hx SV->St->Hx β}{b:β}(e:Bc X pt st o K=some b):
 ∃q sv st',K q st'=some b/\st.sx<=st'.sx/\(q=none/\st'.tm=kJ st.tm o.dst sv\/q=some sv/\st'.tm=st.tm)/\
  ∀{B:Bs}{σ:Ren}{F:Nat->Prop}{w:jp}(a:Act),Ev σ st.tm a->(∀id,st.sx<=id->id<st'.sx->F id)->Mem B σ (hG st.h) F w->∀(K:Act->jp->Prop) Q,
   (∀σ' v w',Ext σ σ'->DV σ' sv v->Mem B σ' (hG st'.h) (lZ F st.sx st'.sx) w'->match q with|none=>K (a.put o.dst v) w'|some _=>Q (.panic [pe v]) a w')->o.wp P a w K Q:=by
 have sub:∀{B:Bs}{σ:Ren}{G:Nat->SO->Prop}{F:Nat->Prop}{w:jp}{x y:Nat},Mem B σ G F w->Mem B σ G (lZ F x y) w:=λM=>M.less (λ_ _ h=>h) λ_ h=>h.1;unfold Bc at e;split at e
 ·rename_i t x y hop;split at e
  ·rename_i hdst;obtain⟨p,k1,e⟩:=ax e;obtain⟨u,k2,e⟩:=ax e;obtain⟨h',h1,h2⟩:=aiy (P:=P) OK.T e;refine⟨none,.aG [],_,h1,aM _,.inl ⟨rfl,by rw[hdst];rfl⟩,λ{B σ F w} a R hF M K Q k=>?_⟩;obtain⟨w',g1,g2⟩:=h2 M _ _ (ej R k1) (ej R k2);have run:(execOp a.eval o).run P w=.ok .skip w':=by
    unfold execOp;simp only[hop,dA,g1,eW,eX]
   unfold Oper.wp;rw[run];exact k σ _ w' (Ext.refl _) PU (sub g2)
  ·cases e
 ·rename_i c x y hop;obtain⟨v,k1,e⟩:=ax e;split at e
  ·rename_i q;have run:∀{σ:Ren}{a:Act}{w:jp},Ev σ st.tm a->(execOp a.eval o).run P w=.ok (.value (cond q (a.eval x) (a.eval y))) w:=by
    intro σ a w R;have d:=(ej R k1).bv;unfold execOp;simp only[hop,d,asBool,dA,eX,eW];cases q<;>rfl
   cases q with
   |true=>obtain⟨u,k2,e⟩:=ax e;exact⟨none,u,_,e,aM _,.inl ⟨rfl,rfl⟩,λa R hF M K Q k=>rF (run R) (k _ _ _ (Ext.refl _) (ej R k2) (sub M))⟩
   |false=>obtain⟨u,k2,e⟩:=ax e;exact⟨none,u,_,e,aM _,.inl ⟨rfl,rfl⟩,λa R hF M K Q k=>rF (run R) (k _ _ _ (Ext.refl _) (ej R k2) (sub M))⟩
  ·cases e
 ·obtain⟨p,sv,st',h1,h2,hx,h3,_⟩:=Py OK PT e;cases p with
  |false=>exact⟨none,sv,_,h1,hx,.inl ⟨rfl,by simp only[h2]⟩,h3⟩
  |true=>exact⟨some sv,sv,_,h1,hx,.inr ⟨rfl,h2⟩,h3⟩
theorem jc.next{B:Bs}{σ:Ren}{G:Nat->SO->Prop}{w:jp}{x y:Nat}(h:x<=y)(M:Mem B σ G (lZ (λid=>x<=id) x y) w):Mem B σ G (λid=>y<=id) w:=M.less (λ_ _ h=>h) λid k=>⟨fH h k,λq=>by omega⟩
theorem BS{P:Program}{X:eL}(OK:iR P X){pt:FuncId->Hx (cH β)}(PT:nw P pt){ops:Array Oper}{n:Nat}:∀(os:qr Oper)(s:Nat),(∀i o,os[i]? =some o->ops[s+i]? =some o)->∀(st:St)(K:Hx SV->St->Hx β)(b:β),yC X pt n ops os st K=some b->
 ∃q st',K q st'=some b/\∀{B:Bs}{σ:Ren}{a:Act}{w:jp},B.n=n->dH B σ st a w->∀Q,uT B q st' Q->wpOps P ops Q (List.range' s os.length) a w
 |[],s,_,st,K,b,e=>⟨none,st,e,λhn R Q k=>k _ _ _ R⟩
 |o::os,s,hs,st,K,b,e=>by
  obtain⟨wt,tm1,e1,sb,g⟩:=Sb e;obtain⟨e2,hd⟩:=Q7 e1;have ho:=hs 0 o rfl;rw[Nat.add_zero] at ho;have hs':∀i o',os[i]? =some o'->ops[s+1+i]? =some o':=λi o' hi=>by have:=hs (i+1) o' (by simpa using hi);rw[show s+1+i=s+(i+1) by omega];exact this
  have go:∀{B:Bs}{σ:Ren}{a:Act}{w:jp}{Q},dH B σ st a w->(dH B σ {st with tm:=tm1} a w->Region.wanted o (yielded ops a.tmps)=wt->wpOp P ops Q s (wpOps P ops Q (List.range' (s+1) os.length)) a w)->wpOps P ops Q (List.range' s (o::os).length) a w:=by intro B σ a w Q R k;rw[bW,List.range'_succ,wpOps_cons];exact k ⟨R.size,R.dX,R.ev.sub sb,R.mem⟩ (g ((R.ev.sub sb).sub Vg))
  cases wt with
  |true=>
   rw[aE] at e2;obtain⟨q,sv,st1,e3,hx,ht,D⟩:=Ma OK PT e2;cases q with
   |none=>
    have ht:st1.tm=kJ tm1 o.dst sv:=by rcases ht with h|h;exact h.2;cases h.1
    obtain⟨q',st',e4,D2⟩:=BS OK PT os (s+1) hs' st1 K b e3;refine⟨q',st',e4,λ{B σ a w} hn R Q k=>go R λR1 hw=>?_⟩;unfold wpOp;simp only[ho,hw,dW];exact .inl (D a R1.ev (λ_ h _=>h) R1.mem _ _ λσ' v w' E dv M=>D2 hn (by have:=R1.put E (jc.next hx M) (by rw[hn];exact hd) dv;rwa[<-ht] at this) Q k)
   |some sv'=>
    obtain⟨rfl,ht2⟩:sv'=sv/\st1.tm=tm1:=by rcases ht with h|h;cases h.1;exact⟨jH h.1,h.2⟩
    refine⟨some sv',_,e3,λ{B σ a w} hn R Q k=>go R λR1 hw=>?_⟩;unfold wpOp;simp only[ho,hw,dW];exact .inl (D a R1.ev (λ_ h _=>h) R1.mem _ _ λσ' v w' E dv M=>k σ' a w' ⟨R1.size,R1.dX,λt s hs=>by rw[ht2] at hs;exact(R1.ev t s hs).mono E,jc.next hx M⟩ v dv)
  |false=>obtain⟨q,st',e4,D2⟩:=BS OK PT os (s+1) hs' _ K b e2;refine⟨q,st',e4,λ{B σ a w} hn R Q k=>go R λR1 hw=>?_⟩;unfold wpOp;simp only[ho,hw,kO,gY];exact D2 hn (R1.put (Ext.refl _) R1.mem (by rw[hn];exact hd) PU) Q k
end
section
variable{β:Type}
def rL(N:Nat)(A:Nat->Nat->Prop):(Nat->Prop)->qr Nat->Prop
 |done,[]=>∀i,i<N->done i
 |done,i::rest=>i<N/\¬done i/\(∀j,A i j->done j)/\rL N A (λx=>done x\/x=i) rest
def Am(o:Oper):qr Nat:=(o.after.toList.filter (Region.binds .any)).map (·.on)
def AW(ms:qr Nat):qr Nat->Nat
 |[]=>0
 |j::js=>Nat.lor (Nat.lor (Nat.shiftLeft 1 j) (ms.getD j 0)) (AW ms js)
def pF:qr Oper->qr Nat->qr Nat
 |[],ms=>ms
 |o::os,ms=>pF os (ms++[AW ms (Am o)])
def bit(ms:qr Nat)(i j:Nat):Bool:=Nat.testBit (ms.getD i 0) j
theorem al2(j l:Nat):Nat.testBit (Nat.shiftLeft 1 j) l=decide (j=l):=by show Nat.testBit (1<<<j) l=_;rw[Nat.one_shiftLeft,Nat.testBit_two_pow]
def I3(es:Nat->qr Nat)(ms:qr Nat):Prop:=
 ∀i l,bit ms i l=true->∀D:Nat->Prop,(∀a,D a->∀b∈es a,D b)->(∀b∈es i,D b)->D l
theorem TA{es:Nat->qr Nat}{ms:qr Nat}(H:I3 es ms)(D:Nat->Prop)(cl:∀a,D a->∀b∈es a,D b):∀js:qr Nat,(∀b∈js,D b)->∀l,Nat.testBit (AW ms js) l=true->D l
 |[],_,l,h=>by simp[AW] at h
 |j::js,hj,l,h=>by
  unfold AW at h;have e:∀a b:Nat,Nat.lor a b=a|||b:=λ_ _=>rfl;rw[e,e,Nat.testBit_or,Nat.testBit_or,al2] at h;simp at h;rcases h with(rfl|h)|h
  ·grind
  ·exact H j l h D cl (cl j (hj j (by simp)))
  ·exact TA H D cl js (λb hb=>hj b (by grind)) l h
theorem TC{es:Nat->qr Nat}:∀(os:qr Oper)(ms:qr Nat),I3 es ms->(∀i o,os[i]? =some o->Am o=es (ms.length+i))->I3 es (pF os ms)
 |[],ms,H,_=>H
 |o::os,ms,H,he=>by
  refine TC os _ ?_ λi o' hi=>?_
  ·intro i l hl D cl hi;unfold bit at hl;rw[wS] at hl;rcases Nat.lt_trichotomy i ms.length with h|h|h
   ·rw[wT h] at hl;exact H i l (by unfold bit;rw[wS];exact hl) D cl hi
   ·subst h;simp_all;have:=he 0 o (by simp);exact TA H D cl _ (by grind) l hl
   grind
  ·have:=he (i+1) o' (by grind)
   grind
def zO(ops:Array Oper)(i j:Nat):Prop:=bit (pF ops.toList []) i j=true
def pA(ops:Array Oper)(i:Nat):qr Nat:=match ops[i]? with
 |some o=>Am o
 |none=>[]
theorem TU(ops:Array Oper){i l:Nat}(h:zO ops i l)(D:Nat->Prop)(cl:∀a,D a->∀b∈pA ops a,D b)(hi:∀b∈pA ops i,D b):D l:=by
 refine TC ops.toList [] ?_ ?_ i l h D cl hi
 ·intro i l hl;simp[bit] at hl
 ·intro i o ho;have:ops[i]? =some o:=by rw[<-mC];exact ho
  simp[pA,this]
def Ac(ops:Array Oper):Prop:=∀i,i<ops.size->∀b∈pA ops i,b<i
theorem ac2{ops:Array Oper}(B:Ac ops){i l:Nat}(hi:i<ops.size)(h:zO ops i l):l<i:=by
 refine TU ops h (λx=>x<i) ?_ (λb hb=>B i hi b hb)
 ·intro a ha b hb;have:=B a (by omega) b hb;omega
theorem MP{ops:Array Oper}{listed:Array Bool}{i:Nat}:i∈Region.ready .any ops listed↔i<ops.size/\listed.getD i true=false/\∀b∈pA ops i,listed.getD b false=true:=by
 unfold Region.ready;rw[oX,List.mem_range];constructor
 ·rintro ⟨h1,h2⟩
  simp only[bB,uI] at h2;refine⟨h1,h2.1,?_⟩;have ho:=zH h1;rw[ho] at h2;simp only[rJ,qI,Array.all_eq_true'] at h2;intro b hb;unfold pA at hb;rw[ho] at hb;simp[Am] at hb
  grind
 ·rintro ⟨h1,h2,h3⟩
  refine⟨h1,?_⟩;have ho:=zH h1;simp only[bB,uI];refine⟨h2,?_⟩;rw[ho];simp only[rJ,qI,Array.all_eq_true'];intro e he;cases hb:Region.binds .any e with
  |false=>rfl
  |true=>
   have:=h3 e.on (by
    unfold pA;rw[ho];simp[Am];exact⟨e,⟨by simpa using he,hb⟩,rfl⟩)
   grind
def count(listed:Array Bool):Nat:=(listed.toList.filter (·==false)).length
theorem count_set{listed:Array Bool}{i:Nat}(h:listed.getD i true=false):count (listed.setIfInBounds i true)+1=count listed:=by
 unfold count;rw[Array.toList_setIfInBounds];have hg:listed.toList[i]? =some false:=by
  rw[qD] at h;cases hx:listed[i]? with
  |none=>grind
  |some b=>grind
 generalize listed.toList=l at hg;clear h;induction l generalizing i with
 |nil=>grind
 |cons b l ih=>
  cases i with
  |zero=>grind
  |succ i=>grind
theorem Tl{ops:Array Oper}(B:Ac ops):∀(fuel t:Nat)(listed:Array Bool)(done:Nat->Prop),listed.size=ops.size->(∀i,i<ops.size->(done i↔listed.getD i false=true))->(∀i,done i->i<ops.size)->
 (∀a,done a->∀b∈pA ops a,done b)->count listed<=fuel->rL ops.size (zO ops) done (Region.linearise.go .any ops fuel t listed [])
 |fuel,t,listed,done,hs,hd,hb,cl,hc=>by
  have hgd:∀i,i<ops.size->(listed.getD i true=listed.getD i false):=by intro i hi;rw[qD,qD,zH (by omega)];rfl
  have none_ready:Region.ready .any ops listed=[]->∀i,i<ops.size->done i:=by
   intro h;intro i;induction i using Nat.strongRecOn with
   |ind i ih=>
    intro hi;by_cases hdi:done i
    ·exact hdi
    ·exfalso;have:i∈Region.ready .any ops listed:=by
      rw[MP];refine⟨hi,?_,?_⟩
      ·rw[hgd i hi];cases hx:listed.getD i false with
       |false=>rfl
       |true=>exact absurd ((hd i hi).2 hx) hdi
      ·intro b hb';have hlt:=B i hi b hb';exact(hd b (by omega)).1 (ih b hlt (by omega))
     rw[h] at this;cases this
  cases fuel with
  |zero=>
   refine none_ready ?_;cases hr:Region.ready .any ops listed with
   |nil=>rfl
   |cons x xs=>
    have hx:x∈Region.ready .any ops listed:=by rw[hr];simp
    rw[MP] at hx;have:=count_set hx.2.1;omega
  |succ fuel=>
   change rL ops.size (zO ops) done (match(Region.ready .any ops listed)[t%(Region.ready .any ops listed).length]? with
    |some i=>Region.linearise.go .any ops fuel (t/(Region.ready .any ops listed).length) (listed.setIfInBounds i true) [i]
    |none=>[].reverse)
   cases hi:(Region.ready .any ops listed)[t%(Region.ready .any ops listed).length]? with
   |none=>
    have hnil:Region.ready .any ops listed=[]:=by
     cases hr:Region.ready .any ops listed with
     |nil=>rfl
     |cons x xs=>rw[hr] at hi;have hlt:t%(x::xs).length<(x::xs).length:=Nat.mod_lt _ (by simp);simp at hi;simp at hlt;omega
    exact none_ready hnil
   |some i=>
    have hm:=nZ hi;rw[MP] at hm;obtain⟨m1,m2,m3⟩:=hm;simp;rw[linearise_go_acc];have nd:¬done i:=λh=>by have:=(hd i m1).1 h;rw[<-hgd i m1,m2] at this;cases this
    have de:=λb hb'=>(hd b (by have:=B i m1 b hb';omega)).2 (m3 b hb');refine⟨m1,nd,λj hj=>TU ops hj done cl de,?_⟩;refine Tl B fuel _ _ _ (by simpa using hs) ?_ ?_ ?_ ?_
    ·intro x hx;rw[qD,Array.getElem?_setIfInBounds];by_cases e:i=x
     ·subst e;simp_all
     ·rw[aq e,<-qD];rw[<-hd x hx];constructor
      ·rintro (h|rfl)
       ·exact h
       ·exact absurd rfl e
      ·exact .inl
    ·rintro x (h|rfl)
     ·exact hb x h
     ·exact m1
    ·rintro a (h|rfl) b hb'
     ·exact .inl (cl a h b hb')
     ·exact .inl (de b hb')
    ·have:=count_set m2;omega
theorem To{P:Program}(hm:P.follows .mixedOrders=true){ops:Array Oper}(B:Ac ops)(t:Nat):rL ops.size (zO ops) (λ_=>False) (Region.schedule (P.follows .mixedOrders) ops t):=by
 simp_all;refine Tl B _ _ _ _ (by simp) (by simp_all) (λ_ h=>h.elim) (λ_ h=>h.elim) ?_
 ·unfold count;simp
def jx:Nat->(Nat->Bool)->Bool
 |0,_=>true
 |n+1,f=>cond (f n) (jx n f) false
theorem lR{f:Nat->Bool}:∀{n:Nat},jx n f=true->∀i,i<n->f i=true
 |0,_,i,h=>by omega
 |n+1,e,i,h=>by
  unfold jx at e;cases hf:f n with
  |false=>grind
  |true=>
   simp_all;rcases ia i n with h1|h1
   ·exact lR e i h1
   grind
def jN(ops:Array Oper)(i:Nat):Hx Nat:=(ops[i]?).bind (·.dst)
def isDst(ops:Array Oper)(j t:Nat):Bool:=match jN ops j with
 |some d=>Nat.beq d t
 |none=>false
theorem SQ{ops:Array Oper}{j t:Nat}:isDst ops j t=true↔(ops[j]?).bind (·.dst)=some t:=by
 unfold isDst jN;split
 ·simp_all
 grind
def stat(ops:Array Oper)(ms:qr Nat)(n:Nat):Bool:=
 cond (jx ops.size λi=>(pA ops i).all λb=>Nat.blt b i)
  (cond (jx ops.size λi=>match jN ops i with
   |none=>true
   |some t=>cond (Nat.blt t n) (jx i λj=>!isDst ops j t) false)
   (jx ops.size λi=>match ops[i]? with
    |none=>true
    |some o=>(looks ops o).all λt=>jx ops.size λj=>cond (isDst ops j t) (Nat.beq j i||(bit ms i j||bit ms j i)) true)
   false)
  false
theorem nD{a b:Bool}(h:cond a b false=true):a=true/\b=true:=by grind
theorem YK{ops:Array Oper}{n:Nat}(hs:stat ops (pF ops.toList []) n=true):Ac ops:=by
 have s1:(jx ops.size λi=>(pA ops i).all λb=>Nat.blt b i)=true:=by
  unfold stat at hs;generalize(jx ops.size λi=>(pA ops i).all λb=>Nat.blt b i)=z at hs⊢;cases z with
  |true=>rfl
  |false=>grind
 intro i hi b hb;have:=lR s1 i hi;simp_all
def KZ(tm:Tr SV)(d:Hx Nat)(tm':Tr SV):Tr SV:=match d with
 |none=>tm
 |some d=>match tm'.get d with
  |some v=>tm.set d v
  |none=>tm.del d
def sa(o:Op):Bool:=match o with
 | .alloc _=>true
 | .box _ _=>true
 | .buildSlice _ _ _=>true
 | .makeSlice _ _ _=>true
 |_=>false
mutual
def vR:SV->Bool
 | .i _ _=>true
 | .b _=>true
 | .s _=>true
 | .v _=>true
 | .nl=>true
 | .ni=>true
 | .agg l=>vT l
 | .aG l=>vT l
 | .fn _ l=>vT l
 | .lp _=>true
 |_=>false
def vT:qr SV->Bool
 |[]=>true
 |x::xs=>vR x&&vT xs
end
def Vh(o:Op):qr Nat:=o.operands.toList.filterMap λx=>match x with| .tmp t=>some t|_=>none
def Mx(tm:Tr SV):qr Nat->Bool
 |[]=>true
 |t::ts=>(match tm.get t with|some sv=>vR sv|none=>false)&&Mx tm ts
theorem VI{tm:Tr SV}:∀{ts:qr Nat},Mx tm ts=true->∀t∈ts,∃sv,tm.get t=some sv/\vR sv=true
 |[],_,t,h=>by grind
 |x::ts,e,t,h=>by
  have e:=Bool.and_eq_true_iff.1 e;rcases cZ.1 h with rfl|h
  ·grind
  ·exact VI e.2 t h
def YS(ops:Array Oper)(ms:qr Nat)(i:Nat):Bool:=jx ops.size λj=>cond (Nat.ble j i) true (bit ms j i)
def rU(a b:Nat)(r:Hx β):Hx β:=cond (Nat.beq a b) r none
noncomputable def jA(x y:H1)(r:Hx β):Hx β:=open Classical in if x=y then r else none
mutual
noncomputable def J8:SV->SV->Hx β->Hx β
 | .i k n,.i k' m,r=>cond (decide (k=k')) (cond (aj n m) r none) none
 | .b x,.b y,r=>cond x (cond y r none) (cond y none r)
 | .ptr a x,.ptr a' x',r=>rU a a' (rU x x' r)
 | .sl a x n c,.sl a' x' n' c',r=>rU a a' (rU x x' (rU n n' (rU c c' r)))
 | .gr a x,.gr a' x',r=>rU a a' (rU x x' r)
 | .nl,.nl,r=>r
 | .ni,.ni,r=>r
 | .agg l,.agg l',r=>J9 l l' r
 | .v x,.v y,r=>jA x y r
 |_,_,_=>bJ 74
noncomputable def J9:qr SV->qr SV->Hx β->Hx β
 |[],[],r=>r
 |x::xs,y::ys,r=>J8 x y (J9 xs ys r)
 |_,_,_=>none
end
structure om where
 i:Nat
 o:Oper
 tm:Tr SV
 sv:SV
def Wj(tm:Tr SV)(o:Op):Bool:=match o with
 | .load _ a=>match dK tm a with
  |some (.ptr _ _)=>true
  |_=>false
 |_=>false
def vO(ms:qr Nat)(s:Nat):qr om->qr om
 |[]=>[]
 |x::xs=>cond (bit ms s x.i) (vO ms s xs) (x::vO ms s xs)
theorem Vu{ms:qr Nat}{s:Nat}{x:om}:∀{pe:qr om},x∈pe->bit ms s x.i=true\/x∈vO ms s pe
 |y::pe,h=>by
  unfold vO;rcases cZ.1 h with rfl|h
  ·grind
  ·rcases Vu h with k|k
   ·exact .inl k
   grind
def AQ{α:Type}:qr Oper->Tr α->Tr α
 |[],t=>t
 |o::os,t=>AQ os (match o.dst with|some d=>t.del d|none=>t)
theorem Tj{α:Type}:∀{os:qr Oper}{t:Tr α}{k:Nat}{v:α},(AQ os t).get k=some v↔(∀o∈os,o.dst≠some k)/\t.get k=some v
 |[],t,k,v=>by simp[AQ]
 |o::os,t,k,v=>by
  unfold AQ;rw[Tj];cases hd:o.dst with
  |none=>grind
  |some d=>
   simp[Tr.rY]
   grind
theorem VH:∀{l:qr SV},vT l=true->∀x∈l,vR x=true
 |y::l,h,x,hx=>by
  simp only[vT,bB] at h;rcases cZ.1 hx with rfl|hx
  ·exact h.1
  ·exact VH h.2 x hx
theorem VG{σ σ':Ren}(hl:∀b i v,σ.lit b i=some v->σ'.lit b i=some v){x:SV}{v:H1}(d:DV σ x v):vR x=true->DV σ' x v:=by
 have mem:∀{l:qr SV}{i:Nat}{x:SV},vT l=true->l[i]? =some x->vR x=true:=λh e=>VH h _ (nZ e)
 induction d with
 |i=>exactλ_=>.i _ _
 |b=>exactλ_=>.b _
 |s=>exactλ_=>.s _
 |v h h1=>exactλ_=>.v (h.mono hl) h1
 |nl=>exactλ_=>.nl
 |agg kl _ ih=>exactλp=>.agg kl λi x y a b=>ih i x y a b (mem p a)
 |aG kl _ ih=>exactλp=>.aG kl λi x y a b=>ih i x y a b (mem p a)
 |lp h=>exactλ_=>.lp (h.mono hl)
 |fn kl _ ih=>exactλp=>.fn kl λi x y a b=>ih i x y a b (mem p a)
 |ni=>exactλ_=>.ni
 |_=>intro p;cases p
theorem Mem.lits{B:Bs}{σ:Ren}{G:Nat->SO->Prop}{F:Nat->Prop}{w w':jp}(M:Mem B σ G F w)(fr:eZ (λ_=>False) w w'){m:Nat->Nat->Hx H1}(e:∀b i v,σ.lit b i=some v->m b i=some v)(k:∀b i v,m b i=some v->fP w' b i=some v)
 (n:∀b i v,m b i=some v->σ.lit b i=some v\/w.heap.size<=b):Mem B ⟨σ.nm,m⟩ G F w':=by
 have E:Ext σ ⟨σ.nm,m⟩:=⟨λ_ _ h=>h,e⟩;have M':=M.same fr;refine⟨λid so h=>(M'.obj id so h).mono E λ_ _ _=>rfl,M.inj,M.fresh,k,λb i v h q=>?_,M'.base,M.owned,λb i v h=>?_,M.kE,λb i v h=>e b i v (M.nM b i v h)⟩
 ·rcases n b i v h with p|p
  ·exact M.free b i v p q
  ·obtain⟨id,so,o,n,h1,h2,h3⟩:=q;have:=M.lt h1 h2;omega
 ·rcases n b i v h with p|p
  ·exact M.mj b i v p
  ·exact .inr (.inr (fH M.base.size p))
theorem pH{id:Nat}{so:SO}(h:hG .nil id so):False:=by have h:(Tr.nil:Tr SO).get id=some so:=h;rw[Tr.get_nil] at h;cases h
def BA(w:jp)(own:Nat->Prop)(m:Nat->Nat->Hx H1):Bs:=⟨w,own,m,0,λ_=>none,0,[]⟩
theorem vk(x:H1)(r:Hx β):jA x x r=r:=by unfold jA;rw[ay rfl]
theorem aaR{x y:H1}{r:Hx β}{b:β}(e:jA x y r=some b):x=y/\r=some b:=by
 unfold jA at e
 grind
theorem tE{a b:Nat}{r:Hx β}{c:β}(e:rU a b r=some c):a=b/\r=some c:=by obtain⟨h,e⟩:=bd e;exact⟨bX h,e⟩
mutual
theorem Ry:∀(x y:SV)(r:Hx β)(b:β),J8 x y r=some b->x=y/\r=some b
 | .i k n,.i k' m,r,b,e=>by obtain⟨h1,e1⟩:=bd e;obtain⟨h2,e2⟩:=bd e1;have h1:=oh h1;rw[vz] at h2;exact⟨by rw[h1,eq_of_beq h2],e2⟩
 | .b x,.b y,r,b,e=>by cases x<;>cases y<;>first|exact⟨rfl,e⟩|cases e
 | .ptr a x,.ptr a' x',r,b,e=>by obtain⟨h1,e1⟩:=tE e;obtain⟨h2,e2⟩:=tE e1;exact⟨by rw[h1,h2],e2⟩
 | .sl a x n c,.sl a' x' n' c',r,b,e=>by obtain⟨h1,e1⟩:=tE e;obtain⟨h2,e2⟩:=tE e1;obtain⟨h3,e3⟩:=tE e2;obtain⟨h4,e4⟩:=tE e3;exact⟨by rw[h1,h2,h3,h4],e4⟩
 | .gr a x,.gr a' x',r,b,e=>by obtain⟨h1,e1⟩:=tE e;obtain⟨h2,e2⟩:=tE e1;exact⟨by rw[h1,h2],e2⟩
 | .nl,.nl,r,b,e=>⟨rfl,e⟩
 | .ni,.ni,r,b,e=>⟨rfl,e⟩
 | .agg l,.agg l',r,b,e=>by obtain⟨h1,h2⟩:=Rz l l' r b e;exact⟨by rw[h1],h2⟩
 | .v x,.v y,r,b,e=>by obtain⟨h1,h2⟩:=aaR e;exact⟨by rw[h1],h2⟩
theorem Rz:∀(x y:qr SV)(r:Hx β)(b:β),J9 x y r=some b->x=y/\r=some b
 |[],[],r,b,e=>⟨rfl,e⟩
 |x::xs,y::ys,r,b,e=>by obtain⟨h1,e⟩:=Ry x y _ b e;obtain⟨h2,e⟩:=Rz xs ys r b e;exact⟨by rw[h1,h2],e⟩
end
class QF where
 q:FuncId->Bool
variable[QF]
def KV(o:Op):Bool:=match o with
 | .call c=>match c.callee with
  | .value (.func f)=>QF.q f
  |_=>false
 |_=>false
def Bd(X:eL)(pt:FuncId->Hx (cH β))(st:St)(o:Oper)(K:SV->Hx β):Hx β:=match o.op with
 | .pick c a b=>ob (dK st.tm c) λv=>match v with
  | .b x=>cond x (ob (dK st.tm a) K) (ob (dK st.tm b) K)
  |_=>none
 |op=>cond (KV op) (cond (Mx st.tm (Vh op)) (CQ X pt ⟨jD st.tm (Vh op) .nil,.nil,st.sx⟩ op λp v _=>cond p none (cond (vR v) (K v) (bJ 76))) (bJ 75)) (CQ X pt st op λp v _=>cond p none (K v))
def qw(o:Op):Bool:=match o with
 | .pick _ _ _=>true
 |o=>KV o||mV o
def ye(ops:Array Oper)(ms:qr Nat)(i:Nat):Bool:=
 jx ops.size λj=>match ops[j]? with
  |some o=>qw o.op||(sa o.op||(bit ms i j||bit ms j i))
  |none=>true
def Vn(ops:Array Oper)(ms:qr Nat)(i:Nat):Bool:=
 jx i λj=>match ops[j]? with
  |some o=>qw o.op||(sa o.op||bit ms i j)
  |none=>true
noncomputable def Bm(X:eL)(pt:FuncId->Hx (cH β))(ms:qr Nat)(s:Nat)(st:St):qr om->Hx β->Hx β
 |[],r=>r
 |x::xs,r=>cond (bit ms s x.i) (Bm X pt ms s st xs r) (cond (qw x.o.op) (Bd X pt ⟨x.tm,st.h,st.sx⟩ x.o λsv=>J8 x.sv sv (Bm X pt ms s st xs r)) none)
noncomputable def py(X:eL)(pt:FuncId->Hx (cH β))(ops:Array Oper)(ms:qr Nat):qr Oper->Nat->St->Tr SO->qr Nat->qr om->(Hx SV->St->Hx β)->Hx β
 |[],_,st,_,_,_,K=>K none st
 |o::os,i,st,hL,ks,pe,K=>Eg ops st.tm o λw tm1=>cond w
  (cond (qw o.op)
   (cond (Wj tm1 o.op&&!ye ops ms i)
    (cond (Vn ops ms i) (Bd X pt ⟨jD tm1 (looks ops o) .nil,hL,st.sx⟩ o λsv=>py X pt ops ms os (i+1) {st with tm:=kJ tm1 o.dst sv} hL ks (⟨i,o,jD tm1 (looks ops o) .nil,sv⟩::pe) K) (bJ 73))
    (Bd X pt ⟨jD tm1 (looks ops o) .nil,cond (ye ops ms i) hL .nil,st.sx⟩ o λsv=>py X pt ops ms os (i+1) {st with tm:=kJ tm1 o.dst sv} hL ks pe K))
   (cond (sa o.op)
    (rb X ⟨jD tm1 (looks ops o) .nil,.nil,st.sx⟩ o.op λsv so=>py X pt ops ms os (i+1) ⟨kJ tm1 o.dst sv,st.h.set st.sx so,st.sx+1⟩ hL (i::ks) pe K)
    (cond (ks.all λj=>bit ms i j) (Bc X pt {st with tm:=jD tm1 (looks ops o) .nil} o λq st'=>match q with
     |none=>Bm X pt ms i st' pe (py X pt ops ms os (i+1) ⟨KZ tm1 o.dst st'.tm,st'.h,st'.sx⟩ st'.h (i::ks) (vO ms i pe) K)
     |some v=>cond (YS ops ms i) (K (some v) ⟨AQ ops.toList tm1,st'.h,st'.sx⟩) (bJ 71)) (bJ 72))))
  (py X pt ops ms os (i+1) {st with tm:=kJ tm1 o.dst (.aG [])} hL ks pe K)
theorem Mb{P:Program}{X:eL}(OK:iR P X){pt:FuncId->Hx (cH β)}(PT:nw P pt){o:Oper}(hq:qw o.op=true){st:St}{K:SV->Hx β}{b:β}(e:Bd X pt st o K=some b):
 ∃sv,K sv=some b/\sY P o st sv:=by
 unfold Bd at e;split at e
 ·rename_i c x y hop;obtain⟨v,k1,e⟩:=ax e;split at e
  ·rename_i q;have run:∀{σ:Ren}{a:Act}{w:jp},Ev σ st.tm a->(execOp a.eval o).run P w=.ok (.value (cond q (a.eval x) (a.eval y))) w:=by
    intro σ a w R;have d:=(ej R k1).bv;unfold execOp;simp only[hop,d,asBool,dA,eX,eW];cases q<;>rfl
   cases q with
   |true=>obtain⟨u,k2,e⟩:=ax e;exact⟨u,e,λa R s M K Q k=>rF (run R) (k _ _ _ (Ext.refl _) (ej R k2) M)⟩
   |false=>obtain⟨u,k2,e⟩:=ax e;exact⟨u,e,λa R s M K Q k=>rF (run R) (k _ _ _ (Ext.refl _) (ej R k2) M)⟩
  ·cases e
 ·rename_i hnp;cases hc:KV o.op with
  |true=>
   rw[hc] at e;obtain⟨hp,e⟩:=bd e;obtain⟨p,sv,st',h1,h2,hx,h3,_⟩:=Py OK PT e;cases p with
   |true=>cases h1
   |false=>
    obtain⟨hs,h1⟩:=bd h1;refine⟨sv,h1,λ{B σ G F w} a R s M K Q k=>?_⟩
    let σ0:Ren:=⟨λ_=>none,σ.lit⟩
    have M0:Mem (BA w (λ_=>False) σ.lit) σ0 (hG .nil) (λ_=>True) w:=
     ⟨λid so h=>(pH h).elim,λi j so so' o o' n n' h=>(pH h).elim,λ_ _=>rfl,M.lit,λb i v _ ⟨id,so,o,n,h,_⟩=>pH h,eZ.refl _ _,λb ⟨id,so,o,n,h,_⟩=>(pH h).elim,λb i v h=>.inl h,λk hk=>(Nat.not_lt_zero k hk).elim,λ_ _ _ h=>h⟩
    refine h3 (σ:=σ0) a (λt u hu=>?_) (λ_ _ _=>trivial) M0 K Q λσ' v w' E dv M'=>?_
    ·rcases Bb _ _ _ _ hu with⟨q1,q2⟩|q
     ·obtain⟨u',q3,q4⟩:=VI hp t q1;rw[q2] at q3;cases q3;exact VG (σ:=σ) (σ':=σ0) (λ_ _ _ h=>h) (R t u q2) q4
     ·rw[Tr.get_nil] at q;cases q
    ·have ml:=M.lits M'.base E.lit M'.lit λb i v h=>by
      rcases M'.mj b i v h with q|q|q
      ·exact .inl q
      ·exact q.elim
      ·exact .inr q
     exact k ⟨σ.nm,σ'.lit⟩ v w' ⟨λ_ _ h=>h,E.lit⟩ (VG (σ:=σ') (σ':=⟨σ.nm,σ'.lit⟩) (λ_ _ _ h=>h) dv hs) ml
  |false=>
   rw[hc,aD] at e;obtain⟨p,sv,st',h1,h2,hx,h3,h4⟩:=Py OK PT e;have hqb:mV o.op=true:=by
    unfold qw at hq;split at hq
    ·rename_i c x y hop;exact absurd hop (hnp c x y)
    ·rw[hc] at hq;simpa using hq
   obtain⟨rfl,h5⟩:=h4 hqb;exact⟨sv,h1,h5⟩
end
section
variable{β:Type}
variable[QF]
structure Rc where
 k:Nat
 v:SV
 h:Tr SO
 x:Nat
def qc(P:Program)(ops:Array Oper)(i:Nat)(o:Oper)(tm:Tr SV)(v:SV)(hl:Tr SO):Prop:=
 ∀{B:Bs}{σ:Ren}{G:Nat->SO->Prop}{F:Nat->Prop}{w:jp}(a:Act),Ev σ tm a->(∀id so,hl.get id=some so->G id so)->Mem B σ G F w->∀(K:Act->jp->Prop) Q,
  (∀σ' u w',Ext σ σ'->DV σ' v u->Mem B σ' G F w'->K (a.put o.dst u) w')->wpOp P ops Q i K a w
def Zp(P:Program)(ops:Array Oper)(o:Oper)(tm:Tr SV)(v:SV)(so:SO)(x:Nat):Prop:=
 ∀{σ:Ren}(a:Act),Ev σ tm a->Region.wanted o (yielded ops a.tmps)=true/\∀w,∃u w',(execOp a.eval o).run P w=.ok (.value u) w'/\eZ (λ_=>False) w w'/\
  ∀σ' c n,Ext σ σ'->σ'.nm x=some (some (w.heap.size,c),n)->DV σ' v u/\DO σ' w' x so
def I1(P:Program)(ops:Array Oper)(i:Nat)(o:Oper)(tm:Tr SV)(v:SV)(h:Tr SO)(x:Nat)(h':Tr SO)(x':Nat)(p:Bool):Prop:=
 ∀{B:Bs}{σ:Ren}{F:Nat->Prop}{w:jp}(a:Act),Ev σ tm a->(∀id,x<=id->id<x'->F id)->Mem B σ (hG h) F w->∀(K:Act->jp->Prop) Q,
  (∀σ' u w',Ext σ σ'->DV σ' v u->Mem B σ' (hG h') (lZ F x x') w'->cond p (Q (.panic [pe u]) a w') (K (a.put o.dst u) w'))->wpOp P ops Q i K a w
def qb(ops:Array Oper)(s i:Nat)(R:Nat->Rc)(tm0 tm:Tr SV):Prop:=∀t sv,tm.get t=some sv->(∃j,s<=j/\j<i/\jN ops j=some t/\(R j).v=sv)\/((∀j,s<=j->j<i->jN ops j≠some t)/\tm0.get t=some sv)
def zM(s:Nat)(hL:Tr SO)(R:Nat->Rc)(i:Nat)(h:Tr SO):Prop:=(∃p,s<=p/\p<i/\(R p).k=2/\(∀q,p<q->q<i->(R q).k≠2)/\h=(R (p+1)).h)\/((∀q,s<=q->q<i->(R q).k≠2)/\h=hL)
def Df(ops:Array Oper)(o:Oper)(tm:Tr SV):Prop:=∀t sv,tm.get t=some sv->t∈looks ops o
structure Fact(P:Program)(ops:Array Oper)(ms:List Nat)(s m:Nat)(tm0:Tr SV)(hL:Tr SO)(ks:List Nat)(R:Nat->Rc)(i:Nat)(o:Oper)(tm:Tr SV):Prop where
 op:ops[i]? =some o
 VD:qb ops s i R tm0 tm
 only:Df ops o tm
 le:(R i).x<=(R (i+1)).x
 kind:((R i).k=0/\(R (i+1)).h=(R i).h/\(R (i+1)).x=(R i).x/\(qc P ops i o tm (R i).v .nil\/∃h,zM s hL R i h/\qc P ops i o tm (R i).v h/\
  (ye ops ms i=true\/Vn ops ms i=true/\∀j,i<j->j<m->(R j).k=2->(∀l,i<l->l<=j->(R l).k=2->bit ms l i=false)->qc P ops i o tm (R i).v (R (j+1)).h)))\/
  ((R i).k=1/\sa o.op=true/\∃so,Zp P ops o tm (R i).v so (R i).x/\(R (i+1)).h=(R i).h.set (R i).x so/\(R (i+1)).x=(R i).x+1)\/
  ((R i).k=2/\I1 P ops i o tm (R i).v (R i).h (R i).x (R (i+1)).h (R (i+1)).x false/\qw o.op=false/\sa o.op=false/\(∀j,s<=j->j<i->(R j).k≠0->bit ms i j=true)/\∀j∈ks,bit ms i j=true)
def P7(ops:Array Oper)(x:om):Prop:=ops[x.i]? =some x.o/\∀{σ:Ren}{a:Act},Ev σ x.tm a->Region.wanted x.o (yielded ops a.tmps)=true
def Fin(P:Program)(ops:Array Oper)(ms:qr Nat)(s e m:Nat)(tm0:Tr SV)(ks:qr Nat)(R:Nat->Rc)(q:Hx SV)(gA:St):Prop:=match q with
 |none=>m=e/\gA.h=(R m).h/\gA.sx=(R m).x/\qb ops s m R tm0 gA.tm
 |some sv=>∃o tm,ops[m]? =some o/\m<e/\qb ops s m R tm0 tm/\Df ops o tm/\I1 P ops m o tm sv (R m).h (R m).x gA.h gA.sx true/\(R m).x<=gA.sx/\YS ops ms m=true/\(∀j,s<=j->j<m->(R j).k≠0->bit ms m j=true)/\(∀j∈ks,bit ms m j=true)/\
  qw o.op=false/\sa o.op=false/\∀t u,gA.tm.get t=some u->(∀o∈ops.toList,o.dst≠some t)/\tm0.get t=some u
def Out(P:Program)(ops:Array Oper)(ms:qr Nat)(s e:Nat)(st:St)(hL:Tr SO)(ks:qr Nat)(ps:qr om)(K:Hx SV->St->Hx β)(b:β):Prop:=
 ∃(R:Nat->Rc)(m:Nat)(q:Hx SV)(gA:St),K q gA=some b/\s<=m/\m<=e/\(R s).h=st.h/\(R s).x=st.sx/\(∀i,s<=i->i<m->∃o tm,Fact P ops ms s m st.tm hL ks R i o tm)/\
  (∀x∈ps,∀j,s<=j->j<m->(R j).k=2->(∀l,s<=l->l<=j->(R l).k=2->bit ms l x.i=false)->qc P ops x.i x.o x.tm x.sv (R (j+1)).h)/\Fin P ops ms s e m st.tm ks R q gA
theorem qb.step{ops:Array Oper}{s i:Nat}{R R':Nat->Rc}{tm0 tm1 tm:Tr SV}{o:Oper}(ho:ops[s]? =some o)(hs:s<i)(hR:∀j,s<j->R j=R' j)(sb:Sub tm1 tm0)(h:qb ops (s+1) i R' (kJ tm1 o.dst (R s).v) tm):qb ops s i R tm0 tm:=λt sv ht=>by
 have hd:jN ops s=o.dst:=by simp[jN,ho]
 rcases h t sv ht with⟨j,h1,h2,h3,h4⟩|⟨h1,h2⟩
 ·exact .inl ⟨j,by omega,h2,h3,by rw[hR j (by omega)];exact h4⟩
 ·cases hdst:o.dst with
  |none=>
   rw[hdst] at h2;refine .inr ⟨λj j1 j2=>?_,sb _ _ h2⟩;rcases Nat.eq_or_lt_of_le j1 with rfl|j1
   ·rw[hd,hdst];simp
   ·exact h1 j j1 j2
  |some d=>
   rw[hdst] at h2;have h2:(tm1.set d (R s).v).get t=some sv:=h2;rw[Tr.fN] at h2;by_cases q:t=d
   ·rw[ay q] at h2;exact .inl ⟨s,aM _,hs,by rw[hd,hdst,q],by cases h2;rfl⟩
   ·rw[aq q] at h2;refine .inr ⟨λj j1 j2=>?_,sb _ _ h2⟩;rcases Nat.eq_or_lt_of_le j1 with rfl|j1
    ·rw[hd,hdst];simpa using Ne.symm q
    ·exact h1 j j1 j2
theorem zM.step{s i:Nat}{R R':Nat->Rc}{hL hL1 h:Tr SO}(hs:s<i)(hR:∀j,s<j->R j=R' j)(hl:(R s).k=2/\hL1=(R' (s+1)).h\/(R s).k≠2/\hL1=hL)(k:zM (s+1) hL1 R' i h):zM s hL R i h:=by
 rcases k with⟨p,h1,h2,h3,h4,h5⟩|⟨h1,h2⟩
 ·exact .inl ⟨p,by omega,h2,by rw[hR p h1];exact h3,λq q1 q2=>by rw[hR q (by omega)];exact h4 q q1 q2,by rw[hR _ (by omega)];exact h5⟩
 ·rcases hl with⟨k1,k2⟩|⟨k1,k2⟩
  ·exact .inl ⟨s,aM _,hs,k1,λq q1 q2=>by rw[hR q q1];exact h1 q q1 q2,by rw[hR _ (kR _),h2,k2]⟩
  ·refine .inr ⟨λq q1 q2=>?_,by rw[h2,k2]⟩;rcases Nat.eq_or_lt_of_le q1 with rfl|q1
   ·exact k1
   ·rw[hR q q1];exact h1 q q1 q2
theorem Out.cons{P:Program}{ops:Array Oper}{ms:qr Nat}{s e:Nat}{st st1:St}{hL hL1:Tr SO}{ks ks1:qr Nat}{ps ps1:qr om}{K:Hx SV->St->Hx β}{b:β}{o:Oper}(ho:ops[s]? =some o){k:Nat}{v:SV}{tm1:Tr SV}(ht:st1.tm=kJ tm1 o.dst v)(sb:Sub tm1 st.tm)
 (hl:k=2/\hL1=st1.h\/k≠2/\hL1=hL) (hk:k≠0/\ks1=s::ks\/k=0/\ks1=ks) (hp:∀x∈ps,x∈ps1\/k=2/\bit ms s x.i=true) (hp2:k=2->∀x∈ps,bit ms s x.i=false->qc P ops x.i x.o x.tm x.sv st1.h) (hx:st.sx<=st1.sx)
 (hf:∀(R:Nat->Rc)(m:Nat),(R s)=⟨k,v,st.h,st.sx⟩->(R (s+1)).h=st1.h->(R (s+1)).x=st1.sx->(∀x∈ps1,∀j,s+1<=j->j<m->(R j).k=2->(∀l,s+1<=l->l<=j->(R l).k=2->bit ms l x.i=false)->qc P ops x.i x.o x.tm x.sv (R (j+1)).h)->∃tm,Fact P ops ms s m st.tm hL ks R s o tm)
 (O:Out P ops ms (s+1) e st1 hL1 ks1 ps1 K b):Out P ops ms s e st hL ks ps K b:=by
 obtain⟨R',m,q,gA,h1,h2,h3,h4,h5,h6,h7,h8⟩:=O
 let R:Nat->Rc:=λi=>if i=s then⟨k,v,st.h,st.sx⟩ else R' i
 have hs:R s=⟨k,v,st.h,st.sx⟩:=ay rfl;have hR:∀j,s<j->R j=R' j:=λj hj=>aq (by omega);have hl':(R s).k=2/\hL1=(R' (s+1)).h\/(R s).k≠2/\hL1=hL:=by rw[hs,h4];exact hl
 have hv:(R s).v=v:=by rw[hs]
 have bits:∀{i:Nat},(∀j,s+1<=j->j<i->(R' j).k≠0->bit ms i j=true)->(∀j∈ks1,bit ms i j=true)->(∀j,s<=j->j<i->(R j).k≠0->bit ms i j=true)/\∀j∈ks,bit ms i j=true:=by
  intro i b1 b2;refine⟨λj j1 j2 j3=>?_,λj hj=>b2 j ?_⟩
  ·rcases Nat.eq_or_lt_of_le j1 with rfl|j1
   ·rw[hs] at j3;rcases hk with⟨_,q⟩|⟨q,_⟩
    ·exact b2 _ (by rw[q];simp)
    ·exact absurd q j3
   ·rw[hR j j1] at j3;exact b1 j j1 j2 j3
  ·rcases hk with⟨_,q⟩|⟨_,q⟩
   ·rw[q];exact mE _ hj
   ·rw[q];exact hj
 have pv:∀{i:Nat}{tm:Tr SV},s<i->qb ops (s+1) i R' st1.tm tm->qb ops s i R st.tm tm:=λhi h=>qb.step ho hi hR sb (by rw[hv,<-ht];exact h);have pq:∀x∈ps1,∀j,s+1<=j->j<m->(R j).k=2->(∀l,s+1<=l->l<=j->(R l).k=2->bit ms l x.i=false)->qc P ops x.i x.o x.tm x.sv (R (j+1)).h:=by intro x hx j j1 j2 j3 j4;rw[hR j j1] at j3;rw[hR (j+1) (by omega)];exact h7 x hx j j1 j2 j3 λl l1 l2 l3=>j4 l l1 l2 (by rw[hR l l1];exact l3)
 refine⟨R,m,q,gA,h1,by omega,h3,by rw[hs],by rw[hs],λi i1 i2=>?_,λx hx j j1 j2 j3 j4=>?_,?_⟩
 ·rcases Nat.eq_or_lt_of_le i1 with rfl|i1
  ·obtain⟨tm,f⟩:=hf R m hs (by rw[hR _ (kR _),h4]) (by rw[hR _ (kR _),h5]) pq;exact⟨o,tm,f⟩
  ·obtain⟨o',tm,f⟩:=h6 i i1 i2;have e1:=hR i i1;have e2:=hR (i+1) (by omega);refine⟨o',tm,f.op,pv i1 f.VD,f.only,by rw[e1,e2];exact f.le,?_⟩;rw[e1,e2];rcases f.kind with⟨a1,a2,a3,a4⟩|a|⟨a1,a2,a3,a4,a5,a6⟩
   ·refine .inl ⟨a1,a2,a3,?_⟩;rcases a4 with a4|⟨h,b1,b2,b3⟩
    ·exact .inl a4
    ·refine .inr ⟨h,b1.step i1 hR hl',b2,?_⟩;rcases b3 with b3|⟨b3,b4⟩
     ·exact .inl b3
     ·exact .inr ⟨b3,λj j1 j2 j3 j4=>by rw[hR j (by omega)] at j3;rw[hR (j+1) (by omega)];exact b4 j j1 j2 j3 λl l1 l2 l3=>j4 l l1 l2 (by rw[hR l (by omega)];exact l3)⟩
   ·exact .inr (.inl a)
   ·exact .inr (.inr ⟨a1,a2,a3,a4,bits a5 a6⟩)
 ·rcases Nat.eq_or_lt_of_le j1 with rfl|j1
  ·rw[hs] at j3;rw[hR _ (kR _),h4];exact hp2 j3 x hx (j4 s (aM _) (aM _) (by rw[hs];exact j3))
  ·rcases hp x hx with q|⟨q1,q2⟩
   ·exact pq x q j j1 j2 j3 λl l1 l2 l3=>j4 l (by omega) l2 l3
   ·have:=j4 s (aM _) (by omega) (by rw[hs];exact q1);rw[q2] at this;cases this
 ·cases q with
  |none=>obtain⟨a1,a2,a3,a4⟩:=h8;exact⟨a1,by rw[hR m (by omega)];exact a2,by rw[hR m (by omega)];exact a3,pv (by omega) a4⟩
  |some sv=>
   obtain⟨o',tm,a1,a2,a3,a4,a5,a6,a7,a8,a9,a10,a11,a12⟩:=h8;rw[<-hR m (by omega)] at a5 a6;refine⟨o',tm,a1,a2,pv (by omega) a3,a4,a5,a6,a7,(bits a8 a9).1,(bits a8 a9).2,a10,a11,λt u hu=>?_⟩;obtain⟨c1,c2⟩:=a12 t u hu;refine⟨c1,sb _ _ ?_⟩;rw[ht] at c2;have:=c1 o (Array.mem_toList_iff.2 (Array.mem_of_getElem? ho));cases hd:o.dst with
   |none=>rw[hd] at c2;exact c2
   |some d=>rw[hd] at c2;have c2:(tm1.set d v).get t=some u:=c2;rw[Tr.fN,aq (by rw[hd] at this;simpa using Ne.symm this)] at c2;exact c2
end
section
variable{β:Type}
theorem MD{P:Program}{ops:Array Oper}{i:Nat}{o:Oper}{tm:Tr SV}{h:Tr SO}{sx:Nat}{sv:SV}(ho:ops[i]? =some o)(g:∀{σ:Ren}{a:Act},Ev σ tm a->Region.wanted o (yielded ops a.tmps)=true)(d:sY P o ⟨tm,h,sx⟩ sv):qc P ops i o tm sv h:=λa R s M K Q k=>by unfold wpOp;simp only[ho,g R,dW];exact .inl (d a R s M K Q k)
theorem Mh[QF]{P:Program}{X:eL}(OK:iR P X){pt:FuncId->Hx (cH β)}(PT:nw P pt){ops:Array Oper}{ms:qr Nat}{s:Nat}{st:St}:∀{ps:qr om}{r:Hx β}{b:β},Bm X pt ms s st ps r=some b->(∀x∈ps,P7 ops x)->r=some b/\∀x∈ps,bit ms s x.i=false->qc P ops x.i x.o x.tm x.sv st.h
 |[],r,b,e,_=>⟨e,λ_ h=>by cases h⟩
 |x::ps,r,b,e,hp=>by
  have hp':=λy hy=>hp y (mE x hy);unfold Bm at e;cases hb:bit ms s x.i with
  |true=>
   rw[hb,aE] at e;obtain⟨h1,h2⟩:=Mh OK PT e hp';refine⟨h1,λy hy q=>?_⟩;rcases cZ.1 hy with rfl|hy
   ·rw[hb] at q;cases q
   ·exact h2 y hy q
  |false=>
   rw[hb,aD] at e;obtain⟨hq,e⟩:=bd e;obtain⟨sv,e,d⟩:=Mb OK PT hq e;obtain⟨e1,e⟩:=Ry _ _ _ _ e;obtain⟨h1,h2⟩:=Mh OK PT e hp';refine⟨h1,λy hy q=>?_⟩;rcases cZ.1 hy with rfl|hy
   ·obtain⟨p1,p2⟩:=hp y (nY ..);rw[e1];exact MD p1 p2 d
   ·exact h2 y hy q
theorem Mi{ms:qr Nat}{s:Nat}{x:om}:∀{ps:qr om},x∈vO ms s ps->x∈ps
 |y::ps,h=>by
  unfold vO at h;cases hb:bit ms s y.i with
  |true=>rw[hb] at h;exact mE _ (Mi h)
  |false=>
   rw[hb] at h;rcases cZ.1 h with rfl|h
   ·exact nY ..
   ·exact mE _ (Mi h)
theorem acg{tm1 tm2:Tr SV}{d:Hx Nat}{ts:qr Nat}{v:SV}(h:tm2=kJ (jD tm1 ts .nil) d v):KZ tm1 d tm2=kJ tm1 d v:=by
 subst h;cases d with
 |none=>rfl
 |some d=>simp[KZ,kJ,Tr.fN]
theorem yc{ops:Array Oper}{o:Oper}{tm:Tr SV}:Df ops o (jD tm (looks ops o) .nil):=λt sv h=>by
 rcases Bb _ _ _ _ h with⟨q,_⟩|q
 ·exact q
 ·rw[Tr.get_nil] at q;cases q
theorem xz[QF]{P:Program}{X:eL}(OK:iR P X){pt:FuncId->Hx (cH β)}(PT:nw P pt){ops:Array Oper}{ms:qr Nat}:∀(os:qr Oper)(s:Nat),(∀i o,os[i]? =some o->ops[s+i]? =some o)->s+os.length=ops.size->∀(st:St)(hL:Tr SO)(ks:qr Nat)(ps:qr om)(K:Hx SV->St->Hx β)(b:β),
 py X pt ops ms os s st hL ks ps K=some b->(∀x∈ps,P7 ops x)->Out P ops ms s ops.size st hL ks ps K b
 |[],s,_,hl,st,hL,ks,ps,K,b,e,_=>
  ⟨λ_=>⟨0,.nl,st.h,st.sx⟩,s,none,st,e,aM _,sW hl,rfl,rfl,λi h1 h2=>by omega,λ_ _ j h1 h2=>by omega,hl,rfl,rfl,λt sv h=>.inr ⟨λj h1 h2=>by omega,h⟩⟩
 |o::os,s,hs,hl,st,hL,ks,ps,K,b,e,hp=>by
  have ho:ops[s]? =some o:=hs 0 o rfl;have hs':∀i o',os[i]? =some o'->ops[s+1+i]? =some o':=λi o' hi=>by have:=hs (i+1) o' (by simpa using hi);rw[show s+1+i=s+(i+1) by omega];exact this
  have hl':s+1+os.length=ops.size:=by rw[<-hl,bW];omega
  unfold py at e;obtain⟨wt,tm1,e,sb,g⟩:=Sb e;have sub:Sub (jD tm1 (looks ops o) .nil) st.tm:=λt sv h=>sb _ _ (Vg t sv h);have pr:∀{R:Nat->Rc},qb ops s s R st.tm (jD tm1 (looks ops o) .nil):=λt sv h=>.inr ⟨λj h1 h2=>by omega,sub t sv h⟩;have lh:∀{R:Nat->Rc},zM s hL R s hL:=.inr ⟨λq h1 h2=>by omega,rfl⟩;cases wt with
  |false=>rw[aD] at e;have O:=xz OK PT os (s+1) hs' hl' _ _ _ _ K b e hp;refine O.cons ho (k:=0) (v:=.aG []) rfl sb (.inr ⟨by decide,rfl⟩) (.inr ⟨rfl,rfl⟩) (λx h=>.inl h) (λq=>by cases q) (by exact aM _) (λR m r1 r2 r3 _=>⟨_,ho,pr,yc,by rw[r1,r3];exact aM _,.inl ⟨by rw[r1],by rw[r1,r2],by rw[r1,r3],.inl ?_⟩⟩);rw[r1];intro B σ G F w a R s M K Q k;unfold wpOp;simp only[ho,g R,kO,gY];exact k σ undef w (Ext.refl _) PU M
  |true=>
   rw[aE] at e;cases hq:qw o.op with
   |true=>
    rw[hq,aE] at e;cases hr:(Wj tm1 o.op&&!ye ops ms s) with
    |true=>
     rw[hr,aE] at e;obtain⟨hB,e⟩:=bd e;obtain⟨sv,e,d⟩:=Mb OK PT hq e;have O:=xz OK PT os (s+1) hs' hl' _ _ _ _ K b e λx h=>(cZ.1 h).elim (λq=>by subst q;exact⟨ho,g⟩) (hp x);refine O.cons ho (k:=0) (v:=sv) rfl sb (.inr ⟨by decide,rfl⟩) (.inr ⟨rfl,rfl⟩) (λx h=>.inl (mE _ h)) (λq=>by cases q) (by exact aM _)
      (λR m r1 r2 r3 pq=>⟨_,ho,pr,yc,by rw[r1,r3];exact aM _,.inl ⟨by rw[r1],by rw[r1,r2],by rw[r1,r3],.inr ⟨hL,lh,?_,.inr ⟨hB,λj h1 h2 h3 h4=>?_⟩⟩⟩⟩)
     ·rw[r1];exact MD ho g d
     ·rw[r1];exact pq _ (nY ..) j h1 h2 h3 h4
    |false=>
     rw[hr,aD] at e;obtain⟨sv,e,d⟩:=Mb OK PT hq e;have O:=xz OK PT os (s+1) hs' hl' _ _ _ _ K b e hp;refine O.cons ho (k:=0) (v:=sv) rfl sb (.inr ⟨by decide,rfl⟩) (.inr ⟨rfl,rfl⟩) (λx h=>.inl h) (λq=>by cases q) (by exact aM _)
      (λR m r1 r2 r3 pq=>⟨_,ho,pr,yc,by rw[r1,r3];exact aM _,.inl ⟨by rw[r1],by rw[r1,r2],by rw[r1,r3],?_⟩⟩)
     rw[r1];replace d:qc P ops s o (jD tm1 (looks ops o) .nil) sv (cond (ye ops ms s) hL .nil):=MD ho g d;cases hd:ye ops ms s with
     |true=>rw[hd] at d;exact .inr ⟨hL,lh,d,.inl rfl⟩
     |false=>rw[hd] at d;exact .inl d
   |false=>
    rw[hq,aD] at e;cases hm:sa o.op with
    |true=>
     rw[hm,aE] at e;obtain⟨sv,so,e,d⟩:=Np OK e;have O:=xz OK PT os (s+1) hs' hl' _ _ _ _ K b e hp;refine O.cons ho (k:=1) (v:=sv) rfl sb (.inr ⟨by decide,rfl⟩) (.inl ⟨by decide,rfl⟩) (λx h=>.inl h) (λq=>by cases q) (by exact qa _)
      (λR m r1 r2 r3 pq=>⟨_,ho,pr,yc,by rw[r1,r3];exact qa _,.inr (.inl ⟨by rw[r1],hm,so,?_,by rw[r1,r2],by rw[r1,r3]⟩)⟩)
     rw[r1];intro σ a R;refine⟨g R,λw=>?_⟩;obtain⟨u,w',g1,g2,g3⟩:=d a R w;exact⟨u,w',g1,g2,λσ' c n E h=>by obtain⟨k1,k2,_⟩:=g3 σ' c n E h;exact⟨k1,k2⟩⟩
    |false=>
     rw[hm,aD] at e;obtain⟨hk,e⟩:=bd e;have hk:∀j∈ks,bit ms s j=true:=λj hj=>iv.1 hk j hj;obtain⟨q,sv,st',e,hx,ht,D⟩:=Ma OK PT e;have hx:st.sx<=st'.sx:=hx;cases q with
     |none=>
      have ht:st'.tm=kJ (jD tm1 (looks ops o) .nil) o.dst sv:=by rcases ht with h|h;exact h.2;cases h.1
      obtain⟨e,pq⟩:=Mh OK PT e hp;have L:∀{p:Bool},p=false->I1 P ops s o (jD tm1 (looks ops o) .nil) sv st.h st.sx st'.h st'.sx p:=by
       rintro _ rfl B σ F w a R hF M K Q k
       unfold wpOp;simp only[ho,g R,dW];exact .inl (D a R hF M K Q k)
      have O:=xz OK PT os (s+1) hs' hl' _ _ _ _ K b e λx h=>hp x (Mi h);refine O.cons ho (k:=2) (v:=sv) (acg ht) sb (by exact .inl ⟨rfl,rfl⟩) (.inl ⟨by decide,rfl⟩) (λx h=>?_) (λ_=>by exact pq) (by exact hx)
       (λR m r1 r2 r3 _=>⟨_,ho,pr,yc,by rw[r1,r3];exact hx,.inr (.inr ⟨by rw[r1],?_,hq,hm,λj h1 h2=>by omega,hk⟩)⟩)
      ·rcases Vu (ms:=ms) (s:=s) h with q|q
       ·exact .inr ⟨rfl,q⟩
       ·exact .inl q
      ·rw[r1,r2,r3];exact L rfl
     |some sv'=>
      obtain⟨rfl,_⟩:sv'=sv/\_:=by rcases ht with h|h;cases h.1;exact⟨jH h.1,h.2⟩
      obtain⟨ht,e⟩:=bd e;refine⟨λ_=>⟨0,.nl,st.h,st.sx⟩,s,some sv',_,e,aM _,by rw[<-hl,bW];omega,rfl,rfl,λi h1 h2=>by omega,λ_ _ j h1 h2=>by omega,o,_,ho,by rw[<-hl,bW];omega,pr,yc,?_,hx,ht,λj h1 h2=>by omega,hk,hq,hm,λt u hu=>?_⟩
      ·intro B σ F w a R hF M K Q k;unfold wpOp;simp only[ho,g R,dW];exact .inl (D a R hF M K Q k)
      ·obtain⟨h1,h2⟩:=Tj.1 hu;exact⟨h1,sb _ _ h2⟩
end
section
variable{β:Type}
theorem Mem.Ed{B:Bs}{σ:Ren}{G h:Nat->SO->Prop}{F:Nat->Prop}{w:jp}(M:Mem B σ G F w)(s:∀id so,h id so->G id so):Mem (BA w (Own σ h) σ.lit) σ h F w:=
 have M1:=M.less s λ_ q=>q
 ⟨M1.obj,M1.inj,M1.fresh,M1.lit,M1.free,eZ.refl _ _,λ_ q=>.inl q,λ_ _ _ q=>.inl q,λk hk=>(Nat.not_lt_zero k hk).elim,λ_ _ _ q=>q⟩
theorem Mem.frame{B:Bs}{σ σ':Ren}{G h h':Nat->SO->Prop}{F F':Nat->Prop}{w w':jp}(M:Mem B σ G F w)(s:∀id so,h id so->G id so)(E:Ext σ σ')(M':Mem (BA w (Own σ h) σ.lit) σ' h' F' w'):
 Mem B σ' (λid so=>h' id so\/G id so/\∀so',¬h id so') F' w':=by
 have ow:∀b,Own σ h b->Own σ G b:=λb ⟨id,so,o,n,a,p,q⟩=>⟨id,so,o,n,s _ _ a,p,q⟩;have ow':∀{b},Own σ' h' b->Own σ G b\/w.heap.size<=b:=λq=>(M'.owned _ q).imp (ow _) λq=>q;have nmG:∀{id so o n},G id so->σ'.nm id=some (some o,n)->σ.nm id=some (some o,n):=by intro id so o n g q;rcases(M.obj id so g).nm with k|⟨_,_,k,_⟩<;>rw[E.nm _ _ k] at q<;>cases q;exact k
 have apart:∀{id so o n},G id so->(∀so',¬h id so')->σ'.nm id=some (some o,n)->o.1 <w.heap.size/\¬Own σ h o.1 :=by intro id so o n g q k;have k:=nmG g k;refine⟨M.lt g k,λ⟨id',so',o',n',a,p,r⟩=>?_⟩;have:=M.inj _ _ _ _ _ _ _ _ g (s _ _ a) k p r.symm;subst this;exact q _ a
 have far:∀{b id so o n},Own σ' h' b->G id so->(∀so',¬h id so')->σ'.nm id=some (some o,n)->b≠o.1 :=by
  rintro b id so o n q g k r rfl
  have:=apart g k r;rcases M'.owned _ q with z|z
  ·exact this.2 z
  ·exact Nat.not_le_of_lt this.1 z
 refine⟨λid so q=>?_,λi j so so' o o' n n' a a' b b' c=>?_,M'.fresh,M'.lit,λb i v q ⟨id,so,o,n,a,p,r⟩=>?_,M.base.trans (M'.base.wide ow) M.owned,λb ⟨id,so,o,n,a,p,r⟩=>?_,λb i v q=>?_,λk hk x hx=>E.nm _ _ (M.kE k hk x hx),λb i v q=>E.lit b i v (M.nM b i v q)⟩
 ·rcases q with q|⟨q,k⟩
  ·exact M'.obj id so q
  ·exact(M.obj id so q).mono E λo n r=>(have z:=apart q k (E.nm _ _ r);M'.base.block _ z.1 z.2)
 ·rcases a with a|⟨a,k⟩<;>rcases a' with a'|⟨a',k'⟩
  ·exact M'.inj _ _ _ _ _ _ _ _ a a' b b' c
  ·exact absurd c (far ⟨i,so,o,n,a,b,rfl⟩ a' k' b')
  ·exact absurd c.symm (far ⟨j,so',o',n',a',b',rfl⟩ a k b)
  ·exact M.inj _ _ _ _ _ _ _ _ a a' (nmG a b) (nmG a' b') c
 ·rcases a with a|⟨a,k⟩
  ·exact M'.free b i v q ⟨id,so,o,n,a,p,r⟩
  ·have z:=apart a k p;rw[r] at z;rcases M'.mj b i v q with y|y|y
   ·exact M.free b i v y ⟨id,so,o,n,a,nmG a p,r⟩
   ·exact z.2 y
   ·exact Nat.not_le_of_lt z.1 y
 ·rcases a with a|⟨a,k⟩
  ·rcases ow' ⟨id,so,o,n,a,p,r⟩ with q|q
   ·exact M.owned b q
   ·exact .inr (fH M.base.size q)
  ·exact M.owned b ⟨id,so,o,n,a,nmG a p,r⟩
 ·rcases M'.mj b i v q with y|y|y
  ·exact M.mj b i v y
  ·exact .inr (M.owned b (ow b y))
  ·exact .inr (.inr (fH M.base.size y))
theorem aml{P:Program}{ops:Array Oper}{i:Nat}{a:Act}{w:jp}{G:Prop}(h:wpOp P ops (λ_ _ _=>False) i (λ_ _=>G) a w):G:=by
 unfold wpOp at h;split at h
 ·exact h
 split at h
 ·rcases h with h|⟨_,_,_,h⟩
  ·unfold Oper.wp Oper.upon at h;split at h
   ·exact h
   ·exact h
   ·exact h
   ·obtain⟨e,w',fr,r,_⟩:=h [];cases e with
    |returned v=>exact r
    |panicked c=>exact r.elim
    |outgrown=>obtain⟨_,_,r⟩:=r;exact r.elim
   ·obtain⟨v,w',r,_⟩:=h default [];exact r
   ·exact h.elim
   ·exact h.elim
  ·exact h.elim
 ·exact h
def GD(R:Nat->Rc)(D:Nat->Prop)(p m:Nat)(id:Nat)(so:SO):Prop:=(R p).h.get id=some so\/∃j,p<=j/\j<m/\D j/\(R j).k=1/\id=(R j).x/\(R (j+1)).h.get id=some so
def FD(R:Nat->Rc)(D:Nat->Prop)(m id:Nat):Prop:=(R 0).x<=id/\∀j,j<m->D j->id<(R j).x\/(R (j+1)).x<=id
structure Iv(B:Bs)(ops:Array Oper)(ms:List Nat)(R:Nat->Rc)(m:Nat)(tm0:Tr SV)(D:Nat->Prop)(p:Nat)(σ:Ren)(a:Act)(w:World):Prop where
 pm:p<=m
 pk:p=0\/∃q,p=q+1/\(R q).k=2
 lo:∀j,j<m->(R j).k=2->(D j↔j<p)
 TO:∀j,j<p->(R j).k=1->D j
 sub:∀j,D j->j<m
 cl:∀j l,D j->bit ms j l=true->D l
 size:a.tmps.size=B.n
 dX:a.defers=B.dX
 mem:Mem B σ (GD R D p m) (FD R D m) w
 val:∀j t,D j->jN ops j=some t->DV σ (R j).v (a.eval (.tmp t))
 rest:∀t sv,(∀j,D j->jN ops j≠some t)->tm0.get t=some sv->DV σ sv (a.eval (.tmp t))
structure xg(ops:Array Oper)(ms:List Nat)(n:Nat):Prop where
 lt:∀i j,i<ops.size->bit ms i j=true->j<i
 dn:∀i t,jN ops i=some t->t<n
 one:∀i j t,jN ops i=some t->jN ops j=some t->i=j
 look:∀i o t j,ops[i]? =some o->t∈looks ops o->jN ops j=some t->j=i\/bit ms i j=true\/bit ms j i=true
def YI(ops:Array Oper)(ms:qr Nat)(n:Nat):Bool:=
 cond (jx ops.size λi=>match jN ops i with
  |none=>true
  |some t=>cond (Nat.blt t n) (jx i λj=>!isDst ops j t) false)
  (jx ops.size λi=>match ops[i]? with
   |none=>true
   |some o=>(looks ops o).all λt=>jx ops.size λj=>cond (isDst ops j t) (Nat.beq j i||(bit ms i j||bit ms j i)) true)
  false
theorem YG{ops:Array Oper}{ms:qr Nat}{n:Nat}(lt:∀i j,i<ops.size->bit ms i j=true->j<i)(hs:YI ops ms n=true):xg ops ms n:=by
 obtain⟨s2,s3⟩:=nD hs;have dlt:∀{i t},jN ops i=some t->i<ops.size:=λh=>by unfold jN at h;obtain⟨o,h,_⟩:=Option.bind_eq_some_iff.1 h;exact(fy.1 h).1
 have d2:∀{i t},jN ops i=some t->t<n/\∀j,j<i->isDst ops j t=false:=λ{i t} h=>by have:=lR s2 i (dlt h);simp only[h] at this;obtain⟨h1,h2⟩:=nD this;exact⟨fb h1,λj hj=>by simpa using lR h2 j hj⟩
 have one:∀{i j t},jN ops i=some t->jN ops j=some t->¬j<i:=λh k q=>by have:=(d2 h).2 _ q;rw[SQ.2 k] at this;cases this
 refine⟨lt,λi t h=>(d2 h).1,λi j t h k=>Nat.le_antisymm (Nat.not_lt.1 (one h k)) (Nat.not_lt.1 (one k h)),λi o t j ho ht h=>?_⟩;have:=lR s3 i (fy.1 ho).1;simp only[ho] at this;have:=lR (iv.1 this t ht) j (dlt h);rw[SQ.2 h,aE] at this;simp only[sU] at this;exact this.imp bX id
theorem alQ{ops:Array Oper}{n:Nat}(hs:stat ops (pF ops.toList []) n=true):xg ops (pF ops.toList []) n:=
 YG (λi j hi h=>ac2 (YK hs) hi h) (nD hs).2
section
variable[QF] {P:Program} {ops:Array Oper} {ms:qr Nat} {n m:Nat} (S:xg ops ms n) {B:Bs} (hn:B.n=n) {R:Nat->Rc} {tm0:Tr SV} (hm:m<=ops.size) (hf:∀i,i<m->∃o tm,Fact P ops ms 0 m tm0 (R 0).h [] R i o tm) {D:Nat->Prop} {p:Nat} {σ:Ren} {a:Act} {w:jp} (I:Iv B ops ms R m tm0 D p σ a w) {i:Nat}
include S hm I in
theorem Iv.ev{o:Oper}{tm:Tr SV}(ho:ops[i]? =some o)(nd:¬D i)(hd:∀j,bit ms i j=true->D j)(pr:qb ops 0 i R tm0 tm)(on:Df ops o tm):Ev σ tm a:=λt sv h=>by
 have ht:=on t sv h;have hi:=(fy.1 ho).1;rcases pr t sv h with⟨j,_,h1,h2,rfl⟩|⟨h1,h2⟩
 ·refine I.val j t ?_ h2;rcases S.look i o t j ho ht h2 with q|q|q
  ·omega
  ·exact hd j q
  ·have:=S.lt j i (by omega) q;omega
 ·refine I.rest t sv (λj dj q=>?_) h2;rcases S.look i o t j ho ht q with e|e|e
  ·subst e;exact nd dj
  ·exact h1 j (ib _) (S.lt i j hi e) q
  ·exact nd (I.cl j i dj e)
include hf in
theorem qO:∀{j:Nat},i<=j->j<=m->(R i).x<=(R j).x:=by
 intro j h;induction h with
 |refl=>exactλ_=>aM _
 |step h ih=>intro hj;obtain⟨o,tm,f⟩:=hf _ hj;exact fH (ih (Nat.le_of_lt hj)) f.le
include hf I in
theorem Iv.IA(hi:i<=m)(hd:∀j,j<i->(R j).k≠0->D j):∀{q:Nat},p<=q->q<=i->∀id so,(R q).h.get id=some so->GD R D p m id so:=by
 intro q hq;induction hq with
 |refl=>exactλ_ id so h=>.inl h
 |@step q hq ih=>
  intro qi id so h;have ih:=ih (Nat.le_of_lt qi);obtain⟨o,tm,f⟩:=hf q (o6 qi hi);rcases f.kind with⟨_,e,_⟩|⟨k1,_,so0,_,e,_⟩|⟨k2,_⟩
  ·rw[e] at h;exact ih id so h
  ·by_cases c:id=(R q).x
   ·exact .inr ⟨q,hq,o6 qi hi,hd q qi (by rw[k1];decide),k1,c,h⟩
   ·rw[e,Tr.fN,aq c] at h;exact ih id so h
  ·have:=(I.lo q (o6 qi hi) k2).1 (hd q qi (by rw[k2];decide));exact absurd hq (Nat.not_le_of_lt this)
include S hn hm hf I in
theorem Iv.step(hi:i<m)(nd:¬D i)(hd:∀j,bit ms i j=true->D j)(dj:∀j,i<j->D j->(R j).k=1->(R i).h.get (R j).x=none){K:Act->jp->Prop}{Q:Exit->Act->jp->Prop}(k:∀p' σ' a' w',Iv B ops ms R m tm0 (λx=>D x\/x=i) p' σ' a' w'->K a' w'):wpOp P ops Q i K a w:=by
 obtain⟨o,tm,f⟩:=hf i hi;have ho:=f.op;have di:jN ops i=o.dst:=by simp[jN,ho]
 have ev:=I.ev S hm ho nd hd f.VD f.only;have hsz:i<ops.size:=o6 hi hm;have fin:∀{p' σ' u w'},p'<=m->(p'=0\/∃q,p'=q+1/\(R q).k=2)->(∀j,j<m->(R j).k=2->(D j\/j=i↔j<p'))->(∀j,j<p'->(R j).k=1->D j\/j=i)->Ext σ σ'->DV σ' (R i).v u->Mem B σ' (GD R (λx=>D x\/x=i) p' m) (FD R (λx=>D x\/x=i) m) w'->K (a.put o.dst u) w':=by
  intro p' σ' u w' h1 h2 h3 h4 E dv M;have ep:∀{t},(a.put o.dst u).eval (.tmp t)=if o.dst=some t then u else a.eval (.tmp t):=eval_put λk hk=>by rw[I.size,hn];exact S.dn i k (di.trans hk)
  refine k p' σ' _ w' ⟨h1,h2,h3,h4,λj hj=>hj.elim (I.sub j) λq=>q▸hi,λj l hj hl=>.inl (hj.elim (λq=>I.cl j l q hl) λq=>hd l (q▸hl)),by cases o.dst<;>simp[Act.put,I.size],by cases o.dst<;>exact I.dX,M,λj t hj ht=>?_,λt sv h1 h2=>?_⟩
  ·rw[ep];by_cases c:o.dst=some t
   ·rw[ay c];have:=S.one i j t (di.trans c) ht;subst this;exact dv
   ·rw[aq c];rcases hj with q|q
    ·exact(I.val j t q ht).mono E
    ·subst q;exact absurd (di.symm.trans ht) c
  ·rw[ep,aq (by rw[<-di];exact h1 i (.inr rfl))];exact(I.rest t sv (λj hj=>h1 j (.inl hj)) h2).mono E
 have ids:(R i).x<=(R (i+1)).x->∀id,(R i).x<=id->id<(R (i+1)).x->FD R D m id:=λ_ id h1 h2=>⟨fH (qO hf (ib _) (Nat.le_of_lt hi)) h1,λj hj dd=>by
  rcases Nat.lt_trichotomy j i with q|q|q
  ·exact .inr (fH (qO hf q (Nat.le_of_lt hi)) h1)
  ·subst q;exact absurd dd nd
  ·exact .inl (o6 h2 (qO hf q (Nat.le_of_lt hj)))⟩
 have FS:∀id,FD R (λx=>D x\/x=i) m id->FD R D m id:=λid h=>⟨h.1,λj hj dj=>h.2 j hj (.inl dj)⟩;have cut:∀id,FD R (λx=>D x\/x=i) m id->lZ (FD R D m) (R i).x (R (i+1)).x id:=λid h=>⟨FS id h,λq=>by have:=h.2 i hi (.inr rfl);omega⟩;have lo0:(R i).k≠2->∀j,j<m->(R j).k=2->(D j\/j=i↔j<p):=λc j hj hk=>(or_iff_left λq:j=i=>c (by rw[<-q];exact hk)).trans (I.lo j hj hk);rcases f.kind with⟨k0,eh,ex,q⟩|⟨k1,_,so,mk,eh,ex⟩|⟨k2,L,_,_,b1,_⟩
 ·have use:∀{h:Tr SO},(∀id so,h.get id=some so->GD R D p m id so)->qc P ops i o tm (R i).v h->wpOp P ops Q i K a w:=λs q=>q a ev s I.mem K Q λσ' u w' E dv M=>
   fin I.pm I.pk (lo0 (by rw[k0];decide)) (λj h1 h2=>.inl (I.TO j h1 h2)) E dv (M.less (λid so h=>h.imp_right λ⟨j,h1,h2,h3,h4,h5⟩=>⟨j,h1,h2,h3.resolve_right (λc=>by rw[c,k0] at h4;cases h4),h4,h5⟩) FS)
  rcases q with q|⟨h,lh,q,ord⟩
  ·exact use (λid so h=>(pH h).elim) q
  have lq:∀{j},j<m->(R j).k=2->∃o,ops[j]? =some o/\qw o.op=false/\sa o.op=false:=λhj hk=>by
   obtain⟨o,tm,f⟩:=hf _ hj;rcases f.kind with⟨c,_⟩|⟨c,_⟩|⟨_,_,c1,c2,_⟩
   ·rw[hk] at c;cases c
   ·rw[hk] at c;cases c
   ·exact⟨o,f.op,c1,c2⟩
  have bef:∀{j},j<i->(R j).k=2->D j:=λ{j} hj hk=>by
   obtain⟨o',h1,h2,h3⟩:=lq (Nat.lt_trans hj hi) hk;rcases ord with ord|⟨ord,_⟩
   ·have:=lR ord j (Nat.lt_trans hj hsz);simp only[h1,h2,h3,zI,sU] at this;rcases this with c|c
    ·exact hd j c
    ·have:=S.lt j i (Nat.lt_trans hj hsz) c;omega
   ·have:=lR ord j hj;simp only[h1,h2,h3,zI] at this;exact hd j this
  have bef':∀{j},j<i->(R j).k=2->j<p:=λhj hk=>(I.lo _ (Nat.lt_trans hj hi) hk).1 (bef hj hk);have same:p<=i->h=(R p).h:=λhpi=>by
   rcases I.pk with p0|⟨q',p0,kq⟩<;>rcases lh with⟨q,_,l2,l3,l4,l5⟩|⟨l1,l2⟩
   ·have:=bef' l2 l3;omega
   ·rw[l2,p0]
   ·have:=bef' l2 l3;have:¬q<q':=λc=>l4 q' c (by omega) kq;rw[l5,p0,show q=q' by omega]
   ·exact absurd kq (l1 q' (ib _) (by omega))
  by_cases hpi:p<=i
  ·exact use (λid so g=>.inl (same hpi▸g)) q
  ·rcases I.pk with p0|⟨q',p0,kq⟩
   ·omega
   ·have dq:=(I.lo q' (by have:=I.pm;omega) kq).2 (by omega);have ne:q'≠i:=λc=>nd (c▸dq);rcases ord with ord|⟨_,ord⟩
    ·obtain⟨o',h1,h2,h3⟩:=lq (by have:=I.pm;omega) kq;have:=lR ord q' (o6 (I.sub _ dq) hm);simp only[h1,h2,h3,zI,sU] at this;rcases this with c|c
     ·have:=S.lt i q' hsz c;omega
     ·exact absurd (I.cl q' i dq c) nd
    ·refine use (λid so g=>.inl (by rw[p0];exact g)) (ord q' (by omega) (I.sub _ dq) kq λl l1 l2 l3=>?_);cases c:bit ms l i with
     |false=>rfl
     |true=>exact absurd (I.cl l i ((I.lo l (by have:=I.sub _ dq;omega) l3).2 (by omega)) c) nd
 ·obtain⟨g1,g2⟩:=mk a ev;obtain⟨u,w',r1,r2,r3⟩:=g2 w;have hF:=ids f.le (R i).x (aM _) (by omega);have ns:∀id so,hG .nil id so->GD R D p m id so:=λid so h=>(pH h).elim;have E0:Ext σ (σ.add (R i).x (some (w.heap.size,0),0)):=Ren.zT (I.mem.fresh _ hF);obtain⟨dv,d⟩:=r3 _ 0 0 E0 (Ren.jK _ _ _);obtain⟨E,M⟩:=(I.mem.Ed ns).new hF r2 d;have M:=I.mem.frame ns E M;unfold wpOp;simp only[ho,g1,dW];refine .inl (rF r1 (fin I.pm I.pk (lo0 (by rw[k1];decide)) (λj h1 h2=>.inl (I.TO j h1 h2)) E dv (M.less (λid so h=>?_) λid h=>?_)))
  ·rcases h with h|⟨j,h1,h2,h3,h4,h5,h6⟩
   ·exact .inr ⟨.inl h,λ_=>pH⟩
   ·rcases h3 with h3|h3
    ·exact .inr ⟨.inr ⟨j,h1,h2,h3,h4,h5,h6⟩,λ_=>pH⟩
    ·subst h3;rw[eh,Tr.fN,ay h5] at h6;exact .inl (by simp only[hG,Tr.fN,ay h5];exact h6)
  ·have:=cut id h;rwa[ex] at this
 ·have dn:∀j,j<i->(R j).k≠0->D j:=λj hj hk=>hd j (b1 j (ib _) hj hk);have hpi:p<=i:=Nat.not_lt.1 λc=>nd ((I.lo i hi k2).2 c);have hs:=I.IA hf (Nat.le_of_lt hi) dn hpi (aM _);refine L a ev (ids f.le) (I.mem.Ed hs) K Q λσ' u w' E dv M=>?_;have M:=I.mem.frame hs E M;refine fin hi (.inr ⟨i,rfl,k2⟩) (λj hj hk=>⟨λc=>?_,λc=>?_⟩) (λj hj hk=>?_) E dv (M.less (λid so h=>?_) cut)
  ·rcases c with c|c
   ·have:=(I.lo j hj hk).1 c;omega
   ·omega
  ·rcases Nat.lt_succ_iff_lt_or_eq.1 c with c|c
   ·exact .inl (dn j c (by rw[hk];decide))
   ·exact .inr c
  ·rcases Nat.lt_succ_iff_lt_or_eq.1 hj with c|c
   ·exact .inl (dn j c (by rw[hk];decide))
   ·exact .inr c
  ·rcases h with h|⟨j,h1,h2,h3,h4,h5,h6⟩
   ·exact .inl h
   ·have h3:=h3.resolve_right (by omega);refine .inr ⟨.inr ⟨j,by omega,h2,h3,h4,h5,h6⟩,λso' c=>?_⟩;have:=dj j h1 h3 h4;rw[h5] at c;rw[show(R i).h.get (R j).x=some so' from c] at this;cases this
end
end
section
variable{β:Type} [QF]
section
variable{P:Program} {ops:Array Oper} {ms:qr Nat} {n m:Nat} (S:xg ops ms n) {B:Bs} (hn:B.n=n) {R:Nat->Rc} {tm0:Tr SV} (hm:m<=ops.size) (hf:∀i,i<m->∃o tm,Fact P ops ms 0 m tm0 (R 0).h [] R i o tm) {q:Hx SV} {gA:St} (hq:Fin P ops ms 0 ops.size m tm0 [] R q gA)
 (hb:∀i,i<=m->∀id so,(R i).h.get id=some so->id<(R i).x)
include S hn hm hf hq hb
theorem Tn{Q:Exit->Act->jp->Prop}(ps:uT B q gA Q):∀(l:qr Nat){D:Nat->Prop}{p:Nat}{σ:Ren}{a:Act}{w:jp},rL ops.size (λi j=>bit ms i j=true) D l->Iv B ops ms R m tm0 D p σ a w->wpOps P ops Q l a w
 |[],D,p,σ,a,w,L,I=>by
  have L:∀i,i<ops.size->D i:=L;cases q with
  |none=>
   obtain⟨h1,h2,h3,h4⟩:=hq;refine ps σ a w ⟨I.size,I.dX,λt sv h=>?_,I.mem.less (λid so h=>?_) λid h=>⟨fH (qO hf (ib _) (aM _)) (by rw[<-h3];exact h),λj hj _=>.inr (fH (qO hf hj (aM _)) (by rw[<-h3];exact h))⟩⟩
   ·rcases h4 t sv h with⟨j,_,c1,c2,rfl⟩|⟨c1,c2⟩
    ·exact I.val j t (L j (by omega)) c2
    ·exact I.rest t sv (λj dj=>c1 j (ib _) (I.sub j dj)) c2
   ·rw[h2] at h;exact I.IA hf (aM _) (λj hj _=>L j (by omega)) I.pm (aM _) id so h
  |some sv=>obtain⟨o,tm,h1,h2,_⟩:=hq;exact absurd (I.sub m (L m h2)) (Nat.lt_irrefl _)
 |i::l,D,p,σ,a,w,L,I=>by
  obtain⟨hi,nd,hd,L⟩:=L;have hd:∀j,bit ms i j=true->D j:=hd;rw[wpOps_cons];rcases Nat.lt_trichotomy i m with c|c|c
  ·refine I.step S hn hm hf c nd hd (λj hj dj _=>?_) λp' σ' a' w' I'=>Tn ps l L I';cases h:(R i).h.get (R j).x with
   |none=>rfl
   |some so=>have:=hb i (Nat.le_of_lt c) _ _ h;have:=qO hf (Nat.le_of_lt hj) (Nat.le_of_lt (I.sub j dj));omega
  ·subst c;cases q with
   |none=>obtain⟨h1,_⟩:=hq;omega
   |some sv=>obtain⟨o,tm,ho,_,pr,on,L,hx,_,b1,_,_,_,tl⟩:=hq;have hs:=I.IA hf (aM _) (λj hj hk=>hd j (b1 j (ib _) hj hk)) I.pm (aM _);have lo:∀id,(R i).x<=id->∀j,j<i->D j->id<(R j).x\/(R (j+1)).x<=id:=λid h j hj _=>.inr (fH (qO hf hj (aM _)) h);have z:=qO hf (ib i) (aM _);refine L a (I.ev S hm ho nd hd pr on) (λid h _=>⟨fH z h,lo id h⟩) (I.mem.Ed hs) _ Q λσ' u w' E dv M=>?_;refine ps σ' a w' ⟨I.size,I.dX,λt sv h=>?_,(I.mem.frame hs E M).less (λid so h=>.inl h) λid h=>⟨⟨by omega,lo id (fH hx h)⟩,λq=>by omega⟩⟩ u dv;obtain⟨c1,c2⟩:=tl t sv h;refine(I.rest t sv (λj dj c=>?_) c2).mono E;obtain⟨o',e1,e2⟩:=Option.bind_eq_some_iff.1 c;exact c1 o' (Array.mem_toList_iff.2 (Array.mem_of_getElem? e1)) e2
  ·cases q with
   |none=>obtain⟨h1,_⟩:=hq;omega
   |some sv=>obtain⟨o,tm,_,_,_,_,_,_,tl,_⟩:=hq;have:=lR tl i hi;rw[show Nat.ble i m=false from Bool.eq_false_iff.2 λh=>by have:=ed h;omega,aD] at this;exact absurd (I.sub m (hd m this)) (Nat.lt_irrefl _)
end
theorem Q5{P:Program}{X:eL}(OK:iR P X){pt:FuncId->Hx (cH β)}(PT:nw P pt){ops:Array Oper}{ms:qr Nat}{n:Nat}(S:xg ops ms n){st:St}{K:Hx SV->St->Hx β}{b:β}(e:py X pt ops ms ops.toList 0 st st.h [] [] K=some b):
 ∃q st',K q st'=some b/\∀{B:Bs}{σ:Ren}{a:Act}{w:jp},B.n=n->dH B σ st a w->∀Q,uT B q st' Q->∀l,rL ops.size (λi j=>bit ms i j=true) (λ_=>False) l->wpOps P ops Q l a {w with drawn:=w.drawn+1}:=by
 obtain⟨R,m,q,gA,h1,_,hm,h4,h5,hf,_,hq⟩:=xz OK PT ops.toList 0 (λi o h=>by simpa using h) (by simp) st st.h [] [] K b e λ_ h=>by cases h
 rw[<-h4] at hf;refine⟨q,gA,h1,λ{B σ a w} hn r Q ps l hl=>?_⟩;have hf:∀i,i<m->∃o tm,Fact P ops ms 0 m st.tm (R 0).h [] R i o tm:=λi hi=>hf i (ib _) hi;have I0:Iv B ops ms R m st.tm (λ_=>False) 0 σ a {w with drawn:=w.drawn+1}:=
  ⟨ib _,.inl rfl,λj _ _=>⟨False.elim,λh=>by omega⟩,λj h=>by omega,λj h=>h.elim,λj l h=>h.elim,r.size,r.dX,
   (r.mem.same (w':={w with drawn:=w.drawn+1}) ⟨rfl,rfl,rfl,aM _,λ_ _ _=>rfl⟩).less (G':=GD R (λ_=>False) 0 m) (F':=FD R (λ_=>False) m) (λid so h=>by
    rcases h with h|⟨j,_,_,h,_⟩
    ·rw[h4] at h;exact h
    ·exact h.elim) λid h=>by have:=h.1;rw[h5] at this;exact this,λj t h=>h.elim,λt sv _ h=>r.ev t sv h⟩
 have seq:∀i,i<=m->∃p σ a w,Iv B ops ms R m st.tm (λj=>j<i) p σ a w:=by
  intro i;induction i with
  |zero=>exactλ_=>⟨_,_,_,_,by simpa using I0⟩
  |succ i ih=>intro hi;obtain⟨p,σ,a,w,I⟩:=ih (Nat.le_of_lt hi);refine aml (I.step S hn hm hf hi (Nat.lt_irrefl _) (λj h=>S.lt i j (o6 hi hm) h) (λj h1 h2=>by omega) λp' σ' a' w' I'=>⟨p',σ',a',w',?_⟩);have:(λx=>x<i\/x=i)=λx=>x<i+1:=funext λx=>propext (by omega);rwa[this] at I'
 refine Tn S hn hm hf hq (λi hi id so h=>Nat.not_le.1 λc=>?_) ps _ hl I0;obtain⟨p,σ,a,w,I⟩:=seq i hi;have hd:=I.mem.obj id so (I.IA hf hi (λj hj _=>hj) (Nat.not_lt.1 λc=>by
  rcases I.pk with q|⟨q,q1,q2⟩
  ·omega
  ·have:=(I.lo q (by have:=I.pm;omega) q2).2 (by omega);omega) (aM _) id so h)
 have:=I.mem.fresh id ⟨fH (qO hf (ib _) hi) c,λj _ hj=>.inr (fH (qO hf hj hi) c)⟩;rcases hd.nm with k|⟨_,_,k,_⟩<;>rw[this] at k<;>cases k
theorem aaz{P:Program}{X:eL}(OK:iR P X){pt:FuncId->Hx (cH β)}(PT:nw P pt)(mx:P.follows .mixedOrders=true){ops:Array Oper}{n id:Nat}(hs:stat ops (pF ops.toList []) n=true){st:St}{K:Hx SV->St->Hx β}{b:β}(e:py X pt ops (pF ops.toList []) ops.toList 0 st st.h [] [] K=some b):
 ∃q st',K q st'=some b/\∀{B:Bs}{σ:Ren}{a:Act}{w:jp},B.n=n->dH B σ st a w->∀Q,uT B q st' Q->(Code.region id ops true).wp P Q a w:=by
 obtain⟨q,st',h,g⟩:=Q5 OK PT (alQ hs) e;exact⟨q,st',h,λhn r Q ps=>wp_region_draw λt=>g hn r Q ps _ (To mx (YK hs) t)⟩
def abY(ops:Array Oper)(i:Nat):Bool:=match ops[i]? with
 |some o=>sa o.op
 |none=>false
def AX(i:Nat):qr Nat->Bool
 |[]=>false
 |x::l=>cond (Nat.beq i x) true (AX i l)
def SU(ops:Array Oper)(i:Nat):Bool:=match ops[i]? with
 |some o=>qw o.op
 |none=>false
def Lk(ms:qr Nat)(i:Nat)(acc:qr Nat):Nat->Bool
 |0=>true
 |n+1=>cond (bit ms i n) (cond (AX n acc) (Lk ms i acc n) false) (Lk ms i acc n)
def VP(ops:Array Oper)(ms:qr Nat)(acc:qr Nat):Nat->qr Nat
 |0=>acc
 |n+1=>(λa=>cond (SU ops n&&!AX n a&&Lk ms n a n) (a++[n]) a) (VP ops ms acc n)
def Qp(ms:qr Nat)(i:Nat)(acc:qr Nat):Nat->qr Nat
 |0=>acc
 |n+1=>(λa=>cond (bit ms i n&&!AX n a) (a++[n]) a) (Qp ms i acc n)
def Vm(ops:Array Oper)(ms:qr Nat):Nat->qr Nat
 |0=>[]
 |n+1=>(λa=>cond (abY ops n||SU ops n) a (Qp ms n (VP ops ms a ops.size) n++[n])) (Vm ops ms n)
def Ws(acc:qr Nat):Nat->qr Nat
 |0=>acc
 |n+1=>(λa=>cond (AX n a) a (a++[n])) (Ws acc n)
def yd(ops:Array Oper)(ms:qr Nat):qr Nat:=Ws (Vm ops ms ops.size) ops.size
def rZ(i:Nat):qr Nat->Nat
 |[]=>0
 |x::l=>cond (Nat.beq i x) 0 (rZ i l+1)
def qs(ops:Array Oper)(ps:qr Nat):Array Oper:=(ps.map λi=>ops.getD i default).toArray
def Mo(ms ps:qr Nat)(i:Nat):Nat->Nat
 |0=>0
 |n+1=>cond (bit ms i (ps.getD n 0)) (Nat.lor (Nat.shiftLeft 1 n) (Mo ms ps i n)) (Mo ms ps i n)
def Mq(ms ps:qr Nat):Nat->qr Nat
 |0=>[]
 |n+1=>Mq ms ps n++[Mo ms ps (ps.getD n 0) n]
def YJ(ops ops':Array Oper)(ms ms' ps:qr Nat)(n:Nat):Bool:=
 cond (jx ops.size λi=>(pA ops i).all λb=>Nat.blt b i)
  (cond (Nat.beq ps.length ops.size)
   (cond (jx ops.size λi=>cond (Nat.blt (ps.getD i 0) ops.size) (cond (Nat.blt (rZ i ps) ops.size) (cond (Nat.beq (ps.getD (rZ i ps) 0) i) (Nat.beq (rZ (ps.getD i 0) ps) i) false) false) false)
    (cond (jx ops.size λi=>match(ops.getD i default).guard with
     |none=>true
     |some _=>false)
     (cond (jx ops.size λi=>cond (Nat.blt (ms'.getD i 0) (Nat.pow 2 i)) (jx ops.size λj=>cond (bit ms' i j) (bit ms (ps.getD i 0) (ps.getD j 0)) true) false)
      (YI ops' ms' n) false) false) false) false) false
theorem Vv{N:Nat}{A A':Nat->Nat->Prop}{p q:Nat->Nat}(hp:∀i,i<N->p i<N)(hq:∀i,i<N->q i<N)(pq:∀i,i<N->p (q i)=i)(qp:∀i,i<N->q (p i)=i)(lt:∀i j,i<N->A' i j->j<N)(hA:∀i j,i<N->j<N->A' i j->A (p i) (p j)):∀(l:qr Nat)(D D':Nat->Prop),(∀x,x<N->(D' x↔D (p x)))->rL N A D l->rL N A' D' (l.map q)
 |[],D,D',h,L=>λi hi=>(h i hi).2 (L _ (hp i hi))
 |i::l,D,D',h,⟨hi,nd,hd,L⟩=>by
  refine⟨hq i hi,λc=>nd ?_,λj hj=>?_,Vv hp hq pq qp lt hA l _ _ (λx hx=>?_) L⟩
  ·have:=(h _ (hq i hi)).1 c;rwa[pq i hi] at this
  ·have lj:=lt _ _ (hq i hi) hj;have:=hA _ _ (hq i hi) lj hj;rw[pq i hi] at this;exact(h j lj).2 (hd _ this)
  ·rw[h x hx];refine or_congr Iff.rfl ⟨λe=>?_,λe=>?_⟩
   ·rw[e,pq i hi]
   ·rw[<-e,qp x hx]
theorem Tm{N:Nat}{A:Nat->Nat->Prop}:∀{l:qr Nat}{D:Nat->Prop},rL N A D l->∀i∈l,i<N
 |j::l,D,⟨hj,_,_,L⟩,i,h=>by
  rcases cZ.1 h with rfl|h
  ·exact hj
  ·exact Tm L i h
theorem Vw{P:Program}{ops ops':Array Oper}{Q:Exit->Act->jp->Prop}{q:Nat->Nat}(H:∀i,i<ops.size->ops'[q i]? =ops[i]?)(ng:∀(i:Nat)(o:Oper),ops[i]? =some o->o.guard=none):∀(l:qr Nat),(∀i∈l,i<ops.size)->wpOps P ops Q l=wpOps P ops' Q (l.map q)
 |[],_=>rfl
 |i::l,h=>by
  have ih:=Vw (P:=P) (Q:=Q) H ng l λj hj=>h j (mE _ hj)
  funext a w
  rw[iw,wpOps_cons,wpOps_cons,<-ih];unfold wpOp;rw[H i (h i nY)];cases ho:ops[i]? with
  |none=>rfl
  |some o=>simp only[Region.wanted,ng i o ho]
theorem aay{P:Program}{X:eL}(OK:iR P X){pt:FuncId->Hx (cH β)}(PT:nw P pt)(mx:P.follows .mixedOrders=true){ops:Array Oper}{ms' ps:qr Nat}{n id:Nat}(hs:YJ ops (qs ops ps) (pF ops.toList []) ms' ps n=true){st:St}{K:Hx SV->St->Hx β}{b:β}(e:py X pt (qs ops ps) ms' (qs ops ps).toList 0 st st.h [] [] K=some b):
 ∃q st',K q st'=some b/\∀{B:Bs}{σ:Ren}{a:Act}{w:jp},B.n=n->dH B σ st a w->∀Q,uT B q st' Q->(Code.region id ops true).wp P Q a w:=by
 obtain⟨h1,hs⟩:=nD hs;obtain⟨h2,hs⟩:=nD hs;obtain⟨h3,hs⟩:=nD hs;obtain⟨h4,hs⟩:=nD hs;obtain⟨h5,hs⟩:=nD hs;have B:Ac ops:=λi hi b hb=>fb (iv.1 (lR h1 i hi) b hb);have hl:ps.length=ops.size:=bX h2;have hz:(qs ops ps).size=ops.size:=by simp[qs,hl]
 have pr:∀i,i<ops.size->ps.getD i 0<ops.size/\rZ i ps<ops.size/\ps.getD (rZ i ps) 0=i/\rZ (ps.getD i 0) ps=i:=λi hi=>by obtain⟨a,h⟩:=nD (lR h3 i hi);obtain⟨b,h⟩:=nD h;obtain⟨c,d⟩:=nD h;exact⟨fb a,fb b,bX c,bX d⟩
 have mt:∀i j,i<ops.size->bit ms' i j=true->j<i:=λi j hi h=>by have:=fb (nD (lR h5 i hi)).1;refine Nat.not_le.1 λc=>?_;have:=Nat.testBit_lt_two_pow (o6 this (Nat.pow_le_pow_right (by omega) c));unfold bit at h;rw[this] at h;cases h
 have mi:∀i j,i<ops.size->j<ops.size->bit ms' i j=true->bit (pF ops.toList []) (ps.getD i 0) (ps.getD j 0)=true:=λi j hi hj h=>by have:=lR (nD (lR h5 i hi)).2 j hj;rwa[h] at this
 have S:xg (qs ops ps) ms' n:=YG (λi j hi h=>mt i j (by rwa[hz] at hi) h) hs;obtain⟨q,st',h,g⟩:=Q5 OK PT S e;refine⟨q,st',h,λhn r Q k=>wp_region_draw λt=>?_⟩;have L:=To mx B t;rw[Vw (q:=λi=>rZ i ps) (ops':=qs ops ps) (λi hi=>?_) (λi o ho=>?_) _ (Tm L)]
 ·refine g hn r Q k _ ?_;rw[hz];exact Vv (p:=λi=>ps.getD i 0) (λi hi=>(pr i hi).1) (λi hi=>(pr i hi).2.1) (λi hi=>(pr i hi).2.2.1) (λi hi=>(pr i hi).2.2.2) (λi j hi h=>Nat.lt_trans (mt i j hi h) hi) (λi j hi hj h=>mi i j hi hj h) _ _ _ (λ_ _=>Iff.rfl) L
 ·obtain⟨_,a,b,_⟩:=pr i hi;rw[wS,cG (by omega)] at b;simp only[qs,List.getElem?_toArray,List.getElem?_map];rw[cG (by omega),rJ,show ps[rZ i ps]=i from b];simp[hi]
 ·have hi:=(fy.1 ho).1;have:=lR h4 i hi;have e0:ops.getD i default=o:=by simp[qD,ho]
  simp only[e0] at this;cases hg:o.guard with
  |none=>rfl
  |some x=>rw[hg] at this;cases this
noncomputable def Q6(p:Bool)(X:eL)(pt:FuncId->Hx (cH β))(n:Nat)(ops:Array Oper)(ms:qr Nat)(st:St)(K:Hx SV->St->Hx β):Hx β:=
 cond p (cond (YJ ops (qs ops (yd ops ms)) ms (Mq ms (yd ops ms) ops.size) (yd ops ms) n) (py X pt (qs ops (yd ops ms)) (Mq ms (yd ops ms) ops.size) (qs ops (yd ops ms)).toList 0 st st.h [] [] K) (bJ 70))
  (cond (stat ops ms n) (py X pt ops ms ops.toList 0 st st.h [] [] K) (bJ 70))
theorem aaE{P:Program}{X:eL}(OK:iR P X){pt:FuncId->Hx (cH β)}(PT:nw P pt)(mx:P.follows .mixedOrders=true){p:Bool}{ops:Array Oper}{n id:Nat}{st:St}{K:Hx SV->St->Hx β}{b:β}(e:Q6 p X pt n ops (pF ops.toList []) st K=some b):
 ∃q st',K q st'=some b/\∀{B:Bs}{σ:Ren}{a:Act}{w:jp},B.n=n->dH B σ st a w->∀Q,uT B q st' Q->(Code.region id ops true).wp P Q a w:=by
 cases p with
 |true=>obtain⟨hs,e⟩:=bd e;exact aay OK PT mx hs e
 |false=>obtain⟨hs,e⟩:=bd e;exact aaz OK PT mx hs e
end
section
variable{β:Type}
inductive LK where
 |i|b|s|v|c|n
inductive bt where
 |i (x:Int)|b (x:Bool)|s (x:ByteArray)|v (x:Value)|c (x:List Value)|n (x:Nat)
def Fn:qr LK->Type->Type
 |[],α=>α
 | .i::ks,α=>Int->Fn ks α
 | .b::ks,α=>Bool->Fn ks α
 | .s::ks,α=>ByteArray->Fn ks α
 | .v::ks,α=>H1->Fn ks α
 | .c::ks,α=>qr H1->Fn ks α
 | .n::ks,α=>Nat->Fn ks α
def iM:(ks:qr LK)->Fn ks (Hx β)->qr bt->Hx β
 |[],f,[]=>f
 | .i::ks,f,.i x::ls=>iM ks (f x) ls
 | .b::ks,f,.b x::ls=>iM ks (f x) ls
 | .s::ks,f,.s x::ls=>iM ks (f x) ls
 | .v::ks,f,.v x::ls=>iM ks (f x) ls
 | .c::ks,f,.c x::ls=>iM ks (f x) ls
 | .n::ks,f,.n x::ls=>iM ks (f x) ls
 |_,_,_=>none
def lX:(ks:qr LK)->(qr bt->Hx β)->Fn ks (Hx β)
 |[],F=>F []
 | .i::ks,F=>λx=>lX ks λls=>F (.i x::ls)
 | .b::ks,F=>λx=>lX ks λls=>F (.b x::ls)
 | .s::ks,F=>λx=>lX ks λls=>F (.s x::ls)
 | .v::ks,F=>λx=>lX ks λls=>F (.v x::ls)
 | .c::ks,F=>λx=>lX ks λls=>F (.c x::ls)
 | .n::ks,F=>λx=>lX ks λls=>F (.n x::ls)
def iZ:(ks:qr LK)->Fn ks (Hx β)
 |[]=>(none:Hx β)
 | .i::ks=>λ_=>iZ ks
 | .b::ks=>λ_=>iZ ks
 | .s::ks=>λ_=>iZ ks
 | .v::ks=>λ_=>iZ ks
 | .c::ks=>λ_=>iZ ks
 | .n::ks=>λ_=>iZ ks
theorem nB:∀(ks:qr LK)(F:qr bt->Hx β)(ls:qr bt)(b:β),iM ks (lX ks F) ls=some b->F ls=some b
 |[],F,[],b,e=>e
 |[],F,_::_,b,e=>by cases e
 | .i::ks,F,.i x::ls,b,e=>nB ks (λls=>F (.i x::ls)) ls b e
 | .b::ks,F,.b x::ls,b,e=>nB ks (λls=>F (.b x::ls)) ls b e
 | .s::ks,F,.s x::ls,b,e=>nB ks (λls=>F (.s x::ls)) ls b e
 | .v::ks,F,.v x::ls,b,e=>nB ks (λls=>F (.v x::ls)) ls b e
 | .c::ks,F,.c x::ls,b,e=>nB ks (λls=>F (.c x::ls)) ls b e
 | .n::ks,F,.n x::ls,b,e=>nB ks (λls=>F (.n x::ls)) ls b e
 |k::ks,F,[],b,e=>by cases k<;>cases e
 | .i::ks,F,.b _::_,b,e| .i::ks,F,.s _::_,b,e| .i::ks,F,.v _::_,b,e| .i::ks,F,.c _::_,b,e| .i::ks,F,.n _::_,b,e=>by cases e
 | .b::ks,F,.i _::_,b,e| .b::ks,F,.s _::_,b,e| .b::ks,F,.v _::_,b,e| .b::ks,F,.c _::_,b,e| .b::ks,F,.n _::_,b,e=>by cases e
 | .s::ks,F,.i _::_,b,e| .s::ks,F,.b _::_,b,e| .s::ks,F,.v _::_,b,e| .s::ks,F,.c _::_,b,e| .s::ks,F,.n _::_,b,e=>by cases e
 | .v::ks,F,.i _::_,b,e| .v::ks,F,.b _::_,b,e| .v::ks,F,.s _::_,b,e| .v::ks,F,.c _::_,b,e| .v::ks,F,.n _::_,b,e=>by cases e
 | .c::ks,F,.i _::_,b,e| .c::ks,F,.b _::_,b,e| .c::ks,F,.s _::_,b,e| .c::ks,F,.v _::_,b,e| .c::ks,F,.n _::_,b,e=>by cases e
 | .n::ks,F,.i _::_,b,e| .n::ks,F,.b _::_,b,e| .n::ks,F,.s _::_,b,e| .n::ks,F,.v _::_,b,e| .n::ks,F,.c _::_,b,e=>by cases e
theorem zX:∀(ks:qr LK)(ls:qr bt)(b:β),iM ks (iZ ks) ls=some b->False
 |[],[],b,e=>by cases e
 |[],_::_,b,e=>by cases e
 |k::ks,[],b,e=>by cases k<;>cases e
 |k::ks,l::ls,b,e=>by cases k<;>cases l<;>first|exact zX ks ls b e|cases e
inductive VT where
 |i (k:IntKind)|b|s|v
 |agg (l:List VT)|aG (l:List VT)
 |fn (f:FuncId) (l:List VT)
 |lp (l:List VT)
 |pE
 |fO (t:TypeId) (x:VT)
 |em (b:Bool)
 |ptr (id off:Nat)|sl (id off:Nat)|CN (id:Nat)|gr (id E:Nat)
 |wF (id off n c:Nat)
 |nf
inductive OT where
 |cells (l:List VT) (t:TypeId)
 |arr (t:TypeId)
 |grow (E:Nat) (t:TypeId)
structure cQ where
 Ir:List (Nat×VT)
 qo:List (Nat×OT)
 sx:Nat
mutual
def VT.ks:VT->qr LK
 | .i _=>[.i]
 | .b=>[.b]
 | .s=>[.s]
 | .v=>[.v]
 | .agg l=>VT.fw l
 | .aG l=>VT.fw l
 | .fn _ l=>VT.fw l
 | .fO _ x=>VT.ks x
 | .em _=>[]
 | .lp l=>VT.fw l
 | .pE=>[.c]
 | .ptr _ _=>[]
 | .sl _ _=>[.n,.n]
 | .CN _=>[.n,.n,.n]
 | .gr _ _=>[]
 | .wF _ _ _ _=>[]
 | .nf=>[]
def VT.fw:qr VT->qr LK
 |[]=>[]
 |x::xs=>VT.ks x++VT.fw xs
end
def OT.ks:OT->qr LK
 | .cells l _=>VT.fw l
 | .arr _=>[.c]
 | .grow _ _=>[.c]
def cQ.ks(t:cQ):qr LK:=VT.fw (t.Ir.map (·.2))++(t.qo.map λo=>o.2.ks).flatten
def qP:qr VT->Bool
 |[]=>true
 | .i _::l=>qP l
 | .b::l=>qP l
 | .s::l=>qP l
 | .v::l=>qP l
 |_=>false
abbrev Mp:=qr (Nat×Hx Nat)
def ef(id:Nat):Mp->Hx (Hx Nat)
 |[]=>none
 |(j,x)::m=>cond (Nat.beq j id) (some x) (ef id m)
def taken(a:Nat):Mp->Bool
 |[]=>false
 |(_,some x)::m=>cond (Nat.beq x a) true (taken a m)
 |(_,none)::m=>taken a m
def te(id:Nat)(x:Hx Nat)(m:Mp)(K:Mp->Hx β):Hx β:=match ef id m with
 |some y=>match x,y with
  |some a,some a'=>cond (Nat.beq a a') (K m) none
  |none,none=>K m
  |_,_=>none
 |none=>match x with
  |some a=>cond (taken a m) none (K ((id,some a)::m))
  |none=>K ((id,none)::m)
mutual
def Aw:VT->SV->Mp->(qr bt->Mp->Hx β)->Hx β
 | .i k,.i k' n,m,K=>cond (decide (k=k')) (K [.i n] m) none
 | .b,.b x,m,K=>K [.b x] m
 | .s,.s x,m,K=>K [.s x] m
 | .v,.v x,m,K=>K [.v x] m
 | .v,.nl,m,K=>K [.v (ae 0 [])] m
 | .v,.ni,m,K=>K [.v .nilIface] m
 | .agg ts,.agg l,m,K=>vo ts l m K
 | .aG ts,.aG l,m,K=>vo ts l m K
 | .fn f ts,.fn f' l,m,K=>cond (Nat.beq f f') (vo ts l m K) none
 | .fO t vt,.fO t' x,m,K=>cond (Nat.beq t t') (Aw vt x m K) none
 | .em true,.em true,m,K=>K [] m
 | .em false,.em false,m,K=>K [] m
 | .pE,.lp cs,m,K=>K [.c cs] m
 | .ptr id off,.ptr id' off',m,K=>cond (Nat.beq off off') (te id (some id') m λm'=>K [] m') none
 | .sl id off,.sl id' off' n c,m,K=>cond (Nat.beq off off') (te id (some id') m λm'=>K [.n n,.n c] m') none
 | .CN id,.sl id' off n c,m,K=>te id (some id') m λm'=>K [.n off,.n n,.n c] m'
 | .gr id E,.gr id' E',m,K=>cond (Nat.beq E E') (te id (some id') m λm'=>K [] m') none
 | .gr id _,.nl,m,K=>te id none m λm'=>K [] m'
 | .wF id off n0 c0,.sl id' off' n c,m,K=>cond (Nat.beq off off'&&(Nat.beq n0 n&&Nat.beq c0 c)) (te id (some id') m λm'=>K [] m') none
 | .nf,.v .nilFunc,m,K=>K [] m
 |_,_,_,_=>none
def vo:qr VT->qr SV->Mp->(qr bt->Mp->Hx β)->Hx β
 |[],[],m,K=>K [] m
 |t::ts,x::xs,m,K=>Aw t x m λl1 m1=>vo ts xs m1 λl2 m2=>K (l1++l2) m2
 |_,_,_,_=>none
end
mutual
def tS:VT->qr bt->Hx (SV×qr bt)
 | .i k,.i n::ls=>some (.i k n,ls)
 | .b,.b x::ls=>some (.b x,ls)
 | .s,.s x::ls=>some (.s x,ls)
 | .v,.v x::ls=>some (.v x,ls)
 | .agg ts,ls=>ob (se ts ls) λr=>some (.agg r.1,r.2)
 | .aG ts,ls=>ob (se ts ls) λr=>some (.aG r.1,r.2)
 | .fn f ts,ls=>ob (se ts ls) λr=>some (.fn f r.1,r.2)
 | .fO t vt,ls=>ob (tS vt ls) λr=>some (.fO t r.1,r.2)
 | .em b,ls=>some (.em b,ls)
 | .pE,.c cs::ls=>some (.lp cs,ls)
 | .ptr id off,ls=>some (.ptr id off,ls)
 | .sl id off,.n n::.n c::ls=>some (.sl id off n c,ls)
 | .CN id,.n off::.n n::.n c::ls=>some (.sl id off n c,ls)
 | .gr id E,ls=>some (.gr id E,ls)
 | .wF id off n c,ls=>some (.sl id off n c,ls)
 | .nf,ls=>some (.v .nilFunc,ls)
 |_,_=>none
def se:qr VT->qr bt->Hx (qr SV×qr bt)
 |[],ls=>some ([],ls)
 |t::ts,ls=>ob (tS t ls) λr=>ob (se ts r.2) λq=>some (r.1 ::q.1,q.2)
end
def Kg:qr (Nat×VT)->Tr SV->Mp->(qr bt->Mp->Hx β)->Hx β
 |[],_,m,K=>K [] m
 |(t,vt)::r,tm,m,K=>ob (tm.get t) λsv=>Aw vt sv m λl1 m1=>Kg r tm m1 λl2 m2=>K (l1++l2) m2
def Ke:Nat->OT->Tr SO->Mp->(qr bt->Mp->Hx β)->Hx β
 |id,.cells ts t,h,m,K=>ob (ef id m) λx=>ob x λa=>ob (h.get a) λso=>match so with
  | .cells l t'=>cond (Nat.beq t t') (vo ts l m K) none
  |_=>none
 |id,.arr t,h,m,K=>ob (ef id m) λx=>ob x λa=>ob (h.get a) λso=>match so with
  | .arr c t'=>cond (Nat.beq t t') (K [.c c] m) none
  |_=>none
 |id,.grow E t,h,m,K=>ob (ef id m) λx=>match x with
  |none=>cond (Nat.blt 0 E) (K [.c []] m) none
  |some a=>ob (h.get a) λso=>match so with
   | .grow E' c t'=>cond (Nat.beq E E'&&Nat.beq t t') (K [.c c] m) none
   |_=>none
def Kf:qr (Nat×OT)->Tr SO->Mp->(qr bt->Mp->Hx β)->Hx β
 |[],_,m,K=>K [] m
 |(id,ot)::r,h,m,K=>Ke id ot h m λl1 m1=>Kf r h m1 λl2 m2=>K (l1++l2) m2
def AY:qr (Nat×VT)->qr bt->Hx (Tr SV×qr bt)
 |[],ls=>some (.nil,ls)
 |(t,vt)::r,ls=>ob (tS vt ls) λq=>ob (AY r q.2) λp=>some (p.1.set t q.1,p.2)
def TL:OT->qr bt->Hx (SO×qr bt)
 | .cells ts t,ls=>ob (se ts ls) λq=>some (.cells q.1 t,q.2)
 | .arr t,.c c::ls=>some (.arr c t,ls)
 | .grow E t,.c c::ls=>some (.grow E c t,ls)
 |_,_=>none
def xS:qr (Nat×OT)->qr bt->Hx (Tr SO×qr bt)
 |[],ls=>some (.nil,ls)
 |(id,ot)::r,ls=>ob (TL ot ls) λq=>ob (xS r q.2) λp=>some (p.1.set id q.1,p.2)
def kE:Nat->Mp
 |0=>[]
 |n+1=>(n,some n)::kE n
def vm(m0:Mp)(t:cQ)(st:St)(K:qr bt->Mp->Hx β):Hx β:=
 Kg t.Ir st.tm m0 λl1 m1=>Kf t.qo st.h m1 λl2 m2=>cond (m2.all λp=>Nat.blt p.1 t.sx) (K (l1++l2) m2) none
def kZ(an:Nat)(t:cQ)(st:St)(K:qr bt->Hx β):Hx β:=vm (kE an) t st λls _=>K ls
def iE(t:cQ)(ls:qr bt):Hx St:=
 ob (AY t.Ir ls) λp=>ob (xS t.qo p.2) λq=>some ⟨p.1,q.1,t.sx⟩
def fu(m m':Mp):Prop:=∀id x,ef id m=some x->ef id m'=some x
def lJ(m:Mp):Prop:=∀id id' a,ef id m=some (some a)->ef id' m=some (some a)->id=id'
theorem fu.refl(m:Mp):fu m m:=λ_ _ h=>h
theorem fu.trans{a b c:Mp}(h:fu a b)(k:fu b c):fu a c:=λi x e=>k i x (h i x e)
theorem YV{a:Nat}:∀{m:Mp}{id:Nat},ef id m=some (some a)->taken a m=true
 |[],id,h=>by cases h
 |(j,x)::m,id,h=>by
  unfold ef at h;cases hb:Nat.beq j id with
  |true=>rw[hb] at h;cases h;unfold taken;simp
  |false=>
   rw[hb] at h;have:=YV h;cases x with
   |none=>exact this
   |some y=>
    unfold taken;cases hy:Nat.beq y a with
    |true=>rfl
    |false=>grind
theorem qV{id j:Nat}{x:Hx Nat}{m:Mp}:ef id ((j,x)::m)=if j=id then some x else ef id m:=by show cond (Nat.beq j id) (some x) (ef id m)=_;simp
theorem xh{id:Nat}{x:Hx Nat}{m:Mp}{K:Mp->Hx β}{b:β}(e:te id x m K=some b):
 ∃m',K m'=some b/\fu m m'/\ef id m'=some x/\(lJ m->lJ m'):=by
 unfold te at e;split at e
 ·rename_i y hy;split at e
  ·rename_i a a';obtain⟨e1,f⟩:=bd e;have:=bX e1;subst this;exact⟨m,f,fu.refl m,hy,λI=>I⟩
  ·exact⟨m,e,fu.refl m,hy,λI=>I⟩
  grind
 ·rename_i hn;have sub:∀x,fu m ((id,x)::m):=λx j y h=>by
   rw[qV]
   grind
  split at e
  ·rename_i a;cases ht:taken a m with
   |true=>grind
   |false=>
    rw[ht] at e;refine⟨_,e,sub _,by rw[qV,ay rfl],λI i j c h1 h2=>?_⟩;rw[qV] at h1 h2;have no:∀k,ef k m=some (some a)->False:=λk hk=>by rw[YV hk] at ht;cases ht
    by_cases q:id=i
    ·grind
    ·rw[aq q] at h1;by_cases q2:id=j
     ·grind
     ·rw[aq q2] at h2;exact I i j c h1 h2
  ·refine⟨_,e,sub _,by rw[qV,ay rfl],λI i j c h1 h2=>?_⟩;rw[qV] at h1 h2;by_cases q:id=i
   ·grind
   ·rw[aq q] at h1;by_cases q2:id=j
    ·grind
    ·rw[aq q2] at h2;exact I i j c h1 h2
def σm(σ:Ren)(M:Mp):Ren:=⟨λid=>match ef id M with
 |some (some a)=>σ.nm a
 |some none=>some (none,0)
 |none=>none,σ.lit⟩
theorem σm_some{σ:Ren}{M:Mp}{id a:Nat}(h:ef id M=some (some a)):(σm σ M).nm id=σ.nm a:=by simp only[σm,h]
theorem σm_none{σ:Ren}{M:Mp}{id:Nat}(h:ef id M=some none):(σm σ M).nm id=some (none,0):=by simp only[σm,h]
mutual
theorem Kh:∀(vt:VT)(sv:SV)(m:Mp)(K:qr bt->Mp->Hx β)(b:β),Aw vt sv m K=some b->
 ∃ls m',K ls m'=some b/\fu m m'/\(lJ m->lJ m')/\∀rest,∃sv',tS vt (ls++rest)=some (sv',rest)/\∀(σ:Ren)(M:Mp)(v:H1),fu m' M->DV σ sv v->DV (σm σ M) sv' v:=by
 intro vt sv m K b e;unfold Aw at e;split at e
 ·obtain⟨e1,f⟩:=bd e;have:=oh e1;subst this;exact⟨_,_,f,fu.refl _,id,λrest=>⟨_,rfl,λσ M v _ d=>by cases d;exact .i _ _⟩⟩
 ·exact⟨_,_,e,fu.refl _,id,λrest=>⟨_,rfl,λσ M v _ d=>by cases d;exact .b _⟩⟩
 ·exact⟨_,_,e,fu.refl _,id,λrest=>⟨_,rfl,λσ M v _ d=>by cases d;exact .s _⟩⟩
 ·refine⟨_,_,e,fu.refl _,id,λrest=>⟨_,rfl,λσ M v _ d=>?_⟩⟩;cases d with
  |v h h1=>exact .v h h1
 ·exact⟨_,_,e,fu.refl _,id,λrest=>⟨_,rfl,λσ M v _ d=>by cases d;exact .v .gy rfl⟩⟩
 ·exact⟨_,_,e,fu.refl _,id,λrest=>⟨_,rfl,λσ M v _ d=>by cases d;exact .v .nilIface rfl⟩⟩
 ·rename_i ts l;obtain⟨ls,m',h1,h2,h3,h4⟩:=Ax ts l m K b e;refine⟨ls,m',h1,h2,h3,λrest=>?_⟩;obtain⟨svs,g1,g2⟩:=h4 rest;refine⟨.agg svs,by unfold tS;rw[g1];rfl,λσ M v s d=>?_⟩;cases d with
  |agg hl g=>exact .agg (g2 σ M _ s ⟨hl,g⟩).1 (g2 σ M _ s ⟨hl,g⟩).2
 ·rename_i ts l;obtain⟨ls,m',h1,h2,h3,h4⟩:=Ax ts l m K b e;refine⟨ls,m',h1,h2,h3,λrest=>?_⟩;obtain⟨svs,g1,g2⟩:=h4 rest;refine⟨.aG svs,by unfold tS;rw[g1];rfl,λσ M v s d=>?_⟩;cases d with
  |aG hl g=>exact .aG (g2 σ M _ s ⟨hl,g⟩).1 (g2 σ M _ s ⟨hl,g⟩).2
 ·rename_i g0 ts g0' l;obtain⟨e1,f⟩:=bd e;have:=bX e1;subst this;obtain⟨ls,m',h1,h2,h3,h4⟩:=Ax ts l m K b f;refine⟨ls,m',h1,h2,h3,λrest=>?_⟩;obtain⟨svs,g1,g2⟩:=h4 rest;refine⟨.fn g0 svs,by unfold tS;rw[g1];rfl,λσ M v s d=>?_⟩;cases d with
  |fn hl g=>exact .fn (g2 σ M _ s ⟨hl,g⟩).1 (g2 σ M _ s ⟨hl,g⟩).2
 ·rename_i t0 vt0 t0' x0;obtain⟨e1,f⟩:=bd e;have:=bX e1;subst this;obtain⟨ls,m',h1,h2,h3,h4⟩:=Kh vt0 x0 m K b f;refine⟨ls,m',h1,h2,h3,λrest=>?_⟩;obtain⟨sv,g1,g2⟩:=h4 rest;refine⟨.fO t0 sv,by unfold tS;rw[g1];rfl,λσ M v s d=>?_⟩;cases d with
  |fO g=>exact .fO (g2 σ M _ s g)
 ·exact⟨_,_,e,fu.refl _,λI=>I,λrest=>⟨_,rfl,λσ M v _ d=>by cases d;exact .em (by assumption)⟩⟩
 ·exact⟨_,_,e,fu.refl _,λI=>I,λrest=>⟨_,rfl,λσ M v _ d=>by cases d;exact .em (by assumption)⟩⟩
 ·exact⟨_,_,e,fu.refl _,λI=>I,λrest=>⟨_,rfl,λσ M v _ d=>by cases d;exact .lp (by assumption)⟩⟩
 ·rename_i id0 off id' off';obtain⟨e1,f⟩:=bd e;have:=bX e1;subst this;obtain⟨m',h1,h2,h3,h4⟩:=xh f;refine⟨_,m',h1,h2,h4,λrest=>⟨_,rfl,λσ M v s d=>?_⟩⟩;cases d with
  |ptr g=>exact .ptr (by rw[σm_some (s _ _ h3)];exact g)
 ·rename_i id0 off id' off' n c;obtain⟨e1,f⟩:=bd e;have:=bX e1;subst this;obtain⟨m',h1,h2,h3,h4⟩:=xh f;refine⟨_,m',h1,h2,h4,λrest=>⟨_,rfl,λσ M v s d=>?_⟩⟩;cases d with
  |sl g hn=>exact .sl (by rw[σm_some (s _ _ h3)];exact g) hn
 ·rename_i id0 id' off n c;obtain⟨m',h1,h2,h3,h4⟩:=xh e;refine⟨_,m',h1,h2,h4,λrest=>⟨_,rfl,λσ M v s d=>?_⟩⟩;cases d with
  |sl g hn=>exact .sl (by rw[σm_some (s _ _ h3)];exact g) hn
 ·rename_i id0 E id' E';obtain⟨e1,f⟩:=bd e;have:=bX e1;subst this;obtain⟨m',h1,h2,h3,h4⟩:=xh f;refine⟨_,m',h1,h2,h4,λrest=>⟨_,rfl,λσ M v s d=>?_⟩⟩;cases d with
  |jP g=>exact .jP (by rw[σm_some (s _ _ h3)];exact g)
  |gr g hc hn=>exact .gr (by rw[σm_some (s _ _ h3)];exact g) hc hn
 ·obtain⟨m',h1,h2,h3,h4⟩:=xh e;refine⟨_,m',h1,h2,h4,λrest=>⟨_,rfl,λσ M v s d=>?_⟩⟩;cases d;exact .jP (σm_none (s _ _ h3))
 ·rename_i id0 off n0 c0 id' off' n c;obtain⟨e1,f⟩:=bd e;simp only[bB] at e1;have g1:=bX e1.1;have g2:=bX e1.2.1;have g3:=bX e1.2.2;subst g1 g2 g3;obtain⟨m',h1,h2,h3,h4⟩:=xh f;refine⟨_,m',h1,h2,h4,λrest=>⟨_,rfl,λσ M v s d=>?_⟩⟩;cases d with
  |sl g hn=>exact .sl (by rw[σm_some (s _ _ h3)];exact g) hn
 ·refine⟨_,_,e,fu.refl _,λI=>I,λrest=>⟨_,rfl,λσ M v _ d=>?_⟩⟩;cases d with
  |v h h1=>exact .v h h1
 ·cases e
theorem Ax:∀(vts:qr VT)(svs:qr SV)(m:Mp)(K:qr bt->Mp->Hx β)(b:β),vo vts svs m K=some b->
 ∃ls m',K ls m'=some b/\fu m m'/\(lJ m->lJ m')/\∀rest,∃svs',se vts (ls++rest)=some (svs',rest)/\∀(σ:Ren)(M:Mp)(vs:qr H1),fu m' M->fm σ svs vs->fm (σm σ M) svs' vs:=by
 intro vts svs m K b e;unfold vo at e;split at e
 ·exact⟨_,_,e,fu.refl _,id,λrest=>⟨_,rfl,λσ M v _ d=>by rw[d.ee];exact .nil⟩⟩
 ·rename_i t ts x xs;obtain⟨l1,m1,h1,h2,h3,h4⟩:=Kh t x m _ b e;obtain⟨l2,m2,g1,g2,g3,g4⟩:=Ax ts xs m1 _ b h1;refine⟨l1++l2,m2,g1,h2.trans g2,λI=>g3 (h3 I),λrest=>?_⟩;obtain⟨s1,p1,p2⟩:=h4 (l2++rest);obtain⟨s2,q1,q2⟩:=g4 rest;refine⟨s1::s2,?_,λσ M vs s d=>?_⟩
  ·rw[dM];unfold se;rw[p1];show ob (se ts (l2++rest)) _=_;rw[q1];rfl
  ·obtain⟨_,_,rfl,a,t⟩:=d.inv;exact .cons (p2 σ M _ (g2.trans s) a) (q2 σ M _ s t)
 ·cases e
end
theorem RE:∀(sl:qr (Nat×VT))(T0:Tr SV)(m:Mp)(K:qr bt->Mp->Hx β)(b:β),Kg sl T0 m K=some b->
 ∃ls m',K ls m'=some b/\fu m m'/\(lJ m->lJ m')/\∀rest,∃T,AY sl (ls++rest)=some (T,rest)/\∀(σ:Ren)(M:Mp)(a:Act),fu m' M->Ev σ T0 a->Ev (σm σ M) T a
 |[],T0,m,K,b,e=>⟨_,_,e,fu.refl _,id,λrest=>⟨_,rfl,λσ M tm _ _ t sv h=>by rw[Tr.get_nil] at h;cases h⟩⟩
 |(t,vt)::r,T0,m,K,b,e=>by
  obtain⟨sv,hsv,e⟩:=ax e;obtain⟨l1,m1,h1,h2,h3,h4⟩:=Kh vt sv m _ b e;obtain⟨l2,m2,g1,g2,g3,g4⟩:=RE r T0 m1 _ b h1;refine⟨l1++l2,m2,g1,h2.trans g2,λI=>g3 (h3 I),λrest=>?_⟩;obtain⟨s1,p1,p2⟩:=h4 (l2++rest);obtain⟨T,q1,q2⟩:=g4 rest;refine⟨T.set t s1,?_,λσ M tm s H t' sv' h=>?_⟩
  ·rw[dM];unfold AY;rw[p1];show ob (AY r (l2++rest)) _=_;rw[q1];rfl
  ·rw[Tr.fN] at h;by_cases e:t'=t
   ·rw[ay e] at h;cases h;rw[e];exact p2 σ M _ (g2.trans s) (H t sv hsv)
   ·rw[aq e] at h;exact q2 σ M tm s H t' sv' h
theorem aaT{id:Nat}{ot:OT}{h0:Tr SO}{m:Mp}{K:qr bt->Mp->Hx β}{b:β}(e:Ke id ot h0 m K=some b):
 ∃ls m',K ls m'=some b/\fu m m'/\(lJ m->lJ m')/\(ef id m=some none\/∃a so,ef id m=some (some a)/\h0.get a=some so)/\∀rest,∃so',TL ot (ls++rest)=some (so',rest)/\
  ∀(σ:Ren)(M:Mp)(h:jp),fu m' M->(∀id so,h0.get id=some so->DO σ h id so)->DO (σm σ M) h id so':=by
 unfold Ke at e;split at e
 ·obtain⟨x,hx,f⟩:=ax e;obtain⟨a,ha,g⟩:=ax f;subst ha;obtain⟨so,hso,k⟩:=ax g;split at k
  ·rename_i ts t _ l t';obtain⟨e1,q⟩:=bd k;have:=bX e1;subst this;obtain⟨ls,m',h1,h2,h3,h4⟩:=Ax ts l m K b q;refine⟨ls,m',h1,h2,h3,.inr ⟨a,_,hx,hso⟩,λrest=>?_⟩;obtain⟨s,p1,p2⟩:=h4 rest;refine⟨.cells s t,by show ob (se ts (ls++rest)) _=_;rw[p1];rfl,λσ M h sm H=>?_⟩;obtain⟨o,n,vs,q1,q2,q3⟩:=H a _ hso;exact⟨o,n,vs,by rw[σm_some (sm _ _ (h2 _ _ hx))];exact q1,q2,p2 σ M _ sm q3⟩
  ·cases k
 ·obtain⟨x,hx,f⟩:=ax e;obtain⟨a,ha,g⟩:=ax f;subst ha;obtain⟨so,hso,k⟩:=ax g;split at k
  ·obtain⟨e1,q⟩:=bd k;have:=bX e1;subst this;refine⟨_,m,q,fu.refl _,λI=>I,.inr ⟨a,_,hx,hso⟩,λrest=>⟨_,rfl,λσ M h sm H=>?_⟩⟩;obtain⟨o,n,vs,q1,q2,q3⟩:=H a _ hso;exact⟨o,n,vs,by rw[σm_some (sm _ _ hx)];exact q1,q2,q3⟩
  ·cases k
 ·obtain⟨x,hx,e⟩:=ax e;split at e
  ·obtain⟨e1,e⟩:=bd e;exact⟨_,m,e,fu.refl _,λI=>I,.inl hx,λrest=>⟨_,rfl,λσ M h sm H=>(⟨fb e1,rfl,.inl ⟨σm_none (sm _ _ hx),rfl⟩⟩)⟩⟩
  ·rename_i a;obtain⟨so,hso,e⟩:=ax e;split at e
   ·obtain⟨e1,f⟩:=bd e;rw[bB] at e1;have e2:=bX e1.1;have e3:=bX e1.2;subst e2 e3;refine⟨_,m,f,fu.refl _,λI=>I,.inr ⟨a,_,hx,hso⟩,λrest=>⟨_,rfl,λσ M h sm H=>?_⟩⟩;obtain⟨q1,q2,q3⟩:=H a _ hso;have hs:=σm_some (σ:=σ) (sm _ _ hx);refine⟨q1,q2,?_⟩;rw[<-hs] at q3;exact q3
   ·cases e
theorem RD:∀(ol:qr (Nat×OT))(h0:Tr SO)(m:Mp)(K:qr bt->Mp->Hx β)(b:β),Kf ol h0 m K=some b->
 ∃ls m',K ls m'=some b/\fu m m'/\(lJ m->lJ m')/\∀rest,∃T,xS ol (ls++rest)=some (T,rest)/\∀(σ:Ren)(M:Mp)(h:jp),fu m' M->(∀id so,h0.get id=some so->DO σ h id so)->
  ∀id so,T.get id=some so->DO (σm σ M) h id so/\(ef id M=some none\/∃a so,ef id M=some (some a)/\h0.get a=some so)
 |[],h0,m,K,b,e=>⟨_,_,e,fu.refl _,id,λrest=>⟨_,rfl,λσ M h _ _ t sv h=>by rw[Tr.get_nil] at h;cases h⟩⟩
 |(id0,ot)::r,h0,m,K,b,e=>by
  obtain⟨l1,m1,h1,h2,h3,hl,h4⟩:=aaT e;obtain⟨l2,m2,g1,g2,g3,g4⟩:=RD r h0 m1 _ b h1;refine⟨l1++l2,m2,g1,h2.trans g2,λI=>g3 (h3 I),λrest=>?_⟩;obtain⟨s1,p1,p2⟩:=h4 (l2++rest);obtain⟨T,q1,q2⟩:=g4 rest;refine⟨T.set id0 s1,?_,λσ M h s H id so hg=>?_⟩
  ·rw[dM];unfold xS;rw[p1];show ob (xS r (l2++rest)) _=_;rw[q1];rfl
  ·rw[Tr.fN] at hg;by_cases e:id=id0
   ·rw[ay e] at hg;cases hg;rw[e];refine⟨p2 σ M h (g2.trans s) H,?_⟩;rcases hl with hl|⟨a,so,k1,k2⟩
    ·exact .inl (s _ _ (g2 _ _ (h2 _ _ hl)))
    ·exact .inr ⟨a,so,s _ _ (g2 _ _ (h2 _ _ k1)),k2⟩
   ·rw[aq e] at hg;exact q2 σ M h s H id so hg
theorem Tp{n:Nat}:∀{m:Mp},(m.all λp=>Nat.blt p.1 n)=true->∀id x,ef id m=some x->id<n
 |[],_,id,x,h=>by cases h
 |(j,y)::m,e,id,x,h=>by
  rw[List.all_cons,bB] at e;rw[qV] at h;by_cases q:j=id
  ·simp_all
  ·rw[aq q] at h;exact Tp e.2 id x h
theorem Tq:∀{an k:Nat},k<an->ef k (kE an)=some (some k)
 |0,k,h=>by omega
 |n+1,k,h=>by
  show ef k ((n,some n)::kE n)=_;rw[qV];by_cases e:n=k
  ·grind
  ·rw[aq e];exact Tq (by omega)
theorem K6:∀{an k:Nat}{x:Hx Nat},ef k (kE an)=some x->x=some k
 |0,k,x,h=>by cases h
 |n+1,k,x,h=>by
  have h:ef k ((n,some n)::kE n)=some x:=h;rw[qV] at h;by_cases e:n=k
  ·grind
  ·rw[aq e] at h;exact K6 h
theorem Zv(an:Nat):lJ (kE an):=λi j a h1 h2=>by
 have:=K6 h1;have:=K6 h2
 grind
theorem D4{m0:Mp}(I0:lJ m0){t:cQ}{st:St}{K:qr bt->Mp->Hx β}{b:β}(e:vm m0 t st K=some b):
 ∃ls m,K ls m=some b/\fu m0 m/\lJ m/\(∀id x,ef id m=some x->id<t.sx)/\∃st',iE t ls=some st'/\st'.sx=t.sx/\∀{σ:Ren}{a:Act}{w:jp},Ev σ st.tm a->(∀id so,st.h.get id=some so->DO σ w id so)->Ev (σm σ m) st'.tm a/\
  ∀id so,st'.h.get id=some so->DO (σm σ m) w id so/\(ef id m=some none\/∃a so',ef id m=some (some a)/\st.h.get a=some so'):=by
 obtain⟨l1,m1,h1,h2,h3,h4⟩:=RE _ _ _ _ _ e;obtain⟨l2,m2,g1,g2,g3,g4⟩:=RD _ _ _ _ _ h1;obtain⟨e1,e2⟩:=bd g1;refine⟨_,_,e2,h2.trans g2,g3 (h3 I0),Tp e1,?_⟩;obtain⟨T,p1,p2⟩:=h4 l2;obtain⟨H,q1,q2⟩:=g4 [];rw[ea] at q1;refine⟨⟨T,H,t.sx⟩,?_,rfl,λR O=>⟨p2 _ m2 _ g2 R,q2 _ m2 _ (fu.refl _) O⟩⟩;unfold iE;rw[p1];show ob (xS t.qo l2) _=_;rw[q1];rfl
theorem Mem.map{B B':Bs}{σ:Ren}{G:Nat->SO->Prop}{h':Tr SO}{F:Nat->Prop}{sx:Nat}{w:jp}{m:Mp}(M:Mem B σ G F w)(I:lJ m)(lt:∀id x,ef id m=some x->id<sx)
 (O:∀id so,h'.get id=some so->DO (σm σ m) w id so/\(ef id m=some none\/∃a so',ef id m=some (some a)/\G a so')) (base:eZ B'.own B'.w w) (ow:∀b,Own σ G b->B'.own b\/B'.w.heap.size<=b)
 (ln:∀b i v,σ.lit b i=some v->B'.lit b i=some v\/B'.own b\/B'.w.heap.size<=b) (an:∀k,k<B'.an->∀x,B'.nm k=some x->(σm σ m).nm k=some x) (lm:∀b i v,B'.lit b i=some v->σ.lit b i=some v):jc B' (σm σ m) h' sx w:=by
 have nm:∀{id so o n},h'.get id=some so->(σm σ m).nm id=some (some o,n)->∃a so',ef id m=some (some a)/\G a so'/\σ.nm a=some (some o,n):=by
  intro id so o n h1 h2;rcases(O id so h1).2 with k|⟨a,so',k1,k2⟩
  ·rw[σm_none k] at h2;cases h2
  ·rw[σm_some k1] at h2;exact⟨a,so',k1,k2,h2⟩
 have own:∀b,Own (σm σ m) (hG h') b->Own σ G b:=λb ⟨id,so,o,n,a1,a2,a3⟩=>(have⟨a,so',_,k2,k3⟩:=nm a1 a2;⟨a,so',o,n,k2,k3,a3⟩);refine⟨λid so k=>(O id so k).1,λi j so so' o o' n n' a1 a2 b1 b2 e=>?_,λid hid=>?_,M.lit,λb i v k q=>M.free b i v k (own b q),base,λb q=>ow b (own b q),ln,an,lm⟩
 ·obtain⟨x,s1,k1,k2,k3⟩:=nm a1 b1;obtain⟨y,s2,k4,k5,k6⟩:=nm a2 b2;have:=M.inj _ _ _ _ _ _ _ _ k2 k5 k3 k6 e;subst this;exact I _ _ _ k1 k4
 ·cases q:ef id m with
  |none=>simp only[σm,q]
  |some x=>exact absurd (lt id x q) (Nat.not_lt.2 hid)
theorem vn{B:Bs}{t:cQ}{st:St}{K:qr bt->Hx β}{b:β}(e:kZ B.an t st K=some b):
 ∃ls,K ls=some b/\∃st',iE t ls=some st'/\st'.sx=t.sx/\∀{σ:Ren}{a:Act}{w:jp},Ev σ st.tm a->jc B σ st.h st.sx w->∃σ',Ev σ' st'.tm a/\jc B σ' st'.h st'.sx w:=by
 obtain⟨ls,m,h1,h2,I,lt,st',h4,h5,h6⟩:=D4 (Zv B.an) e;refine⟨ls,h1,st',h4,h5,λ{σ a w} R M=>⟨σm σ m,?_⟩⟩;obtain⟨h7,h8⟩:=h6 R M.obj;exact⟨h7,by rw[h5];exact M.map I lt h8 M.base M.owned M.mj (λk hk x hx=>by rw[σm_some (h2 _ _ (Tq hk))];exact M.kE k hk x hx) M.nM⟩
end
section
variable{β:Type}
def oH(cs:qr H1)(r:Hx β):Hx β:=match cs with
 |[]=>r
 |_=>none
def xR:qr VT->qr H1->(qr bt->Hx β)->Hx β
 |[],cs,K=>oH cs (K [])
 | .i k::ts,cs,K=>af cs λx r=>au k x λn=>xR ts r λl=>K (.i n::l)
 | .b::ts,cs,K=>af cs λx r=>z8 x λn=>xR ts r λl=>K (.b n::l)
 | .s::ts,cs,K=>af cs λx r=>Aa x λn=>xR ts r λl=>K (.s n::l)
 | .v::ts,cs,K=>af cs λx r=>xR ts r λl=>K (.v x::l)
 |_,_,_=>none
def tH{γ:Type}(g:SV->Hx γ):qr SV->Hx (qr γ)
 |[]=>some []
 |x::xs=>ob (g x) λu=>ob (tH g xs) λus=>some (u::us)
def Sd(g:SV->Hx H1):SV->Hx H1
 | .agg l=>ob (tH g l) λus=>some (.agg ⟨us⟩)
 |x=>g x
def K0:H1->Bool
 | .agg xs=>xs.toList.all λx=>match x with| .int _ _=>true|_=>false
 |_=>false
def KD(g:SV->Hx H1):qr (H1×SV)->Hx (qr H1)
 |[]=>some []
 |e::es=>cond (K0 e.1) (ob (Sd g e.2) λu=>ob (KD g es) λus=>some (.func (.func 0) #[e.1] #[u]::us)) none
def gv(h:Tr SO):Nat->SV->Hx H1
 |0,_=>none
 |f+1,x=>match x with
  | .i k n=>some (.int k n)
  | .b q=>some (.bool q)
  | .s q=>some (.string q)
  | .v q=>some q
  | .nl=>some (ae 0 [])
  | .ni=>some .nilIface
  | .gr id E=>ob (h.get id) λso=>match so with
   | .grow E' c _=>cond (Nat.beq E E') (some (ae (c.length/E) c)) none
   |_=>bJ 39
  | .sl id off n _=>ob (h.get id) λso=>match so with
   | .arr c _=>cond (Nat.ble off c.length) (some (ae n (c.drop off))) none
   | .cells cs _=>cond (Nat.ble off cs.length) (ob (tH (gv h f) (cs.drop off)) λus=>some (ae n us)) none
   |_=>bJ 40
  | .mp id=>ob (h.get id) λso=>match so with
   | .mp es=>ob (KD (gv h f) es) λus=>some (.func (.method "") ⟨us⟩ #[])
   |_=>bJ 44
  |_=>bJ 41
mutual
def AB(st:St):VT->SV->(qr bt->Hx β)->Hx β
 | .i k,.i k' n,K=>cond (decide (k=k')) (K [.i n]) none
 | .b,.b x,K=>K [.b x]
 | .s,.s x,K=>K [.s x]
 | .v,.v x,K=>K [.v x]
 | .v,.nl,K=>K [.v (ae 0 [])]
 | .v,.ni,K=>K [.v .nilIface]
 | .v,.gr id E,K=>ob (gv st.h 20 (.gr id E)) λu=>K [.v u]
 | .v,.sl id off n c,K=>ob (gv st.h 20 (.sl id off n c)) λu=>K [.v u]
 | .v,.mp id,K=>ob (gv st.h 20 (.mp id)) λu=>K [.v u]
 | .em true,.em true,K=>K []
 | .em false,.em false,K=>K []
 | .nf,.v .nilFunc,K=>K []
 | .agg ts,.agg l,K=>rX st ts l K
 | .aG ts,.aG l,K=>rX st ts l K
 | .fn f ts,.fn f' l,K=>cond (Nat.beq f f') (cond (Nat.blt f 65536) (rX st ts l K) none) none
 | .lp ts,.lp cs,K=>cond (qP ts) (xR ts cs K) none
 | .lp ts,.ptr id off,K=>ob (st.h.get id) λso=>match so with
  | .cells c _=>cond (Nat.ble off c.length&&qP ts) (rX st ts (c.drop off) K) none
  |_=>bJ 42
 |_,_,_=>bJ 43
def rX(st:St):qr VT->qr SV->(qr bt->Hx β)->Hx β
 |[],[],K=>K []
 |t::ts,x::xs,K=>AB st t x λl1=>rX st ts xs λl2=>K (l1++l2)
 |_,_,_=>none
end
mutual
def kb:VT->qr bt->Hx (H1×qr bt)
 | .i k,.i n::ls=>some (.int k n,ls)
 | .b,.b x::ls=>some (.bool x,ls)
 | .s,.s x::ls=>some (.string x,ls)
 | .v,.v x::ls=>some (x,ls)
 | .agg ts,ls=>ob (fV ts ls) λr=>some (.agg ⟨r.1⟩,r.2)
 | .aG ts,ls=>ob (fV ts ls) λr=>some (.tuple ⟨r.1⟩,r.2)
 | .fn f ts,ls=>cond (Nat.blt f 65536) (ob (fV ts ls) λr=>some (.func (.func f) #[] ⟨r.1⟩,r.2)) none
 | .lp ts,ls=>cond (qP ts) (ob (fV ts ls) λr=>some (Ex r.1,r.2)) none
 | .em b,ls=>some (DU b,ls)
 | .nf,ls=>some (.nilFunc,ls)
 |_,_=>none
def fV:qr VT->qr bt->Hx (qr H1×qr bt)
 |[],ls=>some ([],ls)
 |t::ts,ls=>ob (kb t ls) λr=>ob (fV ts r.2) λq=>some (r.1 ::q.1,q.2)
end
mutual
def IC:VT->qr bt->Hx (SV×qr bt)
 | .i k,.i n::ls=>some (.i k n,ls)
 | .b,.b x::ls=>some (.b x,ls)
 | .s,.s x::ls=>some (.s x,ls)
 | .v,.v x::ls=>some (.v x,ls)
 | .agg ts,ls=>ob (wJ ts ls) λr=>some (.agg r.1,r.2)
 | .aG ts,ls=>ob (wJ ts ls) λr=>some (.aG r.1,r.2)
 | .fn f ts,ls=>cond (Nat.blt f 65536) (ob (wJ ts ls) λr=>some (.fn f r.1,r.2)) none
 | .lp ts,ls=>cond (qP ts) (ob (fV ts ls) λr=>some (.lp r.1,r.2)) none
 | .em b,ls=>some (.em b,ls)
 | .nf,ls=>some (.v .nilFunc,ls)
 |_,_=>none
def wJ:qr VT->qr bt->Hx (qr SV×qr bt)
 |[],ls=>some ([],ls)
 |t::ts,ls=>ob (IC t ls) λr=>ob (wJ ts r.2) λq=>some (r.1 ::q.1,q.2)
end
mutual
def SV.ids:SV->qr Nat
 | .ptr id _=>[id]
 | .sl id _ _ _=>[id]
 | .gr id _=>[id]
 | .mp id=>[id]
 | .agg l=>SV.kh l
 | .aG l=>SV.kh l
 | .fn _ l=>SV.kh l
 | .fO _ x=>SV.ids x
 |_=>[]
def SV.kh:qr SV->qr Nat
 |[]=>[]
 |x::xs=>SV.ids x++SV.kh xs
end
def SO.ids:SO->qr Nat
 | .cells c _=>SV.kh c
 |_=>[]
def jl:Nat->qr Nat->Tr SO->Tr SO->Tr SO×Tr SO
 |0,_,a,r=>(a,r)
 |_+1,[],a,r=>(a,r)
 |n+1,id::ids,a,r=>match r.get id with
  |none=>jl n ids a r
  |some so=>jl n (so.ids++ids) (a.set id so) (r.del id)
theorem xT{h:Tr SO}:∀(n:Nat)(ids:qr Nat)(a r:Tr SO),(∀id so,a.get id=some so->h.get id=some so/\r.get id=none)->(∀id so,r.get id=some so->h.get id=some so/\a.get id=none)->
 (∀id so,(jl n ids a r).1.get id=some so->h.get id=some so/\(jl n ids a r).2.get id=none)/\(∀id so,(jl n ids a r).2.get id=some so->h.get id=some so/\(jl n ids a r).1.get id=none)
 |0,_,a,r,h1,h2=>⟨h1,h2⟩
 |_+1,[],a,r,h1,h2=>⟨h1,h2⟩
 |n+1,id::ids,a,r,h1,h2=>by
  unfold jl;split
  ·exact xT n ids a r h1 h2
  ·rename_i so hso;refine xT n (so.ids++ids) _ _ (λj s hj=>?_) (λj s hj=>?_)
   ·rw[Tr.fN] at hj;rw[Tr.rY]
    grind
   ·rw[Tr.rY] at hj;by_cases e:j=id
    ·grind
    ·rw[aq e] at hj;rw[Tr.fN];simp_all
def MX(h:Tr SO):qr SV->Hx Nat
 |[]=>none
 | .sl id _ _ _::r=>match h.get id with
  |some (.cells _ _)=>some id
  |_=>MX h r
 |_::r=>MX h r
def Bq(st:St):qr Operand->Hx Nat
 |[]=>none
 | .tmp t::r=>match st.tm.get t with
  |some (.ptr id _)=>match st.h.get id with
   |some (.cells cs _)=>match MX st.h cs with
    |some i=>some i
    |none=>Bq st r
   |_=>Bq st r
  |_=>Bq st r
 |_::r=>Bq st r
def Vl(st:St):qr Oper->Hx Nat
 |[]=>none
 |o::r=>match Bq st o.op.operands.toList with
  |some i=>some i
  |none=>Vl st r
def Kw(st:St)(id:Nat)(K:St->Hx β):Hx β:=ob (st.h.get id) λso=>match so with
 | .cells cs t=>ob (tH (gv (jl 1000 (SV.kh cs) .nil (st.h.del id)).1 20) cs) λus=>K {st with h:=(jl 1000 (SV.kh cs) .nil (st.h.del id)).2.set id (.arr us t)}
 |_=>bJ 91
def Ky(b:Bool)(ops:qr Oper)(st:St)(K:St->Hx β):Hx β:=cond b (match Vl st ops with|some id=>Kw st id K|none=>K st) (K st)
def rp(g:Bool):qr SV->qr Nat
 |[]=>[]
 | .sl id _ _ _::r=>id::rp g r
 | .gr id _::r=>cond g (id::rp g r) (rp g r)
 |_::r=>rp g r
def Sf(g:Bool)(A:Tr SO):SV->Hx SV
 | .sl id off n c=>ob (gv A 20 (.sl id off n c)) λu=>some (.v u)
 | .gr id E=>cond g (ob (gv A 20 (.gr id E)) λu=>some (.v u)) (some (.gr id E))
 |x=>some x
def Ee(id:Nat)(g:Bool)(st:St)(K:St->Hx β):Hx β:=ob (st.h.get id) λso=>match so with
 | .cells cs t=>ob (tH (Sf g (jl 1000 (rp g cs) .nil (st.h.del id)).1) cs) λus=>K {st with h:=(jl 1000 (rp g cs) .nil (st.h.del id)).2.set id (.cells us t)}
 |_=>bJ 91
def RX(b:Bool)(st:St)(K:St->Hx β):Hx β:=cond b (Ee 0 false st K) (K st)
def Bp(st:St):qr Operand->Hx Nat
 |[]=>none
 | .tmp t::r=>match st.tm.get t with
  |some (.ptr id _)=>match st.h.get id with
   |some (.cells cs _)=>cond (Nat.blt 1 cs.length&&!(rp true cs).isEmpty) (some id) (Bp st r)
   |_=>Bp st r
  |_=>Bp st r
 |_::r=>Bp st r
def Vk(st:St):qr Oper->Hx Nat
 |[]=>none
 |o::r=>match Bp st o.op.operands.toList with
  |some i=>some i
  |none=>Vk st r
def Kx(b:Bool)(ops:qr Oper)(st:St)(K:St->Hx β):Hx β:=cond b (match Vk st ops with|some id=>Ee id true st K|none=>K st) (K st)
def Tg(st:St):qr Oper->Hx (Nat×Nat)
 |[]=>none
 |o::r=>match Tg st r with
  |some q=>some q
  |none=>match o.dst with
   |some t=>match st.tm.get t with
    |some (.sl id _ _ _)=>some (t,id)
    |_=>none
   |none=>none
def Kz(t:Nat)(st:St)(K:St->Hx β):Hx β:=ob (st.tm.get t) λsv=>match sv with
 | .sl id off n c=>ob (st.h.get id) λso=>match so with
  | .arr us ty=>cond ((Nat.beq off 0&&Nat.beq n c)&&(Nat.blt 0 (us.length/n)&&Nat.beq (n*(us.length/n)) us.length)) (K ⟨st.tm.set t (.gr st.sx (us.length/n)),(st.h.del id).set st.sx (.grow (us.length/n) us ty),st.sx+1⟩) (bJ 93)
  |_=>bJ 93
 |_=>bJ 93
def AD(b:Bool)(ops:qr Oper)(st:St)(K:St->Hx β):Hx β:=cond b (match Tg st ops with|some q=>(match st.h.get q.2 with|some (.arr _ _)=>Kz q.1 st K|_=>Kw st q.2 λst=>Kz q.1 st K)|none=>K st) (K st)
def KC(st:St):qr Operand->Hx Nat
 |[]=>none
 | .tmp t::r=>match st.tm.get t with
  |some (.gr _ _)=>some t
  |_=>KC st r
 |_::r=>KC st r
def Sa(st:St):qr Oper->Hx Nat
 |[]=>none
 |o::r=>match KC st o.op.operands.toList with
  |some t=>some t
  |none=>Sa st r
def KA(b:Bool)(ops:qr Oper)(st:St)(K:St->Hx β):Hx β:=cond b (match Sa st ops with|some t=>ob (st.tm.get t) λsv=>ob (gv (jl 1000 (SV.ids sv) .nil st.h).1 20 sv) λu=>K {st with tm:=st.tm.set t (.v u),h:=(jl 1000 (SV.ids sv) .nil st.h).2 }|none=>K st) (K st)
theorem ac4{cs:qr H1}{r:Hx β}{b:β}(e:oH cs r=some b):cs=[]/\r=some b:=by
 unfold oH at e
 grind
def fE(ls:qr bt):Prop:=∀x,bt.v x∈ls->bh [x]=true
theorem fE.nil:fE []:=λx hx=>by cases hx
theorem fE.one{x:H1}(h:bh [x]=true):fE [.v x]:=λy hy=>by simp at hy;rw[hy];exact h
theorem fE.tail{l:bt}{ls:qr bt}(h:fE (l::ls)):fE ls:=λx hx=>h x (mE _ hx)
theorem fE.append{xs ys:qr bt}(h:fE xs)(k:fE ys):fE (xs++ys):=λx hx=>(fT.1 hx).elim (h x) (k x)
theorem Fa{x:H1}{r:qr H1}(h:bh (x::r)=true):bh r=true:=by rw[qX,bB] at h;exact h.2
theorem AU:∀(ts:qr VT)(cs:qr H1)(K:qr bt->Hx β)(b:β),xR ts cs K=some b->
 ∃ls,K ls=some b/\(bh cs=true->fE ls)/\∀rest,fV ts (ls++rest)=some (cs,rest)
 |[],cs,K,b,e=>by obtain⟨rfl,e⟩:=ac4 e;exact⟨[],e,λ_ x hx=>(by cases hx),λrest=>by unfold fV;rfl⟩
 | .i k::ts,cs0,K,b,e=>by
  obtain⟨x,cs,rfl,e2⟩:=zz e;unfold au at e2;split at e2
  ·obtain⟨e1,f⟩:=bd e2;have:=oh e1;subst this;obtain⟨ls,h1,h2,h3⟩:=AU ts cs _ b f;refine⟨_,h1,λp y hy=>?_,λrest=>?_⟩
   ·rcases cZ.1 hy with hy|hy
    ·cases hy
    ·exact h2 (Fa p) y hy
   ·show fV _ (_::(ls++rest))=_;show ob (fV ts (ls++rest)) _=_;rw[h3];rfl
  ·cases e2
 | .b::ts,cs0,K,b,e=>by
  obtain⟨x,cs,rfl,e2⟩:=zz e;unfold z8 at e2;split at e2
  ·obtain⟨ls,h1,h2,h3⟩:=AU ts cs _ b e2;refine⟨_,h1,λp y hy=>?_,λrest=>?_⟩
   ·rcases cZ.1 hy with hy|hy
    ·cases hy
    ·exact h2 (Fa p) y hy
   ·show fV _ (_::(ls++rest))=_;show ob (fV ts (ls++rest)) _=_;rw[h3];rfl
  ·cases e2
 | .s::ts,cs0,K,b,e=>by
  obtain⟨x,cs,rfl,e2⟩:=zz e;unfold Aa at e2;split at e2
  ·obtain⟨ls,h1,h2,h3⟩:=AU ts cs _ b e2;refine⟨_,h1,λp y hy=>?_,λrest=>?_⟩
   ·rcases cZ.1 hy with hy|hy
    ·cases hy
    ·exact h2 (Fa p) y hy
   ·show fV _ (_::(ls++rest))=_;show ob (fV ts (ls++rest)) _=_;rw[h3];rfl
  ·cases e2
 | .v::ts,cs0,K,b,e=>by
  obtain⟨x,cs,rfl,e⟩:=zz e;obtain⟨ls,h1,h2,h3⟩:=AU ts cs _ b e;refine⟨_,h1,λp y hy=>?_,λrest=>?_⟩
  ·rcases cZ.1 hy with hy|hy
   ·cases hy;exact(by rw[qX,bB] at p;exact p.1)
   ·exact h2 (Fa p) y hy
  ·show fV _ (_::(ls++rest))=_;show ob (fV ts (ls++rest)) _=_;rw[h3];rfl
theorem vw{γ:Type}{R:SV->H1->Prop}{S:γ->H1->Prop}{g:SV->Hx γ}(H:∀x u v,g x=some u->R x v->S u v):∀{xs:qr SV}{us:qr γ},tH g xs=some us->∀{vs:qr H1},PW R xs vs->PW S us vs
 |[],us,e,vs,d=>by cases e;rw[d.ee];exact .nil
 |x::xs,us,e,vs,d=>by obtain⟨u,h1,e⟩:=ax e;obtain⟨r,h2,e⟩:=ax e;cases e;obtain⟨y,ys,rfl,a,t⟩:=d.inv;exact .cons (H _ _ _ h1 a) (vw H h2 t)
structure Seen(σ:Ren)(m:Nat->Nat->Option Value)(h:Tr SO)(w:World):Prop where
 lit:∀b i v,σ.lit b i=some v->m b i=some v
 obj:∀id so,h.get id=some so->DO σ w id so
 cell:∀id so,h.get id=some so->∀o n,σ.nm id=some (some o,n)->∀i v,fP w o.1 i=some v->m o.1 i=some v
theorem Seen.of{σ:Ren}{m:Nat->Nat->Hx H1}{h:Tr SO}{w:jp}(S:Seen σ m h w){id n:Nat}{so:SO}{o:Nat×Nat}{cs:Array H1}{t:TypeId}(ho:h.get id=some so)(hn:σ.nm id=some (some o,n))(c:Cl w o.1 cs t){i:Nat}{v:H1}(hi:cs.toList[i]? =some v):m o.1 i=some v:=by obtain⟨fz,c,_⟩:=c;exact S.cell _ _ ho _ _ hn i v (by rw[tO c];simpa using hi)
theorem VN{α γ:Type}{R S:α->γ->Prop}{xs:qr α}{ys:qr γ}(h:PW (λx y=>R x y/\S x y) xs ys):PW R xs ys/\PW S xs ys:=⟨h.mono λ_ _ q=>q.1,h.mono λ_ _ q=>q.2⟩
theorem VO{us:qr H1}{vs:qr H1}(h:PW (λu (_:H1)=>bh [u]=true) us vs):bh us=true:=iW.2 λu hu=>by obtain⟨i,hi⟩:=List.mem_iff_getElem?.1 hu;obtain⟨_,_,q⟩:=h.get hi;exact q
theorem aci{m:Nat->Nat->Hx H1}{k:H1}(h:K0 k=true):aN m k k:=by
 unfold K0 at h;split at h
 ·rename_i xs;refine .agg rfl λi x y a b=>?_;rw[a] at b;cases b;have:=iv.1 h x (nZ a);split at this
  ·exact .int _ _
  ·cases this
 ·cases h
theorem Se{σ:Ren}{m:Nat->Nat->Hx H1}{g:SV->Hx H1}(H:∀x u v,g x=some u->DV σ x v->aN m u v):∀{es:qr (H1×SV)}{us:qr H1}{es':qr MapEntry},KD g es=some us->PW (I2 σ) es es'->PW (aN m) us (es'.map λe=>.func (.func 0) #[e.key] #[e.val])
 |[],us,es',e,p=>by cases e;rw[p.ee];exact .nil
 |x::es,us,es',e,p=>by
  obtain⟨y,ys,rfl,a,t⟩:=p.inv;obtain⟨hk,e⟩:=bd e;obtain⟨u,h1,e⟩:=ax e;obtain⟨r,h2,e⟩:=ax e;cases e;have hv:aN m u y.val:=by
   have d:=a.2;unfold Sd at h1;split at h1
   ·rename_i l hl;obtain⟨q,h3,e⟩:=ax h1;cases e;rw[hl] at d;generalize y.val=z at d;cases d with
    |agg d1 d2=>have q:=vw H h3 ⟨d1,d2⟩;exact .agg q.1 q.2
   ·exact H _ _ _ h1 d
  have key:aN m x.1 y.key:=by rw[a.1];exact aci hk
  exact .cons (.fn rfl (λi x y p q=>by cases i<;>simp at p q;subst p q;exact key) rfl λi x y p q=>by cases i<;>simp at p q;subst p q;exact hv) (Se H h2 t)
theorem oC{σ:Ren}{m:Nat->Nat->Hx H1}{h:Tr SO}{w:jp}(S:Seen σ m h w):∀(f:Nat)(x:SV)(u v:H1),gv h f x=some u->DV σ x v->aN m u v/\bh [u]=true
 |0,_,_,_,e,_=>by cases e
 |f+1,x,u,v,e,d=>by
  unfold gv at e;split at e
  ·cases e;cases d;exact⟨.int _ _,rfl⟩
  ·cases e;cases d;exact⟨.bool _,rfl⟩
  ·cases e;cases d;exact⟨.str _,rfl⟩
  ·cases e;cases d with
   |v h h1=>exact⟨h.mono S.lit,h1⟩
  ·cases e;cases d;exact⟨.gy,rfl⟩
  ·cases e;cases d;exact⟨.nilIface,rfl⟩
  ·rename_i id E;obtain⟨so,hso,e⟩:=ax e;split at e
   ·rename_i E' c t;obtain⟨q,e1⟩:=bd e;clear e;replace q:=bX q;subst q;cases e1;obtain⟨hE,oc,D⟩:=S.obj _ _ hso;cases d with
    |jP g=>
     rcases D with⟨_,rfl⟩|⟨o,n,cs,k,_⟩
     ·exact⟨by simp only[List.length_nil,Nat.zero_div];exact .gy,rfl⟩
     ·rw[g] at k;cases k
    |gr g hc hn=>
     rcases D with⟨k,_⟩|⟨o',n',cs,k,cl,h1,h2,h3,h4⟩
     ·rw[g] at k;cases k
     ·have k':=g.symm.trans k;simp only[sX,Prod.mk.injEq] at k';obtain⟨rfl,rfl⟩:=k';rw[h2,ja _ hE];have h4:=h4.mono λ_ _=>aN.mono S.lit;refine⟨.lC h4.1 h4.2 (λi y hy=>?_) rfl hn oc,rfl⟩;rw[pX] at hy;split at hy
      ·rw[fU];exact S.of hso k cl hy
      ·cases hy
   ·cases e
  ·rename_i id off n cap;obtain⟨so,hso,e⟩:=ax e;cases d with
   |sl g hn=>
   split at e
   ·rename_i c t;obtain⟨_,e⟩:=bd e;cases e;obtain⟨o',n',cs,k,cl,oc,r⟩:=S.obj _ _ hso;rw[g] at k;cases k;have r:=(r.mono λ_ _=>aN.mono S.lit).drop off;refine⟨.lC r.1 r.2 (λi y hy=>?_) rfl hn (qY oc λx hx=>qG hx),rfl⟩;rw[sV] at hy;exact S.of hso g cl hy
   ·rename_i cs0 t;obtain⟨_,e⟩:=bd e;obtain⟨us,hu,e⟩:=ax e;cases e;obtain⟨o',n',cs,k,cl,r⟩:=S.obj _ _ hso;rw[g] at k;cases k;obtain⟨r1,r2⟩:=VN (vw (λx u v e d=>oC S f x u v e d) hu (r.drop off));refine⟨.lC r1.1 r1.2 (λi y hy=>?_) rfl hn (VO r2),rfl⟩;rw[sV] at hy;exact S.of hso g cl hy
   ·cases e
  ·rename_i id;obtain⟨so,hso,e⟩:=ax e;split at e
   ·rename_i es;obtain⟨us,hu,e1⟩:=ax e;cases e1;obtain⟨o',n',es',ck,k,cl,r⟩:=S.obj _ _ hso;cases d with
    |mp g=>
    rename_i n2 o2;have ho:o2=o':=by have g':=g.symm.trans k;simp only[sX,Prod.mk.injEq] at g';exact g'.1
    rw[ho];have q:=Se (λx u v e d=>(oC S f x u v e d).1) hu r;exact⟨.EF q.1 q.2 λi=>S.cell _ _ hso _ _ k i _ (by unfold fP;rw[cl];rfl),rfl⟩
   ·cases e
  ·cases e
open Classical in
noncomputable def kH(σ:Ren)(A:Nat->SO->Prop)(w:jp)(b i:Nat):Hx H1:=if Own σ A b then fP w b i else σ.lit b i
theorem Mem.AE{B:Bs}{σ:Ren}{G A G':Nat->SO->Prop}{F:Nat->Prop}{w:jp}(M:Mem B σ G F w)(sA:∀id so,A id so->G id so)(sG:∀id so,G' id so->∃so',G id so'/\∀s,¬A id s)(ob:Ext σ ⟨σ.nm,kH σ A w⟩->∀id so,G' id so->DO ⟨σ.nm,kH σ A w⟩ w id so):
 Ext σ ⟨σ.nm,kH σ A w⟩/\Mem B ⟨σ.nm,kH σ A w⟩ G' F w:=by
 have ow:∀b,Own σ A b->Own σ G b:=λb ⟨i,s,o,n,a,p,q⟩=>⟨i,s,o,n,sA i s a,p,q⟩;have me:∀b i v,σ.lit b i=some v->kH σ A w b i=some v:=λb i v h=>by unfold kH;rw[aq λq=>M.free b i v h (ow b q)];exact h
 have E:Ext σ ⟨σ.nm,kH σ A w⟩:=⟨λ_ _ h=>h,me⟩;have ow':∀b,Own ⟨σ.nm,kH σ A w⟩ G' b->Own σ G b/\¬Own σ A b:=λb ⟨i,s,o,n,a,p,q⟩=>by obtain⟨s',k1,k2⟩:=sG i s a;refine⟨⟨i,s',o,n,k1,p,q⟩,λ⟨j,s2,o2,n2,a2,p2,q2⟩=>?_⟩;have:=M.inj _ _ _ _ _ _ _ _ k1 (sA j s2 a2) p p2 (q.trans q2.symm);subst this;exact k2 _ a2
 refine⟨E,ob E,λi j s s' o o' n n' a a' p p' q=>?_,M.fresh,λb i v h=>?_,λb i v h q=>?_,M.base,λb q=>M.owned b (ow' b q).1,λb i v h=>?_,M.kE,λb i v h=>me b i v (M.nM b i v h)⟩
 ·obtain⟨_,k,_⟩:=sG i s a;obtain⟨_,k',_⟩:=sG j s' a';exact M.inj _ _ _ _ _ _ _ _ k k' p p' q
 ·simp only[kH] at h;split at h
  ·exact h
  ·exact M.lit b i v h
 ·obtain⟨q1,q2⟩:=ow' b q;simp only[kH] at h;rw[aq q2] at h;exact M.free b i v h q1
 ·simp only[kH] at h;split at h
  ·rename_i q;exact .inr (M.owned b (ow b q))
  ·exact M.mj b i v h
theorem Mem.seen{B:Bs}{σ:Ren}{G:Nat->SO->Prop}{F:Nat->Prop}{w:jp}{h:Tr SO}(M:Mem B σ G F w)(s:∀id so,h.get id=some so->G id so):Seen σ (kH σ (hG h) w) h w:=
 ⟨λb i v q=>by unfold kH;rw[aq λ⟨j,so,o,n,a,p,r⟩=>M.free b i v q ⟨j,so,o,n,s j so a,p,r⟩];exact q,λi so q=>M.obj i so (s i so q),λi s h o n hn j v hv=>by unfold kH;rw[ay ⟨i,s,o,n,h,hn,rfl⟩];exact hv⟩
theorem RV{st:St}{id:Nat}{K:St->Hx β}{b:β}(e:Kw st id K=some b):∃st',K st'=some b/\∀{B:Bs}{σ:Ren}{a:Act}{w:jp},dH B σ st a w->∃σ',dH B σ' st' a w:=by
 obtain⟨so,hso,e⟩:=ax e;split at e
 case h_2=>cases e
 rename_i cs t;obtain⟨us,hu,e⟩:=ax e;refine⟨_,e,λ{B σ a w} R=>?_⟩;have mv:=xT (h:=st.h.del id) 1000 (SV.kh cs) .nil (st.h.del id) (λi s h=>by rw[Tr.get_nil] at h;cases h) λi s h=>⟨h,Tr.get_nil _⟩;generalize(jl 1000 (SV.kh cs) .nil (st.h.del id)).1 =A at mv hu;generalize(jl 1000 (SV.kh cs) .nil (st.h.del id)).2 =r at mv;have dl:∀{i s},(st.h.del id).get i=some s->i≠id/\st.h.get i=some s:=λ{i s} h=>by rw[Tr.rY] at h;grind
 have mA:∀i s,A.get i=some s->i≠id/\st.h.get i=some s:=λi s h=>dl (mv.1 i s h).1;have S:=R.mem.seen λi s h=>(mA i s h).2;obtain⟨E,M⟩:=R.mem.AE (A:=hG A) (G':=hG (r.set id (.arr us t))) (λi s h=>(mA i s h).2) (λi s h=>by
  simp only[hG,Tr.fN] at h;split at h
  ·rename_i q;subst q;exact⟨_,hso,λs q=>(mA i s q).1 rfl⟩
  ·exact⟨s,(dl (mv.2 i s h).1).2,λs' q=>by have:=(mv.2 i s h).2;rw[show A.get i=some s' from q] at this;cases this⟩) λE i s h=>by
  simp only[hG,Tr.fN] at h;split at h
  ·rename_i q;subst q;cases h;obtain⟨o,n,cs',g1,g2,g3⟩:=R.mem.obj _ _ hso;obtain⟨r1,r2⟩:=VN (vw (λx u v e d=>oC S 20 x u v e d) hu g3);exact⟨o,n,cs',g1,g2,VO r2,r1⟩
  ·exact(R.mem.obj i s (dl (mv.2 i s h).1).2).mono E λ_ _ _=>rfl
 exact⟨_,R.size,R.dX,λk sv h=>(R.ev k sv h).mono E,M⟩
theorem RW{id:Nat}{g:Bool}{st:St}{K:St->Hx β}{b:β}(e:Ee id g st K=some b):∃st',K st'=some b/\∀{B:Bs}{σ:Ren}{a:Act}{w:jp},dH B σ st a w->∃σ',dH B σ' st' a w:=by
 unfold Ee at e;obtain⟨so,hso,e⟩:=ax e;split at e
 case h_2=>cases e
 rename_i cs t;obtain⟨us,hu,e⟩:=ax e;refine⟨_,e,λ{B σ a w} R=>?_⟩;have mv:=xT (h:=st.h.del id) 1000 (rp g cs) .nil (st.h.del id) (λi s h=>by rw[Tr.get_nil] at h;cases h) λi s h=>⟨h,Tr.get_nil _⟩;generalize(jl 1000 (rp g cs) .nil (st.h.del id)).1 =A at mv hu;generalize(jl 1000 (rp g cs) .nil (st.h.del id)).2 =r at mv;have dl:∀{i s},(st.h.del id).get i=some s->i≠id/\st.h.get i=some s:=λ{i s} h=>by rw[Tr.rY] at h;grind
 have mA:∀i s,A.get i=some s->i≠id/\st.h.get i=some s:=λi s h=>dl (mv.1 i s h).1;have S:=R.mem.seen λi s h=>(mA i s h).2;obtain⟨E,M⟩:=R.mem.AE (A:=hG A) (G':=hG (r.set id (.cells us t))) (λi s h=>(mA i s h).2) (λi s h=>by
  simp only[hG,Tr.fN] at h;split at h
  ·rename_i q;subst q;exact⟨_,hso,λs q=>(mA _ s q).1 rfl⟩
  ·exact⟨s,(dl (mv.2 i s h).1).2,λs' q=>by have:=(mv.2 i s h).2;rw[show A.get i=some s' from q] at this;cases this⟩) λE i s h=>by
  simp only[hG,Tr.fN] at h;split at h
  ·rename_i q;subst q;cases h;obtain⟨o,n,cs',g1,g2,g3⟩:=R.mem.obj _ _ hso;refine⟨o,n,cs',g1,g2,vw (λx u v e d=>?_) hu g3⟩;unfold Sf at e;split at e
   ·obtain⟨q,h1,e⟩:=ax e;cases e;obtain⟨a,b⟩:=oC S 20 _ _ _ h1 d;exact .v a b
   ·cases g with
    |true=>obtain⟨q,h1,e⟩:=ax e;cases e;obtain⟨a,b⟩:=oC S 20 _ _ _ h1 d;exact .v a b
    |false=>cases e;exact d.mono E
   ·cases e;exact d.mono E
  ·exact(R.mem.obj i s (dl (mv.2 i s h).1).2).mono E λ_ _ _=>rfl
 exact⟨_,R.size,R.dX,λk sv h=>(R.ev k sv h).mono E,M⟩
theorem abh{z:Bool}{st:St}{K:St->Hx β}{b:β}(e:RX z st K=some b):∃st',K st'=some b/\∀{B:Bs}{σ:Ren}{a:Act}{w:jp},dH B σ st a w->∃σ',dH B σ' st' a w:=by
 cases z with
 |false=>exact⟨st,e,λR=>⟨_,R⟩⟩
 |true=>exact RW e
theorem abf{z:Bool}{ops:qr Oper}{st:St}{K:St->Hx β}{b:β}(e:Kx z ops st K=some b):∃st',K st'=some b/\∀{B:Bs}{σ:Ren}{a:Act}{w:jp},dH B σ st a w->∃σ',dH B σ' st' a w:=by
 unfold Kx at e;cases z with
 |false=>exact⟨st,e,λR=>⟨_,R⟩⟩
 |true=>
  rw[aE] at e;split at e
  ·exact RW e
  ·exact⟨st,e,λR=>⟨_,R⟩⟩
theorem abi{z:Bool}{ops:qr Oper}{st:St}{K:St->Hx β}{b:β}(e:Ky z ops st K=some b):∃st',K st'=some b/\∀{B:Bs}{σ:Ren}{a:Act}{w:jp},dH B σ st a w->∃σ',dH B σ' st' a w:=by
 unfold Ky at e;cases z with
 |false=>exact⟨st,e,λR=>⟨_,R⟩⟩
 |true=>
  rw[aE] at e;split at e
  ·exact RV e
  ·exact⟨st,e,λR=>⟨_,R⟩⟩
theorem RY{t:Nat}{st:St}{K:St->Hx β}{b:β}(e:Kz t st K=some b):∃st',K st'=some b/\∀{B:Bs}{σ:Ren}{a:Act}{w:jp},dH B σ st a w->∃σ',dH B σ' st' a w:=by
 obtain⟨sv,hsv,e⟩:=ax e;split at e
 case h_2=>cases e
 rename_i id off n c;obtain⟨so,hso,e⟩:=ax e;split at e
 case h_2=>cases e
 rename_i us ty;obtain⟨hq,e2⟩:=bd e;clear e;simp only[bB] at hq;obtain⟨⟨h1,h2⟩,h3,h4⟩:=hq;have h1:=bX h1;have h2:=bX h2;have h3:=fb h3;have h4:=bX h4;subst h1 h2;refine⟨_,e2,λ{B σ a w} R=>?_⟩;obtain⟨o,m,cs,g1,cl,on,r⟩:=R.mem.obj _ _ hso;have hl:us.length=cs.size:=r.1;obtain⟨E,M⟩:=R.mem.swap (id:=id) (x:=(some (o.1,us.length),n)) (so:=.grow (us.length/n) us ty) (w':=w) (aM _) (eZ.refl _ _) (λo' n' h=>.inr ⟨_,m,o,hso,g1,by cases h;rfl⟩) (λ_ _ _ _ _ _ _=>rfl)
  ⟨h3,on,.inr ⟨(o.1,us.length),n,cs,Ren.jK ..,cl,hl,h4.symm,sW hl,by rw[eQ (by rw[hl];exact aM _)];exact r⟩⟩
 refine⟨_,R.size,R.dX,λk sv h=>?_,jc.next (qa _) M⟩;rw[Tr.fN] at h;split at h
 ·rename_i q;cases h;subst q;have d:=R.ev _ _ hsv;generalize a.eval (.tmp k)=v at d⊢;cases d with
  |sl g hn=>rw[g1] at g;cases g;exact DV.gr (o:=(o.1,us.length)) (Ren.jK ..) h4 (aM _)
 ·exact(R.ev k sv h).mono E
theorem abg{z:Bool}{ops:qr Oper}{st:St}{K:St->Hx β}{b:β}(e:AD z ops st K=some b):∃st',K st'=some b/\∀{B:Bs}{σ:Ren}{a:Act}{w:jp},dH B σ st a w->∃σ',dH B σ' st' a w:=by
 unfold AD at e;cases z with
 |false=>exact⟨st,e,λR=>⟨_,R⟩⟩
 |true=>
  rw[aE] at e;split at e
  ·split at e
   ·exact RY e
   obtain⟨st1,e,h1⟩:=RV e;obtain⟨st2,e,h2⟩:=RY e;exact⟨st2,e,λR=>(h1 R).elim λ_ R1=>h2 R1⟩
  ·exact⟨st,e,λR=>⟨_,R⟩⟩
theorem abj{z:Bool}{ops:qr Oper}{st:St}{K:St->Hx β}{b:β}(e:KA z ops st K=some b):∃st',K st'=some b/\∀{B:Bs}{σ:Ren}{a:Act}{w:jp},dH B σ st a w->∃σ',dH B σ' st' a w:=by
 unfold KA at e;cases z with
 |false=>exact⟨st,e,λR=>⟨_,R⟩⟩
 |true=>
 rw[aE] at e;split at e
 case h_2=>exact⟨st,e,λR=>⟨_,R⟩⟩
 rename_i t _;obtain⟨sv,hsv,e⟩:=ax e;obtain⟨u,hu,e⟩:=ax e;refine⟨_,e,λ{B σ a w} R=>?_⟩;have mv:=xT (h:=st.h) 1000 (SV.ids sv) .nil st.h (λi s h=>by rw[Tr.get_nil] at h;cases h) λi s h=>⟨h,Tr.get_nil _⟩;generalize(jl 1000 (SV.ids sv) .nil st.h).1 =A at mv hu;generalize(jl 1000 (SV.ids sv) .nil st.h).2 =r at mv;have S:=R.mem.seen λi s h=>(mv.1 i s h).1;obtain⟨E,M⟩:=R.mem.AE (A:=hG A) (G':=hG r) (λi s h=>(mv.1 i s h).1) (λi s h=>⟨s,(mv.2 i s h).1,λs' q=>by have:=(mv.2 i s h).2;rw[show A.get i=some s' from q] at this;cases this⟩) λE i s h=>(R.mem.obj i s (mv.2 i s h).1).mono E λ_ _ _=>rfl;refine⟨_,R.size,R.dX,λk x h=>?_,M⟩;rw[Tr.fN] at h;split at h
 ·rename_i q;cases h;subst q;obtain⟨p,q⟩:=oC S 20 _ _ _ hu (R.ev _ _ hsv);exact .v p q
 ·exact(R.ev k x h).mono E
end
section
variable{β:Type}
structure jW(β:Type) where
 len:Nat
 t:cQ
 F:Fn t.ks (Option β)
def vy(d:Nat):qr (jW β)->Hx (jW β)
 |[]=>none
 |r::rs=>cond (Nat.beq r.len d) (some r) (vy d rs)
def zx(d:Nat):qr (jW β)->qr (jW β)
 |[]=>[]
 |r::rs=>cond (Nat.ble r.len d) (r::zx d rs) (zx d rs)
structure Ctx(β:Type) where
 X:eL
 pt:FuncId->Option (cH β)
 n:Nat
 rs:List ResultVar
 lv:Nat->Option cQ
 jv:Nat->Option cQ
 un:Nat->Bool
 df:Bool
 fuel:Nat
 an:Nat
 iD:SV->St->Option β
 mf:SV->St->Option β
def lp{α:Type}(z:α)(F:α->α)(n:Nat):α:=Nat.rec z (λ_ r=>F r) n
def amk{α γ:Type}(J:α)(F:α->γ):γ:=F J
def vu(un:Nat->Bool)(n:Nat):Bool:=cond (un 999999) false (un n)
def acJ:qr Item->Hx Nat
 | .inBlock id::_=>some id
 |_=>none
def Ei:Code->Hx Nat
 | .region id _ _=>some id
 | .seq a _=>Ei a
 | .block _ a=>Ei a
 | .scope a=>Ei a
 |_=>none
def ym(c:Operand)(q:Bool)(st:St):St:=match c with
 | .tmp t=>{st with tm:=st.tm.set t (.b q)}
 |_=>st
def vp(T:TT)(st:St):qr ResultVar->(qr SV->Hx β)->Hx β
 |[],K=>K []
 | .tmp t::rs,K=>ob (st.tm.get t) λv=>vp T st rs λvs=>K (v::vs)
 | .cell a t::rs,K=>ob (st.tm.get a) λp=>No T st t p λv=>vp T st rs λvs=>K (v::vs)
def Ay(iD:SV->St->Hx β)(st:St):qr SV->Hx β
 |[v]=>iD v st
 |vs=>iD (.aG vs) st
def coC:Code->Nat
 | .skip=>0
 | .region ..=>1
 | .seq ..=>2
 | .cond ..=>3
 | .block ..=>4
 | .loop ..=>5
 | .rangeFunc ..=>6
 | .exit ..=>7
 | .scope ..=>8
 | .label ..=>9
 | .goto ..=>10
 | .ret=>11
 | .refuse ..=>12
section
variable[QF]
noncomputable def JO(C:Ctx β)(go:qr (jW β)->qr Item->St->Hx β)(rs:qr (jW β))(todo:qr Item)(st:St):Hx β:=
 match vy todo.length rs with
 |some r=>kZ C.an r.t st λls=>iM r.t.ks r.F ls
 |none=>match todo with
  |[]=>cond C.df (C.iD (.aG []) st) (vp C.X.T st C.rs (Ay C.iD st))
  | .code .ret::_=>cond C.df (C.iD (.aG []) st) (vp C.X.T st C.rs (Ay C.iD st))
  | .code .skip::k=>go rs k st
  | .code (.label _)::k=>go rs k st
  | .inBlock _::k=>go rs k st
  | .inScope _::k=>go rs k st
  | .code (.seq x y)::k=>match Ei y with
   |some key=>match C.jv key with
    |some t=>amk (lX t.ks λls=>ob (iE t ls) λst'=>go rs (.code y::k) st') λJ=>go (⟨(Item.code y::k).length,t,J⟩::rs) (.code x::.code y::k) st
    |none=>go rs (.code x::.code y::k) st
   |none=>go rs (.code x::.code y::k) st
  | .code (.cond c x y)::k=>ob (dK st.tm c) λv=>match v with
   | .b q=>cond q (go rs (.code x::k) (ym c true st)) (go rs (.code y::k) (ym c false st))
   |_=>bJ 37
  | .code (.block id x)::k=>go rs (.code x::.inBlock id::k) st
  | .inLoop x::k=>go rs (.code x::.inLoop x::k) st
  | .code (.loop x)::k=>ob (acJ k) λkey=>cond (C.un key) (go rs (.code x::.inLoop x::k) st) (ob (C.lv key) λt=>kZ C.an t st λls=>
   iM t.ks (lp (iZ t.ks) (λrec=>lX t.ks λls=>ob (iE t ls) λst'=>go (⟨(Item.inLoop x::k).length,t,rec⟩::rs) (.code x::.inLoop x::k) st') C.fuel) ls)
  | .code (.scope x)::k=>go rs (.code x::.inScope x::k) st
  | .code (.exit id)::k=>ob (exitTo id k) λk1=>go (zx k1.length rs) k1 st
  | .code (.region l ops d)::k=>Ky (C.un (100000+l)) ops.toList st λst=>RX (vu C.un (300000+l)) st λst=>Kx (vu C.un (400000+l)) ops.toList st λst=>KA (vu C.un (600000+l)) ops.toList st λst=>cond d (Q6 (vu C.un (200000+l)) C.X C.pt C.n ops (pF ops.toList []) st λq st'=>match q with|none=>AD (vu C.un (500000+l)) ops.toList st' λst'=>go rs k st'|some v=>C.mf v st')
   (yC C.X C.pt C.n ops ops.toList st λq st'=>match q with|none=>AD (vu C.un (500000+l)) ops.toList st' λst'=>go rs k st'|some v=>C.mf v st')
  | .code c::_=>bJ (200+coC c)
  |_=>bJ 38
noncomputable def dn(C:Ctx β)(n:Nat):qr (jW β)->qr Item->St->Hx β:=Nat.rec (motive:=λ_=>qr (jW β)->qr Item->St->Hx β) (λ_ _ _=>none) (λ_ go=>JO C go) n
end
theorem ahV{st:St}{c:Operand}{q:Bool}(e:dK st.tm c=some (.b q)):Sub (ym c q st).tm st.tm/\(ym c q st).h=st.h/\(ym c q st).sx=st.sx:=by
 cases c with
 |tmp t=>
  refine⟨λs sv h=>?_,rfl,rfl⟩;replace h:(st.tm.set t (.b q)).get s=some sv:=h;rw[Tr.fN] at h;split at h
  ·rename_i k;rw[k];cases h;exact e
  ·exact h
 |_=>exact⟨λ_ _ h=>h,rfl,rfl⟩
def nu(P:Program)(todo:qr Item)(Q:Exit->Act->jp->Prop)(a:Act)(w:jp):Prop:=
 ∀(b:Frame)(k:qr Item)(cs:qr Frame),∃e a' w',Q e a' w'/\Arrives P (lone (b.at a (todo++k)) cs w) b k cs e a' w'
section
variable{P:Program} {Q:Exit->Act->jp->Prop} {a:Act} {w:jp} {T T':qr Item}
theorem nu.step(h:∀(b:Frame)(k:qr Item)(cs:qr Frame),step P (lone (b.at a (T++k)) cs w)=.next (lone (b.at a (T'++k)) cs w))(g:nu P T' Q a w):nu P T Q a w:=λb k cs=>
 let⟨e,a',w',q,r⟩:=g b k cs;⟨e,a',w',q,.of_steps (.one (h b k cs)) r⟩
theorem nu.code{c:Code}(h:c.wp P (λe a w=>match e with| .normal=>nu P T Q a w| .panic ch=>Q (.panic ch) a w|_=>False) a w):nu P (.code c::T) Q a w:=λb k cs=>by
 obtain⟨e,a1,w1,q,r⟩:=h b (T++k) cs;cases e with
 |normal=>obtain⟨e2,a2,w2,q2,r2⟩:=q b k cs;exact⟨e2,a2,w2,q2,.of_steps r r2⟩
 |panic ch=>exact⟨.panic ch,a1,w1,q,r⟩
 |_=>exact q.elim
end
def uR(P:Program)(C:Ctx β)(fn:Func)(B:Bs)(b:β):Exit->Act->jp->Prop
 | .panic ch,a,w=>∃σ st sv v,dH B σ st a w/\C.mf sv st=some b/\ch=[pe v]/\DV σ sv v
 | .normal,a,w=>∃σ st sv,dH B σ st a w/\C.iD sv st=some b/\cond C.df (sv=.aG []) (∃v,(results fn a.tmps).run P w=.ok v w/\DV σ sv v)
 | .ret,a,w=>∃σ st sv,dH B σ st a w/\C.iD sv st=some b/\cond C.df (sv=.aG []) (∃v,(results fn a.tmps).run P w=.ok v w/\DV σ sv v)
 |_,_,_=>False
theorem Sm{d:Nat}:∀{rs:qr (jW β)}{r:jW β},vy d rs=some r->r∈rs/\r.len=d
 |[],r,h=>by cases h
 |x::rs,r,h=>by
  unfold vy at h;cases hb:Nat.beq x.len d with
  |true=>simp_all
  |false=>rw[hb] at h;obtain⟨a,b⟩:=Sm h;simp_all
theorem Sl{d:Nat}:∀{rs:qr (jW β)},vy d rs=none->∀r∈rs,r.len≠d
 |x::rs,h,r,hr=>by
  unfold vy at h;cases hb:Nat.beq x.len d with
  |true=>grind
  |false=>
   rw[hb] at h;rcases cZ.1 hr with rfl|hr
   ·intro e;rw[e,np] at hb;cases hb
   ·exact Sl h r hr
theorem PQ{d:Nat}:∀{rs:qr (jW β)}{r:jW β},r∈zx d rs->r∈rs/\r.len<=d
 |[],r,h=>by cases h
 |x::rs,r,h=>by
  unfold zx at h;cases hb:Nat.ble x.len d with
  |true=>
   rw[hb] at h;rcases cZ.1 h with rfl|h
   ·simp_all
   ·obtain⟨a,b⟩:=PQ h;exact⟨mE _ a,b⟩
  |false=>rw[hb] at h;obtain⟨a,b⟩:=PQ h;exact⟨mE _ a,b⟩
theorem Kk{id:Nat}:∀{k k1:qr Item},exitTo id k=some k1->k1<:+k
 |[],k1,h=>by cases h
 |x::k,k1,h=>by
  cases x with
  |inBlock j=>
   unfold exitTo at h;split at h
   ·grind
   ·exact(Kk h).trans (List.suffix_cons _ _)
  |_=>exact(Kk (k:=k) h).trans (List.suffix_cons _ _)
theorem Kj{id:Nat}{k:qr Item}:∀{T T1:qr Item},exitTo id T=some T1->exitTo id (T++k)=some (T1++k)
 |[],T1,h=>by cases h
 |x::T,T1,h=>by
  cases x with
  |inBlock j=>
   unfold exitTo at h⊢;simp only[ec];split at h
   ·rename_i q;cases h;simp[q]
   ·rename_i q;simp only[q];exact Kj h
  |_=>exact Kj (T:=T) h
def FA(tmps:Array H1):ResultVar->Sem H1
 | .tmp t=>pure (tmps.getD t undef)
 | .cell a t=>do loadVar t (<-asAddr (tmps.getD a undef))
theorem Km{P:Program}{T:TT}(HT:fA P T){st:St}:∀{rs:qr ResultVar}{K:qr SV->Hx β}{b:β},vp T st rs K=some b->
 ∃svs,K svs=some b/\∀{B:Bs}{σ:Ren}{a:Act}{w:jp},dH B σ st a w->∃vs,(rs.mapM (FA a.tmps)).run P w=.ok vs w/\fm σ svs vs
 |[],K,b,e=>⟨[],e,λR=>⟨[],rfl,.nil⟩⟩
 | .tmp t::rs,K,b,e=>by obtain⟨v,h1,e⟩:=ax e;obtain⟨svs,k1,k2⟩:=Km HT e;refine⟨v::svs,k1,λ{B σ a w} R=>?_⟩;obtain⟨vs,v1,v2⟩:=k2 R;refine⟨_::vs,?_,.cons (R.ev t v h1) v2⟩;simp only[List.mapM_cons,FA,dA,eX,eW,v1];rfl
 | .cell a0 t::rs,K,b,e=>by
  obtain⟨p,h1,e⟩:=ax e;obtain⟨sv,g1,g2⟩:=WU HT e;obtain⟨svs,k1,k2⟩:=Km HT g1;refine⟨sv::svs,k1,λ{B σ a w} R=>?_⟩;obtain⟨vs,v1,v2⟩:=k2 R;have d:=R.ev a0 p h1;obtain⟨u,u1,u2⟩:=g2 R.mem _ d;refine⟨u::vs,?_,.cons u2 v2⟩;generalize hp:a.eval (.tmp a0)=q at d u1;obtain⟨ad,rfl⟩:∃ad,q=.pointer (some ad):=by
   unfold Instr.loadAt Instr.sureAddr at u1;cases q with
   |pointer ad=>cases ad with
    |some ad=>exact⟨ad,rfl⟩
    |none=>simp at u1
   |_=>simp at u1
  have hq:a.tmps.getD a0 undef=.pointer (some ad):=hp;have hA:(asAddr (.pointer (some ad))).run P w=.ok ad w:=rfl;have g7:(loadVar t ad).run P w=.ok u w:=by unfold Instr.loadAt Instr.sureAddr at u1;simpa using u1
  simp only[List.mapM_cons,FA,hq,dA,eX,eW,hA,g7,v1]
theorem Ko{P:Program}{C:Ctx β}{fn:Func}{B:Bs}(HT:fA P C.X.T)(hf:fn.results.toList=C.rs){st:St}{b:β}(e:cond C.df (C.iD (.aG []) st) (vp C.X.T st C.rs (Ay C.iD st))=some b){σ:Ren}{a:Act}{w:jp}(R:dH B σ st a w):
 ∃σ st sv,dH B σ st a w/\C.iD sv st=some b/\cond C.df (sv=.aG []) (∃v,(results fn a.tmps).run P w=.ok v w/\DV σ sv v):=by
 cases hdf:C.df with
 |true=>rw[hdf] at e;exact⟨σ,st,_,R,e,rfl⟩
 |false=>
  rw[hdf] at e;obtain⟨svs,k1,k2⟩:=Km HT e;obtain⟨vs,v1,v2⟩:=k2 R;have e0:results fn a.tmps=(do let vs<-Array.mapM (FA a.tmps) fn.results;pure (if h:vs.size=1 then vs[0] else .tuple vs)):=by
   unfold results
   congr 2
  have run:(results fn a.tmps).run P w=.ok (if h:vs.toArray.size=1 then vs.toArray[0] else .tuple vs.toArray) w:=by rw[e0,Array.mapM_eq_mapM_toList,hf];simp[v1]
  have hl:=v2.1;unfold Ay at k1;split at k1
  ·obtain⟨v,l,rfl,d,t⟩:=v2.inv;have:=t.ee;subst this;exact⟨σ,st,_,R,k1,v,by rw[run];rfl,d⟩
  ·rename_i cL;refine⟨σ,st,_,R,k1,_,by rw[run,dif_neg];intro hh;simp at hh;rw[hh] at hl;match svs,hl with|[v],_=>exact cL v rfl,.aG v2.1 v2.2⟩
section
variable{P:Program} {C:Ctx β} {fn:Func} {B:Bs}
def P3(P:Program)(C:Ctx β)(fn:Func)(B:Bs)(r:jW β)(k:qr Item):Prop:=
 ∀ls b st',iM r.t.ks r.F ls=some b->iE r.t ls=some st'->∀{σ:Ren}{a:Act}{w:jp},dH B σ st' a w->nu P k (uR P C fn B b) a w
def lK(P:Program)(C:Ctx β)(fn:Func)(B:Bs)(rs:qr (jW β))(todo:qr Item):Prop:=
 ∀r∈rs,∃k,k.length=r.len/\k<:+todo/\P3 P C fn B r k
theorem lK.tail{rs:qr (jW β)}{x:Item}{k:qr Item}(h:lK P C fn B rs (x::k))(hn:vy (x::k).length rs=none):lK P C fn B rs k:=by intro r hr;obtain⟨k1,a,b,g⟩:=h r hr;have:=Sl hn r hr;refine⟨k1,a,?_,g⟩;rcases List.suffix_cons_iff.1 b with e|e<;>grind
theorem lK.push{rs:qr (jW β)}{k:qr Item}(h:lK P C fn B rs k)(x:Item):lK P C fn B rs (x::k):=λr hr=>by
 obtain⟨k1,a,b,g⟩:=h r hr
 grind
theorem lK.trim{rs:qr (jW β)}{k k1:qr Item}(h:lK P C fn B rs k)(s:k1<:+k):lK P C fn B (zx k1.length rs) k1:=λr hr=>by obtain⟨a,b⟩:=PQ hr;obtain⟨k2,a2,b2,g⟩:=h r a;exact⟨k2,a2,List.suffix_of_suffix_length_le b2 s (by omega),g⟩
theorem lK.add{rs:qr (jW β)}{k:qr Item}(h:lK P C fn B rs k){t:cQ}{F:Fn t.ks (Hx β)}(g:P3 P C fn B ⟨k.length,t,F⟩ k):lK P C fn B (⟨k.length,t,F⟩::rs) k:=λr hr=>by
 rcases cZ.1 hr with rfl|hr
 ·grind
 ·exact h r hr
set_option maxHeartbeats 2000000 in
theorem tB[QF](OK:iR P C.X)(mx:P.follows .mixedOrders=true)(PT:nw P C.pt)(hf:fn.results.toList=C.rs)(hn:B.n=C.n)(ha:B.an=C.an):
 ∀(f:Nat)(rs:qr (jW β))(todo:qr Item)(st:St)(b:β),dn C f rs todo st=some b->lK P C fn B rs todo->∀{σ:Ren}{a:Act}{w:jp},dH B σ st a w->nu P todo (uR P C fn B b) a w
 |0,rs,todo,st,b,e,_,σ,a,w,R=>by cases e
 |f+1,rs,todo,st,b,e,RO,σ,a,w,R=>by
  have ih:=tB OK mx PT hf hn ha f;replace e:JO C (dn C f) rs todo st=some b:=e;unfold JO at e;rw[<-ha] at e;split at e
  ·rename_i r hh;obtain⟨hm,hl⟩:=Sm hh;obtain⟨k,k1,k2,g⟩:=RO r hm;have:k=todo:=k2.eq_of_length (by rw[k1,hl]);subst this;obtain⟨ls,h1,st',h2,_,h3⟩:=vn e;obtain⟨σ',R',M'⟩:=h3 R.ev R.mem;replace R':dH B σ' st' a w:=⟨R.size,R.dX,R',M'⟩;exact g ls b st' h1 h2 R'
  ·rename_i hh;split at e
   ·exactλb0 k cs=>⟨.normal,a,w,Ko OK.T hf e R,.refl _ _⟩
   ·exactλb0 k cs=>⟨.ret,a,w,Ko OK.T hf e R,_,.one step_ret⟩
   ·exact(ih _ _ _ _ e (RO.tail hh) R).step λ_ _ _=>step_skip
   ·exact(ih _ _ _ _ e (RO.tail hh) R).step λ_ _ _=>step_label
   ·exact(ih _ _ _ _ e (RO.tail hh) R).step λ_ _ _=>step_inBlock
   ·exact(ih _ _ _ _ e (RO.tail hh) R).step λ_ _ _=>step_inScope
   ·rename_i x y k;have plain:dn C f rs (.code x::.code y::k) st=some b->nu P (.code (.seq x y)::k) (uR P C fn B b) a w:=λe=>
     (ih _ _ _ _ e (((RO.tail hh).push _).push _) R).step λ_ _ _=>step_seq
    split at e
    ·split at e
     ·rename_i t _;refine(ih _ _ _ _ e (lK.push (lK.add ((RO.tail hh).push (.code y)) ?_) _) R).step λ_ _ _=>step_seq;intro ls b' st' h1 h2 σ' a' w' R';obtain⟨st2,g1,g2⟩:=ax (nB _ _ _ _ h1);rw[h2] at g1;cases g1;exact ih _ _ _ _ g2 ((RO.tail hh).push _) R'
     ·exact plain e
    ·exact plain e
   ·rename_i q x y k;obtain⟨v,hv,e⟩:=ax e;split at e
    ·rename_i z;have hs:=ahV hv;have R':dH B σ (ym q z st) a w:=⟨R.size,R.dX,R.ev.sub hs.1,by rw[hs.2.1,hs.2.2];exact R.mem⟩;have d:=(ej R.ev hv).bv;cases z with
     |true=>exact(ih _ _ _ _ e ((RO.tail hh).push _) R').step λ_ _ _=>step_cond d
     |false=>exact(ih _ _ _ _ e ((RO.tail hh).push _) R').step λ_ _ _=>step_cond d
    ·cases e
   ·exact(ih _ _ _ _ e (((RO.tail hh).push _).push _) R).step λ_ _ _=>step_block
   ·exact(ih _ _ _ _ e (((RO.tail hh).push _).push _) R).step λ_ _ _=>step_inLoop
   ·rename_i x k;obtain⟨key,_,e⟩:=ax e;cases hu:C.un key with
    |true=>rw[hu] at e;exact(ih _ _ _ _ e (((RO.tail hh).push _).push _) R).step λ_ _ _=>step_loop
    |false=>
    rw[hu] at e;obtain⟨t,_,e⟩:=ax e;have head:∀(n:Nat),∀ls b st',iM t.ks (lp (iZ t.ks) (λrec=>lX t.ks λls=>ob (iE t ls) λst'=>dn C f (⟨(Item.inLoop x::k).length,t,rec⟩::rs) (.code x::.inLoop x::k) st') n) ls=some b->iE t ls=some st'->
     ∀{σ:Ren}{a:Act}{w:jp},dH B σ st' a w->nu P (.code x::.inLoop x::k) (uR P C fn B b) a w:=by
     intro n;induction n with
     |zero=>intro ls b st' h1;exact(zX _ _ _ h1).elim
     |succ n ihn=>intro ls b' st' h1 h2 σ' a' w' R';obtain⟨st2,g1,g2⟩:=ax (nB _ _ _ _ h1);rw[h2] at g1;cases g1;refine ih _ _ _ _ g2 (lK.push (lK.add ((RO.tail hh).push (.inLoop x)) ?_) _) R';intro ls b2 st2 q1 q2 σ2 a2 w2 R2;exact(ihn ls b2 st2 q1 q2 R2).step λ_ _ _=>step_inLoop
    obtain⟨ls,h1,st',h2,_,h3⟩:=vn e;obtain⟨σ',R',M'⟩:=h3 R.ev R.mem;replace R':dH B σ' st' a w:=⟨R.size,R.dX,R',M'⟩;exact(head _ ls b st' h1 h2 R').step λ_ _ _=>step_loop
   ·exact(ih _ _ _ _ e (((RO.tail hh).push _).push _) R).step λ_ _ _=>step_scope
   ·rename_i l k;obtain⟨k1,h1,e⟩:=ax e;exact(ih _ _ _ _ e ((RO.tail hh).trim (Kk h1)) R).step λ_ _ _=>step_exit (Kj h1)
   ·rename_i l ops d k;obtain⟨st0,e,hfz⟩:=abi e;obtain⟨σ0,R0⟩:=hfz R;obtain⟨sta,e,hfz⟩:=abh e;obtain⟨σa,Ra⟩:=hfz R0;obtain⟨stb,e,hfz⟩:=abf e;obtain⟨σb,Rb⟩:=hfz Ra;obtain⟨st1,e,hfz⟩:=abj e;obtain⟨σ1,R1⟩:=hfz Rb;have fin:∀{q:Hx SV}{st':St},(match q with|none=>AD (vu C.un (500000+l)) ops.toList st' λst'=>dn C f rs k st'|some v=>C.mf v st')=some b->uT B q st' λe a w=>match e with| .normal=>nu P k (uR P C fn B b) a w| .panic ch=>uR P C fn B b (.panic ch) a w|_=>False:=by
     intro q st' g σ a w R;cases q with
     |none=>obtain⟨st2,g,hz⟩:=abg g;obtain⟨σ2,R2⟩:=hz R;exact ih _ _ _ _ g (RO.tail hh) R2
     |some sv=>exactλv dv=>⟨σ,st',sv,v,R,g,rfl,dv⟩
    cases d with
    |true=>obtain⟨q,st',g1,g2⟩:=aaE OK PT mx (id:=l) e;exact .code (g2 hn R1 _ (fin g1))
    |false=>obtain⟨q,st',g1,g2⟩:=BS OK PT ops.toList 0 (λi o ho=>by rw[fU,<-mC];exact ho) _ _ _ e;refine .code (wp_region ?_);rw[(show List.range ops.size=List.range' 0 ops.toList.length from by rw[List.range_eq_range'];simp)];exact g2 hn R1 _ (fin g1)
   ·cases e
   ·cases e
end
end
section
variable{β:Type}
theorem Kt{f:Nat}(h:f<65536)(ys:qr H1):rW f ys=.func (.func f) #[] ⟨ys⟩:=by unfold rW;rw[qH h,Nat.div_eq_of_lt h];rfl
noncomputable def cO(m:Nat->Nat->Hx H1)(w w':jp)(b i:Nat):Hx H1:=
 if b<w.heap.size then m b i else fP w' b i
def Kn(m:Nat->Nat->Hx H1)(w:jp):Prop:=∀b i v,m b i=some v->fP w b i=some v
theorem Kn.below{m:Nat->Nat->Hx H1}{w w':jp}(h:Kn m w)(B:RowKit.Below w.heap.size w w'):Kn m w':=λb i v hv=>
 (r8 (B.block b (mP (h b i v hv)))).trans (h b i v hv)
theorem Kn.new{m:Nat->Nat->Hx H1}{w w':jp}(h:Kn m w)(B:RowKit.Below w.heap.size w w'):Kn (cO m w w') w':=λb i v hv=>by
 unfold cO at hv;split at hv
 ·exact h.below B b i v hv
 ·exact hv
theorem Kn.mono{m:Nat->Nat->Hx H1}{w w':jp}(h:Kn m w):∀b i v,m b i=some v->cO m w w' b i=some v:=λb i v hv=>by unfold cO;rw[ay (mP (h b i v hv))];exact hv
def LK.ty:LK->Type
 | .i=>Int
 | .b=>Bool
 | .s=>ByteArray
 | .v=>H1
 | .c=>qr H1
 | .n=>Nat
def bO:qr LK->Type
 |[]=>Unit
 |[k]=>k.ty
 |k::l::ks=>k.ty×bO (l::ks)
def JJ:(k:LK)->bt->Hx k.ty
 | .i,.i x=>some x
 | .b,.b x=>some x
 | .s,.s x=>some x
 | .v,.v x=>some x
 | .c,.c x=>some x
 | .n,.n x=>some x
 |_,_=>none
def wQ:(k:LK)->k.ty->bt
 | .i,x=>.i x
 | .b,x=>.b x
 | .s,x=>.s x
 | .v,x=>.v x
 | .c,x=>.c x
 | .n,x=>.n x
def dec:(ks:qr LK)->qr bt->Hx (bO ks)
 |[],[]=>some ()
 |[k],[l]=>JJ k l
 |k::l::ks,x::xs=>ob (JJ k x) λa=>ob (dec (l::ks) xs) λb=>some (a,b)
 |_,_=>none
def gS:(ks:qr LK)->bO ks->qr bt
 |[],_=>[]
 |[k],x=>[wQ k x]
 |k::l::ks,x=>wQ k x.1 ::gS (l::ks) x.2
theorem QY:∀(k:LK)(l:bt)(x:k.ty),JJ k l=some x->wQ k x=l:=by intro k l x e;cases k<;>cases l<;>first|cases e;rfl|cases e
theorem qj:∀(ks:qr LK)(ls:qr bt)(x:bO ks),dec ks ls=some x->gS ks x=ls
 |[],[],x,e=>rfl
 |[],_::_,x,e=>by cases e
 |[k],[l],x,e=>by have:=QY k l x e;show[wQ k x]=[l];rw[this]
 |[k],[],x,e=>by cases e
 |[k],_::_::_,x,e=>by cases e
 |k::l::ks,[],x,e=>by cases e
 |k::l::ks,y::ys,x,e=>by obtain⟨a,h1,e⟩:=ax e;obtain⟨b,h2,e⟩:=ax e;cases e;show wQ k a::gS (l::ks) b=y::ys;rw[QY k y a h1,qj (l::ks) ys b h2]
def oS:qr SV->Nat->Tr SV->Tr SV
 |[],_,t=>t
 |v::vs,n,t=>oS vs (n+1) (t.set n v)
theorem JQ:∀(vts:qr VT)(ls r1:qr bt)(pvs:qr H1),fV vts ls=some (pvs,r1)->pvs.length=vts.length
 |[],ls,_,pvs,e1=>by cases e1;rfl
 |t::ts,ls,_,pvs,e1=>by obtain⟨⟨a,b⟩,h1,e1⟩:=ax e1;obtain⟨⟨a',b'⟩,h1',e1⟩:=ax e1;cases e1;simp[JQ ts b _ _ h1']
mutual
def qB:VT->Bool
 | .i _=>true
 | .b=>true
 | .s=>true
 | .agg l=>BR l
 | .aG l=>BR l
 |_=>false
def BR:qr VT->Bool
 |[]=>true
 |x::xs=>qB x&&BR xs
end
theorem JR:∀(vts:qr VT)(ls r1:qr bt)(pvs:qr H1),qP vts=true->fE ls->fV vts ls=some (pvs,r1)->bh pvs=true/\fE r1
 |[],ls,_,pvs,_,h,e1=>by cases e1;exact⟨rfl,h⟩
 |t::ts,ls,_,pvs,ht,h,e1=>by
  obtain⟨⟨a,b⟩,h1,e1⟩:=ax e1;obtain⟨⟨a',b'⟩,h1',e1⟩:=ax e1;cases e1;have one:bh [a]=true/\fE b/\qP ts=true:=by
   cases t with
   |i k=>
    cases ls with
    |nil=>cases h1
    |cons l ls=>cases l<;>first|(cases h1;exact⟨rfl,h.tail,ht⟩)|cases h1
   |b=>
    cases ls with
    |nil=>cases h1
    |cons l ls=>cases l<;>first|(cases h1;exact⟨rfl,h.tail,ht⟩)|cases h1
   |s=>
    cases ls with
    |nil=>cases h1
    |cons l ls=>cases l<;>first|(cases h1;exact⟨rfl,h.tail,ht⟩)|cases h1
   |v=>
    cases ls with
    |nil=>cases h1
    |cons l ls=>cases l<;>first|(cases h1;exact⟨h _ nY,h.tail,ht⟩)|cases h1
   |_=>cases ht
  obtain⟨o1,o2,o3⟩:=one;obtain⟨k1,k2⟩:=JR ts b _ _ o3 o2 h1';exact⟨by rw[qX,o1,k1];rfl,k2⟩
mutual
theorem JS:∀(vt:VT)(ls r1 r2:qr bt)(pv:H1)(sv:SV),fE ls->kb vt ls=some (pv,r1)->IC vt ls=some (sv,r2)->r1=r2/\(∀{σ:Ren}{v:H1},aN σ.lit pv v->DV σ sv v)/\fE r1
 | .i k,.i n::ls,_,_,pv,sv,h,e1,e2=>by cases e1;cases e2;exact⟨rfl,λr=>(by cases r;exact .i _ _),h.tail⟩
 | .b,.b n::ls,_,_,pv,sv,h,e1,e2=>by cases e1;cases e2;exact⟨rfl,λr=>(by cases r;exact .b _),h.tail⟩
 | .s,.s n::ls,_,_,pv,sv,h,e1,e2=>by cases e1;cases e2;exact⟨rfl,λr=>(by cases r;exact .s _),h.tail⟩
 | .v,.v n::ls,_,_,pv,sv,h,e1,e2=>by cases e1;cases e2;exact⟨rfl,λr=>.v r (h n nY),h.tail⟩
 | .agg ts,ls,r1,r2,pv,sv,h,e1,e2=>by
  obtain⟨⟨a,b⟩,h1,e1⟩:=ax e1;obtain⟨⟨c,d⟩,h2,e2⟩:=ax e2;cases e1;cases e2;obtain⟨g0,g1,g2⟩:=xA ts ls _ _ _ _ h h1 h2;refine⟨g0,λr=>?_,g2⟩;cases r with
  |agg hl k=>have q:=g1 ⟨hl,k⟩;exact .agg q.1 q.2
 | .aG ts,ls,r1,r2,pv,sv,h,e1,e2=>by
  obtain⟨⟨a,b⟩,h1,e1⟩:=ax e1;obtain⟨⟨c,d⟩,h2,e2⟩:=ax e2;cases e1;cases e2;obtain⟨g0,g1,g2⟩:=xA ts ls _ _ _ _ h h1 h2;refine⟨g0,λr=>?_,g2⟩;cases r with
  |aG hl k=>have q:=g1 ⟨hl,k⟩;exact .aG q.1 q.2
 | .fn g ts,ls,r1,r2,pv,sv,h,e1,e2=>by
  obtain⟨hg,e1⟩:=bd e1;obtain⟨_,e2⟩:=bd e2;obtain⟨⟨a,b⟩,h1,e1⟩:=ax e1;obtain⟨⟨c,d⟩,h2,e2⟩:=ax e2;cases e1;cases e2;obtain⟨g0,g1,g2⟩:=xA ts ls _ _ _ _ h h1 h2;refine⟨g0,λr=>?_,g2⟩;cases r with
  |fn hl hh kl k=>
   rename_i xs' ys';have q:=g1 ⟨kl,k⟩;have e0:xs'=#[]:=by simpa using hl.symm
   rw[e0,show(Value.func (.func g) #[] ys')=rW g ys'.toList from(Kt (fb hg) _).symm];exact .fn q.1 q.2
 | .lp ts,ls,r1,r2,pv,sv,h,e1,e2=>by obtain⟨q,e1⟩:=bd e1;obtain⟨_,e2⟩:=bd e2;obtain⟨⟨a,b⟩,h1,e1⟩:=ax e1;obtain⟨⟨c,d⟩,h2,e2⟩:=ax e2;cases e1;cases e2;rw[h1] at h2;cases h2;exact⟨rfl,λr=>.lp r,(JR ts ls _ _ q h h1).2⟩
 | .em b,ls,_,_,pv,sv,h,e1,e2=>by cases e1;cases e2;exact⟨rfl,λr=>.em r,h⟩
 | .nf,ls,_,_,pv,sv,h,e1,e2=>by cases e1;cases e2;exact⟨rfl,λr=>.v r rfl,h⟩
theorem xA:∀(vts:qr VT)(ls r1 r2:qr bt)(pvs:qr H1)(svs:qr SV),fE ls->fV vts ls=some (pvs,r1)->wJ vts ls=some (svs,r2)->r1=r2/\(∀{σ:Ren}{vs:qr H1},PW (aN σ.lit) pvs vs->fm σ svs vs)/\fE r1
 |[],ls,_,_,pvs,svs,h,e1,e2=>by cases e1;cases e2;exact⟨rfl,λr=>(by rw[r.ee];exact .nil),h⟩
 |t::ts,ls,_,_,pvs,svs,h,e1,e2=>by obtain⟨⟨a,b⟩,h1,e1⟩:=ax e1;obtain⟨⟨a',b'⟩,h1',e1⟩:=ax e1;obtain⟨⟨c,d⟩,h2,e2⟩:=ax e2;obtain⟨⟨c',d'⟩,h2',e2⟩:=ax e2;cases e1;cases e2;obtain⟨g0,g1,g2⟩:=JS t ls _ _ _ _ h h1 h2;subst g0;obtain⟨k0,k1,k2⟩:=xA ts b _ _ _ _ g2 h1' h2';refine⟨k0,λr=>?_,k2⟩;obtain⟨_,_,rfl,r1,r2⟩:=r.inv;exact .cons (g1 r1) (k1 r2)
end
def Plain(pv:H1):Prop:=∀(m m':Nat->Nat->Hx H1)(x:H1),aN m pv x->aN m' pv x
mutual
theorem Xe:∀(vt:VT)(ls r1:qr bt)(pv:H1),qB vt=true->kb vt ls=some (pv,r1)->Plain pv
 | .i k,.i n::ls,_,pv,_,e1=>by cases e1;intro m m' x h;cases h;exact .int _ _
 | .b,.b n::ls,_,pv,_,e1=>by cases e1;intro m m' x h;cases h;exact .bool _
 | .s,.s n::ls,_,pv,_,e1=>by cases e1;intro m m' x h;cases h;exact .str _
 | .agg ts,ls,r1,pv,ht,e1=>by
  obtain⟨⟨a,b⟩,h1,e1⟩:=ax e1;cases e1;intro m m' x h;cases h with
  |agg hl r=>have q:=NN ts ls _ _ (by unfold qB at ht;exact ht) h1 m m' _ ⟨hl,r⟩;exact .agg q.1 q.2
 | .aG ts,ls,r1,pv,ht,e1=>by
  obtain⟨⟨a,b⟩,h1,e1⟩:=ax e1;cases e1;intro m m' x h;cases h with
  |aG hl r=>have q:=NN ts ls _ _ (by unfold qB at ht;exact ht) h1 m m' _ ⟨hl,r⟩;exact .aG q.1 q.2
 | .v,ls,r1,pv,ht,_=>by unfold qB at ht;cases ht
 | .fn _ _,ls,r1,pv,ht,_=>by unfold qB at ht;cases ht
 | .lp _,ls,r1,pv,ht,_=>by unfold qB at ht;cases ht
 | .em _,ls,r1,pv,ht,_=>by unfold qB at ht;cases ht
 | .nf,ls,r1,pv,ht,_=>by unfold qB at ht;cases ht
theorem NN:∀(vts:qr VT)(ls r1:qr bt)(pvs:qr H1),BR vts=true->fV vts ls=some (pvs,r1)->∀(m m':Nat->Nat->Hx H1)(xs:qr H1),PW (aN m) pvs xs->PW (aN m') pvs xs
 |[],ls,_,pvs,_,e1=>by cases e1;exactλm m' xs h=>by rw[h.ee];exact .nil
 |t::ts,ls,_,pvs,ht,e1=>by obtain⟨⟨a,b⟩,h1,e1⟩:=ax e1;obtain⟨⟨a',b'⟩,h1',e1⟩:=ax e1;cases e1;unfold BR at ht;rw[bB] at ht;intro m m' xs h;obtain⟨_,_,rfl,r1,r2⟩:=h.inv;exact .cons (Xe t ls _ _ ht.1 h1 m m' _ r1) (NN ts b _ _ ht.2 h1' m m' _ r2)
end
mutual
theorem Kv{st:St}:∀(vt:VT)(sv:SV)(K:qr bt->Hx β)(b:β),AB st vt sv K=some b->
 ∃ls,K ls=some b/\∀rest,∃pv,kb vt (ls++rest)=some (pv,rest)/\∀{σ:Ren}{m:Nat->Nat->Hx H1}{w:jp}{v:H1},Seen σ m st.h w->DV σ sv v->aN m pv v/\fE ls:=by
 intro vt sv K b e;have none:fE []:=fE.nil;have skip:∀{l:bt},(∀x,bt.v x≠l)->fE [l]:=λh x hx=>by simp at hx;exact absurd hx (h x)
 unfold AB at e;split at e
 ·obtain⟨e1,f⟩:=bd e;have:=oh e1;subst this;exact⟨_,f,λrest=>⟨_,rfl,λS d=>by cases d;exact⟨.int _ _,skip (by simp)⟩⟩⟩
 ·exact⟨_,e,λrest=>⟨_,rfl,λS d=>by cases d;exact⟨.bool _,skip (by simp)⟩⟩⟩
 ·exact⟨_,e,λrest=>⟨_,rfl,λS d=>by cases d;exact⟨.str _,skip (by simp)⟩⟩⟩
 ·exact⟨_,e,λrest=>⟨_,rfl,λS d=>by cases d with|v p q=>exact⟨p.mono S.lit,.one q⟩⟩⟩
 ·exact⟨_,e,λrest=>⟨_,rfl,λS d=>by cases d;exact⟨.gy,.one rfl⟩⟩⟩
 ·exact⟨_,e,λrest=>⟨_,rfl,λS d=>by cases d;exact⟨.nilIface,.one rfl⟩⟩⟩
 ·replace e:=ax e;obtain⟨u,hu,f⟩:=e;exact⟨_,f,λrest=>⟨_,rfl,λS d=>⟨(oC S _ _ _ _ hu d).1,.one (oC S _ _ _ _ hu d).2⟩⟩⟩
 ·replace e:=ax e;obtain⟨u,hu,f⟩:=e;exact⟨_,f,λrest=>⟨_,rfl,λS d=>⟨(oC S _ _ _ _ hu d).1,.one (oC S _ _ _ _ hu d).2⟩⟩⟩
 ·replace e:=ax e;obtain⟨u,hu,f⟩:=e;exact⟨_,f,λrest=>⟨_,rfl,λS d=>⟨(oC S _ _ _ _ hu d).1,.one (oC S _ _ _ _ hu d).2⟩⟩⟩
 ·exact⟨_,e,λrest=>⟨_,rfl,λS d=>by cases d with|em h=>exact⟨h.mono S.lit,none⟩⟩⟩
 ·exact⟨_,e,λrest=>⟨_,rfl,λS d=>by cases d with|em h=>exact⟨h.mono S.lit,none⟩⟩⟩
 ·exact⟨_,e,λrest=>⟨_,rfl,λS d=>by cases d with|v h=>exact⟨h.mono S.lit,none⟩⟩⟩
 ·rename_i ts l;obtain⟨ls,h1,h3⟩:=vv ts l K b e;refine⟨ls,h1,λrest=>?_⟩;obtain⟨pvs,p1,p3⟩:=h3 rest;refine⟨.agg ⟨pvs⟩,by unfold kb;rw[p1];rfl,λS d=>?_⟩;cases d with
  |agg hl g=>have⟨q,k⟩:=p3 S ⟨hl,g⟩;exact⟨.agg q.1 q.2,k⟩
 ·rename_i ts l;obtain⟨ls,h1,h3⟩:=vv ts l K b e;refine⟨ls,h1,λrest=>?_⟩;obtain⟨pvs,p1,p3⟩:=h3 rest;refine⟨.tuple ⟨pvs⟩,by unfold kb;rw[p1];rfl,λS d=>?_⟩;cases d with
  |aG hl g=>have⟨q,k⟩:=p3 S ⟨hl,g⟩;exact⟨.aG q.1 q.2,k⟩
 ·rename_i g0 ts g0' l;obtain⟨e1,f⟩:=bd e;have:=bX e1;subst this;obtain⟨e2,f⟩:=bd f;obtain⟨ls,h1,h3⟩:=vv ts l K b f;refine⟨ls,h1,λrest=>?_⟩;obtain⟨pvs,p1,p3⟩:=h3 rest;refine⟨.func (.func g0) #[] ⟨pvs⟩,by unfold kb;rw[e2,aE,p1];rfl,λS d=>?_⟩;cases d with
  |fn hl g=>have⟨q,k⟩:=p3 S ⟨hl,g⟩;rw[Kt (fb e2)];exact⟨.fn rfl (λi x y h=>by simp at h) q.1 q.2,k⟩
 ·rename_i ts cs;obtain⟨e1,f⟩:=bd e;obtain⟨ls,h1,h2,h3⟩:=AU ts cs K b f;refine⟨ls,h1,λrest=>⟨Ex cs,by unfold kb;rw[e1,h3];rfl,λS d=>?_⟩⟩;cases d with
  |lp p=>exact⟨p.mono S.lit,h2 (by cases p with|vP _ _ _ _ ho=>exact ho)⟩
 ·rename_i ts id off;replace e:=ax e;obtain⟨so,hso,f⟩:=e;split at f
  ·rename_i c t;obtain⟨e1,f1⟩:=bd f;rw[bB] at e1;obtain⟨ls,h1,h3⟩:=vv ts (c.drop off) K b f1;refine⟨ls,h1,λrest=>?_⟩;obtain⟨pvs,p1,p3⟩:=h3 rest;refine⟨Ex pvs,by unfold kb;rw[e1.2,p1];rfl,λS d=>?_⟩;obtain⟨o,n,cs,g1,g2,g3⟩:=S.obj _ _ hso;have⟨q,k⟩:=p3 S (g3.drop off);cases d with
   |ptr g=>
    have g':=g.symm.trans g1;simp only[sX,Prod.mk.injEq] at g';obtain⟨rfl,rfl⟩:=g';obtain⟨pvs',p1',_⟩:=h3 [];rw[ea] at p1';have on:bh pvs=true:=by obtain⟨pvs2,p2,p4⟩:=h3 [];rw[ea] at p2;have⟨q2,k2⟩:=p4 S (g3.drop off);have:=(JR ts ls [] pvs2 e1.2 k2 p2).1;refine iW.2 λx hx=>?_;obtain⟨i,hi⟩:=List.mem_iff_getElem?.1 hx;obtain⟨y,y1,y2⟩:=q.get hi;have hl:=q2.1;have hl':=(oW.1 y1).1;have z:=q2.2 i pvs2[i] y (by simp) y1;have:=iW.1 this _ (cA (by omega:i<pvs2.length));rw[<-y2.one,z.one];exact this
    refine⟨.vP q.1 q.2 (λi y hy=>?_) rfl on,k⟩;rw[sV] at hy;exact S.of hso g g2 hy
  ·cases f
 ·cases e
theorem vv{st:St}:∀(vts:qr VT)(svs:qr SV)(K:qr bt->Hx β)(b:β),rX st vts svs K=some b->
 ∃ls,K ls=some b/\∀rest,∃pvs,fV vts (ls++rest)=some (pvs,rest)/\∀{σ:Ren}{m:Nat->Nat->Hx H1}{w:jp}{vs:qr H1},Seen σ m st.h w->fm σ svs vs->PW (aN m) pvs vs/\fE ls:=by
 intro vts svs K b e;unfold rX at e;split at e
 ·exact⟨_,e,λrest=>⟨_,rfl,λS d=>⟨by rw[d.ee];exact .nil,fE.nil⟩⟩⟩
 ·rename_i t ts x xs;obtain⟨l1,h1,h3⟩:=Kv t x _ b e;obtain⟨l2,g1,g3⟩:=vv ts xs _ b h1;refine⟨l1++l2,g1,λrest=>?_⟩;obtain⟨p1,a1,a3⟩:=h3 (l2++rest);obtain⟨p2,b1,b3⟩:=g3 rest;refine⟨p1::p2,?_,λS d=>?_⟩
  ·rw[dM];unfold fV;rw[a1];show ob (fV ts (l2++rest)) _=_;rw[b1];rfl
  ·obtain⟨_,_,rfl,d1,d2⟩:=d.inv;have⟨x1,x2⟩:=a3 S d1;have⟨y1,y2⟩:=b3 S d2;exact⟨.cons x1 y1,x2.append y2⟩
 ·cases e
end
end
section
def xc(P:Program)(g:FuncId)(us:qr H1)(R:(Nat->Nat->Hx H1)->H1->Prop):Prop:=∀(m:Nat->Nat->Hx H1)(args':Array H1)(w:jp),Kn m w->PW (aN m) us args'.toList->
 Calls P g args' w λe w'=>∃v',e=.returned v'/\RowKit.Below w.heap.size w w'/\R (cO m w w') v'
def cS(P:Program)(g:FuncId)(avt:qr VT)(rvt:VT)(Sh:Fn (VT.fw avt) (Hx (bO rvt.ks))):Prop:=
 ∀ls r,iM (VT.fw avt) Sh ls=some r->fE ls->∀us,fV avt ls=some (us,[])->xc P g us λm v=>∃pv,kb rvt (gS rvt.ks r)=some (pv,[])/\fE (gS rvt.ks r)/\aN m pv v
theorem eZ.below{w w':jp}(h:eZ (λ_=>False) w w'):RowKit.Below w.heap.size w w':=⟨h.os,h.tape,h.output,h.size,λb hb=>h.block b hb id⟩
theorem eZ.Ls{w w':jp}(h:RowKit.Below w.heap.size w w'):eZ (λ_=>False) w w':=⟨h.os,h.tape,h.output,h.size,λb hb _=>h.block b hb⟩
theorem Mem.start{m:Nat->Nat->Hx H1}{w:jp}(K:Kn m w){n:Nat}{dX:qr Deferred}{F:Nat->Prop}:Mem ⟨w,λ_=>False,m,0,λ_=>none,n,dX⟩ ⟨λ_=>none,m⟩ (hG .nil) F w:=
 ⟨λid so h=>(pH h).elim,λi j so so' o o' n n' h=>(pH h).elim,λ_ _=>rfl,K,λb i v _ ⟨id,so,o,n,h,_⟩=>pH h,eZ.refl _ _,λb ⟨id,so,o,n,h,_⟩=>(pH h).elim,λb i v h=>.inl h,λk hk=>(Nat.not_lt_zero k hk).elim,λ_ _ _ h=>h⟩
theorem Mem.Xn{m:Nat->Nat->Hx H1}{w w':jp}(K:Kn m w){an n:Nat}{nm:Nat->Hx (Hx (Nat×Nat)×Nat)}{dX:qr Deferred}{F:Nat->Prop}{σ:Ren}{h:Tr SO}(M:Mem ⟨w,λ_=>False,m,an,nm,n,dX⟩ σ (hG h) F w'):Seen σ (cO m w w') h w':=by
 refine⟨λb i v q=>?_,M.obj,λid so ho o n hn i v hv=>?_⟩
 ·unfold cO;rcases M.mj b i v q with k|k|k
  ·rw[ay (mP (K b i v k))];exact k
  ·exact k.elim
  ·rw[aq (Nat.not_lt.2 k)];exact M.lit b i v q
 ·rcases M.owned o.1 ⟨id,so,o,_,ho,hn,rfl⟩ with k|k
  ·exact k.elim
  ·unfold cO;rw[aq (Nat.not_lt.2 k)];exact hv
theorem Yx:∀{svs:qr SV}{n:Nat}{T:Tr SV}{t:Nat}{sv:SV},(oS svs n T).get t=some sv->(∃i,t=n+i/\svs[i]? =some sv)\/T.get t=some sv
 |[],n,T,t,sv,h=>.inr h
 |x::svs,n,T,t,sv,h=>by
  rcases Yx (svs:=svs) h with⟨i,h1,h2⟩|h
  ·exact .inl ⟨i+1,by omega,h2⟩
  ·rw[Tr.fN] at h;split at h
   ·rename_i q;cases h;exact .inl ⟨0,q,rfl⟩
   ·exact .inr h
theorem CO{σ:Ren}{svs:qr SV}{args:Array H1}(d:fm σ svs args.toList){dX:qr Deferred}:Ev σ (oS svs 0 .nil) {tmps:=args,defers:=dX}:=λt sv h=>by
 rcases Yx h with⟨i,rfl,hi⟩|h
 ·obtain⟨y,h1,h2⟩:=d.get hi;rw[mC] at h1;simp only[Act.eval,fU,qD,h1,qI];exact h2
 ·rw[Tr.get_nil] at h;cases h
theorem tF{σ:Ren}{tm:Tr SV}{args:Array H1}{k:Nat}{dX dfs':qr Deferred}(R:Ev σ tm {tmps:=args,defers:=dX}):Ev σ tm {tmps:=args++Array.replicate k undef,defers:=dfs'}:=λt sv h=>by
 have e:(args++Array.replicate k undef).getD t undef=args.getD t undef:=by
  simp only[qD,Array.getElem?_append,Array.getElem?_replicate];split
  ·rfl
  ·rename_i q;rw[Array.getElem?_eq_none (Nat.not_lt.1 q)];split<;>rfl
 have:=R t sv h;simp only[Act.eval] at this⊢;rwa[e]
section
noncomputable def ZJ{β:Type}[QF](C:Ctx β)(N:Nat)(avt:qr VT)(body:Code)(ls:qr bt):Hx β:=
 ob (wJ avt ls) λq=>dn C N [] [.code body] ⟨oS q.1 0 .nil,.nil,0⟩
noncomputable def Jv[QF](w:Nat)(X:eL)(pt:(β:Type)->FuncId->Hx (cH β))(fn:Func)(avt:qr VT)(rvt:VT)(lv jv:Nat->Hx cQ)(un:Nat->Bool):Fn (VT.fw avt) (Hx (bO rvt.ks)):=
 lX (VT.fw avt) (ZJ {X:=X,pt:=pt _,n:=avt.length+(fn.ntmps -avt.length),rs:=fn.results.toList,lv:=lv,jv:=jv,un:=un,df:=false,fuel:=w,an:=0,iD:=λsv st=>AB st rvt sv (dec rvt.ks),mf:=λ_ _=>bJ 52} 100000 avt (fn.body.getD .skip))
def ju(P:Program)(pt:(β:Type)->FuncId->Hx (cH β)):Prop:=∀β,nw P (pt β)
theorem tX{P:Program}:ju P (λ_ _=>none):=λ_ g e h=>by cases h
theorem Aq{β:Type}{P:Program}{C:Ctx β}{fn:Func}{g:FuncId}{B:Bs}{b:β}{args:Array H1}{w:jp}{R:Ending->jp->Prop}(hf:P.funcs[g]? =some fn)(hb:fn.body=some (fn.body.getD .skip))(hd:C.df=false)(hB:B.dX=[])
 (G:nu P [.code (fn.body.getD .skip)] (uR P C fn B b) {tmps:=args++Array.replicate (fn.ntmps -args.size) undef,defers:=[]} w)
 (k:∀{σ:Ren}{st:St}{sv:SV}{a:Act}{w':jp}{v:H1},dH B σ st a w'->DV σ sv v->(C.iD sv st=some b->R (.returned v) w')/\(C.mf sv st=some b->R (.panicked [pe v]) w')):Calls P g args w R:=by
 refine calls_of_wp hf hb (wp_mono (λb k cs=>G b k cs) λx a w' q=>?_);cases x with
 |panic ch=>obtain⟨σ,st,sv,v,r,kp,rfl,d⟩:=q;exact⟨r.dX.trans hB,(k r d).2 kp⟩
 |normal=>obtain⟨σ,st,sv,r,kr,q⟩:=q;rw[hd] at q;obtain⟨v,q1,q2⟩:=q;exact⟨r.dX.trans hB,v,q1,(k r q2).1 kr⟩
 |ret=>obtain⟨σ,st,sv,r,kr,q⟩:=q;rw[hd] at q;obtain⟨v,q1,q2⟩:=q;exact⟨r.dX.trans hB,v,q1,(k r q2).1 kr⟩
 |_=>exact q.elim
theorem RT[QF]{P:Program}{X:eL}(OK:iR P X)(mx:P.follows .mixedOrders=true){pt:(β:Type)->FuncId->Hx (cH β)}(PT:ju P pt){g:FuncId}{fn:Func}{avt:qr VT}{rvt:VT}{lv jv:Nat->Hx cQ}{un:Nat->Bool}{w:Nat}{Sh:Fn (VT.fw avt) (Hx (bO rvt.ks))}
 (hF:X.F.get g=some fn) (hb:fn.body=some (fn.body.getD .skip)) (hS:Sh=Jv w X pt fn avt rvt lv jv un):cS P g avt rvt Sh:=by
 intro ls r e lo us hu m args' w0 K A;subst hS;have e1:=nB _ _ _ _ e;obtain⟨⟨svs,rest⟩,h1,e2⟩:=ax e1;obtain⟨_,q1,_⟩:=xA avt ls _ _ _ _ lo hu h1;have hl:args'.size=avt.length:=by rw[<-JQ _ _ _ _ hu,<-Array.length_toList];exact A.1.symm
 refine Aq (B:=⟨w0,λ_=>False,m,0,λ_=>none,avt.length+(fn.ntmps -avt.length),[]⟩) (OK.F _ _ hF).1 hb rfl rfl (tB OK mx (PT _) rfl rfl rfl _ _ _ _ _ e2 (λr hr=>by cases hr) (σ:=⟨λ_=>none,m⟩) ⟨by simp[hl],rfl,tF (CO (q1 A) (dX:=[])),Mem.start K⟩) λR d=>⟨λkr=>?_,λkp=>by cases kp⟩;obtain⟨ls',f1,f3⟩:=Kv _ _ _ _ kr;obtain⟨pv,g1,g3⟩:=f3 [];rw[ea,<-qj _ _ _ f1] at g1;obtain⟨z1,z2⟩:=g3 (Mem.Xn K R.mem) d;rw[<-qj _ _ _ f1] at z2;exact⟨_,rfl,R.mem.base.below,pv,g1,z2,z1⟩
end
theorem Mem.kn{B:Bs}{σ:Ren}{G A:Nat->SO->Prop}{F:Nat->Prop}{w:jp}(M:Mem B σ G F w):Kn (kH σ A w) w:=λb i v h=>by
 unfold kH at h;split at h
 ·exact h
 ·exact M.lit b i v h
section
variable{β:Type}
def JX(avt:qr VT)(rvt:VT)(Sh:Fn (VT.fw avt) (Hx (bO rvt.ks))):cH β:=λst args K=>
 cond (qB rvt)
  (rX st avt args λls=>ob (iM (VT.fw avt) Sh ls) λr=>ob (IC rvt (gS rvt.ks r)) λq=>K false q.1 st)
  (rX {st with h:=(jl 1000 (SV.kh args) .nil st.h).1 } avt args λls=>ob (iM (VT.fw avt) Sh ls) λr=>ob (IC rvt (gS rvt.ks r)) λq=>K false q.1 {st with h:=(jl 1000 (SV.kh args) .nil st.h).2 })
theorem aaL{P:Program}{g:FuncId}{avt:qr VT}{rvt:VT}{Sh:Fn (VT.fw avt) (Hx (bO rvt.ks))}(F:cS P g avt rvt Sh):mG P g (JX (β:=β) avt rvt Sh):=by
 intro st args K b e;unfold JX at e;cases hs:qB rvt with
 |true=>rw[hs] at e;obtain⟨ls,h1,h3⟩:=vv _ _ _ _ e;obtain⟨r,k1,h1⟩:=ax h1;obtain⟨⟨sv,rest⟩,k2,h1⟩:=ax h1;obtain⟨us,p1,p3⟩:=h3 [];rw[ea] at p1;refine⟨false,sv,st,h1,rfl,aM _,λ{B σ Fr w} _ M args' d=>?_⟩;obtain⟨A,lo⟩:=p3 (M.seen λ_ _ h=>h) d;refine Calls.mono (F ls r k1 lo us p1 _ args' w M.kn A) λx w' ⟨v',e1,Bl,pv,g1,g2,g3⟩=>?_;obtain⟨_,q,_⟩:=JS _ _ _ _ _ _ g2 g1 k2;exact⟨σ,v',e1,Ext.refl _,q (Xe _ _ _ _ hs g1 _ _ _ g3),(M.same (.Ls Bl)).less (λ_ _ h=>h) λ_ h=>h.1⟩
 |false=>
  rw[hs] at e;obtain⟨m1,m2⟩:=xT 1000 (SV.kh args) .nil st.h (λid so q=>by rw[Tr.get_nil] at q;cases q) (λid so q=>⟨q,Tr.get_nil _⟩);generalize hA:(jl 1000 (SV.kh args) .nil st.h).1 =A at e m1 m2;generalize hB:(jl 1000 (SV.kh args) .nil st.h).2 =Bh at e m1 m2;obtain⟨ls,h1,h3⟩:=vv _ _ _ _ e;obtain⟨r,k1,h1⟩:=ax h1;obtain⟨⟨sv,rest⟩,k2,h1⟩:=ax h1;obtain⟨us,p1,p3⟩:=h3 [];rw[ea] at p1;refine⟨false,sv,{st with h:=Bh},h1,rfl,aM _,λ{B σ Fr w} _ M args' d=>?_⟩
  obtain⟨E,M1⟩:=M.AE (A:=hG A) (G':=hG Bh) (λi s h=>(m1 i s h).1) (λi s h=>⟨s,(m2 i s h).1,λs' q=>by have:=(m2 i s h).2;rw[show A.get i=some s' from q] at this;cases this⟩) λE i s h=>(M.obj i s (m2 i s h).1).mono E λ_ _ _=>rfl;obtain⟨A',lo⟩:=p3 (M.seen λi s h=>(m1 i s h).1) d;have K:Kn (kH σ (hG A) w) w:=M.kn;refine Calls.mono (F ls r k1 lo us p1 _ args' w K A') λx w' ⟨v',e1,Bl,pv,g1,g2,g3⟩=>?_;obtain⟨_,q,_⟩:=JS _ _ _ _ _ _ g2 g1 k2;have M2:=M1.lits (.Ls Bl) (m:=cO (kH σ (hG A) w) w w') K.mono (K.new Bl) λb i v h=>by
   unfold cO at h;split at h
   ·exact .inl h
   ·rename_i z;exact .inr (Nat.not_lt.1 z)
  exact⟨⟨σ.nm,cO (kH σ (hG A) w) w w'⟩,v',e1,E.trans ⟨λ_ _ h=>h,K.mono⟩,q g3,M2.less (λ_ _ h=>h) λ_ h=>h.1⟩
end
mutual
def fits(st:St):VT->SV->Bool
 | .i k,.i k' _=>decide (k=k')
 | .b,.b _=>true
 | .s,.s _=>true
 | .v,.v _=>true
 | .v,.nl=>true
 | .v,.ni=>true
 | .v,.gr _ _=>true
 | .v,.sl _ _ _ _=>true
 | .agg ts,.agg l=>vr st ts l
 | .aG ts,.aG l=>vr st ts l
 | .fn f ts,.fn f' l=>Nat.beq f f'&&vr st ts l
 | .em b,.em b'=>b==b'
 | .nf,.v .nilFunc=>true
 | .lp _,.lp _=>true
 | .lp ts,.ptr id off=>match st.h.get id with
  |some (.cells c _)=>vr st ts (c.drop off)
  |_=>false
 |_,_=>false
def vr(st:St):qr VT->qr SV->Bool
 |[],[]=>true
 |t::ts,x::xs=>fits st t x&&vr st ts xs
 |_,_=>false
end
def Ms(pt:(β:Type)->FuncId->Hx (cH β))(g:FuncId)(avt:qr VT)(rvt:VT)(Sh:Fn (VT.fw avt) (Hx (bO rvt.ks))):(β:Type)->FuncId->Hx (cH β):=
 λβ f=>cond (Nat.beq f g) (some λst args K=>cond (vr st avt args) (JX avt rvt Sh st args K) (ob (pt β f) λe=>e st args K)) (pt β f)
theorem iP{P:Program}{pt:(β:Type)->FuncId->Hx (cH β)}(PT:ju P pt){g:FuncId}{avt:qr VT}{rvt:VT}{Sh:Fn (VT.fw avt) (Hx (bO rvt.ks))}(F:cS P g avt rvt Sh):ju P (Ms pt g avt rvt Sh):=by
 intro β f e h;unfold Ms at h;cases hb:Nat.beq f g with
 |true=>
  rw[hb] at h;have hg:=bX hb;subst hg;cases h;intro st args K b k;cases hf:vr st avt args with
  |true=>simp[hf] at k;exact aaL F st args K b k
  |false=>simp[hf] at k;obtain⟨e0,h0,k⟩:=ax k;exact PT β f e0 h0 st args K b k
 |false=>rw[hb] at h;exact PT β f e h
theorem Ec{P:Program}{g:FuncId}{Sh0:Fn (VT.fw [.v]) (Hx (bO (VT.ks .v)))}(F:cS P g [.v] .v Sh0)(Fz:cS P g [.em false] .v (some (ae 0 [])))(Fn:cS P g [.em true] .v (some (ae 0 []))):
 cS P g [.v] .v (λx=>aw x λn=>cond (Nat.beq n 0) (some (ae 0 [])) (Sh0 x)):=by
 intro ls r e lo us hu;have hls:∃x,ls=[.v x]:=by
  cases ls with
  |nil=>cases e
  |cons l ls=>
   cases l with
   |v x=>
    cases ls with
    |nil=>simp
    |cons _ _=>cases hu
   |_=>cases e
 obtain⟨x,rfl⟩:=hls;have e:(aw x λn=>cond (Nat.beq n 0) (some (ae 0 [])) (Sh0 x))=some r:=e;unfold aw at e;split at e
 ·rename_i n p f cs ys hxx;replace e:cond (Nat.beq n 0) (some (ae 0 [])) (iM (VT.fw [.v]) Sh0 [.v (.func (.via n p f true) cs ys)])=some r:=e;cases hn:Nat.beq n 0 with
  |false=>rw[hn] at e;exact F _ r e lo us hu
  |true=>
   have hn:=bX hn;subst hn;cases e;cases hu;intro m args' w K A;obtain⟨y,l,h1,h2,h3⟩:=A.inv;have h3:=h3.ee;subst h3;have key:∃a c,y=.slice a 0 c:=by cases h2<;>exact⟨_,_,rfl⟩
   obtain⟨a,c,rfl⟩:=key;cases a with
   |none=>exact Fn [] (ae 0 []) rfl fE.nil [DU true] rfl m args' w K (by rw[h1];exact .cons .A1 .nil)
   |some a=>exact Fz [] (ae 0 []) rfl fE.nil [DU false] rfl m args' w K (by rw[h1];exact .cons .zG .nil)
 ·cases e
end
end Lt
end Go.Proofs.YtcfjfbeadhnknaaGreatDoor

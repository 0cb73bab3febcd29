import Derived.Test.YtfdojmichbgpiaaGreatDoorRB
namespace Go.Proofs.YtfdojmichbgpiaaGreatDoor
namespace Lt
section
variable{β:Type}
def qZ(tm:Tr SV)(d:Option Nat)(v:SV):Tr SV:=match d with
 |some d=>tm.set d v
 |none=>tm
def EC(ops:Array Oper)(tm:Tr SV)(o:Oper)(K:Bool->Tr SV->Option β):Option β:=match o.guard with
 |none=>K true tm
 |some (j,want)=>ob (ops[j]?) λoj=>ob oj.dst λd=>ob (tm.get d) λv=>match v with
  | .b x=>cond x (K (true==want) (tm.set d (.b true))) (K (false==want) (tm.set d (.b false)))
  | .aH _=>K false tm
  |_=>none
def BQ(X:cJ)(pt:FuncId->Option (dJ β))(st:St)(o:Oper)(K:Option SV->St->Option β):Option β:=match o.op with
 | .store t a y=>match o.dst with
  |none=>ob (dX st.tm a) λp=>ob (dX st.tm y) λu=>Vo X.T st t p u (K none)
  |some _=>none
 | .pick c a b=>ob (dX st.tm c) λv=>match v with
  | .b x=>cond x (ob (dX st.tm a) λu=>K none {st with tm:=qZ st.tm o.dst u}) (ob (dX st.tm b) λu=>K none {st with tm:=qZ st.tm o.dst u})
  |_=>bM 36
 |op=>C5 X pt st op λp v st'=>cond p (K (some v) st') (K none {st' with tm:=qZ st'.tm o.dst v})
variable{h:Heap} {nx:Nat} {st:St} {tm:Tr Value} {v:Value} {σ:Nm}
theorem aM.slot(R:aM σ st tm h nx){d:Option Nat}{sv:SV}(dv:DV σ sv v):aM σ {st with tm:=qZ st.tm d sv} (fM tm d v) h nx:=by
 refine⟨λt s hs=>?_,R.obj,R.inj,R.lt,R.fresh⟩;cases d with
 |none=>exact R.tm t s hs
 |some d=>
  unfold qZ at hs;unfold fM;rw[Tr.bD] at hs⊢;by_cases e:t=d
  ·grind
  ·rw[ai e] at hs⊢;exact R.tm t s hs
theorem Pd:DV σ (.aH []) undef:=.aH .nil
def XD(P:Program)(ops:Array Oper)(i:Nat)(o:Oper)(st st':St):Prop:=
 ∀(σ:Nm)(tm:Tr Value)(h:Heap)(nx n:Nat),aM σ st tm h nx->fU ops tm o=some true->∃σ' v h' nx',dE P ops i tm n h nx v h' nx'/\nx<=nx'/\NX nx σ σ'/\aM σ' st' (fM tm o.dst v) h' nx'
def XE(P:Program)(q:Option SV)(ops:Array Oper)(i:Nat)(o:Oper)(st st':St):Prop:=match q with
 |none=>XD P ops i o st st'
 |some sv=>∀(σ:Nm)(tm:Tr Value)(h:Heap)(nx n:Nat),aM σ st tm h nx->fU ops tm o=some true->∃σ' v h' nx',ve P ops i tm n h nx v h' nx'/\nx<=nx'/\NX nx σ σ'/\DV σ' sv v/\aM σ' st' tm h' nx'
variable{P:Program} {X:cJ} {b:β} {i:Nat} {o:Oper} {ops:Array Oper} {pt:FuncId->Option (dJ β)}
theorem Lr(OK:ea P X)(PT:oJ P pt)(ho:ops[i]? =some o){K:Option SV->St->Option β}(e:BQ X pt st o K=some b):
 ∃q st',K q st'=some b/\XE P q ops i o st st':=by
 unfold BQ at e;split at e
 ·rename_i t a y hop;split at e
  ·rename_i hdst;obtain⟨p,k1,e⟩:=af e;obtain⟨u,k2,e⟩:=af e;obtain⟨st',h1,h2,h3⟩:=afv e;refine⟨none,st',h1,λσ tm h nx n R hw=>?_⟩;obtain⟨w,u1,u2⟩:=ec R k1;obtain⟨w2,u3,u4⟩:=ec R k2;obtain⟨h',g1,g2⟩:=h3 σ tm h nx R w w2 u2 u4;refine⟨σ,undef,h',nx,aaY OK ho (by rw[hop];rfl) hw ?_,aB _,NX.refl _ _,by rw[hdst];exact g2⟩;unfold dr;simp[hop,ob,u1,u3,g1]
  grind
 ·rename_i c x y hop;obtain⟨v,k1,e⟩:=af e;split at e
  ·rename_i q;cases q with
   |true=>obtain⟨u,k2,e⟩:=af e;refine⟨none,_,e,λσ tm h nx n R hw=>?_⟩;obtain⟨w,u1,u2⟩:=ec R k1;obtain⟨w2,u3,u4⟩:=ec R k2;cases u2;refine⟨σ,w2,h,nx,qT OK ho (by rw[hop];rfl) hw ?_,aB _,NX.refl _ _,R.slot u4⟩;unfold dr;simp[hop,ob,u1,u3]
   |false=>obtain⟨u,k2,e⟩:=af e;refine⟨none,_,e,λσ tm h nx n R hw=>?_⟩;obtain⟨w,u1,u2⟩:=ec R k1;obtain⟨w2,u3,u4⟩:=ec R k2;cases u2;refine⟨σ,w2,h,nx,qT OK ho (by rw[hop];rfl) hw ?_,aB _,NX.refl _ _,R.slot u4⟩;unfold dr;simp[hop,ob,u1,u3]
  grind
 ·obtain⟨p,sv,st',h1,h2,h3,_⟩:=OL OK PT ho e;cases p with
  |false=>refine⟨none,_,h1,λσ tm h nx n R hw=>?_⟩;obtain⟨σ',v,h',nx',g1,g2,g3,g4,g5⟩:=h3 σ tm h nx n R hw;exact⟨σ',v,h',nx',g1,g2,g3,g5.slot g4⟩
  |true=>refine⟨some sv,_,h1,λσ tm h nx n R hw=>?_⟩;obtain⟨σ',v,h',nx',g1,g2,g3,g4,g5⟩:=h3 σ tm h nx n R hw;exact⟨σ',v,h',nx',g1,g2,g3,g4,g5⟩
def Eh(n:Nat)(o:Oper)(r:Option β):Option β:=match o.dst with
 |none=>r
 |some d=>cond (Nat.blt d n) r none
theorem QM{n:Nat}{r:Option β}(e:Eh n o r=some b):r=some b/\∀d,o.dst=some d->d<n:=by
 unfold Eh at e;split at e
 ·grind
 ·rename_i d0 h;obtain⟨e1,e⟩:=aT e;simp_all
def zq(X:cJ)(pt:FuncId->Option (dJ β))(n:Nat)(ops:Array Oper):List Oper->St->(Option SV->St->Option β)->Option β
 |[],st,K=>K none st
 |o::os,st,K=>EC ops st.tm o λw tm=>Eh n o (cond w (BQ X pt {st with tm:=tm} o λq st'=>match q with|none=>zq X pt n ops os st' K|some v=>K (some v) st') (zq X pt n ops os {st with tm:=qZ tm o.dst (.aH [])} K))
theorem RC{K:Bool->Tr SV->Option β}(e:EC ops st.tm o K=some b):
 ∃w tm',K w tm'=some b/\∀(σ:Nm)(tm:Tr Value)(h:Heap)(nx:Nat),aM σ st tm h nx->fU ops tm o=some w/\aM σ {st with tm:=tm'} tm h nx:=by
 unfold EC at e;split at e
 ·rename_i hg;refine⟨_,_,e,λσ tm h nx R=>⟨?_,R⟩⟩;unfold fU;rw[hg]
 ·rename_i j want hg;obtain⟨oj,h1,e⟩:=af e;obtain⟨d,h2,e⟩:=af e;obtain⟨v,h3,e⟩:=af e;split at e
  ·rename_i x;have key:∀(σ:Nm)(tm:Tr Value)(h:Heap)(nx:Nat),aM σ st tm h nx->fU ops tm o=some (x==want)/\aM σ {st with tm:=st.tm.set d (.b x)} tm h nx:=by
    intro σ tm h nx R;obtain⟨u,u1,u2⟩:=R.tm d _ h3;cases u2;refine⟨?_,λt s hs=>?_,R.obj,R.inj,R.lt,R.fresh⟩
    ·unfold fU;simp[hg,ob,h1,h2,u1]
    ·have hs:(st.tm.set d (.b x)).get t=some s:=hs;rw[Tr.bD] at hs;by_cases q:t=d
     ·rw[ar q] at hs;cases hs;rw[q];exact⟨_,u1,.b _⟩
     ·rw[ai q] at hs;exact R.tm t s hs
   cases x with
   |true=>grind
   |false=>grind
  ·refine⟨_,_,e,λσ tm h nx R=>⟨?_,R⟩⟩;obtain⟨u,u1,u2⟩:=R.tm d _ h3;cases u2;simp[fU,hg,ob,h1,h2,u1]
  grind
variable{c:cC} {h':Heap} {k:List Item} {nx':Nat} {rest:List Nat}
theorem OH(ho:ops[i]? =some o){cs:List cC}(hd:∀d,o.dst=some d->d<c.n)(_hle:nx<=nx')
 (R:dE P ops i tm c.n h nx v h' nx'):cG P (bL c cs tm (.inRegion ops (i::rest)::k) h nx) (bL c cs (fM tm o.dst v) (.inRegion ops rest::k) h' nx'):=by
 intro ρ fr cs' base w F CC H N;have hmode:=F.mode;obtain⟨y,k',hft,a,bI⟩:=inv1 F.todo;subst a;obtain⟨ρ1,v1,w1,s1,r1,H1,M1⟩:=R ρ fr (cs'++base) w rest k' hmode hft F.tmps H N;have E:=M1.ext N;refine⟨ρ1,_,cs',w1,s1,⟨F.fn,?_,.cons rfl (bI.mono E),F.defers.mono E,(by show rK ρ1 .run fr.mode;rw[hmode];rfl),F.kind,F.round.mono E⟩,CC.mono E,H1,M1⟩;have S:=F.tmps.mono E;rw[(show(ops[i]?).bind (·.dst)=o.dst from by rw[ho];rfl)];cases hdst:o.dst with
 |none=>exact S
 |some d=>exact S.set (hd d hdst) r1
def vj(P:Program)(m:AM)(v:Value)(tmX:Tr Value)(h':Heap)(nx':Nat):Prop:=
 ∀(ρ:Ren)(fr:Frame)(base:List Frame)(w:World),jM ρ m.fr fr->bh ρ m.h w->(∀o,m.nx<=o->o<nx'->ρ o=none)->
  ∃ρ' fr' w' td,Steps P (lone fr base w) (lone fr' base w')/\jM ρ' {m.fr with tmps:=tmX,todo:=td,mode:=.panicking [pe v]} fr'/\bh ρ' h' w'/\bP ρ m.h m.nx w ρ' h' nx' w'
variable{h1:Heap} {nx1:Nat} {td td1:List Item} {tm1:Tr Value}
theorem cG.WZ{tmX:Tr Value}(S:cG P (bL c [] tm td h nx) (bL c [] tm1 td1 h1 nx1))(T:vj P (bL c [] tm1 td1 h1 nx1) v tmX h' nx')(l:nx<=nx1)(l':nx1<=nx'):vj P (bL c [] tm td h nx) v tmX h' nx':=by
 intro ρ fr base w F H N;obtain⟨ρ1,fr1,cs1,w1,s1,F1,C1,H1,M1⟩:=S ρ fr [] base w F .nil H (λo o1 o2=>N o o1 (tb o2 l'));cases C1;have N1:∀o,nx1<=o->o<nx'->ρ1 o=none:=λo o1 o2=>by rw[M1.cq o (.inr o1)];exact N o (eP l o1) o2
 obtain⟨ρ2,fr2,w2,t2,s2,a1,a7,a8⟩:=T ρ1 fr1 base w1 F1 H1 N1;exact⟨ρ2,fr2,w2,t2,s1.trans s2,a1,a7,M1.trans a8⟩
theorem ahy
 (R:ve P ops i tm c.n h nx v h' nx'):vj P (bL c [] tm (.inRegion ops (i::rest)::k) h nx) v tm h' nx':=by
 intro ρ fr base w F H N;obtain⟨y,k',hft,a,bI⟩:=inv1 F.todo;subst a;obtain⟨ρ1,v1,w1,s1,r1,H1,M1⟩:=R ρ fr base w rest k' F.mode hft F.tmps H N;have E:=M1.ext N;exact⟨ρ1,_,w1,_,s1,⟨F.fn,F.tmps.mono E,F.todo.mono E,F.defers.mono E,⟨_,rfl,.cons r1 .nil⟩,F.kind,F.round.mono E⟩,H1,M1⟩
variable{α:Type}
def wm:List Oper->Tr α->Tr α
 |[],t=>t
 |o::os,t=>wm os (match o.dst with|some d=>t.del d|none=>t)
theorem EO:∀{os:List Oper}{t:Tr α}{k:Nat}{v:α},(wm os t).get k=some v↔(∀o∈os,o.dst≠some k)/\t.get k=some v
 |[],t,k,v=>by simp[wm]
 |o::os,t,k,v=>by
  unfold wm;rw[EO];cases hd:o.dst with
  |none=>grind
  |some d=>
   simp[Tr.kK]
   grind
def xD(P:Program)(c:cC)(m:AM)(σ:Nm)(nx:Nat)(td:List Item)(q:Option SV)(st':St):Prop:=
 ∃σ' tm' h' nx',nx<=nx'/\NX nx σ σ'/\aM σ' st' tm' h' nx'/\match q with
  |none=>cG P m (bL c [] tm' td h' nx')
  |some sv=>∃v,DV σ' sv v/\vj P m v tm' h' nx'
theorem xD.step{td0:List Item}{σ1:Nm}{q:Option SV}{st':St}(G:xD P c (bL c [] tm1 td1 h1 nx1) σ1 nx1 td q st')(S:cG P (bL c [] tm td0 h nx) (bL c [] tm1 td1 h1 nx1))(l:nx<=nx1)(N:NX nx σ σ1):xD P c (bL c [] tm td0 h nx) σ nx td q st':=by
 obtain⟨σ',tm',h',nx',a1,a2,a3,a4⟩:=G;refine⟨σ',tm',h',nx',eP l a1,N.trans a2 l,a3,?_⟩;cases q with
 |none=>exact S.trans a4 l a1
 |some sv=>obtain⟨v,d,s⟩:=a4;exact⟨v,d,S.WZ s l a1⟩
theorem Cn(OK:ea P X)(PT:oJ P pt):∀(os:List Oper)(s:Nat),(∀i o,os[i]? =some o->ops[s+i]? =some o)->∀(st:St)(K:Option SV->St->Option β)(b:β),zq X pt c.n ops os st K=some b->
 ∃q st',K q st'=some b/\∀(σ:Nm)(tm:Tr Value)(h:Heap)(nx:Nat),aM σ st tm h nx->xD P c (bL c [] tm (.inRegion ops (List.range' s os.length)::k) h nx) σ nx (.inRegion ops []::k) q st'
 |[],s,_,st,K,b,e=>⟨none,st,e,λσ tm h nx R=>⟨σ,tm,h,nx,aB _,NX.refl _ _,R,cG.refl _ _⟩⟩
 |o::os,s,hs,st,K,b,e=>by
  obtain⟨w,tm1,e1,g⟩:=RC e;obtain⟨e2,hd⟩:=QM e1;have ho:=hs 0 o rfl;have hs':∀i o',os[i]? =some o'->ops[s+1+i]? =some o':=λi o' hi=>by have:=hs (i+1) o' (by simpa using hi);rw[show s+1+i=s+(i+1) by omega];exact this
  cases w with
  |true=>
   rw[ay] at e2;obtain⟨q,st1,e3,D⟩:=Lr OK PT ho e2;cases q with
   |none=>obtain⟨q',st',e4,D2⟩:=Cn OK PT os (s+1) hs' st1 K b e3;refine⟨q',st',e4,λσ tm h nx R=>?_⟩;obtain⟨hw,R1⟩:=g σ tm h nx R;obtain⟨σ1,v,h1,nx1,O1,l1,N1,R2⟩:=D σ tm h nx c.n R1 hw;exact(D2 σ1 _ h1 nx1 R2).step (OH ho hd l1 O1) l1 N1
   |some sv=>refine⟨some sv,_,e3,λσ tm h nx R=>?_⟩;obtain⟨hw,R1⟩:=g σ tm h nx R;obtain⟨σ1,v,h1,nx1,O1,l1,N1,dv,R2⟩:=D σ tm h nx c.n R1 hw;exact⟨σ1,tm,h1,nx1,l1,N1,R2,v,dv,ahy O1⟩
  |false=>obtain⟨q,st',e4,D2⟩:=Cn OK PT os (s+1) hs' _ K b e2;refine⟨q,st',e4,λσ tm h nx R=>?_⟩;obtain⟨hw,R1⟩:=g σ tm h nx R;exact(D2 σ _ h nx (R1.slot Pd)).step (OH ho hd (aB _) (ES OK ho (by unfold AH;simp only[ob,hw,aE]))) (aB _) (NX.refl _ _)
end
section
variable{β:Type}
inductive LK where
 |i|b|s|v|c|n
inductive bo where
 |i (x:Int)|b (x:Bool)|s (x:ByteArray)|v (x:Value)|c (x:List Value)|n (x:Nat)
def Fn:List LK->Type->Type
 |[],α=>α
 | .i::ks,α=>Int->Fn ks α
 | .b::ks,α=>Bool->Fn ks α
 | .s::ks,α=>ByteArray->Fn ks α
 | .v::ks,α=>Value->Fn ks α
 | .c::ks,α=>List Value->Fn ks α
 | .n::ks,α=>Nat->Fn ks α
def jq:(ks:List LK)->Fn ks (Option β)->List bo->Option β
 |[],f,[]=>f
 | .i::ks,f,.i x::ls=>jq ks (f x) ls
 | .b::ks,f,.b x::ls=>jq ks (f x) ls
 | .s::ks,f,.s x::ls=>jq ks (f x) ls
 | .v::ks,f,.v x::ls=>jq ks (f x) ls
 | .c::ks,f,.c x::ls=>jq ks (f x) ls
 | .n::ks,f,.n x::ls=>jq ks (f x) ls
 |_,_,_=>none
def lq:(ks:List LK)->(List bo->Option β)->Fn ks (Option β)
 |[],F=>F []
 | .i::ks,F=>λx=>lq ks λls=>F (.i x::ls)
 | .b::ks,F=>λx=>lq ks λls=>F (.b x::ls)
 | .s::ks,F=>λx=>lq ks λls=>F (.s x::ls)
 | .v::ks,F=>λx=>lq ks λls=>F (.v x::ls)
 | .c::ks,F=>λx=>lq ks λls=>F (.c x::ls)
 | .n::ks,F=>λx=>lq ks λls=>F (.n x::ls)
def jY:(ks:List LK)->Fn ks (Option β)
 |[]=>(none:Option β)
 | .i::ks=>λ_=>jY ks
 | .b::ks=>λ_=>jY ks
 | .s::ks=>λ_=>jY ks
 | .v::ks=>λ_=>jY ks
 | .c::ks=>λ_=>jY ks
 | .n::ks=>λ_=>jY ks
theorem nR:∀(ks:List LK)(F:List bo->Option β)(ls:List bo)(b:β),jq ks (lq ks F) ls=some b->F ls=some b
 |[],F,[],b,e=>e
 |[],F,_::_,b,e=>by cases e
 | .i::ks,F,.i x::ls,b,e=>nR ks (λls=>F (.i x::ls)) ls b e
 | .b::ks,F,.b x::ls,b,e=>nR ks (λls=>F (.b x::ls)) ls b e
 | .s::ks,F,.s x::ls,b,e=>nR ks (λls=>F (.s x::ls)) ls b e
 | .v::ks,F,.v x::ls,b,e=>nR ks (λls=>F (.v x::ls)) ls b e
 | .c::ks,F,.c x::ls,b,e=>nR ks (λls=>F (.c x::ls)) ls b e
 | .n::ks,F,.n x::ls,b,e=>nR ks (λls=>F (.n x::ls)) ls b e
 |k::ks,F,[],b,e=>by cases k<;>cases e
 | .i::ks,F,.b _::_,b,e| .i::ks,F,.s _::_,b,e| .i::ks,F,.v _::_,b,e| .i::ks,F,.c _::_,b,e| .i::ks,F,.n _::_,b,e=>by cases e
 | .b::ks,F,.i _::_,b,e| .b::ks,F,.s _::_,b,e| .b::ks,F,.v _::_,b,e| .b::ks,F,.c _::_,b,e| .b::ks,F,.n _::_,b,e=>by cases e
 | .s::ks,F,.i _::_,b,e| .s::ks,F,.b _::_,b,e| .s::ks,F,.v _::_,b,e| .s::ks,F,.c _::_,b,e| .s::ks,F,.n _::_,b,e=>by cases e
 | .v::ks,F,.i _::_,b,e| .v::ks,F,.b _::_,b,e| .v::ks,F,.s _::_,b,e| .v::ks,F,.c _::_,b,e| .v::ks,F,.n _::_,b,e=>by cases e
 | .c::ks,F,.i _::_,b,e| .c::ks,F,.b _::_,b,e| .c::ks,F,.s _::_,b,e| .c::ks,F,.v _::_,b,e| .c::ks,F,.n _::_,b,e=>by cases e
 | .n::ks,F,.i _::_,b,e| .n::ks,F,.b _::_,b,e| .n::ks,F,.s _::_,b,e| .n::ks,F,.v _::_,b,e| .n::ks,F,.c _::_,b,e=>by cases e
theorem AP:∀(ks:List LK)(ls:List bo)(b:β),jq ks (jY ks) ls=some b->False
 |[],[],b,e=>by cases e
 |[],_::_,b,e=>by cases e
 |k::ks,[],b,e=>by cases k<;>cases e
 |k::ks,l::ls,b,e=>by cases k<;>cases l<;>first|exact AP ks ls b e|cases e
inductive VT where
 |i (k:IntKind)|b|s|v
 |agg (l:List VT)|aH (l:List VT)
 |fn (f:FuncId) (l:List VT)
 |lp (l:List VT)
 |oV
 |eR (t:TypeId) (x:VT)
 |em (b:Bool)
 |ptr (id off:Nat)|sl (id off:Nat)|CZ (id:Nat)|gr (id E:Nat)
 |w7 (id off n c:Nat)
 |nf
inductive OT where
 |cells (l:List VT) (t:TypeId)
 |arr (t:TypeId)
 |grow (E:Nat) (t:TypeId)
structure cZ where
 cW:List (Nat×VT)
 sq:List (Nat×OT)
 sx:Nat
mutual
def VT.ks:VT->List LK
 | .i _=>[.i]
 | .b=>[.b]
 | .s=>[.s]
 | .v=>[.v]
 | .agg l=>VT.fo l
 | .aH l=>VT.fo l
 | .fn _ l=>VT.fo l
 | .eR _ x=>VT.ks x
 | .em _=>[]
 | .lp l=>VT.fo l
 | .oV=>[.c]
 | .ptr _ _=>[]
 | .sl _ _=>[.n,.n]
 | .CZ _=>[.n,.n,.n]
 | .gr _ _=>[]
 | .w7 _ _ _ _=>[]
 | .nf=>[]
def VT.fo:List VT->List LK
 |[]=>[]
 |x::xs=>VT.ks x++VT.fo xs
end
def OT.ks:OT->List LK
 | .cells l _=>VT.fo l
 | .arr _=>[.c]
 | .grow _ _=>[.c]
def cZ.ks(t:cZ):List LK:=VT.fo (t.cW.map (·.2))++(t.sq.map λo=>o.2.ks).flatten
def qM:List VT->Bool
 |[]=>true
 | .i _::l=>qM l
 | .b::l=>qM l
 | .s::l=>qM l
 | .v::l=>qM l
 |_=>false
abbrev Mp:=List (Nat×Option Nat)
def dV(id:Nat):Mp->Option (Option Nat)
 |[]=>none
 |(j,x)::m=>cond (Nat.beq j id) (some x) (dV id m)
def taken(a:Nat):Mp->Bool
 |[]=>false
 |(_,some x)::m=>cond (Nat.beq x a) true (taken a m)
 |(_,none)::m=>taken a m
def tE(id:Nat)(x:Option Nat)(m:Mp)(K:Mp->Option β):Option β:=match dV id m with
 |some y=>match x,y with
  |some a,some a'=>cond (Nat.beq a a') (K m) none
  |none,none=>K m
  |_,_=>none
 |none=>match x with
  |some a=>cond (taken a m) none (K ((id,some a)::m))
  |none=>K ((id,none)::m)
mutual
def Bl:VT->SV->Mp->(List bo->Mp->Option β)->Option β
 | .i k,.i k' n,m,K=>cond (decide (k=k')) (K [.i n] m) none
 | .b,.b x,m,K=>K [.b x] m
 | .s,.s x,m,K=>K [.s x] m
 | .v,.v x,m,K=>K [.v x] m
 | .v,.nl,m,K=>K [.v (ae 0 [])] m
 | .v,.ni,m,K=>K [.v .nilIface] m
 | .agg ts,.agg l,m,K=>vT ts l m K
 | .aH ts,.aH l,m,K=>vT ts l m K
 | .fn f ts,.fn f' l,m,K=>cond (Nat.beq f f') (vT ts l m K) none
 | .eR t vt,.eR t' x,m,K=>cond (Nat.beq t t') (Bl vt x m K) none
 | .em true,.em true,m,K=>K [] m
 | .em false,.em false,m,K=>K [] m
 | .oV,.lp cs,m,K=>K [.c cs] m
 | .ptr id off,.ptr id' off',m,K=>cond (Nat.beq off off') (tE id (some id') m λm'=>K [] m') none
 | .sl id off,.sl id' off' n c,m,K=>cond (Nat.beq off off') (tE id (some id') m λm'=>K [.n n,.n c] m') none
 | .CZ id,.sl id' off n c,m,K=>tE id (some id') m λm'=>K [.n off,.n n,.n c] m'
 | .gr id E,.gr id' E',m,K=>cond (Nat.beq E E') (tE id (some id') m λm'=>K [] m') none
 | .gr id _,.nl,m,K=>tE id none m λm'=>K [] m'
 | .w7 id off n0 c0,.sl id' off' n c,m,K=>cond (Nat.beq off off'&&(Nat.beq n0 n&&Nat.beq c0 c)) (tE id (some id') m λm'=>K [] m') none
 | .nf,.v .nilFunc,m,K=>K [] m
 |_,_,_,_=>none
def vT:List VT->List SV->Mp->(List bo->Mp->Option β)->Option β
 |[],[],m,K=>K [] m
 |t::ts,x::xs,m,K=>Bl t x m λl1 m1=>vT ts xs m1 λl2 m2=>K (l1++l2) m2
 |_,_,_,_=>none
end
mutual
def uh:VT->List bo->Option (SV×List bo)
 | .i k,.i n::ls=>some (.i k n,ls)
 | .b,.b x::ls=>some (.b x,ls)
 | .s,.s x::ls=>some (.s x,ls)
 | .v,.v x::ls=>some (.v x,ls)
 | .agg ts,ls=>ob (sd ts ls) λr=>some (.agg r.1,r.2)
 | .aH ts,ls=>ob (sd ts ls) λr=>some (.aH r.1,r.2)
 | .fn f ts,ls=>ob (sd ts ls) λr=>some (.fn f r.1,r.2)
 | .eR t vt,ls=>ob (uh vt ls) λr=>some (.eR t r.1,r.2)
 | .em b,ls=>some (.em b,ls)
 | .oV,.c cs::ls=>some (.lp cs,ls)
 | .ptr id off,ls=>some (.ptr id off,ls)
 | .sl id off,.n n::.n c::ls=>some (.sl id off n c,ls)
 | .CZ id,.n off::.n n::.n c::ls=>some (.sl id off n c,ls)
 | .gr id E,ls=>some (.gr id E,ls)
 | .w7 id off n c,ls=>some (.sl id off n c,ls)
 | .nf,ls=>some (.v .nilFunc,ls)
 |_,_=>none
def sd:List VT->List bo->Option (List SV×List bo)
 |[],ls=>some ([],ls)
 |t::ts,ls=>ob (uh t ls) λr=>ob (sd ts r.2) λq=>some (r.1 ::q.1,q.2)
end
def JV:List (Nat×VT)->Tr SV->Mp->(List bo->Mp->Option β)->Option β
 |[],_,m,K=>K [] m
 |(t,vt)::r,tm,m,K=>ob (tm.get t) λsv=>Bl vt sv m λl1 m1=>JV r tm m1 λl2 m2=>K (l1++l2) m2
def JT:Nat->OT->Tr SO->Mp->(List bo->Mp->Option β)->Option β
 |id,.cells ts t,h,m,K=>ob (dV id m) λx=>ob x λa=>ob (h.get a) λso=>match so with
  | .cells l t'=>cond (Nat.beq t t') (vT ts l m K) none
  |_=>none
 |id,.arr t,h,m,K=>ob (dV id m) λx=>ob x λa=>ob (h.get a) λso=>match so with
  | .arr c t'=>cond (Nat.beq t t') (K [.c c] m) none
  |_=>none
 |id,.grow E t,h,m,K=>ob (dV id m) λx=>match x with
  |none=>cond (Nat.blt 0 E) (K [.c []] m) none
  |some a=>ob (h.get a) λso=>match so with
   | .grow E' c t'=>cond (Nat.beq E E'&&Nat.beq t t') (K [.c c] m) none
   |_=>none
def JU:List (Nat×OT)->Tr SO->Mp->(List bo->Mp->Option β)->Option β
 |[],_,m,K=>K [] m
 |(id,ot)::r,h,m,K=>JT id ot h m λl1 m1=>JU r h m1 λl2 m2=>K (l1++l2) m2
def BL:List (Nat×VT)->List bo->Option (Tr SV×List bo)
 |[],ls=>some (.nil,ls)
 |(t,vt)::r,ls=>ob (uh vt ls) λq=>ob (BL r q.2) λp=>some (p.1.set t q.1,p.2)
def SY:OT->List bo->Option (SO×List bo)
 | .cells ts t,ls=>ob (sd ts ls) λq=>some (.cells q.1 t,q.2)
 | .arr t,.c c::ls=>some (.arr c t,ls)
 | .grow E t,.c c::ls=>some (.grow E c t,ls)
 |_,_=>none
def yN:List (Nat×OT)->List bo->Option (Tr SO×List bo)
 |[],ls=>some (.nil,ls)
 |(id,ot)::r,ls=>ob (SY ot ls) λq=>ob (yN r q.2) λp=>some (p.1.set id q.1,p.2)
def vD:Nat->Mp
 |0=>[]
 |n+1=>(n,some n)::vD n
def yq(m0:Mp)(t:cZ)(st:St)(K:List bo->Mp->Option β):Option β:=
 JV t.cW st.tm m0 λl1 m1=>JU t.sq st.h m1 λl2 m2=>cond (m2.all λp=>Nat.blt p.1 t.sx) (K (l1++l2) m2) none
def qL(an:Nat)(t:cZ)(st:St)(K:List bo->Option β):Option β:=yq (vD an) t st λls _=>K ls
def iX(t:cZ)(ls:List bo):Option St:=
 ob (BL t.cW ls) λp=>ob (yN t.sq p.2) λq=>some ⟨p.1,q.1,t.sx⟩
end
section
variable{β:Type}
def Sub(m m':Mp):Prop:=∀id x,dV id m=some x->dV id m'=some x
def kZ(m:Mp):Prop:=∀id id' a,dV id m=some (some a)->dV id' m=some (some a)->id=id'
theorem Sub.refl(m:Mp):Sub m m:=λ_ _ h=>h
theorem Sub.trans{a b c:Mp}(h:Sub a b)(k:Sub b c):Sub a c:=λi x e=>k i x (h i x e)
variable{a:Nat}
theorem WY:∀{m:Mp}{id:Nat},dV id m=some (some a)->taken a m=true
 |[],id,h=>by cases h
 |(j,x)::m,id,h=>by
  unfold dV at h;cases hb:Nat.beq j id with
  |true=>rw[hb] at h;cases h;unfold taken;simp
  |false=>
   rw[hb] at h;have:=WY h;cases x with
   |none=>exact this
   |some y=>
    unfold taken;cases hy:Nat.beq y a with
    |true=>rfl
    |false=>grind
variable{id:Nat} {m:Mp} {x:Option Nat}
theorem qS{j:Nat}:dV id ((j,x)::m)=if j=id then some x else dV id m:=by show cond (Nat.beq j id) (some x) (dV id m)=_;simp
variable{b:β}
theorem xQ{K:Mp->Option β}(e:tE id x m K=some b):
 ∃m',K m'=some b/\Sub m m'/\dV id m'=some x/\(kZ m->kZ m'):=by
 unfold tE at e;split at e
 ·rename_i y hy;split at e
  ·rename_i a a';obtain⟨e1,f⟩:=aT e;have:=bJ e1;subst this;exact⟨m,f,Sub.refl m,hy,λI=>I⟩
  ·exact⟨m,e,Sub.refl m,hy,λI=>I⟩
  grind
 ·rename_i hn;have sub:∀x,Sub m ((id,x)::m):=λx j y h=>by
   rw[qS]
   grind
  split at e
  ·rename_i a;cases ht:taken a m with
   |true=>grind
   |false=>
    rw[ht] at e;refine⟨_,e,sub _,by rw[qS,ar rfl],λI i j c h1 h2=>?_⟩;rw[qS] at h1 h2;have no:∀k,dV k m=some (some a)->False:=λk hk=>by rw[WY hk] at ht;cases ht
    by_cases q:id=i
    ·grind
    ·rw[ai q] at h1;by_cases q2:id=j
     ·grind
     ·rw[ai q2] at h2;exact I i j c h1 h2
  ·refine⟨_,e,sub _,by rw[qS,ar rfl],λI i j c h1 h2=>?_⟩;rw[qS] at h1 h2;by_cases q:id=i
   ·grind
   ·rw[ai q] at h1;by_cases q2:id=j
    ·grind
    ·rw[ai q2] at h2;exact I i j c h1 h2
def σm(σ:Nm)(M:Mp):Nm:=λid=>match dV id M with
 |some (some a)=>σ a
 |some none=>some (none,0)
 |none=>none
variable{M:Mp} {σ:Nm}
theorem σm_some(h:dV id M=some (some a)):σm σ M id=σ a:=by unfold σm;rw[h]
theorem σm_none(h:dV id M=some none):σm σ M id=some (none,0):=by unfold σm;rw[h]
mutual
theorem JW:∀(vt:VT)(sv:SV)(m:Mp)(K:List bo->Mp->Option β)(b:β),Bl vt sv m K=some b->
 ∃ls m',K ls m'=some b/\Sub m m'/\(kZ m->kZ m')/\∀rest,∃sv',uh vt (ls++rest)=some (sv',rest)/\∀(σ:Nm)(M:Mp)(v:Value),Sub m' M->DV σ sv v->DV (σm σ M) sv' v:=by
 intro vt sv m K b e;unfold Bl at e;split at e
 ·obtain⟨e1,f⟩:=aT e;have:=qw e1;subst this;exact⟨_,_,f,Sub.refl _,id,λrest=>⟨_,rfl,λσ M v _ d=>by cases d;exact .i _ _⟩⟩
 ·exact⟨_,_,e,Sub.refl _,id,λrest=>⟨_,rfl,λσ M v _ d=>by cases d;exact .b _⟩⟩
 ·exact⟨_,_,e,Sub.refl _,id,λrest=>⟨_,rfl,λσ M v _ d=>by cases d;exact .s _⟩⟩
 ·refine⟨_,_,e,Sub.refl _,id,λrest=>⟨_,rfl,λσ M v _ d=>?_⟩⟩;cases d with
  |v h h1=>exact .v h h1
  |im=>exact .im
 ·exact⟨_,_,e,Sub.refl _,id,λrest=>⟨_,rfl,λσ M v _ d=>by cases d;exact .im⟩⟩
 ·exact⟨_,_,e,Sub.refl _,id,λrest=>⟨_,rfl,λσ M v _ d=>by cases d;exact .v .nilIface rfl⟩⟩
 ·rename_i ts l;obtain⟨ls,m',h1,h2,h3,h4⟩:=Bm ts l m K b e;refine⟨ls,m',h1,h2,h3,λrest=>?_⟩;obtain⟨svs,g1,g2⟩:=h4 rest;refine⟨.agg svs,by unfold uh;rw[g1];rfl,λσ M v s d=>?_⟩;cases d with
  |agg g=>exact .agg (g2 σ M _ s g)
 ·rename_i ts l;obtain⟨ls,m',h1,h2,h3,h4⟩:=Bm ts l m K b e;refine⟨ls,m',h1,h2,h3,λrest=>?_⟩;obtain⟨svs,g1,g2⟩:=h4 rest;refine⟨.aH svs,by unfold uh;rw[g1];rfl,λσ M v s d=>?_⟩;cases d with
  |aH g=>exact .aH (g2 σ M _ s g)
 ·rename_i g0 ts g0' l;obtain⟨e1,f⟩:=aT e;have:=bJ e1;subst this;obtain⟨ls,m',h1,h2,h3,h4⟩:=Bm ts l m K b f;refine⟨ls,m',h1,h2,h3,λrest=>?_⟩;obtain⟨svs,g1,g2⟩:=h4 rest;refine⟨.fn g0 svs,by unfold uh;rw[g1];rfl,λσ M v s d=>?_⟩;cases d with
  |fn g=>exact .fn (g2 σ M _ s g)
 ·rename_i t0 vt0 t0' x0;obtain⟨e1,f⟩:=aT e;have:=bJ e1;subst this;obtain⟨ls,m',h1,h2,h3,h4⟩:=JW vt0 x0 m K b f;refine⟨ls,m',h1,h2,h3,λrest=>?_⟩;obtain⟨sv,g1,g2⟩:=h4 rest;refine⟨.eR t0 sv,by unfold uh;rw[g1];rfl,λσ M v s d=>?_⟩;cases d with
  |eR g=>exact .eR (g2 σ M _ s g)
 ·exact⟨_,_,e,Sub.refl _,λI=>I,λrest=>⟨_,rfl,λσ M v _ d=>by cases d;exact .em _⟩⟩
 ·exact⟨_,_,e,Sub.refl _,λI=>I,λrest=>⟨_,rfl,λσ M v _ d=>by cases d;exact .em _⟩⟩
 ·exact⟨_,_,e,Sub.refl _,λI=>I,λrest=>⟨_,rfl,λσ M v _ d=>by cases d;exact .lp (by assumption)⟩⟩
 ·rename_i id0 off id' off';obtain⟨e1,f⟩:=aT e;have:=bJ e1;subst this;obtain⟨m',h1,h2,h3,h4⟩:=xQ f;refine⟨_,m',h1,h2,h4,λrest=>⟨_,rfl,λσ M v s d=>?_⟩⟩;cases d with
  |ptr g=>exact .ptr (by rw[σm_some (s _ _ h3)];exact g)
 ·rename_i id0 off id' off' n c;obtain⟨e1,f⟩:=aT e;have:=bJ e1;subst this;obtain⟨m',h1,h2,h3,h4⟩:=xQ f;refine⟨_,m',h1,h2,h4,λrest=>⟨_,rfl,λσ M v s d=>?_⟩⟩;cases d with
  |sl g hc hn=>exact .sl (by rw[σm_some (s _ _ h3)];exact g) hc hn
 ·rename_i id0 id' off n c;obtain⟨m',h1,h2,h3,h4⟩:=xQ e;refine⟨_,m',h1,h2,h4,λrest=>⟨_,rfl,λσ M v s d=>?_⟩⟩;cases d with
  |sl g hc hn=>exact .sl (by rw[σm_some (s _ _ h3)];exact g) hc hn
 ·rename_i id0 E id' E';obtain⟨e1,f⟩:=aT e;have:=bJ e1;subst this;obtain⟨m',h1,h2,h3,h4⟩:=xQ f;refine⟨_,m',h1,h2,h4,λrest=>⟨_,rfl,λσ M v s d=>?_⟩⟩;cases d with
  |gP g=>exact .gP (by rw[σm_some (s _ _ h3)];exact g)
  |gr g=>exact .gr (by rw[σm_some (s _ _ h3)];exact g)
 ·obtain⟨m',h1,h2,h3,h4⟩:=xQ e;refine⟨_,m',h1,h2,h4,λrest=>⟨_,rfl,λσ M v s d=>?_⟩⟩;cases d;exact .gP (σm_none (s _ _ h3))
 ·rename_i id0 off n0 c0 id' off' n c;obtain⟨e1,f⟩:=aT e;simp only[bg] at e1;have g1:=bJ e1.1;have g2:=bJ e1.2.1;have g3:=bJ e1.2.2;subst g1 g2 g3;obtain⟨m',h1,h2,h3,h4⟩:=xQ f;refine⟨_,m',h1,h2,h4,λrest=>⟨_,rfl,λσ M v s d=>?_⟩⟩;cases d with
  |sl g hc hn=>exact .sl (by rw[σm_some (s _ _ h3)];exact g) hc hn
 ·refine⟨_,_,e,Sub.refl _,λI=>I,λrest=>⟨_,rfl,λσ M v _ d=>?_⟩⟩;cases d with
  |v h h1=>exact .v h h1
 ·cases e
theorem Bm:∀(vts:List VT)(svs:List SV)(m:Mp)(K:List bo->Mp->Option β)(b:β),vT vts svs m K=some b->
 ∃ls m',K ls m'=some b/\Sub m m'/\(kZ m->kZ m')/\∀rest,∃svs',sd vts (ls++rest)=some (svs',rest)/\∀(σ:Nm)(M:Mp)(vs:List Value),Sub m' M->bU σ svs vs->bU (σm σ M) svs' vs:=by
 intro vts svs m K b e;unfold vT at e;split at e
 ·exact⟨_,_,e,Sub.refl _,id,λrest=>⟨_,rfl,λσ M v _ d=>by cases d;exact .nil⟩⟩
 ·rename_i t ts x xs;obtain⟨l1,m1,h1,h2,h3,h4⟩:=JW t x m _ b e;obtain⟨l2,m2,g1,g2,g3,g4⟩:=Bm ts xs m1 _ b h1;refine⟨l1++l2,m2,g1,h2.trans g2,λI=>g3 (h3 I),λrest=>?_⟩;obtain⟨s1,p1,p2⟩:=h4 (l2++rest);obtain⟨s2,q1,q2⟩:=g4 rest;refine⟨s1::s2,?_,λσ M vs s d=>?_⟩
  ·rw[dY];unfold sd;rw[p1];show ob (sd ts (l2++rest)) _=_;rw[q1];rfl
  ·cases d with
   |cons a t=>exact .cons (p2 σ M _ (g2.trans s) a) (q2 σ M _ s t)
 ·cases e
end
theorem Rc:∀(sl:List (Nat×VT))(T0:Tr SV)(m:Mp)(K:List bo->Mp->Option β)(b:β),JV sl T0 m K=some b->
 ∃ls m',K ls m'=some b/\Sub m m'/\(kZ m->kZ m')/\∀rest,∃T,BL sl (ls++rest)=some (T,rest)/\∀(σ:Nm)(M:Mp)(tm:Tr Value),Sub m' M->(∀t sv,T0.get t=some sv->∃v,tm.get t=some v/\DV σ sv v)->∀t sv,T.get t=some sv->∃v,tm.get t=some v/\DV (σm σ M) sv v
 |[],T0,m,K,b,e=>⟨_,_,e,Sub.refl _,id,λrest=>⟨_,rfl,λσ M tm _ _ t sv h=>by rw[Tr.get_nil] at h;cases h⟩⟩
 |(t,vt)::r,T0,m,K,b,e=>by
  obtain⟨sv,hsv,e⟩:=af e;obtain⟨l1,m1,h1,h2,h3,h4⟩:=JW vt sv m _ b e;obtain⟨l2,m2,g1,g2,g3,g4⟩:=Rc r T0 m1 _ b h1;refine⟨l1++l2,m2,g1,h2.trans g2,λI=>g3 (h3 I),λrest=>?_⟩;obtain⟨s1,p1,p2⟩:=h4 (l2++rest);obtain⟨T,q1,q2⟩:=g4 rest;refine⟨T.set t s1,?_,λσ M tm s H t' sv' h=>?_⟩
  ·rw[dY];unfold BL;rw[p1];show ob (BL r (l2++rest)) _=_;rw[q1];rfl
  ·rw[Tr.bD] at h;by_cases e:t'=t
   ·rw[ar e] at h;cases h;rw[e];obtain⟨v,v1,v2⟩:=H t sv hsv;exact⟨v,v1,p2 σ M v (g2.trans s) v2⟩
   simp_all
theorem Zp{ot:OT}{h0:Tr SO}{K:List bo->Mp->Option β}(e:JT id ot h0 m K=some b):
 ∃ls m',K ls m'=some b/\Sub m m'/\(kZ m->kZ m')/\(dV id m=some none\/∃a so,dV id m=some (some a)/\h0.get a=some so)/\∀rest,∃so',SY ot (ls++rest)=some (so',rest)/\
  ∀(σ:Nm)(M:Mp)(h:Heap),Sub m' M->(∀id so,h0.get id=some so->DO σ h id so)->DO (σm σ M) h id so':=by
 unfold JT at e;split at e
 ·obtain⟨x,hx,f⟩:=af e;obtain⟨a,ha,g⟩:=af f;subst ha;obtain⟨so,hso,k⟩:=af g;split at k
  ·rename_i ts t _ l t';obtain⟨e1,q⟩:=aT k;have:=bJ e1;subst this;obtain⟨ls,m',h1,h2,h3,h4⟩:=Bm ts l m K b q;refine⟨ls,m',h1,h2,h3,.inr ⟨a,_,hx,hso⟩,λrest=>?_⟩;obtain⟨s,p1,p2⟩:=h4 rest;refine⟨.cells s t,by show ob (sd ts (ls++rest)) _=_;rw[p1];rfl,λσ M h sm H=>?_⟩;obtain⟨o,n,vs,q1,q2,q3⟩:=H a _ hso;exact⟨o,n,vs,by rw[σm_some (sm _ _ (h2 _ _ hx))];exact q1,q2,p2 σ M vs sm q3⟩
  ·cases k
 ·obtain⟨x,hx,f⟩:=af e;obtain⟨a,ha,g⟩:=af f;subst ha;obtain⟨so,hso,k⟩:=af g;split at k
  ·obtain⟨e1,q⟩:=aT k;have:=bJ e1;subst this;refine⟨_,m,q,Sub.refl _,λI=>I,.inr ⟨a,_,hx,hso⟩,λrest=>⟨_,rfl,λσ M h sm H=>?_⟩⟩;obtain⟨o,n,vs,q1,q2,q3⟩:=H a _ hso;exact⟨o,n,vs,by rw[σm_some (sm _ _ hx)];exact q1,q2,q3⟩
  ·cases k
 ·obtain⟨x,hx,e⟩:=af e;split at e
  ·obtain⟨e1,e⟩:=aT e;exact⟨_,m,e,Sub.refl _,λI=>I,.inl hx,λrest=>⟨_,rfl,λσ M h sm H=>(⟨cT e1,⟨(λx h=>by cases h),rfl⟩,.inl ⟨σm_none (sm _ _ hx),rfl⟩⟩)⟩⟩
  ·rename_i a;obtain⟨so,hso,e⟩:=af e;split at e
   ·obtain⟨e1,f⟩:=aT e;rw[bg] at e1;have e2:=bJ e1.1;have e3:=bJ e1.2;subst e2 e3;refine⟨_,m,f,Sub.refl _,λI=>I,.inr ⟨a,_,hx,hso⟩,λrest=>⟨_,rfl,λσ M h sm H=>?_⟩⟩;obtain⟨q1,q2,q3⟩:=H a _ hso;have hs:=σm_some (σ:=σ) (sm _ _ hx);refine⟨q1,q2,?_⟩;rcases q3 with⟨r1,r2⟩|⟨o,n,r1,r2⟩<;>grind
   ·cases e
theorem Rb:∀(ol:List (Nat×OT))(h0:Tr SO)(m:Mp)(K:List bo->Mp->Option β)(b:β),JU ol h0 m K=some b->
 ∃ls m',K ls m'=some b/\Sub m m'/\(kZ m->kZ m')/\∀rest,∃T,yN ol (ls++rest)=some (T,rest)/\∀(σ:Nm)(M:Mp)(h:Heap),Sub m' M->(∀id so,h0.get id=some so->DO σ h id so)->
  ∀id so,T.get id=some so->DO (σm σ M) h id so/\(dV id M=some none\/∃a so,dV id M=some (some a)/\h0.get a=some so)
 |[],h0,m,K,b,e=>⟨_,_,e,Sub.refl _,id,λrest=>⟨_,rfl,λσ M h _ _ t sv h=>by rw[Tr.get_nil] at h;cases h⟩⟩
 |(id0,ot)::r,h0,m,K,b,e=>by
  obtain⟨l1,m1,h1,h2,h3,hl,h4⟩:=Zp e;obtain⟨l2,m2,g1,g2,g3,g4⟩:=Rb r h0 m1 _ b h1;refine⟨l1++l2,m2,g1,h2.trans g2,λI=>g3 (h3 I),λrest=>?_⟩;obtain⟨s1,p1,p2⟩:=h4 (l2++rest);obtain⟨T,q1,q2⟩:=g4 rest;refine⟨T.set id0 s1,?_,λσ M h s H id so hg=>?_⟩
  ·rw[dY];unfold yN;rw[p1];show ob (yN r (l2++rest)) _=_;rw[q1];rfl
  ·rw[Tr.bD] at hg;by_cases e:id=id0
   ·rw[ar e] at hg;cases hg;rw[e];refine⟨p2 σ M h (g2.trans s) H,?_⟩;rcases hl with hl|⟨a,so,k1,k2⟩
    ·exact .inl (s _ _ (g2 _ _ (h2 _ _ hl)))
    ·exact .inr ⟨a,so,s _ _ (g2 _ _ (h2 _ _ k1)),k2⟩
   ·rw[ai e] at hg;exact q2 σ M h s H id so hg
theorem ER{n:Nat}:∀{m:Mp},(m.all λp=>Nat.blt p.1 n)=true->∀id x,dV id m=some x->id<n
 |[],_,id,x,h=>by cases h
 |(j,y)::m,e,id,x,h=>by
  rw[List.all_cons,bg] at e;rw[qS] at h;by_cases q:j=id
  ·simp_all
  ·rw[ai q] at h;exact ER e.2 id x h
variable{st:St} {t:cZ}
theorem JS{m0:Mp}(I0:kZ m0){K:List bo->Mp->Option β}(e:yq m0 t st K=some b):
 ∃ls m,K ls m=some b/\Sub m0 m/\kZ m/\(∀id x,dV id m=some x->id<t.sx)/\∃st',iX t ls=some st'/\st'.sx=t.sx/\∀(σ:Nm)(tm:Tr Value)(h:Heap)(nx:Nat),aM σ st tm h nx->aM (σm σ m) st' tm h nx/\
  ∀id so,st'.h.get id=some so->dV id m=some none\/∃a so',dV id m=some (some a)/\st.h.get a=some so':=by
 obtain⟨l1,m1,h1,h2,h3,h4⟩:=Rc _ _ _ _ _ e;obtain⟨l2,m2,g1,g2,g3,g4⟩:=Rb _ _ _ _ _ h1;obtain⟨e1,e2⟩:=aT g1;have I:=g3 (h3 I0);refine⟨_,_,e2,h2.trans g2,I,ER e1,?_⟩;obtain⟨T,p1,p2⟩:=h4 l2;obtain⟨H,q1,q2⟩:=g4 [];rw[eH] at q1;refine⟨⟨T,H,t.sx⟩,?_,rfl,λσ tm h nx R=>⟨?_,λid so hs=>(q2 σ m2 h (Sub.refl _) R.obj id so hs).2⟩⟩
 ·unfold iX;rw[p1];show ob (yN t.sq l2) _=_;rw[q1];rfl
 ·refine⟨p2 σ m2 tm g2 R.tm,λid so hs=>(q2 σ m2 h (Sub.refl _) R.obj id so hs).1,λid id' so so' o n n' a1 a2 b1 b2=>?_,λid o n hσ=>?_,λid hid=>?_⟩
  ·rcases(q2 σ m2 h (Sub.refl _) R.obj id so a1).2 with k|⟨a,s1,k1,k2⟩
   ·rw[σm_none k] at b1;cases b1
   ·rw[σm_some k1] at b1;rcases(q2 σ m2 h (Sub.refl _) R.obj id' so' a2).2 with k|⟨a',s2,k3,k4⟩
    ·rw[σm_none k] at b2;cases b2
    ·rw[σm_some k3] at b2;have:=R.inj _ _ _ _ _ _ _ k2 k4 b1 b2;subst this;exact I _ _ _ k1 k3
  ·unfold σm at hσ;split at hσ
   ·exact R.lt _ _ _ hσ
   ·cases hσ
   ·cases hσ
  ·have hid:t.sx<=id:=hid;unfold σm;split
   ·rename_i a ha;have:=ER e1 _ _ ha;omega
   ·rename_i ha;have:=ER e1 _ _ ha;omega
   ·rfl
theorem SC:∀{an k:Nat},k<an->dV k (vD an)=some (some k)
 |0,k,h=>by omega
 |n+1,k,h=>by
  show dV k ((n,some n)::vD n)=_;rw[qS];by_cases e:n=k
  ·grind
  ·rw[ai e];exact SC (by omega)
theorem KC:∀{an k:Nat}{x:Option Nat},dV k (vD an)=some x->x=some k
 |0,k,x,h=>by cases h
 |n+1,k,x,h=>by
  have h:dV k ((n,some n)::vD n)=some x:=h;rw[qS] at h;by_cases e:n=k
  ·grind
  ·rw[ai e] at h;exact KC h
theorem XS(an:Nat):kZ (vD an):=λi j a h1 h2=>by
 have:=KC h1;have:=KC h2
 grind
structure hQ(an nx:Nat)(σ σ':Nm):Prop where
 an:∀k,k<an->∀x,σ k=some x->σ' k=some x
 nw:∀id o n,σ' id=some (some o,n)->nx<=o\/∃id' n',σ id'=some (some o,n')
theorem hQ.refl(an nx:Nat)(σ:Nm):hQ an nx σ σ:=⟨λ_ _ _ h=>h,λid _ n h=>.inr ⟨id,n,h⟩⟩
variable{an nx:Nat}
theorem hQ.trans{nx1:Nat}{a b c:Nm}(h:hQ an nx a b)(k:hQ an nx1 b c)(l:nx<=nx1):hQ an nx a c:=⟨λi hi x e=>k.an i hi x (h.an i hi x e),λid o n e=>by
 rcases k.nw id o n e with q|⟨i,m,q⟩
 ·grind
 ·exact h.nw i o m q⟩
theorem NX.Ez{σ':Nm}(h:NX nx σ σ'):hQ an nx σ σ':=⟨λk _ x e=>h.ext k x e,h.nw⟩
theorem yr{K:List bo->Option β}(e:qL an t st K=some b):
 ∃ls,K ls=some b/\∃st',iX t ls=some st'/\st'.sx=t.sx/\∀(σ:Nm)(tm:Tr Value)(h:Heap)(nx:Nat),aM σ st tm h nx->∃σ',aM σ' st' tm h nx/\hQ an nx σ σ':=by
 obtain⟨ls,m,h1,h2,_,_,st',h4,h5,h6⟩:=JS (XS an) e;refine⟨ls,h1,st',h4,h5,λσ tm h nx R=>⟨σm σ m,(h6 σ tm h nx R).1,λk hk x e=>(by rw[σm_some (h2 _ _ (SC hk))];exact e),λid o n e=>?_⟩⟩
 ·unfold σm at e
  grind
end
section
variable{β:Type}
variable{α:Type}
def ye(p:Nat->Bool):Tr α->(Nat->Nat)->Tr α
 | .nil,_=>.nil
 | .node v l r,k=>.node (match v with|some x=>cond (p (k 0)) (some x) none|none=>none) (ye p l (λn=>k (2*n+1))) (ye p r (λn=>k (2*n+2)))
variable{p:Nat->Bool}
theorem IA:∀(q:ke)(t:Tr α)(k:Nat->Nat),walk q (ye p t k)=cond (p (k q.num)) (walk q t) none
 |q,.nil,k=>by unfold ye;rw[An];simp
 | .z,.node v l r,k=>by
  show(match v with|some x=>cond (p (k 0)) (some x) none|none=>none)=cond (p (k 0)) v none
  cases v with
  |some x=>rfl
  |none=>simp
 | .l q,.node v l r,k=>IA q l (λn=>k (2*n+1))
 | .r q,.node v l r,k=>IA q r (λn=>k (2*n+2))
def jz(h:Heap)(p:Nat->Bool):Heap:=ye p h id
variable{h:Heap} {o:Nat}
theorem JZ:(jz h p).get o=cond (p o) (h.get o) none:=by have:=IA (p:=p) (oY o) h id;unfold oY at this;rw[yZ _ _ (pj _)] at this;exact this
theorem pQ(k:p o=true):(jz h p).get o=h.get o:=by rw[JZ,k];rfl
theorem tW(k:p o=false):(jz h p).get o=none:=by rw[JZ,k];rfl
theorem rX{ob:eV}(e:(jz h p).get o=some ob):p o=true/\h.get o=some ob:=by
 rw[JZ] at e;cases hp:p o with
 |true=>grind
 |false=>grind
def cut(h:Heap)(nx:Nat):Heap:=ye (λo=>Nat.blt o nx) h id
variable{nx:Nat}
theorem Qy:(cut h nx).get o=cond (Nat.blt o nx) (h.get o) none:=by have:=IA (p:=λo=>Nat.blt o nx) (oY o) h id;unfold oY at this;rw[yZ _ _ (pj _)] at this;exact this
theorem QA(k:o<nx):(cut h nx).get o=h.get o:=by rw[Qy,show Nat.blt o nx=true from by unfold Nat.blt;exact gi k];rfl
theorem Ea(k:nx<=o):(cut h nx).get o=none:=by
 rw[Qy];cases hb:Nat.blt o nx with
 |true=>have:=cT hb;omega
 |false=>rfl
theorem yf:∀o ob,(cut h nx).get o=some ob->h.get o=some ob:=by
 intro o ob e;rcases dg o nx with k|k
 ·rw[QA k] at e;exact e
 ·rw[Ea k] at e;cases e
variable{st:St} {tm:Tr Value} {σ:Nm}
theorem aM.cut(R:aM σ st tm h nx):aM σ st tm (cut h nx) nx:=
 ⟨R.tm,λid so hs=>(R.obj id so hs).mono (iG.refl _) λo n g=>QA (R.lt id o n g),R.inj,R.lt,R.fresh⟩
variable{P:Program}
theorem cG.more{m m':AM}(S:cG P {m with h:=h} m')(s:∀o ob,h.get o=some ob->m.h.get o=some ob):cG P m m':=by
 intro ρ fr cs base w F CC H N;obtain⟨ρ',fr',cs',w',a,b,c,d,M⟩:=S ρ fr cs base w F CC (H.sub s) N;exact⟨ρ',fr',cs',w',a,b,c,d,⟨M.os,M.tape,M.output,M.size,λb hb ho=>M.block b hb λ⟨o,ob,L,x,y,z⟩=>ho ⟨o,ob,L,s _ _ x,y,z⟩,
  λb hb ho=>by
   obtain⟨o,ob,L,x,y,z⟩:=M.owned b hb ho;exact⟨o,ob,L,s _ _ x,y,z⟩,M.le,M.cq,M.lit,λb i v hv=>by
   rcases M.eU b i v hv with h1|h1|⟨o,ob,L,x,y,z⟩
   ·grind
   ·grind
   ·exact .inr (.inr ⟨o,ob,L,s _ _ x,y,z⟩)⟩⟩
def oX(tm:Tr SV):List Nat->Tr SV->Tr SV
 |[],acc=>acc
 |t::ts,acc=>match tm.get t with
  |some v=>oX tm ts (acc.set t v)
  |none=>oX tm ts acc
theorem Fs{tm:Tr SV}:∀(ts:List Nat)(acc:Tr SV)(t:Nat)(u:SV),(oX tm ts acc).get t=some u->(t∈ts/\tm.get t=some u)\/acc.get t=some u
 |[],_,_,_,h=>.inr h
 |x::xs,acc,t,u,h=>by
  unfold oX at h;cases hx:tm.get x with
  |none=>rw[hx] at h;rcases Fs xs acc t u h with⟨a,b⟩|a<;>grind
  |some v=>
   rw[hx] at h;rcases Fs xs (acc.set x v) t u h with⟨a,b⟩|a
   ·grind
   ·rw[Tr.bD] at a
    grind
theorem Lp:∀(ts:List Nat)(acc:Tr Value)(t:Nat),(∀u,acc.get t=some u->tm.get t=some u)->(t∈ts\/acc.get t=tm.get t)->(only tm ts acc).get t=tm.get t
 |[],acc,t,_,h=>by
  rcases h with h|h
  ·grind
  ·exact h
 |x::xs,acc,t,k,h=>by
  unfold only;cases hx:tm.get x with
  |none=>
   refine Lp xs acc t k ?_;rcases h with h|h
   ·rcases cj.1 h with rfl|h
    ·right;rw[hx];cases ha:acc.get t with
     |none=>rfl
     |some u=>grind
    grind
   grind
  |some v=>
   refine Lp xs _ t (λu hu=>?_) ?_
   ·rw[Tr.bD] at hu
    grind
   ·rw[Tr.bD]
    grind
theorem Lq{ts:List Nat}{t:Nat}(h:t∈ts):(only tm ts .nil).get t=tm.get t:=
 Lp ts .nil t (λu hu=>by rw[Tr.get_nil] at hu;cases hu) (.inl h)
variable{ops:Array Oper}
theorem vG{o:Oper}:fU ops (only tm (looks ops o) .nil) o=fU ops tm o:=by
 unfold fU;split
 ·rfl
 ·rename_i j want hg;cases hj:ops[j]? with
  |none=>rfl
  |some oj=>
   cases hd:oj.dst with
   |none=>simp only[ob,hd]
   |some d=>
    have:d∈looks ops o:=by unfold looks;simp_all
    simp only[ob,hd,Lq this]
theorem aM.only(R:aM σ st tm h nx)(ts:List Nat):aM σ {st with tm:=oX st.tm ts .nil} (only tm ts .nil) h nx:=by
 refine⟨λt sv hs=>?_,R.obj,R.inj,R.lt,R.fresh⟩;rcases Fs ts .nil t sv hs with⟨a,b⟩|a
 ·rw[Lq a];exact R.tm t sv b
 ·rw[Tr.get_nil] at a;cases a
theorem aM.bare(R:aM σ st tm h nx):aM σ {st with h:=.nil} tm .nil nx:=
 ⟨R.tm,λid so hs=>(by have hs:(Tr.nil:Tr SO).get id=some so:=hs;rw[Tr.get_nil] at hs;cases hs),λid id' so so' o n n' hs=>(by have hs:(Tr.nil:Tr SO).get id=some so:=hs;rw[Tr.get_nil] at hs;cases hs),R.lt,R.fresh⟩
variable{n:Nat}
theorem aM.name(R:aM σ st tm h nx):aM (σ.add st.sx (some nx,n)) {st with sx:=st.sx+1} tm h (nx+1):=by
 have hn:=R.fresh _ (aB _);have E:iG σ (σ.add st.sx (some nx,n)):=Nm.AJ hn;have ne:∀id so,st.h.get id=some so->id≠st.sx:=λid so hs e=>by
  subst e;have:=R.obj _ _ hs;cases so with
  |cells c t=>obtain⟨o,n,vs,g1,_⟩:=this;rw[hn] at g1;cases g1
  |arr c t=>obtain⟨o,n,vs,g1,_⟩:=this;rw[hn] at g1;cases g1
  |grow E c t=>obtain⟨_,_,g⟩:=this;simp_all
 refine⟨λt sv hv=>?_,λid so hs=>(R.obj id so hs).mono E λ_ _ _=>rfl,λid id' so so' o n1 n2 a1 a2 b1 b2=>?_,λid o m hm=>?_,λid hid=>?_⟩
 ·obtain⟨v,a,b⟩:=R.tm t sv hv;exact⟨v,a,b.mono E⟩
 ·rw[Nm.kI (ne id so a1)] at b1;rw[Nm.kI (ne id' so' a2)] at b2;exact R.inj _ _ _ _ _ _ _ a1 a2 b1 b2
 ·by_cases e:id=st.sx
  ·rw[e,Nm.eI] at hm;cases hm;omega
  ·rw[Nm.kI e] at hm;have:=R.lt _ _ _ hm;omega
 ·have hid:st.sx+1<=id:=hid;rw[Nm.kI (by omega)];exact R.fresh id (by omega)
def Ks(tm:Tr SV)(d:Option Nat)(tm':Tr SV):Tr SV:=match d with
 |none=>tm
 |some d=>match tm'.get d with
  |some v=>tm.set d v
  |none=>tm.del d
variable{h':Heap} {nx':Nat} {tm0:Tr Value} {v:Value}
theorem aM.join{σ':Nm}{st':St}{d:Option Nat}(R:aM σ st tm h nx)(E:iG σ σ')(R':aM σ' st' (fM tm0 d v) h' nx'):
 aM σ' ⟨Ks st.tm d st'.tm,st'.h,st'.sx⟩ (fM tm d v) h' nx':=by
 refine⟨λt sv hs=>?_,R'.obj,R'.inj,R'.lt,R'.fresh⟩;cases d with
 |none=>obtain⟨u,u1,u2⟩:=R.tm t sv hs;exact⟨u,u1,u2.mono E⟩
 |some d=>
  unfold Ks at hs;simp only at hs;unfold fM;rw[Tr.bD];split at hs
  ·rename_i v' hv';rw[Tr.bD] at hs;by_cases e:t=d
   ·rw[ar e] at hs⊢;cases hs;obtain⟨u,u1,u2⟩:=R'.tm d _ hv';unfold fM at u1;rw[Tr.bD] at u1;simp_all
   ·rw[ai e] at hs⊢;obtain⟨u,u1,u2⟩:=R.tm t sv hs;exact⟨u,u1,u2.mono E⟩
  ·rw[Tr.kK] at hs;by_cases e:t=d
   ·grind
   ·rw[ai e] at hs⊢;obtain⟨u,u1,u2⟩:=R.tm t sv hs;exact⟨u,u1,u2.mono E⟩
def BH(o:Op):Bool:=match o with
 | .alloc _=>true
 | .box _ _=>true
 | .buildSlice _ _ _=>true
 | .makeSlice _ _ _=>true
 |_=>false
class QF where
 q:FuncId->Bool
variable[QF]
def Kq(o:Op):Bool:=match o with
 | .call c=>match c.callee with
  | .value (.func f)=>QF.q f
  |_=>false
 |_=>false
mutual
def uu:SV->Bool
 | .i _ _=>true
 | .b _=>true
 | .s _=>true
 | .v _=>true
 | .nl=>true
 | .ni=>true
 | .agg l=>zb l
 | .aH l=>zb l
 | .fn _ l=>zb l
 | .lp _=>true
 |_=>false
def zb:List SV->Bool
 |[]=>true
 |x::xs=>uu x&&zb xs
end
omit [QF] in
mutual
theorem LJ{σ σ':Nm}:∀{x:SV}{v:Value},uu x=true->DV σ x v->DV σ' x v
 |_,_,_,.i k n=>.i k n
 |_,_,_,.b x=>.b x
 |_,_,_,.s x=>.s x
 |_,_,_,.v h h1=>.v h h1
 |_,_,_,.nl=>.nl
 |_,_,_,.im=>.im
 |_,_,h,.agg d=>.agg (FH h d)
 |_,_,h,.aH d=>.aH (FH h d)
 |_,_,h,.ptr _=>by cases h
 |_,_,_,.lp h=>.lp h
 |_,_,h,.sl _ _ _=>by cases h
 |_,_,h,.gP _=>by cases h
 |_,_,h,.gr _=>by cases h
 |_,_,h,.fn d=>.fn (FH h d)
 |_,_,h,.eR _=>by cases h
 |_,_,h,.em _=>by cases h
 |_,_,_,.ni=>.ni
theorem FH{σ σ':Nm}:∀{x:List SV}{v:List Value},zb x=true->bU σ x v->bU σ' x v
 |_,_,_,.nil=>.nil
 |_,_,h,.cons a t=>by have h:=Bool.and_eq_true_iff.1 h;exact .cons (LJ h.1 a) (FH h.2 t)
end
omit [QF] in
mutual
theorem LL{σ:Nm}{ρ ρ2:Ren}(e:∀b i u,ρ.lit b i=some u->ρ2.lit b i=some u):∀{x:SV}{v y:Value},uu x=true->DV σ x v->aF ρ v y->aF ρ2 v y
 |_,_,_,_,.i k n,r=>by cases r;exact .int _ _
 |_,_,_,_,.b x,r=>by cases r;exact .bool _
 |_,_,_,_,.s x,r=>by cases r;exact .str _
 |_,_,_,_,.v h h1,r=>((h.rel r).mono e).to
 |_,_,_,_,.nl,r=>by cases r;exact .kS
 |_,_,_,_,.im,r=>by cases r;exact .kS
 |_,_,_,h,.agg d,r=>by cases r with|agg r=>exact .agg (FI e h d r)
 |_,_,_,h,.aH d,r=>by cases r with|tuple r=>exact .tuple (FI e h d r)
 |_,_,_,h,.ptr _,_=>by cases h
 |_,_,_,_,.lp h,r=>(((aY.lit h.1 h.2).rel r).mono e).to
 |_,_,_,h,.sl _ _ _,_=>by cases h
 |_,_,_,h,.gP _,_=>by cases h
 |_,_,_,h,.gr _,_=>by cases h
 | .fn f _,_,_,h,.fn d,r=>by
  rename_i ys;cases r with
  |func hf r1 r2=>
   have q:=FI e h d (bk.append r1 r2|>λq=>by have:(⟨ys.take (f/65536)⟩:Array Value).toList++(⟨ys.drop (f/65536)⟩:Array Value).toList=ys:=mD _ _;rw[this] at q;exact q);have l1:=r1.length;refine .func hf ?_ ?_
   ·have:=q.take (ys.take (f/65536)).length
    grind
   ·have:=q.drop (ys.take (f/65536)).length;rw[show(ys.take (f/65536)).length=_ from l1,List.drop_left' rfl,<-l1] at this;rw[show ys.drop (ys.take (f/65536)).length=ys.drop (f/65536) by rw[dH,List.drop_eq_drop_iff];omega] at this;exact this
 |_,_,_,h,.eR _,_=>by cases h
 |_,_,_,h,.em _,_=>by cases h
 |_,_,_,_,.ni,r=>by cases r;exact .nilIface
theorem FI{σ:Nm}{ρ ρ2:Ren}(e:∀b i u,ρ.lit b i=some u->ρ2.lit b i=some u):∀{x:List SV}{v y:List Value},zb x=true->bU σ x v->bk ρ v y->bk ρ2 v y
 |_,_,_,_,.nil,r=>by cases r;exact .nil
 |_,_,_,h,.cons a t,r=>by
  have h:=Bool.and_eq_true_iff.1 h;cases r with
  |cons r1 r2=>exact .cons (LL e h.1 a r1) (FI e h.2 t r2)
end
variable{i:Nat}
omit [QF] in
theorem aep(sub:∀t u,tm0.get t=some u->tm.get t=some u)(hp:∀t u,tm0.get t=some u->∃σ sv,uu sv=true/\DV σ sv u)
 {sv:SV} (hv:uu sv=true) (d:DV σ sv v) (R:dE P ops i tm0 n .nil 0 v h' nx') (h:Heap) (nx:Nat):dE P ops i tm n h nx v h nx:=by
 intro ρ fr cs w rest k hm ht S H N
 let ρ0:Ren:=⟨λ_=>none,ρ.lit⟩
 have S0:jm ρ0 tm0 n fr.tmps:=⟨S.1,λt u hu=>by obtain⟨u',a,b⟩:=S.2 t u (sub t u hu);obtain⟨σ1,s1,p1,p2⟩:=hp t u hu;exact⟨u',a,LL (ρ:=ρ) (ρ2:=ρ0) (λ_ _ _ h=>h) p1 p2 b⟩⟩;obtain⟨ρ',v',w',a1,a7,a8,M⟩:=R ρ0 fr cs w rest k hm ht S0 (⟨λo ob ho=>(by rw[Tr.get_nil] at ho;cases ho),λo o' L L' ob ob' h1=>(by simp),H.lit,λb i v hv o ob L ho=>(by simp)⟩) (λ_ _ _=>rfl);have iC:=λb hb=>M.block b hb sk;have news:∀b i u,fw ρ' h' w' b i=some u->ρ.lit b i=some u\/w.heap.size<=b:=by
  intro b i u hu;rcases tH b i u hu with h1|h1
  ·rcases M.eU b i u h1 with h2|h2|h2
   ·grind
   ·grind
   ·exact absurd h2 sk
  ·rcases dg b w.heap.size with h2|h2
   ·exact absurd h1 ((λb hb ho=>sk (M.owned b hb ho)) b h2)
   grind
 let ρ2:Ren:=⟨ρ.cq,fw ρ' h' w'⟩
 have E:Ext ρ ρ2:=⟨λ_ _ h=>h,λb i u hu=>vC a8 b i u (M.lit b i u hu)⟩;refine⟨ρ2,v',w',a1,LL (vC a8) hv d a7,⟨?_,H.inj,xS a8,?_⟩,⟨M.os,M.tape,M.output,M.size,λb hb _=>iC b hb,λb _ ho=>ho,aB _,λ_ _=>rfl,E.lit,λb i u hu=>?_⟩⟩
 ·intro o ob ho;obtain⟨L,l1,l2⟩:=H.obj o ob ho;exact⟨L,l1,(l2.mono E).block (iC _ l2.lt)⟩
 ·intro b i u hu o ob L ho hL;rcases news b i u hu with h1|h1
  ·exact H.free b i u h1 o ob L ho hL
  ·obtain⟨L1,l1,l2⟩:=H.obj o ob ho;cases l1.symm.trans hL;have:=l2.lt;omega
 grind
def Ls(o:Op):List Nat:=o.operands.toList.filterMap λx=>match x with| .tmp t=>some t|_=>none
def LM(tm:Tr SV):List Nat->Bool
 |[]=>true
 |t::ts=>(match tm.get t with|some sv=>uu sv|none=>false)&&LM tm ts
omit [QF] in
theorem Uy{tm:Tr SV}:∀{ts:List Nat},LM tm ts=true->∀t∈ts,∃sv,tm.get t=some sv/\uu sv=true
 |[],_,t,h=>by grind
 |x::ts,e,t,h=>by
  have e:=Bool.and_eq_true_iff.1 e;rcases cj.1 h with rfl|h
  ·grind
  ·exact Uy e.2 t h
def BR(X:cJ)(pt:FuncId->Option (dJ β))(st:St)(o:Oper)(K:SV->Option β):Option β:=match o.op with
 | .pick c a b=>ob (dX st.tm c) λv=>match v with
  | .b x=>cond x (ob (dX st.tm a) K) (ob (dX st.tm b) K)
  |_=>none
 |op=>cond (Kq op) (cond (LM st.tm (Ls op)) (C5 X pt ⟨oX st.tm (Ls op) .nil,.nil,st.sx⟩ op λp v _=>cond p none (cond (uu v) (K v) (bM 76))) (bM 75)) (C5 X pt st op λp v _=>cond p none (K v))
def sC(o:Op):Bool:=match o with
 | .pick _ _ _=>true
 |o=>Kq o||uw o
variable{b:β}
theorem Ft{X:cJ}(OK:ea P X){pt:FuncId->Option (dJ β)}(PT:oJ P pt){o:Oper}(ho:ops[i]? =some o)(hq:sC o.op=true){K:SV->Option β}(e:BR X pt st o K=some b):
 ∃sv,K sv=some b/\xz P ops i o st sv:=by
 unfold BR at e;split at e
 ·rename_i c x y hop;obtain⟨v,k1,e⟩:=af e;split at e
  ·rename_i q;have go:∀z,(q=true/\z=x\/q=false/\z=y)->ob (dX st.tm z) K=some b->∃sv,K sv=some b/\xz P ops i o st sv:=by
    intro z hz e;obtain⟨u,k2,e⟩:=af e;refine⟨_,e,λσ tm h nx n R hw=>?_⟩;obtain⟨w,u1,u2⟩:=ec R k1;obtain⟨w2,u3,u4⟩:=ec R k2;cases u2;refine⟨w2,qT OK ho (by rw[hop];rfl) hw ?_,u4⟩;unfold dr;rcases hz with⟨rfl,rfl⟩|⟨rfl,rfl⟩<;>simp[hop,ob,u1,u3]
   cases q with
   |true=>exact go x (.inl ⟨rfl,rfl⟩) e
   |false=>exact go y (.inr ⟨rfl,rfl⟩) e
  ·cases e
 ·rename_i ca;cases hqc:Kq o.op with
  |false=>
   rw[hqc,aE] at e;obtain⟨p,sv,st',h1,h2,h3,h4⟩:=OL OK PT ho e;have hqq:uw o.op=true:=by
    unfold sC at hq;split at hq
    ·rename_i h;exact(ca _ _ _ h).elim
    ·rw[hqc] at hq;exact hq
   obtain⟨hp,hd⟩:=h4 hqq;subst hp;exact⟨sv,h1,hd⟩
  |true=>
   rw[hqc] at e;obtain⟨e0,e⟩:=aT e;obtain⟨p,sv,st',h1,h2,h3,h4⟩:=OL OK PT ho e;cases p with
   |true=>cases h1
   |false=>
    obtain⟨e1,h1⟩:=aT (h1);refine⟨sv,h1,λσ tm h nx n R hw=>?_⟩;have pt:=Uy e0;have R0:aM (λ_=>none) ⟨oX st.tm (Ls o.op) .nil,.nil,st.sx⟩ (only tm (looks ops o) .nil) .nil 0:=by
     refine⟨λt x hx=>?_,λid so hs=>(by rw[Tr.get_nil] at hs;cases hs),λid id' so so' o n n' hs=>(by rw[Tr.get_nil] at hs;cases hs),λid o n hs=>(by cases hs),λ_ _=>rfl⟩;rcases Fs _ _ _ _ hx with⟨a,c⟩|a
     ·obtain⟨v,v1,v2⟩:=R.tm t x c;obtain⟨sv',k1,k2⟩:=pt t a;rw[c] at k1;cases k1;exact⟨v,by rw[Lq (show t∈looks ops o from List.mem_append_left _ a)];exact v1,LJ k2 v2⟩
     ·rw[Tr.get_nil] at a;cases a
    obtain⟨σ',v,h',nx',o1,o2,o3,o4,o5⟩:=h3 _ _ _ _ n R0 (by rw[vG];exact hw);refine⟨v,aep (λt u hu=>?_) (λt u hu=>?_) e1 o4 o1 h nx,LJ e1 o4⟩
    ·rcases yW _ _ _ _ hu with⟨_,a⟩|a
     ·exact a
     ·rw[Tr.get_nil] at a;cases a
    ·rcases yW _ _ _ _ hu with⟨a,c⟩|a
     ·rcases eM.1 a with a|a
      ·obtain⟨sv',k1,k2⟩:=pt t a;obtain⟨v',v1,v2⟩:=R.tm t sv' k1;rw[c] at v1;cases v1;exact⟨σ,sv',k2,v2⟩
      ·unfold fU at hw;split at hw
       ·rename_i hg;rw[hg] at a;cases a
       ·rename_i j want hg;rw[hg] at a;obtain⟨oj,w1,hw⟩:=af hw;obtain⟨dd,w2,hw⟩:=af hw;obtain⟨vv,w3,hw⟩:=af hw;have a:t∈((ops[j]?).bind (·.dst)).toList:=a;rw[w1] at a;have a:t∈(oj.dst).toList:=a;rw[w2] at a;have a:t=dd:=by simpa using a
        subst a;rw[w3] at c;cases c;split at hw
        ·exact⟨σ,.b _,rfl,.b _⟩
        ·cases hw
        ·cases hw
     ·rw[Tr.get_nil] at a;cases a
def oq(ops:Array Oper)(ms:List Nat)(i:Nat):Bool:=
 nO ops.size λj=>match ops[j]? with
  |some o=>sC o.op||(BH o.op||(bit ms i j||bit ms j i))
  |none=>true
def WW(ops:Array Oper)(ms:List Nat)(i:Nat):Bool:=nO ops.size λj=>cond (Nat.ble j i) true (bit ms j i)
def rW(a b:Nat)(r:Option β):Option β:=cond (Nat.beq a b) r none
noncomputable def tV(x y:Value)(r:Option β):Option β:=open Classical in if x=y then r else none
omit [QF] in
theorem Zn(x:Value)(r:Option β):tV x x r=r:=by unfold tV;rw[ar rfl]
variable{r:Option β}
omit [QF] in
theorem Zl{x y:Value}(e:tV x y r=some b):x=y/\r=some b:=by
 unfold tV at e
 grind
mutual
noncomputable def JJ:SV->SV->Option β->Option β
 | .i k n,.i k' m,r=>cond (decide (k=k')) (cond (ak n m) r none) none
 | .b x,.b y,r=>cond x (cond y r none) (cond y none r)
 | .ptr a x,.ptr a' x',r=>rW a a' (rW x x' r)
 | .sl a x n c,.sl a' x' n' c',r=>rW a a' (rW x x' (rW n n' (rW c c' r)))
 | .gr a x,.gr a' x',r=>rW a a' (rW x x' r)
 | .nl,.nl,r=>r
 | .ni,.ni,r=>r
 | .agg l,.agg l',r=>JL l l' r
 | .v x,.v y,r=>tV x y r
 |_,_,_=>bM 74
noncomputable def JL:List SV->List SV->Option β->Option β
 |[],[],r=>r
 |x::xs,y::ys,r=>JJ x y (JL xs ys r)
 |_,_,_=>none
end
omit [QF] in
theorem tU{a b:Nat}{c:β}(e:rW a b r=some c):a=b/\r=some c:=by obtain⟨h,e⟩:=aT e;simp_all
mutual
def NV:SV->Value->Prop
 | .v x,v=>v=x
 | .agg l,v=>match v with
  | .agg xs=>Av l xs.toList
  |_=>True
 |_,_=>True
def Av:List SV->List Value->Prop
 |[],_=>True
 |x::xs,vs=>match vs with
  |v::vs=>NV x v/\Av xs vs
  |[]=>True
end
omit [QF] in
mutual
theorem canon{σ:Nm}:∀(sv:SV)(v:Value),DV σ sv v->∃v2,DV σ sv v2/\NV sv v2/\∀(ρ:Ren)(x:Value),aF ρ v x->aF ρ v2 x
 | .v x,v,d=>by
  cases d with
  |v h h1=>exact⟨_,.v h h1,rfl,λ_ _ r=>r⟩
  |im=>exact⟨ae 0 [],.v (.lit (λx h=>by cases h) rfl) rfl,rfl,λρ x r=>by cases r;exact(show bj ρ.lit (ae 0 []) _ from .fN).to⟩
 | .agg l,v,d=>by
  cases d with
  |agg d=>obtain⟨ys,h1,h2,h3⟩:=Qh l _ d;exact⟨.agg ⟨ys⟩,.agg h1,h2,λρ x r=>by cases r with|agg r=>exact .agg (h3 ρ _ r)⟩
 | .i _ _,v,d=>⟨v,d,trivial,λ_ _ r=>r⟩
 | .b _,v,d=>⟨v,d,trivial,λ_ _ r=>r⟩
 | .s _,v,d=>⟨v,d,trivial,λ_ _ r=>r⟩
 | .nl,v,d=>⟨v,d,trivial,λ_ _ r=>r⟩
 | .ni,v,d=>⟨v,d,trivial,λ_ _ r=>r⟩
 | .aH _,v,d=>⟨v,d,trivial,λ_ _ r=>r⟩
 | .ptr _ _,v,d=>⟨v,d,trivial,λ_ _ r=>r⟩
 | .lp _,v,d=>⟨v,d,trivial,λ_ _ r=>r⟩
 | .sl _ _ _ _,v,d=>⟨v,d,trivial,λ_ _ r=>r⟩
 | .gr _ _,v,d=>⟨v,d,trivial,λ_ _ r=>r⟩
 | .fn _ _,v,d=>⟨v,d,trivial,λ_ _ r=>r⟩
 | .eR _ _,v,d=>⟨v,d,trivial,λ_ _ r=>r⟩
 | .em _,v,d=>⟨v,d,trivial,λ_ _ r=>r⟩
theorem Qh{σ:Nm}:∀(l:List SV)(vs:List Value),bU σ l vs->∃ys,bU σ l ys/\Av l ys/\∀(ρ:Ren)(xs:List Value),bk ρ vs xs->bk ρ ys xs
 |[],_,d=>by cases d;exact⟨[],.nil,trivial,λ_ _ r=>r⟩
 |x::l,_,d=>by
  cases d with
  |cons a t=>obtain⟨y,h1,h2,h3⟩:=canon x _ a;obtain⟨ys,g1,g2,g3⟩:=Qh l _ t;exact⟨y::ys,.cons h1 g1,⟨h2,g2⟩,λρ xs r=>by cases r with|cons r1 r2=>exact .cons (h3 ρ _ r1) (g3 ρ _ r2)⟩
end
omit [QF] in
theorem dE.Ph{v2:Value}(R:dE P ops i tm n h nx v h' nx')(e:∀(ρ:Ren)(x:Value),aF ρ v x->aF ρ v2 x):dE P ops i tm n h nx v2 h' nx':=by
 intro ρ fr cs w rest k hm ht S H N;obtain⟨ρ',v',w',a,b,c,d⟩:=R ρ fr cs w rest k hm ht S H N
 grind
omit [QF] in
mutual
theorem JK:∀(x y:SV)(r:Option β)(b:β),JJ x y r=some b->r=some b/\∀(σ:Nm)(u v:Value),DV σ x u->NV x u->DV σ y v->NV y v->u=v
 | .i k n,.i k' m,r,b,e=>by
  obtain⟨h1,e1⟩:=aT e;obtain⟨h2,e2⟩:=aT e1;have h1:=qw h1;have h2:n=m:=by cases n<;>cases m<;>first|exact bK _ (bJ h2)|exact(bK _ (bJ h2).symm)|cases h2
  subst h1;subst h2;exact⟨e2,λσ u v a _ c _=>by cases a;cases c;rfl⟩
 | .b x,.b y,r,b,e=>by
  cases x with
  |true=>cases y with
   |true=>exact⟨e,λσ u v a _ c _=>by cases a;cases c;rfl⟩
   |false=>cases e
  |false=>cases y with
   |true=>cases e
   |false=>exact⟨e,λσ u v a _ c _=>by cases a;cases c;rfl⟩
 | .ptr a x,.ptr a' x',r,b,e=>by obtain⟨h1,e1⟩:=tU e;obtain⟨h2,e2⟩:=tU e1;subst h1;subst h2;exact⟨e2,λσ u v p _ q _=>by cases p with|ptr p=>cases q with|ptr q=>(rw[p] at q;cases q;rfl)⟩
 | .sl a x n c,.sl a' x' n' c',r,b,e=>by obtain⟨h1,e1⟩:=tU e;obtain⟨h2,e2⟩:=tU e1;obtain⟨h3,e3⟩:=tU e2;obtain⟨h4,e4⟩:=tU e3;subst h1;subst h2;subst h3;subst h4;exact⟨e4,λσ u v p _ q _=>by cases p with|sl p _ _=>cases q with|sl q _ _=>(rw[p] at q;cases q;rfl)⟩
 | .gr a x,.gr a' x',r,b,e=>by
  obtain⟨h1,e1⟩:=tU e;obtain⟨h2,e2⟩:=tU e1;subst h1;subst h2;refine⟨e2,λσ u v p _ q _=>?_⟩;cases p with
  |gP p=>cases q with
   |gP q=>rfl
   |gr q=>rw[p] at q;cases q
  |gr p=>cases q with
   |gP q=>rw[p] at q;cases q
   |gr q=>rw[p] at q;cases q;rfl
 | .nl,.nl,r,b,e=>by exact⟨e,λσ u v p _ q _=>by cases p;cases q;rfl⟩
 | .ni,.ni,r,b,e=>by exact⟨e,λσ u v p _ q _=>by cases p;cases q;rfl⟩
 | .agg l,.agg l',r,b,e=>by
  obtain⟨h1,h2⟩:=Q6 l l' r b e;refine⟨h1,λσ u v p np q nq=>?_⟩;cases p with
  |agg p=>cases q with
   |agg q=>exact bK Value.agg (Array.toList_inj.1 (h2 σ _ _ p np q nq))
 | .v x,.v y,r,b,e=>by obtain⟨h1,h2⟩:=Zl e;refine⟨h2,λσ u v _ np _ nq=>?_⟩;rw[np,nq,h1]
theorem Q6:∀(x y:List SV)(r:Option β)(b:β),JL x y r=some b->r=some b/\∀(σ:Nm)(u v:List Value),bU σ x u->Av x u->bU σ y v->Av y v->u=v
 |[],[],r,b,e=>by exact⟨e,λσ u v p _ q _=>by cases p;cases q;rfl⟩
 |x::xs,y::ys,r,b,e=>by
  obtain⟨h1,h2⟩:=JK x y _ b e;obtain⟨h3,h4⟩:=Q6 xs ys r b h1;refine⟨h3,λσ u v p np q nq=>?_⟩;cases p with
  |cons p ps=>cases q with
   |cons q qs=>rw[h2 σ _ _ p np.1 q nq.1,h4 σ _ _ ps np.2 qs nq.2]
end
structure oI where
 i:Nat
 o:Oper
 tm:Tr SV
 sv:SV
def UF(tm:Tr SV)(o:Op):Bool:=match o with
 | .load _ a=>match dX tm a with
  |some (.ptr _ _)=>true
  |_=>false
 |_=>false
def Ud(ops:Array Oper)(ms:List Nat)(i:Nat):Bool:=
 nO i λj=>match ops[j]? with
  |some o=>sC o.op||(BH o.op||bit ms i j)
  |none=>true
noncomputable def BV(X:cJ)(pt:FuncId->Option (dJ β))(ms:List Nat)(s:Nat)(st:St):List oI->Option β->Option β
 |[],r=>r
 |x::xs,r=>cond (bit ms s x.i) (BV X pt ms s st xs r) (cond (sC x.o.op) (BR X pt ⟨x.tm,st.h,st.sx⟩ x.o λsv=>JJ x.sv sv (BV X pt ms s st xs r)) none)
def BW(ms:List Nat)(s:Nat):List oI->List oI
 |[]=>[]
 |x::xs=>cond (bit ms s x.i) (BW ms s xs) (x::BW ms s xs)
omit [QF] in
theorem Uk{ms:List Nat}{s:Nat}{x:oI}:∀{pe:List oI},x∈pe->bit ms s x.i=true\/x∈BW ms s pe
 |y::pe,h=>by
  unfold BW;rcases cj.1 h with rfl|h
  ·grind
  ·rcases Uk h with k|k
   ·exact .inl k
   grind
noncomputable def tQ(X:cJ)(pt:FuncId->Option (dJ β))(ops:Array Oper)(ms:List Nat):List Oper->Nat->St->Tr SO->List Nat->List oI->(Option SV->St->Option β)->Option β
 |[],_,st,_,_,_,K=>K none st
 |o::os,i,st,hL,ks,pe,K=>EC ops st.tm o λw tm1=>cond w
  (cond (sC o.op)
   (cond (UF tm1 o.op&&!oq ops ms i)
    (cond (Ud ops ms i) (BR X pt ⟨oX tm1 (looks ops o) .nil,hL,st.sx⟩ o λsv=>tQ X pt ops ms os (i+1) {st with tm:=qZ tm1 o.dst sv} hL ks (⟨i,o,oX tm1 (looks ops o) .nil,sv⟩::pe) K) (bM 73))
    (BR X pt ⟨oX tm1 (looks ops o) .nil,cond (oq ops ms i) hL .nil,st.sx⟩ o λsv=>tQ X pt ops ms os (i+1) {st with tm:=qZ tm1 o.dst sv} hL ks pe K))
   (cond (BH o.op)
    (sE X ⟨oX tm1 (looks ops o) .nil,.nil,st.sx⟩ o.op λsv so=>tQ X pt ops ms os (i+1) ⟨qZ tm1 o.dst sv,st.h.set st.sx so,st.sx+1⟩ hL (i::ks) pe K)
    (cond (ks.all λj=>bit ms i j) (BQ X pt {st with tm:=oX tm1 (looks ops o) .nil} o λq st'=>match q with
     |none=>BV X pt ms i st' pe (tQ X pt ops ms os (i+1) ⟨Ks tm1 o.dst st'.tm,st'.h,st'.sx⟩ st'.h (i::ks) (BW ms i pe) K)
     |some v=>cond (WW ops ms i) (K (some v) ⟨wm ops.toList tm1,st'.h,st'.sx⟩) (bM 71)) (bM 72))))
  (tQ X pt ops ms os (i+1) {st with tm:=qZ tm1 o.dst (.aH [])} hL ks pe K)
end
section
variable[QF]
variable{β:Type}
def mZ:Heap->List Rec->Heap->Nat->Heap
 |hl,[],_,_=>hl
 |hl,_::_,_,0=>hl
 |hl,r::rs,hF,i+1=>mZ (cond (Nat.beq r.k 2) (iA rs hF 0) hl) rs hF i
variable{i:Nat} {r:Rec} {rs:List Rec}
omit [QF] in
theorem Kt:jD (r::rs) (i+1)=jD rs i:=rfl
omit [QF] in
theorem Bx:∀(rs:List Rec)(hl hF:Heap)(i:Nat),(∀j,j<i->jD rs j≠2)->mZ hl rs hF i=hl
 |[],_,_,_,_=>rfl
 |_::_,_,_,0,_=>rfl
 |r::rs,hl,hF,i+1,h=>by
  unfold mZ;have h0:Nat.beq r.k 2=false:=by have:r.k≠2:=h 0 (by simp);rw[jE];simpa using this
  rw[h0];exact Bx rs hl hF i λj hj=>by have:=h (j+1) (by omega);rwa[Kt] at this
omit [QF] in
theorem Kv:∀(rs:List Rec)(hl hF:Heap)(p i:Nat),p<i->jD rs p=2->(∀j,p<j->j<i->jD rs j≠2)->mZ hl rs hF i=iA rs hF (p+1)
 |[],_,_,p,_,_,h,_=>by cases h
 |r::rs,hl,hF,p,0,h,_,_=>by omega
 |r::rs,hl,hF,0,i+1,_,h2,h=>by
  unfold mZ;have h0:Nat.beq r.k 2=true:=by have:r.k=2:=h2;simp_all
  rw[h0];exact Bx rs _ hF i λj hj=>by have:=h (j+1) (by simp) (by omega);rwa[Kt] at this
 |r::rs,hl,hF,p+1,i+1,hp,h2,h=>by exact Kv rs _ hF p i (by omega) h2 λj h1 hj=>by have:=h (j+1) (by omega) (by omega);rwa[Kt] at this
structure Ax(P:Program)(ops:Array Oper)(n:Nat)(ms:List Nat)(i:Nat)(r:Rec)(o:Oper)(hl h':Heap)(nx':Nat):Prop where
 le:r.nx<=nx'
 Y2:∀p,r.nx<=p->r.h.get p=none
 kind:(r.k=0/\h'=r.h/\nx'=r.nx/\((∀h,dE P ops i r.tm n h r.nx r.v h r.nx)\/(oq ops ms i=true/\dE P ops i r.tm n hl r.nx r.v hl r.nx)\/(Ud ops ms i=true/\dE P ops i r.tm n hl r.nx r.v hl r.nx)))\/
  (r.k=1/\h'=r.h.set r.nx r.b/\dE P ops i r.tm n .nil r.nx r.v (Tr.nil.set r.nx r.b) nx')\/
  (r.k=2/\sC o.op=false/\BH o.op=false/\dE P ops i r.tm n r.h r.nx r.v h' nx')
structure rJ(P:Program)(ops:Array Oper)(n:Nat)(ms:List Nat)(os:List Oper)(s:Nat)(ks:List Nat)(tm:Tr Value)(h:Heap)(nx:Nat)(hl:Heap)(rs:List Rec)(gX:Tr Value)(hF:Heap)(nF:Nat):Prop where
 len:rs.length=os.length
 h0:iA rs hF 0=h
 x0:oC rs nF 0=nx
 hN:iA rs hF os.length=hF
 xN:oC rs nF os.length=nF
 gX:xH os rs tm os.length gX
 at_:∀i o,os[i]? =some o->∃r tmi,rs[i]? =some r/\r.h=iA rs hF i/\r.nx=oC rs nF i/\r.tm=only tmi (looks ops o) .nil/\xH os rs tm i tmi/\Ax P ops n ms (s+i) r o (mZ hl rs hF i) (iA rs hF (i+1)) (oC rs nF (i+1))
 ET:∀i r,rs[i]? =some r->r.k=2->(∀j∈ks,bit ms (s+i) j=true)/\∀j r',j<i->rs[j]? =some r'->r'.k≠0->bit ms (s+i) (s+j)=true
 later:∀i r,rs[i]? =some r->r.k=0->(∀h,dE P ops (s+i) r.tm n h r.nx r.v h r.nx)\/oq ops ms (s+i)=true\/
  ∀p,i+1<p->p<=os.length->jD rs (p -1)=2->(∀j,i<j->j<p->jD rs j=2->bit ms (s+j) (s+i)=false)->dE P ops (s+i) r.tm n (iA rs hF p) r.nx r.v (iA rs hF p) r.nx
variable{P:Program} {h hl:Heap} {ks ms:List Nat} {n nx s:Nat} {ops:Array Oper} {tm:Tr Value}
theorem rJ.nil:rJ P ops n ms [] s ks tm h nx hl [] tm h nx:=
 ⟨rfl,rfl,rfl,rfl,rfl,λt u hu=>.inr ⟨λj hj=>by simp at hj,hu⟩,λi o ho=>by simp at ho,λi r hr=>by simp at hr,λi r hr=>by simp at hr⟩
def nI(P:Program)(ops:Array Oper)(n:Nat)(ms:List Nat)(s:Nat)(rs:List Rec)(hF:Heap)(len:Nat)(i0:Nat)(tm0:Tr Value)(nx0:Nat)(v0:Value):Prop:=
 ∀p,1<=p->p<=len->jD rs (p -1)=2->(∀j,j<p->jD rs j=2->bit ms (s+j) i0=false)->dE P ops i0 tm0 n (iA rs hF p) nx0 v0 (iA rs hF p) nx0
variable{hF:Heap} {ks':List Nat} {nF nx':Nat} {o:Oper} {os:List Oper}
theorem rJ.cons{h':Heap}{hl':Heap}{gX:Tr Value}
 (D:rJ P ops n ms os (s+1) ks' (fM tm o.dst r.v) h' nx' hl' rs gX hF nF) (a1:r.h=h) (a2:r.nx=nx) (a3:r.tm=only tm (looks ops o) .nil) (R:Ax P ops n ms s r o hl h' nx')
 (k0:∀j∈ks,j∈ks') (k1:r.k≠0->s∈ks') (k2:r.k=2->∀j∈ks,bit ms s j=true) (l:hl'=cond (Nat.beq r.k 2) h' hl)
 (lt:r.k=0->(∀h,dE P ops s r.tm n h r.nx r.v h r.nx)\/oq ops ms s=true\/nI P ops n ms (s+1) rs hF os.length s r.tm r.nx r.v):
 rJ P ops n ms (o::os) s ks tm h nx hl (r::rs) gX hF nF:=by
 refine⟨by simp[D.len],a1,a2,D.hN,D.xN,D.gX.cons,λi o' ho'=>?_,λi r' hr' h2=>?_,λi r' hr' h0=>?_⟩
 ·cases i with
  |zero=>simp at ho';subst ho';refine⟨r,tm,by simp,rfl,rfl,a3,λt u hu=>.inr ⟨λj hj=>by omega,hu⟩,?_⟩;show Ax P ops n ms (s+0) r o hl (iA rs hF 0) (oC rs nF 0);rw[D.h0,D.x0];exact R
  |succ i=>
   obtain⟨r',tmi,c1,c2,c3,c4,c5,c6⟩:=D.at_ i o' (by simpa using ho');refine⟨r',tmi,by simpa using c1,c2,c3,c4,c5.cons,?_⟩;rw[show s+(i+1)=s+1+i by omega];have:mZ hl (r::rs) hF (i+1)=mZ hl' rs hF i:=by show mZ (cond (Nat.beq r.k 2) (iA rs hF 0) hl) rs hF i=_;rw[D.h0,l]
   rw[this];exact c6
 ·cases i with
  |zero=>simp at hr';subst hr';exact⟨λj hj=>k2 h2 j hj,λj r' hj=>by omega⟩
  |succ i=>
   obtain⟨d1,d2⟩:=D.ET i r' (by simpa using hr') h2;rw[show s+(i+1)=s+1+i by omega];refine⟨λj hj=>d1 j (k0 j hj),λj r2 hj hr2 h0=>?_⟩;cases j with
   |zero=>simp at hr2;subst hr2;exact d1 s (k1 h0)
   |succ j=>rw[show s+(j+1)=s+1+j by omega];exact d2 j r2 (by omega) (by simpa using hr2) h0
 ·cases i with
  |zero=>
   simp at hr';subst hr';rcases lt h0 with q|q|q
   ·exact .inl q
   ·exact .inr (.inl q)
   ·refine .inr (.inr λp hp hle h2 hb=>?_);obtain⟨p,rfl⟩:∃p',p=p'+1:=⟨p -1,by omega⟩;have hle:p+1<=os.length+1:=by simpa using hle
    refine q p (by omega) (by omega) ?_ λj hj h2=>?_
    ·obtain⟨p,rfl⟩:∃p',p=p'+1:=⟨p -1,by omega⟩;exact h2
    ·have:=hb (j+1) (by omega) (by omega) h2;rw[show s+1+j=s+(j+1) by omega];exact this
  |succ i=>
   rw[show s+(i+1)=s+1+i by omega];rcases D.later i r' (by simpa using hr') h0 with q|q|q
   ·exact .inl q
   ·exact .inr (.inl q)
   ·refine .inr (.inr λp hp hle h2 hb=>?_);obtain⟨p,rfl⟩:∃p',p=p'+1:=⟨p -1,by omega⟩;have hle:p+1<=os.length+1:=by simpa using hle
    refine q p (by omega) (by omega) ?_ λj hj hjp h2=>?_
    ·obtain⟨p,rfl⟩:∃p',p=p'+1:=⟨p -1,by omega⟩;exact h2
    ·have:=hb (j+1) (by omega) (by omega) h2;rw[show s+1+j=s+(j+1) by omega];exact this
structure Dl(P:Program)(ops:Array Oper)(n:Nat)(ms:List Nat)(os:List Oper)(s:Nat)(ks:List Nat)(tm:Tr Value)(h:Heap)(nx:Nat)(hl:Heap)(m:Nat)(o:Oper)(rs:List Rec)(tmP:Tr Value)(hP:Heap)(nP:Nat)(v:Value)(hF:Heap)(nF:Nat):Prop where
 pre:rJ P ops n ms (os.take m) s ks tm h nx hl rs tmP hP nP
 le:nP<=nF
 op:ve P ops (s+m) (only tmP (looks ops o) .nil) n hP nP v hF nF
 ks:∀j∈ks,bit ms (s+m) j=true
 rs:∀j r',rs[j]? =some r'->r'.k≠0->bit ms (s+m) (s+j)=true
structure Pn(P:Program)(ops:Array Oper)(n:Nat)(ms:List Nat)(o:Oper)(s:Nat)(ks ks':List Nat)(tm:Tr Value)(h:Heap)(nx:Nat)(hl h1:Heap)(nx1:Nat)(hl1:Heap)(r:Rec):Prop where
 a1:r.h=h
 a2:r.nx=nx
 a3:r.tm=only tm (looks ops o) .nil
 R:Ax P ops n ms s r o hl h1 nx1
 k0:∀j∈ks,j∈ks'
 k1:r.k≠0->s∈ks'
 k2:r.k=2->∀j∈ks,bit ms s j=true
 l:hl1=cond (Nat.beq r.k 2) h1 hl
structure PV where
 tm:Tr Value
 nx:Nat
 v:Value
def nH(ops:Array Oper)(σ:Nm)(x:oI)(y:PV):Prop:=
 ops[x.i]? =some x.o/\sC x.o.op=true/\(∀t sv,x.tm.get t=some sv->∃v,y.tm.get t=some v/\DV σ sv v)/\fU ops y.tm x.o=some true/\DV σ x.sv y.v/\NV x.sv y.v
theorem nH.mono{σ σ':Nm}(e:iG σ σ'){x:oI}{y:PV}(h:nH ops σ x y):nH ops σ' x y:=by obtain⟨a,b,c,d,f,g⟩:=h;exact⟨a,b,λt sv ht=>(by obtain⟨v,v1,v2⟩:=c t sv ht;exact⟨v,v1,v2.mono e⟩),d,f.mono e,g⟩
variable{v:Value}
theorem Dl.cons{o':Oper}{h1:Heap}{nx1:Nat}{hl1:Heap}{m:Nat}{tmP:Tr Value}{hP:Heap}{nP:Nat}
 (D:Dl P ops n ms os (s+1) ks' (fM tm o.dst r.v) h1 nx1 hl1 m o' rs tmP hP nP v hF nF) (c:Pn P ops n ms o s ks ks' tm h nx hl h1 nx1 hl1 r) (lt:r.k=0->(∀h,dE P ops s r.tm n h r.nx r.v h r.nx)\/oq ops ms s=true\/nI P ops n ms (s+1) rs hP m s r.tm r.nx r.v):Dl P ops n ms (o::os) s ks tm h nx hl (m+1) o' (r::rs) tmP hP nP v hF nF:=by
 refine⟨by rw[nA];exact D.pre.cons c.a1 c.a2 c.a3 c.R c.k0 c.k1 c.k2 c.l (λh0=>by
  rcases lt h0 with q|q|q
  ·grind
  ·grind
  ·refine .inr (.inr λp a b=>q p a ?_);rw[dH] at b;omega),D.le,by rw[show s+(m+1)=s+1+m by omega];exact D.op,λj hj=>?_,λj r' hr h0=>?_⟩
 ·rw[show s+(m+1)=s+1+m by omega];exact D.ks j (c.k0 j hj)
 ·rw[show s+(m+1)=s+1+m by omega];cases j with
  |zero=>simp at hr;subst hr;exact D.ks s (c.k1 h0)
  |succ j=>rw[show s+(j+1)=s+1+j by omega];exact D.rs j r' (by grind) h0
def IW(P:Program)(ops:Array Oper)(n:Nat)(ms:List Nat)(os:List Oper)(s:Nat)(ks:List Nat)(pe:List oI)(q:Option SV)(fa st:St)(hL:Tr SO):Prop:=match q with
 |none=>∀(σ:Nm)(tm:Tr Value)(h:Heap)(nx:Nat)(hl:Heap),aM σ st tm h nx->aM σ {st with h:=hL} tm hl nx->(∀p,nx<=p->h.get p=none)->
  ∃σF gX hF nF rs,aM σF fa gX hF nF/\NX nx σ σF/\rJ P ops n ms os s ks tm h nx hl rs gX hF nF/\∀x∈pe,∀y,nH ops σ x y->nI P ops n ms s rs hF os.length x.i y.tm y.nx y.v
 |some sv=>∃m o,os[m]? =some o/\WW ops ms (s+m)=true/\∀(σ:Nm)(tm:Tr Value)(h:Heap)(nx:Nat)(hl:Heap),aM σ st tm h nx->aM σ {st with h:=hL} tm hl nx->(∀p,nx<=p->h.get p=none)->
  ∃σF rs tmP hP nP v hF nF,(∀tmX:Tr Value,(∀t u,(∀o∈ops.toList,o.dst≠some t)->tm.get t=some u->tmX.get t=some u)->aM σF fa tmX hF nF)/\NX nx σ σF/\nx<=nF/\DV σF sv v/\Dl P ops n ms os s ks tm h nx hl m o rs tmP hP nP v hF nF/\∀x∈pe,∀y,nH ops σ x y->nI P ops n ms s rs hP m x.i y.tm y.nx y.v
omit [QF] in
theorem nI.step{len i0:Nat}{tm0:Tr Value}{nx0:Nat}{v0:Value}
 (k:r.k=2->bit ms s i0=true\/dE P ops i0 tm0 n (iA rs hF 0) nx0 v0 (iA rs hF 0) nx0) (t:(r.k=2/\bit ms s i0=true)\/nI P ops n ms (s+1) rs hF len i0 tm0 nx0 v0):nI P ops n ms s (r::rs) hF (len+1) i0 tm0 nx0 v0:=by
 intro p h1 h2 h3 h4;obtain⟨p,rfl⟩:∃p',p=p'+1:=⟨p -1,by omega⟩;cases p with
 |zero=>
  rcases k h3 with q|q
  ·grind
  ·exact q
 |succ p=>
  rcases t with⟨q1,q2⟩|q
  ·have:=h4 0 (by simp) q1
   grind
  ·refine q (p+1) (by simp) (by omega) h3 λj hj h2=>?_;have:=h4 (j+1) (by omega) h2
   grind
variable{st:St}
theorem Bb{pe pe':List oI}{q:Option SV}{fa st1:St}{hL hL1:Tr SO}(hmem:o∈ops.toList)(T:IW P ops n ms os (s+1) ks' pe' q fa st1 hL1)
 (step:∀(σ:Nm)(tm:Tr Value)(h:Heap)(nx:Nat)(hl:Heap),aM σ st tm h nx->aM σ {st with h:=hL} tm hl nx->(∀p,nx<=p->h.get p=none)->
  ∃σ1 h1 nx1 hl1 r,aM σ1 st1 (fM tm o.dst r.v) h1 nx1/\aM σ1 {st1 with h:=hL1} (fM tm o.dst r.v) hl1 nx1/\(∀p,nx1<=p->h1.get p=none)/\NX nx σ σ1/\nx<=nx1/\Pn P ops n ms o s ks ks' tm h nx hl h1 nx1 hl1 r/\
   (∀x∈pe,∀y,nH ops σ x y->(r.k=2/\bit ms s x.i=true)\/(x∈pe'/\(r.k=2->dE P ops x.i y.tm n h1 y.nx y.v h1 y.nx)))/\
   (r.k=0->(∀h,dE P ops s r.tm n h r.nx r.v h r.nx)\/oq ops ms s=true\/∃x∈pe',x.i=s/\nH ops σ1 x ⟨r.tm,r.nx,r.v⟩)):
 IW P ops n ms (o::os) s ks pe q fa st hL:=by
 have fin:∀{σ σ1:Nm}{h1:Heap}{nx:Nat}{r:Rec}{rs:List Rec}{hE:Heap}{len:Nat},NX nx σ σ1->iA rs hE 0=h1->
  (∀x∈pe,∀y,nH ops σ x y->(r.k=2/\bit ms s x.i=true)\/(x∈pe'/\(r.k=2->dE P ops x.i y.tm n h1 y.nx y.v h1 y.nx)))->
  (∀x∈pe',∀y,nH ops σ1 x y->nI P ops n ms (s+1) rs hE len x.i y.tm y.nx y.v)->∀x∈pe,∀y,nH ops σ x y->nI P ops n ms s (r::rs) hE (len+1) x.i y.tm y.nx y.v:=by
  intro σ σ1 h1 nx r rs hE len N e1 A B x hx y hy;rcases A x hx y hy with⟨a1,a2⟩|⟨a1,a2⟩
  ·exact nI.step (λ_=>.inl a2) (.inl ⟨a1,a2⟩)
  ·exact nI.step (λk=>.inr (by grind)) (.inr (B x a1 y (hy.mono N.ext)))
 have own:∀{σ1:Nm}{r:Rec}{rs:List Rec}{hE:Heap}{len:Nat},(r.k=0->(∀h,dE P ops s r.tm n h r.nx r.v h r.nx)\/oq ops ms s=true\/∃x∈pe',x.i=s/\nH ops σ1 x ⟨r.tm,r.nx,r.v⟩)->
  (∀x∈pe',∀y,nH ops σ1 x y->nI P ops n ms (s+1) rs hE len x.i y.tm y.nx y.v)->r.k=0->(∀h,dE P ops s r.tm n h r.nx r.v h r.nx)\/oq ops ms s=true\/nI P ops n ms (s+1) rs hE len s r.tm r.nx r.v:=by
  grind
 cases q with
 |none=>intro σ tm h nx hl R1 R2 dm;obtain⟨σ1,h1,nx1,hl1,r,A1,A2,A3,A4,A5,c,p1,p2⟩:=step σ tm h nx hl R1 R2 dm;obtain⟨σF,gX,hF,nF,rs,q1,q0,q2,q3⟩:=T σ1 _ h1 nx1 hl1 A1 A2 A3;exact⟨σF,gX,hF,nF,r::rs,q1,A4.trans q0 A5,q2.cons c.a1 c.a2 c.a3 c.R c.k0 c.k1 c.k2 c.l (own p2 q3),fin A4 q2.h0 p1 q3⟩
 |some sv=>
  obtain⟨m,o',ho',ht,T⟩:=T;refine⟨m+1,o',by simpa using ho',by rw[show s+(m+1)=s+1+m by omega];exact ht,λσ tm h nx hl R1 R2 dm=>?_⟩;obtain⟨σ1,h1,nx1,hl1,r,A1,A2,A3,A4,A5,c,p1,p2⟩:=step σ tm h nx hl R1 R2 dm;obtain⟨σF,rs,tmP,hP,nP,v,hF,nF,q1,q0,ql,qd,q2,q3⟩:=T σ1 _ h1 nx1 hl1 A1 A2 A3;refine⟨σF,r::rs,tmP,hP,nP,v,hF,nF,λtmX hX=>q1 tmX λt u ht hu=>hX t u ht ?_,A4.trans q0 A5,by omega,qd,q2.cons c (own p2 q3),fin A4 q2.pre.h0 p1 q3⟩;unfold fM at hu;split at hu
  ·rename_i d hd;rw[Tr.bD,ai (λq=>ht o hmem (by grind))] at hu;omega
  grind
omit [QF] in
theorem dE.aeW(H:dE P ops i tm n h nx v h nx):dE P ops i tm n h nx' v h nx':=by
 intro ρ fr cs w rest k a1 a2 a3 a4 a5;obtain⟨ρ',v',w',b1,b2,b3,M⟩:=H ρ fr cs w rest k a1 a2 a3 a4 λo x y=>by omega
 exact⟨ρ',v',w',b1,b2,b3,⟨M.os,M.tape,M.output,M.size,M.block,M.owned,aB _,λo _=>M.cq o (by omega),M.lit,M.eU⟩⟩
variable{X:cJ} {pt:FuncId->Option (dJ β)}
theorem Fy(OK:ea P X)(PT:oJ P pt):∀{pe:List oI}{r:Option β}{b:β},BV X pt ms s st pe r=some b->
 r=some b/\∀(σ:Nm)(tm:Tr Value)(h:Heap)(nx:Nat),aM σ st tm h nx->∀x∈pe,∀y,nH ops σ x y->bit ms s x.i=true\/dE P ops x.i y.tm n h y.nx y.v h y.nx
 |[],r,b,e=>⟨e,λσ tm h nx R x hx=>by cases hx⟩
 |z::pe,r,b,e=>by
  unfold BV at e;cases hb:bit ms s z.i with
  |true=>
   rw[hb] at e;obtain⟨g1,g2⟩:=Fy OK PT e;refine⟨g1,λσ tm h nx R x hx y hy=>?_⟩;rcases cj.1 hx with rfl|hx
   ·grind
   ·exact g2 σ tm h nx R x hx y hy
  |false=>
   rw[hb] at e;obtain⟨hq,e⟩:=aT e;by_cases hz:ops[z.i]? =some z.o
   ·obtain⟨sv,e2,D⟩:=Ft OK PT hz hq e;obtain⟨e3,Q⟩:=JK _ _ _ _ e2;obtain⟨g1,g2⟩:=Fy OK PT e3;refine⟨g1,λσ tm h nx R x hx y hy=>?_⟩;rcases cj.1 hx with rfl|hx
    ·right;obtain⟨_,_,c,d,f,g⟩:=hy;obtain⟨v,v1,v2⟩:=D σ y.tm h nx n ⟨c,R.obj,R.inj,R.lt,R.fresh⟩ d;obtain⟨v',w1,w2,w3⟩:=canon _ _ v2;rw[Q σ _ _ f g w1 w2];exact(v1.Ph w3).aeW
    ·exact g2 σ tm h nx R x hx y hy
   ·obtain⟨sv,e2,_⟩:=Ft (ops:=Array.replicate (z.i+1) z.o) (i:=z.i) OK PT (by simp) hq e;obtain⟨e3,Q⟩:=JK _ _ _ _ e2;obtain⟨g1,g2⟩:=Fy OK PT e3;refine⟨g1,λσ tm h nx R x hx y hy=>?_⟩;rcases cj.1 hx with rfl|hx
    ·exact(hz hy.1).elim
    ·exact g2 σ tm h nx R x hx y hy
theorem yj(OK:ea P X)(PT:oJ P pt):∀(os:List Oper)(s:Nat),(∀i o,os[i]? =some o->ops[s+i]? =some o)->
 ∀(st:St)(hL:Tr SO)(ks:List Nat)(pe:List oI)(K:Option SV->St->Option β)(b:β),tQ X pt ops ms os s st hL ks pe K=some b->
 ∃q fa,K q fa=some b/\IW P ops n ms os s ks pe q fa st hL
 |[],s,_,st,hL,ks,pe,K,b,e=>⟨none,st,e,λσ tm h nx hl R _ _=>⟨σ,tm,h,nx,[],R,NX.refl _ _,.nil,λx _ y _ p h1 h2=>by simp at h2;omega⟩⟩
 |o::os,s,hs,st,hL,ks,pe,K,b,e=>by
  obtain⟨w,tm1,e1,g⟩:=RC e;have ho:=hs 0 o rfl;have hmem:=qv (i:=s) (by rw[kB];exact ho);have hs':∀i o',os[i]? =some o'->ops[s+1+i]? =some o':=λi o' hi=>by have:=hs (i+1) o' (by simpa using hi);rw[show s+1+i=s+(i+1) by omega];exact this
  have side:∀(σ:Nm)(tm:Tr Value)(h:Heap)(nx:Nat)(hl:Heap),aM σ st tm h nx->aM σ {st with h:=hL} tm hl nx->fU ops tm o=some w/\aM σ {st with tm:=tm1} tm h nx/\aM σ ⟨tm1,hL,st.sx⟩ tm hl nx:=by intro σ tm h nx hl R1 R2;obtain⟨g1,g2⟩:=g σ tm h nx R1;exact⟨g1,g2,⟨g2.tm,R2.obj,R2.inj,R2.lt,R2.fresh⟩⟩
  cases w with
  |false=>
   obtain⟨q,fa,f1,f2⟩:=yj OK PT os (s+1) hs' _ _ _ _ _ _ e1;refine⟨q,fa,f1,Bb hmem f2 λσ tm h nx hl R1 R2 dm=>?_⟩;obtain⟨s1,s2,s3⟩:=side σ tm h nx hl R1 R2;have key:∀h,dE P ops s (only tm (looks ops o) .nil) n h nx undef h nx:=λh=>by refine ES OK ho ?_;simp[AH,ob,vG,s1]
   exact⟨σ,h,nx,hl,⟨0,only tm (looks ops o) .nil,h,nx,undef,.map []⟩,s2.slot Pd,s3.slot (d:=o.dst) Pd,dm,NX.refl _ _,aB _,⟨rfl,rfl,rfl,⟨aB _,dm,.inl ⟨rfl,rfl,rfl,.inl key⟩⟩,λj hj=>hj,λk=>absurd rfl k,λk=>(by cases k),rfl⟩,λx hx y _=>.inr ⟨hx,λk=>(by cases k)⟩,λ_=>.inl key⟩
  |true=>
   rw[ay] at e1;cases hq:sC o.op with
   |true=>
    rw[hq] at e1;cases hro:(UF tm1 o.op&&!oq ops ms s) with
    |true=>
    rw[hro] at e1;obtain⟨hB,e1⟩:=aT e1;obtain⟨sv,e2,D⟩:=Ft OK PT ho hq e1;obtain⟨q,fa,f1,f2⟩:=yj OK PT os (s+1) hs' _ _ _ _ _ _ e2;refine⟨q,fa,f1,Bb hmem f2 λσ tm h nx hl R1 R2 dm=>?_⟩;obtain⟨s1,s2,s3⟩:=side σ tm h nx hl R1 R2;have hw:fU ops (only tm (looks ops o) .nil) o=some true:=by rw[vG];exact s1
    have s4:=s3.only (looks ops o);obtain⟨v0,v10,v20⟩:=D σ _ hl nx n s4 hw;obtain⟨v,v2,vN,vW⟩:=canon _ _ v20;have v1:=v10.Ph vW;exact⟨σ,h,nx,hl,⟨0,only tm (looks ops o) .nil,h,nx,v,.map []⟩,s2.slot v2,s3.slot (d:=o.dst) v2,dm,NX.refl _ _,aB _,⟨rfl,rfl,rfl,⟨aB _,dm,.inl ⟨rfl,rfl,rfl,.inr (.inr ⟨hB,v1⟩)⟩⟩,λj hj=>hj,λk=>absurd rfl k,λk=>(by cases k),rfl⟩,
     λx hx y _=>.inr ⟨gL _ hx,λk=>(by cases k)⟩,λ_=>.inr (.inr ⟨_,mC,rfl,ho,hq,s4.tm,hw,v2,vN⟩)⟩
    |false=>
    rw[hro] at e1;obtain⟨sv,e2,D⟩:=Ft OK PT ho hq e1;obtain⟨q,fa,f1,f2⟩:=yj OK PT os (s+1) hs' _ _ _ _ _ _ e2;refine⟨q,fa,f1,Bb hmem f2 λσ tm h nx hl R1 R2 dm=>?_⟩;obtain⟨s1,s2,s3⟩:=side σ tm h nx hl R1 R2;have hw:fU ops (only tm (looks ops o) .nil) o=some true:=by rw[vG];exact s1
    have key:∃v,DV σ sv v/\((∀h,dE P ops s (only tm (looks ops o) .nil) n h nx v h nx)\/(oq ops ms s=true/\dE P ops s (only tm (looks ops o) .nil) n hl nx v hl nx)):=by
     cases hd:oq ops ms s with
     |true=>rw[hd] at D;obtain⟨v,v1,v2⟩:=D σ _ hl nx n (s3.only (looks ops o)) hw;exact⟨v,v2,.inr ⟨rfl,v1⟩⟩
     |false=>rw[hd] at D;obtain⟨v,v1,v2⟩:=D σ _ .nil nx n (s3.bare.only (looks ops o)) hw;exact⟨v,v2,.inl λh=>v1.over h⟩
    obtain⟨v,v1,v2⟩:=key;exact⟨σ,h,nx,hl,⟨0,only tm (looks ops o) .nil,h,nx,v,.map []⟩,s2.slot v1,s3.slot (d:=o.dst) v1,dm,NX.refl _ _,aB _,⟨rfl,rfl,rfl,⟨aB _,dm,.inl ⟨rfl,rfl,rfl,v2.elim .inl λq=>.inr (.inl q)⟩⟩,λj hj=>hj,λk=>absurd rfl k,λk=>(by cases k),rfl⟩,
     λx hx y _=>.inr ⟨hx,λk=>(by cases k)⟩,λ_=>v2.elim .inl λq=>.inr (.inl q.1)⟩
   |false=>
    rw[hq,aE] at e1;cases hm:BH o.op with
    |true=>rw[hm,ay] at e1;obtain⟨sv,so,e2,hd,D⟩:=MC e1;obtain⟨q,fa,f1,f2⟩:=yj OK PT os (s+1) hs' _ _ _ _ _ _ e2;refine⟨q,fa,f1,Bb hmem f2 λσ tm h nx hl R1 R2 dm=>?_⟩;obtain⟨s1,s2,s3⟩:=side σ tm h nx hl R1 R2;obtain⟨u,obj,d1,d2,d3⟩:=D σ _ .nil nx (s3.bare.only (looks ops o));obtain⟨N1,R1'⟩:=s2.new (n:=0) (so:=so) (ob:=obj) (d3 _ (by rw[Tr.bD,ar rfl]));have R2':=s3.name (n:=0);refine⟨_,h.set nx obj,nx+1,hl,⟨1,only tm (looks ops o) .nil,h,nx,u,obj⟩,R1'.slot (d:=o.dst) d2,R2'.slot (d:=o.dst) d2,λp hp=>by rw[Tr.bD,ai (by omega)];exact dm p (by omega),N1,kc _,⟨rfl,rfl,rfl,⟨kc _,dm,.inr (.inl ⟨rfl,rfl,?_⟩)⟩,λj hj=>gL _ hj,λ_=>mC,λk=>(by cases k),rfl⟩,λx hx y _=>.inr ⟨hx,λk=>(by cases k)⟩,λk=>(by cases k)⟩;exact qT OK ho hd (by rw[vG];exact s1) (d1 .nil)
    |false=>
     rw[hm] at e1;obtain⟨hk,e1⟩:=aT e1;rw[jf] at hk;obtain⟨q1,st',e2,D⟩:=Lr OK PT ho e1;cases q1 with
     |none=>
      obtain⟨e3,PK⟩:=Fy (P:=P) (n:=n) OK PT e2;obtain⟨q,fa,f1,f2⟩:=yj OK PT os (s+1) hs' _ _ _ _ _ _ e3;refine⟨q,fa,f1,Bb hmem f2 λσ tm h nx hl R1 R2 dm=>?_⟩;obtain⟨s1,s2,s3⟩:=side σ tm h nx hl R1 R2;obtain⟨σ',v,h',nx',o1,o2,o3,o4⟩:=D σ _ h nx n (s2.only (looks ops o)) (by rw[vG];exact s1);have R':=(s2.join o3.ext o4).cut;refine⟨σ',cut h' nx',nx',cut h' nx',⟨2,only tm (looks ops o) .nil,h,nx,v,.map []⟩,R',R',λp hp=>Ea hp,o3,o2,⟨rfl,rfl,rfl,⟨o2,dm,.inr (.inr ⟨rfl,hq,hm,o1.less yf⟩)⟩,λj hj=>gL _ hj,λ_=>mC,λ_ j hj=>hk j hj,rfl⟩,λx hx y hy=>?_,λk=>(by cases k)⟩;rcases PK σ' _ (cut h' nx') nx' o4.cut x hx y (hy.mono o3.ext) with w|w
      ·exact .inl ⟨rfl,w⟩
      ·rcases Uk (s:=s) hx with z|z
       ·exact .inl ⟨rfl,z⟩
       ·exact .inr ⟨z,λ_=>w⟩
     |some sv=>obtain⟨ht,e2⟩:=aT e2;refine⟨some sv,_,e2,0,o,rfl,ht,λσ tm h nx hl R1 R2 dm=>?_⟩;obtain⟨s1,s2,s3⟩:=side σ tm h nx hl R1 R2;obtain⟨σ',v,h',nx',o1,o2,o3,o4,o5⟩:=D σ _ h nx n (s2.only (looks ops o)) (by rw[vG];exact s1);refine⟨σ',[],tm,h,nx,v,h',nx',λtmX hX=>⟨λt x hx=>?_,o5.obj,o5.inj,o5.lt,o5.fresh⟩,o3,o2,o4,⟨.nil,o2,o1,λj hj=>hk j hj,λj r' hr=>by simp at hr⟩,λx _ y _ p h1 h2=>by omega⟩;obtain⟨k1,k2⟩:=EO.1 hx;obtain⟨u,u1,u2⟩:=s2.tm t x k2;exact⟨u,hX t u k1 u1,u2.mono o3.ext⟩
end
section
variable[QF]
variable{β:Type}
variable{P:Program} {ops:Array Oper}
theorem Qg{n:Nat}{tm:Tr Value}{h:Heap}{nx:Nat}{rs:List Rec}{gX:Tr Value}{hF:Heap}{nF:Nat}
 {m:Nat} (hm:m<=ops.size) (D:rJ P ops n (mh ops.toList []) (ops.toList.take m) 0 [] tm h nx h rs gX hF nF) (hs:stat ops (mh ops.toList []) n=true):
 ∃C:Can P ops (λi=>i) n tm gX m (λi j=>j<ops.size/\jN ops i j),C.H 0=h/\C.H m=hF/\C.X 0=nx/\C.X m=nF/\C.K=jD rs/\C.V=xf rs:=by
 have B:=WG hs;obtain⟨s1,hs⟩:=vO hs;obtain⟨s2,s3⟩:=vO hs;have hos:(ops.toList.take m).length=m:=by rw[dH];simp;omega
 obtain⟨r1,r2,r3,r4,r5,r6,r7,r8,r9⟩:=D;rw[hos] at r1 r4 r5 r6 r9;have gl:∀i:Nat,i<m->(ops.toList.take m)[i]? =ops[i]? :=λi hi=>by rw[qq,ar hi,kB]
 have at_:∀i,i<m->∃o r tmi,ops[i]? =some o/\rs[i]? =some r/\r.h=iA rs hF i/\r.nx=oC rs nF i/\r.tm=only tmi (looks ops o) .nil/\xH (ops.toList.take m) rs tm i tmi/\Ax P ops n (mh ops.toList []) i r o (mZ h rs hF i) (iA rs hF (i+1)) (oC rs nF (i+1)):=by
  intro i hi;have hi2:i<ops.size:=by omega
  have ho:(ops.toList.take m)[i]? =some (ops[i]'hi2):=by rw[gl i hi];exact uS hi2
  obtain⟨r,tmi,a⟩:=r7 i _ ho;rw[fg] at a;exact⟨_,r,tmi,by rw[<-gl i hi];exact ho,a⟩
 have hk:∀{i r},rs[i]? =some r->jD rs i=r.k:=λh=>by unfold jD;rw[h];rfl
 have hv:∀{i r},rs[i]? =some r->xf rs i=r.v:=λh=>by unfold xf;rw[h];rfl
 have bitN:∀i j,bit (mh ops.toList []) i j=true->jN ops i j:=λi j hb=>hb;have loudB:∀i j,i<j->j<m->jD rs j=2->jD rs i≠0->jN ops j i:=by intro i j hij hj h2 h0;obtain⟨o,r,tmi,a1,a2,a3,a4,a5,a6,a7⟩:=at_ j hj;obtain⟨o',r',tmi',b1,b2,b3,b4,b5,b6,b7⟩:=at_ i (by omega);rw[hk a2] at h2;rw[hk b2] at h0;have:=(r8 j r a2 h2).2 i r' hij b2 h0;rw[fg,fg] at this;exact bitN _ _ this
 have mono:∀i,i<m->oC rs nF i<=oC rs nF (i+1):=by intro i hi;obtain⟨o,r,tmi,a1,a2,a3,a4,a5,a6,a7⟩:=at_ i hi;rw[<-a4];exact a7.le
 have monos:∀d i,i+d<=m->oC rs nF i<=oC rs nF (i+d):=by
  intro d;induction d with
  |zero=>intro i _;exact aB _
  |succ d ih=>intro i hi;exact eP (ih i (by omega)) (mono (i+d) (by omega))
 refine⟨{
  K:=jD rs
  H:=iA rs hF
  X:=oC rs nF
  V:=xf rs
  Tm:=λi=>((rs[i]?).map (·.tm)).getD .nil
  B:=λi=>((rs[i]?).map (·.b)).getD (.map [])
  mono:=mono
  kinds:=?_
  quiet:=?_
  alloc:=?_
  apart:=?_
  ET:=?_
  total:=?_
  first:=?_
  reads:=?_
  once:=?_
  cW:=?_
  final:=?_},r2,r4,r3,r5,rfl,rfl⟩
 ·intro i hi;obtain⟨o,r,tmi,a1,a2,a3,a4,a5,a6,a7⟩:=at_ i hi;rw[hk a2];rcases a7.kind with h|h|h
  ·exact .inl h.1
  ·exact .inr (.inl h.1)
  ·exact .inr (.inr h.1)
 ·intro i hi h0;obtain⟨o,r,tmi,a1,a2,a3,a4,a5,a6,a7⟩:=at_ i hi;have h0':=h0;rw[hk a2] at h0;rcases a7.kind with⟨_,q1,q2,q3⟩|⟨q,_⟩|⟨q,_⟩
  ·refine⟨λp ob hp=>by rw[q1,a3] at hp;exact hp,λp hp hat hlo hhi=>?_⟩;have eT:((rs[i]?).map (·.tm)).getD .nil=r.tm:=by rw[a2];rfl
   simp only[eT];rw[hv a2,<-a4];have line2:oq ops (mh ops.toList []) i=true->dE P ops i r.tm n (mZ h rs hF i) r.nx r.v (mZ h rs hF i) r.nx->dE P ops i r.tm n (iA rs hF p) r.nx r.v (iA rs hF p) r.nx:=by
    intro qo q3;have line:∀j,j<m->jD rs j=2->jN ops i j\/jN ops j i:=by
     intro j hj h2;obtain⟨o',r',tmi',b1,b2,b3,b4,b5,b6,b7⟩:=at_ j hj;rw[hk b2] at h2;rcases b7.kind with⟨q,_⟩|⟨q,_⟩|⟨_,c1,c2,_⟩
     ·omega
     ·omega
     ·have:=oO qo j (by omega);simp only[b1,c1,c2,Bool.false_or,qn] at this;rcases this with t|t
      ·exact .inl (bitN _ _ t)
      ·exact .inr (bitN _ _ t)
    have lo:∀j,j<i->jD rs j=2->j<p:=by
     intro j hj h2;rcases line j (by omega) h2 with t|t
     ·exact hlo j (by omega) h2 ⟨by omega,t⟩
     ·have:=yP B (i:=j) (by omega) t;omega
    have up:∀j,i<j->j<m->jD rs j=2->p<=j:=by
     intro j hj hjs h2;rcases line j hjs h2 with t|t
     ·have:=yP B (i:=i) (by omega) t;omega
     ·exact hhi j hjs h2 ⟨by omega,t⟩
    have e:mZ h rs hF i=iA rs hF p:=by
     rcases hat with z|z
     ·subst z;rw[Bx rs h hF i λj hj h2=>by have:=lo j hj h2;omega,r2]
     ·rcases dg 0 p with hp0|hp0
      ·have hpi:p -1<i:=by
        rcases Ap (p -1) i with c|c|c<;>grind
       have:=Kv rs h hF (p -1) i hpi z λj h1 h2 h3=>by have:=lo j h2 h3;omega
       rw[this,show p -1+1=p by omega]
      ·have hp0:p=0:=by omega
       subst hp0;rw[Bx rs h hF i λj hj h2=>by have:=lo j hj h2;omega,r2]
    rw[<-e];exact q3
   rcases q3 with q3|⟨qo,q3⟩|⟨qo,q3⟩
   ·exact q3 _
   ·exact line2 qo q3
   ·have L:=r9 i r a2 h0;rw[fg] at L;rcases L with L|L|L
    ·exact L _
    ·exact line2 L q3
    ·have lo:∀j,j<i->jD rs j=2->j<p:=by
      intro j hj h2;obtain⟨o',r',tmi',b1,b2,b3,b4,b5,b6,b7⟩:=at_ j (by omega);have h2':=h2;rw[hk b2] at h2;rcases b7.kind with⟨q,_⟩|⟨q,_⟩|⟨_,c1,c2,_⟩
      ·omega
      ·omega
      ·have:=oO qo j hj;simp only[b1,c1,c2,Bool.false_or] at this;exact hlo j (by omega) h2' ⟨by omega,bitN _ _ this⟩
     rcases dg (i+1) p with hp1|hp1
     ·refine L p hp1 hp ?_ λj j1 j2 j3=>?_
      ·rcases hat with z|z
       ·omega
       ·exact z
      ·rw[fg];cases hb:bit (mh ops.toList []) j i with
       |false=>rfl
       |true=>have:=hhi j (by omega) j3 ⟨by omega,bitN _ _ hb⟩;omega
     ·have e:mZ h rs hF i=iA rs hF p:=by
       rcases hat with z|z
       ·subst z;rw[Bx rs h hF i λj hj h2=>by have:=lo j hj h2;omega,r2]
       ·have hp0:0<p:=by
         rcases dg 0 p with q|q
         ·exact q
         ·have:p=0:=by omega
          subst this;rcases dg 0 i with c|c
          ·have:=lo 0 c z;omega
          ·have:i=0:=by omega
           subst this;rw[z] at h0';cases h0'
        have hpi:p -1<i:=by
         rcases Ap (p -1) i with c|c|c
         ·exact c
         ·rw[c] at z;rw[z] at h0';cases h0'
         ·omega
        have:=Kv rs h hF (p -1) i hpi z λj h1 h2 h3=>by have:=lo j h2 h3;omega
        rw[this,show p -1+1=p by omega]
      rw[<-e];exact q3
  ·omega
  ·omega
 ·intro i hi h0;obtain⟨o,r,tmi,a1,a2,a3,a4,a5,a6,a7⟩:=at_ i hi;rw[hk a2] at h0;rcases a7.kind with⟨q,_⟩|⟨_,q1,q2⟩|⟨q,_⟩
  ·omega
  ·have eT:((rs[i]?).map (·.tm)).getD .nil=r.tm:=by rw[a2];rfl
   have eB:((rs[i]?).map (·.b)).getD (.map [])=r.b:=by rw[a2];rfl
   simp only[eT,eB];rw[hv a2,<-a4];refine⟨λp ob hp=>?_,q2⟩;rw[q1,Tr.bD] at hp;by_cases ep:p=r.nx
   ·rw[ar ep] at hp;cases hp;exact .inr ⟨ep,rfl⟩
   ·rw[ai ep,a3] at hp;exact .inl hp
  ·omega
 ·intro p a hp ha h1;obtain⟨o,r,tmi,a1,a2,a3,a4,a5,a6,a7⟩:=at_ p (by omega);rw[<-a3];refine a7.Y2 _ ?_;rw[a4];have:=monos (a -p) p (by omega);rw[show p+(a -p)=a by omega] at this;exact this
 ·intro i hi h2;obtain⟨o,r,tmi,a1,a2,a3,a4,a5,a6,a7⟩:=at_ i hi;rw[hk a2] at h2;rcases a7.kind with⟨q,_⟩|⟨q,_⟩|⟨_,_,_,q⟩
  ·omega
  ·omega
  ·have eT:((rs[i]?).map (·.tm)).getD .nil=r.tm:=by rw[a2];rfl
   simp only[eT];rw[hv a2,<-a4,<-a3];exact q
 ·intro i j hij hj h1 h2;exact⟨by omega,loudB i j hij hj h2 (by rw[h1];omega)⟩
 ·intro i j hij hj h1 h2;exact⟨by omega,loudB i j hij hj h2 (by rw[h1];omega)⟩
 ·intro i hi t u hu;obtain⟨o,r,tmi,a1,a2,a3,a4,a5,a6,a7⟩:=at_ i hi;have eT:((rs[i]?).map (·.tm)).getD .nil=r.tm:=by rw[a2];rfl
  rw[eT,a5] at hu;rcases yW _ _ _ _ hu with⟨m1,m2⟩|m1
  ·have look:∀j,j<m->(ops[j]?).bind (·.dst)=some t->j=i\/jN ops i j\/jN ops j i:=by
    intro j hj hdj;have:=oO s3 i (by omega);simp only[a1] at this;rw[jf] at this;have:=oO (this t m1) j (by omega);rw[Kp.2 hdj,ay,qn,qn] at this;rcases this with h|h|h
    ·exact .inl (bJ h)
    ·exact .inr (.inl h)
    ·exact .inr (.inr h)
   rcases a6 t u m2 with⟨j,j1,j2,j3⟩|⟨h1,h2⟩
   ·rw[gl j (by omega)] at j2;refine .inl ⟨j,by omega,j2,j3,?_⟩;rcases look j (by omega) j2 with h|h|h
    ·omega
    ·exact⟨by omega,h⟩
    ·have:=yP B (i:=j) (by omega) h;omega
   ·refine .inr ⟨λj hj hdj=>?_,h2⟩;rcases look j hj hdj with h|h|h
    ·exact .inl h
    ·rcases Ap j i with c|c|c
     ·exact absurd (by rw[gl j (by omega)];exact hdj) (h1 j c)
     ·exact .inl c
     ·have:=yP B (i:=i) (by omega) h;omega
    ·exact .inr ⟨by omega,h⟩
  ·rw[Tr.get_nil] at m1;cases m1
 ·intro i j t hi hj hdi hdj;have key:∀i j,i<m->j<i->(ops[i]?).bind (·.dst)=some t->(ops[j]?).bind (·.dst)=some t->False:=by
   intro i j hi hji h1 h2;have:=oO s2 i (by omega);have e1:Bc ops i=some t:=h1;simp only[e1] at this;have:=(vO this).2;have:=oO this j hji;rw[Kp.2 h2] at this;cases this
  rcases Ap i j with h|h|h
  ·exact(key j i hj h hdj hdi).elim
  ·exact h
  ·exact(key i j hi h hdi hdj).elim
 ·intro i t hi hdi;have:=oO s2 i (by omega);have e1:Bc ops i=some t:=hdi;simp only[e1] at this;exact cT (vO this).1
 ·intro t u hu;rcases r6 t u hu with⟨j,j1,j2,j3⟩|⟨h1,h2⟩<;>grind
theorem Y8{X:cJ}(OK:ea P X)(hmix:P.follows .mixedOrders=true){pt:FuncId->Option (dJ β)}(PT:oJ P pt){c:cC}{id:Nat}{k:List Item}{st:St}{K:Option SV->St->Option β}{b:β}
 (hs:stat ops (mh ops.toList []) c.n=true) (e:tQ X pt ops (mh ops.toList []) ops.toList 0 st st.h [] [] K=some b):
 ∃q st',K q st'=some b/\∀(σ:Nm)(tm:Tr Value)(h:Heap)(nx:Nat),aM σ st tm h nx->xD P c (bL c [] tm (.code (.region id ops true)::k) h nx) σ nx k q st':=by
 obtain⟨q,fa,f1,f2⟩:=yj OK PT (n:=c.n) ops.toList 0 (λi o ho=>by rw[fg,<-kB];exact ho) _ _ _ _ _ _ e;refine⟨q,fa,f1,λσ tm h nx R=>?_⟩;have B:=WG hs;have enter:∀(ρ:Ren)(fr:Frame)(base:List Frame)(w:World),jM ρ (bL c [] tm (.code (.region id ops true)::k) h nx).fr fr->∃(k':List Item)(σs:List Nat),
  fr.todo=.code (.region id ops true)::k'/\ir ρ k k'/\Steps P (lone fr base w) (lone (fr.atR {tmps:=fr.tmps,defers:=fr.defers} (.inRegion ops σs::k')) base {w with drawn:=w.drawn+1})/\
  mH ops.size (λi j=>j<ops.size/\jN ops i j) (λ_=>False) σs:=by
  intro ρ fr base w F;have hmode:fr.mode=.run:=F.mode;obtain⟨y,k',hft,a,bI⟩:=inv1 F.todo;subst a;have h1:=stepR_region_draw (P:=P) (b:=fr) (a:={tmps:=fr.tmps,defers:=fr.defers}) (ops:=ops) (id:=id) (k:=k') (cs:=base) (w:=w);rw[<-Mm hmode hft] at h1;have L:=aaU (P:=P) hmix B (w.tape w.drawn (.order fr.fn id));have L':mH ops.size (λi j=>j<ops.size/\jN ops i j) (λ_=>False) (Region.schedule (P.follows .mixedOrders) ops (w.tape w.drawn (.order fr.fn id))):=by have:=SA (ix:=λi=>i) (pos:=λi=>i) (Ul B).h1 (Ul B).h2 _ _ (λ_=>False) (λp _=>Iff.rfl) L;rwa[(List.map_id' _)] at this
  exact⟨k',_,hft,bI,.one h1,L'⟩
 cases q with
 |none=>
  obtain⟨σF,gX,hF,nF,rs,q1,q0,q2,_⟩:=f2 σ tm (cut h nx) nx (cut h nx) R.cut R.cut (λp hp=>Ea hp);have q2':rJ P ops c.n (mh ops.toList []) (ops.toList.take ops.size) 0 [] tm (cut h nx) nx (cut h nx) rs gX hF nF:=by rw[gh (by simp)];exact q2
  obtain⟨C,c1,c2,c3,c4,_⟩:=Qg (aB _) q2' hs;refine⟨σF,gX,hF,nF,by rw[<-c3,<-c4];exact C.py (gZ _) (aB _),q0,q1,?_⟩;refine cG.more (h:=cut h nx) ?_ yf;intro ρ fr cs' base w F CC H N;obtain⟨k',σs,hft,bI,s0,L'⟩:=enter ρ fr (cs'++base) w F;obtain⟨ρ',tmps',w',s1,S',H',M⟩:=C.region L' (fr:=fr.atR {tmps:=fr.tmps,defers:=fr.defers} (.inRegion ops σs::k'))
   (w:={w with drawn:=w.drawn+1}) (ρ:=ρ) (k:=k') rfl (by rw[(List.map_id' _)];rfl) F.tmps (by rw[c1];exact H.same λ_=>rfl) (by rw[c3,c4];exact N) (cs'++base)
  rw[c1,c3,c4,c2] at M;rw[c2] at H';have E:=M.ext N;have h2:=stepR_region_end (P:=P) (b:=fr) (a:={tmps:=tmps',defers:=fr.defers}) (ops:=ops) (k:=k') (cs:=cs'++base) (w:=w');refine⟨ρ',_,cs',w',.trans s0 (.trans s1 (.one h2)),?_,CC.mono E,H',⟨M.os,M.tape,M.output,M.size,M.block,M.owned,M.le,M.cq,M.lit,M.eU⟩⟩;exact⟨F.fn,S',bI.mono E,F.defers.mono E,(show rK ρ' .run .run from rfl),F.kind,F.round.mono E⟩
 |some sv=>
  obtain⟨m,o,hom,ht,f2⟩:=f2;rw[fg] at ht;obtain⟨σF,rs,tmP,hP,nP,v,hF,nF,q1,q0,ql,qd,q2,_⟩:=f2 σ tm (cut h nx) nx (cut h nx) R.cut R.cut (λp hp=>Ea hp);have hm:m<ops.size:=by rcases dg m ops.toList.length with h|h<;>grind
  have hom':ops[m]? =some o:=by rw[<-kB];exact hom
  obtain⟨C,c1,c2,c3,c4,c5,c6⟩:=Qg (Nat.le_of_lt hm) q2.pre hs;obtain⟨pre,ple,pop,_,prs⟩:=q2;refine⟨σF,wm ops.toList tm,hF,nF,ql,q0,q1 _ (λt u h1 h2=>EO.2 ⟨h1,h2⟩),v,qd,?_⟩;intro ρ fr base w F H0 N;have H:=H0.sub (yf (h:=h) (nx:=nx));obtain⟨k',σs,hft,bI,s0,L'⟩:=enter ρ fr base w F;obtain⟨σ1,σ2,e1,e2,e3,e4⟩:=mH.split σs _ L' (λh=>h) hm;have tailA:∀x,m<x->x<ops.size->(m<ops.size/\jN ops x m):=λx hx hx2=>by
   have:=oO ht x hx2;have hb:Nat.ble x m=false:=by
    cases q:Nat.ble x m with
    |false=>rfl
    |true=>have:=cI q;omega
   rw[hb,aE] at this;exact⟨hm,this⟩
  have below:=nG.below tailA σ1 _ e2 (λh=>h) e4;have inn:∀j,j<ops.size->jN ops m j->j∈σ1:=λj hj hn=>by
   rcases e3 j ⟨hj,hn⟩ with h|h
   ·exact h.elim
   ·exact h
  have look:∀t,t∈looks ops o->∀j,j<ops.size->(ops[j]?).bind (·.dst)=some t->j=m\/jN ops m j\/jN ops j m:=by
   intro t mt j hj hdj;obtain⟨s1,hs'⟩:=vO hs;obtain⟨s2,s3⟩:=vO hs';have:=oO s3 m hm;simp only[hom'] at this;rw[jf] at this;have:=oO (this t mt) j hj;rw[Kp.2 hdj,ay,qn,qn] at this;rcases this with h|h|h
   ·exact .inl (bJ h)
   ·exact .inr (.inl h)
   ·exact .inr (.inr h)
  obtain⟨ρ',v',tmps',td,w',s1,S',htd,r1,H',M⟩:=C.panic (m:=m) rfl (σ1:=σ1) (σ2:=σ2) (nG.cut (λ_ _ h=>h) σ1 _ e2 below) (ρ:=ρ) (fr:=fr.atR {tmps:=fr.tmps,defers:=fr.defers} (.inRegion ops σs::k'))
   (w:={w with drawn:=w.drawn+1}) (k:=k') rfl (by rw[e1];rfl) F.tmps (by rw[c1];exact H.same λ_=>rfl)
   (λj hj hk=>by
    rw[c5] at hk;have hr:∃r,rs[j]? =some r:=by have:=pre.len;rw[dH] at this;exact⟨rs[j]'(by simp at this;omega),dD _⟩
    obtain⟨r,hr⟩:=hr;have hk':r.k≠0:=by intro q;apply hk;unfold jD;rw[hr];exact q
    have:=prs j r hr hk';rw[fg,fg] at this;exact inn j (by omega) this)
   (λt u hu=>by
    rcases yW _ _ _ _ hu with⟨mt,m2⟩|m1
    ·rcases pre.gX t u m2 with⟨j,j1,j2,j3⟩|⟨h1,h2⟩
     ·rw[dH] at j1;have hjm:j<m:=by omega
      rw[qq,ar hjm,kB] at j2;refine .inl ⟨j,hjm,?_,j2,by rw[c6];exact j3⟩;rcases look t mt j (by omega) j2 with h|h|h
      ·omega
      ·exact inn j (by omega) h
      ·have:=yP B (i:=j) (by omega) h;omega
     ·refine .inr ⟨λj hj _ hdj=>?_,h2⟩;refine h1 j ?_ ?_<;>grind
    ·rw[Tr.get_nil] at m1;cases m1)
   (by rw[c4];exact ple)
   (by rw[c2,c4];have:=pop;rw[fg] at this;exact this)
   (tmK:=wm ops.toList tm) (λt u hu=>by
    obtain⟨k1,k2⟩:=EO.1 hu;refine⟨λj hj hd=>?_,k2⟩;have hj2:j<ops.size:=by omega
    rw[uS hj2] at hd;exact k1 (ops[j]'hj2) (by simp) hd)
   (by rw[c3];exact N) base
  rw[c1,c3] at M;have E:=M.ext N;refine⟨ρ',_,w',.inRegion ops (m::σ2)::k,.trans s0 s1,⟨F.fn,S',?_,F.defers.mono E,⟨_,rfl,.cons r1 .nil⟩,F.kind,F.round.mono E⟩,H',⟨M.os,M.tape,M.output,M.size,λb hb ho=>M.block b hb λ⟨o,ob,L,x,y,z⟩=>ho ⟨o,ob,L,yf _ _ x,y,z⟩,
   λb hb ho=>by
    obtain⟨o,ob,L,x,y,z⟩:=M.owned b hb ho;exact⟨o,ob,L,yf _ _ x,y,z⟩,M.le,M.cq,M.lit,λb i v hv=>by
    rcases M.eU b i v hv with h1|h1|⟨o,ob,L,x,y,z⟩
    ·exact .inl h1
    ·exact .inr (.inl h1)
    ·exact .inr (.inr ⟨o,ob,L,yf _ _ x,y,z⟩)⟩⟩
  rw[htd];exact .cons rfl (bI.mono E)
end
section
variable{β:Type}
variable{v:Value}
theorem aY.gives(h:aY v)(hp:Heap):kY hp v v:=λ_ _ _ H r=>(h.rel r).mono (vC H)
variable{hp:Heap} {u:Value}
theorem yB(g:kY hp u u)(h:∀(ρ:Ren)(y:Value),aF ρ v y->aF ρ u y):kY hp v u:=λρ w x H r=>g ρ w x H (h ρ x r)
theorem WV.gives(h:WV u v)(p:aY u):kY hp v u:=by
 rcases h with rfl|⟨rfl,rfl⟩
 ·exact p.gives hp
 ·exact yB (p.gives hp) λρ y r=>yR r
variable{c vs:List Value} {h:Heap} {n o off:Nat} {opn:Bool} {t:TypeId} {w:World} {ρ:Ren}
theorem UZ(H:bh ρ h w)(ho:h.get o=some (.cells vs t opn)){L:Loc}(hL:ρ o=some L)(hle:off+n<=vs.length)
 (pc:bO c) (wc:cU c ((vs.drop off).take n)):∃ys,aP (fw ρ h w) c ys/\∀i y,ys[i]? =some y->fw ρ h w L.block (L.base+off+i)=some y:=by
 obtain⟨L',l1,cs,fz,hb,_,hc⟩:=H.obj o _ ho;rw[hL] at l1;cases l1;have r:=hc.part hle;refine⟨(cs.toList.drop (L.base+off)).take n,aP.qU (by rw[wc.length,r.length]) (λi x hx=>?_),λi y hy=>?_⟩
 ·obtain⟨v,hv,wv⟩:=wc.get hx;obtain⟨y,hy,ry⟩:=r.get hv;exact⟨y,hy,(wv.gives (pc.mem x (qv hx)).1) ρ w y H ry⟩
 ·unfold fw;rw[ar (⟨o,_,L,ho,hL,rfl⟩),qR hb]
  grind
def om(cs:List Value)(r:Option β):Option β:=match cs with
 |[]=>r
 |_=>none
def yM:List VT->List Value->(List bo->Option β)->Option β
 |[],cs,K=>om cs (K [])
 | .i k::ts,cs,K=>ag cs λx r=>aw k x λn=>yM ts r λl=>K (.i n::l)
 | .b::ts,cs,K=>ag cs λx r=>AT x λn=>yM ts r λl=>K (.b n::l)
 | .s::ts,cs,K=>ag cs λx r=>AU x λn=>yM ts r λl=>K (.s n::l)
 | .v::ts,cs,K=>ag cs λx r=>yM ts r λl=>K (.v x::l)
 |_,_,_=>none
def ED(g:SV->Option Value):List SV->Option (List Value)
 |[]=>some []
 |x::xs=>ob (g x) λu=>ob (ED g xs) λus=>some (u::us)
def gv(h:Tr SO):Nat->SV->Option Value
 |0,_=>none
 |f+1,x=>match x with
  | .i k n=>some (.int k n)
  | .b q=>some (.bool q)
  | .s q=>some (.string q)
  | .v q=>some q
  | .nl=>some (ae 0 [])
  | .ni=>some .nilIface
  | .gr id E=>ob (h.get id) λso=>match so with
   | .grow E' c _=>cond (Nat.beq E E') (some (ae (c.length/E) c)) none
   |_=>bM 39
  | .sl id off n _=>ob (h.get id) λso=>match so with
   | .arr c _=>cond (Nat.ble off c.length) (some (ae n (c.drop off))) none
   | .cells cs _=>cond (Nat.ble off cs.length) (ob (ED (gv h f) (cs.drop off)) λus=>some (ae n us)) none
   |_=>bM 40
  |_=>bM 41
mutual
def yz(st:St):VT->SV->(List bo->Option β)->Option β
 | .i k,.i k' n,K=>cond (decide (k=k')) (K [.i n]) none
 | .b,.b x,K=>K [.b x]
 | .s,.s x,K=>K [.s x]
 | .v,.v x,K=>K [.v x]
 | .v,.nl,K=>K [.v (ae 0 [])]
 | .v,.ni,K=>K [.v .nilIface]
 | .v,.gr id E,K=>ob (gv st.h 20 (.gr id E)) λu=>K [.v u]
 | .v,.sl id off n c,K=>ob (gv st.h 20 (.sl id off n c)) λu=>K [.v u]
 | .em true,.em true,K=>K []
 | .em false,.em false,K=>K []
 | .nf,.v .nilFunc,K=>K []
 | .agg ts,.agg l,K=>rY st ts l K
 | .aH ts,.aH l,K=>rY st ts l K
 | .fn f ts,.fn f' l,K=>cond (Nat.beq f f') (cond (Nat.blt f 65536) (rY st ts l K) none) none
 | .lp ts,.lp cs,K=>cond (qM ts) (yM ts cs K) none
 | .lp ts,.ptr id off,K=>ob (st.h.get id) λso=>match so with
  | .cells c _=>cond (Nat.ble off c.length&&qM ts) (rY st ts (c.drop off) K) none
  |_=>bM 42
 |_,_,_=>bM 43
def rY(st:St):List VT->List SV->(List bo->Option β)->Option β
 |[],[],K=>K []
 |t::ts,x::xs,K=>yz st t x λl1=>rY st ts xs λl2=>K (l1++l2)
 |_,_,_=>none
end
mutual
def lu:VT->List bo->Option (Value×List bo)
 | .i k,.i n::ls=>some (.int k n,ls)
 | .b,.b x::ls=>some (.bool x,ls)
 | .s,.s x::ls=>some (.string x,ls)
 | .v,.v x::ls=>some (x,ls)
 | .agg ts,ls=>ob (fk ts ls) λr=>some (.agg ⟨r.1⟩,r.2)
 | .aH ts,ls=>ob (fk ts ls) λr=>some (.tuple ⟨r.1⟩,r.2)
 | .fn f ts,ls=>cond (Nat.blt f 65536) (ob (fk ts ls) λr=>some (.func (.func f) #[] ⟨r.1⟩,r.2)) none
 | .lp ts,ls=>cond (qM ts) (ob (fk ts ls) λr=>some (og r.1,r.2)) none
 | .em b,ls=>some (vQ b,ls)
 | .nf,ls=>some (.nilFunc,ls)
 |_,_=>none
def fk:List VT->List bo->Option (List Value×List bo)
 |[],ls=>some ([],ls)
 |t::ts,ls=>ob (lu t ls) λr=>ob (fk ts r.2) λq=>some (r.1 ::q.1,q.2)
end
mutual
def rB:VT->List bo->Option (SV×List bo)
 | .i k,.i n::ls=>some (.i k n,ls)
 | .b,.b x::ls=>some (.b x,ls)
 | .s,.s x::ls=>some (.s x,ls)
 | .v,.v x::ls=>some (.v x,ls)
 | .agg ts,ls=>ob (rC ts ls) λr=>some (.agg r.1,r.2)
 | .aH ts,ls=>ob (rC ts ls) λr=>some (.aH r.1,r.2)
 | .fn f ts,ls=>cond (Nat.blt f 65536) (ob (rC ts ls) λr=>some (.fn f r.1,r.2)) none
 | .lp ts,ls=>cond (qM ts) (ob (fk ts ls) λr=>some (.lp r.1,r.2)) none
 | .em b,ls=>some (.em b,ls)
 | .nf,ls=>some (.v .nilFunc,ls)
 |_,_=>none
def rC:List VT->List bo->Option (List SV×List bo)
 |[],ls=>some ([],ls)
 |t::ts,ls=>ob (rB t ls) λr=>ob (rC ts r.2) λq=>some (r.1 ::q.1,q.2)
end
def iQ(ls:List bo):Prop:=∀x,bo.v x∈ls->aY x/\bB [x]=true
theorem fq(h:bO c):aY (ae n c)/\bB [ae n c]=true:=⟨.lit h.1 h.2,rfl⟩
variable{b:β}
theorem abq{cs:List Value}{r:Option β}(e:om cs r=some b):cs=[]/\r=some b:=by
 unfold om at e
 grind
theorem BG:∀(ts:List VT)(cs:List Value)(K:List bo->Option β)(b:β),yM ts cs K=some b->
 ∃ls,K ls=some b/\(bO cs->iQ ls)/\∀rest,fk ts (ls++rest)=some (cs,rest)
 |[],cs,K,b,e=>by obtain⟨rfl,e⟩:=abq e;exact⟨[],e,λ_ x hx=>(by cases hx),λrest=>by unfold fk;rfl⟩
 | .i k::ts,cs0,K,b,e=>by
  obtain⟨x,cs,rfl,e2⟩:=Dd e;unfold aw at e2;split at e2
  ·obtain⟨e1,f⟩:=aT e2;have:=qw e1;subst this;obtain⟨ls,h1,h2,h3⟩:=BG ts cs _ b f;refine⟨_,h1,λp y hy=>?_,λrest=>?_⟩
   ·rcases cj.1 hy with hy|hy
    ·cases hy
    ·exact h2 p.cons.2 y hy
   ·show fk _ (_::(ls++rest))=_;show ob (fk ts (ls++rest)) _=_;rw[h3];rfl
  ·cases e2
 | .b::ts,cs0,K,b,e=>by
  obtain⟨x,cs,rfl,e2⟩:=Dd e;unfold AT at e2;split at e2
  ·obtain⟨ls,h1,h2,h3⟩:=BG ts cs _ b e2;refine⟨_,h1,λp y hy=>?_,λrest=>?_⟩
   ·rcases cj.1 hy with hy|hy
    ·cases hy
    ·exact h2 p.cons.2 y hy
   ·show fk _ (_::(ls++rest))=_;show ob (fk ts (ls++rest)) _=_;rw[h3];rfl
  ·cases e2
 | .s::ts,cs0,K,b,e=>by
  obtain⟨x,cs,rfl,e2⟩:=Dd e;unfold AU at e2;split at e2
  ·obtain⟨ls,h1,h2,h3⟩:=BG ts cs _ b e2;refine⟨_,h1,λp y hy=>?_,λrest=>?_⟩
   ·rcases cj.1 hy with hy|hy
    ·cases hy
    ·exact h2 p.cons.2 y hy
   ·show fk _ (_::(ls++rest))=_;show ob (fk ts (ls++rest)) _=_;rw[h3];rfl
  ·cases e2
 | .v::ts,cs0,K,b,e=>by
  obtain⟨x,cs,rfl,e⟩:=Dd e;obtain⟨ls,h1,h2,h3⟩:=BG ts cs _ b e;refine⟨_,h1,λp y hy=>?_,λrest=>?_⟩
  ·rcases cj.1 hy with hy|hy
   ·cases hy;exact p.cons.1
   ·exact h2 p.cons.2 y hy
  ·show fk _ (_::(ls++rest))=_;show ob (fk ts (ls++rest)) _=_;rw[h3];rfl
theorem UW(H:bh ρ h w)(ho:h.get o=some (.cells vs t opn)){L:Loc}(hL:ρ o=some L)(hle:off<=vs.length)
 (hl:c.length=vs.length -off) (hg:∀(i:Nat)(u:Value),c[i]? =some u->∃v,vs[off+i]? =some v/\kY h v u):∃ys,aP (fw ρ h w) c ys/\∀i y,ys[i]? =some y->fw ρ h w L.block (L.base+off+i)=some y:=by
 obtain⟨L',l1,cs,fz,hb,_,hc⟩:=H.obj o _ ho;rw[hL] at l1;cases l1;have r:=hc.part (off:=off) (n:=vs.length -off) (by omega);refine⟨(cs.toList.drop (L.base+off)).take (vs.length -off),aP.qU (by rw[hl,<-r.length];simp) (λi x hx=>?_),λi y hy=>?_⟩
 ·obtain⟨v,hv,g⟩:=hg i x hx;obtain⟨y,hy,ry⟩:=r.get (by rw[qq,ar (show i<vs.length -off from by grind),List.getElem?_drop];exact hv);exact⟨y,hy,g ρ w y H ry⟩
 ·unfold fw;rw[ar (⟨o,_,L,ho,hL,rfl⟩),qR hb]
  grind
theorem Ke{g:SV->Option Value}:∀{xs:List SV}{us:List Value},ED g xs=some us->us.length=xs.length/\∀(i:Nat)(u:Value),us[i]? =some u->∃x,xs[i]? =some x/\g x=some u
 |[],_,e=>by cases e;exact⟨rfl,λi u h=>by simp at h⟩
 |x::xs,_,e=>by
  obtain⟨u,h1,e⟩:=af e;obtain⟨us,h2,e⟩:=af e;cases e;obtain⟨a,b⟩:=Ke h2;refine⟨by simp[a],λi y hy=>?_⟩;cases i with
  |zero=>grind
  |succ i=>grind
variable{nx:Nat} {st:St} {tm:Tr Value} {σ:Nm}
theorem tY(R:aM σ st tm h nx):∀(f:Nat)(x:SV)(u v:Value),gv st.h f x=some u->DV σ x v->kY h v u/\aY u/\bB [u]=true
 |0,x,u,v,e,_=>by cases e
 |f+1,x,u,v,e,d=>by
  unfold gv at e;split at e
  ·cases e;cases d;exact⟨aY.gives (.int _ _) h,.int _ _,rfl⟩
  ·cases e;cases d;exact⟨aY.gives (.bool _) h,.bool _,rfl⟩
  ·cases e;cases d;exact⟨aY.gives (.str _) h,.str _,rfl⟩
  ·cases e;cases d with
   |v p q=>exact⟨p.gives h,p,q⟩
   |im=>exact⟨yB (aY.gives (fq ⟨(λx h=>by cases h),rfl⟩).1 h) λρ y r=>yR r,fq ⟨(λx h=>by cases h),rfl⟩⟩
  ·cases e;cases d;exact⟨yB (aY.gives (fq ⟨(λx h=>by cases h),rfl⟩).1 h) λρ y r=>yR r,fq ⟨(λx h=>by cases h),rfl⟩⟩
  ·cases e;cases d;exact⟨aY.gives .nilIface h,.nilIface,rfl⟩
  ·rename_i id E;obtain⟨so,hso,e⟩:=af e;split at e
   ·rename_i E' c t;obtain⟨e1,g⟩:=aT e;have:=bJ e1;subst this;cases g;refine⟨?_,fq (R.obj _ _ hso).2.1⟩;obtain⟨k1,k2,k3⟩:=R.obj _ _ hso;rcases k3 with⟨g1,g2⟩|⟨o,n,g1,g2,vs,g3,g4⟩
    ·subst g2;cases d with
     |gP g=>rw[(show([]:List Value).length/E=0 from by simp)];exact yB (aY.gives (fq k2).1 h) λρ y r=>yR r
     |gr g=>rw[g1] at g;cases g
    ·cases d with
     |gP g=>rw[g1] at g;cases g
     |gr g=>
      rw[g1] at g;cases g;rw[(show c.length/E=n from by rw[g2];exact lP n k1)];intro ρ w x H r;generalize hq:bt+E=q at r;cases r with
      |gG hL hc=>omega
      |jb=>omega
      |gz hL hE hc hnc=>obtain⟨ys,y1,y2⟩:=UZ H g3 hL (off:=0) (n:=vs.length) (by omega) k2 (by rw[eL,rG];exact g4);exact .gH y1 (λi y hy=>by have:=y2 i y hy;simpa using this) rfl hnc
   ·cases e
  ·rename_i id off n cap;obtain⟨so,hso,e⟩:=af e;split at e
   ·rename_i c t;obtain⟨e1,g⟩:=aT e;have e1:=cI e1;cases g;obtain⟨o,m,vs,g1,g2,g3,g4⟩:=R.obj _ _ hso;refine⟨?_,fq (g3.drop off)⟩;cases d with
    |sl q hc hn=>
     rw[g1] at q;cases q;intro ρ w x H r;have hl:=g4.length;cases r with
     |gz hL hE hc2 hnc=>omega
     |jb=>omega
     |gG hL hc' hn'=>
      obtain⟨ys,y1,y2⟩:=UZ H g2 hL (off:=off) (n:=vs.length -off) (by omega) (g3.drop off) (by
       have:=g4.drop off;rw[gh (by simp)];exact this)
      exact .gH y1 (λi y hy=>y2 i y hy) rfl hn
   ·rename_i c t;obtain⟨e1,g⟩:=aT e;have e1:=cI e1;obtain⟨us,hus,g⟩:=af g;cases g;obtain⟨o,m,vs,g1,g2,g3⟩:=R.obj _ _ hso;obtain⟨a1,a2⟩:=Ke hus;have hl:=g3.length;have key:∀(i:Nat)(u:Value),us[i]? =some u->∃v,vs[off+i]? =some v/\kY h v u/\aY u/\bB [u]=true:=λi u hu=>by
     obtain⟨x,hx,gx⟩:=a2 i u hu;rw[List.getElem?_drop] at hx;obtain⟨v,hv,dv⟩:=g3.get hx;exact⟨v,hv,tY R f x u v gx dv⟩
    have pu:bO us:=bO.mm λu hu=>by obtain⟨i,hi⟩:=List.getElem?_of_mem hu;obtain⟨_,_,_,p⟩:=key i u hi;exact p
    refine⟨?_,fq pu⟩;cases d with
    |sl q hc hn=>
     rw[g1] at q;cases q;intro ρ w x H r;cases r with
     |gz hL hE hc2 hnc=>omega
     |jb=>omega
     |gG hL hc' hn'=>obtain⟨ys,y1,y2⟩:=UW H g2 hL (off:=off) (by omega) (by rw[a1,dZ,hl]) (λi u hu=>by obtain⟨v,hv,g,_⟩:=key i u hu;exact⟨v,hv,g⟩);exact .gH y1 (λi y hy=>y2 i y hy) rfl hn
   ·cases e
  ·cases e
mutual
def SV.ids:SV->List Nat
 | .ptr id _=>[id]
 | .sl id _ _ _=>[id]
 | .gr id _=>[id]
 | .agg l=>SV.ma l
 | .aH l=>SV.ma l
 | .fn _ l=>SV.ma l
 | .eR _ x=>SV.ids x
 |_=>[]
def SV.ma:List SV->List Nat
 |[]=>[]
 |x::xs=>SV.ids x++SV.ma xs
end
def SO.ids:SO->List Nat
 | .cells c _=>SV.ma c
 |_=>[]
def ml:Nat->List Nat->Tr SO->Tr SO->Tr SO×Tr SO
 |0,_,a,r=>(a,r)
 |_+1,[],a,r=>(a,r)
 |n+1,id::ids,a,r=>match r.get id with
  |none=>ml n ids a r
  |some so=>ml n (so.ids++ids) (a.set id so) (r.del id)
theorem EX{h:Tr SO}:∀(n:Nat)(ids:List Nat)(a r:Tr SO),(∀id so,a.get id=some so->h.get id=some so/\r.get id=none)->(∀id so,r.get id=some so->h.get id=some so/\a.get id=none)->
 (∀id so,(ml n ids a r).1.get id=some so->h.get id=some so/\(ml n ids a r).2.get id=none)/\(∀id so,(ml n ids a r).2.get id=some so->h.get id=some so/\(ml n ids a r).1.get id=none)
 |0,_,a,r,h1,h2=>⟨h1,h2⟩
 |_+1,[],a,r,h1,h2=>⟨h1,h2⟩
 |n+1,id::ids,a,r,h1,h2=>by
  unfold ml;split
  ·exact EX n ids a r h1 h2
  ·rename_i so hso;refine EX n (so.ids++ids) _ _ (λj s hj=>?_) (λj s hj=>?_)
   ·rw[Tr.bD] at hj;rw[Tr.kK]
    grind
   ·rw[Tr.kK] at hj;by_cases e:j=id
    ·grind
    ·rw[ai e] at hj;rw[Tr.bD];simp_all
noncomputable def il(σ:Nm)(a:Tr SO)(o:Nat):Bool:=open Classical in decide (∃id so n,a.get id=some so/\σ id=some (some o,n))
variable{a:Tr SO}
theorem sn:il σ a o=true↔∃id so n,a.get id=some so/\σ id=some (some o,n):=by unfold il;simp
theorem aM.part{h':Heap}(R:aM σ st tm h nx)(ha:∀id so,a.get id=some so->st.h.get id=some so)(hh:∀id so o n,a.get id=some so->σ id=some (some o,n)->h'.get o=h.get o):aM σ {st with h:=a} tm h' nx:=
 ⟨R.tm,λid so hs=>(R.obj id so (ha id so hs)).mono (iG.refl _) λo n g=>hh id so o n hs g,λid id' so so' o n n' a1 a2=>R.inj id id' so so' o n n' (ha _ _ a1) (ha _ _ a2),R.lt,R.fresh⟩
def Mf(h:Tr SO):List SV->Option Nat
 |[]=>none
 | .sl id _ _ _::r=>match h.get id with
  |some (.cells _ _)=>some id
  |_=>Mf h r
 |_::r=>Mf h r
def B0(st:St):List Operand->Option Nat
 |[]=>none
 | .tmp t::r=>match st.tm.get t with
  |some (.ptr id _)=>match st.h.get id with
   |some (.cells cs _)=>match Mf st.h cs with
    |some i=>some i
    |none=>B0 st r
   |_=>B0 st r
  |_=>B0 st r
 |_::r=>B0 st r
def Ub(st:St):List Oper->Option Nat
 |[]=>none
 |o::r=>match B0 st o.op.operands.toList with
  |some i=>some i
  |none=>Ub st r
def Rv(st:St)(id:Nat)(K:St->Option β):Option β:=ob (st.h.get id) λso=>match so with
 | .cells cs t=>ob (ED (gv (ml 1000 (SV.ma cs) .nil (st.h.del id)).1 20) cs) λus=>K {st with h:=(ml 1000 (SV.ma cs) .nil (st.h.del id)).2.set id (.arr us t)}
 |_=>bM 91
def J8(b:Bool)(ops:List Oper)(st:St)(K:St->Option β):Option β:=cond b (match Ub st ops with|some id=>Rv st id K|none=>K st) (K st)
variable{P:Program}
theorem ZR{c:cC}{id:Nat}{K:St->Option β}(e:Rv st id K=some b):∃st',K st'=some b/\∀(σ:Nm)(tm:Tr Value)(h:Heap)(nx:Nat)(td:List Item),aM σ st tm h nx->
 ∃h2,aM σ st' tm h2 nx/\cG P (bL c [] tm td h nx) (bL c [] tm td h2 nx):=by
 obtain⟨so,hso,e⟩:=af e;split at e
 ·rename_i cs t;obtain⟨m1,m2⟩:=EX 1000 (SV.ma cs) .nil (st.h.del id) (λi so q=>by rw[Tr.get_nil] at q;cases q) (λi so q=>⟨q,Tr.get_nil _⟩);generalize hA:(ml 1000 (SV.ma cs) .nil (st.h.del id)).1 =A at e m1 m2;generalize hB:(ml 1000 (SV.ma cs) .nil (st.h.del id)).2 =B at e m1 m2;obtain⟨us,hus,e⟩:=af e;refine⟨_,e,λσ tm h nx td R=>?_⟩;have dA:∀i so,A.get i=some so->st.h.get i=some so/\i≠id:=λi so q=>by
   have:=(m1 i so q).1;rw[Tr.kK] at this;by_cases k:i=id<;>grind
  have dB:∀i so,B.get i=some so->st.h.get i=some so/\i≠id:=λi so q=>by have:=(m2 i so q).1;rw[Tr.kK] at this;by_cases k:i=id<;>grind
  obtain⟨o,n,vs,g1,g2,g3⟩:=R.obj id _ hso;have ho:il σ A o=false:=by
   cases hn:il σ A o with
   |false=>rfl
   |true=>obtain⟨i,so,n',x,y⟩:=sn.1 hn;exact absurd (R.inj _ _ _ _ _ _ _ (dA i so x).1 hso y g1) (dA i so x).2
  have hcs:=g3.length;obtain⟨a1,a2⟩:=Ke hus;have key:∀(i:Nat)(u:Value),us[i]? =some u->∃v,vs[i]? =some v/\kY (jz h (il σ A)) v u/\aY u/\bB [u]=true:=λi u hu=>by obtain⟨x,hx,gx⟩:=a2 i u hu;obtain⟨v,hv,dv⟩:=g3.get hx;exact⟨v,hv,tY (R.part (λi so q=>(dA i so q).1) λi so o n q1 q2=>pQ (sn.2 ⟨i,so,n,q1,q2⟩)) 20 x u v gx dv⟩
  have hp:bO us:=bO.mm λu hu=>by obtain⟨i,hi⟩:=List.getElem?_of_mem hu;exact(key i u hi).choose_spec.2.2
  let h2:Heap:=(jz h λx=>!il σ A x).set o (.cells us t false)
  have gset:∀x,h2.get x=if x=o then some (.cells us t false) else(jz h λx=>!il σ A x).get x:=λx=>Tr.bD _ _ _ _;have s1:∀x ob,(jz h (il σ A)).get x=some ob->h.get x=some ob:=λx ob q=>(rX q).2;have s2:∀x ob,x≠o->h2.get x=some ob->h.get x=some ob/\(jz h (il σ A)).get x=none:=λx ob k q=>by
   rw[gset,ai k] at q;obtain⟨y,z⟩:=rX q;refine⟨z,tW ?_⟩;cases hn:il σ A x with
   |false=>rfl
   |true=>rw[hn] at y;cases y
  have s3:∀x ob,h2.get x=some ob->∃ob',h.get x=some ob'/\(jz h (il σ A)).get x=none:=λx ob q=>by
   by_cases k:x=o
   ·exact⟨_,by rw[k];exact g2,by rw[k];exact tW ho⟩
   ·exact⟨_,(s2 x ob k q).1,(s2 x ob k q).2⟩
  refine⟨h2,⟨R.tm,λi so hs=>?_,λi i' so so' x n n' b1 b2=>?_,R.lt,R.fresh⟩,?_⟩
  ·have hs:(B.set id (.arr us t)).get i=some so:=hs;rw[Tr.bD] at hs;by_cases k:i=id
   ·rw[ar k] at hs;cases hs;rw[k];exact⟨o,n,us,g1,by rw[gset,ar rfl],hp,cU.refl _⟩
   ·rw[ai k] at hs;refine(R.obj i so (dB i so hs).1).mono (iG.refl _) λx m g=>?_;rw[gset,ai (λq=>by rw[q] at g;exact k (R.inj _ _ _ _ _ _ _ (dB i so hs).1 hso g g1))];refine pQ ?_;cases hn:il σ A x with
    |false=>rfl
    |true=>obtain⟨j,sj,nj,y,z⟩:=sn.1 hn;have:=R.inj _ _ _ _ _ _ _ (dB i so hs).1 (dA j sj y).1 g z;subst this;rw[(m2 i so hs).2] at y;cases y
  ·have b1:(B.set id (.arr us t)).get i=some so:=b1;have f:∀i so,(B.set id (.arr us t)).get i=some so->∃so',st.h.get i=some so':=λi so q=>by
    rw[Tr.bD] at q;by_cases k:i=id<;>grind
   obtain⟨x1,y1⟩:=f i so b1;obtain⟨x2,y2⟩:=f i' so' b2;exact R.inj i i' x1 x2 x n n' y1 y2
  ·intro ρ fr fcs base w F C H N;have H1:=H.sub s1
   let ρ2:Ren:=⟨ρ.cq,fw ρ (jz h (il σ A)) w⟩
   have E:Ext ρ ρ2:=⟨λ_ _ h=>h,vC H1⟩;have Lv:∀b,gT ρ (jz h (il σ A)) b->gT ρ h b:=λb ⟨o,ob,L,x,y,z⟩=>⟨o,ob,L,s1 _ _ x,y,z⟩;have um:∀b,gT ρ2 h2 b->gT ρ h b:=λb ⟨o,ob,L,x,y,z⟩=>by obtain⟨ob',q,_⟩:=s3 _ _ x;exact⟨o,ob',L,q,y,z⟩
   have H2:bh ρ2 h2 w:=by
    refine⟨λx ob hx=>?_,λx x' L L' ob ob' a b=>?_,xS H1,λb i v hv x ob L hx hL=>?_⟩
    ·by_cases k:x=o
     ·rw[gset,ar k] at hx;cases hx;obtain⟨L,l1,cc,fz,q1,q2,q3⟩:=H.obj o _ g2;refine⟨L,by rw[k];exact l1,cc,fz,q1,q2,q3.1,by rw[a1,hcs];exact q3.2.1,λhf=>?_,λi u hu=>?_⟩
      ·rw[a1,hcs];exact q3.2.2.1 hf
      ·obtain⟨v,hv,gg,_⟩:=key i u hu;obtain⟨v',p1,p2⟩:=q3.2.2.2 i v hv;have:aP (fw ρ (jz h (il σ A)) w) [u] [v']:=.cons (gg ρ w v' H1 p2) .nil;have:=(show aP ρ2.lit [u] [v'] from this).to;cases this with
       |cons a _=>exact⟨v',p1,a⟩
     ·obtain⟨L,l1,l2⟩:=H.obj x ob (s2 x ob k hx).1;exact⟨L,l1,l2.mono E⟩
    ·obtain⟨q,q1,_⟩:=s3 _ _ a;obtain⟨q',q2,_⟩:=s3 _ _ b;exact H.inj x x' L L' q q' q1 q2
    ·obtain⟨ob',q1,q3⟩:=s3 _ _ hx;rcases tH b i v hv with q|⟨o1,ob1,L1,x',y,z⟩
     ·exact H.free b i v q x ob' L q1 hL
     ·intro e;have:=H.inj x o1 L L1 ob' ob1 q1 (s1 _ _ x') hL y (by rw[z,e]);subst this;rw[q3] at x';cases x'
   exact⟨ρ2,fr,fcs,w,Steps.refl _ _,jM.mono E F,qx.mono E C,H2,⟨rfl,rfl,rfl,aB _,λ_ _ _=>rfl,λb _ q=>um b q,aB _,λ_ _=>rfl,E.lit,λb i v hv=>by
    rcases tH b i v hv with q|q
    ·exact .inl q
    ·exact .inr (.inr (Lv b q))⟩⟩
 ·cases e
theorem ZS{c:cC}{z:Bool}{ops:List Oper}{K:St->Option β}(e:J8 z ops st K=some b):∃st',K st'=some b/\∀(σ:Nm)(tm:Tr Value)(h:Heap)(nx:Nat)(td:List Item),aM σ st tm h nx->
 ∃h2,aM σ st' tm h2 nx/\cG P (bL c [] tm td h nx) (bL c [] tm td h2 nx):=by
 unfold J8 at e;cases z with
 |false=>exact⟨st,e,λσ tm h nx td R=>⟨h,R,cG.refl _ _⟩⟩
 |true=>
  split at e
  ·exact ZR e
  ·exact⟨st,e,λσ tm h nx td R=>⟨h,R,cG.refl _ _⟩⟩
end
section
variable[QF]
variable{β:Type}
structure jk(β:Type) where
 len:Nat
 t:cZ
 F:Fn t.ks (Option β)
def wh(d:Nat):List (jk β)->Option (jk β)
 |[]=>none
 |r::rs=>cond (Nat.beq r.len d) (some r) (wh d rs)
def Ai(d:Nat):List (jk β)->List (jk β)
 |[]=>[]
 |r::rs=>cond (Nat.ble r.len d) (r::Ai d rs) (Ai d rs)
structure Ctx(β:Type) where
 X:cJ
 pt:FuncId->Option (dJ β)
 n:Nat
 rs:List ResultVar
 lv:Nat->Option cZ
 jv:Nat->Option cZ
 un:Nat->Bool
 df:Bool
 fuel:Nat
 an:Nat
 gQ:SV->St->Option β
 mY:SV->St->Option β
variable{α:Type}
def lp(z:α)(F:α->α)(n:Nat):α:=Nat.rec z (λ_ r=>F r) n
def aiw{γ:Type}(J:α)(F:α->γ):γ:=F J
def aa1:List Item->Option Nat
 | .inBlock id::_=>some id
 |_=>none
def EF:Code->Option Nat
 | .region id _ _=>some id
 | .seq a _=>EF a
 | .block _ a=>EF a
 | .scope a=>EF a
 |_=>none
def FV(c:Operand)(q:Bool)(st:St):St:=match c with
 | .tmp t=>{st with tm:=st.tm.set t (.b q)}
 |_=>st
variable{h:Heap} {nx:Nat} {st:St} {tm:Tr Value} {σ:Nm}
omit [QF] in
theorem aM.ref(R:aM σ st tm h nx){c:Operand}{q:Bool}(e:dX st.tm c=some (.b q)):aM σ (FV c q st) tm h nx:=by
 unfold FV;split
 ·rename_i t;refine⟨λt' x hx=>?_,R.obj,R.inj,R.lt,R.fresh⟩;rw[Tr.bD] at hx;by_cases k:t'=t
  ·rw[ar k] at hx;cases hx;rw[k];exact R.tm t _ e
  ·rw[ai k] at hx;exact R.tm t' x hx
 grind
def vU(T:TT)(st:St):List ResultVar->(List SV->Option β)->Option β
 |[],K=>K []
 | .tmp t::rs,K=>ob (st.tm.get t) λv=>vU T st rs λvs=>K (v::vs)
 | .cell a t::rs,K=>ob (st.tm.get a) λp=>MB T st t p λv=>vU T st rs λvs=>K (v::vs)
def Bo(gQ:SV->St->Option β)(st:St):List SV->Option β
 |[v]=>gQ v st
 |vs=>gQ (.aH vs) st
def YI:Code->Nat
 | .skip=>0
 | .region ..=>1
 | .seq ..=>2
 | .cond ..=>3
 | .block ..=>4
 | .loop ..=>5
 | .rangeFunc ..=>6
 | .exit ..=>7
 | .scope ..=>8
 | .label ..=>9
 | .goto ..=>10
 | .ret=>11
 | .refuse ..=>12
noncomputable def Jy(C:Ctx β)(go:List (jk β)->List Item->St->Option β)(rs:List (jk β))(todo:List Item)(st:St):Option β:=
 match wh todo.length rs with
 |some r=>qL C.an r.t st λls=>jq r.t.ks r.F ls
 |none=>match todo with
  |[]=>cond C.df (C.gQ (.aH []) st) (vU C.X.T st C.rs (Bo C.gQ st))
  | .code .ret::_=>cond C.df (C.gQ (.aH []) st) (vU C.X.T st C.rs (Bo C.gQ st))
  | .code .skip::k=>go rs k st
  | .code (.label _)::k=>go rs k st
  | .inBlock _::k=>go rs k st
  | .inScope _::k=>go rs k st
  | .code (.seq x y)::k=>match EF y with
   |some key=>match C.jv key with
    |some t=>aiw (lq t.ks λls=>ob (iX t ls) λst'=>go rs (.code y::k) st') λJ=>go (⟨(Item.code y::k).length,t,J⟩::rs) (.code x::.code y::k) st
    |none=>go rs (.code x::.code y::k) st
   |none=>go rs (.code x::.code y::k) st
  | .code (.cond c x y)::k=>ob (dX st.tm c) λv=>match v with
   | .b q=>cond q (go rs (.code x::k) (FV c true st)) (go rs (.code y::k) (FV c false st))
   |_=>bM 37
  | .code (.block id x)::k=>go rs (.code x::.inBlock id::k) st
  | .inLoop x::k=>go rs (.code x::.inLoop x::k) st
  | .code (.loop x)::k=>ob (aa1 k) λkey=>cond (C.un key) (go rs (.code x::.inLoop x::k) st) (ob (C.lv key) λt=>qL C.an t st λls=>
   jq t.ks (lp (jY t.ks) (λrec=>lq t.ks λls=>ob (iX t ls) λst'=>go (⟨(Item.inLoop x::k).length,t,rec⟩::rs) (.code x::.inLoop x::k) st') C.fuel) ls)
  | .code (.scope x)::k=>go rs (.code x::.inScope x::k) st
  | .code (.exit id)::k=>ob (exitTo id k) λk1=>go (Ai k1.length rs) k1 st
  | .code (.region l ops d)::k=>J8 (C.un (100000+l)) ops.toList st λst=>cond d (cond (stat ops (mh ops.toList []) C.n) (tQ C.X C.pt ops (mh ops.toList []) ops.toList 0 st st.h [] [] λq st'=>match q with|none=>go rs k st'|some v=>C.mY v st') (bM 70))
   (zq C.X C.pt C.n ops ops.toList st λq st'=>match q with|none=>go rs k st'|some v=>C.mY v st')
  | .code c::_=>bM (200+YI c)
  |_=>bM 38
noncomputable def dn(C:Ctx β)(n:Nat):List (jk β)->List Item->St->Option β:=Nat.rec (motive:=λ_=>List (jk β)->List Item->St->Option β) (λ_ _ _=>none) (λ_ go=>Jy C go) n
def kh(c:cC)(tm:Tr Value)(todo:List Item)(h:Heap)(nx:Nat):AM:={bL c [] tm todo h nx with fr:={(bL c [] tm todo h nx).fr with mode:=.returning}}
def xB(C:Ctx β)(c:cC)(σ:Nm)(sv:SV)(tm:Tr Value)(h:Heap):Prop:=
 cond C.df (sv=.aH []) (∃v,oN C.X h (kh c tm [] h 0).fr=some v/\DV σ sv v)
def Ends(P:Program)(C:Ctx β)(c:cC)(b:β)(σ0:Nm)(m:AM):Prop:=
 (∃σ st sv tm td h' nx',cG P m (kh c tm td h' nx')/\m.nx<=nx'/\aM σ st tm h' nx'/\xB C c σ sv tm h'/\C.gQ sv st=some b/\hQ C.an m.nx σ0 σ)\/
 (∃σ st sv v tm h' nx',vj P m v tm h' nx'/\m.nx<=nx'/\aM σ st tm h' nx'/\DV σ sv v/\C.mY sv st=some b/\hQ C.an m.nx σ0 σ)
variable{td:List Item}
omit [QF] in
theorem xB.done{C:Ctx β}{c:cC}{sv:SV}(F:xB C c σ sv tm h)(hdf:C.df=false)(hd:c.defers=[])(hk:c.kind=.normal):∃v,qA C.X c.fn (kh c tm td h nx)=some v/\DV σ sv v:=by unfold xB at F;rw[hdf] at F;obtain⟨v,q1,q2⟩:=F;refine⟨v,?_,q2⟩;unfold qA;have a1:(kh c tm td h nx).fr.defers=[]:=hd;have a2:(kh c tm td h nx).fr.kind=.normal:=hk;have a4:(kh c tm td h nx).fr.fn=c.fn:=rfl;simp_all;exact q1
variable{b:β} {h1:Heap} {nx1:Nat} {td1:List Item} {tm1:Tr Value} {σ0:Nm}
omit [QF] in
theorem Ends.Aa{P:Program}{C:Ctx β}{σ1:Nm}{c:cC}(E:Ends P C c b σ1 (bL c [] tm1 td1 h1 nx1))(S:cG P (bL c [] tm td h nx) (bL c [] tm1 td1 h1 nx1))(l:nx<=nx1)(F:hQ C.an nx σ0 σ1):Ends P C c b σ0 (bL c [] tm td h nx):=by
 rcases E with⟨σ,st,sv,t,td',h',nx',s,l',a1,a2,a3,a5⟩|⟨σ,st,sv,v,t,h',nx',s,l',a2,a3,a4,a5⟩
 ·exact .inl ⟨σ,st,sv,t,td',h',nx',S.trans s l l',eP l l',a1,a2,a3,F.trans a5 l⟩
 ·exact .inr ⟨σ,st,sv,v,t,h',nx',S.WZ s l l',eP l l',a2,a3,a4,F.trans a5 l⟩
omit [QF] in
theorem Ends.step{P:Program}{C:Ctx β}{c:cC}(E:Ends P C c b σ0 (bL c [] tm1 td1 h1 nx1))(S:cG P (bL c [] tm td h nx) (bL c [] tm1 td1 h1 nx1))(l:nx<=nx1):Ends P C c b σ0 (bL c [] tm td h nx):=E.Aa S l (hQ.refl _ _ _)
variable{k:List Item}
omit [QF] in
theorem Ends.Rx{P:Program}{C:Ctx β}{c:cC}{q:Option SV}{st':St}{go:St->Option β}(e:(match q with|none=>go st'|some v=>C.mY v st')=some b)(G:xD P c (bL c [] tm td h nx) σ nx k q st')
 (ih:go st'=some b->∀(σ':Nm)(tm':Tr Value)(h':Heap)(nx':Nat),aM σ' st' tm' h' nx'->Ends P C c b σ' (bL c [] tm' k h' nx')):Ends P C c b σ (bL c [] tm td h nx):=by
 obtain⟨σ',tm',h',nx',a1,a2,a3,a4⟩:=G;cases q with
 |none=>exact(ih e σ' tm' h' nx' a3).Aa a4 a1 a2.Ez
 |some sv=>obtain⟨v,d,s⟩:=a4;exact .inr ⟨σ',st',sv,v,tm',h',nx',s,a1,a3,d,e,a2.Ez⟩
section
variable{P:Program} (C:Ctx β) (c:cC)
def Pp(P:Program)(C:Ctx β)(c:cC)(r:jk β)(k:List Item):Prop:=
 ∀ls b st',jq r.t.ks r.F ls=some b->iX r.t ls=some st'->∀(σ:Nm)(tm:Tr Value)(h:Heap)(nx:Nat),aM σ st' tm h nx->Ends P C c b σ (bL c [] tm k h nx)
def kH(P:Program)(C:Ctx β)(c:cC)(rs:List (jk β))(todo:List Item):Prop:=
 ∀r∈rs,∃k,k.length=r.len/\k<:+todo/\Pp P C c r k
variable{C} {c}
variable{d:Nat}
omit [QF] in
theorem RG:∀{rs:List (jk β)}{r:jk β},wh d rs=some r->r∈rs/\r.len=d
 |[],r,h=>by cases h
 |x::rs,r,h=>by
  unfold wh at h;cases hb:Nat.beq x.len d with
  |true=>simp_all
  |false=>rw[hb] at h;obtain⟨a,b⟩:=RG h;simp_all
omit [QF] in
theorem RF:∀{rs:List (jk β)},wh d rs=none->∀r∈rs,r.len≠d
 |x::rs,h,r,hr=>by
  unfold wh at h;cases hb:Nat.beq x.len d with
  |true=>grind
  |false=>
   rw[hb] at h;rcases cj.1 hr with rfl|hr
   ·intro e;rw[e,kV] at hb;cases hb
   ·exact RF h r hr
omit [QF] in
theorem O8:∀{rs:List (jk β)}{r:jk β},r∈Ai d rs->r∈rs/\r.len<=d
 |[],r,h=>by cases h
 |x::rs,r,h=>by
  unfold Ai at h;cases hb:Nat.ble x.len d with
  |true=>
   rw[hb] at h;rcases cj.1 h with rfl|h
   ·simp_all
   ·obtain⟨a,b⟩:=O8 h;exact⟨gL _ a,b⟩
  |false=>rw[hb] at h;obtain⟨a,b⟩:=O8 h;exact⟨gL _ a,b⟩
variable{rs:List (jk β)}
omit [QF] in
theorem kH.tail{x:Item}(h:kH P C c rs (x::k))(hn:wh (x::k).length rs=none):kH P C c rs k:=by intro r hr;obtain⟨k1,a,b,g⟩:=h r hr;have:=RF hn r hr;refine⟨k1,a,?_,g⟩;rcases List.suffix_cons_iff.1 b with e|e<;>grind
omit [QF] in
theorem kH.push(h:kH P C c rs k)(x:Item):kH P C c rs (x::k):=λr hr=>by
 obtain⟨k1,a,b,g⟩:=h r hr
 grind
omit [QF] in
theorem kH.trim{k1:List Item}(h:kH P C c rs k)(s:k1<:+k):kH P C c (Ai k1.length rs) k1:=λr hr=>by obtain⟨a,b⟩:=O8 hr;obtain⟨k2,a2,b2,g⟩:=h r a;exact⟨k2,a2,List.suffix_of_suffix_length_le b2 s (by omega),g⟩
omit [QF] in
theorem kH.add(h:kH P C c rs k){t:cZ}{F:Fn t.ks (Option β)}(g:Pp P C c ⟨k.length,t,F⟩ k):kH P C c (⟨k.length,t,F⟩::rs) k:=λr hr=>by
 rcases cj.1 hr with rfl|hr
 ·grind
 ·exact h r hr
omit [QF] in
theorem JY{id:Nat}:∀{k k1:List Item},exitTo id k=some k1->k1<:+k
 |[],k1,h=>by cases h
 |x::k,k1,h=>by
  cases x with
  |inBlock j=>
   unfold exitTo at h;split at h
   ·grind
   ·exact(JY h).trans (List.suffix_cons _ _)
  |_=>exact(JY (k:=k) h).trans (List.suffix_cons _ _)
omit [QF] in
theorem Et{T:TT}:∀{rs:List ResultVar}{K:List SV->Option β}{b:β},vU T st rs K=some b->
 ∃svs,K svs=some b/\∀(σ:Nm)(tm:Tr Value)(h:Heap)(nx:Nat),aM σ st tm h nx->∃vs,tC T h tm rs=some vs/\bU σ svs vs
 |[],K,b,e=>⟨[],e,λσ tm h nx R=>⟨[],rfl,.nil⟩⟩
 | .tmp t::rs,K,b,e=>by obtain⟨v,h1,e⟩:=af e;obtain⟨svs,k1,k2⟩:=Et e;refine⟨v::svs,k1,λσ tm h nx R=>?_⟩;obtain⟨u,u1,u2⟩:=R.tm t v h1;obtain⟨vs,v1,v2⟩:=k2 σ tm h nx R;refine⟨u::vs,?_,.cons u2 v2⟩;simp[tC,ob,u1,v1]
 | .cell a t::rs,K,b,e=>by obtain⟨p,h1,e⟩:=af e;obtain⟨sv,g1,g2⟩:=Vg e;obtain⟨svs,k1,k2⟩:=Et g1;refine⟨sv::svs,k1,λσ tm h nx R=>?_⟩;obtain⟨w,w1,w2⟩:=R.tm a p h1;obtain⟨u,u1,u2⟩:=g2 σ tm h nx R w w2;obtain⟨vs,v1,v2⟩:=k2 σ tm h nx R;refine⟨u::vs,?_,.cons u2 v2⟩;simp[tC,ob,w1,u1,v1]
omit [QF] in
theorem Rg{todo:List Item}(hf:∃fn,C.X.F.get c.fn=some fn/\fn.results.toList=C.rs)(hr:c.roundOf=none)(hl:∃j,tr todo j/\(j=none\/j=some .ret))(e:cond C.df (C.gQ (.aH []) st) (vU C.X.T st C.rs (Bo C.gQ st))=some b)
 (R:aM σ st tm h nx):Ends P C c b σ (bL c [] tm todo h nx):=by
 obtain⟨fn,f1,f2⟩:=hf;obtain⟨j,l1,l2⟩:=hl;have key:∃sv,xB C c σ sv tm h/\C.gQ sv st=some b:=by
  unfold xB;cases hdf:C.df with
  |true=>grind
  |false=>
   rw[hdf] at e;obtain⟨svs,k1,k2⟩:=Et e;obtain⟨vs,v1,v2⟩:=k2 σ tm h nx R;have key:∃sv v,oN C.X h (kh c tm [] h 0).fr=some v/\DV σ sv v/\C.gQ sv st=some b:=by
    unfold oN;have e1:C.X.F.get (kh c tm [] h 0).fr.fn=some fn:=f1;simp only[ob,e1,(show tC C.X.T h (kh c tm [] h 0).fr.tmps fn.results.toList=some vs from by rw[f2];exact v1)];cases v2 with
    |nil=>exact⟨_,_,rfl,.aH .nil,k1⟩
    |cons d t=>
     cases t with
     |nil=>exact⟨_,_,rfl,d,k1⟩
     |cons d2 t2=>exact⟨_,_,rfl,.aH (.cons d (.cons d2 t2)),k1⟩
   grind
 obtain⟨sv,q1,q2⟩:=key;refine .inl ⟨σ,st,sv,tm,todo,h,nx,OG rfl l1 ?_,aB _,R,q1,q2,hQ.refl _ _ _⟩;unfold AG;rcases l2 with rfl|rfl<;>(unfold kh bL;simp[hr])
end
end
section
variable[QF]
variable{β:Type}
section
variable{P:Program} {C:Ctx β} {c:cC}
theorem yh(OK:ea P C.X)(hmix:P.follows .mixedOrders=true)(PT:oJ P C.pt)(hf:∃fn,C.X.F.get c.fn=some fn/\fn.results.toList=C.rs)(hn:c.n=C.n)(hr:c.roundOf=none):
 ∀(f:Nat)(rs:List (jk β))(todo:List Item)(st:St)(b:β),dn C f rs todo st=some b->kH P C c rs todo->
  ∀(σ:Nm)(tm:Tr Value)(h:Heap)(nx:Nat),aM σ st tm h nx->Ends P C c b σ (bL c [] tm todo h nx)
 |0,rs,todo,st,b,e,_,σ,tm,h,nx,R=>by cases e
 |f+1,rs,todo,st,b,e,RO,σ,tm,h,nx,R=>by
  have ih:=yh OK hmix PT hf hn hr f;replace e:Jy C (dn C f) rs todo st=some b:=e;unfold Jy at e;split at e
  ·rename_i r hh;obtain⟨hm,hl⟩:=RG hh;obtain⟨k,k1,k2,g⟩:=RO r hm;have:k=todo:=k2.eq_of_length (by rw[k1,hl]);subst this;obtain⟨ls,h1,st',h2,_,h3⟩:=yr e;obtain⟨σ',R',F'⟩:=h3 σ tm h nx R;exact(g ls b st' h1 h2 σ' tm h nx R').Aa (cG.refl _ _) (aB _) F'
  ·rename_i hh;split at e
   ·exact Rg hf hr ⟨none,.nil,.inl rfl⟩ e R
   ·exact Rg hf hr ⟨some .ret,.ret,.inr rfl⟩ e R
   ·rename_i k;exact(ih _ _ _ _ e (RO.tail hh) σ tm h nx R).step (Ww rfl rfl) (aB _)
   ·rename_i l k;exact(ih _ _ _ _ e (RO.tail hh) σ tm h nx R).step (Wt rfl rfl) (aB _)
   ·rename_i l k;exact(ih _ _ _ _ e (RO.tail hh) σ tm h nx R).step (Wr rfl rfl) (aB _)
   ·rename_i l k;exact(ih _ _ _ _ e (RO.tail hh) σ tm h nx R).step (Ws rfl rfl) (aB _)
   ·rename_i x y k;have hs:=CY (P:=P) (m:=bL c [] tm (.code (.seq x y)::k) h nx) rfl rfl;have plain:dn C f rs (.code x::.code y::k) st=some b->Ends P C c b σ (bL c [] tm (.code (.seq x y)::k) h nx):=λe=>
     (ih _ _ _ _ e (((RO.tail hh).push _).push _) σ tm h nx R).step hs (aB _)
    split at e
    ·split at e
     ·rename_i t _;refine(ih _ _ _ _ e (kH.push (kH.add ((RO.tail hh).push (.code y)) ?_) _) σ tm h nx R).step hs (aB _);intro ls b' st' h1 h2 σ' tm' h' nx' R';obtain⟨st2,g1,g2⟩:=af (nR _ _ _ _ h1);rw[h2] at g1;cases g1;exact ih _ _ _ _ g2 ((RO.tail hh).push _) σ' tm' h' nx' R'
     ·exact plain e
    ·exact plain e
   ·rename_i q x y k;obtain⟨v,hv,e⟩:=af e;obtain⟨u,u1,u2⟩:=ec R hv;split at e
    ·rename_i z;cases u2;have hs:=Wp (P:=P) (m:=bL c [] tm (.code (.cond q x y)::k) h nx) rfl rfl u1;cases z with
     |true=>exact(ih _ _ _ _ e ((RO.tail hh).push _) σ tm h nx (R.ref hv)).step hs (aB _)
     |false=>exact(ih _ _ _ _ e ((RO.tail hh).push _) σ tm h nx (R.ref hv)).step hs (aB _)
    ·cases e
   ·rename_i l x k;exact(ih _ _ _ _ e (((RO.tail hh).push _).push _) σ tm h nx R).step (Wo rfl rfl) (aB _)
   ·rename_i x k;exact(ih _ _ _ _ e (((RO.tail hh).push _).push _) σ tm h nx R).step (OF rfl rfl) (aB _)
   ·rename_i x k;obtain⟨key,_,e⟩:=af e;have hs:=Wu (P:=P) (m:=bL c [] tm (.code (.loop x)::k) h nx) rfl rfl;cases hu:C.un key with
    |true=>rw[hu] at e;exact(ih _ _ _ _ e (((RO.tail hh).push _).push _) σ tm h nx R).step hs (aB _)
    |false=>
    rw[hu] at e;obtain⟨t,_,e⟩:=af e;have head:∀(n:Nat),∀ls b st',jq t.ks (lp (jY t.ks) (λrec=>lq t.ks λls=>ob (iX t ls) λst'=>dn C f (⟨(Item.inLoop x::k).length,t,rec⟩::rs) (.code x::.inLoop x::k) st') n) ls=some b->iX t ls=some st'->
     ∀(σ:Nm)(tm:Tr Value)(h:Heap)(nx:Nat),aM σ st' tm h nx->Ends P C c b σ (bL c [] tm (.code x::.inLoop x::k) h nx):=by
     intro n;induction n with
     |zero=>intro ls b st' h1;exact(AP _ _ _ h1).elim
     |succ n ihn=>intro ls b' st' h1 h2 σ' tm' h' nx' R';obtain⟨st2,g1,g2⟩:=af (nR _ _ _ _ h1);rw[h2] at g1;cases g1;refine ih _ _ _ _ g2 (kH.push (kH.add ((RO.tail hh).push (.inLoop x)) ?_) _) σ' tm' h' nx' R';intro ls b2 st2 q1 q2 σ2 tm2 h2 nx2 R2;exact(ihn ls b2 st2 q1 q2 σ2 tm2 h2 nx2 R2).step (OF rfl rfl) (aB _)
    obtain⟨ls,h1,st',h2,_,h3⟩:=yr e;obtain⟨σ',R',F'⟩:=h3 σ tm h nx R;exact(head _ ls b st' h1 h2 σ' tm h nx R').Aa hs (aB _) F'
   ·rename_i x k;exact(ih _ _ _ _ e (((RO.tail hh).push _).push _) σ tm h nx R).step (Wv rfl rfl) (aB _)
   ·rename_i l k;obtain⟨k1,h1,e⟩:=af e;exact(ih _ _ _ _ e ((RO.tail hh).trim (JY h1)) σ tm h nx R).step (Wq rfl rfl h1) (aB _)
   ·rename_i l ops d k;obtain⟨st1,e,hfz⟩:=ZS e;obtain⟨hh2,R2,S2⟩:=hfz σ tm h nx (.code (.region l ops d)::k) R;refine Ends.step ?_ S2 (aB _);replace R:=R2;clear S2 hfz R2
    revert hh2 R
    intro h R;cases d with
    |true=>obtain⟨hs,e⟩:=aT e;obtain⟨q,st',g1,g2⟩:=Y8 OK hmix PT (k:=k) (by rw[hn];exact hs) e;exact Ends.Rx g1 (g2 σ tm h nx R) λg1 σ' tm' h' nx' R'=>ih _ _ _ _ g1 (RO.tail hh) σ' tm' h' nx' R'
    |false=>rw[<-hn] at e;obtain⟨q,st',g1,g2⟩:=Cn OK PT ops.toList 0 (λi o ho=>by rw[fg,<-kB];exact ho) _ _ _ e;have G:=g2 σ tm h nx R;have a1:=CW (P:=P) (m:=bL c [] tm (.code (.region l ops false)::k) h nx) rfl rfl;rw[(show List.range ops.size=List.range' 0 ops.toList.length from by rw[List.range_eq_range'];simp)] at a1;refine Ends.Rx g1 (G.step a1 (aB _) (NX.refl _ _)) λg1 σ' tm' h' nx' R'=>?_;exact(ih _ _ _ _ g1 (RO.tail hh) σ' tm' h' nx' R').step (CX rfl rfl) (aB _)
   ·cases e
   ·cases e
end
end
section
variable[QF]
variable{β:Type}
omit [QF] in
mutual
theorem J7{st:St}:∀(vt:VT)(sv:SV)(K:List bo->Option β)(b:β),yz st vt sv K=some b->
 ∃ls,K ls=some b/\(∀σ tm h nx v,aM σ st tm h nx->DV σ sv v->iQ ls)/\∀rest,∃pv sv',lu vt (ls++rest)=some (pv,rest)/\rB vt (ls++rest)=some (sv',rest)/\
  ∀(σ:Nm)(tm:Tr Value)(h:Heap)(nx:Nat)(v:Value),aM σ st tm h nx->DV σ sv v->kY h v pv:=by
 intro vt sv K b e;unfold yz at e;have one:∀{x:Value}{ls:List bo},(aY x/\bB [x]=true)->ls=[.v x]->iQ ls:=by intro x ls hx e y hy;subst e;simp at hy;subst hy;exact hx
 split at e
 ·obtain⟨e1,f⟩:=aT e;have:=qw e1;subst this;exact⟨_,f,λσ tm h nx v R d x hx=>(by simp at hx),λrest=>⟨_,_,rfl,rfl,λσ tm h nx v R d=>by cases d;exact aY.gives (.int _ _) h⟩⟩
 ·exact⟨_,e,λσ tm h nx v R d x hx=>(by simp at hx),λrest=>⟨_,_,rfl,rfl,λσ tm h nx v R d=>by cases d;exact aY.gives (.bool _) h⟩⟩
 ·exact⟨_,e,λσ tm h nx v R d x hx=>(by simp at hx),λrest=>⟨_,_,rfl,rfl,λσ tm h nx v R d=>by cases d;exact aY.gives (.str _) h⟩⟩
 ·refine⟨_,e,λσ tm h nx v R d=>?_,λrest=>⟨_,_,rfl,rfl,λσ tm h nx v R d=>?_⟩⟩
  ·cases d with
   |v p q=>exact one ⟨p,q⟩ rfl
   |im=>exact one (fq ⟨(λx h=>by cases h),rfl⟩) rfl
  ·cases d with
   |v p q=>exact p.gives h
   |im=>exact yB (aY.gives (fq ⟨(λx h=>by cases h),rfl⟩).1 h) λρ y r=>yR r
 ·refine⟨_,e,λσ tm h nx v R d=>one (fq ⟨(λx h=>by cases h),rfl⟩) rfl,λrest=>⟨_,_,rfl,rfl,λσ tm h nx v R d=>?_⟩⟩;cases d;exact yB (aY.gives (fq ⟨(λx h=>by cases h),rfl⟩).1 h) λρ y r=>yR r
 ·exact⟨_,e,λσ tm h nx v R d=>one ⟨.nilIface,rfl⟩ rfl,λrest=>⟨_,_,rfl,rfl,λσ tm h nx v R d=>by cases d;exact aY.gives .nilIface h⟩⟩
 ·replace e:=af e;obtain⟨u,hu,f⟩:=e;exact⟨_,f,λσ tm h nx v R d=>one (tY R _ _ _ _ hu d).2 rfl,λrest=>⟨_,_,rfl,rfl,λσ tm h nx v R d=>(tY R _ _ _ _ hu d).1⟩⟩
 ·replace e:=af e;obtain⟨u,hu,f⟩:=e;exact⟨_,f,λσ tm h nx v R d=>one (tY R _ _ _ _ hu d).2 rfl,λrest=>⟨_,_,rfl,rfl,λσ tm h nx v R d=>(tY R _ _ _ _ hu d).1⟩⟩
 ·exact⟨_,e,λσ tm h nx v R d x hx=>(by simp at hx),λrest=>⟨_,_,rfl,rfl,λσ tm h nx v R d=>by cases d;exact aY.gives (.lit (λx h=>by cases h) rfl) h⟩⟩
 ·exact⟨_,e,λσ tm h nx v R d x hx=>(by simp at hx),λrest=>⟨_,_,rfl,rfl,λσ tm h nx v R d=>by cases d;exact aY.gives (.lit (λx h=>by cases h) rfl) h⟩⟩
 ·exact⟨_,e,λσ tm h nx v R d x hx=>(by simp at hx),λrest=>⟨_,_,rfl,rfl,λσ tm h nx v R d=>by cases d with|v p q=>exact p.gives h⟩⟩
 ·rename_i ts l;obtain⟨ls,h1,h2,h3⟩:=we ts l K b e;refine⟨ls,h1,λσ tm h nx v R d=>?_,λrest=>?_⟩
  ·cases d with
   |agg g=>exact h2 σ tm h nx _ R g
  ·obtain⟨pvs,svs,p1,p2,p3⟩:=h3 rest;refine⟨.agg ⟨pvs⟩,.agg svs,by unfold lu;rw[p1];rfl,by unfold rB;rw[p2];rfl,λσ tm h nx v R d=>?_⟩;cases d with
   |agg g=>
    intro ρ w x H r;cases r with
    |agg r=>exact .agg (p3 σ tm h nx _ R g ρ w _ H r)
 ·rename_i ts l;obtain⟨ls,h1,h2,h3⟩:=we ts l K b e;refine⟨ls,h1,λσ tm h nx v R d=>?_,λrest=>?_⟩
  ·cases d with
   |aH g=>exact h2 σ tm h nx _ R g
  ·obtain⟨pvs,svs,p1,p2,p3⟩:=h3 rest;refine⟨.tuple ⟨pvs⟩,.aH svs,by unfold lu;rw[p1];rfl,by unfold rB;rw[p2];rfl,λσ tm h nx v R d=>?_⟩;cases d with
   |aH g=>
    intro ρ w x H r;cases r with
    |tuple r=>exact .aH (p3 σ tm h nx _ R g ρ w _ H r)
 ·rename_i g0 ts g0' l;obtain⟨e1,f⟩:=aT e;have:=bJ e1;subst this;obtain⟨e2,f⟩:=aT f;have e3:=cT e2;obtain⟨ls,h1,h2,h3⟩:=we ts l K b f;refine⟨ls,h1,λσ tm h nx v R d=>?_,λrest=>?_⟩
  ·cases d with
   |fn g=>exact h2 σ tm h nx _ R g
  ·obtain⟨pvs,svs,p1,p2,p3⟩:=h3 rest;refine⟨.func (.func g0) #[] ⟨pvs⟩,.fn g0 svs,by unfold lu;rw[e2,ay,p1];rfl,by unfold rB;rw[e2,ay,p2];rfl,λσ tm h nx v R d=>?_⟩;cases d with
   |fn g=>
    intro ρ w x H r;rw[Ey e3] at r;cases r with
    |func hf r1 r2=>rename_i xs' ys';cases hf;refine .fn ?_ (p3 σ tm h nx _ R g ρ w _ H r2);generalize xs'.toList=q at r1⊢;cases r1;exact .nil
 ·rename_i ts cs;obtain⟨e1,f⟩:=aT e;obtain⟨ls,h1,h2,h3⟩:=BG ts cs K b f;refine⟨ls,h1,λσ tm h nx v R d=>?_,λrest=>?_⟩
  ·cases d with
   |lp p=>exact h2 p
  ·refine⟨og cs,.lp cs,by unfold lu;rw[e1,h3];rfl,by unfold rB;rw[e1,h3];rfl,λσ tm h nx v R d=>?_⟩;cases d with
   |lp p=>exact aY.gives (.lit p.1 p.2) h
 ·rename_i ts id off;replace e:=af e;obtain⟨so,hso,f⟩:=e;split at f
  ·rename_i c t;obtain⟨e1,f1⟩:=aT f;rw[bg] at e1;have e0:=cI e1.1;obtain⟨ls,h1,h2,h3⟩:=we ts (c.drop off) K b f1;refine⟨ls,h1,λσ tm h nx v R d=>?_,λrest=>?_⟩
   ·obtain⟨o,m,vs,g1,g2,g3⟩:=R.obj _ _ hso;exact h2 σ tm h nx _ R (g3.drop off)
   ·obtain⟨pvs,svs,p1,p2,p3⟩:=h3 rest;refine⟨og pvs,.lp pvs,by unfold lu;rw[e1.2,p1];rfl,by unfold rB;rw[e1.2,p1];rfl,λσ tm h nx v R d=>?_⟩;obtain⟨o,m,vs,g1,g2,g3⟩:=R.obj _ _ hso;have hl:=g3.length;cases d with
    |ptr g=>
     rw[g1] at g;cases g;intro ρ w x H r;cases r with
     |ptr hL=>
      rename_i L;obtain⟨L',l1,cs,fz,hb,_,hc⟩:=H.obj _ _ g2;rw[hL] at l1;cases l1;have q:=hc.part (off:=off) (n:=vs.length -off) (by omega);rw[gh (by simp)] at q;have k:=p3 σ tm h nx _ R (g3.drop off) ρ w _ H q;refine .sA k (λi y hy=>?_) rfl;have hw:gT ρ h L.block:=⟨_,_,L,g2,hL,rfl⟩;unfold fw;rw[ar hw,qR hb];rw[qq] at hy;split at hy
      ·rw[List.getElem?_drop] at hy;rw[<-hy];simp
      ·cases hy
  ·cases f
 ·cases e
theorem we{st:St}:∀(vts:List VT)(svs:List SV)(K:List bo->Option β)(b:β),rY st vts svs K=some b->
 ∃ls,K ls=some b/\(∀σ tm h nx vs,aM σ st tm h nx->bU σ svs vs->iQ ls)/\∀rest,∃pvs svs',fk vts (ls++rest)=some (pvs,rest)/\rC vts (ls++rest)=some (svs',rest)/\
  ∀(σ:Nm)(tm:Tr Value)(h:Heap)(nx:Nat)(vs:List Value),aM σ st tm h nx->bU σ svs vs->∀(ρ:Ren)(w:World)(xs:List Value),bh ρ h w->bk ρ vs xs->aP (fw ρ h w) pvs xs:=by
 intro vts svs K b e;unfold rY at e;split at e
 ·exact⟨_,e,λσ tm h nx v R d x hx=>(by simp at hx),λrest=>⟨_,_,rfl,rfl,λσ tm h nx vs R d ρ w xs H r=>by cases d;cases r;exact .nil⟩⟩
 ·rename_i t ts x xs;obtain⟨l1,h1,h2,h3⟩:=J7 t x _ b e;obtain⟨l2,g1,g2,g3⟩:=we ts xs _ b h1;refine⟨l1++l2,g1,λσ tm h nx vs R d y hy=>?_,λrest=>?_⟩
  ·cases d with
   |cons a d=>
    rcases eM.1 hy with hy|hy
    ·exact h2 σ tm h nx _ R a y hy
    ·exact g2 σ tm h nx _ R d y hy
  ·obtain⟨p1,s1,a1,a2,a3⟩:=h3 (l2++rest);obtain⟨p2,s2,b1,b2,b3⟩:=g3 rest;refine⟨p1::p2,s1::s2,?_,?_,λσ tm h nx vs R d ρ w ys H r=>?_⟩
   ·rw[dY];unfold fk;rw[a1];show ob (fk ts (l2++rest)) _=_;rw[b1];rfl
   ·rw[dY];unfold rC;rw[a2];show ob (rC ts (l2++rest)) _=_;rw[b2];rfl
   ·cases d with
    |cons a d=>
     cases r with
     |cons r1 r2=>exact .cons (a3 σ tm h nx _ R a ρ w _ H r1) (b3 σ tm h nx _ R d ρ w _ H r2)
 ·cases e
end
end
section
variable[QF]
variable{β:Type}
def LK.ty:LK->Type
 | .i=>Int
 | .b=>Bool
 | .s=>ByteArray
 | .v=>Value
 | .c=>List Value
 | .n=>Nat
def cM:List LK->Type
 |[]=>Unit
 |[k]=>k.ty
 |k::l::ks=>k.ty×cM (l::ks)
def Ju:(k:LK)->bo->Option k.ty
 | .i,.i x=>some x
 | .b,.b x=>some x
 | .s,.s x=>some x
 | .v,.v x=>some x
 | .c,.c x=>some x
 | .n,.n x=>some x
 |_,_=>none
def xe:(k:LK)->k.ty->bo
 | .i,x=>.i x
 | .b,x=>.b x
 | .s,x=>.s x
 | .v,x=>.v x
 | .c,x=>.c x
 | .n,x=>.n x
def dec:(ks:List LK)->List bo->Option (cM ks)
 |[],[]=>some ()
 |[k],[l]=>Ju k l
 |k::l::ks,x::xs=>ob (Ju k x) λa=>ob (dec (l::ks) xs) λb=>some (a,b)
 |_,_=>none
def jW:(ks:List LK)->cM ks->List bo
 |[],_=>[]
 |[k],x=>[xe k x]
 |k::l::ks,x=>xe k x.1 ::jW (l::ks) x.2
omit [QF] in
theorem QC:∀(k:LK)(l:bo)(x:k.ty),Ju k l=some x->xe k x=l:=by intro k l x e;cases k<;>cases l<;>first|cases e;rfl|cases e
omit [QF] in
theorem vP:∀(ks:List LK)(ls:List bo)(x:cM ks),dec ks ls=some x->jW ks x=ls
 |[],[],x,e=>rfl
 |[],_::_,x,e=>by cases e
 |[k],[l],x,e=>by have:=QC k l x e;show[xe k x]=[l];rw[this]
 |[k],[],x,e=>by cases e
 |[k],_::_::_,x,e=>by cases e
 |k::l::ks,[],x,e=>by cases e
 |k::l::ks,y::ys,x,e=>by obtain⟨a,h1,e⟩:=af e;obtain⟨b,h2,e⟩:=af e;cases e;show xe k a::jW (l::ks) b=y::ys;rw[QC k y a h1,vP (l::ks) ys b h2]
omit [QF] in
theorem iQ.nil:iQ []:=λx hx=>by cases hx
omit [QF] in
theorem J3:∀(vts:List VT)(ls r1:List bo)(pvs:List Value),qM vts=true->iQ ls->fk vts ls=some (pvs,r1)->bO pvs/\iQ r1
 |[],ls,_,pvs,_,h,e1=>by cases e1;exact⟨⟨(λv hv=>by cases hv),rfl⟩,h⟩
 |t::ts,ls,_,pvs,ht,h,e1=>by
  obtain⟨⟨a,b⟩,h1,e1⟩:=af e1;obtain⟨⟨a',b'⟩,h1',e1⟩:=af e1;cases e1;have one:(aY a/\bB [a]=true)/\iQ b/\qM ts=true:=by
   cases t with
   |i k=>
    cases ls with
    |nil=>cases h1
    |cons l ls=>cases l<;>first|(cases h1;exact⟨⟨.int _ _,rfl⟩,λx hx=>h x (gL _ hx),ht⟩)|cases h1
   |b=>
    cases ls with
    |nil=>cases h1
    |cons l ls=>cases l<;>first|(cases h1;exact⟨⟨.bool _,rfl⟩,λx hx=>h x (gL _ hx),ht⟩)|cases h1
   |s=>
    cases ls with
    |nil=>cases h1
    |cons l ls=>cases l<;>first|(cases h1;exact⟨⟨.str _,rfl⟩,λx hx=>h x (gL _ hx),ht⟩)|cases h1
   |v=>
    cases ls with
    |nil=>cases h1
    |cons l ls=>cases l<;>first|(cases h1;exact⟨h _ mC,λx hx=>h x (gL _ hx),ht⟩)|cases h1
   |_=>cases ht
  obtain⟨o1,o2,o3⟩:=one;obtain⟨k1,k2⟩:=J3 ts b _ _ o3 o2 h1';refine⟨bO.mm λx hx=>?_,k2⟩;rcases cj.1 hx with rfl|hx
  ·grind
  ·exact k1.mem x hx
omit [QF] in
mutual
theorem JA:∀(vt:VT)(ls r1 r2:List bo)(pv:Value)(sv:SV),iQ ls->lu vt ls=some (pv,r1)->rB vt ls=some (sv,r2)->r1=r2/\(∀σ,DV σ sv pv)/\iQ r1
 | .i k,.i n::ls,_,_,pv,sv,h,e1,e2=>by cases e1;cases e2;exact⟨rfl,λσ=>.i _ _,λx hx=>h x (gL _ hx)⟩
 | .b,.b n::ls,_,_,pv,sv,h,e1,e2=>by cases e1;cases e2;exact⟨rfl,λσ=>.b _,λx hx=>h x (gL _ hx)⟩
 | .s,.s n::ls,_,_,pv,sv,h,e1,e2=>by cases e1;cases e2;exact⟨rfl,λσ=>.s _,λx hx=>h x (gL _ hx)⟩
 | .v,.v n::ls,_,_,pv,sv,h,e1,e2=>by cases e1;cases e2;obtain⟨p,q⟩:=h n mC;exact⟨rfl,λσ=>.v p q,λx hx=>h x (gL _ hx)⟩
 | .agg ts,ls,r1,r2,pv,sv,h,e1,e2=>by obtain⟨⟨a,b⟩,h1,e1⟩:=af e1;obtain⟨⟨c,d⟩,h2,e2⟩:=af e2;cases e1;cases e2;obtain⟨g0,g1,g2⟩:=yk ts ls _ _ _ _ h h1 h2;exact⟨g0,λσ=>.agg (g1 σ),g2⟩
 | .aH ts,ls,r1,r2,pv,sv,h,e1,e2=>by obtain⟨⟨a,b⟩,h1,e1⟩:=af e1;obtain⟨⟨c,d⟩,h2,e2⟩:=af e2;cases e1;cases e2;obtain⟨g0,g1,g2⟩:=yk ts ls _ _ _ _ h h1 h2;exact⟨g0,λσ=>.aH (g1 σ),g2⟩
 | .fn g ts,ls,r1,r2,pv,sv,h,e1,e2=>by obtain⟨hg,e1⟩:=aT e1;obtain⟨_,e2⟩:=aT e2;obtain⟨⟨a,b⟩,h1,e1⟩:=af e1;obtain⟨⟨c,d⟩,h2,e2⟩:=af e2;cases e1;cases e2;obtain⟨g0,g1,g2⟩:=yk ts ls _ _ _ _ h h1 h2;exact⟨g0,λσ=>(by rw[<-Ey (cT hg)];exact .fn (g1 σ)),g2⟩
 | .lp ts,ls,r1,r2,pv,sv,h,e1,e2=>by obtain⟨q,e1⟩:=aT e1;obtain⟨_,e2⟩:=aT e2;obtain⟨⟨a,b⟩,h1,e1⟩:=af e1;obtain⟨⟨c,d⟩,h2,e2⟩:=af e2;cases e1;cases e2;rw[h1] at h2;cases h2;obtain⟨k1,k2⟩:=J3 ts ls _ _ q h h1;exact⟨rfl,λσ=>.lp k1,k2⟩
 | .em b,ls,_,_,pv,sv,h,e1,e2=>by cases e1;cases e2;exact⟨rfl,λσ=>.em b,h⟩
 | .nf,ls,_,_,pv,sv,h,e1,e2=>by cases e1;cases e2;exact⟨rfl,λσ=>.v .nilFunc rfl,h⟩
theorem yk:∀(vts:List VT)(ls r1 r2:List bo)(pvs:List Value)(svs:List SV),iQ ls->fk vts ls=some (pvs,r1)->rC vts ls=some (svs,r2)->r1=r2/\(∀σ,bU σ svs pvs)/\iQ r1
 |[],ls,_,_,pvs,svs,h,e1,e2=>by cases e1;cases e2;exact⟨rfl,λσ=>.nil,h⟩
 |t::ts,ls,_,_,pvs,svs,h,e1,e2=>by obtain⟨⟨a,b⟩,h1,e1⟩:=af e1;obtain⟨⟨a',b'⟩,h1',e1⟩:=af e1;obtain⟨⟨c,d⟩,h2,e2⟩:=af e2;obtain⟨⟨c',d'⟩,h2',e2⟩:=af e2;cases e1;cases e2;obtain⟨g0,g1,g2⟩:=JA t ls _ _ _ _ h h1 h2;subst g0;obtain⟨k0,k1,k2⟩:=yk ts b _ _ _ _ g2 h1' h2';exact⟨k0,λσ=>.cons (g1 σ) (k1 σ),k2⟩
end
mutual
def BM:VT->Bool
 | .aH _=>false
 | .agg l=>si l
 | .fn _ l=>si l
 |_=>true
def si:List VT->Bool
 |[]=>true
 |x::xs=>BM x&&si xs
end
omit [QF] in
mutual
theorem Y9:∀(vt:VT)(ls r1:List bo)(pv:Value),BM vt=true->iQ ls->lu vt ls=some (pv,r1)->aY pv/\iQ r1
 | .i k,.i n::ls,_,pv,_,h,e1=>by cases e1;exact⟨.int _ _,λx hx=>h x (gL _ hx)⟩
 | .b,.b n::ls,_,pv,_,h,e1=>by cases e1;exact⟨.bool _,λx hx=>h x (gL _ hx)⟩
 | .s,.s n::ls,_,pv,_,h,e1=>by cases e1;exact⟨.str _,λx hx=>h x (gL _ hx)⟩
 | .v,.v n::ls,_,pv,_,h,e1=>by cases e1;exact⟨(h n mC).1,λx hx=>h x (gL _ hx)⟩
 | .agg ts,ls,r1,pv,ht,h,e1=>by obtain⟨⟨a,b⟩,h1,e1⟩:=af e1;cases e1;obtain⟨g1,g2⟩:=Be ts ls _ _ (by unfold BM at ht;exact ht) h h1;exact⟨.agg g1,g2⟩
 | .fn g ts,ls,r1,pv,ht,h,e1=>by obtain⟨_,e1⟩:=aT e1;obtain⟨⟨a,b⟩,h1,e1⟩:=af e1;cases e1;obtain⟨g1,g2⟩:=Be ts ls _ _ (by unfold BM at ht;exact ht) h h1;exact⟨.fn (λx h=>by cases h) g1,g2⟩
 | .lp ts,ls,r1,pv,ht,h,e1=>by obtain⟨q,e1⟩:=aT e1;obtain⟨⟨a,b⟩,h1,e1⟩:=af e1;cases e1;obtain⟨k1,k2⟩:=J3 ts ls _ _ q h h1;exact⟨.lit k1.1 k1.2,k2⟩
 | .em b,ls,_,pv,_,h,e1=>by cases e1;exact⟨.lit (λx hx=>by cases hx) rfl,h⟩
 | .nf,ls,_,pv,_,h,e1=>by cases e1;exact⟨.nilFunc,h⟩
 | .aH ts,ls,_,pv,ht,_,_=>by unfold BM at ht;cases ht
theorem Be:∀(vts:List VT)(ls r1:List bo)(pvs:List Value),si vts=true->iQ ls->fk vts ls=some (pvs,r1)->(∀v∈pvs,aY v)/\iQ r1
 |[],ls,_,pvs,_,h,e1=>by cases e1;exact⟨(λv hv=>by cases hv),h⟩
 |t::ts,ls,_,pvs,ht,h,e1=>by obtain⟨⟨a,b⟩,h1,e1⟩:=af e1;obtain⟨⟨a',b'⟩,h1',e1⟩:=af e1;cases e1;unfold si at ht;rw[bg] at ht;obtain⟨g1,g2⟩:=Y9 t ls _ _ ht.1 h h1;obtain⟨k1,k2⟩:=Be ts b _ _ ht.2 g2 h1';simp_all
end
def dI(P:Program)(g:FuncId)(avt:List VT)(rvt:VT)(Sh:Fn (VT.fo avt) (Option (cM rvt.ks))):Prop:=
 ∀ls r,jq (VT.fo avt) Sh ls=some r->iQ ls->∀us,fk avt ls=some (us,[])->iQ (jW rvt.ks r)/\∃pv,lu rvt (jW rvt.ks r)=some (pv,[])/\mI P g us pv
def mw:List SV->Nat->Tr SV->Tr SV
 |[],_,t=>t
 |v::vs,n,t=>mw vs (n+1) (t.set n v)
omit [QF] in
theorem C4{σ:Nm}:∀{svs:List SV}{vs:List Value},bU σ svs vs->∀(n:Nat)(T:Tr SV)(tm:Tr Value),(∀t sv,T.get t=some sv->∃v,tm.get t=some v/\DV σ sv v)->
 ∀t sv,(mw svs n T).get t=some sv->∃v,(cW vs n tm).get t=some v/\DV σ sv v
 |_,_,.nil,n,T,tm,H=>H
 |_,_,.cons a d,n,T,tm,H=>C4 d (n+1) _ _ λt sv h=>by
  rw[Tr.bD] at h⊢
  grind
omit [QF] in
theorem Jz:∀(vts:List VT)(ls r1:List bo)(pvs:List Value),fk vts ls=some (pvs,r1)->pvs.length=vts.length
 |[],ls,_,pvs,e1=>by cases e1;rfl
 |t::ts,ls,_,pvs,e1=>by obtain⟨⟨a,b⟩,h1,e1⟩:=af e1;obtain⟨⟨a',b'⟩,h1',e1⟩:=af e1;cases e1;simp[Jz ts b _ _ h1']
noncomputable def P4(C:Ctx β)(N:Nat)(avt:List VT)(body:Code)(ls:List bo):Option β:=
 ob (rC avt ls) λq=>dn C N [] [.code body] ⟨mw q.1 0 .nil,.nil,0⟩
theorem ZL{P:Program}{avt:List VT}{rvt:VT}{C:Ctx (cM rvt.ks)}(OK:ea P C.X)(hmix:P.follows .mixedOrders=true)(PT:oJ P C.pt){g:FuncId}{fn:Func}{body:Code}(hF:C.X.F.get g=some fn)(hb:fn.body=some body)
 (hrs:fn.results.toList=C.rs) (hn:C.n=avt.length+(fn.ntmps -avt.length)) (hk:C.gQ=λsv st=>yz st rvt sv (dec rvt.ks)) (hpn:C.mY=λ_ _=>none) (hdf:C.df=false) (ht:si avt=true) {N:Nat} {Sh:Fn (VT.fo avt) (Option (cM rvt.ks))}
 (hS:Sh=lq (VT.fo avt) (P4 C N avt body)):dI P g avt rvt Sh:=by
 intro ls r e lo us hu;subst hS;have e:=nR _ _ _ _ e;obtain⟨⟨svs,rest⟩,h1,e⟩:=af e;obtain⟨q0,q1,_⟩:=yk avt ls _ _ _ _ lo hu h1;obtain⟨pu,_⟩:=Be avt ls _ _ ht lo hu;have he:jn C.X.F g us .normal=some {fn:=g,n:=us.length+(fn.ntmps -us.length),tmps:=cW us 0 .nil,todo:=[.code body],defers:=[],mode:=.run,kind:=.normal,roundOf:=none}:=by simp[jn,ob,hF,hb]
 have R:aM (λ_=>none) ⟨mw svs 0 .nil,.nil,0⟩ (cW us 0 .nil) .nil 0:=
  ⟨C4 (q1 _) 0 .nil .nil (λt sv h=>by rw[Tr.get_nil] at h;cases h),λid so h=>(by have h:(Tr.nil:Tr SO).get id=some so:=h;rw[Tr.get_nil] at h;cases h),
   λid id' so so' o n n' h=>(by simp),λid o n h=>(by grind),λid h=>rfl⟩
 rcases(yh (c:={fn:=g,n:=us.length+(fn.ntmps -us.length),tmps:=.nil,todo:=[],defers:=[],mode:=.run,kind:=.normal,roundOf:=none}) OK hmix PT ⟨fn,hF,hrs⟩ (by rw[hn,(Jz avt ls _ _ hu)]) rfl N [] [.code body] _ r e (λr hr=>by cases hr) _ _ _ _ R) with⟨σ,st,sv,tm',td',h',nx',s,l,R',fv,kr,_⟩|⟨σ,st,sv,v,t,h',nx',s,l,R',dv,kr,_⟩
 case inr=>rw[hpn] at kr;cases kr
 obtain⟨v,d,dv⟩:=fv.done hdf rfl rfl;rw[hk] at kr;obtain⟨ls',f1,f2,f3⟩:=J7 _ _ _ _ kr;obtain⟨pv,sv',g1,g2,g3⟩:=f3 [];rw[eH] at g1;rw[(vP _ _ _ f1)];exact⟨f2 σ _ _ _ v R' dv,pv,g1,(LF pu (B8 OK he s d) (g3 σ _ _ _ v R' dv))⟩
end
section
variable[QF]
variable{β:Type}
mutual
def qh:VT->Bool
 | .i _=>true
 | .b=>true
 | .s=>true
 | .agg l=>Cm l
 | .aH l=>Cm l
 |_=>false
def Cm:List VT->Bool
 |[]=>true
 |x::xs=>qh x&&Cm xs
end
def Plain(pv:Value):Prop:=∀(ρ ρ':Ren)(x:Value),aF ρ pv x->aF ρ' pv x
omit [QF] in
theorem bk.plain{ρ ρ':Ren}:∀{vs xs:List Value},(∀v∈vs,Plain v)->bk ρ vs xs->bk ρ' vs xs
 |_,_,_,.nil=>.nil
 |_,_,h,.cons a b=>.cons (h _ mC _ _ _ a) (bk.plain (λv hv=>h v (gL _ hv)) b)
omit [QF] in
mutual
theorem Vt:∀(vt:VT)(ls r1:List bo)(pv:Value),qh vt=true->lu vt ls=some (pv,r1)->Plain pv
 | .i k,.i n::ls,_,pv,_,e1=>by cases e1;intro ρ ρ' x h;cases h;exact .int _ _
 | .b,.b n::ls,_,pv,_,e1=>by cases e1;intro ρ ρ' x h;cases h;exact .bool _
 | .s,.s n::ls,_,pv,_,e1=>by cases e1;intro ρ ρ' x h;cases h;exact .str _
 | .agg ts,ls,r1,pv,ht,e1=>by
  obtain⟨⟨a,b⟩,h1,e1⟩:=af e1;cases e1;intro ρ ρ' x h;cases h with
  |agg r=>exact .agg (r.plain (M0 ts ls _ _ (by unfold qh at ht;exact ht) h1))
 | .aH ts,ls,r1,pv,ht,e1=>by
  obtain⟨⟨a,b⟩,h1,e1⟩:=af e1;cases e1;intro ρ ρ' x h;cases h with
  |tuple r=>exact .tuple (r.plain (M0 ts ls _ _ (by unfold qh at ht;exact ht) h1))
 | .v,ls,r1,pv,ht,_=>by unfold qh at ht;cases ht
 | .fn _ _,ls,r1,pv,ht,_=>by unfold qh at ht;cases ht
 | .lp _,ls,r1,pv,ht,_=>by unfold qh at ht;cases ht
 | .em _,ls,r1,pv,ht,_=>by unfold qh at ht;cases ht
 | .nf,ls,r1,pv,ht,_=>by unfold qh at ht;cases ht
theorem M0:∀(vts:List VT)(ls r1:List bo)(pvs:List Value),Cm vts=true->fk vts ls=some (pvs,r1)->∀v∈pvs,Plain v
 |[],ls,_,pvs,_,e1=>by cases e1;simp
 |t::ts,ls,_,pvs,ht,e1=>by obtain⟨⟨a,b⟩,h1,e1⟩:=af e1;obtain⟨⟨a',b'⟩,h1',e1⟩:=af e1;cases e1;unfold Cm at ht;rw[bg] at ht;have g1:=Vt t ls _ _ ht.1 h1;have g2:=M0 ts b _ _ ht.2 h1';simp_all
end
variable{P:Program} {g:FuncId} {h:Heap} {nx:Nat} {pv:Value} {us vs:List Value}
omit [QF] in
theorem borrow(R:mI P g us pv)(hp:Plain pv)
 (G:∀(ρ:Ren)(w:World)(xs:List Value),bh ρ h w->bk ρ vs xs->aP (fw ρ h w) us xs):jl P g vs h nx pv h nx:=by
 intro ρ args' cs w A H N
 let ρ0:Ren:=⟨λ_=>none,fw ρ h w⟩
 obtain⟨ρ',fr,w',fn,v',a1,a2,a3,a4,a5,a6,a7,a8,M⟩:=R .nil 0 ρ0 args' cs w ((G ρ w _ H A).to) (⟨λo ob ho=>(by rw[Tr.get_nil] at ho;cases ho),λo o' L L' ob ob' h1=>(by simp),xS H,λb i v hv o ob L ho=>(by simp)⟩) (λ_ _ _=>rfl);have iC:=λb hb=>M.block b hb sk;refine⟨ρ,fr,w',fn,v',a1,a2,a3,a4,a5,a6,hp _ _ _ a7,⟨?_,H.inj,?_,H.free⟩,⟨M.os,M.tape,M.output,M.size,λb hb _=>iC b hb,λb _ ho=>ho,aB _,λ_ _=>rfl,λ_ _ _ h=>h,λb i u hu=>.inl hu⟩⟩
 ·intro o ob ho;obtain⟨L,l1,l2⟩:=H.obj o ob ho;exact⟨L,l1,l2.block (iC _ l2.lt)⟩
 ·intro b i v hv;rw[oe (iC b (H.yL hv))];exact H.lit b i v hv
omit [QF] in
theorem ZU(R:mI P g us pv){h1 h2:Heap}(s1:∀o ob,h1.get o=some ob->h.get o=some ob)(s2:∀o ob,h2.get o=some ob->h.get o=some ob/\h1.get o=none)
 (G:∀(ρ:Ren)(w:World)(xs:List Value),bh ρ h1 w->bk ρ vs xs->aP (fw ρ h1 w) us xs):jl P g vs h nx pv h2 nx:=by
 intro ρ args' cs w A H N;have H1:=H.sub s1
 let ρ2:Ren:=⟨ρ.cq,fw ρ h1 w⟩
 have E:Ext ρ ρ2:=⟨λ_ _ h=>h,vC H1⟩;have um:∀b,gT ρ h2 b->gT ρ h b:=λb ⟨o,ob,L,x,y,z⟩=>⟨o,ob,L,(s2 _ _ x).1,y,z⟩;have H2:bh ρ2 h2 w:=by
  refine⟨λo ob ho=>?_,λo o' L L' ob ob' a b=>H.inj o o' L L' ob ob' (s2 _ _ a).1 (s2 _ _ b).1,xS H1,λb i v hv o ob L ho hL=>?_⟩
  ·obtain⟨L,l1,l2⟩:=H.obj o ob (s2 _ _ ho).1;exact⟨L,l1,l2.mono E⟩
  ·rcases tH b i v hv with q|⟨o1,ob1,L1,x,y,z⟩
   ·exact H.free b i v q o ob L (s2 _ _ ho).1 hL
   ·intro e;have:=H.inj o o1 L L1 ob ob1 (s2 _ _ ho).1 (s1 _ _ x) hL y (by grind);simp_all
 obtain⟨ρ',fr,w',fn,v',a1,a2,a3,a4,a5,a6,a7,a8,M⟩:=R h2 nx ρ2 args' cs w ((G ρ w _ H1 A).to) H2 N;refine⟨ρ',fr,w',fn,v',a1,a2,a3,a4,a5,a6,a7,a8,⟨M.os,M.tape,M.output,M.size,λb hb ho=>M.block b hb λq=>ho (um b q),λb hb q=>um b (M.owned b hb q),M.le,M.cq,λb i v hv=>M.lit b i v (E.lit b i v hv),λb i v hv=>?_⟩⟩;rcases M.eU b i v hv with q|q|q
 ·rcases tH b i v q with q|q
  ·grind
  ·exact .inr (.inr ((show∀b,gT ρ h1 b->gT ρ h b fromλb ⟨o,ob,L,x,y,z⟩=>⟨o,ob,L,s1 _ _ x,y,z⟩) b q))
 ·grind
 ·exact .inr (.inr (um b q))
def JF(avt:List VT)(rvt:VT)(Sh:Fn (VT.fo avt) (Option (cM rvt.ks))):dJ β:=λst args K=>
 cond (qh rvt)
  (rY st avt args λls=>ob (jq (VT.fo avt) Sh ls) λr=>ob (rB rvt (jW rvt.ks r)) λq=>K false q.1 st)
  (rY {st with h:=(ml 1000 (SV.ma args) .nil st.h).1 } avt args λls=>ob (jq (VT.fo avt) Sh ls) λr=>ob (rB rvt (jW rvt.ks r)) λq=>K false q.1 {st with h:=(ml 1000 (SV.ma args) .nil st.h).2 })
omit [QF] in
theorem Zg{avt:List VT}{rvt:VT}{Sh:Fn (VT.fo avt) (Option (cM rvt.ks))}(F:dI P g avt rvt Sh):nE P g (JF (β:=β) avt rvt Sh):=by
 intro st args K b e;unfold JF at e;cases hs:qh rvt with
 |true=>rw[hs] at e;obtain⟨ls,h1,h2,h3⟩:=we _ _ _ _ e;obtain⟨r,k1,h1⟩:=af h1;obtain⟨⟨sv,rest⟩,k2,h1⟩:=af h1;refine⟨false,sv,st,h1,rfl,λσ tm h nx vs R d=>?_⟩;obtain⟨us,svs',p1,_,p3⟩:=h3 [];rw[eH] at p1;obtain⟨f1,pv,f2,f3⟩:=F ls r k1 (h2 σ tm h nx vs R d) us p1;obtain⟨_,g2,_⟩:=JA _ _ _ _ _ _ f1 f2 k2;exact⟨σ,pv,h,nx,((borrow f3 (Vt _ _ _ _ hs f2) λρ w xs H r=>p3 σ tm h nx vs R d ρ w xs H r)),aB _,NX.refl _ _,g2 σ,R⟩
 |false=>
  rw[hs] at e;obtain⟨m1,m2⟩:=EX 1000 (SV.ma args) .nil st.h (λid so q=>by rw[Tr.get_nil] at q;cases q) (λid so q=>⟨q,Tr.get_nil _⟩);generalize hA:(ml 1000 (SV.ma args) .nil st.h).1 =A at e m1 m2;generalize hB:(ml 1000 (SV.ma args) .nil st.h).2 =B at e m1 m2;obtain⟨ls,h1,h2,h3⟩:=we _ _ _ _ e;obtain⟨r,k1,h1⟩:=af h1;obtain⟨⟨sv,rest⟩,k2,h1⟩:=af h1;refine⟨false,sv,{st with h:=B},h1,rfl,λσ tm h nx vs R d=>?_⟩
  obtain⟨us,svs',p1,_,p3⟩:=h3 [];rw[eH] at p1;have RA:=R.part (λid so q=>(m1 id so q).1) λid so o n q1 q2=>pQ (sn.2 ⟨id,so,n,q1,q2⟩);have RB:aM σ {st with h:=B} tm (jz h λo=>!il σ A o) nx:=R.part (λid so q=>(m2 id so q).1) λid so o n q1 q2=>pQ (by
   cases hn:il σ A o with
   |false=>rfl
   |true=>obtain⟨id',so',n',x,y⟩:=sn.1 hn;have:=R.inj _ _ _ _ _ _ _ (m2 id so q1).1 (m1 id' so' x).1 q2 y;subst this;rw[(m2 id so q1).2] at x;cases x)
  obtain⟨f1,pv,f2,f3⟩:=F ls r k1 (h2 σ tm _ nx vs RA d) us p1;obtain⟨_,g2,_⟩:=JA _ _ _ _ _ _ f1 f2 k2;refine⟨σ,pv,_,nx,?_,aB _,NX.refl _ _,g2 σ,RB⟩;refine ZU f3 (λo ob q=>(rX q).2) (λo ob q=>?_) (λρ w xs H r=>p3 σ tm _ nx vs RA d ρ w xs H r);obtain⟨x,y⟩:=rX q;refine⟨y,tW ?_⟩;cases hn:il σ A o with
  |false=>rfl
  |true=>grind
end
section
variable[QF]
noncomputable def P6(w:Nat)(X:cJ)(pt:(β:Type)->FuncId->Option (dJ β))(fn:Func)(avt:List VT)(rvt:VT)(lv jv:Nat->Option cZ)(un:Nat->Bool):Fn (VT.fo avt) (Option (cM rvt.ks)):=
 lq (VT.fo avt) (P4 {X:=X,pt:=pt _,n:=avt.length+(fn.ntmps -avt.length),rs:=fn.results.toList,lv:=lv,jv:=jv,un:=un,df:=false,fuel:=w,an:=0,gQ:=λsv st=>yz st rvt sv (dec rvt.ks),mY:=λ_ _=>bM 52} 100000 avt (fn.body.getD .skip))
def mJ(P:Program)(pt:(β:Type)->FuncId->Option (dJ β)):Prop:=∀β,oJ P (pt β)
variable{P:Program} {avt:List VT} {g:FuncId} {pt:(β:Type)->FuncId->Option (dJ β)} {rvt:VT} {Sh:Fn (VT.fo avt) (Option (cM rvt.ks))}
theorem ZM{X:cJ}(OK:ea P X)(hmix:P.follows .mixedOrders=true)(PT:mJ P pt){fn:Func}{lv jv:Nat->Option cZ}{un:Nat->Bool}{w:Nat}
 (hF:X.F.get g=some fn) (hb:fn.body=some (fn.body.getD .skip)) (ht:si avt=true) (hS:Sh=P6 w X pt fn avt rvt lv jv un):dI P g avt rvt Sh:=
 ZL OK hmix (PT _) hF hb rfl rfl rfl rfl rfl ht hS
omit [QF] in
theorem wE:mJ P (λ_ _=>none):=λ_ g e h=>by cases h
mutual
def fits(st:St):VT->SV->Bool
 | .i k,.i k' _=>decide (k=k')
 | .b,.b _=>true
 | .s,.s _=>true
 | .v,.v _=>true
 | .v,.nl=>true
 | .v,.ni=>true
 | .v,.gr _ _=>true
 | .v,.sl _ _ _ _=>true
 | .agg ts,.agg l=>vY st ts l
 | .aH ts,.aH l=>vY st ts l
 | .fn f ts,.fn f' l=>Nat.beq f f'&&vY st ts l
 | .em b,.em b'=>b==b'
 | .nf,.v .nilFunc=>true
 | .lp _,.lp _=>true
 | .lp ts,.ptr id off=>match st.h.get id with
  |some (.cells c _)=>vY st ts (c.drop off)
  |_=>false
 |_,_=>false
def vY(st:St):List VT->List SV->Bool
 |[],[]=>true
 |t::ts,x::xs=>fits st t x&&vY st ts xs
 |_,_=>false
end
def LG(pt:(β:Type)->FuncId->Option (dJ β))(g:FuncId)(avt:List VT)(rvt:VT)(Sh:Fn (VT.fo avt) (Option (cM rvt.ks))):(β:Type)->FuncId->Option (dJ β):=
 λβ f=>cond (Nat.beq f g) (some λst args K=>cond (vY st avt args) (JF avt rvt Sh st args K) (ob (pt β f) λe=>e st args K)) (pt β f)
omit [QF] in
theorem iZ(PT:mJ P pt)(F:dI P g avt rvt Sh):mJ P (LG pt g avt rvt Sh):=by
 intro β f e h;unfold LG at h;cases hb:Nat.beq f g with
 |true=>
  rw[hb] at h;have hg:=bJ hb;subst hg;cases h;intro st args K b k;cases hf:vY st avt args with
  |true=>simp[hf] at k;exact Zg F st args K b k
  |false=>simp[hf] at k;obtain⟨e0,h0,k⟩:=af k;exact PT β f e0 h0 st args K b k
 |false=>rw[hb] at h;exact PT β f e h
omit [QF] in
theorem J5{Sh0:Fn (VT.fo [.v]) (Option (cM (VT.ks .v)))}(F:dI P g [.v] .v Sh0)(Fz:dI P g [.em false] .v (some (ae 0 [])))(Fn:dI P g [.em true] .v (some (ae 0 []))):
 dI P g [.v] .v (λx=>ax x λn=>cond (Nat.beq n 0) (some (ae 0 [])) (Sh0 x)):=by
 intro ls r e lo us hu;have hls:∃x,ls=[.v x]:=by
  cases ls with
  |nil=>cases e
  |cons l ls=>
   cases l with
   |v x=>
    cases ls with
    |nil=>simp
    |cons _ _=>cases hu
   |_=>cases e
 obtain⟨x,rfl⟩:=hls;have e:(ax x λn=>cond (Nat.beq n 0) (some (ae 0 [])) (Sh0 x))=some r:=e;unfold ax at e;split at e
 ·rename_i n p f cs ys hxx;replace e:cond (Nat.beq n 0) (some (ae 0 [])) (jq (VT.fo [.v]) Sh0 [.v (.func (.via n p f true) cs ys)])=some r:=e;cases hn:Nat.beq n 0 with
  |false=>rw[hn] at e;exact F _ r e lo us hu
  |true=>
   have hn:=bJ hn;subst hn;cases e;cases hu;obtain⟨z1,pz,z2,z3⟩:=(Fz [] (ae 0 []) rfl (λx h=>by cases h) [vQ false] rfl);obtain⟨_,pn,n2,n3⟩:=(Fn [] (ae 0 []) rfl (λx h=>by cases h) [vQ true] rfl);cases z2;cases n2;refine⟨z1,_,rfl,λh nx ρ args' ks w A H N=>?_⟩;have key:∃a c,args'.toList=[.slice a 0 c]:=by
    generalize args'.toList=q at A;cases A with
    |cons d t=>
     cases t;cases d with
     |func a _ _=>exact a.elim
     |lit hl=>
      cases hl with
      |gH _ _ _ _=>simp
      |fN=>simp
      |qm=>simp
      |pZ=>simp
   obtain⟨a,c,ha⟩:=key;cases a with
   |none=>exact n3 h nx ρ args' ks w (by rw[ha];exact .cons (.lit .pZ) .nil) H N
   |some a=>exact z3 h nx ρ args' ks w (by rw[ha];exact .cons (.lit .qm) .nil) H N
 grind
end
section
variable[QF]
variable{β:Type}
structure HT where
 n:Nat
 ti:cZ
 an:Nat
 to:cZ
def pq(P:Program)(g:FuncId)(T:HT)(Sh:Fn T.ti.ks (Option (cM T.to.ks))):Prop:=
 ∀ls r st so,jq T.ti.ks Sh ls=some r->iX T.ti ls=some st->iX T.to (jW T.to.ks r)=some so->
  ∀(σ:Nm)(vs:List Value)(h:Heap)(nx:Nat),vs.length=T.n->aM σ st (cW vs 0 .nil) h nx->∃σ' v h' nx',jl P g vs h nx v h' nx'/\nx<=nx'/\aM σ' so (Tr.nil.set 0 v) h' nx'/\hQ T.an nx σ σ'
variable{st:St}
omit [QF] in
theorem KR{t:cZ}{ls:List bo}(e:iX t ls=some st):st.sx=t.sx:=by
 obtain⟨p,h1,e⟩:=af e;obtain⟨q,h2,e⟩:=af e
 grind
variable{P:Program} {args:List Value} {f:FuncId} {h h':Heap} {nx nx':Nat} {v:Value}
omit [QF] in
theorem UN{pv:Value}{hA hB:Heap}(R:jl P f args h nx v h' nx')(s1:∀o ob,hA.get o=some ob->h'.get o=some ob)(s2:∀o ob,hB.get o=some ob->h'.get o=some ob/\hA.get o=none)
 (G:kY hA v pv):jl P f args h nx pv hB nx':=by
 intro ρ args' cs w A H N;obtain⟨ρ',fr,w',fn,v',a1,a2,a3,a4,a5,a6,a7,a8,M⟩:=R ρ args' cs w A H N;have H1:=a8.sub s1
 let ρ2:Ren:=⟨ρ'.cq,fw ρ' hA w'⟩
 have E:Ext ρ' ρ2:=⟨λ_ _ h=>h,vC H1⟩;have H2:bh ρ2 hB w':=by
  refine⟨λo ob ho=>?_,λo o' L L' ob ob' a b=>a8.inj o o' L L' ob ob' (s2 _ _ a).1 (s2 _ _ b).1,xS H1,λb i v hv o ob L ho hL=>?_⟩
  ·obtain⟨L,l1,l2⟩:=a8.obj o ob (s2 _ _ ho).1;exact⟨L,l1,l2.mono E⟩
  ·rcases tH b i v hv with q|⟨o1,ob1,L1,x,y,z⟩
   ·exact a8.free b i v q o ob L (s2 _ _ ho).1 hL
   ·intro e;have:=a8.inj o o1 L L1 ob ob1 (s2 _ _ ho).1 (s1 _ _ x) hL y (by grind);simp_all
 refine⟨ρ2,fr,w',fn,v',a1,a2,a3,a4,a5,a6,(G ρ' w' v' H1 a7).to,H2,⟨M.os,M.tape,M.output,M.size,M.block,λb hb q=>M.owned b hb ((show∀b,gT ρ' hB b->gT ρ' h' b fromλb ⟨o,ob,L,x,y,z⟩=>⟨o,ob,L,(s2 _ _ x).1,y,z⟩) b q),M.le,M.cq,λb i v hv=>E.lit b i v (M.lit b i v hv),λb i v hv=>?_⟩⟩;rcases tH b i v hv with q|q
 ·exact M.eU b i v q
 ·rcases dg b w.heap.size with hb|hb
  ·exact .inr (.inr (M.owned b hb ((show∀b,gT ρ' hA b->gT ρ' h' b fromλb ⟨o,ob,L,x,y,z⟩=>⟨o,ob,L,s1 _ _ x,y,z⟩) b q)))
  grind
def w8(t:cZ):VT:=match t.cW with
 |(_,y)::_=>y
 |[]=>.b
def Mq(t:VT)(sv:SV)(st:St)(K:SV->St->Option β):Option β:=match t,sv with
 | .v,.gr id E=>ob (st.h.get id) λso=>match so with
  | .grow E' c _=>cond (Nat.beq E E') (K (.v (ae (c.length/E) c)) {st with h:=st.h.del id}) none
  |_=>bM 80
 |_,sv=>K sv st
variable{b:β} {sv:SV} {t:VT} {tm:Tr Value} {σ:Nm}
omit [QF] in
theorem afc{K:SV->St->Option β}(e:Mq t sv st K=some b)(R:aM σ st tm h' nx')(d:DV σ sv v):
 ∃sv2 st2 v2 h2,K sv2 st2=some b/\aM σ st2 tm h2 nx'/\DV σ sv2 v2/\∀(P:Program)(g:FuncId)(vs:List Value)(h:Heap)(nx:Nat),jl P g vs h nx v h' nx'->jl P g vs h nx v2 h2 nx':=by
 unfold Mq at e;split at e
 ·rename_i id E;obtain⟨so,hso,e⟩:=af e;split at e
  case h_2=>cases e
  rename_i E' c t;obtain⟨e1,f⟩:=aT e;have e1:=bJ e1;subst e1
  let A:Tr SO:=Tr.nil.set id (.grow E c t)
  have hA:∀i s,A.get i=some s->i=id/\s=.grow E c t:=λi s q=>by
   rw[Tr.bD] at q;by_cases z:i=id
   ·grind
   ·rw[ai z,Tr.get_nil] at q;cases q
  have hAs:∀i s,A.get i=some s->st.h.get i=some s:=λi s q=>by obtain⟨rfl,rfl⟩:=hA i s q;exact hso
  have hB:∀i s,(st.h.del id).get i=some s->st.h.get i=some s/\i≠id:=λi s q=>by rw[Tr.kK] at q;simp_all
  have RB:aM σ {st with h:=st.h.del id} tm (jz h' λo=>!il σ A o) nx':=R.part (λi s q=>(hB i s q).1) λi s o n q1 q2=>pQ (by
   cases hn:il σ A o with
   |false=>rfl
   |true=>obtain⟨id',so',n',x,y⟩:=sn.1 hn;have:=R.inj _ _ _ _ _ _ _ (hB i s q1).1 (hAs id' so' x) q2 y;subst this;exact absurd (hA _ _ x).1 (hB _ _ q1).2)
  obtain⟨G,pu,on⟩:=tY (R.part hAs λi s o n q1 q2=>pQ (sn.2 ⟨i,s,n,q1,q2⟩)) 1 (.gr id E) (ae (c.length/E) c) v (by unfold gv;simp[(show A.get id=some (.grow E c t) from by rw[Tr.bD,ar rfl]),ob]) d;refine⟨_,_,ae (c.length/E) c,_,f,RB,.v pu on,λP g vs h nx Rt=>UN Rt (λo ob q=>(rX q).2) (λo ob q=>?_) G⟩;obtain⟨x,y⟩:=rX q;refine⟨y,tW ?_⟩;cases hn:il σ A o with
  |false=>rfl
  |true=>grind
 grind
def FG:Nat->VT->Bool
 |0,_=>false
 |f+1,t=>match t with
  | .agg l=>l.all (FG f)
  | .aH l=>l.all (FG f)
  | .i _=>true
  | .b=>true
  | .s=>true
  | .v=>true
  |_=>false
def yC:Nat->SV->List Nat
 |0,_=>[]
 |f+1,x=>match x with
  | .agg l=>l.flatMap (yC f)
  | .aH l=>l.flatMap (yC f)
  | .gr id _=>[id]
  |_=>[]
def sR(h:Tr SO):List Nat->Tr SO
 |[]=>.nil
 |i::l=>match h.get i with
  |some s=>(sR h l).set i s
  |none=>sR h l
def yg(h:Tr SO):List Nat->Tr SO
 |[]=>h
 |i::l=>(yg h l).del i
variable{i:Nat} {s:SO}
omit [QF] in
theorem OV{h:Tr SO}:∀{l:List Nat},(sR h l).get i=some s->h.get i=some s/\i∈l
 |[],q=>by have q:(Tr.nil:Tr SO).get i=some s:=q;rw[Tr.get_nil] at q;cases q
 |j::l,q=>by
  unfold sR at q;split at q
  ·rename_i s' hs;rw[Tr.bD] at q;by_cases z:i=j
   ·grind
   ·rw[ai z] at q;have:=OV q;simp_all
  ·have:=OV q
   grind
omit [QF] in
theorem QD{h:Tr SO}:∀{l:List Nat},(yg h l).get i=some s->h.get i=some s/\i∉l
 |[],q=>⟨q,by simp⟩
 |j::l,q=>by
  have q:((yg h l).del j).get i=some s:=q;rw[Tr.kK] at q;by_cases z:i=j
  ·grind
  ·rw[ai z] at q;have:=QD q
   grind
def Gf(g:SV->Option (SV×Value)):List SV->Option (List SV×List Value)
 |[]=>some ([],[])
 |x::l=>ob (g x) λp=>ob (Gf g l) λq=>some (p.1 ::q.1,p.2 ::q.2)
def Ca(h:Tr SO):Nat->SV->Option (SV×Value)
 |0,_=>none
 |f+1,x=>match x with
  | .agg l=>ob (Gf (Ca h f) l) λp=>some (.agg p.1,.agg ⟨p.2⟩)
  | .aH l=>ob (Gf (Ca h f) l) λp=>some (.aH p.1,.tuple ⟨p.2⟩)
  | .i k n=>some (.i k n,.int k n)
  | .b q=>some (.b q,.bool q)
  | .s q=>some (.s q,.string q)
  |x=>ob (gv h 1 x) λu=>some (.v u,u)
omit [QF] in
theorem Ms{g:SV->Option (SV×Value)}(hg:∀x p v,g x=some p->DV σ x v->(∀σ',DV σ' p.1 p.2)/\kY h v p.2):
 ∀(l:List SV) q vs,Gf g l=some q->bU σ l vs->(∀σ',bU σ' q.1 q.2)/\(∀(ρ:Ren)(w:World)(xs:List Value),bh ρ h w->bk ρ vs xs->aP (fw ρ h w) q.2 xs)
 |[],q,vs,e,d=>by cases e;cases d;exact⟨λ_=>.nil,λρ w xs _ r=>by cases r;exact .nil⟩
 |x::l,q,vs,e,d=>by
  obtain⟨p,h1,e⟩:=af e;obtain⟨q',h2,e⟩:=af e;cases e;cases d with
  |cons d ds=>
   obtain⟨a1,a2⟩:=hg _ _ _ h1 d;obtain⟨b1,b2⟩:=Ms hg _ _ _ h2 ds;refine⟨λσ'=>.cons (a1 σ') (b1 σ'),λρ w xs H r=>?_⟩;cases r with
   |cons r rs=>exact .cons (a2 ρ w _ H r) (b2 ρ w _ H rs)
omit [QF] in
theorem Mr(R:aM σ st tm h nx):∀(f:Nat)(x:SV)(p:SV×Value)(v:Value),Ca st.h f x=some p->DV σ x v->(∀σ',DV σ' p.1 p.2)/\kY h v p.2
 |0,x,p,v,e,_=>by cases e
 |f+1,x,p,v,e,d=>by
  unfold Ca at e;split at e
  ·obtain⟨q,h1,e⟩:=af e;cases e;cases d with
   |agg ds=>
    obtain⟨b1,b2⟩:=Ms (λx p v=>Mr R f x p v) _ _ _ h1 ds;refine⟨λσ'=>.agg (b1 σ'),λρ w y H r=>?_⟩;cases r with
    |agg r=>exact .agg (b2 ρ w _ H r)
  ·obtain⟨q,h1,e⟩:=af e;cases e;cases d with
   |aH ds=>
    obtain⟨b1,b2⟩:=Ms (λx p v=>Mr R f x p v) _ _ _ h1 ds;refine⟨λσ'=>.aH (b1 σ'),λρ w y H r=>?_⟩;cases r with
    |tuple r=>exact .aH (b2 ρ w _ H r)
  ·cases e;cases d;exact⟨λ_=>.i _ _,aY.gives (.int _ _) h⟩
  ·cases e;cases d;exact⟨λ_=>.b _,aY.gives (.bool _) h⟩
  ·cases e;cases d;exact⟨λ_=>.s _,aY.gives (.str _) h⟩
  ·obtain⟨u,h1,e⟩:=af e;cases e;obtain⟨G,pu,on⟩:=tY R 1 _ _ _ h1 d;exact⟨λ_=>.v pu on,G⟩
def rz(t:VT)(sv:SV)(st:St)(K:SV->St->Option β):Option β:=match t,sv with
 | .aH ts,.aH l=>cond (FG 5 (.aH ts)&&!(yC 5 (.aH l)).isEmpty) (ob (Ca (sR st.h (yC 5 (.aH l))) 5 (.aH l)) λp=>K p.1 {st with h:=yg st.h (yC 5 (.aH l))}) (K (.aH l) st)
 |t,sv=>Mq t sv st K
omit [QF] in
theorem U6{K:SV->St->Option β}(e:rz t sv st K=some b)(R:aM σ st tm h' nx')(d:DV σ sv v):
 ∃sv2 st2 v2 h2,K sv2 st2=some b/\aM σ st2 tm h2 nx'/\DV σ sv2 v2/\∀(P:Program)(g:FuncId)(vs:List Value)(h:Heap)(nx:Nat),jl P g vs h nx v h' nx'->jl P g vs h nx v2 h2 nx':=by
 unfold rz at e;split at e
 case h_2=>exact afc e R d
 rename_i ts l;generalize yC 5 (.aH l)=ids at e;cases hc:FG 5 (.aH ts)&&!ids.isEmpty with
 |false=>grind
 |true=>
  rw[hc] at e;obtain⟨p,h1,f⟩:=af e;have hA:∀i s,(sR st.h ids).get i=some s->st.h.get i=some s/\i∈ids:=λi s q=>OV q;have hB:∀i s,(yg st.h ids).get i=some s->st.h.get i=some s/\i∉ids:=λi s q=>QD q;have RB:aM σ {st with h:=yg st.h ids} tm (jz h' λo=>!il σ (sR st.h ids) o) nx':=R.part (λi s q=>(hB i s q).1) λi s o n q1 q2=>pQ (by
   cases hn:il σ (sR st.h ids) o with
   |false=>rfl
   |true=>obtain⟨id',so',n',x,y⟩:=sn.1 hn;have:=R.inj _ _ _ _ _ _ _ (hB i s q1).1 (hA id' so' x).1 q2 y;subst this;exact absurd (hA _ _ x).2 (hB _ _ q1).2)
  obtain⟨dv,G⟩:=Mr (R.part (λi s q=>(hA i s q).1) λi s o n q1 q2=>pQ (sn.2 ⟨i,s,n,q1,q2⟩)) 5 (.aH l) p v h1 d;refine⟨_,_,p.2,_,f,RB,dv σ,λP g vs h nx Rt=>UN Rt (λo ob q=>(rX q).2) (λo ob q=>?_) G⟩;obtain⟨x,y⟩:=rX q;refine⟨y,tW ?_⟩;cases hn:il σ (sR st.h ids) o with
  |false=>rfl
  |true=>grind
noncomputable def P5(w:Nat)(X:cJ)(pt:(β:Type)->FuncId->Option (dJ β))(fn:Func)(T:HT)(lv jv:Nat->Option cZ)(un:Nat->Bool):Fn T.ti.ks (Option (cM T.to.ks)):=
 lq T.ti.ks λls=>ob (iX T.ti ls) λst=>dn {X:=X,pt:=pt _,n:=T.n+(fn.ntmps -T.n),rs:=fn.results.toList,lv:=lv,jv:=jv,un:=un,df:=false,fuel:=w,an:=T.an,gQ:=λsv st=>rz (w8 T.to) sv st λsv st=>qL T.an T.to ⟨Tr.nil.set 0 sv,st.h,st.sx⟩ (dec T.to.ks),mY:=λ_ _=>bM 52} 100000 [] [.code (fn.body.getD .skip)] st
variable{T:HT} {g:FuncId} {pt:(β:Type)->FuncId->Option (dJ β)} {Sh:Fn T.ti.ks (Option (cM T.to.ks))}
theorem J4{X:cJ}(OK:ea P X)(hmix:P.follows .mixedOrders=true)(PT:mJ P pt){fn:Func}{lv jv:Nat->Option cZ}{un:Nat->Bool}{w:Nat}
 (hF:X.F.get g=some fn) (hb:fn.body=some (fn.body.getD .skip)) (hS:Sh=P5 w X pt fn T lv jv un):pq P g T Sh:=by
 intro ls r st so e hst hso;subst hS;have e:=nR _ _ _ _ e;obtain⟨st1,g1,e⟩:=af e;rw[hst] at g1;cases g1;intro σ vs h nx hl R;have he:jn X.F g vs .normal=some {fn:=g,n:=vs.length+(fn.ntmps -vs.length),tmps:=cW vs 0 .nil,todo:=[.code (fn.body.getD .skip)],defers:=[],mode:=.run,kind:=.normal,roundOf:=none}:=by
  simp[jn,ob,hF]
  grind
 rcases(yh (c:={fn:=g,n:=vs.length+(fn.ntmps -vs.length),tmps:=.nil,todo:=[],defers:=[],mode:=.run,kind:=.normal,roundOf:=none}) OK hmix (PT _) ⟨fn,hF,rfl⟩ (by grind) rfl 100000 [] [.code (fn.body.getD .skip)] _ r e (λr hr=>by cases hr) _ _ _ _ R) with⟨σ1,s1,sv,tm',td',h',nx',s,l,R',fv,kr,F⟩|⟨_,_,_,_,_,_,_,_,_,_,_,kr,_⟩
 case inr=>cases kr
 obtain⟨v,d,dv⟩:=fv.done rfl rfl rfl;replace kr:rz (w8 T.to) sv s1 (λsv st=>qL T.an T.to ⟨Tr.nil.set 0 sv,st.h,st.sx⟩ (dec T.to.ks))=some r:=kr;obtain⟨sv,s1,v2,h2,kr,R',dv,RT⟩:=U6 kr R' dv;obtain⟨ls',q1,st',q2,q3,q4⟩:=yr kr;rw[<-vP _ _ _ q1] at q2;rw[hso] at q2;cases q2;have R2:aM σ1 ⟨Tr.nil.set 0 sv,s1.h,s1.sx⟩ (Tr.nil.set 0 v2) h2 nx':=by
  refine⟨λt x hx=>?_,R'.obj,R'.inj,R'.lt,R'.fresh⟩;rw[Tr.bD] at hx⊢;by_cases q:t=0
  ·grind
  ·rw[ai q,Tr.get_nil] at hx;cases hx
 obtain⟨σ2,z1,z2⟩:=q4 _ _ _ _ R2;exact⟨σ2,v2,h2,nx',RT _ _ _ _ _ (B8 OK he s d),l,z1,F.trans z2 l⟩
mutual
def wI(f:Nat->Nat):SV->SV
 | .ptr id off=>.ptr (f id) off
 | .sl id off n c=>.sl (f id) off n c
 | .gr id E=>.gr (f id) E
 | .agg l=>.agg (zf f l)
 | .aH l=>.aH (zf f l)
 | .fn g l=>.fn g (zf f l)
 | .eR t x=>.eR t (wI f x)
 | .em b=>.em b
 | .ni=>.ni
 | .i k n=>.i k n
 | .b x=>.b x
 | .s x=>.s x
 | .v x=>.v x
 | .nl=>.nl
 | .lp c=>.lp c
def zf(f:Nat->Nat):List SV->List SV
 |[]=>[]
 |x::xs=>wI f x::zf f xs
end
def F5(f:Nat->Nat):SO->SO
 | .cells c t=>.cells (zf f c) t
 | .arr c t=>.arr c t
 | .grow E c t=>.grow E c t
omit [QF] in
mutual
theorem Me{σ σ':Nm}{f:Nat->Nat}(e:∀k x,σ k=some x->σ' (f k)=some x):∀{x:SV}{v:Value},DV σ x v->DV σ' (wI f x) v
 |_,_,.i k n=>.i k n
 |_,_,.b x=>.b x
 |_,_,.s x=>.s x
 |_,_,.v h h1=>.v h h1
 |_,_,.nl=>.nl
 |_,_,.im=>.im
 |_,_,.agg h=>.agg (B9 e h)
 |_,_,.aH h=>.aH (B9 e h)
 |_,_,.ptr h=>.ptr (e _ _ h)
 |_,_,.lp h=>.lp h
 |_,_,.sl h a b=>.sl (e _ _ h) a b
 |_,_,.gP h=>.gP (e _ _ h)
 |_,_,.gr h=>.gr (e _ _ h)
 |_,_,.fn h=>.fn (B9 e h)
 |_,_,.eR h=>.eR (Me e h)
 |_,_,.em b=>.em b
 |_,_,.ni=>.ni
theorem B9{σ σ':Nm}{f:Nat->Nat}(e:∀k x,σ k=some x->σ' (f k)=some x):∀{x:List SV}{v:List Value},bU σ x v->bU σ' (zf f x) v
 |_,_,.nil=>.nil
 |_,_,.cons h t=>.cons (Me e h) (B9 e t)
end
omit [QF] in
theorem ae6{σ':Nm}{f:Nat->Nat}(e:∀k x,σ k=some x->σ' (f k)=some x){k:Nat}{so:SO}(d:DO σ h k so)(hh:∀o n ob,σ k=some (some o,n)->h.get o=some ob->h'.get o=some ob):DO σ' h' (f k) (F5 f so):=by
 cases so with
 |cells c t=>obtain⟨o,n,vs,a,b,c⟩:=d;exact⟨o,n,vs,e _ _ a,hh _ _ _ a b,B9 e c⟩
 |arr c t=>obtain⟨o,n,vs,a,b,c⟩:=d;exact⟨o,n,vs,e _ _ a,hh _ _ _ a b,c⟩
 |grow E c t=>obtain⟨a,p,g⟩:=d;exact⟨a,p,(by grind)⟩
def kO(an sx:Nat)(m:Mp)(k:Nat):Nat:=cond (Nat.blt k an) (match dV k m with
 |some (some a)=>a
 |_=>0) (sx+k)
def uf(h:Tr SO):Mp->Bool
 |[]=>true
 |(_,some a)::m=>(match h.get a with|some _=>uf h m|none=>false)
 |(_,none)::m=>uf h m
def vE(m:Mp):Nat->Bool
 |0=>true
 |n+1=>(match dV n m with|some (some _)=>vE m n|_=>false)
def tO:Mp->Tr SO->Tr SO
 |[],h=>h
 |(_,some a)::m,h=>tO m (h.del a)
 |(_,none)::m,h=>tO m h
def sB(f:Nat->Nat)(s:Tr SO):List (Nat×OT)->Tr SO->Tr SO
 |[],h=>h
 |(k,_)::l,h=>match s.get k with
  |some so=>(sB f s l h).set (f k) (F5 f so)
  |none=>sB f s l h
def QV(T:HT)(Sh:Fn T.ti.ks (Option (cM T.to.ks))):dJ β:=λst args K=>
 cond (Nat.beq args.length T.n) (yq [] T.ti ⟨mw args 0 .nil,st.h,st.sx⟩ λls m=>
  cond (uf st.h m&&vE m T.an) (ob (jq T.ti.ks Sh ls) λr=>ob (iX T.to (jW T.to.ks r)) λso=>ob (so.tm.get 0) λsv=>
   K false (wI (kO T.an st.sx m) sv) ⟨st.tm,sB (kO T.an st.sx m) so.h T.to.sq (tO m st.h),st.sx+T.to.sx⟩) none) none
omit [QF] in
theorem EP{h:Tr SO}:∀{m:Mp},uf h m=true->∀k a,dV k m=some (some a)->∃so,h.get a=some so
 |[],_,k,a,e=>by cases e
 |(j,x)::m,hl,k,a,e=>by
  rw[qS] at e;cases x with
  |none=>
   by_cases q:j=k
   ·grind
   ·rw[ai q] at e;exact EP (m:=m) hl k a e
  |some y=>
   unfold uf at hl;split at hl
   ·rename_i so hso;by_cases q:j=k
    ·grind
    ·rw[ai q] at e;exact EP hl k a e
   grind
variable{m:Mp}
omit [QF] in
theorem Jg:∀{n:Nat},vE m n=true->∀k,k<n->∃a,dV k m=some (some a)
 |0,_,k,h=>by omega
 |n+1,e,k,h=>by
  unfold vE at e;split at e
  ·rename_i a ha;by_cases q:k=n
   ·grind
   ·exact Jg e k (by omega)
  grind
def Bt(a:Nat):Mp->Prop
 |[]=>False
 |(_,x)::m=>x=some a\/Bt a m
omit [QF] in
theorem Jv:∀{m:Mp}{h:Tr SO}{id:Nat}{so:SO},(tO m h).get id=some so->h.get id=some so/\¬Bt id m
 |[],h,id,so,e=>⟨e,λh=>h⟩
 |(j,none)::m,h,id,so,e=>by
  obtain⟨a,b⟩:=Jv (m:=m) e;exact⟨a,λq=>by
   rcases q with q|q
   ·grind
   ·exact b q⟩
 |(j,some x)::m,h,id,so,e=>by
  obtain⟨a,b⟩:=Jv (m:=m) e;rw[Tr.kK] at a;by_cases q:id=x
  ·grind
  ·rw[ai q] at a;exact⟨a,λw=>by
    rcases w with w|w
    ·grind
    ·exact b w⟩
omit [QF] in
theorem RQ:∀{m:Mp}{k a:Nat},dV k m=some (some a)->Bt a m
 |[],k,a,e=>by cases e
 |(j,x)::m,k,a,e=>by
  rw[qS] at e;by_cases q:j=k
  ·rw[ar q] at e;cases e;exact .inl rfl
  ·rw[ai q] at e;exact .inr (RQ e)
omit [QF] in
theorem LP{f:Nat->Nat}{s:Tr SO}:∀{l:List (Nat×OT)}{h:Tr SO}{id:Nat}{so:SO},(sB f s l h).get id=some so->h.get id=some so\/∃k x,id=f k/\s.get k=some x/\so=F5 f x
 |[],h,id,so,e=>.inl e
 |(k,t)::l,h,id,so,e=>by
  unfold sB at e;split at e
  ·rename_i x hx;rw[Tr.bD] at e;by_cases q:id=f k
   ·grind
   ·rw[ai q] at e;exact LP e
  ·exact LP e
variable{α:Type}
def wB:Tr α->Tr α->Tr α
 | .nil,t=>t
 |t,.nil=>t
 | .node v l r,.node v' l' r'=>.node (match v with|some x=>some x|none=>v') (wB l l') (wB r r')
omit [QF] in
theorem Pg:∀(q:ke)(a b:Tr α),walk q (wB a b)=(match walk q a with|some x=>some x|none=>walk q b)
 |q,.nil,b=>by rw[An];cases b<;>rfl
 |q,.node v l r,.nil=>by
  rw[An];show walk q (.node v l r)=_
  grind
 | .z,.node v l r,.node v' l' r'=>by cases v<;>rfl
 | .l q,.node v l r,.node v' l' r'=>Pg q l l'
 | .r q,.node v l r,.node v' l' r'=>Pg q r r'
omit [QF] in
theorem Uc{a b:Heap}{o:Nat}:(wB a b).get o=(match a.get o with|some x=>some x|none=>b.get o):=by
 unfold Tr.get;rw[Pg (oY o) a b]
 grind
variable{pb:Bool}
omit [QF] in
theorem tw.beside{g g':Heap}(R:tw P pb f args h nx v h' nx')(s:∀o ob,h.get o=some ob->g.get o=some ob)
 (s':∀o ob,g'.get o=some ob->h'.get o=some ob\/(g.get o=some ob/\h.get o=none)):tw P pb f args g nx v g' nx':=by
 cases pb with
 |true=>exact vh.beside R s s'
 |false=>exact jl.beside R s s'
omit [QF] in
theorem JH{an n:Nat}{to:cZ}{args:List SV}{stT so:St}(hlen:args.length=n)(_:kZ m)
 (h4:∀(σ:Nm)(tm:Tr Value)(h:Heap)(nx:Nat),aM σ ⟨mw args 0 .nil,st.h,st.sx⟩ tm h nx->aM (σm σ m) stT tm h nx/\∀id so,stT.h.get id=some so->dV id m=some none\/∃a so',dV id m=some (some a)/\st.h.get a=some so')
 (L:∀k a,dV k m=some (some a)->∃so,st.h.get a=some so) (A:∀k,k<an->∃a,dV k m=some (some a)) (hso:so.sx=to.sx) (k3:so.tm.get 0=some sv)
 (Fg:∀(σ:Nm)(vs:List Value)(h:Heap)(nx:Nat),vs.length=n->aM σ stT (cW vs 0 .nil) h nx->∃σ' v h' nx',tw P pb g vs h nx v h' nx'/\nx<=nx'/\aM σ' so (Tr.nil.set 0 v) h' nx'/\hQ an nx σ σ')
 (σ:Nm) (tm:Tr Value) (h:Heap) (nx:Nat) (vs:List Value) (R:aM σ st tm h nx) (d:bU σ args vs):
 ∃σ' pv h' nx',tw P pb g vs h nx pv h' nx'/\nx<=nx'/\NX nx σ σ'/\DV σ' (wI (kO an st.sx m) sv) pv/\aM σ' ⟨st.tm,sB (kO an st.sx m) so.h to.sq (tO m st.h),st.sx+to.sx⟩ tm h' nx':=by
 have R0:aM σ ⟨mw args 0 .nil,st.h,st.sx⟩ (cW vs 0 .nil) h nx:=
  ⟨C4 d 0 .nil .nil (λt sv h=>by rw[Tr.get_nil] at h;cases h),R.obj,R.inj,R.lt,R.fresh⟩
 obtain⟨RT,nm⟩:=h4 σ _ h nx R0
 let p:Nat->Bool:=open Classical inλo=>decide (∃k a n',dV k m=some (some a)/\σ a=some (some o,n'))
 have hp:∀o,p o=true↔∃k a n',dV k m=some (some a)/\σ a=some (some o,n'):=λo=>by simp[p]
 have RT1:aM (σm σ m) stT (cW vs 0 .nil) (jz h p) nx:=by refine⟨RT.tm,λid x hs=>(RT.obj id x hs).mono (iG.refl _) λo n g=>pQ ?_,RT.inj,RT.lt,RT.fresh⟩;unfold σm at g;split at g<;>grind
 have hvl:vs.length=n:=by rw[<-d.length];exact hlen
 obtain⟨σ2,v,h1',nx',q1,q2,q3,q4⟩:=Fg (σm σ m) vs (jz h p) nx hvl RT1;have whence:∀k o n,σ2 k=some (some o,n)->nx<=o\/p o=true:=λk o n e=>by
  rcases q4.nw k o n e with q|⟨k',n',q⟩
  ·exact .inl q
  ·unfold σm at q;split at q<;>grind
 have old:∀k,k<an->∃a,dV k m=some (some a)/\kO an st.sx m k=a/\a<st.sx/\∃x,σ a=some x/\σ2 k=some x:=λk hk=>by
  obtain⟨a,ha⟩:=A k hk;obtain⟨s0,hs0⟩:=L k a ha;have hx:∃x,σ a=some x:=by
   have D:=R.obj a s0 hs0;cases s0 with
   |cells c t=>obtain⟨o,n,_,g,_⟩:=D;exact⟨_,g⟩
   |arr c t=>obtain⟨o,n,_,g,_⟩:=D;exact⟨_,g⟩
   |grow E c t=>
    obtain⟨_,_,g⟩:=D;rcases g with⟨g,_⟩|⟨o,n,g,_⟩
    ·exact⟨_,g⟩
    ·exact⟨_,g⟩
  obtain⟨x,hx⟩:=hx;refine⟨a,ha,?_,?_,x,hx,q4.an k hk x (by rw[σm_some ha];exact hx)⟩
  ·unfold kO;have:Nat.blt k an=true:=gi hk;rw[this,ay,ha]
  ·rcases dg a st.sx with q|q
   ·exact q
   ·rw[R.fresh a q] at hx;cases hx
 have new:∀k,an<=k->kO an st.sx m k=st.sx+k:=λk hk=>by
  unfold kO;have:Nat.blt k an=false:=by
   cases q:Nat.blt k an with
   |false=>rfl
   |true=>have:=cT q;omega
  rw[this];rfl
 let σn:Nm:=λid=>if id<st.sx then σ id else σ2 (id -st.sx)
 have n1:∀k x,σ2 k=some x->σn (kO an st.sx m k)=some x:=λk x e=>by
  rcases dg k an with hk|hk
  ·obtain⟨a,_,b1,b2,y,b3,b4⟩:=old k hk;rw[b1];show(if a<st.sx then σ a else _)=_;rw[ar b2,b3,<-b4,e]
  ·rw[new k hk];show(if st.sx+k<st.sx then _ else σ2 (st.sx+k -st.sx))=_;rw[ai (by omega),show st.sx+k -st.sx=k by omega];exact e
 have N:NX nx σ σn:=by
  refine⟨λid x e=>?_,λid o n e=>?_⟩
  ·show(if id<st.sx then σ id else _)=_;rw[ar]
   ·exact e
   ·rcases dg id st.sx with q|q
    ·exact q
    ·rw[R.fresh id q] at e;cases e
  ·have e:(if id<st.sx then σ id else σ2 (id -st.sx))=some (some o,n):=e;by_cases q:id<st.sx
   ·rw[ar q] at e;exact .inr ⟨id,n,e⟩
   ·rw[ai q] at e;rcases whence _ _ _ e with w|w
    ·exact .inl w
    ·obtain⟨k,a,n',x,y⟩:=(hp o).1 w;exact .inr ⟨a,n',y⟩
 let iC:Nat->Bool:=λo=>Nat.blt o nx&&!p o
 let h':Heap:=wB (jz h iC) (jz h1' λo=>!iC o)
 have hk1:∀o,iC o=true->h'.get o=h.get o:=λo q=>by show(wB _ _).get o=_;rw[Uc,pQ q,tW (h:=h1') (by simp[q])];cases h.get o<;>rfl
 have hk2:∀o,iC o=false->h'.get o=h1'.get o:=λo q=>by show(wB _ _).get o=_;rw[Uc,tW q,pQ (h:=h1') (p:=λo=>!iC o) (by simp[q])]
 have kp:∀o,o<nx->p o=false->iC o=true:=λo a b=>by show(Nat.blt o nx&&!p o)=true;rw[b];simp[Nat.blt];exact a
 have kn:∀o,(nx<=o\/p o=true)->iC o=false:=λo a=>by
  show(Nat.blt o nx&&!p o)=false;rcases a with a|a
  ·have:Nat.blt o nx=false:=by
    cases q:Nat.blt o nx with
    |false=>rfl
    |true=>have:=cT q;omega
   rw[this];rfl
  ·rw[a];simp
 have stay:∀id x o n,st.h.get id=some x->¬Bt id m->σ id=some (some o,n)->iC o=true:=λid x o n a b c=>by
  refine kp o (R.lt _ _ _ c) ?_;cases q:p o with
  |false=>rfl
  |true=>obtain⟨k,a',n',u1,u2⟩:=(hp o).1 q;obtain⟨s0,hs0⟩:=L k a' u1;have:=R.inj _ _ _ _ _ _ _ a hs0 c u2;subst this;exact(b (RQ u1)).elim
 have lts:∀id x,st.h.get id=some x->id<st.sx:=λid x hx=>by
  rcases dg id st.sx with q|q
  ·exact q
  ·have D:=R.obj id x hx;have z:=R.fresh id q;cases x with
   |cells c t=>obtain⟨o,n,_,g,_⟩:=D;rw[z] at g;cases g
   |arr c t=>obtain⟨o,n,_,g,_⟩:=D;rw[z] at g;cases g
   |grow E c t=>
    obtain⟨_,_,g⟩:=D;rcases g with⟨g,_⟩|⟨o,n,g,_⟩
    ·rw[z] at g;cases g
    ·rw[z] at g;cases g
 have kind:∀id x,(sB (kO an st.sx m) so.h to.sq (tO m st.h)).get id=some x->
  (st.h.get id=some x/\¬Bt id m)\/∃k y,id=kO an st.sx m k/\so.h.get k=some y/\x=F5 (kO an st.sx m) y:=λid x e=>by
  rcases LP e with q|q
  ·exact .inl (Jv q)
  ·exact .inr q
 have σo:∀id,id<st.sx->σn id=σ id:=λid q=>ar q;refine⟨σn,v,h',nx',?_,q2,N,?_,?_⟩
 ·refine q1.beside (λo ob q=>(rX q).2) λo ob q=>?_;cases hk:iC o with
  |true=>rw[hk1 o hk] at q;refine .inr ⟨q,tW ?_⟩;rw[bg] at hk;simpa using hk.2
  |false=>rw[hk2 o hk] at q;exact .inl q
 ·obtain⟨u,u1,u2⟩:=q3.tm 0 sv k3;cases u1;exact Me n1 u2
 ·refine⟨λt x hx=>?_,λid x hx=>?_,λid id' x x' o n n' a1 a2 b1 b2=>?_,λid o n hn=>?_,λid hid=>?_⟩
  ·obtain⟨u,u1,u2⟩:=R.tm t x hx;exact⟨u,u1,u2.mono N.ext⟩
  ·rcases kind id x hx with⟨c1,c2⟩|⟨k,y,c1,c2,c3⟩
   ·exact(R.obj id x c1).mono N.ext λo n g=>hk1 o (stay id x o n c1 c2 g)
   ·rw[c1,c3];refine ae6 n1 (q3.obj k y c2) λo n ob g1 g2=>?_;rw[hk2 o (kn o (whence k o n g1))];exact g2
  ·rcases kind id x a1 with⟨c1,c2⟩|⟨k,y,c1,c2,c3⟩
   ·rw[σo id (lts id x c1)] at b1;have s1:=stay id x o n c1 c2 b1;rcases kind id' x' a2 with⟨d1,d2⟩|⟨k',y',d1,d2,d3⟩
    ·rw[σo id' (lts id' x' d1)] at b2;exact R.inj _ _ _ _ _ _ _ c1 d1 b1 b2
    ·exfalso;have w:∃n2,σ2 k'=some (some o,n2):=by
      have D:=q3.obj k' y' d2;have ex:∃z,σ2 k'=some z:=by
       cases y' with
       |cells c t=>obtain⟨o,n,_,g,_⟩:=D;exact⟨_,g⟩
       |arr c t=>obtain⟨o,n,_,g,_⟩:=D;exact⟨_,g⟩
       |grow E c t=>obtain⟨_,_,g⟩:=D;rcases g with⟨g,_⟩|⟨o,n,g,_⟩<;>grind
      obtain⟨z,hz⟩:=ex;have:=n1 _ _ hz;rw[<-d1,b2] at this;cases this;exact⟨_,hz⟩
     obtain⟨n2,w⟩:=w;rw[kn o (whence _ _ _ w)] at s1;cases s1
   ·have back:∀k y id n,id=kO an st.sx m k->so.h.get k=some y->σn id=some (some o,n)->σ2 k=some (some o,n):=λk y id n d1 d2 b2=>by
     have D:=q3.obj k y d2;have ex:∃z,σ2 k=some z:=by
      cases y with
      |cells c t=>obtain⟨o,n,_,g,_⟩:=D;exact⟨_,g⟩
      |arr c t=>obtain⟨o,n,_,g,_⟩:=D;exact⟨_,g⟩
      |grow E c t=>obtain⟨_,_,g⟩:=D;rcases g with⟨g,_⟩|⟨o,n,g,_⟩<;>exact⟨_,g⟩
     obtain⟨z,hz⟩:=ex;have:=n1 _ _ hz;rw[<-d1,b2] at this;cases this;exact hz
    have w1:=back k y id n c1 c2 b1;rcases kind id' x' a2 with⟨d1,d2⟩|⟨k',y',d1,d2,d3⟩
    ·exfalso;rw[σo id' (lts id' x' d1)] at b2;have s1:=stay id' x' o n' d1 d2 b2;rw[kn o (whence _ _ _ w1)] at s1;cases s1
    ·have w2:=back k' y' id' n' d1 d2 b2;have:=q3.inj _ _ _ _ _ _ _ c2 d2 w1 w2;rw[c1,d1,this]
  ·have hn:(if id<st.sx then σ id else σ2 (id -st.sx))=some (some o,n):=hn;by_cases q:id<st.sx
   ·rw[ar q] at hn;have:=R.lt _ _ _ hn;omega
   ·rw[ai q] at hn;exact q3.lt _ _ _ hn
  ·have hid:st.sx+to.sx<=id:=hid;show(if id<st.sx then σ id else σ2 (id -st.sx))=none;rw[ai (by omega)];exact q3.fresh _ (by rw[hso];omega)
omit [QF] in
theorem Zf(F:pq P g T Sh):nE P g (QV (β:=β) T Sh):=by intro st args K b e;obtain⟨hlen,e⟩:=aT e;obtain⟨ls,m,h1,_,hinj,hsx,stT,h2,h3,h4⟩:=JS (λi j a q=>by cases q) e;obtain⟨hl,h1⟩:=aT h1;rw[bg] at hl;obtain⟨r,k1,h1⟩:=af h1;obtain⟨so,k2,h1⟩:=af h1;obtain⟨sv,k3,h1⟩:=af h1;exact⟨false,_,_,h1,rfl,λσ tm h nx vs R d=>(JH (pb:=false) (bJ hlen) hinj h4 (EP hl.1) (Jg hl.2) (KR k2) k3 (λσ vs h nx hv R=>F ls r stT so k1 h2 k2 σ vs h nx hv R) σ tm h nx vs R d)⟩
def Rl(T:HT)(st:St)(args:List SV):Bool:=cond (Nat.beq args.length T.n) ((yq (β:=Unit) [] T.ti ⟨mw args 0 .nil,st.h,st.sx⟩ λ_ m=>cond (uf st.h m&&vE m T.an) (some ()) none).isSome) false
def LH(pt:(β:Type)->FuncId->Option (dJ β))(g:FuncId)(T:HT)(Sh:Fn T.ti.ks (Option (cM T.to.ks))):(β:Type)->FuncId->Option (dJ β):=
 λβ f=>cond (Nat.beq f g) (some λst args K=>cond (Rl T st args) (QV T Sh st args K) (ob (pt β f) λe=>e st args K)) (pt β f)
omit [QF] in
theorem qa(PT:mJ P pt)(F:pq P g T Sh):mJ P (LH pt g T Sh):=by
 intro β f e h;unfold LH at h;cases hb:Nat.beq f g with
 |true=>
  rw[hb] at h;have hg:=bJ hb;subst hg;cases h;intro st args K b k;cases hf:Rl T st args with
  |true=>simp[hf] at k;exact Zf F st args K b k
  |false=>simp[hf] at k;obtain⟨e0,h0,k⟩:=af k;exact PT β f e0 h0 st args K b k
 |false=>rw[hb] at h;exact PT β f e h
def pU(z:α)(F:α->α)(n:Nat):α:=Nat.rec z (λ_ r=>F r) n
omit [QF] in
theorem ZF:pq P g T (jY T.ti.ks):=λ_ _ _ _ e=>(AP _ _ _ e).elim
variable{avt:List VT} {rvt:VT}
omit [QF] in
theorem ZH:dI P g avt rvt (jY (VT.fo avt)):=λ_ _ e=>(AP _ _ _ e).elim
omit [QF] in
theorem Rq{F:Fn T.ti.ks (Option (cM T.to.ks))->Fn T.ti.ks (Option (cM T.to.ks))}(h:∀r,pq P g T r->pq P g T (F r))(n:Nat):pq P g T (pU (jY T.ti.ks) F n):=by
 induction n with
 |zero=>exact ZF
 |succ n ih=>exact h _ ih
omit [QF] in
theorem ZG{F:Fn (VT.fo avt) (Option (cM rvt.ks))->Fn (VT.fo avt) (Option (cM rvt.ks))}(h:∀r,dI P g avt rvt r->dI P g avt rvt (F r))(n:Nat):dI P g avt rvt (pU (jY (VT.fo avt)) F n):=by
 induction n with
 |zero=>exact ZH
 |succ n ih=>exact h _ ih
end
section
variable[QF]
variable{β:Type}
structure PT where
 n:Nat
 ti:cZ
 an:Nat
 to:cZ
 tp:cZ
def PT.out(T:PT)(p:Bool):cZ:=cond p T.tp T.to
def tq(P:Program)(g:FuncId)(T:PT)(Sh:Fn T.ti.ks (Option (cM T.to.ks⊕cM T.tp.ks))):Prop:=
 ∀ls r st,jq T.ti.ks Sh ls=some r->iX T.ti ls=some st->∀(p:Bool)(l:List bo) so,(match r with| .inl a=>p=false/\l=jW T.to.ks a| .inr a=>p=true/\l=jW T.tp.ks a)->iX (T.out p) l=some so->
  ∀(σ:Nm)(vs:List Value)(h:Heap)(nx:Nat),vs.length=T.n->aM σ st (cW vs 0 .nil) h nx->∃σ' v h' nx',tw P p g vs h nx v h' nx'/\nx<=nx'/\aM σ' so (Tr.nil.set 0 v) h' nx'/\hQ T.an nx σ σ'
noncomputable def P7(w:Nat)(X:cJ)(pt:(β:Type)->FuncId->Option (dJ β))(fn:Func)(T:PT)(lv jv:Nat->Option cZ)(un:Nat->Bool):Fn T.ti.ks (Option (cM T.to.ks⊕cM T.tp.ks)):=
 lq T.ti.ks λls=>ob (iX T.ti ls) λst=>dn {X:=X,pt:=pt _,n:=T.n+(fn.ntmps -T.n),rs:=fn.results.toList,lv:=lv,jv:=jv,un:=un,df:=false,fuel:=w,an:=T.an,gQ:=λsv st=>rz (w8 T.to) sv st λsv st=>qL T.an T.to ⟨Tr.nil.set 0 sv,st.h,st.sx⟩ λls=>ob (dec T.to.ks ls) λa=>some (.inl a),mY:=λsv st=>qL T.an T.tp ⟨Tr.nil.set 0 sv,st.h,st.sx⟩ λls=>ob (dec T.tp.ks ls) λa=>some (.inr a)} 100000 [] [.code (fn.body.getD .skip)] st
variable{P:Program} {X:cJ} {fn:Func}
omit [QF] in
theorem aeB(OK:ea P X){f:FuncId}(hF:X.F.get f=some fn){args:List Value}{h:Heap}{nx:Nat}{fr:cC}(he:jn X.F f args .normal=some fr)(hd:fr.defers=[])(hf:fr.fn=f){v:Value}{tmX:Tr Value}{h':Heap}{nx':Nat}(S:vj P ⟨fr,[],h,nx⟩ v tmX h' nx'):
 vh P f args h nx v h' nx':=by
 intro ρ args' cs w A H N;obtain⟨ρ',fr',w',td,s1,F,a7,a8⟩:=S ρ _ cs w (AK OK.F A he) H N;obtain⟨c',m1,m2⟩:=F.mode;have a2:=F.defers;rw[hd] at a2;have key:∃v',c'=[pe v']/\aF ρ' v v':=by
  generalize hq:[pe v]=q at m2;cases m2 with
  |nil=>grind
  |cons r t=>cases hq;cases t;exact⟨_,rfl,r⟩
 obtain⟨v',rfl,a6⟩:=key;refine⟨ρ',fr',w',fn,v',s1,m1,?_,?_,a6,a7,a8⟩
 ·generalize fr'.defers=q at a2;cases a2;rfl
 ·rw[F.fn,hf];exact(OK.F f fn hF).1
variable{T:PT} {g:FuncId} {pt:(β:Type)->FuncId->Option (dJ β)} {Sh:Fn T.ti.ks (Option (cM T.to.ks⊕cM T.tp.ks))}
theorem Rr(OK:ea P X)(hmix:P.follows .mixedOrders=true)(PTO:mJ P pt){lv jv:Nat->Option cZ}{un:Nat->Bool}{w:Nat}
 (hF:X.F.get g=some fn) (hb:fn.body=some (fn.body.getD .skip)) (hS:Sh=P7 w X pt fn T lv jv un):tq P g T Sh:=by
 intro ls r st e hst p l so hr hso;subst hS;have e:=nR _ _ _ _ e;obtain⟨st1,g1,e⟩:=af e;rw[hst] at g1;cases g1;intro σ vs h nx hl R;have he:jn X.F g vs .normal=some {fn:=g,n:=vs.length+(fn.ntmps -vs.length),tmps:=cW vs 0 .nil,todo:=[.code (fn.body.getD .skip)],defers:=[],mode:=.run,kind:=.normal,roundOf:=none}:=by simp[jn,ob,hF];rw[hb];rfl
 have w8:∀{σ1:Nm}{sv:SV}{s1:St}{v:Value}{tm:Tr Value}{h:Heap}{nx:Nat},aM σ1 s1 tm h nx->DV σ1 sv v->aM σ1 ⟨Tr.nil.set 0 sv,s1.h,s1.sx⟩ (Tr.nil.set 0 v) h nx:=by
  intro σ1 sv s1 v tm h nx R' dv;refine⟨λt x hx=>?_,R'.obj,R'.inj,R'.lt,R'.fresh⟩;rw[Tr.bD] at hx⊢;by_cases q:t=0
  ·rw[ar q] at hx⊢;cases hx;exact⟨v,rfl,dv⟩
  ·rw[ai q,Tr.get_nil] at hx;cases hx
 rcases(yh (c:={fn:=g,n:=vs.length+(fn.ntmps -vs.length),tmps:=.nil,todo:=[],defers:=[],mode:=.run,kind:=.normal,roundOf:=none}) OK hmix (PTO _) ⟨fn,hF,rfl⟩ (by rw[hl]) rfl 100000 [] [.code (fn.body.getD .skip)] _ r e (λr hr=>by cases hr) _ _ _ _ R) with⟨σ1,s1,sv,tm',td',h',nx',s,l',R',fv,kr,F⟩|⟨σ1,s1,sv,v,t,h',nx',s,l',R',dv,kr,F⟩
 ·obtain⟨v,d,dv⟩:=fv.done rfl rfl rfl;replace kr:Lt.rz (Lt.w8 T.to) sv s1 (λsv st=>qL T.an T.to ⟨Tr.nil.set 0 sv,st.h,st.sx⟩ λls=>ob (dec T.to.ks ls) λa=>some (.inl a))=some r:=kr;obtain⟨sv,s1,v2,h2,kr,R',dv,RT⟩:=U6 kr R' dv;obtain⟨ls',q1,st',q2,q3,q4⟩:=yr kr;replace q1:=af q1;obtain⟨a,q1,q5⟩:=q1;cases q5;obtain⟨rfl,rfl⟩:=hr;rw[<-vP _ _ _ q1] at q2;rw[(show iX T.to (jW T.to.ks a)=some so from hso)] at q2;cases q2;obtain⟨σ2,z1,z2⟩:=q4 _ _ _ _ (w8 R' dv);exact⟨σ2,v2,h2,nx',RT _ _ _ _ _ (B8 OK he s d),l',z1,F.trans z2 l'⟩
 ·replace kr:qL T.an T.tp ⟨Tr.nil.set 0 sv,s1.h,s1.sx⟩ (λls=>ob (dec T.tp.ks ls) λa=>some (.inr a))=some r:=kr;obtain⟨ls',q1,st',q2,q3,q4⟩:=yr kr;replace q1:=af q1;obtain⟨a,q1,q5⟩:=q1;cases q5;obtain⟨rfl,rfl⟩:=hr;rw[<-vP _ _ _ q1] at q2;rw[(show iX T.tp (jW T.tp.ks a)=some so from hso)] at q2;cases q2;obtain⟨σ2,z1,z2⟩:=q4 _ _ _ _ (w8 R' dv);exact⟨σ2,v,h',nx',aeB OK hF he rfl rfl s,l',z1,F.trans z2 l'⟩
def dk{α γ δ:Type}(r:α⊕γ)(f:α->δ)(g:γ->δ):δ:=match r with
 | .inl a=>f a
 | .inr a=>g a
def QW(T:PT)(Sh:Fn T.ti.ks (Option (cM T.to.ks⊕cM T.tp.ks))):dJ β:=λst args K=>
 cond (Nat.beq args.length T.n) (yq [] T.ti ⟨mw args 0 .nil,st.h,st.sx⟩ λls m=>
  cond (uf st.h m&&vE m T.an) (ob (jq T.ti.ks Sh ls) λr=>dk r
   (λa=>ob (iX T.to (jW T.to.ks a)) λso=>ob (so.tm.get 0) λsv=>K false (wI (kO T.an st.sx m) sv) ⟨st.tm,sB (kO T.an st.sx m) so.h T.to.sq (tO m st.h),st.sx+T.to.sx⟩)
   (λa=>ob (iX T.tp (jW T.tp.ks a)) λso=>ob (so.tm.get 0) λsv=>K true (wI (kO T.an st.sx m) sv) ⟨st.tm,sB (kO T.an st.sx m) so.h T.tp.sq (tO m st.h),st.sx+T.tp.sx⟩)) none) none
omit [QF] in
theorem Zh(F:tq P g T Sh):nE P g (QW (β:=β) T Sh):=by
 intro st args K b e;obtain⟨hlen,e⟩:=aT e;have hlen:=bJ hlen;obtain⟨ls,m,h1,_,hinj,hsx,stT,h2,h3,h4⟩:=JS (λi j a q=>by cases q) e;obtain⟨hl,h1⟩:=aT h1;rw[bg] at hl;have L:=EP hl.1;have A:=Jg hl.2;obtain⟨r,k1,h1⟩:=af h1;cases r with
 |inl a=>obtain⟨so,k2,h1⟩:=af h1;obtain⟨sv,k3,h1⟩:=af h1;exact⟨false,_,_,h1,rfl,λσ tm h nx vs R d=>(JH hlen hinj h4 L A (KR k2) k3 (λσ vs h nx hv R=>F ls _ stT k1 h2 false _ so ⟨rfl,rfl⟩ k2 σ vs h nx hv R) σ tm h nx vs R d)⟩
 |inr a=>obtain⟨so,k2,h1⟩:=af h1;obtain⟨sv,k3,h1⟩:=af h1;exact⟨true,_,_,h1,rfl,λσ tm h nx vs R d=>(JH hlen hinj h4 L A (KR k2) k3 (λσ vs h nx hv R=>F ls _ stT k1 h2 true _ so ⟨rfl,rfl⟩ k2 σ vs h nx hv R) σ tm h nx vs R d)⟩
def Rm(T:PT)(st:St)(args:List SV):Bool:=cond (Nat.beq args.length T.n) ((yq (β:=Unit) [] T.ti ⟨mw args 0 .nil,st.h,st.sx⟩ λ_ m=>cond (uf st.h m&&vE m T.an) (some ()) none).isSome) false
def LI(pt:(β:Type)->FuncId->Option (dJ β))(g:FuncId)(T:PT)(Sh:Fn T.ti.ks (Option (cM T.to.ks⊕cM T.tp.ks))):(β:Type)->FuncId->Option (dJ β):=
 λβ f=>cond (Nat.beq f g) (some λst args K=>cond (Rm T st args) (QW T Sh st args K) (ob (pt β f) λe=>e st args K)) (pt β f)
omit [QF] in
theorem qb(PTO:mJ P pt)(F:tq P g T Sh):mJ P (LI pt g T Sh):=by
 intro β f e h;unfold LI at h;cases hb:Nat.beq f g with
 |true=>
  rw[hb] at h;have hg:=bJ hb;subst hg;cases h;intro st args K b k;cases hf:Rm T st args with
  |true=>simp[hf] at k;exact Zh F st args K b k
  |false=>simp[hf] at k;obtain⟨e0,h0,k⟩:=af k;exact PTO β f e0 h0 st args K b k
 |false=>rw[hb] at h;exact PTO β f e h
omit [QF] in
theorem ZJ:tq P g T (jY T.ti.ks):=λ_ _ _ e=>(AP _ _ _ e).elim
omit [QF] in
theorem ZI{F:Fn T.ti.ks (Option (cM T.to.ks⊕cM T.tp.ks))->Fn T.ti.ks (Option (cM T.to.ks⊕cM T.tp.ks))}(h:∀r,tq P g T r->tq P g T (F r))(n:Nat):tq P g T (pU (jY T.ti.ks) F n):=by
 induction n with
 |zero=>exact ZJ
 |succ n ih=>exact h _ ih
end
end Lt
end Go.Proofs.YtfdojmichbgpiaaGreatDoor

import Derived.RangeFuncIn
import Derived.Orders
import Derived.Test.YtfdojmichbgpiaaGreatDoorRA
namespace Go.Proofs.YtfdojmichbgpiaaGreatDoor
namespace Lt
section
def tC(T:TT)(h:Heap)(tm:Tr Value):List ResultVar->Option (List Value)
 |[]=>some []
 | .tmp t::rs=>ob (tm.get t) λv=>ob (tC T h tm rs) λvs=>some (v::vs)
 | .cell a t::rs=>ob (tm.get a) λp=>ob (oM T h t p) λv=>ob (tC T h tm rs) λvs=>some (v::vs)
def oN(X:cJ)(h:Heap)(fr:cC):Option Value:=
 ob (X.F.get fr.fn) λfn=>ob (tC X.T h fr.tmps fn.results.toList) λvs=>match vs with
  |[v]=>some v
  |vs=>some (.tuple ⟨vs⟩)
def F0(tmps:Array Value):ResultVar->Sem Value
 | .tmp t=>pure (tmps.getD t undef)
 | .cell a t=>do loadVar t (<-asAddr (tmps.getD a undef))
variable{X:cJ} {h:Heap} {w:World} {ρ:Ren}
theorem LZ{P:Program}(OK:ea P X)(H:bh ρ h w){tm:Tr Value}{n:Nat}{tmps:Array Value}(S:jm ρ tm n tmps):
 ∀(rs:List ResultVar)(vs:List Value),tC X.T h tm rs=some vs->∃vs':List Value,(rs.mapM (F0 tmps)).run P w=.ok vs' w/\bk ρ vs vs'
 |[],vs,e=>by cases e;exact⟨[],rfl,.nil⟩
 | .tmp t::rs,vs,e=>by
  obtain⟨v,h1,e⟩:=af e;obtain⟨us,h2,e⟩:=af e;cases e;obtain⟨v',g1,g2⟩:=S.2 t v h1;obtain⟨us',g3,g4⟩:=LZ OK H S rs us h2;have:tmps.getD t undef=v':=by rw[xj,g1];rfl
  refine⟨v'::us',?_,.cons g2 g4⟩;simp[F0,this];rw[g3];rfl
 | .cell a t::rs,vs,e=>by
  obtain⟨p,h1,e⟩:=af e;obtain⟨v,h3,e⟩:=af e;obtain⟨us,h2,e⟩:=af e;cases e;obtain⟨p',g1,g2⟩:=S.2 a p h1;obtain⟨v',g5,g6⟩:=SE OK.T H g2 h3;obtain⟨us',g3,g4⟩:=LZ OK H S rs us h2;have:tmps.getD a undef=p':=by rw[xj,g1];rfl
  refine⟨v'::us',?_,.cons g6 g4⟩;have hp:∃ad,p'=.pointer (some ad):=by
   unfold oM at h3;split at h3
   ·cases g2;exact⟨_,rfl⟩
   ·cases g2 with
    |func a _ _=>exact a.elim
    |lit hl=>cases hl;exact⟨_,rfl⟩
   ·cases h3
  obtain⟨ad,rfl⟩:=hp;have g7:(loadVar t ad).run P w=.ok v' w:=by unfold Instr.loadAt Instr.sureAddr at g5;simpa using g5
  have hA:(asAddr (.pointer (some ad))).run P w=.ok ad w:=rfl;simp[F0,this,hA,g7];rw[g3];rfl
variable{f:Frame}
theorem LY{P:Program}(OK:ea P X)(H:bh ρ h w){a:cC}(R:jM ρ a f){v:Value}(e:oN X h a=some v):
 ∃fn v',P.funcs[f.fn]? =some fn/\(results fn f.tmps).run P w=.ok v' w/\aF ρ v v':=by
 obtain⟨fn,h1,e⟩:=af e;obtain⟨vs,h2,e⟩:=af e;obtain⟨g1,_,_⟩:=OK.F _ fn h1;obtain⟨vs',g2,g3⟩:=LZ OK H R.tmps _ _ h2;refine⟨fn,if hh:vs'.toArray.size=1 then vs'.toArray[0] else .tuple vs'.toArray,by rw[R.fn];exact g1,?_,?_⟩
 ·have e0:results fn f.tmps=(do let vs<-Array.mapM (F0 f.tmps) fn.results;pure (if h:vs.size=1 then vs[0] else .tuple vs)):=by
   congr 2
  rw[e0,Array.mapM_eq_mapM_toList];simp;rw[g2];rfl
 ·have hl:=g3.length;split at e
  ·rename_i u;cases e;cases g3 with
   |cons r t=>cases t;simpa using r
  ·rename_i ca;cases e;have:¬vs'.toArray.size=1:=by
    intro hh;simp at hh;have:vs.length=1:=by omega
    obtain⟨u,hu⟩:=List.length_eq_one_iff.1 this;exact ca u hu
   rw[dif_neg this];exact .tuple g3
def cG(P:Program)(m m':AM):Prop:=
 ∀(ρ:Ren)(fr:Frame)(cs base:List Frame)(w:World),jM ρ m.fr fr->qx ρ m.cs cs->bh ρ m.h w->(∀o,m.nx<=o->o<m'.nx->ρ o=none)->
  ∃ρ' fr' cs' w',Steps P (lone fr (cs++base) w) (lone fr' (cs'++base) w')/\jM ρ' m'.fr fr'/\qx ρ' m'.cs cs'/\bh ρ' m'.h w'/\bP ρ m.h m.nx w ρ' m'.h m'.nx w'
theorem cG.refl(P:Program)(m:AM):cG P m m:=λρ fr cs _ w F C H _=>⟨ρ,fr,cs,w,Steps.refl _ _,F,C,H,bP.refl _ _ _ _⟩
theorem cG.trans{P:Program}{a b c:AM}(h:cG P a b)(k:cG P b c)(l1:a.nx<=b.nx)(l2:b.nx<=c.nx):cG P a c:=by
 intro ρ fr cs base w F C H N;obtain⟨ρ1,fr1,cs1,w1,s1,F1,C1,H1,M1⟩:=h ρ fr cs base w F C H λo h1 h2=>N o h1 (by omega);obtain⟨ρ2,fr2,cs2,w2,s2,F2,C2,H2,M2⟩:=k ρ1 fr1 cs1 base w1 F1 C1 H1 λo h1 h2=>by
  rw[M1.cq o (.inr h1)]
  grind
 exact⟨ρ2,fr2,cs2,w2,s1.trans s2,F2,C2,H2,M1.trans M2⟩
def AM.to(m:AM)(todo:List Item):AM:={m with fr:={m.fr with todo:=todo}}
variable{t:List Item}
theorem Mm(h:f.mode=.run)(ht:f.todo=t):f=f.atR {tmps:=f.tmps,defers:=f.defers} t:=by subst ht;cases f;subst h;rfl
theorem nv{P:Program}{m:AM}(hm:m.fr.mode=.run)(ht:m.fr.todo=t){t':List Item}
 (Aa:∀(ρ:Ren)(fr:Frame)(cs:List Frame)(w:World)(ts:List Item),jm ρ m.fr.tmps m.fr.n fr.tmps->ir ρ t ts->∃ts',ir ρ t' ts'/\
  step P (lone (fr.atR {tmps:=fr.tmps,defers:=fr.defers} ts) cs w)=.next (lone (fr.atR {tmps:=fr.tmps,defers:=fr.defers} ts') cs w)):cG P m (m.to t'):=by
 intro ρ fr cs base w F C H _;have hI:=F.todo;rw[ht] at hI;obtain⟨ts',h1,h2⟩:=Aa ρ fr (cs++base) w fr.todo F.tmps hI;rw[<-Mm (by have:=F.mode;rw[hm] at this;exact this) rfl] at h2;exact⟨ρ,_,cs,w,.one h2,⟨F.fn,F.tmps,h1,F.defers,by show rK ρ m.fr.mode .run;rw[hm];rfl,F.kind,F.round⟩,C,H,bP.refl _ _ _ _⟩
variable{k:List Item}
theorem inv1{x:Item}{ts:List Item}(h:ir ρ (x::k) ts):∃y k',ts=y::k'/\Au ρ x y/\ir ρ k k':=by
 cases h with
 |cons a b=>grind
section
variable{P:Program} {m:AM} (hm:m.fr.mode=.run)
include hm
theorem Ww(ht:m.fr.todo=.code .skip::k):cG P m (m.to k):=
 nv hm ht λρ fr cs w ts S I=>by obtain⟨y,k',rfl,a,b⟩:=inv1 I;have a':y=.code .skip:=a;subst a';exact⟨k',b,stepR_skip⟩
variable{l:Nat}
theorem Wt(ht:m.fr.todo=.code (.label l)::k):cG P m (m.to k):=
 nv hm ht λρ fr cs w ts S I=>by obtain⟨y,k',rfl,a,b⟩:=inv1 I;have a':y=.code (.label l):=a;subst a';exact⟨k',b,stepR_label⟩
theorem Wr(ht:m.fr.todo=.inBlock l::k):cG P m (m.to k):=
 nv hm ht λρ fr cs w ts S I=>by obtain⟨y,k',rfl,a,b⟩:=inv1 I;have a':y=.inBlock l:=a;subst a';exact⟨k',b,stepR_inBlock⟩
theorem Ws{l:Code}(ht:m.fr.todo=.inScope l::k):cG P m (m.to k):=
 nv hm ht λρ fr cs w ts S I=>by obtain⟨y,k',rfl,a,b⟩:=inv1 I;have a':y=.inScope l:=a;subst a';exact⟨k',b,step_lone_go (by simp[stepG,stepG.exec,Frame.atR])⟩
variable{x y:Code}
theorem CY(ht:m.fr.todo=.code (.seq x y)::k):cG P m (m.to (.code x::.code y::k)):=
 nv hm ht λρ fr cs w ts S I=>by obtain⟨z,k',rfl,a,b⟩:=inv1 I;have a':z=.code (.seq x y):=a;subst a';exact⟨_,.cons rfl (.cons rfl b),stepR_seq⟩
theorem Wo(ht:m.fr.todo=.code (.block l x)::k):cG P m (m.to (.code x::.inBlock l::k)):=
 nv hm ht λρ fr cs w ts S I=>by obtain⟨z,k',rfl,a,b⟩:=inv1 I;have a':z=.code (.block l x):=a;subst a';exact⟨_,.cons rfl (.cons rfl b),stepR_block⟩
theorem Wu(ht:m.fr.todo=.code (.loop x)::k):cG P m (m.to (.code x::.inLoop x::k)):=
 nv hm ht λρ fr cs w ts S I=>by obtain⟨z,k',rfl,a,b⟩:=inv1 I;have a':z=.code (.loop x):=a;subst a';exact⟨_,.cons rfl (.cons rfl b),stepR_loop⟩
theorem OF(ht:m.fr.todo=.inLoop x::k):cG P m (m.to (.code x::.inLoop x::k)):=
 nv hm ht λρ fr cs w ts S I=>by obtain⟨z,k',rfl,a,b⟩:=inv1 I;have a':z=.inLoop x:=a;subst a';exact⟨_,.cons rfl (.cons rfl b),stepR_inLoop⟩
theorem Wv(ht:m.fr.todo=.code (.scope x)::k):cG P m (m.to (.code x::.inScope x::k)):=
 nv hm ht λρ fr cs w ts S I=>by obtain⟨z,k',rfl,a,b⟩:=inv1 I;have a':z=.code (.scope x):=a;subst a';exact⟨_,.cons rfl (.cons rfl b),step_lone_go (by simp[stepG,stepG.exec,Frame.atR])⟩
variable{id:Nat} {k1:List Item}
theorem Wq(ht:m.fr.todo=.code (.exit id)::k)(hx:exitTo id k=some k1):cG P m (m.to k1):=
 nv hm ht λρ fr cs w ts S I=>by obtain⟨z,k',rfl,a,b⟩:=inv1 I;have a':z=.code (.exit id):=a;subst a';obtain⟨k2,h1,h2⟩:=b.exitTo.1 k1 hx;exact⟨_,h2,stepR_exit h1⟩
theorem ahx(ht:m.fr.todo=.code (.goto l)::k)(hx:gotoIn l k=some k1):cG P m (m.to k1):=
 nv hm ht λρ fr cs w ts S I=>by obtain⟨z,k',rfl,a,b⟩:=inv1 I;have a':z=.code (.goto l):=a;subst a';obtain⟨k2,h1,h2⟩:=b.gotoIn.1 k1 hx;exact⟨_,h2,stepR_goto h1⟩
variable{ops:Array Oper}
theorem CW(ht:m.fr.todo=.code (.region id ops false)::k):cG P m (m.to (.inRegion ops (List.range ops.size)::k)):=
 nv hm ht λρ fr cs w ts S I=>by obtain⟨z,k',rfl,a,b⟩:=inv1 I;have a':z=.code (.region id ops false):=a;subst a';exact⟨_,.cons rfl b,stepR_region⟩
theorem CX(ht:m.fr.todo=.inRegion ops []::k):cG P m (m.to k):=
 nv hm ht λρ fr cs w ts S I=>by obtain⟨z,k',rfl,a,b⟩:=inv1 I;have a':z=.inRegion ops []:=a;subst a';exact⟨_,b,stepR_region_end⟩
theorem Wp{c:Operand}(ht:m.fr.todo=.code (.cond c x y)::k){b:Bool}(hc:jo m.fr.tmps c=some (.bool b)):cG P m (m.to (.code (cond b x y)::k)):=
 nv hm ht λρ fr cs w ts S I=>by
  obtain⟨z,k',rfl,a,bb⟩:=inv1 I;have a':z=.code (.cond c x y):=a;subst a';have r:=xR S c _ hc;have he:({tmps:=fr.tmps,defers:=fr.defers}:Act).eval c=.bool b:=by
   have e2:fr.eval c=({tmps:=fr.tmps,defers:=fr.defers}:Act).eval c:=by cases c<;>rfl
   rw[<-e2];generalize fr.eval c=g at r;cases r;rfl
  refine⟨_,.cons ?_ bb,stepR_cond he⟩;show _=_;cases b<;>rfl
end
end
section
section
variable{P:Program} {fr:Frame} {cs:List Frame} {w:World} {ops:Array Oper} {i:Nat} {rest:List Nat} {k:List Item} {o:Oper}
theorem C9(hmode:fr.mode=.run)(ht:fr.todo=.inRegion ops (i::rest)::k)(ho:ops[i]? =some o)(hw:Region.wanted o (yielded ops fr.tmps)=true)(hd:fr.roundOf=none\/∀c,o.op≠.defer c):
 stepG P true {frame:=fr,callers:=cs,status:=.running,dying:=none} w=stepG.apply P true fr cs none (execOp fr.eval o) w:=by
 have h:=stepGR_op (P:=P) (b:=fr) (a:={tmps:=fr.tmps,defers:=fr.defers}) (k:=k) (cs:=cs) (w:=w) (rest:=rest) ho hw;rw[<-(Mm hmode ht)] at h;rw[h]
 congr 1
 rcases hd with hd|hd
 ·rw[hd];rfl
 ·exact Oper.semAt_eq _ _ _ hd
variable(hg:stepG P true {frame:=fr,callers:=cs,status:=.running,dying:=none} w=stepG.apply P true fr cs none (execOp fr.eval o) w)
include hg
variable{v:Value} {w':World}
theorem WM(hr:(execOp fr.eval o).run P w=.ok (.value v) w'):step P (lone fr cs w)=.next (lone (fr.finish v) cs w'):=
 step_lone_go (by rw[hg];simp[stepG.apply,hr])
theorem WK(hr:(execOp fr.eval o).run P w=.ok .skip w'):step P (lone fr cs w)=.next (lone (fr.finish undef) cs w'):=
 step_lone_go (by rw[hg];simp[stepG.apply,hr])
theorem OU(ht:fr.todo=.inRegion ops (i::rest)::k){f:FuncId}{args:Array Value}(hr:(execOp fr.eval o).run P w=.ok (.enter f args) w'):step P (lone fr cs w)=.next (lone (Frame.enter P f args .normal) (fr::cs) w'):=
 step_lone_go (by rw[hg];simp[stepG.apply,hr,ht])
theorem ahV{d:Deferred}(hr:(execOp fr.eval o).run P w=.ok (.defer d) w'):step P (lone fr cs w)=.next (lone ({fr with defers:=d::fr.defers}.finish undef) cs w'):=
 step_lone_go (by rw[hg];simp[stepG.apply,hr])
theorem WI(hr:(execOp fr.eval o).run P w=.halt (.panic v) w'):step P (lone fr cs w)=.next (lone (fr.raise [{v,recovered:=false}]) cs w'):=
 step_lone_go (by rw[hg];simp[stepG.apply,hr])
theorem WJ(hro:fr.roundOf=none)(hr:(execOp fr.eval o).run P w=.ok .recover w')(hn:tryRecover fr cs=none):step P (lone fr cs w)=.next (lone (fr.finish .nilIface) cs w'):=
 step_lone_go (by rw[hg];simp[stepG.apply,hr,hro,hn])
theorem ahX(hro:fr.roundOf=none)(hr:(execOp fr.eval o).run P w=.ok .recover w'){cs':List Frame}(hn:tryRecover fr cs=some (v,cs')):step P (lone fr cs w)=.next (lone (fr.finish v) cs' w'):=
 step_lone_go (by rw[hg];simp[stepG.apply,hr,hro,hn])
end
theorem WL{P:Program}{fr:Frame}{cs:List Frame}{w:World}{ops:Array Oper}{i:Nat}{rest:List Nat}{k:List Item}{o:Oper}(hmode:fr.mode=.run)(ht:fr.todo=.inRegion ops (i::rest)::k)(ho:ops[i]? =some o)
 (hw:Region.wanted o (yielded ops fr.tmps)=false):step P (lone fr cs w)=.next (lone (fr.finish undef) cs w):=
 step_lone_go (by simp[stepG,stepG.exec,hmode,ht,ho,hw])
def mW:Op->Bool
 | .defer _=>true
 |_=>false
def xM(X:cJ)(m:AM)(ops:Array Oper)(o:Oper):Option AM:=
 ob (fU ops m.fr.tmps o) λb=>cond b
  (cond (mW o.op&&m.fr.roundOf.isSome) none (ob (dr X m.h m.nx (jo m.fr.tmps) o) λout=>match out with
   | .val v h nx=>ob (mO m.fr v) λfr=>some {m with fr:=fr,h:=h,nx:=nx}
   | .skip h nx=>ob (mO m.fr undef) λfr=>some {m with fr:=fr,h:=h,nx:=nx}
   | .enter f args=>ob (jn X.F f args .normal) λc=>some {m with fr:=c,cs:=m.fr::m.cs}
   | .tP d=>ob (mO {m.fr with defers:=d::m.fr.defers} undef) λfr=>some {m with fr:=fr}
   | .uq v=>some {m with fr:=AS m.fr [{v:=v,recovered:=false}]}
   | .uy=>match m.fr.roundOf,m.fr.kind,m.cs with
    |none,.normal,_=>ob (mO m.fr .nilIface) λfr=>some {m with fr:=fr}
    |none,.deferred,c::cs=>(match c.mode with
     | .panicking ({v:=v,recovered:=false,goexit:=false}::older)=>ob (mO m.fr v) λfr=>some {m with fr:=fr,cs:={c with mode:=.panicking ({v:=v,recovered:=true}::older)}::cs}
     | .returning=>ob (mO m.fr .nilIface) λfr=>some {m with fr:=fr}
     |_=>none)
    |_,_,_=>none
   | .round _ _=>none))
  (ob (mO m.fr undef) λfr=>some {m with fr:=fr})
theorem De{ρ:Ren}:aF ρ undef undef:=.tuple .nil
theorem OI{P:Program}{X:cJ}(OK:ea P X){m m':AM}(hm:m.fr.mode=.run){ops:Array Oper}{i:Nat}{rest:List Nat}{k:List Item}(ht:m.fr.todo=.inRegion ops (i::rest)::k){o:Oper}(ho:ops[i]? =some o)(e:xM X m ops o=some m'):cG P m m':=by
 intro ρ fr cs base w F C H N;have hmode:fr.mode=.run:=by have:=F.mode;rw[hm] at this;exact this
 have hI:=F.todo;rw[ht] at hI;obtain⟨y,k',hft,a,bI⟩:=inv1 hI;subst a;obtain⟨b,hb,e⟩:=af e;have hw:=AW F.tmps hb;cases b with
 |false=>obtain⟨f',h1,e⟩:=af e;cases e;exact⟨ρ,_,cs,w,.one (WL hmode hft ho hw),tG F De h1,C,H,bP.refl _ _ _ _⟩
 |true=>
  cases hdf:(mW o.op&&m.fr.roundOf.isSome) with
  |true=>simp_all
  |false=>
   simp[hdf] at e;have hd:fr.roundOf=none\/∀c,o.op≠.defer c:=by
    cases hro:m.fr.roundOf with
    |none=>left;have:=F.round;rw[hro] at this;exact this
    |some l=>right;intro c hc;rw[hro,hc] at hdf;cases hdf
   have hg:=λcs=>C9 (P:=P) (cs:=cs) (w:=w) hmode hft ho hw hd;obtain⟨out,h1,e⟩:=af e;have fresh:∀q,m.nx<=q->q<out.top m.nx->ρ q=none:=by
    intro q q1 q2;refine N q q1 ?_;cases out<;>simp only[kG.top] at q2<;>try omega
    all_goals(obtain⟨f',h2,e⟩:=af e;cases e;exact q2)
   have OR:=AL OK H (rv:=fr.eval) (xR F.tmps) h1 fresh;cases out with
   |val v h nx=>replace e:=af e;obtain⟨f',h2,e⟩:=e;cases e;obtain⟨ρ',v',w',r1,r2,r3,r4⟩:=OR;have hx:=r4.ext fresh;exact⟨ρ',_,cs,w',.one (WM (hg _) r1),tG (F.mono hx) r2 h2,C.mono hx,r3,r4⟩
   |skip h nx=>replace e:=af e;obtain⟨f',h2,e⟩:=e;cases e;obtain⟨ρ',w',r1,r3,r4⟩:=OR;have hx:=r4.ext fresh;exact⟨ρ',_,cs,w',.one (WK (hg _) r1),tG (F.mono hx) De h2,C.mono hx,r3,r4⟩
   |enter f args=>replace e:=af e;obtain⟨c,h2,e⟩:=e;cases e;obtain⟨args',r1,r2⟩:=OR;exact⟨ρ,_,fr::cs,w,.one (OU (hg _) hft r1),AK OK.F r2 h2,.cons F C,H,bP.refl _ _ _ _⟩
   |tP d=>replace e:=af e;obtain⟨f',h2,e⟩:=e;cases e;obtain⟨d',r1,r2⟩:=OR;exact⟨ρ,_,cs,w,.one (ahV (hg _) r1),tG (show jM ρ {m.fr with defers:=d::m.fr.defers} {fr with defers:=d'::fr.defers} from⟨F.fn,F.tmps,F.todo,.cons r2 F.defers,F.mode,F.kind,F.round⟩) De h2,C,H,bP.refl _ _ _ _⟩
   |uq v=>cases e;obtain⟨v',r1,r2⟩:=OR;exact⟨ρ,_,cs,w,.one (WI (hg _) r1),PW F (.cons r2 .nil),C,H,bP.refl _ _ _ _⟩
   |round l args=>cases e
   |uy=>
    have r1:=OR;simp only at e;split at e
    ·rename_i hro hk;replace e:=af e;obtain⟨f',h2,e⟩:=e;cases e;have hn:tryRecover fr (cs++base)=none:=by
      unfold tryRecover;rw[F.kind,hk]
     exact⟨ρ,_,cs,w,.one (WJ (hg _) (by have:=F.round;rw[hro] at this;exact this) r1 hn),tG F .nilIface h2,C,H,bP.refl _ _ _ _⟩
    ·rename_i c cs0 hro hk hcs;have hro':fr.roundOf=none:=by have:=F.round;rw[hro] at this;exact this
     have hkk:fr.kind=.deferred:=by rw[F.kind,hk]
     rw[hcs] at C;cases C with
     |cons FC CC=>
      rename_i c' cs1;have hcm:=FC.mode;split at e
      ·rename_i v older hmo;replace e:=af e;obtain⟨f',h2,e⟩:=e;cases e;rw[hmo] at hcm;obtain⟨ch,hm1,hm2⟩:=hcm;cases hm2 with
       |cons hv ho2=>
        rename_i v' older';have hn:tryRecover fr ((c'::cs1)++base)=some (v',{c' with mode:=.panicking ({v:=v',recovered:=true}::older')}::(cs1++base)):=by rw[tryRecover_deferred hkk];simp[recoverD,hm1]
        exact⟨ρ,_,{c' with mode:=.panicking ({v:=v',recovered:=true}::older')}::cs1,w,.one (ahX (hg _) hro' r1 hn),tG F hv h2,
         .cons ⟨FC.fn,FC.tmps,FC.todo,FC.defers,⟨_,rfl,.cons hv ho2⟩,FC.kind,FC.round⟩ CC,H,bP.refl _ _ _ _⟩
      ·rename_i hmo;replace e:=af e;obtain⟨f',h2,e⟩:=e;cases e;rw[hmo] at hcm;have hn:tryRecover fr ((c'::cs1)++base)=none:=by
        rw[tryRecover_deferred hkk];simp[recoverD,(show c'.mode=.returning from hcm)]
       exact⟨ρ,_,c'::cs1,w,.one (WJ (hg _) hro' r1 hn),tG F .nilIface h2,by show qx ρ m.cs _;rw[hcs];exact .cons FC CC,H,bP.refl _ _ _ _⟩
      ·cases e
    ·cases e
end
section
def AG(m:AM)(jump:Option Code):Option AM:=
 match m.fr.roundOf,jump with
 |none,none=>some {m with fr:={m.fr with mode:=.returning}}
 |none,some .ret=>some {m with fr:={m.fr with mode:=.returning}}
 |_,_=>none
inductive tr:List Item->Option Code->Prop where
 |nil:tr [] none
 |ret {k:List Item}:tr (.code .ret::k) (some .ret)
variable{j:Option Code}
theorem tr.rel{ρ:Ren}{t ts:List Item}(h:tr t j)(I:ir ρ t ts):tr ts j:=by
 cases h with
 |nil=>cases I;exact .nil
 |ret=>obtain⟨y,k,rfl,a,b⟩:=inv1 I;have a':y=.code .ret:=a;subst a';exact .ret
variable{P:Program}
theorem ahW{fr:Frame}{cs:List Frame}{w:World}(hmode:fr.mode=.run)(hl:tr fr.todo j)(hr:fr.roundOf=none):
 step P (lone fr cs w)=.next (lone {fr with mode:=.returning} cs w):=by
 generalize ht:fr.todo=t at hl;cases hl<;>exact step_lone_go (by simp[stepG,stepG.exec,hmode,ht,hr])
theorem OG{m m':AM}(hm:m.fr.mode=.run)(hl:tr m.fr.todo j)(e:AG m j=some m'):cG P m m':=by
 intro ρ fr cs base w F C H N;have hmode:fr.mode=.run:=by have:=F.mode;rw[hm] at this;exact this
 have key:m.fr.roundOf=none/\m'={m with fr:={m.fr with mode:=.returning}}:=by unfold AG at e;split at e<;>simp_all
 obtain⟨hro,rfl⟩:=key;exact⟨ρ,_,cs,w,.one (ahW hmode (hl.rel F.todo) (by have:=F.round;rw[hro] at this;exact this)),⟨F.fn,F.tmps,F.todo,F.defers,rfl,F.kind,F.round⟩,C,H,bP.refl _ _ _ _⟩
end
section
def AV:FrameMode->FrameMode
 | .panicking ({recovered:=true,..}::_)=>.returning
 |m=>m
variable{ρ:Ren}
theorem afK{x y:FrameMode}(h:rK ρ x y):rK ρ (AV x) (settle y):=by
 cases x with
 |run=>have h':y=.run:=h;subst h';rfl
 |returning=>have h':y=.returning:=h;subst h';rfl
 |panicking c=>
  obtain⟨c',rfl,h2⟩:=h;cases h2 with
  |nil=>exact⟨[],rfl,.nil⟩
  |@cons v v' b xs ys hv t=>
   cases b with
   |false=>exact⟨_,rfl,.cons hv t⟩
   |true=>
    have hd:∀(xs ys:List PanicEntry),nJ ρ xs ys->ys.dropWhile (!·.goexit)=[]:=by
     intro xs ys h;induction h with
     |nil=>rfl
     |cons h t ih=>simp_all
    show settle (.panicking ({v:=v',recovered:=true}::ys))=.returning;simp[settle,hd _ _ t]
def vA(X:cJ)(m:AM):Option AM:=
 match m.fr.mode with
 | .run=>none
 |mode=>
  match m.fr.defers with
  |d::ds=>match d.target with
   | .fn fn captured=>ob (qC X fn d.args.toList captured.toList) λout=>match out with
    | .enter f args=>ob (jn X.F f args .deferred) λc=>some {m with fr:=c,cs:={m.fr with defers:=ds}::m.cs}
    |_=>none
   |_=>none
  |[]=>match mode,m.cs with
   | .panicking chain,c::cs=>ob (X.F.get m.fr.fn) λ_=>some {m with fr:=AS c chain,cs:=cs}
   | .returning,c::cs=>ob (oN X m.h m.fr) λv=>match m.fr.kind with
    | .normal=>ob (mO c v) λc'=>some {m with fr:=c',cs:=cs}
    | .deferred=>some {m with fr:={c with mode:=AV c.mode},cs:=cs}
    |_=>none
   |_,_=>none
theorem YW{d:Deferred}{ds ds':List Deferred}(h:mG ρ (d::ds) ds'):∃d' ds1,ds'=d'::ds1/\xy ρ d d'/\mG ρ ds ds1:=by
 cases h with
 |cons a b=>grind
theorem Il{P:Program}{X:cJ}(OK:ea P X){m m':AM}(e:vA X m=some m'):cG P m m':=by
 intro ρ fr cs base w F C H N;have ca:m.fr.mode≠.run:=by intro h;unfold vA at e;rw[h] at e;cases e
 have hne':fr.mode≠.run:=by
  intro h;apply ca;have:=F.mode;rw[h] at this;cases hq:m.fr.mode with
  |run=>rfl
  |returning=>rw[hq] at this;cases this
  |panicking c=>rw[hq] at this;obtain⟨c',h1,_⟩:=this;cases h1
 have e2:(match m.fr.defers with
  |d::ds=>match d.target with
   | .fn fn captured=>ob (qC X fn d.args.toList captured.toList) λout=>match out with
    | .enter f args=>ob (jn X.F f args .deferred) λc=>some {m with fr:=c,cs:={m.fr with defers:=ds}::m.cs}
    |_=>none
   |_=>none
  |[]=>match m.fr.mode,m.cs with
   | .panicking chain,c::cs=>ob (X.F.get m.fr.fn) λ_=>some {m with fr:=AS c chain,cs:=cs}
   | .returning,c::cs=>ob (oN X m.h m.fr) λv=>match m.fr.kind with
    | .normal=>ob (mO c v) λc'=>some {m with fr:=c',cs:=cs}
    | .deferred=>some {m with fr:={c with mode:=AV c.mode},cs:=cs}
    |_=>none
   |_,_=>none)=some m':=by
  unfold vA at e;cases hq:m.fr.mode with
  |run=>exact absurd hq ca
  |returning=>rw[hq] at e;exact e
  |panicking c=>rw[hq] at e;exact e
 split at e2
 ·rename_i d ds hds;have FD:=F.defers;rw[hds] at FD;obtain⟨d',ds1,hfd,hd,hds1⟩:=YW FD;obtain⟨ht,ha⟩:=hd;split at e2
  ·rename_i fn captured hdt;obtain⟨out,hout,e2⟩:=af e2;rw[hdt] at ht;obtain⟨fn',cap',t1,t2,t3⟩:=ht;split at e2
   ·rename_i f args;obtain⟨c,hc,e2⟩:=af e2;cases e2;obtain⟨args',q1,q2⟩:=(Sc (h:=m.h) (nx:=m.nx) (w:=w) OK hout t2 ha t3);rw[<-t1] at q1;exact⟨ρ,_,{fr with defers:=ds1}::cs,w,.one (step_defer (P:=P) hne' hfd t1 q1),AK OK.F q2 hc,.cons ⟨F.fn,F.tmps,F.todo,hds1,F.mode,F.kind,F.round⟩ C,H,bP.refl _ _ _ _⟩
   ·cases e2
  ·cases e2
 ·rename_i hds;have FD:=F.defers;rw[hds] at FD;have hfd:fr.defers=[]:=by
   generalize fr.defers=q at FD;cases FD;rfl
  split at e2
  ·rename_i chain c cs0 hmo hcs;obtain⟨fn,hfn,e2⟩:=af e2;cases e2;obtain⟨g1,_,_⟩:=OK.F _ fn hfn;have hmm:=F.mode;rw[hmo] at hmm;obtain⟨chain',hm1,hm2⟩:=hmm;rw[hcs] at C;cases C with
   |cons FC CC=>rename_i c' cs1;have hs:=step_going_panicked (P:=P) (c:=c') (cs:=cs1++base) (w:=w) ⟨hm1,hfd,fn,by rw[F.fn];exact g1⟩;rw[<-Frame.raise_mode] at hs;exact⟨ρ,_,cs1,w,.one hs,PW FC hm2,CC,H,bP.refl _ _ _ _⟩
  ·rename_i c cs0 hmo hcs;obtain⟨v,hv,e2⟩:=af e2;have hm1:fr.mode=.returning:=by have:=F.mode;rw[hmo] at this;exact this
   obtain⟨fn,v',g1,g2,g3⟩:=LY OK H F hv;rw[hcs] at C;cases C with
   |cons FC CC=>
    rename_i c' cs1;split at e2
    ·rename_i hk;obtain⟨c2,hc2,e2⟩:=af e2;cases e2;exact⟨ρ,_,cs1,w,.one (step_leave_returned (P:=P) (c:=c') (w:=w) (fr:=fr) (v:=v') ⟨hm1,hfd,by rw[F.kind,hk],fn,g1,g2⟩),tG FC g3 hc2,CC,H,bP.refl _ _ _ _⟩
    ·rename_i hk;cases e2;exact⟨ρ,_,cs1,w,.one (step_going_returned (P:=P) (c:=c') (w:=w) (fr:=fr) (v:=v') (by rw[F.kind,hk]) ⟨hm1,hfd,fn,g1,g2⟩),⟨FC.fn,FC.tmps,FC.todo,FC.defers,afK FC.mode,FC.kind,FC.round⟩,CC,H,bP.refl _ _ _ _⟩
    ·cases e2
  ·cases e2
end
def Jl(X:cJ)(m:AM):Option AM:=
 match m.fr.mode with
 | .run=>match m.fr.todo with
  |[]=>AG m none
  | .inRegion _ []::k=>some (m.to k)
  | .inRegion ops (i::_)::_=>ob (ops[i]?) λo=>xM X m ops o
  | .code .ret::_=>AG m (some .ret)
  | .code .skip::k=>some (m.to k)
  | .code (.label _)::k=>some (m.to k)
  | .inBlock _::k=>some (m.to k)
  | .inScope _::k=>some (m.to k)
  | .code (.seq x y)::k=>some (m.to (.code x::.code y::k))
  | .code (.cond c x y)::k=>ob (jo m.fr.tmps c) λv=>match v with
   | .bool b=>some (m.to (.code (cond b x y)::k))
   |_=>none
  | .code (.block id x)::k=>some (m.to (.code x::.inBlock id::k))
  | .code (.loop x)::k=>some (m.to (.code x::.inLoop x::k))
  | .inLoop x::k=>some (m.to (.code x::.inLoop x::k))
  | .code (.scope x)::k=>some (m.to (.code x::.inScope x::k))
  | .code (.exit id)::k=>ob (exitTo id k) λk1=>some (m.to k1)
  | .code (.goto l)::k=>ob (gotoIn l k) λk1=>some (m.to k1)
  | .code (.region _ ops false)::k=>some (m.to (.inRegion ops (List.range ops.size)::k))
  |_=>none
 |_=>vA X m
theorem X2{P:Program}{X:cJ}(OK:ea P X){m m':AM}(e:Jl X m=some m'):cG P m m':=by
 unfold Jl at e;split at e
 ·rename_i hm;split at e
  ·rename_i ht;exact OG hm (by rw[ht];exact .nil) e
  ·rename_i ops k ht;cases e;exact CX hm ht
  ·rename_i ops i rest k ht;obtain⟨o,ho,e⟩:=af e;exact OI OK hm ht ho e
  ·rename_i k ht;exact OG hm (by rw[ht];exact .ret) e
  ·rename_i k ht;cases e;exact Ww hm ht
  ·rename_i l k ht;cases e;exact Wt hm ht
  ·rename_i l k ht;cases e;exact Wr hm ht
  ·rename_i l k ht;cases e;exact Ws hm ht
  ·rename_i x y k ht;cases e;exact CY hm ht
  ·rename_i c x y k ht;obtain⟨v,hv,e⟩:=af e;split at e
   ·cases e;exact Wp hm ht hv
   grind
  ·rename_i id x k ht;cases e;exact Wo hm ht
  ·rename_i x k ht;cases e;exact Wu hm ht
  ·rename_i x k ht;cases e;exact OF hm ht
  ·rename_i x k ht;cases e;exact Wv hm ht
  ·rename_i id k ht;obtain⟨k1,hx,e⟩:=af e;cases e;exact Wq hm ht hx
  ·rename_i l k ht;obtain⟨k1,hx,e⟩:=af e;cases e;exact ahx hm ht hx
  ·rename_i id ops k ht;cases e;exact CW hm ht
  grind
 ·exact Il OK e
section
def dE(P:Program)(ops:Array Oper)(i:Nat)(tm:Tr Value)(n:Nat)(h:Heap)(nx:Nat)(v:Value)(h':Heap)(nx':Nat):Prop:=
 ∀(ρ:Ren)(fr:Frame)(cs:List Frame)(w:World)(rest:List Nat)(k:List Item),fr.mode=.run->fr.todo=.inRegion ops (i::rest)::k->jm ρ tm n fr.tmps->bh ρ h w->(∀o,nx<=o->o<nx'->ρ o=none)->
  ∃ρ' v' w',Steps P (lone fr cs w) (lone {fr with tmps:=wF fr.tmps ((ops[i]?).bind (·.dst)) v',todo:=.inRegion ops rest::k} cs w')/\aF ρ' v v'/\bh ρ' h' w'/\bP ρ h nx w ρ' h' nx' w'
def AH(X:cJ)(ops:Array Oper)(tm:Tr Value)(h:Heap)(nx:Nat)(o:Oper):Option (Value×Heap×Nat):=
 ob (fU ops tm o) λb=>cond b (cond (mW o.op) none (ob (dr X h nx (jo tm) o) λout=>match out with
  | .val v h nx=>some (v,h,nx)
  | .skip h nx=>some (undef,h,nx)
  |_=>none)) (some (undef,h,nx))
variable{i:Nat} {ops:Array Oper}
theorem Eu{fr:Frame}{rest:List Nat}{k:List Item}(ht:fr.todo=.inRegion ops (i::rest)::k)(v:Value):
 fr.finish v={fr with tmps:=wF fr.tmps ((ops[i]?).bind (·.dst)) v,todo:=.inRegion ops rest::k}:=by
 simp[Frame.finish,ht];rfl
def dummy(n:Nat)(tm:Tr Value):cC:={fn:=0,n:=n,tmps:=tm,todo:=[],defers:=[],mode:=.run,kind:=.normal,roundOf:=none}
variable{P:Program} {X:cJ} {h h':Heap} {n nx nx':Nat} {o:Oper} {tm:Tr Value} {v:Value}
theorem ES(OK:ea P X)(ho:ops[i]? =some o)
 (e:AH X ops tm h nx o=some (v,h',nx')):dE P ops i tm n h nx v h' nx':=by
 intro ρ fr cs w rest k hm ht S H N;obtain⟨b,hb,e⟩:=af e;have hw:=AW (a:=dummy n tm) S hb;cases b with
 |false=>cases e;refine⟨ρ,undef,w,?_,De,H,bP.refl _ _ _ _⟩;rw[<-Eu ht];exact .one (WL hm ht ho hw)
 |true=>
  cases hdf:mW o.op with
  |true=>grind
  |false=>
   simp[hdf] at e;have hd:fr.roundOf=none\/∀c,o.op≠.defer c:=by right;intro c hc;rw[hc] at hdf;cases hdf
   have hg:=C9 (P:=P) (cs:=cs) (w:=w) hm ht ho hw hd;obtain⟨out,h1,e⟩:=af e;have fresh:∀q,nx<=q->q<out.top nx->ρ q=none:=by
    intro q q1 q2;refine N q q1 ?_;cases out<;>simp only[kG.top] at q2<;>try omega
    ·grind
    grind
   have OR:=AL OK H (xR (a:=dummy n tm) S) h1 fresh;cases out with
   |val v1 hh1 nx1=>cases e;obtain⟨ρ',v',w',r1,r2,r3,r4⟩:=OR;refine⟨ρ',v',w',?_,r2,r3,r4⟩;rw[<-Eu ht];exact .one (WM hg r1)
   |skip hh1 nx1=>cases e;obtain⟨ρ',w',r1,r3,r4⟩:=OR;refine⟨ρ',undef,w',?_,De,r3,r4⟩;rw[<-Eu ht];exact .one (WK hg r1)
   |enter _ _=>grind
   |round _ _=>grind
   |tP _=>grind
   |uy=>grind
   |uq _=>grind
def jl(P:Program)(f:FuncId)(args:List Value)(h:Heap)(nx:Nat)(v:Value)(h':Heap)(nx':Nat):Prop:=
 ∀(ρ:Ren)(args':Array Value)(cs:List Frame)(w:World),bk ρ args args'.toList->bh ρ h w->(∀o,nx<=o->o<nx'->ρ o=none)->
  ∃ρ' fr w' fn v',Steps P (lone (Frame.enter P f args' .normal) cs w) (lone fr cs w')/\fr.mode=.returning/\fr.defers=[]/\fr.kind=.normal/\(fr.fn=f/\P.funcs[fr.fn]? =some fn)/\(results fn fr.tmps).run P w'=.ok v' w'/\
   aF ρ' v v'/\bh ρ' h' w'/\bP ρ h nx w ρ' h' nx' w'
def qA(X:cJ)(f:FuncId)(m:AM):Option Value:=
 match m.fr.mode,m.fr.defers,m.fr.kind,m.cs with
 | .returning,[],.normal,[]=>cond (Nat.beq m.fr.fn f) (oN X m.h m.fr) none
 |_,_,_,_=>none
variable{args:List Value} {f:FuncId}
theorem B8(OK:ea P X){fr:cC}(he:jn X.F f args .normal=some fr){m:AM}(S:cG P ⟨fr,[],h,nx⟩ m)(hv:qA X f m=some v):
 jl P f args h nx v m.h m.nx:=by
 intro ρ args' cs w A H N;obtain⟨ρ',fr',cs',w',s1,F,C,H',M⟩:=S ρ _ [] cs w (AK OK.F A he) .nil H N;unfold qA at hv;split at hv
 ·rename_i h1 h2 h3 h4;rw[h4] at C;cases C;cases hb:Nat.beq m.fr.fn f with
  |false=>grind
  |true=>
  simp[hb] at hv;obtain⟨fn,v',g1,g2,g3⟩:=LY OK H' F hv;refine⟨ρ',fr',w',fn,v',s1,?_,?_,by rw[F.kind,h3],⟨by rw[F.fn];exact bJ hb,g1⟩,g2,g3,H',M⟩
  ·have:=F.mode;rw[h1] at this;exact this
  ·have FD:=F.defers;rw[h2] at FD;generalize fr'.defers=q at FD;cases FD;rfl
 grind
def DK(X:cJ)(ops:Array Oper)(tm:Tr Value)(h:Heap)(nx:Nat)(o:Oper):Option (FuncId×List Value):=
 ob (fU ops tm o) λb=>cond b (cond (mW o.op) none (ob (dr X h nx (jo tm) o) λout=>match out with
  | .enter f args=>some (f,args)
  |_=>none)) none
theorem Yk(OK:ea P X)(ho:ops[i]? =some o)
 (e:DK X ops tm h nx o=some (f,args)) (R:jl P f args h nx v h' nx'):dE P ops i tm n h nx v h' nx':=by
 intro ρ fr cs w rest k hm ht S H N;obtain⟨b,hb,e⟩:=af e;cases b with
 |false=>grind
 |true=>
  cases hdf:mW o.op with
  |true=>grind
  |false=>
   simp[hdf] at e;have hd:fr.roundOf=none\/∀c,o.op≠.defer c:=by right;intro c hc;rw[hc] at hdf;cases hdf
   obtain⟨out,h1,e⟩:=af e;cases out with
   |enter f1 args1=>cases e;obtain⟨args',r1,r2⟩:=(AL OK H (xR (a:=dummy n tm) S) h1 (λq q1 q2=>by simp only[kG.top] at q2;omega));obtain⟨ρ',fr',w',fn,v',s1,a1,a2,a3,a4,a5,a6,a7,a8⟩:=R ρ args' (fr::cs) w r2 H N;refine⟨ρ',v',w',?_,a6,a7,a8⟩;rw[<-Eu ht];exact .trans (.one (OU (C9 hm ht ho (AW (a:=dummy n tm) S hb) hd) ht r1)) (.trans s1 (.one (step_leave_returned ⟨a1,a2,a3,fn,a4.2,a5⟩)))
   |val _ _ _=>grind
   |skip _ _=>grind
   |round _ _=>grind
   |tP _=>grind
   |uy=>grind
   |uq _=>grind
end
section
structure HP(ρ:Ren)(G:Nat->eV->Prop)(w:World):Prop where
 obj:∀o ob,G o ob->∃L,ρ o=some L/\lh ρ w L ob
 inj:∀o o' L L' ob ob',G o ob->G o' ob'->ρ o=some L->ρ o'=some L'->L.block=L'.block->o=o'
 lit:∀b i v,ρ.lit b i=some v->fc w b i=some v
 free:∀b i v,ρ.lit b i=some v->∀o ob L,G o ob->ρ o=some L->L.block≠b
def Dw(ρ:Ren)(G:Nat->eV->Prop)(b:Nat):Prop:=∃o ob L,G o ob/\ρ o=some L/\L.block=b
structure lf(ρ:Ren)(G:Nat->eV->Prop)(lo hi:Nat)(w:World)(ρ':Ren)(G':Nat->eV->Prop)(w':World):Prop where
 os:w'.os=w.os
 tape:w'.tape=w.tape
 output:w'.output=w.output
 size:w.heap.size<=w'.heap.size
 block:∀b,b<w.heap.size->¬Dw ρ G b->w'.heap[b]? =w.heap[b]?
 owned:∀b,b<w.heap.size->Dw ρ' G' b->Dw ρ G b
 cq:∀o,o<lo\/hi<=o->ρ' o=ρ o
 lit:∀b i v,ρ.lit b i=some v->ρ'.lit b i=some v
 eU:∀b i v,ρ'.lit b i=some v->ρ.lit b i=some v\/w.heap.size<=b\/Dw ρ G b
theorem lf.refl(ρ:Ren)(G:Nat->eV->Prop)(lo hi:Nat)(w:World):lf ρ G lo hi w ρ G w:=
 ⟨rfl,rfl,rfl,aB _,λ_ _ _=>rfl,λ_ _ h=>h,λ_ _=>rfl,λ_ _ _ h=>h,λ_ _ _ h=>.inl h⟩
variable{G' G'':Nat->eV->Prop} {hi lo:Nat} {w w':World} {ρ ρ':Ren}
theorem lf.trans{ρ'':Ren}{G:Nat->eV->Prop}{w'':World}(a:lf ρ G lo hi w ρ' G' w')(b:lf ρ' G' lo hi w' ρ'' G'' w''):lf ρ G lo hi w ρ'' G'' w'' where
 os:=b.os.trans a.os
 tape:=b.tape.trans a.tape
 output:=b.output.trans a.output
 size:=eP a.size b.size
 block:=λk hk ho=>(b.block k (tb hk a.size) (λx=>ho (a.owned k hk x))).trans (a.block k hk ho)
 owned:=λk hk ho=>a.owned k hk (b.owned k (tb hk a.size) ho)
 cq:=λo ho=>by rw[b.cq o ho,a.cq o ho]
 lit:=λk i v h=>b.lit k i v (a.lit k i v h)
 eU:=λk i v h=>by
  rcases dg k w.heap.size with hk|hk
  ·rcases b.eU k i v h with h|h|h
   ·exact a.eU k i v h
   ·exact .inr (.inl (eP a.size h))
   ·exact .inr (.inr (a.owned k hk h))
  grind
theorem lf.Di{G:Nat->eV->Prop}{lo' hi':Nat}(a:lf ρ G lo hi w ρ' G' w')(h1:lo'<=lo)(h2:hi<=hi'):lf ρ G lo' hi' w ρ' G' w':=
 ⟨a.os,a.tape,a.output,a.size,a.block,a.owned,λo ho=>a.cq o (by omega),a.lit,a.eU⟩
theorem lf.less{G:Nat->eV->Prop}(a:lf ρ G lo hi w ρ' G' w')(h:∀o ob,G'' o ob->G' o ob):lf ρ G lo hi w ρ' G'' w':=
 ⟨a.os,a.tape,a.output,a.size,a.block,λb hb ⟨o,ob,L,h1,h2,h3⟩=>a.owned b hb ⟨o,ob,L,h _ _ h1,h2,h3⟩,a.cq,a.lit,a.eU⟩
theorem HP.less{G:Nat->eV->Prop}(a:HP ρ G w)(h:∀o ob,G' o ob->G o ob):HP ρ G' w:=
 ⟨λo ob x=>a.obj o ob (h _ _ x),λo o' L L' ob ob' x y=>a.inj o o' L L' ob ob' (h _ _ x) (h _ _ y),a.lit,λb i v hv o ob L ho hL=>a.free b i v hv o ob L (h _ _ ho) hL⟩
variable{h:Heap}
theorem HP.rel{G:Nat->eV->Prop}(a:HP ρ G w)(s:∀o ob,h.get o=some ob->G o ob):bh ρ h w:=
 ⟨λo ob ho=>a.obj o ob (s _ _ ho),λo o' L L' ob ob' h1 h2=>a.inj o o' L L' ob ob' (s _ _ h1) (s _ _ h2),a.lit,λb i v hv o ob L ho hL=>a.free b i v hv o ob L (s _ _ ho) hL⟩
theorem bh.hp{G:Nat->eV->Prop}(a:bh ρ h w)(s:∀o ob,G o ob->h.get o=some ob):HP ρ G w:=
 ⟨λo ob ho=>a.obj o ob (s _ _ ho),λo o' L L' ob ob' h1 h2=>a.inj o o' L L' ob ob' (s _ _ h1) (s _ _ h2),a.lit,λb i v hv o ob L ho hL=>a.free b i v hv o ob L (s _ _ ho) hL⟩
theorem vZ{G:Nat->eV->Prop}{h':Heap}{nx nx':Nat}(HG:HP ρ G w)(s:∀o ob,h.get o=some ob->G o ob)(H':bh ρ' h' w')(M:bP ρ h nx w ρ' h' nx' w')
 (N:∀o,nx<=o->o<nx'->ρ o=none):
 HP ρ' (λo ob=>h'.get o=some ob\/(G o ob/\h.get o=none)) w'/\lf ρ G nx nx' w ρ' (λo ob=>h'.get o=some ob\/(G o ob/\h.get o=none)) w':=by
 have E:=M.ext N;have apart:∀o ob L,G o ob->h.get o=none->ρ o=some L->¬gT ρ h L.block:=by intro o ob L g1 g2 g3 ⟨o1,ob1,L1,a1,a2,a3⟩;have:=HG.inj o1 o L1 L ob1 ob (s _ _ a1) g1 a2 g3 a3;simp_all
 have back:∀o ob L,G o ob->ρ' o=some L->ρ o=some L/\L.block<w.heap.size:=by intro o ob L g1 g2;obtain⟨M1,m1,m2⟩:=HG.obj o ob g1;cases(E.cq _ _ m1).symm.trans g2;exact⟨m1,m2.lt⟩
 refine⟨⟨?_,?_,H'.lit,?_⟩,⟨M.os,M.tape,M.output,M.size,?_,?_,M.cq,M.lit,?_⟩⟩
 ·intro o ob ho;rcases ho with ho|⟨g1,g2⟩
  ·exact H'.obj o ob ho
  ·obtain⟨L,l1,l2⟩:=HG.obj o ob g1;exact⟨L,E.cq _ _ l1,(l2.mono E).block (M.block _ l2.lt (apart o ob L g1 g2 l1))⟩
 ·intro o o' L L' ob ob' ho ho' r1 r2 hb;rcases ho with ho|⟨g1,g2⟩
  ·rcases ho' with ho'|⟨g1',g2'⟩
   ·exact H'.inj o o' L L' ob ob' ho ho' r1 r2 hb
   ·obtain⟨b1,b2⟩:=back _ _ _ g1' r2;exact absurd (M.owned _ b2 ⟨o,ob,L,ho,r1,hb⟩) (apart _ _ _ g1' g2' b1)
  ·obtain⟨b1,b2⟩:=back _ _ _ g1 r1;rcases ho' with ho'|⟨g1',g2'⟩
   ·exact absurd (M.owned _ b2 ⟨o',ob',L',ho',r2,hb.symm⟩) (apart _ _ _ g1 g2 b1)
   ·obtain⟨b1',b2'⟩:=back _ _ _ g1' r2;exact HG.inj o o' L L' ob ob' g1 g1' b1 b1' hb
 ·intro b i v hv o ob L ho hL;rcases ho with ho|⟨g1,g2⟩
  ·exact H'.free b i v hv o ob L ho hL
  ·obtain⟨b1,b2⟩:=back _ _ _ g1 hL;rcases M.eU b i v hv with h1|h1|h1
   ·exact HG.free b i v h1 o ob L g1 b1
   ·omega
   grind
 ·intro b hb ho;refine M.block b hb λ⟨o,ob,L,a1,a2,a3⟩=>ho ⟨o,ob,L,s _ _ a1,a2,a3⟩
 ·intro b hb ⟨o,ob,L,a1,a2,a3⟩;rcases a1 with a1|⟨g1,g2⟩
  ·obtain⟨o1,ob1,L1,c1,c2,c3⟩:=M.owned b hb ⟨o,ob,L,a1,a2,a3⟩;exact⟨o1,ob1,L1,s _ _ c1,c2,c3⟩
  ·exact⟨o,ob,L,g1,(back _ _ _ g1 a2).1,a3⟩
 ·intro b i v hv;rcases M.eU b i v hv with h1|h1|⟨o,ob,L,a1,a2,a3⟩
  ·grind
  ·grind
  ·exact .inr (.inr ⟨o,ob,L,s _ _ a1,a2,a3⟩)
def mH(N:Nat)(A:Nat->Nat->Prop):(Nat->Prop)->List Nat->Prop
 |done,[]=>∀i,i<N->done i
 |done,i::rest=>i<N/\¬done i/\(∀j,A i j->done j)/\mH N A (λx=>done x\/x=i) rest
structure Can(P:Program)(ops:Array Oper)(ix:Nat->Nat)(n:Nat)(tm0 gX:Tr Value)(N:Nat)(A:Nat->Nat->Prop) where
 K:Nat->Nat
 H:Nat->Heap
 X:Nat->Nat
 V:Nat->Value
 Tm:Nat->Tr Value
 B:Nat->eV
 mono:∀i,i<N->X i<=X (i+1)
 kinds:∀i,i<N->K i=0\/K i=1\/K i=2
 quiet:∀i,i<N->K i=0->(∀o ob,(H (i+1)).get o=some ob->(H i).get o=some ob)/\
  ∀p,p<=N->(p=0\/K (p -1)=2)->(∀j,j<N->K j=2->A i j->j<p)->(∀j,j<N->K j=2->A j i->p<=j)->dE P ops (ix i) (Tm i) n (H p) (X i) (V i) (H p) (X i)
 alloc:∀i,i<N->K i=1->(∀o ob,(H (i+1)).get o=some ob->(H i).get o=some ob\/(o=X i/\ob=B i))/\
  dE P ops (ix i) (Tm i) n .nil (X i) (V i) (Tr.nil.set (X i) (B i)) (X (i+1))
 apart:∀p a,p<=a->a<N->K a=1->(H p).get (X a)=none
 ET:∀i,i<N->K i=2->dE P ops (ix i) (Tm i) n (H i) (X i) (V i) (H (i+1)) (X (i+1))
 total:∀i j,i<j->j<N->K i=2->K j=2->A j i
 first:∀a j,a<j->j<N->K a=1->K j=2->A j a
 reads:∀i,i<N->∀(t:Nat)(u:Value),(Tm i).get t=some u->(∃j,j<N/\(ops[ix j]?).bind (·.dst)=some t/\V j=u/\A i j)\/((∀j,j<N->(ops[ix j]?).bind (·.dst)=some t->j=i\/A j i)/\tm0.get t=some u)
 once:∀(i j t:Nat),i<N->j<N->(ops[ix i]?).bind (·.dst)=some t->(ops[ix j]?).bind (·.dst)=some t->i=j
 cW:∀(i t:Nat),i<N->(ops[ix i]?).bind (·.dst)=some t->t<n
 final:∀(t:Nat)(u:Value),gX.get t=some u->(∃j,j<N/\(ops[ix j]?).bind (·.dst)=some t/\V j=u)\/((∀j,j<N->(ops[ix j]?).bind (·.dst)≠some t)/\tm0.get t=some u)
section
variable{P:Program} {ops:Array Oper} {ix:Nat->Nat} {n:Nat} {tm0 gX:Tr Value} {N:Nat} {A:Nat->Nat->Prop} (C:Can P ops ix n tm0 gX N A)
def Can.G(done:Nat->Prop)(p:Nat)(o:Nat)(ob:eV):Prop:=
 (C.H p).get o=some ob\/∃a,a<N/\done a/\C.K a=1/\p<=a/\o=C.X a/\ob=C.B a
def Can.TM(done:Nat->Prop)(t:Nat)(u:Value):Prop:=
 (∃j,j<N/\done j/\(ops[ix j]?).bind (·.dst)=some t/\C.V j=u)\/((∀j,j<N->done j->(ops[ix j]?).bind (·.dst)≠some t)/\tm0.get t=some u)
structure Can.Inv(done:Nat->Prop)(p:Nat)(ρ0:Ren)(w0:World)(ρ:Ren)(tmps:Array Value)(w:World):Prop where
 size:tmps.size=n
 slot:∀t u,C.TM done t u->∃u',tmps[t]? =some u'/\aF ρ u u'
 hp:HP ρ (C.G done p) w
 fresh:∀i,i<N->¬done i->∀o,C.X i<=o->o<C.X (i+1)->ρ o=none
 yO:lf ρ0 (λo ob=>(C.H 0).get o=some ob) (C.X 0) (C.X N) w0 ρ (C.G done p) w
 pos:p<=N
 at':p=0\/C.K (p -1)=2
 pY:∀j,j<N->C.K j=2->(done j↔j<p)
 PN:∀a,a<p->a<N->C.K a=1->done a
variable{i:Nat}
theorem Can.py{j:Nat}(h:i<=j)(hj:j<=N):C.X i<=C.X j:=by
 induction j with
 |zero=>grind
 |succ j ih=>
  rcases dg i (j+1) with h1|h1
  ·exact eP (ih (by omega) (by omega)) (C.mono j (by omega))
  grind
variable{p:Nat}
theorem Can.span{q:Nat}(hq:q<=N)(h:∀i,p<=i->i<q->C.K i≠2)(hpq:p<=q){o:Nat}{ob:eV}(ho:(C.H q).get o=some ob):
 (C.H p).get o=some ob\/∃a,a<N/\p<=a/\a<q/\C.K a=1/\o=C.X a/\ob=C.B a:=by
 induction q with
 |zero=>grind
 |succ q ih=>
  rcases dg p (q+1) with h1|h1
  ·have step:(C.H q).get o=some ob\/(C.K q=1/\o=C.X q/\ob=C.B q):=by
    rcases C.kinds q (by omega) with hk|hk|hk
    ·exact .inl ((C.quiet q (by omega) hk).1 _ _ ho)
    ·rcases(C.alloc q (by omega) hk).1 _ _ ho with x|⟨x,y⟩
     ·grind
     grind
    grind
   grind
  grind
theorem LQ(tmps:Array Value)(d:Option Nat)(v:Value):(wF tmps d v).size=tmps.size:=by cases d<;>simp[wF]
variable{k:List Item}
theorem Can.one{done:Nat->Prop}{ρ0:Ren}{w0:World}{fr:Frame}(I:C.Inv done p ρ0 w0 ρ fr.tmps w){rest:List Nat}(hm:fr.mode=.run)(ht:fr.todo=.inRegion ops (ix i::rest)::k)
 (hi:i<N) (hd:¬done i) (hA:∀j,A i j->done j) (closed:∀j,j<N->done j->∀l,A j l->done l) (cs:List Frame):
 ∃p' ρ' tmps' w',Steps P (lone fr cs w) (lone {fr with tmps:=tmps',todo:=.inRegion ops rest::k} cs w')/\C.Inv (λx=>done x\/x=i) p' ρ0 w0 ρ' tmps' w':=by
 have S:jm ρ (C.Tm i) n fr.tmps:=by
  refine⟨I.size,λt u hu=>I.slot t u ?_⟩;rcases C.reads i hi t u hu with⟨j,j1,j2,j3,j4⟩|⟨h1,h2⟩
  ·exact .inl ⟨j,j1,hA j j4,j2,j3⟩
  ·refine .inr ⟨λj j1 j2 j3=>?_,h2⟩;rcases h1 j j1 j3 with rfl|hx<;>grind
 have hhi:∀j,j<N->C.K j=2->A j i->p<=j:=λj j1 j2 j3=>by
  rcases dg j p with h|h
  ·exact absurd (closed j j1 ((I.pY j j1 j2).2 h) i j3) hd
  ·exact h
 have cW:∀{ρ':Ren}{v':Value},Ext ρ ρ'->aF ρ' (C.V i) v'->∀t u,C.TM (λx=>done x\/x=i) t u->∃u',(wF fr.tmps ((ops[ix i]?).bind (·.dst)) v')[t]? =some u'/\aF ρ' u u':=by
  intro ρ' v' E r t u hu;by_cases hdt:(ops[ix i]?).bind (·.dst)=some t
  ·have hu':u=C.V i:=by
    rcases hu with⟨j,j1,j2,j3,j4⟩|⟨h1,_⟩
    ·have:=C.once i j t hi j1 hdt j3;subst this;exact j4.symm
    ·exact absurd hdt (h1 i hi (.inr rfl))
   subst hu';refine⟨v',?_,r⟩;rw[hdt];show(fr.tmps.setIfInBounds t v')[t]? =some v';have:=C.cW i t hi hdt;have:=I.size;rw[Array.getElem?_setIfInBounds_self_of_lt (by omega)]
  ·have hu':C.TM done t u:=by
    rcases hu with⟨j,j1,j2,j3,j4⟩|⟨h1,h2⟩
    ·rcases j2 with j2|rfl
     ·exact .inl ⟨j,j1,j2,j3,j4⟩
     ·exact absurd j3 hdt
    ·exact .inr ⟨λj j1 j2=>h1 j j1 (.inl j2),h2⟩
   obtain⟨u',a,b⟩:=I.slot t u hu';refine⟨u',?_,b.mono E⟩;unfold wF;split
   ·rename_i d hd';rw[Array.getElem?_setIfInBounds_ne (λh=>hdt (by rw[hd',h]))];exact a
   ·exact a
 have fresh:∀{ρ':Ren},(∀o,o<C.X i\/C.X (i+1)<=o->ρ' o=ρ o)->∀j,j<N->¬(done j\/j=i)->∀o,C.X j<=o->o<C.X (j+1)->ρ' o=none:=by
  intro ρ' hr j j1 j2 o o1 o2;have ne:j≠i:=λh=>j2 (.inr h);rw[hr o ?_]
  ·exact I.fresh j j1 (λh=>j2 (.inl h)) o o1 o2
  ·rcases dg j i with h|h
   ·left;have:=C.py (i:=j+1) (j:=i) (by omega) (by omega);omega
   ·right;have:=C.py (i:=i+1) (j:=j) (by omega) (by omega);omega
 have x0:=C.py (i:=0) (j:=i) (by omega) (by omega);have xN:=C.py (i:=i+1) (j:=N) (by omega) (by omega);rcases C.kinds i hi with hk|hk|hk
 ·
  obtain⟨_,q⟩:=C.quiet i hi hk;have q:=q p I.pos I.at' (λj j1 j2 j3=>(I.pY j j1 j2).1 (hA j j3)) hhi;obtain⟨ρ',v',w',s1,r1,H1,M1⟩:=q ρ fr cs w rest k hm ht S (I.hp.rel λo ob ho=>.inl ho) (λo a b=>by omega);have E:=M1.ext (λo a b=>by omega);obtain⟨f1,f2⟩:=vZ I.hp (λo ob ho=>.inl ho) H1 M1 (λo a b=>by omega);have sub:∀o ob,C.G (λx=>done x\/x=i) p o ob->(C.H p).get o=some ob\/(C.G done p o ob/\(C.H p).get o=none):=by
   intro o ob g;rcases g with g|⟨a,a1,a2,a3,a4,a5,a6⟩
   ·exact .inl g
   ·have:done a:=by
     rcases a2 with a2|rfl<;>omega
    exact .inr ⟨.inr ⟨a,a1,this,a3,a4,a5,a6⟩,by rw[a5];exact C.apart p a a4 a1 a3⟩
  refine⟨p,ρ',_,w',s1,⟨by rw[LQ];exact I.size,cW E r1,f1.less sub,fresh (λo ho=>M1.cq o (by have:=C.mono i hi;omega)),I.yO.trans ((f2.less sub).Di (by omega) (by have:=C.mono i hi;omega)),I.pos,I.at',?_,?_⟩⟩
  ·intro j j1 j2;constructor
   ·rintro (h|rfl)
    ·exact(I.pY j j1 j2).1 h
    ·omega
   ·intro h;exact .inl ((I.pY j j1 j2).2 h)
  ·intro a a1 a2 a3;exact .inl (I.PN a a1 a2 a3)
 ·
  obtain⟨_,q⟩:=C.alloc i hi hk;have H0:=I.hp.rel λo ob ho=>(by rw[Tr.get_nil] at ho;cases ho);have N0:=I.fresh i hi hd;obtain⟨ρ',v',w',s1,r1,H1,M1⟩:=q ρ fr cs w rest k hm ht S H0 N0;obtain⟨f1,f2⟩:=vZ I.hp (λo ob ho=>by rw[Tr.get_nil] at ho;cases ho) H1 M1 N0;have sub:∀o ob,C.G (λx=>done x\/x=i) p o ob->(Tr.nil.set (C.X i) (C.B i)).get o=some ob\/(C.G done p o ob/\(Tr.nil:Heap).get o=none):=by
   intro o ob g;rcases g with g|⟨a,a1,a2,a3,a4,a5,a6⟩
   ·exact .inr ⟨.inl g,Tr.get_nil _⟩
   ·rcases a2 with a2|rfl
    ·exact .inr ⟨.inr ⟨a,a1,a2,a3,a4,a5,a6⟩,Tr.get_nil _⟩
    ·left;rw[Tr.bD,ar a5,a6]
  refine⟨p,ρ',_,w',s1,⟨by rw[LQ];exact I.size,cW (M1.ext N0) r1,f1.less sub,fresh M1.cq,I.yO.trans ((f2.less sub).Di (by omega) (by omega)),I.pos,I.at',?_,?_⟩⟩
  ·intro j j1 j2;constructor
   ·rintro (h|rfl)
    ·exact(I.pY j j1 j2).1 h
    ·omega
   ·intro h;exact .inl ((I.pY j j1 j2).2 h)
  ·intro a a1 a2 a3;exact .inl (I.PN a a1 a2 a3)
 ·
  have q:=C.ET i hi hk;have hip:p<=i:=by
   rcases dg i p with h|h
   ·exact absurd ((I.pY i hi hk).2 h) hd
   ·exact h
  have gap:∀j,p<=j->j<i->C.K j≠2:=by intro j j1 j2 j3;have:=(I.pY j (by omega) j3).1 (hA j (C.total j i j2 hi j3 hk));omega
  have sH:∀o ob,(C.H i).get o=some ob->C.G done p o ob:=by
   intro o ob ho;rcases C.span (by omega) gap hip ho with z|⟨a,a1,a2,a3,a4,a5,a6⟩
   ·exact .inl z
   ·exact .inr ⟨a,a1,hA a (C.first a i a3 hi a4 hk),a4,a2,a5,a6⟩
  have Hi:=I.hp.rel sH;have N0:=I.fresh i hi hd;obtain⟨ρ',v',w',s1,r1,H1,M1⟩:=q ρ fr cs w rest k hm ht S Hi N0;have E:=M1.ext N0;obtain⟨f1,f2⟩:=vZ I.hp sH H1 M1 N0;have sub:∀o ob,C.G (λx=>done x\/x=i) (i+1) o ob->(C.H (i+1)).get o=some ob\/(C.G done p o ob/\(C.H i).get o=none):=by
   intro o ob g;rcases g with g|⟨a,a1,a2,a3,a4,a5,a6⟩
   ·exact .inl g
   ·have:done a:=by
     rcases a2 with a2|rfl<;>omega
    exact .inr ⟨.inr ⟨a,a1,this,a3,by omega,a5,a6⟩,by rw[a5];exact C.apart i a (by omega) a1 a3⟩
  refine⟨i+1,ρ',_,w',s1,⟨by rw[LQ];exact I.size,cW E r1,f1.less sub,fresh M1.cq,I.yO.trans ((f2.less sub).Di (by omega) (by omega)),by omega,.inr (by simpa using hk),?_,?_⟩⟩
  ·intro j j1 j2;constructor
   ·rintro (h|rfl)
    ·have:=(I.pY j j1 j2).1 h;omega
    ·omega
   ·intro h;rcases dg j i with h1|h1
    ·exact .inl (hA j (C.total j i h1 hi j2 hk))
    ·exact .inr (by omega)
  ·intro a a1 a2 a3;rcases dg a i with h1|h1
   ·exact .inl (hA a (C.first a i h1 hi a3 hk))
   ·exact .inr (by omega)
theorem Can.all:∀(σ:List Nat)(done:Nat->Prop),mH N A done σ->(∀j,j<N->done j->∀l,A j l->done l)->∀{p:Nat}{ρ0:Ren}{w0:World}{ρ:Ren}{fr:Frame}{w:World}(_:C.Inv done p ρ0 w0 ρ fr.tmps w){k:List Item}(_:fr.mode=.run)(_:fr.todo=.inRegion ops (σ.map ix)::k)(cs:List Frame),
 ∃p' ρ' tmps' w' done',Steps P (lone fr cs w) (lone {fr with tmps:=tmps',todo:=.inRegion ops []::k} cs w')/\C.Inv done' p' ρ0 w0 ρ' tmps' w'/\∀i,i<N->done' i
 |[],done,L,_,p,ρ0,w0,ρ,fr,w,I,k,hm,ht,cs=>⟨p,ρ,fr.tmps,w,done,by have ht':fr.todo=.inRegion ops []::k:=ht;rw[<-ht'];exact .refl _ _,I,L⟩
 |i::rest,done,L,cl,p,ρ0,w0,ρ,fr,w,I,k,hm,ht,cs=>by
  obtain⟨l1,l2,l3,l4⟩:=L;obtain⟨p1,ρ1,t1,w1,s1,I1⟩:=C.one I hm ht l1 l2 l3 cl cs;obtain⟨p2,ρ2,t2,w2,d2,s2,I2,h2⟩:=Can.all rest _ l4 (λj j1 j2 l hl=>by
   rcases j2 with j2|rfl
   ·grind
   ·exact .inl (l3 l hl)) (fr:={fr with tmps:=t1,todo:=.inRegion ops (rest.map ix)::k}) I1 hm rfl cs
  exact⟨p2,ρ2,t2,w2,d2,s1.trans s2,I2,h2⟩
theorem Can.region{σ:List Nat}(L:mH N A (λ_=>False) σ){fr:Frame}(hm:fr.mode=.run)(ht:fr.todo=.inRegion ops (σ.map ix)::k)(S:jm ρ tm0 n fr.tmps)(H:bh ρ (C.H 0) w)
 (F:∀o,C.X 0<=o->o<C.X N->ρ o=none) (cs:List Frame):
 ∃ρ' tmps' w',Steps P (lone fr cs w) (lone {fr with tmps:=tmps',todo:=.inRegion ops []::k} cs w')/\jm ρ' gX n tmps'/\bh ρ' (C.H N) w'/\bP ρ (C.H 0) (C.X 0) w ρ' (C.H N) (C.X N) w':=by
 have I0:C.Inv (λ_=>False) 0 ρ w ρ fr.tmps w:=by
  have e:∀o ob,C.G (λ_=>False) 0 o ob↔(C.H 0).get o=some ob:=by
   intro o ob;constructor
   ·rintro (h|⟨a,_,h,_⟩)
    ·grind
    grind
   ·exact .inl
  refine⟨S.1,?_,H.hp λo ob h=>(e _ _).1 h,?_,(lf.refl _ _ _ _ _).less λo ob h=>(e _ _).1 h,gZ _,.inl rfl,?_,by omega⟩
  ·intro t u hu;rcases hu with⟨j,_,h,_⟩|⟨_,h⟩
   ·grind
   ·exact S.2 t u h
  ·intro i hi _ o o1 o2;have:=C.py (i:=0) (j:=i) (by simp) (by omega);have:=C.py (i:=i+1) (j:=N) (by omega) (by simp)
   grind
  simp
 obtain⟨p,ρ',tmps',w',done,s1,I,hall⟩:=C.all σ _ L (λ_ _ h=>h.elim) I0 hm ht cs;have sH:∀o ob,(C.H N).get o=some ob->C.G done p o ob:=by
  intro o ob ho;rcases C.span (aB _) (λi i1 i2 hk=>by have:=(I.pY i i2 hk).1 (hall i i2);omega) I.pos ho with z|⟨a,a1,a2,a3,a4,a5,a6⟩
  ·exact .inl z
  ·exact .inr ⟨a,a1,hall a a1,a4,a2,a5,a6⟩
 refine⟨ρ',tmps',w',s1,⟨I.size,?_⟩,I.hp.rel sH,?_⟩
 ·intro t u hu;refine I.slot t u ?_;rcases C.final t u hu with⟨j,j1,j2,j3⟩|⟨h1,h2⟩
  ·exact .inl ⟨j,j1,hall j j1,j2,j3⟩
  ·exact .inr ⟨λj j1 _=>h1 j j1,h2⟩
 ·have M:=I.yO.less sH;exact⟨M.os,M.tape,M.output,M.size,λb hb ho=>M.block b hb ho,λb hb ho=>M.owned b hb ho,C.py (gZ _) (aB _),M.cq,M.lit,M.eU⟩
end
end
section
def Bd(o:Oper):List Nat:=(o.after.toList.filter (Region.binds .any)).map (·.on)
def BK(ms:List Nat):List Nat->Nat
 |[]=>0
 |j::js=>Nat.lor (Nat.lor (Nat.shiftLeft 1 j) (ms.getD j 0)) (BK ms js)
def mh:List Oper->List Nat->List Nat
 |[],ms=>ms
 |o::os,ms=>mh os (ms++[BK ms (Bd o)])
def bit(ms:List Nat)(i j:Nat):Bool:=Nat.testBit (ms.getD i 0) j
theorem aic(j l:Nat):Nat.testBit (Nat.shiftLeft 1 j) l=decide (j=l):=by show Nat.testBit (1<<<j) l=_;rw[Nat.one_shiftLeft,Nat.testBit_two_pow]
def IQ(es:Nat->List Nat)(ms:List Nat):Prop:=
 ∀i l,bit ms i l=true->∀D:Nat->Prop,(∀a,D a->∀b∈es a,D b)->(∀b∈es i,D b)->D l
variable{es:Nat->List Nat}
theorem SK{ms:List Nat}(H:IQ es ms)(D:Nat->Prop)(cl:∀a,D a->∀b∈es a,D b):∀js:List Nat,(∀b∈js,D b)->∀l,Nat.testBit (BK ms js) l=true->D l
 |[],_,l,h=>by simp[BK] at h
 |j::js,hj,l,h=>by
  unfold BK at h;have e:∀a b:Nat,Nat.lor a b=a|||b:=λ_ _=>rfl;rw[e,e,Nat.testBit_or,Nat.testBit_or,aic] at h;simp at h;rcases h with(rfl|h)|h
  ·grind
  ·exact H j l h D cl (cl j (hj j (by simp)))
  ·exact SK H D cl js (λb hb=>hj b (by grind)) l h
theorem SM:∀(os:List Oper)(ms:List Nat),IQ es ms->(∀i o,os[i]? =some o->Bd o=es (ms.length+i))->IQ es (mh os ms)
 |[],ms,H,_=>H
 |o::os,ms,H,he=>by
  refine SM os _ ?_ λi o' hi=>?_
  ·intro i l hl D cl hi;unfold bit at hl;rw[Ao] at hl;rcases Ap i ms.length with h|h|h
   ·rw[uU h] at hl;exact H i l (by unfold bit;rw[Ao];exact hl) D cl hi
   ·subst h;simp_all;have:=he 0 o (by simp);exact SK H D cl _ (by grind) l hl
   grind
  ·have:=he (i+1) o' (by grind)
   grind
def jN(ops:Array Oper)(i j:Nat):Prop:=bit (mh ops.toList []) i j=true
def pP(ops:Array Oper)(i:Nat):List Nat:=match ops[i]? with
 |some o=>Bd o
 |none=>[]
variable{i l:Nat}
theorem S7(ops:Array Oper)(h:jN ops i l)(D:Nat->Prop)(cl:∀a,D a->∀b∈pP ops a,D b)(hi:∀b∈pP ops i,D b):D l:=by
 refine SM ops.toList [] ?_ ?_ i l h D cl hi
 ·intro i l hl;simp[bit] at hl
 ·intro i o ho;have:ops[i]? =some o:=by rw[<-kB];exact ho
  simp[pP,this]
def AX(ops:Array Oper):Prop:=∀i,i<ops.size->∀b∈pP ops i,b<i
variable{ops:Array Oper}
theorem yP(B:AX ops)(hi:i<ops.size)(h:jN ops i l):l<i:=by
 refine S7 ops h (λx=>x<i) ?_ (λb hb=>B i hi b hb)
 ·intro a ha b hb;have:=B a (by omega) b hb;omega
variable{listed:Array Bool}
theorem LW:i∈Region.ready .any ops listed↔i<ops.size/\listed.getD i true=false/\∀b∈pP ops i,listed.getD b false=true:=by
 unfold Region.ready;rw[oE,List.mem_range];constructor
 ·rintro ⟨h1,h2⟩
  simp only[bg,sZ] at h2;refine⟨h1,h2.1,?_⟩;have ho:=uS h1;rw[ho] at h2;simp only[Option.map_some,te,Array.all_eq_true'] at h2;intro b hb;unfold pP at hb;rw[ho] at hb;simp[Bd] at hb
  grind
 ·rintro ⟨h1,h2,h3⟩
  refine⟨h1,?_⟩;have ho:=uS h1;simp only[bg,sZ];refine⟨h2,?_⟩;rw[ho];simp only[Option.map_some,te,Array.all_eq_true'];intro e he;cases hb:Region.binds .any e with
  |false=>rfl
  |true=>
   have:=h3 e.on (by
    unfold pP;rw[ho];simp[Bd];exact⟨e,⟨by simpa using he,hb⟩,rfl⟩)
   grind
def count(listed:Array Bool):Nat:=(listed.toList.filter (·==false)).length
theorem count_set(h:listed.getD i true=false):count (listed.setIfInBounds i true)+1=count listed:=by
 unfold count;rw[Array.toList_setIfInBounds];have hg:listed.toList[i]? =some false:=by
  rw[xj] at h;cases hx:listed[i]? with
  |none=>grind
  |some b=>grind
 generalize listed.toList=l at hg;clear h;induction l generalizing i with
 |nil=>grind
 |cons b l ih=>
  cases i with
  |zero=>grind
  |succ i=>grind
theorem Sz(B:AX ops):∀(fuel t:Nat)(listed:Array Bool)(done:Nat->Prop),listed.size=ops.size->(∀i,i<ops.size->(done i↔listed.getD i false=true))->(∀i,done i->i<ops.size)->
 (∀a,done a->∀b∈pP ops a,done b)->count listed<=fuel->mH ops.size (jN ops) done (Region.linearise.go .any ops fuel t listed [])
 |fuel,t,listed,done,hs,hd,hb,cl,hc=>by
  have hgd:∀i,i<ops.size->(listed.getD i true=listed.getD i false):=by intro i hi;rw[xj,xj,uS (by omega)];rfl
  have none_ready:Region.ready .any ops listed=[]->∀i,i<ops.size->done i:=by
   intro h;intro i;induction i using Nat.strongRecOn with
   |ind i ih=>
    intro hi;by_cases hdi:done i
    ·exact hdi
    ·exfalso;have:i∈Region.ready .any ops listed:=by
      rw[LW];refine⟨hi,?_,?_⟩
      ·rw[hgd i hi];cases hx:listed.getD i false with
       |false=>rfl
       |true=>exact absurd ((hd i hi).2 hx) hdi
      ·intro b hb';have hlt:=B i hi b hb';exact(hd b (by omega)).1 (ih b hlt (by omega))
     rw[h] at this;cases this
  cases fuel with
  |zero=>
   refine none_ready ?_;cases hr:Region.ready .any ops listed with
   |nil=>rfl
   |cons x xs=>
    have hx:x∈Region.ready .any ops listed:=by rw[hr];simp
    rw[LW] at hx;have:=count_set hx.2.1;omega
  |succ fuel=>
   change mH ops.size (jN ops) done (match(Region.ready .any ops listed)[t%(Region.ready .any ops listed).length]? with
    |some i=>Region.linearise.go .any ops fuel (t/(Region.ready .any ops listed).length) (listed.setIfInBounds i true) [i]
    |none=>[].reverse)
   cases hi:(Region.ready .any ops listed)[t%(Region.ready .any ops listed).length]? with
   |none=>
    have hnil:Region.ready .any ops listed=[]:=by
     cases hr:Region.ready .any ops listed with
     |nil=>rfl
     |cons x xs=>rw[hr] at hi;have hlt:t%(x::xs).length<(x::xs).length:=Nat.mod_lt _ (by simp);simp at hi;simp at hlt;omega
    exact none_ready hnil
   |some i=>
    have hm:=qv hi;rw[LW] at hm;obtain⟨m1,m2,m3⟩:=hm;simp;rw[linearise_go_acc];have nd:¬done i:=λh=>by have:=(hd i m1).1 h;rw[<-hgd i m1,m2] at this;cases this
    have de:=λb hb'=>(hd b (by have:=B i m1 b hb';omega)).2 (m3 b hb');refine⟨m1,nd,λj hj=>S7 ops hj done cl de,?_⟩;refine Sz B fuel _ _ _ (by simpa using hs) ?_ ?_ ?_ ?_
    ·intro x hx;rw[xj,Array.getElem?_setIfInBounds];by_cases e:i=x
     ·subst e;simp_all
     ·rw[ai e,<-xj];rw[<-hd x hx];constructor
      ·rintro (h|rfl)
       ·exact h
       ·exact absurd rfl e
      ·exact .inl
    ·rintro x (h|rfl)
     ·exact hb x h
     ·exact m1
    ·rintro a (h|rfl) b hb'
     ·exact .inl (cl a h b hb')
     ·exact .inl (de b hb')
    ·have:=count_set m2;omega
theorem aaU{P:Program}(hm:P.follows .mixedOrders=true)(B:AX ops)(t:Nat):mH ops.size (jN ops) (λ_=>False) (Region.schedule (P.follows .mixedOrders) ops t):=by
 simp_all;refine Sz B _ _ _ _ (by simp) (by simp_all) (λ_ h=>h.elim) (λ_ h=>h.elim) ?_
 ·unfold count;simp
theorem SA{N:Nat}{A:Nat->Nat->Prop}{ix pos:Nat->Nat}(h1:∀x,x<N->pos x<N/\ix (pos x)=x)(h2:∀i,i<N->ix i<N/\pos (ix i)=i):
 ∀(σ:List Nat)(done D:Nat->Prop),(∀p,p<N->(D p↔done (ix p)))->mH N A done σ->mH N (λi j=>j<N/\A (ix i) (ix j)) D (σ.map pos)
 |[],done,D,hD,L=>λi hi=>(hD i hi).2 (L _ (h2 i hi).1)
 |i::rest,done,D,hD,L=>by
  obtain⟨l1,l2,l3,l4⟩:=L;obtain⟨p1,p2⟩:=h1 i l1;refine⟨p1,λh=>l2 (by have:=(hD _ p1).1 h;rwa[p2] at this),λj hj=>?_,?_⟩
  ·obtain⟨j1,j2⟩:=hj;rw[p2] at j2;exact(hD j j1).2 (l3 _ j2)
  ·refine SA h1 h2 rest _ _ (λp hp=>?_) l4;constructor
   ·rintro (h|rfl)
    ·exact .inl ((hD p hp).1 h)
    ·exact .inr p2
   ·rintro (h|h)
    ·exact .inl ((hD p hp).2 h)
    ·exact .inr (by rw[<-h];exact(h2 p hp).2.symm)
end
section
def looks(ops:Array Oper)(o:Oper):List Nat:=
 (o.op.operands.toList.filterMap λx=>match x with| .tmp t=>some t|_=>none)++(match o.guard with|some (g,_)=>((ops[g]?).bind (·.dst)).toList|none=>[])
def only(tm:Tr Value):List Nat->Tr Value->Tr Value
 |[],acc=>acc
 |t::ts,acc=>match tm.get t with
  |some v=>only tm ts (acc.set t v)
  |none=>only tm ts acc
variable{tm:Tr Value}
theorem yW:∀(ts:List Nat)(acc:Tr Value)(t:Nat)(u:Value),(only tm ts acc).get t=some u->(t∈ts/\tm.get t=some u)\/acc.get t=some u
 |[],_,_,_,h=>.inr h
 |x::xs,acc,t,u,h=>by
  unfold only at h;cases hx:tm.get x with
  |none=>rw[hx] at h;rcases yW xs acc t u h with⟨a,b⟩|a<;>grind
  |some v=>
   rw[hx] at h;rcases yW xs (acc.set x v) t u h with⟨a,b⟩|a
   ·grind
   ·rw[Tr.bD] at a
    grind
def fM(tm:Tr Value)(d:Option Nat)(v:Value):Tr Value:=
 match d with
 |some d=>tm.set d v
 |none=>tm
structure Rec where
 k:Nat
 tm:Tr Value
 h:Heap
 nx:Nat
 v:Value
 b:eV
def iA:List Rec->Heap->Nat->Heap
 |[],hF,_=>hF
 |r::_,_,0=>r.h
 |_::rs,hF,i+1=>iA rs hF i
def oC:List Rec->Nat->Nat->Nat
 |[],nF,_=>nF
 |r::_,_,0=>r.nx
 |_::rs,nF,i+1=>oC rs nF i
variable{P:Program} {h h':Heap} {i n nx nx':Nat} {ops:Array Oper} {v:Value}
theorem dE.less{h'':Heap}(H:dE P ops i tm n h nx v h' nx')(s:∀o ob,h''.get o=some ob->h'.get o=some ob):dE P ops i tm n h nx v h'' nx':=by intro ρ fr cs w rest k hm ht S Hh N;obtain⟨ρ',v',w',a,b,c,M⟩:=H ρ fr cs w rest k hm ht S Hh N;exact⟨ρ',v',w',a,b,c.sub s,⟨M.os,M.tape,M.output,M.size,M.block,λb hb ⟨o,ob,L,x,y,z⟩=>M.owned b hb ⟨o,ob,L,s _ _ x,y,z⟩,M.le,M.cq,M.lit,M.eU⟩⟩
theorem dE.over(H:dE P ops i tm n .nil nx v h' nx)(h:Heap):dE P ops i tm n h nx v h nx:=by intro ρ fr cs w rest k hm ht S Hh N;obtain⟨ρ',v',w',a,b,c,M⟩:=H ρ fr cs w rest k hm ht S (Hh.sub λo ob ho=>(by rw[Tr.get_nil] at ho;cases ho)) N;obtain⟨f1,f2⟩:=vZ (Hh.hp λ_ _ x=>x) (λo ob ho=>(by rw[Tr.get_nil] at ho;cases ho)) c M N;have sub:∀o ob,h.get o=some ob->h'.get o=some ob\/(h.get o=some ob/\(Tr.nil:Heap).get o=none):=λo ob ho=>.inr ⟨ho,Tr.get_nil _⟩;have g2:=f2.less sub;exact⟨ρ',v',w',a,b,(f1.less sub).rel λ_ _ x=>x,⟨g2.os,g2.tape,g2.output,g2.size,g2.block,g2.owned,aB _,g2.cq,g2.lit,g2.eU⟩⟩
def xf(rs:List Rec)(i:Nat):Value:=((rs[i]?).map (·.v)).getD undef
def xH(os:List Oper)(rs:List Rec)(tm:Tr Value)(i:Nat)(tmi:Tr Value):Prop:=
 ∀(t:Nat)(u:Value),tmi.get t=some u->(∃j,j<i/\(os[j]?).bind (·.dst)=some t/\xf rs j=u)\/((∀j,j<i->(os[j]?).bind (·.dst)≠some t)/\tm.get t=some u)
theorem xH.cons{os:List Oper}{rs:List Rec}{o:Oper}{r:Rec}{tmi:Tr Value}(h:xH os rs (fM tm o.dst r.v) i tmi):xH (o::os) (r::rs) tm (i+1) tmi:=by
 intro t u hu;rcases h t u hu with⟨j,j1,j2,j3⟩|⟨h1,h2⟩
 ·exact .inl ⟨j+1,by omega,by simpa using j2,by unfold xf at*;simpa using j3⟩
 ·have tail:∀j,j+1<i+1->((o::os)[j+1]?).bind (·.dst)≠some t:=λj hj=>by simpa using h1 j (by omega)
  unfold fM at h2;split at h2
  ·rename_i d hd;rw[Tr.bD] at h2;by_cases e:t=d
   ·rw[ar e] at h2;cases h2;exact .inl ⟨0,by omega,by simp_all,by simp[xf]⟩
   grind
  grind
def nO:Nat->(Nat->Bool)->Bool
 |0,_=>true
 |n+1,f=>cond (f n) (nO n f) false
theorem oO{f:Nat->Bool}:∀{n:Nat},nO n f=true->∀i,i<n->f i=true
 |0,_,i,h=>by omega
 |n+1,e,i,h=>by
  unfold nO at e;cases hf:f n with
  |false=>grind
  |true=>
   simp_all;rcases dg i n with h1|h1
   ·exact oO e i h1
   grind
def jD(rs:List Rec)(i:Nat):Nat:=((rs[i]?).map (·.k)).getD 0
def Bc(ops:Array Oper)(i:Nat):Option Nat:=(ops[i]?).bind (·.dst)
def isDst(ops:Array Oper)(j t:Nat):Bool:=match Bc ops j with
 |some d=>Nat.beq d t
 |none=>false
theorem Kp{j t:Nat}:isDst ops j t=true↔(ops[j]?).bind (·.dst)=some t:=by
 unfold isDst Bc;split
 ·simp_all
 grind
def stat(ops:Array Oper)(ms:List Nat)(n:Nat):Bool:=
 cond (nO ops.size λi=>(pP ops i).all λb=>Nat.blt b i)
  (cond (nO ops.size λi=>match Bc ops i with
   |none=>true
   |some t=>cond (Nat.blt t n) (nO i λj=>!isDst ops j t) false)
   (nO ops.size λi=>match ops[i]? with
    |none=>true
    |some o=>(looks ops o).all λt=>nO ops.size λj=>cond (isDst ops j t) (Nat.beq j i||(bit ms i j||bit ms j i)) true)
   false)
  false
variable{a b:Bool}
theorem vO(h:cond a b false=true):a=true/\b=true:=by grind
structure XG(ops:Array Oper)(ix pos:Nat->Nat):Prop where
 h1:∀x,x<ops.size->pos x<ops.size/\ix (pos x)=x
 h2:∀i,i<ops.size->ix i<ops.size/\pos (ix i)=i
 h3:∀i j,i<j->j<ops.size->¬jN ops (ix i) (ix j)
theorem WG(hs:stat ops (mh ops.toList []) n=true):AX ops:=by
 have s1:(nO ops.size λi=>(pP ops i).all λb=>Nat.blt b i)=true:=by
  unfold stat at hs;generalize(nO ops.size λi=>(pP ops i).all λb=>Nat.blt b i)=z at hs⊢;cases z with
  |true=>rfl
  |false=>grind
 intro i hi b hb;have:=oO s1 i hi;simp_all
theorem Ul(B:AX ops):XG ops (λi=>i) (λi=>i):=
 ⟨λx h=>⟨h,rfl⟩,λx h=>⟨h,rfl⟩,λi j h hj hn=>by have:=yP B (by omega) hn;omega⟩
theorem aT{α:Type}{x:Option α}{y:α}(h:cond a x none=some y):a=true/\x=some y:=by grind
def bL(c:cC)(cs:List cC)(tm:Tr Value)(todo:List Item)(h:Heap)(nx:Nat):AM:=
 ⟨{fn:=c.fn,n:=c.n,tmps:=tm,todo:=todo,defers:=c.defers,mode:=.run,kind:=c.kind,roundOf:=c.roundOf},cs,h,nx⟩
theorem jl.beside{f:FuncId}{args:List Value}{g g':Heap}(R:jl P f args h nx v h' nx')(s:∀o ob,h.get o=some ob->g.get o=some ob)
 (s':∀o ob,g'.get o=some ob->h'.get o=some ob\/(g.get o=some ob/\h.get o=none)):jl P f args g nx v g' nx':=by
 intro ρ args' cs w A H N;obtain⟨ρ',fr,w',fn,v',a1,a2,a3,a4,a5,a6,a7,a8,a9⟩:=R ρ args' cs w A (H.sub s) N;obtain⟨f1,f2⟩:=vZ (H.hp λ_ _ x=>x) s a8 a9 N;have g2:=f2.less s';exact⟨ρ',fr,w',fn,v',a1,a2,a3,a4,a5,a6,a7,(f1.less s').rel λ_ _ x=>x,⟨g2.os,g2.tape,g2.output,g2.size,g2.block,g2.owned,a9.le,g2.cq,g2.lit,g2.eU⟩⟩
theorem D7(h:cond a b false=true):a=true/\b=true:=vO h
end
section
abbrev bM{β:Type}(_:Nat):Option β:=none
inductive aY:Value->Prop where
 |bool (b:Bool):aY (.bool b)
 |int (k:IntKind) (n:Int):aY (.int k n)
 |str (s:ByteArray):aY (.string s)
 |ow:aY (.pointer none)
 |kS:aY (.slice none 0 0)
 |oi:aY (.map none)
 |nilFunc:aY .nilFunc
 |nilIface:aY .nilIface
 |agg {xs:Array Value} (h:∀x∈xs.toList,aY x):aY (.agg xs)
 |fn {f:FuncId} {xs ys:Array Value} (h:∀x∈xs.toList,aY x) (h':∀x∈ys.toList,aY x):aY (.func (.func f) xs ys)
 |lit {n:Nat} {p:Array FieldStep} {f:FuncId} {b:Bool} {cs ys:Array Value} (h:∀x∈cs.toList,aY x) (h1:bB cs.toList=true):aY (.func (.via n p f b) cs ys)
 |gy {cs ys:Array Value} (h:∀x∈cs.toList,aY x):aY (.func (.method "") cs ys)
theorem aP.qU{m:Nat->Nat->Option Value}:∀{xs ys:List Value},xs.length=ys.length->(∀(i:Nat)(x:Value),xs[i]? =some x->∃y,ys[i]? =some y/\bj m x y)->aP m xs ys
 |[],[],_,_=>.nil
 |[],_::_,h,_=>by grind
 |_::_,[],h,_=>by grind
 |x::xs,y::ys,h,g=>by obtain⟨z,hz,r⟩:=g 0 x rfl;simp at hz;subst hz;exact .cons r (aP.qU (by grind) λi x hx=>by simpa using g (i+1) x (by grind))
variable{v:Value}
theorem aY.rel(h:aY v):∀{ρ:Ren}{x:Value},aF ρ v x->bj ρ.lit v x:=by
 induction h with
 |agg h ih=>
  intro ρ x r;cases r with
  |agg r=>
   refine .agg (aP.qU r.length λi y hy=>?_);obtain⟨z,h1,h2⟩:=r.get hy
   grind
 |fn h h' ih ih'=>
  intro ρ x r;cases r with
  |func hf r1 r2=>
   cases hf;refine .fn (aP.qU r1.length λi y hy=>?_) (aP.qU r2.length λi y hy=>?_)
   ·obtain⟨z,h1,h2⟩:=r1.get hy
    grind
   ·obtain⟨z,h1,h2⟩:=r2.get hy
    grind
 |lit h _ _=>
  intro ρ x r;cases r with
  |func a _ _=>exact a.elim
  |lit hl=>grind
 |gy h _=>
  intro ρ x r;cases r with
  |func a _ _=>exact a.elim
  |gy hl=>grind
 |bool b=>intro ρ x r;cases r;exact .bool _
 |int k n=>intro ρ x r;cases r;exact .int _ _
 |str s=>intro ρ x r;cases r;exact .str _
 |ow=>intro ρ x r;cases r;exact .ow
 |kS=>intro ρ x r;cases r;exact .kS
 |oi=>intro ρ x r;cases r;exact .oi
 |nilFunc=>intro ρ x r;cases r;exact .nilFunc
 |nilIface=>intro ρ x r;cases r;exact .nilIface
def mI(P:Program)(f:FuncId)(args:List Value)(v:Value):Prop:=∀(h:Heap)(nx:Nat),jl P f args h nx v h nx
noncomputable def fw(ρ:Ren)(h:Heap)(w:World)(b i:Nat):Option Value:=
 open Classical in if gT ρ h b then fc w b i else ρ.lit b i
variable{h:Heap} {w:World} {ρ:Ren}
theorem vC(H:bh ρ h w):∀b i v,ρ.lit b i=some v->fw ρ h w b i=some v:=by
 intro b i v hv;unfold fw;rw[ai]
 ·grind
 ·intro⟨o,ob,L,h1,h2,h3⟩;exact H.free b i v hv o ob L h1 h2 h3
theorem xS(H:bh ρ h w):∀b i v,fw ρ h w b i=some v->fc w b i=some v:=by
 intro b i v hv;unfold fw at hv;split at hv
 ·grind
 ·exact H.lit b i v hv
theorem tH:∀b i v,fw ρ h w b i=some v->ρ.lit b i=some v\/gT ρ h b:=by
 intro b i v hv;unfold fw at hv
 grind
def kY(h:Heap)(v pv:Value):Prop:=∀(ρ:Ren)(w:World)(x:Value),bh ρ h w->aF ρ v x->bj (fw ρ h w) pv x
theorem aY.FX:∀{vs xs:List Value},(∀v∈vs,aY v)->bk ρ vs xs->aP ρ.lit vs xs
 |_,_,_,.nil=>.nil
 |_,_,h,.cons a b=>.cons ((h _ (by simp)).rel a) (aY.FX (λv hv=>h v (gL _ hv)) b)
theorem sk{b:Nat}:¬gT ρ .nil b:=λ⟨o,ob,L,h,_,_⟩=>by rw[Tr.get_nil] at h;cases h
variable{args:List Value} {f:FuncId} {h':Heap} {nx':Nat}
theorem LF{P:Program}(hp:∀a∈args,aY a){pv:Value}(R:jl P f args .nil 0 v h' nx')(G:kY h' v pv):mI P f args pv:=by
 intro h nx ρ args' cs w A H N
 let ρ0:Ren:=⟨λ_=>none,ρ.lit⟩
 obtain⟨ρ',fr,w',fn,v',a1,a2,a3,a4,a5,a6,a7,a8,M⟩:=R ρ0 args' cs w ((show aP ρ0.lit args args'.toList from aY.FX (ρ:=ρ) hp A).to) (⟨λo ob ho=>(by rw[Tr.get_nil] at ho;cases ho),λo o' L L' ob ob' h1=>(by simp),H.lit,λb i v hv o ob L ho=>(by simp)⟩) (λ_ _ _=>rfl);have iC:=λb hb=>M.block b hb sk;have news:∀b i u,fw ρ' h' w' b i=some u->ρ.lit b i=some u\/w.heap.size<=b:=by
  intro b i u hu;rcases tH b i u hu with h1|h1
  ·rcases M.eU b i u h1 with h2|h2|h2
   ·grind
   ·grind
   ·exact absurd h2 sk
  ·rcases dg b w.heap.size with h2|h2
   ·exact absurd h1 ((λb hb ho=>sk (M.owned b hb ho)) b h2)
   grind
 let ρ2:Ren:=⟨ρ.cq,fw ρ' h' w'⟩
 have E:Ext ρ ρ2:=⟨λ_ _ h=>h,λb i u hu=>vC a8 b i u (M.lit b i u hu)⟩;refine⟨ρ2,fr,w',fn,v',a1,a2,a3,a4,a5,a6,(G ρ' w' v' a8 a7).to,⟨?_,H.inj,xS a8,?_⟩,⟨M.os,M.tape,M.output,M.size,λb hb _=>iC b hb,λb _ ho=>ho,aB _,λ_ _=>rfl,E.lit,λb i u hu=>?_⟩⟩
 ·intro o ob ho;obtain⟨L,l1,l2⟩:=H.obj o ob ho;exact⟨L,l1,(l2.mono E).block (iC _ l2.lt)⟩
 ·intro b i u hu o ob L ho hL;rcases news b i u hu with h1|h1
  ·exact H.free b i u h1 o ob L ho hL
  ·obtain⟨L1,l1,l2⟩:=H.obj o ob ho;cases l1.symm.trans hL;have:=l2.lt;omega
 grind
def pe(v:Value):PanicEntry:={v:=v,recovered:=false}
def vh(P:Program)(f:FuncId)(args:List Value)(h:Heap)(nx:Nat)(v:Value)(h':Heap)(nx':Nat):Prop:=
 ∀(ρ:Ren)(args':Array Value)(cs:List Frame)(w:World),bk ρ args args'.toList->bh ρ h w->(∀o,nx<=o->o<nx'->ρ o=none)->
  ∃ρ' fr w' fn v',Steps P (lone (Frame.enter P f args' .normal) cs w) (lone fr cs w')/\fr.mode=.panicking [pe v']/\fr.defers=[]/\P.funcs[fr.fn]? =some fn/\
   aF ρ' v v'/\bh ρ' h' w'/\bP ρ h nx w ρ' h' nx' w'
def ve(P:Program)(ops:Array Oper)(i:Nat)(tm:Tr Value)(n:Nat)(h:Heap)(nx:Nat)(v:Value)(h':Heap)(nx':Nat):Prop:=
 ∀(ρ:Ren)(fr:Frame)(cs:List Frame)(w:World)(rest:List Nat)(k:List Item),fr.mode=.run->fr.todo=.inRegion ops (i::rest)::k->jm ρ tm n fr.tmps->bh ρ h w->(∀o,nx<=o->o<nx'->ρ o=none)->
  ∃ρ' v' w',Steps P (lone fr cs w) (lone {fr with mode:=.panicking [pe v']} cs w')/\aF ρ' v v'/\bh ρ' h' w'/\bP ρ h nx w ρ' h' nx' w'
theorem UB{fr:Frame}(hm:fr.mode=.run)(vs:List PanicEntry):fr.raise vs={fr with mode:=.panicking vs}:=by unfold Frame.raise;rw[hm]
variable{X:cJ} {i nx:Nat} {o:Oper} {tm:Tr Value}
theorem aeC{P:Program}(OK:ea P X){ops:Array Oper}(ho:ops[i]? =some o){n:Nat}
 (e:DK X ops tm h nx o=some (f,args)) (R:vh P f args h nx v h' nx'):ve P ops i tm n h nx v h' nx':=by
 intro ρ fr cs w rest k hm ht S H N;obtain⟨b,hb,e⟩:=af e;cases b with
 |false=>grind
 |true=>
  cases hdf:mW o.op with
  |true=>grind
  |false=>
   simp[hdf] at e;have hd:fr.roundOf=none\/∀c,o.op≠.defer c:=by right;intro c hc;rw[hc] at hdf;cases hdf
   obtain⟨out,h1,e⟩:=af e;cases out with
   |enter f1 args1=>cases e;obtain⟨args',r1,r2⟩:=(AL OK H (xR (a:=dummy n tm) S) h1 (λq q1 q2=>by simp only[kG.top] at q2;omega));obtain⟨ρ',fr',w',fn,v',s1,a1,a2,a4,a6,a7,a8⟩:=R ρ args' (fr::cs) w r2 H N;refine⟨ρ',v',w',?_,a6,a7,a8⟩;have hs:=step_going_panicked (c:=fr) (cs:=cs) (w:=w') ⟨a1,a2,fn,a4⟩;rw[<-Frame.raise_mode,UB hm] at hs;exact .trans (.one (OU (C9 hm ht ho (AW (a:=dummy n tm) S hb) hd) ht r1)) (.trans s1 (.one hs))
   |val _ _ _=>grind
   |skip _ _=>grind
   |round _ _=>grind
   |tP _=>grind
   |uy=>grind
   |uq _=>grind
theorem aeL{P:Program}(OK:ea P X){ops:Array Oper}(ho:ops[i]? =some o)(hdf:mW o.op=false){n:Nat}
 (hb:fU ops tm o=some true) (e:dr X h nx (jo tm) o=some (.uq v)):ve P ops i tm n h nx v h nx:=by
 intro ρ fr cs w rest k hm ht S H N;have hd:fr.roundOf=none\/∀c,o.op≠.defer c:=by right;intro c hc;rw[hc] at hdf;cases hdf
 obtain⟨v',r1,r2⟩:=(AL OK H (xR (a:=dummy n tm) S) e (λq q1 q2=>by simp only[kG.top] at q2;omega));have hs:=WI (C9 (cs:=cs) hm ht ho (AW (a:=dummy n tm) S hb) hd) r1;rw[UB hm] at hs;exact⟨ρ,v',w,.one hs,r2,H,bP.refl _ _ _ _⟩
theorem vh.beside{P:Program}{g g':Heap}(R:vh P f args h nx v h' nx')(s:∀o ob,h.get o=some ob->g.get o=some ob)
 (s':∀o ob,g'.get o=some ob->h'.get o=some ob\/(g.get o=some ob/\h.get o=none)):vh P f args g nx v g' nx':=by
 intro ρ args' cs w A H N;obtain⟨ρ',fr,w',fn,v',a1,a2,a3,a4,a7,a8,a9⟩:=R ρ args' cs w A (H.sub s) N;obtain⟨f1,f2⟩:=vZ (H.hp λ_ _ x=>x) s a8 a9 N;have g2:=f2.less s';exact⟨ρ',fr,w',fn,v',a1,a2,a3,a4,a7,(f1.less s').rel λ_ _ x=>x,⟨g2.os,g2.tape,g2.output,g2.size,g2.block,g2.owned,a9.le,g2.cq,g2.lit,g2.eU⟩⟩
def tw(P:Program)(p:Bool)(f:FuncId)(args:List Value)(h:Heap)(nx:Nat)(v:Value)(h':Heap)(nx':Nat):Prop:=cond p (vh P f args h nx v h' nx') (jl P f args h nx v h' nx')
def Pr(P:Program)(p:Bool)(ops:Array Oper)(i:Nat)(tm:Tr Value)(n:Nat)(h:Heap)(nx:Nat)(v:Value)(h':Heap)(nx':Nat):Prop:=cond p (ve P ops i tm n h nx v h' nx') (dE P ops i tm n h nx v h' nx')
theorem aeX{P:Program}(OK:ea P X){p:Bool}{ops:Array Oper}(ho:ops[i]? =some o){n:Nat}
 (e:DK X ops tm h nx o=some (f,args)) (R:tw P p f args h nx v h' nx'):Pr P p ops i tm n h nx v h' nx':=by
 cases p with
 |true=>exact aeC OK ho e R
 |false=>exact Yk OK ho e R
def nG(N:Nat)(A:Nat->Nat->Prop):(Nat->Prop)->List Nat->Prop
 |_,[]=>True
 |done,i::rest=>i<N/\¬done i/\(∀j,A i j->done j)/\nG N A (λx=>done x\/x=i) rest
variable{m:Nat}
theorem mH.split{N:Nat}{A:Nat->Nat->Prop}:∀(σ:List Nat)(done:Nat->Prop),mH N A done σ->¬done m->m<N->∃σ1 σ2,σ=σ1++m::σ2/\nG N A done σ1/\(∀j,A m j->done j\/j∈σ1)/\m∉σ1
 |[],done,L,h,hm=>(h (L m hm)).elim
 |i::rest,done,L,h,hm=>by
  obtain⟨l1,l2,l3,l4⟩:=L;by_cases e:i=m
  ·subst e;exact⟨[],rest,rfl,trivial,λj hj=>.inl (l3 j hj),by simp⟩
  ·obtain⟨σ1,σ2,e1,e2,e3,e4⟩:=mH.split rest _ l4 (λq=>by rcases q with q|q;exact h q;exact e q.symm) hm
   refine⟨i::σ1,σ2,by rw[e1];rfl,⟨l1,l2,l3,e2⟩,λj hj=>?_,?_⟩
   ·grind
   grind
theorem nG.below{N:Nat}{A:Nat->Nat->Prop}(hA:∀x,m<x->x<N->A x m):∀(σ:List Nat)(done:Nat->Prop),nG N A done σ->¬done m->m∉σ->∀x∈σ,x<m
 |[],_,_,_,_,x,hx=>by grind
 |i::rest,done,L,h,hm,x,hx=>by
  obtain⟨l1,l2,l3,l4⟩:=L;simp at hm;rcases cj.1 hx with rfl|hx
  ·grind
  ·exact nG.below hA rest _ l4 (λq=>by rcases q with q|q;exact h q;exact hm.1 q) hm.2 x hx
theorem nG.cut{N:Nat}{A B:Nat->Nat->Prop}(hB:∀i j,B i j->A i j):∀(σ:List Nat)(done:Nat->Prop),nG N A done σ->(∀x∈σ,x<m)->nG m B done σ
 |[],_,_,_=>trivial
 |i::rest,done,L,h=>by obtain⟨l1,l2,l3,l4⟩:=L;exact⟨h i (by simp),l2,λj hj=>l3 j (hB i j hj),nG.cut hB rest _ l4 λx hx=>h x (by grind)⟩
section
variable{P:Program} {ops:Array Oper} {n:Nat} {tm0 gX:Tr Value} {N:Nat} {A:Nat->Nat->Prop} (C:Can P ops (λi=>i) n tm0 gX N A)
theorem Can.part:∀(σ:List Nat)(done:Nat->Prop),nG N A done σ->(∀j,j<N->done j->∀l,A j l->done l)->∀{p:Nat}{ρ0:Ren}{w0:World}{ρ:Ren}{fr:Frame}{w:World}(_:C.Inv done p ρ0 w0 ρ fr.tmps w){k:List Item}{σ2:List Nat}(_:fr.mode=.run)(_:fr.todo=.inRegion ops (σ++σ2)::k)(cs:List Frame),
 ∃p' ρ' tmps' w',Steps P (lone fr cs w) (lone {fr with tmps:=tmps',todo:=.inRegion ops σ2::k} cs w')/\C.Inv (λx=>done x\/x∈σ) p' ρ0 w0 ρ' tmps' w'
 |[],done,L,_,p,ρ0,w0,ρ,fr,w,I,k,σ2,hm,ht,cs=>by
  refine⟨p,ρ,fr.tmps,w,?_,?_⟩
  ·have ht':fr.todo=.inRegion ops σ2::k:=ht;rw[<-ht'];exact .refl _ _
  simp_all
 |i::rest,done,L,cl,p,ρ0,w0,ρ,fr,w,I,k,σ2,hm,ht,cs=>by
  obtain⟨l1,l2,l3,l4⟩:=L;obtain⟨p1,ρ1,t1,w1,s1,I1⟩:=C.one I hm ht l1 l2 l3 cl cs;obtain⟨p2,ρ2,t2,w2,s2,I2⟩:=Can.part rest _ l4 (λj j1 j2 l hl=>by
   rcases j2 with j2|rfl
   ·grind
   ·exact .inl (l3 l hl)) (fr:={fr with tmps:=t1,todo:=.inRegion ops (rest++σ2)::k}) I1 hm rfl cs
  exact⟨p2,ρ2,t2,w2,s1.trans s2,(by grind)⟩
theorem Can.panic(hN:N=m){σ1 σ2:List Nat}(L:nG N A (λ_=>False) σ1){fr:Frame}{k:List Item}(hm:fr.mode=.run)(ht:fr.todo=.inRegion ops (σ1++m::σ2)::k)(S:jm ρ tm0 n fr.tmps)(H:bh ρ (C.H 0) w)
 (hK:∀j,j<N->C.K j≠0->j∈σ1) {tmX:Tr Value} (hsl:∀t u,tmX.get t=some u->C.TM (λx=>x∈σ1) t u) (hle:C.X N<=nx') (R:ve P ops m tmX n (C.H N) (C.X N) v h' nx') {tmK:Tr Value} (hK2:∀t u,tmK.get t=some u->(∀j,j<N->(ops[j]?).bind (·.dst)≠some t)/\tm0.get t=some u)
 (F:∀o,C.X 0<=o->o<nx'->ρ o=none) (cs:List Frame):
 ∃ρ' v' tmps' td w',Steps P (lone fr cs w) (lone {fr with tmps:=tmps',todo:=td,mode:=.panicking [pe v']} cs w')/\jm ρ' tmK n tmps'/\td=.inRegion ops (m::σ2)::k/\aF ρ' v v'/\bh ρ' h' w'/\bP ρ (C.H 0) (C.X 0) w ρ' h' nx' w':=by
 have I0:C.Inv (λ_=>False) 0 ρ w ρ fr.tmps w:=by
  have e:∀o ob,C.G (λ_=>False) 0 o ob↔(C.H 0).get o=some ob:=by
   intro o ob;constructor
   ·rintro (h|⟨a,_,h,_⟩)
    ·exact h
    ·exact h.elim
   ·exact .inl
  refine⟨S.1,?_,H.hp λo ob h=>(e _ _).1 h,?_,(lf.refl _ _ _ _ _).less λo ob h=>(e _ _).1 h,gZ _,.inl rfl,?_,by omega⟩
  ·intro t u hu;rcases hu with⟨j,_,h,_⟩|⟨_,h⟩
   ·exact h.elim
   ·exact S.2 t u h
  ·intro i hi _ o o1 o2;have:=C.py (i:=0) (j:=i) (by omega) (by omega);have:=C.py (i:=i+1) (j:=N) (by omega) (by omega);exact F o (by omega) (by omega)
  ·intro j _ _;constructor<;>grind
 obtain⟨p,ρ1,t1,w1,s1,I⟩:=C.part σ1 _ L (λ_ _ h=>h.elim) I0 hm ht cs;rw[(show(λx=>False\/x∈σ1)=(λx=>x∈σ1) from by simp)] at I;have sH:∀o ob,(C.H N).get o=some ob->C.G (λx=>x∈σ1) p o ob:=by
  intro o ob ho;rcases C.span (aB _) (λi i1 i2 hk=>by have:=(I.pY i i2 hk).1 (hK i i2 (by omega));omega) I.pos ho with z|⟨a,a1,a2,a3,a4,a5,a6⟩
  ·exact .inl z
  ·exact .inr ⟨a,a1,hK a a1 (by omega),a4,a2,a5,a6⟩
 have x0:=C.py (i:=0) (j:=N) (by omega) (by omega);have N0:∀o,C.X N<=o->o<nx'->ρ1 o=none:=λo o1 o2=>by rw[I.yO.cq o (.inr o1)];exact F o (by omega) o2
 obtain⟨ρ',v',w',s2,r1,H1,M1⟩:=R ρ1 {fr with tmps:=t1,todo:=.inRegion ops (m::σ2)::k} cs w1 σ2 k hm rfl ⟨I.size,λt u hu=>I.slot t u (hsl t u hu)⟩ (I.hp.rel sH) N0
 obtain⟨f1,f2⟩:=vZ I.hp sH H1 M1 N0;have M:=(I.yO.Di (lo':=C.X 0) (by omega) (by omega)).trans ((f2.less (G'':=λo ob=>h'.get o=some ob) (λo ob q=>.inl q)).Di (by omega) (by omega));refine⟨ρ',v',t1,_,w',s1.trans s2,⟨I.size,λt u hu=>(by
  obtain⟨k1,k2⟩:=hK2 t u hu;obtain⟨u',a,b⟩:=I.slot t u (.inr ⟨λj hj _=>k1 j hj,k2⟩);exact⟨u',a,b.mono (M1.ext N0)⟩)⟩,rfl,r1,H1,?_⟩
 exact⟨M.os,M.tape,M.output,M.size,λb hb ho=>M.block b hb ho,λb hb ho=>M.owned b hb ho,by omega,M.cq,M.lit,M.eU⟩
end
end
section
inductive SV where
 |i (k:IntKind) (n:Int)
 |b (x:Bool)
 |s (x:ByteArray)
 |v (x:Value)
 |nl
 |agg (l:List SV)
 |aH (l:List SV)
 |ptr (id off:Nat)
 |lp (cells:List Value)
 |sl (id off n cap:Nat)
 |gr (id E:Nat)
 |fn (f:FuncId) (l:List SV)
 |eR (t:TypeId) (x:SV)
 |em (b:Bool)
 |ni
inductive SO where
 |cells (c:List SV) (t:TypeId)
 |arr (c:List Value) (t:TypeId)
 |grow (E:Nat) (c:List Value) (t:TypeId)
structure St where
 tm:Tr SV
 h:Tr SO
 sx:Nat
abbrev Nm:=Nat->Option (Option Nat×Nat)
def bO(c:List Value):Prop:=(∀x∈c,aY x)/\bB c=true
def yy(f:Nat)(ys:List Value):Value:=.func (.func (f%65536)) ⟨ys.take (f/65536)⟩ ⟨ys.drop (f/65536)⟩
variable{f:Nat}
theorem Ey(h:f<65536)(ys:List Value):yy f ys=.func (.func f) #[] ⟨ys⟩:=by unfold yy;rw[rI h,Nat.div_eq_of_lt h];rfl
theorem ZN{n:Nat}(h:f<65536)(as bs:List Value)(hn:as.length=n):yy (f+65536*n) (as++bs)=.func (.func f) ⟨as⟩ ⟨bs⟩:=by unfold yy;rw[Nat.add_mul_mod_self_left,rI h,Nat.add_mul_div_left _ _ (by simp),Nat.div_eq_of_lt h,fg,<-hn,List.take_left',List.drop_left']<;>rfl
mutual
inductive DV(σ:Nm):SV->Value->Prop where
 |i (k:IntKind) (n:Int):DV σ (.i k n) (.int k n)
 |b (x:Bool):DV σ (.b x) (.bool x)
 |s (x:ByteArray):DV σ (.s x) (.string x)
 |v {x:Value} (h:aY x) (h1:bB [x]=true):DV σ (.v x) x
 |nl:DV σ .nl (.slice none 0 0)
 |im:DV σ (.v (ae 0 [])) (.slice none 0 0)
 |agg {l:List SV} {xs:Array Value} (h:bU σ l xs.toList):DV σ (.agg l) (.agg xs)
 |aH {l:List SV} {xs:Array Value} (h:bU σ l xs.toList):DV σ (.aH l) (.tuple xs)
 |ptr {id off o n:Nat} (h:σ id=some (some o,n)):DV σ (.ptr id off) (.pointer (some ⟨o,off,none⟩))
 |lp {cells:List Value} (h:bO cells):DV σ (.lp cells) (og cells)
 |sl {id off n cap o m:Nat} (h:σ id=some (some o,m)) (hc:cap<bt) (hn:n<=cap):DV σ (.sl id off n cap) (.slice (some ⟨o,off,none⟩) n cap)
 |gP {id E:Nat} (h:σ id=some (none,0)):DV σ (.gr id E) (.slice none 0 0)
 |gr {id E o n:Nat} (h:σ id=some (some o,n)):DV σ (.gr id E) (.slice (some ⟨o,0,none⟩) n (bt+E))
 |fn {f:FuncId} {l:List SV} {ys:List Value} (h:bU σ l ys):DV σ (.fn f l) (yy f ys)
 |eR {t:TypeId} {x:SV} {v:Value} (h:DV σ x v):DV σ (.eR t x) (.iface t v)
 |em (b:Bool):DV σ (.em b) (vQ b)
 |ni:DV σ .ni .nilIface
inductive bU(σ:Nm):List SV->List Value->Prop where
 |nil:bU σ [] []
 |cons {x:SV} {y:Value} {xs:List SV} {ys:List Value} (h:DV σ x y) (t:bU σ xs ys):bU σ (x::xs) (y::ys)
end
def WV(u v:Value):Prop:=v=u\/(u=ae 0 []/\v=.slice none 0 0)
inductive cU:List Value->List Value->Prop where
 |nil:cU [] []
 |cons {u v:Value} {us vs:List Value} (h:WV u v) (t:cU us vs):cU (u::us) (v::vs)
theorem cU.refl:∀l,cU l l
 |[]=>.nil
 |_::l=>.cons (.inl rfl) (cU.refl l)
theorem cU.length:∀{us vs:List Value},cU us vs->us.length=vs.length
 |_,_,.nil=>rfl
 |_,_,.cons _ t=>bK (·+1) t.length
theorem cU.get:∀{us vs:List Value},cU us vs->∀{i:Nat}{u:Value},us[i]? =some u->∃v,vs[i]? =some v/\WV u v
 |_,_,.nil,_,_,h=>by grind
 |_,_,.cons h t,i,x,hi=>by
  cases i with
  |zero=>grind
  |succ i=>simpa using t.get hi
theorem cU.append:∀{us vs ws xs:List Value},cU us vs->cU ws xs->cU (us++ws) (vs++xs)
 |_,_,_,_,.nil,h=>h
 |_,_,_,_,.cons a t,h=>.cons a (t.append h)
theorem cU.take:∀{us vs:List Value},cU us vs->∀n,cU (us.take n) (vs.take n)
 |_,_,.nil,n=>by simp;exact .nil
 |_,_,.cons h t,0=>by simp;exact .nil
 |_,_,.cons h t,n+1=>by simp;exact .cons h (t.take n)
theorem cU.drop:∀{us vs:List Value},cU us vs->∀n,cU (us.drop n) (vs.drop n)
 |_,_,.nil,n=>by simp;exact .nil
 |_,_,.cons h t,0=>by simpa using .cons h t
 |_,_,.cons h t,n+1=>by simpa using t.drop n
theorem cU.set:∀{us vs:List Value},cU us vs->∀{u v:Value}(_:WV u v)(n:Nat),cU (us.set n u) (vs.set n v)
 |_,_,.nil,_,_,_,n=>by simp;exact .nil
 |_,_,.cons h t,_,_,r,0=>by simpa using .cons r t
 |_,_,.cons h t,_,_,r,n+1=>by simpa using .cons h (t.set r n)
variable{v:Value}
theorem WV.bB{u:Value}(h:WV u v)(k:bB [u]=true):bB [v]=true:=by
 rcases h with rfl|⟨_,rfl⟩
 ·grind
 ·rfl
theorem cU.bB:∀{us vs:List Value},cU us vs->Lt.bB us=true->Lt.bB vs=true
 |_,_,.nil,_=>rfl
 |_,_,.cons (u:=u) (v:=v) h t,k=>by
  rcases h with rfl|⟨_,rfl⟩
  ·cases v<;>first|exact t.bB k|cases k
  ·refine t.bB ?_;cases u<;>first|exact k|cases k
def DO(σ:Nm)(h:Heap)(id:Nat):SO->Prop
 | .cells c t=>∃o n vs,σ id=some (some o,n)/\h.get o=some (.cells vs t false)/\bU σ c vs
 | .arr c t=>∃o n vs,σ id=some (some o,n)/\h.get o=some (.cells vs t false)/\bO c/\cU c vs
 | .grow E c t=>0<E/\bO c/\((σ id=some (none,0)/\c=[])\/∃o n,σ id=some (some o,n)/\c.length=n*E/\∃vs,h.get o=some (.cells vs t true)/\cU c vs)
structure aM(σ:Nm)(st:St)(tm:Tr Value)(h:Heap)(nx:Nat):Prop where
 tm:∀t sv,st.tm.get t=some sv->∃v,tm.get t=some v/\DV σ sv v
 obj:∀id so,st.h.get id=some so->DO σ h id so
 inj:∀id id' so so' o n n',st.h.get id=some so->st.h.get id'=some so'->σ id=some (some o,n)->σ id'=some (some o,n')->id=id'
 lt:∀id o n,σ id=some (some o,n)->o<nx
 fresh:∀id,st.sx<=id->σ id=none
def iG(σ σ':Nm):Prop:=∀id x,σ id=some x->σ' id=some x
variable{σ:Nm}
theorem bU.length:∀{l:List SV}{vs:List Value},bU σ l vs->l.length=vs.length
 |_,_,.nil=>rfl
 |_,_,.cons _ t=>bK (·+1) t.length
theorem bU.get:∀{xs:List SV}{ys:List Value},bU σ xs ys->∀{i:Nat}{x:SV},xs[i]? =some x->∃y,ys[i]? =some y/\DV σ x y
 |_,_,.nil,_,_,h=>by grind
 |_,_,.cons h t,i,x,hi=>by
  cases i with
  |zero=>grind
  |succ i=>simpa using t.get hi
theorem bU.take:∀{xs:List SV}{ys:List Value},bU σ xs ys->∀n,bU σ (xs.take n) (ys.take n)
 |_,_,.nil,n=>by simp;exact .nil
 |_,_,.cons h t,0=>by simp;exact .nil
 |_,_,.cons h t,n+1=>by simp;exact .cons h (t.take n)
theorem bU.drop:∀{xs:List SV}{ys:List Value},bU σ xs ys->∀n,bU σ (xs.drop n) (ys.drop n)
 |_,_,.nil,n=>by simp;exact .nil
 |_,_,.cons h t,0=>by simpa using .cons h t
 |_,_,.cons h t,n+1=>by simpa using t.drop n
theorem bU.append:∀{xs us:List SV}{ys vs:List Value},bU σ xs ys->bU σ us vs->bU σ (xs++us) (ys++vs)
 |_,_,_,_,.nil,h=>h
 |_,_,_,_,.cons x t,h=>.cons x (t.append h)
theorem bU.set:∀{xs:List SV}{ys:List Value},bU σ xs ys->∀{x:SV}{y:Value}(_:DV σ x y)(n:Nat),bU σ (xs.set n x) (ys.set n y)
 |_,_,.nil,_,_,_,n=>by simp;exact .nil
 |_,_,.cons h t,_,_,r,0=>by simpa using .cons r t
 |_,_,.cons h t,_,_,r,n+1=>by simpa using .cons h (t.set r n)
mutual
theorem DV.mono{σ σ':Nm}(e:iG σ σ'):∀{x:SV}{v:Value},DV σ x v->DV σ' x v
 |_,_,.i k n=>.i k n
 |_,_,.b x=>.b x
 |_,_,.s x=>.s x
 |_,_,.v h h1=>.v h h1
 |_,_,.nl=>.nl
 |_,_,.im=>.im
 |_,_,.agg h=>.agg (bU.mono e h)
 |_,_,.aH h=>.aH (bU.mono e h)
 |_,_,.ptr h=>.ptr (e _ _ h)
 |_,_,.lp h=>.lp h
 |_,_,.sl h a b=>.sl (e _ _ h) a b
 |_,_,.gP h=>.gP (e _ _ h)
 |_,_,.gr h=>.gr (e _ _ h)
 |_,_,.fn h=>.fn (bU.mono e h)
 |_,_,.eR h=>.eR (DV.mono e h)
 |_,_,.em b=>.em b
 |_,_,.ni=>.ni
theorem bU.mono{σ σ':Nm}(e:iG σ σ'):∀{x:List SV}{v:List Value},bU σ x v->bU σ' x v
 |_,_,.nil=>.nil
 |_,_,.cons h t=>.cons (DV.mono e h) (bU.mono e t)
end
theorem iG.refl(σ:Nm):iG σ σ:=λ_ _ h=>h
variable{a b c:Nm}
theorem iG.trans(h:iG a b)(k:iG b c):iG a c:=λi x e=>k i x (h i x e)
structure NX(nx:Nat)(σ σ':Nm):Prop where
 ext:iG σ σ'
 nw:∀id o n,σ' id=some (some o,n)->nx<=o\/∃id' n',σ id'=some (some o,n')
theorem NX.refl(nx:Nat)(σ:Nm):NX nx σ σ:=⟨iG.refl σ,λid _ n h=>.inr ⟨id,n,h⟩⟩
variable{nx:Nat}
theorem NX.trans{nx1:Nat}(h:NX nx a b)(k:NX nx1 b c)(l:nx<=nx1):NX nx a c:=⟨h.ext.trans k.ext,λid o n e=>by
 rcases k.nw id o n e with q|⟨i,m,q⟩
 ·grind
 ·exact h.nw i o m q⟩
def Nm.add(σ:Nm)(id:Nat)(x:Option Nat×Nat):Nm:=λj=>if j=id then some x else σ j
theorem Nm.eI(σ:Nm)(id:Nat)(x:Option Nat×Nat):σ.add id x id=some x:=ar rfl
variable{id:Nat}
theorem Nm.kI{j:Nat}{x:Option Nat×Nat}(h:j≠id):σ.add id x j=σ j:=ai h
theorem NX.add{x:Option Nat×Nat}(h:σ id=none)(hw:∀o n,x=(some o,n)->nx<=o\/∃id' n',σ id'=some (some o,n')):NX nx σ (σ.add id x):=by
 refine⟨?_,λj o n hj=>?_⟩
 ·intro j y hj;by_cases e:j=id
  ·grind
  ·rw[Nm.kI e];exact hj
 ·by_cases e:j=id
  ·rw[e,Nm.eI] at hj;exact hw o n (bu hj)
  ·rw[Nm.kI e] at hj;exact .inr ⟨j,n,hj⟩
theorem Nm.AJ{x:Option Nat×Nat}(h:σ id=none):iG σ (σ.add id x):=by
 intro j y hj;by_cases e:j=id
 ·grind
 ·rw[Nm.kI e];exact hj
def SV.cells:SV->List SV
 | .agg l=>l
 |x=>[x]
variable{x:SV}
theorem DV.cells(h:DV σ x v):bU σ x.cells v.cells.toList:=by
 have h0:=h;cases h with
 |v hp h1=>
  cases hp with
  |agg _=>cases h1
  |_=>exact .cons h0 .nil
 |agg h=>exact h
 |_=>exact .cons h0 .nil
theorem bU.bB:∀{l:List SV}{vs:List Value},bU σ l vs->(∀x∈l,∀m,x≠.agg m/\x≠.aH m)->Lt.bB vs=true
 |_,_,.nil,_=>rfl
 |_,_,.cons a b,h=>by
  have ih:=bU.bB b λz hz=>h z (gL _ hz);cases a with
  |agg _=>grind
  |aH _=>grind
  |v hp h1=>
   cases hp with
   |agg _=>cases h1
   |_=>exact ih
  |_=>exact ih
def xa:Value->Option SV
 | .bool b=>some (.b b)
 | .int k n=>some (.i k n)
 | .string s=>some (.s s)
 | .pointer none=>some (.v (.pointer none))
 | .slice none 0 0=>some .nl
 | .map none=>some (.v (.map none))
 | .nilFunc=>some (.v .nilFunc)
 | .nilIface=>some .ni
 |_=>none
def rD:List Value->Option (List SV)
 |[]=>some []
 |x::xs=>ob (xa x) λy=>ob (rD xs) λys=>some (y::ys)
def sS:Value->Option SV
 | .agg cs=>ob (rD cs.toList) λl=>some (.agg l)
 | .tuple cs=>ob (rD cs.toList) λl=>some (.aH l)
 |v=>xa v
theorem WS(e:xa v=some x):DV σ x v:=by
 unfold xa at e;split at e
 ·cases e;exact .b _
 ·cases e;exact .i _ _
 ·cases e;exact .s _
 ·cases e;exact .v .ow rfl
 ·cases e;exact .nl
 ·cases e;exact .v .oi rfl
 ·cases e;exact .v .nilFunc rfl
 ·cases e;exact .ni
 grind
theorem It:∀{vs:List Value}{xs:List SV},rD vs=some xs->bU σ xs vs
 |[],_,e=>by cases e;exact .nil
 |v::vs,_,e=>by obtain⟨y,h1,e⟩:=af e;obtain⟨ys,h2,e⟩:=af e;cases e;exact .cons (WS h1) (It h2)
theorem Ab(e:sS v=some x):DV σ x v:=by
 unfold sS at e;split at e
 ·replace e:=af e;obtain⟨l,h1,e⟩:=e;cases e;exact .agg (It h1)
 ·replace e:=af e;obtain⟨l,h1,e⟩:=e;cases e;exact .aH (It h1)
 ·exact WS e
theorem WR(e:xa v=some x):tN v=true:=by unfold xa at e;split at e<;>first|rfl|cases e
theorem OZ:∀{vs:List Value}{xs:List SV},rD vs=some xs->vs.all tN=true
 |[],_,_=>rfl
 |v::vs,_,e=>by obtain⟨y,h1,e⟩:=af e;obtain⟨ys,h2,e⟩:=af e;simp only[List.all_cons,bg];exact⟨WR h1,OZ h2⟩
theorem ah3(e:sS v=some x):mP v=true:=by
 unfold sS at e;split at e
 ·replace e:=af e;obtain⟨l,h1,e⟩:=e;exact OZ h1
 ·replace e:=af e;obtain⟨l,h1,e⟩:=e;exact OZ h1
 ·rename_i h1 h2;have:=WR e;unfold mP
  grind
def dX(tm:Tr SV):Operand->Option SV
 | .tmp t=>tm.get t
 | .const v=>sS v
 | .global _=>none
 | .func f=>cond (Nat.blt f 65536) (some (.fn f [])) none
theorem ec{st:St}{tm:Tr Value}{h:Heap}(R:aM σ st tm h nx){x:Operand}{sv:SV}(e:dX st.tm x=some sv):∃v,jo tm x=some v/\DV σ sv v:=by
 cases x with
 |tmp t=>exact R.tm t sv e
 |const v=>have e':=e;exact⟨v,(show cond (mP v) (some v) none=some v by rw[ah3 e'];rfl),Ab e'⟩
 |global g=>cases e
 |func f=>have e':=e;obtain⟨q,e'⟩:=aT e';cases e';refine⟨.func (.func f) #[] #[],rfl,?_⟩;have:=Ey (cT q) [];rw[<-this];exact .fn .nil
end
section
variable{β:Type}
def aw(k:IntKind)(x:Value)(K:Int->Option β):Option β:=match x with
 | .int k' n=>cond (decide (k'=k)) (K n) none
 |_=>none
def AT(x:Value)(K:Bool->Option β):Option β:=match x with
 | .bool b=>K b
 |_=>none
def AU(x:Value)(K:ByteArray->Option β):Option β:=match x with
 | .string s=>K s
 |_=>none
def aG(n:Int)(K:Nat->Option β):Option β:=match n with
 | .ofNat m=>K m
 | .negSucc _=>none
inductive CK where
 |i (k:IntKind)|b|s|v
def xY:Value->CK
 | .int k _=>.i k
 | .bool _=>.b
 | .string _=>.s
 |_=>.v
def xT(c:CK)(x:Value)(K:SV->Option β):Option β:=match c with
 | .i k=>aw k x λn=>K (.i k n)
 | .b=>AT x λb=>K (.b b)
 | .s=>AU x λb=>K (.s b)
 | .v=>K (.v x)
def ag(cs:List Value)(K:Value->List Value->Option β):Option β:=match cs with
 |[]=>none
 |x::r=>K x r
def yp:List CK->List Value->(List SV->Option β)->Option β
 |[],_,K=>K []
 |c::ks,cs,K=>ag cs λx r=>xT c x λs=>yp ks r λl=>K (s::l)
variable{r:List Value} {x:Value}
theorem wA(h:bB (x::r)=true):bB [x]=true/\bB r=true:=by cases x<;>first|exact⟨rfl,h⟩|cases h
theorem bO.cons(h:bO (x::r)):(aY x/\bB [x]=true)/\bO r:=
 ⟨⟨h.1 x (by simp),(wA h.2).1⟩,λy hy=>h.1 y (gL _ hy),(wA h.2).2⟩
theorem bO.mem:∀{c:List Value},bO c->∀x∈c,aY x/\bB [x]=true
 |y::r,h,x,hx=>by
  rcases cj.1 hx with rfl|hx
  ·exact h.cons.1
  ·exact bO.mem h.cons.2 x hx
theorem bO.mm:∀{c:List Value},(∀x∈c,aY x/\bB [x]=true)->bO c
 |[],_=>⟨(λx h=>by cases h),rfl⟩
 |y::r,h=>by have h0:=h y (by simp);refine⟨λx hx=>(h x hx).1,?_⟩;cases y<;>first|exact(bO.mm λx hx=>h x (gL _ hx)).2 |cases h0.2
variable{c d:List Value}
theorem bO.sub(h:bO c)(s:∀x∈d,x∈c):bO d:=bO.mm λx hx=>h.mem x (s x hx)
theorem bO.drop(h:bO c)(n:Nat):bO (c.drop n):=h.sub λ_ hx=>xr hx
theorem bO.take(h:bO c)(n:Nat):bO (c.take n):=h.sub λ_ hx=>List.mem_of_mem_take hx
theorem bO.append(h:bO c)(k:bO d):bO (c++d):=bO.mm λx hx=>by
 rcases eM.1 hx with hx|hx
 ·exact h.mem x hx
 ·exact k.mem x hx
variable{b:β}
theorem PY{c:CK}{K:SV->Option β}(e:xT c x K=some b):∃sv,K sv=some b/\(aY x->bB [x]=true->∀v,WV x v->∀σ,DV σ sv v)/\∀m,sv≠.agg m/\sv≠.aH m:=by
 cases c with
 |i k=>
  unfold xT aw at e;simp only at e;split at e
  ·rename_i k' n;by_cases hk:k'=k
   ·subst hk;simp_all;exact⟨_,e,λ_ _ v hv σ=>(by rcases hv with rfl|⟨q,_⟩;exact .i _ _;cases q),λm=>⟨by simp,by simp⟩⟩
   grind
  grind
 |b=>
  unfold xT AT at e;simp only at e;split at e
  ·exact⟨_,e,λ_ _ v hv σ=>(by rcases hv with rfl|⟨q,_⟩;exact .b _;cases q),λm=>⟨by simp,by simp⟩⟩
  grind
 |s=>
  unfold xT AU at e;simp only at e;split at e
  ·exact⟨_,e,λ_ _ v hv σ=>(by rcases hv with rfl|⟨q,_⟩;exact .s _;cases q),λm=>⟨by simp,by simp⟩⟩
  grind
 |v=>exact⟨_,e,λh h1 v hv σ=>(by rcases hv with rfl|⟨rfl,rfl⟩;exact .v h h1;exact .im),λm=>⟨by simp,by simp⟩⟩
theorem Eo:∀{ks:List CK}{cs:List Value}{K:List SV->Option β}{b:β},yp ks cs K=some b->
 ∃l,K l=some b/\l.length=ks.length/\ks.length<=cs.length/\(bO cs->∀vs,cU cs vs->∀σ,bU σ l (vs.take ks.length))/\∀x∈l,∀m,x≠.agg m/\x≠.aH m
 |[],cs,K,b,e=>⟨[],e,rfl,by simp,λ_ vs _ σ=>by simp;exact .nil,λx h=>by cases h⟩
 |c::ks,cs,K,b,e=>by
  unfold yp ag at e;split at e
  ·grind
  ·rename_i x r;obtain⟨sv,h1,h2,h3⟩:=PY e;obtain⟨l,g1,g2,g3,g4,g5⟩:=Eo h1;refine⟨sv::l,g1,by simp[g2],by simp;exact g3,λh vs hv σ=>?_,λy hy=>?_⟩
   ·obtain⟨⟨p1,p2⟩,p3⟩:=h.cons;cases hv with
    |cons a t=>exact .cons (h2 p1 p2 _ a σ) (g4 p3 _ t σ)
   grind
def kinds(z:Value):List CK:=z.cells.toList.map xY
def FU(c:CK)(x:SV)(K:SV->Option β):Option β:=match c,x with
 | .i k,.i k' n=>cond (decide (k'=k)) (K (.i k n)) none
 | .i _,_=>none
 | .b,.b b=>K (.b b)
 | .b,_=>none
 | .s,.s b=>K (.s b)
 | .s,_=>none
 | .v,x=>K x
theorem UK{c:CK}{x:SV}{K:SV->Option β}(e:FU c x K=some b):K x=some b:=by
 unfold FU at e
 grind
theorem Dd{cs:List Value}{K:Value->List Value->Option β}(e:ag cs K=some b):∃x r,cs=x::r/\K x r=some b:=by
 unfold ag at e
 grind
def uc(i:gC)(z:Value)(c:List Value)(K:SV->Option β):Option β:=
 cond (mV i.desc) (cond (Nat.beq (kinds z).length i.size&&Nat.blt 0 i.size) (yp (kinds z) c λl=>K (.agg l)) none) (ag c λx _=>xT (xY z) x K)
theorem Bz{i:gC}{off:Nat}{z:Value}{K:SV->Option β}(e:uc i z (c.drop off) K=some b):
 ∃sv,K sv=some b/\(bO c->∀vs,cU c vs->∃u,(∀σ,DV σ sv u)/\(cond (mV i.desc) (cond (Nat.ble (off+i.size) vs.length) (some (.agg ⟨(vs.drop off).take i.size⟩)) none) (vs[off]?))=some u):=by
 unfold uc at e;cases ha:mV i.desc with
 |true=>
  rw[ha] at e;obtain⟨e1,e⟩:=aT e;rw[bg] at e1;have e2:=cT e1.2;have e1:=bJ e1.1;obtain⟨l,g1,g2,g3,g4,g5⟩:=Eo e;rw[dZ] at g3;refine⟨_,g1,λpc vs hv=>⟨.agg ⟨(vs.drop off).take i.size⟩,λσ=>.agg (by rw[<-e1];exact g4 (pc.drop off) _ (hv.drop off) σ),?_⟩⟩
  ·have hl:=hv.length;have:Nat.ble (off+i.size) vs.length=true:=gi (by omega)
   grind
 |false=>
  rw[ha] at e;obtain⟨x,r,h1,h2⟩:=Dd e;obtain⟨sv,k1,k2,_⟩:=PY h2;have hx:c[off]? =some x:=by
   have:=bK (λl:List Value=>l[0]?) h1
   grind
  refine⟨sv,k1,λpc vs hv=>?_⟩;obtain⟨v,v1,v2⟩:=hv.get hx;have hp:=pc.drop off;rw[h1] at hp;exact⟨v,k2 hp.cons.1.1 hp.cons.1.2 v v2,v1⟩
def W0:SV->Option Value
 | .i k n=>some (.int k n)
 | .b x=>some (.bool x)
 | .s x=>some (.string x)
 |_=>none
def O3:List SV->Option (List Value)
 |[]=>some []
 |x::xs=>ob (W0 x) λu=>ob (O3 xs) λus=>some (u::us)
variable{σ:Nm}
theorem aid{x:SV}{v u:Value}(d:DV σ x v)(e:W0 x=some u):v=u/\aY u/\bB [u]=true:=by cases d<;>first|(cases e;exact⟨rfl,.int _ _,rfl⟩)|(cases e;exact⟨rfl,.bool _,rfl⟩)|(cases e;exact⟨rfl,.str _,rfl⟩)|cases e
theorem W8:∀{xs:List SV}{vs us:List Value},bU σ xs vs->O3 xs=some us->cU us vs/\bO us
 |_,_,_,.nil,e=>by cases e;exact⟨.nil,(λx h=>by cases h),rfl⟩
 |_,_,_,.cons a t,e=>by
  obtain⟨u,h1,e⟩:=af e;obtain⟨ws,h2,e⟩:=af e;cases e;obtain⟨k1,k2,k3⟩:=aid a h1;obtain⟨g1,g2⟩:=W8 t h2;refine⟨.cons (.inl k1) g1,bO.mm λx hx=>?_⟩;rcases cj.1 hx with rfl|hx
  ·grind
  ·exact g2.mem x hx
def MB(T:TT)(st:St)(t:TypeId)(p:SV)(K:SV->Option β):Option β:=
 ob (T.get t) λi=>ob i.zero λz=>match p with
  | .ptr id off=>ob (st.h.get id) λso=>match so with
   | .cells c _=>match O3 c with
    |some us=>uc i z (us.drop off) K
    |none=>cond (mV i.desc) (cond (Nat.ble (off+i.size) c.length) (K (.agg ((c.drop off).take i.size))) none) (ob (c[off]?) λx=>FU (xY z) x K)
   | .arr c _=>uc i z (c.drop off) K
   | .grow _ c _=>uc i z (c.drop off) K
  | .lp cs=>uc i z cs K
  |_=>bM 1
end
section
variable{β:Type}
variable{T:TT} {b:β} {p:SV} {t:TypeId}
theorem Vg{st:St}{K:SV->Option β}(e:MB T st t p K=some b):
 ∃sv,K sv=some b/\∀(σ:Nm)(tm:Tr Value)(h:Heap)(nx:Nat),aM σ st tm h nx->∀v,DV σ p v->∃u,oM T h t v=some u/\DV σ sv u:=by
 replace e:=af e;obtain⟨i,hi,e⟩:=e;replace e:=af e;obtain⟨z,hz,e⟩:=e;split at e
 ·rename_i id off;obtain⟨so,hso,e⟩:=af e;split at e
  ·rename_i c _;split at e
   ·rename_i us hus;obtain⟨sv,h1,h2⟩:=Bz e;refine⟨sv,h1,λσ tm h nx R v dv=>?_⟩;obtain⟨o,n,vs,g1,g2,g3⟩:=R.obj id _ hso;obtain⟨k1,k2⟩:=W8 g3 hus;obtain⟨u,u1,u2⟩:=h2 k2 vs k1;cases dv with
    |ptr g=>rw[g1] at g;cases g;refine⟨u,?_,u1 σ⟩;simp[oM,g2,hi];exact u2
   ·cases ha:mV i.desc with
    |true=>
     rw[ha] at e;obtain⟨e1,e⟩:=aT e;refine⟨_,e,λσ tm h nx R v dv=>?_⟩;obtain⟨o,n,vs,g1,g2,g3⟩:=R.obj id _ hso;cases dv with
     |ptr g=>rw[g1] at g;cases g;refine⟨.agg ⟨(vs.drop off).take i.size⟩,?_,.agg ((g3.drop off).take i.size)⟩;simp[oM,ob,g2,hi,ha];rw[<-g3.length,e1];rfl
    |false=>
     rw[ha] at e;obtain⟨x,hx,e⟩:=af e;refine⟨x,UK e,λσ tm h nx R v dv=>?_⟩;obtain⟨o,n,vs,g1,g2,g3⟩:=R.obj id _ hso;cases dv with
     |ptr g=>rw[g1] at g;cases g;obtain⟨u,u1,u2⟩:=g3.get hx;refine⟨u,?_,u2⟩;simp[oM,ob,g2,hi,ha];exact u1
  ·rename_i c t0;obtain⟨sv,h1,h2⟩:=Bz e;refine⟨sv,h1,λσ tm h nx R v dv=>?_⟩;obtain⟨o,n,vs,g1,g2,g3,g4⟩:=R.obj id _ hso;obtain⟨u,u1,u2⟩:=h2 g3 vs g4;cases dv with
   |ptr g=>rw[g1] at g;cases g;refine⟨u,?_,u1 σ⟩;simp[oM,g2,hi];exact u2
  ·rename_i E c t0;obtain⟨sv,h1,h2⟩:=Bz e;refine⟨sv,h1,λσ tm h nx R v dv=>?_⟩;obtain⟨_,p,g⟩:=R.obj id _ hso;cases dv with
   |ptr k=>
    rcases g with⟨g1,_⟩|⟨o,n,g1,g2,vs,g3,g4⟩
    ·rw[g1] at k;cases k
    ·rw[g1] at k;cases k;obtain⟨u,u1,u2⟩:=h2 p vs g4;refine⟨u,?_,u1 σ⟩;simp[oM,g3,hi];exact u2
 ·rename_i cs;have e':uc i z (cs.drop 0) K=some b:=e;obtain⟨sv,h1,h2⟩:=Bz e';refine⟨sv,h1,λσ tm h nx R v dv=>?_⟩;cases dv with
  |lp pc=>obtain⟨u,u1,u2⟩:=h2 pc cs (cU.refl _);refine⟨u,?_,u1 σ⟩;simp[oM,og,hi];rw[fg] at u2;exact u2
 ·cases e
variable{id:Nat} {so:SO}
theorem DO.name{σ:Nm}{h:Heap}(d:DO σ h id so):σ id=some (none,0)\/∃o n,σ id=some (some o,n)/\∃ob,h.get o=some ob:=by
 cases so with
 |cells c t=>obtain⟨o,n,vs,g1,g2,g3⟩:=d;exact .inr ⟨o,n,g1,_,g2⟩
 |arr c t=>obtain⟨o,n,vs,g1,g2,g3⟩:=d;exact .inr ⟨o,n,g1,_,g2⟩
 |grow E c t=>
  obtain⟨_,_,g⟩:=d
  grind
theorem DO.mono{σ σ':Nm}(e:iG σ σ'){h h':Heap}(d:DO σ h id so)(he:∀o n,σ id=some (some o,n)->h'.get o=h.get o):DO σ' h' id so:=by
 cases so with
 |cells c t=>obtain⟨o,n,vs,g1,g2,g3⟩:=d;exact⟨o,n,vs,e _ _ g1,by rw[he o n g1];exact g2,g3.mono e⟩
 |arr c t=>obtain⟨o,n,vs,g1,g2,g3⟩:=d;exact⟨o,n,vs,e _ _ g1,by rw[he o n g1];exact g2,g3⟩
 |grow E c t=>
  obtain⟨a,p,g⟩:=d;refine⟨a,p,?_⟩;rcases g with⟨g1,g2⟩|⟨o,n,g1,g2,vs,g3,g4⟩
  ·exact .inl ⟨e _ _ g1,g2⟩
  ·exact .inr ⟨o,n,e _ _ g1,g2,vs,by rw[he o n g1];exact g3,g4⟩
section
variable{σ:Nm} {st:St} {tm:Tr Value} {h:Heap} {nx:Nat}
variable{n:Nat}
theorem aM.new(R:aM σ st tm h nx){ob:eV}(d:DO (σ.add st.sx (some nx,n)) (h.set nx ob) st.sx so):
 NX nx σ (σ.add st.sx (some nx,n))/\aM (σ.add st.sx (some nx,n)) {st with h:=st.h.set st.sx so,sx:=st.sx+1} tm (h.set nx ob) (nx+1):=by
 have hn:=R.fresh _ (aB _);have E:iG σ (σ.add st.sx (some nx,n)):=Nm.AJ hn;refine⟨NX.add hn λo m q=>(by grind),⟨λt sv hv=>?_,λid so' ho=>?_,λid id' so1 so2 o n1 n2 a1 a2 b1 b2=>?_,λid o m hm=>?_,λid hid=>?_⟩⟩
 ·obtain⟨v,a,b⟩:=R.tm t sv hv;exact⟨v,a,b.mono E⟩
 ·have ho:(st.h.set st.sx so).get id=some so':=ho;rw[Tr.bD] at ho;by_cases e:id=st.sx
  ·grind
  ·rw[ai e] at ho;refine(R.obj id so' ho).mono E λo n1 h1=>?_;have:=R.lt id o n1 h1;rw[Tr.bD,ai (by omega)]
 ·have a1:(st.h.set st.sx so).get id=some so1:=a1;rw[Tr.bD] at a1 a2;by_cases e:id=st.sx
  ·by_cases e':id'=st.sx
   ·grind
   ·rw[ai e'] at a2;rw[e,Nm.eI] at b1;rw[Nm.kI e'] at b2;cases b1;have:=R.lt _ _ _ b2;omega
  ·rw[ai e] at a1;rw[Nm.kI e] at b1;by_cases e':id'=st.sx
   ·rw[e',Nm.eI] at b2;cases b2;have:=R.lt _ _ _ b1;omega
   ·rw[ai e'] at a2;rw[Nm.kI e'] at b2;exact R.inj _ _ _ _ _ _ _ a1 a2 b1 b2
 ·by_cases e:id=st.sx
  ·rw[e,Nm.eI] at hm;cases hm;omega
  ·rw[Nm.kI e] at hm;have:=R.lt _ _ _ hm;omega
 ·have hid:st.sx+1<=id:=hid;rw[Nm.kI (by omega)];exact R.fresh id (by omega)
theorem aM.put(R:aM σ st tm h nx){o:Nat}{so':SO}{ob:eV}(ho:st.h.get id=some so)(hσ:σ id=some (some o,n))(d:DO σ (h.set o ob) id so'):
 aM σ {st with h:=st.h.set id so'} tm (h.set o ob) nx:=by
 refine⟨R.tm,λid1 so1 h1=>?_,λid1 id2 so1 so2 o1 n1 n2 a1 a2 b1 b2=>?_,R.lt,R.fresh⟩
 ·have h1:(st.h.set id so').get id1=some so1:=h1;rw[Tr.bD] at h1;by_cases e:id1=id
  ·grind
  ·rw[ai e] at h1;refine(R.obj id1 so1 h1).mono (iG.refl _) λo1 n1 g1=>?_;rw[Tr.bD,ai];intro q;subst q;exact e (R.inj _ _ _ _ _ _ _ h1 ho g1 hσ)
 ·have a1:(st.h.set id so').get id1=some so1:=a1;rw[Tr.bD] at a1 a2;have f1:∃s,st.h.get id1=some s:=by grind
  have f2:∃s,st.h.get id2=some s:=by grind
  obtain⟨s1,f1⟩:=f1;obtain⟨s2,f2⟩:=f2;exact R.inj _ _ _ _ _ _ _ f1 f2 b1 b2
end
def O5:SV->Option Value
 | .i k n=>some (.int k n)
 | .b x=>some (.bool x)
 | .s x=>some (.string x)
 | .v x=>some x
 | .nl=>some (ae 0 [])
 | .ni=>some .nilIface
 |_=>none
theorem aif{σ:Nm}{x:SV}{v u:Value}(d:DV σ x v)(e:O5 x=some u):WV u v/\aY u/\bB [u]=true:=by
 cases d<;>simp only[O5] at e<;>cases e
 ·exact⟨.inl rfl,.int _ _,rfl⟩
 ·exact⟨.inl rfl,.bool _,rfl⟩
 ·exact⟨.inl rfl,.str _,rfl⟩
 ·exact⟨.inl rfl,‹_›,‹_›⟩
 ·exact⟨.inr ⟨rfl,rfl⟩,.lit (λx h=>by cases h) rfl,rfl⟩
 ·exact⟨.inr ⟨rfl,rfl⟩,.lit (λx h=>by cases h) rfl,rfl⟩
 ·exact⟨.inl rfl,.nilIface,rfl⟩
def FQ:Nat->List SV->List SV->List SV
 |_,[],c=>c
 |n,v::vs,c=>FQ (n+1) vs (c.set n v)
theorem bU.aW{σ:Nm}:∀{us:List SV}{vs:List Value},bU σ us vs->∀(n:Nat){xs:List SV}{ys:List Value},bU σ xs ys->bU σ (FQ n us xs) (aW n vs ys)
 |_,_,.nil,_,_,_,h=>h
 |_,_,.cons h t,n,_,_,hx=>bU.aW t (n+1) (hx.set h n)
def flat:List SV->Bool
 |[]=>true
 | .agg _::_=>false
 | .aH _::_=>false
 |_::l=>flat l
theorem Rp:∀{l:List SV},flat l=true->∀x∈l,∀m,x≠.agg m/\x≠.aH m
 |x::l,h,y,hy,m=>by
  rcases cj.1 hy with rfl|hy
  ·cases y with
   |agg _=>cases h
   |aH _=>cases h
   |_=>simp
  ·refine Rp ?_ y hy m;cases x<;>first|exact h|cases h
def xb:List SV->Option (List Value)
 |[]=>some []
 |x::xs=>ob (O5 x) λu=>ob (xb xs) λus=>some (u::us)
theorem Ag{σ:Nm}:∀{xs:List SV}{vs us:List Value},bU σ xs vs->xb xs=some us->cU us vs/\bO us
 |_,_,_,.nil,e=>by cases e;exact⟨.nil,(λx h=>by cases h),rfl⟩
 |_,_,us,.cons a t,e=>by
  obtain⟨u,h1,e⟩:=af e;obtain⟨ws,h2,e⟩:=af e;cases e;obtain⟨k1,k2,k3⟩:=aif a h1;obtain⟨g1,g2⟩:=Ag t h2;exact⟨.cons k1 g1,bO.mm λx hx=>by
   rcases cj.1 hx with rfl|hx
   ·grind
   ·exact g2.mem x hx⟩
theorem cU.aW:∀{us vs:List Value},cU us vs->∀(n:Nat){xs ys:List Value},cU xs ys->cU (aW n us xs) (aW n vs ys)
 |_,_,.nil,_,_,_,h=>h
 |_,_,.cons h t,n,_,_,hx=>cU.aW t (n+1) (hx.set h n)
theorem bO.aW:∀{us:List Value},bO us->∀(n:Nat){xs:List Value},bO xs->bO (aW n us xs)
 |[],_,_,_,h=>h
 |u::us,p,n,xs,h=>bO.aW p.cons.2 (n+1) (bO.mm λz hz=>by
  rcases List.mem_or_eq_of_mem_set hz with hz|hz
  ·exact h.mem z hz
  ·subst hz;exact p.cons.1)
def Vo(T:TT)(st:St)(t:TypeId)(p y:SV)(K:St->Option β):Option β:=
 ob (T.get t) λi=>match p with
  | .ptr id off=>ob (st.h.get id) λso=>match so with
   | .cells c t'=>cond (Nat.beq y.cells.length i.size&&Nat.ble (off+i.size) c.length&&flat y.cells) (K {st with h:=st.h.set id (.cells (FQ off y.cells c) t')}) none
   | .arr c t'=>ob (xb y.cells) λus=>cond (Nat.beq y.cells.length i.size&&Nat.ble (off+i.size) c.length) (K {st with h:=st.h.set id (.arr (aW off us c) t')}) none
   | .grow E c t'=>ob (xb y.cells) λus=>cond (Nat.beq y.cells.length i.size&&Nat.ble (off+i.size) c.length) (K {st with h:=st.h.set id (.grow E (aW off us c) t')}) none
  |_=>bM 3
theorem afv{st:St}{y:SV}{K:St->Option β}(e:Vo T st t p y K=some b):
 ∃st',K st'=some b/\st'.tm=st.tm/\∀(σ:Nm)(tm:Tr Value)(h:Heap)(nx:Nat),aM σ st tm h nx->∀v u,DV σ p v->DV σ y u->∃h',vz T h t v u=some h'/\aM σ st' tm h' nx:=by
 replace e:=af e;obtain⟨i,hi,e⟩:=e;split at e
 ·rename_i id off;obtain⟨so,hso,e⟩:=af e;split at e
  ·rename_i c t';obtain⟨e1,e⟩:=aT e;refine⟨_,e,rfl,λσ tm h nx R v u dp dy=>?_⟩;obtain⟨o,n,vs,g1,g2,g3⟩:=R.obj id _ hso;simp only[bg] at e1;cases dp with
   |ptr g=>
    rw[g1] at g;cases g;have hy:=dy.cells;have s1:u.cells.toList.length=u.cells.size:=rfl;refine⟨h.set o (.cells (aW off u.cells.toList vs) t' false),?_,R.put hso g1 ⟨o,n,_,g1,by rw[Tr.bD,ar rfl],hy.aW off g3⟩⟩;have q1:Nat.beq u.cells.size i.size=true:=by rw[<-s1,<-hy.length];exact e1.1.1
    have q2:Nat.ble (off+i.size) vs.length=true:=by rw[<-g3.length];exact e1.1.2
    simp[vz,ob,g2,hi,q1,q2,(hy.bB (Rp e1.2))]
  ·rename_i c t';obtain⟨us,hx,e⟩:=af e;obtain⟨e1,e⟩:=aT e;rw[bg] at e1;refine⟨_,e,rfl,λσ tm h nx R v u dp dy=>?_⟩;obtain⟨o,n,vs,g1,g2,g3,g4⟩:=R.obj id _ hso;obtain⟨k1,k3⟩:=Ag dy.cells hx;have s1:u.cells.toList.length=u.cells.size:=rfl;have q1:Nat.beq u.cells.size i.size=true:=by rw[<-s1,<-dy.cells.length];exact e1.1
   cases dp with
   |ptr g=>
    rw[g1] at g;cases g;refine⟨h.set o (.cells (aW off u.cells.toList vs) t' false),?_,R.put hso g1 ⟨o,n,_,g1,by rw[Tr.bD,ar rfl],k3.aW off g3,k1.aW off g4⟩⟩;have q2:Nat.ble (off+i.size) vs.length=true:=by rw[<-g4.length];exact e1.2
    simp[vz,ob,g2,hi,q1,q2,(k1.bB k3.2)]
  ·rename_i E c t';obtain⟨us,hx,e⟩:=af e;obtain⟨e1,e⟩:=aT e;rw[bg] at e1;refine⟨_,e,rfl,λσ tm h nx R v u dp dy=>?_⟩;obtain⟨f1,f2,f3⟩:=R.obj id _ hso;obtain⟨k1,k3⟩:=Ag dy.cells hx;have s1:u.cells.toList.length=u.cells.size:=rfl;have q1:Nat.beq u.cells.size i.size=true:=by rw[<-s1,<-dy.cells.length];exact e1.1
   rcases f3 with⟨g1,_⟩|⟨o,n,g1,g2,vs,g3,g4⟩
   ·cases dp with
    |ptr g=>rw[g1] at g;cases g
   ·cases dp with
    |ptr g=>rw[g1] at g;cases g;refine⟨h.set o (.cells (aW off u.cells.toList vs) t' true),?_,R.put hso g1 ⟨f1,k3.aW off f2,.inr ⟨o,n,g1,by rw[kq];exact g2,_,by rw[Tr.bD,ar rfl],k1.aW off g4⟩⟩⟩;simp[vz,ob,g3,hi,q1,(show Nat.ble (off+i.size) vs.length=true from by rw[<-g4.length];exact e1.2),(k1.bB k3.2)]
 ·cases e
end
section
variable{β:Type}
def Cb(place:Nat->Option (Nat×Nat))(cells:List SV):List (Nat×SV)->Option (List SV)
 |[]=>some cells
 |(i,v)::rest=>ob (place i) λq=>cond (Nat.beq v.cells.length q.2 &&Nat.ble (q.1 +q.2) cells.length) (Cb place (FQ q.1 v.cells cells) rest) none
inductive xx(σ:Nm):List (Nat×SV)->List (Nat×Value)->Prop where
 |nil:xx σ [] []
 |cons {i:Nat} {x:SV} {y:Value} {xs:List (Nat×SV)} {ys:List (Nat×Value)} (h:DV σ x y) (t:xx σ xs ys):xx σ ((i,x)::xs) ((i,y)::ys)
theorem Gg{σ:Nm}{place:Nat->Option (Nat×Nat)}:∀{ps:List (Nat×SV)}{ps':List (Nat×Value)},xx σ ps ps'->∀{cs out:List SV}{cs':List Value},bU σ cs cs'->Cb place cs ps=some out->∃out',vq place cs' ps'=some out'/\bU σ out out'
 |_,_,.nil,cs,out,cs',r,e=>by cases e;exact⟨cs',rfl,r⟩
 |_,_,.cons (y:=y) h t,cs,out,cs',r,e=>by obtain⟨⟨off,size⟩,hp,e⟩:=af e;obtain⟨e1,e⟩:=aT e;rw[bg] at e1;have s1:y.cells.toList.length=y.cells.size:=rfl;obtain⟨out',h1,h2⟩:=Gg t (h.cells.aW off r) e;refine⟨out',?_,h2⟩;simp[vq,ob,hp,(show Nat.beq y.cells.size size=true from by rw[<-s1,<-h.cells.length];exact e1.1),(show Nat.ble (off+size) cs'.length=true from by rw[<-r.length];exact e1.2)];omega
def U8(T:TT)(t:TypeId)(ps:List (Nat×SV))(K:SV->Option β):Option β:=
 ob (T.get t) λi=>ob i.zero λz=>ob (sS z) λzv=>match i.desc with
  | .struct fs=>cond (yu T fs.toList) (ob (DT T i.desc) λp=>ob (Cb p zv.cells ps) λcs=>K (.agg cs)) none
  | .array _ _=>ob (DT T i.desc) λp=>ob (Cb p zv.cells ps) λcs=>K (.agg cs)
  |_=>bM 4
variable{T:TT} {b:β} {t:TypeId}
theorem afg{ps:List (Nat×SV)}{K:SV->Option β}(e:U8 T t ps K=some b):
 ∃sv,K sv=some b/\∀(σ:Nm)(ps':List (Nat×Value)),xx σ ps ps'->∃u,AE T t ps'=some u/\DV σ sv u:=by
 obtain⟨i,hi,e⟩:=af e;obtain⟨z,hz,e⟩:=af e;obtain⟨zv,hv,e⟩:=af e;split at e
 ·rename_i fs hd;obtain⟨e1,e⟩:=aT e;obtain⟨p,hp,e⟩:=af e;obtain⟨cs,hc,e⟩:=af e;refine⟨_,e,λσ ps' d=>?_⟩;obtain⟨out,h1,h2⟩:=Gg d ((Ab hv).cells) hc;refine⟨.agg ⟨out⟩,?_,.agg h2⟩;unfold AE;rw[hd] at hp;simp[ob,hi,hz,hd,e1,hp,h1]
 ·rename_i n el hd;obtain⟨p,hp,e⟩:=af e;obtain⟨cs,hc,e⟩:=af e;refine⟨_,e,λσ ps' d=>?_⟩;obtain⟨out,h1,h2⟩:=Gg d ((Ab hv).cells) hc;refine⟨.agg ⟨out⟩,?_,.agg h2⟩;unfold AE;rw[hd] at hp;simp[ob,hi,hz,hd,hp,h1]
 grind
def MD(T:TT)(t:TypeId)(l:List SV)(off:Nat)(K:SV->Option β):Option β:=
 ob (T.get t) λi=>cond (mV i.desc) (cond (Nat.ble (off+i.size) l.length) (K (.agg ((l.drop off).take i.size))) none) (ob i.zero λz=>ob (l[off]?) λx=>FU (xY z) x K)
theorem Vm{l:List SV}{off:Nat}{K:SV->Option β}(e:MD T t l off K=some b):
 ∃sv,K sv=some b/\∀(σ:Nm)(vs:List Value),bU σ l vs->∃u,rQ T t vs off=some u/\DV σ sv u:=by
 obtain⟨i,hi,e⟩:=af e;cases ha:mV i.desc with
 |true=>rw[ha] at e;obtain⟨e1,e⟩:=aT e;refine⟨_,e,λσ vs d=>⟨.agg ⟨(vs.drop off).take i.size⟩,?_,.agg ((d.drop off).take i.size)⟩⟩;simp[rQ,ob,hi,ha];rw[<-d.length,e1];rfl
 |false=>rw[ha] at e;obtain⟨z,hz,e⟩:=af e;obtain⟨x,hx,e⟩:=af e;refine⟨_,UK e,λσ vs d=>?_⟩;obtain⟨u,h1,h2⟩:=d.get hx;refine⟨u,?_,h2⟩;simp[rQ,ob,hi,ha];omega
def Vd(T:TT)(s:TypeId)(x:SV)(f:Nat)(K:SV->Option β):Option β:=
 ob (T.get s) λi=>match i.desc with
  | .struct fs=>ob (fs[f]?) λfl=>ob (T.get fl.type) λj=>cond (Nat.beq j.size 0) none (match x with
   | .ptr id off=>K (.ptr id (off+fl.offset))
   | .lp cs=>K (.lp (cs.drop fl.offset))
   |_=>none)
  |_=>bM 5
variable{x:SV}
theorem afk{s:TypeId}{f:Nat}{K:SV->Option β}(e:Vd T s x f K=some b):
 ∃sv,K sv=some b/\∀(σ:Nm) v,DV σ x v->∃u,xJ T s v f=some u/\DV σ sv u:=by
 obtain⟨i,hi,e⟩:=af e;split at e
 ·rename_i fs hd;obtain⟨fl,hf,e⟩:=af e;obtain⟨j,hj,e⟩:=af e;cases hz:Nat.beq j.size 0 with
  |true=>grind
  |false=>
   rw[hz] at e;split at e
   ·refine⟨_,e,λσ v d=>?_⟩;cases d with
    |ptr g=>refine⟨_,?_,.ptr g⟩;simp[xJ,ob,hi,hd,hf,hj,hz]
   ·refine⟨_,e,λσ v d=>?_⟩;cases d with
    |lp p=>refine⟨_,?_,.lp (p.drop _)⟩;simp[xJ,og,ob,hi,hd,hf,hj,hz]
   grind
 grind
def aQ(sz m:Nat)(x:Value)(K:List Value->Option β):Option β:=match x with
 | .func (.via n _ _ true) cs _=>cond (Nat.blt m n) (K (cs.toList.drop (m*sz))) none
 |_=>none
theorem tJ{n:Int}{K:Nat->Option β}(e:aG n K=some b):∃m,n=.ofNat m/\K m=some b:=by unfold aG at e;split at e<;>grind
def MA(T:TT)(st:St)(t:TypeId)(x ix:SV)(K:SV->Option β):Option β:=match ix with
 | .i _ n=>aG n λm=>ob (T.get t) λi=>match i.desc,x with
  | .array len e,.ptr id off=>ob (T.get e) λj=>cond (Nat.blt m len) (K (.ptr id (off+m*j.size))) none
  | .array len e,.lp cs=>ob (T.get e) λj=>cond (Nat.blt m len) (K (.lp (cs.drop (m*j.size)))) none
  | .slice e,.v x=>ob (T.get e) λj=>aQ j.size m x λcs=>K (.lp cs)
  | .slice e,.sl id off n _=>ob (T.get e) λj=>cond (Nat.blt m n) (K (.ptr id (off+m*j.size))) none
  | .slice e,.gr id _=>ob (T.get e) λj=>ob (st.h.get id) λso=>match so with
   | .grow E c _=>cond (Nat.beq E j.size&&Nat.blt (m*E) c.length) (K (.ptr id (0+m*j.size))) none
   |_=>bM 6
  |_,_=>bM 7
 |_=>bM 8
theorem afn{st:St}{ix:SV}{K:SV->Option β}(e:MA T st t x ix K=some b):
 ∃sv,K sv=some b/\∀(σ:Nm)(tm:Tr Value)(h:Heap)(nx:Nat),aM σ st tm h nx->∀v w,DV σ x v->DV σ ix w->∃u,rP T t v w=some u/\DV σ sv u:=by
 unfold MA at e;split at e
 ·obtain⟨m,rfl,e⟩:=tJ e;replace e:=af e;obtain⟨i,hi,e⟩:=e;split at e
  ·rename_i len el id off hd _;obtain⟨j,hj,e⟩:=af e;obtain⟨e1,e⟩:=aT e;refine⟨_,e,λσ tm h nx R v w d d2=>?_⟩;cases d2;cases d with
   |ptr g=>refine⟨_,?_,.ptr g⟩;simp[rP,ob,hi,hd,hj,e1]
  ·rename_i len el cs hd _;obtain⟨j,hj,e⟩:=af e;obtain⟨e1,e⟩:=aT e;refine⟨_,e,λσ tm h nx R v w d d2=>?_⟩;cases d2;cases d with
   |lp p=>refine⟨_,?_,.lp (p.drop _)⟩;simp[rP,og,ob,hi,hd,hj,e1]
  ·rename_i el x hd _;obtain⟨j,hj,e⟩:=af e;unfold aQ at e;split at e
   ·rename_i n oY fid cs ys;obtain⟨e1,e⟩:=aT e;refine⟨_,e,λσ tm h nx R v w d d2=>?_⟩;cases d2;cases d with
    |v p q=>
     cases p with
     |lit h1 h2=>refine⟨_,?_,.lp (bO.drop ⟨h1,h2⟩ _)⟩;simp[rP,ob,hi,hd,hj,e1]
    |im=>have:=cT e1;omega
   ·cases e
  ·rename_i el id off n cap hd _;obtain⟨j,hj,e⟩:=af e;obtain⟨e1,e⟩:=aT e;refine⟨_,e,λσ tm h nx R v w d d2=>?_⟩;cases d2;cases d with
   |sl g hc hn=>refine⟨_,?_,.ptr g⟩;simp[rP,ob,hi,hd,hj,e1]
  ·rename_i el id E0 hd _;obtain⟨j,hj,e⟩:=af e;obtain⟨so,hso,e⟩:=af e;split at e
   ·rename_i E c t0;obtain⟨e1,e⟩:=aT e;rw[bg] at e1;have e3:=cT e1.2;refine⟨_,e,λσ tm h nx R v w d d2=>?_⟩;obtain⟨k1,k2,k3⟩:=R.obj id _ hso;cases d2;rcases k3 with⟨_,k4⟩|⟨o,n,g1,g2,_⟩
    ·subst k4;simp at e3
    ·cases d with
     |gP g=>rw[g1] at g;cases g
     |gr g=>
      rw[g1] at g;cases g;have hlt:Nat.blt m n=true:=by refine gi ?_;rw[g2] at e3;exact Nat.lt_of_mul_lt_mul_right e3
      refine⟨_,?_,.ptr g1⟩;simp[rP,ob,hi,hd,hj,hlt]
   ·cases e
  ·cases e
 ·cases e
end
section
variable{β:Type}
def R7(op:BinOp)(k:IntKind)(a b:Int)(K:SV->Option β):Option β:=match op with
 | .add=>K (.i k (ah k (Int.add a b)))
 | .sub=>K (.i k (ah k (Int.sub a b)))
 | .mul=>K (.i k (ah k (Int.mul a b)))
 | .quo=>cond (ak b 0) none (K (.i k (ah k (Int.tdiv a b))))
 | .rem=>cond (ak b 0) none (K (.i k (Int.tmod a b)))
 | .and=>K (.i k (ah k ((BitVec.ofInt k.bits a&&&BitVec.ofInt k.bits b).toNat:Nat)))
 | .or=>K (.i k (ah k ((BitVec.ofInt k.bits a|||BitVec.ofInt k.bits b).toNat:Nat)))
 | .xor=>K (.i k (ah k ((BitVec.ofInt k.bits a^^^BitVec.ofInt k.bits b).toNat:Nat)))
 | .eql=>K (.b (ak a b))
 | .neq=>K (.b (!ak a b))
 | .lss=>K (.b (aq a b))
 | .leq=>K (.b (!aq b a))
 | .gtr=>K (.b (aq b a))
 | .geq=>K (.b (!aq a b))
 |_=>none
def OE(op:BinOp)(k:IntKind)(a b:Int)(K:SV->Option β):Option β:=match op with
 | .shl=>cond (aq b 0) none (K (.i k (ah k (Int.mul a (2^min b.toNat k.bits)))))
 | .shr=>cond (aq b 0) none (K (.i k (Int.fdiv a (2^min b.toNat k.bits))))
 |_=>none
theorem ya{α:Type}{a:Bool}{x:Option α}{y:α}(h:cond a none x=some y):a=false/\x=some y:=by grind
variable{a:Int} {c:β} {k:IntKind} {op:BinOp}
theorem aao{b:Int}{K:SV->Option β}(e:R7 op k a b K=some c):∃sv v,K sv=some c/\vu op k a b=some v/\∀σ,DV σ sv v:=by
 cases op with
 |add=>exact⟨_,_,e,rfl,λσ=>.i _ _⟩
 |sub=>exact⟨_,_,e,rfl,λσ=>.i _ _⟩
 |mul=>exact⟨_,_,e,rfl,λσ=>.i _ _⟩
 |quo=>obtain⟨h,e⟩:=ya e;refine⟨_,_,e,?_,λσ=>.i _ _⟩;simp[vu,h]
 |rem=>obtain⟨h,e⟩:=ya e;refine⟨_,_,e,?_,λσ=>.i _ _⟩;simp[vu,h]
 |and=>exact⟨_,_,e,rfl,λσ=>.i _ _⟩
 |or=>exact⟨_,_,e,rfl,λσ=>.i _ _⟩
 |xor=>exact⟨_,_,e,rfl,λσ=>.i _ _⟩
 |eql=>exact⟨_,_,e,rfl,λσ=>.b _⟩
 |neq=>exact⟨_,_,e,rfl,λσ=>.b _⟩
 |lss=>exact⟨_,_,e,rfl,λσ=>.b _⟩
 |leq=>exact⟨_,_,e,rfl,λσ=>.b _⟩
 |gtr=>exact⟨_,_,e,rfl,λσ=>.b _⟩
 |geq=>exact⟨_,_,e,rfl,λσ=>.b _⟩
 |_=>cases e
theorem Wl{b:Int}{K:SV->Option β}(e:OE op k a b K=some c):∃sv v,K sv=some c/\rR op k a b=some v/\∀σ,DV σ sv v:=by
 cases op with
 |shl=>obtain⟨h,e⟩:=ya e;refine⟨_,_,e,?_,λσ=>.i _ _⟩;simp[rR,h]
 |shr=>obtain⟨h,e⟩:=ya e;refine⟨_,_,e,?_,λσ=>.i _ _⟩;simp[rR,h]
 |_=>cases e
def ax(x:Value)(K:Nat->Option β):Option β:=match x with
 | .func (.via n _ _ true) _ _=>K n
 |_=>none
def JM:List SV->List SV->Option Bool
 |[],[]=>some true
 | .i k a::xs,.i k' b::ys=>cond (decide (k=k')) (ob (JM xs ys) λr=>some (cond (ak a b) r false)) none
 |_,_=>none
def Mx(T:TT)(t:TypeId)(x y:SV)(K:Bool->Option β):Option β:=ob (T.get t) λi=>match i.desc,x,y with
 | .pointer _,.ptr _ _,.v (.pointer none)=>K false
 | .slice _,.em b,.nl=>K b
 | .slice _,.nl,.nl=>K true
 | .slice _,.sl _ _ _ _,.nl=>K false
 | .slice _,.v x,.nl=>ax x λn=>cond (Nat.blt 0 n) (K false) none
 | .func ..,.fn _ _,.v .nilFunc=>K false
 | .func ..,.v .nilFunc,.v .nilFunc=>K true
 | .interface _,.eR _ _,.ni=>K false
 |_,.agg xs,.agg ys=>cond (i.flat&&Nat.beq xs.length i.size) (ob (JM xs ys) K) none
 |_,_,_=>bM 51
theorem Q7{σ:Nm}:∀{xs ys:List SV}{r:Bool},JM xs ys=some r->∀{vs ws:List Value},bU σ xs vs->bU σ ys ws->lA vs ws=some r/\jO vs=true/\jO ws=true/\vs.length=ws.length
 |[],[],r,e,_,_,.nil,.nil=>by cases e;exact⟨rfl,rfl,rfl,rfl⟩
 | .i k a::xs,.i k' b::ys,r,e,_,_,.cons d1 t1,.cons d2 t2=>by
  obtain⟨e1,e3⟩:=aT e;obtain⟨r',h1,e3⟩:=af e3;cases e3;obtain⟨g1,g2,g3,g4⟩:=Q7 h1 t1 t2;cases d1;cases d2;refine⟨?_,g2,g3,by simp[g4]⟩
  ·unfold lA;simp_all;cases ak a b<;>simp
def Mu(T:TT)(op:BinOp)(t:TypeId)(x y:SV)(K:SV->Option β):Option β:=match x,y with
 | .i k a,.i k' b=>match op with
  | .shl=>OE .shl k a b K
  | .shr=>OE .shr k a b K
  |op=>cond (decide (k=k')) (R7 op k a b K) none
 | .s a,.s b=>match op with
  | .eql=>K (.b (nS a.data.toList b.data.toList))
  | .neq=>K (.b (!nS a.data.toList b.data.toList))
  |_=>bM 9
 | .b a,.b b=>ob (T.get t) λi=>match i.desc,op with
  | .bool,.eql=>K (.b (a==b))
  | .bool,.neq=>K (.b (!(a==b)))
  |_,_=>bM 10
 |x,y=>match op with
  | .eql=>Mx T t x y λr=>K (.b r)
  | .neq=>Mx T t x y λr=>K (.b (!r))
  |_=>bM 11
variable{T:TT} {b:β} {t:TypeId} {x y:SV}
theorem Vb{K:Bool->Option β}(e:Mx T t x y K=some b):
 ∃r,K r=some b/\∀(σ:Nm) v w (c:Bool),DV σ x v->DV σ y w->lj T .eql t c v w=some (.bool r)/\lj T .neq t c v w=some (.bool (!r)):=by
 replace e:=af e;obtain⟨i,hi,e⟩:=e;have fin:∀{r:Bool}{v w:Value},(∀k a k' c,¬(v=.int k a/\w=.int k' c))->(∀a c,¬(v=.string a/\w=.string c))->¬(v=.nilIface/\w=.nilIface)->iv T t v w=some r->
  ∀c,lj T .eql t c v w=some (.bool r)/\lj T .neq t c v w=some (.bool (!r)):=by
  intro r v w h1 h2 h3 h4 c;constructor
  ·unfold lj;split
   ·exact absurd ⟨rfl,rfl⟩ (h1 _ _ _ _)
   ·exact absurd ⟨rfl,rfl⟩ (h2 _ _)
   ·exact absurd ⟨rfl,rfl⟩ h3
   ·simp only[ob,h4]
  ·unfold lj;split
   ·exact absurd ⟨rfl,rfl⟩ (h1 _ _ _ _)
   ·exact absurd ⟨rfl,rfl⟩ (h2 _ _)
   ·exact absurd ⟨rfl,rfl⟩ h3
   ·simp only[ob,h4]
 split at e
 ·rename_i hd;refine⟨_,e,λσ v w c d d2=>?_⟩;cases d with
  |ptr g=>
   cases d2 with
   |v _ _=>exact fin (λ_ _ _ _ q=>by cases q.1) (λ_ _ q=>by cases q.1) (λq=>by cases q.1) (by unfold iv;simp only[ob,hi,hd]) c
 ·rename_i q hd;refine⟨_,e,λσ v w c d d2=>?_⟩;cases d;cases d2;cases q with
  |false=>exact fin (λ_ _ _ _ q=>by cases q.1) (λ_ _ q=>by cases q.1) (λq=>by cases q.1) (by unfold iv vQ;simp only[ob,hi,hd,aE]) c
  |true=>exact fin (λ_ _ _ _ q=>by cases q.1) (λ_ _ q=>by cases q.1) (λq=>by cases q.1) (by unfold iv vQ;simp only[ob,hi,hd,ay]) c
 ·rename_i hd;refine⟨_,e,λσ v w c d d2=>?_⟩;cases d;cases d2;exact fin (λ_ _ _ _ q=>by cases q.1) (λ_ _ q=>by cases q.1) (λq=>by cases q.1) (by unfold iv;simp only[ob,hi,hd];rfl) c
 ·rename_i hd;refine⟨_,e,λσ v w c d d2=>?_⟩;cases d;cases d2;exact fin (λ_ _ _ _ q=>by cases q.1) (λ_ _ q=>by cases q.1) (λq=>by cases q.1) (by unfold iv;simp only[ob,hi,hd]) c
 ·rename_i x hd;unfold ax at e;split at e
  ·rename_i n p f cs ys;obtain⟨e1,e⟩:=aT e;have e1:=cT e1;refine⟨_,e,λσ v w c d d2=>?_⟩;obtain⟨m,rfl⟩:=Nat.exists_eq_succ_of_ne_zero (Nat.pos_iff_ne_zero.1 e1);cases d2;cases d with
   |v _ _=>exact fin (λ_ _ _ _ q=>by cases q.1) (λ_ _ q=>by cases q.1) (λq=>by cases q.1) (by unfold iv;simp only[ob,hi,hd]) c
  ·cases e
 ·rename_i hd;refine⟨_,e,λσ v w c d d2=>?_⟩;cases d2 with
  |v _ _=>
   cases d with
   |fn _=>exact fin (λ_ _ _ _ q=>by cases q.1) (λ_ _ q=>by cases q.1) (λq=>by cases q.1) (by unfold iv;simp only[ob,hi,hd];rfl) c
 ·rename_i hd;refine⟨_,e,λσ v w c d d2=>?_⟩;cases d2 with
  |v _ _=>
   cases d with
   |v _ _=>exact fin (λ_ _ _ _ q=>by cases q.1) (λ_ _ q=>by cases q.1) (λq=>by cases q.1) (by unfold iv;simp only[ob,hi,hd]) c
 ·rename_i hd;refine⟨_,e,λσ v w c d d2=>?_⟩;cases d;cases d2;exact fin (λ_ _ _ _ q=>by cases q.1) (λ_ _ q=>by cases q.1) (λq=>by cases q.1) (by unfold iv;simp only[ob,hi,hd]) c
 ·obtain⟨e1,e⟩:=aT e;rw[bg] at e1;have e2:=bJ e1.2;obtain⟨r,h1,e⟩:=af e;refine⟨_,e,λσ v w c d d2=>?_⟩;cases d with
  |agg g=>
   cases d2 with
   |agg g2=>
    rename_i vs ws;obtain⟨k1,k2,k3,k4⟩:=Q7 h1 g g2;have hl:=g.length;have s1:Nat.beq vs.size i.size=true:=by rw[jE];simp;simpa using(by omega:vs.toList.length=i.size)
    have s2:Nat.beq ws.size i.size=true:=by rw[jE];simp;simpa using(by omega:ws.toList.length=i.size)
    refine fin (λ_ _ _ _ q=>by cases q.1) (λ_ _ q=>by cases q.1) (λq=>by cases q.1) ?_ c;simp[iv,ob,hi,e1.1,s1,s2,k1,k2,k3]
 ·cases e
theorem aff{K:SV->Option β}(e:Mu T op t x y K=some b):
 ∃sv,K sv=some b/\∀(σ:Nm) v w (c:Bool),DV σ x v->DV σ y w->∃u,lj T op t c v w=some u/\DV σ sv u:=by
 unfold Mu at e;split at e
 ·rename_i k a k' b';split at e
  ·obtain⟨sv,v,h1,hv,h2⟩:=Wl e;refine⟨sv,h1,λσ v' w c d d2=>?_⟩;cases d;cases d2;exact⟨v,hv,h2 σ⟩
  ·obtain⟨sv,v,h1,hv,h2⟩:=Wl e;refine⟨sv,h1,λσ v' w c d d2=>?_⟩;cases d;cases d2;exact⟨v,hv,h2 σ⟩
  ·obtain⟨e1,e⟩:=aT e;obtain⟨sv,v,h1,hv,h2⟩:=aao e;refine⟨sv,h1,λσ v' w c d d2=>?_⟩;cases d;cases d2;refine⟨v,?_,h2 σ⟩;cases op<;>first
    |(simp only[lj,e1];exact hv)
    |(rename_i n1 n2;exact absurd rfl (by assumption))
 ·rename_i a b';split at e
  ·refine⟨_,e,λσ v' w c d d2=>?_⟩;cases d;cases d2;exact⟨_,rfl,.b _⟩
  ·refine⟨_,e,λσ v' w c d d2=>?_⟩;cases d;cases d2;exact⟨_,rfl,.b _⟩
  ·cases e
 ·rename_i a b';replace e:=af e;obtain⟨i,hi,e⟩:=e;split at e
  ·rename_i hd;refine⟨_,e,λσ v' w c d d2=>?_⟩;cases d;cases d2;refine⟨.bool (a==b'),?_,.b _⟩;simp[lj,iv,ob,hi,hd]
  ·rename_i hd;refine⟨_,e,λσ v' w c d d2=>?_⟩;cases d;cases d2;refine⟨.bool (!(a==b')),?_,.b _⟩;simp[lj,iv,ob,hi,hd]
  ·cases e
 ·split at e
  ·obtain⟨r,h1,h2⟩:=Vb e;exact⟨_,h1,λσ v w c d d2=>⟨_,(h2 σ v w c d d2).1,.b _⟩⟩
  ·obtain⟨r,h1,h2⟩:=Vb e;exact⟨_,h1,λσ v w c d d2=>⟨_,(h2 σ v w c d d2).2,.b _⟩⟩
  ·cases e
def ME(op:UnOp)(x:SV)(K:SV->Option β):Option β:=match op,x with
 | .not,.b a=>K (.b (!a))
 | .neg,.i k n=>K (.i k (ah k (Int.sub 0 n)))
 |_,_=>bM 12
theorem afw{op:UnOp}{K:SV->Option β}(e:ME op x K=some b):∃sv,K sv=some b/\∀(σ:Nm) v,DV σ x v->∃u,DU op v=some u/\DV σ sv u:=by
 unfold ME at e;split at e
 ·exact⟨_,e,λσ v d=>by cases d;exact⟨_,rfl,.b _⟩⟩
 ·exact⟨_,e,λσ v d=>by cases d;exact⟨_,rfl,.i _ _⟩⟩
 grind
def Mv(T:TT)(s d:TypeId)(x:SV)(K:SV->Option β):Option β:=match x with
 | .i _ n=>ob (T.get s) λ_=>ob (T.get d) λj=>match j.desc with
  | .int k=>K (.i k (ah k n))
  |_=>bM 13
 |_=>bM 14
theorem afh{s d:TypeId}{K:SV->Option β}(e:Mv T s d x K=some b):
 ∃sv,K sv=some b/\∀(σ:Nm) v,DV σ x v->∃k n u,v=.int k n/\AF T s d v=some u/\DV σ sv u:=by
 unfold Mv at e;split at e
 ·obtain⟨i,hi,e⟩:=af e;obtain⟨j,hj,e⟩:=af e;split at e
  ·rename_i k hd;refine⟨_,e,λσ v dv=>?_⟩;cases dv;refine⟨_,_,_,rfl,?_,.i _ _⟩;simp[AF,ob,hi,hj,hd]
  grind
 grind
def rp(s:ByteArray)(m:Nat):Option UInt8:=s.data.toList[m]?
def Mz(T:TT)(t:TypeId)(x ix:SV)(K:SV->Option β):Option β:=match ix with
 | .i _ n=>aG n λm=>ob (T.get t) λi=>match i.desc,x with
  | .array len e,.agg l=>ob (T.get e) λj=>cond (Nat.blt m len) (match xb l with|some us=>ob j.zero λz=>uc j z (us.drop (m*j.size)) K|none=>MD T e l (m*j.size) K) none
  | .string,.s s=>ob (rp s m) λc=>K (.i .u8 (Int.ofNat c.toNat))
  |_,_=>bM 15
 |_=>bM 16
theorem afo{ix:SV}{K:SV->Option β}(e:Mz T t x ix K=some b):
 ∃sv,K sv=some b/\∀(σ:Nm) v w,DV σ x v->DV σ ix w->∃u,vr T t v w=some u/\DV σ sv u:=by
 unfold Mz at e;split at e
 ·obtain⟨m,rfl,e⟩:=tJ e;replace e:=af e;obtain⟨i,hi,e⟩:=e;split at e
  ·rename_i len el l hd _;obtain⟨j,hj,e⟩:=af e;obtain⟨e1,e⟩:=aT e;split at e
   ·rename_i us hus;obtain⟨z,hz,e⟩:=af e;obtain⟨sv,h1,h2⟩:=Bz e;refine⟨sv,h1,λσ v w d d2=>?_⟩;cases d2;cases d with
    |agg g=>obtain⟨k1,k2⟩:=Ag g hus;obtain⟨u,u1,u2⟩:=h2 k2 _ k1;refine⟨u,?_,u1 σ⟩;simp[vr,ob,hi,hd,e1];unfold rQ;simp_all;exact u2
   ·obtain⟨sv,h1,h2⟩:=Vm e;refine⟨sv,h1,λσ v w d d2=>?_⟩;cases d2;cases d with
    |agg g=>obtain⟨u,u1,u2⟩:=h2 σ _ g;refine⟨u,?_,u2⟩;simp[vr,ob,hi,hd,hj,e1];exact u1
  ·rename_i s hd _;obtain⟨c,hc,e⟩:=af e;unfold rp at hc;refine⟨_,e,λσ v w d d2=>?_⟩;cases d2;cases d;refine⟨.int .u8 (Int.ofNat c.toNat),?_,.i _ _⟩;simp[vr,ob,hi,hd,hc]
  ·cases e
 ·cases e
def Vf(T:TT)(st:St)(t:TypeId)(x:SV)(K:SV->Option β):Option β:=
 ob (T.get t) λi=>match i.desc,x with
  | .string,.s s=>K (.i .i64 (Int.ofNat s.data.toList.length))
  | .array n _,_=>K (.i .i64 (Int.ofNat n))
  | .slice _,.nl=>K (.i .i64 (Int.ofNat 0))
  | .slice _,.v x=>ax x λn=>K (.i .i64 (Int.ofNat n))
  | .slice _,.sl _ _ n _=>K (.i .i64 (Int.ofNat n))
  | .slice _,.gr id _=>ob (st.h.get id) λso=>match so with
   | .grow E c _=>K (.i .i64 (Int.ofNat (c.length/E)))
   |_=>bM 17
  |_,_=>bM 18
theorem afp{st:St}{K:SV->Option β}(e:Vf T st t x K=some b):
 ∃sv,K sv=some b/\∀(σ:Nm)(tm:Tr Value)(h:Heap)(nx:Nat),aM σ st tm h nx->∀v,DV σ x v->∃u,pA T t v=some u/\DV σ sv u:=by
 replace e:=af e;obtain⟨i,hi,e⟩:=e;split at e
 ·rename_i hd;refine⟨_,e,λσ tm h nx R v d=>?_⟩;cases d;refine⟨_,?_,.i _ _⟩;simp[pA,ob,hi,hd]
 ·rename_i hd;refine⟨_,e,λσ tm h nx R v d=>?_⟩;refine⟨_,?_,.i _ _⟩;simp[pA,ob,hi,hd]
 ·rename_i hd;refine⟨_,e,λσ tm h nx R v d=>?_⟩;cases d;refine⟨_,?_,.i _ _⟩;simp[pA,ob,hi,hd]
 ·rename_i hd;unfold ax at e;split at e
  ·refine⟨_,e,λσ tm h nx R v d=>?_⟩;cases d with
   |v p q=>refine⟨_,?_,.i _ _⟩;simp[pA,ob,hi,hd]
   |im=>refine⟨_,?_,.i _ _⟩;simp[pA,ob,hi,hd]
  ·cases e
 ·rename_i hd;refine⟨_,e,λσ tm h nx R v d=>?_⟩;cases d;refine⟨_,?_,.i _ _⟩;simp[pA,ob,hi,hd]
 ·rename_i hd;obtain⟨so,hso,e⟩:=af e;split at e
  ·rename_i E c t0;refine⟨_,e,λσ tm h nx R v d=>?_⟩;obtain⟨k1,k2,k3⟩:=R.obj _ _ hso;rcases k3 with⟨g1,g2⟩|⟨o,n,g1,g2,_⟩
   ·subst g2;cases d with
    |gP g=>
     refine⟨.int .i64 (Int.ofNat 0),?_,?_⟩
     ·unfold pA;simp only[ob,hi,hd]
     ·have:([]:List Value).length/E=0:=by simp
      rw[this];exact .i _ _
    |gr g=>rw[g1] at g;cases g
   ·cases d with
    |gP g=>rw[g1] at g;cases g
    |gr g=>
     rw[g1] at g;cases g;refine⟨.int .i64 (Int.ofNat n),?_,?_⟩
     ·unfold pA;simp only[ob,hi,hd]
     ·have:c.length/E=n:=by rw[g2];exact lP n k1
      rw[this];exact .i _ _
  ·cases e
 ·cases e
def Ve(T:TT)(t:TypeId)(x:SV)(K:SV->Option β):Option β:=ob (T.get t) λi=>cond (yG i.desc) none (K (.eR t x))
theorem afm{K:SV->Option β}(e:Ve T t x K=some b):∃sv,K sv=some b/\∀(σ:Nm) v,DV σ x v->∃u,DQ T t v=some u/\DV σ sv u:=by obtain⟨i,hi,e⟩:=af e;obtain⟨h,e⟩:=ya e;refine⟨_,e,λσ v d=>⟨.iface t v,?_,.eR d⟩⟩;simp[DQ,ob,hi,h]
def Vl(T:TT)(op:BinOp)(t:TypeId)(K:SV->Option β):Option β:=ob (T.get t) λi=>match i.desc,op with
 | .interface _,.eql=>K (.b true)
 | .interface _,.neq=>K (.b false)
 |_,_=>bM 54
theorem aft{K:SV->Option β}(e:Vl T op t K=some b):∃sv,K sv=some b/\∀(σ:Nm),∃u,lj T op t true .nilIface .nilIface=some u/\DV σ sv u:=by
 replace e:=af e;obtain⟨i,hi,e⟩:=e;split at e
 ·rename_i hd;exact⟨_,e,λσ=>⟨.bool true,by unfold lj iv;simp only[ob,hi,hd],.b _⟩⟩
 ·rename_i hd;exact⟨_,e,λσ=>⟨.bool false,by unfold lj iv;simp only[ob,hi,hd];rfl,.b _⟩⟩
 grind
def U7(T:TT)(x:SV)(a:TypeId)(ok:Bool)(K:SV->Option β):Option β:=ob (T.get a) λi=>cond (yG i.desc) none (match x with
 | .ni=>cond ok (ob i.zero λz=>ob (sS z) λzv=>K (.aH [zv,.b false])) none
 | .eR t v=>cond (Nat.beq t a) (cond ok (K (.aH [v,.b true])) (K v)) (cond ok (ob i.zero λz=>ob (sS z) λzv=>K (.aH [zv,.b false])) none)
 |_=>bM 55)
theorem afe{a:TypeId}{ok:Bool}{K:SV->Option β}(e:U7 T x a ok K=some b):∃sv,K sv=some b/\∀(σ:Nm) v,DV σ x v->∃u,vp T v a ok=some u/\DV σ sv u:=by
 replace e:=af e;obtain⟨i,hi,e⟩:=e;obtain⟨h,e⟩:=ya e;split at e
 ·cases ok with
  |false=>grind
  |true=>obtain⟨z,hz,e⟩:=af e;obtain⟨zv,hv,e⟩:=af e;refine⟨_,e,λσ v d=>?_⟩;cases d;refine⟨.tuple ⟨[z,.bool false]⟩,?_,.aH (.cons (Ab hv) (.cons (.b _) .nil))⟩;simp[vp,ob,hi,h,hz]
 ·rename_i t y hxx;cases ht:Nat.beq t a with
  |true=>
   rw[ht] at e;cases ok with
   |true=>
    refine⟨_,e,λσ v d=>?_⟩;cases d with
    |eR g=>refine⟨_,?_,.aH (.cons g (.cons (.b _) .nil))⟩;simp[vp,ob,hi,h,ht]
   |false=>
    refine⟨_,e,λσ v d=>?_⟩;cases d with
    |eR g=>refine⟨_,?_,g⟩;simp[vp,ob,hi,h,ht]
  |false=>
   rw[ht] at e;cases ok with
   |false=>grind
   |true=>
    obtain⟨z,hz,e⟩:=af e;obtain⟨zv,hv,e⟩:=af e;refine⟨_,e,λσ v d=>?_⟩;cases d with
    |eR g=>refine⟨.tuple ⟨[z,.bool false]⟩,?_,.aH (.cons (Ab hv) (.cons (.b _) .nil))⟩;simp[vp,ob,hi,h,ht,hz]
 grind
end
section
variable{β:Type}
def nU(x:Option SV)(d:Nat)(K:Nat->Option β):Option β:=match x with
 |none=>K d
 |some (.i _ n)=>aG n K
 |_=>none
inductive u9(σ:Nm):Option SV->Option Value->Prop where
 |none:u9 σ none none
 |some {x:SV} {v:Value} (h:DV σ x v):u9 σ (some x) (some v)
variable{b:β}
theorem pG{x:Option SV}{d:Nat}{K:Nat->Option β}(e:nU x d K=some b):∃m,K m=some b/\∀(σ:Nm)(v:Option Value)(lim:Nat),u9 σ x v->(x.isSome=true->m<=lim)->mL v d lim=some m:=by
 unfold nU at e;split at e
 ·exact⟨_,e,λσ v lim h _=>by cases h;rfl⟩
 ·obtain⟨m,rfl,e⟩:=tJ e;refine⟨m,e,λσ v lim h hl=>?_⟩;cases h with
  |some h=>cases h;unfold mL;have:Nat.ble m lim=true:=gi (hl rfl);simp[this]
 grind
def ib(sz l h:Nat)(x:Value)(K:Value->Option β):Option β:=match x with
 | .func (.via _ _ _ true) cs _=>K (ae (h -l) ((cs.toList.drop (l*sz)).take ((h -l)*sz)))
 |_=>none
def Vn(T:TT)(t:TypeId)(x:SV)(lo hi mx:Option SV)(K:SV->Option β):Option β:=
 ob (T.get t) λi=>match i.desc,x,mx with
  | .slice e,.v x,none=>ob (T.get e) λj=>ax x λn=>nU hi n λh=>nU lo 0 λl=>cond (Nat.ble h n&&Nat.ble l h) (ib j.size l h x λy=>K (.v y)) none
  | .slice e,.v x,some mx=>ob (T.get e) λj=>ax x λn=>nU (some mx) n λm=>cond hi.isSome (nU hi n λh=>nU lo 0 λl=>cond (Nat.ble m n&&(Nat.ble h m&&Nat.ble l h)) (ib j.size l h x λy=>K (.v y)) none) none
  | .array n e,.ptr id off,none=>ob (T.get e) λj=>nU hi n λh=>nU lo 0 λl=>cond (Nat.blt n bt&&(Nat.ble h n&&Nat.ble l h)) (K (.sl id (cond (Nat.beq n l) off (off+l*j.size)) (h -l) (n -l))) none
  | .slice e,.sl id off n c,none=>ob (T.get e) λj=>nU hi n λh=>nU lo 0 λl=>cond (Nat.ble h c&&Nat.ble l h) (K (.sl id (cond (Nat.beq c l) off (off+l*j.size)) (h -l) (c -l))) none
  | .string,.s s,none=>nU hi s.size λh=>nU lo 0 λl=>cond (Nat.ble h s.size&&Nat.ble l h) (K (.s (s.extract l h))) none
  |_,_,_=>bM 19
variable{n:Nat}
theorem A6{lo hi mx:Option Value}{len l h m:Nat}(h1:mL mx n n=some m)(h2:mL hi len m=some h)(h3:mL lo 0 h=some l)(hm:mx.isSome=true->hi.isSome=true):mM len n lo hi mx=some (l,h,m):=by
 simp[mM,ob];cases hi with
 |none=>grind
 |some _=>grind
theorem Qx{p:Array FieldStep}{f:FuncId}{b:Bool}{cs ys:Array Value}(h:aY (.func (.via n p f b) cs ys))(k a c:Nat):aY (ae k ((cs.toList.drop a).take c)):=by
 cases h with
 |lit h1 h2=>have:=(bO.drop ⟨h1,h2⟩ a).take c;exact .lit this.1 this.2
variable{T:TT} {t:TypeId}
theorem afu{x:SV}{lo hi mx:Option SV}{K:SV->Option β}(e:Vn T t x lo hi mx K=some b):
 ∃sv,K sv=some b/\∀(σ:Nm) v (lo' hi' mx':Option Value) (lim:Nat),DV σ x v->u9 σ lo lo'->u9 σ hi hi'->u9 σ mx mx'->∃u,qE T t v lim lo' hi' mx'=some u/\DV σ sv u:=by
 replace e:=af e;obtain⟨i,hi',e⟩:=e;split at e
 ·rename_i el x hd;replace e:=af e;obtain⟨j,hj,e⟩:=e;unfold ax at e;split at e
  ·rename_i n p f cs ys;obtain⟨h,e,b1⟩:=pG e;obtain⟨l,e,b2⟩:=pG e;obtain⟨e1,e⟩:=aT e;rw[bg] at e1;have e2:=cI e1.1;have e3:=cI e1.2;refine⟨_,e,λσ v lo' hi2 mx' lim d dl dh dm=>?_⟩;cases dm;have hb:mM n n lo' hi2 none=some (l,h,n):=A6 rfl (b1 σ hi2 n dh λ_=>e2) (b2 σ lo' h dl λ_=>e3) (λq=>by cases q);cases d with
   |v pu q=>refine⟨ae (h -l) ((cs.toList.drop (l*j.size)).take ((h -l)*j.size)),?_,.v (Qx pu _ _ _) rfl⟩;unfold qE;simp only[ob,hi',hd,hj,hb]
   |im=>
    have hl:l=0:=by omega
    have hh:h=0:=by omega
    subst hl hh;refine⟨.slice none 0 0,?_,?_⟩
    ·unfold qE;simp only[ob,hi',hd,hj,hb]
    ·have:ae (0 -0) (((⟨[]⟩:Array Value).toList.drop (0*j.size)).take ((0 -0)*j.size))=ae 0 []:=by simp
     rw[this];exact .im
  ·cases e
 ·rename_i el x mx hd;replace e:=af e;obtain⟨j,hj,e⟩:=e;unfold ax at e;split at e
  ·rename_i n p f cs ys;obtain⟨m,e,b0⟩:=pG e;obtain⟨e0,e⟩:=aT e;obtain⟨h,e,b1⟩:=pG e;obtain⟨l,e,b2⟩:=pG e;obtain⟨e1,e⟩:=aT e;rw[bg,bg] at e1;have e2:=cI e1.1;have e3:=cI e1.2.1;have e4:=cI e1.2.2;refine⟨_,e,λσ v lo' hi2 mx' lim d dl dh dm=>?_⟩;have hs:hi2.isSome=true:=by cases dh<;>first|rfl|cases e0
   have hb:=A6 (b0 σ mx' n dm λ_=>e2) (b1 σ hi2 m dh λ_=>e3) (b2 σ lo' h dl λ_=>e4) (λ_=>hs);cases d with
   |v pu q=>refine⟨ae (h -l) ((cs.toList.drop (l*j.size)).take ((h -l)*j.size)),?_,.v (Qx pu _ _ _) rfl⟩;unfold qE;simp only[ob,hi',hd,hj,hb]
   |im=>
    have hl:l=0:=by omega
    have hh:h=0:=by omega
    subst hl hh;refine⟨.slice none 0 0,?_,?_⟩
    ·unfold qE;simp only[ob,hi',hd,hj,hb]
    ·have:ae (0 -0) (((⟨[]⟩:Array Value).toList.drop (0*j.size)).take ((0 -0)*j.size))=ae 0 []:=by simp
     rw[this];exact .im
  ·cases e
 ·rename_i n el id off hd;replace e:=af e;obtain⟨j,hj,e⟩:=e;obtain⟨h,e,b1⟩:=pG e;obtain⟨l,e,b2⟩:=pG e;obtain⟨e1,e⟩:=aT e;rw[bg,bg] at e1;have e0:=e1.1;have e2:=cI e1.2.1;have e3:=cI e1.2.2;refine⟨_,e,λσ v lo' hi2 mx' lim d dl dh dm=>?_⟩;cases dm;have hb:mM n n lo' hi2 none=some (l,h,n):=A6 rfl (b1 σ hi2 n dh λ_=>e2) (b2 σ lo' h dl λ_=>e3) (λq=>by cases q);cases d with
  |ptr g=>rename_i o m;refine⟨.slice (some ⟨o,cond (Nat.beq n l) off (off+l*j.size),none⟩) (h -l) (n -l),?_,.sl g (by have:=cT e0;omega) (by omega)⟩;unfold qE;simp only[ob,hi',hd,hj,hb,e0,ay]
 ·rename_i el id off n c hd;replace e:=af e;obtain⟨j,hj,e⟩:=e;obtain⟨h,e,b1⟩:=pG e;obtain⟨l,e,b2⟩:=pG e;obtain⟨e1,e⟩:=aT e;rw[bg] at e1;have e2:=cI e1.1;have e3:=cI e1.2;refine⟨_,e,λσ v lo' hi2 mx' lim d dl dh dm=>?_⟩;cases dm;cases d with
  |sl g hc hn=>rename_i o m;have hb:mM n c lo' hi2 none=some (l,h,c):=A6 rfl (b1 σ hi2 c dh λ_=>e2) (b2 σ lo' h dl λ_=>e3) (λq=>by cases q);have hc':Nat.blt c bt=true:=gi hc;refine⟨.slice (some ⟨o,cond (Nat.beq c l) off (off+l*j.size),none⟩) (h -l) (c -l),?_,.sl g (by omega) (by omega)⟩;unfold qE;simp only[ob,hi',hd,hj,hb,hc',ay]
 ·rename_i s hd;obtain⟨h,e,b1⟩:=pG e;obtain⟨l,e,b2⟩:=pG e;obtain⟨e1,e⟩:=aT e;rw[bg] at e1;have e2:=cI e1.1;have e3:=cI e1.2;refine⟨_,e,λσ v lo' hi2 mx' lim d dl dh dm=>?_⟩;cases dm;have hb:mM s.size s.size lo' hi2 none=some (l,h,s.size):=A6 rfl (b1 σ hi2 _ dh λ_=>e2) (b2 σ lo' h dl λ_=>e3) (λq=>by cases q);cases d;refine⟨_,?_,.s _⟩;unfold qE;simp only[ob,hi',hd,hb]
 ·cases e
theorem Iu:∀{vs:List Value}{xs:List SV},rD vs=some xs->bO vs
 |[],_,_=>⟨(λx h=>by cases h),rfl⟩
 |v::vs,_,e=>by
  obtain⟨y,h1,e⟩:=af e;obtain⟨ys,h2,e⟩:=af e;refine bO.mm λx hx=>?_;rcases cj.1 hx with rfl|hx
  ·unfold xa at h1;split at h1
   ·exact⟨.bool _,rfl⟩
   ·exact⟨.int _ _,rfl⟩
   ·exact⟨.str _,rfl⟩
   ·exact⟨.ow,rfl⟩
   ·exact⟨.kS,rfl⟩
   ·exact⟨.oi,rfl⟩
   ·exact⟨.nilFunc,rfl⟩
   ·exact⟨.nilIface,rfl⟩
   grind
  ·exact(Iu h2).mem x hx
theorem FY{l:List Value}(h:bO l):∀n,bO (rep n l)
 |0=>⟨(λx h=>by cases h),rfl⟩
 |n+1=>h.append (FY h n)
def Vj(T:TT)(st:St)(t:TypeId)(len cap:SV)(K:SV->St->Option β):Option β:=
 ob (T.get t) λi=>match i.desc with
  | .slice e=>ob (T.get e) λj=>ob j.zero λz=>ob (rD z.cells.toList) λ_=>match len,cap with
   | .i _ n,.i _ k=>aG n λm=>aG k λc=>cond (Nat.blt 0 j.size&&Nat.beq z.cells.size j.size&&Nat.ble j.bytes 10000&&(Nat.ble m c&&Nat.ble c 1000000000))
    (K (.sl st.sx 0 m c) {st with h:=st.h.set st.sx (.arr (rep c z.cells.toList) e),sx:=st.sx+1}) none
   |_,_=>bM 20
  |_=>bM 21
theorem afr{st:St}{len cap:SV}{K:SV->St->Option β}(e:Vj T st t len cap K=some b):
 ∃sv st',K sv st'=some b/\st'.tm=st.tm/\∀(σ:Nm)(tm:Tr Value)(h:Heap)(nx:Nat),aM σ st tm h nx->∀v w,DV σ len v->DV σ cap w->∃σ' u h',vx T h nx t v w=some (u,h')/\NX nx σ σ'/\DV σ' sv u/\aM σ' st' tm h' (nx+1):=by
 obtain⟨i,hi,e⟩:=af e;split at e
 ·rename_i el hd;obtain⟨j,hj,e⟩:=af e;obtain⟨z,hz,e⟩:=af e;obtain⟨zs,hzs,e⟩:=af e;split at e
  ·obtain⟨m,q1,f1⟩:=tJ e;obtain⟨c,q2,f2⟩:=tJ f1;obtain⟨e1,f3⟩:=aT f2;subst q1 q2;simp only[bg] at e1;obtain⟨⟨⟨p1,p2⟩,p3⟩,p4,p5⟩:=e1;have p1:=cT p1;have p5:=cI p5;refine⟨_,_,f3,rfl,λσ tm h nx R v w d d2=>?_⟩;cases d;cases d2;obtain⟨E,R'⟩:=R.new (so:=.arr (rep c z.cells.toList) el) ⟨nx,0,_,Nm.eI _ _ _,by rw[Tr.bD,ar rfl],FY (Iu hzs) c,cU.refl _⟩;refine⟨_,.slice (some ⟨nx,0,none⟩) m c,h.set nx (.cells (rep c z.cells.toList) el false),?_,E,.sl (Nm.eI _ _ _) (by unfold bt;omega) (cI p4),R'⟩;have hz0:mN j c=some (rep c z.cells.toList):=by
    unfold mN;rw[oP];by_cases q:c*j.size=0
    ·have:c=0:=by
      rcases Nat.mul_eq_zero.1 q with h|h<;>omega
     subst this;rw[ar q];rfl
    ·rw[ai q];simp[ob,hz,p2]
   have g2:Nat.blt c 9223372036854775808=true:=gi (by omega);have g3:Nat.ble (j.bytes*c) 281474976710656=true:=by refine gi (eP (Nat.mul_le_mul (cI p3) p5) (by decide))
   simp[vx,ob,hi,hd,hj,p4,g2,g3,hz0]
  ·cases e
 ·cases e
end
section
variable{β:Type}
section
variable{σ:Nm} {st:St} {tm:Tr Value} {h:Heap} {nx:Nat}
theorem aM.swap(R:aM σ st tm h nx){id:Nat}{x:Option Nat×Nat}{so:SO}{h':Heap}{nx':Nat}(hnx:nx<=nx')(hx:∀o n,x=(some o,n)->o<nx')(hw:∀o n,x=(some o,n)->nx<=o\/∃id' n',σ id'=some (some o,n'))
 (iC:∀id' so' o n,id'≠id->st.h.get id'=some so'->σ id'=some (some o,n)->h'.get o=h.get o/\∀m k,x=(some m,k)->o≠m) (d:DO (σ.add st.sx x) h' st.sx so):
 NX nx σ (σ.add st.sx x)/\aM (σ.add st.sx x) {st with h:=(st.h.del id).set st.sx so,sx:=st.sx+1} tm h' nx':=by
 have hn:=R.fresh _ (aB _);have E:iG σ (σ.add st.sx x):=Nm.AJ hn;have old:∀id' so',((st.h.del id).set st.sx so).get id'=some so'->id'=st.sx/\so'=so\/(id'≠st.sx/\id'≠id/\st.h.get id'=some so'):=by
  intro id' so' h1;rw[Tr.bD] at h1;by_cases e:id'=st.sx
  ·grind
  ·rw[Tr.kK] at h1;by_cases e2:id'=id<;>grind
 refine⟨NX.add hn hw,⟨λt sv hv=>?_,λid' so' h1=>?_,λid1 id2 so1 so2 o n1 n2 a1 a2 b1 b2=>?_,λid' o m hm=>?_,λid' hid=>?_⟩⟩
 ·obtain⟨v,a,b⟩:=R.tm t sv hv;exact⟨v,a,b.mono E⟩
 ·rcases old id' so' h1 with⟨e1,e2⟩|⟨e1,e2,e3⟩
  ·rw[e1,e2];exact d
  ·exact(R.obj id' so' e3).mono E λo n1 g1=>(iC id' so' o n1 e2 e3 g1).1
 ·rcases old id1 so1 a1 with⟨e1,_⟩|⟨e1,e2,e3⟩
  ·rcases old id2 so2 a2 with⟨f1,_⟩|⟨f1,f2,f3⟩
   ·rw[e1,f1]
   ·rw[e1,Nm.eI] at b1;rw[Nm.kI f1] at b2
    grind
  ·rw[Nm.kI e1] at b1;rcases old id2 so2 a2 with⟨f1,_⟩|⟨f1,f2,f3⟩
   ·rw[f1,Nm.eI] at b2
    grind
   ·rw[Nm.kI f1] at b2;exact R.inj _ _ _ _ _ _ _ e3 f3 b1 b2
 ·by_cases e:id'=st.sx
  ·rw[e,Nm.eI] at hm;exact hx o m (bu hm)
  ·rw[Nm.kI e] at hm;have:=R.lt _ _ _ hm;omega
 ·have hid:st.sx+1<=id':=hid;rw[Nm.kI (by omega)];exact R.fresh id' (by omega)
end
def eX(E:Nat)(x:Value)(K:Nat->List Value->Option β):Option β:=match x with
 | .func (.via n _ _ true) cs _=>cond (Nat.ble (n*E) cs.toList.length) (K n (cs.toList.take (n*E))) none
 |_=>none
def z8(st:St)(E:Nat)(x:SV)(K:Nat->List Value->Option β):Option β:=match x with
 | .v x=>eX E x K
 | .nl=>K 0 []
 | .em _=>K 0 []
 | .gr id E0=>ob (st.h.get id) λso=>match so with
  | .grow E' c _=>cond (Nat.beq E' E&&Nat.beq E0 E) (K (c.length/E) c) none
  |_=>none
 | .sl id off n _=>ob (st.h.get id) λso=>match so with
  | .cells c _=>cond (Nat.ble (off+n*E) c.length) (ob (xb ((c.drop off).take (n*E))) λus=>K n us) none
  | .arr c _=>cond (Nat.ble (off+n*E) c.length) (K n ((c.drop off).take (n*E))) none
  |_=>none
 | .s s=>K s.data.toList.length (s.data.toList.map λb=>.int .u8 (Int.ofNat b.toNat))
 |_=>none
theorem Yj(l:List UInt8):bO (l.map λb=>Value.int .u8 (Int.ofNat b.toNat)):=bO.mm λx hx=>by obtain⟨b,_,rfl⟩:=List.mem_map.1 hx;exact⟨.int _ _,rfl⟩
variable{E:Nat} {b:β} {x:SV}
theorem OQ{st:St}(hE:0<E){K:Nat->List Value->Option β}(e:z8 st E x K=some b):
 ∃n c,K n c=some b/\∀(σ:Nm)(tm:Tr Value)(h:Heap)(nx:Nat),aM σ st tm h nx->∀v,DV σ x v->∃vs,vw v=some n/\kg h E n v=some vs/\cU c vs/\bO c:=by
 unfold z8 at e;split at e
 ·unfold eX at e;split at e
  ·rename_i n p f cs ys;obtain⟨e1,e⟩:=aT e;refine⟨_,_,e,λσ tm h nx R v d=>?_⟩;cases d with
   |v pu q=>
    cases pu with
    |lit h1 h2=>refine⟨_,rfl,?_,cU.refl _,bO.take ⟨h1,h2⟩ _⟩;unfold kg;simp only[e1,ay]
   |im=>
    have z:(⟨[]⟩:Array Value).toList.take (0*E)=[]:=by simp
    refine⟨[],rfl,rfl,by rw[z];exact .nil,?_⟩
    ·rw[z];exact⟨(λx h=>by cases h),rfl⟩
  ·cases e
 ·refine⟨_,_,e,λσ tm h nx R v d=>?_⟩;cases d;exact⟨[],rfl,rfl,.nil,(λx h=>by cases h),rfl⟩
 ·refine⟨_,_,e,λσ tm h nx R v d=>?_⟩;cases d;refine⟨[],rfl,?_,.nil,(λx h=>by cases h),rfl⟩;unfold kg vQ;simp[(λq=>gi (gZ q))]
 ·rename_i id E0;obtain⟨so,hso,e⟩:=af e;split at e
  ·rename_i E' c t;obtain⟨e1,e⟩:=aT e;rw[bg] at e1;have e2:=bJ e1.2;have e1:=bJ e1.1;subst e1 e2;refine⟨_,_,e,λσ tm h nx R v d=>?_⟩;obtain⟨k1,k2,k3⟩:=R.obj _ _ hso;rcases k3 with⟨g1,g2⟩|⟨o,n,g1,g2,vs,g3,g4⟩
   ·subst g2;cases d with
    |gP g=>rw[(show([]:List Value).length/E0=0 from by simp)];exact⟨[],rfl,rfl,.nil,k2⟩
    |gr g=>rw[g1] at g;cases g
   ·cases d with
    |gP g=>rw[g1] at g;cases g
    |gr g=>
     rw[g1] at g;cases g;rw[(show c.length/E0=n from by rw[g2];exact lP n k1)];have hl:=g4.length;refine⟨vs,rfl,?_,g4,k2⟩;unfold kg;have hc:Nat.beq (bt+E0) bt=false:=by rw[jE];simp;omega
     cases h0:Nat.beq (n*E0) 0 with
     |true=>have:=bJ h0;have hv:vs=[]:=jJ (by omega);subst hv;simp
     |false=>have hb:Nat.ble (0+n*E0) vs.length=true:=gi (by omega);simp only[aE,hc,ob,g3,hb,ay];rw[eL,gh (by omega)]
  ·cases e
 ·rename_i id off n cap;obtain⟨so,hso,e⟩:=af e;have go:∀(h:Heap)(o m:Nat)(vs:List Value)(t:TypeId)(σ:Nm)(hσ:σ id=some (some o,m))(hg:h.get o=some (.cells vs t false))(v:Value),DV σ (.sl id off n cap) v->Nat.ble (off+n*E) vs.length=true->
   vw v=some n/\kg h E n v=some ((vs.drop off).take (n*E)):=by
   intro h o m vs t σ hσ hg v d hb;cases d with
   |sl g hc hn=>
    rw[hσ] at g;cases g;refine⟨rfl,?_⟩;unfold kg;cases h0:Nat.beq (n*E) 0 with
    |true=>simp_all
    |false=>simp only[aE,(show Nat.beq cap bt=false from by rw[jE];simp;omega),ob,hg,hb,ay]
  split at e
  ·rename_i c t;obtain⟨e1,e⟩:=aT e;obtain⟨us,hus,e⟩:=af e;refine⟨_,_,e,λσ tm h nx R v d=>?_⟩;obtain⟨o,m,vs,g1,g2,g3⟩:=R.obj _ _ hso;obtain⟨k1,k2⟩:=Ag ((g3.drop off).take (n*E)) hus;obtain⟨l1,l2⟩:=go h o m vs t σ g1 g2 v d (by rw[<-g3.length];exact e1);exact⟨_,l1,l2,k1,k2⟩
  ·rename_i c t;obtain⟨e1,e⟩:=aT e;refine⟨_,_,e,λσ tm h nx R v d=>?_⟩;obtain⟨o,m,vs,g1,g2,g3,g4⟩:=R.obj _ _ hso;obtain⟨l1,l2⟩:=go h o m vs t σ g1 g2 v d (by rw[<-g4.length];exact e1);exact⟨_,l1,l2,(g4.drop off).take _,(g3.drop off).take _⟩
  ·cases e
 ·rename_i s;refine⟨_,_,e,λσ tm h nx R v d=>?_⟩;cases d;refine⟨_,rfl,?_,cU.refl _,Yj _⟩;show some ((s.data.toList.take s.data.toList.length).map λb=>Value.int .u8 (Int.ofNat b.toNat))=_;rw[rG]
 ·cases e
def aK(n:Nat):Bool:=Nat.ble n 1000000000
def F8:SO->Option (List Value×TypeId)
 | .arr c t=>some (c,t)
 | .cells c t=>ob (xb c) λus=>some (us,t)
 |_=>none
theorem F9{σ:Nm}{h:Heap}{id:Nat}{so:SO}{q:List Value×TypeId}(e:F8 so=some q)(d:DO σ h id so):∃o m vs,σ id=some (some o,m)/\h.get o=some (.cells vs q.2 false)/\cU q.1 vs/\bO q.1 :=by
 cases so with
 |arr c t=>cases e;obtain⟨o,m,vs,a,b,c,d⟩:=d;exact⟨o,m,vs,a,b,d,c⟩
 |cells c t=>obtain⟨us,h1,e⟩:=af e;cases e;obtain⟨o,m,vs,a,b,c⟩:=d;obtain⟨k1,k2⟩:=Ag c h1;simp_all
 |grow E c t=>cases e
def OS(st:St)(j ix:gC)(z:Value)(x:SV)(K:Nat->List Value->Option β):Option β:=cond (me ix.desc)
 (ob (rD z.cells.toList) λ_=>match x with
  | .i _ n=>aG n λm=>cond (Nat.ble m 1000000000) (K m (rep m z.cells.toList)) none
  |_=>bM 25)
 (z8 st j.size x K)
variable{j:gC} {z:Value}
theorem ahO{st:St}{ix:gC}(p1:0<j.size)(hz:j.zero=some z)(p2:Nat.beq z.cells.size j.size=true)(p3:j.bytes<=10000){K:Nat->List Value->Option β}(e:OS st j ix z x K=some b):
 ∃n c,K n c=some b/\∀(σ:Nm)(tm:Tr Value)(h:Heap)(nx:Nat),aM σ st tm h nx->∀v,DV σ x v->∃vs,qD h j ix v=some (n,vs)/\cU c vs/\bO c:=by
 unfold OS at e;cases p0:me ix.desc with
 |true=>
  rw[p0] at e;obtain⟨_,hsv,e⟩:=af e;split at e
  ·rename_i k n;obtain⟨m,hm,e⟩:=tJ e;obtain⟨e1,e⟩:=aT e;have e1:=cI e1;refine⟨m,_,e,λσ tm h nx R v d=>?_⟩;cases d;refine⟨_,?_,cU.refl _,FY (Iu hsv) _⟩;have hz0:mN j m=some (rep m z.cells.toList):=by
    unfold mN;rw[oP];by_cases q:m*j.size=0
    ·have:m=0:=by
      rcases Nat.mul_eq_zero.1 q with h|h<;>omega
     subst this;simp[rep]
    ·rw[ai q];simp[ob,hz,p2]
   have q1:Nat.blt m 9223372036854775808=true:=gi (by omega);have q2:Nat.ble (m*j.bytes) 281474976710656=true:=gi (eP (Nat.mul_le_mul e1 p3) (by simp));subst hm;simp[qD,p0,q1,q2,ob,hz0]
  grind
 |false=>rw[p0] at e;obtain⟨n,c,f,g⟩:=OQ p1 e;refine⟨n,c,f,λσ tm h nx R v d=>?_⟩;obtain⟨vs,w1,w2,w3⟩:=g σ tm h nx R v d;exact⟨vs,by unfold qD;simp[p0,ob,w1,w2],w3⟩
def Mt(T:TT)(st:St)(ts:List TypeId)(s x:SV)(K:SV->St->Option β):Option β:=match ts with
 |t::xt::_=>ob (T.get t) λi=>ob (T.get xt) λix=>match i.desc with
  | .slice e=>ob (T.get e) λj=>ob j.zero λz=>cond (Nat.blt 0 j.size&&(Nat.beq z.cells.size j.size&&Nat.ble j.bytes 10000))
   (OS st j ix z x λn new=>match s with
    | .nl=>cond (aK n&&Nat.beq new.length (n*j.size)) (K (.gr st.sx j.size) {st with h:=(st.h.del st.sx).set st.sx (.grow j.size new e),sx:=st.sx+1}) none
    | .gr id E0=>ob (st.h.get id) λso=>match so with
     | .grow E c t0=>cond (Nat.beq E j.size&&(Nat.beq E0 j.size&&Nat.beq t0 e)) (cond (aK c.length&&(aK n&&Nat.beq new.length (n*j.size))) (K (.gr st.sx j.size) {st with h:=(st.h.del id).set st.sx (.grow j.size (c++new) e),sx:=st.sx+1}) none) none
     |_=>bM 22
    | .sl id off n0 cap=>ob (st.h.get id) λso=>ob (F8 so) λq=>cond (Nat.beq new.length (n*j.size)&&(Nat.ble (off+n0*j.size) q.1.length&&Nat.beq q.2 e))
     (cond (Nat.ble (n0+n) cap)
      (cond (Nat.ble (off+n0*j.size+new.length) q.1.length) (K (.sl id off (n0+n) cap) {st with h:=st.h.set id (.arr (aW (off+n0*j.size) new q.1) q.2)}) none)
      (cond (aK n&&(aK n0&&Nat.ble (Builtin.nextslicecap (n0+n) cap) 5000000000)) (K (.gr st.sx j.size) {st with h:=st.h.set st.sx (.grow j.size ((q.1.drop off).take (n0*j.size)++new) e),sx:=st.sx+1}) none)) none
    |_=>bM 44) none
  |_=>bM 23
 |_=>bM 24
theorem DM{h:Heap}{nx e need bound:Nat}{cells:List Value}(hz:j.zero=some z)(p1:0<j.size)(p2:Nat.beq z.cells.size j.size=true)(p3:j.bytes<=10000)(h1:need<=2000000000)(h2:bound<=5000000000)(h3:cells.length=need*j.size):
 xK h nx e j need bound cells=some (.slice (some ⟨nx,0,none⟩) need (bt+j.size),h.set nx (.cells cells e true),nx+1):=by
 have q1:Nat.blt need 9223372036854775808=true:=gi (by omega);have q2:Nat.blt 0 j.size=true:=gi (by omega);have q3:Nat.ble (bound*j.bytes) 281474976710656=true:=gi (eP (Nat.mul_le_mul h2 p3) (by simp));simp[xK,ob,hz,q1,q2,p2,q3,(show Nat.beq cells.length (need*j.size)=true from by rw[h3];exact kV _)]
theorem afd{T:TT}{st:St}{ts:List TypeId}{s x:SV}{K:SV->St->Option β}{b:β}(e:Mt T st ts s x K=some b):
 ∃sv st',K sv st'=some b/\st'.tm=st.tm/\∀(σ:Nm)(tm:Tr Value)(h:Heap)(nx:Nat),aM σ st tm h nx->∀v w,DV σ s v->DV σ x w->∃σ' u h' nx',nN T h nx ts v w=some (u,h',nx')/\nx<=nx'/\NX nx σ σ'/\DV σ' sv u/\aM σ' st' tm h' nx':=by
 unfold Mt at e;split at e
 ·rename_i t xt rest;replace e:=af e;obtain⟨i,hi,e⟩:=e;replace e:=af e;obtain⟨ix,hix,e⟩:=e;split at e
  ·rename_i el hd;replace e:=af e;obtain⟨j,hj,e⟩:=e;replace e:=af e;obtain⟨z,hz,e⟩:=e;obtain⟨e1,e⟩:=aT e;simp only[bg] at e1;obtain⟨p1,p2,p3⟩:=e1;have p1:=cT p1;have p3:=cI p3;obtain⟨n,new,f,g⟩:=ahO p1 hz p2 p3 e;clear e;split at f
   ·obtain⟨e2,f⟩:=aT f;simp only[bg] at e2;have q1:=cI e2.1;have q2:=bJ e2.2;refine⟨_,_,f,rfl,λσ tm h nx R v w d d2=>?_⟩;obtain⟨vs,hnew,w3,w4⟩:=g σ tm h nx R w d2;cases d;have hl:=w3.length;cases h0:Nat.beq n 0 with
    |true=>have hn:=bJ h0;have hv:new=[]:=jJ (by rw[q2,hn];simp);obtain⟨E,R'⟩:=R.swap (id:=st.sx) (x:=(none,0)) (so:=.grow j.size new el) (h':=h) (nx':=nx) (aB _) (λo m q=>by cases q) (λo m q=>by cases q) (λ_ _ _ _ _ _ _=>⟨rfl,λ_ _ q=>by cases q⟩) ⟨p1,w4,.inl ⟨Nm.eI _ _ _,hv⟩⟩;refine⟨_,.slice none 0 0,h,nx,?_,aB _,E,.gP (Nm.eI _ _ _),R'⟩;unfold nN;simp only[ob,hi,hix,hd,hj,hnew,h0,ay]
    |false=>obtain⟨E,R'⟩:=R.swap (id:=st.sx) (x:=(some nx,0+n)) (so:=.grow j.size new el) (h':=h.set nx (.cells vs el true)) (nx':=nx+1) (by omega) (λo m q=>by cases q;omega) (λo m q=>by cases q;exact .inl (aB _)) (λid' so' o m _ _ q=>by have:=R.lt _ _ _ q;exact⟨by rw[Tr.bD,ai (by omega)],λm' k q=>by cases q;omega⟩) ⟨p1,w4,.inr ⟨nx,0+n,Nm.eI _ _ _,by rw[q2];simp,vs,by rw[Tr.bD,ar rfl],w3⟩⟩;refine⟨_,.slice (some ⟨nx,0,none⟩) (0+n) (bt+j.size),_,_,?_,kc _,E,.gr (Nm.eI _ _ _),R'⟩;unfold nN;simp only[ob,hi,hix,hd,hj,hnew,h0,aE];rw[DM hz p1 p2 p3 (by omega) (by omega) (by rw[iF,<-hl,q2];simp)];simp
   ·rename_i id E0;replace f:=af f;obtain⟨so,hso,f⟩:=f;split at f
    ·rename_i E c t0;obtain⟨e2,f2⟩:=aT f;obtain⟨e3,f3⟩:=aT f2;clear f f2;simp only[bg] at e2 e3;have q1:=bJ e2.1;have q0:=bJ e2.2.1;have q2:=bJ e2.2.2;subst q1 q0 q2;have q3:=cI e3.1;have q4:=cI e3.2.1;have q5:=bJ e3.2.2;refine⟨_,_,f3,rfl,λσ tm h nx R v w d d2=>?_⟩;obtain⟨vs,hnew,w3,w4⟩:=g σ tm h nx R w d2;have hl:=w3.length;obtain⟨_,k2,k3⟩:=R.obj _ _ hso;rcases k3 with⟨g1,g2⟩|⟨o,m,g1,g2,cs,g3,g4⟩
     ·subst g2;cases d with
      |gr g=>rw[g1] at g;cases g
      |gP _=>
       cases h0:Nat.beq n 0 with
       |true=>have hn:=bJ h0;have hv:new=[]:=jJ (by rw[q5,hn];simp);obtain⟨E,R'⟩:=R.swap (id:=id) (x:=(none,0)) (so:=.grow j.size ([]++new) t0) (h':=h) (nx':=nx) (aB _) (λo m q=>by cases q) (λo m q=>by cases q) (λ_ _ _ _ _ _ _=>⟨rfl,λ_ _ q=>by cases q⟩) ⟨p1,w4,.inl ⟨Nm.eI _ _ _,by rw[hv];rfl⟩⟩;refine⟨_,.slice none 0 0,h,nx,?_,aB _,E,.gP (Nm.eI _ _ _),R'⟩;unfold nN;simp only[ob,hi,hix,hd,hj,hnew,h0,ay]
       |false=>obtain⟨E,R'⟩:=R.swap (id:=id) (x:=(some nx,0+n)) (so:=.grow j.size ([]++new) t0) (h':=h.set nx (.cells vs t0 true)) (nx':=nx+1) (by omega) (λo m q=>by cases q;omega) (λo m q=>by cases q;exact .inl (aB _)) (λid' so' o m _ _ q=>by have:=R.lt _ _ _ q;exact⟨by rw[Tr.bD,ai (by omega)],λm' k q=>by cases q;omega⟩) ⟨p1,w4,.inr ⟨nx,0+n,Nm.eI _ _ _,by rw[iF,q5];simp,vs,by rw[Tr.bD,ar rfl],w3⟩⟩;refine⟨_,.slice (some ⟨nx,0,none⟩) (0+n) (bt+j.size),_,_,?_,kc _,E,.gr (Nm.eI _ _ _),R'⟩;unfold nN;simp only[ob,hi,hix,hd,hj,hnew,h0,aE];rw[DM hz p1 p2 p3 (by omega) (by omega) (by rw[iF,<-hl,q5];simp)];simp
     ·cases d with
      |gP g=>rw[g1] at g;cases g
      |gr gg=>
       rw[g1] at gg;cases gg;have hl4:=g4.length;have hm:m<=1000000000:=by have:m*1<=m*j.size:=Aq _ p1;omega
       have hlt:=R.lt _ _ _ g1;cases h0:Nat.beq n 0 with
       |true=>have hn:=bJ h0;have hv:new=[]:=jJ (by rw[q5,hn];simp);subst hv;obtain⟨E,R'⟩:=R.swap (id:=id) (x:=(some o,m)) (so:=.grow j.size (c++[]) t0) (h':=h) (nx':=nx) (aB _) (λo m q=>by cases q;exact hlt) (λo m q=>by cases q;exact .inr ⟨_,_,g1⟩) (λid' so' o' n' a1 a2 a3=>⟨rfl,λm' k q=>by cases q;intro e;subst e;exact a1 (R.inj _ _ _ _ _ _ _ a2 hso a3 g1)⟩) ⟨p1,by rw[eH];exact k2,.inr ⟨o,m,Nm.eI _ _ _,by rw[eH];exact g2,cs,g3,by rw[eH];exact g4⟩⟩;refine⟨_,.slice (some ⟨o,0,none⟩) m (bt+j.size),h,nx,?_,aB _,E,.gr (Nm.eI _ _ _),R'⟩;unfold nN;simp only[ob,hi,hix,hd,hj,hnew,h0,ay]
       |false=>
        have h1:Nat.blt n 1=false:=by
         cases q:Nat.blt n 1 with
         |false=>rfl
         |true=>
          have:=cT q;have:n=0:=by omega
          subst this;cases h0
        have hn1:=E6 h1;have hpos:0<n*j.size:=Nat.mul_pos hn1 p1;have hcs:cs.length=m*j.size:=by omega
        obtain⟨E,R'⟩:=R.swap (id:=id) (x:=(some nx,m+n)) (so:=.grow j.size (c++new) t0) (h':=(h.del o).set nx (.cells (cs++vs) t0 true)) (nx':=nx+1) (by omega) (λo m q=>by cases q;omega) (λo m q=>by cases q;exact .inl (aB _)) (λid' so' o' n' a1 a2 a3=>by have:=R.lt _ _ _ a3;refine⟨?_,λm' k q=>by cases q;omega⟩;rw[Tr.bD,ai (by omega),Tr.kK,ai];intro e;subst e;exact a1 (R.inj _ _ _ _ _ _ _ a2 hso a3 g1)) ⟨p1,k2.append w4,.inr ⟨nx,m+n,Nm.eI _ _ _,by rw[aR,g2,q5,kb],cs++vs,by rw[Tr.bD,ar rfl],g4.append w3⟩⟩;refine⟨_,.slice (some ⟨nx,0,none⟩) (m+n) (bt+j.size),_,_,?_,kc _,E,.gr (Nm.eI _ _ _),R'⟩;have hcap:Nat.beq (bt+j.size) bt=false:=by rw[jE];simp;omega
        have hb1:Nat.ble (0+m*j.size+vs.length) cs.length=false:=by
         cases q:Nat.ble (0+m*j.size+vs.length) cs.length with
         |false=>rfl
         |true=>have:=cI q;omega
        have hb2:Nat.blt (bt+j.size) bt=false:=by
         cases q:Nat.blt (bt+j.size) bt with
         |false=>rfl
         |true=>have:=cT q;omega
        have hb3:Nat.beq (0+m*j.size) cs.length=true:=by rw[jE];simp;omega
        have hb4:Nat.beq vs.length (n*j.size)=true:=by rw[jE];simp;omega
        have hon:=w3.bB w4.2;unfold nN;simp only[ob,hi,hix,hd,hj,hnew,h0,aE,hcap,g3,hb1,hb2,hb3,hb4,hon,kV,gY,ay,eL];rw[DM hz p1 p2 p3 (by omega) (by omega) (by rw[aR,hcs,<-hl,q5,kb])]
    ·cases f
   ·rename_i id off n0 cap;replace f:=af f;obtain⟨so,hso,f⟩:=f;replace f:=af f;obtain⟨q,hq,f⟩:=f;obtain⟨e2,f⟩:=aT f;simp only[bg] at e2;have q1:=bJ e2.1;have q2:=cI e2.2.1;have q3:=bJ e2.2.2;cases hb:Nat.ble (n0+n) cap with
    |true=>
     rw[hb,ay] at f;obtain⟨e3,f⟩:=aT f;refine⟨_,_,f,rfl,λσ tm h nx R v w d d2=>?_⟩;obtain⟨vs,hnew,w3,w4⟩:=g σ tm h nx R w d2;have hl:=w3.length;obtain⟨o,m,cs,g1,g2,g3,g4⟩:=F9 hq (R.obj _ _ hso);have hl3:=g3.length;have hle:=cI hb;cases d with
     |sl gg hc hn=>
      rw[g1] at gg;cases gg;cases h0:Nat.beq n 0 with
      |true=>
       have hn0:=bJ h0;have hv:new=[]:=jJ (by rw[q1,hn0];simp);subst hv;refine⟨σ,.slice (some ⟨o,off,none⟩) n0 cap,h,nx,?_,aB _,NX.refl _ _,?_,?_⟩
       ·unfold nN;simp only[ob,hi,hix,hd,hj,hnew,h0,ay]
       ·rw[hn0];exact .sl g1 hc hn
       ·refine⟨R.tm,λid1 so1 h1=>?_,λid1 id2 so1 so2 o1 n1 n2 a1 a2 b1 b2=>?_,R.lt,R.fresh⟩
        ·have h1:(st.h.set id _).get id1=some so1:=h1;rw[Tr.bD] at h1;by_cases e:id1=id
         ·rw[ar e] at h1;cases h1;rw[e];exact⟨o,m,cs,g1,g2,g4,g3⟩
         ·rw[ai e] at h1;exact R.obj _ _ h1
        ·have a1:(st.h.set id _).get id1=some so1:=a1;have a2:(st.h.set id _).get id2=some so2:=a2;rw[Tr.bD] at a1 a2;have f1:∃s,st.h.get id1=some s:=by
          by_cases e:id1=id
          ·subst e;exact⟨_,hso⟩
          ·rw[ai e] at a1;exact⟨_,a1⟩
         have f2:∃s,st.h.get id2=some s:=by
          by_cases e:id2=id
          ·subst e;exact⟨_,hso⟩
          ·rw[ai e] at a2;exact⟨_,a2⟩
         obtain⟨s1,f1⟩:=f1;obtain⟨s2,f2⟩:=f2;exact R.inj _ _ _ _ _ _ _ f1 f2 b1 b2
      |false=>
       refine⟨σ,.slice (some ⟨o,off,none⟩) (n0+n) cap,h.set o (.cells (aW (off+n0*j.size) vs cs) q.2 false),nx,?_,aB _,NX.refl _ _,.sl g1 hc hle,R.put hso g1 ⟨o,m,_,g1,by rw[Tr.bD,ar rfl],w4.aW _ g4,w3.aW _ g3⟩⟩;have hcap:Nat.beq cap bt=false:=by rw[jE];simp;omega
       have hb1:Nat.ble (off+n0*j.size+vs.length) cs.length=true:=by rw[<-hl,<-hl3];exact e3
       have hb4:Nat.beq vs.length (n*j.size)=true:=by rw[jE];simp;omega
       have hon:=w3.bB w4.2;have hcl:Nat.blt cap bt=true:=gi hc;unfold nN;simp only[ob,hi,hix,hd,hj,hnew,h0,aE,hcap,g2,hb1,hb4,hon,hcl,hb,gY,ay]
    |false=>
     rw[hb,aE] at f;obtain⟨e3,f⟩:=aT f;simp only[bg] at e3;have r1:=cI e3.1;have r2:=cI e3.2.1;have r3:=cI e3.2.2;refine⟨_,_,f,rfl,λσ tm h nx R v w d d2=>?_⟩;obtain⟨vs,hnew,w3,w4⟩:=g σ tm h nx R w d2;have hl:=w3.length;obtain⟨o,m,cs,g1,g2,g3,g4⟩:=F9 hq (R.obj _ _ hso);have hl3:=g3.length;have hgt:cap<n0+n:=by
      rcases dg cap (n0+n) with h|h
      ·exact h
      ·rw[gi h] at hb;cases hb
     cases d with
     |sl gg hc hn=>
      rw[g1] at gg;cases gg;have h0:Nat.beq n 0=false:=by rw[jE];simp;omega
      have hlen:((cs.drop off).take (n0*j.size)++vs).length=(n0+n)*j.size:=by rw[aR,dH,dZ,<-hl,q1,kb];omega
      obtain⟨E,R'⟩:=R.new (n:=n0+n) (so:=.grow j.size ((q.1.drop off).take (n0*j.size)++new) el) (ob:=.cells ((cs.drop off).take (n0*j.size)++vs) el true)
       ⟨p1,((g4.drop off).take _).append w4,.inr ⟨nx,n0+n,Nm.eI _ _ _,by rw[aR,dH,dZ,q1,kb];omega,_,by rw[Tr.bD,ar rfl],((g3.drop off).take _).append w3⟩⟩
      refine⟨_,.slice (some ⟨nx,0,none⟩) (n0+n) (bt+j.size),_,_,?_,kc _,E,.gr (Nm.eI _ _ _),R'⟩;have hcap:Nat.beq cap bt=false:=by rw[jE];simp;omega
      have hcl:Nat.blt cap bt=true:=gi hc;have hb5:Nat.blt cap (n0+n)=true:=gi hgt;have hb6:Nat.ble (off+n0*j.size) cs.length=true:=gi (by omega);unfold nN;simp only[ob,hi,hix,hd,hj,hnew,h0,aE,hcap,g2,hcl,hb,hb5,hb6,gY,Bool.and_false,uT,ay];rw[DM hz p1 p2 p3 (by omega) r3 hlen]
   ·cases f
  ·cases e
 ·cases e
theorem aM.same{σ:Nm}{st:St}{tm:Tr Value}{h:Heap}{nx:Nat}(R:aM σ st tm h nx){id:Nat}{so so':SO}(hso:st.h.get id=some so)(d:DO σ h id so'):aM σ {st with h:=st.h.set id so'} tm h nx:=by
 refine⟨R.tm,λid1 so1 h1=>?_,λid1 id2 so1 so2 o1 n1 n2 a1 a2 b1 b2=>?_,R.lt,R.fresh⟩
 ·have h1:(st.h.set id so').get id1=some so1:=h1;rw[Tr.bD] at h1;by_cases e:id1=id
  ·grind
  ·rw[ai e] at h1;exact R.obj _ _ h1
 ·have a1:(st.h.set id so').get id1=some so1:=a1;rw[Tr.bD] at a1 a2;have f1:∃s,st.h.get id1=some s:=by grind
  have f2:∃s,st.h.get id2=some s:=by grind
  obtain⟨s1,f1⟩:=f1;obtain⟨s2,f2⟩:=f2;exact R.inj _ _ _ _ _ _ _ f1 f2 b1 b2
variable{n:Nat} {v:Value} {vs:List Value}
theorem XK{h:Heap}(e:kg h E n v=some vs)(hl:vs.length=n*E){k:Nat}(hk:k<=n):kg h E k v=some (vs.take (k*E)):=by
 have hkE:k*E<=n*E:=aiT _ hk;unfold kg at e⊢;split at e
 ·obtain⟨e1,e2⟩:=aT e;have:=bJ e1;have hk0:k=0:=by omega
  subst hk0;cases e2;simp
 ·rename_i o off x cap;cases hz:Nat.beq (k*E) 0 with
  |true=>simp_all
  |false=>
   have hk1:k*E≠0:=λq=>by rw[q] at hz;cases hz
   rw[(show Nat.beq (n*E) 0=false from by rw[jE];simp;omega)] at e;cases hc:Nat.beq cap bt with
   |true=>rw[hc] at e;cases e
   |false=>
    rw[hc] at e;replace e:=af e;obtain⟨ob',g1,e⟩:=e;simp only[ob,g1];split at e
    ·obtain⟨e1,e2⟩:=aT e;cases e2;have:=cI e1;rename_i c _ _;have hb:Nat.ble (off+k*E) c.length=true:=gi (by omega);simp[hb];rw[List.take_take,kE hkE]
    ·cases e
 ·cases e;rename_i s;rw[eD,dH] at hl;rw[<-List.map_take,List.take_take];have:(s.data.toList.take k)=s.data.toList.take (min (k*E) n):=by
   rcases Nat.eq_zero_or_pos k with q|q
   ·subst q;simp
   ·rcases Ap E 1 with c|c|c
    ·have:E=0:=by omega
     subst this;simp at hl;rcases hl with hl|hl
     ·omega
     ·have:s.data.toList=[]:=by
       apply jJ;simpa using hl
      simp_all
    ·subst c;rw[gM,kE hk]
    ·have h1:n*E<=n:=by rw[<-hl];exact Nat.min_le_left _ _
     have h2:n*2<=n*E:=Aq _ c;omega
  rw[this]
 ·obtain⟨e1,e2⟩:=aT e;cases e2;have:=cI e1;rename_i cs _;have hb:Nat.ble (k*E) cs.toList.length=true:=gi (by omega);simp only[hb,ay];rw[List.take_take,kE hkE]
 ·cases e
variable{us:List Value}
theorem cU.le(h:cU us vs)(n:Nat):cU (us.take n) (vs.take n):=h.take n
def Va(T:TT)(st:St)(t:TypeId)(dst src:SV)(K:SV->St->Option β):Option β:=
 ob (T.get t) λi=>match i.desc with
  | .slice e=>ob (T.get e) λj=>cond (Nat.blt 0 j.size) (z8 st j.size src λn new=>match dst with
   | .sl id off nd _=>ob (st.h.get id) λso=>ob (F8 so) λq=>cond (Nat.beq new.length (n*j.size)&&Nat.ble (off+Nat.min n nd*j.size) q.1.length)
    (K (.i .i64 (Int.ofNat (Nat.min n nd))) {st with h:=st.h.set id (.arr (aW off (new.take (Nat.min n nd*j.size)) q.1) q.2)}) none
   | .nl=>K (.i .i64 0) st
   |_=>bM 45) none
  |_=>bM 46
theorem afi{T:TT}{st:St}{t:TypeId}{dst src:SV}{K:SV->St->Option β}{b:β}(e:Va T st t dst src K=some b):
 ∃sv st',K sv st'=some b/\st'.tm=st.tm/\∀(σ:Nm)(tm:Tr Value)(h:Heap)(nx:Nat),aM σ st tm h nx->∀v w,DV σ dst v->DV σ src w->∃u h',xI T h t v w=some (u,h')/\DV σ sv u/\aM σ st' tm h' nx:=by
 replace e:=af e;obtain⟨i,hi,e⟩:=e;split at e
 ·rename_i el hd;replace e:=af e;obtain⟨j,hj,e⟩:=e;obtain⟨p1,e⟩:=aT e;obtain⟨n,new,f,g⟩:=OQ (cT p1) e;clear e;split at f
  ·rename_i id off nd cap;obtain⟨so,hso,f⟩:=af f;obtain⟨q,hq,f⟩:=af f;obtain⟨e1,f⟩:=aT f;rw[bg] at e1;have q1:=bJ e1.1;have q2:=cI e1.2;refine⟨_,_,f,rfl,λσ tm h nx R v w d d2=>?_⟩;obtain⟨vs,w1,w2,w3,w4⟩:=g σ tm h nx R w d2;obtain⟨o,m,cs,g1,g2,g3,g4⟩:=F9 hq (R.obj _ _ hso);have hl:=w3.length;have hl3:=g3.length;have hf:=XK w2 (by omega) (Nat.min_le_left n nd);cases d with
   |sl gg hc hn=>
    rw[g1] at gg;cases gg;have k1:=w3.take (Nat.min n nd*j.size);have k2:=w4.take (Nat.min n nd*j.size);cases h0:Nat.beq (vs.take (Nat.min n nd*j.size)).length 0 with
    |true=>
     have hz2:=jJ (by rw[k1.length,(jJ (bJ h0))];rfl);refine⟨.int .i64 (Int.ofNat (Nat.min n nd)),h,?_,.i _ _,?_⟩
     ·unfold xI;have:xO (.slice (some ⟨o,off,none⟩) nd cap)=some nd:=rfl;simp only[ob,hi,hd,hj,w1,this,hf,h0,ay]
     ·rw[hz2];exact R.same hso ⟨o,m,cs,g1,g2,g4,g3⟩
    |false=>
     refine⟨.int .i64 (Int.ofNat (Nat.min n nd)),h.set o (.cells (aW off (vs.take (Nat.min n nd*j.size)) cs) q.2 false),?_,.i _ _,R.put hso g1 ⟨o,m,_,g1,by rw[Tr.bD,ar rfl],k2.aW _ g4,k1.aW _ g3⟩⟩;have hb1:Nat.ble (off+(vs.take (Nat.min n nd*j.size)).length) cs.length=true:=gi (by
      rw[dH];omega)
     unfold xI;have:xO (.slice (some ⟨o,off,none⟩) nd cap)=some nd:=rfl;simp only[ob,hi,hd,hj,w1,this,hf,h0,aE,(show Nat.beq cap bt=false from by rw[jE];simp;omega),g2,hb1,(k1.bB k2.2),gY,ay]
  ·refine⟨_,_,f,rfl,λσ tm h nx R v w d d2=>?_⟩;obtain⟨vs,w1,w2,w3,w4⟩:=g σ tm h nx R w d2;cases d;have hf:kg h j.size (Nat.min n 0) w=some []:=by
    unfold kg at w2⊢;split at w2
    ·simp
    ·simp
    ·simp
    ·have hb:∀q,Nat.ble 0 q=true:=λq=>gi (gZ q);simp[hb]
    ·cases w2
   refine⟨.int .i64 0,h,?_,.i _ _,R⟩;unfold xI;have:xO (.slice none 0 0)=some 0:=rfl;have z:Nat.min n 0=0:=by show min n 0=0;omega
   rw[z] at hf;simp only[ob,hi,hd,hj,w1,this,z,hf];rfl
  ·cases f
 ·cases e
theorem ain{ns:List Int}(e:iN (v::us)=some ns):∃n r,v=.int .u8 n/\iN us=some r/\ns=n::r:=by
 unfold iN at e;split at e
 ·grind
 ·rename_i n xs hh;cases hh;obtain⟨r,h1,e⟩:=af e
  grind
 grind
theorem Xi:∀{us vs:List Value},cU us vs->∀{ns},iN us=some ns->iN vs=some ns
 |_,_,.nil,ns,e=>e
 |_,_,.cons h t,ns,e=>by
  obtain⟨n,r,rfl,e2,rfl⟩:=ain e;rcases h with rfl|⟨h,_⟩
  ·unfold iN;simp only[ob,Xi t e2]
  ·cases h
def Mw(T:TT)(st:St)(s d:TypeId)(x:SV)(K:SV->Option β):Option β:=match x with
 | .i k n=>Mv T s d (.i k n) K
 | .s _=>bM 48
 |x=>ob (T.get s) λi=>ob (T.get d) λj=>match i.desc,j.desc with
  | .slice e,.string=>cond (Nat.beq s d) none (ob (T.get e) λk=>cond (oc k.desc) (z8 st 1 x λ_ c=>ob (iN c) λns=>K (.s (mkStr ns))) none)
  | .slice e,_=>match x with
   | .sl id off n cap=>cond (Nat.beq s d) (ob (T.get e) λk=>cond (oc k.desc) (ob (st.h.get id) λso=>ob (F8 so) λ_=>K (.sl id off n cap)) none) none
   |_=>bM 49
  |_,_=>bM 50
theorem aie{T:TT}{h:Heap}{s d:TypeId}{i k:gC}{e:TypeId}(hi:T.get s=some i)(hj:T.get d=some j)(h1:i.desc=.slice e)(h2:j.desc=.string)(hk:T.get e=some k)(h3:oc k.desc=true){ns}
 (a:vw v=some n) (b:kg h 1 n v=some vs) (c:iN vs=some ns) (hs:∀x,v≠.string x):rS T h s d v=some (.string (mkStr ns)):=by
 unfold kg at b;unfold rS;simp only[ob,hi,hj,h1,h2];split at b
 ·obtain⟨_,b⟩:=aT b;cases b;cases c;simp_all;rfl
 ·rename_i o off x cap;cases a;simp only[hk,h3];cases hn:Nat.beq n 0 with
  |true=>have:=bJ hn;subst this;simp at b;subst b;cases c;rfl
  |false=>
   rw[gM,hn] at b;cases hc:Nat.beq cap bt with
   |true=>rw[hc] at b;cases b
   |false=>
    rw[hc] at b;obtain⟨ob',g1,b⟩:=af b;simp_all;split at b
    ·obtain⟨b1,b⟩:=aT b;cases b;simp only[b1,ay,c]
    ·cases b
 ·exact absurd rfl (hs _)
 ·rename_i m p f cs ys;cases a;obtain⟨b1,b⟩:=aT b;cases b;rw[gM] at b1 c;simp only[hk,h3,ay,b1,c]
 ·cases b
theorem afj{T:TT}{st:St}{s d:TypeId}{x:SV}{K:SV->Option β}{b:β}(e:Mw T st s d x K=some b):
 ∃sv,K sv=some b/\∀(σ:Nm)(tm:Tr Value)(h:Heap)(nx:Nat),aM σ st tm h nx->∀v,DV σ x v->∃u,DV σ sv u/\(match v with
  | .int _ _=>AF T s d v
  | .slice (some _) _ _=>cond (Nat.beq s d) (AI T h s d v) (rS T h s d v)
  | .slice none _ _=>rS T h s d v
  | .func (.via _ _ _ true) _ _=>rS T h s d v
  |_=>none)=some u:=by
 unfold Mw at e;split at e
 ·obtain⟨sv,h1,h2⟩:=afh e;refine⟨sv,h1,λσ tm h nx R v dv=>?_⟩;obtain⟨k,n,u,rfl,v1,v2⟩:=h2 σ v dv;exact⟨u,v2,v1⟩
 ·cases e
 ·rename_i x hni hns;replace e:=af e;obtain⟨i,hi,e⟩:=e;replace e:=af e;obtain⟨j,hj,e⟩:=e;split at e
  ·rename_i el h1 h2;cases hsd:Nat.beq s d with
   |true=>rw[hsd] at e;cases e
   |false=>
   rw[hsd] at e;obtain⟨k,hk,e⟩:=af e;obtain⟨h3,e⟩:=aT e;have hxs:∀{z:SV},(z8 st 1 z λn c=>ob (iN c) λns=>K (.s (mkStr ns)))=some b->∀y,SV.v (.string y)≠z:=λe y q=>by rw[<-q] at e;cases e
   obtain⟨n,c,f,g⟩:=OQ Nat.one_pos e;obtain⟨ns,h4,f⟩:=af f;refine⟨_,f,λσ tm h nx R v dv=>⟨.string (mkStr ns),.s _,?_⟩⟩;obtain⟨vs,w1,w2,w3,w4⟩:=g σ tm h nx R v dv;have key:=λhs=>aie hi hj h1 h2 hk h3 w1 w2 (Xi w3 h4) hs;cases dv with
   |i k n=>exact absurd rfl (hni _ _)
   |s y=>exact absurd rfl (hns _)
   |v p q=>
    cases p with
    |@lit n' p' f' b' cs' ys' _ _=>
     cases b' with
     |true=>exact key λx e=>by cases e
     |false=>cases w1
    |kS=>exact key λx e=>by cases e
    |str y=>exact absurd rfl ((hxs e) y)
    |_=>cases w1
   |nl=>exact key λx e=>by cases e
   |im=>exact key λx e=>by cases e
   |gP _=>exact key λx e=>by cases e
   |gr _=>exact key λx e=>by cases e
   |sl _ _ _=>exact key λx e=>by cases e
   |lp _=>cases w1
   |b _=>cases w1
   |agg _=>cases w1
   |aH _=>cases w1
   |ptr _=>cases w1
   |fn _=>cases w1
   |eR _=>cases w1
   |em _=>exact key λx e=>by cases e
   |ni=>cases w1
  ·rename_i el h1 _;split at e
   ·rename_i id off n cap;obtain⟨e1,e⟩:=aT e;obtain⟨k,hk,e⟩:=af e;obtain⟨h3,e⟩:=aT e;obtain⟨so,hso,e⟩:=af e;obtain⟨q,hq,e⟩:=af e;refine⟨_,e,λσ tm h nx R v dv=>⟨v,dv,?_⟩⟩;obtain⟨o,m,vs,g1,g2,_,_⟩:=F9 hq (R.obj _ _ hso);cases dv with
    |sl g hc hn=>rw[g1] at g;cases g;simp[AI,e1,ob,hi,h1,hk,h3,(show Nat.beq cap bt=false from by rw[jE];simp;omega),g2]
   ·cases e
  ·cases e
end
section
variable{β:Type}
def DZ:SV->Option Value
 | .i k n=>some (.int k n)
 | .b x=>some (.bool x)
 | .s x=>some (.string x)
 | .v x=>some x
 | .nl=>some (ae 0 [])
 | .ni=>some .nilIface
 |_=>none
def A8:List SV->Option (List Value)
 |[]=>some []
 |x::xs=>ob (DZ x) λu=>ob (A8 xs) λus=>some (u::us)
variable{x:Value}
theorem yR{ρ:Ren}(h:aF ρ (.slice none 0 0) x):aF ρ (ae 0 []) x:=by cases h;exact .lit .fN
variable{P:Program} {v:Value} {vs:List Value}
theorem mI.Ph{f:FuncId}{us:List Value}(R:mI P f us v)(h:∀(ρ:Ren)(ys:List Value),bk ρ vs ys->bk ρ us ys):mI P f vs v:=
 λhh nx ρ args' cs w A H N=>R hh nx ρ args' cs w (h ρ _ A) H N
abbrev dJ(β:Type):=St->List SV->(Bool->SV->St->Option β)->Option β
def nE(P:Program)(g:FuncId)(e:dJ β):Prop:=
 ∀st args K b,e st args K=some b->∃p sv st',K p sv st'=some b/\st'.tm=st.tm/\∀(σ:Nm)(tm:Tr Value)(h:Heap)(nx:Nat)(vs:List Value),aM σ st tm h nx->bU σ args vs->∃σ' pv h' nx',tw P p g vs h nx pv h' nx'/\nx<=nx'/\NX nx σ σ'/\DV σ' sv pv/\aM σ' st' tm h' nx'
def oJ(P:Program)(pt:FuncId->Option (dJ β)):Prop:=∀g e,pt g=some e->nE P g e
def Co(tm:Tr SV):List Operand->Option (List SV)
 |[]=>some []
 |x::xs=>ob (dX tm x) λv=>ob (Co tm xs) λvs=>some (v::vs)
def Gz(tm:Tr SV):List (Nat×Operand)->Option (List (Nat×SV))
 |[]=>some []
 |(i,x)::xs=>ob (dX tm x) λv=>ob (Gz tm xs) λvs=>some ((i,v)::vs)
def Gy(tm:Tr SV):Option Operand->Option (Option SV)
 |none=>some none
 |some x=>ob (dX tm x) λv=>some (some v)
section
variable{σ:Nm} {st:St} {tm:Tr Value} {h:Heap} {nx:Nat} (R:aM σ st tm h nx)
include R
theorem sI:∀{xs:List Operand}{l:List SV},Co st.tm xs=some l->∃vs,qK (jo tm) xs=some vs/\bU σ l vs
 |[],_,e=>by cases e;exact⟨[],rfl,.nil⟩
 |x::xs,_,e=>by obtain⟨v,h1,e⟩:=af e;obtain⟨ws,h2,e⟩:=af e;cases e;obtain⟨u,u1,u2⟩:=ec R h1;obtain⟨us,v1,v2⟩:=sI h2;refine⟨u::us,?_,.cons u2 v2⟩;simp[qK,ob,u1,v1]
theorem M8:∀{xs:List (Nat×Operand)}{l:List (Nat×SV)},Gz st.tm xs=some l->∃vs,yn (jo tm) xs=some vs/\xx σ l vs
 |[],_,e=>by cases e;exact⟨[],rfl,.nil⟩
 |(i,x)::xs,_,e=>by obtain⟨v,h1,e⟩:=af e;obtain⟨ws,h2,e⟩:=af e;cases e;obtain⟨u,u1,u2⟩:=ec R h1;obtain⟨us,v1,v2⟩:=M8 h2;refine⟨(i,u)::us,?_,.cons u2 v2⟩;simp[yn,ob,u1,v1]
theorem M7{x:Option Operand}{l:Option SV}(e:Gy st.tm x=some l):∃vs,ym (jo tm) x=some vs/\u9 σ l vs:=by
 cases x with
 |none=>cases e;exact⟨none,rfl,.none⟩
 |some x=>obtain⟨v,h1,e⟩:=af e;cases e;obtain⟨u,u1,u2⟩:=ec R h1;refine⟨some u,?_,.some u2⟩;simp[ym,ob,u1]
end
theorem Ym{σ:Nm}{x:SV}{u:Value}(d:DV σ x v)(e:DZ x=some u):WV u v/\aY u/\Lt.bB [u]=true:=by
 cases d<;>simp only[DZ] at e<;>cases e
 ·exact⟨.inl rfl,.int _ _,rfl⟩
 ·exact⟨.inl rfl,.bool _,rfl⟩
 ·exact⟨.inl rfl,.str _,rfl⟩
 ·exact⟨.inl rfl,‹_›,‹_›⟩
 ·exact⟨.inr ⟨rfl,rfl⟩,.lit (λx h=>by cases h) rfl,rfl⟩
 ·exact⟨.inr ⟨rfl,rfl⟩,.lit (λx h=>by cases h) rfl,rfl⟩
 ·exact⟨.inl rfl,.nilIface,rfl⟩
theorem Qf{σ:Nm}:∀{xs:List SV}{vs us:List Value},bU σ xs vs->A8 xs=some us->cU us vs/\bO us
 |_,_,_,.nil,e=>by cases e;exact⟨.nil,(λu h=>by cases h),rfl⟩
 |_,_,_,.cons a t,e=>by
  obtain⟨u,h1,e⟩:=af e;obtain⟨ws,h2,e⟩:=af e;cases e;obtain⟨k1,k2,k3⟩:=Ym a h1;obtain⟨g1,g2⟩:=Qf t h2;refine⟨.cons k1 g1,bO.mm λx hx=>?_⟩;rcases cj.1 hx with rfl|hx
  ·grind
  ·exact g2.mem x hx
def Vk(T:TT)(st:St)(t:TypeId)(len cap:SV)(K:SV->SO->Option β):Option β:=
 ob (T.get t) λi=>match i.desc with
  | .slice e=>ob (T.get e) λj=>ob j.zero λz=>ob (rD z.cells.toList) λ_=>match len,cap with
   | .i _ n,.i _ k=>aG n λm=>aG k λc=>cond (Nat.blt 0 j.size&&Nat.beq z.cells.size j.size&&Nat.ble j.bytes 10000&&(Nat.ble m c&&Nat.ble c 1000000000))
    (K (.sl st.sx 0 m c) (.arr (rep c z.cells.toList) e)) none
   |_,_=>bM 20
  |_=>bM 21
variable{T:TT} {b:β} {t:TypeId}
theorem afs{st:St}{len cap:SV}{K:SV->SO->Option β}(e:Vk T st t len cap K=some b):
 ∃sv so,K sv so=some b/\∀(σ:Nm)(nx:Nat) v w,DV σ len v->DV σ cap w->∃u obj,(∀h,vx T h nx t v w=some (u,h.set nx obj))/\DV (σ.add st.sx (some nx,0)) sv u/\∀h:Heap,h.get nx=some obj->DO (σ.add st.sx (some nx,0)) h st.sx so:=by
 obtain⟨i,hi,e⟩:=af e;split at e
 ·rename_i el hd;obtain⟨j,hj,e⟩:=af e;obtain⟨z,hz,e⟩:=af e;obtain⟨zs,hzs,e⟩:=af e;split at e
  ·obtain⟨m,q1,f1⟩:=tJ e;obtain⟨c,q2,f2⟩:=tJ f1;obtain⟨e1,f3⟩:=aT f2;subst q1 q2;simp only[bg] at e1;obtain⟨⟨⟨p1,p2⟩,p3⟩,p4,p5⟩:=e1;have p1:=cT p1;have p5:=cI p5;refine⟨_,_,f3,λσ nx v w d d2=>?_⟩;cases d;cases d2;refine⟨.slice (some ⟨nx,0,none⟩) m c,.cells (rep c z.cells.toList) el false,λh=>?_,.sl (Nm.eI _ _ _) (by unfold bt;omega) (cI p4),λh hg=>⟨nx,0,_,Nm.eI _ _ _,hg,FY (Iu hzs) c,cU.refl _⟩⟩;have hz0:mN j c=some (rep c z.cells.toList):=by
    unfold mN;rw[oP];by_cases q:c*j.size=0
    ·have:c=0:=by
      rcases Nat.mul_eq_zero.1 q with h|h<;>omega
     subst this;rw[ar q];rfl
    ·rw[ai q];simp[ob,hz,p2]
   have g2:Nat.blt c 9223372036854775808=true:=gi (by omega);have g3:Nat.ble (j.bytes*c) 281474976710656=true:=by refine gi (eP (Nat.mul_le_mul (cI p3) p5) (by decide))
   simp[vx,ob,hi,hd,hj,p4,g2,g3,hz0]
  ·cases e
 ·cases e
def sE(X:cJ)(st:St)(o:Op)(K:SV->SO->Option β):Option β:=match o with
 | .alloc t=>ob (X.T.get t) λi=>ob i.zero λz=>ob (sS z) λzv=>K (.ptr st.sx 0) (.cells zv.cells t)
 | .box t x=>ob (dX st.tm x) λv=>K (.ptr st.sx 0) (.cells v.cells t)
 | .buildSlice t n ps=>ob (Gz st.tm ps.toList) λus=>ob (X.T.get t) λi=>match i.desc with
  | .slice e=>ob (X.T.get e) λj=>cond (Nat.ble (n*j.size) 16777216&&Nat.blt n bt) (ob (mN j n) λz=>ob (rD z) λzs=>ob (Cb (λk=>some (k*j.size,j.size)) zs us) λcs=>match A8 cs with
   |some vs=>K (.sl st.sx 0 n n) (.arr vs e)
   |none=>K (.sl st.sx 0 n n) (.cells cs e)) none
  |_=>bM 25
 | .makeSlice t l c=>ob (dX st.tm l) λa=>ob (dX st.tm c) λb=>Vk X.T st t a b K
 |_=>bM 26
variable{X:cJ} {o:Oper}
theorem MC{st:St}{K:SV->SO->Option β}(e:sE X st o.op K=some b):
 ∃sv so,K sv so=some b/\mW o.op=false/\∀(σ:Nm)(tm:Tr Value)(h0:Heap)(nx:Nat),aM σ st tm h0 nx->∃u obj,(∀h,dr X h nx (jo tm) o=some (.val u (h.set nx obj) (nx+1)))/\DV (σ.add st.sx (some nx,0)) sv u/\∀h:Heap,h.get nx=some obj->DO (σ.add st.sx (some nx,0)) h st.sx so:=by
 unfold sE at e;split at e
 ·rename_i t hop;obtain⟨i,hi,e⟩:=af e;obtain⟨z,hz,e⟩:=af e;obtain⟨zv,hv,e⟩:=af e;refine⟨_,_,e,by rw[hop];rfl,λσ tm h0 nx R=>⟨.pointer (some ⟨nx,0,none⟩),.cells z.cells.toList t false,λh=>?_,.ptr (Nm.eI _ _ _),λh hg=>⟨nx,0,_,Nm.eI _ _ _,hg,(Ab hv).cells⟩⟩⟩;unfold dr I8;simp[hop,ob,hi,hz]
 ·rename_i t x hop;obtain⟨v,k1,e⟩:=af e;refine⟨_,_,e,by rw[hop];rfl,λσ tm h0 nx R=>?_⟩;obtain⟨u,u1,u2⟩:=ec R k1;refine⟨.pointer (some ⟨nx,0,none⟩),.cells u.cells.toList t false,λh=>?_,.ptr (Nm.eI _ _ _),λh hg=>⟨nx,0,_,Nm.eI _ _ _,hg,u2.cells.mono (Nm.AJ (R.fresh _ (aB _)))⟩⟩;unfold dr AD;simp only[hop,ob,u1]
 ·rename_i t n ps hop;obtain⟨us,k1,e⟩:=af e;obtain⟨i,hi,e⟩:=af e;split at e
  ·rename_i el hd;obtain⟨j,hj,e⟩:=af e;obtain⟨c1,e⟩:=aT e;rw[bg] at c1;obtain⟨z,hz,e⟩:=af e;obtain⟨zs,hzs,e⟩:=af e;obtain⟨cs,hcs,e⟩:=af e;have mk:∀(σ:Nm)(tm:Tr Value)(h0:Heap)(nx:Nat),aM σ st tm h0 nx->∃out,bU σ cs out/\∀h,dr X h nx (jo tm) o=some (.val (.slice (some ⟨nx,0,none⟩) n n) (h.set nx (.cells out el false)) (nx+1)):=by
    intro σ tm h0 nx R;obtain⟨ws,u1,u2⟩:=M8 R k1;obtain⟨out,f1,f2⟩:=Gg u2 (It hzs) hcs;refine⟨out,f2,λh=>?_⟩;unfold dr I9;simp[hop,ob,u1,hi,hd,hj,c1.1,hz,f1,c1.2]
   have hn:=cT c1.2;split at e
   ·rename_i vs hvs;refine⟨_,_,e,by rw[hop];rfl,λσ tm h0 nx R=>?_⟩;obtain⟨out,f2,g⟩:=mk σ tm h0 nx R;obtain⟨w1,w2⟩:=Qf f2 hvs;exact⟨_,_,g,.sl (Nm.eI _ _ _) hn (aB _),λh hg=>⟨nx,0,_,Nm.eI _ _ _,hg,w2,w1⟩⟩
   ·refine⟨_,_,e,by rw[hop];rfl,λσ tm h0 nx R=>?_⟩;obtain⟨out,f2,g⟩:=mk σ tm h0 nx R;exact⟨_,_,g,.sl (Nm.eI _ _ _) hn (aB _),λh hg=>⟨nx,0,_,Nm.eI _ _ _,hg,f2.mono (Nm.AJ (R.fresh _ (aB _)))⟩⟩
  ·cases e
 ·rename_i t l c hop;obtain⟨a,k1,e⟩:=af e;obtain⟨b',k2,e⟩:=af e;obtain⟨sv,so,h1,h2⟩:=afs e;refine⟨sv,so,h1,by rw[hop];rfl,λσ tm h0 nx R=>?_⟩;obtain⟨u,u1,u2⟩:=ec R k1;obtain⟨u',v1,v2⟩:=ec R k2;obtain⟨w,obj,g1,g2,g3⟩:=h2 σ nx u u' u2 v2;refine⟨w,obj,λh=>?_,g2,g3⟩;unfold dr;simp[hop,ob,u1,v1,g1]
 ·cases e
theorem Ra{ev:Operand->Option Value}:∀{xs:List Operand}{us:List Value},qK ev xs=some us->xs.length=us.length
 |[],us,e=>by cases e;rfl
 |x::xs,us,e=>by obtain⟨v,_,e⟩:=af e;obtain⟨vs,h,e⟩:=af e;cases e;simp[Ra h]
def Gh(mx:Bool)(args:List SV)(K:SV->Option β):Option β:=match args with
 |[.i k a,.i k' b]=>cond (decide (k=k')) (K (.i k (cond (cond mx (aq a b) (aq b a)) b a))) none
 |_=>bM 77
theorem Vi{mx:Bool}{args:List SV}{K:SV->Option β}(e:Gh mx args K=some b):∃sv,K sv=some b/\∀(σ:Nm)(vs:List Value),bU σ args vs->∃u,vy mx vs=some u/\DV σ sv u:=by
 unfold Gh at e;split at e
 ·obtain⟨_,e⟩:=aT e;refine⟨_,e,λσ vs d=>?_⟩;cases d with
  |cons d1 d=>
   cases d with
   |cons d2 d=>cases d;cases d1;cases d2;exact⟨_,rfl,.i _ _⟩
 grind
def U9(X:cJ)(pt:FuncId->Option (dJ β))(st:St)(c:Call)(K:Bool->SV->St->Option β):Option β:=
 ob (Co st.tm c.args.toList) λargs=>match c.callee with
  | .value x=>ob (dX st.tm x) λfv=>match fv with
   | .fn g l=>ob (pt (g%65536)) λe=>ob (X.F.get (g%65536)) λ_=>e st (l.take (g/65536)++(args++l.drop (g/65536))) K
   |_=>bM 27
  | .builtin .len=>match args with
   |[x]=>ob (c.argTypes.toList[0]?) λt=>Vf X.T st t x λv=>K false v st
   |_=>bM 28
  | .builtin .copy=>match args with
   |[d,x]=>ob (c.argTypes.toList[0]?) λt=>Va X.T st t d x (K false)
   |_=>bM 47
  | .builtin .append=>match args with
   |[s,x]=>Mt X.T st c.argTypes.toList s x (K false)
   |_=>bM 29
  | .builtin .min=>Gh false args λv=>K false v st
  | .builtin .max=>Gh true args λv=>K false v st
  |_=>bM 30
def My(T:TT)(t:TypeId)(x:SV)(f:Nat)(K:SV->Option β):Option β:=match x with
 | .agg l=>ob (T.get t) λi=>match i.desc with
  | .struct fs=>ob (fs[f]?) λfl=>MD T fl.type l fl.offset K
  |_=>bM 31
 |_=>bM 32
def Vc(x:SV)(n:Nat)(K:SV->Option β):Option β:=match x with
 | .aH l=>ob (l[n]?) K
 |_=>bM 33
def Fw:Value->Bool
 | .int _ _=>true
 | .bool _=>true
 | .string _=>true
 | .slice none 0 0=>true
 |_=>false
def zN:Value->Value
 | .slice none 0 0=>ae 0 []
 |x=>x
theorem aiA(h:Fw x=true):(aY (zN x)/\bB [zN x]=true)/\WV (zN x) x:=by
 unfold Fw at h;split at h
 ·exact⟨⟨.int _ _,rfl⟩,.inl rfl⟩
 ·exact⟨⟨.bool _,rfl⟩,.inl rfl⟩
 ·exact⟨⟨.str _,rfl⟩,.inl rfl⟩
 ·exact⟨⟨.lit (λx h=>by cases h) rfl,rfl⟩,.inr ⟨rfl,rfl⟩⟩
 grind
theorem Xz:∀{zs:List Value},zs.all Fw=true->bO (zs.map zN)/\cU (zs.map zN) zs
 |[],_=>⟨⟨(λx h=>by cases h),rfl⟩,.nil⟩
 |z::zs,h=>by
  rw[List.all_cons,bg] at h;obtain⟨a,b⟩:=aiA h.1;obtain⟨c,d⟩:=Xz h.2;refine⟨bO.mm λx hx=>?_,.cons b d⟩;rcases cj.1 (hx) with rfl|hx
  ·grind
  ·exact c.mem x hx
def BI(T:TT)(kt:TypeId)(x k:Value)(zs:List Value)(K:Bool->List Value->Option β):Option β:=match x with
 | .func (.method _) cs _=>ob (sW cs.toList) λes=>ob (qB T kt k es 0) λr=>match r with
  |none=>K false (zs.map zN)
  |some (_,.agg vs)=>cond (bB vs.toList) (K true vs.toList) none
  |some _=>none
 |_=>none
theorem Xo:∀{cs:List Value}{es:List (Value×Value)},sW cs=some es->(∀x∈cs,aY x)->∀e∈es,aY e.2
 |[],es,h,_=>by cases h;exactλe he=>by cases he
 |c::cs,es,h,p=>by
  unfold sW at h;split at h
  ·grind
  ·rename_i k v r' q;cases q;obtain⟨es0,h1,h⟩:=af h;cases h;intro e he;rcases cj.1 he with rfl|he
   ·have:=p _ (mC ..);cases this with
    |fn a b=>grind
   ·exact Xo h1 (λx hx=>p x (gL _ hx)) e he
  grind
variable{kt:TypeId}
theorem PI{k:Value}:∀{es:List (Value×Value)}{i n:Nat}{v:Value},qB T kt k es i=some (some (n,v))->∃e∈es,e.2 =v
 |[],i,n,v,h=>by cases h
 |(a,b)::es,i,n,v,h=>by
  obtain⟨q,h1,h⟩:=af h;cases q with
  |true=>simp_all
  |false=>
   obtain⟨e,h2,h3⟩:=PI (h)
   grind
theorem Qe{σ:Nm}:∀{l:List SV}{vs us:List Value},bU σ l vs->A8 l=some us->jO us=true->us=vs
 |_,_,_,.nil,e,_=>by cases e;rfl
 |_,_,_,.cons a t,e,h=>by
  obtain⟨u,h1,e⟩:=af e;obtain⟨ws,h2,e⟩:=af e;cases e;have hu:∃k n,u=.int k n:=by cases u<;>first|exact⟨_,_,rfl⟩|cases h
  obtain⟨k,n,rfl⟩:=hu;rw[Qe t h2 h]
  congr 1
  cases a<;>simp only[DZ] at h1<;>cases h1<;>rfl
def SB(ok:Bool)(z:Value)(r:Option (Nat×Value)):Value:=match r with
 |none=>cond ok (.tuple ⟨[z,.bool false]⟩) z
 |some (_,v)=>cond ok (.tuple ⟨[v,.bool true]⟩) v
variable{ok:Bool}
theorem XM{h:Heap}{et:TypeId}{ks:List Value}{i ki ei:gC}{z:Value}{fs:Array Field}{es:List (Value×Value)}{r:Option (Nat×Value)}(hi:T.get t=some i)(hd:i.desc=.map kt et)(hki:T.get kt=some ki)(hei:T.get et=some ei)(hz:ei.zero=some z)(hkd:ki.desc=.struct fs)
 (c:(ki.flat&&Nat.beq ks.length ki.size&&jO ks)=true) (hes:DS h x=some es) (hr:qB T kt (.agg ⟨ks⟩) es 0=some r):xL T h t x (.agg ⟨ks⟩) ok=some (SB ok z r):=by
 unfold xL;simp only[ob,hi,hd,hki,hei,hz,hkd,(show(ki.flat&&Nat.beq (⟨ks⟩:Array Value).size ki.size&&jO (⟨ks⟩:Array Value).toList)=true from c),hes,hr];cases r<;>rfl
def Vh(X:cJ)(t:TypeId)(a b:SV)(ok:Bool)(K:SV->Option β):Option β:=
 ob (X.T.get t) λi=>match i.desc with
  | .map kt et=>ob (X.T.get kt) λki=>ob (X.T.get et) λei=>ob ei.zero λz=>match ki.desc,a,b,z with
   | .struct _,.v x,.agg l,.agg zs=>ob (A8 l) λks=>cond (ki.flat&&Nat.beq ks.length ki.size&&jO ks&&zs.toList.all Fw)
    (BI X.T kt x (.agg ⟨ks⟩) zs.toList λf cs=>yp (zs.toList.map xY) cs λr=>cond (Nat.beq cs.length r.length) (K (cond ok (.aH [.agg r,.b f]) (.agg r))) none) none
   |_,_,_,_=>bM 54
  |_=>bM 55
theorem afq{x k:SV}{K:SV->Option β}(e:Vh X t x k ok K=some b):
 ∃sv,K sv=some b/\∀(σ:Nm)(h:Heap) v u,DV σ x v->DV σ k u->∃r,xL X.T h t v u ok=some r/\DV σ sv r:=by
 replace e:=af e;obtain⟨i,hi,e⟩:=e;split at e
 ·rename_i kt et hd;replace e:=af e;obtain⟨ki,hki,e⟩:=e;replace e:=af e;obtain⟨ei,hei,e⟩:=e;replace e:=af e;obtain⟨z,hz,e⟩:=e;split at e
  ·rename_i fs x l zs hkd;replace e:=af e;obtain⟨ks,hks,e⟩:=e;obtain⟨e1,e⟩:=aT e;simp only[bg] at e1;obtain⟨⟨⟨c1,c2⟩,c3⟩,c4⟩:=e1;unfold BI at e;split at e
   ·rename_i m cs cs2 _;obtain⟨es,hes,e⟩:=af e;obtain⟨r,hr,e⟩:=af e;have fin:∀{f:Bool}{cs vs:List Value},yp (zs.toList.map xY) cs (λr=>cond (Nat.beq cs.length r.length) (K (cond ok (.aH [.agg r,.b f]) (.agg r))) none)=some b->bO cs->cU cs vs->
     ∃sv,K sv=some b/\∀σ,DV σ sv (cond ok (.tuple ⟨[.agg ⟨vs⟩,.bool f]⟩) (.agg ⟨vs⟩)):=by
     intro f cs vs e pc wv;obtain⟨l,g1,g2,g3,g4,g5⟩:=Eo e;obtain⟨g0,g1⟩:=aT g1;refine⟨_,g1,λσ=>?_⟩;have q:=g4 pc vs wv σ;rw[<-g2,<-(bJ g0),wv.length,rG] at q;cases ok with
     |true=>exact .aH (.cons (.agg q) (.cons (.b _) .nil))
     |false=>exact .agg q
    have look:∀(σ:Nm)(h:Heap) v u,DV σ (.v (.func (.method m) cs cs2)) v->DV σ (.agg l) u->xL X.T h t v u ok=some (SB ok (.agg zs) r):=by
     intro σ h v u dv du;cases dv with
     |v p1 p2=>
      cases du with
      |agg du=>rename_i us;rw[(show(Value.agg us)=.agg ⟨ks⟩ from by rw[(Qe du hks c3)])];exact XM hi hd hki hei hz hkd (by rw[c1,c2,c3];rfl) hes hr
    split at e
    ·obtain⟨p1,p2⟩:=Xz c4;obtain⟨sv,s1,s2⟩:=fin e p1 p2;exact⟨sv,s1,λσ h v u dv du=>⟨_,look σ h v u dv du,s2 σ⟩⟩
    ·rename_i n vs;obtain⟨o1,e⟩:=aT e;obtain⟨e0,m1,m2⟩:=PI hr;by_cases hp:∀x∈cs.toList,aY x
     ·have p0:=Xo hes hp e0 m1;rw[m2] at p0;have p1:bO vs.toList:=by
       cases p0 with
       |agg p=>exact⟨p,o1⟩
      obtain⟨sv,s1,s2⟩:=fin e p1 (cU.refl _);exact⟨sv,s1,λσ h v u dv du=>⟨_,look σ h v u dv du,s2 σ⟩⟩
     ·obtain⟨l,g1,g2,g3,g4,g5⟩:=Eo e;obtain⟨g0,g1⟩:=aT g1;refine⟨_,g1,λσ h v u dv du=>absurd ?_ hp⟩;cases dv with
      |v q1 q2=>
       cases q1 with
       |gy q=>exact q
    ·cases e
   ·cases e
  ·cases e
 ·cases e
def opC:Op->Nat
 | .move ..=>0
 | .assign ..=>1
 | .pick ..=>2
 | .alloc ..=>3
 | .box ..=>4
 | .build ..=>5
 | .buildSlice ..=>6
 | .insert ..=>7
 | .load ..=>8
 | .store ..=>9
 | .ready ..=>10
 | .waits ..=>11
 | .nilCheck ..=>12
 | .binOp ..=>13
 | .unOp ..=>14
 | .convert ..=>15
 | .sliceToArrayPointer ..=>16
 | .makeInterface ..=>17
 | .makeFunc ..=>18
 | .makeMap ..=>19
 | .makeChan ..=>20
 | .makeSlice ..=>21
 | .slice ..=>22
 | .fieldAddr ..=>23
 | .field ..=>24
 | .indexAddr ..=>25
 | .index ..=>26
 | .lookup ..=>27
 | .mapUpdate ..=>28
 | .mapEntry ..=>29
 | .entryStore ..=>30
 | .range ..=>31
 | .next ..=>32
 | .entry ..=>33
 | .typeAssert ..=>34
 | .extract ..=>35
 | .call ..=>36
 |_=>99
def Ua(X:cJ)(t:TypeId)(n:Nat):Bool:=match X.T.get t with
 |some i=>match i.desc with
  | .slice e=>match X.T.get e with
   |some j=>me j.desc&&Nat.beq n 1
   |none=>false
  |_=>false
 |none=>false
def Lu(sx:Nat)(v:SV)(so:SO)(K:SV->SO->Option β):Option β:=match v,so with
 | .sl id off n c,.arr cs t=>cond (Nat.beq id sx&&(Nat.beq off 0&&(Nat.beq n 1&&(Nat.beq c 1&&Nat.beq cs.length 1)))) (K (.gr sx 1) (.grow 1 cs t)) (bM 78)
 |_,_=>bM 79
def C5(X:cJ)(pt:FuncId->Option (dJ β))(st:St)(o:Op)(K:Bool->SV->St->Option β):Option β:=match o with
 | .move x=>ob (dX st.tm x) λv=>K false v st
 | .assign x=>ob (dX st.tm x) λv=>K false v st
 | .alloc t=>sE X st (.alloc t) λv so=>K false v {st with h:=st.h.set st.sx so,sx:=st.sx+1}
 | .box t x=>sE X st (.box t x) λv so=>K false v {st with h:=st.h.set st.sx so,sx:=st.sx+1}
 | .buildSlice t n ps=>cond (Ua X t n) (sE X st (.buildSlice t n ps) λv so=>Lu st.sx v so λv so=>K false v {st with h:=st.h.set st.sx so,sx:=st.sx+1}) (sE X st (.buildSlice t n ps) λv so=>K false v {st with h:=st.h.set st.sx so,sx:=st.sx+1})
 | .build t ps=>ob (Gz st.tm ps.toList) λus=>U8 X.T t us λv=>K false v st
 | .load t a=>ob (dX st.tm a) λp=>MB X.T st t p λv=>K false v st
 | .nilCheck x=>ob (dX st.tm x) λv=>match v with
  | .ptr _ _=>K false v st
  | .lp _=>K false v st
  |_=>bM 34
 | .binOp op t x y _=>ob (dX st.tm x) λa=>ob (dX st.tm y) λb=>match a,b with
  | .ni,.ni=>cond (qO x||qO y) (Vl X.T op t λv=>K false v st) none
  |a,b=>Mu X.T op t a b λv=>K false v st
 | .typeAssert x _ t ok=>ob (dX st.tm x) λa=>U7 X.T a t ok λv=>K false v st
 | .unOp op _ x=>ob (dX st.tm x) λa=>ME op a λv=>K false v st
 | .convert s d x=>ob (dX st.tm x) λa=>Mw X.T st s d a λv=>K false v st
 | .makeSlice t l c=>ob (dX st.tm l) λa=>ob (dX st.tm c) λb=>Vj X.T st t a b (K false)
 | .slice t x lo hi mx=>ob (dX st.tm x) λa=>ob (Gy st.tm lo) λl=>ob (Gy st.tm hi) λu=>ob (Gy st.tm mx) λm=>Vn X.T t a l u m λv=>K false v st
 | .fieldAddr s x f=>ob (dX st.tm x) λa=>Vd X.T s a f λv=>K false v st
 | .field t x f=>ob (dX st.tm x) λa=>My X.T t a f λv=>K false v st
 | .indexAddr t x ix=>ob (dX st.tm x) λa=>ob (dX st.tm ix) λb=>MA X.T st t a b λv=>K false v st
 | .index t x ix=>ob (dX st.tm x) λa=>ob (dX st.tm ix) λb=>Mz X.T t a b λv=>K false v st
 | .extract t i=>ob (dX st.tm t) λa=>Vc a i λv=>K false v st
 | .call c=>U9 X pt st c K
 | .panic x=>ob (dX st.tm x) λv=>match v with
  | .eR t u=>K true (.eR t u) st
  |_=>bM 53
 | .makeInterface t x=>ob (dX st.tm x) λa=>Ve X.T t a λv=>K false v st
 | .lookup t x k ok=>ob (dX st.tm x) λa=>ob (dX st.tm k) λc=>Vh X t a c ok λv=>K false v st
 | .makeFunc (.func f) first captured=>cond (Nat.blt f 65536) (ob (Co st.tm first.toList) λa=>ob (Co st.tm captured.toList) λl=>K false (.fn (f+65536*first.toList.length) (a++l)) st) none
 |o=>bM (100+opC o)
def uw(o:Op):Bool:=match o with
 | .move _=>true
 | .assign _=>true
 | .build _ _=>true
 | .load _ _=>true
 | .nilCheck _=>true
 | .binOp _ _ _ _ _=>true
 | .unOp _ _ _=>true
 | .convert _ _ _=>true
 | .slice _ _ _ _ _=>true
 | .fieldAddr _ _ _=>true
 | .field _ _ _=>true
 | .indexAddr _ _ _=>true
 | .index _ _ _=>true
 | .extract _ _=>true
 | .makeFunc _ _ _=>true
 | .makeInterface _ _=>true
 | .typeAssert _ _ _ _=>true
 | .lookup _ _ _ _=>true
 | .call c=>match c.callee with
  | .builtin .len=>true
  | .builtin .min=>true
  | .builtin .max=>true
  |_=>false
 |_=>false
def xz(P:Program)(ops:Array Oper)(i:Nat)(o:Oper)(st:St)(sv:SV):Prop:=
 ∀(σ:Nm)(tm:Tr Value)(h:Heap)(nx n:Nat),aM σ st tm h nx->fU ops tm o=some true->∃v,dE P ops i tm n h nx v h nx/\DV σ sv v
def Ar(P:Program)(p:Bool)(ops:Array Oper)(i:Nat)(o:Oper)(st st':St)(sv:SV):Prop:=
 ∀(σ:Nm)(tm:Tr Value)(h:Heap)(nx n:Nat),aM σ st tm h nx->fU ops tm o=some true->∃σ' v h' nx',Pr P p ops i tm n h nx v h' nx'/\nx<=nx'/\NX nx σ σ'/\DV σ' sv v/\aM σ' st' tm h' nx'
variable{h':Heap} {i n nx':Nat} {ops:Array Oper}
theorem qT(OK:ea P X)(ho:ops[i]? =some o)(hd:mW o.op=false){tm:Tr Value}{h:Heap}{nx:Nat}(hw:fU ops tm o=some true)
 (e:dr X h nx (jo tm) o=some (.val v h' nx')):dE P ops i tm n h nx v h' nx':=by
 refine ES OK ho ?_;simp[AH,ob,hw,hd,e]
theorem aaY(OK:ea P X)(ho:ops[i]? =some o)(hd:mW o.op=false){tm:Tr Value}{h:Heap}{nx:Nat}(hw:fU ops tm o=some true)
 (e:dr X h nx (jo tm) o=some (.skip h' nx')):dE P ops i tm n h nx undef h' nx':=by
 refine ES OK ho ?_;simp[AH,ob,hw,hd,e]
theorem afl{x:SV}{f:Nat}{K:SV->Option β}(e:My X.T t x f K=some b):
 ∃sv,K sv=some b/\∀(σ:Nm) v,DV σ x v->∃cs i fs fl u,v=.agg cs/\X.T.get t=some i/\i.desc=.struct fs/\fs[f]? =some fl/\rQ X.T fl.type cs.toList fl.offset=some u/\DV σ sv u:=by
 unfold My at e;split at e
 ·obtain⟨i,hi,e⟩:=af e;split at e
  ·rename_i fs hd;obtain⟨fl,hf,e⟩:=af e;obtain⟨sv,h1,h2⟩:=Vm e;refine⟨sv,h1,λσ v d=>?_⟩;cases d with
   |agg g=>grind
  grind
 grind
theorem aeo{tm:Tr Value}{h:Heap}{nx:Nat}{el:TypeId}(hl:vs.length=1)(R:dE P ops i tm n h nx (.slice (some ⟨nx,0,none⟩) 1 1) (h.set nx (.cells vs el false)) (nx+1)):
 dE P ops i tm n h nx (.slice (some ⟨nx,0,none⟩) 1 (bt+1)) (h.set nx (.cells vs el true)) (nx+1):=by
 intro ρ fr cs w rest k hm ht S H N;obtain⟨ρ',v',w',s,rv,H',M⟩:=R ρ fr cs w rest k hm ht S H N;obtain⟨L,hL,cz,fz,q1,q2,q3⟩:=H'.obj nx _ (by rw[Tr.bD,ar rfl]);have same:∀{o ob},(h.set nx (.cells vs el true)).get o=some ob->∃ob',(h.set nx (.cells vs el false)).get o=some ob':=by intro o ob ho;rw[Tr.bD] at ho⊢;by_cases e:o=nx<;>grind
 have own:∀b,gT ρ' (h.set nx (.cells vs el true)) b->gT ρ' (h.set nx (.cells vs el false)) b:=by intro b ⟨o,ob,L,h1,h2,h3⟩;obtain⟨ob',h1'⟩:=same h1;exact⟨o,ob',L,h1',h2,h3⟩
 refine⟨ρ',v',w',s,?_,⟨?_,?_,H'.lit,?_⟩,⟨M.os,M.tape,M.output,M.size,M.block,λb hb ho=>M.owned b hb (own b ho),M.le,M.cq,M.lit,M.eU⟩⟩
 ·generalize hs:Value.slice (some ⟨nx,0,none⟩) 1 1=sl at rv;cases rv<;>try(cases hs;done)
  ·rename_i o off m cap L' hL' hcp hn;injection hs with e1 e2 e3;injection e1 with e1;injection e1 with e1 e4;subst e1 e2 e3 e4;cases hL.symm.trans hL';refine .gz hL' (by omega) ?_ (aB 1);have:=q3.2.2.1 rfl;have:=q3.1;omega
  ·injection hs with e1 e2 e3;unfold bt at e3;omega
  all_goals
   injection hs with e1 e2 e3;omega
 ·intro o ob ho;rw[Tr.bD] at ho;by_cases e:o=nx
  ·rw[ar e] at ho;cases ho;subst e;exact⟨L,hL,cz,fz,q1,q2,⟨q3.1,q3.2.1,(λq=>by cases q),q3.2.2.2⟩⟩
  ·rw[ai e] at ho;exact H'.obj o ob (by rw[Tr.bD,ai e];exact ho)
 ·intro o o' L1 L2 ob ob' h1 h2;obtain⟨x,h1⟩:=same h1;obtain⟨y,h2⟩:=same h2;exact H'.inj o o' L1 L2 x y h1 h2
 ·intro b j u hu o ob L1 h1;obtain⟨x,h1⟩:=same h1;exact H'.free b j u hu o x L1 h1
theorem OL(OK:ea P X){pt:FuncId->Option (dJ β)}(PT:oJ P pt)(ho:ops[i]? =some o){st:St}{K:Bool->SV->St->Option β}(e:C5 X pt st o.op K=some b):
 ∃p sv st',K p sv st'=some b/\st'.tm=st.tm/\Ar P p ops i o st st' sv/\(uw o.op=true->p=false/\xz P ops i o st sv):=by
 have still:∀{sv:SV},xz P ops i o st sv->Ar P false ops i o st st sv/\(uw o.op=true->false=false/\xz P ops i o st sv):=by intro sv q;refine⟨λσ tm h nx n R hw=>?_,λ_=>⟨rfl,q⟩⟩;obtain⟨v,v1,v2⟩:=q σ tm h nx n R hw;exact⟨σ,v,h,nx,v1,aB _,NX.refl _ _,v2,R⟩
 have quiet:∀{sv:SV},mW o.op=false->(∀(σ:Nm)(tm:Tr Value)(h:Heap)(nx:Nat),aM σ st tm h nx->∃v,dr X h nx (jo tm) o=some (.val v h nx)/\DV σ sv v)->Ar P false ops i o st st sv/\(uw o.op=true->false=false/\xz P ops i o st sv):=by intro sv hd q;refine still λσ tm h nx n R hw=>?_;obtain⟨v,v1,v2⟩:=q σ tm h nx R;exact⟨v,qT OK ho hd hw v1,v2⟩
 have make:∀{K':SV->St->Option β},sE X st o.op (λv so=>K' v {st with h:=st.h.set st.sx so,sx:=st.sx+1})=some b->∃sv so,K' sv {st with h:=st.h.set st.sx so,sx:=st.sx+1}=some b/\({st with h:=st.h.set st.sx so,sx:=st.sx+1}:St).tm=st.tm/\Ar P false ops i o st {st with h:=st.h.set st.sx so,sx:=st.sx+1} sv:=by intro K' e;obtain⟨sv,so,h1,hd,h3⟩:=MC e;refine⟨sv,so,h1,rfl,λσ tm h nx n R hw=>?_⟩;obtain⟨u,obj,g1,g2,g3⟩:=h3 σ tm h nx R;obtain⟨E,R'⟩:=R.new (n:=0) (so:=so) (ob:=obj) (g3 _ (by rw[Tr.bD,ar rfl]));exact⟨_,u,_,nx+1,qT OK ho hd hw (g1 h),kc _,E,g2,R'⟩
 have makeO:∀{K':SV->St->Option β},sE X st o.op (λv so=>Lu st.sx v so λv so=>K' v {st with h:=st.h.set st.sx so,sx:=st.sx+1})=some b->∃sv so,K' sv {st with h:=st.h.set st.sx so,sx:=st.sx+1}=some b/\({st with h:=st.h.set st.sx so,sx:=st.sx+1}:St).tm=st.tm/\Ar P false ops i o st {st with h:=st.h.set st.sx so,sx:=st.sx+1} sv:=by
  intro K' e;obtain⟨sv,so,h1,hd,h3⟩:=MC e;unfold Lu at h1;split at h1
  ·rename_i id off m c cs t;obtain⟨c1,h2⟩:=aT h1;clear h1;simp only[bg] at c1;have e1:=bJ c1.1;have e2:=bJ c1.2.1;have e3:=bJ c1.2.2.1;have e4:=bJ c1.2.2.2.1;have e5:=bJ c1.2.2.2.2;subst e1 e2 e3 e4;refine⟨_,_,h2,rfl,λσ tm h nx n R hw=>?_⟩;obtain⟨u,obj,g1,g2,g3⟩:=h3 σ tm h nx R;obtain⟨o',n',vs,k1,k2,k3,k4⟩:=g3 (h.set nx obj) (by rw[Tr.bD,ar rfl]);rw[Nm.eI] at k1;cases k1;rw[Tr.bD,ar rfl] at k2;obtain rfl:=bu k2;cases g2 with
   |sl g hc hn=>
    rw[Nm.eI] at g;cases g;have hl:vs.length=1:=by rw[<-k4.length];exact e5
    obtain⟨E,R'⟩:=R.new (n:=1) (so:=.grow 1 cs t) (ob:=.cells vs t true) ⟨aB 1,k3,.inr ⟨nx,1,Nm.eI _ _ _,by rw[e5],vs,by rw[Tr.bD,ar rfl],k4⟩⟩;exact⟨_,_,_,nx+1,aeo hl (qT OK ho hd hw (g1 h)),kc _,E,.gr (Nm.eI _ _ _),R'⟩
  ·cases h1
 unfold C5 at e;split at e
 ·rename_i x hop;replace e:=af e;obtain⟨v,h1,e⟩:=e;refine⟨false,_,_,e,rfl,quiet (by rw[hop];rfl) λσ tm h nx R=>?_⟩;obtain⟨u,u1,u2⟩:=ec R h1;refine⟨u,?_,u2⟩;unfold dr;simp only[hop,ob,u1]
 ·rename_i x hop;replace e:=af e;obtain⟨v,h1,e⟩:=e;refine⟨false,_,_,e,rfl,quiet (by rw[hop];rfl) λσ tm h nx R=>?_⟩;obtain⟨u,u1,u2⟩:=ec R h1;refine⟨u,?_,u2⟩;unfold dr;simp only[hop,ob,u1]
 ·rename_i t hop;rw[<-hop] at e;obtain⟨sv,so,h1,h2,h3⟩:=make e;exact⟨false,sv,_,h1,h2,h3,λq=>by rw[hop] at q;cases q⟩
 ·rename_i t x hop;rw[<-hop] at e;obtain⟨sv,so,h1,h2,h3⟩:=make e;exact⟨false,sv,_,h1,h2,h3,λq=>by rw[hop] at q;cases q⟩
 ·rename_i t n ps hop;rw[<-hop] at e;cases hb:Ua X t n with
  |true=>rw[hb,ay] at e;obtain⟨sv,so,h1,h2,h3⟩:=makeO e;exact⟨false,sv,_,h1,h2,h3,λq=>by rw[hop] at q;cases q⟩
  |false=>rw[hb,aE] at e;obtain⟨sv,so,h1,h2,h3⟩:=make e;exact⟨false,sv,_,h1,h2,h3,λq=>by rw[hop] at q;cases q⟩
 ·rename_i t ps hop;replace e:=af e;obtain⟨us,k1,e⟩:=e;obtain⟨sv,h1,h2⟩:=afg e;refine⟨false,_,_,h1,rfl,quiet (by rw[hop];rfl) λσ tm h nx R=>?_⟩;obtain⟨ws,u1,u2⟩:=M8 R k1;obtain⟨u,v1,v2⟩:=h2 σ ws u2;refine⟨u,?_,v2⟩;unfold dr;simp only[hop,ob,u1,v1]
 ·rename_i t a hop;replace e:=af e;obtain⟨p,k1,e⟩:=e;obtain⟨sv,h1,h2⟩:=Vg e;refine⟨false,_,_,h1,rfl,quiet (by rw[hop];rfl) λσ tm h nx R=>?_⟩;obtain⟨w,u1,u2⟩:=ec R k1;obtain⟨u,v1,v2⟩:=h2 σ tm h nx R w u2;refine⟨u,?_,v2⟩;unfold dr;simp only[hop,ob,u1,v1]
 ·rename_i x hop;replace e:=af e;obtain⟨p,k1,e⟩:=e;split at e
  ·refine⟨false,_,_,e,rfl,quiet (by rw[hop];rfl) λσ tm h nx R=>?_⟩;obtain⟨w,u1,u2⟩:=ec R k1;have u2':=u2;cases u2 with
   |ptr g=>refine⟨_,?_,u2'⟩;unfold dr;simp only[hop,ob,u1]
  ·refine⟨false,_,_,e,rfl,quiet (by rw[hop];rfl) λσ tm h nx R=>?_⟩;obtain⟨w,u1,u2⟩:=ec R k1;have u2':=u2;cases u2 with
   |lp g=>refine⟨_,?_,u2'⟩;unfold dr og;unfold og at u1;simp only[hop,ob,u1]
  ·cases e
 ·rename_i op t x y yt hop;replace e:=af e;obtain⟨p,k1,e⟩:=e;replace e:=af e;obtain⟨q,k2,e⟩:=e;split at e
  ·obtain⟨hc,e⟩:=aT e;obtain⟨sv,h1,h2⟩:=aft e;refine⟨false,_,_,h1,rfl,quiet (by rw[hop];rfl) λσ tm h nx R=>?_⟩;obtain⟨w,u1,u2⟩:=ec R k1;obtain⟨w2,u3,u4⟩:=ec R k2;cases u2;cases u4;obtain⟨u,v1,v2⟩:=h2 σ;refine⟨u,?_,v2⟩;unfold dr;simp only[hop,ob,u1,u3,hc,v1]
  ·obtain⟨sv,h1,h2⟩:=aff e;refine⟨false,_,_,h1,rfl,quiet (by rw[hop];rfl) λσ tm h nx R=>?_⟩;obtain⟨w,u1,u2⟩:=ec R k1;obtain⟨w2,u3,u4⟩:=ec R k2;obtain⟨u,v1,v2⟩:=h2 σ w w2 (qO x||qO y) u2 u4;refine⟨u,?_,v2⟩;unfold dr;simp only[hop,ob,u1,u3,v1]
 ·rename_i x xt t ok hop;replace e:=af e;obtain⟨p,k1,e⟩:=e;obtain⟨sv,h1,h2⟩:=afe e;refine⟨false,_,_,h1,rfl,quiet (by rw[hop];rfl) λσ tm h nx R=>?_⟩;obtain⟨w,u1,u2⟩:=ec R k1;obtain⟨u,v1,v2⟩:=h2 σ w u2;refine⟨u,?_,v2⟩;unfold dr;simp only[hop,ob,u1,v1]
 ·rename_i op t x hop;replace e:=af e;obtain⟨p,k1,e⟩:=e;obtain⟨sv,h1,h2⟩:=afw e;refine⟨false,_,_,h1,rfl,quiet (by rw[hop];rfl) λσ tm h nx R=>?_⟩;obtain⟨w,u1,u2⟩:=ec R k1;obtain⟨u,v1,v2⟩:=h2 σ w u2;refine⟨u,?_,v2⟩;unfold dr;simp only[hop,ob,u1,v1]
 ·rename_i s d x hop;replace e:=af e;obtain⟨p,k1,e⟩:=e;obtain⟨sv,h1,h2⟩:=afj e;refine⟨false,_,_,h1,rfl,quiet (by rw[hop];rfl) λσ tm h nx R=>?_⟩;obtain⟨w,u1,u2⟩:=ec R k1;obtain⟨u,v2,v1⟩:=h2 σ tm h nx R w u2;refine⟨u,?_,v2⟩;unfold dr;simp only[hop,ob,u1];split at v1
  ·simp only[v1]
  ·cases hsd:Nat.beq s d with
   |true=>rw[hsd,ay] at v1;simp only[ay,v1]
   |false=>rw[hsd,aE] at v1;simp only[aE,v1]
  ·simp only[v1]
  ·simp only[v1]
  ·cases v1
 ·rename_i t l c hop;replace e:=af e;obtain⟨p,k1,e⟩:=e;replace e:=af e;obtain⟨q,k2,e⟩:=e;obtain⟨sv,st',h1,h2,h3⟩:=afr e;refine⟨false,sv,st',h1,h2,λσ tm h nx n R hw=>?_,λq=>by rw[hop] at q;cases q⟩;obtain⟨w,u1,u2⟩:=ec R k1;obtain⟨w2,u3,u4⟩:=ec R k2;obtain⟨σ',u,h',g1,g2,g3,g4⟩:=h3 σ tm h nx R w w2 u2 u4;refine⟨σ',u,h',nx+1,qT OK ho (by rw[hop];rfl) hw ?_,kc _,g2,g3,g4⟩;unfold dr;simp only[hop,ob,u1,u3,g1]
 ·rename_i t x lo hi mx hop;replace e:=af e;obtain⟨p,k1,e⟩:=e;replace e:=af e;obtain⟨l,k2,e⟩:=e;replace e:=af e;obtain⟨u,k3,e⟩:=e;replace e:=af e;obtain⟨m,k4,e⟩:=e;obtain⟨sv,h1,h2⟩:=afu e;refine⟨false,_,_,h1,rfl,quiet (by rw[hop];rfl) λσ tm h nx R=>?_⟩;obtain⟨w,u1,u2⟩:=ec R k1;obtain⟨w2,u3,u4⟩:=M7 R k2;obtain⟨w3,u5,u6⟩:=M7 R k3;obtain⟨w4,u7,u8⟩:=M7 R k4;obtain⟨u,v1,v2⟩:=h2 σ w w2 w3 w4 (DN h w) u2 u4 u6 u8;refine⟨u,?_,v2⟩;unfold dr;simp only[hop,ob,u1,u3,u5,u7,v1]
 ·rename_i s x f hop;replace e:=af e;obtain⟨p,k1,e⟩:=e;obtain⟨sv,h1,h2⟩:=afk e;refine⟨false,_,_,h1,rfl,quiet (by rw[hop];rfl) λσ tm h nx R=>?_⟩;obtain⟨w,u1,u2⟩:=ec R k1;obtain⟨u,v1,v2⟩:=h2 σ w u2;refine⟨u,?_,v2⟩;unfold dr;simp only[hop,ob,u1,v1]
 ·rename_i t x f hop;replace e:=af e;obtain⟨p,k1,e⟩:=e;obtain⟨sv,h1,h2⟩:=afl e;refine⟨false,_,_,h1,rfl,quiet (by rw[hop];rfl) λσ tm h nx R=>?_⟩;obtain⟨w,u1,u2⟩:=ec R k1;obtain⟨cs,ii,fs,fl,u,rfl,g1,g2,g3,v1,v2⟩:=h2 σ w u2;refine⟨u,?_,v2⟩;unfold dr;simp only[hop,ob,u1,g1,g2,g3,v1]
 ·rename_i t x ix hop;replace e:=af e;obtain⟨p,k1,e⟩:=e;replace e:=af e;obtain⟨q,k2,e⟩:=e;obtain⟨sv,h1,h2⟩:=afn e;refine⟨false,_,_,h1,rfl,quiet (by rw[hop];rfl) λσ tm h nx R=>?_⟩;obtain⟨w,u1,u2⟩:=ec R k1;obtain⟨w2,u3,u4⟩:=ec R k2;obtain⟨u,v1,v2⟩:=h2 σ tm h nx R w w2 u2 u4;refine⟨u,?_,v2⟩;unfold dr;simp only[hop,ob,u1,u3,v1]
 ·rename_i t x ix hop;replace e:=af e;obtain⟨p,k1,e⟩:=e;replace e:=af e;obtain⟨q,k2,e⟩:=e;obtain⟨sv,h1,h2⟩:=afo e;refine⟨false,_,_,h1,rfl,quiet (by rw[hop];rfl) λσ tm h nx R=>?_⟩;obtain⟨w,u1,u2⟩:=ec R k1;obtain⟨w2,u3,u4⟩:=ec R k2;obtain⟨u,v1,v2⟩:=h2 σ w w2 u2 u4;refine⟨u,?_,v2⟩;unfold dr;simp only[hop,ob,u1,u3,v1]
 ·rename_i t j hop;replace e:=af e;obtain⟨p,k1,e⟩:=e;unfold Vc at e;split at e
  ·replace e:=af e;obtain⟨y,k2,e⟩:=e;refine⟨false,_,_,e,rfl,quiet (by rw[hop];rfl) λσ tm h nx R=>?_⟩;obtain⟨w,u1,u2⟩:=ec R k1;cases u2 with
   |aH g=>obtain⟨u,v1,v2⟩:=g.get k2;refine⟨u,?_,v2⟩;unfold dr DL;simp only[hop,ob,u1,v1]
  ·cases e
 ·rename_i c hop;unfold U9 at e;replace e:=af e;obtain⟨args,k1,e⟩:=e;split at e
  ·rename_i x0 hc;replace e:=af e;obtain⟨fv,k0,e⟩:=e;split at e
   case h_2=>cases e
   rename_i g l;replace e:=af e;obtain⟨en,k2,e⟩:=e;replace e:=af e;obtain⟨fn,k3,e⟩:=e;obtain⟨p,sv,st',h1,ht,h2⟩:=PT (g%65536) en k2 _ _ _ _ e;refine⟨p,sv,st',h1,ht,λσ tm h nx n R hw=>?_,λq=>by rw[hop] at q;simp only[uw,hc] at q;cases q⟩;obtain⟨vs,u1,u2⟩:=sI R k1;obtain⟨w,w1,w2⟩:=ec R k0;cases w2 with
   |fn w2=>
   rename_i ys;obtain⟨σ',pv,h',nx',q2,q3,q4,q5,q6⟩:=h2 σ tm h nx (ys.take (g/65536)++(vs++ys.drop (g/65536))) R ((w2.take _).append (u2.append (w2.drop _)));refine⟨σ',pv,h',nx',aeX OK ho (f:=g%65536) (args:=ys.take (g/65536)++(vs++ys.drop (g/65536))) ?_ q2,q3,q4,q5,q6⟩;have hd:mW o.op=false:=by rw[hop];rfl
   unfold DK;simp only[ob,hw,ay,hd,aE];unfold dr rO;simp only[hop,ob,u1,hc,w1,yy];unfold qC;simp[ob,k3]
  ·rename_i hc;split at e
   ·rename_i x;replace e:=af e;obtain⟨t,k2,e⟩:=e;obtain⟨sv,h1,h2⟩:=afp e;refine⟨false,_,_,h1,rfl,quiet (by rw[hop];rfl) λσ tm h nx R=>?_⟩;obtain⟨vs,u1,u2⟩:=sI R k1;cases u2 with
    |cons d t0=>cases t0;obtain⟨u,v1,v2⟩:=h2 σ tm h nx R _ d;refine⟨u,?_,v2⟩;unfold dr rO tB;simp only[hop,ob,u1,hc,k2,v1]
   ·cases e
  ·rename_i hc;split at e
   ·rename_i d x;replace e:=af e;obtain⟨t,k2,e⟩:=e;obtain⟨sv,st',h1,h2,h3⟩:=afi e;refine⟨false,sv,st',h1,h2,λσ tm h nx n R hw=>?_,λq=>by rw[hop] at q;simp only[uw,hc] at q;cases q⟩;obtain⟨vs,u1,u2⟩:=sI R k1;cases u2 with
    |cons d t0=>
     cases t0 with
     |cons d2 t1=>cases t1;obtain⟨u,h',g1,g2,g3⟩:=h3 σ tm h nx R _ _ d d2;refine⟨σ,u,h',nx,qT OK ho (by rw[hop];rfl) hw ?_,aB _,NX.refl _ _,g2,g3⟩;unfold dr rO tB;simp only[hop,ob,u1,hc,k2,g1]
   ·cases e
  ·rename_i hc;split at e
   ·rename_i s x;obtain⟨sv,st',h1,h2,h3⟩:=afd e;refine⟨false,sv,st',h1,h2,λσ tm h nx n R hw=>?_,λq=>by rw[hop] at q;simp only[uw,hc] at q;cases q⟩;obtain⟨vs,u1,u2⟩:=sI R k1;cases u2 with
    |cons d t0=>
     cases t0 with
     |cons d2 t1=>cases t1;obtain⟨σ',u,h',nx',g1,g2,g3,g4,g5⟩:=h3 σ tm h nx R _ _ d d2;refine⟨σ',u,h',nx',qT OK ho (by rw[hop];rfl) hw ?_,g2,g3,g4,g5⟩;unfold dr rO tB;simp only[hop,ob,u1,hc,g1]
   ·cases e
  ·rename_i hc;obtain⟨sv,h1,h2⟩:=Vi e;refine⟨false,_,_,h1,rfl,quiet (by rw[hop];rfl) λσ tm h nx R=>?_⟩;obtain⟨vs,u1,u2⟩:=sI R k1;obtain⟨u,v1,v2⟩:=h2 σ vs u2;refine⟨u,?_,v2⟩;unfold dr rO tB;simp only[hop,ob,u1,hc,v1]
  ·rename_i hc;obtain⟨sv,h1,h2⟩:=Vi e;refine⟨false,_,_,h1,rfl,quiet (by rw[hop];rfl) λσ tm h nx R=>?_⟩;obtain⟨vs,u1,u2⟩:=sI R k1;obtain⟨u,v1,v2⟩:=h2 σ vs u2;refine⟨u,?_,v2⟩;unfold dr rO tB;simp only[hop,ob,u1,hc,v1]
  ·cases e
 ·rename_i x hop;replace e:=af e;obtain⟨p,k1,e⟩:=e;split at e
  ·rename_i t y;refine⟨true,_,_,e,rfl,λσ tm h nx n R hw=>?_,λq=>by rw[hop] at q;cases q⟩;obtain⟨w,u1,u2⟩:=ec R k1;have u2':=u2;cases u2 with
   |eR g=>refine⟨σ,_,h,nx,aeL OK ho (by rw[hop];rfl) hw ?_,aB _,NX.refl _ _,u2',R⟩;unfold dr;simp only[hop,ob,u1]
  ·cases e
 ·rename_i t x hop;replace e:=af e;obtain⟨p,k1,e⟩:=e;obtain⟨sv,h1,h2⟩:=afm e;refine⟨false,_,_,h1,rfl,quiet (by rw[hop];rfl) λσ tm h nx R=>?_⟩;obtain⟨w,u1,u2⟩:=ec R k1;obtain⟨u,v1,v2⟩:=h2 σ w u2;refine⟨u,?_,v2⟩;unfold dr;simp only[hop,ob,u1,v1]
 ·rename_i t x k ok hop;replace e:=af e;obtain⟨p,k1,e⟩:=e;replace e:=af e;obtain⟨q,k2,e⟩:=e;obtain⟨sv,h1,h2⟩:=afq e;refine⟨false,_,_,h1,rfl,quiet (by rw[hop];rfl) λσ tm h nx R=>?_⟩;obtain⟨w,u1,u2⟩:=ec R k1;obtain⟨w',u1',u2'⟩:=ec R k2;obtain⟨u,v1,v2⟩:=h2 σ h w w' u2 u2';refine⟨u,?_,v2⟩;unfold dr;simp only[hop,ob,u1,u1',v1]
 ·rename_i f first captured hop
  obtain⟨e1,e⟩:=aT e;have e1:=cT e1;replace e:=af e;obtain⟨a,k0,e⟩:=e;replace e:=af e;obtain⟨l,k1,e⟩:=e;refine⟨false,_,_,e,rfl,quiet (by rw[hop];rfl) λσ tm h nx R=>?_⟩;obtain⟨vs,u1,u2⟩:=sI R k1;obtain⟨us,t1,t2⟩:=sI R k0;have hl:us.length=first.toList.length:=(Ra t1).symm;refine⟨.func (.func f) ⟨us⟩ ⟨vs⟩,?_,?_⟩
  ·unfold dr;simp only[hop,ob,u1,t1]
  ·rw[<-ZN e1 us vs hl];exact .fn (t2.append u2)
 ·cases e
end
end Lt
end Go.Proofs.YtfdojmichbgpiaaGreatDoor

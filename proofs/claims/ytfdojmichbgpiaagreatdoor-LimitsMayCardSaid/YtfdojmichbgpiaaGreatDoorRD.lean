import Derived.Still
import Derived.Test.YtfdojmichbgpiaaGreatDoorRC
namespace Go.Proofs.YtfdojmichbgpiaaGreatDoor
namespace Lt
section
variable[QF]
variable{β:Type}
variable{P:Program} {h:Heap} {nx:Nat}
omit [QF] in
theorem cG.under{fr fr':cC}{h':Heap}{nx':Nat}(x:cC)(S:cG P ⟨fr,[],h,nx⟩ ⟨fr',[],h',nx'⟩):cG P ⟨fr,[x],h,nx⟩ ⟨fr',[x],h',nx'⟩:=by
 intro ρ f cs base w F C H N;cases C with
 |cons Fx C0=>cases C0;obtain⟨ρ',f',cs',w',s,F',C',H',M⟩:=S ρ f [] (_::base) w F .nil H N;cases C';exact⟨ρ',f',[_],w',s,F',.cons (Fx.mono (M.ext N)) .nil,H',M⟩
omit [QF] in
theorem hQ.less{an an':Nat}{a b:Nm}(F:hQ an nx a b)(h:an'<=an):hQ an' nx a b:=⟨λk hk x e=>F.an k (by omega) x e,F.nw⟩
def FR(o:Oper)(n:Nat)(K:Nat->Option β):Option β:=match o.op with
 | .call c=>match c.callee with
  | .builtin .recover=>match o.guard with
   |none=>cond (Sd c.args.toList) (match o.dst with|some d=>cond (Nat.blt d n) (K d) none|none=>none) none
   |some _=>none
  |_=>none
 |_=>none
where Sd:List Operand->Bool
 |[]=>true
 |_=>false
variable{b:β} {o:Oper}
omit [QF] in
theorem aeN{n:Nat}{K:Nat->Option β}(e:FR o n K=some b):∃d,K d=some b/\o.dst=some d/\Nat.blt d n=true/\o.guard=none/\∃c,o.op=.call c/\c.callee=.builtin .recover/\c.args.toList=[]:=by
 unfold FR at e;split at e
 ·rename_i c hop;split at e
  ·rename_i hc;split at e
   ·rename_i hg;obtain⟨e1,e⟩:=aT e;split at e
    ·rename_i d hd;obtain⟨e2,e⟩:=aT e;refine⟨d,e,hd,e2,hg,c,hop,hc,?_⟩;generalize c.args.toList=l at e1;cases l with
     |nil=>rfl
     |cons _ _=>cases e1
    grind
   grind
  grind
 grind
def Jw(o:Oper)(K:Nat->Option β):Option β:=match o.op with
 | .defer c=>match c.callee with
  | .value (.tmp t)=>match o.guard,o.dst with
   |none,none=>cond (FR.Sd c.args.toList) (K t) none
   |_,_=>none
  |_=>none
 |_=>none
omit [QF] in
theorem YZ{K:Nat->Option β}(e:Jw o K=some b):∃t,K t=some b/\o.dst=none/\o.guard=none/\∃c,o.op=.defer c/\c.callee=.value (.tmp t)/\c.args.toList=[]:=by
 unfold Jw at e;split at e
 ·rename_i c hop;split at e
  ·rename_i t hc;split at e
   ·rename_i hg hd;obtain⟨e1,e⟩:=aT e;refine⟨t,e,hd,hg,c,hop,hc,?_⟩;generalize c.args.toList=l at e1;cases l with
    |nil=>rfl
    |cons _ _=>cases e1
   grind
  grind
 grind
def E5(q:Option SV)(r:Option β):Option β:=match q with
 |none=>r
 |some _=>bM 60
omit [QF] in
theorem KV{q:Option SV}{r:Option β}(e:E5 q r=some b):q=none/\r=some b:=by
 cases q with
 |none=>exact⟨rfl,e⟩
 |some _=>cases e
noncomputable def xZ(C:Ctx β)(gn:Func)(lvg jvg:Nat->Option cZ)(ung:Nat->Bool)(caps:List SV)(rv:SV)(st:St)(K:St->Option β):Option β:=match gn.body with
 |some (.seq (.region _ ops false) rest)=>match ops.toList with
  |o::os=>cond (Nat.ble C.an st.sx) (FR o (caps.length+(gn.ntmps -caps.length)) λd=>
   zq C.X C.pt (caps.length+(gn.ntmps -caps.length)) ops os ⟨(mw caps 0 .nil).set d rv,st.h,st.sx⟩ λq st1=>E5 q
    (dn {C with n:=caps.length+(gn.ntmps -caps.length),rs:=[],lv:=lvg,jv:=jvg,un:=ung,df:=true,an:=st.sx,gQ:=λ_ st2=>K ⟨st.tm,st2.h,st2.sx⟩,mY:=λ_ _=>bM 62} 100000 [] [.code rest] st1)) (bM 61)
  |[]=>bM 63
 |_=>bM 64
variable{C:Ctx β} {g:FuncId} {gn:Func} {jvg lvg:Nat->Option cZ} {st:St} {ung:Nat->Bool}
theorem Qt(OK:ea P C.X)(hmix:P.follows .mixedOrders=true)(PT:oJ P C.pt)(hG:C.X.F.get g=some gn)(hres:gn.results.toList=[]){caps:List SV}{cv:List Value}{rv:SV}{K:St->Option β}
 (e:xZ C gn lvg jvg ung caps rv st K=some b) {x:cC} {σ:Nm} (hm:(x.mode=.returning/\rv=.ni)\/∃v,x.mode=.panicking [pe v]/\DV σ rv v) (R:aM σ st x.tmps h nx) (d:bU σ caps cv):
 ∃(cf:cC)(st2:St)(σ2:Nm)(h2:Heap)(nx2:Nat),jn C.X.F g cv .deferred=some cf/\(∀td,cG P ⟨cf,[{x with todo:=td}],h,nx⟩ ⟨{x with todo:=td,mode:=.returning},[],h2,nx2⟩)/\C.an<=st.sx/\nx<=nx2/\aM σ2 ⟨st.tm,st2.h,st2.sx⟩ x.tmps h2 nx2/\K ⟨st.tm,st2.h,st2.sx⟩=some b/\hQ st.sx nx σ σ2:=by
 unfold xZ at e;split at e
 case h_2=>cases e
 rename_i id ops rest hb;split at e
 case h_2=>cases e
 rename_i o os hops;obtain⟨han,e⟩:=aT e;have han:=cI han;obtain⟨dR,e,hdst,hlt,hgd,c,hop,hcal,harg⟩:=aeN e;have hlen:=d.length
 let cg:cC:={fn:=g,n:=cv.length+(gn.ntmps -cv.length),tmps:=.nil,todo:=[],defers:=[],mode:=.run,kind:=.deferred,roundOf:=none}
 have hcn:cg.n=caps.length+(gn.ntmps -caps.length):=by rw[hlen]
 have he:jn C.X.F g cv .deferred=some {fn:=g,n:=cv.length+(gn.ntmps -cv.length),tmps:=cW cv 0 .nil,todo:=[.code (.seq (.region id ops false) rest)],defers:=[],mode:=.run,kind:=.deferred,roundOf:=none}:=by unfold jn;simp only[ob,hG,hb]
 have ho:ops[0]? =some o:=by rw[<-kB,hops];rfl
 have hrg:List.range ops.size=0::List.range' 1 os.length:=by rw[List.range_eq_range',show ops.size=os.length+1 by rw[<-Array.length_toList,hops];rfl,List.range'_succ]
 have s1:cG P (bL cg [] (cW cv 0 .nil) [.code (.seq (.region id ops false) rest)] h nx) (bL cg [] (cW cv 0 .nil) [.code (.region id ops false),.code rest] h nx):=CY rfl rfl;have s2:cG P (bL cg [] (cW cv 0 .nil) [.code (.region id ops false),.code rest] h nx) (bL cg [] (cW cv 0 .nil) [.inRegion ops (0::List.range' 1 os.length),.code rest] h nx):=by rw[<-hrg];exact CW rfl rfl
 obtain⟨u,hu,hO⟩:∃(u:Value),DV σ rv u/\∀td,∃(y:cC),({y with mode:=AV y.mode}:cC)={x with todo:=td,mode:=.returning}/\
  xM C.X ⟨(bL cg [] (cW cv 0 .nil) [.inRegion ops (0::List.range' 1 os.length),.code rest] h nx).fr,[{x with todo:=td}],h,nx⟩ ops o=some ⟨(bL cg [] ((cW cv 0 .nil).set dR u) [.inRegion ops (List.range' 1 os.length),.code rest] h nx).fr,[y],h,nx⟩:=by
  have hw:fU ops (cW cv 0 .nil) o=some true:=by unfold fU;rw[hgd]
  have hao:dr C.X h nx (jo (cW cv 0 .nil)) o=some .uy:=by unfold dr;simp only[hop];unfold rO;simp_all;rfl
  have hfin:∀u,mO (bL cg [] (cW cv 0 .nil) [.inRegion ops (0::List.range' 1 os.length),.code rest] h nx).fr u=some (bL cg [] ((cW cv 0 .nil).set dR u) [.inRegion ops (List.range' 1 os.length),.code rest] h nx).fr:=by
   intro u;show(ob (tI _ ((ops[0]?).bind (·.dst)) u) λfr=>_)=_;rw[ho];show(ob (tI _ o.dst u) λfr=>_)=_;rw[hdst];unfold tI;have:Nat.blt dR (bL cg [] (cW cv 0 .nil) [.inRegion ops (0::List.range' 1 os.length),.code rest] h nx).fr.n=true:=by show Nat.blt dR cg.n=true;rw[hcn];exact hlt
   simp only[this,ay];rfl
  have hdf:mW o.op=false:=by rw[hop];rfl
  rcases hm with⟨hm,rfl⟩|⟨v,hm,dv⟩
  ·refine⟨.nilIface,.ni,λtd=>⟨{x with todo:=td},by show({x with todo:=td,mode:=AV x.mode}:cC)=_;rw[hm];rfl,?_⟩⟩
   unfold xM;simp only[ob];simp only[show(bL cg [] (cW cv 0 .nil) [.inRegion ops (0::List.range' 1 os.length),.code rest] h nx).fr.tmps=cW cv 0 .nil from rfl,hw,ay,hdf,uT,aE,hao];simp only[show(bL cg [] (cW cv 0 .nil) [.inRegion ops (0::List.range' 1 os.length),.code rest] h nx).fr.roundOf=none from rfl,show(bL cg [] (cW cv 0 .nil) [.inRegion ops (0::List.range' 1 os.length),.code rest] h nx).fr.kind=.deferred from rfl,hm,hfin]
  ·refine⟨v,dv,λtd=>⟨{x with todo:=td,mode:=.panicking [{v:=v,recovered:=true}]},rfl,?_⟩⟩
   unfold xM;simp only[ob];simp only[show(bL cg [] (cW cv 0 .nil) [.inRegion ops (0::List.range' 1 os.length),.code rest] h nx).fr.tmps=cW cv 0 .nil from rfl,hw,ay,hdf,uT,aE,hao];simp only[show(bL cg [] (cW cv 0 .nil) [.inRegion ops (0::List.range' 1 os.length),.code rest] h nx).fr.roundOf=none from rfl,show(bL cg [] (cW cv 0 .nil) [.inRegion ops (0::List.range' 1 os.length),.code rest] h nx).fr.kind=.deferred from rfl,hm,pe,hfin]
 obtain⟨q,st1,e1,G⟩:=Cn OK PT (c:=cg) os 1 (λi o' hi=>by rw[<-kB,hops,Nat.add_comm];exact hi) _ _ _ (by rw[hcn];exact e);have R0:aM σ ⟨(mw caps 0 .nil).set dR rv,st.h,st.sx⟩ ((cW cv 0 .nil).set dR u) h nx:=by have R0:aM σ ⟨mw caps 0 .nil,st.h,st.sx⟩ (cW cv 0 .nil) h nx:=⟨C4 d 0 .nil .nil (λt sv h=>by rw[Tr.get_nil] at h;cases h),R.obj,R.inj,R.lt,R.fresh⟩;exact R0.slot (d:=some dR) hu
 obtain⟨σ1,tm1,h1,nx1,l1,N1,R1,g1⟩:=G σ _ h nx R0;obtain⟨rfl,e1⟩:=KV e1;have s5:cG P (bL cg [] tm1 [.inRegion ops [],.code rest] h1 nx1) (bL cg [] tm1 [.code rest] h1 nx1):=CX rfl rfl;have E:=yh (P:=P) (c:=cg) (C:={C with n:=caps.length+(gn.ntmps -caps.length),rs:=[],lv:=lvg,jv:=jvg,un:=ung,df:=true,an:=st.sx,gQ:=λ_ st2=>K ⟨st.tm,st2.h,st2.sx⟩,mY:=λ_ _=>bM 62}) OK hmix PT ⟨gn,hG,hres⟩ hcn rfl 100000 [] [.code rest] _ b e1 (λr hr=>by cases hr) _ _ _ _ R1
 rcases E with⟨σ2,st2,sv,tm2,td2,h2,nx2,s6,l2,R2,_,kr,F2⟩|⟨_,_,_,_,_,_,_,_,_,_,_,kr,_⟩
 case inr=>cases kr
 have l2:nx1<=nx2:=l2;have FF:hQ st.sx nx σ σ2:=N1.Ez.trans F2 l1;refine⟨_,st2,σ2,h2,nx2,he,λtd=>?_,han,eP l1 l2,⟨λt sv hv=>?_,R2.obj,R2.inj,R2.lt,R2.fresh⟩,kr,FF⟩
 ·obtain⟨y,hy,hO⟩:=hO td;have s3:=OI (P:=P) OK (m:=⟨(bL cg [] (cW cv 0 .nil) [.inRegion ops (0::List.range' 1 os.length),.code rest] h nx).fr,[{x with todo:=td}],h,nx⟩) rfl rfl ho hO;have s7:cG P ⟨(kh cg tm2 td2 h2 nx2).fr,[y],h2,nx2⟩ ⟨{x with todo:=td,mode:=.returning},[],h2,nx2⟩:=by
   refine Il OK (X:=C.X) ?_;unfold vA;have a1:(kh cg tm2 td2 h2 nx2).fr.mode=.returning:=rfl;have a2:(kh cg tm2 td2 h2 nx2).fr.defers=[]:=rfl;have a3:(kh cg tm2 td2 h2 nx2).fr.kind=.deferred:=rfl;have a4:oN C.X h2 (kh cg tm2 td2 h2 nx2).fr=some (.tuple ⟨[]⟩):=by unfold oN;have:C.X.F.get (kh cg tm2 td2 h2 nx2).fr.fn=some gn:=hG;simp only[ob,this,hres];rfl
   simp only[a1,a2,a3,a4,ob];rw[hy]
  refine((s1.trans s2 (aB _) (aB _)).under {x with todo:=td}).trans ?_ (aB _) (eP l1 l2);refine s3.trans ?_ (aB _) (eP l1 l2);refine(((g1.trans s5 l1 (aB _)).trans s6 l1 l2).under y).trans s7 (eP l1 l2) (aB _)
 ·obtain⟨v,v1,v2⟩:=R.tm t sv hv;refine⟨v,v1,v2.mono λid z hz=>FF.an id ?_ z hz⟩;rcases dg id st.sx with w|w
  ·exact w
  ·rw[R.fresh id w] at hz;cases hz
noncomputable def yw(C:Ctx β)(st:St):Option β:=vU C.X.T st C.rs (Bo C.gQ st)
noncomputable def Ee(C:Ctx β)(g:FuncId)(gn:Func)(lvg jvg:Nat->Option cZ)(ung:Nat->Bool)(body:Code)(st:St):Option β:=match body with
 | .seq (.region _ ops0 false) (.seq (.region _ ops1 false) rest)=>zq C.X C.pt C.n ops0 ops0.toList st λq st1=>E5 q (match ops1.toList with
  |[o1,o2]=>match o1.guard with
   |none=>Eh C.n o1 (BQ C.X C.pt st1 o1 λq st2=>E5 q (Jw o2 λt=>ob (st2.tm.get t) λfv=>match fv with
    | .fn g' caps=>cond (Nat.beq g' g&&(Nat.blt g' 65536&&Nat.ble C.an st2.sx)) (dn {C with df:=true,an:=st2.sx,gQ:=λ_ st3=>xZ C gn lvg jvg ung caps .ni st3 (yw C),mY:=λrv st3=>xZ C gn lvg jvg ung caps rv st3 (yw C)} 100000 [] [.code rest] st2) (bM 65)
    |_=>bM 66))
   |some _=>bM 68
  |_=>bM 69)
 |_=>bM 67
variable{X:cJ} {f:FuncId}
omit [QF] in
theorem aeY(OK:ea P X){args:List Value}{fr:cC}(he:jn X.F f args .normal=some fr){c:cC}{tm1 tm2:Tr Value}{td1:List Item}{h1 h2 h3:Heap}{nx1 nx2 nx3:Nat}{v u:Value}
 (S:cG P ⟨fr,[],h,nx⟩ (bL c [] tm1 td1 h1 nx1)) (l1:nx<=nx1) (T:vj P (bL c [] tm1 td1 h1 nx1) v tm2 h2 nx2) (l2:nx1<=nx2)
 (U:∀td,∃m,cG P ⟨{(bL c [] tm1 td1 h1 nx1).fr with tmps:=tm2,todo:=td,mode:=.panicking [pe v]},[],h2,nx2⟩ m/\m.h=h3/\m.nx=nx3/\qA X f m=some u) (l3:nx2<=nx3):jl P f args h nx u h3 nx3:=by
 intro ρ args' cs w A H N;obtain⟨ρ1,fr1,cs1,w1,s1,F1,C1,H1,M1⟩:=S ρ _ [] cs w (AK OK.F A he) .nil H (λo a b=>N o a (by have b:o<nx1:=b;omega));cases C1;obtain⟨ρ2,fr2,w2,td,s2,F2,H2,M2⟩:=T ρ1 fr1 cs w1 F1 H1 (λo a b=>by have a:nx1<=o:=a;rw[M1.cq o (.inr a)];exact N o (by omega) (by omega));obtain⟨m,U1,rfl,rfl,hv⟩:=U td;obtain⟨ρ3,fr3,cs3,w3,s3,F3,C3,H3,M3⟩:=U1 ρ2 fr2 [] cs w2 F2 .nil H2 (λo a b=>by have a:nx2<=o:=a;rw[M2.cq o (.inr a),M1.cq o (.inr (by show nx1<=o;omega))];exact N o (by omega) b);unfold qA at hv;split at hv
 ·rename_i h1 h2 h3 h4;rw[h4] at C3;cases C3;cases hb:Nat.beq m.fr.fn f with
  |false=>grind
  |true=>
  simp[hb] at hv;obtain⟨fn,v',g1,g2,g3⟩:=LY OK H3 F3 hv;refine⟨ρ3,fr3,w3,fn,v',(s1.trans s2).trans s3,?_,?_,by rw[F3.kind,h3],⟨by rw[F3.fn];exact bJ hb,g1⟩,g2,g3,H3,(M1.trans M2).trans M3⟩
  ·have:=F3.mode;rw[h1] at this;exact this
  ·have FD:=F3.defers;rw[h2] at FD;generalize fr3.defers=q at FD;cases FD;rfl
 grind
omit [QF] in
theorem Zv(e:yw C st=some b):∃sv,C.gQ sv st=some b/\∀(σ:Nm)(fr:cC)(h:Heap)(nx:Nat)(fn:Func),C.X.F.get fr.fn=some fn->fn.results.toList=C.rs->aM σ st fr.tmps h nx->∃u,oN C.X h fr=some u/\DV σ sv u:=by
 obtain⟨svs,k1,k2⟩:=Et e;unfold Bo at k1;split at k1
 ·rename_i v;refine⟨v,k1,λσ fr h nx fn hF hr R=>?_⟩;obtain⟨vs,v1,v2⟩:=k2 σ _ h nx R;simp[oN,ob,hF,hr,v1];cases v2 with
  |cons d t=>cases t;exact⟨_,rfl,d⟩
 ·rename_i ca;refine⟨_,k1,λσ fr h nx fn hF hr R=>?_⟩;obtain⟨vs,v1,v2⟩:=k2 σ _ h nx R;simp[oN,ob,hF,hr,v1];cases v2 with
  |nil=>exact⟨_,rfl,.aH .nil⟩
  |cons d t=>
   cases t with
   |nil=>grind
   |cons d2 t2=>exact⟨_,rfl,.aH (.cons d (.cons d2 t2))⟩
theorem QH{P:Program}{C:Ctx β}(OK:ea P C.X)(hmix:P.follows .mixedOrders=true)(PT:oJ P C.pt){f:FuncId}{fn:Func}(hF:C.X.F.get f=some fn){body:Code}(hb:fn.body=some body)(hrs:fn.results.toList=C.rs)
 {g:FuncId} {gn:Func} (hG:C.X.F.get g=some gn) (hres:gn.results.toList=[]) {lvg jvg:Nat->Option cZ} {ung:Nat->Bool} {st:St} {b:β} (e:Ee C g gn lvg jvg ung body st=some b) {vs:List Value} (hn:C.n=vs.length+(fn.ntmps -vs.length))
 {σ:Nm} {h:Heap} {nx:Nat} (R:aM σ st (cW vs 0 .nil) h nx):
 ∃(σ':Nm)(st':St)(sv:SV)(u:Value)(tm':Tr Value)(h':Heap)(nx':Nat),jl P f vs h nx u h' nx'/\nx<=nx'/\aM σ' st' tm' h' nx'/\DV σ' sv u/\C.gQ sv st'=some b/\hQ C.an nx σ σ':=by
 unfold Ee at e;split at e
 case h_2=>cases e
 rename_i id0 ops0 id1 ops1 rest
 let c:cC:={fn:=f,n:=vs.length+(fn.ntmps -vs.length),tmps:=.nil,todo:=[],defers:=[],mode:=.run,kind:=.normal,roundOf:=none}
 have hcn:c.n=C.n:=hn.symm;have he:jn C.X.F f vs .normal=some (bL c [] (cW vs 0 .nil) [.code (.seq (.region id0 ops0 false) (.seq (.region id1 ops1 false) rest))] h nx).fr:=by unfold jn;simp only[ob,hF,hb];rfl
 rw[<-hcn] at e;obtain⟨q,st1,e1,G⟩:=Cn OK PT (c:=c) ops0.toList 0 (λi o hi=>by rw[fg,<-kB];exact hi) _ _ _ e;obtain⟨σ1,tm1,h1,nx1,l1,N1,R1,g1⟩:=G σ _ h nx R;obtain⟨rfl,e1⟩:=KV e1;split at e1
 case h_2=>cases e1
 rename_i o1 o2 hops;split at e1
 case h_2=>cases e1
 rename_i hgd;obtain⟨e2,hd1⟩:=QM e1;have ho1:ops1[0]? =some o1:=by rw[<-kB,hops];rfl
 have ho2:ops1[1]? =some o2:=by rw[<-kB,hops];rfl
 obtain⟨q,st2,e3,D⟩:=Lr OK PT ho1 e2;obtain⟨rfl,e3⟩:=KV e3;obtain⟨σ2,v2,h2,nx2,O2,l2,N2,R2⟩:=D σ1 tm1 h1 nx1 c.n R1 (by unfold fU;rw[hgd]);obtain⟨t,e4,hd2,hg2,cc,hop,hcal,harg⟩:=YZ e3;replace e4:=af e4;obtain⟨fv,hfv,e4⟩:=e4;split at e4
 case h_2=>cases e4
 rename_i g' caps;obtain⟨hgq,e5⟩:=aT e4;rw[bg,bg] at hgq;have hgg:=bJ hgq.1;have hsm:=cT hgq.2.1;have han:=cI hgq.2.2;subst hgg;obtain⟨w,w1,w2⟩:=R2.tm t _ hfv;obtain⟨cv,rfl,dcv⟩:∃cv:List Value,w=.func (.func g') #[] ⟨cv⟩/\bU σ2 caps cv:=by
  cases w2 with
  |fn hh=>exact⟨_,Ey hsm _,hh⟩
 have hrg0:List.range ops0.size=List.range' 0 ops0.toList.length:=by rw[List.range_eq_range'];simp
 have hrg1:List.range ops1.size=[0,1]:=by rw[show ops1.size=2 by rw[<-Array.length_toList,hops];rfl];rfl
 let d:Deferred:={target:=.fn (.func g') ⟨cv⟩,args:=#[]}
 let c1:cC:={c with defers:=[d]}
 have t1:cG P (bL c [] (cW vs 0 .nil) [.code (.seq (.region id0 ops0 false) (.seq (.region id1 ops1 false) rest))] h nx) (bL c [] (cW vs 0 .nil) [.code (.region id0 ops0 false),.code (.seq (.region id1 ops1 false) rest)] h nx):=CY rfl rfl;have t2:cG P (bL c [] (cW vs 0 .nil) [.code (.region id0 ops0 false),.code (.seq (.region id1 ops1 false) rest)] h nx) (bL c [] (cW vs 0 .nil) [.inRegion ops0 (List.range' 0 ops0.toList.length),.code (.seq (.region id1 ops1 false) rest)] h nx):=by rw[<-hrg0];exact CW rfl rfl
 have t3:=g1;have t5:cG P (bL c [] tm1 [.code (.seq (.region id1 ops1 false) rest)] h1 nx1) (bL c [] tm1 [.code (.region id1 ops1 false),.code rest] h1 nx1):=CY rfl rfl;have t6:cG P (bL c [] tm1 [.code (.region id1 ops1 false),.code rest] h1 nx1) (bL c [] tm1 [.inRegion ops1 [0,1],.code rest] h1 nx1):=by rw[<-hrg1];exact CW rfl rfl
 have t7:cG P (bL c [] tm1 [.inRegion ops1 [0,1],.code rest] h1 nx1) (bL c [] (fM tm1 o1.dst v2) [.inRegion ops1 [1],.code rest] h2 nx2):=OH ho1 hd1 l2 O2;have t8:cG P (bL c [] (fM tm1 o1.dst v2) [.inRegion ops1 [1],.code rest] h2 nx2) (bL c1 [] (fM tm1 o1.dst v2) [.inRegion ops1 [],.code rest] h2 nx2):=by
  refine OI OK (X:=C.X) (i:=1) rfl rfl ho2 ?_;have hw:fU ops1 (fM tm1 o1.dst v2) o2=some true:=by unfold fU;rw[hg2]
  have hao:dr C.X h2 nx2 (jo (fM tm1 o1.dst v2)) o2=some (.tP d):=by unfold dr;simp only[hop];unfold Ja;simp only[harg,qK,ob,hcal];have:jo (fM tm1 o1.dst v2) (.tmp t)=some (.func (.func g') #[] ⟨cv⟩):=w1;simp only[this];rfl
  unfold xM;simp only[ob];simp only[show(bL c [] (fM tm1 o1.dst v2) [.inRegion ops1 [1],.code rest] h2 nx2).fr.tmps=fM tm1 o1.dst v2 from rfl,hw,ay];simp only[show(bL c [] (fM tm1 o1.dst v2) [.inRegion ops1 [1],.code rest] h2 nx2).fr.roundOf=none from rfl,Option.isSome_none,Bool.and_false,aE];simp only[show(bL c [] (fM tm1 o1.dst v2) [.inRegion ops1 [1],.code rest] h2 nx2).h=h2 from rfl,show(bL c [] (fM tm1 o1.dst v2) [.inRegion ops1 [1],.code rest] h2 nx2).nx=nx2 from rfl,hao];generalize hq:mO _ undef=q;have hq2:q=some (bL c1 [] (fM tm1 o1.dst v2) [.inRegion ops1 [],.code rest] h2 nx2).fr:=by rw[<-hq];unfold mO;show(ob (tI _ ((ops1[1]?).bind (·.dst)) undef) λfr=>_)=_;rw[ho2];show(ob (tI _ o2.dst undef) λfr=>_)=_;rw[hd2];rfl
  rw[hq2];rfl
 have t9:cG P (bL c1 [] (fM tm1 o1.dst v2) [.inRegion ops1 [],.code rest] h2 nx2) (bL c1 [] (fM tm1 o1.dst v2) [.code rest] h2 nx2):=CX rfl rfl;have l12:nx<=nx2:=eP l1 l2;have S0:cG P (bL c [] (cW vs 0 .nil) [.code (.seq (.region id0 ops0 false) (.seq (.region id1 ops1 false) rest))] h nx) (bL c1 [] (fM tm1 o1.dst v2) [.code rest] h2 nx2):=by refine(t1.trans t2 (aB _) (aB _)).trans ?_ (aB _) l12;refine(t3.trans (CX rfl rfl) l1 (aB _)).trans ?_ l1 l2;refine(t5.trans t6 (aB _) (aB _)).trans ?_ (aB _) l2;exact(t7.trans t8 l2 (aB _)).trans t9 l2 (aB _)
 have E:=yh (P:=P) (c:=c1) (C:={C with df:=true,an:=st2.sx,gQ:=λ_ st3=>xZ C gn lvg jvg ung caps .ni st3 (yw C),mY:=λrv st3=>xZ C gn lvg jvg ung caps rv st3 (yw C)}) OK hmix PT ⟨fn,hF,hrs⟩ hcn rfl 100000 [] [.code rest] _ b (by rw[<-hcn];exact e5) (λr hr=>by cases hr) _ _ _ _ R2
 have FN:hQ st2.sx nx σ σ2:=(N1.trans N2 l1).Ez;have unw:∀(m:AM)(cf:cC),jn C.X.F g' cv .deferred=some cf->m.fr.defers=[d]->(m.fr.mode=.returning\/∃q,m.fr.mode=.panicking q)->vA C.X m=some {m with fr:=cf,cs:={m.fr with defers:=[]}::m.cs}:=by
  intro m cf a1 b2 b1;have b3:qC C.X (.func g') (#[]:Array Value).toList (⟨cv⟩:Array Value).toList=some (.enter g' cv):=by unfold qC;simp only[ob,hG];rfl
  unfold vA;rcases b1 with b1|⟨q,b1⟩
  ·simp only[b1,b2];show(ob (qC C.X (.func g') (#[]:Array Value).toList (⟨cv⟩:Array Value).toList) λout=>_)=_;rw[b3];simp only[ob,a1]
  ·simp only[b1,b2];show(ob (qC C.X (.func g') (#[]:Array Value).toList (⟨cv⟩:Array Value).toList) λout=>_)=_;rw[b3];simp only[ob,a1]
 have done:∀{σ5:Nm}{st6:St}{tm3:Tr Value}{h5:Heap}{nx5:Nat}(x:cC),x.fn=f->x.defers=[]->x.kind=.normal->x.tmps=tm3->aM σ5 st6 tm3 h5 nx5->yw C st6=some b->
  ∃sv u,qA C.X f ⟨{x with mode:=.returning},[],h5,nx5⟩=some u/\DV σ5 sv u/\C.gQ sv st6=some b:=by
  intro σ5 st6 tm3 h5 nx5 x x1 x2 x3 x4 R6 k6;obtain⟨sv,k7,k8⟩:=Zv k6;obtain⟨u,u1,u2⟩:=k8 σ5 {x with mode:=.returning} h5 nx5 fn (by show C.X.F.get x.fn=_;rw[x1];exact hF) hrs (by show aM σ5 st6 x.tmps h5 nx5;rw[x4];exact R6);refine⟨sv,u,?_,u2,k7⟩;unfold qA;simp only[x2,x3,x1,kV,ay];simp only[x2,x3,x1] at u1;exact u1
 rcases E with⟨σ3,st3,sv3,tm3,td3,h3,nx3,s3,l3,R3,_,kr,F3⟩|⟨σ3,st3,sv3,v3,tm3,h3,nx3,s3,l3,R3,dv3,kr,F3⟩
 ·have l3:nx2<=nx3:=l3;have dcv3:bU σ3 caps cv:=bU.mono (λid z hz=>F3.an id (by
   rcases dg id st2.sx with w|w
   ·exact w
   ·rw[R2.fresh id w] at hz;cases hz) z hz) dcv
  let x:cC:={(kh c1 tm3 td3 h3 nx3).fr with defers:=[]}
  obtain⟨cf,st5,σ5,h5,nx5,a1,a2,a7,a3,a4,a5,a6⟩:=Qt OK hmix PT hG hres kr (x:=x) (.inl ⟨rfl,rfl⟩) R3 dcv3;obtain⟨sv,u,q1,q2,q3⟩:=done x rfl rfl rfl rfl a4 a5;refine⟨σ5,_,sv,u,_,h5,nx5,?_,by omega,a4,q2,q3,?_⟩
  ·have S:=(S0.trans s3 l12 l3).trans ((Il OK (X:=C.X) (unw (kh c1 tm3 td3 h3 nx3) cf a1 rfl (.inl rfl))).trans (a2 td3) (aB _) a3) (by show nx<=nx3;omega) a3;exact B8 OK he S q1
  ·exact((FN.trans F3 l12).less han).trans (a6.less a7) (by omega)
 ·have l3:nx2<=nx3:=l3;have dcv3:bU σ3 caps cv:=bU.mono (λid z hz=>F3.an id (by
   rcases dg id st2.sx with w|w
   ·exact w
   ·rw[R2.fresh id w] at hz;cases hz) z hz) dcv
  let x0:cC:={(bL c1 [] (fM tm1 o1.dst v2) [.code rest] h2 nx2).fr with tmps:=tm3,todo:=[],mode:=.panicking [pe v3],defers:=[]}
  obtain⟨cf,st5,σ5,h5,nx5,a1,a2,a7,a3,a4,a5,a6⟩:=Qt OK hmix PT hG hres kr (x:=x0) (.inr ⟨v3,rfl,dv3⟩) R3 dcv3;obtain⟨sv,u,q1,q2,q3⟩:=done x0 rfl rfl rfl rfl a4 a5;refine⟨σ5,_,sv,u,_,h5,nx5,?_,by omega,a4,q2,q3,?_⟩
  ·refine aeY OK he S0 l12 s3 l3 (λtd=>⟨⟨{x0 with todo:=td,mode:=.returning},[],h5,nx5⟩,?_,rfl,rfl,q1⟩) a3
   refine cG.trans (Il OK (X:=C.X) (unw _ cf a1 rfl (.inr ⟨_,rfl⟩))) (a2 td) (aB _) a3
  ·exact((FN.trans F3 l12).less han).trans (a6.less a7) (by omega)
noncomputable def X7(C:Ctx β)(g:FuncId)(gn:Func)(lvg jvg:Nat->Option cZ)(ung:Nat->Bool)(avt:List VT)(body:Code)(ls:List bo):Option β:=
 ob (rC avt ls) λq=>Ee C g gn lvg jvg ung body ⟨mw q.1 0 .nil,.nil,0⟩
noncomputable def X9(w:Nat)(X:cJ)(pt:(β:Type)->FuncId->Option (dJ β))(fn:Func)(g:FuncId)(gn:Func)(avt:List VT)(rvt:VT)(lv jv:Nat->Option cZ)(un:Nat->Bool)(lvg jvg:Nat->Option cZ)(ung:Nat->Bool):Fn (VT.fo avt) (Option (cM rvt.ks)):=
 lq (VT.fo avt) (X7 {X:=X,pt:=pt _,n:=avt.length+(fn.ntmps -avt.length),rs:=fn.results.toList,lv:=lv,jv:=jv,un:=un,df:=false,fuel:=w,an:=0,gQ:=λsv st=>yz st rvt sv (dec rvt.ks),mY:=λ_ _=>none} g gn lvg jvg ung avt (fn.body.getD .skip))
variable{fn:Func} {jv lv:Nat->Option cZ} {pt:(β:Type)->FuncId->Option (dJ β)} {un:Nat->Bool} {w:Nat}
theorem ZD(OK:ea P X)(hmix:P.follows .mixedOrders=true)(PT:mJ P pt){avt:List VT}{rvt:VT}{Sh:Fn (VT.fo avt) (Option (cM rvt.ks))}
 (hF:X.F.get f=some fn) (hb:fn.body=some (fn.body.getD .skip)) (hG:X.F.get g=some gn) (hres:gn.results.toList=[]) (ht:si avt=true) (hS:Sh=X9 w X pt fn g gn avt rvt lv jv un lvg jvg ung):dI P f avt rvt Sh:=by
 intro ls r e lo us hu;subst hS;have e:=nR _ _ _ _ e;obtain⟨⟨svs,rest⟩,h1,e⟩:=af e;obtain⟨q0,q1,_⟩:=yk avt ls _ _ _ _ lo hu h1;obtain⟨pu,_⟩:=Be avt ls _ _ ht lo hu;have R:aM (λ_=>none) ⟨mw svs 0 .nil,.nil,0⟩ (cW us 0 .nil) .nil 0:=
  ⟨C4 (q1 _) 0 .nil .nil (λt sv h=>by rw[Tr.get_nil] at h;cases h),λid so h=>(by have h:(Tr.nil:Tr SO).get id=some so:=h;rw[Tr.get_nil] at h;cases h),
   λid id' so so' o n n' h=>(by simp),λid o n h=>(by grind),λid h=>rfl⟩
 obtain⟨σ,st,sv,v,tm',h',nx',s,l,R',dv,kr,_⟩:=QH OK hmix (PT _) hF hb rfl hG hres e (by show avt.length+_=_;rw[(Jz avt ls _ _ hu)]) R;obtain⟨ls',f1,f2,f3⟩:=J7 _ _ _ _ kr;obtain⟨pv,sv',g1,g2,g3⟩:=f3 [];rw[eH] at g1;rw[(vP _ _ _ f1)];exact⟨f2 σ _ _ _ v R' dv,pv,g1,(LF pu s (g3 σ _ _ _ v R' dv))⟩
noncomputable def X8(w:Nat)(X:cJ)(pt:(β:Type)->FuncId->Option (dJ β))(fn:Func)(g:FuncId)(gn:Func)(T:HT)(lv jv:Nat->Option cZ)(un:Nat->Bool)(lvg jvg:Nat->Option cZ)(ung:Nat->Bool):Fn T.ti.ks (Option (cM T.to.ks)):=
 lq T.ti.ks λls=>ob (iX T.ti ls) λst=>Ee {X:=X,pt:=pt _,n:=T.n+(fn.ntmps -T.n),rs:=fn.results.toList,lv:=lv,jv:=jv,un:=un,df:=false,fuel:=w,an:=T.an,gQ:=λsv st=>qL T.an T.to ⟨Tr.nil.set 0 sv,st.h,st.sx⟩ (dec T.to.ks),mY:=λ_ _=>bM 52} g gn lvg jvg ung (fn.body.getD .skip) st
theorem ZE(OK:ea P X)(hmix:P.follows .mixedOrders=true)(PT:mJ P pt){T:HT}{Sh:Fn T.ti.ks (Option (cM T.to.ks))}
 (hF:X.F.get f=some fn) (hb:fn.body=some (fn.body.getD .skip)) (hG:X.F.get g=some gn) (hres:gn.results.toList=[]) (hS:Sh=X8 w X pt fn g gn T lv jv un lvg jvg ung):pq P f T Sh:=by
 intro ls r st so e hst hso;subst hS;have e:=nR _ _ _ _ e;obtain⟨st1,g1,e⟩:=af e;rw[hst] at g1;cases g1;intro σ vs h nx hl R;obtain⟨σ1,s1,sv,v,tm',h',nx',s,l,R',dv,kr,F⟩:=QH OK hmix (PT _) hF hb rfl hG hres e (by grind) R;obtain⟨ls',q1,st',q2,q3,q4⟩:=yr kr;rw[<-vP _ _ _ q1] at q2;rw[hso] at q2;cases q2;have R2:aM σ1 ⟨Tr.nil.set 0 sv,s1.h,s1.sx⟩ (Tr.nil.set 0 v) h' nx':=by
  refine⟨λt x hx=>?_,R'.obj,R'.inj,R'.lt,R'.fresh⟩;rw[Tr.bD] at hx⊢;by_cases q:t=0
  ·grind
  ·rw[ai q,Tr.get_nil] at hx;cases hx
 obtain⟨σ2,z1,z2⟩:=q4 _ _ _ _ R2;exact⟨σ2,v,h',nx',s,l,z1,F.trans z2 l⟩
end
section
variable[QF]
def BJ(f:Value->Option Value):List Value->Option (List Value)
 |[]=>some []
 |x::xs=>ob (f x) λu=>ob (BJ f xs) λus=>some (u::us)
def KG(f:Value->Option Value):List (Value×Value)->Option (List Value)
 |[]=>some []
 |(k,v)::es=>ob (f k) λa=>ob (f v) λb=>ob (KG f es) λus=>some (.func (.func 0) #[a] #[b]::us)
def yA(h:Heap):Nat->Value->Option Value
 |0,_=>none
 |n+1,v=>match v with
  | .bool b=>some (.bool b)
  | .int k m=>some (.int k m)
  | .string s=>some (.string s)
  | .agg cs=>ob (BJ (yA h n) cs.toList) λus=>some (.agg ⟨us⟩)
  | .slice (some ⟨o,off,none⟩) len cap=>ob (h.get o) λob'=>match ob' with
   | .cells vs _ _=>cond (Nat.ble off vs.length&&!Nat.beq cap bt) (ob (BJ (yA h n) (vs.drop off)) λc=>some (ae len c)) none
   |_=>none
  | .map (some o)=>ob (h.get o) λob'=>match ob' with
   | .map es=>ob (KG (yA h n) es) λus=>some (.func (.method "") ⟨us⟩ #[])
   |_=>none
  |_=>none
def ur:Nat->Value->Bool
 |0,_=>false
 |n+1,v=>match v with
  | .bool _=>true
  | .int _ _=>true
  | .string _=>true
  | .agg cs=>cs.toList.all (ur n)
  | .func (.func _) xs ys=>xs.toList.all (ur n)&&ys.toList.all (ur n)
  | .func (.via _ _ _ _) cs _=>cs.toList.all (ur n)&&bB cs.toList
  | .func (.method m) cs _=>decide (m= "")&&cs.toList.all (ur n)
  |_=>false
omit [QF] in
theorem za:∀{n:Nat}{v:Value},ur n v=true->aY v
 |0,_,h=>by cases h
 |n+1,v,h=>by
  unfold ur at h;split at h
  ·exact .bool _
  ·exact .int _ _
  ·exact .str _
  ·rw[jf] at h;exact .agg λx hx=>za (h x hx)
  ·rw[bg,jf,jf] at h;exact .fn (λx hx=>za (h.1 x hx)) λx hx=>za (h.2 x hx)
  ·rw[bg,jf] at h;exact .lit (λx hx=>za (h.1 x hx)) h.2
  ·rw[bg,jf,bV] at h;rw[h.1];exact .gy λx hx=>za (h.2 x hx)
  grind
variable{f:Value->Option Value}
omit [QF] in
theorem KI:∀{xs us:List Value},BJ f xs=some us->us.length=xs.length/\∀(i:Nat)(u:Value),us[i]? =some u->∃x,xs[i]? =some x/\f x=some u
 |[],_,e=>by cases e;exact⟨rfl,λi u h=>by simp at h⟩
 |x::xs,_,e=>by
  obtain⟨u,h1,e⟩:=af e;obtain⟨us,h2,e⟩:=af e;cases e;obtain⟨a,b⟩:=KI h2;refine⟨by simp[a],λi y hy=>?_⟩;cases i with
  |zero=>grind
  |succ i=>grind
variable{h:Heap} {w:World} {ρ:Ren}
omit [QF] in
theorem abb(F:∀x u,f x=some u->kY h x u){xs us:List Value}(e:BJ f xs=some us){ys:List Value}(H:bh ρ h w)(r:bk ρ xs ys):aP (fw ρ h w) us ys:=by obtain⟨a,b⟩:=KI e;refine aP.qU (by rw[a,r.length]) λi u hu=>?_;obtain⟨x,hx,hf⟩:=b i u hu;obtain⟨y,hy,rx⟩:=r.get hx;exact⟨y,hy,F x u hf ρ w y H rx⟩
omit [QF] in
theorem SJ(F:∀x u,f x=some u->kY h x u)(H:bh ρ h w):∀{es:List (Value×Value)}{us:List Value}{es':List MapEntry},KG f es=some us->lQ ρ es es'->
 aP (fw ρ h w) us (es'.map λe=>.func (.func 0) #[e.key] #[e.val])
 |[],us,es',e,r=>by cases e;cases r;exact .nil
 |(k,v)::es,us,es',e,r=>by
  obtain⟨a,h1,e⟩:=af e;obtain⟨b,h2,e⟩:=af e;obtain⟨vs,h3,e⟩:=af e;cases e;cases r with
  |cons hk hv t=>exact .cons (.fn (.cons (F _ _ h1 ρ w _ H hk) .nil) (.cons (F _ _ h2 ρ w _ H hv) .nil)) (SJ F H h3 t)
omit [QF] in
theorem Ru{h:Heap}:∀(n:Nat)(v pv:Value),yA h n v=some pv->kY h v pv
 |0,_,_,e=>by cases e
 |n+1,v,pv,e=>by
  have ih:=Ru (h:=h) n;unfold yA at e;intro ρ w x H r;split at e
  ·cases e;cases r;exact .bool _
  ·cases e;cases r;exact .int _ _
  ·cases e;cases r;exact .str _
  ·obtain⟨us,h1,e⟩:=af e;cases e;cases r with
   |agg r=>exact .agg (abb ih h1 H r)
  ·rename_i o off len cap;obtain⟨obj,ho,e⟩:=af e;split at e
   ·rename_i vs t opn;obtain⟨e1,e⟩:=aT e;rw[bg] at e1;have e1:=cI e1.1;obtain⟨c,hc,e⟩:=af e;cases e;obtain⟨q1,q2⟩:=KI hc;have key:∀{L:Loc},ρ o=some L->∃ys,aP (fw ρ h w) c ys/\∀i y,ys[i]? =some y->fw ρ h w L.block (L.base+off+i)=some y:=λhL=>
     UW H ho hL e1 (by rw[q1,dZ]) λi u hu=>by grind
    cases r with
    |gG hL hcp hn=>obtain⟨ys,k1,k2⟩:=key hL;exact .gH k1 k2 rfl hn
    |gz hL hE hcp hn=>obtain⟨ys,k1,k2⟩:=key hL;exact .gH k1 k2 rfl hn
    |jb=>cases e1.2
   ·cases e
  ·rename_i o;obtain⟨obj,ho,e⟩:=af e;split at e
   ·rename_i es;obtain⟨us,h1,e⟩:=af e;cases e;cases r with
    |map hL=>obtain⟨M,m1,es',clock,m2,m3⟩:=H.obj o _ ho;cases m1.symm.trans hL;refine .gy (SJ ih H h1 m3) λi=>?_;unfold fw;rw[ar ⟨o,_,_,ho,hL,rfl⟩];unfold fc;rw[m2];rfl
   ·cases e
  ·cases e
def Mi(e:Nat×Nat×List Nat×Nat):Value:=.func (.func 0) #[.agg #[.int .i64 e.1,.int .i64 e.2.1]] #[.agg #[ae e.2.2.1.length (e.2.2.1.map λt=>.int .i64 (Int.ofNat t)),.int .i64 e.2.2.2]]
def zi(l:List (Nat×Nat×List Nat×Nat)):Value:=.func (.method "") ⟨l.map Mi⟩ #[]
def Gc(X:cJ)(f:FuncId):Nat->AM->Option (Value×Heap×Nat)
 |0,_=>none
 |n+1,m=>match qA X f m with
  |some v=>some (v,m.h,m.nx)
  |none=>ob (Jl X m) λm'=>cond (Nat.ble m.nx m'.nx) (Gc X f n m') none
variable{P:Program} {X:cJ}
omit [QF] in
theorem U3(OK:ea P X){f:FuncId}:∀{n:Nat}{m:AM}{r:Value×Heap×Nat},Gc X f n m=some r->∃m',cG P m m'/\m.nx<=m'.nx/\qA X f m'=some r.1 /\r.2 =(m'.h,m'.nx)
 |0,_,_,e=>by cases e
 |n+1,m,r,e=>by
  unfold Gc at e;split at e
  ·cases e;exact⟨m,cG.refl _ _,aB _,‹_›,rfl⟩
  ·obtain⟨m',h1,e⟩:=af e;obtain⟨h2,e⟩:=aT e;have h2:=cI h2;obtain⟨m2,S,l,d⟩:=U3 OK e;exact⟨m2,(X2 OK h1).trans S h2 l,eP h2 l,d⟩
omit [QF] in
theorem ZK(OK:ea P X){n:Nat}{g:FuncId}{pv:Value}
 (e:(ob (jn X.F g [] .normal) λfr=>ob (Gc X g n ⟨fr,[],.nil,0⟩) λr=>yA r.2.1 20 r.1)=some pv) (hp:(ur 20 pv&&bB [pv])=true):dI P g [] .v (some pv):=by
 intro ls r h lo us hu;obtain⟨fr,h0,e⟩:=af e;obtain⟨⟨v,h',nx'⟩,h1,h2⟩:=af e;obtain⟨m,S,l,d,q⟩:=U3 OK h1;cases q;rw[bg] at hp;cases ls with
 |cons _ _=>cases h
 |nil=>cases h;cases hu;refine⟨λx hx=>?_,pv,rfl,LF (by simp) (B8 OK h0 S d) (Ru _ _ _ h2)⟩;have hx:bo.v x∈[bo.v pv]:=hx;simp at hx;rw[hx];exact⟨za hp.1,hp.2⟩
end
end Lt
section
def gF(l:List UInt8):Nat:=l.foldl (λn b=>n*256+b.toNat) 0
def gm(l:List UInt8)(at_ size:Nat)(order:Int):List UInt8:=
 if order=1 then((l.drop at_).take size).reverse else(l.drop at_).take size
theorem E8(l:List UInt8)(b:UInt8):gF (l++[b])=gF l*256+b.toNat:=by unfold gF;rw[List.foldl_append];rfl
def Db(s:Int):Bool:=s==1||s==2||s==4
def fC(s o:Int):Bool:=Db s&&(o==1||o==2)
def oR(l:List UInt8)(at_ size order:Int):Option Int:=
 if fC size order=true/\0<=at_/\at_<=(l.length:Int) -size then some (gF (gm l at_.toNat size.toNat order)) else none
def fj(n:Nat):Nat->List UInt8
 |0=>[]
 |s+1=>fj (n/256) s++[UInt8.ofNat (n%256)]
theorem tK(s:Nat):∀n,(fj n s).length=s:=by
 induction s with
 |zero=>intro n;rfl
 |succ s ih=>intro n;simp[fj,ih]
def aU(n s:Nat)(order:Int):List UInt8:=if order=1 then(fj n s).reverse else fj n s
theorem eh(n s:Nat)(o:Int):(aU n s o).length=s:=by unfold aU;split<;>simp[tK]
variable{l:List UInt8}
theorem Bq{p s:Nat}{order:Int}(hs:s=1\/s=2\/s=4)(ho:order=1\/order=2)(hp:p+s<=l.length):oR l p s order=some (gF (gm l p s order):Int):=by unfold oR;rw[ar ⟨by rcases hs with rfl|rfl|rfl<;>rcases ho with rfl|rfl<;>rfl,by omega,by omega⟩];simp
def aD(n:Nat):Nat:=n+n%2
def oZ(n:Int)(s:Nat)(order:Int):Option (List UInt8):=if 0<=n/\n<((256^s:Nat):Int) then some (aU n.toNat s order) else none
def gS(l:List UInt8)(s m:Nat):List UInt8:=
 (List.range l.length).map λi=>if i<m then(l[i -i%s+(s -1 -i%s)]?).getD 0 else(l[i]?).getD 0
theorem qk(l:List UInt8)(s m:Nat):(gS l s m).length=l.length:=by simp[gS]
theorem Iv(l:List UInt8)(s m i:Nat)(h:i<l.length):(gS l s m)[i]? =some (if i<m then(l[i -i%s+(s -1 -i%s)]?).getD 0 else(l[i]?).getD 0):=by simp[gS,h]
def iM(l:List UInt8)(s:Nat)(order:Int):List UInt8:=if order=1 then gS l s l.length else l
theorem xc(l:List UInt8)(s:Nat)(o:Int):(iM l s o).length=l.length:=by unfold iM;split<;>simp[qk]
def kindOf(t:Int):Int×Int×Int:=
 if t=1\/t=2\/t=7 then(1,1,1) else if t=3 then(2,2,1) else if t=4 then(4,4,1) else if t=5 then(8,4,3) else if t=6 then(1,1,2) else if t=8 then(2,2,2)
 else if t=9 then(4,4,2) else if t=10 then(8,4,4) else if t=11 then(4,4,5) else if t=12 then(8,8,5) else(0,0,0)
def Bh(l:List UInt8):Bool:=(List.range l.length).all λi=>((l[i]?).getD 0==0)==(i+1==l.length)
def dW(ty au:Int)(l:List UInt8):Bool:=
 decide ((kindOf ty).1 ≠0/\1<=au/\au<=65536/\(l.length:Int)=au*(kindOf ty).1)&&(ty !=2||Bh l)
theorem EN{t:Int}(h:t<1\/12<t):kindOf t=(0,0,0):=by
 unfold kindOf
 repeat(rw[ai (by omega)])
theorem Ku(t:Int)(h:(kindOf t).1 ≠0):∃s m:Nat,(kindOf t).2.1 =(s:Int)/\(kindOf t).1 =((m*s:Nat):Int)/\(s=1\/s=2\/s=4\/s=8):=by
 by_cases o:t<1\/12<t
 ·rw[EN o] at h;exact absurd rfl h
 ·have hc:t=1\/t=2\/t=3\/t=4\/t=5\/t=6\/t=7\/t=8\/t=9\/t=10\/t=11\/t=12:=by omega
  rcases hc with rfl|rfl|rfl|rfl|rfl|rfl|rfl|rfl|rfl|rfl|rfl|rfl
  ·exact⟨1,1,rfl,rfl,by omega⟩
  ·exact⟨1,1,rfl,rfl,by omega⟩
  ·exact⟨2,1,rfl,rfl,by omega⟩
  ·exact⟨4,1,rfl,rfl,by omega⟩
  ·exact⟨4,2,rfl,rfl,by omega⟩
  ·exact⟨1,1,rfl,rfl,by omega⟩
  ·exact⟨1,1,rfl,rfl,by omega⟩
  ·exact⟨2,1,rfl,rfl,by omega⟩
  ·exact⟨4,1,rfl,rfl,by omega⟩
  ·exact⟨4,2,rfl,rfl,by omega⟩
  ·exact⟨4,1,rfl,rfl,by omega⟩
  ·exact⟨8,1,rfl,rfl,by omega⟩
theorem SS{ty au:Int}(h:dW ty au l=true):∃s q:Nat,(kindOf ty).2.1 =(s:Int)/\l.length=q*s/\(s=1\/s=2\/s=4\/s=8):=by
 unfold dW at h;rw[bg,bV] at h;obtain⟨⟨h1,h2,h3,h4⟩,-⟩:=h;obtain⟨s,m,e1,e2,e3⟩:=Ku ty h1;refine⟨s,au.toNat*m,e1,?_,e3⟩;rw[e2] at h4;have:(l.length:Int)=((au.toNat*m*s:Nat):Int):=by
  rw[h4,Nat.mul_assoc]
  push_cast
  rw[lM (by omega)]
 omega
end
section
theorem KX(s:Nat):∀n,n<256^s->gF (fj n s)=n:=by
 induction s with
 |zero=>intro n h;simp at h;subst h;rfl
 |succ s ih=>intro n h;show gF (fj (n/256) s++[UInt8.ofNat (n%256)])=n;rw[E8,ih (n/256) (by rw[Nat.pow_succ] at h;omega),xw];omega
theorem Un(pre l post:List UInt8)(s:Nat)(order:Int)(hl:l.length=s):gm (pre++(l++post)) pre.length s order=if order=1 then l.reverse else l:=by unfold gm;rw[List.drop_left,<-hl,List.take_left]
theorem aby(pre post:List UInt8)(n s:Nat)(order:Int)(h:n<256^s):gF (gm (pre++(aU n s order++post)) pre.length s order)=n:=by
 rw[Un _ _ _ _ _ (eh n s order)];unfold aU;split
 ·rw[List.reverse_reverse,KX s n h]
 ·exact KX s n h
theorem get_at(pre post:List UInt8)(n s:Nat)(order:Int)(hs:s=1\/s=2\/s=4)(ho:order=1\/order=2)(h:n<256^s):oR (pre++(aU n s order++post)) pre.length s order=some (n:Int):=by rw[Bq hs ho (by simp[eh]),aby _ _ _ _ _ h]
theorem KY:∀(l:List UInt8),gF l<256^l.length:=by
 intro l;induction h:l.length generalizing l with
 |zero=>rw[qu] at h;subst h;decide
 |succ k ih=>
  have ca:l≠[]:=by intro e;subst e;simp at h
  have e:=List.dropLast_concat_getLast ca;rw[<-e,E8];have:=ih l.dropLast (by simp[h]);have hb:=(l.getLast ca).toNat_lt;rw[Nat.pow_succ];omega
theorem P3:∀(k:Nat)(l:List UInt8),l.length=k->fj (gF l) k=l:=by
 intro k;induction k with
 |zero=>intro l h;rw[qu] at h;subst h;rfl
 |succ k ih=>
  intro l h;have ca:l≠[]:=by intro e;subst e;simp at h
  have e:=List.dropLast_concat_getLast ca;have hb:=(l.getLast ca).toNat_lt
  conv=>lhs;rw[<-e,E8]
  show fj ((gF l.dropLast*256+(l.getLast ca).toNat)/256) k++[UInt8.ofNat ((gF l.dropLast*256+(l.getLast ca).toNat)%256)]=l;have e1:(gF l.dropLast*256+(l.getLast ca).toNat)/256=gF l.dropLast:=by omega
  have e2:(gF l.dropLast*256+(l.getLast ca).toNat)%256=(l.getLast ca).toNat:=by omega
  rw[e1,e2,ih _ (by simp[h]),UInt8.ofNat_toNat];exact e
theorem aer(l:List UInt8)(s:Nat)(order:Int)(h:l.length=s):aU (gF (if order=1 then l.reverse else l)) s order=l:=by
 unfold aU;split
 ·rw[P3 s _ (by simp[h]),List.reverse_reverse]
 ·exact P3 s _ h
theorem aij{s n i:Nat}(hs:0<s)(hd:n%s=0)(hi:i<n):i -i%s+(s -1 -i%s)<n/\(i -i%s+(s -1 -i%s)) -(i -i%s+(s -1 -i%s))%s+(s -1 -(i -i%s+(s -1 -i%s))%s)=i:=by
 have hm:=Nat.mod_lt i hs;obtain⟨q,hq⟩:∃q,n=s*q:=⟨n/s,by have:=Nat.div_add_mod n s;omega⟩;have hdm:=Nat.div_add_mod i s;obtain⟨a,ha⟩:∃a,i/s=a:=⟨_,rfl⟩;obtain⟨r,hr⟩:∃r,i%s=r:=⟨_,rfl⟩;rw[ha,hr] at hdm;rw[hr] at hm;rw[hr];have hi':i=s*a+r:=by omega
 have haq:a<q:=by
  have:s*a<s*q:=by omega
  exact Nat.lt_of_mul_lt_mul_left this
 have hle:s*(a+1)<=s*q:=Aq s haq;rw[Nat.mul_add,gM] at hle;have e:i -r+(s -1 -r)=s*a+(s -1 -r):=by omega
 have e2:(s*a+(s -1 -r))%s=s -1 -r:=by rw[Nat.mul_add_mod,rI (by omega)]
 rw[e,e2];omega
theorem aik(l:List UInt8)(s:Nat)(order:Int)(hs:0<s)(hd:l.length%s=0):iM (iM l s order) s order=l:=by
 unfold iM;split
 ·apply s9;intro i;rcases dg i l.length with h|h
  ·obtain⟨h1,h2⟩:=aij hs hd h;rw[Iv _ _ _ _ (by rw[qk];exact h),qk,ar h,Iv _ _ _ _ h1,ar h1,h2,dD h];rfl
  ·rw[lN (by rw[qk,qk];exact h),lN h]
 ·rfl
def oW(ty au:Int)(b:List UInt8)(order:Int):Option (List UInt8):=
 if(kindOf ty).1 ≠0/\1<=au/\au<=65536/\au*(kindOf ty).1 <=(b.length:Int)/\dW ty au (iM (b.take (au*(kindOf ty).1).toNat) (kindOf ty).2.1.toNat order)=true then
  some (iM (b.take (au*(kindOf ty).1).toNat) (kindOf ty).2.1.toNat order) else none
variable{au ty:Int} {l:List UInt8}
theorem wu(h:dW ty au l=true):(kindOf ty).1 ≠0/\1<=au/\au<=65536/\(l.length:Int)=au*(kindOf ty).1 :=by unfold dW at h;rw[bg,bV] at h;exact h.1
theorem Td{order:Int}(h:dW ty au l=true)(post:List UInt8):oW ty au (iM l (kindOf ty).2.1.toNat order++post) order=some l:=by
 obtain⟨h1,h2,h3,h4⟩:=wu h;obtain⟨s,q,e1,e2,e3⟩:=SS h;have hs:(kindOf ty).2.1.toNat=s:=by rw[e1];simp
 have hn:(au*(kindOf ty).1).toNat=l.length:=by omega
 have ht:(iM l (kindOf ty).2.1.toNat order++post).take (au*(kindOf ty).1).toNat=iM l (kindOf ty).2.1.toNat order:=by
  rw[hn]
  conv=>lhs;rw[<-xc l (kindOf ty).2.1.toNat order]
  exact List.take_left
 have hb:iM (iM l (kindOf ty).2.1.toNat order) (kindOf ty).2.1.toNat order=l:=by rw[hs];exact aik l s order (by omega) (by rw[e2];exact Nat.mul_mod_left q s)
 unfold oW;rw[ht,hb,ar ⟨h1,h2,h3,by simp[xc];omega,h⟩]
end
structure aI where
 tag:Int
 ty:Int
 au:Int
 data:List UInt8
 deriving DecidableEq
mutual
inductive aO where
 |mk (tags:List aI) (subs:cF) (blob:List UInt8)
inductive cF where
 |nil
 |cons (tag:Int) (d:aO) (r:cF)
end
structure lR where
 order:Int
 eK:List aO
structure gU where
 tag:Int
 shape:Int
structure aV where
 bG:List gU
 at_:Int
 cA:Int
 next:Int
structure bf where
 tag:Int
 ty:Int
 au:Int
 slot:Nat
 deriving DecidableEq
structure bm where
 ny:Int
 dir:Int
 tag:Int
 at_:Nat
 cA:Nat
 deriving DecidableEq
def iW(ty au:Int):Int:=if au<1\/65536<au then 0 else au*(kindOf ty).1
def bY(ty au:Int):Nat:=if 4<iW ty au then(iW ty au).toNat else 0
def cm:cF->Nat
 | .nil=>0
 | .cons _ _ r=>cm r+1
def bF:aO->Nat
 | .mk tags subs blob=>tags.length+cm subs+(if blob.length=0 then 0 else 2)
def ck(e:Nat):List aI->Nat
 |[]=>e
 |t::ts=>if bY t.ty t.au=0 then ck e ts else ck (aD e+bY t.ty t.au) ts
mutual
def bq(e:Nat):aO->Nat
 | .mk tags subs blob=>
  if blob.length=0 then eu (ck (aD e+(6+12*bF (.mk tags subs blob))) tags) subs
  else aD (eu (ck (aD e+(6+12*bF (.mk tags subs blob))) tags) subs)+blob.length
def eu(e:Nat):cF->Nat
 | .nil=>e
 | .cons _ d r=>eu (bq e d) r
end
mutual
def dt:aO->Nat
 | .mk _ subs _=>ia subs+1
def ia:cF->Nat
 | .nil=>0
 | .cons _ d r=>dt d+ia r
end
def cX(no:Nat)(e:Nat):List aI->List bm
 |[]=>[]
 |t::ts=>if bY t.ty t.au=0 then cX no e ts else⟨3,no,t.tag,aD e,bY t.ty t.au⟩::cX no (aD e+bY t.ty t.au) ts
mutual
def fF(no:Nat)(e:Nat):aO->List bm
 | .mk tags subs blob=>
  ⟨2,no,0,aD e,6+12*bF (.mk tags subs blob)⟩::
   (cX no (aD e+(6+12*bF (.mk tags subs blob))) tags++
    (jU (no+1) (ck (aD e+(6+12*bF (.mk tags subs blob))) tags) subs++
     (if blob.length=0 then[] else[⟨4,no,0,aD (eu (ck (aD e+(6+12*bF (.mk tags subs blob))) tags) subs),blob.length⟩])))
def jU(no:Nat)(e:Nat):cF->List bm
 | .nil=>[]
 | .cons _ d r=>fF no e d++jU (no+dt d) (bq e d) r
end
def kA(order:Int)(t:aI):List UInt8:=iM t.data (kindOf t.ty).2.1.toNat order
def oT(order:Int)(t:aI):Nat:=gF (gm (kA order t++List.replicate (4 -t.data.length) 0) 0 4 order)
def ew(order:Int)(e:Nat):List aI->List bf
 |[]=>[]
 |t::ts=>if bY t.ty t.au=0 then⟨t.tag,t.ty,t.au,oT order t⟩::ew order e ts else⟨t.tag,t.ty,t.au,aD e⟩::ew order (aD e+bY t.ty t.au) ts
def ig(e:Nat):cF->List bf
 | .nil=>[]
 | .cons tag d r=>⟨tag,4,1,aD e⟩::ig (bq e d) r
def gO(S:aV)(e:Nat)(blob:List UInt8):List bf:=
 if blob.length=0 then[] else[⟨S.at_,4,1,aD e⟩,⟨S.cA,4,1,blob.length⟩]
def jC(x:bf):List bf->List bf
 |[]=>[x]
 |y::l=>if x.tag<=y.tag then x::y::l else y::jC x l
def gk:List bf->List bf
 |[]=>[]
 |x::l=>jC x (gk l)
def iz(order:Int)(x:bf):List UInt8:=aU x.tag.toNat 2 order++(aU x.ty.toNat 2 order++(aU x.au.toNat 4 order++aU x.slot 4 order))
def kJ(order:Int)(l:List bf)(next:Nat):List UInt8:=aU l.length 2 order++(l.flatMap (iz order)++aU next 4 order)
def dQ(e:Nat):List UInt8:=if e%2=0 then[] else[0]
def gp(order:Int)(e:Nat):List aI->List UInt8
 |[]=>[]
 |t::ts=>if bY t.ty t.au=0 then gp order e ts else dQ e++(kA order t++gp order (aD e+bY t.ty t.au) ts)
def S9:aV:=⟨[],0,0,-1⟩
def aJ(sh:List aV)(s:Nat):aV:=(sh[s]?).getD S9
def kM(S:aV)(tag:Int):Option Nat:=(S.bG.find? λx=>x.tag==tag).map λx=>x.shape.toNat
mutual
def iS(order:Int)(sh:List aV)(s:Nat)(next:Nat)(e:Nat):aO->List UInt8
 | .mk tags subs blob=>
  dQ e++(kJ order (gk (ew order (aD e+(6+12*bF (.mk tags subs blob))) tags++
   (ig (ck (aD e+(6+12*bF (.mk tags subs blob))) tags) subs++
    gO (aJ sh s) (eu (ck (aD e+(6+12*bF (.mk tags subs blob))) tags) subs) blob))) next++
   (gp order (aD e+(6+12*bF (.mk tags subs blob))) tags++
    (jR order sh (aJ sh s) (ck (aD e+(6+12*bF (.mk tags subs blob))) tags) subs++
     (if blob.length=0 then[] else dQ (eu (ck (aD e+(6+12*bF (.mk tags subs blob))) tags) subs)++blob))))
def jR(order:Int)(sh:List aV)(S:aV)(e:Nat):cF->List UInt8
 | .nil=>[]
 | .cons tag d r=>iS order sh ((kM S tag).getD 0) 0 e d++jR order sh S (bq e d) r
end
def fD:List aI->Bool
 |[]=>true
 |[_]=>true
 |a::b::l=>decide (a.tag<b.tag)&&fD (b::l)
def kx:cF->List Int
 | .nil=>[]
 | .cons tag _ r=>tag::kx r
def nh:List Int->Bool
 |[]=>true
 |[_]=>true
 |a::b::l=>decide (a<b)&&nh (b::l)
def eZ(S:aV)(tag:Int):Bool:=decide (S.at_≠0)&&(decide (tag=S.at_)||decide (tag=S.cA))
def eS(S:aV)(tag:Int):Bool:=S.bG.any λx=>x.tag==tag
def ej(S:aV)(tag:Int):Bool:=eS S tag||eZ S tag
def my(tag:Int):Bool:=decide (0<=tag/\tag<65536)
def jI(S:aV)(tags:List aI):Bool:=fD tags&&tags.all λt=>my t.tag&&(!ej S t.tag&&dW t.ty t.au t.data)
mutual
def cK(sh:List aV)(s:Nat):aO->Bool
 | .mk tags subs blob=>decide (1<=bF (.mk tags subs blob)/\bF (.mk tags subs blob)<=65535)&&(jI (aJ sh s) tags&&
  ((decide (blob.length=0)||decide ((aJ sh s).at_≠0))&&(nh (kx subs)&&iB sh (aJ sh s) subs)))
def iB(sh:List aV)(S:aV):cF->Bool
 | .nil=>true
 | .cons tag d r=>eS S tag&&(cK sh ((kM S tag).getD 0) d&&iB sh S r)
end
theorem mQ(e:Nat):e<=aD e:=by unfold aD;omega
theorem JO(e:Nat):aD e%2=0:=by unfold aD;omega
theorem p9(e:Nat):e+(dQ e).length=aD e:=by unfold dQ aD;split<;>simp<;>omega
theorem qJ:∀(ts:List aI)(e:Nat),e<=ck e ts
 |[],e=>aB _
 |t::ts,e=>by
  unfold ck;split
  ·exact qJ ts e
  ·have:=qJ ts (aD e+bY t.ty t.au);have:=mQ e;omega
mutual
theorem Bf:∀(d:aO)(e:Nat),e<=bq e d
 | .mk tags subs blob,e=>by
  unfold bq;have h1:=mQ e;have h2:=qJ tags (aD e+(6+12*bF (.mk tags subs blob)));have h3:=tS subs (ck (aD e+(6+12*bF (.mk tags subs blob))) tags);have h4:=mQ (eu (ck (aD e+(6+12*bF (.mk tags subs blob))) tags) subs)
  grind
theorem tS:∀(r:cF)(e:Nat),e<=eu e r
 | .nil,e=>by unfold eu;exact aB _
 | .cons _ d r,e=>by unfold eu;have h1:=Bf d e;have h2:=tS r (bq e d);omega
end
theorem RV(x:bf):∀l,(jC x l).length=l.length+1
 |[]=>rfl
 |y::l=>by unfold jC;split<;>simp[RV x l]
theorem Bv:∀l,(gk l).length=l.length
 |[]=>rfl
 |x::l=>by rw[gk,RV,Bv l];rfl
theorem tT(order:Int):∀(ts:List aI)(e:Nat),(ew order e ts).length=ts.length
 |[],_=>rfl
 |t::ts,e=>by unfold ew;split<;>simp[tT order ts]
theorem Bj:∀(r:cF)(e:Nat),(ig e r).length=cm r
 | .nil,_=>rfl
 | .cons _ d r,e=>by unfold ig cm;simp[Bj r]
theorem Ek(S:aV)(e:Nat)(blob:List UInt8):(gO S e blob).length=if blob.length=0 then 0 else 2:=by unfold gO;split<;>rfl
theorem JE(order:Int)(x:bf):(iz order x).length=12:=by simp[iz,eh]
theorem yl(order:Int):∀l:List bf,(l.flatMap (iz order)).length=12*l.length
 |[]=>rfl
 |x::l=>by rw[ff,aR,JE,yl order l,cQ];omega
theorem QI(order:Int)(l:List bf)(next:Nat):(kJ order l next).length=6+12*l.length:=by unfold kJ;rw[aR,aR,eh,yl,eh];omega
theorem yX{t:aI}(h:dW t.ty t.au t.data=true):bY t.ty t.au=if t.data.length<=4 then 0 else t.data.length:=by
 obtain⟨h1,h2,h3,h4⟩:=wu h;have hl:iW t.ty t.au=(t.data.length:Int):=by unfold iW;rw[ai (by omega),h4]
 unfold bY
 grind
theorem Aj(order:Int)(t:aI):(kA order t).length=t.data.length:=xc _ _ _
theorem Iz(order:Int):∀(ts:List aI)(e:Nat),(∀t∈ts,dW t.ty t.au t.data=true)->e+(gp order e ts).length=ck e ts
 |[],e,_=>rfl
 |t::ts,e,h=>by
  have ih:=λe=>Iz order ts e λt ht=>h t (by grind);unfold gp ck;split
  ·grind
  ·rename_i hn;have:=ih (aD e+bY t.ty t.au);have hp:=p9 e;rw[aR,aR,Aj];have:bY t.ty t.au=t.data.length:=by rw[(yX (h t (by simp)))] at hn⊢;split<;>simp_all
   omega
mutual
theorem tL(order:Int)(sh:List aV):∀(d:aO)(s next e:Nat),cK sh s d=true->e+(iS order sh s next e d).length=bq e d
 | .mk tags subs blob,s,next,e,h=>by
  simp[cK,jI] at h;obtain⟨h1,⟨h2,h3⟩,h4,h5,h6⟩:=h;have hp:=p9 e;have hv:=Iz order tags (aD e+(6+12*bF (.mk tags subs blob))) λt ht=>(h3 t ht).2.2;have hs:=Jq order sh subs (aJ sh s) (ck (aD e+(6+12*bF (.mk tags subs blob))) tags) h6;have hb:=p9 (eu (ck (aD e+(6+12*bF (.mk tags subs blob))) tags) subs);have hn:(gk (ew order (aD e+(6+12*bF (.mk tags subs blob))) tags++(ig (ck (aD e+(6+12*bF (.mk tags subs blob))) tags) subs++
   gO (aJ sh s) (eu (ck (aD e+(6+12*bF (.mk tags subs blob))) tags) subs) blob))).length=bF (.mk tags subs blob):=by
   rw[Bv,aR,aR,tT,Bj,Ek];show _=tags.length+cm subs+(if blob.length=0 then 0 else 2);omega
  unfold iS bq;rw[aR,aR,QI,hn];split<;>grind
theorem Jq(order:Int)(sh:List aV):∀(r:cF)(S:aV)(e:Nat),iB sh S r=true->e+(jR order sh S e r).length=eu e r
 | .nil,S,e,_=>rfl
 | .cons tag d r,S,e,h=>by simp[iB] at h;have h1:=tL order sh d ((kM S tag).getD 0) 0 e h.2.1;have h2:=Jq order sh r S (bq e d) h.2.2;unfold jR eu;rw[aR];omega
end
section
theorem EJ(x y:bf)(l:List bf):jC x (y::l)=if x.tag<=y.tag then x::y::l else y::jC x l:=rfl
variable{x y:bf}
theorem Ko:∀{l:List bf},y∈jC x l↔y=x\/y∈l
 |[]=>by simp[jC]
 |z::l=>by
  unfold jC;split
  ·simp
  ·simp[Ko]
   grind
theorem yI:∀{l:List bf},y∈gk l↔y∈l
 |[]=>by simp[gk]
 |x::l=>by rw[gk,Ko,yI];simp
def Up:List bf->Prop
 |[]=>True
 |x::l=>(∀y∈l,x.tag<=y.tag)/\Up l
theorem RY(x:bf):∀{l:List bf},Up l->Up (jC x l)
 |[],_=>⟨λy h=>(by grind),trivial⟩
 |z::l,h=>by
  unfold jC;split
  ·rename_i hz;refine⟨λy hy=>?_,h⟩;rcases cj.1 hy with rfl|hy
   ·grind
   ·have:=h.1 y hy;omega
  ·rename_i hz;refine⟨λy hy=>?_,RY x h.2⟩;rcases Ko.1 hy with rfl|hy
   ·omega
   ·exact h.1 y hy
theorem Sj:∀l:List bf,Up (gk l)
 |[]=>trivial
 |x::l=>RY x (Sj l)
def eA:List bf->Bool
 |[]=>true
 |[_]=>true
 |a::b::l=>decide (a.tag<b.tag)&&eA (b::l)
theorem RU:∀{l:List bf},(∀y∈l,x.tag<=y.tag)->jC x l=x::l
 |[],_=>rfl
 |z::l,h=>by unfold jC;rw[ar (h z (by simp))]
theorem Md:∀{l:List bf},eA l=true->Up l
 |[],_=>trivial
 |[x],_=>⟨λy h=>(by grind),trivial⟩
 |a::b::l,h=>by
  simp[eA] at h;have ih:=Md h.2;refine⟨λy hy=>?_,ih⟩;rcases cj.1 hy with rfl|hy
  ·omega
  ·have:=ih.1 y hy;omega
theorem EM:∀{l:List bf},eA l=true->gk l=l
 |[],_=>rfl
 |x::l,h=>by
  have hl:eA l=true:=by
   cases l with
   |nil=>rfl
   |cons b l=>simp[eA] at h;exact h.2
  rw[gk,EM hl,RU (Md h).1]
theorem Rf(p:bf->Bool)(x:bf):∀{l:List bf},Up l->(jC x l).filter p=if p x=true then jC x (l.filter p) else l.filter p
 |[],_=>by show[x].filter p=_;rw[jK];rfl
 |z::l,h=>by
  rw[EJ];by_cases hz:x.tag<=z.tag
  ·rw[ar hz,jK];split
   ·rw[RU];intro y hy;have hy':=(oE.1 hy).1;rcases cj.1 hy' with rfl|hy'
    ·exact hz
    ·have:=h.1 y hy';omega
   ·rfl
  ·rw[ai hz,jK,(Rf p x h.2)];by_cases hx:p x=true
   ·rw[jK];split
    ·rw[EJ,ai hz]
    ·rfl
   ·rw[ai hx,ai hx,jK]
theorem Es(p:bf->Bool):∀l:List bf,(gk l).filter p=gk (l.filter p)
 |[]=>rfl
 |x::l=>by rw[gk,Rf p x (Sj l),Es p l,jK];split<;>rfl
theorem RX{x:bf}:∀{l:List bf},eA l=true->(∀y∈l,y.tag≠x.tag)->eA (jC x l)=true
 |[],_,_=>rfl
 |[z],_,hn=>by
  have:=hn z (by simp)
  unfold jC
  split
  ·simp[eA];omega
  ·simp[jC,eA];omega
 |z::z'::l,h,hn=>by
  have h0:=hn z (by simp)
  simp[eA] at h
  have ih:=RX (x:=x) h.2 λy hy=>hn y (by simp[hy])
  rw[EJ]
  split
  ·simp[eA];exact⟨by omega,h⟩
  ·rw[EJ] at ih⊢
   split
   ·rename_i hz hz'
    rw[ar hz'] at ih
    simp[eA] at ih⊢
    exact⟨by omega,ih⟩
   ·rename_i hz hz'
    rw[ai hz'] at ih
    simp[eA]
    exact⟨h.1,ih⟩
def nD:List bf->Prop
 |[]=>True
 |x::l=>(∀y∈l,y.tag≠x.tag)/\nD l
theorem Kr:∀{l:List bf},nD l->eA (gk l)=true
 |[],_=>rfl
 |x::l,h=>by exact RX (Kr h.2) λy hy=>h.1 y (yI.1 hy)
theorem AN:∀{l:List bf},eA l=true->nD l
 |[],_=>trivial
 |[x],_=>⟨λy h=>(by grind),trivial⟩
 |a::b::l,h=>by
  simp[eA] at h;refine⟨λy hy=>?_,AN h.2⟩;have:=(Md h.2).1
  grind
theorem Jh:∀{l k:List bf},nD l->nD k->(∀x∈l,∀y∈k,y.tag≠x.tag)->nD (l++k)
 |[],k,_,hk,_=>hk
 |x::l,k,hl,hk,h=>by
  refine⟨λy hy=>?_,Jh hl.2 hk λx hx=>h x (by grind)⟩;rcases eM.1 hy with hy|hy
  ·exact hl.1 y hy
  grind
def cn(b:List UInt8)(p s:Nat)(order:Int):Nat:=((oR b p s order).getD 0).toNat
variable{b post pre:List UInt8} {order:Int} {p:Nat}
theorem oo{n s:Nat}(e:b=pre++(aU n s order++post))(hp:p=pre.length)(hs:s=1\/s=2\/s=4)(ho:order=1\/order=2)(h:n<256^s):cn b p s order=n:=by unfold cn;rw[e,hp,get_at _ _ _ _ _ hs ho h];simp
def Bi(b:List UInt8)(p:Nat)(order:Int):bf:=⟨cn b p 2 order,cn b (p+2) 2 order,cn b (p+4) 4 order,cn b (p+8) 4 order⟩
structure nE(x:bf):Prop where
 tag:0<=x.tag/\x.tag<65536
 ty:0<=x.ty/\x.ty<65536
 au:0<=x.au/\x.au<4294967296
 slot:x.slot<4294967296
theorem Zd(e:b=pre++(iz order x++post))(hp:p=pre.length)(ho:order=1\/order=2)(h:nE x):Bi b p order=x:=by
 have e0:b=pre++(aU x.tag.toNat 2 order++(aU x.ty.toNat 2 order++(aU x.au.toNat 4 order++(aU x.slot 4 order++post)))):=by rw[e];simp[iz]
 have e1:b=(pre++aU x.tag.toNat 2 order)++(aU x.ty.toNat 2 order++(aU x.au.toNat 4 order++(aU x.slot 4 order++post))):=by rw[e0];simp
 have e2:b=(pre++aU x.tag.toNat 2 order++aU x.ty.toNat 2 order)++(aU x.au.toNat 4 order++(aU x.slot 4 order++post)):=by rw[e0];simp
 have e3:b=(pre++aU x.tag.toNat 2 order++aU x.ty.toNat 2 order++aU x.au.toNat 4 order)++(aU x.slot 4 order++post):=by rw[e0];simp
 unfold Bi;rw[(oo e0 hp (.inr (.inl rfl)) ho (by have:=h.tag;omega)),(oo (p:=p+2) e1 (by simp[eh,hp]) (.inr (.inl rfl)) ho (by have:=h.ty;omega)),(oo (p:=p+4) e2 (by simp[eh,hp]) (.inr (.inr rfl)) ho (by have:=h.au;omega)),(oo (p:=p+8) e3 (by simp[eh,hp]) (.inr (.inr rfl)) ho h.slot)];rw[lM h.tag.1,lM h.ty.1,lM h.au.1]
def jy(b:List UInt8)(order:Int):Nat->Nat->List bf
 |_,0=>[]
 |p,n+1=>Bi b p order::jy b order (p+12) n
theorem Q0(ho:order=1\/order=2):∀(l:List bf)(pre post:List UInt8)(p:Nat),b=pre++(l.flatMap (iz order)++post)->p=pre.length->(∀x∈l,nE x)->jy b order p l.length=l
 |[],_,_,_,_,_,_=>rfl
 |x::l,pre,post,p,e,hp,h=>by
  rw[ff,dY] at e;rw[cQ,jy,Zd e hp ho (h x (by simp))]
  congr 1
  refine Q0 ho l (pre++iz order x) post (p+12) (by grind) (by simp[JE,hp]) λy hy=>h y (by grind)
def D5(S:List bm)(at_ cA:Nat):Bool:=S.any λs=>decide (max at_ s.at_<min (at_+cA) (s.at_+s.cA))
def ky(L:Nat)(S:List bm)(x:bm):Except Int (List bm):=
 if x.at_%2=0/\x.at_+x.cA<=L then(if D5 S x.at_ x.cA=true then .error 5 else .ok (S++[x])) else .error 4
def kX(S:List bm)(e:Nat):Prop:=∀x∈S,x.at_+x.cA<=e
variable{S:List bm} {e:Nat}
theorem O0{L:Nat}{x:bm}(hS:kX S e)(he:e<=x.at_)(h1:x.at_%2=0)(h2:x.at_+x.cA<=L):ky L S x=.ok (S++[x]):=by
 have hc:D5 S x.at_ x.cA=false:=by
  unfold D5;rw[List.any_eq_false];intro s hs;have:=hS s hs
  grind
 unfold ky
 grind
variable{e':Nat}
theorem kX.add(h:kX S e){x:bm}(h1:e<=e')(h2:x.at_+x.cA<=e'):kX (S++[x]) e':=by
 intro y hy;rcases eM.1 hy with hy|hy
 ·have:=h y hy;omega
 grind
theorem kX.mono(h:kX S e)(h1:e<=e'):kX S e':=λx hx=>eP (h x hx) h1
def sD(b:List UInt8)(order:Int)(no:Nat)(S:List bm)(x:bf):Except Int (aI×List bm):=
 if(kindOf x.ty).1 =0\/x.au<1\/65536<x.au then .error 6
 else if bY x.ty x.au=0 then
  match oW x.ty x.au (aU x.slot 4 order) order with
  |some d=>.ok (⟨x.tag,x.ty,x.au,d⟩,S)
  |none=>.error 6
 else match ky b.length S ⟨3,no,x.tag,x.slot,bY x.ty x.au⟩ with
  | .error e=>.error e
  | .ok S'=>match oW x.ty x.au (b.drop x.slot) order with
   |some d=>.ok (⟨x.tag,x.ty,x.au,d⟩,S')
   |none=>.error 6
def jF(own:Int->Bool)(b:List UInt8)(order:Int)(no:Nat):List bf->List bm->Except Int (List aI×List bm)
 |[],S=>.ok ([],S)
 |x::xs,S=>
  if own x.tag=true then(if x.ty=4/\x.au=1 then jF own b order no xs S else .error 6)
  else match sD b order no S x with
   | .error e=>.error e
   | .ok (t,S1)=>match jF own b order no xs S1 with
    | .error e=>.error e
    | .ok (ts,S2)=>.ok (t::ts,S2)
def lI(rd:Nat->Nat->Nat->List bm->Except Int (aO×Nat×Nat×List bm))(S:aV):List bf->Nat->List bm->Except Int (cF×Nat×List bm)
 |[],no,Sp=>.ok (.nil,no,Sp)
 |x::xs,no,Sp=>match rd x.slot ((kM S x.tag).getD 0) no Sp with
  | .error e=>.error e
  | .ok (d,next,no1,S1)=>if next≠0 then .error 2 else match lI rd S xs no1 S1 with
   | .error e=>.error e
   | .ok (r,no2,S2)=>.ok (.cons x.tag d r,no2,S2)
def jS(b:List UInt8)(order:Int)(sh:List aV):Nat->Nat->Nat->Nat->List bm->Except Int (aO×Nat×Nat×List bm)
 |0,_,_,_,_=>.error 0
 |f+1,at_,s,no,Sp=>
  if at_%2=0/\at_+2<=b.length then
   if cn b at_ 2 order=0 then .error 2
   else match ky b.length Sp ⟨2,no,0,at_,6+12*cn b at_ 2 order⟩ with
    | .error e=>.error e
    | .ok S1=>
     if eA (jy b order (at_+2) (cn b at_ 2 order))=true then
      match jF (ej (aJ sh s)) b order no (jy b order (at_+2) (cn b at_ 2 order)) S1 with
      | .error e=>.error e
      | .ok (tags,S2)=>
       if((jy b order (at_+2) (cn b at_ 2 order)).filter λx=>eZ (aJ sh s) x.tag).length=1 then .error 6
       else match lI (jS b order sh f) (aJ sh s) ((jy b order (at_+2) (cn b at_ 2 order)).filter λx=>eS (aJ sh s) x.tag) (no+1) S2 with
        | .error e=>.error e
        | .ok (subs,no',S3)=>
         match(jy b order (at_+2) (cn b at_ 2 order)).filter λx=>eZ (aJ sh s) x.tag with
         |[p,q]=>
          if q.slot=0 then .error 6
          else match ky b.length S3 ⟨4,no,0,p.slot,q.slot⟩ with
           | .error e=>.error e
           | .ok S4=>.ok (.mk tags subs ((b.drop p.slot).take q.slot),cn b (at_+2+12*cn b at_ 2 order) 4 order,no',S4)
         |_=>.ok (.mk tags subs [],cn b (at_+2+12*cn b at_ 2 order) 4 order,no',S3)
     else .error 2
  else .error 4
theorem UG{own:Int->Bool}{b:List UInt8}{order:Int}{no:Nat}:∀(l:List bf)(S:List bm),(∀x∈l,own x.tag=true->x.ty=4/\x.au=1)->jF own b order no l S=jF (λ_=>false) b order no (l.filter λx=>!own x.tag) S
 |[],S,_=>rfl
 |x::xs,S,h=>by
  have ih:=λS=>UG (b:=b) (order:=order) (no:=no) xs S λy hy=>h y (by grind)
  rw[jK]
  by_cases hx:own x.tag=true
  ·rw[ai (by grind),jF,ar hx,ar (h x (by simp) hx),ih]
  ·rw[ar (by grind),jF,jF]
   simp_all
theorem aah{t:aI}(hm:dW t.ty t.au t.data=true)(ho:bY t.ty t.au=0):oW t.ty t.au (aU (oT order t) 4 order) order=some t.data:=by
 have hl:t.data.length<=4:=by
  have:=yX hm;rw[ho] at this;split at this
  ·assumption
  ·omega
 have hlen:(kA order t++List.replicate (4 -t.data.length) (0:UInt8)).length=4:=by rw[aR,Aj,uX];omega
 have e:aU (oT order t) 4 order=kA order t++List.replicate (4 -t.data.length) (0:UInt8):=by unfold oT;have:=Un [] (kA order t++List.replicate (4 -t.data.length) (0:UInt8)) [] 4 order hlen;simp only[iF,eH,List.length_nil] at this;rw[this];exact aer _ 4 order hlen
 rw[e];unfold kA;exact Td hm _
theorem LV{b:List UInt8}{order:Int}{no:Nat}:∀(ts:List aI)(pre post:List UInt8)(e:Nat)(S:List bm),(∀t∈ts,dW t.ty t.au t.data=true)->b=pre++(gp order e ts++post)->pre.length=e->kX S e->
 jF (λ_=>false) b order no (ew order e ts) S=.ok (ts,S++cX no e ts)/\kX (S++cX no e ts) (ck e ts)
 |[],pre,post,e,S,_,_,_,hS=>by
  refine⟨by simp[ew,jF,cX],?_⟩
  unfold ck cX
  simpa using hS
 |t::ts,pre,post,e,S,hm,hb,hp,hS=>by
  have hmt:=hm t (by simp)
  have hms:∀t∈ts,dW t.ty t.au t.data=true:=λt ht=>hm t (by simp[ht])
  obtain⟨k1,k2,k3,k4⟩:=wu hmt
  by_cases ho:bY t.ty t.au=0
  ·have hb':b=pre++(gp order e ts++post):=by rw[hb,gp,ar ho]
   obtain⟨i1,i2⟩:=LV ts pre post e S hms hb' hp hS
   have hv:sD b order no S ⟨t.tag,t.ty,t.au,oT order t⟩=.ok (t,S):=by
    unfold sD
    rw[ai (by simp only;omega),ar ho]
    simp only[aah hmt ho]
   refine⟨?_,by rw[cX,ar ho,ck,ar ho];exact i2⟩
   rw[ew,ar ho,jF,ai (by simp),cX,ar ho]
   simp_all
  ·have hb':b=pre++(dQ e++(kA order t++(gp order (aD e+bY t.ty t.au) ts++post))):=by rw[hb,gp,ai ho];simp
   have hpe:pre.length+(dQ e).length=aD e:=by rw[hp];exact p9 e
   have hol:bY t.ty t.au=t.data.length:=by have:=yX hmt;rw[this] at ho⊢;split<;>simp_all
   have htk:ky b.length S ⟨3,no,t.tag,aD e,bY t.ty t.au⟩=.ok (S++[⟨3,no,t.tag,aD e,bY t.ty t.au⟩]):=O0 hS (mQ e) (JO e) (by rw[hb'];simp only[aR,Aj];omega)
   have hd:b.drop (aD e)=kA order t++(gp order (aD e+bY t.ty t.au) ts++post):=by
    have:b=(pre++dQ e)++(kA order t++(gp order (aD e+bY t.ty t.au) ts++post)):=by rw[hb'];simp
    rw[this,<-hpe,<-aR,List.drop_left]
   have hv:sD b order no S ⟨t.tag,t.ty,t.au,aD e⟩=.ok (t,S++[⟨3,no,t.tag,aD e,bY t.ty t.au⟩]):=by
    unfold sD
    rw[ai (by simp only;omega),ai ho]
    simp_all
    unfold kA
    rw[Td hmt]
   have hS1:kX (S++[⟨3,no,t.tag,aD e,bY t.ty t.au⟩]) (aD e+bY t.ty t.au):=hS.add (by have:=mQ e;omega) (aB _)
   obtain⟨i1,i2⟩:=LV (b:=b) (order:=order) (no:=no) ts (pre++(dQ e++kA order t)) post (aD e+bY t.ty t.au) _ hms (by rw[hb'];simp) (by simp[Aj];omega) hS1
   refine⟨?_,by rw[cX,ai ho,ck,ai ho];simpa using i2⟩
   rw[ew,ai ho,jF,hv,cX,ai ho]
   simp only[i1]
   simp
end
section
variable{order:Int} {x:bf}
theorem KK:∀{ts:List aI}{e:Nat},x∈ew order e ts->∃t∈ts,x.tag=t.tag/\x.ty=t.ty/\x.au=t.au
 |[],e,h=>by cases h
 |t::ts,e,h=>by
  unfold ew at h;split at h
  ·rcases cj.1 h with rfl|h
   ·simp
   ·obtain⟨u,hu,r⟩:=KK h
    grind
  ·rcases cj.1 h with rfl|h
   ·simp
   ·obtain⟨u,hu,r⟩:=KK h
    grind
theorem SU:∀{r:cF}{e:Nat},x∈ig e r->x.tag∈kx r/\x.ty=4/\x.au=1
 | .nil,e,h=>by unfold ig at h;cases h
 | .cons tag d r,e,h=>by
  unfold kx;rcases cj.1 h with rfl|h
  ·simp
  ·obtain⟨h1,h2⟩:=SU h
   grind
theorem QZ{order:Int}:∀{ts:List aI}{e:Nat},fD ts=true->eA (ew order e ts)=true
 |[],e,_=>rfl
 |[t],e,_=>by unfold ew;split<;>rfl
 |t::u::ts,e,h=>by
  simp[fD] at h;have key:∀(x:bf)(e':Nat),x.tag=t.tag->eA (x::ew order e' (u::ts))=true:=by
   intro x e' hx;have ih:=QZ (order:=order) (e:=e') h.2;rw[ew] at ih⊢;split at ih
   ·rename_i ho;rw[ar ho];simp[eA];exact⟨by rw[hx];exact h.1,ih⟩
   ·rename_i ho;rw[ai ho];simp[eA];exact⟨by rw[hx];exact h.1,ih⟩
  rw[ew];split<;>grind
theorem QY:∀{r:cF}{e:Nat},nh (kx r)=true->eA (ig e r)=true
 | .nil,e,_=>rfl
 | .cons tag d .nil,e,_=>rfl
 | .cons tag d (.cons tag' d' r),e,h=>by simp[kx,nh] at h;have ih:=QY (r:=.cons tag' d' r) (e:=bq e d) (by simp only[kx];exact h.2);simp[ig,eA] at ih⊢;simp_all
structure vi(S:aV):Prop where
 bG:∀x∈S.bG,0<=x.tag/\x.tag<65536/\eZ S x.tag=false
 pair:S.at_≠0->1<=S.at_/\S.at_<S.cA/\S.cA<65536
variable{S:aV} {blob:List UInt8} {e:Nat}
theorem Ze(hS:vi S)(h:blob.length=0\/S.at_≠0):eA (gO S e blob)=true:=by
 unfold gO;split
 ·rfl
 ·have:=hS.pair (h.resolve_left (by grind));simp[eA];omega
theorem abj(h:blob.length=0\/S.at_≠0)(hx:x∈gO S e blob):eZ S x.tag=true/\x.ty=4/\x.au=1:=by
 unfold gO at hx;split at hx
 ·grind
 ·have:=h.resolve_left (by grind);simp_all;rcases hx with rfl|rfl<;>simp[eZ,this]
theorem KA{tag:Int}(h:eS S tag=true):∃x∈S.bG,x.tag=tag:=by
 unfold eS at h
 grind
variable{sh:List aV}
theorem EE:∀{r:cF},iB sh S r=true->∀tag∈kx r,eS S tag=true
 | .nil,_,tag,h=>by unfold kx at h;cases h
 | .cons t d r,h,tag,ht=>by
  simp[iB] at h;simp[kx] at ht;rcases ht with rfl|ht
  ·grind
  ·exact EE h.2.2 tag ht
theorem Qs(hS:vi S){tags:List aI}{subs:cF}{e1 e2 e3:Nat}(ht:jI S tags=true)(hb:blob.length=0\/S.at_≠0)(hr:nh (kx subs)=true)(hs:iB sh S subs=true){E:List bf}
 (hE:E=gk (ew order e1 tags++(ig e2 subs++gO S e3 blob))):
 eA E=true/\(E.filter λx=>!ej S x.tag)=ew order e1 tags/\(E.filter λx=>eS S x.tag)=ig e2 subs/\(E.filter λx=>eZ S x.tag)=gO S e3 blob/\(∀x∈E,ej S x.tag=true->x.ty=4/\x.au=1):=by
 simp[jI] at ht;have lV:∀x∈ew order e1 tags,ej S x.tag=false:=λx hx=>by obtain⟨t,h1,h2,_⟩:=KK hx;rw[h2];exact(ht.2 t h1).2.1
 have lS:∀x∈ig e2 subs,eS S x.tag=true/\eZ S x.tag=false/\x.ty=4/\x.au=1:=λx hx=>by obtain⟨h1,h2⟩:=SU hx;have hl:=EE hs _ h1;obtain⟨y,y1,y2⟩:=KA hl;exact⟨hl,by rw[<-y2];exact(hS.bG y y1).2.2,h2⟩
 have lB:∀x∈gO S e3 blob,eS S x.tag=false/\eZ S x.tag=true/\x.ty=4/\x.au=1:=λx hx=>by
  obtain⟨h1,h2⟩:=abj hb hx;refine⟨?_,h1,h2⟩;cases hl:eS S x.tag with
  |false=>rfl
  |true=>obtain⟨y,y1,y2⟩:=KA hl;have:=(hS.bG y y1).2.2;rw[y2,h1] at this;cases this
 have own_of:∀tag,ej S tag=(eS S tag||eZ S tag):=λ_=>rfl;have vV:=QZ (order:=order) (e:=e1) ht.1;have vS:=QY (e:=e2) hr;have vB:=Ze hS (e:=e3) hb;have fall:∀(l:List bf)(p:bf->Bool),(∀x∈l,p x=true)->l.filter p=l:=λl p h=>List.filter_eq_self.2 h;have fnone:∀(l:List bf)(p:bf->Bool),(∀x∈l,p x=false)->l.filter p=[]:=λl p h=>List.filter_eq_nil_iff.2 λx hx=>by simp_all
 have notlink:∀x∈ew order e1 tags,eS S x.tag=false/\eZ S x.tag=false:=λx hx=>by have:=lV x hx;rw[own_of,Bool.or_eq_false_iff] at this;exact this
 subst hE;refine⟨?_,?_,?_,?_,?_⟩
 ·refine Kr (Jh (AN vV) (Jh (AN vS) (AN vB) ?_) ?_)
  ·intro x hx y hy e;have:=(lS x hx).2.1;rw[<-e,(lB y hy).2.1] at this;cases this
  ·intro x hx y hy e;rcases eM.1 hy with hy|hy<;>grind
 ·rw[Es,List.filter_append,List.filter_append,fall _ _ (λx hx=>by simp[lV x hx]),fnone _ _ (λx hx=>by simp[own_of,(lS x hx).1]),fnone _ _ (λx hx=>by simp_all)];simp;exact EM vV
 ·rw[Es,List.filter_append,List.filter_append,fnone _ _ (λx hx=>(notlink x hx).1),fall _ _ (λx hx=>(lS x hx).1),fnone _ _ (λx hx=>(lB x hx).1)];simp;exact EM vS
 ·rw[Es,List.filter_append,List.filter_append,fnone _ _ (λx hx=>(notlink x hx).2),fnone _ _ (λx hx=>(lS x hx).2.1),fall _ _ (λx hx=>(lB x hx).2.1)];exact EM vB
 ·intro x hx ho;rcases eM.1 (yI.1 hx) with hx|hx
  ·rw[lV x hx] at ho;cases ho
  ·rcases eM.1 hx with hx|hx
   ·exact(lS x hx).2.2
   ·exact(lB x hx).2.2
mutual
def fA:aO->Nat
 | .mk _ subs _=>jw subs+1
def jw:cF->Nat
 | .nil=>0
 | .cons _ d r=>max (fA d) (jw r)
end
theorem Sn{ty:Int}(h:(kindOf ty).1 ≠0):0<=ty/\ty<65536:=by
 by_cases o:ty<1\/12<ty
 ·rw[EN o] at h;exact absurd rfl h
 grind
theorem aeI(l:List UInt8)(order:Int):gF (gm l 0 4 order)<4294967296:=by
 have h:=KY (gm l 0 4 order);have hl:(gm l 0 4 order).length<=4:=by unfold gm;split<;>simp<;>omega
 have:256^(gm l 0 4 order).length<=256^4:=Nat.pow_le_pow_right (by simp) hl;omega
theorem El{S:aV}{order:Int}:∀{ts:List aI}{e:Nat},(∀t∈ts,my t.tag=true/\dW t.ty t.au t.data=true)->ck e ts<4294967296->∀x∈ew order e ts,nE x
 |[],_,_,_,x,hx=>by cases hx
 |t::ts,e,h,he,x,hx=>by
  obtain⟨h1,h2⟩:=h t (by simp)
  obtain⟨k1,k2,k3,k4⟩:=wu h2
  have hs:∀t∈ts,my t.tag=true/\dW t.ty t.au t.data=true:=λt ht=>h t (by simp[ht])
  have ht:0<=t.tag/\t.tag<65536:=by simpa[my] using h1
  unfold ew at hx
  unfold ck at he
  split at hx
  ·rename_i ho
   rw[ar ho] at he
   rcases cj.1 hx with rfl|hx
   ·exact⟨ht,Sn k1,by simp only;omega,aeI _ _⟩
   ·exact El (S:=S) hs he x hx
  ·rename_i ho
   rw[ai ho] at he
   have:=qJ ts (aD e+bY t.ty t.au)
   rcases cj.1 hx with rfl|hx
   ·exact⟨ht,Sn k1,by simp only;omega,by simp only;omega⟩
   ·exact El (S:=S) hs he x hx
theorem JG(hS:vi S):∀{r:cF}{e:Nat},(∀tag∈kx r,eS S tag=true)->eu e r<4294967296->∀x∈ig e r,nE x
 | .nil,_,_,_,x,hx=>by unfold ig at hx;cases hx
 | .cons tag d r,e,h,he,x,hx=>by
  unfold eu at he;unfold kx at h;have h0:=tS r (bq e d);have h1:aD e<4294967296:=by
   have:aD e<=bq e d:=by
    cases d with
    |mk tags subs blob=>unfold bq;have h2:=qJ tags (aD e+(6+12*bF (.mk tags subs blob)));have h3:=tS subs (ck (aD e+(6+12*bF (.mk tags subs blob))) tags);have h4:=mQ (eu (ck (aD e+(6+12*bF (.mk tags subs blob))) tags) subs);split<;>omega
   omega
  rcases cj.1 hx with rfl|hx
  ·obtain⟨y,y1,y2⟩:=KA (h tag (by simp));have:=hS.bG y y1;exact⟨by simp only;omega,by simp only;omega,by simp only;omega,h1⟩
  ·exact JG hS (λt ht=>h t (by simp[ht])) he x hx
theorem LD{d:aO}:aD e+6<=bq e d:=by
 cases d with
 |mk tags subs blob=>
  unfold bq;have h2:=qJ tags (aD e+(6+12*bF (.mk tags subs blob)));have h3:=tS subs (ck (aD e+(6+12*bF (.mk tags subs blob))) tags);have h4:=mQ (eu (ck (aD e+(6+12*bF (.mk tags subs blob))) tags) subs)
  grind
mutual
theorem UI{order:Int}(ho:order=1\/order=2){sh:List aV}(hsh:∀s,vi (aJ sh s)):∀(d:aO)(s next e f no:Nat)(Sp:List bm)(pre post b:List UInt8),
 cK sh s d=true->b=pre++(iS order sh s next e d++post)->pre.length=e->bq e d<4294967296->next<4294967296->kX Sp e->fA d<=f->
 jS b order sh f (aD e) s no Sp=.ok (d,next,no+dt d,Sp++fF no e d)/\kX (Sp++fF no e d) (bq e d)
 | .mk tags subs blob,s,next,e,0,no,Sp,pre,post,b,h,hb,hp,hlt,hnx,hSp,hf=>by unfold fA at hf;omega
 | .mk tags subs blob,s,next,e,f+1,no,Sp,pre,post,b,h,hb,hp,hlt,hnx,hSp,hf=>by
  have hlen:=tL order sh (.mk tags subs blob) s next e h
  simp only[cK,bg,qn,bV] at h;obtain⟨⟨n1,n2⟩,ht,hbl,hr,hs⟩:=h;have htg:∀t∈tags,my t.tag=true/\dW t.ty t.au t.data=true:=λt h=>by simp only[jI,bg,jf] at ht;exact⟨(ht.2 t h).1,(ht.2 t h).2.2⟩
  obtain⟨N,hN⟩:∃N,bF (.mk tags subs blob)=N:=⟨_,rfl⟩;obtain⟨e1,he1⟩:∃e1,aD e+(6+12*N)=e1:=⟨_,rfl⟩;obtain⟨e2,he2⟩:∃e2,ck e1 tags=e2:=⟨_,rfl⟩;obtain⟨e3,he3⟩:∃e3,eu e2 subs=e3:=⟨_,rfl⟩;obtain⟨S,hS⟩:∃S,aJ sh s=S:=⟨_,rfl⟩;have hSo:=hsh s;rw[hS] at hSo ht hbl hs;have g1:=mQ e;have g2:=qJ tags e1;have g3:=tS subs e2;have g4:=mQ e3;rw[he2] at g2;rw[he3] at g3;have hend:bq e (.mk tags subs blob)=if blob.length=0 then e3 else aD e3+blob.length:=by rw[bq,hN,he1,he2,he3]
  rw[hend] at hlt hlen;have h3lt:e3<4294967296/\(blob.length=0\/aD e3+blob.length<4294967296):=by split at hlt<;>omega
  obtain⟨E,hE⟩:∃E,gk (ew order e1 tags++(ig e2 subs++gO S e3 blob))=E:=⟨_,rfl⟩;obtain⟨c1,c2,c3,c4,c5⟩:=Qs hSo ht hbl hr hs hE.symm;have hEn:E.length=N:=by rw[<-hE,Bv,aR,aR,tT,Bj,Ek,<-hN];show _=tags.length+cm subs+(if blob.length=0 then 0 else 2);omega
  have hEo:∀x∈E,nE x:=by
   intro x hx;rw[<-hE] at hx;rcases eM.1 (yI.1 hx) with hx|hx
   ·exact El (S:=S) htg (by rw[he2];omega) x hx
   ·rcases eM.1 hx with hx|hx
    ·exact JG hSo (EE hs) (by rw[he3];omega) x hx
    ·unfold gO at hx;split at hx
     ·cases hx
     ·have hat:=hSo.pair (hbl.resolve_left (by assumption));simp only[cj,jh,jj] at hx;rcases hx with rfl|rfl
      ·exact⟨by simp only;omega,by simp only;omega,by simp only;omega,by simp only;omega⟩
      ·exact⟨by simp only;omega,by simp only;omega,by simp only;omega,by simp only;omega⟩
  obtain⟨bl,hblob⟩:∃bl,(if blob.length=0 then[] else dQ e3++blob)=bl:=⟨_,rfl⟩;have hbd:iS order sh s next e (.mk tags subs blob)=dQ e++(kJ order E next++(gp order e1 tags++(jR order sh S e2 subs++bl))):=by rw[iS,hN,he1,he2,he3,hS,hE,hblob]
  rw[hbd] at hlen hb;have ik:=QI order E next
  rw[hEn] at ik;have hpl:=p9 e;have hvl:=Iz order tags e1 λt h=>(htg t h).2;have hsl:=Jq order sh subs S e2 hs;rw[he2] at hvl;rw[he3] at hsl;have hbL:b.length=e1+(gp order e1 tags).length+(jR order sh S e2 subs).length+bl.length+post.length:=by rw[hb];simp only[aR,ik];omega
  have hbll:bl.length=if blob.length=0 then 0 else aD e3 -e3+blob.length:=by
   rw[<-hblob];have:=p9 e3;split
   ·rfl
   ·rw[aR];omega
  have hat:aD e=(pre++dQ e).length:=by rw[aR];omega
  have hnum:cn b (aD e) 2 order=N:=by refine oo (pre:=pre++dQ e) (post:=(E.flatMap (iz order)++aU next 4 order)++(gp order e1 tags++(jR order sh S e2 subs++(bl++post)))) ?_ hat (.inr (.inl rfl)) ho (by omega);rw[hb,kJ,hEn];simp
  have hents:jy b order (aD e+2) N=E:=by have:=Q0 ho E (pre++(dQ e++aU N 2 order)) (aU next 4 order++(gp order e1 tags++(jR order sh S e2 subs++(bl++post)))) (aD e+2) (b:=b) (by rw[hb,kJ,hEn];simp) (by simp only[aR,eh];omega) hEo;rwa[hEn] at this
  have hnext:cn b (aD e+2+12*N) 4 order=next:=by refine oo (pre:=pre++(dQ e++(aU N 2 order++E.flatMap (iz order)))) (post:=gp order e1 tags++(jR order sh S e2 subs++(bl++post))) (by rw[hb,kJ,hEn];simp) ?_ (.inr (.inr rfl)) ho (by omega);simp only[aR,eh,yl,hEn];omega
  have hee:=JO e;have htk:ky b.length Sp ⟨2,no,0,aD e,6+12*N⟩=.ok (Sp++[⟨2,no,0,aD e,6+12*N⟩]):=O0 hSp g1 hee (by simp only;omega);have hS1:kX (Sp++[⟨2,no,0,aD e,6+12*N⟩]) e1:=hSp.add (by omega) (by simp only;omega);obtain⟨v1,v2⟩:=LV (b:=b) (order:=order) (no:=no) tags (pre++(dQ e++kJ order E next)) (jR order sh S e2 subs++(bl++post)) e1 _ (λt h=>(htg t h).2) (by rw[hb];simp) (by simp only[aR,ik];omega) hS1;rw[he2] at v2;have hT:jF (ej S) b order no E (Sp++[⟨2,no,0,aD e,6+12*N⟩])=.ok (tags,Sp++[⟨2,no,0,aD e,6+12*N⟩]++cX no e1 tags):=by rw[UG E _ c5,c2];exact v1
  have jA:jw subs<=f:=by unfold fA at hf;omega
  obtain⟨s1,s2⟩:=UJ ho hsh subs S e2 f (no+1) (Sp++[⟨2,no,0,aD e,6+12*N⟩]++cX no e1 tags) (pre++(dQ e++(kJ order E next++gp order e1 tags))) (bl++post) b hs (by rw[hb];simp) (by simp only[aR,ik];omega) (by rw[he3];omega) v2 jA;rw[he3] at s2;have ua:no+dt (.mk tags subs blob)=no+1+ia subs:=by unfold dt;omega
  have hsp:fF no e (.mk tags subs blob)=⟨2,no,0,aD e,6+12*N⟩::(cX no e1 tags++(jU (no+1) e2 subs++(if blob.length=0 then[] else[⟨4,no,0,aD e3,blob.length⟩]))):=by rw[fF,hN,he1,he2,he3]
  rw[ua,hsp,hend];unfold jS;rw[ar ⟨hee,by omega⟩,hnum,ai (by omega)];simp only[htk];rw[hents,ar c1,hS];simp only[hT];rw[c4,c3];by_cases hz:blob.length=0
  ·have hB:gO S e3 blob=[]:=by unfold gO;rw[ar hz]
   have hbl0:blob=[]:=jJ hz;rw[hB,ai (by simp)];simp only[s1,hnext,ar hz,eH];subst hbl0;refine⟨by simp,by simpa using s2⟩
  ·have hB:gO S e3 blob=[⟨S.at_,4,1,aD e3⟩,⟨S.cA,4,1,blob.length⟩]:=by unfold gO;rw[ai hz]
   rw[ai hz] at hblob hbll;rw[hB,ai (by simp)];simp only[s1];rw[ai hz];have htb:ky b.length (Sp++[⟨2,no,0,aD e,6+12*N⟩]++cX no e1 tags++jU (no+1) e2 subs) ⟨4,no,0,aD e3,blob.length⟩=.ok (Sp++[⟨2,no,0,aD e,6+12*N⟩]++cX no e1 tags++jU (no+1) e2 subs++[⟨4,no,0,aD e3,blob.length⟩]):=
    O0 s2 g4 (JO e3) (by simp only;omega)
   simp only[htb];have hdrop:(b.drop (aD e3)).take blob.length=blob:=by
    have hp3:=p9 e3;have e':b=(pre++(dQ e++(kJ order E next++(gp order e1 tags++(jR order sh S e2 subs++dQ e3)))))++(blob++post):=by rw[hb,<-hblob];simp
    have el:(pre++(dQ e++(kJ order E next++(gp order e1 tags++(jR order sh S e2 subs++dQ e3))))).length=aD e3:=by simp only[aR,ik];omega
    rw[e',<-el,List.drop_left,List.take_left]
   rw[hdrop,hnext,ai hz,ai hz];refine⟨by simp,?_⟩;have:=s2.add (x:=⟨4,no,0,aD e3,blob.length⟩) (e':=aD e3+blob.length) (by omega) (aB _);simpa using this
theorem UJ{order:Int}(ho:order=1\/order=2){sh:List aV}(hsh:∀s,vi (aJ sh s)):∀(r:cF)(S:aV)(e f no:Nat)(Sp:List bm)(pre post b:List UInt8),
 iB sh S r=true->b=pre++(jR order sh S e r++post)->pre.length=e->eu e r<4294967296->kX Sp e->jw r<=f->
 lI (jS b order sh f) S (ig e r) no Sp=.ok (r,no+ia r,Sp++jU no e r)/\kX (Sp++jU no e r) (eu e r)
 | .nil,S,e,f,no,Sp,pre,post,b,h,hb,hp,hlt,hSp,hf=>by unfold ig jU eu ia;refine⟨by simp[lI],by simpa using hSp⟩
 | .cons tag d r,S,e,f,no,Sp,pre,post,b,h,hb,hp,hlt,hSp,hf=>by simp only[iB,bg] at h;unfold eu at hlt;unfold jw at hf;have g:=tS r (bq e d);rw[jR,dY] at hb;have hl:=tL order sh d ((kM S tag).getD 0) 0 e h.2.1;obtain⟨d1,d2⟩:=UI ho hsh d ((kM S tag).getD 0) 0 e f no Sp pre (jR order sh S (bq e d) r++post) b h.2.1 hb hp (by omega) (by omega) hSp (by omega);obtain⟨r1,r2⟩:=UJ ho hsh r S (bq e d) f (no+dt d) _ (pre++iS order sh ((kM S tag).getD 0) 0 e d) post b h.2.2 (by rw[hb];simp) (by rw[aR];omega) hlt d2 (by omega);unfold ig jU eu ia;refine⟨?_,by simpa using r2⟩;rw[lI];simp only[d1,r1];simp[lO]
end
end
section
structure iu(sh:List aV):Prop where
 ok:∀s,vi (aJ sh s)
 bG:∀s,s<sh.length->∀x∈(aJ sh s).bG,(s:Int)<x.shape/\x.shape<sh.length
 next:∀s,s<sh.length->(aJ sh s).next<0\/((s:Int)<(aJ sh s).next/\(aJ sh s).next<sh.length)
theorem aaV{S:aV}{tag:Int}(h:eS S tag=true):∃x∈S.bG,(kM S tag).getD 0=x.shape.toNat:=by
 unfold eS at h;unfold kM;cases hf:S.bG.find? (λx=>x.tag==tag) with
 |none=>grind
 |some x=>grind
mutual
theorem QE{sh:List aV}(hsh:iu sh):∀(d:aO)(s:Nat),cK sh s d=true->s<sh.length->fA d+s<=sh.length
 | .mk tags subs blob,s,h,hs=>by simp[cK] at h;have:=QG hsh subs s h.2.2.2.2 hs;unfold fA;omega
theorem QG{sh:List aV}(hsh:iu sh):∀(r:cF)(s:Nat),iB sh (aJ sh s) r=true->s<sh.length->jw r+s+1<=sh.length
 | .nil,s,_,hs=>by unfold jw;omega
 | .cons tag d r,s,h,hs=>by simp[iB] at h;obtain⟨x,hx,e⟩:=aaV h.1;have hl:=hsh.bG s hs x hx;have h1:=QE hsh d ((kM (aJ sh s) tag).getD 0) h.2.1 (by grind);have h2:=QG hsh r s h.2.2 hs;unfold jw;omega
end
def ee(e:Nat):List aO->Nat
 |[]=>e
 |d::ds=>ee (bq e d) ds
def iT:List aO->Nat
 |[]=>0
 |d::ds=>dt d+iT ds
def jH(no e:Nat):List aO->List bm
 |[]=>[]
 |d::ds=>fF no e d++jH (no+dt d) (bq e d) ds
def se(e:Nat)(d:aO)(ds:List aO):Nat:=if ds.isEmpty then 0 else aD (bq e d)
def lX(order:Int)(sh:List aV)(s:Int)(e:Nat):List aO->List UInt8
 |[]=>[]
 |d::ds=>iS order sh s.toNat (se e d ds) e d++lX order sh (aJ sh s.toNat).next (bq e d) ds
def fK(sh:List aV)(s:Int):List aO->Bool
 |[]=>true
 |d::ds=>decide (0<=s)&&(cK sh s.toNat d&&fK sh (aJ sh s.toNat).next ds)
def fe(t:lR)(sh:List aV):List UInt8:=
 (if t.order=1 then[73,73] else[77,77])++(aU 42 2 t.order++(aU 8 4 t.order++lX t.order sh 0 8 t.eK))
def gK(t:lR):List bm:=⟨1,-1,0,0,8⟩::jH 0 8 t.eK
def gJ(t:lR):Nat:=ee 8 t.eK
def ox(b:List UInt8)(order:Int)(sh:List aV):Nat->Bool->Nat->Int->Nat->List bm->Except Int (List aO×List bm)
 |0,_,_,_,_,_=>.error 0
 |f+1,first,at_,s,no,Sp=>
  if at_=0/\first=false then .ok ([],Sp)
  else if s<0 then .error 2
  else match jS b order sh sh.length at_ s.toNat no Sp with
   | .error e=>.error e
   | .ok (d,next,no1,S1)=>match ox b order sh f false next (aJ sh s.toNat).next no1 S1 with
    | .error e=>.error e
    | .ok (ds,S2)=>.ok (d::ds,S2)
def kP(b:List UInt8):Int:=if b.take 2=[73,73] then 1 else if b.take 2=[77,77] then 2 else 0
def xg(b:List UInt8)(sh:List aV):Except Int (lR×List bm):=
 if b.length<8 then .error 3
 else if kP b=0\/cn b 2 2 (kP b)≠42 then .error 2
 else match ox b (kP b) sh (sh.length+2) true (cn b 4 4 (kP b)) 0 0 [⟨1,-1,0,0,8⟩] with
  | .error e=>.error e
  | .ok (ds,S)=>.ok (⟨kP b,ds⟩,S)
theorem Qo{order:Int}{sh:List aV}:∀(ds:List aO)(s:Int)(e:Nat),fK sh s ds=true->e+(lX order sh s e ds).length=ee e ds
 |[],_,_,_=>rfl
 |d::ds,s,e,h=>by
  simp[fK] at h
  have h1:=tL order sh d s.toNat (se e d ds) e h.2.1
  have h2:=Qo (order:=order) ds (aJ sh s.toNat).next (bq e d) h.2.2
  rw[lX,ee,aR]
  omega
theorem pO:∀(ds:List aO)(e:Nat),e<=ee e ds
 |[],e=>aB _
 |d::ds,e=>by have:=Bf d e;have:=pO ds (bq e d);rw[ee];omega
variable{sh:List aV}
theorem UH{order:Int}(ho:order=1\/order=2)(hsh:iu sh):∀(ds:List aO)(s:Int)(e f no:Nat)(first:Bool)(Sp:List bm)(pre b:List UInt8),
 fK sh s ds=true->(first=true->ds≠[])->s<sh.length->b=pre++lX order sh s e ds->pre.length=e->0<e->ee e ds<4294967296->kX Sp e->((sh.length:Int) -s).toNat+2<=f->
 ox b order sh f first (if ds.isEmpty then 0 else aD e) s no Sp=.ok (ds,Sp++jH no e ds)
 |[],s,e,f+1,no,first,Sp,pre,b,h,hfi,hs,hb,hp,he,hlt,hSp,hf=>by
  have:first=false:=by cases first with
   |false=>rfl
   |true=>exact absurd rfl (hfi rfl)
  subst this;rw[ox];simp[jH]
 |d::ds,s,e,f+1,no,first,Sp,pre,b,h,hfi,hs,hb,hp,he,hlt,hSp,hf=>by
  simp[fK] at h;obtain⟨h0,h1,h2⟩:=h;have g1:=mQ e;have g3:=pO ds (bq e d);rw[ee] at hlt;rw[lX] at hb;have hl:=tL order sh d s.toNat (se e d ds) e h1;have hnx:se e d ds<4294967296:=by
   unfold se;split
   ·decide
   ·cases ds with
    |nil=>rename_i hh;exact absurd rfl hh
    |cons d' ds=>have:=LD (d:=d') (e:=bq e d);have:=pO ds (bq (bq e d) d');rw[ee] at hlt g3;omega
  obtain⟨d1,d2⟩:=UI ho hsh.ok d s.toNat (se e d ds) e sh.length no Sp pre (lX order sh (aJ sh s.toNat).next (bq e d) ds) b h1 hb hp (by omega) hnx hSp (by have:=QE hsh d s.toNat h1 (by omega);omega);have hnext:=hsh.next s.toNat (by omega);have hr:ox b order sh f false (se e d ds) (aJ sh s.toNat).next (no+dt d) (Sp++fF no e d)=.ok (ds,Sp++fF no e d++jH (no+dt d) (bq e d) ds):=by
   cases ds with
   |nil=>
    cases f with
    |zero=>omega
    |succ f=>rw[ox,ar ⟨rfl,rfl⟩];simp[jH]
   |cons d' ds=>
    have hn:0<=(aJ sh s.toNat).next:=by simp[fK] at h2;exact h2.1
    have:=UH ho hsh (d'::ds) (aJ sh s.toNat).next (bq e d) f (no+dt d) false (Sp++fF no e d) (pre++iS order sh s.toNat (se e d (d'::ds)) e d) b h2 (by intro h;cases h) (by omega) (by rw[hb];simp) (by rw[aR];omega) (by omega) hlt d2 (by omega);exact this
  rw[ox,ai (by simp;omega),ai (by omega)];simp_all;simp[jH]
 |_,s,e,0,no,first,Sp,pre,b,h,hfi,hs,hb,hp,he,hlt,hSp,hf=>by omega
variable{t:lR}
theorem Ah(h:fK sh 0 t.eK=true):(fe t sh).length=gJ t:=by
 have:=Qo (order:=t.order) t.eK 0 8 h;simp[fe,gJ,eh]
 grind
theorem Xw(ho:t.order=1\/t.order=2)(hsh:iu sh)(hl:0<sh.length)(ca:t.eK≠[])(h:fK sh 0 t.eK=true)(hlt:gJ t<4294967296):xg (fe t sh) sh=.ok (t,gK t):=by
 have h8:=pO t.eK 8;have hord:kP (fe t sh)=t.order:=by unfold kP fe;rcases ho with e|e<;>rw[e]<;>simp
 obtain⟨sg,hsg⟩:∃sg,(if t.order=1 then[73,73] else[77,77]:List UInt8)=sg:=⟨_,rfl⟩;have hsl:sg.length=2:=by rw[<-hsg];split<;>rfl
 have hb:fe t sh=sg++(aU 42 2 t.order++(aU 8 4 t.order++lX t.order sh 0 8 t.eK)):=by unfold fe;rw[hsg]
 have hat:cn (fe t sh) 4 4 t.order=8:=oo (pre:=sg++aU 42 2 t.order) (post:=lX t.order sh 0 8 t.eK) (by rw[hb];simp) (by simp[hsl,eh]) (.inr (.inr rfl)) ho (by decide);have hr:=UH ho hsh t.eK 0 8 (sh.length+2) 0 true [⟨1,-1,0,0,8⟩] (sg++(aU 42 2 t.order++aU 8 4 t.order)) (fe t sh) h (λ_=>ca) (by omega) (by rw[hb];simp) (by simp[hsl,eh]) (by decide) hlt (by intro x hx;rw[kC.1 hx];decide) (by omega);have hem:t.eK.isEmpty=false:=by
  cases hd:t.eK with
  |nil=>exact absurd hd ca
  |cons _ _=>rfl
 rw[hem] at hr;unfold xg;rw[ai (by rw[(Ah h)];unfold gJ;omega),hord,(oo hb hsl.symm (.inr (.inl rfl)) ho (by decide)),ai (by rcases ho with e|e<;>rw[e]<;>simp)];rw[(show(if false=true then 0 else aD 8)=8 from rfl)] at hr;simp_all;rfl
end
section
def RJ(d:Int):List ((Int×Int)×List Int×Int):=
 ([0x0100,0x0101].map λt=>((d,t),[3,4],1))++([0x0103,0x0112,0x0128,0x0213].map λt=>((d,t),[3],1))++
 ([0x010e,0x010f,0x0110,0x0131,0x013b,0x8298].map λt=>((d,t),[2],0))++[((d,0x0132),[2],20),((d,0x011a),[5],1),((d,0x011b),[5],1)]
def aeG(d:Int):List ((Int×Int)×List Int×Int):=
 ([0x829a,0x829d,0x9202,0x920a].map λt=>((d,t),[5],1))++([0x8822,0x9207,0x9208,0x9209,0xa001,0xa402].map λt=>((d,t),[3],1))++
 ([0x9000,0x9101,0xa000].map λt=>((d,t),[7],4))++([0x9201,0x9204].map λt=>((d,t),[10],1))++([0x9003,0x9004].map λt=>((d,t),[2],20))++
 ([0xa002,0xa003].map λt=>((d,t),[3,4],1))++[((d,0x8827),[3],0),((d,0x9286),[7],0),((d,0x9290),[2],0),((d,0xa300),[7],1),((d,0xa420),[2],33),((d,0xa432),[5],4)]
def ZY(d:Int):List ((Int×Int)×List Int×Int):=
 [((d,0x00),[1],4),((d,0x05),[1],1),((d,0x06),[5],1)]++([0x01,0x03].map λt=>((d,t),[2],2))++([0x02,0x04,0x07].map λt=>((d,t),[5],3))++
 [((d,0x12),[2],0),((d,0x1d),[2],11)]
def ait(d:Int):List ((Int×Int)×List Int×Int):=
 [((d,0xb000),[7],4)]++([0xb101,0xb201,0xb202].map λt=>((d,t),[4],1))++([0xb204,0xb206].map λt=>((d,t),[5],1))++([0xb205,0xb208].map λt=>((d,t),[10],1))
def U2:List ((Int×Int)×List Int×Int):=
 RJ 0++RJ 1++aeG 2++ZY 3++[((4,1),[2],4),((4,2),[7],4)]++ait 5
def Ml(d t:Int):Option (List Int×Int):=U2.lookup (d,t)
def o6:List (Int×Int):=[(0,0x8769),(0,0x8825),(1,0x0201),(1,0x0202),(2,0x927c),(2,0xa005),(5,0xb001),(5,0xb002)]
def sc(d:Int)(x:aI):Bool:=
 decide (0<=d/\d<6/\0<=x.tag/\x.tag<=65535)&&!o6.contains (d,x.tag)&&dW x.ty x.au x.data&&
  (match Ml d x.tag with
   |none=>true
   |some (l,c)=>l.contains x.ty&&(c==0||c==x.au))
def dz(d:Int)(l:List aI):Bool:=fD l&&l.all (sc d)&&decide (0<=d/\d<6)
structure di where
 order:Int
 cP:List aI
 bR:List aI
 bZ:List aI
 bp:List aI
 first:List aI
 bQ:List UInt8
 dq:List UInt8
 deriving DecidableEq
def hU(x:di):Int:=
 if¬(x.order=1\/x.order=2) then 1
 else if(dz 0 x.cP&&(dz 2 x.bR&&(dz 3 x.bZ&&(dz 4 x.bp&&dz 1 x.first))))=false then 6
 else if 65536<x.bQ.length\/(x.cP.length=0/\x.bR.length=0/\x.bZ.length=0/\x.bp.length=0/\x.bQ.length=0) then 6
 else 0
variable{x:di}
theorem tM(h:hU x=0):(x.order=1\/x.order=2)/\dz 0 x.cP=true/\dz 2 x.bR=true/\dz 3 x.bZ=true/\dz 4 x.bp=true/\dz 1 x.first=true/\x.bQ.length<=65536/\
 ¬(x.cP.length=0/\x.bR.length=0/\x.bZ.length=0/\x.bp.length=0/\x.bQ.length=0):=by
 unfold hU at h
 grind
def iI(l:List aI)(tag:Int):Option aI:=l.find? λx=>x.tag==tag
def oQ(l:List aI)(tag:Int):List aI:=l.filter λx=>x.tag !=tag
def jG(l:List aI)(x:aI):List aI:=(l.filter λy=>decide (y.tag<x.tag))++x::l.filter λy=>decide (x.tag<y.tag)
theorem F4:∀{a:aI}{l:List aI},fD (a::l)=true->fD l=true/\∀y∈l,a.tag<y.tag
 |a,[],_=>⟨rfl,λy h=>by cases h⟩
 |a,b::l,h=>by
  simp[fD] at h;obtain⟨h1,h2⟩:=F4 h.2
  grind
theorem Mb{a:aI}:∀{l:List aI},fD l=true->(∀y∈l,a.tag<y.tag)->fD (a::l)=true
 |[],_,_=>rfl
 |b::l,h,g=>by simp[fD];simp_all
variable{α:Type} {p:α->Bool}
theorem yv:∀{l:List α},(∀y∈l,p y=true)->l.filter p=l
 |[],_=>rfl
 |a::l,h=>by simp_all
theorem filter_nil:∀{l:List α},(∀y∈l,p y=false)->l.filter p=[]
 |[],_=>rfl
 |a::l,h=>by simp_all
theorem WD(t:Int):∀{l:List aI},fD l=true->(∀y∈l,y.tag≠t)->(l.filter λy=>decide (y.tag<t))++(l.filter λy=>decide (t<y.tag))=l
 |[],_,_=>rfl
 |a::l,h,hn=>by
  obtain⟨h1,h2⟩:=F4 h;have h0:=hn a (by simp);by_cases c:a.tag<t
  ·rw[jK,ar (by grind),jK,ai (by simp;omega),jg,(WD t h1 λy hy=>hn y (by simp[hy]))]
  ·rw[jK,ai (by grind),jK,ar (by simp;omega)];rw[filter_nil (λy hy=>by have:=h2 y hy;simp;omega),yv (λy hy=>by have:=h2 y hy;simp;omega)];rfl
theorem VE(x:aI):∀{l:List aI},fD l=true->fD (jG l x)=true
 |[],_=>rfl
 |a::l,h=>by
  obtain⟨h1,h2⟩:=F4 h;have ih:=VE x h1;unfold jG at ih⊢;by_cases c:a.tag<x.tag
  ·rw[jK,ar (by simpa using c),jK,ai (by simp;omega)];refine Mb ih λy hy=>?_;rcases eM.1 hy with hy|hy
   ·exact h2 y (oE.1 hy).1
   ·rcases cj.1 hy with rfl|hy
    ·exact c
    ·exact h2 y (oE.1 hy).1
  ·have e:((a::l).filter λy=>decide (y.tag<x.tag))=[]:=filter_nil λy hy=>by
    rcases cj.1 hy with rfl|hy<;>grind
   rw[e];refine Mb ?_ (λy hy=>by simpa using(oE.1 hy).2);rw[jK];split
   ·rename_i q;refine Mb ?_ λy hy=>h2 y (oE.1 hy).1;rw[yv λy hy=>by have:=h2 y hy;simp at q⊢;omega];exact h1
   ·rename_i q;rw[yv λy hy=>by have:=h2 y hy;simp at q⊢;omega];exact h1
variable{l:List aI}
theorem VD{x y:aI}(h:y∈jG l x):y=x\/y∈l:=by
 rcases eM.1 h with h|h
 ·grind
 grind
theorem VC(l:List aI)(x:aI):(jG l x).length<=l.length+1:=by
 unfold jG;have h1:∀l:List aI,(l.filter λy=>decide (y.tag<x.tag)).length+(l.filter λy=>decide (x.tag<y.tag)).length<=l.length:=by
  intro l;induction l with
  |nil=>simp
  |cons a l ih=>grind
 grind
theorem drop_set{x:aI}(h:fD l=true)(hn:∀y∈l,y.tag≠x.tag):oQ (jG l x) x.tag=l:=by unfold oQ jG;rw[List.filter_append,jK,ai (by simp),yv λy hy=>by simpa using hn y (oE.1 hy).1,yv (p:=λy:aI=>y.tag !=x.tag) λy hy=>by simpa using hn y (oE.1 hy).1];exact WD x.tag h hn
theorem Zx(x:aI)(l:List aI):iI (jG l x) x.tag=some x:=by
 unfold iI jG
 grind
variable{t:Int}
theorem Zw(hn:∀y∈l,y.tag≠t):iI l t=none:=by
 unfold iI
 grind
theorem Y5(hn:∀y∈l,y.tag≠t):oQ l t=l:=yv λy hy=>by simpa using hn y hy
def da:List aV:=[⟨[⟨34665,2⟩,⟨34853,3⟩],0,0,1⟩,⟨[],513,514,-1⟩,⟨[⟨40965,4⟩],0,0,-1⟩,⟨[],0,0,-1⟩,⟨[],0,0,-1⟩]
def iY(b:List UInt8):aI:=⟨37500,7,b.length,b⟩
def je(x:di):aO:=.mk (if x.bQ.length=0 then x.bR else jG x.bR (iY x.bQ)) (if x.bp.length=0 then .nil else .cons 40965 (.mk x.bp .nil []) .nil) []
def mS(x:di):cF:=if x.bZ.length=0 then .nil else .cons 34853 (.mk x.bZ .nil []) .nil
def jd(x:di):cF:=if x.bR.length=0/\x.bp.length=0/\x.bQ.length=0 then mS x else .cons 34665 (je x) (mS x)
def eC(x:di):lR:=⟨x.order,.mk x.cP (jd x) []::(if x.first.length=0/\x.dq.length=0 then[] else[.mk x.first .nil x.dq])⟩
theorem JX:iu da:=by
 have key:∀s,aJ da s=S9\/s<5:=by
  intro s;by_cases h:s<5
  ·exact .inr h
  ·left;unfold aJ;rw[lN (by simp[da];omega)];rfl
 refine⟨λs=>?_,λs hs x hx=>?_,λs hs=>?_⟩
 ·rcases key s with h|h
  ·rw[h];exact⟨λx hx=>(by cases hx),λh=>absurd rfl h⟩
  ·have:s=0\/s=1\/s=2\/s=3\/s=4:=by omega
   rcases this with rfl|rfl|rfl|rfl|rfl
   ·refine⟨λx hx=>?_,λh=>absurd rfl h⟩;have hx:x∈[(⟨34665,2⟩:gU),⟨34853,3⟩]:=hx;simp_all;rcases hx with rfl|rfl<;>exact⟨by decide,by decide,rfl⟩
   ·refine⟨λx hx=>(by cases hx),λ_=>⟨by decide,by decide,by decide⟩⟩
   ·refine⟨λx hx=>?_,λh=>absurd rfl h⟩;have hx:x∈[(⟨40965,4⟩:gU)]:=hx;simp at hx;rcases hx with rfl
    exact⟨by decide,by decide,rfl⟩
   ·exact⟨λx hx=>(by cases hx),λh=>absurd rfl h⟩
   ·exact⟨λx hx=>(by cases hx),λh=>absurd rfl h⟩
 ·have:s=0\/s=1\/s=2\/s=3\/s=4:=by simp[da] at hs;omega
  rcases this with rfl|rfl|rfl|rfl|rfl
  ·have hx:x∈[(⟨34665,2⟩:gU),⟨34853,3⟩]:=hx;simp_all;rcases hx with rfl|rfl<;>exact⟨by decide,by decide⟩
  ·cases hx
  ·have hx:x∈[(⟨40965,4⟩:gU)]:=hx;simp at hx;rcases hx with rfl;exact⟨by decide,by decide⟩
  ·cases hx
  ·cases hx
 ·have:s=0\/s=1\/s=2\/s=3\/s=4:=by simp[da] at hs;omega
  rcases this with rfl|rfl|rfl|rfl|rfl
  ·right;exact⟨by decide,by decide⟩
  all_goals left;decide
variable{d:Int}
theorem EW{x:aI}(h:sc d x=true):0<=x.tag/\x.tag<=65535/\o6.contains (d,x.tag)=false/\dW x.ty x.au x.data=true:=by
 unfold sc at h
 grind
theorem zg(h:dz d l=true):fD l=true/\∀x∈l,sc d x=true:=by
 unfold dz at h
 grind
variable{S:aV}
theorem Ae(h:dz d l=true)(ho:∀t,ej S t=true->o6.contains (d,t)=true):jI S l=true:=by
 obtain⟨h1,h2⟩:=zg h;unfold jI;rw[bg,jf];refine⟨h1,λt ht=>?_⟩;obtain⟨a,b,c,e⟩:=EW (h2 t ht);have:ej S t.tag=false:=by grind
 rw[this,e];simp[my];omega
theorem E1(h:S.bG=[])(ha:S.at_=0)(t:Int):ej S t=false:=by
 unfold ej eS eZ
 grind
theorem aeu(t:Int)(h:ej (aJ da 0) t=true):o6.contains (0,t)=true:=by
 have:t=34665\/t=34853:=by
  have h:(([(⟨34665,2⟩:gU),⟨34853,3⟩].any λx=>x.tag==t)||(decide ((0:Int)≠0)&&(decide (t=0)||decide (t=0))))=true:=h
  grind
 rcases this with rfl|rfl<;>rfl
theorem Lv(t:Int)(h:ej (aJ da 1) t=true):o6.contains (1,t)=true:=by
 have:t=513\/t=514:=by have h:(([]:List gU).any (λx=>x.tag==t)||(decide ((513:Int)≠0)&&(decide (t=513)||decide (t=514))))=true:=h;simp_all
 rcases this with rfl|rfl<;>rfl
theorem um(t:Int)(h:ej (aJ da 2) t=true):t=40965:=by
 have h:(([(⟨40965,4⟩:gU)].any λx=>x.tag==t)||(decide ((0:Int)≠0)&&(decide (t=0)||decide (t=0))))=true:=h
 grind
theorem aew(t:Int):ej (aJ da 3) t=false:=E1 rfl rfl t
theorem aex(t:Int):ej (aJ da 4) t=false:=E1 rfl rfl t
theorem abw{b:List UInt8}(h1:b.length≠0)(h2:b.length<=65536):dW (iY b).ty (iY b).au (iY b).data=true:=by
 unfold dW iY;have:(kindOf 7).1 =1:=rfl
 grind
def qX(x:di)(m:Nat):Prop:=x.cP.length<=m/\x.bR.length<=m/\x.bZ.length<=m/\x.bp.length<=m/\x.first.length<=m
theorem LB(h:dz 2 x.bR=true):∀y∈x.bR,y.tag≠37500:=by intro y hy e;have:=(EW ((zg h).2 y hy)).2.2.1;rw[e] at this;cases this
theorem WX(h:hU x=0)(hm:qX x 65000)(hp:¬(x.bR.length=0/\x.bp.length=0/\x.bQ.length=0)):cK da 2 (je x)=true:=by
 obtain⟨-,-,h2,-,h4,-,hmk,-⟩:=tM h;obtain⟨-,m2,-,m4,-⟩:=hm;have hl:=VC x.bR (iY x.bQ);have ht:jI (aJ da 2) (if x.bQ.length=0 then x.bR else jG x.bR (iY x.bQ))=true:=by
  have h0:=Ae h2 λt q=>by rw[um t q];rfl
  split
  ·exact h0
  ·rename_i hmk0;unfold jI at h0⊢;rw[bg,jf] at h0⊢;refine⟨VE _ h0.1,λt ht=>?_⟩;rcases VD ht with rfl|ht
   ·rw[abw hmk0 hmk];have:ej (aJ da 2) (iY x.bQ).tag=false:=by
     cases q:ej (aJ da 2) (iY x.bQ).tag with
     |false=>rfl
     |true=>exact absurd (um _ q) (show¬((37500:Int)=40965) by decide)
    rfl
   ·exact h0.2 t ht
 unfold je cK;rw[ht];have hn:1<=bF (.mk (if x.bQ.length=0 then x.bR else jG x.bR (iY x.bQ)) (if x.bp.length=0 then .nil else .cons 40965 (.mk x.bp .nil []) .nil) [])/\
  bF (.mk (if x.bQ.length=0 then x.bR else jG x.bR (iY x.bQ)) (if x.bp.length=0 then .nil else .cons 40965 (.mk x.bp .nil []) .nil) [])<=65535:=by
  have hl0:1<=(jG x.bR (iY x.bQ)).length:=by unfold jG;simp;omega
  by_cases a:x.bQ.length=0
  ·by_cases b:x.bp.length=0
   ·rw[ar a,ar b];simp only[bF,cm,List.length_nil,gj];omega
   ·rw[ar a,ai b];simp only[bF,cm,List.length_nil,gj];omega
  ·by_cases b:x.bp.length=0
   ·rw[ai a,ar b];simp only[bF,cm,List.length_nil,gj];omega
   ·rw[ai a,ai b];simp only[bF,cm,List.length_nil,gj];omega
 rw[fS hn];by_cases b:x.bp.length=0
 ·rw[ar b];rfl
 ·rw[ai b];have hi:cK da 4 (.mk x.bp .nil [])=true:=by
   unfold cK;rw[Ae h4 λt q=>by rw[aex] at q;cases q];have:1<=bF (.mk x.bp .nil [])/\bF (.mk x.bp .nil [])<=65535:=by simp only[bF,cm,List.length_nil,gj];omega
   rw[fS this];rfl
  show((nh [40965]&&(true&&(cK da 4 (.mk x.bp .nil [])&&true))))=true;rw[hi];rfl
theorem Ry(h:hU x=0)(hm:qX x 65000)(hp:x.bZ.length≠0):cK da 3 (.mk x.bZ .nil [])=true:=by
 obtain⟨-,-,-,h3,-,-,-,-⟩:=tM h;obtain⟨-,-,m3,-,-⟩:=hm;unfold cK;rw[Ae h3 λt q=>by rw[aew] at q;cases q];have:1<=bF (.mk x.bZ .nil [])/\bF (.mk x.bZ .nil [])<=65535:=by simp[bF,cm];omega
 rw[fS this];rfl
theorem Xa(h:hU x=0)(hm:qX x 65000):fK da 0 (eC x).eK=true:=by
 obtain⟨-,h0,-,-,-,h1,-,ca⟩:=tM h;have hm':=hm;obtain⟨m0,m2,m3,m4,m1⟩:=hm';have hsub:(nh (kx (jd x))&&iB da (aJ da 0) (jd x))=true:=by
  unfold jd mS;by_cases a:x.bR.length=0/\x.bp.length=0/\x.bQ.length=0
  ·rw[ar a];by_cases b:x.bZ.length=0
   ·rw[ar b];rfl
   ·rw[ai b];show((nh [34853]&&(true&&(cK da 3 (.mk x.bZ .nil [])&&true))))=true;rw[Ry h hm b];rfl
  ·rw[ai a];by_cases b:x.bZ.length=0
   ·rw[ar b];show((nh [34665]&&(true&&(cK da 2 (je x)&&true))))=true;rw[WX h hm a];rfl
   ·rw[ai b];show((nh [34665,34853]&&(true&&(cK da 2 (je x)&&(true&&(cK da 3 (.mk x.bZ .nil [])&&true))))))=true;rw[WX h hm a,Ry h hm b];rfl
 have hs2:cm (jd x)<=2/\(x.cP.length=0->1<=cm (jd x)):=by
  unfold jd mS;by_cases a:x.bR.length=0/\x.bp.length=0/\x.bQ.length=0
  ·rw[ar a];by_cases b:x.bZ.length=0
   ·rw[ar b];simp only[cm];omega
   ·rw[ai b];simp only[cm];omega
  ·rw[ai a];by_cases b:x.bZ.length=0
   ·rw[ar b];simp only[cm];omega
   ·rw[ai b];simp only[cm];omega
 have hd0:cK da 0 (.mk x.cP (jd x) [])=true:=by
  unfold cK;rw[Ae h0 aeu,hsub];have:1<=bF (.mk x.cP (jd x) [])/\bF (.mk x.cP (jd x) [])<=65535:=by simp[bF];omega
  rw[fS this];rfl
 unfold eC;have hx:∀ds,fK da 0 (.mk x.cP (jd x) []::ds)=(decide ((0:Int)<=0)&&(cK da 0 (.mk x.cP (jd x) [])&&fK da 1 ds)):=λds=>rfl;simp only;rw[hx,hd0];by_cases a:x.first.length=0/\x.dq.length=0
 ·rw[ar a];rfl
 ·rw[ai a];have hd1:cK da 1 (.mk x.first .nil x.dq)=true:=by
   unfold cK;rw[Ae h1 Lv];have:1<=bF (.mk x.first .nil x.dq)/\bF (.mk x.first .nil x.dq)<=65535:=by simp only[bF,cm];split<;>omega
   rw[fS this];have:decide ((aJ da 1).at_≠0)=true:=rfl;rw[this];simp[iB,nh,kx]
  have hx:fK da 1 [.mk x.first .nil x.dq]=(decide ((0:Int)<=1)&&(cK da 1 (.mk x.first .nil x.dq)&&true)):=rfl;rw[hx,hd1];rfl
def yK(l:List aI):cF->List aI
 | .nil=>l
 | .cons _ (.mk tags _ _) r=>yK tags r
def qW(r:di):aO->Option di
 | .mk tags subs _=>match iI tags 37500 with
  |some v=>if v.ty=7 then some {r with bR:=oQ tags 37500,bQ:=v.data,bp:=yK r.bp subs} else none
  |none=>some {r with bR:=oQ tags 37500,bQ:=[],bp:=yK r.bp subs}
def rq(r:di):cF->Option di
 | .nil=>some r
 | .cons tag d s=>if tag=34853 then rq {r with bZ:=(match d with| .mk tags _ _=>tags)} s else(qW r d).bind λr=>rq r s
def vX(r:di):List aO->di
 |[]=>r
 | .mk tags _ blob::ds=>vX {r with first:=tags,dq:=blob} ds
def yS(t:lR):Option di:=match t.eK with
 |[]=>none
 | .mk tags subs _::ds=>(rq ⟨t.order,tags,[],[],[],[],[],[]⟩ subs).bind λr=>if hU (vX r ds)=0 then some (vX r ds) else none
theorem mf{l:List α}(h:l.length=0):l=[]:=qu.1 h
theorem aeH(h:dz 2 x.bR=true)(r:di)(hi:r.bp=[]):qW r (je x)=some {r with bR:=x.bR,bQ:=x.bQ,bp:=x.bp}:=by
 have hl:yK r.bp (if x.bp.length=0 then .nil else .cons 40965 (.mk x.bp .nil []) .nil)=x.bp:=by
  split
  ·rename_i q;rw[mf q];exact hi
  ·rfl
 unfold je qW;simp only;rw[hl];by_cases a:x.bQ.length=0
 ·rw[ar a,Zw (LB h),Y5 (LB h),mf a]
 ·rw[ai a];have e1:=Zx (iY x.bQ) x.bR;have e2:=drop_set (x:=iY x.bQ) (zg h).1 (LB h);rw[(show(iY x.bQ).tag=37500 from rfl)] at e1 e2;rw[e1,e2];rfl
theorem Tj(h:hU x=0):yS (eC x)=some x:=by
 obtain⟨-,-,h2,-,-,-,-,-⟩:=tM h;have hs:rq ⟨x.order,x.cP,[],[],[],[],[],[]⟩ (jd x)=some {x with first:=[],dq:=[]}:=by
  have hg:∀r:di,r.bZ=[]->rq r (mS x)=some {r with bZ:=x.bZ}:=by
   intro r hr;unfold mS;split
   ·rename_i q;rw[mf q,<-hr];rfl
   ·rfl
  unfold jd;split
  ·rename_i q;rw[hg _ rfl,mf q.1,mf q.2.1,mf q.2.2]
  ·show(if(34665:Int)=34853 then rq _ (mS x) else(qW _ (je x)).bind λr=>rq r (mS x))=_;rw[aeH h2 _ rfl];exact hg _ rfl
 have hf:vX {x with first:=[],dq:=[]} (if x.first.length=0/\x.dq.length=0 then[] else[.mk x.first .nil x.dq])=x:=by
  split
  ·rename_i q;show di.mk _ _ _ _ _ [] _ []=x;rw[<-mf q.1,<-mf q.2]
  ·rfl
 unfold yS eC;simp only;rw[hs];simp only[Option.bind];rw[hf,ar h]
end
section
structure gB where
 attr:Int
 size:Int
 at_:Int
 fV:Int
 fW:Int
 deriving DecidableEq
def ou(p:gB):Bool:=decide ((0<=p.attr/\p.attr<4294967296)/\(0<=p.size/\p.size<4294967296)/\(0<=p.at_/\p.at_<4294967296)/\(0<=p.fV/\p.fV<65536)/\(0<=p.fW/\p.fW<65536))
def fZ(o:Int)(p:gB):List UInt8:=aU p.attr.toNat 4 o++(aU p.size.toNat 4 o++(aU p.at_.toNat 4 o++(aU p.fV.toNat 2 o++aU p.fW.toNat 2 o)))
theorem FB(o:Int)(p:gB):(fZ o p).length=16:=by simp[fZ,eh]
theorem wC(o:Int):∀l:List gB,(l.flatMap (fZ o)).length=16*l.length
 |[]=>rfl
 |p::l=>by rw[ff,aR,FB,wC o l,cQ];omega
def LC(b:List UInt8)(p:Nat)(o:Int):gB:=⟨cn b p 4 o,cn b (p+4) 4 o,cn b (p+8) 4 o,cn b (p+12) 2 o,cn b (p+14) 2 o⟩
def placesOf(b:List UInt8)(o:Int):Nat->Nat->List gB
 |_,0=>[]
 |p,n+1=>LC b p o::placesOf b o (p+16) n
variable{b:List UInt8} {o:Int}
theorem aeK{pre post:List UInt8}{k:Nat}{p:gB}(e:b=pre++(fZ o p++post))(hk:k=pre.length)(ho:o=1\/o=2)(h:ou p=true):LC b k o=p:=by
 unfold ou at h;simp at h;obtain⟨a1,a2,a3,a4,a5⟩:=h;have e0:b=pre++(aU p.attr.toNat 4 o++(aU p.size.toNat 4 o++(aU p.at_.toNat 4 o++(aU p.fV.toNat 2 o++(aU p.fW.toNat 2 o++post))))):=by rw[e];simp[fZ]
 have e1:b=(pre++aU p.attr.toNat 4 o)++(aU p.size.toNat 4 o++(aU p.at_.toNat 4 o++(aU p.fV.toNat 2 o++(aU p.fW.toNat 2 o++post)))):=by rw[e0];simp
 have e2:b=(pre++aU p.attr.toNat 4 o++aU p.size.toNat 4 o)++(aU p.at_.toNat 4 o++(aU p.fV.toNat 2 o++(aU p.fW.toNat 2 o++post))):=by rw[e0];simp
 have h3:=oo (p:=k+8) e2 (by simp[eh,hk]) (.inr (.inr rfl)) ho (by omega);have e3:b=(pre++aU p.attr.toNat 4 o++aU p.size.toNat 4 o++aU p.at_.toNat 4 o)++(aU p.fV.toNat 2 o++(aU p.fW.toNat 2 o++post)):=by rw[e0];simp
 have h4:=oo (p:=k+12) e3 (by simp[eh,hk]) (.inr (.inl rfl)) ho (by omega);have e4:b=(pre++aU p.attr.toNat 4 o++aU p.size.toNat 4 o++aU p.at_.toNat 4 o++aU p.fV.toNat 2 o)++(aU p.fW.toNat 2 o++post):=by rw[e0];simp
 have h5:=oo (p:=k+14) e4 (by simp[eh,hk]) (.inr (.inl rfl)) ho (by omega);unfold LC;rw[(oo e0 hk (.inr (.inr rfl)) ho (by omega)),(oo (p:=k+4) e1 (by simp[eh,hk]) (.inr (.inr rfl)) ho (by omega)),h3,h4,h5];rw[lM a1.1,lM a2.1,lM a3.1,lM a4.1,lM a5.1]
theorem Ut(ho:o=1\/o=2):∀(l:List gB)(pre post:List UInt8)(k:Nat),b=pre++(l.flatMap (fZ o)++post)->k=pre.length->(∀p∈l,ou p=true)->placesOf b o k l.length=l
 |[],_,_,_,_,_,_=>rfl
 |p::l,pre,post,k,e,hk,h=>by
  rw[ff,dY] at e;rw[cQ,placesOf,aeK e hk ho (h p (by simp))]
  congr 1
  exact Ut ho l (pre++fZ o p) post (k+16) (by grind) (by simp[FB,hk]) λy hy=>h y (by grind)
def ju:List aV:=[⟨[],0,0,1⟩,⟨[],0,0,-1⟩]
def nQ:List aV:=[⟨[],0,0,-1⟩]
variable{sh:List aV}
theorem Uv(h:∀s∈sh,s.bG=[]/\s.at_=0)(hn:∀s,s<sh.length->(aJ sh s).next<0\/((s:Int)<(aJ sh s).next/\(aJ sh s).next<sh.length)):iu sh:=by
 have key:∀s,(aJ sh s).bG=[]/\(aJ sh s).at_=0:=by
  intro s;unfold aJ;cases q:sh[s]? with
  |none=>exact⟨rfl,rfl⟩
  |some x=>grind
 refine⟨λs=>⟨λx hx=>?_,λq=>absurd (key s).2 q⟩,λs _ x hx=>?_,hn⟩<;>grind
theorem Qm:iu ju:=by
 refine Uv (λs hs=>?_) λs hs=>?_
 ·simp[ju] at hs
  grind
 ·have:s=0\/s=1:=by simp[ju] at hs;omega
  rcases this with rfl|rfl<;>decide
theorem XR:iu nQ:=by
 refine Uv (λs hs=>?_) λs hs=>?_
 ·simp[nQ] at hs
  grind
 ·have:s=0:=by simp[nQ] at hs;omega
  rcases this with rfl
  decide
def km(o:Int)(l:List gB):aO:=.mk [⟨45056,7,4,[48,49,48,48]⟩,⟨45057,4,1,fj l.length 4⟩,⟨45058,7,((16*l.length:Nat):Int),l.flatMap (fZ o)⟩] .nil []
def fX(o:Int)(l:List gB)(view:List aI):lR:=⟨o,km o l::(if view.length=0 then[] else[.mk view .nil []])⟩
def kT(o:Int)(view:List aI):lR:=⟨o,[.mk view .nil []]⟩
def ko:List UInt8:=[77,80,70,0]
def mT(o:Int)(l:List gB)(view:List aI):Except Int (List UInt8):=
 if¬(o=1\/o=2)\/l.length<2 then .error 1
 else if l.all ou=false then .error 1
 else if dz 5 view=false then .error 6
 else if 65536<16*l.length then .error 7
 else if 65533<4+gJ (fX o l view) then .error 7
 else .ok (ko++fe (fX o l view) ju)
def Am(o:Int)(view:List aI):Except Int (List UInt8):=
 if¬(o=1\/o=2)\/view.length=0 then .error 1
 else if dz 5 view=false then .error 6
 else if 65533<4+gJ (kT o view) then .error 7
 else .ok (ko++fe (kT o view) nQ)
theorem X3{n:Nat}:dW 4 1 (fj n 4)=true:=by unfold dW;have:(kindOf 4).1 =4:=rfl;simp[this,tK]
variable{view:List aI}
theorem Xv{S:aV}{s:Nat}(hS:aJ sh s=S)(hl:S.bG=[])(ha:S.at_=0)(h:dz 5 view=true)(h0:view.length≠0)(hm:view.length<=65000):cK sh s (.mk view .nil [])=true:=by
 unfold cK;rw[hS,Ae h λt q=>by rw[E1 hl ha] at q;cases q];have:1<=bF (.mk view .nil [])/\bF (.mk view .nil [])<=65535:=by simp[bF,cm];omega
 rw[fS this];rfl
variable{l:List gB}
theorem RS(hl:2<=l.length/\16*l.length<=65536)(hv:dz 5 view=true)(hm:view.length<=65000):fK ju 0 (fX o l view).eK=true:=by
 have hd:cK ju 0 (km o l)=true:=by
  unfold km cK;have ht:jI (aJ ju 0) [⟨45056,7,4,[48,49,48,48]⟩,⟨45057,4,1,fj l.length 4⟩,⟨45058,7,((16*l.length:Nat):Int),l.flatMap (fZ o)⟩]=true:=by
   unfold jI;have m3:dW 7 ((16*l.length:Nat):Int) (l.flatMap (fZ o))=true:=by unfold dW;have:(kindOf 7).1 =1:=rfl;rw[wC];simp_all;omega
   rw[bg,jf];refine⟨by simp[fD],λt ht=>?_⟩;simp at ht;rw[(λt=>E1 rfl rfl t)];rcases ht with rfl|rfl|rfl
   ·rfl
   ·rfl
   ·simp_all;rfl
  rw[ht];rfl
 unfold fX;have hx:∀ds,fK ju 0 (km o l::ds)=(decide ((0:Int)<=0)&&(cK ju 0 (km o l)&&fK ju 1 ds)):=λds=>rfl;rw[hx,hd];by_cases a:view.length=0
 ·rw[ar a];rfl
 ·rw[ai a];have hx:fK ju 1 [.mk view .nil []]=(decide ((0:Int)<=1)&&(cK ju 1 (.mk view .nil [])&&true)):=rfl;rw[hx,Xv rfl rfl rfl hv a hm];rfl
theorem Xu(hv:dz 5 view=true)(h0:view.length≠0)(hm:view.length<=65000):fK nQ 0 (kT o view).eK=true:=by have hx:fK nQ 0 [.mk view .nil []]=(decide ((0:Int)<=0)&&(cK nQ 0 (.mk view .nil [])&&true)):=rfl;show fK nQ 0 [.mk view .nil []]=true;rw[hx,Xv rfl rfl rfl hv h0 hm];rfl
def indexOf(t:lR):Option (Int×List gB×List aI):=match t.eK with
 | .mk [a,b,c] _ _::ds=>
  if a.tag=45056/\a.ty=7/\a.data=[48,49,48,48]/\b.tag=45057/\b.ty=4/\b.data.length=4/\c.tag=45058/\c.ty=7/\2<=gF b.data/\c.data.length=16*gF b.data then
   match ds with
   |[]=>some (t.order,placesOf c.data t.order 0 (gF b.data),[])
   | .mk view _ _::_=>if dz 5 view=true then some (t.order,placesOf c.data t.order 0 (gF b.data),view) else none
  else none
 |_=>none
theorem aad(ho:o=1\/o=2)(hl:2<=l.length/\16*l.length<=65536)(hp:l.all ou=true)(hv:dz 5 view=true):indexOf (fX o l view)=some (o,l,view):=by
 have hb:gF (fj l.length 4)=l.length:=KX 4 _ (by omega);unfold fX km indexOf;simp only;rw[ar ⟨trivial,trivial,trivial,trivial,trivial,tK _ _,trivial,trivial,by rw[hb];exact hl.1,by rw[wC,hb]⟩,hb,(Ut ho l [] [] 0 (by simp) rfl λp hp'=>jf.1 hp p hp')]
 grind
theorem ahB{t:lR}(h:¬65533<4+gJ t):gJ t<4294967296:=by omega
theorem aac(h:mT o l view=.ok b)(hm:view.length<=65000):
 ∃r,b=ko++r/\r=fe (fX o l view) ju/\xg r ju=.ok (fX o l view,gK (fX o l view))/\indexOf (fX o l view)=some (o,l,view)/\b.length<=65533:=by
 unfold mT at h;split at h
 ·cases h
 ·rename_i h1;split at h
  ·cases h
  ·rename_i h2;split at h
   ·cases h
   ·rename_i h3;split at h
    ·cases h
    ·rename_i h4;split at h
     ·cases h
     ·rename_i h5;cases h;have ho:o=1\/o=2:=by omega
      have hv:dz 5 view=true:=by simpa using h3
      have hh:=RS (o:=o) (l:=l) ⟨by omega,by omega⟩ hv hm;refine⟨_,rfl,rfl,Xw ho Qm (by decide) (by simp[fX]) hh (ahB h5),aad ho ⟨by omega,by omega⟩ (by simpa using h2) hv,?_⟩;rw[aR,(Ah hh)];have:ko.length=4:=rfl;omega
end
section
structure bE where
 bX:Int
 data:List UInt8
 scan:List UInt8
 deriving DecidableEq
def oy(m:Int):Bool:=decide (208<=m/\m<=215)
def iw(m:Int):Bool:=decide (m=216\/m=217)
def kL(m:Int):Bool:=decide (192<=m/\m<=254)&&!oy m&&!iw m
def fE:List UInt8->Nat
 |[]=>0
 |b::t=>if b=255 then(match t with
  |[]=>0
  |c::_=>if c≠0/\oy c.toNat=false then 0 else fE t+1) else fE t+1
theorem Gw:∀l,fE l<=l.length
 |[]=>aB _
 |b::t=>by
  have ih:=Gw t;unfold fE
  grind
inductive Pq where
 |ok (l:List bE) (end_:Nat)
 |bad (at_:Nat) (e:Int)
 deriving DecidableEq
inductive XI where
 |last (s:bE) (rest:List UInt8)
 |more (s:bE) (rest:List UInt8)
 |short
 |form (behind:Nat)
def kv(first:Bool):List UInt8->XI
 |[]=>.short
 |[x]=>if x=255 then .short else .form 0
 |x::m::t=>
  if x≠255 then .form 0
  else if(first !=decide (m=216))||!(iw m.toNat||kL m.toNat) then .form 0
  else if m=217 then .last ⟨217,[],[]⟩ t
  else if m=216 then .more ⟨216,[],[]⟩ t
  else match t with
   |a::b::_=>
    let n:=a.toNat*256+b.toNat
    if n<2 then .form 2
    else if t.length<n then .short
    else
     let r:=t.drop n
     let k:=if m=218 then fE r else 0
     .more ⟨m.toNat,(t.drop 2).take (n -2),r.take k⟩ (r.drop k)
   |_=>.short
def lG(L:Nat):Nat->Bool->List UInt8->Pq
 |0,_,_=>.bad 0 0
 |f+1,first,r=>match kv first r with
  | .short=>.bad L 3
  | .form k=>.bad (L -r.length+k) 2
  | .last s t=>.ok [s] (L -t.length)
  | .more s t=>match lG L f false t with
   | .ok l e=>.ok (s::l) e
   |x=>x
def ofM(b:List UInt8):Pq:=lG b.length (b.length+1) true b
def mr(s:bE):Bool:=kL s.bX&&decide (s.data.length<=65533)&&(s.scan.isEmpty||(decide (s.bX=218)&&decide (fE s.scan=s.scan.length)))
def ll(s:bE)(m:Int):Bool:=decide (s.bX=m)&&s.data.isEmpty&&s.scan.isEmpty
def iJ:List bE->Bool
 |[]=>false
 |[s]=>ll s 217
 |s::t=>mr s&&iJ t
def mj:List bE->Bool
 |[]=>false
 |s::t=>ll s 216&&iJ t
def dF(s:bE):List UInt8:=
 if iw s.bX then[255,UInt8.ofNat s.bX.toNat]
 else[255,UInt8.ofNat s.bX.toNat,UInt8.ofNat ((s.data.length+2)/256),UInt8.ofNat ((s.data.length+2)%256)]++s.data++s.scan
def dc(l:List bE):List UInt8:=l.flatMap dF
theorem pf(s:bE)(l:List bE):dc (s::l)=dF s++dc l:=rfl
theorem abl:∀{l:List bE},iJ l=true->∃(m:UInt8)(t:List UInt8),dc l=255::m::t/\m≠0/\oy m.toNat=false
 |[],h=>by cases h
 |s::t,h=>by
  have key:(192<=s.bX/\s.bX<=254/\oy s.bX=false):=by
   cases t with
   |nil=>simp[iJ,ll] at h;rw[h.1.1];decide
   |cons s' t=>simp[iJ,mr,kL] at h;exact⟨h.1.1.1.1.1.1,h.1.1.1.1.1.2,h.1.1.1.1.2⟩
  obtain⟨k1,k2,k3⟩:=key;have hm:((UInt8.ofNat s.bX.toNat).toNat:Int)=s.bX:=by rw[xw];omega
  refine⟨UInt8.ofNat s.bX.toNat,?_⟩;have e:∃t',dF s=255::UInt8.ofNat s.bX.toNat::t':=by unfold dF;split<;>simp_all
  obtain⟨t',e⟩:=e;refine⟨t'++dc t,by rw[pf,e];rfl,?_,by rw[hm];exact k3⟩;intro h0;rw[h0] at hm;simp at hm;omega
theorem M4:∀(l:List UInt8)(m:UInt8)(t:List UInt8),fE l=l.length->m≠0->oy m.toNat=false->fE (l++255::m::t)=l.length
 |[],m,t,_,h1,h2=>by unfold fE;simp_all
 |b::l,m,t,h,h1,h2=>by
  have hl:fE l=l.length/\(b=255->∃c r,l=c::r/\¬(c≠0/\oy c.toNat=false)):=by
   unfold fE at h
   grind
  have ih:=M4 l m t hl.1 h1 h2;rw[jg];unfold fE
  grind
variable{s:bE}
theorem afB(x:List UInt8)(h:ll s 217=true):kv false (dF s++x)=.last s x:=by obtain⟨m,d,c⟩:=s;simp[ll] at h;obtain⟨⟨rfl,rfl⟩,rfl⟩:=h;rfl
theorem afA(x:List UInt8)(h:ll s 216=true):kv true (dF s++x)=.more s x:=by obtain⟨m,d,c⟩:=s;simp[ll] at h;obtain⟨⟨rfl,rfl⟩,rfl⟩:=h;rfl
theorem afC(h:mr s=true)(m:UInt8)(t:List UInt8)(h1:m≠0)(h2:oy m.toNat=false):kv false (dF s++255::m::t)=.more s (255::m::t):=by
 obtain⟨k,d,c⟩:=s;simp[mr,kL,List.isEmpty_iff] at h;obtain⟨⟨⟨⟨⟨a1,a2⟩,a3⟩,a4⟩,a5⟩,a6⟩:=h;have hm:((UInt8.ofNat k.toNat).toNat:Int)=k:=by rw[xw];omega
 have n216:UInt8.ofNat k.toNat≠216:=by intro e;rw[e] at hm;rw[<-hm] at a4;exact absurd a4 (by decide)
 have n217:UInt8.ofNat k.toNat≠217:=by intro e;rw[e] at hm;rw[<-hm] at a4;exact absurd a4 (by decide)
 unfold dF;rw[ai (by simp[a4])];simp;dsimp only[kv];rw[ai (by simp)];have hh:kL ((UInt8.ofNat k.toNat).toNat:Int)=true:=by rw[hm];simp[kL,a1,a2,a3,a4]
 rw[(show((false !=decide (UInt8.ofNat k.toNat=216))||!(iw ((UInt8.ofNat k.toNat).toNat:Int)||kL ((UInt8.ofNat k.toNat).toNat:Int)))=false from by rw[hh,fR n216];simp),ai (by simp),ai n217,ai n216];have hn:(UInt8.ofNat ((d.length+2)/256)).toNat*256+(UInt8.ofNat ((d.length+2)%256)).toNat=d.length+2:=by rw[xw,xw];omega
 rw[hn,ai (by omega),ai (by simp)];have e1:(UInt8.ofNat ((d.length+2)/256)::UInt8.ofNat ((d.length+2)%256)::(d++(c++255::m::t))).drop (d.length+2)=c++255::m::t:=by simp
 rw[e1];have e2:(if UInt8.ofNat k.toNat=218 then fE (c++255::m::t) else 0)=c.length:=by
  rcases a6 with rfl|⟨a6,a7⟩
  ·split
   ·exact M4 [] m t rfl h1 h2
   ·rfl
  ·rw[ar (by rw[a6];rfl),M4 c m t a7 h1 h2]
 rw[e2];simp;omega
variable{l:List bE}
theorem aiy(h:iJ l=true):l.length<=(dc l).length:=by
 induction l with
 |nil=>simp
 |cons s t ih=>
  rw[pf,aR,cQ];have:1<=(dF s).length:=by unfold dF;split<;>simp<;>omega
  cases t with
  |nil=>grind
  |cons s' t=>have:=ih (by simp[iJ] at h;exact h.2);omega
theorem Tg(L:Nat)(x:List UInt8):∀(l:List bE)(f:Nat),iJ l=true->l.length<f->lG L f false (dc l++x)=.ok l (L -x.length)
 |[],_,h,_=>by cases h
 |[s],f+1,h,_=>by
  have:dc [s]=dF s:=by simp[dc]
  rw[this];unfold lG;rw[afB x h]
 |s::s'::t,f+1,h,hf=>by have h':=((bg _ _).mp h).2;obtain⟨m,u,e,h1,h2⟩:=abl h';have ih:=Tg L x (s'::t) f h' (by grind);rw[pf,dY];unfold lG;rw[e] at ih⊢;rw[jg,jg] at ih⊢;rw[afC (((bg _ _).mp h).1) m (u++x) h1 h2];simp_all
 |_::_,0,_,hf=>by grind
theorem abB(h:mj l=true)(x:List UInt8):ofM (dc l++x)=.ok l (dc l).length:=by
 cases l with
 |nil=>cases h
 |cons s t=>
  simp[mj] at h;unfold ofM;rw[pf,dY];unfold lG;rw[afA _ h.1];have hl:t.length<(dF s++(dc t++x)).length:=by
   have:=aiy h.2;have:1<=(dF s).length:=by unfold dF;split<;>simp<;>omega
   grind
  simp only[Tg _ x t _ h.2 hl]
  grind
end
section
theorem Xg(a b:UInt8):UInt8.ofNat ((a.toNat*256+b.toNat)/256)=a/\UInt8.ofNat ((a.toNat*256+b.toNat)%256)=b:=by have hb:=b.toNat_lt;rw[(show(a.toNat*256+b.toNat)/256=a.toNat from by omega)];simp
theorem aim(m:UInt8):UInt8.ofNat ((m.toNat:Int)).toNat=m:=by simp
variable{t:List UInt8}
theorem Cl{b:UInt8}(h:b≠255):fE (b::t)=fE t+1:=by
 conv=>lhs;unfold fE
 grind
theorem afz:fE [255]=0:=rfl
theorem MZ(c:UInt8)(r:List UInt8):fE (255::c::r)=if c≠0/\oy c.toNat=false then 0 else fE (c::r)+1:=by rw[fE,ar rfl]
theorem Vu:∀l:List UInt8,fE (l.take (fE l))=fE l
 |[]=>rfl
 |b::t=>by
  have ih:=Vu t;by_cases hb:b=255
  ·subst hb;cases t with
   |nil=>rfl
   |cons c r=>
    rw[MZ];by_cases hc:c≠0/\oy c.toNat=false
    ·rw[ar hc];rfl
    ·rw[ai hc,nA];have h5:c≠255:=by
      intro h5;apply hc;rw[h5];exact⟨by decide,rfl⟩
     rw[Cl h5] at ih⊢;rw[nA] at ih⊢;rw[MZ,ai hc,ih]
  ·rw[Cl hb,nA,Cl hb,ih]
variable{l:List UInt8} {s:bE}
theorem Vw(h:kv true l=.more s t):ll s 216=true/\l=dF s++t:=by
 cases l with
 |nil=>cases h
 |cons x l=>
  cases l with
  |nil=>dsimp only[kv] at h;split at h<;>grind
  |cons m l=>
   dsimp only[kv] at h;split at h
   ·cases h
   ·rename_i h1;split at h
    ·cases h
    ·rename_i h2;split at h
     ·cases h
     ·rename_i h3;split at h
      ·rename_i h4;injection h with h5 h6;subst h5 h6 h4;refine⟨rfl,?_⟩;have:x=255:=qp.1 h1;subst this;rfl
      ·rename_i h4;exfalso;apply h2;rw[fR h4];rfl
theorem Vv{f:Bool}(h:kv f l=.last s t):ll s 217=true/\l=dF s++t:=by
 cases l with
 |nil=>cases h
 |cons x l=>
  cases l with
  |nil=>dsimp only[kv] at h;split at h<;>grind
  |cons m l=>
   dsimp only[kv] at h;split at h
   ·cases h
   ·rename_i h1;split at h
    ·cases h
    ·rename_i h2;split at h
     ·rename_i h3;injection h with h5 h6;subst h5 h6 h3;refine⟨rfl,?_⟩;have:x=255:=qp.1 h1;subst this;rfl
     ·split at h
      ·cases h
      ·split at h
       ·split at h
        ·cases h
        ·split at h
         ·cases h
         ·cases h
       ·cases h
theorem Vx(h:kv false l=.more s t):mr s=true/\l=dF s++t:=by
 cases l with
 |nil=>cases h
 |cons x l=>
  cases l with
  |nil=>
   dsimp only[kv] at h;split at h
   ·cases h
   ·cases h
  |cons m l=>
   dsimp only[kv] at h;split at h
   ·cases h
   ·rename_i h1;split at h
    ·cases h
    ·rename_i h2;split at h
     ·cases h
     ·rename_i h3;split at h
      ·rename_i h4;exfalso;apply h2;rw[fS h4];rfl
      ·rename_i h4;have hx:x=255:=qp.1 h1;have hm:kL (m.toNat:Int)=true:=by
        cases q:kL (m.toNat:Int) with
        |true=>rfl
        |false=>
         exfalso;apply h2;rw[q,fR h4];have:iw (m.toNat:Int)=false:=by
          unfold iw;rw[fR]
          rintro (e|e)
          ·exact h4 (nC.1 (by have:(216:UInt8).toNat=216:=rfl;omega))
          ·exact h3 (nC.1 (by have:(217:UInt8).toNat=217:=rfl;omega))
         rw[this];rfl
       cases l with
       |nil=>cases h
       |cons a l=>
        cases l with
        |nil=>cases h
        |cons b l=>
         dsimp only at h;split at h
         ·cases h
         ·rename_i h5;split at h
          ·cases h
          ·rename_i h6;injection h with h7 h8;have hb:=b.toNat_lt;have ha:=a.toNat_lt;have hs:=Gw ((a::b::l).drop (a.toNat*256+b.toNat));have e0:(a::b::l).drop (a.toNat*256+b.toNat)=l.drop (a.toNat*256+b.toNat -2):=by
            obtain⟨k,hk⟩:∃k,a.toNat*256+b.toNat=k+2:=⟨a.toNat*256+b.toNat -2,by omega⟩;rw[hk];rfl
           have hlen:l.length+2>=a.toNat*256+b.toNat:=by simpa using h6
           rw[e0] at hs h7 h8;have hd:((a::b::l).drop 2)=l:=rfl;rw[hd] at h7;have ik:(l.take (a.toNat*256+b.toNat -2)).length+2=a.toNat*256+b.toNat:=by rw[dH];omega
           have hal:iw (m.toNat:Int)=false:=by simp only[kL,bg,sZ] at hm;exact hm.2
           subst h7 h8;constructor
           ·unfold mr;simp only[hm,fP,bg,bV,qn,List.isEmpty_iff];refine⟨by omega,?_⟩;by_cases hq:m=218
            ·right;rw[ar hq];refine⟨by rw[hq];rfl,?_⟩;rw[Vu,dH];omega
            ·left;rw[ai hq];rfl
           ·unfold dF;rw[ai (by simp[hal])];simp only[ik,aim,(Xg a b).1,(Xg a b).2,hx,jg,iF,dY];rw[mD,mD]
theorem Th(L:Nat):∀(f:Nat)(r:List UInt8)(l:List bE)(e:Nat),r.length<=L->lG L f false r=.ok l e->iJ l=true/\∃x,r=dc l++x/\e=L -x.length
 |0,_,_,_,_,h=>by cases h
 |f+1,r,l,e,hr,h=>by
  unfold lG at h;split at h
  ·cases h
  ·cases h
  ·rename_i s t hs;cases h;obtain⟨h1,h2⟩:=Vv hs;exact⟨h1,t,by rw[h2];simp[dc],rfl⟩
  ·rename_i s t hs;obtain⟨h1,h2⟩:=Vx hs;split at h
   ·rename_i l' e' h3;cases h;obtain⟨a,x,b,c⟩:=Th L f t l' _ (by rw[h2] at hr;simp at hr;omega) h3;refine⟨?_,x,by rw[pf,dY,<-b,h2],c⟩;cases l' with
    |nil=>cases a
    |cons s' l'=>simp[iJ,h1,a]
   ·rename_i q;rw[h] at q;exact absurd rfl (q _ _)
variable{b:List UInt8}
theorem Ti{l:List bE}{e:Nat}(h:ofM b=.ok l e):mj l=true/\e<=b.length/\dc l=b.take e/\∃r,l=⟨216,[],[]⟩::r/\iJ r=true:=by
 unfold ofM at h;unfold lG at h;split at h
 ·cases h
 ·cases h
 ·rename_i s t hs;obtain⟨h1,h2⟩:=Vv hs;rw[h2] at hs;have:s=⟨217,[],[]⟩:=by
   obtain⟨m,d,c⟩:=s;simp[ll] at h1;obtain⟨⟨rfl,rfl⟩,rfl⟩:=h1;rfl
  rw[this] at hs;cases hs
 ·rename_i s t hs;obtain⟨h1,h2⟩:=Vw hs;have hs0:s=⟨216,[],[]⟩:=by
   obtain⟨m,d,c⟩:=s;simp[ll] at h1;obtain⟨⟨rfl,rfl⟩,rfl⟩:=h1;rfl
  split at h
  ·rename_i l' e' h3;cases h;obtain⟨a,x,k,c⟩:=Th b.length b.length t l' _ (by rw[h2];simp) h3;have hb:b=(dF s++dc l')++x:=by rw[dY,<-k,<-h2]
   have hl:b.length=(dF s++dc l').length+x.length:=by rw[hb,aR]
   refine⟨by simp[mj,h1,a],by omega,?_,l',by rw[hs0],a⟩;rw[pf,(show e=(dF s++dc l').length from by omega)];rw[hb,List.take_left]
  ·rename_i q;rw[h] at q;exact absurd rfl (q _ _)
def pC(m:Int):Bool:=decide (224<=m/\m<=239)
def nW(b:List UInt8):Bool:=match ofM b with
 | .ok l e=>decide (e=b.length)&&(l.any (λs=>s.bX==218)&&l.all λs=>!pC s.bX)
 |_=>false
def mR:List UInt8:=[69,120,105,102,0,0]
def fm:List UInt8:=[73,67,67,95,80,82,79,70,73,76,69,0]
def iy(x:di):Except Int (List UInt8):=
 if hU x≠0 then .error (hU x) else if 65533<6+gJ (eC x) then .error 7 else .ok (mR++fe (eC x) da)
def PQ(b:List UInt8):Option di:=
 if 65533<b.length then none else if mR.isPrefixOf b=true then(match xg (b.drop 6) da with| .ok (t,_)=>yS t| .error _=>none) else none
theorem AQ{x:di}(h:iy x=.ok b)(hm:qX x 65000):PQ b=some x/\mR.isPrefixOf b=true/\b.length<=65533/\b=mR++fe (eC x) da/\xg (fe (eC x) da) da=.ok (eC x,gK (eC x)):=by
 unfold iy at h;split at h
 ·cases h
 ·rename_i h1;have h1:=qp.1 h1;split at h
  ·cases h
  ·rename_i h2;injection h with h;have hh:=Xa h1 hm;have hw:=Xw (tM h1).1 JX (by decide) (by simp[eC]) hh (by omega);have hl:b.length<=65533:=by rw[<-h,aR,(Ah hh)];have:mR.length=6:=rfl;omega
   refine⟨?_,(by rw[<-h];rw[uW];exact aiQ _ _),hl,h.symm,hw⟩;unfold PQ;rw[ai (by omega),<-h];have:(mR++fe (eC x) da).drop 6=fe (eC x) da:=rfl;rw[this,hw];exact Tj h1
def fJ(b:List UInt8):List (List UInt8):=if b.length=0 then[] else[fm++1::1::b]
structure qy where
 aS:di
 cV:List UInt8
 core:List UInt8
 dN:List UInt8
 at_:Nat
 cA:Nat
def D8(b:List UInt8):List bE:=match ofM b with
 | .ok l _=>l
 |_=>[]
def mc(x:qy)(bC:List UInt8):List bE:=
 ⟨216,[],[]⟩::⟨225,bC,[]⟩::((if x.dN.length=0 then[] else[⟨226,x.dN,[]⟩])++((fJ x.cV).map (λc=>⟨226,c,[]⟩)++(D8 x.core).tail))
theorem D9(h:nW b=true):∃r,ofM b=.ok (⟨216,[],[]⟩::r) b.length/\D8 b=⟨216,[],[]⟩::r/\iJ r=true/\dc (⟨216,[],[]⟩::r)=b/\(∃s∈r,s.bX=218)/\∀s∈r,pC s.bX=false:=by
 unfold nW at h;split at h
 ·rename_i l e q;simp at h;obtain⟨h1,⟨s,hs,hm⟩,h3⟩:=h;obtain⟨a,b1,c,r,hr,hmid⟩:=Ti q;subst hr;refine⟨r,by rw[q,h1],by unfold D8;rw[q],hmid,by rw[c,h1,rG],?_,λs hs=>h3 s (by grind)⟩
  grind
 grind
theorem KM{l:List bE}(h:mr s=true)(hl:iJ l=true):iJ (s::l)=true:=by
 cases l with
 |nil=>cases hl
 |cons s' l=>simp[iJ,h,hl]
theorem Ma{m:Int}{d:List UInt8}(hm:m=225\/m=226)(h:d.length<=65533):mr ⟨m,d,[]⟩=true:=by
 unfold mr;rcases hm with rfl|rfl
 ·simp;exact⟨rfl,h⟩
 ·simp;exact⟨rfl,h⟩
theorem Qz{c:List UInt8}(hb:b.length<=65519)(h:c∈fJ b):c.length<=65533:=by
 unfold fJ at h;split at h
 ·grind
 ·rw[kC.1 h];have:fm.length=12:=rfl
  grind
variable{bC:List UInt8} {x:qy}
theorem RM(hc:nW x.core=true)(hcam:bC.length<=65533)(hi:x.cV.length<=65519)(hm:x.dN.length<=65533):mj (mc x bC)=true:=by
 obtain⟨r,-,h1,h2,-⟩:=D9 hc;unfold mc;rw[h1];refine KM (Ma (.inl rfl) hcam) ?_;have k:iJ ((fJ x.cV).map (λc=>⟨226,c,[]⟩)++r)=true:=by
  have hl:=λc=>Qz (c:=c) hi;generalize fJ x.cV=cs at hl⊢;induction cs with
  |nil=>grind
  |cons c cs ih=>exact KM (Ma (.inr rfl) (hl c (by simp))) (ih λc hc=>hl c (by grind))
 split
 ·grind
 ·exact KM (Ma (.inr rfl) hm) k
def jB(x:qy)(bC:List UInt8):List UInt8:=dc (mc x bC)
structure Dn(x:qy)(bC:List UInt8):Prop where
 app:iy x.aS=.ok bC
 rows:qX x.aS 65000
 cV:x.cV.length<=65519
 core:nW x.core=true
 dN:x.dN.length=0\/(ko.isPrefixOf x.dN=true/\x.dN.length<=65533)
theorem Z8(h:Dn x bC):ofM (jB x bC)=.ok (mc x bC) (jB x bC).length:=by obtain⟨-,-,hl,-⟩:=AQ h.app h.rows;have:=abB (RM h.core hl h.cV (by rcases h.dN with q|q;omega;exact q.2)) [];rw[eH] at this;exact this
end
namespace Lt
section
noncomputable def dj(m:Nat->Nat->Option Value)(w w':World)(b i:Nat):Option Value:=
 if b<w.heap.size then m b i else fc w' b i
def Kn(m:Nat->Nat->Option Value)(w:World):Prop:=∀b i v,m b i=some v->fc w b i=some v
variable{m:Nat->Nat->Option Value} {w w':World}
theorem Kn.below(h:Kn m w)(B:RowKit.Below w.heap.size w w'):Kn m w':=λb i v hv=>
 (oe (B.block b (oU (h b i v hv)))).trans (h b i v hv)
theorem Kn.new(h:Kn m w)(B:RowKit.Below w.heap.size w w'):Kn (dj m w w') w':=λb i v hv=>by
 unfold dj at hv;split at hv
 ·exact h.below B b i v hv
 ·exact hv
theorem Kn.mono(h:Kn m w):∀b i v,m b i=some v->dj m w w' b i=some v:=λb i v hv=>by unfold dj;rw[ar (oU (h b i v hv))];exact hv
def IT(v:Value):Prop:=aY v\/∃xs,v=.tuple xs/\∀x∈xs.toList,aY x
theorem IT.rel{v:Value}(h:IT v){ρ:Ren}{x:Value}(r:aF ρ v x):bj ρ.lit v x:=by
 rcases h with h|⟨xs,rfl,h⟩
 ·exact h.rel r
 ·cases r with
  |tuple r=>exact .aH (aY.FX h r)
variable{P:Program} {args:List Value} {f:FuncId} {pv:Value}
theorem BZ(hp:∀a∈args,aY a)
 (C:∀(m:Nat->Nat->Option Value)(args':Array Value)(w:World),Kn m w->aP m args args'.toList->
  Calls P f args' w λe w'=>∃v',e=.returned v'/\RowKit.Below w.heap.size w w'/\bj (dj m w w') pv v'):mI P f args pv:=by
 intro h nx ρ args' cs w A H N;obtain⟨e,w',fr,⟨v',rfl,B,L⟩,c,hfn,l1,l2,l3,fn,l4,l5⟩:=C ρ.lit args' w H.lit (aY.FX (ρ:=ρ) hp A) cs;have hm:Kn ρ.lit w:=H.lit
 let ρ2:Ren:=⟨ρ.cq,dj ρ.lit w w'⟩
 have E:Ext ρ ρ2:=⟨λ_ _ h=>h,λb i u hu=>hm.mono b i u hu⟩;refine⟨ρ2,fr,w',fn,v',c,l1,l2,l3,⟨hfn,l4⟩,l5,(show bj ρ2.lit pv v' from L).to,⟨?_,H.inj,hm.new B,?_⟩,⟨B.os,B.tape,B.output,B.size,λb hb _=>B.block b hb,λb _ ho=>ho,aB _,λ_ _=>rfl,E.lit,λb i u hu=>?_⟩⟩
 ·intro o ob ho;obtain⟨L,l1,l2⟩:=H.obj o ob ho;exact⟨L,l1,(l2.mono E).block (B.block _ l2.lt)⟩
 ·intro b i u hu o ob L ho hL;have hu:dj ρ.lit w w' b i=some u:=hu;unfold dj at hu;split at hu
  ·exact H.free b i u hu o ob L ho hL
  ·obtain⟨L1,l1,l2⟩:=H.obj o ob ho;obtain rfl:=bu (l1.symm.trans hL);have:=l2.lt;omega
 ·have hu:dj ρ.lit w w' b i=some u:=hu;unfold dj at hu;split at hu
  ·exact .inl hu
  ·exact .inr (.inl (by omega))
theorem xU(R:mI P f args pv)(hp:IT pv)(hm:Kn m w){args':Array Value}(A:aP m args args'.toList):
 Calls P f args' w λe w'=>∃v',e=.returned v'/\RowKit.Below w.heap.size w w'/\bj (dj m w w') pv v':=by
 intro cs
 let ρ:Ren:=⟨λ_=>none,m⟩
 have H0:bh ρ .nil w:=⟨λo ob ho=>(by rw[Tr.get_nil] at ho;cases ho),λo o' L L' ob ob' h1=>(by rw[Tr.get_nil] at h1;cases h1),hm,λb i v hv o ob L ho=>(by rw[Tr.get_nil] at ho;cases ho)⟩;obtain⟨ρ',fr,w',fn,v',s,a1,a2,a3,a4,a5,a6,a7,M⟩:=R .nil 0 ρ args' cs w (show aP ρ.lit args args'.toList from A).to H0 (λ_ _ _=>rfl);refine⟨.returned v',w',fr,⟨v',rfl,⟨M.os,M.tape,M.output,M.size,λb hb=>M.block b hb sk⟩,bj.mono (λb i u hu=>?_) (hp.rel a6)⟩,s,a4.1,a1,a2,a3,fn,a4.2,a5⟩;unfold dj;rcases M.eU b i u hu with h|h|h
 ·have h:m b i=some u:=h;rw[ar (oU (hm b i u h))];exact h
 ·rw[ai (by omega)];exact a7.lit b i u hu
 ·exact absurd h sk
end
section
def rF:List Value->Option (List Int)
 |[]=>some []
 | .int .u8 b::l=>ob (rF l) λxs=>some (b::xs)
 |_=>none
theorem Xl:∀{l:List Value}{xs:List Int},rF l=some xs->xs.length=l.length/\∀i,i<xs.length->l[i]? =some (.int .u8 (xs.getD i 0))
 |[],_,e=>by cases e;exact⟨rfl,λi h=>by simp at h⟩
 |v::l,xs,e=>by
  unfold rF at e;split at e
  ·rename_i q;cases q
  ·rename_i b l' q;cases q;replace e:=af e;obtain⟨ys,h1,e⟩:=e;cases e;obtain⟨k1,k2⟩:=Xl h1;refine⟨by simp[k1],λi h=>?_⟩;cases i with
   |zero=>simp
   |succ i=>simp at h;simpa using k2 i h
  ·cases e
variable{β:Type}
def jQ(x:Value)(K:List Int->Option β):Option β:=match x with
 | .func (.via n _ 0 true) cs _=>cond (Nat.ble n cs.toList.length) (ob (rF (cs.toList.take n)) K) none
 |_=>none
theorem A7{m:Nat->Nat->Option Value}{w:World}(hm:Kn m w){x v:Value}{K:List Int->Option β}{b:β}(e:jQ x K=some b)(h:bj m x v):
 ∃(xs:List Int),K xs=some b/\((∃a c,v=.slice (some a) xs.length c/\xs.length<=c/\∀i,i<xs.length->w.cell? (a.add i)=some (.int .u8 (xs.getD i 0)))\/(xs=[]/\∃c,v=.slice none 0 c)):=by
 unfold jQ at e;split at e
 case h_2=>cases e
 rename_i n p cs ys;obtain⟨e1,e2⟩:=aT e;clear e;have e1:=cI e1;replace e2:=af e2;obtain⟨xs,h1,h2⟩:=e2;obtain⟨k1,k2⟩:=Xl h1;have hl:xs.length=n:=by rw[k1,dH];omega
 refine⟨xs,h2,?_⟩;cases h with
 |gH r q hs hn=>
  rename_i c a zs;subst hl;refine .inl ⟨a,c,rfl,hn,λi hi=>?_⟩;have h3:=k2 i hi;have h4:cs.toList[i]? =some (.int .u8 (xs.getD i 0)):=by rw[<-h3,List.getElem?_take_of_lt hi]
  obtain⟨y,y1,y2⟩:=aP.get r h4;cases y2;have h5:=BD rfl (hm _ _ _ (q i _ y1));rw[<-h5];obtain⟨blk,off,sp⟩:=a;have hs:sp=none:=hs;subst hs;unfold Addr.add;split
  ·rename_i h0;subst h0;rfl
  ·rfl
 |@fN c a=>
  have:xs=[]:=jJ hl;subst this;rcases a with _|a
  ·exact .inr ⟨rfl,c,rfl⟩
  ·exact .inl ⟨a,c,rfl,gZ _,λi hi=>by simp at hi⟩
end
end Lt
end Go.Proofs.YtfdojmichbgpiaaGreatDoor

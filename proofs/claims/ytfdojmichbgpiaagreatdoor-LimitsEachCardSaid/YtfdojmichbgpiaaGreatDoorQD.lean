import Derived.Test.YtfdojmichbgpiaaGreatDoorQC
namespace Go.Proofs.YtfdojmichbgpiaaGreatDoor
namespace Lt
section
variable{β:Type}
section
variable{σ:Nm} {st:St} {tm:Tr Value} {h:Heap} {nx:Nat}
theorem aM.swap(R:aM σ st tm h nx){id:Nat}{x:Option Nat×Nat}{so:SO}{h':Heap}{nx':Nat}(hnx:nx<=nx')(hx:∀o n,x=(some o,n)->o<nx')(hw:∀o n,x=(some o,n)->nx<=o\/∃id' n',σ id'=some (some o,n'))
 (iC:∀id' so' o n,id'≠id->st.h.get id'=some so'->σ id'=some (some o,n)->h'.get o=h.get o/\∀m k,x=(some m,k)->o≠m) (d:DO (σ.add st.sx x) h' st.sx so):
 NX nx σ (σ.add st.sx x)/\aM (σ.add st.sx x) {st with h:=(st.h.del id).set st.sx so,sx:=st.sx+1} tm h' nx':=by
 have hn:=R.fresh _ (aB _);have E:iG σ (σ.add st.sx x):=Nm.AJ hn;have old:∀id' so',((st.h.del id).set st.sx so).get id'=some so'->id'=st.sx/\so'=so\/(id'≠st.sx/\id'≠id/\st.h.get id'=some so'):=by
  intro id' so' h1;rw[Tr.bD] at h1;by_cases e:id'=st.sx
  ·grind
  ·rw[Tr.kK] at h1;by_cases e2:id'=id<;>grind
 refine⟨NX.add hn hw,⟨λt sv hv=>?_,λid' so' h1=>?_,λid1 id2 so1 so2 o n1 n2 a1 a2 b1 b2=>?_,λid' o m hm=>?_,λid' hid=>?_⟩⟩
 ·obtain⟨v,a,b⟩:=R.tm t sv hv;exact⟨v,a,b.mono E⟩
 ·rcases old id' so' h1 with⟨e1,e2⟩|⟨e1,e2,e3⟩
  ·rw[e1,e2];exact d
  ·exact(R.obj id' so' e3).mono E λo n1 g1=>(iC id' so' o n1 e2 e3 g1).1
 ·rcases old id1 so1 a1 with⟨e1,_⟩|⟨e1,e2,e3⟩
  ·rcases old id2 so2 a2 with⟨f1,_⟩|⟨f1,f2,f3⟩
   ·rw[e1,f1]
   ·rw[e1,Nm.eI] at b1;rw[Nm.kI f1] at b2
    grind
  ·rw[Nm.kI e1] at b1;rcases old id2 so2 a2 with⟨f1,_⟩|⟨f1,f2,f3⟩
   ·rw[f1,Nm.eI] at b2
    grind
   ·rw[Nm.kI f1] at b2;exact R.inj _ _ _ _ _ _ _ e3 f3 b1 b2
 ·by_cases e:id'=st.sx
  ·rw[e,Nm.eI] at hm;exact hx o m (bu hm)
  ·rw[Nm.kI e] at hm;have:=R.lt _ _ _ hm;omega
 ·have hid:st.sx+1<=id':=hid;rw[Nm.kI (by omega)];exact R.fresh id' (by omega)
end
def eX(E:Nat)(x:Value)(K:Nat->List Value->Option β):Option β:=match x with
 | .func (.via n _ _ true) cs _=>cond (Nat.ble (n*E) cs.toList.length) (K n (cs.toList.take (n*E))) none
 |_=>none
def z8(st:St)(E:Nat)(x:SV)(K:Nat->List Value->Option β):Option β:=match x with
 | .v x=>eX E x K
 | .nl=>K 0 []
 | .em _=>K 0 []
 | .gr id E0=>ob (st.h.get id) λso=>match so with
  | .grow E' c _=>cond (Nat.beq E' E&&Nat.beq E0 E) (K (c.length/E) c) none
  |_=>none
 | .sl id off n _=>ob (st.h.get id) λso=>match so with
  | .cells c _=>cond (Nat.ble (off+n*E) c.length) (ob (xb ((c.drop off).take (n*E))) λus=>K n us) none
  | .arr c _=>cond (Nat.ble (off+n*E) c.length) (K n ((c.drop off).take (n*E))) none
  |_=>none
 | .s s=>K s.data.toList.length (s.data.toList.map λb=>.int .u8 (Int.ofNat b.toNat))
 |_=>none
theorem Yj(l:List UInt8):bO (l.map λb=>Value.int .u8 (Int.ofNat b.toNat)):=bO.mm λx hx=>by obtain⟨b,_,rfl⟩:=List.mem_map.1 hx;exact⟨.int _ _,rfl⟩
variable{E:Nat} {b:β} {x:SV}
theorem OQ{st:St}(hE:0<E){K:Nat->List Value->Option β}(e:z8 st E x K=some b):
 ∃n c,K n c=some b/\∀(σ:Nm)(tm:Tr Value)(h:Heap)(nx:Nat),aM σ st tm h nx->∀v,DV σ x v->∃vs,vw v=some n/\kg h E n v=some vs/\cU c vs/\bO c:=by
 unfold z8 at e;split at e
 ·unfold eX at e;split at e
  ·rename_i n p f cs ys;obtain⟨e1,e⟩:=aT e;refine⟨_,_,e,λσ tm h nx R v d=>?_⟩;cases d with
   |v pu q=>
    cases pu with
    |lit h1 h2=>refine⟨_,rfl,?_,cU.refl _,bO.take ⟨h1,h2⟩ _⟩;unfold kg;simp only[e1,ay]
   |im=>
    have z:(⟨[]⟩:Array Value).toList.take (0*E)=[]:=by simp
    refine⟨[],rfl,rfl,by rw[z];exact .nil,?_⟩
    ·rw[z];exact⟨(λx h=>by cases h),rfl⟩
  ·cases e
 ·refine⟨_,_,e,λσ tm h nx R v d=>?_⟩;cases d;exact⟨[],rfl,rfl,.nil,(λx h=>by cases h),rfl⟩
 ·refine⟨_,_,e,λσ tm h nx R v d=>?_⟩;cases d;refine⟨[],rfl,?_,.nil,(λx h=>by cases h),rfl⟩;unfold kg vQ;simp[(λq=>gi (gZ q))]
 ·rename_i id E0;obtain⟨so,hso,e⟩:=af e;split at e
  ·rename_i E' c t;obtain⟨e1,e⟩:=aT e;rw[bg] at e1;have e2:=bJ e1.2;have e1:=bJ e1.1;subst e1 e2;refine⟨_,_,e,λσ tm h nx R v d=>?_⟩;obtain⟨k1,k2,k3⟩:=R.obj _ _ hso;rcases k3 with⟨g1,g2⟩|⟨o,n,g1,g2,vs,g3,g4⟩
   ·subst g2;cases d with
    |gP g=>rw[(show([]:List Value).length/E0=0 from by simp)];exact⟨[],rfl,rfl,.nil,k2⟩
    |gr g=>rw[g1] at g;cases g
   ·cases d with
    |gP g=>rw[g1] at g;cases g
    |gr g=>
     rw[g1] at g;cases g;rw[(show c.length/E0=n from by rw[g2];exact lP n k1)];have hl:=g4.length;refine⟨vs,rfl,?_,g4,k2⟩;unfold kg;have hc:Nat.beq (bt+E0) bt=false:=by rw[jE];simp;omega
     cases h0:Nat.beq (n*E0) 0 with
     |true=>have:=bJ h0;have hv:vs=[]:=jJ (by omega);subst hv;simp
     |false=>have hb:Nat.ble (0+n*E0) vs.length=true:=gi (by omega);simp only[aE,hc,ob,g3,hb,ay];rw[eL,gh (by omega)]
  ·cases e
 ·rename_i id off n cap;obtain⟨so,hso,e⟩:=af e;have go:∀(h:Heap)(o m:Nat)(vs:List Value)(t:TypeId)(σ:Nm)(hσ:σ id=some (some o,m))(hg:h.get o=some (.cells vs t false))(v:Value),DV σ (.sl id off n cap) v->Nat.ble (off+n*E) vs.length=true->
   vw v=some n/\kg h E n v=some ((vs.drop off).take (n*E)):=by
   intro h o m vs t σ hσ hg v d hb;cases d with
   |sl g hc hn=>
    rw[hσ] at g;cases g;refine⟨rfl,?_⟩;unfold kg;cases h0:Nat.beq (n*E) 0 with
    |true=>simp_all
    |false=>simp only[aE,(show Nat.beq cap bt=false from by rw[jE];simp;omega),ob,hg,hb,ay]
  split at e
  ·rename_i c t;obtain⟨e1,e⟩:=aT e;obtain⟨us,hus,e⟩:=af e;refine⟨_,_,e,λσ tm h nx R v d=>?_⟩;obtain⟨o,m,vs,g1,g2,g3⟩:=R.obj _ _ hso;obtain⟨k1,k2⟩:=Ag ((g3.drop off).take (n*E)) hus;obtain⟨l1,l2⟩:=go h o m vs t σ g1 g2 v d (by rw[<-g3.length];exact e1);exact⟨_,l1,l2,k1,k2⟩
  ·rename_i c t;obtain⟨e1,e⟩:=aT e;refine⟨_,_,e,λσ tm h nx R v d=>?_⟩;obtain⟨o,m,vs,g1,g2,g3,g4⟩:=R.obj _ _ hso;obtain⟨l1,l2⟩:=go h o m vs t σ g1 g2 v d (by rw[<-g4.length];exact e1);exact⟨_,l1,l2,(g4.drop off).take _,(g3.drop off).take _⟩
  ·cases e
 ·rename_i s;refine⟨_,_,e,λσ tm h nx R v d=>?_⟩;cases d;refine⟨_,rfl,?_,cU.refl _,Yj _⟩;show some ((s.data.toList.take s.data.toList.length).map λb=>Value.int .u8 (Int.ofNat b.toNat))=_;rw[rG]
 ·cases e
def aK(n:Nat):Bool:=Nat.ble n 1000000000
def F8:SO->Option (List Value×TypeId)
 | .arr c t=>some (c,t)
 | .cells c t=>ob (xb c) λus=>some (us,t)
 |_=>none
theorem F9{σ:Nm}{h:Heap}{id:Nat}{so:SO}{q:List Value×TypeId}(e:F8 so=some q)(d:DO σ h id so):∃o m vs,σ id=some (some o,m)/\h.get o=some (.cells vs q.2 false)/\cU q.1 vs/\bO q.1 :=by
 cases so with
 |arr c t=>cases e;obtain⟨o,m,vs,a,b,c,d⟩:=d;exact⟨o,m,vs,a,b,d,c⟩
 |cells c t=>obtain⟨us,h1,e⟩:=af e;cases e;obtain⟨o,m,vs,a,b,c⟩:=d;obtain⟨k1,k2⟩:=Ag c h1;simp_all
 |grow E c t=>cases e
def OS(st:St)(j ix:gC)(z:Value)(x:SV)(K:Nat->List Value->Option β):Option β:=cond (me ix.desc)
 (ob (rD z.cells.toList) λ_=>match x with
  | .i _ n=>aG n λm=>cond (Nat.ble m 1000000000) (K m (rep m z.cells.toList)) none
  |_=>bM 25)
 (z8 st j.size x K)
variable{j:gC} {z:Value}
theorem ahO{st:St}{ix:gC}(p1:0<j.size)(hz:j.zero=some z)(p2:Nat.beq z.cells.size j.size=true)(p3:j.bytes<=10000){K:Nat->List Value->Option β}(e:OS st j ix z x K=some b):
 ∃n c,K n c=some b/\∀(σ:Nm)(tm:Tr Value)(h:Heap)(nx:Nat),aM σ st tm h nx->∀v,DV σ x v->∃vs,qD h j ix v=some (n,vs)/\cU c vs/\bO c:=by
 unfold OS at e;cases p0:me ix.desc with
 |true=>
  rw[p0] at e;obtain⟨_,hsv,e⟩:=af e;split at e
  ·rename_i k n;obtain⟨m,hm,e⟩:=tJ e;obtain⟨e1,e⟩:=aT e;have e1:=cI e1;refine⟨m,_,e,λσ tm h nx R v d=>?_⟩;cases d;refine⟨_,?_,cU.refl _,FY (Iu hsv) _⟩;have hz0:mN j m=some (rep m z.cells.toList):=by
    unfold mN;rw[oP];by_cases q:m*j.size=0
    ·have:m=0:=by
      rcases Nat.mul_eq_zero.1 q with h|h<;>omega
     subst this;simp[rep]
    ·rw[ai q];simp[ob,hz,p2]
   have q1:Nat.blt m 9223372036854775808=true:=gi (by omega);have q2:Nat.ble (m*j.bytes) 281474976710656=true:=gi (eP (Nat.mul_le_mul e1 p3) (by simp));subst hm;simp[qD,p0,q1,q2,ob,hz0]
  grind
 |false=>rw[p0] at e;obtain⟨n,c,f,g⟩:=OQ p1 e;refine⟨n,c,f,λσ tm h nx R v d=>?_⟩;obtain⟨vs,w1,w2,w3⟩:=g σ tm h nx R v d;exact⟨vs,by unfold qD;simp[p0,ob,w1,w2],w3⟩
def Mt(T:TT)(st:St)(ts:List TypeId)(s x:SV)(K:SV->St->Option β):Option β:=match ts with
 |t::xt::_=>ob (T.get t) λi=>ob (T.get xt) λix=>match i.desc with
  | .slice e=>ob (T.get e) λj=>ob j.zero λz=>cond (Nat.blt 0 j.size&&(Nat.beq z.cells.size j.size&&Nat.ble j.bytes 10000))
   (OS st j ix z x λn new=>match s with
    | .nl=>cond (aK n&&Nat.beq new.length (n*j.size)) (K (.gr st.sx j.size) {st with h:=(st.h.del st.sx).set st.sx (.grow j.size new e),sx:=st.sx+1}) none
    | .gr id E0=>ob (st.h.get id) λso=>match so with
     | .grow E c t0=>cond (Nat.beq E j.size&&(Nat.beq E0 j.size&&Nat.beq t0 e)) (cond (aK c.length&&(aK n&&Nat.beq new.length (n*j.size))) (K (.gr st.sx j.size) {st with h:=(st.h.del id).set st.sx (.grow j.size (c++new) e),sx:=st.sx+1}) none) none
     |_=>bM 22
    | .sl id off n0 cap=>ob (st.h.get id) λso=>ob (F8 so) λq=>cond (Nat.beq new.length (n*j.size)&&(Nat.ble (off+n0*j.size) q.1.length&&Nat.beq q.2 e))
     (cond (Nat.ble (n0+n) cap)
      (cond (Nat.ble (off+n0*j.size+new.length) q.1.length) (K (.sl id off (n0+n) cap) {st with h:=st.h.set id (.arr (aW (off+n0*j.size) new q.1) q.2)}) none)
      (cond (aK n&&(aK n0&&Nat.ble (Builtin.nextslicecap (n0+n) cap) 5000000000)) (K (.gr st.sx j.size) {st with h:=st.h.set st.sx (.grow j.size ((q.1.drop off).take (n0*j.size)++new) e),sx:=st.sx+1}) none)) none
    |_=>bM 44) none
  |_=>bM 23
 |_=>bM 24
theorem DM{h:Heap}{nx e need bound:Nat}{cells:List Value}(hz:j.zero=some z)(p1:0<j.size)(p2:Nat.beq z.cells.size j.size=true)(p3:j.bytes<=10000)(h1:need<=2000000000)(h2:bound<=5000000000)(h3:cells.length=need*j.size):
 xK h nx e j need bound cells=some (.slice (some ⟨nx,0,none⟩) need (bt+j.size),h.set nx (.cells cells e true),nx+1):=by
 have q1:Nat.blt need 9223372036854775808=true:=gi (by omega);have q2:Nat.blt 0 j.size=true:=gi (by omega);have q3:Nat.ble (bound*j.bytes) 281474976710656=true:=gi (eP (Nat.mul_le_mul h2 p3) (by simp));simp[xK,ob,hz,q1,q2,p2,q3,(show Nat.beq cells.length (need*j.size)=true from by rw[h3];exact kV _)]
theorem afd{T:TT}{st:St}{ts:List TypeId}{s x:SV}{K:SV->St->Option β}{b:β}(e:Mt T st ts s x K=some b):
 ∃sv st',K sv st'=some b/\st'.tm=st.tm/\∀(σ:Nm)(tm:Tr Value)(h:Heap)(nx:Nat),aM σ st tm h nx->∀v w,DV σ s v->DV σ x w->∃σ' u h' nx',nN T h nx ts v w=some (u,h',nx')/\nx<=nx'/\NX nx σ σ'/\DV σ' sv u/\aM σ' st' tm h' nx':=by
 unfold Mt at e;split at e
 ·rename_i t xt rest;replace e:=af e;obtain⟨i,hi,e⟩:=e;replace e:=af e;obtain⟨ix,hix,e⟩:=e;split at e
  ·rename_i el hd;replace e:=af e;obtain⟨j,hj,e⟩:=e;replace e:=af e;obtain⟨z,hz,e⟩:=e;obtain⟨e1,e⟩:=aT e;simp only[bg] at e1;obtain⟨p1,p2,p3⟩:=e1;have p1:=cT p1;have p3:=cI p3;obtain⟨n,new,f,g⟩:=ahO p1 hz p2 p3 e;clear e;split at f
   ·obtain⟨e2,f⟩:=aT f;simp only[bg] at e2;have q1:=cI e2.1;have q2:=bJ e2.2;refine⟨_,_,f,rfl,λσ tm h nx R v w d d2=>?_⟩;obtain⟨vs,hnew,w3,w4⟩:=g σ tm h nx R w d2;cases d;have hl:=w3.length;cases h0:Nat.beq n 0 with
    |true=>have hn:=bJ h0;have hv:new=[]:=jJ (by rw[q2,hn];simp);obtain⟨E,R'⟩:=R.swap (id:=st.sx) (x:=(none,0)) (so:=.grow j.size new el) (h':=h) (nx':=nx) (aB _) (λo m q=>by cases q) (λo m q=>by cases q) (λ_ _ _ _ _ _ _=>⟨rfl,λ_ _ q=>by cases q⟩) ⟨p1,w4,.inl ⟨Nm.eI _ _ _,hv⟩⟩;refine⟨_,.slice none 0 0,h,nx,?_,aB _,E,.gP (Nm.eI _ _ _),R'⟩;unfold nN;simp only[ob,hi,hix,hd,hj,hnew,h0,ay]
    |false=>obtain⟨E,R'⟩:=R.swap (id:=st.sx) (x:=(some nx,0+n)) (so:=.grow j.size new el) (h':=h.set nx (.cells vs el true)) (nx':=nx+1) (by omega) (λo m q=>by cases q;omega) (λo m q=>by cases q;exact .inl (aB _)) (λid' so' o m _ _ q=>by have:=R.lt _ _ _ q;exact⟨by rw[Tr.bD,ai (by omega)],λm' k q=>by cases q;omega⟩) ⟨p1,w4,.inr ⟨nx,0+n,Nm.eI _ _ _,by rw[q2];simp,vs,by rw[Tr.bD,ar rfl],w3⟩⟩;refine⟨_,.slice (some ⟨nx,0,none⟩) (0+n) (bt+j.size),_,_,?_,kc _,E,.gr (Nm.eI _ _ _),R'⟩;unfold nN;simp only[ob,hi,hix,hd,hj,hnew,h0,aE];rw[DM hz p1 p2 p3 (by omega) (by omega) (by rw[iF,<-hl,q2];simp)];simp
   ·rename_i id E0;replace f:=af f;obtain⟨so,hso,f⟩:=f;split at f
    ·rename_i E c t0;obtain⟨e2,f2⟩:=aT f;obtain⟨e3,f3⟩:=aT f2;clear f f2;simp only[bg] at e2 e3;have q1:=bJ e2.1;have q0:=bJ e2.2.1;have q2:=bJ e2.2.2;subst q1 q0 q2;have q3:=cI e3.1;have q4:=cI e3.2.1;have q5:=bJ e3.2.2;refine⟨_,_,f3,rfl,λσ tm h nx R v w d d2=>?_⟩;obtain⟨vs,hnew,w3,w4⟩:=g σ tm h nx R w d2;have hl:=w3.length;obtain⟨_,k2,k3⟩:=R.obj _ _ hso;rcases k3 with⟨g1,g2⟩|⟨o,m,g1,g2,cs,g3,g4⟩
     ·subst g2;cases d with
      |gr g=>rw[g1] at g;cases g
      |gP _=>
       cases h0:Nat.beq n 0 with
       |true=>have hn:=bJ h0;have hv:new=[]:=jJ (by rw[q5,hn];simp);obtain⟨E,R'⟩:=R.swap (id:=id) (x:=(none,0)) (so:=.grow j.size ([]++new) t0) (h':=h) (nx':=nx) (aB _) (λo m q=>by cases q) (λo m q=>by cases q) (λ_ _ _ _ _ _ _=>⟨rfl,λ_ _ q=>by cases q⟩) ⟨p1,w4,.inl ⟨Nm.eI _ _ _,by rw[hv];rfl⟩⟩;refine⟨_,.slice none 0 0,h,nx,?_,aB _,E,.gP (Nm.eI _ _ _),R'⟩;unfold nN;simp only[ob,hi,hix,hd,hj,hnew,h0,ay]
       |false=>obtain⟨E,R'⟩:=R.swap (id:=id) (x:=(some nx,0+n)) (so:=.grow j.size ([]++new) t0) (h':=h.set nx (.cells vs t0 true)) (nx':=nx+1) (by omega) (λo m q=>by cases q;omega) (λo m q=>by cases q;exact .inl (aB _)) (λid' so' o m _ _ q=>by have:=R.lt _ _ _ q;exact⟨by rw[Tr.bD,ai (by omega)],λm' k q=>by cases q;omega⟩) ⟨p1,w4,.inr ⟨nx,0+n,Nm.eI _ _ _,by rw[iF,q5];simp,vs,by rw[Tr.bD,ar rfl],w3⟩⟩;refine⟨_,.slice (some ⟨nx,0,none⟩) (0+n) (bt+j.size),_,_,?_,kc _,E,.gr (Nm.eI _ _ _),R'⟩;unfold nN;simp only[ob,hi,hix,hd,hj,hnew,h0,aE];rw[DM hz p1 p2 p3 (by omega) (by omega) (by rw[iF,<-hl,q5];simp)];simp
     ·cases d with
      |gP g=>rw[g1] at g;cases g
      |gr gg=>
       rw[g1] at gg;cases gg;have hl4:=g4.length;have hm:m<=1000000000:=by have:m*1<=m*j.size:=Aq _ p1;omega
       have hlt:=R.lt _ _ _ g1;cases h0:Nat.beq n 0 with
       |true=>have hn:=bJ h0;have hv:new=[]:=jJ (by rw[q5,hn];simp);subst hv;obtain⟨E,R'⟩:=R.swap (id:=id) (x:=(some o,m)) (so:=.grow j.size (c++[]) t0) (h':=h) (nx':=nx) (aB _) (λo m q=>by cases q;exact hlt) (λo m q=>by cases q;exact .inr ⟨_,_,g1⟩) (λid' so' o' n' a1 a2 a3=>⟨rfl,λm' k q=>by cases q;intro e;subst e;exact a1 (R.inj _ _ _ _ _ _ _ a2 hso a3 g1)⟩) ⟨p1,by rw[eH];exact k2,.inr ⟨o,m,Nm.eI _ _ _,by rw[eH];exact g2,cs,g3,by rw[eH];exact g4⟩⟩;refine⟨_,.slice (some ⟨o,0,none⟩) m (bt+j.size),h,nx,?_,aB _,E,.gr (Nm.eI _ _ _),R'⟩;unfold nN;simp only[ob,hi,hix,hd,hj,hnew,h0,ay]
       |false=>
        have h1:Nat.blt n 1=false:=by
         cases q:Nat.blt n 1 with
         |false=>rfl
         |true=>
          have:=cT q;have:n=0:=by omega
          subst this;cases h0
        have hn1:=E6 h1;have hpos:0<n*j.size:=Nat.mul_pos hn1 p1;have hcs:cs.length=m*j.size:=by omega
        obtain⟨E,R'⟩:=R.swap (id:=id) (x:=(some nx,m+n)) (so:=.grow j.size (c++new) t0) (h':=(h.del o).set nx (.cells (cs++vs) t0 true)) (nx':=nx+1) (by omega) (λo m q=>by cases q;omega) (λo m q=>by cases q;exact .inl (aB _)) (λid' so' o' n' a1 a2 a3=>by have:=R.lt _ _ _ a3;refine⟨?_,λm' k q=>by cases q;omega⟩;rw[Tr.bD,ai (by omega),Tr.kK,ai];intro e;subst e;exact a1 (R.inj _ _ _ _ _ _ _ a2 hso a3 g1)) ⟨p1,k2.append w4,.inr ⟨nx,m+n,Nm.eI _ _ _,by rw[aR,g2,q5,kb],cs++vs,by rw[Tr.bD,ar rfl],g4.append w3⟩⟩;refine⟨_,.slice (some ⟨nx,0,none⟩) (m+n) (bt+j.size),_,_,?_,kc _,E,.gr (Nm.eI _ _ _),R'⟩;have hcap:Nat.beq (bt+j.size) bt=false:=by rw[jE];simp;omega
        have hb1:Nat.ble (0+m*j.size+vs.length) cs.length=false:=by
         cases q:Nat.ble (0+m*j.size+vs.length) cs.length with
         |false=>rfl
         |true=>have:=cI q;omega
        have hb2:Nat.blt (bt+j.size) bt=false:=by
         cases q:Nat.blt (bt+j.size) bt with
         |false=>rfl
         |true=>have:=cT q;omega
        have hb3:Nat.beq (0+m*j.size) cs.length=true:=by rw[jE];simp;omega
        have hb4:Nat.beq vs.length (n*j.size)=true:=by rw[jE];simp;omega
        have hon:=w3.bB w4.2;unfold nN;simp only[ob,hi,hix,hd,hj,hnew,h0,aE,hcap,g3,hb1,hb2,hb3,hb4,hon,kV,gY,ay,eL];rw[DM hz p1 p2 p3 (by omega) (by omega) (by rw[aR,hcs,<-hl,q5,kb])]
    ·cases f
   ·rename_i id off n0 cap;replace f:=af f;obtain⟨so,hso,f⟩:=f;replace f:=af f;obtain⟨q,hq,f⟩:=f;obtain⟨e2,f⟩:=aT f;simp only[bg] at e2;have q1:=bJ e2.1;have q2:=cI e2.2.1;have q3:=bJ e2.2.2;cases hb:Nat.ble (n0+n) cap with
    |true=>
     rw[hb,ay] at f;obtain⟨e3,f⟩:=aT f;refine⟨_,_,f,rfl,λσ tm h nx R v w d d2=>?_⟩;obtain⟨vs,hnew,w3,w4⟩:=g σ tm h nx R w d2;have hl:=w3.length;obtain⟨o,m,cs,g1,g2,g3,g4⟩:=F9 hq (R.obj _ _ hso);have hl3:=g3.length;have hle:=cI hb;cases d with
     |sl gg hc hn=>
      rw[g1] at gg;cases gg;cases h0:Nat.beq n 0 with
      |true=>
       have hn0:=bJ h0;have hv:new=[]:=jJ (by rw[q1,hn0];simp);subst hv;refine⟨σ,.slice (some ⟨o,off,none⟩) n0 cap,h,nx,?_,aB _,NX.refl _ _,?_,?_⟩
       ·unfold nN;simp only[ob,hi,hix,hd,hj,hnew,h0,ay]
       ·rw[hn0];exact .sl g1 hc hn
       ·refine⟨R.tm,λid1 so1 h1=>?_,λid1 id2 so1 so2 o1 n1 n2 a1 a2 b1 b2=>?_,R.lt,R.fresh⟩
        ·have h1:(st.h.set id _).get id1=some so1:=h1;rw[Tr.bD] at h1;by_cases e:id1=id
         ·rw[ar e] at h1;cases h1;rw[e];exact⟨o,m,cs,g1,g2,g4,g3⟩
         ·rw[ai e] at h1;exact R.obj _ _ h1
        ·have a1:(st.h.set id _).get id1=some so1:=a1;have a2:(st.h.set id _).get id2=some so2:=a2;rw[Tr.bD] at a1 a2;have f1:∃s,st.h.get id1=some s:=by
          by_cases e:id1=id
          ·subst e;exact⟨_,hso⟩
          ·rw[ai e] at a1;exact⟨_,a1⟩
         have f2:∃s,st.h.get id2=some s:=by
          by_cases e:id2=id
          ·subst e;exact⟨_,hso⟩
          ·rw[ai e] at a2;exact⟨_,a2⟩
         obtain⟨s1,f1⟩:=f1;obtain⟨s2,f2⟩:=f2;exact R.inj _ _ _ _ _ _ _ f1 f2 b1 b2
      |false=>
       refine⟨σ,.slice (some ⟨o,off,none⟩) (n0+n) cap,h.set o (.cells (aW (off+n0*j.size) vs cs) q.2 false),nx,?_,aB _,NX.refl _ _,.sl g1 hc hle,R.put hso g1 ⟨o,m,_,g1,by rw[Tr.bD,ar rfl],w4.aW _ g4,w3.aW _ g3⟩⟩;have hcap:Nat.beq cap bt=false:=by rw[jE];simp;omega
       have hb1:Nat.ble (off+n0*j.size+vs.length) cs.length=true:=by rw[<-hl,<-hl3];exact e3
       have hb4:Nat.beq vs.length (n*j.size)=true:=by rw[jE];simp;omega
       have hon:=w3.bB w4.2;have hcl:Nat.blt cap bt=true:=gi hc;unfold nN;simp only[ob,hi,hix,hd,hj,hnew,h0,aE,hcap,g2,hb1,hb4,hon,hcl,hb,gY,ay]
    |false=>
     rw[hb,aE] at f;obtain⟨e3,f⟩:=aT f;simp only[bg] at e3;have r1:=cI e3.1;have r2:=cI e3.2.1;have r3:=cI e3.2.2;refine⟨_,_,f,rfl,λσ tm h nx R v w d d2=>?_⟩;obtain⟨vs,hnew,w3,w4⟩:=g σ tm h nx R w d2;have hl:=w3.length;obtain⟨o,m,cs,g1,g2,g3,g4⟩:=F9 hq (R.obj _ _ hso);have hl3:=g3.length;have hgt:cap<n0+n:=by
      rcases dg cap (n0+n) with h|h
      ·exact h
      ·rw[gi h] at hb;cases hb
     cases d with
     |sl gg hc hn=>
      rw[g1] at gg;cases gg;have h0:Nat.beq n 0=false:=by rw[jE];simp;omega
      have hlen:((cs.drop off).take (n0*j.size)++vs).length=(n0+n)*j.size:=by rw[aR,dH,dZ,<-hl,q1,kb];omega
      obtain⟨E,R'⟩:=R.new (n:=n0+n) (so:=.grow j.size ((q.1.drop off).take (n0*j.size)++new) el) (ob:=.cells ((cs.drop off).take (n0*j.size)++vs) el true)
       ⟨p1,((g4.drop off).take _).append w4,.inr ⟨nx,n0+n,Nm.eI _ _ _,by rw[aR,dH,dZ,q1,kb];omega,_,by rw[Tr.bD,ar rfl],((g3.drop off).take _).append w3⟩⟩
      refine⟨_,.slice (some ⟨nx,0,none⟩) (n0+n) (bt+j.size),_,_,?_,kc _,E,.gr (Nm.eI _ _ _),R'⟩;have hcap:Nat.beq cap bt=false:=by rw[jE];simp;omega
      have hcl:Nat.blt cap bt=true:=gi hc;have hb5:Nat.blt cap (n0+n)=true:=gi hgt;have hb6:Nat.ble (off+n0*j.size) cs.length=true:=gi (by omega);unfold nN;simp only[ob,hi,hix,hd,hj,hnew,h0,aE,hcap,g2,hcl,hb,hb5,hb6,gY,Bool.and_false,uT,ay];rw[DM hz p1 p2 p3 (by omega) r3 hlen]
   ·cases f
  ·cases e
 ·cases e
theorem aM.same{σ:Nm}{st:St}{tm:Tr Value}{h:Heap}{nx:Nat}(R:aM σ st tm h nx){id:Nat}{so so':SO}(hso:st.h.get id=some so)(d:DO σ h id so'):aM σ {st with h:=st.h.set id so'} tm h nx:=by
 refine⟨R.tm,λid1 so1 h1=>?_,λid1 id2 so1 so2 o1 n1 n2 a1 a2 b1 b2=>?_,R.lt,R.fresh⟩
 ·have h1:(st.h.set id so').get id1=some so1:=h1;rw[Tr.bD] at h1;by_cases e:id1=id
  ·grind
  ·rw[ai e] at h1;exact R.obj _ _ h1
 ·have a1:(st.h.set id so').get id1=some so1:=a1;rw[Tr.bD] at a1 a2;have f1:∃s,st.h.get id1=some s:=by grind
  have f2:∃s,st.h.get id2=some s:=by grind
  obtain⟨s1,f1⟩:=f1;obtain⟨s2,f2⟩:=f2;exact R.inj _ _ _ _ _ _ _ f1 f2 b1 b2
variable{n:Nat} {v:Value} {vs:List Value}
theorem XK{h:Heap}(e:kg h E n v=some vs)(hl:vs.length=n*E){k:Nat}(hk:k<=n):kg h E k v=some (vs.take (k*E)):=by
 have hkE:k*E<=n*E:=Nat.mul_le_mul_right _ hk;unfold kg at e⊢;split at e
 ·obtain⟨e1,e2⟩:=aT e;have:=bJ e1;have hk0:k=0:=by omega
  subst hk0;cases e2;simp
 ·rename_i o off x cap;cases hz:Nat.beq (k*E) 0 with
  |true=>simp_all
  |false=>
   have hk1:k*E≠0:=λq=>by rw[q] at hz;cases hz
   rw[(show Nat.beq (n*E) 0=false from by rw[jE];simp;omega)] at e;cases hc:Nat.beq cap bt with
   |true=>rw[hc] at e;cases e
   |false=>
    rw[hc] at e;replace e:=af e;obtain⟨ob',g1,e⟩:=e;simp only[ob,g1];split at e
    ·obtain⟨e1,e2⟩:=aT e;cases e2;have:=cI e1;rename_i c _ _;have hb:Nat.ble (off+k*E) c.length=true:=gi (by omega);simp[hb];rw[List.take_take,kE hkE]
    ·cases e
 ·cases e;rename_i s;rw[eD,dH] at hl;rw[<-List.map_take,List.take_take];have:(s.data.toList.take k)=s.data.toList.take (min (k*E) n):=by
   rcases Nat.eq_zero_or_pos k with q|q
   ·subst q;simp
   ·rcases Ap E 1 with c|c|c
    ·have:E=0:=by omega
     subst this;simp at hl;rcases hl with hl|hl
     ·omega
     ·have:s.data.toList=[]:=by
       apply jJ;simpa using hl
      simp_all
    ·subst c;rw[gM,kE hk]
    ·have h1:n*E<=n:=by rw[<-hl];exact Nat.min_le_left _ _
     have h2:n*2<=n*E:=Aq _ c;omega
  rw[this]
 ·obtain⟨e1,e2⟩:=aT e;cases e2;have:=cI e1;rename_i cs _;have hb:Nat.ble (k*E) cs.toList.length=true:=gi (by omega);simp only[hb,ay];rw[List.take_take,kE hkE]
 ·cases e
variable{us:List Value}
theorem cU.le(h:cU us vs)(n:Nat):cU (us.take n) (vs.take n):=h.take n
def Va(T:TT)(st:St)(t:TypeId)(dst src:SV)(K:SV->St->Option β):Option β:=
 ob (T.get t) λi=>match i.desc with
  | .slice e=>ob (T.get e) λj=>cond (Nat.blt 0 j.size) (z8 st j.size src λn new=>match dst with
   | .sl id off nd _=>ob (st.h.get id) λso=>ob (F8 so) λq=>cond (Nat.beq new.length (n*j.size)&&Nat.ble (off+Nat.min n nd*j.size) q.1.length)
    (K (.i .i64 (Int.ofNat (Nat.min n nd))) {st with h:=st.h.set id (.arr (aW off (new.take (Nat.min n nd*j.size)) q.1) q.2)}) none
   | .nl=>K (.i .i64 0) st
   |_=>bM 45) none
  |_=>bM 46
theorem afi{T:TT}{st:St}{t:TypeId}{dst src:SV}{K:SV->St->Option β}{b:β}(e:Va T st t dst src K=some b):
 ∃sv st',K sv st'=some b/\st'.tm=st.tm/\∀(σ:Nm)(tm:Tr Value)(h:Heap)(nx:Nat),aM σ st tm h nx->∀v w,DV σ dst v->DV σ src w->∃u h',xI T h t v w=some (u,h')/\DV σ sv u/\aM σ st' tm h' nx:=by
 replace e:=af e;obtain⟨i,hi,e⟩:=e;split at e
 ·rename_i el hd;replace e:=af e;obtain⟨j,hj,e⟩:=e;obtain⟨p1,e⟩:=aT e;obtain⟨n,new,f,g⟩:=OQ (cT p1) e;clear e;split at f
  ·rename_i id off nd cap;obtain⟨so,hso,f⟩:=af f;obtain⟨q,hq,f⟩:=af f;obtain⟨e1,f⟩:=aT f;rw[bg] at e1;have q1:=bJ e1.1;have q2:=cI e1.2;refine⟨_,_,f,rfl,λσ tm h nx R v w d d2=>?_⟩;obtain⟨vs,w1,w2,w3,w4⟩:=g σ tm h nx R w d2;obtain⟨o,m,cs,g1,g2,g3,g4⟩:=F9 hq (R.obj _ _ hso);have hl:=w3.length;have hl3:=g3.length;have hf:=XK w2 (by omega) (Nat.min_le_left n nd);cases d with
   |sl gg hc hn=>
    rw[g1] at gg;cases gg;have k1:=w3.take (Nat.min n nd*j.size);have k2:=w4.take (Nat.min n nd*j.size);cases h0:Nat.beq (vs.take (Nat.min n nd*j.size)).length 0 with
    |true=>
     have hz2:=jJ (by rw[k1.length,(jJ (bJ h0))];rfl);refine⟨.int .i64 (Int.ofNat (Nat.min n nd)),h,?_,.i _ _,?_⟩
     ·unfold xI;have:xO (.slice (some ⟨o,off,none⟩) nd cap)=some nd:=rfl;simp only[ob,hi,hd,hj,w1,this,hf,h0,ay]
     ·rw[hz2];exact R.same hso ⟨o,m,cs,g1,g2,g4,g3⟩
    |false=>
     refine⟨.int .i64 (Int.ofNat (Nat.min n nd)),h.set o (.cells (aW off (vs.take (Nat.min n nd*j.size)) cs) q.2 false),?_,.i _ _,R.put hso g1 ⟨o,m,_,g1,by rw[Tr.bD,ar rfl],k2.aW _ g4,k1.aW _ g3⟩⟩;have hb1:Nat.ble (off+(vs.take (Nat.min n nd*j.size)).length) cs.length=true:=gi (by
      rw[dH];omega)
     unfold xI;have:xO (.slice (some ⟨o,off,none⟩) nd cap)=some nd:=rfl;simp only[ob,hi,hd,hj,w1,this,hf,h0,aE,(show Nat.beq cap bt=false from by rw[jE];simp;omega),g2,hb1,(k1.bB k2.2),gY,ay]
  ·refine⟨_,_,f,rfl,λσ tm h nx R v w d d2=>?_⟩;obtain⟨vs,w1,w2,w3,w4⟩:=g σ tm h nx R w d2;cases d;have hf:kg h j.size (Nat.min n 0) w=some []:=by
    unfold kg at w2⊢;split at w2
    ·simp
    ·simp
    ·simp
    ·have hb:∀q,Nat.ble 0 q=true:=λq=>gi (gZ q);simp[hb]
    ·cases w2
   refine⟨.int .i64 0,h,?_,.i _ _,R⟩;unfold xI;have:xO (.slice none 0 0)=some 0:=rfl;have z:Nat.min n 0=0:=by show min n 0=0;omega
   rw[z] at hf;simp only[ob,hi,hd,hj,w1,this,z,hf];rfl
  ·cases f
 ·cases e
theorem ain{ns:List Int}(e:iN (v::us)=some ns):∃n r,v=.int .u8 n/\iN us=some r/\ns=n::r:=by
 unfold iN at e;split at e
 ·grind
 ·rename_i n xs hh;cases hh;obtain⟨r,h1,e⟩:=af e
  grind
 grind
theorem Xi:∀{us vs:List Value},cU us vs->∀{ns},iN us=some ns->iN vs=some ns
 |_,_,.nil,ns,e=>e
 |_,_,.cons h t,ns,e=>by
  obtain⟨n,r,rfl,e2,rfl⟩:=ain e;rcases h with rfl|⟨h,_⟩
  ·unfold iN;simp only[ob,Xi t e2]
  ·cases h
def Mw(T:TT)(st:St)(s d:TypeId)(x:SV)(K:SV->Option β):Option β:=match x with
 | .i k n=>Mv T s d (.i k n) K
 | .s _=>bM 48
 |x=>ob (T.get s) λi=>ob (T.get d) λj=>match i.desc,j.desc with
  | .slice e,.string=>cond (Nat.beq s d) none (ob (T.get e) λk=>cond (oc k.desc) (z8 st 1 x λ_ c=>ob (iN c) λns=>K (.s (mkStr ns))) none)
  | .slice e,_=>match x with
   | .sl id off n cap=>cond (Nat.beq s d) (ob (T.get e) λk=>cond (oc k.desc) (ob (st.h.get id) λso=>ob (F8 so) λ_=>K (.sl id off n cap)) none) none
   |_=>bM 49
  |_,_=>bM 50
theorem aie{T:TT}{h:Heap}{s d:TypeId}{i k:gC}{e:TypeId}(hi:T.get s=some i)(hj:T.get d=some j)(h1:i.desc=.slice e)(h2:j.desc=.string)(hk:T.get e=some k)(h3:oc k.desc=true){ns}
 (a:vw v=some n) (b:kg h 1 n v=some vs) (c:iN vs=some ns) (hs:∀x,v≠.string x):rS T h s d v=some (.string (mkStr ns)):=by
 unfold kg at b;unfold rS;simp only[ob,hi,hj,h1,h2];split at b
 ·obtain⟨_,b⟩:=aT b;cases b;cases c;simp_all;rfl
 ·rename_i o off x cap;cases a;simp only[hk,h3];cases hn:Nat.beq n 0 with
  |true=>have:=bJ hn;subst this;simp at b;subst b;cases c;rfl
  |false=>
   rw[gM,hn] at b;cases hc:Nat.beq cap bt with
   |true=>rw[hc] at b;cases b
   |false=>
    rw[hc] at b;obtain⟨ob',g1,b⟩:=af b;simp_all;split at b
    ·obtain⟨b1,b⟩:=aT b;cases b;simp only[b1,ay,c]
    ·cases b
 ·exact absurd rfl (hs _)
 ·rename_i m p f cs ys;cases a;obtain⟨b1,b⟩:=aT b;cases b;rw[gM] at b1 c;simp only[hk,h3,ay,b1,c]
 ·cases b
theorem afj{T:TT}{st:St}{s d:TypeId}{x:SV}{K:SV->Option β}{b:β}(e:Mw T st s d x K=some b):
 ∃sv,K sv=some b/\∀(σ:Nm)(tm:Tr Value)(h:Heap)(nx:Nat),aM σ st tm h nx->∀v,DV σ x v->∃u,DV σ sv u/\(match v with
  | .int _ _=>AF T s d v
  | .slice (some _) _ _=>cond (Nat.beq s d) (AI T h s d v) (rS T h s d v)
  | .slice none _ _=>rS T h s d v
  | .func (.via _ _ _ true) _ _=>rS T h s d v
  |_=>none)=some u:=by
 unfold Mw at e;split at e
 ·obtain⟨sv,h1,h2⟩:=afh e;refine⟨sv,h1,λσ tm h nx R v dv=>?_⟩;obtain⟨k,n,u,rfl,v1,v2⟩:=h2 σ v dv;exact⟨u,v2,v1⟩
 ·cases e
 ·rename_i x hni hns;replace e:=af e;obtain⟨i,hi,e⟩:=e;replace e:=af e;obtain⟨j,hj,e⟩:=e;split at e
  ·rename_i el h1 h2;cases hsd:Nat.beq s d with
   |true=>rw[hsd] at e;cases e
   |false=>
   rw[hsd] at e;obtain⟨k,hk,e⟩:=af e;obtain⟨h3,e⟩:=aT e;have hxs:∀{z:SV},(z8 st 1 z λn c=>ob (iN c) λns=>K (.s (mkStr ns)))=some b->∀y,SV.v (.string y)≠z:=λe y q=>by rw[<-q] at e;cases e
   obtain⟨n,c,f,g⟩:=OQ Nat.one_pos e;obtain⟨ns,h4,f⟩:=af f;refine⟨_,f,λσ tm h nx R v dv=>⟨.string (mkStr ns),.s _,?_⟩⟩;obtain⟨vs,w1,w2,w3,w4⟩:=g σ tm h nx R v dv;have key:=λhs=>aie hi hj h1 h2 hk h3 w1 w2 (Xi w3 h4) hs;cases dv with
   |i k n=>exact absurd rfl (hni _ _)
   |s y=>exact absurd rfl (hns _)
   |v p q=>
    cases p with
    |@lit n' p' f' b' cs' ys' _ _=>
     cases b' with
     |true=>exact key λx e=>by cases e
     |false=>cases w1
    |kS=>exact key λx e=>by cases e
    |str y=>exact absurd rfl ((hxs e) y)
    |_=>cases w1
   |nl=>exact key λx e=>by cases e
   |im=>exact key λx e=>by cases e
   |gP _=>exact key λx e=>by cases e
   |gr _=>exact key λx e=>by cases e
   |sl _ _ _=>exact key λx e=>by cases e
   |lp _=>cases w1
   |b _=>cases w1
   |agg _=>cases w1
   |aH _=>cases w1
   |ptr _=>cases w1
   |fn _=>cases w1
   |eR _=>cases w1
   |em _=>exact key λx e=>by cases e
   |ni=>cases w1
  ·rename_i el h1 _;split at e
   ·rename_i id off n cap;obtain⟨e1,e⟩:=aT e;obtain⟨k,hk,e⟩:=af e;obtain⟨h3,e⟩:=aT e;obtain⟨so,hso,e⟩:=af e;obtain⟨q,hq,e⟩:=af e;refine⟨_,e,λσ tm h nx R v dv=>⟨v,dv,?_⟩⟩;obtain⟨o,m,vs,g1,g2,_,_⟩:=F9 hq (R.obj _ _ hso);cases dv with
    |sl g hc hn=>rw[g1] at g;cases g;simp[AI,e1,ob,hi,h1,hk,h3,(show Nat.beq cap bt=false from by rw[jE];simp;omega),g2]
   ·cases e
  ·cases e
end
section
variable{β:Type}
def DZ:SV->Option Value
 | .i k n=>some (.int k n)
 | .b x=>some (.bool x)
 | .s x=>some (.string x)
 | .v x=>some x
 | .nl=>some (ae 0 [])
 | .ni=>some .nilIface
 |_=>none
def A8:List SV->Option (List Value)
 |[]=>some []
 |x::xs=>ob (DZ x) λu=>ob (A8 xs) λus=>some (u::us)
variable{x:Value}
theorem yR{ρ:Ren}(h:aF ρ (.slice none 0 0) x):aF ρ (ae 0 []) x:=by cases h;exact .lit .fN
variable{P:Program} {v:Value} {vs:List Value}
theorem mI.Ph{f:FuncId}{us:List Value}(R:mI P f us v)(h:∀(ρ:Ren)(ys:List Value),bk ρ vs ys->bk ρ us ys):mI P f vs v:=
 λhh nx ρ args' cs w A H N=>R hh nx ρ args' cs w (h ρ _ A) H N
abbrev dJ(β:Type):=St->List SV->(Bool->SV->St->Option β)->Option β
def nE(P:Program)(g:FuncId)(e:dJ β):Prop:=
 ∀st args K b,e st args K=some b->∃p sv st',K p sv st'=some b/\st'.tm=st.tm/\∀(σ:Nm)(tm:Tr Value)(h:Heap)(nx:Nat)(vs:List Value),aM σ st tm h nx->bU σ args vs->∃σ' pv h' nx',tw P p g vs h nx pv h' nx'/\nx<=nx'/\NX nx σ σ'/\DV σ' sv pv/\aM σ' st' tm h' nx'
def oJ(P:Program)(pt:FuncId->Option (dJ β)):Prop:=∀g e,pt g=some e->nE P g e
def Co(tm:Tr SV):List Operand->Option (List SV)
 |[]=>some []
 |x::xs=>ob (dX tm x) λv=>ob (Co tm xs) λvs=>some (v::vs)
def Gz(tm:Tr SV):List (Nat×Operand)->Option (List (Nat×SV))
 |[]=>some []
 |(i,x)::xs=>ob (dX tm x) λv=>ob (Gz tm xs) λvs=>some ((i,v)::vs)
def Gy(tm:Tr SV):Option Operand->Option (Option SV)
 |none=>some none
 |some x=>ob (dX tm x) λv=>some (some v)
section
variable{σ:Nm} {st:St} {tm:Tr Value} {h:Heap} {nx:Nat} (R:aM σ st tm h nx)
include R
theorem sI:∀{xs:List Operand}{l:List SV},Co st.tm xs=some l->∃vs,qK (jo tm) xs=some vs/\bU σ l vs
 |[],_,e=>by cases e;exact⟨[],rfl,.nil⟩
 |x::xs,_,e=>by obtain⟨v,h1,e⟩:=af e;obtain⟨ws,h2,e⟩:=af e;cases e;obtain⟨u,u1,u2⟩:=ec R h1;obtain⟨us,v1,v2⟩:=sI h2;refine⟨u::us,?_,.cons u2 v2⟩;simp[qK,ob,u1,v1]
theorem M8:∀{xs:List (Nat×Operand)}{l:List (Nat×SV)},Gz st.tm xs=some l->∃vs,yn (jo tm) xs=some vs/\xx σ l vs
 |[],_,e=>by cases e;exact⟨[],rfl,.nil⟩
 |(i,x)::xs,_,e=>by obtain⟨v,h1,e⟩:=af e;obtain⟨ws,h2,e⟩:=af e;cases e;obtain⟨u,u1,u2⟩:=ec R h1;obtain⟨us,v1,v2⟩:=M8 h2;refine⟨(i,u)::us,?_,.cons u2 v2⟩;simp[yn,ob,u1,v1]
theorem M7{x:Option Operand}{l:Option SV}(e:Gy st.tm x=some l):∃vs,ym (jo tm) x=some vs/\u9 σ l vs:=by
 cases x with
 |none=>cases e;exact⟨none,rfl,.none⟩
 |some x=>obtain⟨v,h1,e⟩:=af e;cases e;obtain⟨u,u1,u2⟩:=ec R h1;refine⟨some u,?_,.some u2⟩;simp[ym,ob,u1]
end
theorem Ym{σ:Nm}{x:SV}{u:Value}(d:DV σ x v)(e:DZ x=some u):WV u v/\aY u/\Lt.bB [u]=true:=by
 cases d<;>simp only[DZ] at e<;>cases e
 ·exact⟨.inl rfl,.int _ _,rfl⟩
 ·exact⟨.inl rfl,.bool _,rfl⟩
 ·exact⟨.inl rfl,.str _,rfl⟩
 ·exact⟨.inl rfl,‹_›,‹_›⟩
 ·exact⟨.inr ⟨rfl,rfl⟩,.lit (λx h=>by cases h) rfl,rfl⟩
 ·exact⟨.inr ⟨rfl,rfl⟩,.lit (λx h=>by cases h) rfl,rfl⟩
 ·exact⟨.inl rfl,.nilIface,rfl⟩
theorem Qf{σ:Nm}:∀{xs:List SV}{vs us:List Value},bU σ xs vs->A8 xs=some us->cU us vs/\bO us
 |_,_,_,.nil,e=>by cases e;exact⟨.nil,(λu h=>by cases h),rfl⟩
 |_,_,_,.cons a t,e=>by
  obtain⟨u,h1,e⟩:=af e;obtain⟨ws,h2,e⟩:=af e;cases e;obtain⟨k1,k2,k3⟩:=Ym a h1;obtain⟨g1,g2⟩:=Qf t h2;refine⟨.cons k1 g1,bO.mm λx hx=>?_⟩;rcases cj.1 hx with rfl|hx
  ·grind
  ·exact g2.mem x hx
def Vk(T:TT)(st:St)(t:TypeId)(len cap:SV)(K:SV->SO->Option β):Option β:=
 ob (T.get t) λi=>match i.desc with
  | .slice e=>ob (T.get e) λj=>ob j.zero λz=>ob (rD z.cells.toList) λ_=>match len,cap with
   | .i _ n,.i _ k=>aG n λm=>aG k λc=>cond (Nat.blt 0 j.size&&Nat.beq z.cells.size j.size&&Nat.ble j.bytes 10000&&(Nat.ble m c&&Nat.ble c 1000000000))
    (K (.sl st.sx 0 m c) (.arr (rep c z.cells.toList) e)) none
   |_,_=>bM 20
  |_=>bM 21
variable{T:TT} {b:β} {t:TypeId}
theorem afs{st:St}{len cap:SV}{K:SV->SO->Option β}(e:Vk T st t len cap K=some b):
 ∃sv so,K sv so=some b/\∀(σ:Nm)(nx:Nat) v w,DV σ len v->DV σ cap w->∃u obj,(∀h,vx T h nx t v w=some (u,h.set nx obj))/\DV (σ.add st.sx (some nx,0)) sv u/\∀h:Heap,h.get nx=some obj->DO (σ.add st.sx (some nx,0)) h st.sx so:=by
 obtain⟨i,hi,e⟩:=af e;split at e
 ·rename_i el hd;obtain⟨j,hj,e⟩:=af e;obtain⟨z,hz,e⟩:=af e;obtain⟨zs,hzs,e⟩:=af e;split at e
  ·obtain⟨m,q1,f1⟩:=tJ e;obtain⟨c,q2,f2⟩:=tJ f1;obtain⟨e1,f3⟩:=aT f2;subst q1 q2;simp only[bg] at e1;obtain⟨⟨⟨p1,p2⟩,p3⟩,p4,p5⟩:=e1;have p1:=cT p1;have p5:=cI p5;refine⟨_,_,f3,λσ nx v w d d2=>?_⟩;cases d;cases d2;refine⟨.slice (some ⟨nx,0,none⟩) m c,.cells (rep c z.cells.toList) el false,λh=>?_,.sl (Nm.eI _ _ _) (by unfold bt;omega) (cI p4),λh hg=>⟨nx,0,_,Nm.eI _ _ _,hg,FY (Iu hzs) c,cU.refl _⟩⟩;have hz0:mN j c=some (rep c z.cells.toList):=by
    unfold mN;rw[oP];by_cases q:c*j.size=0
    ·have:c=0:=by
      rcases Nat.mul_eq_zero.1 q with h|h<;>omega
     subst this;rw[ar q];rfl
    ·rw[ai q];simp[ob,hz,p2]
   have g2:Nat.blt c 9223372036854775808=true:=gi (by omega);have g3:Nat.ble (j.bytes*c) 281474976710656=true:=by refine gi (eP (Nat.mul_le_mul (cI p3) p5) (by decide))
   simp[vx,ob,hi,hd,hj,p4,g2,g3,hz0]
  ·cases e
 ·cases e
def sE(X:cJ)(st:St)(o:Op)(K:SV->SO->Option β):Option β:=match o with
 | .alloc t=>ob (X.T.get t) λi=>ob i.zero λz=>ob (sS z) λzv=>K (.ptr st.sx 0) (.cells zv.cells t)
 | .box t x=>ob (dX st.tm x) λv=>K (.ptr st.sx 0) (.cells v.cells t)
 | .buildSlice t n ps=>ob (Gz st.tm ps.toList) λus=>ob (X.T.get t) λi=>match i.desc with
  | .slice e=>ob (X.T.get e) λj=>cond (Nat.ble (n*j.size) 16777216&&Nat.blt n bt) (ob (mN j n) λz=>ob (rD z) λzs=>ob (Cb (λk=>some (k*j.size,j.size)) zs us) λcs=>match A8 cs with
   |some vs=>K (.sl st.sx 0 n n) (.arr vs e)
   |none=>K (.sl st.sx 0 n n) (.cells cs e)) none
  |_=>bM 25
 | .makeSlice t l c=>ob (dX st.tm l) λa=>ob (dX st.tm c) λb=>Vk X.T st t a b K
 |_=>bM 26
variable{X:cJ} {o:Oper}
theorem MC{st:St}{K:SV->SO->Option β}(e:sE X st o.op K=some b):
 ∃sv so,K sv so=some b/\mW o.op=false/\∀(σ:Nm)(tm:Tr Value)(h0:Heap)(nx:Nat),aM σ st tm h0 nx->∃u obj,(∀h,dr X h nx (jo tm) o=some (.val u (h.set nx obj) (nx+1)))/\DV (σ.add st.sx (some nx,0)) sv u/\∀h:Heap,h.get nx=some obj->DO (σ.add st.sx (some nx,0)) h st.sx so:=by
 unfold sE at e;split at e
 ·rename_i t hop;obtain⟨i,hi,e⟩:=af e;obtain⟨z,hz,e⟩:=af e;obtain⟨zv,hv,e⟩:=af e;refine⟨_,_,e,by rw[hop];rfl,λσ tm h0 nx R=>⟨.pointer (some ⟨nx,0,none⟩),.cells z.cells.toList t false,λh=>?_,.ptr (Nm.eI _ _ _),λh hg=>⟨nx,0,_,Nm.eI _ _ _,hg,(Ab hv).cells⟩⟩⟩;unfold dr I8;simp[hop,ob,hi,hz]
 ·rename_i t x hop;obtain⟨v,k1,e⟩:=af e;refine⟨_,_,e,by rw[hop];rfl,λσ tm h0 nx R=>?_⟩;obtain⟨u,u1,u2⟩:=ec R k1;refine⟨.pointer (some ⟨nx,0,none⟩),.cells u.cells.toList t false,λh=>?_,.ptr (Nm.eI _ _ _),λh hg=>⟨nx,0,_,Nm.eI _ _ _,hg,u2.cells.mono (Nm.AJ (R.fresh _ (aB _)))⟩⟩;unfold dr AD;simp only[hop,ob,u1]
 ·rename_i t n ps hop;obtain⟨us,k1,e⟩:=af e;obtain⟨i,hi,e⟩:=af e;split at e
  ·rename_i el hd;obtain⟨j,hj,e⟩:=af e;obtain⟨c1,e⟩:=aT e;rw[bg] at c1;obtain⟨z,hz,e⟩:=af e;obtain⟨zs,hzs,e⟩:=af e;obtain⟨cs,hcs,e⟩:=af e;have mk:∀(σ:Nm)(tm:Tr Value)(h0:Heap)(nx:Nat),aM σ st tm h0 nx->∃out,bU σ cs out/\∀h,dr X h nx (jo tm) o=some (.val (.slice (some ⟨nx,0,none⟩) n n) (h.set nx (.cells out el false)) (nx+1)):=by
    intro σ tm h0 nx R;obtain⟨ws,u1,u2⟩:=M8 R k1;obtain⟨out,f1,f2⟩:=Gg u2 (It hzs) hcs;refine⟨out,f2,λh=>?_⟩;unfold dr I9;simp[hop,ob,u1,hi,hd,hj,c1.1,hz,f1,c1.2]
   have hn:=cT c1.2;split at e
   ·rename_i vs hvs;refine⟨_,_,e,by rw[hop];rfl,λσ tm h0 nx R=>?_⟩;obtain⟨out,f2,g⟩:=mk σ tm h0 nx R;obtain⟨w1,w2⟩:=Qf f2 hvs;exact⟨_,_,g,.sl (Nm.eI _ _ _) hn (aB _),λh hg=>⟨nx,0,_,Nm.eI _ _ _,hg,w2,w1⟩⟩
   ·refine⟨_,_,e,by rw[hop];rfl,λσ tm h0 nx R=>?_⟩;obtain⟨out,f2,g⟩:=mk σ tm h0 nx R;exact⟨_,_,g,.sl (Nm.eI _ _ _) hn (aB _),λh hg=>⟨nx,0,_,Nm.eI _ _ _,hg,f2.mono (Nm.AJ (R.fresh _ (aB _)))⟩⟩
  ·cases e
 ·rename_i t l c hop;obtain⟨a,k1,e⟩:=af e;obtain⟨b',k2,e⟩:=af e;obtain⟨sv,so,h1,h2⟩:=afs e;refine⟨sv,so,h1,by rw[hop];rfl,λσ tm h0 nx R=>?_⟩;obtain⟨u,u1,u2⟩:=ec R k1;obtain⟨u',v1,v2⟩:=ec R k2;obtain⟨w,obj,g1,g2,g3⟩:=h2 σ nx u u' u2 v2;refine⟨w,obj,λh=>?_,g2,g3⟩;unfold dr;simp[hop,ob,u1,v1,g1]
 ·cases e
theorem Ra{ev:Operand->Option Value}:∀{xs:List Operand}{us:List Value},qK ev xs=some us->xs.length=us.length
 |[],us,e=>by cases e;rfl
 |x::xs,us,e=>by obtain⟨v,_,e⟩:=af e;obtain⟨vs,h,e⟩:=af e;cases e;simp[Ra h]
def Gh(mx:Bool)(args:List SV)(K:SV->Option β):Option β:=match args with
 |[.i k a,.i k' b]=>cond (decide (k=k')) (K (.i k (cond (cond mx (aq a b) (aq b a)) b a))) none
 |_=>bM 77
theorem Vi{mx:Bool}{args:List SV}{K:SV->Option β}(e:Gh mx args K=some b):∃sv,K sv=some b/\∀(σ:Nm)(vs:List Value),bU σ args vs->∃u,vy mx vs=some u/\DV σ sv u:=by
 unfold Gh at e;split at e
 ·obtain⟨_,e⟩:=aT e;refine⟨_,e,λσ vs d=>?_⟩;cases d with
  |cons d1 d=>
   cases d with
   |cons d2 d=>cases d;cases d1;cases d2;exact⟨_,rfl,.i _ _⟩
 grind
def U9(X:cJ)(pt:FuncId->Option (dJ β))(st:St)(c:Call)(K:Bool->SV->St->Option β):Option β:=
 ob (Co st.tm c.args.toList) λargs=>match c.callee with
  | .value x=>ob (dX st.tm x) λfv=>match fv with
   | .fn g l=>ob (pt (g%65536)) λe=>ob (X.F.get (g%65536)) λ_=>e st (l.take (g/65536)++(args++l.drop (g/65536))) K
   |_=>bM 27
  | .builtin .len=>match args with
   |[x]=>ob (c.argTypes.toList[0]?) λt=>Vf X.T st t x λv=>K false v st
   |_=>bM 28
  | .builtin .copy=>match args with
   |[d,x]=>ob (c.argTypes.toList[0]?) λt=>Va X.T st t d x (K false)
   |_=>bM 47
  | .builtin .append=>match args with
   |[s,x]=>Mt X.T st c.argTypes.toList s x (K false)
   |_=>bM 29
  | .builtin .min=>Gh false args λv=>K false v st
  | .builtin .max=>Gh true args λv=>K false v st
  |_=>bM 30
def My(T:TT)(t:TypeId)(x:SV)(f:Nat)(K:SV->Option β):Option β:=match x with
 | .agg l=>ob (T.get t) λi=>match i.desc with
  | .struct fs=>ob (fs[f]?) λfl=>MD T fl.type l fl.offset K
  |_=>bM 31
 |_=>bM 32
def Vc(x:SV)(n:Nat)(K:SV->Option β):Option β:=match x with
 | .aH l=>ob (l[n]?) K
 |_=>bM 33
def Fw:Value->Bool
 | .int _ _=>true
 | .bool _=>true
 | .string _=>true
 | .slice none 0 0=>true
 |_=>false
def zN:Value->Value
 | .slice none 0 0=>ae 0 []
 |x=>x
theorem aiA(h:Fw x=true):(aY (zN x)/\bB [zN x]=true)/\WV (zN x) x:=by
 unfold Fw at h;split at h
 ·exact⟨⟨.int _ _,rfl⟩,.inl rfl⟩
 ·exact⟨⟨.bool _,rfl⟩,.inl rfl⟩
 ·exact⟨⟨.str _,rfl⟩,.inl rfl⟩
 ·exact⟨⟨.lit (λx h=>by cases h) rfl,rfl⟩,.inr ⟨rfl,rfl⟩⟩
 grind
theorem Xz:∀{zs:List Value},zs.all Fw=true->bO (zs.map zN)/\cU (zs.map zN) zs
 |[],_=>⟨⟨(λx h=>by cases h),rfl⟩,.nil⟩
 |z::zs,h=>by
  rw[List.all_cons,bg] at h;obtain⟨a,b⟩:=aiA h.1;obtain⟨c,d⟩:=Xz h.2;refine⟨bO.mm λx hx=>?_,.cons b d⟩;rcases cj.1 (hx) with rfl|hx
  ·grind
  ·exact c.mem x hx
def BI(T:TT)(kt:TypeId)(x k:Value)(zs:List Value)(K:Bool->List Value->Option β):Option β:=match x with
 | .func (.method _) cs _=>ob (sW cs.toList) λes=>ob (qB T kt k es 0) λr=>match r with
  |none=>K false (zs.map zN)
  |some (_,.agg vs)=>cond (bB vs.toList) (K true vs.toList) none
  |some _=>none
 |_=>none
theorem Xo:∀{cs:List Value}{es:List (Value×Value)},sW cs=some es->(∀x∈cs,aY x)->∀e∈es,aY e.2
 |[],es,h,_=>by cases h;exactλe he=>by cases he
 |c::cs,es,h,p=>by
  unfold sW at h;split at h
  ·grind
  ·rename_i k v r' q;cases q;obtain⟨es0,h1,h⟩:=af h;cases h;intro e he;rcases cj.1 he with rfl|he
   ·have:=p _ (mC ..);cases this with
    |fn a b=>grind
   ·exact Xo h1 (λx hx=>p x (gL _ hx)) e he
  grind
variable{kt:TypeId}
theorem PI{k:Value}:∀{es:List (Value×Value)}{i n:Nat}{v:Value},qB T kt k es i=some (some (n,v))->∃e∈es,e.2 =v
 |[],i,n,v,h=>by cases h
 |(a,b)::es,i,n,v,h=>by
  obtain⟨q,h1,h⟩:=af h;cases q with
  |true=>simp_all
  |false=>
   obtain⟨e,h2,h3⟩:=PI (h)
   grind
theorem Qe{σ:Nm}:∀{l:List SV}{vs us:List Value},bU σ l vs->A8 l=some us->jO us=true->us=vs
 |_,_,_,.nil,e,_=>by cases e;rfl
 |_,_,_,.cons a t,e,h=>by
  obtain⟨u,h1,e⟩:=af e;obtain⟨ws,h2,e⟩:=af e;cases e;have hu:∃k n,u=.int k n:=by cases u<;>first|exact⟨_,_,rfl⟩|cases h
  obtain⟨k,n,rfl⟩:=hu;rw[Qe t h2 h]
  congr 1
  cases a<;>simp only[DZ] at h1<;>cases h1<;>rfl
def SB(ok:Bool)(z:Value)(r:Option (Nat×Value)):Value:=match r with
 |none=>cond ok (.tuple ⟨[z,.bool false]⟩) z
 |some (_,v)=>cond ok (.tuple ⟨[v,.bool true]⟩) v
variable{ok:Bool}
theorem XM{h:Heap}{et:TypeId}{ks:List Value}{i ki ei:gC}{z:Value}{fs:Array Field}{es:List (Value×Value)}{r:Option (Nat×Value)}(hi:T.get t=some i)(hd:i.desc=.map kt et)(hki:T.get kt=some ki)(hei:T.get et=some ei)(hz:ei.zero=some z)(hkd:ki.desc=.struct fs)
 (c:(ki.flat&&Nat.beq ks.length ki.size&&jO ks)=true) (hes:DS h x=some es) (hr:qB T kt (.agg ⟨ks⟩) es 0=some r):xL T h t x (.agg ⟨ks⟩) ok=some (SB ok z r):=by
 unfold xL;simp only[ob,hi,hd,hki,hei,hz,hkd,(show(ki.flat&&Nat.beq (⟨ks⟩:Array Value).size ki.size&&jO (⟨ks⟩:Array Value).toList)=true from c),hes,hr];cases r<;>rfl
def Vh(X:cJ)(t:TypeId)(a b:SV)(ok:Bool)(K:SV->Option β):Option β:=
 ob (X.T.get t) λi=>match i.desc with
  | .map kt et=>ob (X.T.get kt) λki=>ob (X.T.get et) λei=>ob ei.zero λz=>match ki.desc,a,b,z with
   | .struct _,.v x,.agg l,.agg zs=>ob (A8 l) λks=>cond (ki.flat&&Nat.beq ks.length ki.size&&jO ks&&zs.toList.all Fw)
    (BI X.T kt x (.agg ⟨ks⟩) zs.toList λf cs=>yp (zs.toList.map xY) cs λr=>cond (Nat.beq cs.length r.length) (K (cond ok (.aH [.agg r,.b f]) (.agg r))) none) none
   |_,_,_,_=>bM 54
  |_=>bM 55
theorem afq{x k:SV}{K:SV->Option β}(e:Vh X t x k ok K=some b):
 ∃sv,K sv=some b/\∀(σ:Nm)(h:Heap) v u,DV σ x v->DV σ k u->∃r,xL X.T h t v u ok=some r/\DV σ sv r:=by
 replace e:=af e;obtain⟨i,hi,e⟩:=e;split at e
 ·rename_i kt et hd;replace e:=af e;obtain⟨ki,hki,e⟩:=e;replace e:=af e;obtain⟨ei,hei,e⟩:=e;replace e:=af e;obtain⟨z,hz,e⟩:=e;split at e
  ·rename_i fs x l zs hkd;replace e:=af e;obtain⟨ks,hks,e⟩:=e;obtain⟨e1,e⟩:=aT e;simp only[bg] at e1;obtain⟨⟨⟨c1,c2⟩,c3⟩,c4⟩:=e1;unfold BI at e;split at e
   ·rename_i m cs cs2 _;obtain⟨es,hes,e⟩:=af e;obtain⟨r,hr,e⟩:=af e;have fin:∀{f:Bool}{cs vs:List Value},yp (zs.toList.map xY) cs (λr=>cond (Nat.beq cs.length r.length) (K (cond ok (.aH [.agg r,.b f]) (.agg r))) none)=some b->bO cs->cU cs vs->
     ∃sv,K sv=some b/\∀σ,DV σ sv (cond ok (.tuple ⟨[.agg ⟨vs⟩,.bool f]⟩) (.agg ⟨vs⟩)):=by
     intro f cs vs e pc wv;obtain⟨l,g1,g2,g3,g4,g5⟩:=Eo e;obtain⟨g0,g1⟩:=aT g1;refine⟨_,g1,λσ=>?_⟩;have q:=g4 pc vs wv σ;rw[<-g2,<-(bJ g0),wv.length,rG] at q;cases ok with
     |true=>exact .aH (.cons (.agg q) (.cons (.b _) .nil))
     |false=>exact .agg q
    have look:∀(σ:Nm)(h:Heap) v u,DV σ (.v (.func (.method m) cs cs2)) v->DV σ (.agg l) u->xL X.T h t v u ok=some (SB ok (.agg zs) r):=by
     intro σ h v u dv du;cases dv with
     |v p1 p2=>
      cases du with
      |agg du=>rename_i us;rw[(show(Value.agg us)=.agg ⟨ks⟩ from by rw[(Qe du hks c3)])];exact XM hi hd hki hei hz hkd (by rw[c1,c2,c3];rfl) hes hr
    split at e
    ·obtain⟨p1,p2⟩:=Xz c4;obtain⟨sv,s1,s2⟩:=fin e p1 p2;exact⟨sv,s1,λσ h v u dv du=>⟨_,look σ h v u dv du,s2 σ⟩⟩
    ·rename_i n vs;obtain⟨o1,e⟩:=aT e;obtain⟨e0,m1,m2⟩:=PI hr;by_cases hp:∀x∈cs.toList,aY x
     ·have p0:=Xo hes hp e0 m1;rw[m2] at p0;have p1:bO vs.toList:=by
       cases p0 with
       |agg p=>exact⟨p,o1⟩
      obtain⟨sv,s1,s2⟩:=fin e p1 (cU.refl _);exact⟨sv,s1,λσ h v u dv du=>⟨_,look σ h v u dv du,s2 σ⟩⟩
     ·obtain⟨l,g1,g2,g3,g4,g5⟩:=Eo e;obtain⟨g0,g1⟩:=aT g1;refine⟨_,g1,λσ h v u dv du=>absurd ?_ hp⟩;cases dv with
      |v q1 q2=>
       cases q1 with
       |gy q=>exact q
    ·cases e
   ·cases e
  ·cases e
 ·cases e
def opC:Op->Nat
 | .move ..=>0
 | .assign ..=>1
 | .pick ..=>2
 | .alloc ..=>3
 | .box ..=>4
 | .build ..=>5
 | .buildSlice ..=>6
 | .insert ..=>7
 | .load ..=>8
 | .store ..=>9
 | .ready ..=>10
 | .waits ..=>11
 | .nilCheck ..=>12
 | .binOp ..=>13
 | .unOp ..=>14
 | .convert ..=>15
 | .sliceToArrayPointer ..=>16
 | .makeInterface ..=>17
 | .makeFunc ..=>18
 | .makeMap ..=>19
 | .makeChan ..=>20
 | .makeSlice ..=>21
 | .slice ..=>22
 | .fieldAddr ..=>23
 | .field ..=>24
 | .indexAddr ..=>25
 | .index ..=>26
 | .lookup ..=>27
 | .mapUpdate ..=>28
 | .mapEntry ..=>29
 | .entryStore ..=>30
 | .range ..=>31
 | .next ..=>32
 | .entry ..=>33
 | .typeAssert ..=>34
 | .extract ..=>35
 | .call ..=>36
 |_=>99
def Ua(X:cJ)(t:TypeId)(n:Nat):Bool:=match X.T.get t with
 |some i=>match i.desc with
  | .slice e=>match X.T.get e with
   |some j=>me j.desc&&Nat.beq n 1
   |none=>false
  |_=>false
 |none=>false
def Lu(sx:Nat)(v:SV)(so:SO)(K:SV->SO->Option β):Option β:=match v,so with
 | .sl id off n c,.arr cs t=>cond (Nat.beq id sx&&(Nat.beq off 0&&(Nat.beq n 1&&(Nat.beq c 1&&Nat.beq cs.length 1)))) (K (.gr sx 1) (.grow 1 cs t)) (bM 78)
 |_,_=>bM 79
def C5(X:cJ)(pt:FuncId->Option (dJ β))(st:St)(o:Op)(K:Bool->SV->St->Option β):Option β:=match o with
 | .move x=>ob (dX st.tm x) λv=>K false v st
 | .assign x=>ob (dX st.tm x) λv=>K false v st
 | .alloc t=>sE X st (.alloc t) λv so=>K false v {st with h:=st.h.set st.sx so,sx:=st.sx+1}
 | .box t x=>sE X st (.box t x) λv so=>K false v {st with h:=st.h.set st.sx so,sx:=st.sx+1}
 | .buildSlice t n ps=>cond (Ua X t n) (sE X st (.buildSlice t n ps) λv so=>Lu st.sx v so λv so=>K false v {st with h:=st.h.set st.sx so,sx:=st.sx+1}) (sE X st (.buildSlice t n ps) λv so=>K false v {st with h:=st.h.set st.sx so,sx:=st.sx+1})
 | .build t ps=>ob (Gz st.tm ps.toList) λus=>U8 X.T t us λv=>K false v st
 | .load t a=>ob (dX st.tm a) λp=>MB X.T st t p λv=>K false v st
 | .nilCheck x=>ob (dX st.tm x) λv=>match v with
  | .ptr _ _=>K false v st
  | .lp _=>K false v st
  |_=>bM 34
 | .binOp op t x y _=>ob (dX st.tm x) λa=>ob (dX st.tm y) λb=>match a,b with
  | .ni,.ni=>cond (qO x||qO y) (Vl X.T op t λv=>K false v st) none
  |a,b=>Mu X.T op t a b λv=>K false v st
 | .typeAssert x _ t ok=>ob (dX st.tm x) λa=>U7 X.T a t ok λv=>K false v st
 | .unOp op _ x=>ob (dX st.tm x) λa=>ME op a λv=>K false v st
 | .convert s d x=>ob (dX st.tm x) λa=>Mw X.T st s d a λv=>K false v st
 | .makeSlice t l c=>ob (dX st.tm l) λa=>ob (dX st.tm c) λb=>Vj X.T st t a b (K false)
 | .slice t x lo hi mx=>ob (dX st.tm x) λa=>ob (Gy st.tm lo) λl=>ob (Gy st.tm hi) λu=>ob (Gy st.tm mx) λm=>Vn X.T t a l u m λv=>K false v st
 | .fieldAddr s x f=>ob (dX st.tm x) λa=>Vd X.T s a f λv=>K false v st
 | .field t x f=>ob (dX st.tm x) λa=>My X.T t a f λv=>K false v st
 | .indexAddr t x ix=>ob (dX st.tm x) λa=>ob (dX st.tm ix) λb=>MA X.T st t a b λv=>K false v st
 | .index t x ix=>ob (dX st.tm x) λa=>ob (dX st.tm ix) λb=>Mz X.T t a b λv=>K false v st
 | .extract t i=>ob (dX st.tm t) λa=>Vc a i λv=>K false v st
 | .call c=>U9 X pt st c K
 | .panic x=>ob (dX st.tm x) λv=>match v with
  | .eR t u=>K true (.eR t u) st
  |_=>bM 53
 | .makeInterface t x=>ob (dX st.tm x) λa=>Ve X.T t a λv=>K false v st
 | .lookup t x k ok=>ob (dX st.tm x) λa=>ob (dX st.tm k) λc=>Vh X t a c ok λv=>K false v st
 | .makeFunc (.func f) first captured=>cond (Nat.blt f 65536) (ob (Co st.tm first.toList) λa=>ob (Co st.tm captured.toList) λl=>K false (.fn (f+65536*first.toList.length) (a++l)) st) none
 |o=>bM (100+opC o)
def uw(o:Op):Bool:=match o with
 | .move _=>true
 | .assign _=>true
 | .build _ _=>true
 | .load _ _=>true
 | .nilCheck _=>true
 | .binOp _ _ _ _ _=>true
 | .unOp _ _ _=>true
 | .convert _ _ _=>true
 | .slice _ _ _ _ _=>true
 | .fieldAddr _ _ _=>true
 | .field _ _ _=>true
 | .indexAddr _ _ _=>true
 | .index _ _ _=>true
 | .extract _ _=>true
 | .makeFunc _ _ _=>true
 | .makeInterface _ _=>true
 | .typeAssert _ _ _ _=>true
 | .lookup _ _ _ _=>true
 | .call c=>match c.callee with
  | .builtin .len=>true
  | .builtin .min=>true
  | .builtin .max=>true
  |_=>false
 |_=>false
def xz(P:Program)(ops:Array Oper)(i:Nat)(o:Oper)(st:St)(sv:SV):Prop:=
 ∀(σ:Nm)(tm:Tr Value)(h:Heap)(nx n:Nat),aM σ st tm h nx->fU ops tm o=some true->∃v,dE P ops i tm n h nx v h nx/\DV σ sv v
def Ar(P:Program)(p:Bool)(ops:Array Oper)(i:Nat)(o:Oper)(st st':St)(sv:SV):Prop:=
 ∀(σ:Nm)(tm:Tr Value)(h:Heap)(nx n:Nat),aM σ st tm h nx->fU ops tm o=some true->∃σ' v h' nx',Pr P p ops i tm n h nx v h' nx'/\nx<=nx'/\NX nx σ σ'/\DV σ' sv v/\aM σ' st' tm h' nx'
variable{h':Heap} {i n nx':Nat} {ops:Array Oper}
theorem qT(OK:ea P X)(ho:ops[i]? =some o)(hd:mW o.op=false){tm:Tr Value}{h:Heap}{nx:Nat}(hw:fU ops tm o=some true)
 (e:dr X h nx (jo tm) o=some (.val v h' nx')):dE P ops i tm n h nx v h' nx':=by
 refine ES OK ho ?_;simp[AH,ob,hw,hd,e]
theorem aaY(OK:ea P X)(ho:ops[i]? =some o)(hd:mW o.op=false){tm:Tr Value}{h:Heap}{nx:Nat}(hw:fU ops tm o=some true)
 (e:dr X h nx (jo tm) o=some (.skip h' nx')):dE P ops i tm n h nx undef h' nx':=by
 refine ES OK ho ?_;simp[AH,ob,hw,hd,e]
theorem afl{x:SV}{f:Nat}{K:SV->Option β}(e:My X.T t x f K=some b):
 ∃sv,K sv=some b/\∀(σ:Nm) v,DV σ x v->∃cs i fs fl u,v=.agg cs/\X.T.get t=some i/\i.desc=.struct fs/\fs[f]? =some fl/\rQ X.T fl.type cs.toList fl.offset=some u/\DV σ sv u:=by
 unfold My at e;split at e
 ·obtain⟨i,hi,e⟩:=af e;split at e
  ·rename_i fs hd;obtain⟨fl,hf,e⟩:=af e;obtain⟨sv,h1,h2⟩:=Vm e;refine⟨sv,h1,λσ v d=>?_⟩;cases d with
   |agg g=>grind
  grind
 grind
theorem aeo{tm:Tr Value}{h:Heap}{nx:Nat}{el:TypeId}(hl:vs.length=1)(R:dE P ops i tm n h nx (.slice (some ⟨nx,0,none⟩) 1 1) (h.set nx (.cells vs el false)) (nx+1)):
 dE P ops i tm n h nx (.slice (some ⟨nx,0,none⟩) 1 (bt+1)) (h.set nx (.cells vs el true)) (nx+1):=by
 intro ρ fr cs w rest k hm ht S H N;obtain⟨ρ',v',w',s,rv,H',M⟩:=R ρ fr cs w rest k hm ht S H N;obtain⟨L,hL,cz,fz,q1,q2,q3⟩:=H'.obj nx _ (by rw[Tr.bD,ar rfl]);have same:∀{o ob},(h.set nx (.cells vs el true)).get o=some ob->∃ob',(h.set nx (.cells vs el false)).get o=some ob':=by intro o ob ho;rw[Tr.bD] at ho⊢;by_cases e:o=nx<;>grind
 have own:∀b,gT ρ' (h.set nx (.cells vs el true)) b->gT ρ' (h.set nx (.cells vs el false)) b:=by intro b ⟨o,ob,L,h1,h2,h3⟩;obtain⟨ob',h1'⟩:=same h1;exact⟨o,ob',L,h1',h2,h3⟩
 refine⟨ρ',v',w',s,?_,⟨?_,?_,H'.lit,?_⟩,⟨M.os,M.tape,M.output,M.size,M.block,λb hb ho=>M.owned b hb (own b ho),M.le,M.cq,M.lit,M.eU⟩⟩
 ·generalize hs:Value.slice (some ⟨nx,0,none⟩) 1 1=sl at rv;cases rv<;>try(cases hs;done)
  ·rename_i o off m cap L' hL' hcp hn;injection hs with e1 e2 e3;injection e1 with e1;injection e1 with e1 e4;subst e1 e2 e3 e4;cases hL.symm.trans hL';refine .gz hL' (by omega) ?_ (aB 1);have:=q3.2.2.1 rfl;have:=q3.1;omega
  ·injection hs with e1 e2 e3;unfold bt at e3;omega
  all_goals
   injection hs with e1 e2 e3;omega
 ·intro o ob ho;rw[Tr.bD] at ho;by_cases e:o=nx
  ·rw[ar e] at ho;cases ho;subst e;exact⟨L,hL,cz,fz,q1,q2,⟨q3.1,q3.2.1,(λq=>by cases q),q3.2.2.2⟩⟩
  ·rw[ai e] at ho;exact H'.obj o ob (by rw[Tr.bD,ai e];exact ho)
 ·intro o o' L1 L2 ob ob' h1 h2;obtain⟨x,h1⟩:=same h1;obtain⟨y,h2⟩:=same h2;exact H'.inj o o' L1 L2 x y h1 h2
 ·intro b j u hu o ob L1 h1;obtain⟨x,h1⟩:=same h1;exact H'.free b j u hu o x L1 h1
theorem OL(OK:ea P X){pt:FuncId->Option (dJ β)}(PT:oJ P pt)(ho:ops[i]? =some o){st:St}{K:Bool->SV->St->Option β}(e:C5 X pt st o.op K=some b):
 ∃p sv st',K p sv st'=some b/\st'.tm=st.tm/\Ar P p ops i o st st' sv/\(uw o.op=true->p=false/\xz P ops i o st sv):=by
 have still:∀{sv:SV},xz P ops i o st sv->Ar P false ops i o st st sv/\(uw o.op=true->false=false/\xz P ops i o st sv):=by intro sv q;refine⟨λσ tm h nx n R hw=>?_,λ_=>⟨rfl,q⟩⟩;obtain⟨v,v1,v2⟩:=q σ tm h nx n R hw;exact⟨σ,v,h,nx,v1,aB _,NX.refl _ _,v2,R⟩
 have quiet:∀{sv:SV},mW o.op=false->(∀(σ:Nm)(tm:Tr Value)(h:Heap)(nx:Nat),aM σ st tm h nx->∃v,dr X h nx (jo tm) o=some (.val v h nx)/\DV σ sv v)->Ar P false ops i o st st sv/\(uw o.op=true->false=false/\xz P ops i o st sv):=by intro sv hd q;refine still λσ tm h nx n R hw=>?_;obtain⟨v,v1,v2⟩:=q σ tm h nx R;exact⟨v,qT OK ho hd hw v1,v2⟩
 have make:∀{K':SV->St->Option β},sE X st o.op (λv so=>K' v {st with h:=st.h.set st.sx so,sx:=st.sx+1})=some b->∃sv so,K' sv {st with h:=st.h.set st.sx so,sx:=st.sx+1}=some b/\({st with h:=st.h.set st.sx so,sx:=st.sx+1}:St).tm=st.tm/\Ar P false ops i o st {st with h:=st.h.set st.sx so,sx:=st.sx+1} sv:=by intro K' e;obtain⟨sv,so,h1,hd,h3⟩:=MC e;refine⟨sv,so,h1,rfl,λσ tm h nx n R hw=>?_⟩;obtain⟨u,obj,g1,g2,g3⟩:=h3 σ tm h nx R;obtain⟨E,R'⟩:=R.new (n:=0) (so:=so) (ob:=obj) (g3 _ (by rw[Tr.bD,ar rfl]));exact⟨_,u,_,nx+1,qT OK ho hd hw (g1 h),kc _,E,g2,R'⟩
 have makeO:∀{K':SV->St->Option β},sE X st o.op (λv so=>Lu st.sx v so λv so=>K' v {st with h:=st.h.set st.sx so,sx:=st.sx+1})=some b->∃sv so,K' sv {st with h:=st.h.set st.sx so,sx:=st.sx+1}=some b/\({st with h:=st.h.set st.sx so,sx:=st.sx+1}:St).tm=st.tm/\Ar P false ops i o st {st with h:=st.h.set st.sx so,sx:=st.sx+1} sv:=by
  intro K' e;obtain⟨sv,so,h1,hd,h3⟩:=MC e;unfold Lu at h1;split at h1
  ·rename_i id off m c cs t;obtain⟨c1,h2⟩:=aT h1;clear h1;simp only[bg] at c1;have e1:=bJ c1.1;have e2:=bJ c1.2.1;have e3:=bJ c1.2.2.1;have e4:=bJ c1.2.2.2.1;have e5:=bJ c1.2.2.2.2;subst e1 e2 e3 e4;refine⟨_,_,h2,rfl,λσ tm h nx n R hw=>?_⟩;obtain⟨u,obj,g1,g2,g3⟩:=h3 σ tm h nx R;obtain⟨o',n',vs,k1,k2,k3,k4⟩:=g3 (h.set nx obj) (by rw[Tr.bD,ar rfl]);rw[Nm.eI] at k1;cases k1;rw[Tr.bD,ar rfl] at k2;obtain rfl:=bu k2;cases g2 with
   |sl g hc hn=>
    rw[Nm.eI] at g;cases g;have hl:vs.length=1:=by rw[<-k4.length];exact e5
    obtain⟨E,R'⟩:=R.new (n:=1) (so:=.grow 1 cs t) (ob:=.cells vs t true) ⟨aB 1,k3,.inr ⟨nx,1,Nm.eI _ _ _,by rw[e5],vs,by rw[Tr.bD,ar rfl],k4⟩⟩;exact⟨_,_,_,nx+1,aeo hl (qT OK ho hd hw (g1 h)),kc _,E,.gr (Nm.eI _ _ _),R'⟩
  ·cases h1
 unfold C5 at e;split at e
 ·rename_i x hop;replace e:=af e;obtain⟨v,h1,e⟩:=e;refine⟨false,_,_,e,rfl,quiet (by rw[hop];rfl) λσ tm h nx R=>?_⟩;obtain⟨u,u1,u2⟩:=ec R h1;refine⟨u,?_,u2⟩;unfold dr;simp only[hop,ob,u1]
 ·rename_i x hop;replace e:=af e;obtain⟨v,h1,e⟩:=e;refine⟨false,_,_,e,rfl,quiet (by rw[hop];rfl) λσ tm h nx R=>?_⟩;obtain⟨u,u1,u2⟩:=ec R h1;refine⟨u,?_,u2⟩;unfold dr;simp only[hop,ob,u1]
 ·rename_i t hop;rw[<-hop] at e;obtain⟨sv,so,h1,h2,h3⟩:=make e;exact⟨false,sv,_,h1,h2,h3,λq=>by rw[hop] at q;cases q⟩
 ·rename_i t x hop;rw[<-hop] at e;obtain⟨sv,so,h1,h2,h3⟩:=make e;exact⟨false,sv,_,h1,h2,h3,λq=>by rw[hop] at q;cases q⟩
 ·rename_i t n ps hop;rw[<-hop] at e;cases hb:Ua X t n with
  |true=>rw[hb,ay] at e;obtain⟨sv,so,h1,h2,h3⟩:=makeO e;exact⟨false,sv,_,h1,h2,h3,λq=>by rw[hop] at q;cases q⟩
  |false=>rw[hb,aE] at e;obtain⟨sv,so,h1,h2,h3⟩:=make e;exact⟨false,sv,_,h1,h2,h3,λq=>by rw[hop] at q;cases q⟩
 ·rename_i t ps hop;replace e:=af e;obtain⟨us,k1,e⟩:=e;obtain⟨sv,h1,h2⟩:=afg e;refine⟨false,_,_,h1,rfl,quiet (by rw[hop];rfl) λσ tm h nx R=>?_⟩;obtain⟨ws,u1,u2⟩:=M8 R k1;obtain⟨u,v1,v2⟩:=h2 σ ws u2;refine⟨u,?_,v2⟩;unfold dr;simp only[hop,ob,u1,v1]
 ·rename_i t a hop;replace e:=af e;obtain⟨p,k1,e⟩:=e;obtain⟨sv,h1,h2⟩:=Vg e;refine⟨false,_,_,h1,rfl,quiet (by rw[hop];rfl) λσ tm h nx R=>?_⟩;obtain⟨w,u1,u2⟩:=ec R k1;obtain⟨u,v1,v2⟩:=h2 σ tm h nx R w u2;refine⟨u,?_,v2⟩;unfold dr;simp only[hop,ob,u1,v1]
 ·rename_i x hop;replace e:=af e;obtain⟨p,k1,e⟩:=e;split at e
  ·refine⟨false,_,_,e,rfl,quiet (by rw[hop];rfl) λσ tm h nx R=>?_⟩;obtain⟨w,u1,u2⟩:=ec R k1;have u2':=u2;cases u2 with
   |ptr g=>refine⟨_,?_,u2'⟩;unfold dr;simp only[hop,ob,u1]
  ·refine⟨false,_,_,e,rfl,quiet (by rw[hop];rfl) λσ tm h nx R=>?_⟩;obtain⟨w,u1,u2⟩:=ec R k1;have u2':=u2;cases u2 with
   |lp g=>refine⟨_,?_,u2'⟩;unfold dr og;unfold og at u1;simp only[hop,ob,u1]
  ·cases e
 ·rename_i op t x y yt hop;replace e:=af e;obtain⟨p,k1,e⟩:=e;replace e:=af e;obtain⟨q,k2,e⟩:=e;split at e
  ·obtain⟨hc,e⟩:=aT e;obtain⟨sv,h1,h2⟩:=aft e;refine⟨false,_,_,h1,rfl,quiet (by rw[hop];rfl) λσ tm h nx R=>?_⟩;obtain⟨w,u1,u2⟩:=ec R k1;obtain⟨w2,u3,u4⟩:=ec R k2;cases u2;cases u4;obtain⟨u,v1,v2⟩:=h2 σ;refine⟨u,?_,v2⟩;unfold dr;simp only[hop,ob,u1,u3,hc,v1]
  ·obtain⟨sv,h1,h2⟩:=aff e;refine⟨false,_,_,h1,rfl,quiet (by rw[hop];rfl) λσ tm h nx R=>?_⟩;obtain⟨w,u1,u2⟩:=ec R k1;obtain⟨w2,u3,u4⟩:=ec R k2;obtain⟨u,v1,v2⟩:=h2 σ w w2 (qO x||qO y) u2 u4;refine⟨u,?_,v2⟩;unfold dr;simp only[hop,ob,u1,u3,v1]
 ·rename_i x xt t ok hop;replace e:=af e;obtain⟨p,k1,e⟩:=e;obtain⟨sv,h1,h2⟩:=afe e;refine⟨false,_,_,h1,rfl,quiet (by rw[hop];rfl) λσ tm h nx R=>?_⟩;obtain⟨w,u1,u2⟩:=ec R k1;obtain⟨u,v1,v2⟩:=h2 σ w u2;refine⟨u,?_,v2⟩;unfold dr;simp only[hop,ob,u1,v1]
 ·rename_i op t x hop;replace e:=af e;obtain⟨p,k1,e⟩:=e;obtain⟨sv,h1,h2⟩:=afw e;refine⟨false,_,_,h1,rfl,quiet (by rw[hop];rfl) λσ tm h nx R=>?_⟩;obtain⟨w,u1,u2⟩:=ec R k1;obtain⟨u,v1,v2⟩:=h2 σ w u2;refine⟨u,?_,v2⟩;unfold dr;simp only[hop,ob,u1,v1]
 ·rename_i s d x hop;replace e:=af e;obtain⟨p,k1,e⟩:=e;obtain⟨sv,h1,h2⟩:=afj e;refine⟨false,_,_,h1,rfl,quiet (by rw[hop];rfl) λσ tm h nx R=>?_⟩;obtain⟨w,u1,u2⟩:=ec R k1;obtain⟨u,v2,v1⟩:=h2 σ tm h nx R w u2;refine⟨u,?_,v2⟩;unfold dr;simp only[hop,ob,u1];split at v1
  ·simp only[v1]
  ·cases hsd:Nat.beq s d with
   |true=>rw[hsd,ay] at v1;simp only[ay,v1]
   |false=>rw[hsd,aE] at v1;simp only[aE,v1]
  ·simp only[v1]
  ·simp only[v1]
  ·cases v1
 ·rename_i t l c hop;replace e:=af e;obtain⟨p,k1,e⟩:=e;replace e:=af e;obtain⟨q,k2,e⟩:=e;obtain⟨sv,st',h1,h2,h3⟩:=afr e;refine⟨false,sv,st',h1,h2,λσ tm h nx n R hw=>?_,λq=>by rw[hop] at q;cases q⟩;obtain⟨w,u1,u2⟩:=ec R k1;obtain⟨w2,u3,u4⟩:=ec R k2;obtain⟨σ',u,h',g1,g2,g3,g4⟩:=h3 σ tm h nx R w w2 u2 u4;refine⟨σ',u,h',nx+1,qT OK ho (by rw[hop];rfl) hw ?_,kc _,g2,g3,g4⟩;unfold dr;simp only[hop,ob,u1,u3,g1]
 ·rename_i t x lo hi mx hop;replace e:=af e;obtain⟨p,k1,e⟩:=e;replace e:=af e;obtain⟨l,k2,e⟩:=e;replace e:=af e;obtain⟨u,k3,e⟩:=e;replace e:=af e;obtain⟨m,k4,e⟩:=e;obtain⟨sv,h1,h2⟩:=afu e;refine⟨false,_,_,h1,rfl,quiet (by rw[hop];rfl) λσ tm h nx R=>?_⟩;obtain⟨w,u1,u2⟩:=ec R k1;obtain⟨w2,u3,u4⟩:=M7 R k2;obtain⟨w3,u5,u6⟩:=M7 R k3;obtain⟨w4,u7,u8⟩:=M7 R k4;obtain⟨u,v1,v2⟩:=h2 σ w w2 w3 w4 (DN h w) u2 u4 u6 u8;refine⟨u,?_,v2⟩;unfold dr;simp only[hop,ob,u1,u3,u5,u7,v1]
 ·rename_i s x f hop;replace e:=af e;obtain⟨p,k1,e⟩:=e;obtain⟨sv,h1,h2⟩:=afk e;refine⟨false,_,_,h1,rfl,quiet (by rw[hop];rfl) λσ tm h nx R=>?_⟩;obtain⟨w,u1,u2⟩:=ec R k1;obtain⟨u,v1,v2⟩:=h2 σ w u2;refine⟨u,?_,v2⟩;unfold dr;simp only[hop,ob,u1,v1]
 ·rename_i t x f hop;replace e:=af e;obtain⟨p,k1,e⟩:=e;obtain⟨sv,h1,h2⟩:=afl e;refine⟨false,_,_,h1,rfl,quiet (by rw[hop];rfl) λσ tm h nx R=>?_⟩;obtain⟨w,u1,u2⟩:=ec R k1;obtain⟨cs,ii,fs,fl,u,rfl,g1,g2,g3,v1,v2⟩:=h2 σ w u2;refine⟨u,?_,v2⟩;unfold dr;simp only[hop,ob,u1,g1,g2,g3,v1]
 ·rename_i t x ix hop;replace e:=af e;obtain⟨p,k1,e⟩:=e;replace e:=af e;obtain⟨q,k2,e⟩:=e;obtain⟨sv,h1,h2⟩:=afn e;refine⟨false,_,_,h1,rfl,quiet (by rw[hop];rfl) λσ tm h nx R=>?_⟩;obtain⟨w,u1,u2⟩:=ec R k1;obtain⟨w2,u3,u4⟩:=ec R k2;obtain⟨u,v1,v2⟩:=h2 σ tm h nx R w w2 u2 u4;refine⟨u,?_,v2⟩;unfold dr;simp only[hop,ob,u1,u3,v1]
 ·rename_i t x ix hop;replace e:=af e;obtain⟨p,k1,e⟩:=e;replace e:=af e;obtain⟨q,k2,e⟩:=e;obtain⟨sv,h1,h2⟩:=afo e;refine⟨false,_,_,h1,rfl,quiet (by rw[hop];rfl) λσ tm h nx R=>?_⟩;obtain⟨w,u1,u2⟩:=ec R k1;obtain⟨w2,u3,u4⟩:=ec R k2;obtain⟨u,v1,v2⟩:=h2 σ w w2 u2 u4;refine⟨u,?_,v2⟩;unfold dr;simp only[hop,ob,u1,u3,v1]
 ·rename_i t j hop;replace e:=af e;obtain⟨p,k1,e⟩:=e;unfold Vc at e;split at e
  ·replace e:=af e;obtain⟨y,k2,e⟩:=e;refine⟨false,_,_,e,rfl,quiet (by rw[hop];rfl) λσ tm h nx R=>?_⟩;obtain⟨w,u1,u2⟩:=ec R k1;cases u2 with
   |aH g=>obtain⟨u,v1,v2⟩:=g.get k2;refine⟨u,?_,v2⟩;unfold dr DL;simp only[hop,ob,u1,v1]
  ·cases e
 ·rename_i c hop;unfold U9 at e;replace e:=af e;obtain⟨args,k1,e⟩:=e;split at e
  ·rename_i x0 hc;replace e:=af e;obtain⟨fv,k0,e⟩:=e;split at e
   case h_2=>cases e
   rename_i g l;replace e:=af e;obtain⟨en,k2,e⟩:=e;replace e:=af e;obtain⟨fn,k3,e⟩:=e;obtain⟨p,sv,st',h1,ht,h2⟩:=PT (g%65536) en k2 _ _ _ _ e;refine⟨p,sv,st',h1,ht,λσ tm h nx n R hw=>?_,λq=>by rw[hop] at q;simp only[uw,hc] at q;cases q⟩;obtain⟨vs,u1,u2⟩:=sI R k1;obtain⟨w,w1,w2⟩:=ec R k0;cases w2 with
   |fn w2=>
   rename_i ys;obtain⟨σ',pv,h',nx',q2,q3,q4,q5,q6⟩:=h2 σ tm h nx (ys.take (g/65536)++(vs++ys.drop (g/65536))) R ((w2.take _).append (u2.append (w2.drop _)));refine⟨σ',pv,h',nx',aeX OK ho (f:=g%65536) (args:=ys.take (g/65536)++(vs++ys.drop (g/65536))) ?_ q2,q3,q4,q5,q6⟩;have hd:mW o.op=false:=by rw[hop];rfl
   unfold DK;simp only[ob,hw,ay,hd,aE];unfold dr rO;simp only[hop,ob,u1,hc,w1,yy];unfold qC;simp[ob,k3]
  ·rename_i hc;split at e
   ·rename_i x;replace e:=af e;obtain⟨t,k2,e⟩:=e;obtain⟨sv,h1,h2⟩:=afp e;refine⟨false,_,_,h1,rfl,quiet (by rw[hop];rfl) λσ tm h nx R=>?_⟩;obtain⟨vs,u1,u2⟩:=sI R k1;cases u2 with
    |cons d t0=>cases t0;obtain⟨u,v1,v2⟩:=h2 σ tm h nx R _ d;refine⟨u,?_,v2⟩;unfold dr rO tB;simp only[hop,ob,u1,hc,k2,v1]
   ·cases e
  ·rename_i hc;split at e
   ·rename_i d x;replace e:=af e;obtain⟨t,k2,e⟩:=e;obtain⟨sv,st',h1,h2,h3⟩:=afi e;refine⟨false,sv,st',h1,h2,λσ tm h nx n R hw=>?_,λq=>by rw[hop] at q;simp only[uw,hc] at q;cases q⟩;obtain⟨vs,u1,u2⟩:=sI R k1;cases u2 with
    |cons d t0=>
     cases t0 with
     |cons d2 t1=>cases t1;obtain⟨u,h',g1,g2,g3⟩:=h3 σ tm h nx R _ _ d d2;refine⟨σ,u,h',nx,qT OK ho (by rw[hop];rfl) hw ?_,aB _,NX.refl _ _,g2,g3⟩;unfold dr rO tB;simp only[hop,ob,u1,hc,k2,g1]
   ·cases e
  ·rename_i hc;split at e
   ·rename_i s x;obtain⟨sv,st',h1,h2,h3⟩:=afd e;refine⟨false,sv,st',h1,h2,λσ tm h nx n R hw=>?_,λq=>by rw[hop] at q;simp only[uw,hc] at q;cases q⟩;obtain⟨vs,u1,u2⟩:=sI R k1;cases u2 with
    |cons d t0=>
     cases t0 with
     |cons d2 t1=>cases t1;obtain⟨σ',u,h',nx',g1,g2,g3,g4,g5⟩:=h3 σ tm h nx R _ _ d d2;refine⟨σ',u,h',nx',qT OK ho (by rw[hop];rfl) hw ?_,g2,g3,g4,g5⟩;unfold dr rO tB;simp only[hop,ob,u1,hc,g1]
   ·cases e
  ·rename_i hc;obtain⟨sv,h1,h2⟩:=Vi e;refine⟨false,_,_,h1,rfl,quiet (by rw[hop];rfl) λσ tm h nx R=>?_⟩;obtain⟨vs,u1,u2⟩:=sI R k1;obtain⟨u,v1,v2⟩:=h2 σ vs u2;refine⟨u,?_,v2⟩;unfold dr rO tB;simp only[hop,ob,u1,hc,v1]
  ·rename_i hc;obtain⟨sv,h1,h2⟩:=Vi e;refine⟨false,_,_,h1,rfl,quiet (by rw[hop];rfl) λσ tm h nx R=>?_⟩;obtain⟨vs,u1,u2⟩:=sI R k1;obtain⟨u,v1,v2⟩:=h2 σ vs u2;refine⟨u,?_,v2⟩;unfold dr rO tB;simp only[hop,ob,u1,hc,v1]
  ·cases e
 ·rename_i x hop;replace e:=af e;obtain⟨p,k1,e⟩:=e;split at e
  ·rename_i t y;refine⟨true,_,_,e,rfl,λσ tm h nx n R hw=>?_,λq=>by rw[hop] at q;cases q⟩;obtain⟨w,u1,u2⟩:=ec R k1;have u2':=u2;cases u2 with
   |eR g=>refine⟨σ,_,h,nx,aeL OK ho (by rw[hop];rfl) hw ?_,aB _,NX.refl _ _,u2',R⟩;unfold dr;simp only[hop,ob,u1]
  ·cases e
 ·rename_i t x hop;replace e:=af e;obtain⟨p,k1,e⟩:=e;obtain⟨sv,h1,h2⟩:=afm e;refine⟨false,_,_,h1,rfl,quiet (by rw[hop];rfl) λσ tm h nx R=>?_⟩;obtain⟨w,u1,u2⟩:=ec R k1;obtain⟨u,v1,v2⟩:=h2 σ w u2;refine⟨u,?_,v2⟩;unfold dr;simp only[hop,ob,u1,v1]
 ·rename_i t x k ok hop;replace e:=af e;obtain⟨p,k1,e⟩:=e;replace e:=af e;obtain⟨q,k2,e⟩:=e;obtain⟨sv,h1,h2⟩:=afq e;refine⟨false,_,_,h1,rfl,quiet (by rw[hop];rfl) λσ tm h nx R=>?_⟩;obtain⟨w,u1,u2⟩:=ec R k1;obtain⟨w',u1',u2'⟩:=ec R k2;obtain⟨u,v1,v2⟩:=h2 σ h w w' u2 u2';refine⟨u,?_,v2⟩;unfold dr;simp only[hop,ob,u1,u1',v1]
 ·rename_i f first captured hop
  obtain⟨e1,e⟩:=aT e;have e1:=cT e1;replace e:=af e;obtain⟨a,k0,e⟩:=e;replace e:=af e;obtain⟨l,k1,e⟩:=e;refine⟨false,_,_,e,rfl,quiet (by rw[hop];rfl) λσ tm h nx R=>?_⟩;obtain⟨vs,u1,u2⟩:=sI R k1;obtain⟨us,t1,t2⟩:=sI R k0;have hl:us.length=first.toList.length:=(Ra t1).symm;refine⟨.func (.func f) ⟨us⟩ ⟨vs⟩,?_,?_⟩
  ·unfold dr;simp only[hop,ob,u1,t1]
  ·rw[<-ZN e1 us vs hl];exact .fn (t2.append u2)
 ·cases e
end
section
variable{β:Type}
def qZ(tm:Tr SV)(d:Option Nat)(v:SV):Tr SV:=match d with
 |some d=>tm.set d v
 |none=>tm
def EC(ops:Array Oper)(tm:Tr SV)(o:Oper)(K:Bool->Tr SV->Option β):Option β:=match o.guard with
 |none=>K true tm
 |some (j,want)=>ob (ops[j]?) λoj=>ob oj.dst λd=>ob (tm.get d) λv=>match v with
  | .b x=>cond x (K (true==want) (tm.set d (.b true))) (K (false==want) (tm.set d (.b false)))
  | .aH _=>K false tm
  |_=>none
def BQ(X:cJ)(pt:FuncId->Option (dJ β))(st:St)(o:Oper)(K:Option SV->St->Option β):Option β:=match o.op with
 | .store t a y=>match o.dst with
  |none=>ob (dX st.tm a) λp=>ob (dX st.tm y) λu=>Vo X.T st t p u (K none)
  |some _=>none
 | .pick c a b=>ob (dX st.tm c) λv=>match v with
  | .b x=>cond x (ob (dX st.tm a) λu=>K none {st with tm:=qZ st.tm o.dst u}) (ob (dX st.tm b) λu=>K none {st with tm:=qZ st.tm o.dst u})
  |_=>bM 36
 |op=>C5 X pt st op λp v st'=>cond p (K (some v) st') (K none {st' with tm:=qZ st'.tm o.dst v})
variable{h:Heap} {nx:Nat} {st:St} {tm:Tr Value} {v:Value} {σ:Nm}
theorem aM.slot(R:aM σ st tm h nx){d:Option Nat}{sv:SV}(dv:DV σ sv v):aM σ {st with tm:=qZ st.tm d sv} (fM tm d v) h nx:=by
 refine⟨λt s hs=>?_,R.obj,R.inj,R.lt,R.fresh⟩;cases d with
 |none=>exact R.tm t s hs
 |some d=>
  unfold qZ at hs;unfold fM;rw[Tr.bD] at hs⊢;by_cases e:t=d
  ·grind
  ·rw[ai e] at hs⊢;exact R.tm t s hs
theorem Pd:DV σ (.aH []) undef:=.aH .nil
def XD(P:Program)(ops:Array Oper)(i:Nat)(o:Oper)(st st':St):Prop:=
 ∀(σ:Nm)(tm:Tr Value)(h:Heap)(nx n:Nat),aM σ st tm h nx->fU ops tm o=some true->∃σ' v h' nx',dE P ops i tm n h nx v h' nx'/\nx<=nx'/\NX nx σ σ'/\aM σ' st' (fM tm o.dst v) h' nx'
def XE(P:Program)(q:Option SV)(ops:Array Oper)(i:Nat)(o:Oper)(st st':St):Prop:=match q with
 |none=>XD P ops i o st st'
 |some sv=>∀(σ:Nm)(tm:Tr Value)(h:Heap)(nx n:Nat),aM σ st tm h nx->fU ops tm o=some true->∃σ' v h' nx',ve P ops i tm n h nx v h' nx'/\nx<=nx'/\NX nx σ σ'/\DV σ' sv v/\aM σ' st' tm h' nx'
variable{P:Program} {X:cJ} {b:β} {i:Nat} {o:Oper} {ops:Array Oper} {pt:FuncId->Option (dJ β)}
theorem Lr(OK:ea P X)(PT:oJ P pt)(ho:ops[i]? =some o){K:Option SV->St->Option β}(e:BQ X pt st o K=some b):
 ∃q st',K q st'=some b/\XE P q ops i o st st':=by
 unfold BQ at e;split at e
 ·rename_i t a y hop;split at e
  ·rename_i hdst;obtain⟨p,k1,e⟩:=af e;obtain⟨u,k2,e⟩:=af e;obtain⟨st',h1,h2,h3⟩:=afv e;refine⟨none,st',h1,λσ tm h nx n R hw=>?_⟩;obtain⟨w,u1,u2⟩:=ec R k1;obtain⟨w2,u3,u4⟩:=ec R k2;obtain⟨h',g1,g2⟩:=h3 σ tm h nx R w w2 u2 u4;refine⟨σ,undef,h',nx,aaY OK ho (by rw[hop];rfl) hw ?_,aB _,NX.refl _ _,by rw[hdst];exact g2⟩;unfold dr;simp[hop,ob,u1,u3,g1]
  grind
 ·rename_i c x y hop;obtain⟨v,k1,e⟩:=af e;split at e
  ·rename_i q;cases q with
   |true=>obtain⟨u,k2,e⟩:=af e;refine⟨none,_,e,λσ tm h nx n R hw=>?_⟩;obtain⟨w,u1,u2⟩:=ec R k1;obtain⟨w2,u3,u4⟩:=ec R k2;cases u2;refine⟨σ,w2,h,nx,qT OK ho (by rw[hop];rfl) hw ?_,aB _,NX.refl _ _,R.slot u4⟩;unfold dr;simp[hop,ob,u1,u3]
   |false=>obtain⟨u,k2,e⟩:=af e;refine⟨none,_,e,λσ tm h nx n R hw=>?_⟩;obtain⟨w,u1,u2⟩:=ec R k1;obtain⟨w2,u3,u4⟩:=ec R k2;cases u2;refine⟨σ,w2,h,nx,qT OK ho (by rw[hop];rfl) hw ?_,aB _,NX.refl _ _,R.slot u4⟩;unfold dr;simp[hop,ob,u1,u3]
  grind
 ·obtain⟨p,sv,st',h1,h2,h3,_⟩:=OL OK PT ho e;cases p with
  |false=>refine⟨none,_,h1,λσ tm h nx n R hw=>?_⟩;obtain⟨σ',v,h',nx',g1,g2,g3,g4,g5⟩:=h3 σ tm h nx n R hw;exact⟨σ',v,h',nx',g1,g2,g3,g5.slot g4⟩
  |true=>refine⟨some sv,_,h1,λσ tm h nx n R hw=>?_⟩;obtain⟨σ',v,h',nx',g1,g2,g3,g4,g5⟩:=h3 σ tm h nx n R hw;exact⟨σ',v,h',nx',g1,g2,g3,g4,g5⟩
def Eh(n:Nat)(o:Oper)(r:Option β):Option β:=match o.dst with
 |none=>r
 |some d=>cond (Nat.blt d n) r none
theorem QM{n:Nat}{r:Option β}(e:Eh n o r=some b):r=some b/\∀d,o.dst=some d->d<n:=by
 unfold Eh at e;split at e
 ·grind
 ·rename_i d0 h;obtain⟨e1,e⟩:=aT e;simp_all
def zq(X:cJ)(pt:FuncId->Option (dJ β))(n:Nat)(ops:Array Oper):List Oper->St->(Option SV->St->Option β)->Option β
 |[],st,K=>K none st
 |o::os,st,K=>EC ops st.tm o λw tm=>Eh n o (cond w (BQ X pt {st with tm:=tm} o λq st'=>match q with|none=>zq X pt n ops os st' K|some v=>K (some v) st') (zq X pt n ops os {st with tm:=qZ tm o.dst (.aH [])} K))
theorem RC{K:Bool->Tr SV->Option β}(e:EC ops st.tm o K=some b):
 ∃w tm',K w tm'=some b/\∀(σ:Nm)(tm:Tr Value)(h:Heap)(nx:Nat),aM σ st tm h nx->fU ops tm o=some w/\aM σ {st with tm:=tm'} tm h nx:=by
 unfold EC at e;split at e
 ·rename_i hg;refine⟨_,_,e,λσ tm h nx R=>⟨?_,R⟩⟩;unfold fU;rw[hg]
 ·rename_i j want hg;obtain⟨oj,h1,e⟩:=af e;obtain⟨d,h2,e⟩:=af e;obtain⟨v,h3,e⟩:=af e;split at e
  ·rename_i x;have key:∀(σ:Nm)(tm:Tr Value)(h:Heap)(nx:Nat),aM σ st tm h nx->fU ops tm o=some (x==want)/\aM σ {st with tm:=st.tm.set d (.b x)} tm h nx:=by
    intro σ tm h nx R;obtain⟨u,u1,u2⟩:=R.tm d _ h3;cases u2;refine⟨?_,λt s hs=>?_,R.obj,R.inj,R.lt,R.fresh⟩
    ·unfold fU;simp[hg,ob,h1,h2,u1]
    ·have hs:(st.tm.set d (.b x)).get t=some s:=hs;rw[Tr.bD] at hs;by_cases q:t=d
     ·rw[ar q] at hs;cases hs;rw[q];exact⟨_,u1,.b _⟩
     ·rw[ai q] at hs;exact R.tm t s hs
   cases x with
   |true=>grind
   |false=>grind
  ·refine⟨_,_,e,λσ tm h nx R=>⟨?_,R⟩⟩;obtain⟨u,u1,u2⟩:=R.tm d _ h3;cases u2;simp[fU,hg,ob,h1,h2,u1]
  grind
variable{c:cC} {h':Heap} {k:List Item} {nx':Nat} {rest:List Nat}
theorem OH(ho:ops[i]? =some o){cs:List cC}(hd:∀d,o.dst=some d->d<c.n)(_hle:nx<=nx')
 (R:dE P ops i tm c.n h nx v h' nx'):cG P (bL c cs tm (.inRegion ops (i::rest)::k) h nx) (bL c cs (fM tm o.dst v) (.inRegion ops rest::k) h' nx'):=by
 intro ρ fr cs' base w F CC H N;have hmode:=F.mode;obtain⟨y,k',hft,a,bI⟩:=inv1 F.todo;subst a;obtain⟨ρ1,v1,w1,s1,r1,H1,M1⟩:=R ρ fr (cs'++base) w rest k' hmode hft F.tmps H N;have E:=M1.ext N;refine⟨ρ1,_,cs',w1,s1,⟨F.fn,?_,.cons rfl (bI.mono E),F.defers.mono E,(by show rK ρ1 .run fr.mode;rw[hmode];rfl),F.kind,F.round.mono E⟩,CC.mono E,H1,M1⟩;have S:=F.tmps.mono E;rw[(show(ops[i]?).bind (·.dst)=o.dst from by rw[ho];rfl)];cases hdst:o.dst with
 |none=>exact S
 |some d=>exact S.set (hd d hdst) r1
def vj(P:Program)(m:AM)(v:Value)(tmX:Tr Value)(h':Heap)(nx':Nat):Prop:=
 ∀(ρ:Ren)(fr:Frame)(base:List Frame)(w:World),jM ρ m.fr fr->bh ρ m.h w->(∀o,m.nx<=o->o<nx'->ρ o=none)->
  ∃ρ' fr' w' td,Steps P (lone fr base w) (lone fr' base w')/\jM ρ' {m.fr with tmps:=tmX,todo:=td,mode:=.panicking [pe v]} fr'/\bh ρ' h' w'/\bP ρ m.h m.nx w ρ' h' nx' w'
variable{h1:Heap} {nx1:Nat} {td td1:List Item} {tm1:Tr Value}
theorem cG.WZ{tmX:Tr Value}(S:cG P (bL c [] tm td h nx) (bL c [] tm1 td1 h1 nx1))(T:vj P (bL c [] tm1 td1 h1 nx1) v tmX h' nx')(l:nx<=nx1)(l':nx1<=nx'):vj P (bL c [] tm td h nx) v tmX h' nx':=by
 intro ρ fr base w F H N;obtain⟨ρ1,fr1,cs1,w1,s1,F1,C1,H1,M1⟩:=S ρ fr [] base w F .nil H (λo o1 o2=>N o o1 (tb o2 l'));cases C1;have N1:∀o,nx1<=o->o<nx'->ρ1 o=none:=λo o1 o2=>by rw[M1.cq o (.inr o1)];exact N o (eP l o1) o2
 obtain⟨ρ2,fr2,w2,t2,s2,a1,a7,a8⟩:=T ρ1 fr1 base w1 F1 H1 N1;exact⟨ρ2,fr2,w2,t2,s1.trans s2,a1,a7,M1.trans a8⟩
theorem ahy
 (R:ve P ops i tm c.n h nx v h' nx'):vj P (bL c [] tm (.inRegion ops (i::rest)::k) h nx) v tm h' nx':=by
 intro ρ fr base w F H N;obtain⟨y,k',hft,a,bI⟩:=inv1 F.todo;subst a;obtain⟨ρ1,v1,w1,s1,r1,H1,M1⟩:=R ρ fr base w rest k' F.mode hft F.tmps H N;have E:=M1.ext N;exact⟨ρ1,_,w1,_,s1,⟨F.fn,F.tmps.mono E,F.todo.mono E,F.defers.mono E,⟨_,rfl,.cons r1 .nil⟩,F.kind,F.round.mono E⟩,H1,M1⟩
variable{α:Type}
def wm:List Oper->Tr α->Tr α
 |[],t=>t
 |o::os,t=>wm os (match o.dst with|some d=>t.del d|none=>t)
theorem EO:∀{os:List Oper}{t:Tr α}{k:Nat}{v:α},(wm os t).get k=some v↔(∀o∈os,o.dst≠some k)/\t.get k=some v
 |[],t,k,v=>by simp[wm]
 |o::os,t,k,v=>by
  unfold wm;rw[EO];cases hd:o.dst with
  |none=>grind
  |some d=>
   simp[Tr.kK]
   grind
def xD(P:Program)(c:cC)(m:AM)(σ:Nm)(nx:Nat)(td:List Item)(q:Option SV)(st':St):Prop:=
 ∃σ' tm' h' nx',nx<=nx'/\NX nx σ σ'/\aM σ' st' tm' h' nx'/\match q with
  |none=>cG P m (bL c [] tm' td h' nx')
  |some sv=>∃v,DV σ' sv v/\vj P m v tm' h' nx'
theorem xD.step{td0:List Item}{σ1:Nm}{q:Option SV}{st':St}(G:xD P c (bL c [] tm1 td1 h1 nx1) σ1 nx1 td q st')(S:cG P (bL c [] tm td0 h nx) (bL c [] tm1 td1 h1 nx1))(l:nx<=nx1)(N:NX nx σ σ1):xD P c (bL c [] tm td0 h nx) σ nx td q st':=by
 obtain⟨σ',tm',h',nx',a1,a2,a3,a4⟩:=G;refine⟨σ',tm',h',nx',eP l a1,N.trans a2 l,a3,?_⟩;cases q with
 |none=>exact S.trans a4 l a1
 |some sv=>obtain⟨v,d,s⟩:=a4;exact⟨v,d,S.WZ s l a1⟩
theorem Cn(OK:ea P X)(PT:oJ P pt):∀(os:List Oper)(s:Nat),(∀i o,os[i]? =some o->ops[s+i]? =some o)->∀(st:St)(K:Option SV->St->Option β)(b:β),zq X pt c.n ops os st K=some b->
 ∃q st',K q st'=some b/\∀(σ:Nm)(tm:Tr Value)(h:Heap)(nx:Nat),aM σ st tm h nx->xD P c (bL c [] tm (.inRegion ops (List.range' s os.length)::k) h nx) σ nx (.inRegion ops []::k) q st'
 |[],s,_,st,K,b,e=>⟨none,st,e,λσ tm h nx R=>⟨σ,tm,h,nx,aB _,NX.refl _ _,R,cG.refl _ _⟩⟩
 |o::os,s,hs,st,K,b,e=>by
  obtain⟨w,tm1,e1,g⟩:=RC e;obtain⟨e2,hd⟩:=QM e1;have ho:=hs 0 o rfl;have hs':∀i o',os[i]? =some o'->ops[s+1+i]? =some o':=λi o' hi=>by have:=hs (i+1) o' (by simpa using hi);rw[show s+1+i=s+(i+1) by omega];exact this
  cases w with
  |true=>
   rw[ay] at e2;obtain⟨q,st1,e3,D⟩:=Lr OK PT ho e2;cases q with
   |none=>obtain⟨q',st',e4,D2⟩:=Cn OK PT os (s+1) hs' st1 K b e3;refine⟨q',st',e4,λσ tm h nx R=>?_⟩;obtain⟨hw,R1⟩:=g σ tm h nx R;obtain⟨σ1,v,h1,nx1,O1,l1,N1,R2⟩:=D σ tm h nx c.n R1 hw;exact(D2 σ1 _ h1 nx1 R2).step (OH ho hd l1 O1) l1 N1
   |some sv=>refine⟨some sv,_,e3,λσ tm h nx R=>?_⟩;obtain⟨hw,R1⟩:=g σ tm h nx R;obtain⟨σ1,v,h1,nx1,O1,l1,N1,dv,R2⟩:=D σ tm h nx c.n R1 hw;exact⟨σ1,tm,h1,nx1,l1,N1,R2,v,dv,ahy O1⟩
  |false=>obtain⟨q,st',e4,D2⟩:=Cn OK PT os (s+1) hs' _ K b e2;refine⟨q,st',e4,λσ tm h nx R=>?_⟩;obtain⟨hw,R1⟩:=g σ tm h nx R;exact(D2 σ _ h nx (R1.slot Pd)).step (OH ho hd (aB _) (ES OK ho (by unfold AH;simp only[ob,hw,aE]))) (aB _) (NX.refl _ _)
end
section
variable{β:Type}
inductive LK where
 |i|b|s|v|c|n
inductive bo where
 |i (x:Int)|b (x:Bool)|s (x:ByteArray)|v (x:Value)|c (x:List Value)|n (x:Nat)
def Fn:List LK->Type->Type
 |[],α=>α
 | .i::ks,α=>Int->Fn ks α
 | .b::ks,α=>Bool->Fn ks α
 | .s::ks,α=>ByteArray->Fn ks α
 | .v::ks,α=>Value->Fn ks α
 | .c::ks,α=>List Value->Fn ks α
 | .n::ks,α=>Nat->Fn ks α
def jq:(ks:List LK)->Fn ks (Option β)->List bo->Option β
 |[],f,[]=>f
 | .i::ks,f,.i x::ls=>jq ks (f x) ls
 | .b::ks,f,.b x::ls=>jq ks (f x) ls
 | .s::ks,f,.s x::ls=>jq ks (f x) ls
 | .v::ks,f,.v x::ls=>jq ks (f x) ls
 | .c::ks,f,.c x::ls=>jq ks (f x) ls
 | .n::ks,f,.n x::ls=>jq ks (f x) ls
 |_,_,_=>none
def lq:(ks:List LK)->(List bo->Option β)->Fn ks (Option β)
 |[],F=>F []
 | .i::ks,F=>λx=>lq ks λls=>F (.i x::ls)
 | .b::ks,F=>λx=>lq ks λls=>F (.b x::ls)
 | .s::ks,F=>λx=>lq ks λls=>F (.s x::ls)
 | .v::ks,F=>λx=>lq ks λls=>F (.v x::ls)
 | .c::ks,F=>λx=>lq ks λls=>F (.c x::ls)
 | .n::ks,F=>λx=>lq ks λls=>F (.n x::ls)
def jY:(ks:List LK)->Fn ks (Option β)
 |[]=>(none:Option β)
 | .i::ks=>λ_=>jY ks
 | .b::ks=>λ_=>jY ks
 | .s::ks=>λ_=>jY ks
 | .v::ks=>λ_=>jY ks
 | .c::ks=>λ_=>jY ks
 | .n::ks=>λ_=>jY ks
theorem nR:∀(ks:List LK)(F:List bo->Option β)(ls:List bo)(b:β),jq ks (lq ks F) ls=some b->F ls=some b
 |[],F,[],b,e=>e
 |[],F,_::_,b,e=>by cases e
 | .i::ks,F,.i x::ls,b,e=>nR ks (λls=>F (.i x::ls)) ls b e
 | .b::ks,F,.b x::ls,b,e=>nR ks (λls=>F (.b x::ls)) ls b e
 | .s::ks,F,.s x::ls,b,e=>nR ks (λls=>F (.s x::ls)) ls b e
 | .v::ks,F,.v x::ls,b,e=>nR ks (λls=>F (.v x::ls)) ls b e
 | .c::ks,F,.c x::ls,b,e=>nR ks (λls=>F (.c x::ls)) ls b e
 | .n::ks,F,.n x::ls,b,e=>nR ks (λls=>F (.n x::ls)) ls b e
 |k::ks,F,[],b,e=>by cases k<;>cases e
 | .i::ks,F,.b _::_,b,e| .i::ks,F,.s _::_,b,e| .i::ks,F,.v _::_,b,e| .i::ks,F,.c _::_,b,e| .i::ks,F,.n _::_,b,e=>by cases e
 | .b::ks,F,.i _::_,b,e| .b::ks,F,.s _::_,b,e| .b::ks,F,.v _::_,b,e| .b::ks,F,.c _::_,b,e| .b::ks,F,.n _::_,b,e=>by cases e
 | .s::ks,F,.i _::_,b,e| .s::ks,F,.b _::_,b,e| .s::ks,F,.v _::_,b,e| .s::ks,F,.c _::_,b,e| .s::ks,F,.n _::_,b,e=>by cases e
 | .v::ks,F,.i _::_,b,e| .v::ks,F,.b _::_,b,e| .v::ks,F,.s _::_,b,e| .v::ks,F,.c _::_,b,e| .v::ks,F,.n _::_,b,e=>by cases e
 | .c::ks,F,.i _::_,b,e| .c::ks,F,.b _::_,b,e| .c::ks,F,.s _::_,b,e| .c::ks,F,.v _::_,b,e| .c::ks,F,.n _::_,b,e=>by cases e
 | .n::ks,F,.i _::_,b,e| .n::ks,F,.b _::_,b,e| .n::ks,F,.s _::_,b,e| .n::ks,F,.v _::_,b,e| .n::ks,F,.c _::_,b,e=>by cases e
theorem AP:∀(ks:List LK)(ls:List bo)(b:β),jq ks (jY ks) ls=some b->False
 |[],[],b,e=>by cases e
 |[],_::_,b,e=>by cases e
 |k::ks,[],b,e=>by cases k<;>cases e
 |k::ks,l::ls,b,e=>by cases k<;>cases l<;>first|exact AP ks ls b e|cases e
inductive VT where
 |i (k:IntKind)|b|s|v
 |agg (l:List VT)|aH (l:List VT)
 |fn (f:FuncId) (l:List VT)
 |lp (l:List VT)
 |oV
 |eR (t:TypeId) (x:VT)
 |em (b:Bool)
 |ptr (id off:Nat)|sl (id off:Nat)|CZ (id:Nat)|gr (id E:Nat)
 |w7 (id off n c:Nat)
 |nf
inductive OT where
 |cells (l:List VT) (t:TypeId)
 |arr (t:TypeId)
 |grow (E:Nat) (t:TypeId)
structure cZ where
 cW:List (Nat×VT)
 sq:List (Nat×OT)
 sx:Nat
mutual
def VT.ks:VT->List LK
 | .i _=>[.i]
 | .b=>[.b]
 | .s=>[.s]
 | .v=>[.v]
 | .agg l=>VT.fo l
 | .aH l=>VT.fo l
 | .fn _ l=>VT.fo l
 | .eR _ x=>VT.ks x
 | .em _=>[]
 | .lp l=>VT.fo l
 | .oV=>[.c]
 | .ptr _ _=>[]
 | .sl _ _=>[.n,.n]
 | .CZ _=>[.n,.n,.n]
 | .gr _ _=>[]
 | .w7 _ _ _ _=>[]
 | .nf=>[]
def VT.fo:List VT->List LK
 |[]=>[]
 |x::xs=>VT.ks x++VT.fo xs
end
def OT.ks:OT->List LK
 | .cells l _=>VT.fo l
 | .arr _=>[.c]
 | .grow _ _=>[.c]
def cZ.ks(t:cZ):List LK:=VT.fo (t.cW.map (·.2))++(t.sq.map λo=>o.2.ks).flatten
def qM:List VT->Bool
 |[]=>true
 | .i _::l=>qM l
 | .b::l=>qM l
 | .s::l=>qM l
 | .v::l=>qM l
 |_=>false
abbrev Mp:=List (Nat×Option Nat)
def dV(id:Nat):Mp->Option (Option Nat)
 |[]=>none
 |(j,x)::m=>cond (Nat.beq j id) (some x) (dV id m)
def taken(a:Nat):Mp->Bool
 |[]=>false
 |(_,some x)::m=>cond (Nat.beq x a) true (taken a m)
 |(_,none)::m=>taken a m
def tE(id:Nat)(x:Option Nat)(m:Mp)(K:Mp->Option β):Option β:=match dV id m with
 |some y=>match x,y with
  |some a,some a'=>cond (Nat.beq a a') (K m) none
  |none,none=>K m
  |_,_=>none
 |none=>match x with
  |some a=>cond (taken a m) none (K ((id,some a)::m))
  |none=>K ((id,none)::m)
mutual
def Bl:VT->SV->Mp->(List bo->Mp->Option β)->Option β
 | .i k,.i k' n,m,K=>cond (decide (k=k')) (K [.i n] m) none
 | .b,.b x,m,K=>K [.b x] m
 | .s,.s x,m,K=>K [.s x] m
 | .v,.v x,m,K=>K [.v x] m
 | .v,.nl,m,K=>K [.v (ae 0 [])] m
 | .v,.ni,m,K=>K [.v .nilIface] m
 | .agg ts,.agg l,m,K=>vT ts l m K
 | .aH ts,.aH l,m,K=>vT ts l m K
 | .fn f ts,.fn f' l,m,K=>cond (Nat.beq f f') (vT ts l m K) none
 | .eR t vt,.eR t' x,m,K=>cond (Nat.beq t t') (Bl vt x m K) none
 | .em true,.em true,m,K=>K [] m
 | .em false,.em false,m,K=>K [] m
 | .oV,.lp cs,m,K=>K [.c cs] m
 | .ptr id off,.ptr id' off',m,K=>cond (Nat.beq off off') (tE id (some id') m λm'=>K [] m') none
 | .sl id off,.sl id' off' n c,m,K=>cond (Nat.beq off off') (tE id (some id') m λm'=>K [.n n,.n c] m') none
 | .CZ id,.sl id' off n c,m,K=>tE id (some id') m λm'=>K [.n off,.n n,.n c] m'
 | .gr id E,.gr id' E',m,K=>cond (Nat.beq E E') (tE id (some id') m λm'=>K [] m') none
 | .gr id _,.nl,m,K=>tE id none m λm'=>K [] m'
 | .w7 id off n0 c0,.sl id' off' n c,m,K=>cond (Nat.beq off off'&&(Nat.beq n0 n&&Nat.beq c0 c)) (tE id (some id') m λm'=>K [] m') none
 | .nf,.v .nilFunc,m,K=>K [] m
 |_,_,_,_=>none
def vT:List VT->List SV->Mp->(List bo->Mp->Option β)->Option β
 |[],[],m,K=>K [] m
 |t::ts,x::xs,m,K=>Bl t x m λl1 m1=>vT ts xs m1 λl2 m2=>K (l1++l2) m2
 |_,_,_,_=>none
end
mutual
def uh:VT->List bo->Option (SV×List bo)
 | .i k,.i n::ls=>some (.i k n,ls)
 | .b,.b x::ls=>some (.b x,ls)
 | .s,.s x::ls=>some (.s x,ls)
 | .v,.v x::ls=>some (.v x,ls)
 | .agg ts,ls=>ob (sd ts ls) λr=>some (.agg r.1,r.2)
 | .aH ts,ls=>ob (sd ts ls) λr=>some (.aH r.1,r.2)
 | .fn f ts,ls=>ob (sd ts ls) λr=>some (.fn f r.1,r.2)
 | .eR t vt,ls=>ob (uh vt ls) λr=>some (.eR t r.1,r.2)
 | .em b,ls=>some (.em b,ls)
 | .oV,.c cs::ls=>some (.lp cs,ls)
 | .ptr id off,ls=>some (.ptr id off,ls)
 | .sl id off,.n n::.n c::ls=>some (.sl id off n c,ls)
 | .CZ id,.n off::.n n::.n c::ls=>some (.sl id off n c,ls)
 | .gr id E,ls=>some (.gr id E,ls)
 | .w7 id off n c,ls=>some (.sl id off n c,ls)
 | .nf,ls=>some (.v .nilFunc,ls)
 |_,_=>none
def sd:List VT->List bo->Option (List SV×List bo)
 |[],ls=>some ([],ls)
 |t::ts,ls=>ob (uh t ls) λr=>ob (sd ts r.2) λq=>some (r.1 ::q.1,q.2)
end
def JV:List (Nat×VT)->Tr SV->Mp->(List bo->Mp->Option β)->Option β
 |[],_,m,K=>K [] m
 |(t,vt)::r,tm,m,K=>ob (tm.get t) λsv=>Bl vt sv m λl1 m1=>JV r tm m1 λl2 m2=>K (l1++l2) m2
def JT:Nat->OT->Tr SO->Mp->(List bo->Mp->Option β)->Option β
 |id,.cells ts t,h,m,K=>ob (dV id m) λx=>ob x λa=>ob (h.get a) λso=>match so with
  | .cells l t'=>cond (Nat.beq t t') (vT ts l m K) none
  |_=>none
 |id,.arr t,h,m,K=>ob (dV id m) λx=>ob x λa=>ob (h.get a) λso=>match so with
  | .arr c t'=>cond (Nat.beq t t') (K [.c c] m) none
  |_=>none
 |id,.grow E t,h,m,K=>ob (dV id m) λx=>match x with
  |none=>cond (Nat.blt 0 E) (K [.c []] m) none
  |some a=>ob (h.get a) λso=>match so with
   | .grow E' c t'=>cond (Nat.beq E E'&&Nat.beq t t') (K [.c c] m) none
   |_=>none
def JU:List (Nat×OT)->Tr SO->Mp->(List bo->Mp->Option β)->Option β
 |[],_,m,K=>K [] m
 |(id,ot)::r,h,m,K=>JT id ot h m λl1 m1=>JU r h m1 λl2 m2=>K (l1++l2) m2
def BL:List (Nat×VT)->List bo->Option (Tr SV×List bo)
 |[],ls=>some (.nil,ls)
 |(t,vt)::r,ls=>ob (uh vt ls) λq=>ob (BL r q.2) λp=>some (p.1.set t q.1,p.2)
def SY:OT->List bo->Option (SO×List bo)
 | .cells ts t,ls=>ob (sd ts ls) λq=>some (.cells q.1 t,q.2)
 | .arr t,.c c::ls=>some (.arr c t,ls)
 | .grow E t,.c c::ls=>some (.grow E c t,ls)
 |_,_=>none
def yN:List (Nat×OT)->List bo->Option (Tr SO×List bo)
 |[],ls=>some (.nil,ls)
 |(id,ot)::r,ls=>ob (SY ot ls) λq=>ob (yN r q.2) λp=>some (p.1.set id q.1,p.2)
def vD:Nat->Mp
 |0=>[]
 |n+1=>(n,some n)::vD n
def yq(m0:Mp)(t:cZ)(st:St)(K:List bo->Mp->Option β):Option β:=
 JV t.cW st.tm m0 λl1 m1=>JU t.sq st.h m1 λl2 m2=>cond (m2.all λp=>Nat.blt p.1 t.sx) (K (l1++l2) m2) none
def qL(an:Nat)(t:cZ)(st:St)(K:List bo->Option β):Option β:=yq (vD an) t st λls _=>K ls
def iX(t:cZ)(ls:List bo):Option St:=
 ob (BL t.cW ls) λp=>ob (yN t.sq p.2) λq=>some ⟨p.1,q.1,t.sx⟩
end
section
variable{β:Type}
def Sub(m m':Mp):Prop:=∀id x,dV id m=some x->dV id m'=some x
def kZ(m:Mp):Prop:=∀id id' a,dV id m=some (some a)->dV id' m=some (some a)->id=id'
theorem Sub.refl(m:Mp):Sub m m:=λ_ _ h=>h
theorem Sub.trans{a b c:Mp}(h:Sub a b)(k:Sub b c):Sub a c:=λi x e=>k i x (h i x e)
variable{a:Nat}
theorem WY:∀{m:Mp}{id:Nat},dV id m=some (some a)->taken a m=true
 |[],id,h=>by cases h
 |(j,x)::m,id,h=>by
  unfold dV at h;cases hb:Nat.beq j id with
  |true=>rw[hb] at h;cases h;unfold taken;simp
  |false=>
   rw[hb] at h;have:=WY h;cases x with
   |none=>exact this
   |some y=>
    unfold taken;cases hy:Nat.beq y a with
    |true=>rfl
    |false=>grind
variable{id:Nat} {m:Mp} {x:Option Nat}
theorem qS{j:Nat}:dV id ((j,x)::m)=if j=id then some x else dV id m:=by show cond (Nat.beq j id) (some x) (dV id m)=_;simp
variable{b:β}
theorem xQ{K:Mp->Option β}(e:tE id x m K=some b):
 ∃m',K m'=some b/\Sub m m'/\dV id m'=some x/\(kZ m->kZ m'):=by
 unfold tE at e;split at e
 ·rename_i y hy;split at e
  ·rename_i a a';obtain⟨e1,f⟩:=aT e;have:=bJ e1;subst this;exact⟨m,f,Sub.refl m,hy,λI=>I⟩
  ·exact⟨m,e,Sub.refl m,hy,λI=>I⟩
  grind
 ·rename_i hn;have sub:∀x,Sub m ((id,x)::m):=λx j y h=>by
   rw[qS]
   grind
  split at e
  ·rename_i a;cases ht:taken a m with
   |true=>grind
   |false=>
    rw[ht] at e;refine⟨_,e,sub _,by rw[qS,ar rfl],λI i j c h1 h2=>?_⟩;rw[qS] at h1 h2;have no:∀k,dV k m=some (some a)->False:=λk hk=>by rw[WY hk] at ht;cases ht
    by_cases q:id=i
    ·grind
    ·rw[ai q] at h1;by_cases q2:id=j
     ·grind
     ·rw[ai q2] at h2;exact I i j c h1 h2
  ·refine⟨_,e,sub _,by rw[qS,ar rfl],λI i j c h1 h2=>?_⟩;rw[qS] at h1 h2;by_cases q:id=i
   ·grind
   ·rw[ai q] at h1;by_cases q2:id=j
    ·grind
    ·rw[ai q2] at h2;exact I i j c h1 h2
def σm(σ:Nm)(M:Mp):Nm:=λid=>match dV id M with
 |some (some a)=>σ a
 |some none=>some (none,0)
 |none=>none
variable{M:Mp} {σ:Nm}
theorem σm_some(h:dV id M=some (some a)):σm σ M id=σ a:=by unfold σm;rw[h]
theorem σm_none(h:dV id M=some none):σm σ M id=some (none,0):=by unfold σm;rw[h]
mutual
theorem JW:∀(vt:VT)(sv:SV)(m:Mp)(K:List bo->Mp->Option β)(b:β),Bl vt sv m K=some b->
 ∃ls m',K ls m'=some b/\Sub m m'/\(kZ m->kZ m')/\∀rest,∃sv',uh vt (ls++rest)=some (sv',rest)/\∀(σ:Nm)(M:Mp)(v:Value),Sub m' M->DV σ sv v->DV (σm σ M) sv' v:=by
 intro vt sv m K b e;unfold Bl at e;split at e
 ·obtain⟨e1,f⟩:=aT e;have:=qw e1;subst this;exact⟨_,_,f,Sub.refl _,id,λrest=>⟨_,rfl,λσ M v _ d=>by cases d;exact .i _ _⟩⟩
 ·exact⟨_,_,e,Sub.refl _,id,λrest=>⟨_,rfl,λσ M v _ d=>by cases d;exact .b _⟩⟩
 ·exact⟨_,_,e,Sub.refl _,id,λrest=>⟨_,rfl,λσ M v _ d=>by cases d;exact .s _⟩⟩
 ·refine⟨_,_,e,Sub.refl _,id,λrest=>⟨_,rfl,λσ M v _ d=>?_⟩⟩;cases d with
  |v h h1=>exact .v h h1
  |im=>exact .im
 ·exact⟨_,_,e,Sub.refl _,id,λrest=>⟨_,rfl,λσ M v _ d=>by cases d;exact .im⟩⟩
 ·exact⟨_,_,e,Sub.refl _,id,λrest=>⟨_,rfl,λσ M v _ d=>by cases d;exact .v .nilIface rfl⟩⟩
 ·rename_i ts l;obtain⟨ls,m',h1,h2,h3,h4⟩:=Bm ts l m K b e;refine⟨ls,m',h1,h2,h3,λrest=>?_⟩;obtain⟨svs,g1,g2⟩:=h4 rest;refine⟨.agg svs,by unfold uh;rw[g1];rfl,λσ M v s d=>?_⟩;cases d with
  |agg g=>exact .agg (g2 σ M _ s g)
 ·rename_i ts l;obtain⟨ls,m',h1,h2,h3,h4⟩:=Bm ts l m K b e;refine⟨ls,m',h1,h2,h3,λrest=>?_⟩;obtain⟨svs,g1,g2⟩:=h4 rest;refine⟨.aH svs,by unfold uh;rw[g1];rfl,λσ M v s d=>?_⟩;cases d with
  |aH g=>exact .aH (g2 σ M _ s g)
 ·rename_i g0 ts g0' l;obtain⟨e1,f⟩:=aT e;have:=bJ e1;subst this;obtain⟨ls,m',h1,h2,h3,h4⟩:=Bm ts l m K b f;refine⟨ls,m',h1,h2,h3,λrest=>?_⟩;obtain⟨svs,g1,g2⟩:=h4 rest;refine⟨.fn g0 svs,by unfold uh;rw[g1];rfl,λσ M v s d=>?_⟩;cases d with
  |fn g=>exact .fn (g2 σ M _ s g)
 ·rename_i t0 vt0 t0' x0;obtain⟨e1,f⟩:=aT e;have:=bJ e1;subst this;obtain⟨ls,m',h1,h2,h3,h4⟩:=JW vt0 x0 m K b f;refine⟨ls,m',h1,h2,h3,λrest=>?_⟩;obtain⟨sv,g1,g2⟩:=h4 rest;refine⟨.eR t0 sv,by unfold uh;rw[g1];rfl,λσ M v s d=>?_⟩;cases d with
  |eR g=>exact .eR (g2 σ M _ s g)
 ·exact⟨_,_,e,Sub.refl _,λI=>I,λrest=>⟨_,rfl,λσ M v _ d=>by cases d;exact .em _⟩⟩
 ·exact⟨_,_,e,Sub.refl _,λI=>I,λrest=>⟨_,rfl,λσ M v _ d=>by cases d;exact .em _⟩⟩
 ·exact⟨_,_,e,Sub.refl _,λI=>I,λrest=>⟨_,rfl,λσ M v _ d=>by cases d;exact .lp (by assumption)⟩⟩
 ·rename_i id0 off id' off';obtain⟨e1,f⟩:=aT e;have:=bJ e1;subst this;obtain⟨m',h1,h2,h3,h4⟩:=xQ f;refine⟨_,m',h1,h2,h4,λrest=>⟨_,rfl,λσ M v s d=>?_⟩⟩;cases d with
  |ptr g=>exact .ptr (by rw[σm_some (s _ _ h3)];exact g)
 ·rename_i id0 off id' off' n c;obtain⟨e1,f⟩:=aT e;have:=bJ e1;subst this;obtain⟨m',h1,h2,h3,h4⟩:=xQ f;refine⟨_,m',h1,h2,h4,λrest=>⟨_,rfl,λσ M v s d=>?_⟩⟩;cases d with
  |sl g hc hn=>exact .sl (by rw[σm_some (s _ _ h3)];exact g) hc hn
 ·rename_i id0 id' off n c;obtain⟨m',h1,h2,h3,h4⟩:=xQ e;refine⟨_,m',h1,h2,h4,λrest=>⟨_,rfl,λσ M v s d=>?_⟩⟩;cases d with
  |sl g hc hn=>exact .sl (by rw[σm_some (s _ _ h3)];exact g) hc hn
 ·rename_i id0 E id' E';obtain⟨e1,f⟩:=aT e;have:=bJ e1;subst this;obtain⟨m',h1,h2,h3,h4⟩:=xQ f;refine⟨_,m',h1,h2,h4,λrest=>⟨_,rfl,λσ M v s d=>?_⟩⟩;cases d with
  |gP g=>exact .gP (by rw[σm_some (s _ _ h3)];exact g)
  |gr g=>exact .gr (by rw[σm_some (s _ _ h3)];exact g)
 ·obtain⟨m',h1,h2,h3,h4⟩:=xQ e;refine⟨_,m',h1,h2,h4,λrest=>⟨_,rfl,λσ M v s d=>?_⟩⟩;cases d;exact .gP (σm_none (s _ _ h3))
 ·rename_i id0 off n0 c0 id' off' n c;obtain⟨e1,f⟩:=aT e;simp only[bg] at e1;have g1:=bJ e1.1;have g2:=bJ e1.2.1;have g3:=bJ e1.2.2;subst g1 g2 g3;obtain⟨m',h1,h2,h3,h4⟩:=xQ f;refine⟨_,m',h1,h2,h4,λrest=>⟨_,rfl,λσ M v s d=>?_⟩⟩;cases d with
  |sl g hc hn=>exact .sl (by rw[σm_some (s _ _ h3)];exact g) hc hn
 ·refine⟨_,_,e,Sub.refl _,λI=>I,λrest=>⟨_,rfl,λσ M v _ d=>?_⟩⟩;cases d with
  |v h h1=>exact .v h h1
 ·cases e
theorem Bm:∀(vts:List VT)(svs:List SV)(m:Mp)(K:List bo->Mp->Option β)(b:β),vT vts svs m K=some b->
 ∃ls m',K ls m'=some b/\Sub m m'/\(kZ m->kZ m')/\∀rest,∃svs',sd vts (ls++rest)=some (svs',rest)/\∀(σ:Nm)(M:Mp)(vs:List Value),Sub m' M->bU σ svs vs->bU (σm σ M) svs' vs:=by
 intro vts svs m K b e;unfold vT at e;split at e
 ·exact⟨_,_,e,Sub.refl _,id,λrest=>⟨_,rfl,λσ M v _ d=>by cases d;exact .nil⟩⟩
 ·rename_i t ts x xs;obtain⟨l1,m1,h1,h2,h3,h4⟩:=JW t x m _ b e;obtain⟨l2,m2,g1,g2,g3,g4⟩:=Bm ts xs m1 _ b h1;refine⟨l1++l2,m2,g1,h2.trans g2,λI=>g3 (h3 I),λrest=>?_⟩;obtain⟨s1,p1,p2⟩:=h4 (l2++rest);obtain⟨s2,q1,q2⟩:=g4 rest;refine⟨s1::s2,?_,λσ M vs s d=>?_⟩
  ·rw[dY];unfold sd;rw[p1];show ob (sd ts (l2++rest)) _=_;rw[q1];rfl
  ·cases d with
   |cons a t=>exact .cons (p2 σ M _ (g2.trans s) a) (q2 σ M _ s t)
 ·cases e
end
theorem Rc:∀(sl:List (Nat×VT))(T0:Tr SV)(m:Mp)(K:List bo->Mp->Option β)(b:β),JV sl T0 m K=some b->
 ∃ls m',K ls m'=some b/\Sub m m'/\(kZ m->kZ m')/\∀rest,∃T,BL sl (ls++rest)=some (T,rest)/\∀(σ:Nm)(M:Mp)(tm:Tr Value),Sub m' M->(∀t sv,T0.get t=some sv->∃v,tm.get t=some v/\DV σ sv v)->∀t sv,T.get t=some sv->∃v,tm.get t=some v/\DV (σm σ M) sv v
 |[],T0,m,K,b,e=>⟨_,_,e,Sub.refl _,id,λrest=>⟨_,rfl,λσ M tm _ _ t sv h=>by rw[Tr.get_nil] at h;cases h⟩⟩
 |(t,vt)::r,T0,m,K,b,e=>by
  obtain⟨sv,hsv,e⟩:=af e;obtain⟨l1,m1,h1,h2,h3,h4⟩:=JW vt sv m _ b e;obtain⟨l2,m2,g1,g2,g3,g4⟩:=Rc r T0 m1 _ b h1;refine⟨l1++l2,m2,g1,h2.trans g2,λI=>g3 (h3 I),λrest=>?_⟩;obtain⟨s1,p1,p2⟩:=h4 (l2++rest);obtain⟨T,q1,q2⟩:=g4 rest;refine⟨T.set t s1,?_,λσ M tm s H t' sv' h=>?_⟩
  ·rw[dY];unfold BL;rw[p1];show ob (BL r (l2++rest)) _=_;rw[q1];rfl
  ·rw[Tr.bD] at h;by_cases e:t'=t
   ·rw[ar e] at h;cases h;rw[e];obtain⟨v,v1,v2⟩:=H t sv hsv;exact⟨v,v1,p2 σ M v (g2.trans s) v2⟩
   simp_all
theorem Zp{ot:OT}{h0:Tr SO}{K:List bo->Mp->Option β}(e:JT id ot h0 m K=some b):
 ∃ls m',K ls m'=some b/\Sub m m'/\(kZ m->kZ m')/\(dV id m=some none\/∃a so,dV id m=some (some a)/\h0.get a=some so)/\∀rest,∃so',SY ot (ls++rest)=some (so',rest)/\
  ∀(σ:Nm)(M:Mp)(h:Heap),Sub m' M->(∀id so,h0.get id=some so->DO σ h id so)->DO (σm σ M) h id so':=by
 unfold JT at e;split at e
 ·obtain⟨x,hx,f⟩:=af e;obtain⟨a,ha,g⟩:=af f;subst ha;obtain⟨so,hso,k⟩:=af g;split at k
  ·rename_i ts t _ l t';obtain⟨e1,q⟩:=aT k;have:=bJ e1;subst this;obtain⟨ls,m',h1,h2,h3,h4⟩:=Bm ts l m K b q;refine⟨ls,m',h1,h2,h3,.inr ⟨a,_,hx,hso⟩,λrest=>?_⟩;obtain⟨s,p1,p2⟩:=h4 rest;refine⟨.cells s t,by show ob (sd ts (ls++rest)) _=_;rw[p1];rfl,λσ M h sm H=>?_⟩;obtain⟨o,n,vs,q1,q2,q3⟩:=H a _ hso;exact⟨o,n,vs,by rw[σm_some (sm _ _ (h2 _ _ hx))];exact q1,q2,p2 σ M vs sm q3⟩
  ·cases k
 ·obtain⟨x,hx,f⟩:=af e;obtain⟨a,ha,g⟩:=af f;subst ha;obtain⟨so,hso,k⟩:=af g;split at k
  ·obtain⟨e1,q⟩:=aT k;have:=bJ e1;subst this;refine⟨_,m,q,Sub.refl _,λI=>I,.inr ⟨a,_,hx,hso⟩,λrest=>⟨_,rfl,λσ M h sm H=>?_⟩⟩;obtain⟨o,n,vs,q1,q2,q3⟩:=H a _ hso;exact⟨o,n,vs,by rw[σm_some (sm _ _ hx)];exact q1,q2,q3⟩
  ·cases k
 ·obtain⟨x,hx,e⟩:=af e;split at e
  ·obtain⟨e1,e⟩:=aT e;exact⟨_,m,e,Sub.refl _,λI=>I,.inl hx,λrest=>⟨_,rfl,λσ M h sm H=>(⟨cT e1,⟨(λx h=>by cases h),rfl⟩,.inl ⟨σm_none (sm _ _ hx),rfl⟩⟩)⟩⟩
  ·rename_i a;obtain⟨so,hso,e⟩:=af e;split at e
   ·obtain⟨e1,f⟩:=aT e;rw[bg] at e1;have e2:=bJ e1.1;have e3:=bJ e1.2;subst e2 e3;refine⟨_,m,f,Sub.refl _,λI=>I,.inr ⟨a,_,hx,hso⟩,λrest=>⟨_,rfl,λσ M h sm H=>?_⟩⟩;obtain⟨q1,q2,q3⟩:=H a _ hso;have hs:=σm_some (σ:=σ) (sm _ _ hx);refine⟨q1,q2,?_⟩;rcases q3 with⟨r1,r2⟩|⟨o,n,r1,r2⟩<;>grind
   ·cases e
theorem Rb:∀(ol:List (Nat×OT))(h0:Tr SO)(m:Mp)(K:List bo->Mp->Option β)(b:β),JU ol h0 m K=some b->
 ∃ls m',K ls m'=some b/\Sub m m'/\(kZ m->kZ m')/\∀rest,∃T,yN ol (ls++rest)=some (T,rest)/\∀(σ:Nm)(M:Mp)(h:Heap),Sub m' M->(∀id so,h0.get id=some so->DO σ h id so)->
  ∀id so,T.get id=some so->DO (σm σ M) h id so/\(dV id M=some none\/∃a so,dV id M=some (some a)/\h0.get a=some so)
 |[],h0,m,K,b,e=>⟨_,_,e,Sub.refl _,id,λrest=>⟨_,rfl,λσ M h _ _ t sv h=>by rw[Tr.get_nil] at h;cases h⟩⟩
 |(id0,ot)::r,h0,m,K,b,e=>by
  obtain⟨l1,m1,h1,h2,h3,hl,h4⟩:=Zp e;obtain⟨l2,m2,g1,g2,g3,g4⟩:=Rb r h0 m1 _ b h1;refine⟨l1++l2,m2,g1,h2.trans g2,λI=>g3 (h3 I),λrest=>?_⟩;obtain⟨s1,p1,p2⟩:=h4 (l2++rest);obtain⟨T,q1,q2⟩:=g4 rest;refine⟨T.set id0 s1,?_,λσ M h s H id so hg=>?_⟩
  ·rw[dY];unfold yN;rw[p1];show ob (yN r (l2++rest)) _=_;rw[q1];rfl
  ·rw[Tr.bD] at hg;by_cases e:id=id0
   ·rw[ar e] at hg;cases hg;rw[e];refine⟨p2 σ M h (g2.trans s) H,?_⟩;rcases hl with hl|⟨a,so,k1,k2⟩
    ·exact .inl (s _ _ (g2 _ _ (h2 _ _ hl)))
    ·exact .inr ⟨a,so,s _ _ (g2 _ _ (h2 _ _ k1)),k2⟩
   ·rw[ai e] at hg;exact q2 σ M h s H id so hg
theorem ER{n:Nat}:∀{m:Mp},(m.all λp=>Nat.blt p.1 n)=true->∀id x,dV id m=some x->id<n
 |[],_,id,x,h=>by cases h
 |(j,y)::m,e,id,x,h=>by
  rw[List.all_cons,bg] at e;rw[qS] at h;by_cases q:j=id
  ·simp_all
  ·rw[ai q] at h;exact ER e.2 id x h
variable{st:St} {t:cZ}
theorem JS{m0:Mp}(I0:kZ m0){K:List bo->Mp->Option β}(e:yq m0 t st K=some b):
 ∃ls m,K ls m=some b/\Sub m0 m/\kZ m/\(∀id x,dV id m=some x->id<t.sx)/\∃st',iX t ls=some st'/\st'.sx=t.sx/\∀(σ:Nm)(tm:Tr Value)(h:Heap)(nx:Nat),aM σ st tm h nx->aM (σm σ m) st' tm h nx/\
  ∀id so,st'.h.get id=some so->dV id m=some none\/∃a so',dV id m=some (some a)/\st.h.get a=some so':=by
 obtain⟨l1,m1,h1,h2,h3,h4⟩:=Rc _ _ _ _ _ e;obtain⟨l2,m2,g1,g2,g3,g4⟩:=Rb _ _ _ _ _ h1;obtain⟨e1,e2⟩:=aT g1;have I:=g3 (h3 I0);refine⟨_,_,e2,h2.trans g2,I,ER e1,?_⟩;obtain⟨T,p1,p2⟩:=h4 l2;obtain⟨H,q1,q2⟩:=g4 [];rw[eH] at q1;refine⟨⟨T,H,t.sx⟩,?_,rfl,λσ tm h nx R=>⟨?_,λid so hs=>(q2 σ m2 h (Sub.refl _) R.obj id so hs).2⟩⟩
 ·unfold iX;rw[p1];show ob (yN t.sq l2) _=_;rw[q1];rfl
 ·refine⟨p2 σ m2 tm g2 R.tm,λid so hs=>(q2 σ m2 h (Sub.refl _) R.obj id so hs).1,λid id' so so' o n n' a1 a2 b1 b2=>?_,λid o n hσ=>?_,λid hid=>?_⟩
  ·rcases(q2 σ m2 h (Sub.refl _) R.obj id so a1).2 with k|⟨a,s1,k1,k2⟩
   ·rw[σm_none k] at b1;cases b1
   ·rw[σm_some k1] at b1;rcases(q2 σ m2 h (Sub.refl _) R.obj id' so' a2).2 with k|⟨a',s2,k3,k4⟩
    ·rw[σm_none k] at b2;cases b2
    ·rw[σm_some k3] at b2;have:=R.inj _ _ _ _ _ _ _ k2 k4 b1 b2;subst this;exact I _ _ _ k1 k3
  ·unfold σm at hσ;split at hσ
   ·exact R.lt _ _ _ hσ
   ·cases hσ
   ·cases hσ
  ·have hid:t.sx<=id:=hid;unfold σm;split
   ·rename_i a ha;have:=ER e1 _ _ ha;omega
   ·rename_i ha;have:=ER e1 _ _ ha;omega
   ·rfl
theorem SC:∀{an k:Nat},k<an->dV k (vD an)=some (some k)
 |0,k,h=>by omega
 |n+1,k,h=>by
  show dV k ((n,some n)::vD n)=_;rw[qS];by_cases e:n=k
  ·grind
  ·rw[ai e];exact SC (by omega)
theorem KC:∀{an k:Nat}{x:Option Nat},dV k (vD an)=some x->x=some k
 |0,k,x,h=>by cases h
 |n+1,k,x,h=>by
  have h:dV k ((n,some n)::vD n)=some x:=h;rw[qS] at h;by_cases e:n=k
  ·grind
  ·rw[ai e] at h;exact KC h
theorem XS(an:Nat):kZ (vD an):=λi j a h1 h2=>by
 have:=KC h1;have:=KC h2
 grind
structure hQ(an nx:Nat)(σ σ':Nm):Prop where
 an:∀k,k<an->∀x,σ k=some x->σ' k=some x
 nw:∀id o n,σ' id=some (some o,n)->nx<=o\/∃id' n',σ id'=some (some o,n')
theorem hQ.refl(an nx:Nat)(σ:Nm):hQ an nx σ σ:=⟨λ_ _ _ h=>h,λid _ n h=>.inr ⟨id,n,h⟩⟩
variable{an nx:Nat}
theorem hQ.trans{nx1:Nat}{a b c:Nm}(h:hQ an nx a b)(k:hQ an nx1 b c)(l:nx<=nx1):hQ an nx a c:=⟨λi hi x e=>k.an i hi x (h.an i hi x e),λid o n e=>by
 rcases k.nw id o n e with q|⟨i,m,q⟩
 ·grind
 ·exact h.nw i o m q⟩
theorem NX.Ez{σ':Nm}(h:NX nx σ σ'):hQ an nx σ σ':=⟨λk _ x e=>h.ext k x e,h.nw⟩
theorem yr{K:List bo->Option β}(e:qL an t st K=some b):
 ∃ls,K ls=some b/\∃st',iX t ls=some st'/\st'.sx=t.sx/\∀(σ:Nm)(tm:Tr Value)(h:Heap)(nx:Nat),aM σ st tm h nx->∃σ',aM σ' st' tm h nx/\hQ an nx σ σ':=by
 obtain⟨ls,m,h1,h2,_,_,st',h4,h5,h6⟩:=JS (XS an) e;refine⟨ls,h1,st',h4,h5,λσ tm h nx R=>⟨σm σ m,(h6 σ tm h nx R).1,λk hk x e=>(by rw[σm_some (h2 _ _ (SC hk))];exact e),λid o n e=>?_⟩⟩
 ·unfold σm at e
  grind
end
end Lt
end Go.Proofs.YtfdojmichbgpiaaGreatDoor

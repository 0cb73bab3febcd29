import Derived.Laws.Append
import Derived.Test.YtcfjfbeadhnknaaGreatDoorSF
namespace Go.Proofs.YtcfjfbeadhnknaaGreatDoor
set_option linter.unusedVariables false
set_option linter.unusedSimpArgs false
set_option linter.unusedSectionVars false
set_option linter.constructorNameAsVariable false
set_option maxRecDepth 100000
set_option maxHeartbeats 1000000
namespace Lt
section
set_option linter.unusedVariables false
set_option linter.unusedSimpArgs false
set_option linter.unusedSectionVars false
set_option linter.constructorNameAsVariable false
noncomputable section
theorem W9(w:Nat):jt Tryz.prog 24 ⟨1,⟨[(0,.agg [.v])],[],0⟩,0,⟨[(0,.gr 0 13)],[(0,.grow 13 56)],1⟩⟩ (B9 w):=pC (w:=w) (lv:=λn=>(cond (Nat.beq n 0) (some ⟨[(1,.ptr 0 0),(3,.gr 1 13),(12,.i .i64),(13,.i .i64)],[(0,.cells [.v] 24),(1,.grow 13 56)],2⟩) none)) (jv:=λ_=>none) (un:=λn=>false) fe mixed (cQ (cQ fu (N8 w)) (OH w)) (fn:=Tryz.f24) (by kernel_rfl) (by kernel_rfl) (by kernel_rfl)
theorem Wy(w:Nat):bZ Tryz.prog 107 [.agg [.i .i64,.v,.v,.v,.v,.v,.v,.v,.v,.v,.v,.i .i64,.i .i64]] (.i .i64) (Iy w):=jA (w:=w) (lv:=λn=>none) (jv:=λ_=>none) (un:=λn=>false) fe mixed fu (fn:=Tryz.f107) (by kernel_rfl) (by kernel_rfl) (by kernel_rfl)
theorem Wx(w:Nat):jt Tryz.prog 106 ⟨2,⟨[(0,.gr 0 13),(1,.fn 107 [])],[(0,.grow 13 56)],1⟩,1,⟨[(0,.gr 1 1)],[(0,.grow 13 56),(1,.grow 1 3)],2⟩⟩ (BM w):=pC (w:=w) (lv:=λn=>(cond (Nat.beq n 0) (some ⟨[(1,.fn 107 []),(5,.gr 1 1),(8,.gr 0 13),(9,.i .i64),(10,.i .i64)],[(0,.grow 13 56),(1,.grow 1 3)],2⟩) none)) (jv:=λ_=>none) (un:=λn=>false) fe mixed (cQ fu (Wy w)) (fn:=Tryz.f106) (by kernel_rfl) (by kernel_rfl) (by kernel_rfl)
theorem XM(w:Nat):jt Tryz.prog 268 ⟨2,⟨[(0,.v),(1,.fn 197 [.ptr 0 0])],[(0,.cells [.gr 1 1] 47),(1,.grow 1 3)],2⟩,1,⟨[(0,.i .i64)],[(0,.cells [.gr 1 1] 47),(1,.grow 1 3)],2⟩⟩ (Cy w):=pC (w:=w) (lv:=λn=>(cond (Nat.beq n 0) (some ⟨[(0,.v),(1,.fn 197 [.ptr 0 0]),(7,.i .i64),(8,.i .i64)],[(0,.cells [.gr 1 1] 47),(1,.grow 1 3)],2⟩) none)) (jv:=λ_=>none) (un:=λn=>false) fe mixed (jl fu (Oo w)) (fn:=Tryz.f268) (by kernel_rfl) (by kernel_rfl) (by kernel_rfl)
theorem Xs(w:Nat):jt Tryz.prog 196 ⟨2,⟨[(0,.v),(1,.fn 197 [.ptr 0 0])],[(0,.cells [.gr 1 1] 47),(1,.grow 1 3)],2⟩,1,⟨[(0,.b)],[(0,.cells [.gr 1 1] 47),(1,.grow 1 3)],2⟩⟩ (I2 w):=pC (w:=w) (lv:=λn=>none) (jv:=λ_=>none) (un:=λn=>false) fe mixed (jl (cQ fu (Gj w)) (XM w)) (fn:=Tryz.f196) (by kernel_rfl) (by kernel_rfl) (by kernel_rfl)
theorem WT(w:Nat):bZ Tryz.prog 132 [.v] (.aC [.v,.b]) (B4 w):=jA (w:=w) (lv:=λn=>none) (jv:=λ_=>none) (un:=λn=>false) fe mixed (jl (cQ fu (Gi w)) (Xs w)) (fn:=Tryz.f132) (by kernel_rfl) (by kernel_rfl) (by kernel_rfl)
theorem WC(w:Nat):jt Tryz.prog 133 ⟨1,⟨[(0,.v)],[],0⟩,0,⟨[(0,.gr 0 5)],[(0,.grow 5 97)],1⟩⟩ (BO w):=pC (w:=w) (lv:=λn=>none) (jv:=λ_=>none) (un:=λn=>false) fe mixed fu (fn:=Tryz.f133) (by kernel_rfl) (by kernel_rfl) (by kernel_rfl)
theorem Wu(w:Nat):bZ Tryz.prog 67 [.v,.i .i64,.v] (.aC [.v,.b]) (BK w):=jA (w:=w) (lv:=λn=>(cond (Nat.beq n 0) (some ⟨[(0,.v),(1,.i .i64),(8,.v),(10,.gr 0 5),(33,.i .i64),(34,.i .i64)],[(0,.grow 5 97)],1⟩) none)) (jv:=λ_=>none) (un:=λn=>false) fe mixed (jl (cQ fu (WT w)) (WC w)) (fn:=Tryz.f67) (by kernel_rfl) (by kernel_rfl) (by kernel_rfl)
theorem N5(w:Nat):yz Tryz.prog 57 ⟨1,⟨[(0,.agg [.v])],[],0⟩,0,⟨[(0,.aC [.ptr 0 0,.i .i64])],[(0,.cells [.i .i64,.v,.v,.gr 1 13] 107),(1,.grow 13 56)],2⟩,⟨[(0,.aC [.v,.i .i64])],[],0⟩⟩ (xr w):=Uo (w:=w) (lv:=λn=>none) (jv:=λ_=>none) (un:=λn=>false) fe mixed (cQ (jl (cQ (jl (cQ (cQ fu (N8 w)) (OP w)) (W9 w)) (X9 w)) (Wx w)) (Wu w)) (fn:=Tryz.f57) (by kernel_rfl) (by kernel_rfl) (by kernel_rfl)
theorem Ws(w:Nat):bZ Tryz.prog 59 [.agg [.i .i64,.v,.v,.v,.v,.v,.v,.v,.v,.v,.v,.i .i64,.i .i64]] (.v) (BJ w):=jA (w:=w) (lv:=λn=>none) (jv:=λ_=>none) (un:=λn=>false) fe mixed (cQ fu (OA w)) (fn:=Tryz.f59) (by kernel_rfl) (by kernel_rfl) (by kernel_rfl)
theorem Wr(w:Nat):bZ Tryz.prog 58 [.v,.fn 59 []] (.v) (ub w):=jA (w:=w) (lv:=λn=>(cond (Nat.beq n 0) (some ⟨[(1,.fn 59 []),(5,.gr 0 1),(8,.v),(9,.i .i64),(10,.i .i64)],[(0,.grow 1 26)],1⟩) none)) (jv:=λ_=>none) (un:=λn=>false) fe mixed (cQ fu (Ws w)) (fn:=Tryz.f58) (by kernel_rfl) (by kernel_rfl) (by kernel_rfl)
theorem N3(w:Nat):bZ Tryz.prog 18 [.agg [.v]] (.aC [.v,.i .i64]) (pX w):=jA (w:=w) (lv:=λn=>none) (jv:=λ_=>none) (un:=λn=>false) fe mixed (cQ (Pk fu (N5 w)) (Wr w)) (fn:=Tryz.f18) (by kernel_rfl) (by kernel_rfl) (by kernel_rfl)
theorem Wn(w:Nat):bZ Tryz.prog 21 [.agg [.v]] (.aC [.v,.i .i64]) (BH w):=jA (w:=w) (lv:=λn=>none) (jv:=λ_=>none) (un:=λn=>false) fe mixed (Pk fu (N5 w)) (fn:=Tryz.f21) (by kernel_rfl) (by kernel_rfl) (by kernel_rfl)
theorem Wp(w:Nat):bZ Tryz.prog 55 [.v] (.b) (lM w):=jA (w:=w) (lv:=λn=>(cond (Nat.beq n 0) (some ⟨[(0,.v),(3,.i .i64)],[],0⟩) none)) (jv:=λ_=>none) (un:=λn=>false) fe mixed fu (fn:=Tryz.f55) (by kernel_rfl) (by kernel_rfl) (by kernel_rfl)
theorem Wg(w:Nat):bZ Tryz.prog 15 [.agg [.v]] (.b) (xn w):=jA (w:=w) (lv:=λn=>(cond (Nat.beq n 0) (some ⟨[(1,.ptr 0 0),(3,.i .i64),(4,.i .i64)],[(0,.cells [.v] 24)],1⟩) none)) (jv:=λ_=>none) (un:=λn=>false) fe mixed (cQ fu (Wp w)) (fn:=Tryz.f15) (by kernel_rfl) (by kernel_rfl) (by kernel_rfl)
theorem Wq(w:Nat):bZ Tryz.prog 56 [] (.agg [.i .i64,.v,.v,.v,.v,.v,.v,.v,.v,.v,.i .i64,.i .i64,.i .i64,.v]) (pZ w):=jA (w:=w) (lv:=λn=>none) (jv:=λ_=>none) (un:=λn=>false) fe mixed (cQ fu (Yq w)) (fn:=Tryz.f56) (by kernel_rfl) (by kernel_rfl) (by kernel_rfl)
theorem Wh(w:Nat):bZ Tryz.prog 16 [.agg [.i .i64,.v,.v,.v,.v,.v,.v,.v,.v,.v,.i .i64,.i .i64,.i .i64,.v]] (.agg [.v]) (show Fn (VT.dW [.agg [.i .i64,.v,.v,.v,.v,.v,.v,.v,.v,.v,.i .i64,.i .i64,.i .i64,.v]]) (Option (bo (VT.ks (.agg [.v])))) from(Ir w)):=jA (w:=w) (lv:=λn=>none) (jv:=λ_=>none) (un:=λn=>false) fe mixed fu (fn:=Tryz.f16) (by kernel_rfl) (by kernel_rfl) (by kernel_rfl)
theorem Wj(w:Nat):bZ Tryz.prog 19 [.v,.v] (.b) (tY w):=jA (w:=w) (lv:=λn=>(cond (Nat.beq n 0) (some ⟨[(0,.v),(1,.v),(5,.i .i64)],[],0⟩) none)) (jv:=λ_=>none) (un:=λn=>false) fe mixed fu (fn:=Tryz.f19) (by kernel_rfl) (by kernel_rfl) (by kernel_rfl)
theorem Wm(w:Nat):bZ Tryz.prog 20 [.agg [.v]] (.aC [.v,.i .i64]) (tZ w):=jA (w:=w) (lv:=λn=>none) (jv:=λ_=>none) (un:=λn=>false) fe mixed (cQ (cQ fu (N3 w)) (Wz w)) (fn:=Tryz.f20) (by kernel_rfl) (by kernel_rfl) (by kernel_rfl)
theorem Wi(w:Nat):bZ Tryz.prog 17 [] (.b) (iK w):=jA (w:=w) (lv:=λn=>none) (jv:=λ_=>none) (un:=λn=>false) fe mixed (cQ (cQ (cQ fu (Wq w)) (Wm w)) (Wn w)) (fn:=Tryz.f17) (by kernel_rfl) (by kernel_rfl) (by kernel_rfl)
theorem We(w:Nat):bZ Tryz.prog 3 [.agg [.v],.i .i64,.agg [.i .i64,.v,.v,.v,.v,.v,.v,.v,.v,.v,.i .i64,.i .i64,.i .i64,.v]] (.b) (show Fn (VT.dW [.agg [.v],.i .i64,.agg [.i .i64,.v,.v,.v,.v,.v,.v,.v,.v,.v,.i .i64,.i .i64,.i .i64,.v]]) (Option (bo (VT.ks (.b)))) from(Iq w)):=jA (w:=w) (lv:=λn=>(cond (Nat.beq n 0) (some ⟨[(1,.i .i64),(9,.v),(11,.v),(13,.i .i64)],[],4⟩) (cond (Nat.beq n 2) (some ⟨[(9,.v),(11,.v),(14,.i .i64),(15,.i .i64),(16,.i .i64)],[],4⟩) none))) (jv:=λ_=>none) (un:=λn=>false) fe mixed (cQ (cQ (cQ (cQ (cQ fu (Wg w)) (Wh w)) (N3 w)) (Wj w)) (Wi w)) (fn:=Tryz.f3) (by kernel_rfl) (by kernel_rfl) (by kernel_rfl)
end
end
section
set_option linter.unusedVariables false
set_option linter.unusedSimpArgs false
set_option linter.unusedSectionVars false
set_option linter.constructorNameAsVariable false
variable{β:Type}
@[simp] theorem aO(a b:Int):aj a b=decide (a<b):=nE a b
@[simp] theorem bT(a b:Int):ai a b=decide (a=b):=by
 rw[vP];rfl
@[simp] theorem jQ(a b:Nat):Nat.blt a b=decide (a<b):=by
 rw[Bool.eq_iff_iff,decide_eq_true_eq,Nat.blt_eq]
@[simp] theorem eV(a b:Nat):Nat.ble a b=decide (a<=b):=by
 rw[Bool.eq_iff_iff,decide_eq_true_eq,Nat.ble_eq]
@[simp] theorem vl(a b:Nat):Nat.beq a b=decide (a=b):=by
 rw[Bool.eq_iff_iff,decide_eq_true_eq,Nat.beq_eq]
@[simp] theorem mS{α:Type}{p:Prop}[Decidable p](a b:α):cond (decide p) a b=if p then a else b:=by by_cases h:p<;>simp
theorem adO{α:Type}(c:Bool)(a b:α):cond c a b=if c=true then a else b:=by cases c<;>rfl
@[simp] theorem ay{α β:Type}(a:α)(f:α->Option β):ob (some a) f=f a:=rfl
@[simp] theorem adQ{α β:Type}(f:α->Option β):ob none f=none:=rfl
@[simp] theorem fX{α γ δ:Type}(a:α)(f:α->δ)(g:γ->δ):cD (.inl a) f g=f a:=rfl
@[simp] theorem yp{α γ δ:Type}(a:γ)(f:α->δ)(g:γ->δ):cD (.inr a) f g=g a:=rfl
@[simp] theorem aX(x:Value)(r:List Value)(K:Value->List Value->Option β):af (x::r) K=K x r:=rfl
@[simp] theorem adS(K:Value->List Value->Option β):af [] K=none:=rfl
@[simp] theorem adP(r:Option β):lE [] r=r:=rfl
@[simp] theorem bN(k:IntKind)(n:Int)(K:Int->Option β):aw k (.int k n) K=K n:=by unfold aw;simp
@[simp] theorem adJ(b:Bool)(K:Bool->Option β):vh (.bool b) K=K b:=rfl
@[simp] theorem adN(s:ByteArray)(K:ByteArray->Option β):vi (.string s) K=K s:=rfl
@[simp] theorem bF(n:Nat)(K:Nat->Option β):aB (n:Int) K=K n:=rfl
@[simp] theorem adL(n:Nat)(K:Nat->Option β):aB (Int.ofNat n) K=K n:=rfl
@[simp] theorem adM(K:Nat->Option β):aB 0 K=K 0:=rfl
@[simp] theorem adK(n:Nat)(K:Nat->Option β):aB (no_index(OfNat.ofNat n)) K=K (OfNat.ofNat n):=rfl
theorem ju{n:Int}(h:0<=n)(K:Nat->Option β):aB n K=K n.toNat:=by
 obtain⟨m,rfl⟩:=Int.eq_ofNat_of_zero_le h
 rfl
@[simp] theorem Vx(n:Nat)(c:List Value)(K:Nat->Option β):ak (ae n c) K=K n:=rfl
@[simp] theorem zz[QF](x:Value)(r:Option β):kA x x r=r:=TY x r
theorem M6(sz m n:Nat)(c:List Value)(K:List Value->Option β):aE sz m (ae n c) K=if m<n then K (c.drop (m*sz)) else none:=by
 unfold aE ae
 simp
theorem Tq(sz l h n:Nat)(c:List Value)(K:Value->Option β):fw sz l h (ae n c) K=K (ae (h -l) ((c.drop (l*sz)).take ((h -l)*sz))):=rfl
theorem Ur(E n:Nat)(c:List Value)(K:Nat->List Value->Option β):dC E (ae n c) K=if n*E<=c.length then K n (c.take (n*E)) else none:=by
 unfold dC ae
 simp
@[simp] theorem adR(n:Nat):aF n=decide (n<=1000000000):=by unfold aF;rw[eV]
theorem aJ{n:Int}(h1:-9223372036854775808<=n)(h2:n<9223372036854775808):ah .i64 n=n:=by
 unfold ah
 have:qZ .i64 n=true:=by
  cases n with
  |ofNat m=>
   show Nat.blt m 9223372036854775808=true
   simp_all
   omega
  |negSucc m=>
   show Nat.blt m 9223372036854775808=true
   rw[jQ,decide_eq_true_eq]
   omega
 grind
theorem oY{n:Int}(h1:0<=n)(h2:n<18446744073709551616):ah .u64 n=n:=by
 unfold ah
 have:qZ .u64 n=true:=by
  cases n with
  |ofNat m=>
   show Nat.blt m 18446744073709551616=true
   simp_all
   omega
  |negSucc m=>omega
 grind
@[simp] theorem gS(a b:Int):Int.sub a b=a -b:=rfl
@[simp] theorem bO(a b:Int):Int.add a b=a+b:=rfl
@[simp] theorem lu(a b:Int):Int.mul a b=a*b:=rfl
@[simp] theorem bG(n:Nat):Int.ofNat n=(n:Int):=rfl
theorem VK{α:Type}(z:α)(F:α->α)(n:Nat):lp z F (n+1)=F (lp z F n):=rfl
theorem dt{α:Type}(z:α)(F:α->α){n:Nat}(h:0<n):lp z F n=F (lp z F (n -1)):=by
 cases n with
 |zero=>omega
 |succ n=>rfl
theorem gz{α γ:Type}{z:α}{F:α->α}{r:γ}{w:Nat}(ev:Nat->α->γ)(m:Nat)(hs:∀i g,i<m->ev i (F g)=ev (i+1) g)(he:∀g,ev m (F g)=r)(h:m<w):ev 0 (lp z F w)=r:=by
 have:∀(d i v:Nat),i+d=m->d<v->ev i (lp z F v)=r:=by
  intro d
  induction d with
  |zero=>
   intro i v hi hv
   rw[dt z F (by omega),show i=m by omega,he]
  |succ d ih=>
   intro i v hi hv
   rw[dt z F (by omega)]
   grind
 grind
def ax{α:Type}(f:α->List Value)(l:List α):Value:=ae l.length (l.flatMap f)
def aQ(b:UInt8):Value:=.int .u8 (b.toNat:Int)
def mQ(b:UInt8):List Value:=[aQ b]
def ag(l:List UInt8):Value:=ax mQ l
theorem cK{α:Type}{f:α->List Value}{k:Nat}(hf:∀x,(f x).length=k):∀l:List α,(l.flatMap f).length=l.length*k
 |[]=>by simp
 |x::l=>by rw[List.flatMap_cons,List.length_append,hf,cK hf l,List.length_cons,Nat.add_mul,Nat.one_mul,Nat.add_comm]
theorem mm{α:Type}{f:α->List Value}{k:Nat}(hf:∀x,(f x).length=k):∀(l:List α)(m:Nat),(l.flatMap f).drop (m*k)=(l.drop m).flatMap f
 |l,0=>by simp
 |[],m+1=>by simp
 |x::l,m+1=>by
  rw[List.flatMap_cons,Nat.add_mul,Nat.one_mul,Nat.add_comm (m*k),<-List.drop_drop,List.drop_left' (hf x),mm hf l m]
  rfl
theorem sW{α:Type}{f:α->List Value}{k:Nat}(hf:∀x,(f x).length=k):∀(l:List α)(m:Nat),(l.flatMap f).take (m*k)=(l.take m).flatMap f
 |l,0=>by simp
 |[],m+1=>by simp
 |x::l,m+1=>by
  rw[List.flatMap_cons,Nat.add_mul,Nat.one_mul,Nat.add_comm (m*k),List.take_append,List.take_of_length_le (by rw[hf];omega),hf,Nat.add_sub_cancel_left,sW hf l m]
  rfl
@[simp] theorem bV{α:Type}(f:α->List Value)(l:List α)(K:Nat->Option β):ak (ax f l) K=K l.length:=rfl
theorem bn{α:Type}{f:α->List Value}{k:Nat}(hf:∀x,(f x).length=k){l:List α}{m:Nat}(h:m<l.length)(K:List Value->Option β):aE k m (ax f l) K=K (f l[m]++(l.drop (m+1)).flatMap f):=by
 unfold ax
 rw[M6,if_pos h,mm hf,List.drop_eq_getElem_cons h,List.flatMap_cons]
theorem qL{α:Type}{f:α->List Value}{k:Nat}(hf:∀x,(f x).length=k)(l:List α){a b:Nat}(h:b<=l.length)(K:Value->Option β):fw k a b (ax f l) K=K (ax f ((l.drop a).take (b -a))):=by
 unfold ax
 rw[Tq,mm hf,sW hf]
 grind
theorem sX{α:Type}{f:α->List Value}{k:Nat}(hf:∀x,(f x).length=k)(l:List α)(K:Nat->List Value->Option β):dC k (ax f l) K=K l.length (l.flatMap f):=by
 unfold ax
 rw[Ur,cK hf,if_pos (Nat.le_refl _),List.take_of_length_le (by rw[cK hf];exact Nat.le_refl _)]
theorem Ej(b:UInt8):(mQ b).length=1:=rfl
@[simp] theorem cg(l:List UInt8)(K:Nat->Option β):ak (ag l) K=K l.length:=rfl
theorem jT{l:List UInt8}{m:Nat}(h:m<l.length)(K:List Value->Option β):aE 1 m (ag l) K=K (aQ l[m]::(l.drop (m+1)).flatMap mQ):=bn Ej h K
theorem mh(l:List UInt8){a b:Nat}(h:b<=l.length)(K:Value->Option β):fw 1 a b (ag l) K=K (ag ((l.drop a).take (b -a))):=qL Ej l h K
theorem fV(l:List UInt8)(K:Nat->List Value->Option β):dC 1 (ag l) K=K l.length (l.flatMap mQ):=sX Ej l K
theorem fZ(l:List UInt8):l.flatMap mQ=l.map aQ:=by
 induction l with
 |nil=>rfl
 |cons x l ih=>rw[List.flatMap_cons,ih];rfl
@[simp] theorem kY(b:UInt8)(K:Int->Option β):aw .u8 (aQ b) K=K (b.toNat:Int):=bN _ _ _
theorem VJ{α:Type}{z:α}{F:α->α}{G:Nat->α}(h:lp z F=G)(n:Nat):G (n+1)=F (G n):=by subst h;rfl
end
section
set_option linter.unusedVariables false
set_option linter.unusedSimpArgs false
set_option linter.unusedSectionVars false
set_option linter.constructorNameAsVariable false
theorem rM{w:Nat}(h:4<=w)(a b:Int):nQ w a b=some (eD a b):=by
 obtain⟨v,rfl⟩:=Nat.exists_eq_add_of_le' h
 have e:Cx (v+4) (ae 3 [Value.int IntKind.i64 1,Value.int IntKind.i64 2,Value.int IntKind.i64 4]) a=some (if a=1 then 0 else if a=2 then 1 else if a=4 then 2 else-1):=by
  unfold Cx I6
  simp[VK,M6,aJ,@eq_comm _ _ a]
  repeat' split
  all_goals rfl
 unfold nQ I1
 rw[e]
 simp[eD,yq]
 have hb:(if b=1 then some true else some (decide (b=2)))=some (b==1||b==2):=by
  by_cases hb:b=1<;>grind
 rw[hb]
 by_cases h1:a=1
 ·simp[h1]
 ·by_cases h2:a=2
  ·simp[h2]
  ·by_cases h4:a=4
   ·simp[h4]
   ·simp_all
theorem pL{s o:Int}(h:eD s o=true):(s=1\/s=2\/s=4)/\(o=1\/o=2):=by
 unfold eD yq at h
 grind
theorem Zp{n b:Nat}(hn:n<2^40)(hb:b<256):(BitVec.ofInt 64 ((n:Int)*256)|||BitVec.ofInt 64 (b:Int)).toNat=n*256+b:=by
 rw[(show((n:Int)*256)=((n*256:Nat):Int) from by omega),BitVec.ofInt_natCast]
 have:=Nat.shiftLeft_add_eq_or_of_lt (i:=8) (by omega) n
 rw[Nat.shiftLeft_eq] at this
 grind
theorem Pb{l:List UInt8}{p s:Nat}{o:Int}(h:p+s<=l.length):(fj l p s o).length=s:=by
 unfold fj
 grind
theorem ZH{l:List UInt8}{p s i:Nat}{o:Int}(h:p+s<=l.length)(hi:i<s):(fj l p s o)[i]'(by rw[Pb h];exact hi)=if o=1 then l[p+s -1 -i]'(by omega) else l[p+i]'(by omega):=by
 unfold fj
 grind
theorem xy{w:Nat}(hw:5<=w)(l:List UInt8)(hl:l.length<2^60)(p s o:Int)(hp:p<2^62):
 gW w (ag l) p s o=some (match mn l p s o with|some n=>(n,true)|none=>(0,false)):=by
 unfold gW mn H8
 rw[rM (by omega)]
 cases hm:eD s o with
 |false=>simp
 |true=>
  obtain⟨hs,ho⟩:=pL hm
  simp only[ay,Bool.not_true,cond_false,aO,mS,cg]
  by_cases h0:p<0
  ·rw[if_pos h0,if_neg (by omega)]
  rw[if_neg h0]
  rw[aJ (by simp;omega) (by simp;omega)]
  by_cases h1:(Int.ofNat l.length).sub s<p
  ·rw[if_pos h1,if_neg (by simp at h1;omega)]
  rw[if_neg h1,if_pos ⟨trivial,by omega,by simp at h1;omega⟩]
  obtain⟨p,rfl⟩:=Int.eq_ofNat_of_zero_le (Int.not_lt.1 h0)
  obtain⟨s,rfl⟩:=Int.eq_ofNat_of_zero_le (a:=s) (by omega)
  have hps:p+s<=l.length:=by simp at h1;omega
  have hs4:s<=4:=by omega
  have hk:=Pb (o:=o) hps
  refine gz (ev:=λi (g:Value->Int->Int->Int->Int->Int->Int->Option (Int×Bool))=>g (ag l) p s o (fD ((fj l p s o).take i):Int) s i) s ?_ ?_ (by omega)
  ·intro i g hi
   have hi':((i:Int)<(s:Int)):=by omega
   have hn:fD ((fj l p s o).take i)<2^40:=Nat.lt_of_lt_of_le (F6 _) (by
    rw[List.length_take,hk]
    exact Nat.le_trans (Nat.pow_le_pow_right (by decide) (show min i s<=4 by omega)) (by decide))
   have e1:(fj l p s o).take (i+1)=(fj l p s o).take i++[(fj l p s o)[i]'(by omega)]:=by
    rw[List.take_succ_eq_append_getElem (by omega)]
   simp only[hi',if_true,bT]
   have hb:=Zp hn (fj l p s o)[i].toNat_lt
   have hv:fD ((fj l p s o).take i)*256+(fj l p s o)[i].toNat<2^50:=by
    have:=(fj l p s o)[i].toNat_lt
    omega
   rw[e1,Ap]
   rw[ZH hps hi] at hb hv⊢
   by_cases h2:o=1
   ·simp only[h2,decide_true,cond_true,if_true] at hb hv⊢
    simp(disch:=omega) only[gS,bO,aJ,ju]
    rw[jT (show(((p:Int)+s -1 -i).toNat<l.length) by omega)]
    have e2:((p:Int)+s -1 -i).toNat=p+s -1 -i:=by omega
    simp(disch:=omega) only[e2,aX,kY,lu,aJ]
    rw[show((2:Int)^8)=256 from rfl]
    simp(disch:=omega) only[aJ,hb]
    rfl
   ·simp only[h2,decide_false,cond_false,if_false] at hb hv⊢
    simp(disch:=omega) only[gS,bO,aJ,ju]
    rw[jT (show(((p:Int)+i).toNat<l.length) by omega)]
    have e2:((p:Int)+i).toNat=p+i:=by omega
    simp(disch:=omega) only[e2,aX,kY,lu,aJ]
    rw[show((2:Int)^8)=256 from rfl]
    simp(disch:=omega) only[aJ,hb]
    rfl
  ·intro g
   simp[hk,List.take_of_length_le]
end
section
set_option linter.unusedVariables false
set_option linter.unusedSimpArgs false
set_option linter.unusedSectionVars false
set_option linter.constructorNameAsVariable false
variable{β:Type}
@[simp] theorem AV(n:Nat)(v:Value)(c:List Value):aM n [v] c=c.set n v:=rfl
theorem AU:∀(vs old pre post:List Value),old.length=vs.length->aM pre.length vs (pre++(old++post))=pre++(vs++post)
 |[],old,pre,post,h=>by
  obtain rfl:=List.length_eq_zero_iff.1 h
  rfl
 |v::vs,[],pre,post,h=>by grind
 |v::vs,o::old,pre,post,h=>by
  have:=AU vs old (pre++[v]) post (by grind)
  show aM (pre.length+1) vs ((pre++(o::old++post)).set pre.length v)=_
  grind
theorem Sf{c:List Value}{n:Nat}(h:n<c.length)(K:Value->List Value->Option β):af (c.drop n) K=K c[n] (c.drop (n+1)):=by
 rw[List.drop_eq_getElem_cons h];rfl
def ke(l:List UInt8)(k:Nat):List UInt8:=(List.range l.length).map λj=>if j<k\/l.length -k<=j then(l[l.length -1 -j]?).getD 0 else(l[j]?).getD 0
@[simp] theorem PG(l:List UInt8)(k:Nat):(ke l k).length=l.length:=by simp[ke]
theorem tM(l:List UInt8)(k j:Nat)(h:j<l.length):(ke l k)[j]? =if j<k\/l.length -k<=j then l[l.length -1 -j]? else l[j]? :=by
 unfold ke
 grind
theorem Z0(l:List UInt8):ke l 0=l:=by
 apply List.ext_getElem?
 intro j
 by_cases h:j<l.length
 ·rw[tM _ _ _ h,if_neg (by omega)]
 simp_all
theorem ZY(l:List UInt8){k:Nat}(hk:l.length<=2*k+1):ke l k=l.reverse:=by
 apply List.ext_getElem?
 intro j
 by_cases h:j<l.length
 ·rw[tM _ _ _ h]
  grind
 simp_all
theorem ZZ(l:List UInt8){k:Nat}(hk:2*k+1<l.length):((ke l k).set k (l[l.length -1 -k]'(by omega))).set (l.length -1 -k) (l[k]'(by omega))=ke l (k+1):=by
 apply List.ext_getElem?
 intro j
 by_cases h:j<l.length
 ·rw[tM _ _ _ h,List.getElem?_set,List.getElem?_set,tM _ _ _ h]
  simp
  grind
 simp_all
theorem NH{pre m post:List UInt8}{k:Nat}{b:UInt8}(h:m[k]? =some b)(hk:pre.length+k<((pre++(m++post)).map aQ).length):((pre++(m++post)).map aQ)[pre.length+k]=aQ b:=by grind
theorem F0(pre m post:List UInt8){k:Nat}(b:UInt8)(h:k<m.length):((pre++(m++post)).map aQ).set (pre.length+k) (aQ b)=(pre++(m.set k b++post)).map aQ:=by
 simp_all
theorem KU(b:UInt8):(SV.i IntKind.u8 (b.toNat:Int)).cells.length.beq 1=true:=rfl
theorem IS{w:Nat}(pre l post:List UInt8)(hl:l.length<2^60)(hw:l.length+1<w)(c:Nat):qc w pre.length l.length c ((pre++(l++post)).map aQ)=some ((pre++(l.reverse++post)).map aQ):=by
 unfold qc
 rw[gS,bG,aJ (by omega) (by omega),<-ZY l (k:=l.length/2) (by omega)]
 rw[show(pre++(l++post))=pre++(ke l 0++post) by rw[Z0],show(l.length:Int) -1=(l.length:Int) -1 -((0:Nat):Int) by omega]
 refine gz (ev:=λi (g:Nat->Nat->Nat->Int->Int->List Value->Option (List Value))=>g pre.length l.length c i ((l.length:Int) -1 -i) ((pre++(ke l i++post)).map aQ)) (l.length/2) ?_ ?_ (show l.length/2<w by omega)
 ·intro i g hi
  have e1:((i:Int)<(l.length:Int) -1 -i):=by omega
  simp(disch:=omega) only[aO,e1,decide_true,cond_true,ju,Int.toNat_natCast,jQ,Nat.mul_one]
  have e2:((l.length:Int) -1 -i).toNat=l.length -1 -i:=by omega
  rw[e2]
  have h1:l.length -1 -i<l.length:=by omega
  have h2:i<l.length:=by omega
  have h3:((pre++(ke l i++post)).map aQ).length=pre.length+(l.length+post.length):=by simp
  have g1:((pre++(ke l i++post)).map aQ)[pre.length+(l.length -1 -i)]'(by omega)=aQ (l[l.length -1 -i]):=NH (by
   rw[tM _ _ _ h1,if_neg (by omega),List.getElem?_eq_getElem h1]) _
  have g2:((pre++(ke l i++post)).map aQ)[pre.length+i]'(by omega)=aQ (l[i]):=NH (by
   rw[tM _ _ _ h2,if_neg (by omega),List.getElem?_eq_getElem h2]) _
  simp only[h1,h2,cond_true]
  rw[Sf (by omega),g1]
  simp only[kY]
  rw[Sf (by omega),g2]
  simp only[kY,KU,eV,kb]
  have f1:pre.length+i+1<=((pre++(ke l i++post)).map aQ).length:=by omega
  have f2:pre.length+(l.length -1 -i)+1<=((pre++(ke l i++post)).map aQ).length:=by omega
  simp only[f1,f2,cond_true,AV,gS,bO]
  rw[aJ (by omega) (by omega),aJ (by omega) (by omega)]
  rw[show Value.int IntKind.u8 (l[l.length -1 -i].toNat:Int)=aQ l[l.length -1 -i] from rfl,show Value.int IntKind.u8 (l[i].toNat:Int)=aQ l[i] from rfl]
  rw[F0 _ _ _ _ (by rw[PG];exact h2),F0 _ _ _ _ (by rw[List.length_set,PG];exact h1),ZZ l (by omega)]
  rw[show(l.length:Int) -1 -i -1=(l.length:Int) -1 -((i+1:Nat):Int) by omega]
  rfl
 ·intro g
  have e1:¬(((l.length/2:Nat):Int)<(l.length:Int) -1 -((l.length/2:Nat):Int)):=by omega
  simp only[aO,e1,decide_false,cond_false]
theorem VL{α α':Type}{z:α}{F:α->α}{z':α'}{F':α'->α'}(R:α->α'->Prop)(h0:R z z')(hs:∀g g',R g g'->R (F g) (F' g'))(w:Nat):R (lp z F w) (lp z' F' w):=by
 induction w with
 |zero=>exact h0
 |succ w ih=>exact hs _ _ ih
theorem abn(w a b:Nat)(c:List Value):Ce w a b c=qc w 0 a b c:=by
 refine VL (R:=λ(g:Nat->Nat->Int->Int->List Value->Option (List Value))(g':Nat->Nat->Nat->Int->Int->List Value->Option (List Value))=>∀a b i j c,g a b i j c=g' 0 a b i j c) ?_ ?_ w _ _ _ _ _
 ·intros;rfl
 ·intro g g' h a b i j c
  simp_all
theorem abm{w:Nat}(l:List UInt8)(hl:l.length<2^60)(hw:l.length+1<w)(c:Nat):Ce w l.length c (l.map aQ)=some (l.reverse.map aQ):=by
 rw[abn]
 have:=IS [] l [] hl hw c
 grind
theorem KL:∀(i n:Nat),dA n (i+1)=UInt8.ofNat (n/256^i%256)::dA n i
 |0,n=>by simp[dA]
 |i+1,n=>by
  show dA (n/256) (i+1)++_=_
  rw[KL i (n/256)]
  show _=_::(dA (n/256) i++_)
  rw[List.cons_append,Nat.div_div_eq_div_mul,Nat.pow_succ,Nat.mul_comm]
theorem abl{s:Int}(h:s=1\/s=2\/s=4)(w:Nat):uf w s=some ((256^s.toNat:Nat):Int):=by
 rcases h with rfl|rfl|rfl<;>rfl
theorem adu(i:Nat):(2:Int)^(8*i)=((256^i:Nat):Int):=by
 rw[<-(show(2:Nat)^(8*i)=256^i from by rw[Nat.pow_mul])]
 simp
theorem lk(l:List UInt8):ag l=ae l.length (l.map aQ):=by
 unfold ag ax
 rw[fZ]
theorem pT:∀n:Nat,rep n (Value.int IntKind.u8 0).cells.toList=(List.replicate n (0:UInt8)).map aQ
 |0=>rfl
 |n+1=>by
  show _=aQ 0::_
  rw[<-pT n]
  rfl
theorem oM{w:Nat}(hw:8<=w)(n s o:Int):fL w n s o=some (match(if eD s o=true then mD n s.toNat o else none) with|some l=>(ag l,true)|none=>(ae 0 [],false)):=by
 unfold fL
 rw[rM (by omega)]
 cases hm:eD s o with
 |false=>simp
 |true=>
  obtain⟨hs,ho⟩:=pL hm
  unfold mD
  simp only[ay,Bool.not_true,cond_false,aO,mS,if_true]
  by_cases h0:n<0
  ·rw[if_pos h0,if_neg (by omega)]
  rw[if_neg h0,abl hs]
  simp only[ay]
  by_cases h1:¬n<((256^s.toNat:Nat):Int)
  ·rw[if_neg (by omega)]
   simp only[h1,decide_false,Bool.not_false,cond_true]
  replace h1:=Classical.not_not.1 h1
  rw[if_pos (by omega)]
  obtain⟨n,rfl⟩:=Int.eq_ofNat_of_zero_le (Int.not_lt.1 h0)
  obtain⟨s,rfl⟩:=Int.eq_ofNat_of_zero_le (a:=s) (by omega)
  have hs4:s<=4:=by omega
  have hr:Nat.ble s 1000000000=true:=by rw[Nat.ble_eq];omega
  have hr2:Nat.ble s s=true:=by rw[Nat.ble_eq];omega
  simp only[h1,decide_true,Bool.not_true,cond_false]
  simp only[bF,hr,hr2,Bool.and_true,pT,Int.toNat_natCast,Int.ofNat_eq_natCast]
  rw[show List.replicate s (0:UInt8)=List.replicate (s -0) 0++dA n 0 by simp[dA]]
  refine gz (ev:=λi (g:Int->Int->Int->Nat->Nat->Int->Int->List Value->Option (Value×Bool))=>g n s o s s s i ((List.replicate (s -i) (0:UInt8)++dA n i).map aQ)) s ?_ ?_ (by omega)
  ·intro i g hi
   have e1:((i:Int)<(s:Int)):=by omega
   simp only[e1,if_true]
   have e2:(ah IntKind.u64 (Int.mul 8 (ah IntKind.u64 (i:Int))))=((8*i:Nat):Int):=by
    rw[lu,oY (n:=(i:Int)) (by omega) (by omega),oY (by omega) (by omega)]
    omega
   have e3:(n:Int).fdiv (2^min ((8*i:Nat):Int).toNat 64)=((n/256^i:Nat):Int):=by
    rw[Int.toNat_natCast,Nat.min_eq_left (by omega),adu,Int.fdiv_eq_ediv_of_nonneg _ (Int.natCast_nonneg _)]
    rfl
   have e4:ah IntKind.u8 ((n/256^i:Nat):Int)=((UInt8.ofNat (n/256^i%256)).toNat:Int):=by
    rw[lZ,IntKind.wrap_u8]
    simp
   rw[e2,if_neg (by omega),e3,e4]
   simp(disch:=omega) only[gS,bO,aJ,ju,KU,Bool.true_and,eV,jQ]
   have e5:((s:Int) -1 -i).toNat=s -1 -i:=by omega
   have e6:s -1 -i<s:=by omega
   have e7:((List.replicate (s -i) (0:UInt8)++dA n i).map aQ).length=s:=by simp[mg];omega
   have e8:0+(s -1 -i)*1+1<=s:=by omega
   simp only[e5,e6,e7,e8,decide_true,cond_true]
   rw[show 0+(s -1 -i)*1=s -1 -i by omega,AV,show Value.int IntKind.u8 ((UInt8.ofNat (n/256^i%256)).toNat:Int)=aQ (UInt8.ofNat (n/256^i%256)) from rfl]
   have e9:(List.replicate (s -i) (0:UInt8)++dA n i)=List.replicate (s -1 -i) 0++([0]++dA n i):=by
    rw[<-List.append_assoc,<-List.replicate_succ',show s -1 -i+1=s -i by omega]
   have e10:=F0 (List.replicate (s -1 -i) 0) [0] (dA n i) (k:=0) (UInt8.ofNat (n/256^i%256)) (by simp)
   rw[List.length_replicate,Nat.add_zero] at e10
   rw[e9,e10,KL,show s -(i+1)=s -1 -i by omega]
   rfl
  ·intro g
   simp
   unfold aN
   have hb:=mg s n
   by_cases h2:o=1
   ·subst h2
    have:=abm (w:=w) (dA n s) (by omega) (by omega) s
    rw[hb] at this
    simp only[show ai 1 1=true from rfl,cond_true,this,ay,List.drop_zero,if_true]
    rw[lk,List.length_reverse,hb]
   ·simp_all
    rw[lk,hb]
end
section
set_option linter.unusedVariables false
set_option linter.unusedSimpArgs false
set_option linter.unusedSectionVars false
set_option linter.constructorNameAsVariable false
theorem Ds(l:List UInt8)(s m i:Nat)(h:i<l.length)(hs:0<s)(hm:m<=l.length)(hd:m%s=0):(fN l s m)[i]? =if i<m then l[i -i%s+(s -1 -i%s)]? else l[i]? :=by
 rw[yu _ _ _ _ h]
 split
 ·next h1=>
  have:i -i%s+(s -1 -i%s)<l.length:=by
   have h3:=Nat.div_add_mod i s
   have h4:=Nat.div_add_mod m s
   have h5:i/s<m/s:=by
    apply Nat.lt_of_mul_lt_mul_left (a:=s)
    omega
   have h6:s*(i/s+1)<=s*(m/s):=Nat.mul_le_mul_left _ h5
   rw[Nat.mul_add] at h6
   omega
  grind
 ·rw[List.getElem?_eq_getElem h];rfl
theorem RT(l:List UInt8){s i:Nat}(hs:0<s)(h:i*s+s<=l.length):
 fN l s ((i+1)*s)=(fN l s (i*s)).take (i*s)++((((fN l s (i*s)).drop (i*s)).take s).reverse++(fN l s (i*s)).drop (i*s+s)):=by
 apply List.ext_getElem?
 intro j
 have e1:(i+1)*s=i*s+s:=by rw[Nat.add_mul,Nat.one_mul]
 have d1:(i*s)%s=0:=Nat.mul_mod_left _ _
 have d2:((i+1)*s)%s=0:=Nat.mul_mod_left _ _
 have hlen:=mI l s (i*s)
 by_cases hj:j<l.length
 ·rw[Ds _ _ _ _ hj hs (by omega) d2]
  by_cases h1:j<i*s
  ·rw[if_pos (by omega),List.getElem?_append_left (by rw[List.length_take];omega),List.getElem?_take_of_lt h1,Ds _ _ _ _ hj hs (by omega) d1,if_pos h1]
  ·by_cases h2:j<i*s+s
   ·have hm:j%s=j -i*s:=by
     have:=Nat.mod_eq_of_lt (show j -i*s<s by omega)
     rw[<-this]
     conv=>lhs;rw[show j=(j -i*s)+s*i by rw[Nat.mul_comm s i];omega]
     rw[Nat.add_mul_mod_self_left]
    rw[if_pos (by omega),List.getElem?_append_right (by rw[List.length_take];omega),List.length_take,hlen,Nat.min_eq_left (by omega)]
    rw[List.getElem?_append_left (by rw[List.length_reverse,List.length_take,List.length_drop];omega)]
    rw[List.getElem?_reverse (by rw[List.length_take,List.length_drop];omega),List.length_take,List.length_drop,hlen,Nat.min_eq_left (by omega)]
    rw[List.getElem?_take_of_lt (by omega),List.getElem?_drop,Ds _ _ _ _ (by omega) hs (by omega) d1,if_neg (by omega),hm]
    congr 1
    omega
   ·rw[if_neg (by omega),List.getElem?_append_right (by rw[List.length_take];omega),List.getElem?_append_right (by simp;omega)]
    simp
    rw[Ds _ _ _ _ (by omega) hs (by omega) d1,if_neg (by omega)]
    congr 1
    omega
 ·rw[List.getElem?_eq_none (by rw[mI];omega),List.getElem?_eq_none (by simp;omega)]
theorem RS(l:List UInt8)(s:Nat):fN l s 0=l:=by
 apply List.ext_getElem?
 intro i
 by_cases h:i<l.length
 ·rw[yu _ _ _ _ h,List.getElem?_eq_getElem h];rfl
 ·rw[List.getElem?_eq_none (by rw[mI];omega),List.getElem?_eq_none (by omega)]
theorem CS(w:Nat){a b c:Int}(h:-2^62<c/\c<2^62)(ha:a<2^62):rR w a b c=some (decide (0<=a/\0<=b/\a<=c/\b<=c -a)):=by
 unfold rR
 simp
 by_cases h1:a<0
 ·simp[h1];omega
 by_cases h2:b<0
 ·simp_all;omega
 by_cases h3:c<a
 ·simp_all;omega
 rw[aJ (by omega) (by omega)]
 by_cases h4:c -a<b<;>grind
theorem acm(w:Nat){n:Nat}(h:n<2^60):CX w (n:Int)=some (aA n:Int):=by
 unfold CX aA
 have e:(BitVec.ofInt 64 (n:Int)&&&BitVec.ofInt 64 1).toNat=n%2:=by
  simp
 rw[e,aJ (n:=((n%2:Nat):Int)) (by omega) (by omega),bO,aJ (by omega) (by omega)]
 rfl
theorem RQ{w:Nat}(l:List UInt8)(hl:l.length<2^29)(hw:l.length+10<=w)(s:Nat)(o:Int)(hs:(s:Int)=1\/(s:Int)=2\/(s:Int)=4\/(s:Int)=8)(ho:o=1\/o=2):
 lp (λ(x8 x9:Int)(x10 x11:Nat)(x12:Int)(x13:List Value)=>(none:Option Value))
     (λ(x14:Int->Int->Nat->Nat->Int->List Value->Option Value)(x15 x16:Int)(x17 x18:Nat)(x19:Int)(x20:List Value)=>
      bif ai x16 1 then
       bif !aj (Int.ofNat x17) (ah IntKind.i64 (x19.add x15)) then
        aB (ah IntKind.i64 (x19.add x15)) λx21=>
         aB x19 λx22=>
          bif x21.ble x18&&x22.ble x21 then
           ob (qc w (bif x18.beq x22 then 0 else 0+x22*1) (x21 -x22) (x18 -x22) x20) λx23=>
            x14 x15 x16 x17 x18 (ah IntKind.i64 (x19.add x15)) x23
          else none
       else some (ae x17 (List.drop 0 x20))
      else some (ae x17 (List.drop 0 x20)))
     w (s:Int) o l.length l.length 0 (l.map aQ)=some (if o=1 then ag (fN l s (l.length/s*s)) else ag l):=by
 have hs0:0<s:=by omega
 have hs8:s<=8:=by omega
 have hd2:l.length/s<=l.length:=Nat.div_le_self _ _
 by_cases h1:o=1
 ·subst h1
  have hd:s*(l.length/s)<=l.length:=Nat.mul_div_le _ _
  have hd3:l.length<s*(l.length/s)+s:=Nat.lt_mul_div_succ _ hs0
  rw[show l.map aQ=(fN l s (s*0)).map aQ by rw[Nat.mul_zero,RS],if_pos rfl]
  refine gz (ev:=λi (g:Int->Int->Nat->Nat->Int->List Value->Option Value)=>g (s:Int) 1 l.length l.length ((s*i:Nat):Int) ((fN l s (s*i)).map aQ)) (l.length/s) ?_ ?_ (by omega)
  ·intro i g hi
   have hle:s*(i+1)<=s*(l.length/s):=Nat.mul_le_mul_left _ hi
   have e1:s*(i+1)=s*i+s:=by rw[Nat.mul_add,Nat.mul_one]
   have e2:(((s*i:Nat):Int).add (s:Int))=((s*(i+1):Nat):Int):=by rw[bO,e1];omega
   simp only[e2,show ai 1 1=true from rfl,cond_true,aO,bG]
   rw[aJ (by omega) (by omega)]
   have e3:¬((l.length:Int)<((s*(i+1):Nat):Int)):=by omega
   simp only[e3,decide_false,Bool.not_false,cond_true,bF,eV,vl]
   have e4:s*(i+1)<=l.length:=by omega
   have e5:s*i<=s*(i+1):=by omega
   have e6:¬(l.length=s*i):=by omega
   simp only[e4,e5,e6,decide_true,decide_false,Bool.and_true,cond_true,cond_false]
   have hlen:=mI l s (s*i)
   have:=IS (w:=w) ((fN l s (s*i)).take (s*i)) (((fN l s (s*i)).drop (s*i)).take s) ((fN l s (s*i)).drop (s*i+s)) (by simp;omega) (by simp;omega) (l.length -s*i)
   rw[<-Nat.mul_comm i s,<-RT l hs0 (by rw[Nat.mul_comm];omega),Nat.mul_comm i s,Nat.mul_comm (i+1) s,<-List.drop_drop,List.take_append_drop,List.take_append_drop,List.length_take,List.length_take,List.length_drop,hlen,Nat.min_eq_left (by omega),Nat.min_eq_left (by omega)] at this
   rw[show 0+s*i*1=s*i by omega,show s*(i+1) -s*i=s by omega,this]
   rfl
  ·intro g
   simp only[show ai 1 1=true from rfl,cond_true,aO,bG,bO]
   rw[aJ (by omega) (by omega)]
   have e3:((l.length:Int)<((s*(l.length/s):Nat):Int)+(s:Int)):=by omega
   simp_all
   rw[lk,mI,Nat.mul_comm]
 ·rw[if_neg h1,dt _ _ (by omega)]
  simp only[bT,h1,decide_false,cond_false,List.drop_zero,lk]
theorem aco{w:Nat}(l:List UInt8)(hl:l.length<2^29)(hw:l.length+10<=w)(s o:Int):
 CY w (ag l) s o=some (if eD s o=true\/(s=8/\eD 1 o=true) then(if o=1 then ag (fN l s.toNat (l.length/s.toNat*s.toNat)) else ag l) else ae 0 []):=by
 unfold CY HU
 rw[rM (by omega)]
 have hr:Nat.ble l.length 1000000000=true:=by rw[Nat.ble_eq];omega
 have hr2:Nat.ble l.length l.length=true:=by rw[Nat.ble_eq];omega
 have hi:aM 0 (List.take (l.length*1) (l.map aQ)) (List.map aQ (List.replicate l.length 0))=l.map aQ:=by
  have:=AU (l.map aQ) (List.map aQ (List.replicate l.length 0)) [] [] (by simp)
  simp only[List.length_nil,List.nil_append,List.append_nil] at this
  rw[Nat.mul_one,List.take_of_length_le (by simp),this]
 have hq:((l.map aQ).length.beq (l.length*1)&&(0+l.length*1).ble (List.map aQ (List.replicate l.length 0)).length)=true:=by
  simp
 by_cases hc:¬(eD s o=true\/(s=8/\eD 1 o=true))
 ·rw[if_neg hc]
  have hm:eD s o=false:=by cases h:eD s o<;>simp_all
  simp[cond_true]
  by_cases h8:s=8
  ·have hm1:eD 1 o=false:=by cases h:eD 1 o<;>simp_all
   simp_all
   rw[rM (by omega),hm1]
   rfl
  ·simp_all
 replace hc:=Classical.not_not.1 hc
 have hs:s=1\/s=2\/s=4\/s=8:=by
  rcases hc with h|h
  ·have:=(pL h).1;omega
  ·omega
 have ho:o=1\/o=2:=by
  rcases hc with h|h
  ·exact(pL h).2
  ·exact(pL h.2).2
 obtain⟨s,rfl⟩:=Int.eq_ofNat_of_zero_le (a:=s) (by omega)
 have hs0:0<s:=by omega
 have hs8:s<=8:=by omega
 rw[if_pos hc,Int.toNat_natCast]
 cases hm:eD s o
 all_goals simp only[ay,Bool.not_true,Bool.not_false,cond_true,cond_false]
 ·have h8:(s:Int)=8:=by rcases hc with h|h;(rw[hm] at h;cases h);exact h.1
  have hm1:eD 1 o=true:=by rcases hc with h|h;(rw[hm] at h;cases h);exact h.2
  rw[rM (by omega),hm1,show ai (s:Int) 8=true by rw[h8];rfl]
  simp only[Bool.not_true,cond_false,ay,cg,fV,hr,hr2,Bool.and_true,cond_true,pT,fZ,Nat.min_self]
  rw[hq,cond_true,hi]
  exact RQ l hl hw s o hs ho
 ·simp only[cg,fV,hr,hr2,Bool.and_true,cond_true,pT,fZ,Nat.min_self]
  rw[hq,cond_true,hi]
  exact RQ l hl hw s o hs ho
end
section
set_option linter.unusedVariables false
set_option linter.unusedSimpArgs false
set_option linter.unusedSectionVars false
set_option linter.constructorNameAsVariable false
theorem uj(w:Nat)(t:Int):oR w t=some (kindOf t):=by
 by_cases o:t<1\/12<t
 ·rw[zZ o]
  unfold oR
  simp only[aO,mS]
  by_cases h:t<0
  ·rw[if_pos h]
  rw[if_neg h]
  by_cases h2:12<t
  ·rw[if_pos h2]
  rw[show t=0 by omega]
  rfl
 ·have hc:t=1\/t=2\/t=3\/t=4\/t=5\/t=6\/t=7\/t=8\/t=9\/t=10\/t=11\/t=12:=by omega
  rcases hc with rfl|rfl|rfl|rfl|rfl|rfl|rfl|rfl|rfl|rfl|rfl|rfl<;>rfl
theorem vW(t:Int):0<=(kindOf t).1 /\(kindOf t).1 <=8:=by
 by_cases o:t<1\/12<t
 ·rw[zZ o];exact⟨by decide,by decide⟩
 ·have hc:t=1\/t=2\/t=3\/t=4\/t=5\/t=6\/t=7\/t=8\/t=9\/t=10\/t=11\/t=12:=by omega
  rcases hc with rfl|rfl|rfl|rfl|rfl|rfl|rfl|rfl|rfl|rfl|rfl|rfl<;>exact⟨by decide,by decide⟩
theorem Q5(w:Nat)(t:Int):xQ w t=some (kindOf t).1 :=by
 unfold xQ
 rw[uj]
 rfl
theorem J7:∀l:List UInt8,nY (l.map aQ)=some (l.map λb=>(b.toNat:Int))
 |[]=>rfl
 |b::l=>by
  show ob (nY (l.map aQ)) _=_
  rw[J7 l]
  rfl
theorem o8{β:Type}(l:List UInt8)(K:List Int->Option β):iQ (ag l) K=K (l.map λb=>(b.toNat:Int)):=by
 rw[lk]
 show cond (Nat.ble l.length (l.map aQ).length) (ob (nY ((l.map aQ).take l.length)) K) none=_
 rw[List.take_of_length_le (by simp),J7,List.length_map,show Nat.ble l.length l.length=true by rw[Nat.ble_eq];exact Nat.le_refl _]
 rfl
theorem SQ(l:List UInt8):Lib.bytesOf (l.map λb=>(b.toNat:Int))=l:=by
 unfold Lib.bytesOf
 rw[List.map_map]
 conv=>rhs;rw[<-List.map_id l]
 apply List.map_congr_left
 simp
theorem Lx(b:UInt8)(l:List UInt8):vy (b::l)=(((b==0)==l.isEmpty)&&vy l):=by
 unfold vy
 rw[List.length_cons,List.range_succ_eq_map,List.all_cons,List.all_map]
 grind
theorem MI:∀l:List UInt8,l≠[]->((Lib.indexByte l 0=(l.length:Int) -1)↔vy l=true)
 |[],h=>absurd rfl h
 |[b],_=>by
  rw[Lx]
  by_cases hb:b=0
  ·subst hb;decide
  ·simp[hb,Lib.indexByte]
 |b::c::l,_=>by
  rw[Lx]
  have ih:=MI (c::l) (by simp)
  unfold Lib.indexByte
  by_cases hb:b=0
  ·subst hb
   simp
   omega
  ·have hb':(b==0)=false:=by simpa using hb
   simp only[hb',if_false,List.isEmpty_cons,BEq.rfl,Bool.true_and]
   rw[<-ih]
   by_cases h1:Lib.indexByte (c::l) 0=-1
   ·simp
    omega
   ·have h1':(Lib.indexByte (c::l) 0==-1)=false:=by simpa using h1
    simp only[h1',if_false]
    simp
theorem ab5(w:Nat){l:List UInt8}(h:l≠[]):xN w (ag l) 0=some (Lib.indexByte l 0):=by
 unfold xN
 rw[o8,SQ]
 cases l with
 |nil=>grind
 |cons b l=>rfl
theorem uo(w:Nat)(ty ar:Int)(l:List UInt8)(hl:l.length<2^40):nt w ty ar (ag l)=some (cX ty ar l):=by
 unfold nt cX
 rw[uj]
 have hk:=vW ty
 simp
 by_cases h1:(kindOf ty).1 =0
 ·simp[h1]
 by_cases h2:ar<1
 ·rw[if_pos h2]
  have:¬(1<=ar):=by omega
  simp[this]
 rw[if_neg h2]
 by_cases h3:65536<ar
 ·rw[if_pos h3]
  have:¬(ar<=65536):=by omega
  simp[this]
 rw[if_neg h3]
 have h5:ar*(kindOf ty).1 <=65536*8:=Int.mul_le_mul (by omega) (by omega) (by omega) (by omega)
 have h6:0<=ar*(kindOf ty).1 :=Int.mul_nonneg (by omega) (by omega)
 rw[aJ (by omega) (by omega)]
 by_cases h4:(l.length:Int)=ar*(kindOf ty).1
 ·have h1':(kindOf ty).1 ≠0:=h1
  have h2':1<=ar:=by omega
  have h3':ar<=65536:=by omega
  have h0:l≠[]:=by
   rintro rfl
   have:1*1<=ar*(kindOf ty).1 :=Int.mul_le_mul h2' (by omega) (by decide) (by omega)
   simp at h4
   omega
  rw[ab5 w h0]
  simp only[h4,h1',h2',h3',decide_true,Bool.not_true,cond_false,ay,ne_eq,and_self,Bool.true_and]
  rw[<-h4,aJ (by omega) (by omega)]
  have:=MI l h0
  by_cases h7:ty=2
  ·subst h7
   simp_all
  ·simp[h7]
 ·simp[h4]
theorem Nb(t:Int)(h:(kindOf t).1 ≠0):(kindOf t).2.1 =1\/(kindOf t).2.1 =2\/(kindOf t).2.1 =4\/(kindOf t).2.1 =8:=by
 obtain⟨s,m,e1,e2,e3⟩:=FI t h
 omega
theorem Q7{w:Nat}(ty ar:Int)(l:List UInt8)(hl:l.length<2^29)(hw:l.length+10<=w)(o:Int)(ho:o=1\/o=2):
 xS w ty ar (ag l) o=some (match mB ty ar l o with|some d=>(ty,ar,ag d,true)|none=>(0,0,ae 0 [],false)):=by
 unfold xS mB
 rw[uj]
 have hk:=vW ty
 simp only[ay,bT,aO,mS,cg,bG,lu]
 by_cases h1:(kindOf ty).1 =0
 ·simp[h1]
 rw[if_neg h1]
 by_cases h2:ar<1
 ·rw[if_pos h2,if_neg (by omega)]
 rw[if_neg h2]
 by_cases h3:65536<ar
 ·rw[if_pos h3,if_neg (by omega)]
 rw[if_neg h3]
 have h5:ar*(kindOf ty).1 <=65536*8:=Int.mul_le_mul (by omega) (by omega) (by omega) (by omega)
 have h6:0<=ar*(kindOf ty).1 :=Int.mul_nonneg (by omega) (by omega)
 rw[aJ (by omega) (by omega)]
 by_cases h4:(l.length:Int)<ar*(kindOf ty).1
 ·rw[if_pos h4,if_neg (by omega)]
 rw[if_neg h4]
 have h7:(ar*(kindOf ty).1).toNat<=l.length:=by omega
 simp only[ju h6,eV,h7,Nat.zero_le,decide_true,cond_true]
 rw[mh l h7,List.drop_zero,Nat.sub_zero]
 have hlen:(l.take (ar*(kindOf ty).1).toNat).length=(ar*(kindOf ty).1).toNat:=by rw[List.length_take];omega
 rw[aco _ (by omega) (by omega)]
 have hc:eD (kindOf ty).2.1 o=true\/((kindOf ty).2.1 =8/\eD 1 o=true):=by
  rcases(Nb ty h1) with h|h|h|h<;>rcases ho with rfl|rfl<;>rw[h]<;>simp[eD,yq]
 rw[if_pos hc]
 obtain⟨s,m,e1,e2,e3⟩:=FI ty h1
 have hd:(l.take (ar*(kindOf ty).1).toNat).length/(kindOf ty).2.1.toNat*(kindOf ty).2.1.toNat=(l.take (ar*(kindOf ty).1).toNat).length:=by
  rw[hlen,e1,Int.toNat_natCast]
  apply Nat.div_mul_cancel
  rw[e2]
  refine⟨ar.toNat*m,?_⟩
  obtain⟨c,rfl⟩:=Int.eq_ofNat_of_zero_le (a:=ar) (by omega)
  rw[<-Int.natCast_mul,Int.toNat_natCast,Int.toNat_natCast,<-Nat.mul_assoc,Nat.mul_comm]
 rw[hd]
 have ht:(if o=1 then ag (fN (l.take (ar*(kindOf ty).1).toNat) (kindOf ty).2.1.toNat (l.take (ar*(kindOf ty).1).toNat).length) else ag (l.take (ar*(kindOf ty).1).toNat))=ag (gm (l.take (ar*(kindOf ty).1).toNat) (kindOf ty).2.1.toNat o):=by
  unfold gm
  split<;>rfl
 rw[ht]
 simp
 rw[uo _ _ _ _ (by rw[r9];omega)]
 cases hm:cX ty ar (gm (l.take (ar*(kindOf ty).1).toNat) (kindOf ty).2.1.toNat o) with
 |true=>rw[if_pos ⟨h1,by omega,by omega,by omega,rfl⟩];rfl
 |false=>rw[if_neg (by simp)];rfl
end
section
set_option linter.unusedVariables false
set_option linter.unusedSimpArgs false
set_option linter.unusedSectionVars false
set_option linter.constructorNameAsVariable false
theorem Nq(ty ar:Int):0<=gy ty ar/\gy ty ar<=65536*8:=by
 unfold gy
 have hk:=vW ty
 split
 ·simp
 ·exact⟨Int.mul_nonneg (by omega) (by omega),Int.mul_le_mul (by omega) (by omega) (by omega) (by simp)⟩
theorem Ra(w:Nat)(ty ar:Int):xV w ty ar=some (gy ty ar):=by
 have hs:=Nq ty ar
 unfold xV
 unfold gy at hs⊢
 simp
 by_cases h1:ar<1
 ·rw[if_pos h1,if_pos (.inl h1)]
 rw[if_neg h1]
 by_cases h2:65536<ar
 ·rw[if_pos h2,if_pos (.inr h2)]
 rw[if_neg h2,if_neg (by omega),Q5]
 simp
 rw[aJ (by omega) (by omega)]
theorem Q6(w:Nat)(ty ar:Int):xR w ty ar=some (bu ty ar:Int):=by
 unfold xR bu
 rw[Ra]
 simp
 grind
theorem acp(w:Nat)(ty ar:Int):C1 w ty ar=some (decide (0<gy ty ar/\gy ty ar<=4)):=by
 unfold C1
 rw[Ra]
 simp
 by_cases h:0<gy ty ar
 ·rw[if_pos h]
  by_cases h2:4<gy ty ar
  ·grind
  grind
 grind
def cC{α:Type}(p:α->Bool)(l:List α):Int:=match l.findIdx? p with
 |some i=>(i:Int)
 |none=>-1
theorem tb{α:Type}(p:α->Bool)(l:List α):cC p l<0↔l.all (λx=>!p x)=true:=by
 unfold cC
 cases h:l.findIdx? p with
 |none=>grind
 |some i=>
  obtain⟨hi,h1,-⟩:=List.findIdx?_eq_some_iff_getElem.1 h
  grind
theorem jV{α δ:Type}{z:δ}{F:δ->δ}{w:Nat}(l:List α)(p:α->Bool)(ev:Nat->δ->Option Int)(hs:∀i g (h:i<l.length),ev i (F g)=if p l[i]=true then some (i:Int) else ev (i+1) g)(he:∀g,ev l.length (F g)=some (-1))(hw:l.length<w):
 ev 0 (lp z F w)=some (cC p l):=by
 have key:∀(d i v:Nat),i+d=l.length->d<v->ev i (lp z F v)=some (match(l.drop i).findIdx? p with|some j=>((i+j:Nat):Int)|none=>-1):=by
  intro d
  induction d with
  |zero=>
   intro i v hi hv
   obtain rfl:i=l.length:=by omega
   rw[dt z F (by omega),he,List.drop_length]
   rfl
  |succ d ih=>
   intro i v hi hv
   have hlt:i<l.length:=by omega
   rw[dt z F (by omega),hs i _ hlt,List.drop_eq_getElem_cons hlt,List.findIdx?_cons]
   by_cases hp:p l[i]=true
   ·rw[if_pos hp,if_pos hp];rfl
   ·grind
 have:=key l.length 0 w (by omega) hw
 rw[this,List.drop_zero]
 unfold cC
 cases l.findIdx? p<;>simp
theorem acr{w:Nat}(l:List UInt8)(hl:l.length<2^40)(hw:l.length<w):JB w (ag l)=some (cC (λb=>b !=0) l):=by
 refine jV l (λb=>b !=0) (ev:=λi (g:Value->Int->Int->Option Int)=>g (ag l) l.length i) ?_ ?_ hw
 ·intro i g h
  have e1:((i:Int)<(l.length:Int)):=by omega
  simp only[aO,e1,cond_true,bF]
  rw[jT h]
  simp only[aX,kY]
  unfold Jy
  simp only[bT,bO]
  rw[aJ (by omega) (by omega)]
  have e2:(decide ((l[i].toNat:Int)=0))=!(l[i]!=0):=by
   rw[Bool.eq_iff_iff]
   simp[<-UInt8.toNat_inj]
  rw[e2]
  cases l[i]!=0<;>simp
 ·intro g
  simp
theorem acq{w:Nat}(l:List UInt8)(hl:l.length<2^40)(hw:l.length<w):C2 w (ag l)=some (!l.all (·==0)):=by
 unfold C2
 rw[acr l hl hw]
 simp
 have:=tb (λb:UInt8=>b !=0) l
 grind
theorem GX(n:Int)(o:Int):mD n 4 o=if 0<=n/\n<4294967296 then some (aN n.toNat 4 o) else none:=rfl
def Dt(ty ar slot order:Int):Option (List UInt8×Bool):=
 if 0<=slot/\slot<4294967296/\0<gy ty ar/\gy ty ar<=4 then
  (mB ty ar (aN slot.toNat 4 order) order).map λd=>(d,((aN slot.toNat 4 order).drop d.length).all (·==0))
 else none
theorem Wb{ty ar:Int}{b d:List UInt8}{o:Int}(h:mB ty ar b o=some d):d.length<=b.length:=by
 unfold mB at h
 split at h
 ·cases h
  rw[r9,List.length_take]
  omega
 grind
theorem aci{w:Nat}(hw:100<=w)(tag ty ar slot o:Int)(ho:o=1\/o=2):
 CW w tag ty ar slot o=some (match Dt ty ar slot o with|some (d,c)=>(ty,ar,ag d,c,true)|none=>(0,0,ae 0 [],false,false)):=by
 unfold CW Dt
 rw[oM (by omega),if_pos (by rcases ho with rfl|rfl<;>rfl),show(4:Int).toNat=4 from rfl,GX,acp]
 by_cases h1:¬(0<=slot/\slot<4294967296)
 ·rw[if_neg h1,if_neg (by omega)];rfl
 replace h1:=Classical.not_not.1 h1
 rw[if_pos h1]
 by_cases h2:¬(0<gy ty ar/\gy ty ar<=4)
 ·rw[if_neg (by omega)]
  simp[h2]
 simp_all
 have hl:(aN slot.toNat 4 o).length=4:=db _ _ _
 rw[Q7 ty ar _ (by omega) (by omega) o ho]
 cases hv:mB ty ar (aN slot.toNat 4 o) o with
 |none=>rfl
 |some d=>
  simp[(Wb hv)]
  rw[mh _ (Nat.le_refl _),List.take_of_length_le (by rw[List.length_drop];omega),acq _ (by rw[List.length_drop];omega) (by rw[List.length_drop];omega)]
  simp
theorem C0{w:Nat}(hw:5<=w)(l:List UInt8)(hl:l.length<2^60)(s o p:Int)(ok:Bool)(hp:0<=p/\p<2^60)(hs:0<=s/\s<=8):
 rT w s (ag l) o p ok=some ((mn l p s o).getD 0,ag l,o,p+s,ok&&(mn l p s o).isSome):=by
 unfold rT JA
 rw[xy hw l hl p s o (by omega)]
 simp
 rw[aJ (by omega) (by omega)]
 grind
theorem acf{w:Nat}(hw:5<=w)(l:List UInt8)(hl:l.length<2^50)(p:Nat)(o:Int)(ho:o=1\/o=2):
 CU w (ag l) p o=some (if p+12<=l.length then((bK l p 2 o:Int),(bK l (p+2) 2 o:Int),(bK l (p+4) 4 o:Int),(bK l (p+8) 4 o:Int),true) else(0,0,0,0,false)):=by
 unfold CU
 rw[cg]
 by_cases hp:¬(p+12<=l.length)
 ·by_cases hb:(p:Int)<2^62
  ·rw[CS w ⟨by simp;omega,by simp only[Int.ofNat_eq_natCast];omega⟩ hb]
   have:¬(0<=(p:Int)/\(0:Int)<=12/\(p:Int)<=Int.ofNat l.length/\(12:Int)<=Int.ofNat l.length -p):=by
    simp;omega
   simp only[ay,this,decide_false,Bool.not_false,cond_true]
   rw[if_neg hp]
  ·unfold rR
   have e1:¬((p:Int)<0):=by omega
   have e2:Int.ofNat l.length<(p:Int):=by simp;omega
   simp only[aO,e1,e2,decide_false,decide_true,Bool.not_false,Bool.not_true,cond_true,cond_false,show decide ((12:Int)<0)=false from rfl,ay]
   rw[if_neg hp]
 replace hp:=Classical.not_not.1 hp
 rw[if_pos hp,CS w ⟨by simp;omega,by simp only[Int.ofNat_eq_natCast];omega⟩ (by omega)]
 have:(0<=(p:Int)/\(0:Int)<=12/\(p:Int)<=Int.ofNat l.length/\(12:Int)<=Int.ofNat l.length -p):=by
  simp;omega
 simp_all
 have g:∀(k s:Nat),(s=2\/s=4)->k+s<=12->(mn l ((p:Int)+k) s o).isSome=true/\(mn l ((p:Int)+k) s o).getD 0=(bK l (p+k) s o:Int):=by
  intro k s hs hk
  have:=sY (l:=l) (p:=p+k) (s:=s) (by omega) ho (by omega)
  rw[show((p+k:Nat):Int)=(p:Int)+k by omega] at this
  unfold bK
  rw[show((p+k:Nat):Int)=(p:Int)+k by omega,this]
  exact⟨rfl,by simp⟩
 rw[C0 hw l (by omega) 2 o p true (by omega) (by omega)]
 simp
 rw[C0 hw l (by omega) 2 o _ _ (by omega) (by omega)]
 simp
 rw[C0 hw l (by omega) 4 o _ _ (by omega) (by omega)]
 simp
 rw[C0 hw l (by omega) 4 o _ _ (by omega) (by omega)]
 have g0:=g 0 2 (.inl rfl) (by decide)
 have g1:=g 2 2 (.inl rfl) (by decide)
 have g2:=g 4 4 (.inr rfl) (by decide)
 have g3:=g 8 4 (.inr rfl) (by decide)
 rw[show(p:Int)+((0:Nat):Int)=p by omega] at g0
 rw[show(p:Int)+2+2=(p:Int)+4 by omega,show(p:Int)+4+4=(p:Int)+8 by omega]
 simp at g0 g1 g2 g3
 rw[g0.1,g1.1,g2.1,g3.1,g0.2,g1.2,g2.2,g3.2]
 rfl
end
section
set_option linter.unusedVariables false
set_option linter.unusedSimpArgs false
set_option linter.unusedSectionVars false
set_option linter.constructorNameAsVariable false
def bR(t:aD):List Value:=[.int .i64 t.tag,.int .i64 t.ty,.int .i64 t.ar,ag t.data]
theorem fE(t:aD):(bR t).length=4:=rfl
def au(l:List aD):Value:=ax bR l
def jC(x:fO):List Value:=[.int .i64 x.tag,.int .i64 x.shape]
theorem pH(x:fO):(jC x).length=2:=rfl
def eZ(l:List fO):Value:=ax jC l
def gM(s:aP):List Value:=[eZ s.bt,.int .i64 s.at_,.int .i64 s.bU,.int .i64 s.next]
theorem uG(s:aP):(gM s).length=4:=rfl
def bP(l:List aP):Value:=ax gM l
mutual
def cx:aK->List Value
 | .mk tags subs blob=>[au tags,ae (bI subs) (fb subs),ag blob]
def fb:bW->List Value
 | .nil=>[]
 | .cons tag d r=>.int .i64 tag::(cx d++fb r)
end
theorem jf(d:aK):(cx d).length=3:=by cases d;rfl
theorem Rz:∀s:bW,(fb s).length=bI s*4
 | .nil=>rfl
 | .cons tag d r=>by
  show(cx d++fb r).length+1=(bI r+1)*4
  rw[List.length_append,jf,Rz r]
  omega
theorem Ns{δ:Type}{z:δ}{F:δ->δ}{w:Nat}(m:Nat)(ok:Nat->Bool)(ev:Nat->δ->Option Bool)(hs:∀i g,i<m->ev i (F g)=if ok i=true then ev (i+1) g else some false)(he:∀g,ev m (F g)=some true)(hw:m<w):
 ev 0 (lp z F w)=some ((List.range m).all ok):=by
 have key:∀(d i v:Nat),i+d=m->d<v->ev i (lp z F v)=some ((List.range d).all λj=>ok (i+j)):=by
  intro d
  induction d with
  |zero=>
   intro i v hi hv
   rw[dt z F (by omega),show i=m by omega,he]
   rfl
  |succ d ih=>
   intro i v hi hv
   rw[dt z F (by omega),hs i _ (by omega),List.range_succ_eq_map]
   by_cases h:ok i=true
   ·rw[ih (i+1) (v -1) (by omega) (by omega)]
    simp[h]
    congr 2
    funext j
    congr 1;omega
   ·rw[if_neg h]
    simp[h]
 have:=key m 0 w (by omega) hw
 simpa using this
theorem ab1{w:Nat}(hw:8<=w)(n:Int):uw w n=some (km n):=by
 unfold uw
 rw[oM hw]
 have hm:eD 2 2=true:=rfl
 rw[if_pos hm]
 unfold mD km
 by_cases h:0<=n/\n<65536<;>simp[h]
theorem Cp(w:Nat)(tags:List aD)(subs:bW)(blob:List UInt8)(h:tags.length+bI subs<2^60):iM w (au tags) (ae (bI subs) (fb subs)) (ag blob)=some (bh (.mk tags subs blob):Int):=by
 unfold iM au bh
 simp only[bV,Vx,cg,aO,mS,bG,bO]
 rw[aJ (n:=(tags.length:Int)+(bI subs:Int)) (by omega) (by omega)]
 by_cases hb:blob.length=0
 ·rw[if_neg (by omega),if_pos hb];rfl
 ·rw[if_pos (by omega),if_neg hb,aJ (by omega) (by omega)];rfl
end
section
set_option linter.unusedVariables false
set_option linter.unusedSimpArgs false
set_option linter.unusedSectionVars false
set_option linter.constructorNameAsVariable false
theorem abX{w:Nat}(l:List fO)(n:Int)(hl:l.length<2^40)(hw:l.length<w):Je w (eZ l) n=some (cC (λx=>x.tag==n) l):=by
 refine jV l (λx=>x.tag==n) (ev:=λi (g:Value->List Value->Int->Int->Option Int)=>g (ax jC l) [.int .i64 n] l.length i) ?_ ?_ hw
 ·intro i g h
  simp_all
  rw[bn pH h]
  unfold jC Jz
  simp only[List.cons_append,aX,bN,ay,bT,bO]
  rw[aJ (by omega) (by omega)]
  by_cases e2:l[i].tag=n<;>grind
 ·intro g
  simp
theorem ach{w:Nat}(l:List fO)(n:Int)(hl:l.length<2^40)(hw:l.length<w):xP w (eZ l) n=some (l.any λx=>x.tag==n):=by
 unfold xP
 rw[abX l n hl hw]
 simp
 have:=tb (λx:fO=>x.tag==n) l
 grind
def DM(S:aP):Prop:=0<=S.at_
theorem acn{w:Nat}(S:aP)(n:Int)(hs:DM S)(hl:S.bt.length<2^40)(hw:S.bt.length<w):xT w (eZ S.bt) S.at_ S.bU S.next n=some (dw S n):=by
 have hs:0<=S.at_:=hs
 unfold xT dw dY dV
 rw[ach S.bt n hl hw]
 simp
 by_cases h0:0<S.at_
 ·have h1:S.at_≠0:=by omega
  grind
 grind
theorem Z4(l:List aD):ed l=(List.range l.length).all λi=>decide (i=0)||decide ((l[i -1]?.getD ⟨0,0,0,[]⟩).tag<(l[i]?.getD ⟨0,0,0,[]⟩).tag):=by
 induction l with
 |nil=>rfl
 |cons a l ih=>
  cases l with
  |nil=>rfl
  |cons b l=>
   show(decide (a.tag<b.tag)&&ed (b::l))=_
   rw[ih,List.length_cons (a:=a),List.range_succ_eq_map,List.length_cons,List.range_succ_eq_map]
   simp
   congr 1
theorem adk(S:aP)(l:List aD):iB S l=(List.range l.length).all λi=>(decide (i=0)||decide ((l[i -1]?.getD ⟨0,0,0,[]⟩).tag<(l[i]?.getD ⟨0,0,0,[]⟩).tag))&&(km (l[i]?.getD ⟨0,0,0,[]⟩).tag&&(!dw S (l[i]?.getD ⟨0,0,0,[]⟩).tag&&cX (l[i]?.getD ⟨0,0,0,[]⟩).ty (l[i]?.getD ⟨0,0,0,[]⟩).ar (l[i]?.getD ⟨0,0,0,[]⟩).data)):=by
 unfold iB
 rw[Z4,Bool.eq_iff_iff]
 simp
 constructor
 ·grind
 ·intro h
  refine⟨λi hi=>(h i hi).1,λx hx=>?_⟩
  obtain⟨i,hi,rfl⟩:=List.getElem_of_mem hx
  grind
theorem ab8{w:Nat}(S:aP)(l:List aD)(X Y Z:Value)(hs:DM S)(hS:S.bt.length<2^40)(hl:l.length<2^40)(hd:∀t∈l,t.data.length<2^40)(hw:S.bt.length+l.length+10<=w):
 CO w X (au l) Y Z (eZ S.bt) S.at_ S.bU S.next=some (iB S l):=by
 unfold CO au
 rw[bV,adk]
 refine Ns l.length _ (ev:=λi (g:Value->Int->Int->Value->Value->Value->Value->Int->Int->Int->Option Bool)=>g (ax bR l) l.length i (ax bR l) Y Z (eZ S.bt) S.at_ S.bU S.next) ?_ ?_ (by omega)
 ·intro i g h
  have e1:((i:Int)<(l.length:Int)):=by omega
  simp only[aO,e1,decide_true,cond_true,bF]
  rw[bn fE h,List.getElem?_eq_getElem h]
  have hdi:=hd _ (List.getElem_mem h)
  have tg:∀(t:aD)(r:List Value),bR t++r=.int .i64 t.tag::.int .i64 t.ty::.int .i64 t.ar::ag t.data::r:=λ_ _=>rfl
  simp only[tg,aX,bN,bO,gS,Option.getD_some]
  rw[ab1 (by omega),aJ (n:=(i:Int)+1) (by omega) (by omega)]
  simp only[ay]
  rw[acn S _ hs hS (by omega),uo w _ _ _ hdi]
  simp only[ay]
  have fin:∀a b:Bool,(cond a (some false) (cond (!b) (some false) (g (ax bR l) (l.length:Int) ((i:Int)+1) (ax bR l) Y Z (eZ S.bt) S.at_ S.bU S.next)))=if(!a&&b)=true then g (ax bR l) (l.length:Int) ((i+1:Nat):Int) (ax bR l) Y Z (eZ S.bt) S.at_ S.bU S.next else some false:=by
   intro a b
   cases a<;>cases b<;>rfl
  rcases Bool.eq_false_or_eq_true (km l[i].tag) with ht|ht
  ·simp only[ht,Bool.not_true,cond_false,Bool.true_and]
   by_cases h0:i=0
   ·have e2:¬((0:Int)<(i:Int)):=by omega
    have e3:decide (i=0)=true:=by simp[h0]
    simp only[e2,decide_false,cond_false,fin,e3,Bool.true_or,Bool.true_and]
   ·have e2:((0:Int)<(i:Int)):=by omega
    rw[aJ (n:=(i:Int) -1) (by omega) (by omega),ju (by omega),show((i:Int) -1).toNat=i -1 by omega]
    rw[bn fE (show i -1<l.length by omega)]
    simp_all
    by_cases h3:l[i -1].tag<l[i].tag<;>grind
  ·simp_all
 ·intro g
  have e1:¬((l.length:Int)<(l.length:Int)):=by omega
  simp
end
section
set_option linter.unusedVariables false
set_option linter.unusedSimpArgs false
set_option linter.unusedSectionVars false
set_option linter.constructorNameAsVariable false
def aI:bW->List (Int×aK)
 | .nil=>[]
 | .cons tag d r=>(tag,d)::aI r
def dT:aK->Value
 | .mk tags _ _=>au tags
def dS:aK->Value
 | .mk _ subs _=>ae (bI subs) (fb subs)
def dB:aK->Value
 | .mk _ _ blob=>ag blob
theorem mU(d:aK):cx d=[dT d,dS d,dB d]:=by cases d;rfl
def eJ(p:Int×aK):List Value:=.int .i64 p.1 ::cx p.2
theorem ql(p:Int×aK):(eJ p).length=4:=by unfold eJ;rw[List.length_cons,jf]
theorem qn:∀s:bW,(aI s).length=bI s
 | .nil=>rfl
 | .cons _ _ r=>by show(aI r).length+1=bI r+1;rw[qn r]
theorem J0:∀s:bW,fb s=(aI s).flatMap eJ
 | .nil=>rfl
 | .cons t d r=>by
  show Value.int .i64 t::(cx d++fb r)=(Value.int .i64 t::cx d)++(aI r).flatMap eJ
  rw[J0 r];rfl
theorem yn(s:bW):ae (bI s) (fb s)=ax eJ (aI s):=by
 unfold ax
 rw[qn,J0]
mutual
def fP(m:Nat):aK->Prop
 | .mk tags subs blob=>tags.length<=m/\bI subs<=m/\blob.length<=m/\(∀t∈tags,t.data.length<=m)/\fQ m subs
def fQ(m:Nat):bW->Prop
 | .nil=>True
 | .cons _ d r=>fP m d/\fQ m r
end
theorem sC{m:Nat}:∀{s:bW},fQ m s->∀p∈aI s,fP m p.2
 | .nil,_,p,h=>by cases h
 | .cons t d r,h,p,hp=>by
  rcases List.mem_cons.1 hp with rfl|hp
  ·exact h.1
  ·exact sC h.2 p hp
theorem zo:∀{s:bW},∀p∈aI s,eB p.2 <=ij s
 | .nil,p,h=>by cases h
 | .cons t d r,p,hp=>by
  rcases List.mem_cons.1 hp with rfl|hp
  ·exact Nat.le_max_left _ _
  ·exact Nat.le_trans (zo p hp) (Nat.le_max_right _ _)
theorem abT{w:Nat}(l:List fO)(n:Int)(a b c:Value)(hl:l.length<2^40)(hw:l.length<w):Jf w (eZ l) n a b c=some (cC (λx=>x.tag==n) l):=by
 refine jV l (λx=>x.tag==n) (ev:=λi (g:Value->List Value->Int->Int->Option Int)=>g (ax jC l) [.int .i64 n,a,b,c] l.length i) ?_ ?_ hw
 ·intro i g h
  simp_all
  rw[bn pH h]
  unfold jC Jr
  rw[aJ (by omega) (by omega)]
  simp
 simp
theorem FO(S:aP)(n:Int):(cC (λx:fO=>x.tag==n) S.bt<0/\dV S n=false)\/
 ∃k,∃h:k<S.bt.length,cC (λx:fO=>x.tag==n) S.bt=(k:Int)/\dV S n=true/\(ji S n).getD 0=(S.bt[k]).shape.toNat:=by
 unfold dV ji cC
 cases h:S.bt.findIdx? (λx=>x.tag==n) with
 |none=>
  left
  refine⟨by decide,?_⟩
  rw[List.findIdx?_eq_none_iff] at h
  rw[Bool.eq_false_iff]
  intro q
  obtain⟨x,hx,e⟩:=List.any_eq_true.1 q
  rw[h x hx] at e;cases e
 |some k=>
  right
  obtain⟨hk,h1,h2⟩:=List.findIdx?_eq_some_iff_getElem.1 h
  refine⟨k,hk,rfl,List.any_eq_true.2 ⟨_,List.getElem_mem hk,h1⟩,?_⟩
  have:S.bt.find? (λx=>x.tag==n)=some S.bt[k]:=by
   rw[List.find?_eq_some_iff_getElem]
   exact⟨h1,k,hk,rfl,λj hj=>by have:=h2 j hj;simpa using this⟩
  rw[this]
  rfl
theorem Z3(l:List Int):kN l=(List.range l.length).all λi=>decide (i=0)||decide ((l[i -1]?.getD 0)<(l[i]?.getD 0)):=by
 induction l with
 |nil=>rfl
 |cons a l ih=>
  cases l with
  |nil=>rfl
  |cons b l=>
   show(decide (a<b)&&kN (b::l))=_
   rw[ih,List.length_cons (a:=a),List.range_succ_eq_map,List.length_cons,List.range_succ_eq_map]
   simp
   congr 1
theorem Ry:∀s:bW,iY s=(aI s).map Prod.fst
 | .nil=>rfl
 | .cons t d r=>by show t::iY r=t::(aI r).map Prod.fst;rw[Ry r]
theorem Ms(sh:List aP)(S:aP):∀s:bW,gx sh S s=(aI s).all λp=>dV S p.1 &&bX sh ((ji S p.1).getD 0) p.2
 | .nil=>by simp[gx,aI]
 | .cons t d r=>by
  simp only[gx,aI,List.all_cons]
  rw[Ms sh S r,Bool.and_assoc]
def tw:Int×aK:=(0,.mk [] .nil [])
theorem Uy(sh:List aP)(S:aP)(s:bW):(kN (iY s)&&gx sh S s)=(List.range (aI s).length).all λi=>
 (decide (i=0)||decide (((aI s)[i -1]?.getD tw).1 <((aI s)[i]?.getD tw).1))&&(dV S ((aI s)[i]?.getD tw).1 &&bX sh ((ji S ((aI s)[i]?.getD tw).1).getD 0) ((aI s)[i]?.getD tw).2):=by
 rw[Z3,Ms,Ry,List.length_map,Bool.eq_iff_iff]
 simp only[Bool.and_eq_true,List.all_eq_true,List.mem_range]
 have hf:∀i:Nat,((List.map Prod.fst (aI s))[i]?).getD 0=((aI s)[i]?.getD tw).1 :=by
  intro i
  rw[List.getElem?_map]
  cases(aI s)[i]? <;>rfl
 simp only[hf]
 constructor
 ·grind
 ·intro h
  refine⟨λi hi=>(h i hi).1,λx hx=>?_⟩
  obtain⟨i,hi,rfl⟩:=List.getElem_of_mem hx
  grind
theorem ac4{w m:Nat}(hm:m<2^38)(hw:2*m+100<=w)(sh:List aP)(hsh:gp sh)(hl:∀s,s<sh.length->(aH sh s).bt.length<=m)(rec:Value->Value->Value->Value->Int->Option Bool)
 (d:aK) (s:Nat) (hs:s<sh.length) (hd:fP m d) (hrec:∀p∈aI (match d with| .mk _ subs _=>subs),∀k:Nat,k<sh.length->rec (bP sh) (dT p.2) (dS p.2) (dB p.2) (k:Int)=some (bX sh k p.2)):
 Dk w rec (bP sh) (dT d) (dS d) (dB d) (s:Int)=some (bX sh s d):=by
 obtain⟨tags,subs,blob⟩:=d
 have hd:tags.length<=m/\bI subs<=m/\blob.length<=m/\(∀t∈tags,t.data.length<=m)/\fQ m subs:=hd
 have hS:sh[s]=aH sh s:=by unfold aH;rw[List.getElem?_eq_getElem hs];rfl
 have hp:DM (aH sh s):=by
  have:=(hsh.ok s).pair
  show 0<=(aH sh s).at_
  by_cases q:(aH sh s).at_=0
  ·omega
  ·have:=this q;omega
 have hln:=hl s hs
 unfold Dk bP bX HM
 simp only[dT,dS,dB,bF]
 rw[bn uG hs,hS]
 have tg:∀(S:aP)(r:List Value),gM S++r=eZ S.bt::.int .i64 S.at_::.int .i64 S.bU::.int .i64 S.next::r:=λ_ _=>rfl
 simp only[tg,aX,bN]
 rw[Cp w tags subs blob (by omega),ab8 (aH sh s) tags _ _ _ hp (by omega) (by omega) (λt ht=>by have:=hd.2.2.2.1 t ht;omega) (by omega)]
 simp only[ay,aO,mS,bT]
 generalize hE:bh (.mk tags subs blob)=E
 by_cases h1:(E:Int)<1
 ·rw[if_pos h1]
  have:¬(1<=E/\E<=65535):=by omega
  simp[this]
 rw[if_neg h1]
 by_cases h2:65535<(E:Int)
 ·rw[if_pos h2]
  have:¬(1<=E/\E<=65535):=by omega
  simp[this]
 rw[if_neg h2]
 have h3:(1<=E/\E<=65535):=by omega
 simp only[h3,and_self,decide_true,Bool.true_and]
 rcases Bool.eq_false_or_eq_true (iB (aH sh s) tags) with ht|ht
 ·simp only[ht,Bool.not_true,cond_false,Bool.true_and]
  rw[cg]
  have sg:∀(p:Int×aK)(r:List Value),eJ p++r=.int .i64 p.1 ::dT p.2 ::dS p.2 ::dB p.2 ::r:=by
   intro p r
   unfold eJ
   rw[mU]
   rfl
  have hsl:=qn subs
  have fin:∀(b:Bool)(x y:Option Bool),(cond (!b) x y)=if b=true then y else x:=by intro b x y;cases b<;>rfl
  by_cases hb:blob.length=0
  case' pos=>
   rw[if_neg (by simp only[Int.ofNat_eq_natCast];omega)]
   simp only[hb,decide_true,Bool.true_or,Bool.true_and]
  case' neg=>
   rw[if_pos (by simp only[Int.ofNat_eq_natCast];omega)]
   by_cases ha:(aH sh s).at_=0
   case pos=>rw[if_pos ha];simp[hb,ha]
   rw[if_neg ha]
   simp only[hb,ha,decide_false,ne_eq,not_false_eq_true,decide_true,Bool.or_true,Bool.true_and]
  all_goals
   rw[yn,bV,Uy]
   refine Ns (aI subs).length _ (ev:=λi (g:Value->Int->Int->Value->Value->Value->Value->Value->Int->Int->Int->Option Bool)=>g (ax eJ (aI subs)) (aI subs).length i (ax gM sh) (au tags) (ax eJ (aI subs)) (ag blob) (eZ (aH sh s).bt) (aH sh s).at_ (aH sh s).bU (aH sh s).next) ?_ ?_ (by omega)
   ·intro i g h
    have e1:((i:Int)<((aI subs).length:Int)):=by omega
    simp only[e1,if_true,bF]
    rw[bn ql h,List.getElem?_eq_getElem h]
    simp only[sg,aX,bN,bO,gS,Option.getD_some]
    rw[abT _ _ _ _ _ (by omega) (by omega)]
    simp only[ay]
    rcases FO (aH sh s) (aI subs)[i].1 with⟨hn,hb0⟩|⟨k,hk,e,hb1,e2⟩
    ·rw[if_pos hn]
     simp only[hb0,Bool.false_and,Bool.and_false,Bool.false_eq_true,if_false]
    ·rw[e,if_neg (by omega)]
     have hmem:=List.getElem_mem (l:=(aH sh s).bt) hk
     have hlk:=hsh.bt s hs _ hmem
     have hr:=hrec _ (List.getElem_mem h) ((aH sh s).bt[k]).shape.toNat (by omega)
     rw[Int.toNat_of_nonneg (by omega)] at hr
     have lg:∀(x:fO)(r:List Value),(jC x++r).drop 1=.int .i64 x.shape::r:=λ_ _=>rfl
     rw[aJ (n:=(i:Int)+1) (by omega) (by omega)]
     unfold eZ
     simp only[bF]
     rw[bn pH hk]
     simp only[lg,aX,bN]
     unfold bP at hr
     rw[hr]
     simp only[ay,fin,hb1,Bool.true_and,e2]
     by_cases h0:i=0
     ·have e3:decide (i=0)=true:=by simp[h0]
      rw[if_neg (by omega)]
      simp only[e3,Bool.true_or,Bool.true_and]
      rfl
     ·rw[if_pos (by omega),aJ (n:=(i:Int) -1) (by omega) (by omega),ju (by omega),show((i:Int) -1).toNat=i -1 by omega]
      rw[bn ql (show i -1<(aI subs).length by omega),List.getElem?_eq_getElem (show i -1<(aI subs).length by omega)]
      simp only[List.drop_zero,sg,aX,bN,Option.getD_some]
      by_cases h3:(aI subs)[i -1].1 <(aI subs)[i].1
      ·simp only[h3,decide_true,if_true,Bool.or_true,Bool.true_and]
       rfl
      ·simp only[h3,decide_false,h0,Bool.or_self,Bool.false_and,Bool.false_eq_true,if_false]
   ·intro g
    have e1:¬(((aI subs).length:Int)<((aI subs).length:Int)):=by omega
    simp only[e1,if_false]
 ·simp only[ht,Bool.not_false,cond_true,Bool.false_and]
theorem Mt{w m:Nat}(hm:m<2^38)(hw:2*m+100<=w)(sh:List aP)(hsh:gp sh)(hl:∀s,s<sh.length->(aH sh s).bt.length<=m)(z:Value->Value->Value->Value->Int->Option Bool):
 ∀(n:Nat)(d:aK)(s:Nat),eB d<=n->s<sh.length->fP m d->mX z (Dk w) n (bP sh) (dT d) (dS d) (dB d) (s:Int)=some (bX sh s d)
 |0,d,s,h,_,_=>by
  obtain⟨tags,subs,blob⟩:=d
  unfold eB at h
  omega
 |n+1,d,s,h,hs,hd=>by
  refine ac4 hm hw sh hsh hl _ d s hs hd ?_
  obtain⟨tags,subs,blob⟩:=d
  intro p hp k hk
  have hp:p∈aI subs:=hp
  have:=zo p hp
  unfold eB at h
  exact Mt hm hw sh hsh hl z n p.2 k (by omega) hk (sC hd.2.2.2.2 p hp)
theorem abN{w m:Nat}(hm:m<2^38)(hw:2*m+100<=w)(sh:List aP)(hsh:gp sh)(hl:∀s,s<sh.length->(aH sh s).bt.length<=m)(d:aK)(s:Nat)(hs:s<sh.length)(hd:fP m d)(ir:eB d<=w):
 Jc w (bP sh) (dT d) (dS d) (dB d) (s:Int)=some (bX sh s d):=Mt hm hw sh hsh hl _ w d s ir hs hd
end
section
set_option linter.unusedVariables false
set_option linter.unusedSimpArgs false
set_option linter.unusedSectionVars false
set_option linter.constructorNameAsVariable false
def bH(x:bc):List Value:=[.int .i64 x.kQ,.int .i64 x.dir,.int .i64 x.tag,.int .i64 x.at_,.int .i64 x.bU]
theorem yi(x:bc):(bH x).length=5:=rfl
theorem qN(n:Nat):aA n<=n+1:=by unfold aA;omega
theorem O2(ty ar:Int):bu ty ar<=524288:=by
 have:=Nq ty ar
 unfold bu
 grind
theorem Ja(w:Nat)(kQ dir tag no:Int){n e:Nat}(hn:n<2^50)(he:e<2^50)(c:List Value)(hc:c.length<=1000000000):
 rQ w kQ dir tag n e no c=some (((aA e+n:Nat):Int),no,c++bH ⟨kQ,dir,tag,aA e,n⟩):=by
 have hv:=qN e
 unfold rQ Jq
 rw[acm w (by omega)]
 simp
 rw[aJ (by omega) (by omega)]
 simp_all
 rfl
theorem EF(t:aD):∀(l:List aD)(e:Nat),bJ e (l++[t])=if bu t.ty t.ar=0 then bJ e l else aA (bJ e l)+bu t.ty t.ar
 |[],e=>rfl
 |a::l,e=>by
  show(if bu a.ty a.ar=0 then bJ e (l++[t]) else bJ (aA e+bu a.ty a.ar) (l++[t]))=_
  rw[EF t l e,EF t l (aA e+bu a.ty a.ar)]
  by_cases h:bu a.ty a.ar=0<;>simp[bJ,h]
theorem Rs(no:Nat)(t:aD):∀(l:List aD)(e:Nat),cw no e (l++[t])=cw no e l++(if bu t.ty t.ar=0 then[] else[⟨3,no,t.tag,aA (bJ e l),bu t.ty t.ar⟩])
 |[],e=>by simp[cw,bJ]
 |a::l,e=>by
  by_cases h:bu a.ty a.ar=0<;>simp[cw,bJ,h,Rs no t l]
theorem EE{K:Nat}(hK:524289<=K):∀(l:List aD)(e:Nat),bJ e l<=e+l.length*K
 |[],e=>Nat.le_add_right _ _
 |a::l,e=>by
  have h1:=EE hK l e
  have h2:=EE hK l (aA e+bu a.ty a.ar)
  have h3:=qN e
  have h4:=O2 a.ty a.ar
  have h5:(a::l).length*K=l.length*K+K:=by rw[List.length_cons,Nat.succ_mul]
  unfold bJ
  grind
theorem TK(l:List aD)(e:Nat):bJ e l<=e+l.length*600000:=EE (by simp) l e
theorem JW(no:Nat):∀(l:List aD)(e:Nat),(cw no e l).length<=l.length
 |[],e=>by simp[cw]
 |a::l,e=>by
  have h1:=JW no l e
  have h2:=JW no l (aA e+bu a.ty a.ar)
  unfold cw
  grind
theorem acZ(no:Nat)(l:List aD)(e i:Nat):(cw no e (l.take i)).length<=(cw no e l).length:=by
 have:∀(a b:List aD)(e:Nat),cw no e (a++b)=cw no e a++cw no (bJ e a) b:=by
  intro a
  induction a with
  |nil=>intro b e;rfl
  |cons p a ih=>
   intro b e
   by_cases h:bu p.ty p.ar=0<;>simp[cw,bJ,h,ih]
 rw[<-List.take_append_drop i l,this]
 simp
theorem rW(l:List bc):(l.flatMap bH).length=l.length*5:=cK yi l
theorem ab7{w:Nat}(l:List aD)(X Y:Value)(no:Nat)(k:Int){e:Nat}(c:List Value)(he:e+l.length*600000<2^50)(hc:c.length+(cw no e l).length*5<=1000000000)(hw:l.length<w):
 CN w (au l) X Y no e k c=some ((bJ e l:Int),k,c++(cw no e l).flatMap bH):=by
 unfold CN au
 rw[bV]
 have s0:c=c++(cw no e (l.take 0)).flatMap bH:=by simp[cw]
 conv=>lhs;rw[s0]
 refine gz (ev:=λi (g:Int->Value->Int->Int->Int->Int->List Value->Option (Int×Int×List Value))=>g no (ax bR l) l.length i (bJ e (l.take i):Nat) k (c++(cw no e (l.take i)).flatMap bH)) l.length ?_ ?_ hw
 ·intro i g h
  have e1:((i:Int)<(l.length:Int)):=by omega
  simp[e1]
  rw[bn fE h]
  have tg:∀(t:aD)(r:List Value),bR t++r=.int .i64 t.tag::.int .i64 t.ty::.int .i64 t.ar::ag t.data::r:=λ_ _=>rfl
  simp[tg]
  rw[Q6,aJ (n:=(i:Int)+1) (by omega) (by omega)]
  simp only[ay]
  rw[List.take_succ_eq_append_getElem h,EF,Rs]
  have hlt:(l.take i).length<=l.length:=by rw[List.length_take];omega
  have b1:=TK (l.take i) e
  have b2:=acZ no l e i
  have b3:=O2 l[i].ty l[i].ar
  by_cases h0:bu l[i].ty l[i].ar=0
  ·simp only[h0,cond_false,if_true,List.append_nil]
   rfl
  ·have e2:((0:Int)<((bu l[i].ty l[i].ar:Nat):Int)):=by omega
   simp only[e2,decide_true,cond_true,h0,if_false]
   rw[Ja w 3 no l[i].tag k (by omega) (by omega) _ (by rw[List.length_append,rW];omega)]
   simp only[ay,List.flatMap_append,List.flatMap_cons,List.flatMap_nil,List.append_nil,List.append_assoc]
   rfl
 ·intro g
  simp
end
section
set_option linter.unusedVariables false
set_option linter.unusedSimpArgs false
set_option linter.unusedSectionVars false
set_option linter.constructorNameAsVariable false
def fy(e:Nat):List (Int×aK)->Nat
 |[]=>e
 |p::l=>fy (bg e p.2) l
def ew:List (Int×aK)->Nat
 |[]=>0
 |p::l=>cJ p.2 +ew l
def eH(no e:Nat):List (Int×aK)->List bc
 |[]=>[]
 |p::l=>eG no e p.2 ++eH (no+cJ p.2) (bg e p.2) l
theorem ED:∀(s:bW)(e:Nat),cW e s=fy e (aI s)
 | .nil,e=>by simp[cW,aI,fy]
 | .cons t d r,e=>by simp[cW,aI,fy,ED r]
theorem Er:∀(s:bW),fS s=ew (aI s)
 | .nil=>by simp[fS,aI,ew]
 | .cons t d r=>by simp[fS,aI,ew,Er r]
theorem Dg:∀(s:bW)(no e:Nat),iN no e s=eH no e (aI s)
 | .nil,no,e=>by simp[iN,aI,eH]
 | .cons t d r,no,e=>by simp[iN,aI,eH,Dg r]
theorem Lu(p:Int×aK):∀(l:List (Int×aK))(e:Nat),fy e (l++[p])=bg (fy e l) p.2
 |[],e=>rfl
 |a::l,e=>Lu p l (bg e a.2)
theorem K5(p:Int×aK):∀(l:List (Int×aK)),ew (l++[p])=ew l+cJ p.2
 |[]=>by simp[ew]
 |a::l=>by simp[ew,K5 p l,Nat.add_assoc]
theorem Rq(p:Int×aK):∀(l:List (Int×aK))(no e:Nat),eH no e (l++[p])=eH no e l++eG (no+ew l) (fy e l) p.2
 |[],no,e=>by simp[eH,ew,fy]
 |a::l,no,e=>by simp[eH,ew,fy,Rq p l,Nat.add_assoc]
theorem zu:∀(l:List (Int×aK))(e:Nat),e<=fy e l
 |[],_=>Nat.le_refl _
 |p::l,e=>Nat.le_trans (vw p.2 e) (zu l (bg e p.2))
theorem TJ(l:List (Int×aK))(e i:Nat):fy e (l.take i)<=fy e l:=by
 have:∀(a b:List (Int×aK))(e:Nat),fy e (a++b)=fy (fy e a) b:=by
  intro a
  induction a with
  |nil=>intro b e;rfl
  |cons p a ih=>intro b e;exact ih b (bg e p.2)
 conv=>rhs;rw[<-List.take_append_drop i l,this]
 exact zu _ _
theorem Tj(l:List (Int×aK))(i:Nat):ew (l.take i)<=ew l:=by
 have:∀(a b:List (Int×aK)),ew (a++b)=ew a+ew b:=by
  intro a
  induction a with
  |nil=>simp[ew]
  |cons p a ih=>intro b;simp[ew,ih b,Nat.add_assoc]
 rw[<-List.take_append_drop i l,this]
 simp
theorem acW(l:List (Int×aK))(no e i:Nat):(eH no e (l.take i)).length<=(eH no e l).length:=by
 have:∀(a b:List (Int×aK))(no e:Nat),eH no e (a++b)=eH no e a++eH (no+ew a) (fy e a) b:=by
  intro a
  induction a with
  |nil=>simp[eH,ew,fy]
  |cons p a ih=>intro b no e;simp[eH,ew,fy,ih b,Nat.add_assoc]
 rw[<-List.take_append_drop i l,this]
 simp
theorem ac3{w m:Nat}(hm:m<2^28)(hw:2*m+100<=w)(rec:Value->Value->Value->Int->Int->List Value->Option (Int×Int×List Value))(d:aK)(no e:Nat)(c:List Value)(he:bg e d<2^49)(hno:no+cJ d<2^50)
 (hc:c.length+(eG no e d).length*5<=1000000000) (hd:fP m d)
 (hrec:∀p∈aI (match d with| .mk _ subs _=>subs),∀(no' e':Nat)(c':List Value),bg e' p.2 <2^49->no'+cJ p.2 <2^50->c'.length+(eG no' e' p.2).length*5<=1000000000->rec (dT p.2) (dS p.2) (dB p.2) e' no' c'=some ((bg e' p.2 :Int),((no'+cJ p.2 :Nat):Int),c'++(eG no' e' p.2).flatMap bH)):
 Dj w rec (dT d) (dS d) (dB d) e no c=some ((bg e d:Int),((no+cJ d:Nat):Int),c++(eG no e d).flatMap bH):=by
 obtain⟨tags,subs,blob⟩:=d
 have hd:tags.length<=m/\bI subs<=m/\blob.length<=m/\(∀t∈tags,t.data.length<=m)/\fQ m subs:=hd
 have hE:bh (.mk tags subs blob)<=2*m+2:=by
  show tags.length+bI subs+(if blob.length=0 then 0 else 2)<=2*m+2
  split<;>omega
 unfold cJ at hno⊢
 rw[Er] at hno⊢
 unfold bg at he⊢
 unfold eG at hc⊢
 simp only[Dg] at hc⊢
 simp only[ED] at he hc⊢
 unfold Dj
 simp only[dT,dS,dB]
 rw[Cp w tags subs blob (by omega)]
 simp only[ay,lu,bO]
 generalize bh (.mk tags subs blob)=E at he hc hE⊢
 rw[aJ (n:=12*(E:Int)) (by omega) (by omega),aJ (n:=2+12*(E:Int)) (by omega) (by omega),aJ (n:=2+12*(E:Int)+4) (by omega) (by omega),aJ (n:=(no:Int)+1) (by omega) (by omega)]
 rw[show(2:Int)+12*(E:Int)+4=((6+12*E:Nat):Int) by omega,show(no:Int)+1=((no+1:Nat):Int) by omega]
 have v1:=qN e
 have v0:e<=aA e:=by unfold aA;omega
 have g1:=ny tags (aA e+(6+12*E))
 have g2:=zu (aI subs) (bJ (aA e+(6+12*E)) tags)
 have g3:fy (bJ (aA e+(6+12*E)) tags) (aI subs)<2^49:=by
  by_cases q:blob.length=0
  ·rw[if_pos q] at he;exact he
  ·rw[if_neg q] at he
   have:∀n:Nat,n<=aA n:=λn=>by unfold aA;omega
   have:=this (fy (bJ (aA e+(6+12*E)) tags) (aI subs))
   omega
 rw[Ja w 2 no 0 _ (by omega) (by omega) c (by omega)]
 simp only[ay]
 simp only[List.length_cons,List.length_append] at hc
 rw[ab7 tags _ _ no _ _ (by omega) (by rw[List.length_append,yi];omega) (by omega)]
 simp only[ay]
 rw[yn,bV]
 have sg:∀(p:Int×aK)(r:List Value),eJ p++r=.int .i64 p.1 ::dT p.2 ::dS p.2 ::dB p.2 ::r:=by
  intro p r
  unfold eJ
  rw[mU]
  rfl
 have hsl:=qn subs
 generalize hE2:bJ (aA e+(6+12*E)) tags=E2 at*
 generalize hC:c++bH ⟨2,no,0,aA e,6+12*E⟩++(cw no (aA e+(6+12*E)) tags).flatMap bH=C
 have hCl:C.length=c.length+5+(cw no (aA e+(6+12*E)) tags).length*5:=by
  rw[<-hC,List.length_append,List.length_append,rW];rfl
 have s0:C=C++(eH (no+1) E2 ((aI subs).take 0)).flatMap bH:=by simp[eH]
 conv=>lhs;rw[s0]
 refine gz (ev:=λi (g:Int->Value->Int->Int->Int->Int->Value->Value->Value->List Value->Option (Int×Int×List Value))=>g no (ax eJ (aI subs)) (aI subs).length i (fy E2 ((aI subs).take i):Nat) ((no+1+ew ((aI subs).take i):Nat):Int) (au tags) (ax eJ (aI subs)) (ag blob) (C++(eH (no+1) E2 ((aI subs).take i)).flatMap bH)) (aI subs).length ?_ ?_ (by omega)
 ·intro i g h
  have e1:((i:Int)<((aI subs).length:Int)):=by omega
  simp only[aO,e1,decide_true,cond_true,bF]
  rw[bn ql h]
  simp only[sg,aX,bN]
  have k1:=TJ (aI subs) E2 (i+1)
  have k2:=Tj (aI subs) (i+1)
  have k3:=acW (aI subs) (no+1) E2 (i+1)
  rw[List.take_succ_eq_append_getElem h] at k1 k2 k3⊢
  rw[Lu] at k1⊢
  rw[K5] at k2⊢
  rw[Rq] at k3⊢
  rw[List.length_append] at k3
  rw[hrec _ (List.getElem_mem h) (no+1+ew ((aI subs).take i)) (fy E2 ((aI subs).take i)) _ (by omega) (by omega) (by rw[List.length_append,rW];omega)]
  simp only[ay]
  rw[aJ (n:=(i:Int)+1) (by omega) (by omega),List.flatMap_append,<-List.append_assoc,Nat.add_assoc (no+1)]
  rfl
 ·intro g
  have e1:¬(((aI subs).length:Int)<((aI subs).length:Int)):=by omega
  simp only[aO,e1,decide_false,cond_false,List.take_length,cg,bG]
  have hcs:c++(⟨2,no,0,aA e,6+12*E⟩::(cw no (aA e+(6+12*E)) tags++(eH (no+1) E2 (aI subs)++(if blob.length=0 then[] else[⟨4,no,0,aA (fy E2 (aI subs)),blob.length⟩]:List bc)))).flatMap bH=C++(eH (no+1) E2 (aI subs)).flatMap bH++(if blob.length=0 then[] else[⟨4,no,0,aA (fy E2 (aI subs)),blob.length⟩]:List bc).flatMap bH:=by
   rw[<-hC]
   simp[List.flatMap_cons,List.flatMap_append,List.append_assoc]
  rw[hcs]
  by_cases hb:blob.length=0
  ·simp only[hb,show decide ((0:Int)<((0:Nat):Int))=false from rfl,cond_false,if_true,List.flatMap_nil,List.append_nil,Nat.add_assoc]
   rw[Nat.add_comm 1]
  ·have e2:((0:Int)<(blob.length:Int)):=by omega
   simp only[e2,decide_true,cond_true,hb,if_false]
   simp only[hb,if_false,List.length_cons,List.length_nil] at hc
   rw[Ja w 4 no 0 _ (by omega) (by omega) _ (by rw[List.length_append,rW];omega)]
   simp only[ay,List.flatMap_cons,List.flatMap_nil,List.append_nil,Nat.add_assoc]
   rw[Nat.add_comm 1]
theorem Lo{w m:Nat}(hm:m<2^28)(hw:2*m+100<=w)(z:Value->Value->Value->Int->Int->List Value->Option (Int×Int×List Value)):
 ∀(n:Nat)(d:aK)(no e:Nat)(c:List Value),eB d<=n->bg e d<2^49->no+cJ d<2^50->c.length+(eG no e d).length*5<=1000000000->fP m d->
  mX z (Dj w) n (dT d) (dS d) (dB d) e no c=some ((bg e d:Int),((no+cJ d:Nat):Int),c++(eG no e d).flatMap bH)
 |0,d,no,e,c,h,_,_,_,_=>by
  obtain⟨tags,subs,blob⟩:=d
  unfold eB at h
  omega
 |n+1,d,no,e,c,h,he,hno,hc,hd=>by
  refine ac3 hm hw _ d no e c he hno hc hd ?_
  obtain⟨tags,subs,blob⟩:=d
  intro p hp no' e' c' h1 h2 h3
  have hp:p∈aI subs:=hp
  have:=zo p hp
  unfold eB at h
  exact Lo hm hw z n p.2 no' e' c' (by omega) h1 h2 h3 (sC hd.2.2.2.2 p hp)
theorem abM{w m:Nat}(hm:m<2^28)(hw:2*m+100<=w)(d:aK)(no e:Nat)(c:List Value)(ir:eB d<=w)(he:bg e d<2^49)(hno:no+cJ d<2^50)(hc:c.length+(eG no e d).length*5<=1000000000)(hd:fP m d):
 Jb w (dT d) (dS d) (dB d) e no c=some ((bg e d:Int),((no+cJ d:Nat):Int),c++(eG no e d).flatMap bH):=Lo hm hw _ w d no e c ir he hno hc hd
end
section
set_option linter.unusedVariables false
set_option linter.unusedSimpArgs false
set_option linter.unusedSectionVars false
set_option linter.constructorNameAsVariable false
theorem ZN(n:Int)(o:Int):mD n 2 o=if 0<=n/\n<65536 then some (aN n.toNat 2 o) else none:=rfl
theorem abZ{w:Nat}(hw:8<=w)(a b c d o:Int)(ho:o=1\/o=2):CC w a b c d o=some (if(0<=a/\a<65536)/\(0<=b/\b<65536)/\(0<=c/\c<4294967296)/\(0<=d/\d<4294967296) then(ag (aN a.toNat 2 o++(aN b.toNat 2 o++(aN c.toNat 4 o++aN d.toNat 4 o))),true) else(ae 0 [],false)):=by
 have m4:eD 4 o=true:=by rcases ho with rfl|rfl<;>rfl
 have p2:∀n:Int,fL w n 2 o=some (if 0<=n/\n<65536 then(ag (aN n.toNat 2 o),true) else(ae 0 [],false)):=by
  intro n
  rw[oM hw,if_pos (by rcases ho with rfl|rfl<;>rfl),show(2:Int).toNat=2 from rfl,ZN]
  by_cases h:0<=n/\n<65536<;>grind
 have p4:∀n:Int,fL w n 4 o=some (if 0<=n/\n<4294967296 then(ag (aN n.toNat 4 o),true) else(ae 0 [],false)):=by
  intro n
  rw[oM hw,if_pos m4,show(4:Int).toNat=4 from rfl,GX]
  by_cases h:0<=n/\n<4294967296<;>grind
 have fl:∀(l:List UInt8),(l.flatMap mQ).length=l.length:=λl=>by rw[fZ,List.length_map]
 have l2:∀n:Int,(aN n.toNat 2 o).length=2:=λn=>db _ _ _
 have l4:∀n:Int,(aN n.toNat 4 o).length=4:=λn=>db _ _ _
 unfold CC
 rw[p2 a]
 by_cases ha:0<=a/\a<65536
 case neg=>rw[if_neg ha,if_neg (λq=>ha q.1)];rfl
 rw[if_pos ha]
 simp only[ay,Bool.not_true,cond_false,fV,fl,l2,l4,show aF 2=true from rfl,show aF 4=true from rfl,Bool.and_true,cond_true]
 rw[p2 b]
 by_cases hb:0<=b/\b<65536
 case neg=>rw[if_neg hb,if_neg (λq=>hb q.2.1)];rfl
 rw[if_pos hb]
 simp only[ay,Bool.not_true,cond_false,fV,fl,l2,l4,show aF 2=true from rfl,show aF 4=true from rfl,Bool.and_true,cond_true]
 rw[p4 c]
 by_cases hc:0<=c/\c<4294967296
 case neg=>rw[if_neg hc,if_neg (λq=>hc q.2.2.1)];rfl
 rw[if_pos hc]
 simp only[ay,Bool.not_true,cond_false,fV,fl,l2,l4,List.length_append,show aF 2=true from rfl,show aF (2+2)=true from rfl,show aF 4=true from rfl,Bool.and_true,cond_true]
 rw[p4 d]
 by_cases hd:0<=d/\d<4294967296
 case neg=>rw[if_neg hd,if_neg (λq=>hd q.2.2.2)];rfl
 rw[if_pos hd]
 simp only[ay,Bool.not_true,cond_false,fV,fl,l2,l4,List.length_append,show aF (2+2)=true from rfl,show aF (2+2+4)=true from rfl,show aF 4=true from rfl,Bool.and_true,cond_true]
 unfold ag ax
 simp_all
end
section
set_option linter.unusedVariables false
set_option linter.unusedSimpArgs false
set_option linter.unusedSectionVars false
set_option linter.constructorNameAsVariable false
theorem RR{w:Nat}(l:List UInt8)(hl:l.length<2^29)(hw:l.length+10<=w)(s:Nat)(o:Int)(hs:(s:Int)=1\/(s:Int)=2\/(s:Int)=4\/(s:Int)=8)(ho:o=1\/o=2):
 lp (λ(x8 x9:Int)(x10 x11:Nat)(x12:Int)(x13:List Value)=>(none:Option (Nat×Nat×List Value)))
     (λx14 (x15 x16:Int) (x17 x18:Nat) (x19:Int) (x20:List Value)=>
      bif ai x16 1 then
       bif !aj (Int.ofNat x17) (ah IntKind.i64 (x19.add x15)) then
        aB (ah IntKind.i64 (x19.add x15)) λx21=>
         aB x19 λx22=>
          bif x21.ble x18&&x22.ble x21 then
           ob (qc w (bif x18.beq x22 then 0 else 0+x22*1) (x21 -x22) (x18 -x22) x20) λx23=>
            x14 x15 x16 x17 x18 (ah IntKind.i64 (x19.add x15)) x23
          else none
       else some (x17,x18,x20)
      else some (x17,x18,x20))
     w (s:Int) o l.length l.length 0 (l.map aQ)=some (l.length,l.length,(if o=1 then fN l s (l.length/s*s) else l).map aQ):=by
 have hs0:0<s:=by omega
 have hs8:s<=8:=by omega
 have hd2:l.length/s<=l.length:=Nat.div_le_self _ _
 by_cases h1:o=1
 ·subst h1
  have hd:s*(l.length/s)<=l.length:=Nat.mul_div_le _ _
  have hd3:l.length<s*(l.length/s)+s:=Nat.lt_mul_div_succ _ hs0
  rw[show l.map aQ=(fN l s (s*0)).map aQ by rw[Nat.mul_zero,RS],if_pos rfl]
  refine gz (ev:=λi (g:Int->Int->Nat->Nat->Int->List Value->Option (Nat×Nat×List Value))=>g (s:Int) 1 l.length l.length ((s*i:Nat):Int) ((fN l s (s*i)).map aQ)) (l.length/s) ?_ ?_ (by omega)
  ·intro i g hi
   have hle:s*(i+1)<=s*(l.length/s):=Nat.mul_le_mul_left _ hi
   have e1:s*(i+1)=s*i+s:=by rw[Nat.mul_add,Nat.mul_one]
   have e2:(((s*i:Nat):Int).add (s:Int))=((s*(i+1):Nat):Int):=by rw[bO,e1];omega
   simp only[e2,show ai 1 1=true from rfl,cond_true,aO,bG]
   rw[aJ (by omega) (by omega)]
   have e3:¬((l.length:Int)<((s*(i+1):Nat):Int)):=by omega
   simp only[e3,decide_false,Bool.not_false,cond_true,bF,eV,vl]
   have e4:s*(i+1)<=l.length:=by omega
   have e5:s*i<=s*(i+1):=by omega
   have e6:¬(l.length=s*i):=by omega
   simp only[e4,e5,e6,decide_true,decide_false,Bool.and_true,cond_true,cond_false]
   have hlen:=mI l s (s*i)
   have:=IS (w:=w) ((fN l s (s*i)).take (s*i)) (((fN l s (s*i)).drop (s*i)).take s) ((fN l s (s*i)).drop (s*i+s)) (by simp;omega) (by simp;omega) (l.length -s*i)
   rw[<-Nat.mul_comm i s,<-RT l hs0 (by rw[Nat.mul_comm];omega),Nat.mul_comm i s,Nat.mul_comm (i+1) s,<-List.drop_drop,List.take_append_drop,List.take_append_drop,List.length_take,List.length_take,List.length_drop,hlen,Nat.min_eq_left (by omega),Nat.min_eq_left (by omega)] at this
   rw[show 0+s*i*1=s*i by omega,show s*(i+1) -s*i=s by omega,this]
   rfl
  ·intro g
   simp only[show ai 1 1=true from rfl,cond_true,aO,bG,bO]
   rw[aJ (by omega) (by omega)]
   have e3:((l.length:Int)<((s*(l.length/s):Nat):Int)+(s:Int)):=by omega
   simp only[e3,decide_true,Bool.not_true,cond_false]
   rw[Nat.mul_comm]
 ·rw[if_neg h1,dt _ _ (by omega)]
  simp only[bT,h1,decide_false,cond_false,if_false]
theorem Q9{w:Nat}(l:List UInt8)(hl:l.length<2^29)(hw:l.length+10<=w)(s o:Int)(hc:eD s o=true\/(s=8/\eD 1 o=true)):
 xU w (ag l) s o=some (l.length,l.length,(if o=1 then fN l s.toNat (l.length/s.toNat*s.toNat) else l).map aQ):=by
 unfold xU HY
 rw[rM (by omega)]
 have hr:Nat.ble l.length 1000000000=true:=by rw[Nat.ble_eq];omega
 have hr2:Nat.ble l.length l.length=true:=by rw[Nat.ble_eq];omega
 have hi:aM 0 (List.take (l.length*1) (l.map aQ)) (List.map aQ (List.replicate l.length 0))=l.map aQ:=by
  have:=AU (l.map aQ) (List.map aQ (List.replicate l.length 0)) [] [] (by simp)
  simp only[List.length_nil,List.nil_append,List.append_nil] at this
  rw[List.take_of_length_le (by simp),this]
 have hq:((l.map aQ).length.beq (l.length*1)&&(0+l.length*1).ble (List.map aQ (List.replicate l.length 0)).length)=true:=by
  simp
 have hs:s=1\/s=2\/s=4\/s=8:=by
  rcases hc with h|h
  ·have:=(pL h).1;omega
  ·omega
 have ho:o=1\/o=2:=by
  rcases hc with h|h
  ·exact(pL h).2
  ·exact(pL h.2).2
 obtain⟨s,rfl⟩:=Int.eq_ofNat_of_zero_le (a:=s) (by omega)
 cases hm:eD s o
 all_goals simp only[ay,Bool.not_true,cond_true,cond_false]
 ·have h8:(s:Int)=8:=by rcases hc with h|h;(rw[hm] at h;cases h);exact h.1
  rw[rM (by omega),(show eD 1 o=true from by rcases hc with h|h;(rw[hm] at h;cases h);exact h.2),show ai (s:Int) 8=true by rw[h8];rfl]
  simp only[Bool.not_true,cond_false,ay,cg,fV,hr,hr2,Bool.and_true,cond_true,pT,fZ,Nat.min_self]
  rw[hq,hi]
  exact RR l hl hw s o hs ho
 ·simp only[cg,fV,hr,hr2,Bool.and_true,cond_true,pT,fZ,Nat.min_self]
  rw[hq,hi]
  exact RR l hl hw s o hs ho
end
section
set_option linter.unusedVariables false
set_option linter.unusedSimpArgs false
set_option linter.unusedSectionVars false
set_option linter.constructorNameAsVariable false
def jH(n:Int):Bool:=decide (0<=n/\n<=4294967295)
theorem I9(w:Nat)(n:Int):ur w n=some (jH n):=by
 unfold ur jH
 by_cases h1:n<0
 ·have:¬(0<=n/\n<=4294967295):=by omega
  simp_all
 ·by_cases h2:4294967295<n
  ·simp_all
  ·have:(0<=n/\n<=4294967295):=by omega
   simp[h2,this]
theorem QQ(w:Nat)(a b:Int):Ck w a b=some (if jH a=true/\jH b=true/\jH (a+b)=true then(a+b,true) else(0,false)):=by
 unfold Ck
 rw[I9,I9]
 by_cases ha:jH a=true
 case neg=>simp[ha]
 by_cases hb:jH b=true
 case neg=>simp_all
 have a1:0<=a/\a<=4294967295:=by simpa[jH] using ha
 have b1:0<=b/\b<=4294967295:=by simpa[jH] using hb
 simp_all
 rw[aJ (by omega) (by omega),I9]
 cases hc:jH (a+b)<;>simp
theorem BS(w:Nat)(b:Bool):oO w b=some (if b=true then 0 else-1):=by cases b<;>rfl
def sL(n:Nat):Nat:=(n+65518)/65519
theorem Rj(w n:Nat)(h:n<2^60):yc w (n:Int)=some (sL n:Int):=by
 unfold yc sL
 simp only[aO,mS,gS,bO]
 by_cases h1:(n:Int)<1
 ·rw[show n=0 by omega];rfl
 rw[if_neg h1,aJ (n:=(n:Int) -1) (by omega) (by omega),show(n:Int) -1=((n -1:Nat):Int) by omega]
 have e:(((n -1:Nat):Int)).tdiv 65519=(((n -1)/65519:Nat):Int):=rfl
 rw[e]
 have:(n+65518)/65519=(n -1)/65519+1:=by omega
 rw[this,aJ (n:=(((n -1)/65519:Nat):Int)) (by omega) (by omega),aJ (by omega) (by omega)]
 rfl
end
section
set_option linter.unusedVariables false
set_option linter.unusedSimpArgs false
set_option linter.unusedSectionVars false
set_option linter.constructorNameAsVariable false
theorem O5{ty ar:Int}{l:List UInt8}{o:Int}(h:cX ty ar l=true)(ho:o=1\/o=2):
 (eD (kindOf ty).2.1 o=true\/((kindOf ty).2.1 =8/\eD 1 o=true))/\l.length/(kindOf ty).2.1.toNat*(kindOf ty).2.1.toNat=l.length:=by
 refine⟨?_,?_⟩
 ·rcases(Nb ty ((rk h).1)) with h|h|h|h<;>rcases ho with rfl|rfl<;>rw[h]<;>simp[eD,yq]
 ·obtain⟨s,q,e1,e2,e3⟩:=NF h
  grind
theorem aca{w:Nat}{ty ar:Int}{l:List UInt8}(hm:cX ty ar l=true)(hl:l.length<2^29)(hw:l.length+10<=w){o:Int}(ho:o=1\/o=2):
 CQ w ty ar (ag l) o=some (l.length,l.length,(gm l (kindOf ty).2.1.toNat o).map aQ):=by
 obtain⟨h1,h2⟩:=O5 hm ho
 unfold CQ
 rw[uo w ty ar l (by omega),hm,uj]
 simp
 rw[Q9 l hl hw _ _ h1,h2]
 rfl
theorem ab9{w:Nat}{ty ar:Int}{l:List UInt8}(hm:cX ty ar l=true)(hl:l.length<2^29)(hw:l.length+10<=w){o:Int}(ho:o=1\/o=2):
 CR w ty ar (ag l) o=some (ag (gm l (kindOf ty).2.1.toNat o)):=by
 obtain⟨h1,h2⟩:=O5 hm ho
 unfold CR
 rw[uo w ty ar l (by omega),hm,uj]
 simp
 rw[Q9 l hl hw _ _ h1,h2,lk,r9]
 rfl
theorem qH(l:List UInt8)(n:Nat)(h:n=l.length):ae n (l.map aQ)=ag l:=by rw[lk,h]
theorem Q4{w:Nat}(hw:100<=w)(t:aD)(hm:cX t.ty t.ar t.data=true)(hl:t.data.length<2^29)(hw2:t.data.length+10<=w){o:Int}(ho:o=1\/o=2)(ht:km t.tag=true):
 CP w t.tag t.ty t.ar (ag t.data) o=some (if bu t.ty t.ar=0 then(t.tag,t.ty,t.ar,(mr o t:Int),true) else(0,0,0,0,false)):=by
 unfold CP
 rw[aca hm hl hw2 ho,oM (by omega)]
 have m2:eD 2 o=true:=by rcases ho with rfl|rfl<;>rfl
 have htr:0<=t.tag/\t.tag<65536:=by unfold km at ht;simpa using ht
 have hp:mD t.tag (2:Int).toNat o=some (aN t.tag.toNat 2 o):=by
  unfold mD
  rw[if_pos ⟨htr.1,by show t.tag<((256^2:Nat):Int);omega⟩]
  rfl
 rw[if_pos m2,hp]
 have hout:=tG hm
 obtain⟨k1,k2,k3,k4⟩:=rk hm
 have hk:=vW t.ty
 have hpos:t.data.length≠0:=by
  intro q
  have:1*1<=t.ar*(kindOf t.ty).1 :=Int.mul_le_mul k2 (by omega) (by decide) (by omega)
  omega
 simp only[ay,Bool.not_true,cond_false,bT,aO,bG]
 have e1:¬((t.data.length:Int)=0):=by omega
 simp only[e1,decide_false,cond_false]
 by_cases h4:t.data.length<=4
 ·have e2:¬((4:Int)<(t.data.length:Int)):=by omega
  simp only[e2,decide_false,cond_false]
  rw[if_pos h4] at hout
  rw[if_pos hout,gS,aJ (by omega) (by omega),ju (by omega)]
  have e3:((4:Int) -(t.data.length:Int)).toNat=4 -t.data.length:=by omega
  have hv:(gm t.data (kindOf t.ty).2.1.toNat o).length=t.data.length:=r9 _ _ _
  have hget:∀b:List UInt8,b=gm t.data (kindOf t.ty).2.1.toNat o++List.replicate (4 -t.data.length) 0->gW w (ag b) 0 4 o=some ((mr o t:Int),true):=by
   intro b hb
   have hbl:b.length=4:=by rw[hb,List.length_append,hv,List.length_replicate];omega
   rw[xy (by omega) b (by omega) 0 4 o (by omega)]
   have:=sY (l:=b) (p:=0) (s:=4) (order:=o) (.inr (.inr rfl)) ho (by omega)
   rw[show((0:Nat):Int)=0 from rfl,show((4:Nat):Int)=4 from rfl] at this
   rw[this]
   unfold mr ja
   rw[hb]
  rw[e3]
  have r1:(4 -t.data.length).ble 1000000000=true:=by rw[Nat.ble_eq];omega
  simp only[r1,pT,List.length_map,List.length_replicate,Nat.mul_one,Nat.zero_add,hv,cond_true,vl,eV,List.drop_zero,Nat.le_refl,decide_true,Bool.and_self,show Nat.beq 5 5=true from rfl]
  by_cases h5:t.data.length=4
  ·have e4:t.data.length+(4 -t.data.length)<=t.data.length:=by omega
   simp only[e4,decide_true,cond_true]
   have:4 -t.data.length=0:=by omega
   rw[this]
   simp only[List.replicate_zero,List.map_nil,aM]
   rw[qH _ _ (by rw[hv];omega),hget _ (by rw[this];simp)]
   rfl
  ·have e4:¬(4<=t.data.length):=by omega
   have e5:t.data.length+(4 -t.data.length)=4:=by omega
   have hn:=nextslicecap_le (need:=4) (old:=t.data.length) (by omega)
   have r3:aF (4 -t.data.length)=true:=by simp;omega
   have r4:aF t.data.length=true:=by simp;omega
   have r5:Builtin.nextslicecap 4 t.data.length<=5000000000:=by omega
   simp only[e4,decide_false,cond_false,e5,r3,r4,r5,decide_true,Bool.and_self,cond_true]
   have h6:List.take t.data.length ((gm t.data (kindOf t.ty).2.1.toNat o).map aQ)++(List.replicate (4 -t.data.length) (0:UInt8)).map aQ=(gm t.data (kindOf t.ty).2.1.toNat o++List.replicate (4 -t.data.length) 0).map aQ:=by
    rw[List.take_of_length_le (by rw[List.length_map,hv];exact Nat.le_refl _),List.map_append]
   rw[h6]
   rw[qH _ _ (by rw[Nat.div_one,List.length_map]),hget _ rfl]
   rfl
 ·have e2:((4:Int)<(t.data.length:Int)):=by omega
  simp only[e2,decide_true,cond_true]
  rw[if_neg h4] at hout
  rw[if_neg (by omega)]
end
section
set_option linter.unusedVariables false
set_option linter.unusedSimpArgs false
set_option linter.unusedSectionVars false
set_option linter.constructorNameAsVariable false
theorem kI{α γ σ:Type}{z:α}{F:α->α}{r:γ}{w:Nat}(ev:Nat->σ->α->γ)(Inv:Nat->σ->Prop)(m:Nat)(s0:σ)(h0:Inv 0 s0)(hs:∀i g s,i<m->Inv i s->∃s',Inv (i+1) s'/\ev i s (F g)=ev (i+1) s' g)(he:∀g s,Inv m s->ev m s (F g)=r)(h:m<w):ev 0 s0 (lp z F w)=r:=by
 have:∀(d i v:Nat)(s:σ),i+d=m->d<v->Inv i s->ev i s (lp z F v)=r:=by
  intro d
  induction d with
  |zero=>
   intro i v s hi hv hI
   rw[dt z F (by omega)]
   simp_all
  |succ d ih=>
   intro i v s hi hv hI
   obtain⟨s',h1,h2⟩:=hs i (lp z F (v -1)) s (by omega) hI
   rw[dt z F (by omega)]
   grind
 grind
def cy(l:List aK):Value:=ax cx l
theorem vu(d:aK)(r:List Value):cx d++r=dT d::dS d::dB d::r:=by rw[mU];rfl
def iR:List aK->Nat
 |[]=>0
 |d::ds=>max (eB d) (iR ds)
theorem zn:∀{ds:List aK}{d:aK},d∈ds->eB d<=iR ds
 |[],d,h=>by grind
 |a::ds,d,h=>by
  rcases List.mem_cons.1 h with rfl|h
  ·exact Nat.le_max_left _ _
  ·exact Nat.le_trans (zn h) (Nat.le_max_right _ _)
def kU(m:Nat)(ds:List aK):Prop:=∀d∈ds,fP m d
theorem Ru(l:List bc)(c:List Value)(h:c=l.flatMap bH):ae (c.length/5) c=ax bH l:=by
 subst h
 unfold ax
 rw[rW,Nat.mul_div_cancel _ (by simp)]
theorem QT{w m:Nat}(hm:m<2^28)(hw:2*m+100<=w)(o:Int)(ds:List aK)(ta:rP w o (cy ds)=some true)(ir:iR ds<=w)(hl:ds.length<=m)(he:cV 8 ds<2^49)(hc:(eK ⟨o,ds⟩).length*5<=1000000000)(hn:gj ds<2^50)(hd:kU m ds):
 ui w o (cy ds)=some (if cV 8 ds<=4294967295 then(ax bH (eK ⟨o,ds⟩),true) else(ae 0 [],false)):=by
 unfold ui
 rw[ta]
 simp
 unfold cy
 refine kI (σ:=Nat×Nat×List bc) (ev:=λi s (g:Value->Int->Int->Int->Int->List Value->Option (Value×Bool))=>g (ax cx ds) ds.length i (s.1 :Nat) (s.2.1 :Nat) (s.2.2.flatMap bH))
  (Inv:=λi s=>cV s.1 (ds.drop i)=cV 8 ds/\s.2.1 +gj (ds.drop i)=gj ds/\s.2.2 ++gX s.2.1 s.1 (ds.drop i)=eK ⟨o,ds⟩) ds.length (8,0,[⟨1,-1,0,0,8⟩]) ?_ ?_ ?_ (by omega)
 ·exact⟨rfl,by simp,rfl⟩
 ·rintro i g ⟨e,no,sp⟩ hi ⟨h1,h2,h3⟩
  simp only at h1 h2 h3
  rw[List.drop_eq_getElem_cons hi] at h1 h2 h3
  rw[cV] at h1
  rw[gj] at h2
  rw[gX] at h3
  refine⟨(bg e ds[i],no+cJ ds[i],sp++eG no e ds[i]),⟨h1,by simp only;omega,by simp only;rw[<-h3,List.append_assoc]⟩,?_⟩
  have e1:((i:Int)<(ds.length:Int)):=by omega
  simp only[aO,e1,cond_true,bF]
  rw[bn jf hi]
  simp only[vu,aX]
  have hmem:=List.getElem_mem hi
  have g1:=mV (ds.drop (i+1)) (bg e ds[i])
  have g2:(sp++eG no e ds[i]).length<=(eK ⟨o,ds⟩).length:=by
   rw[<-h3];simp only[List.length_append];omega
  rw[List.length_append] at g2
  have h4:=zn hmem
  rw[abM hm hw ds[i] no e _ (by omega) (by omega) (by omega) (by rw[rW];omega) (hd _ hmem)]
  simp only[ay]
  rw[aJ (by omega) (by omega),List.flatMap_append]
  rfl
 ·rintro g ⟨e,no,sp⟩ ⟨h1,h2,h3⟩
  simp[List.drop_length,cV,gX,List.append_nil] at h1 h3
  have e1:¬((ds.length:Int)<(ds.length:Int)):=by omega
  rw[Ru _ _ rfl,h3]
  by_cases q:cV 8 ds<=4294967295
  ·have:¬((4294967295:Int)<((cV 8 ds:Nat):Int)):=by omega
   simp_all
  ·have:((4294967295:Int)<((cV 8 ds:Nat):Int)):=by omega
   simp_all
def mY(l:List bc)(e:Nat):Nat:=match l.getLast? with
 |some x=>x.at_+x.bU
 |none=>e
theorem vX(a b:List bc)(e:Nat):mY (a++b) e=mY b (mY a e):=by
 unfold mY
 grind
theorem FK(x:bc)(b:List bc)(e:Nat):mY (x::b) e=mY b (x.at_+x.bU):=vX [x] b e
theorem FJ(no:Nat):∀(l:List aD)(e:Nat),mY (cw no e l) e=bJ e l
 |[],_=>rfl
 |t::l,e=>by
  unfold cw bJ
  split
  ·exact FJ no l e
  ·rw[FK]
   exact FJ no l _
mutual
theorem Nf:∀(d:aK)(no e:Nat),mY (eG no e d) e=bg e d
 | .mk tags subs blob,no,e=>by
  unfold eG bg
  rw[FK,vX,vX,FJ,Ng]
  split<;>rfl
theorem Ng:∀(r:bW)(no e:Nat),mY (iN no e r) e=cW e r
 | .nil,no,e=>rfl
 | .cons _ d r,no,e=>by
  unfold iN cW
  rw[vX,Nf,Ng]
end
theorem Nd:∀(ds:List aK)(no e:Nat),mY (gX no e ds) e=cV e ds
 |[],no,e=>rfl
 |d::ds,no,e=>by
  unfold gX cV
  rw[vX,Nf,Nd]
theorem Vm(o:Int)(ds:List aK):∃x l,eK ⟨o,ds⟩=l++[x]/\x.at_+x.bU=cV 8 ds:=by
 have e:mY (eK ⟨o,ds⟩) 0=cV 8 ds:=by
  unfold eK
  rw[FK]
  exact(Nd ds 0 8)
 have cc:eK ⟨o,ds⟩≠[]:=by unfold eK;simp
 exact⟨(eK ⟨o,ds⟩).getLast cc,(eK ⟨o,ds⟩).dropLast,(List.dropLast_concat_getLast cc).symm,(e)⟩
theorem abf{w m:Nat}(hm:m<2^28)(hw:2*m+100<=w)(o:Int)(ds:List aK)(ta:rP w o (cy ds)=some true)(ir:iR ds<=w)(hl:ds.length<=m)(he:cV 8 ds<=4294967295)(hc:(eK ⟨o,ds⟩).length*5<=1000000000)(hn:gj ds<2^50)(hd:kU m ds):
 oP w o (cy ds)=some (cV 8 ds:Int):=by
 unfold oP
 rw[QT hm hw o ds ta ir hl (by omega) hc hn hd,if_pos he]
 obtain⟨x,l,h1,h2⟩:=Vm o ds
 have hlen:(eK ⟨o,ds⟩).length=l.length+1:=by rw[h1];simp
 simp
 rw[aJ (by omega) (by omega),ju (by omega),show(((eK ⟨o,ds⟩).length:Int) -1).toNat=l.length by omega,bn yi (show l.length<(eK ⟨o,ds⟩).length by omega)]
 have tg:∀(x:bc)(r:List Value),bH x++r=.int .i64 x.kQ::.int .i64 x.dir::.int .i64 x.tag::.int .i64 x.at_::.int .i64 x.bU::r:=λ_ _=>rfl
 simp_all
 rw[aJ (by omega) (by omega),<-h2]
 rfl
theorem abE{w:Nat}(hw:20<=w):nR w (bP cA)=some true:=by
 obtain⟨v,rfl⟩:=Nat.exists_eq_add_of_le' hw
 rfl
theorem QV{w:Nat}(hw:20<=w):nR w (bP eL)=some true:=by
 obtain⟨v,rfl⟩:=Nat.exists_eq_add_of_le' hw
 rfl
theorem abD{w:Nat}(hw:20<=w):nR w (bP kX)=some true:=by
 obtain⟨v,rfl⟩:=Nat.exists_eq_add_of_le' hw
 rfl
end
section
set_option linter.unusedVariables false
set_option linter.unusedSimpArgs false
set_option linter.unusedSectionVars false
set_option linter.constructorNameAsVariable false
noncomputable def zf(w:Nat)(sv:Value)(a o:Int)(dv:Value)(cs:List Value):Option Int:=
 rH w dv cs sv o
def eX(n:Int):List Value:=[.int .i64 n]
theorem vQ(n:Int):(eX n).length=1:=rfl
def lA(l:List Int):List Value:=l.map (Value.int .i64)
theorem UY{l:List Int}{i:Nat}(h:i<l.length):(lA l).drop i=Value.int .i64 l[i]::lA (l.drop (i+1)):=by
 unfold lA
 rw[<-List.map_drop,List.drop_eq_getElem_cons h,List.map_cons]
theorem Ta{w m:Nat}(hm:m<2^28)(hw:2*m+100<=w)(sh:List aP)(hsh:gp sh)(hl:∀s,s<sh.length->(aH sh s).bt.length<=m)(a o:Int)(ds:List aK)(l:List Int)(hlen:l.length=ds.length)(gI:ds.length<=m)(hd:kU m ds)(ir:iR ds<=w)
 (hh:∀j (h:j<ds.length),0<=l[j]/\l[j]<sh.length/\bX sh l[j].toNat ds[j]=true) {n:Nat} (hn:0<n) (h138:oP w o (cy ds)=some (n:Int)):zf w (bP sh) a o (cy ds) (lA l)=some 0:=by
 unfold zf rH cy
 have hcl:(lA l).length=ds.length:=by unfold lA;rw[List.length_map,hlen]
 simp only[bV,Nat.div_one,hcl,aO,bG]
 have e0:¬((ds.length:Int)<(ds.length:Int)):=by omega
 simp only[e0,decide_false,cond_false]
 refine gz (ev:=λi (g:Value->Value->Int->Int->Int->Value->List Value->Option Int)=>g (bP sh) (ax cx ds) ds.length i o (ax cx ds) (lA l)) ds.length ?_ ?_ (by omega)
 ·intro i g hi
  have e1:((i:Int)<(ds.length:Int)):=by omega
  simp only[e1,decide_true,cond_true,bF]
  rw[bn jf hi]
  simp only[vu,aX,hcl,Nat.mul_one,Nat.zero_add,jQ,hi,decide_true,show Nat.beq 1 1=true from rfl,Bool.and_self,cond_true]
  rw[UY (by omega)]
  obtain⟨h1,h2,h3⟩:=hh i hi
  have hs:(l[i].toNat:Int)=l[i]:=Int.toNat_of_nonneg h1
  have hmem:=List.getElem_mem hi
  have h4:=zn hmem
  simp only[aX,bN]
  have:=abN (w:=w) (m:=m) (by omega) hw sh hsh hl ds[i] l[i].toNat (by omega) (hd _ hmem) (by omega)
  rw[hs,h3] at this
  rw[this]
  simp only[ay,Bool.not_true,cond_false,bO]
  rw[aJ (by omega) (by omega)]
  rfl
 ·intro g
  simp only[e0,decide_false,cond_false]
  unfold cy at h138
  rw[h138]
  have:¬((n:Int)=0):=by omega
  simp_all
theorem abA{w m:Nat}(hm:m<2^28)(hw:2*m+100<=w)(sh:List aP)(hsh:gp sh)(pE:nR w (bP sh)=some true)(hs0:0<sh.length)(hl:∀s,s<sh.length->(aH sh s).bt.length<=m){o:Int}(ho:o=1\/o=2)(ds:List aK)(cc:ds≠[])(gI:ds.length<=m)(hd:kU m ds)(ir:iR ds<=w)
 (hh:eP sh 0 ds=true) {n:Nat} (hn:0<n) (h138:oP w o (cy ds)=some (n:Int)):qe w o (cy ds) (bP sh)=some 0:=by
 have hpos:0<ds.length:=List.length_pos_iff.2 cc
 unfold qe H4 rH
 rw[pE]
 simp only[ay,Bool.not_true,cond_false,bT]
 have e0:¬((Int.ofNat ds.length:Int)=0):=by simp only[bG];omega
 rcases ho with rfl|rfl
 case' inl=>simp only[decide_true,Bool.not_true,cond_false]
 case' inr=>simp only[show decide ((2:Int)=1)=false from rfl,show decide ((2:Int)=2)=true from rfl,Bool.not_false,Bool.not_true,cond_true,cond_false]
 all_goals
  unfold cy
  rw[bV]
  simp only[e0,decide_false,cond_false]
  refine kI (σ:=Int×List Int) (ev:=λi s (g:Value->Int->Int->Value->List Value->Option Int)=>g (bP sh) s.1 _ (ax cx ds) (lA s.2))
   (Inv:=λi s=>s.2.length=i/\s.1 <sh.length/\eP sh s.1 (ds.drop i)=true/\∀j (h:j<i) (h2:j<s.2.length) (h3:j<ds.length),0<=s.2[j]/\s.2[j]<sh.length/\bX sh s.2[j].toNat ds[j]=true) ds.length (0,[]) ?_ ?_ ?_ (by omega)
  ·exact⟨rfl,by omega,hh,λj h=>by omega⟩
  ·rintro i g ⟨a,l⟩ hi ⟨h1,h2,h3,h4⟩
   simp only at h1 h2 h3 h4
   rw[List.drop_eq_getElem_cons hi] at h3
   simp only[eP,Bool.and_eq_true,decide_eq_true_eq] at h3
   obtain⟨h5,h6,h7⟩:=h3
   have hs:(a.toNat:Int)=a:=Int.toNat_of_nonneg h5
   have hat:a.toNat<sh.length:=by omega
   have hnx:=hsh.next a.toNat hat
   refine⟨((aH sh a.toNat).next,l++[a]),⟨by simp[h1],by simp only;omega,h7,?_⟩,?_⟩
   ·intro j hj hj2 hj3
    simp only at hj2⊢
    by_cases q:j<i
    ·rw[List.getElem_append_left (by omega)]
     exact h4 j q (by omega) hj3
    ·have:j=i:=by omega
     subst this
     have e:(l++[a])[j]'hj2=a:=by rw[List.getElem_append_right (by omega)];simp
     rw[e]
     exact⟨h5,by omega,h6⟩
   ·have hcl:(lA l).length=i:=by unfold lA;rw[List.length_map,h1]
    have e1:¬(a<0):=by omega
    have e2:((i:Int)<(ds.length:Int)):=by omega
    have r1:aF i=true:=by simp;omega
    simp only[aO,e1,decide_false,Bool.not_false,cond_true,bV,Nat.div_one,hcl,bG,e2,decide_true,r1,List.length_cons,List.length_nil,Nat.zero_add,Nat.mul_one,show aF 1=true from rfl,Nat.beq_refl,Bool.and_self,ju h5]
    have hS:sh[a.toNat]=aH sh a.toNat:=by unfold aH;rw[List.getElem?_eq_getElem hat];rfl
    have tg:∀(S:aP)(r:List Value),(gM S++r).drop 3=.int .i64 S.next::r:=λ_ _=>rfl
    unfold bP
    rw[bn uG hat,hS]
    simp only[tg,aX,bN]
    unfold lA
    rw[List.map_append]
    rfl
  ·rintro g ⟨a,l⟩ ⟨h1,h2,h3,h4⟩
   simp only at h1 h2 h3 h4
   have hcl:(lA l).length=ds.length:=by unfold lA;rw[List.length_map,h1]
   have hr:=λo=>Ta hm hw sh hsh hl a o ds l h1 gI hd ir (λj h=>h4 j h (by omega) h) hn
   by_cases q:a<0
   ·simp only[aO,q,decide_true,Bool.not_true,cond_false]
    have:=hr _ h138
    unfold zf rH cy at this
    simpa only[aO,bT] using this
   ·have e2:¬((ds.length:Int)<(ds.length:Int)):=by omega
    simp only[aO,q,decide_false,Bool.not_false,cond_true]
    have:=hr _ h138
    unfold zf rH cy at this
    simp only[bV,Nat.div_one,hcl,bG,aO,bT,e2,decide_false,cond_false] at this⊢
    exact this
end
section
set_option linter.unusedVariables false
set_option linter.unusedSimpArgs false
set_option linter.unusedSectionVars false
set_option linter.constructorNameAsVariable false
theorem GZ(pre v old post:List UInt8)(h:old.length=v.length)(p:Nat)(hp:p=pre.length):aM p (v.map aQ) ((pre++(old++post)).map aQ)=(pre++(v++post)).map aQ:=by
 have:=AU (v.map aQ) (old.map aQ) (pre.map aQ) (post.map aQ) (by grind)
 grind
theorem I5{w:Nat}(hw:8<=w)(pre old post:List UInt8)(n s:Nat)(hs:s=2\/s=4)(hn:n<256^s){o:Int}(ho:o=1\/o=2)(X Y:Value)(no:Int)(hold:old.length=s)(L:Nat)(hL:L=(pre++(old++post)).length)(hlt:L<2^60)(p:Int)(hp:p=(pre.length:Int))(k:Int)(hk:k=(s:Int))(q:Int)(hq:q=(n:Int)):
 oQ w p q k L L o X Y no ((pre++(old++post)).map aQ)=some (L,L,o,X,Y,no,(pre++(aN n s o++post)).map aQ):=by
 subst hp hk hq
 unfold oQ
 rw[oM hw]
 have hpf:mD (n:Int) (s:Int).toNat o=some (aN n s o):=by
  unfold mD
  rw[if_pos ⟨by omega,by rw[Int.toNat_natCast];exact_mod_cast hn⟩]
  simp
 rw[if_pos (by rcases hs with rfl|rfl<;>rcases ho with rfl|rfl<;>rfl),hpf]
 have hlen:L=pre.length+(s+post.length):=by simp_all
 have cc:¬(L=pre.length):=by omega
 have e1:pre.length<=L:=by omega
 have ev:(aN n s o).length=s:=db _ _ _
 simp only[ay,bF,eV,e1,Nat.le_refl,cond_true,fV,fZ,List.length_map,ev,Nat.mul_one,vl,cc,decide_false,cond_false,Nat.zero_add]
 rw[show s.min (L -pre.length)=s from(show min s (L -pre.length)=s from by omega)]
 have e3:pre.length+s<=(pre++(old++post)).length:=by omega
 simp only[e3]
 rw[List.take_of_length_le (by rw[List.length_map,ev];exact Nat.le_refl _),GZ _ _ _ _ (by rw[hold,ev]) _ rfl]
 rfl
def jM(kQ dir tag:Int)(x:bc):Bool:=x.kQ==kQ&&(x.dir==dir&&x.tag==tag)
theorem acb{w:Nat}(l:List bc)(a b c:Int)(hl:l.length<2^40)(hw:l.length<w):Js w (ax bH l) a b c=some (cC (jM a b c) l):=by
 refine jV l (jM a b c) (ev:=λi (g:Value->List Value->List Value->List Value->Int->Int->Option Int)=>g (ax bH l) [.int .i64 a] [.int .i64 b] [.int .i64 c] l.length i) ?_ ?_ hw
 ·intro i g h
  simp_all
  rw[bn yi h]
  have tg:∀(x:bc)(r:List Value),bH x++r=.int .i64 x.kQ::.int .i64 x.dir::.int .i64 x.tag::.int .i64 x.at_::.int .i64 x.bU::r:=λ_ _=>rfl
  unfold Jt jM
  simp_all
  rw[aJ (by omega) (by omega)]
  by_cases q1:l[i].kQ=a
  ·by_cases q2:l[i].dir=b
   ·by_cases q3:l[i].tag=c
    ·simp_all
    ·simp_all
   ·simp_all
  ·simp[q1]
 ·intro g
  simp
theorem Jk{w:Nat}{A B:List bc}{x:bc}(hl:(A++x::B).length<2^40)(hw:(A++x::B).length<w)(a b c:Int)(hA:∀y∈A,jM a b c y=false)(hx:jM a b c x=true)(L c2:Nat)(o:Int)(Y:Value)(no:Int)(cs:List Value):
 qg w a b c L c2 o (ax bH (A++x::B)) Y no cs=some ((x.at_:Int),L,c2,o,ax bH (A++x::B),Y,no,cs):=by
 have hi:cC (jM a b c) (A++x::B)=(A.length:Int):=by
  unfold cC
  grind
 unfold qg
 rw[acb _ a b c hl hw,hi]
 simp
 rw[bn yi (show A.length<(A++x::B).length by simp)]
 have tg:∀(x:bc)(r:List Value),(bH x++r).drop 3=.int .i64 x.at_::.int .i64 x.bU::r:=λ_ _=>rfl
 simp_all
theorem Es(pre v old post:List UInt8)(hold:old.length=v.length){L:Nat}(hL:L=(pre++(old++post)).length){β:Type}(K:List Value->Option β):
 (bif Nat.ble L L&&pre.length.ble L then dC 1 (ag v) λn (c:List Value)=>bif c.length.beq (n*1)&&((bif Nat.beq L pre.length then 0 else 0+pre.length*1)+n.min (L -pre.length)*1).ble ((pre++(old++post)).map aQ,5).fst.length then
  K (aM (bif Nat.beq L pre.length then 0 else 0+pre.length*1) (List.take (n.min (L -pre.length)*1) c) ((pre++(old++post)).map aQ,5).fst) else none else none)=K ((pre++(v++post)).map aQ):=by
 have hlen:L=pre.length+(v.length+post.length):=by simp_all
 have e1:pre.length<=L:=by omega
 simp only[eV,e1,Nat.le_refl,decide_true,fV,fZ,List.length_map,Nat.mul_one,Nat.beq_refl,Bool.true_and,Nat.zero_add]
 rw[(show v.length.min (L -pre.length)=v.length from by show min _ _=_;omega)]
 by_cases h0:L=pre.length
 ·have hv:v=[]:=List.eq_nil_of_length_eq_zero (by omega)
  subst hv
  have ho:=List.eq_nil_of_length_eq_zero hold
  subst ho
  simp[h0,aM]
 ·have e3:pre.length+v.length<=(pre++(old++post)).length:=by rw[<-hL];omega
  simp only[vl,h0,decide_false,cond_false,e3,decide_true,cond_true]
  rw[List.take_of_length_le (by rw[List.length_map];exact Nat.le_refl _),GZ _ _ _ _ hold _ rfl]
theorem abR{w:Nat}(hw:100<=w)(t:aD)(hm:cX t.ty t.ar t.data=true)(hl:t.data.length<2^29)(hw2:t.data.length+10<=w){o:Int}(ho:o=1\/o=2)(ht:km t.tag=true)(h0:bu t.ty t.ar=0)(dir:Int)(L c2:Nat)(X Y:Value)(no:Int)(cs:List Value):
 uu w t.tag t.ty t.ar (ag t.data) dir L c2 o X Y no cs=some (t.tag,t.ty,t.ar,(mr o t:Int),L,c2,o,X,Y,no,cs):=by
 unfold uu
 rw[Q4 hw t hm hl hw2 ho ht,if_pos h0]
 rfl
theorem abS{w:Nat}(hw:100<=w)(t:aD)(hm:cX t.ty t.ar t.data=true)(hl:t.data.length<2^29)(hw2:t.data.length+10<=w){o:Int}(ho:o=1\/o=2)(ht:km t.tag=true)(h0:bu t.ty t.ar≠0)(dir:Int){A B:List bc}{x:bc}(hsl:(A++x::B).length<2^40)(hsw:(A++x::B).length<w)
 (hA:∀y∈A,jM 3 dir t.tag y=false) (hx:jM 3 dir t.tag x=true) (pre old post:List UInt8) (hold:old.length=t.data.length) (hat:x.at_=pre.length) {L:Nat} (hL:L=(pre++(old++post)).length) (Y:Value) (no:Int):
 uu w t.tag t.ty t.ar (ag t.data) dir L L o (ax bH (A++x::B)) Y no ((pre++(old++post)).map aQ)=some (t.tag,t.ty,t.ar,(pre.length:Int),L,L,o,ax bH (A++x::B),Y,no,(pre++(ja o t++post)).map aQ):=by
 unfold uu
 rw[Q4 hw t hm hl hw2 ho ht,if_neg h0,Jk hsl hsw 3 dir t.tag hA hx]
 simp only[ay,hat]
 rw[ab9 hm hl hw2 ho]
 simp only[Nat.beq_refl]
 exact Es pre (ja o t) old post (by rw[uR];exact hold) hL λcs=>some (t.tag,t.ty,t.ar,(pre.length:Int),L,L,o,ax bH (A++x::B),Y,no,cs)
theorem Jd(w:Nat)(e:aY)(c:List Value)(hc:c.length<=1000000000):xL w [.int .i64 e.tag,.int .i64 e.ty,.int .i64 e.ar,.int .i64 e.slot] c=some (c++[.int .i64 e.tag,.int .i64 e.ty,.int .i64 e.ar,.int .i64 e.slot]):=by
 unfold xL
 have:aF c.length=true:=by simp;omega
 simp only[this,show aF 1=true from rfl,List.length_cons,List.length_nil,List.drop_zero,List.take_succ_cons,List.take_zero]
 rfl
end
section
set_option linter.unusedVariables false
set_option linter.unusedSimpArgs false
set_option linter.unusedSectionVars false
set_option linter.constructorNameAsVariable false
open Go.Sort
def e4(x:aY):E4:=(x.tag,x.ty,x.ar,(x.slot:Int))
def nX(x:E4):aY:=⟨x.1,x.2.1,x.2.2.1,x.2.2.2.toNat⟩
theorem RX(x:aY):nX (e4 x)=x:=by
 obtain⟨a,b,c,d⟩:=x
 show aY.mk a b c ((d:Int)).toNat=_
 simp
def bB(x:aY):List Value:=[.int .i64 x.tag,.int .i64 x.ty,.int .i64 x.ar,.int .i64 x.slot]
theorem iT(x:aY):(bB x).length=4:=rfl
theorem Ly(l:List aY):l.flatMap bB=(l.map e4).flatMap dZ:=by
 induction l with
 |nil=>rfl
 |cons x l ih=>rw[List.flatMap_cons,ih];rfl
theorem Sa:∀l:List E4,sa (l.flatMap dZ)=some l
 |[]=>rfl
 |(a,b,c,d)::l=>by
  show sa (.int .i64 a::.int .i64 b::.int .i64 c::.int .i64 d::l.flatMap dZ)=_
  unfold sa
  rw[Sa l]
  rfl
theorem PK:∀{a b:List aY},dD a=true->dD b=true->(∀x,x∈a↔x∈b)->a=b
 |[],[],_,_,_=>rfl
 |[],y::b,_,_,h=>by have:=(h y).2 (by simp);cases this
 |x::a,[],_,_,h=>by have:=(h x).1 (by simp);cases this
 |x::a,y::b,ha,hb,h=>by
  have ha':dD a=true/\∀z∈a,x.tag<z.tag:=by
   have:=Ha ha
   omega
  have hb':=Ha hb
  have hxy:x=y:=by grind
  congr 1
  refine PK ha'.1 hb'.1 λz=>?_
  grind
where
 Ha:∀{x:aY}{a:List aY},dD (x::a)=true->dD a=true/\∀z∈a,x.tag<z.tag
  |x,[],_=>⟨rfl,λz h=>by cases h⟩
  |x,b::a,h=>by
   simp[dD] at h
   obtain⟨_,h2⟩:=Ha h.2
   grind
theorem PM:∀{l:List aY},l.Pairwise (λa b=>a.tag<b.tag)->dD l=true
 |[],_=>rfl
 |[x],_=>rfl
 |x::y::l,h=>by
  rw[List.pairwise_cons] at h
  simp[dD]
  exact⟨h.1 y (by simp),PM h.2⟩
theorem Eb:∀{l:List aY},kR l->(l.map aY.tag).Nodup
 |[],_=>by simp
 |x::l,h=>by
  rw[List.map_cons,List.nodup_cons]
  refine⟨λq=>?_,Eb h.2⟩
  obtain⟨y,hy,e⟩:=List.mem_map.1 q
  exact h.1 y hy e
theorem acO{l:List aY}(h:kR l):iA (l.map e4)=(eY l).map e4:=by
 obtain⟨h1,h2,h3⟩:=Rn (l.map e4)
 generalize iA (l.map e4)=p at h1 h2 h3
 have hk:(p.map nX).Perm l:=by
  have:=h2.map nX
  rw[List.map_map] at this
  rw[(show(nX∘e4)=id from by funext x;exact RX x),List.map_id] at this
  exact this
 have hp:(p.map nX).map e4=p:=by
  rw[List.map_map]
  conv=>rhs;rw[<-List.map_id p]
  apply List.map_congr_left
  intro x hx
  obtain⟨y,-,hy⟩:=List.mem_map.1 (h2.mem_iff.1 hx)
  simp
  rw[<-hy,RX]
 have hr:dD (p.map nX)=true:=by
  apply PM
  rw[List.pairwise_iff_getElem]
  intro i j hi hj hij
  have cc:(p.map nX)[i].tag≠(p.map nX)[j].tag:=by
   intro q
   have:=(List.nodup_iff_pairwise_ne.1 ((hk.map aY.tag).nodup_iff.2 (Eb h)))
   rw[List.pairwise_iff_getElem] at this
   have:=this i j (by simpa using hi) (by simpa using hj) hij
   apply this
   simp at q⊢
   exact q
  simp at hi hj
  have hs:=h3 i j (Nat.zero_le _) hij (by rw[<-h1];exact hj)
  rw[Ae] at hs
  simp_all
  have a1:(nX p[i]).tag=p[i].1 :=rfl
  have a2:(nX p[j]).tag=p[j].1 :=rfl
  omega
 rw[<-(PK hr (FB h) λx=>by rw[hk.mem_iff,tj]),hp]
theorem abY(w:Nat){l:List aY}(h:kR l)(cc:l≠[])(hl:l.length<=1000000000):qh w (l.flatMap bB)=some ((eY l).flatMap bB):=by
 unfold qh
 rw[Ly,Sa]
 simp only[ay,(show(l.map e4).isEmpty=false from by simp_all),(show aF (l.map e4).length=true from by simp;omega),Bool.not_true,Bool.or_self,cond_false]
 rw[acO h,<-Ly]
noncomputable def zl(w:Nat)(mine:Int)(L c:Nat)(o:Int)(X Y:Value)(no:Int)(bs es:List Value):Option (Int×Nat×Nat×Int×Value×Value×Int×List Value):=
 ob (qh w es) λa=>ob (qg w 2 mine 0 L c o X Y no bs) λb=>xh w b a
def aT(n:Nat):List UInt8:=List.replicate n 0
theorem gC(n:Nat):(aT n).length=n:=List.length_replicate
theorem mK(a b:Nat):aT (a+b)=aT a++aT b:=by
 unfold aT
 simp
theorem TV{l:List aY}{i:Nat}(h:i<l.length)(o:Int):(l.take (i+1)).flatMap (gu o)=(l.take i).flatMap (gu o)++gu o l[i]:=by
 rw[List.take_succ_eq_append_getElem h,List.flatMap_append]
 simp
theorem Tv{w:Nat}(hw:100<=w){E:List aY}(hE:kR E)(cc:E≠[])(hEo:∀x∈E,Go.Proofs.YtcfjfbeadhnknaaGreatDoor.jN x)(hEn:E.length<=65535)(hEw:E.length<w){A B:List bc}{x:bc}(hsl:(A++x::B).length<2^40)(hsw:(A++x::B).length<w)(mine:Int)
 (hA:∀y∈A,jM 2 mine 0 y=false) (hx:jM 2 mine 0 x=true) (pre post:List UInt8) (hat:x.at_=pre.length) {L:Nat} (hL:L=(pre++(aT (6+12*E.length)++post)).length) (hlt:L<2^40) {o:Int} (ho:o=1\/o=2) (Y:Value) (no:Int):
 zl w mine L L o (ax bH (A++x::B)) Y no ((pre++(aT (6+12*E.length)++post)).map aQ) (E.flatMap bB)=some ((pre.length:Int),L,L,o,ax bH (A++x::B),Y,no,(pre++(iS o (eY E) 0++post)).map aQ):=by
 unfold zl xh
 rw[abY w hE cc (by omega)]
 simp only[ay]
 rw[Jk hsl hsw 2 mine 0 hA hx]
 simp only[ay,hat]
 have hn:(eY E).length=E.length:=vT E
 have hsE:∀y∈eY E,Go.Proofs.YtcfjfbeadhnknaaGreatDoor.jN y:=λy hy=>hEo y (tj.1 hy)
 generalize eY E=F at hn hsE⊢
 have hfl:(F.flatMap bB).length/4=F.length:=by
  rw[cK iT];omega
 rw[hfl]
 rw[<-hn] at hL hEn hEw⊢
 have hz:aT (6+12*F.length)=aT 2++aT (12*F.length+4):=by rw[<-mK];congr 1;omega
 rw[hz,List.append_assoc]
 have hlenL:L=pre.length+(6+12*F.length+post.length):=by rw[hL];simp[gC]
 rw[I5 (by omega) pre (aT 2) (aT (12*F.length+4)++post) F.length 2 (.inl rfl) (by omega) ho _ Y no (gC 2) L (by rw[hL,hz,List.append_assoc]) (by omega) (pre.length:Int) rfl (2:Int) rfl (Int.ofNat F.length) rfl]
 simp only[ay]
 have hlast:aN 0 4 o=aT 4:=by rcases ho with rfl|rfl<;>rfl
 refine kI (σ:=List UInt8) (ev:=λi s (g:Int->Int->Int->Nat->Nat->Int->Value->Value->Int->List Value->List Value->Option (Int×Nat×Nat×Int×Value×Value×Int×List Value))=>g pre.length (F.length:Int) i L L o (ax bH (A++x::B)) Y no (F.flatMap bB) (s.map aQ))
  (Inv:=λi s=>s=pre++(aN F.length 2 o++((F.take i).flatMap (gu o)++(aT (12*(F.length -i)+4)++post)))) F.length _ ?_ ?_ ?_ (by omega)
 ·simp
 ·rintro i g s hi rfl
  refine⟨pre++(aN F.length 2 o++((F.take (i+1)).flatMap (gu o)++(aT (12*(F.length -(i+1))+4)++post))),rfl,?_⟩
  have e1:((i:Int)<(F.length:Int)):=by omega
  have e2:i*4<(F.flatMap bB).length:=by omega
  simp only[aO,e1,decide_true,cond_true,bF,show Nat.beq 4 4=true from rfl,Bool.true_and,jQ,e2]
  rw[show 0+i*4=i*4 from Nat.zero_add _,mm iT,List.drop_eq_getElem_cons hi,List.flatMap_cons]
  have tg:∀(x:aY)(r:List Value),bB x++r=.int .i64 x.tag::.int .i64 x.ty::.int .i64 x.ar::.int .i64 x.slot::r:=λ_ _=>rfl
  simp only[tg,aX,bN]
  have hok:=hsE _ (List.getElem_mem hi)
  have b1:=hok.tag
  have b2:=hok.ty
  have b3:=hok.ar
  have b4:=hok.slot
  rw[abZ (by omega) _ _ _ _ o ho,if_pos ⟨⟨b1.1,b1.2⟩,⟨b2.1,b2.2⟩,⟨b3.1,b3.2⟩,by omega,by omega⟩]
  simp only[ay,bO,lu]
  rw[aJ (n:=12*(i:Int)) (by omega) (by omega),aJ (n:=(pre.length:Int)+2) (by omega) (by omega),aJ (n:=(pre.length:Int)+2+12*(i:Int)) (by omega) (by omega),aJ (n:=(i:Int)+1) (by omega) (by omega),ju (by omega)]
  have ek:((pre.length:Int)+2+12*(i:Int)).toNat=(pre++(aN F.length 2 o++(F.take i).flatMap (gu o))).length:=by
   rw[List.length_append,List.length_append,db,sR,List.length_take];omega
  rw[ek]
  have eb:aN F[i].tag.toNat 2 o++(aN F[i].ty.toNat 2 o++(aN F[i].ar.toNat 4 o++aN ((F[i].slot:Int)).toNat 4 o))=gu o F[i]:=by
   unfold gu;simp
  rw[eb]
  have ez:aT (12*(F.length -i)+4)=aT 12++aT (12*(F.length -(i+1))+4):=by rw[<-mK];congr 1;omega
  have ebs:pre++(aN F.length 2 o++((F.take i).flatMap (gu o)++(aT (12*(F.length -i)+4)++post)))=(pre++(aN F.length 2 o++(F.take i).flatMap (gu o)))++(aT 12++(aT (12*(F.length -(i+1))+4)++post)):=by
   rw[ez];simp
  rw[ebs]
  have:=Es (pre++(aN F.length 2 o++(F.take i).flatMap (gu o))) (gu o F[i]) (aT 12) (aT (12*(F.length -(i+1))+4)++post) (by rw[gC,EG]) (L:=L) (by
   rw[hlenL];simp only[List.length_append,gC,db,sR,List.length_take];omega)
   (λcs=>g (pre.length:Int) (F.length:Int) ((i:Int)+1) L L o (ax bH (A++x::B)) Y no (F.flatMap bB) cs)
  refine this.trans ?_
  rw[TV hi]
  simp only[List.append_assoc]
  rfl
 ·rintro g s rfl
  have e1:¬((F.length:Int)<(F.length:Int)):=by omega
  simp only[aO,e1,decide_false,cond_false]
  rw[List.take_length,Nat.sub_self,Nat.mul_zero,Nat.zero_add]
  unfold iS
  rw[hlast]
  simp only[List.append_assoc]
end
section
set_option linter.unusedVariables false
set_option linter.unusedSimpArgs false
set_option linter.unusedSectionVars false
set_option linter.constructorNameAsVariable false
theorem GC(e:Nat):cN e=aT (aA e -e):=by
 unfold cN aA
 by_cases h:e%2=0
 ·rw[if_pos h,show e+e%2 -e=0 by omega];rfl
 ·rw[if_neg h,show e+e%2 -e=1 by omega];rfl
theorem yh{no:Nat}{y:bc}:∀{l:List aD}{e:Nat},y∈cw no e l->y.kQ=3/\y.dir=(no:Int)/\∃t∈l,y.tag=t.tag
 |[],_,h=>by cases h
 |t::l,e,h=>by
  unfold cw at h
  split at h
  ·obtain⟨a,b,t',c,d⟩:=yh h
   grind
  ·rcases List.mem_cons.1 h with rfl|h
   ·simp
   ·obtain⟨a,b,t',c,d⟩:=yh h
    grind
theorem Ti(d:aK):1<=cJ d:=by cases d;unfold cJ;omega
mutual
theorem JU{y:bc}:∀{d:aK}{no e:Nat},y∈eG no e d->(no:Int)<=y.dir/\y.dir<(no:Int)+cJ d
 | .mk tags subs blob,no,e,h=>by
  unfold cJ
  rcases List.mem_cons.1 h with rfl|h
  ·exact⟨Int.le_refl _,by simp only;omega⟩
  ·rcases List.mem_append.1 h with h|h
   ·have:=(yh h).2.1;omega
   ·rcases List.mem_append.1 h with h|h
    ·have:=JV h;omega
    grind
theorem JV{y:bc}:∀{r:bW}{no e:Nat},y∈iN no e r->(no:Int)<=y.dir/\y.dir<(no:Int)+fS r
 | .nil,no,e,h=>by unfold iN at h;cases h
 | .cons t d r,no,e,h=>by
  unfold fS
  rcases List.mem_append.1 h with h|h
  ·have:=JU h;omega
  ·have:=JV h;omega
end
def jR(o:Int)(sh:List aP)(S:aP)(e:Nat):List (Int×aK)->List UInt8
 |[]=>[]
 |p::l=>gF o sh ((ji S p.1).getD 0) 0 e p.2 ++jR o sh S (bg e p.2) l
theorem KV(o:Int)(sh:List aP)(S:aP):∀(s:bW)(e:Nat),ig o sh S e s=jR o sh S e (aI s)
 | .nil,e=>by simp[ig,aI,jR]
 | .cons t d r,e=>by simp[ig,aI,jR,KV o sh S r]
def ll(e:Nat):List (Int×aK)->List aY
 |[]=>[]
 |p::l=>⟨p.1,4,1,aA e⟩::ll (bg e p.2) l
theorem LD:∀(s:bW)(e:Nat),fT e s=ll e (aI s)
 | .nil,e=>by simp[fT,aI,ll]
 | .cons t d r,e=>by simp[fT,aI,ll,LD r]
theorem Fm{sh:List aP}{S:aP}:∀{s:bW},gx sh S s=true->∀p∈aI s,dV S p.1 =true/\bX sh ((ji S p.1).getD 0) p.2 =true
 | .nil,_,p,h=>by cases h
 | .cons t d r,h,p,hp=>by
  simp[gx] at h
  rcases List.mem_cons.1 hp with rfl|hp
  ·grind
  ·exact Fm h.2.2 p hp
theorem abU{w:Nat}(l:List fO)(n:Int)(a b c:Value)(hl:l.length<2^40)(hw:l.length<w):Jg w (eZ l) n a b c=some (cC (λx=>x.tag==n) l):=by
 refine jV l (λx=>x.tag==n) (ev:=λi (g:Value->List Value->Int->Int->Option Int)=>g (ax jC l) [.int .i64 n,a,b,c] l.length i) ?_ ?_ hw
 ·intro i g h
  simp_all
  rw[bn pH h]
  unfold jC Jj
  rw[aJ (by omega) (by omega)]
  simp
 simp
theorem abQ(w:Nat)(x y:aY)(c:List Value)(hc:c.length<=1000000000):xM w [.int .i64 x.tag,.int .i64 x.ty,.int .i64 x.ar,.int .i64 x.slot,.int .i64 y.tag,.int .i64 y.ty,.int .i64 y.ar,.int .i64 y.slot] c=some (c++(bB x++bB y)):=by
 unfold xM
 simp_all
 rfl
theorem rC{l:List aD}(h:ed l=true){i j:Nat}(hij:i<j)(hj:j<l.length):l[i].tag<l[j].tag:=by
 induction l generalizing i j with
 |nil=>grind
 |cons a l ih=>
  obtain⟨h1,h2⟩:=AZ h
  cases j with
  |zero=>omega
  |succ j=>
   cases i with
   |zero=>grind
   |succ i=>grind
structure u5(w m:Nat)(sh:List aP)(o:Int)(L:Nat)(Sp:List bc):Prop where
 hm:m<2^28
 hw:2*m+1000<=w
 ok:gp sh
 bt:∀s,s<sh.length->(aH sh s).bt.length<=m
 ho:o=1\/o=2
 hL:L<4294967296
 vN:Sp.length<2^40
 qW:Sp.length<w
 vO:70000<=w
def uV(sh:List aP)(o:Int)(L:Nat)(Sp:List bc)(rec:Value->Value->Value->Int->Nat->Nat->Int->Value->Value->Int->List Value->Option (Int×Nat×Nat×Int×Value×Value×Int×List Value))(d:aK)(s:Nat):Prop:=
 ∀(no e:Nat)(A B:List bc)(pre post:List UInt8),(∀y∈A,y.dir<(no:Int))->pre.length=e->Sp=A++(eG no e d++B)->L=(pre++(aT (bg e d -e)++post)).length->no+cJ d<2^40->
  rec (dT d) (dS d) (dB d) (s:Int) L L o (ax bH Sp) (bP sh) (no:Int) ((pre++(aT (bg e d -e)++post)).map aQ)=
   some ((aA e:Int),L,L,o,ax bH Sp,bP sh,((no+cJ d:Nat):Int),(pre++(gF o sh s 0 e d++post)).map aQ)
theorem Lw(e:Nat)(t:aD)(ts:List aD):bJ e (t::ts)=if bu t.ty t.ar=0 then bJ e ts else bJ (aA e+bu t.ty t.ar) ts:=rfl
theorem adw(o:Int)(e:Nat)(t:aD)(ts:List aD):eS o e (t::ts)=if bu t.ty t.ar=0 then eS o e ts else cN e++(ja o t++eS o (aA e+bu t.ty t.ar) ts):=rfl
theorem TU(o:Int)(e:Nat)(t:aD)(ts:List aD):da o e (t::ts)=if bu t.ty t.ar=0 then⟨t.tag,t.ty,t.ar,mr o t⟩::da o e ts else⟨t.tag,t.ty,t.ar,aA e⟩::da o (aA e+bu t.ty t.ar) ts:=rfl
theorem acX(no e:Nat)(t:aD)(ts:List aD):cw no e (t::ts)=if bu t.ty t.ar=0 then cw no e ts else⟨3,no,t.tag,aA e,bu t.ty t.ar⟩::cw no (aA e+bu t.ty t.ar) ts:=rfl
theorem MO(x:aY):∀l:List aY,(iw x l).Perm (x::l)
 |[]=>List.Perm.refl _
 |y::l=>by
  unfold iw
  split
  ·simp
  ·exact((MO x l).cons y).trans (List.Perm.swap x y l)
theorem MZ:∀l:List aY,(eY l).Perm l
 |[]=>List.Perm.refl _
 |x::l=>by
  exact(MO x _).trans ((MZ l).cons x)
theorem NR:∀{l:List aY},(l.map aY.tag).Nodup->kR l
 |[],_=>trivial
 |x::l,h=>by
  rw[List.map_cons,List.nodup_cons] at h
  refine⟨λy hy e=>h.1 ?_,NR h.2⟩
  simp_all
theorem SB{l:List aY}(h:dD (eY l)=true):kR l:=
 NR (((MZ l).map aY.tag).nodup_iff.1 (Eb (ve h)))
theorem ac1{w m:Nat}{sh:List aP}{o:Int}{L:Nat}{Sp:List bc}(H:u5 w m sh o L Sp)(rec:Value->Value->Value->Int->Nat->Nat->Int->Value->Value->Int->List Value->Option (Int×Nat×Nat×Int×Value×Value×Int×List Value))(d:aK)(s:Nat)(hs:s<sh.length)(hd:fP m d)(hh:bX sh s d=true)
 (hrec:∀p∈aI (match d with| .mk _ subs _=>subs),∀k:Nat,k<sh.length->bX sh k p.2 =true->uV sh o L Sp rec p.2 k):uV sh o L Sp (Dh w rec) d s:=by
 obtain⟨hm,hw,hsh,hl,ho,hLt,vN,qW,vO⟩:=H
 obtain⟨tags,subs,blob⟩:=d
 intro no e A B pre post hA hp hSp hL pF
 have hd:tags.length<=m/\bI subs<=m/\blob.length<=m/\(∀t∈tags,t.data.length<=m)/\fQ m subs:=hd
 replace hrec:∀p∈aI subs,∀k:Nat,k<sh.length->bX sh k p.2 =true->uV sh o L Sp rec p.2 k:=hrec
 have hlenB:=o7 o sh (.mk tags subs blob) s 0 e hh
 have hh0:=hh
 simp only[bX,Bool.and_eq_true,Bool.or_eq_true,decide_eq_true_eq] at hh
 obtain⟨⟨n1,n2⟩,ht,hbl,hr,hss⟩:=hh
 have htg:∀t∈tags,km t.tag=true/\cX t.ty t.ar t.data=true:=λt h=>by
  simp only[iB,Bool.and_eq_true,List.all_eq_true] at ht
  exact⟨(ht.2 t h).1,(ht.2 t h).2.2⟩
 have htr:ed tags=true:=by
  simp only[iB,Bool.and_eq_true] at ht
  exact ht.1
 obtain⟨N,hN⟩:∃N,bh (.mk tags subs blob)=N:=⟨_,rfl⟩
 rw[hN] at n1 n2
 have hNt:tags.length+bI subs<=N:=by
  rw[<-hN]
  show _<=tags.length+bI subs+_
  omega
 obtain⟨e1,he1⟩:∃e1,aA e+(6+12*N)=e1:=⟨_,rfl⟩
 obtain⟨e2,he2⟩:∃e2,bJ e1 tags=e2:=⟨_,rfl⟩
 obtain⟨e3,he3⟩:∃e3,cW e2 subs=e3:=⟨_,rfl⟩
 obtain⟨S,hS⟩:∃S,aH sh s=S:=⟨_,rfl⟩
 have hSo:=hsh.ok s
 have hSlk:=hsh.bt s hs
 have hln:=hl s hs
 rw[hS] at hSo ht hbl hss hSlk hln
 have hSg:sh[s]=S:=by rw[<-hS];unfold aH;rw[List.getElem?_eq_getElem hs];rfl
 have g1:=kB e
 have g2:=ny tags e1
 have g3:=pw subs e2
 have g4:=kB e3
 rw[he2] at g2
 rw[he3] at g3
 obtain⟨D,hD⟩:∃D,bg e (.mk tags subs blob)=D:=⟨_,rfl⟩
 have hend:D=if blob.length=0 then e3 else aA e3+blob.length:=by rw[<-hD,bg,hN,he1,he2,he3]
 rw[hD] at hL hlenB⊢
 have hDe:e3<=D:=by rw[hend];split<;>omega
 have hlenL:L=D+post.length:=by
  rw[hL,List.length_append,List.length_append,gC]
  omega
 obtain⟨E,hE⟩:∃E,da o e1 tags++(fT e2 subs++fA S e3 blob)=E:=⟨_,rfl⟩
 have c1:=(K4 (order:=o) (e1:=e1) (e2:=e2) (e3:=e3) hSo ht hbl hr hss rfl).1
 rw[hE] at c1
 have hEap:kR E:=SB c1
 have hEn:E.length=N:=by
  rw[<-hE,List.length_append,List.length_append,py,vC,zw,<-hN]
  show _=tags.length+bI subs+(if blob.length=0 then 0 else 2)
  omega
 have hEne:E≠[]:=by
  intro q
  rw[q] at hEn
  simp at hEn
  omega
 have hEo:∀x∈E,Go.Proofs.YtcfjfbeadhnknaaGreatDoor.jN x:=by
  intro x hx
  rw[<-hE] at hx
  rcases List.mem_append.1 hx with hx|hx
  ·exact zx (S:=S) htg (by rw[he2];omega) x hx
  ·rcases List.mem_append.1 hx with hx|hx
   ·exact EI hSo (zM hss) (by rw[he3];omega) x hx
   ·unfold fA at hx
    split at hx
    ·cases hx
    ·rename_i hb0
     rw[if_neg hb0] at hend
     have hat:=hSo.pair (hbl.resolve_left hb0)
     simp only[List.mem_cons,List.not_mem_nil,or_false] at hx
     rcases hx with rfl|rfl
     ·exact⟨by simp only;omega,by simp only;omega,by simp only;omega,by simp only;omega⟩
     ·exact⟨by simp only;omega,by simp only;omega,by simp only;omega,by simp only;omega⟩
 obtain⟨bS,hbS⟩:∃bS:List bc,(if blob.length=0 then[] else[⟨4,no,0,aA e3,blob.length⟩])=bS:=⟨_,rfl⟩
 have hSp1:Sp=A++(⟨2,no,0,aA e,6+12*N⟩::(cw no e1 tags++(eH (no+1) e2 (aI subs)++(bS++B)))):=by
  rw[hSp,eG,hN,he1,he2,he3,hbS,Dg]
  simp only[List.cons_append,List.append_assoc]
 have hcN:cJ (.mk tags subs blob)=ew (aI subs)+1:=by rw[cJ,Er]
 rw[hcN] at pF⊢
 have hvl:=Du o tags e1 λt h=>(htg t h).2
 rw[he2] at hvl
 unfold Dh bP xh
 simp only[dT,dS,dB,bF]
 rw[bn uG hs,hSg]
 have tg:∀(S:aP)(r:List Value),gM S++r=eZ S.bt::.int .i64 S.at_::.int .i64 S.bU::.int .i64 S.next::r:=λ_ _=>rfl
 simp only[tg,aX,bN,bO]
 unfold au
 rw[bV,aJ (n:=(no:Int)+1) (by omega) (by omega)]
 have hz1:aT (D -e)=aT (e1 -e)++([]++aT (D -e1)):=by rw[List.nil_append,<-mK];congr 1;omega
 rw[hz1]
 simp only[List.append_assoc]
 refine kI (σ:=Nat×List UInt8×List aY×List bc) (ev:=λi s (g:Int->Value->Int->Int->Nat->Nat->Int->Value->Value->Int->Value->Value->Value->Value->Int->Int->Int->List Value->List Value->Option (Int×Nat×Nat×Int×Value×Value×Int×List Value))=>g no (ax bR tags) tags.length i L L o (ax bH Sp) (ax gM sh) ((no:Int)+1) (ax bR tags) (ae (bI subs) (fb subs)) (ag blob) (eZ S.bt) S.at_ S.bU S.next ((pre++(aT (e1 -e)++(s.2.1 ++(aT (D -s.1)++post)))).map aQ) (s.2.2.1.flatMap bB))
  (Inv:=λi s=>bJ s.1 (tags.drop i)=e2/\e1+s.2.1.length=s.1 /\s.2.1 ++eS o s.1 (tags.drop i)=eS o e1 tags/\s.2.2.1 ++da o s.1 (tags.drop i)=da o e1 tags/\s.2.2.2 ++cw no s.1 (tags.drop i)=cw no e1 tags/\∀y∈s.2.2.2,y.kQ=3/\y.dir=(no:Int)/\∃t∈tags.take i,y.tag=t.tag) tags.length (e1,[],[],[]) ?_ ?_ ?_ (by omega)
 ·exact⟨by simpa using he2,by simp,by simp,by simp,by simp,λy hy=>by cases hy⟩
 ·rintro i g ⟨ei,X,es,Q⟩ hi ⟨h1,h2,h3,h4,h5,h6⟩
  simp only at h1 h2 h3 h4 h5 h6
  have hmem:=List.getElem_mem hi
  obtain⟨ht1,ht2⟩:=htg _ hmem
  have gI:=hd.2.2.2.1 _ hmem
  have hel:(es.flatMap bB).length<=1000000000:=by
   rw[cK iT]
   have:es.length<=tags.length:=by
    have:=congrArg List.length h4
    rw[List.length_append,py,py] at this
    omega
   omega
  rw[List.drop_eq_getElem_cons hi] at h1 h3 h4 h5
  rw[Lw] at h1
  rw[adw] at h3
  rw[TU] at h4
  rw[acX] at h5
  have e0:((i:Int)<(tags.length:Int)):=by omega
  have tt:∀(t:aD)(r:List Value),bR t++r=.int .i64 t.tag::.int .i64 t.ty::.int .i64 t.ar::ag t.data::r:=λ_ _=>rfl
  by_cases h0:bu tags[i].ty tags[i].ar=0
  ·rw[if_pos h0] at h1 h3 h4 h5
   refine⟨(ei,X,es++[⟨tags[i].tag,tags[i].ty,tags[i].ar,mr o tags[i]⟩],Q),⟨h1,h2,h3,by rw[<-h4];simp,h5,λy hy=>?_⟩,?_⟩
   ·obtain⟨a,b,t,c,q⟩:=h6 y hy
    exact⟨a,b,t,by rw[List.take_succ_eq_append_getElem hi];exact List.mem_append.2 (.inl c),q⟩
   ·simp only[aO,e0,decide_true,cond_true,bF]
    rw[bn fE hi]
    simp only[tt,aX,bN]
    rw[abR (by omega) tags[i] ht2 (by omega) (by omega) ho ht1 h0]
    simp only[ay]
    rw[Jd w ⟨tags[i].tag,tags[i].ty,tags[i].ar,mr o tags[i]⟩ _ hel]
    simp only[ay]
    rw[aJ (by omega) (by omega),List.flatMap_append]
    simp only[List.flatMap_cons,List.flatMap_nil,List.append_nil]
    rfl
  ·rw[if_neg h0] at h1 h3 h4 h5
   have hout:=tG ht2
   have hoL:bu tags[i].ty tags[i].ar=tags[i].data.length:=by rw[hout] at h0⊢;split<;>simp_all
   have hge:=ny (tags.drop (i+1)) (aA ei+bu tags[i].ty tags[i].ar)
   rw[h1] at hge
   have hev:=kB ei
   have hpd:=nc ei
   have hvB:(ja o tags[i]).length=bu tags[i].ty tags[i].ar:=by rw[uR,hoL]
   refine⟨(aA ei+bu tags[i].ty tags[i].ar,X++(cN ei++ja o tags[i]),es++[⟨tags[i].tag,tags[i].ty,tags[i].ar,aA ei⟩],Q++[⟨3,no,tags[i].tag,aA ei,bu tags[i].ty tags[i].ar⟩]),⟨h1,?_,by rw[<-h3];simp,by rw[<-h4];simp,by rw[<-h5];simp,λy hy=>?_⟩,?_⟩
   ·simp only[List.length_append,hvB]
    omega
   ·rcases List.mem_append.1 hy with hy|hy
    ·obtain⟨a,b,t,c,q⟩:=h6 y hy
     exact⟨a,b,t,by rw[List.take_succ_eq_append_getElem hi];exact List.mem_append.2 (.inl c),q⟩
    ·rw[List.mem_singleton.1 hy]
     exact⟨rfl,rfl,tags[i],by rw[List.take_succ_eq_append_getElem hi];exact List.mem_append.2 (.inr (by simp)),rfl⟩
   ·simp only[aO,e0,decide_true,cond_true,bF]
    rw[bn fE hi]
    simp only[tt,aX,bN]
    have hSpi:Sp=(A++(⟨2,no,0,aA e,6+12*N⟩::Q))++⟨3,no,tags[i].tag,aA ei,bu tags[i].ty tags[i].ar⟩::(cw no (aA ei+bu tags[i].ty tags[i].ar) (tags.drop (i+1))++(eH (no+1) e2 (aI subs)++(bS++B))):=by
     rw[hSp1,<-h5];simp
    have hbuf:pre++(aT (e1 -e)++(X++(aT (D -ei)++post)))=(pre++(aT (e1 -e)++(X++cN ei)))++(aT (bu tags[i].ty tags[i].ar)++(aT (D -(aA ei+bu tags[i].ty tags[i].ar))++post)):=by
     have:aT (D -ei)=cN ei++(aT (bu tags[i].ty tags[i].ar)++aT (D -(aA ei+bu tags[i].ty tags[i].ar))):=by
      rw[GC,<-mK,<-mK];congr 1;omega
     rw[this];simp
    have hpl:(pre++(aT (e1 -e)++(X++cN ei))).length=aA ei:=by
     simp only[List.length_append,gC];omega
    have hq:=abS (w:=w) (by omega) tags[i] ht2 (by omega) (by omega) ho ht1 h0 (no:Int) (A:=A++(⟨2,no,0,aA e,6+12*N⟩::Q)) (B:=cw no (aA ei+bu tags[i].ty tags[i].ar) (tags.drop (i+1))++(eH (no+1) e2 (aI subs)++(bS++B))) (x:=⟨3,no,tags[i].tag,aA ei,bu tags[i].ty tags[i].ar⟩) (by rw[<-hSpi];exact vN) (by rw[<-hSpi];exact qW) (λy hy=>by
     unfold jM
     rcases List.mem_append.1 hy with hy|hy
     ·have:=hA y hy
      have:(y.dir==(no:Int))=false:=by simp;omega
      rw[this];simp
     ·rcases List.mem_cons.1 hy with rfl|hy
      ·rfl
      ·obtain⟨-,-,t,c,q⟩:=h6 y hy
       obtain⟨j,hj,rfl⟩:=List.getElem_of_mem c
       rw[List.length_take] at hj
       rw[List.getElem_take] at q
       have:=rC htr (show j<i by omega) hi
       have:(y.tag==tags[i].tag)=false:=by simp;omega
       rw[this];simp) (by simp[jM]) (pre++(aT (e1 -e)++(X++cN ei))) (aT (bu tags[i].ty tags[i].ar)) (aT (D -(aA ei+bu tags[i].ty tags[i].ar))++post) (by rw[gC,hoL]) hpl.symm (L:=L) (by rw[hlenL];simp only[List.length_append,gC];omega) (ax gM sh) ((no:Int)+1)
    rw[<-hSpi,<-hbuf] at hq
    rw[hq]
    simp only[ay]
    rw[hpl]
    rw[Jd w ⟨tags[i].tag,tags[i].ty,tags[i].ar,aA ei⟩ _ hel]
    simp only[ay]
    rw[aJ (by omega) (by omega),List.flatMap_append]
    simp only[List.flatMap_cons,List.flatMap_nil,List.append_nil,List.append_assoc]
    rfl
 ·rintro g ⟨ei,X,es,Q⟩ ⟨h1,h2,h3,h4,h5,h6⟩
  simp only[List.drop_length,bJ,eS,da,cw,List.append_nil] at h1 h2 h3 h4 h5 h6
  subst h1 h3 h4
  have e0:aj (tags.length:Int) (tags.length:Int)=false:=by simp
  simp only[e0,cond_false]
  rw[yn,bV]
  have hsl:=qn subs
  have sg:∀(p:Int×aK)(r:List Value),eJ p++r=.int .i64 p.1 ::dT p.2 ::dS p.2 ::dB p.2 ::r:=by
   intro p r
   unfold eJ
   rw[mU]
   rfl
  have hvlen:(eS o e1 tags).length=ei -e1:=by omega
  generalize hV:eS o e1 tags=V at*
  rw[show(no:Int)+1=((no+1:Nat):Int) by omega]
  refine kI (σ:=Nat×Nat×List UInt8×List aY×List bc) (ev:=λi s (g:Int->Value->Int->Int->Nat->Nat->Int->Value->Value->Int->Value->Value->Value->Value->Int->Int->Int->List Value->List Value->Option (Int×Nat×Nat×Int×Value×Value×Int×List Value))=>g no (ax eJ (aI subs)) (aI subs).length i L L o (ax bH Sp) (ax gM sh) (s.2.1 :Nat) (ax bR tags) (ax eJ (aI subs)) (ag blob) (eZ S.bt) S.at_ S.bU S.next ((pre++(aT (e1 -e)++(s.2.2.1 ++(aT (D -s.1)++post)))).map aQ) (s.2.2.2.1.flatMap bB))
   (Inv:=λi s=>fy s.1 ((aI subs).drop i)=e3/\s.2.1 +ew ((aI subs).drop i)=no+1+ew (aI subs)/\e1+s.2.2.1.length=s.1 /\s.2.2.1 ++jR o sh S s.1 ((aI subs).drop i)=V++jR o sh S ei (aI subs)/\s.2.2.2.1 ++ll s.1 ((aI subs).drop i)=da o e1 tags++ll ei (aI subs)/\s.2.2.2.2 ++eH s.2.1 s.1 ((aI subs).drop i)=eH (no+1) ei (aI subs)/\no+1<=s.2.1 /\s.2.2.2.1.length=tags.length+i/\∀y∈s.2.2.2.2,y.dir<(s.2.1 :Int)) (aI subs).length (ei,no+1,V,da o e1 tags,[]) ?_ ?_ ?_ ?_
  ·exact⟨by rw[List.drop_zero,<-ED];exact he3,by simp,by simp only;omega,by simp,by simp,by simp,Nat.le_refl _,by simp[py],λy hy=>by cases hy⟩
  ·rintro i g ⟨fi,ni,X,es,R⟩ hi ⟨k1,k2,k3,k4,k5,k6,k7,k8,k9⟩
   simp only at k1 k2 k3 k4 k5 k6 k7 k8 k9
   have hmem:=List.getElem_mem hi
   rw[List.drop_eq_getElem_cons hi] at k1 k2 k4 k5 k6
   rw[fy] at k1
   rw[ew] at k2
   rw[jR] at k4
   rw[ll] at k5
   rw[eH] at k6
   obtain⟨p1,p2⟩:=Fm hss _ hmem
   have hge:=zu ((aI subs).drop (i+1)) (bg fi (aI subs)[i].2)
   have hge2:=vw (aI subs)[i].2 fi
   have hbl2:=o7 o sh (aI subs)[i].2 ((ji S (aI subs)[i].1).getD 0) 0 fi p2
   rw[k1] at hge
   have e5:((i:Int)<((aI subs).length:Int)):=by omega
   rcases FO S (aI subs)[i].1 with⟨-,hb0⟩|⟨k,hk,ek,-,e2⟩
   ·rw[p1] at hb0;cases hb0
   have hlk:=hSlk _ (List.getElem_mem hk)
   have hsh2:((S.bt[k].shape.toNat:Nat):Int)=S.bt[k].shape:=Int.toNat_of_nonneg (by omega)
   rw[e2] at p2 k4 hbl2
   refine⟨(bg fi (aI subs)[i].2,ni+cJ (aI subs)[i].2,X++gF o sh S.bt[k].shape.toNat 0 fi (aI subs)[i].2,es++[⟨(aI subs)[i].1,4,1,aA fi⟩],R++eG ni fi (aI subs)[i].2),⟨k1,by simp only;omega,by simp only[List.length_append];omega,by rw[<-k4];simp,by rw[<-k5];simp,by rw[<-k6];simp,by simp only;omega,by simp only[List.length_append,List.length_singleton];omega,λy hy=>?_⟩,?_⟩
   ·rcases List.mem_append.1 hy with hy|hy
    ·have:=k9 y hy;simp only;omega
    ·have:=JU hy;simp only;omega
   ·simp only[aO,e5,decide_true,cond_true,bF]
    rw[bn ql hi]
    simp only[sg,aX,bN]
    rw[abU _ _ _ _ _ (by omega) (by omega),ek]
    simp only[ay,bF]
    unfold eZ
    rw[bn pH hk]
    have lg:∀(x:fO)(r:List Value),(jC x++r).drop 1=.int .i64 x.shape::r:=λ_ _=>rfl
    simp only[lg,aX,bN]
    have hSpi:Sp=(A++(⟨2,no,0,aA e,6+12*N⟩::(cw no e1 tags++R)))++(eG ni fi (aI subs)[i].2 ++(eH (ni+cJ (aI subs)[i].2) (bg fi (aI subs)[i].2) ((aI subs).drop (i+1))++(bS++B))):=by
     rw[hSp1,<-k6];simp
    have hzz:aT (D -fi)=aT (bg fi (aI subs)[i].2 -fi)++aT (D -bg fi (aI subs)[i].2):=by rw[<-mK];congr 1;omega
    have hbuf:pre++(aT (e1 -e)++(X++(aT (D -fi)++post)))=(pre++(aT (e1 -e)++X))++(aT (bg fi (aI subs)[i].2 -fi)++(aT (D -bg fi (aI subs)[i].2)++post)):=by
     rw[hzz];simp
    have hpl:(pre++(aT (e1 -e)++X)).length=fi:=by
     simp only[List.length_append,gC];omega
    have hr:=hrec _ hmem S.bt[k].shape.toNat (by omega) p2 ni fi (A++(⟨2,no,0,aA e,6+12*N⟩::(cw no e1 tags++R))) (eH (ni+cJ (aI subs)[i].2) (bg fi (aI subs)[i].2) ((aI subs).drop (i+1))++(bS++B)) (pre++(aT (e1 -e)++X)) (aT (D -bg fi (aI subs)[i].2)++post) (λy hy=>by
     rcases List.mem_append.1 hy with hy|hy
     ·have:=hA y hy;omega
     ·rcases List.mem_cons.1 hy with rfl|hy
      ·simp only;omega
      ·rcases List.mem_append.1 hy with hy|hy
       ·have:=(yh hy).2.1;omega
       ·exact k9 y hy) hpl hSpi (by rw[hlenL];simp only[List.length_append,gC];omega) (by omega)
    rw[hsh2] at hr
    unfold bP at hr
    rw[<-hbuf] at hr
    rw[hr]
    simp only[ay,bT,decide_true,cond_true]
    unfold qf
    simp only[ay]
    rw[Jd w ⟨(aI subs)[i].1,4,1,aA fi⟩ _ (by rw[cK iT];omega)]
    simp only[ay,bO]
    rw[aJ (by omega) (by omega)]
    simp only[List.flatMap_append,List.flatMap_cons,List.flatMap_nil,List.append_nil,List.append_assoc]
    rfl
  ·rintro g ⟨fi,ni,X,es,R⟩ ⟨k1,k2,k3,k4,k5,k6,k7,k8,k9⟩
   simp only[List.drop_length,fy,ew,jR,ll,eH,List.append_nil,Nat.add_zero] at k1 k2 k3 k4 k5 k6 k7 k8 k9
   subst k1 k2 k4 k5
   have e6:aj ((aI subs).length:Int) ((aI subs).length:Int)=false:=by simp
   simp only[e6,cond_false]
   rw[cg]
   have hE2:da o e1 tags++ll ei (aI subs)++fA S fi blob=E:=by rw[<-hE,LD];simp
   have hbD:gF o sh s 0 e (.mk tags subs blob)=cN e++(iS o (eY E) 0++(V++(jR o sh S ei (aI subs)++(if blob.length=0 then[] else cN fi++blob)))):=by
    rw[gF,hN,he1,he2,he3,hS,hE,KV,hV]
   have hpl:(pre++cN e).length=aA e:=by
    have:=nc e
    rw[List.length_append];omega
   have hz2:aT (e1 -e)=cN e++aT (6+12*E.length):=by
    rw[GC,<-mK];congr 1;omega
   have hfin:∀post':List UInt8,L=(pre++(aT (e1 -e)++post')).length->zl w no L L o (ax bH Sp) (ax gM sh) ((no+1+ew (aI subs):Nat):Int) ((pre++(aT (e1 -e)++post')).map aQ) (E.flatMap bB)=
    some ((aA e:Int),L,L,o,ax bH Sp,ax gM sh,((no+1+ew (aI subs):Nat):Int),(pre++(cN e++(iS o (eY E) 0++post'))).map aQ):=by
    intro post' hLp
    have hb:pre++(aT (e1 -e)++post')=(pre++cN e)++(aT (6+12*E.length)++post'):=by rw[hz2];simp
    have:=Tv (w:=w) (by omega) hEap hEne hEo (by omega) (by omega) (A:=A) (B:=cw no e1 tags++(eH (no+1) ei (aI subs)++(bS++B))) (x:=⟨2,no,0,aA e,6+12*N⟩) (by rw[<-hSp1];exact vN) (by rw[<-hSp1];exact qW) (no:Int) (λy hy=>by
     have:=hA y hy
     unfold jM
     have:(y.dir==(no:Int))=false:=by simp;omega
     rw[this];simp) (by simp[jM]) (pre++cN e) post' hpl.symm (L:=L) (by rw[<-hb];exact hLp) (by omega) ho (ax gM sh) ((no+1+ew (aI subs):Nat):Int)
    rw[<-hSp1,<-hb,hpl] at this
    rw[this]
    simp
   by_cases hb0:blob.length=0
   ·rw[if_pos hb0] at hend hbS
    have hB0:fA S fi blob=[]:=by unfold fA;rw[if_pos hb0]
    rw[hB0,List.append_nil] at hE2
    have e7:aj 0 (Int.ofNat blob.length)=false:=by rw[hb0];rfl
    simp only[e7,cond_false]
    rw[hE2,hbD,if_pos hb0]
    refine(hfin _ (by rw[hlenL];simp only[List.length_append,gC] at*;omega)).trans ?_
    rw[show D -fi=0 by omega]
    simp only[aT,List.replicate_zero,List.nil_append,List.append_nil,List.append_assoc]
    congr 9
    omega
   ·rw[if_neg hb0] at hend hbS
    have hB0:fA S fi blob=[⟨S.at_,4,1,aA fi⟩,⟨S.bU,4,1,blob.length⟩]:=by unfold fA;rw[if_neg hb0]
    have e7:aj 0 (Int.ofNat blob.length)=true:=by simp;omega
    have hpf:=nc fi
    simp only[e7,cond_true]
    have hSpi:Sp=(A++(⟨2,no,0,aA e,6+12*N⟩::(cw no e1 tags++eH (no+1) ei (aI subs))))++⟨4,no,0,aA fi,blob.length⟩::B:=by
     rw[hSp1,<-hbS];simp
    have hq:=Jk (w:=w) (A:=A++(⟨2,no,0,aA e,6+12*N⟩::(cw no e1 tags++eH (no+1) ei (aI subs)))) (B:=B) (x:=⟨4,no,0,aA fi,blob.length⟩) (by rw[<-hSpi];exact vN) (by rw[<-hSpi];exact qW) 4 (no:Int) 0 (λy hy=>by
     unfold jM
     rcases List.mem_append.1 hy with hy|hy
     ·have:=hA y hy
      have:(y.dir==(no:Int))=false:=by simp;omega
      rw[this];simp
     ·rcases List.mem_cons.1 hy with rfl|hy
      ·rfl
      ·rcases List.mem_append.1 hy with hy|hy
       ·rw[(yh hy).1];rfl
       ·rw[<-Dg] at hy
        have:=(JV hy).1
        have:(y.dir==(no:Int))=false:=by simp;omega
        rw[this];simp) (by simp[jM])
    rw[<-hSpi] at hq
    rw[hq]
    simp only[ay,bF]
    have hbuf:pre++(aT (e1 -e)++(V++jR o sh S ei (aI subs)++(aT (D -fi)++post)))=(pre++(aT (e1 -e)++(V++jR o sh S ei (aI subs)++cN fi)))++(aT blob.length++post):=by
     have:aT (D -fi)=cN fi++aT blob.length:=by rw[GC,<-mK];congr 1;omega
     rw[this];simp
    have hpl2:(pre++(aT (e1 -e)++(V++jR o sh S ei (aI subs)++cN fi))).length=aA fi:=by
     simp only[List.length_append,gC] at*;omega
    rw[hbuf]
    have hcp:=Es (pre++(aT (e1 -e)++(V++jR o sh S ei (aI subs)++cN fi))) blob (aT blob.length) post (gC _) (L:=L) (by rw[hlenL];simp only[List.length_append,gC] at*;omega) (λcs=>ob (qf w S.at_ (aA fi:Int)) λ(x144:Int×Int×Int×Int)=>ak (ag blob) λ(x145:Nat)=>ob (qf w S.bU (Int.ofNat x145)) λ(x146:Int×Int×Int×Int)=>
     ob (xM w [Value.int IntKind.i64 x144.fst,Value.int IntKind.i64 x144.snd.fst,Value.int IntKind.i64 x144.snd.snd.fst,Value.int IntKind.i64 x144.snd.snd.snd,Value.int IntKind.i64 x146.fst,Value.int IntKind.i64 x146.snd.fst,Value.int IntKind.i64 x146.snd.snd.fst,Value.int IntKind.i64 x146.snd.snd.snd] ((da o e1 tags++ll ei (aI subs)).flatMap bB)) λ(x147:List Value)=>zl w no L L o (ax bH Sp) (ax gM sh) ((no+1+ew (aI subs):Nat):Int) cs x147)
    rw[hpl2] at hcp
    refine Eq.trans hcp ?_
    unfold qf
    simp only[ay,cg]
    have hlen2:(da o e1 tags++ll ei (aI subs)).length<=70000:=by
     have:=congrArg List.length hE2
     rw[List.length_append] at this
     omega
    have h260:=abQ w ⟨S.at_,4,1,aA fi⟩ ⟨S.bU,4,1,blob.length⟩ ((da o e1 tags++ll ei (aI subs)).flatMap bB) (by rw[cK iT];omega)
    simp only[bG] at h260⊢
    rw[h260]
    simp only[ay]
    have hEc:(da o e1 tags++ll ei (aI subs)).flatMap bB++(bB ⟨S.at_,4,1,aA fi⟩++bB ⟨S.bU,4,1,blob.length⟩)=E.flatMap bB:=by
     rw[<-hE2,hB0]
     simp[List.flatMap_append]
    rw[hEc]
    have hbuf2:(pre++(aT (e1 -e)++(V++jR o sh S ei (aI subs)++cN fi)))++(blob++post)=pre++(aT (e1 -e)++(V++(jR o sh S ei (aI subs)++(cN fi++(blob++post))))):=by simp
    rw[hbuf2,hbD,if_neg hb0]
    refine(hfin _ (by rw[hlenL];simp only[List.length_append,gC] at*;omega)).trans ?_
    simp only[List.append_assoc]
    congr 9
    omega
  ·omega
end
section
set_option linter.unusedVariables false
set_option linter.unusedSimpArgs false
set_option linter.unusedSectionVars false
set_option linter.constructorNameAsVariable false
theorem Ln{w m:Nat}{sh:List aP}{o:Int}{L:Nat}{Sp:List bc}(H:u5 w m sh o L Sp)(z:Value->Value->Value->Int->Nat->Nat->Int->Value->Value->Int->List Value->Option (Int×Nat×Nat×Int×Value×Value×Int×List Value)):
 ∀(n:Nat)(d:aK)(s:Nat),eB d<=n->s<sh.length->fP m d->bX sh s d=true->uV sh o L Sp (mX z (Dh w) n) d s
 |0,d,s,h,_,_,_=>by
  obtain⟨tags,subs,blob⟩:=d
  unfold eB at h
  omega
 |n+1,d,s,h,hs,hd,hh=>by
  refine ac1 H _ d s hs hd hh ?_
  obtain⟨tags,subs,blob⟩:=d
  intro p hp k hk hpk
  have hp:p∈aI subs:=hp
  have:=zo p hp
  unfold eB at h
  exact Ln H z n p.2 k (by omega) hk (sC hd.2.2.2.2 p hp) hpk
theorem abB{w m:Nat}{sh:List aP}{o:Int}{L:Nat}{Sp:List bc}(H:u5 w m sh o L Sp)(d:aK)(s:Nat)(hs:s<sh.length)(hd:fP m d)(hh:bX sh s d=true)(ir:eB d<=w):uV sh o L Sp (Co w) d s:=Ln H _ w d s ir hs hd hh
theorem SP(o:Int)(sh:List aP)(s next e:Nat)(d:aK)(hh:bX sh s d=true):∃a b,gF o sh s next e d=a++(aN next 4 o++b)/\e+a.length=aA e+(2+12*bh d)/\∀n,gF o sh s n e d=a++(aN n 4 o++b):=by
 obtain⟨tags,subs,blob⟩:=d
 have hl:∀E,E=eY (da o (aA e+(6+12*bh (.mk tags subs blob))) tags++(fT (bJ (aA e+(6+12*bh (.mk tags subs blob))) tags) subs++fA (aH sh s) (cW (bJ (aA e+(6+12*bh (.mk tags subs blob))) tags) subs) blob))->E.length=bh (.mk tags subs blob):=by
  rintro E rfl
  rw[vT,List.length_append,List.length_append,py,vC,zw]
  show _=tags.length+bI subs+(if blob.length=0 then 0 else 2)
  omega
 obtain⟨E,hE⟩:∃E,eY (da o (aA e+(6+12*bh (.mk tags subs blob))) tags++(fT (bJ (aA e+(6+12*bh (.mk tags subs blob))) tags) subs++fA (aH sh s) (cW (bJ (aA e+(6+12*bh (.mk tags subs blob))) tags) subs) blob))=E:=⟨_,rfl⟩
 refine⟨cN e++(aN E.length 2 o++E.flatMap (gu o)),eS o (aA e+(6+12*bh (.mk tags subs blob))) tags++(ig o sh (aH sh s) (bJ (aA e+(6+12*bh (.mk tags subs blob))) tags) subs++(if blob.length=0 then[] else cN (cW (bJ (aA e+(6+12*bh (.mk tags subs blob))) tags) subs)++blob)),by rw[gF,hE];unfold iS;simp,?_,?_⟩
 ·have:=nc e
  simp only[List.length_append,db,sR,(hl E hE.symm)]
  omega
 ·intro n
  rw[gF,hE];unfold iS;simp
theorem Sr{o:Int}(ho:o=1\/o=2):aN 0 4 o=aT 4:=by rcases ho with rfl|rfl<;>rfl
theorem TI:∀{ds:List aK}{e:Nat},ds≠[]->aA e+6<=cV e ds
 |[],_,h=>by grind
 |d::ds,e,_=>by
  rw[cV]
  have:=GN (d:=d) (e:=e)
  have:=mV ds (bg e d)
  omega
noncomputable def Kb(w:Nat):Value->Int->Int->Value->Int->Int->Nat->Nat->Int->Value->Value->Int->List Value->Option (Value×Int):=
 lp (λ(x55:Value)(x56 x57:Int)(x58:Value)(x59 x60:Int)(x61 x62:Nat)(x63:Int)(x64 x65:Value)(x66:Int)(x67:List Value)=>none) (λ(x68:Value->Int->Int->Value->Int->Int->Nat->Nat->Int->Value->Value->Int->List Value->Option (Value×Int))(x69:Value)(x70 x71:Int)(x72:Value)(x73 x74:Int)(x75 x76:Nat)(x77:Int)(x78 x79:Value)(x80:Int)(x81:List Value)=>bif aj x74 x73 then aB x74 λ(x82:Nat)=>aE 3 x82 x72 λ(x83:List Value)=>af x83 λ(x84:Value)(x85:List Value)=>af x85 λ(x86:Value)(x87:List Value)=>af x87 λ(x88:Value)(x89:List Value)=>ob (Co w x84 x86 x88 x70 x75 x76 x77 x78 x79 x80 x81) λ(x90:Int×Nat×Nat×Int×Value×Value×Int×List Value)=>ob (oQ w x71 x90.fst 4 x90.snd.fst x90.snd.snd.fst x90.snd.snd.snd.fst x90.snd.snd.snd.snd.fst x90.snd.snd.snd.snd.snd.fst x90.snd.snd.snd.snd.snd.snd.fst x90.snd.snd.snd.snd.snd.snd.snd) λ(x91:Nat×Nat×Int×Value×Value×Int×List Value)=>ob (iM w x84 x86 x88) λ(x92:Int)=>aB x70 λ(x93:Nat)=>aE 4 x93 x69 λ(x94:List Value)=>af (List.drop 3 x94) λ(x95:Value)(x96:List Value)=>aw IntKind.i64 x95 λ(x97:Int)=>x68 x69 x97 (ah IntKind.i64 ((ah IntKind.i64 (Int.add x90.fst 2)).add (ah IntKind.i64 (Int.mul 12 x92)))) x72 x73 (ah IntKind.i64 (x74.add 1)) x91.fst x91.snd.fst x91.snd.snd.fst x91.snd.snd.snd.fst x91.snd.snd.snd.snd.fst x91.snd.snd.snd.snd.snd.fst x91.snd.snd.snd.snd.snd.snd else some (ae x75 (List.drop 0 x81),0)) w
theorem adD{w m:Nat}{sh:List aP}{o:Int}{L:Nat}{Sp:List bc}(H:u5 w m sh o L Sp)(ds:List aK)(gI:ds.length<=m)(hd:kU m ds)(ir:iR ds<=w)(hh:eP sh 0 ds=true)(hs0:0<sh.length)(hds:ds≠[])(hSp:Sp=eK ⟨o,ds⟩)(pF:gj ds<2^39)(hLe:L=cV 8 ds)(pre0:List UInt8)(hp0:pre0.length=4):
 Kb w (bP sh) 0 (pre0.length:Int) (cy ds) ds.length 0 L L o (ax bH Sp) (bP sh) 0 ((pre0++(aT 4++([]++aT (L -8)))).map aQ)=some (ag (pre0++(aN 8 4 o++je o sh 0 8 ds)),0):=by
 have H0:=H
 obtain⟨hm,hw,hsh,hl,ho,hLt,vN,qW,vO⟩:=H
 have h8:=mV ds 8
 unfold Kb cy
 have key:∀(e:Nat)(rest:List aK),(if rest.isEmpty then 0 else aA e)<4294967296\/True:=λ_ _=>.inr trivial
 refine kI (σ:=Nat×Nat×Int×List UInt8×List UInt8×List bc) (ev:=λi s (g:Value->Int->Int->Value->Int->Int->Nat->Nat->Int->Value->Value->Int->List Value->Option (Value×Int))=>g (bP sh) s.2.2.1 (s.2.2.2.1.length:Int) (ax cx ds) ds.length i L L o (ax bH Sp) (bP sh) (s.2.1 :Nat) ((s.2.2.2.1 ++(aT 4++(s.2.2.2.2.1 ++aT (L -s.1)))).map aQ))
  (Inv:=λi s=>cV s.1 (ds.drop i)=L/\s.2.1 +gj (ds.drop i)=gj ds/\eP sh s.2.2.1 (ds.drop i)=true/\s.2.2.1 <sh.length/\s.2.2.2.1.length+4+s.2.2.2.2.1.length=s.1 /\s.2.2.2.2.2 ++gX s.2.1 s.1 (ds.drop i)=Sp/\(∀y∈s.2.2.2.2.2,y.dir<(s.2.1 :Int))/\
   s.2.2.2.1 ++(aN (if(ds.drop i).isEmpty then 0 else aA s.1) 4 o++(s.2.2.2.2.1 ++je o sh s.2.2.1 s.1 (ds.drop i)))=pre0++(aN 8 4 o++je o sh 0 8 ds)) ds.length (8,0,0,pre0,[],[⟨1,-1,0,0,8⟩]) ?_ ?_ ?_ (by omega)
 ·refine⟨hLe.symm,by simp,hh,by simp only;omega,by simp only[hp0,List.length_nil],by rw[hSp];rfl,λy hy=>by rw[List.mem_singleton.1 hy];show(-1:Int)<((0:Nat):Int);decide,?_⟩
  rw[List.drop_zero]
  have:ds.isEmpty=false:=by cases ds with
   |nil=>exact absurd rfl hds
   |cons _ _=>rfl
  simp only[this,Bool.false_eq_true,if_false,List.nil_append]
  rfl
 ·rintro i g ⟨e,no,s,P,M,R⟩ hi ⟨h1,h2,h3,h4,h5,h6,h7,h9⟩
  simp only at h1 h2 h3 h4 h5 h6 h7 h9
  have hmem:=List.getElem_mem hi
  rw[List.drop_eq_getElem_cons hi] at h1 h2 h3 h6 h9
  rw[cV] at h1
  rw[gj] at h2
  rw[gX] at h6
  rw[je] at h9
  simp only[eP,Bool.and_eq_true,decide_eq_true_eq] at h3
  obtain⟨k1,k2,k3⟩:=h3
  have hs:(s.toNat:Int)=s:=Int.toNat_of_nonneg k1
  have hst:s.toNat<sh.length:=by omega
  have hnx:=hsh.next s.toNat hst
  have hge:=mV (ds.drop (i+1)) (bg e ds[i])
  have hge2:=vw ds[i] e
  have hpos:=GN (d:=ds[i]) (e:=e)
  have hev:=kB e
  have hbl:=o7 o sh ds[i] s.toNat 0 e k2
  obtain⟨a,b,q1,q2,q3⟩:=SP o sh s.toNat 0 e ds[i] k2
  have hcp:=Ti ds[i]
  have h10:=zn hmem
  have e1:((i:Int)<(ds.length:Int)):=by omega
  refine⟨(bg e ds[i],no+cJ ds[i],(aH sh s.toNat).next,P++(aN (aA e) 4 o++(M++a)),b,R++eG no e ds[i]),⟨h1,by simp only;omega,k3,by simp only;omega,?_,by rw[<-h6];simp,λy hy=>?_,?_⟩,?_⟩
  ·simp only[List.length_append,db]
   have:=congrArg List.length q1
   simp only[List.length_append,db] at this
   omega
  ·rcases List.mem_append.1 hy with hy|hy
   ·have:=h7 y hy;simp only;omega
   ·have:=JU hy;simp only;omega
  ·rw[<-h9]
   have:na e ds[i] (ds.drop (i+1))=if(ds.drop (i+1)).isEmpty then 0 else aA (bg e ds[i]):=rfl
   rw[q3,this]
   simp only[List.isEmpty_cons,Bool.false_eq_true,if_false,List.append_assoc]
  ·simp only[aO,e1,decide_true,cond_true,bF]
   rw[bn jf hi]
   simp only[vu,aX]
   have hzz:aT (L -e)=aT (bg e ds[i] -e)++aT (L -bg e ds[i]):=by rw[<-mK];congr 1;omega
   have hLl:L=((P++(aT 4++M))++(aT (bg e ds[i] -e)++aT (L -bg e ds[i]))).length:=by
    simp only[List.length_append,gC];omega
   have hW:=abB H0 ds[i] s.toNat hst (hd _ hmem) k2 (by omega) no e R (gX (no+cJ ds[i]) (bg e ds[i]) (ds.drop (i+1))) (P++(aT 4++M)) (aT (L -bg e ds[i])) h7 (by simp only[List.length_append,gC];omega) h6.symm hLl (by omega)
   have hb1:P++(aT 4++(M++aT (L -e)))=(P++(aT 4++M))++(aT (bg e ds[i] -e)++aT (L -bg e ds[i])):=by rw[hzz];simp
   rw[hs] at hW
   rw[hb1,hW]
   simp only[ay]
   have hb2:(P++(aT 4++M))++(gF o sh s.toNat 0 e ds[i]++aT (L -bg e ds[i]))=P++(aT 4++(M++(gF o sh s.toNat 0 e ds[i]++aT (L -bg e ds[i])))):=by simp
   rw[hb2,I5 (by omega) P (aT 4) (M++(gF o sh s.toNat 0 e ds[i]++aT (L -bg e ds[i]))) (aA e) 4 (.inr rfl) (by omega) ho _ _ _ (gC 4) L (by simp only[List.length_append,gC];omega) (by omega) (P.length:Int) rfl (4:Int) rfl ((aA e:Nat):Int) rfl]
   simp only[ay]
   have h203:iM w (dT ds[i]) (dS ds[i]) (dB ds[i])=some (bh ds[i]:Int):=by
    have hsm:=hd _ hmem
    generalize ds[i]=d at hsm⊢
    obtain⟨tags,subs,blob⟩:=d
    have hsm:tags.length<=m/\bI subs<=m/\blob.length<=m/\(∀t∈tags,t.data.length<=m)/\fQ m subs:=hsm
    exact Cp w tags subs blob (by omega)
   rw[h203]
   simp only[ay,bO,lu]
   rw[ju k1]
   have hS:sh[s.toNat]=aH sh s.toNat:=by unfold aH;rw[List.getElem?_eq_getElem hst];rfl
   have tg:∀(S:aP)(r:List Value),(gM S++r).drop 3=.int .i64 S.next::r:=λ_ _=>rfl
   have hsv:bP sh=ax gM sh:=rfl
   rw[hsv,bn uG hst,hS]
   simp only[tg,aX,bN]
   have hen:bh ds[i]<=65535:=by
    generalize ds[i]=d at k2
    obtain⟨tags,subs,blob⟩:=d
    simp only[bX,Bool.and_eq_true,decide_eq_true_eq] at k2
    exact k2.1.2
   rw[aJ (n:=12*(bh ds[i]:Int)) (by omega) (by omega),aJ (n:=((aA e:Nat):Int)+2) (by omega) (by omega),aJ (n:=((aA e:Nat):Int)+2+12*(bh ds[i]:Int)) (by omega) (by omega),aJ (n:=(i:Int)+1) (by omega) (by omega)]
   have ek:((aA e:Nat):Int)+2+12*(bh ds[i]:Int)=(((P++(aN (aA e) 4 o++(M++a))).length:Nat):Int):=by
    simp only[List.length_append,db];omega
   rw[ek,q1,Sr ho]
   simp only[List.append_assoc]
   rfl
 ·rintro g ⟨e,no,s,P,M,R⟩ ⟨h1,h2,h3,h4,h5,h6,h7,h9⟩
  simp only[List.drop_length,cV,je,List.append_nil,List.isEmpty_nil,if_true] at h1 h5 h9
  have e1:¬((ds.length:Int)<(ds.length:Int)):=by omega
  simp only[aO,e1,decide_false,cond_false,List.drop_zero]
  rw[<-h9,Sr ho,show L -e=0 by omega]
  simp only[aT,List.replicate_zero,List.append_nil]
  rw[qH _ _ (by simp only[List.length_append,List.length_replicate];omega)]
end
section
set_option linter.unusedVariables false
set_option linter.unusedSimpArgs false
set_option linter.unusedSectionVars false
set_option linter.constructorNameAsVariable false
structure lX(w m:Nat)(sh:List aP)(o:Int)(ds:List aK):Prop where
 hm:m<2^28
 hw:2*m+1000<=w
 vO:70000<=w
 ok:gp sh
 pE:nR w (bP sh)=some true
 s0:0<sh.length
 bt:∀s,s<sh.length->(aH sh s).bt.length<=m
 ho:o=1\/o=2
 cc:ds≠[]
 gI:ds.length<=m
 hd:kU m ds
 ir:iR ds<=w
 hh:eP sh 0 ds=true
 he:cV 8 ds<=1000000000
 qW:(eK ⟨o,ds⟩).length<w
 Fk:(eK ⟨o,ds⟩).length*5<=1000000000
 pF:gj ds<2^39
 ta:rP w o (cy ds)=some true
theorem lX.bU{w m:Nat}{sh:List aP}{o:Int}{ds:List aK}(T:lX w m sh o ds):oP w o (cy ds)=some (cV 8 ds:Int):=by
 have:=T.he
 have:=T.pF
 have:=T.hw
 exact abf T.hm (by omega) o ds T.ta T.ir T.gI (by omega) T.Fk (by omega) T.hd
theorem lX.laid{w m:Nat}{sh:List aP}{o:Int}{ds:List aK}(T:lX w m sh o ds):ui w o (cy ds)=some (ax bH (eK ⟨o,ds⟩),true):=by
 have:=T.he
 have:=T.pF
 have:=T.hw
 rw[QT T.hm (by omega) o ds T.ta T.ir T.gI (by omega) T.Fk (by omega) T.hd,if_pos (by omega)]
theorem lX.check{w m:Nat}{sh:List aP}{o:Int}{ds:List aK}(T:lX w m sh o ds):qe w o (cy ds) (bP sh)=some 0:=by
 have:=T.hw
 have:=mV ds 8
 exact abA T.hm (by omega) sh T.ok T.pE T.s0 T.bt T.ho ds T.cc T.gI T.hd T.ir T.hh (by omega) T.bU
theorem Pq(v:List UInt8)(n:Nat)(pre:List UInt8)(hv:v.length=2)(hp:pre.length=2){L:Nat}(hL:L=2+n):aM 0 (List.take (Nat.min 2 L*1) (v.map aQ)) ((pre++aT n).map aQ)=(v++aT n).map aQ:=by
 rw[List.take_of_length_le (by grind)]
 have:=GZ [] v pre (aT n) (by omega) 0 rfl
 grind
theorem QK{w m:Nat}{sh:List aP}{o:Int}{ds:List aK}(T:lX w m sh o ds):xB w o (cy ds) (bP sh)=some (ag (dc ⟨o,ds⟩ sh),0):=by
 have t1:=T.he
 have t2:=T.qW
 have t3:=T.Fk
 have t4:=T.vO
 have hpos:=TI (e:=8) T.cc
 have hev:aA 8=8:=rfl
 unfold xB Br HK
 rw[T.check,T.bU,T.laid]
 simp only[ay,show ai 0 0=true from rfl,Bool.not_true,cond_false,bF]
 obtain⟨L,hL⟩:∃L,cV 8 ds=L:=⟨_,rfl⟩
 rw[hL] at t1 hpos⊢
 have r1:L.ble L=true:=by rw[Nat.ble_eq];exact Nat.le_refl _
 have r2:L.ble 1000000000=true:=by rw[Nat.ble_eq];exact t1
 have e2:Nat.min 2 L=2:=by show min _ _=_;omega
 have hrep:rep L (Value.int IntKind.u8 0).cells.toList=(aT L).map aQ:=pT L
 have hz:aT L=aT 2++aT (L -2):=by rw[<-mK];congr 1;omega
 have r3:∀v:List UInt8,v.length=L->(0+Nat.min 2 L*1).ble (v.map aQ).length=true:=by
  intro v hv
  rw[e2,List.length_map,hv,Nat.ble_eq];omega
 simp only[r1,r2,Bool.and_self,cond_true,hrep,Nat.beq_refl,Bool.true_and]
 rw[r3 _ (gC L),cond_true]
 have m1:List.map (λ(b:UInt8)=>Value.int IntKind.u8 (Int.ofNat b.toNat)) (ByteArray.mk #[77,77]).data.toList=[(77:UInt8),77].map aQ:=rfl
 have m2:List.map (λ(b:UInt8)=>Value.int IntKind.u8 (Int.ofNat b.toNat)) (ByteArray.mk #[73,73]).data.toList=[(73:UInt8),73].map aQ:=rfl
 rw[m1,m2,hz,Pq [77,77] (L -2) (aT 2) rfl rfl (by omega)]
 have hz2:aT (L -2)=aT 2++aT (L -4):=by rw[<-mK];congr 1;omega
 have hz3:aT (L -4)=aT 4++([]++aT (L -8)):=by rw[List.nil_append,<-mK];congr 1;omega
 have W:u5 w m sh o L (eK ⟨o,ds⟩):=⟨T.hm,T.hw,T.ok,T.bt,T.ho,by omega,by omega,t2,t4⟩
 have fin:∀sg:List UInt8,sg.length=2->(ob (oQ w 2 42 2 L L o (ax bH (eK ⟨o,ds⟩)) (bP sh) 0 ((sg++aT (L -2)).map aQ)) λ(x53:Nat×Nat×Int×Value×Value×Int×List Value)=>ak (cy ds) λ(x54:Nat)=>Kb w (bP sh) 0 4 (cy ds) (Int.ofNat x54) 0 x53.fst x53.snd.fst x53.snd.snd.fst x53.snd.snd.snd.fst x53.snd.snd.snd.snd.fst x53.snd.snd.snd.snd.snd.fst x53.snd.snd.snd.snd.snd.snd)=some (ag (sg++(aN 42 2 o++(aN 8 4 o++je o sh 0 8 ds))),0):=by
  intro sg hsg
  rw[hz2,I5 (by omega) sg (aT 2) (aT (L -4)) 42 2 (.inl rfl) (by decide) T.ho _ _ 0 (gC 2) L (by simp only[List.length_append,gC];omega) (by omega) (2:Int) (by omega) (2:Int) rfl (42:Int) rfl]
  simp only[ay]
  unfold cy
  rw[bV]
  have:=adD W ds T.gI T.hd T.ir T.hh T.s0 T.cc rfl T.pF hL.symm (sg++aN 42 2 o) (by rw[List.length_append,db,hsg])
  have e4:(((sg++aN 42 2 o).length:Nat):Int)=4:=by rw[List.length_append,db,hsg];rfl
  rw[e4] at this
  unfold cy at this
  rw[hz3]
  simp at this⊢
  exact this
 rcases T.ho with ho|ho
 ·have hb:=Pq [73,73] (L -2) [77,77] rfl rfl (L:=L) (by omega)
  simp only[ho,show ai 1 1=true from rfl,cond_true]
  have r4:(0+Nat.min 2 L*1).ble (([77,77]++aT (L -2)).map aQ).length=true:=r3 _ (by simp[gC];omega)
  have f:=fin [73,73] rfl
  rw[ho] at f
  simp only[r4,hb,cond_true]
  refine Eq.trans ?_ (f.trans ?_)
  ·rfl
  ·unfold dc;rfl
 ·simp only[ho,show ai 2 1=false from rfl,cond_false]
  have f:=fin [77,77] rfl
  rw[ho] at f
  refine Eq.trans ?_ (f.trans ?_)
  ·rfl
  ·unfold dc;rfl
end
section
set_option linter.unusedVariables false
set_option linter.unusedSimpArgs false
set_option linter.unusedSectionVars false
set_option linter.constructorNameAsVariable false
abbrev oe:=Nat×Nat×List Nat×Nat
def PY(e:oe):Value:=.agg #[.int .i64 e.1,.int .i64 e.2.1]
def Hg(e:oe):Value:=.agg #[ae e.2.2.1.length (e.2.2.1.map λt=>.int .i64 (Int.ofNat t)),.int .i64 e.2.2.2]
theorem Sd:∀l:List oe,uP (l.map Hf)=some (l.map λe=>(PY e,Hg e))
 |[]=>rfl
 |e::l=>by
  show ob (uP (l.map Hf)) _=_
  rw[Sd l]
  rfl
theorem Vj(a b:Int)(e:oe):gH [.int .i64 a,.int .i64 b] [.int .i64 e.1,.int .i64 e.2.1]=some (decide (a=(e.1 :Int)/\b=(e.2.1 :Int))):=by
 unfold gH
 unfold gH
 unfold gH
 by_cases h1:a=(e.1 :Int)
 ·by_cases h2:b=(e.2.1 :Int)
  ·simp_all
  ·simp_all
 ·simp[h1]
def nj(a b:Int)(e:oe):Bool:=decide (a=(e.1 :Int)/\b=(e.2.1 :Int))
theorem LZ(a b:Int):∀(l:List oe)(i:Nat),∃j,qD [.int .i64 a,.int .i64 b] (l.map λe=>(PY e,Hg e)) i=some ((l.find? (nj a b)).map λe=>(j,Hg e))
 |[],i=>⟨0,rfl⟩
 |e::l,i=>by
  rw[List.map_cons,List.find?_cons]
  show∃j,(ob (gH [.int .i64 a,.int .i64 b] [.int .i64 e.1,.int .i64 e.2.1]) λq=>cond q _ _)=_
  rw[Vj]
  show∃j,cond (nj a b e) _ _=_
  cases h:nj a b e with
  |true=>simp
  |false=>
   obtain⟨j,hj⟩:=LZ a b l (i+1)
   exact⟨j,hj⟩
def lJ:List oe:=[(0,256,[3,4],1),(0,257,[3,4],1),(0,259,[3],1),(0,274,[3],1),(0,296,[3],1),(0,531,[3],1),(0,270,[2],0),(0,271,[2],0),(0,272,[2],0),(0,305,[2],0),(0,315,[2],0),(0,33432,[2],0),(0,306,[2],20),(0,282,[5],1),(0,283,[5],1),(1,256,[3,4],1),(1,257,[3,4],1),(1,259,[3],1),(1,274,[3],1),(1,296,[3],1),(1,531,[3],1),(1,270,[2],0),(1,271,[2],0),(1,272,[2],0),(1,305,[2],0),(1,315,[2],0),(1,33432,[2],0),(1,306,[2],20),(1,282,[5],1),(1,283,[5],1),(2,33434,[5],1),(2,33437,[5],1),(2,37378,[5],1),(2,37386,[5],1),(2,34850,[3],1),(2,37383,[3],1),(2,37384,[3],1),(2,37385,[3],1),(2,40961,[3],1),(2,41986,[3],1),(2,36864,[7],4),(2,37121,[7],4),(2,40960,[7],4),(2,37377,[10],1),(2,37380,[10],1),(2,36867,[2],20),(2,36868,[2],20),(2,40962,[3,4],1),(2,40963,[3,4],1),(2,34855,[3],0),(2,37510,[7],0),(2,37520,[2],0),(2,41728,[7],1),(2,42016,[2],33),(2,42034,[5],4),(3,0,[1],4),(3,5,[1],1),(3,6,[5],1),(3,1,[2],2),(3,3,[2],2),(3,2,[5],3),(3,4,[5],3),(3,7,[5],3),(3,18,[2],0),(3,29,[2],11),(4,1,[2],4),(4,2,[7],4),(5,45056,[7],4),(5,45313,[4],1),(5,45569,[4],1),(5,45570,[4],1),(5,45572,[5],1),(5,45574,[5],1),(5,45573,[10],1),(5,45576,[10],1)]
theorem abp(w:Nat):IT w=some (tQ lJ):=rfl
def PX(e:oe):(Int×Int)×List Int×Int:=(((e.1 :Int),(e.2.1 :Int)),e.2.2.1.map (λn:Nat=>(n:Int)),(e.2.2.2 :Int))
theorem aab:PZ=lJ.map PX:=by decide
theorem Z9(d t:Int):Hh d t=(lJ.find? (nj d t)).map λe=>(e.2.2.1.map (λn:Nat=>(n:Int)),(e.2.2.2 :Int)):=by
 unfold Hh
 rw[aab]
 generalize lJ=l
 induction l with
 |nil=>rfl
 |cons e l ih=>
  rw[List.map_cons,List.find?_cons]
  unfold PX
  rw[List.lookup_cons]
  have:((d,t)==(((e.1 :Int),(e.2.1 :Int))))=nj d t e:=by
   unfold nj
   grind
  rw[this]
  cases nj d t e with
  |true=>rfl
  |false=>exact ih
theorem Nu{α:Type}[BEq α](l:List α)(x:α):(cC (λy=>x==y) l<0)=(l.any (λy=>x==y)=false):=by
 rw[tb]
 simp
theorem ab6{w:Nat}(l:List Int)(x:Int)(hl:l.length<2^40)(hw:l.length<w):Jn w (ax eX l) x=some (cC (λy=>x==y) l):=by
 refine jV l (λy=>x==y) (ev:=λi (g:Value->Int->Int->Int->Option Int)=>g (ax eX l) x l.length i) ?_ ?_ hw
 ·intro i g h
  simp
  rw[bn vQ h]
  simp[eX]
  rw[aJ (by omega) (by omega)]
  grind
 simp
theorem abI{w:Nat}(l:List Int)(x:Int)(hl:l.length<2^40)(hw:l.length<w):Cw w (ax eX l) x=some (l.contains x):=by
 unfold Cw
 rw[ab6 l x hl hw]
 congr 1
 have:=Nu l x
 rw[(show l.contains x=l.any (λy=>x==y) from by rw[List.contains_eq_any_beq])]
 cases h:l.any (λy=>x==y) with
 |true=>simp_all
 |false=>simp_all
def wM(p:Int×Int):List Value:=[.int .i64 p.1,.int .i64 p.2]
theorem Zy(p:Int×Int):(wM p).length=2:=rfl
theorem acj{w:Nat}(l:List (Int×Int))(a b:Int)(hl:l.length<2^40)(hw:l.length<w):Jw w (ax wM l) a b=some (cC (λy=>(a,b)==y) l):=by
 refine jV l (λy=>(a,b)==y) (ev:=λi (g:Value->Int->Int->Int->Int->Option Int)=>g (ax wM l) l.length i a b) ?_ ?_ hw
 ·intro i g h
  have e1:((i:Int)<(l.length:Int)):=by omega
  simp only[aO,e1,bF]
  rw[bn Zy h]
  simp only[(show∀(x:Int×Int)(r:List Value),wM x++r=.int .i64 x.1 ::.int .i64 x.2 ::r fromλ_ _=>rfl),bO]
  rw[aJ (by omega) (by omega)]
  have hb:((a,b)==l[i])=(decide (a=l[i].1)&&decide (b=l[i].2)):=by
   rw[Bool.eq_iff_iff,beq_iff_eq,Bool.and_eq_true,decide_eq_true_eq,decide_eq_true_eq,Prod.ext_iff]
  rw[hb]
  by_cases e2:a=l[i].1
  ·by_cases e3:b=l[i].2
   ·simp
   ·simp
  ·simp
 ·intro g
  simp
theorem abH{w:Nat}(hw:20<=w)(a b:Int):Cv w a b=some (mE.contains (a,b)):=by
 unfold Cv Jm
 have e:ae 8 (List.drop 0 [Value.int IntKind.i64 0,Value.int IntKind.i64 34665,Value.int IntKind.i64 0,Value.int IntKind.i64 34853,Value.int IntKind.i64 1,Value.int IntKind.i64 513,Value.int IntKind.i64 1,Value.int IntKind.i64 514,Value.int IntKind.i64 2,Value.int IntKind.i64 37500,Value.int IntKind.i64 2,Value.int IntKind.i64 40965,Value.int IntKind.i64 5,Value.int IntKind.i64 45057,Value.int IntKind.i64 5,Value.int IntKind.i64 45058])=ax wM mE:=rfl
 rw[e,acj _ _ _ (by decide) (by show 8<w;omega)]
 congr 1
 have:=Nu mE (a,b)
 rw[(show mE.contains (a,b)=mE.any (λy=>(a,b)==y) from by rw[List.contains_eq_any_beq])]
 cases h:mE.any (λy=>(a,b)==y) with
 |true=>simp_all
 |false=>simp_all
theorem aaa{d t:Int}{e:oe}(h:lJ.find? (nj d t)=some e):e.2.2.1.length<=2:=by
 have:∀e∈lJ,e.2.2.1.length<=2:=by decide
 grind
theorem abq{w:Nat}(hw:20<=w)(d:Int)(t:aD)(hl:t.data.length<2^40):xF w (tQ lJ) d t.tag t.ty t.ar (ag t.data)=some (oB d t):=by
 unfold xF oB
 simp only[aO,mS]
 by_cases h1:d<0
 ·rw[if_pos h1]
  have:¬(0<=d):=by omega
  simp[this]
 rw[if_neg h1]
 by_cases h2:d<6
 case neg=>simp[h2]
 by_cases h3:t.tag<0
 ·rw[if_pos h3]
  have:¬(0<=t.tag):=by omega
  simp[this]
 rw[if_neg h3]
 by_cases h4:65535<t.tag
 ·rw[if_pos h4]
  have:¬(t.tag<=65535):=by omega
  simp[this]
 rw[if_neg h4]
 have h5:0<=d/\d<6/\0<=t.tag/\t.tag<=65535:=by omega
 rw[abH hw,uo _ _ _ _ hl]
 simp only[ay,h5,and_self,decide_true]
 cases hr:mE.contains (d,t.tag) with
 |true=>rfl
 |false=>
  cases hm:cX t.ty t.ar t.data with
  |false=>rfl
  |true=>
   rw[Z9]
   obtain⟨j,hj⟩:=LZ d t.tag lJ 0
   have hL:∀(zs:List Value)(K:Bool->List Value->Option Bool),wk nu.T 402 (tQ lJ) (.agg (Array.mk [.int .i64 d,.int .i64 t.tag])) zs K=match lJ.find? (nj d t.tag) with
    |none=>K false (zs.map zN)
    |some e=>K true [ae e.2.2.1.length (e.2.2.1.map λt=>.int .i64 (Int.ofNat t)),.int .i64 e.2.2.2]:=by
    intro zs K
    unfold wk tQ
    simp only
    rw[Sd]
    simp
    rw[hj]
    cases lJ.find? (nj d t.tag) with
    |none=>rfl
    |some e=>rfl
   rw[hL]
   cases hf:lJ.find? (nj d t.tag) with
   |none=>rfl
   |some e=>
    have hle:=aaa hf
    simp only[aX,Option.map_some]
    have e1:ae e.2.2.1.length (e.2.2.1.map λt=>Value.int .i64 (Int.ofNat t))=ax eX (e.2.2.1.map (λn:Nat=>(n:Int))):=by
     unfold ax
     rw[List.length_map]
     congr 1
     generalize e.2.2.1 =l
     induction l with
     |nil=>rfl
     |cons a l ih=>rw[List.map_cons,List.map_cons,ih];rfl
    rw[e1,abI _ _ (by rw[List.length_map];omega) (by rw[List.length_map];omega)]
    cases(e.2.2.1.map (λn:Nat=>(n:Int))).contains t.ty with
    |false=>rfl
    |true=>
     by_cases h0:e.2.2.2 =0
     ·simp[h0]
     ·have h0':¬((e.2.2.2 :Int)=0):=by omega
      rw[(show((e.2.2.2 :Int)==0)=false from by simpa using h0')]
      simp_all
      rfl
theorem PL:∀{l:List aD},(∀i (hi:i+1<l.length),l[i].tag<l[i+1].tag)->ed l=true
 |[],_=>rfl
 |[a],_=>rfl
 |a::b::l,h=>by
  simp[ed]
  exact⟨h 0 (by simp),PL λi hi=>h (i+1) (by grind)⟩
theorem Z8(d:Int)(l:List aD):cF d l=((List.range l.length).all (λi=>(decide (i=0)||decide ((l[i -1]?.map aD.tag).getD 0<(l[i]?.map aD.tag).getD 0))&&((l[i]?.map (oB d)).getD true))&&decide (0<=d/\d<6)):=by
 unfold cF
 congr 1
 rw[Bool.eq_iff_iff]
 simp
 constructor
 ·rintro ⟨h1,h2⟩ i hi
  refine⟨?_,?_⟩
  ·by_cases q:i=0
   ·grind
   ·right
    rw[List.getElem?_eq_getElem hi,List.getElem?_eq_getElem (show i -1<l.length by omega)]
    exact rC h1 (by omega) hi
  grind
 ·intro h
  refine⟨?_,λx hx=>?_⟩
  ·refine PL λi hi=>?_
   grind
  ·obtain⟨i,hi,rfl⟩:=List.getElem_of_mem hx
   grind
theorem VI{δ:Type}{z:δ}{F:δ->δ}{w:Nat}(m:Nat)(ok:Nat->Bool)(r:Bool)(ev:Nat->δ->Option Bool)(hs:∀i g,i<m->ev i (F g)=if ok i=true then ev (i+1) g else some false)(he:∀g,ev m (F g)=some r)(hw:m<w):
 ev 0 (lp z F w)=some ((List.range m).all ok&&r):=by
 have key:∀(d i v:Nat),i+d=m->d<v->ev i (lp z F v)=some (((List.range d).all λj=>ok (i+j))&&r):=by
  intro d
  induction d with
  |zero=>
   intro i v hi hv
   rw[dt z F (by omega),show i=m by omega,he]
   rfl
  |succ d ih=>
   intro i v hi hv
   rw[dt z F (by omega),hs i _ (by omega),List.range_succ_eq_map]
   by_cases h:ok i=true
   ·rw[ih (i+1) (v -1) (by omega) (by omega)]
    simp[h]
    grind
   grind
 grind
theorem oN{w:Nat}(hw:20<=w)(d:Int)(l:List aD)(hl:l.length<2^40)(hd:∀t∈l,t.data.length<2^40)(hlw:l.length<w):lN w d (au l)=some (cF d l):=by
 unfold lN au
 rw[abp,Z8]
 simp only[ay]
 refine VI l.length _ (decide (0<=d/\d<6)) (ev:=λi (g:Int->Value->Value->Value->Int->Int->Option Bool)=>g d (ax bR l) (tQ lJ) (ax bR l) l.length i) ?_ ?_ hlw
 ·intro i g h
  have e1:((i:Int)<(l.length:Int)):=by omega
  simp only[aO,e1,cond_true,bF]
  rw[bn fE h]
  have tt:∀(t:aD)(r:List Value),bR t++r=.int .i64 t.tag::.int .i64 t.ty::.int .i64 t.ar::ag t.data::r:=λ_ _=>rfl
  simp only[tt,aX,bN]
  rw[abq hw d l[i] (hd _ (List.getElem_mem h)),List.getElem?_eq_getElem h]
  simp only[ay,bO,gS,Option.map_some]
  rw[aJ (n:=(i:Int)+1) (by omega) (by omega)]
  by_cases h0:i=0
  ·have e2:¬((0:Int)<(i:Int)):=by omega
   have e3:decide (i=0)=true:=by simp[h0]
   simp only[e2,decide_false,cond_false,e3,Bool.true_or]
   cases oB d l[i]<;>rfl
  ·have e2:((0:Int)<(i:Int)):=by omega
   simp_all
   rw[aJ (by omega) (by omega),ju (by omega),show((i:Int) -1).toNat=i -1 by omega]
   rw[bn fE (show i -1<l.length by omega),List.getElem?_eq_getElem (show i -1<l.length by omega)]
   simp_all
   by_cases h3:l[i -1].tag<l[i].tag
   ·simp only[h3,decide_true,cond_false,Bool.true_and]
    cases oB d l[i]<;>rfl
   ·simp[h3]
 ·intro g
  have e1:¬((l.length:Int)<(l.length:Int)):=by omega
  by_cases h1:d<0
  ·have:¬(0<=d):=by omega
   simp[this]
  ·have:0<=d:=by omega
   simp[h1,this]
end
section
set_option linter.unusedVariables false
set_option linter.unusedSimpArgs false
set_option linter.unusedSectionVars false
set_option linter.constructorNameAsVariable false
def cf(l:List UInt8):List Value:=[ag l]
structure Hand(w:Nat):Prop where
 may:∀o ds,ds.length<1000000000->(∀d∈ds,∃(sh:List aP)(s:Nat),bX sh s d=true)->iR ds<=w->rP w o (cy ds)=some true
 set:∀(l:List aD)(x:aD),ed l=true->l.length<2^20->l.length+2<w->(∀t∈l,t.data.length<=1000000000)->x.data.length<=1000000000->xK w (au l) x.tag x.ty x.ar (ag x.data)=some (au (iz l x))
 drop:∀(l:List aD)(t:Int),ed l=true->l.length<2^20->l.length+2<w->(∀t∈l,t.data.length<=1000000000)->uv w (au l) t=some (au (mi l t))
 cut:∀b:List UInt8,b.length<=65519->xW w (ag b)=some (ax cf (eA b),0)
 cat:∀a b c d:List UInt8,0<a.length->a.length+b.length+c.length+d.length<2^29->qa w (ag a) (ag b) (ag c) (d.map aQ)=some ((d++(a++(b++c))).map aQ)
theorem oo(w:Nat)(l:List UInt8)(hl:l.length<=1000000000):kO w (ag l)=some (ag l):=by
 unfold kO
 by_cases h:l.length=0
 ·have e:Nat.beq l.length 0=true:=by rw[h];rfl
  rw[jU h];rfl
 ·have e:Nat.beq l.length 0=false:=by simp[h]
  unfold IQ Bo
  rw[fV,fZ]
  have e1:Nat.blt 0 l.length=true:=by simp;omega
  have hn:=nextslicecap_le (need:=0+l.length) (old:=0) (by omega)
  have e4:(Builtin.nextslicecap (0+l.length) 0).ble 5000000000=true:=by rw[Nat.ble_eq];omega
  simp_all
  rw[qH _ _ rfl]
theorem Te(w:Nat)(l:List aD)(h:l.length≠0)(hl:l.length<=1000000000):Cz w (au l)=some (l.flatMap bR):=by
 unfold Cz au
 rw[sX fE]
 have hn:=nextslicecap_le (need:=0+l.length) (old:=0) (by omega)
 have e4:(Builtin.nextslicecap (0+l.length) 0).ble 5000000000=true:=by rw[Nat.ble_eq];omega
 have e5:(l.flatMap bR).length.beq (l.length*4)=true:=by rw[cK fE];exact Nat.beq_refl _
 simp_all
theorem oF{w:Nat}(l:List aD)(hl:l.length<=100000000)(hd:∀t∈l,t.data.length<=1000000000)(hw:l.length<w):jL w (au l)=some (au l):=by
 unfold jL
 rw[(show∀K:Nat->Option Value,ak (au l) K=K l.length fromλK=>bV bR l K)]
 by_cases h:l.length=0
 ·have e:Nat.beq l.length 0=true:=by rw[h];rfl
  rw[jU h];rfl
 have e:Nat.beq l.length 0=false:=by simp[h]
 rw[e]
 unfold I4
 rw[Te w l h (by omega)]
 have hfl:=cK fE l
 simp only[ay,hfl,Nat.mul_div_cancel _ (show 0<4 by decide)]
 refine gz (ev:=λi (g:Int->Int->List Value->Option Value)=>g (l.length:Int) i (l.flatMap bR)) l.length ?_ ?_ hw
 ·intro i g hi
  have e1:((i:Int)<(l.length:Int)):=by omega
  have e2:i*4<(l.flatMap bR).length:=by omega
  have e3:0+i*4+1+2+1<=(l.flatMap bR).length:=by omega
  have hdr:(l.flatMap bR).drop (0+i*4+1+2)=ag l[i].data::(l.drop (i+1)).flatMap bR:=by
   rw[show 0+i*4+1+2=i*4+3 by omega,<-List.drop_drop,mm fE,List.drop_eq_getElem_cons hi]
   rfl
  simp only[aO,e1,decide_true,cond_true,bF,jQ,e2,eV,e3]
  rw[hdr]
  simp only[aX]
  rw[oo w _ (hd _ (List.getElem_mem hi))]
  simp only[ay,cond_true,AV,bO]
  rw[aJ (by omega) (by omega)]
  have hset:(l.flatMap bR).set (0+i*4+1+2) (ag l[i].data)=l.flatMap bR:=by
   have hg:(l.flatMap bR)[0+i*4+1+2]'(by omega)=ag l[i].data:=by
    have:=List.drop_eq_getElem_cons (l:=l.flatMap bR) (i:=0+i*4+1+2) (by omega)
    rw[hdr] at this
    exact(List.cons.inj this).1.symm
   rw[<-hg]
   exact List.set_getElem_self _
  rw[hset]
  rfl
 ·intro g
  simp only[aO,(show¬((l.length:Int)<(l.length:Int)) from by omega),decide_false,cond_false]
  unfold au ax
  rw[hfl,Nat.mul_div_cancel _ (show 0<4 by decide)]
theorem max_eq{w:Nat}(a:Int)(l:List Int)(hl:l.length<2^40)(hw:l.length+1<w):CA w (ax eX (a::l))=some (l.foldl (λm x=>if m<x then x else m) a):=by
 unfold CA
 simp only[aO,bG]
 refine kI (ev:=λi s (g:Value->Int->Int->Option Int)=>g (ax eX (a::l)) s ((i+1:Nat):Int)) (Inv:=λi s=>(l.drop i).foldl (λm x=>if m<x then x else m) s=l.foldl (λm x=>if m<x then x else m) a) l.length a (by rfl) ?_ ?_ (by omega)
 ·rintro i g s hi h1
  rw[List.drop_eq_getElem_cons hi] at h1
  refine⟨_,h1,?_⟩
  simp only[(show∀K:Nat->Option Int,ak (ax eX (a::l)) K=K (l.length+1) fromλK=>bV eX (a::l) K),(show(((i+1:Nat):Int)<((l.length+1:Nat):Int)) from by omega),bF]
  rw[bn vQ (show i+1<(a::l).length by simp;omega)]
  simp
  rw[aJ (by omega) (by omega)]
  rfl
 simp
theorem Mj:∀(l:List Int)(a:Int),0<l.foldl (λm x=>if m<x then x else m) a↔(0<a\/∃x∈l,0<x)
 |[],a=>by simp
 |b::l,a=>by
  rw[List.foldl_cons,Mj l]
  by_cases h:a<b
  ·rw[if_pos h]
   constructor
   ·simp_all
   grind
  grind
theorem JS{w:Nat}(hw:20<=w)(a:Int)(l:List Int)(hl:l.length<10):uh w (ax eX (a::l))=some (decide (0<a\/∃x∈l,0<x)):=by
 unfold uh
 rw[max_eq a l (by omega) (by omega)]
 simp only[ay,aO]
 congr 1
 rw[Bool.eq_iff_iff,decide_eq_true_eq,decide_eq_true_eq]
 exact Mj l a
structure hU(x:cG)(m:Nat):Prop where
 rows:nN x m
 d0:∀t∈x.bQ,t.data.length<=m
 d2:∀t∈x.bm,t.data.length<=m
 d3:∀t∈x.bD,t.data.length<=m
 d4:∀t∈x.aZ,t.data.length<=m
 d1:∀t∈x.first,t.data.length<=m
 NK:x.bk.length<=m
 th:x.cm.length<=m
theorem QR{w m:Nat}{x:cG}(h:hU x m)(hm:m<2^26)(hw:m+20<w):
 xH w x.order (au x.bQ) (au x.bm) (au x.bD) (au x.aZ) (au x.first) (ag x.bk) (ag x.cm)=some (ga x):=by
 obtain⟨⟨r0,r2,r3,r4,r1⟩,d0,d2,d3,d4,d1,hmk,hth⟩:=h
 have q0:=oN (w:=w) (by omega) 0 x.bQ (by omega) (λt ht=>by have:=d0 t ht;omega) (by omega)
 have q2:=oN (w:=w) (by omega) 2 x.bm (by omega) (λt ht=>by have:=d2 t ht;omega) (by omega)
 have q3:=oN (w:=w) (by omega) 3 x.bD (by omega) (λt ht=>by have:=d3 t ht;omega) (by omega)
 have q4:=oN (w:=w) (by omega) 4 x.aZ (by omega) (λt ht=>by have:=d4 t ht;omega) (by omega)
 have q1:=oN (w:=w) (by omega) 1 x.first (by omega) (λt ht=>by have:=d1 t ht;omega) (by omega)
 have hlr:∀(l:List aD)(K:Nat->Option Int),ak (au l) K=K l.length:=λl K=>bV bR l K
 have hs:=JS (w:=w) (by omega) (x.bQ.length:Int) [(x.bm.length:Int),(x.bD.length:Int),(x.aZ.length:Int),(x.bk.length:Int)] (by simp)
 have e:ax eX [(x.bQ.length:Int),(x.bm.length:Int),(x.bD.length:Int),(x.aZ.length:Int),(x.bk.length:Int)]=ae 5 (List.drop 0 [Value.int IntKind.i64 (Int.ofNat x.bQ.length),Value.int IntKind.i64 (Int.ofNat x.bm.length),Value.int IntKind.i64 (Int.ofNat x.bD.length),Value.int IntKind.i64 (Int.ofNat x.aZ.length),Value.int IntKind.i64 (Int.ofNat x.bk.length)]):=rfl
 rw[e] at hs
 have hany:(decide ((0:Int)<(x.bQ.length:Int)\/∃y∈[(x.bm.length:Int),(x.bD.length:Int),(x.aZ.length:Int),(x.bk.length:Int)],0<y))=!decide (x.bQ.length=0/\x.bm.length=0/\x.bD.length=0/\x.aZ.length=0/\x.bk.length=0):=by
  rw[Bool.eq_iff_iff,decide_eq_true_eq,Bool.not_eq_true',decide_eq_false_iff_not]
  simp only[List.mem_cons,List.not_mem_nil,or_false,exists_eq_or_imp,exists_eq_left]
  omega
 rw[hany] at hs
 simp only[bG] at hs
 have h95:JP w x.order (au x.bQ) (au x.bm) (au x.bD) (au x.aZ) (au x.first) (ag x.bk) (ag x.cm)=some (0,au x.bQ,2,au x.bm,3,au x.bD,4,au x.aZ,1,au x.first):=rfl
 unfold xH ga HS
 simp only[h95,ay,q0,q2,q3,q4,q1,hlr,cg,hs,bT,aO,bG]
 have fin:(bif !cF 0 x.bQ then some (6:Int) else bif !cF 2 x.bm then some 6 else bif !cF 3 x.bD then some 6 else bif !cF 4 x.aZ then some 6 else bif !cF 1 x.first then some 6 else bif decide ((65536:Int)<(x.bk.length:Int)) then some 6 else bif !(!decide (x.bQ.length=0/\x.bm.length=0/\x.bD.length=0/\x.aZ.length=0/\x.bk.length=0)) then some 6 else some 0)=
  some (if(cF 0 x.bQ&&(cF 2 x.bm&&(cF 3 x.bD&&(cF 4 x.aZ&&cF 1 x.first))))=false then 6 else if 65536<x.bk.length\/(x.bQ.length=0/\x.bm.length=0/\x.bD.length=0/\x.aZ.length=0/\x.bk.length=0) then 6 else 0):=by
  cases cF 0 x.bQ<;>cases cF 2 x.bm<;>cases cF 3 x.bD<;>cases cF 4 x.aZ<;>cases cF 1 x.first<;>try rfl
  simp_all
  by_cases c1:65536<x.bk.length
  ·rw[if_pos (by omega),if_pos (.inl c1)]
  ·rw[if_neg (by omega)]
   by_cases c2:(x.bQ.length=0/\x.bm.length=0/\x.bD.length=0/\x.aZ.length=0/\x.bk.length=0)<;>grind
 by_cases o1:x.order=1
 ·have:¬¬(x.order=1\/x.order=2):=by omega
  rw[if_neg this]
  simp only[o1,decide_true,Bool.not_true,cond_false,hs,ay]
  exact fin
 ·by_cases o2:x.order=2
  ·have:¬¬(x.order=1\/x.order=2):=by omega
   rw[if_neg this]
   simp only[o2,show decide ((2:Int)=1)=false from rfl,Bool.not_false,cond_true,decide_true,Bool.not_true,cond_false,hs,ay]
   exact fin
  ·have:¬(x.order=1\/x.order=2):=by omega
   rw[if_pos this]
   simp only[o1,o2,decide_false,Bool.not_false,cond_true]
end
section
set_option linter.unusedVariables false
set_option linter.unusedSimpArgs false
set_option linter.unusedSectionVars false
set_option linter.constructorNameAsVariable false
theorem V5(w:Nat)(b:List UInt8)(hb:b.length<=1000000000):CB w (ag b)=some ((gT b).tag,(gT b).ty,(gT b).ar,ag (gT b).data):=by
 unfold CB
 rw[oo w b hb]
 rfl
theorem abz{w m:Nat}(A:Hand w){x:cG}(h:hU x m)(hm:m<=70000)(hw:m+20<w)(hp:ed x.bm=true)(a b c d:Value)(o:Int):
 Cn w o a (au x.bm) b (au x.aZ) c (ag x.bk) d=some (dT (hM x),dS (hM x),dB (hM x)):=by
 obtain⟨⟨r0,r2,r3,r4,r1⟩,d0,d2,d3,d4,d1,hmk,hth⟩:=h
 have q4:=oF (w:=w) x.aZ (by omega) (λt ht=>by have:=d4 t ht;omega) (by omega)
 have hs:=A.set x.bm (gT x.bk) hp (by omega) (by omega) (λt ht=>by have:=d2 t ht;omega) (by show x.bk.length<=_;omega)
 have hlr:∀(l:List aD)(K:Nat->Option (Value×Value×Value)),ak (au l) K=K l.length:=λl K=>bV bR l K
 unfold Cn H7
 rw[(oF (w:=w) x.bm (by omega) (λt ht=>by have:=d2 t ht;omega) (by omega))]
 simp only[cg,hlr,aO,bG]
 unfold hM
 by_cases a1:x.bk.length=0
 ·have e1:¬((0:Int)<(x.bk.length:Int)):=by omega
  simp only[e1,cond_false,if_pos a1]
  by_cases a2:x.aZ.length=0
  ·have e2:¬((0:Int)<(x.aZ.length:Int)):=by omega
   simp only[e2,cond_false,if_pos a2]
   rfl
  ·have e2:((0:Int)<(x.aZ.length:Int)):=by omega
   simp only[e2,cond_true,if_neg a2,q4,ay]
   rfl
 ·have e1:((0:Int)<(x.bk.length:Int)):=by omega
  simp only[e1,cond_true,if_neg a1]
  rw[V5 w _ (by omega)]
  simp only[ay]
  rw[hs]
  by_cases a2:x.aZ.length=0
  ·have e2:¬((0:Int)<(x.aZ.length:Int)):=by omega
   simp only[e2,cond_false,if_pos a2]
   rfl
  ·have e2:((0:Int)<(x.aZ.length:Int)):=by omega
   simp only[e2,cond_true,if_neg a2,q4,ay]
   rfl
theorem acT{w:Nat}(hw:10<=w):mG w (ae 0 [])=some ():=by
 obtain⟨v,rfl⟩:=Nat.exists_eq_add_of_le' hw
 rfl
theorem acU{w:Nat}(hw:10<=w)(t:Int)(a b c:Value):mG w (ae 1 [.int .i64 t,a,b,c])=some ():=by
 obtain⟨v,rfl⟩:=Nat.exists_eq_add_of_le' hw
 rfl
theorem acV{w:Nat}(hw:10<=w)(a b c d e f:Value):mG w (ae 2 [.int .i64 34665,a,b,c,.int .i64 34853,d,e,f])=some ():=by
 obtain⟨v,rfl⟩:=Nat.exists_eq_add_of_le' hw
 rfl
theorem QJ{w m:Nat}(A:Hand w){x:cG}(h:hU x m)(hm:m<=70000)(hw:m+20<w):
 xA w x.order (au x.bQ) (au x.bm) (au x.bD) (au x.aZ) (au x.first) (ag x.bk) (ag x.cm)=some (if ga x=0 then(x.order,cy (dE x).cS,0) else(0,ae 0 [],ga x)):=by
 unfold xA xb nk np nq
 rw[QR h (by omega) hw]
 simp only[ay,bT]
 by_cases hc:ga x=0
 case neg=>rw[if_neg hc];simp only[hc,decide_false,Bool.not_false,cond_true]
 rw[if_pos hc]
 simp only[hc,decide_true,Bool.not_true,cond_false]
 have hp:=(tN (pc hc).2.2.1).1
 have q196:=λa b c d o=>abz A h hm hw hp a b c d o
 obtain⟨⟨r0,r2,r3,r4,r1⟩,d0,d2,d3,d4,d1,hmk,hth⟩:=h
 have q0:=oF (w:=w) x.bQ (by omega) (λt ht=>by have:=d0 t ht;omega) (by omega)
 have q3:=oF (w:=w) x.bD (by omega) (λt ht=>by have:=d3 t ht;omega) (by omega)
 have q1:=oF (w:=w) x.first (by omega) (λt ht=>by have:=d1 t ht;omega) (by omega)
 have qt:=oo w x.cm (by omega)
 have hlr:∀(l:List aD)(K:Nat->Option (Int×Value×Int)),ak (au l) K=K l.length:=λl K=>bV bR l K
 have s3:=JS (w:=w) (by omega) (x.bm.length:Int) [(x.aZ.length:Int),(x.bk.length:Int)] (by simp)
 have e3:ax eX [(x.bm.length:Int),(x.aZ.length:Int),(x.bk.length:Int)]=ae 3 (List.drop 0 [Value.int IntKind.i64 (Int.ofNat x.bm.length),Value.int IntKind.i64 (Int.ofNat x.aZ.length),Value.int IntKind.i64 (Int.ofNat x.bk.length)]):=rfl
 have a3:(decide ((0:Int)<(x.bm.length:Int)\/∃y∈[(x.aZ.length:Int),(x.bk.length:Int)],0<y))=!decide (x.bm.length=0/\x.aZ.length=0/\x.bk.length=0):=by
  rw[Bool.eq_iff_iff,decide_eq_true_eq,Bool.not_eq_true',decide_eq_false_iff_not]
  simp only[List.mem_cons,List.not_mem_nil,or_false,exists_eq_or_imp,exists_eq_left]
  omega
 rw[e3,a3] at s3
 have s2:=JS (w:=w) (by omega) (x.first.length:Int) [(x.cm.length:Int)] (by simp)
 have e2:ax eX [(x.first.length:Int),(x.cm.length:Int)]=ae 2 (List.drop 0 [Value.int IntKind.i64 (Int.ofNat x.first.length),Value.int IntKind.i64 (Int.ofNat x.cm.length)]):=rfl
 have a2:(decide ((0:Int)<(x.first.length:Int)\/∃y∈[(x.cm.length:Int)],0<y))=!decide (x.first.length=0/\x.cm.length=0):=by
  rw[Bool.eq_iff_iff,decide_eq_true_eq,Bool.not_eq_true',decide_eq_false_iff_not]
  simp only[List.mem_cons,List.not_mem_nil,or_false,exists_eq_left]
  omega
 rw[e2,a2] at s2
 have n0:=acT (w:=w) (by omega)
 have n1:=λt a b c=>acU (w:=w) (by omega) t a b c
 have n2:=λa b c d e f=>acV (w:=w) (by omega) a b c d e f
 simp only[List.drop_zero,bG] at s2 s3
 simp only[q0,q3,q1,qt,q196,ay,hlr,cg,s3,s2,List.drop_zero,List.take_succ_cons,List.take_zero,List.cons_append,List.nil_append,List.length_cons,List.length_nil,Nat.reduceAdd,Nat.reduceDiv,n0,n1,n2,aO,bG]
 unfold dE gY kE
 by_cases c1:x.bm.length=0/\x.aZ.length=0/\x.bk.length=0
 ·rw[decide_eq_true c1]
  by_cases c2:x.bD.length=0
  ·have f2:¬((0:Int)<(x.bD.length:Int)):=by omega
   by_cases c3:x.first.length=0/\x.cm.length=0
   ·rw[decide_eq_true c3]
    simp only[f2,decide_false,Bool.not_true,cond_false,if_pos c1,if_pos c2,if_pos c3]
    rfl
   ·rw[decide_eq_false c3]
    simp only[f2,decide_false,Bool.not_true,Bool.not_false,cond_true,cond_false,if_pos c1,if_pos c2,if_neg c3]
    rfl
  ·have f2:((0:Int)<(x.bD.length:Int)):=by omega
   by_cases c3:x.first.length=0/\x.cm.length=0
   ·rw[decide_eq_true c3]
    simp only[f2,decide_true,Bool.not_true,cond_true,cond_false,if_pos c1,if_neg c2,if_pos c3]
    rfl
   ·rw[decide_eq_false c3]
    simp only[f2,decide_true,Bool.not_true,Bool.not_false,cond_true,cond_false,if_pos c1,if_neg c2,if_neg c3]
    rfl
 ·rw[decide_eq_false c1]
  have tk:∀r:bW,fb (.cons 34665 (hM x) r)=.int .i64 34665::dT (hM x)::dS (hM x)::dB (hM x)::fb r:=by
   intro r
   show Value.int .i64 34665::(cx (hM x)++fb r)=_
   rw[mU]
   rfl
  have td:∀(t:List aD)(r:bW)(b:List UInt8),cx (.mk t r b)=[au t,ae (bI r) (fb r),ag b]:=λ_ _ _=>rfl
  by_cases c2:x.bD.length=0
  ·have f2:¬((0:Int)<(x.bD.length:Int)):=by omega
   by_cases c3:x.first.length=0/\x.cm.length=0
   ·rw[decide_eq_true c3]
    simp only[f2,decide_false,Bool.not_true,Bool.not_false,cond_true,cond_false,if_neg c1,if_pos c2,if_pos c3]
    unfold cy ax
    simp only[List.flatMap_cons,List.flatMap_nil,td,tk]
    rfl
   ·rw[decide_eq_false c3]
    simp only[f2,decide_false,Bool.not_true,Bool.not_false,cond_true,cond_false,if_neg c1,if_pos c2,if_neg c3]
    unfold cy ax
    simp only[List.flatMap_cons,List.flatMap_nil,td,tk]
    rfl
  ·have f2:((0:Int)<(x.bD.length:Int)):=by omega
   by_cases c3:x.first.length=0/\x.cm.length=0
   ·rw[decide_eq_true c3]
    simp only[f2,decide_true,Bool.not_true,Bool.not_false,cond_true,cond_false,if_neg c1,if_neg c2,if_pos c3]
    unfold cy ax
    simp only[List.flatMap_cons,List.flatMap_nil,td,tk]
    rfl
   ·rw[decide_eq_false c3]
    simp only[f2,decide_true,Bool.not_true,Bool.not_false,cond_true,cond_false,if_neg c1,if_neg c2,if_neg c3]
    unfold cy ax
    simp only[List.flatMap_cons,List.flatMap_nil,td,tk]
    rfl
end
section
set_option linter.unusedVariables false
set_option linter.unusedSimpArgs false
set_option linter.unusedSectionVars false
set_option linter.constructorNameAsVariable false
theorem Zs{t:aD}{m:Nat}(h:cX t.ty t.ar t.data=true)(hd:t.data.length<=m):bu t.ty t.ar<=m:=by
 have:=tG h
 grind
theorem vx{m:Nat}:∀(l:List aD)(e:Nat),(∀t∈l,cX t.ty t.ar t.data=true/\t.data.length<=m)->bJ e l<=e+l.length*(m+1)
 |[],e,_=>by simp[bJ]
 |t::l,e,h=>by
  have h1:=h t (by simp)
  have ho:=Zs h1.1 h1.2
  have ih:=λe=>vx l e λt ht=>h t (by grind)
  have hev:=qN e
  rw[List.length_cons,Lw]
  grind
theorem acY(no:Nat)(l:List aD)(e:Nat):(cw no e l).length<=l.length:=JW no l e
mutual
theorem Ls{sh:List aP}{m B:Nat}(hB:24*m+40+m*(m+1)+m<=B):∀(d:aK)(s e:Nat),bX sh s d=true->fP m d->bg e d<=e+cJ d*B
 | .mk tags subs blob,s,e,hh,hd=>by
  have hd:tags.length<=m/\bI subs<=m/\blob.length<=m/\(∀t∈tags,t.data.length<=m)/\fQ m subs:=hd
  simp[bX] at hh
  obtain⟨⟨n1,n2⟩,ht,hbl,hr,hss⟩:=hh
  have htg:∀t∈tags,cX t.ty t.ar t.data=true/\t.data.length<=m:=λt h=>by
   simp[iB] at ht
   simp_all
  have hN:bh (.mk tags subs blob)<=2*m+2:=by
   show tags.length+bI subs+(if blob.length=0 then 0 else 2)<=2*m+2
   grind
  have h1:=vx tags (aA e+(6+12*bh (.mk tags subs blob))) htg
  have h2:=Lv hB subs (aH sh s) (bJ (aA e+(6+12*bh (.mk tags subs blob))) tags) hss hd.2.2.2.2
  have h3:=qN e
  have h4:=qN (cW (bJ (aA e+(6+12*bh (.mk tags subs blob))) tags) subs)
  have h5:tags.length*(m+1)<=m*(m+1):=Nat.mul_le_mul_right _ hd.1
  rw[cJ,Nat.add_mul,bg]
  grind
theorem Lv{sh:List aP}{m B:Nat}(hB:24*m+40+m*(m+1)+m<=B):∀(r:bW)(S:aP)(e:Nat),gx sh S r=true->fQ m r->cW e r<=e+fS r*B
 | .nil,S,e,_,_=>by unfold cW;omega
 | .cons t d r,S,e,hh,hd=>by
  simp[gx] at hh
  have h1:=Ls hB d _ e hh.2.1 hd.1
  have h2:=Lv hB r S (bg e d) hh.2.2 hd.2
  rw[cW,fS,Nat.add_mul]
  omega
end
mutual
theorem Ro{m:Nat}:∀(d:aK)(no e:Nat),fP m d->(eG no e d).length<=cJ d*(m+2)
 | .mk tags subs blob,no,e,hd=>by
  have hd:tags.length<=m/\bI subs<=m/\blob.length<=m/\(∀t∈tags,t.data.length<=m)/\fQ m subs:=hd
  have h1:=acY no tags (aA e+(6+12*bh (.mk tags subs blob)))
  have h2:=Rr subs (no+1) (bJ (aA e+(6+12*bh (.mk tags subs blob))) tags) hd.2.2.2.2
  rw[cJ,eG]
  grind
theorem Rr{m:Nat}:∀(r:bW)(no e:Nat),fQ m r->(iN no e r).length<=fS r*(m+2)
 | .nil,no,e,_=>by unfold iN;simp
 | .cons t d r,no,e,hd=>by
  have h1:=Ro d no e hd.1
  have h2:=Rr r (no+cJ d) (bg e d) hd.2
  rw[iN,fS,Nat.add_mul,List.length_append]
  omega
end
theorem Lr{sh:List aP}{m B:Nat}(hB:24*m+40+m*(m+1)+m<=B):∀(ds:List aK)(s:Int)(e:Nat),eP sh s ds=true->kU m ds->cV e ds<=e+gj ds*B
 |[],s,e,_,_=>by simp[cV]
 |d::ds,s,e,hh,hd=>by
  simp[eP] at hh
  have h1:=Ls hB d _ e hh.2.1 (hd d (by simp))
  have h2:=Lr hB ds _ (bg e d) hh.2.2 λd h=>hd d (by grind)
  rw[cV,gj,Nat.add_mul]
  omega
theorem Df{m:Nat}:∀(ds:List aK)(no e:Nat),kU m ds->(gX no e ds).length<=gj ds*(m+2)
 |[],no,e,_=>by simp[gX]
 |d::ds,no,e,hd=>by
  have h1:=Ro d no e (hd d (by simp))
  have h2:=Df ds (no+cJ d) (bg e d) λd h=>hd d (by grind)
  rw[gX,gj,Nat.add_mul,List.length_append]
  omega
theorem Fl{sh:List aP}:∀{ds:List aK}{s:Int},eP sh s ds=true->∀d∈ds,∃s,bX sh s d=true
 |[],_,_,d,h=>by grind
 |a::ds,s,hh,d,h=>by
  simp[eP] at hh
  rcases List.mem_cons.1 h with rfl|h
  ·grind
  ·exact Fl hh.2.2 d h
structure cU(w:Nat):Prop where
 hand:Hand w
 iE:200000<=w
theorem J4{w:Nat}(W:cU w){sh:List aP}{o:Int}{ds:List aK}(ok:gp sh)(pE:nR w (bP sh)=some true)(s0:0<sh.length)(bt:∀s,s<sh.length->(aH sh s).bt.length<=10000)(ho:o=1\/o=2)(cc:ds≠[])(gI:ds.length<=10000)(hd:kU 10000 ds)(ir:iR ds<=10)(hc:gj ds<=8)(hh:eP sh 0 ds=true):lX w 10000 sh o ds:=by
 have hb:=W.iE
 have h1:=Lr (B:=100360040) (by simp) ds 0 8 hh hd
 have h2:=Df ds 0 8 hd
 have h5:(eK ⟨o,ds⟩).length=(gX 0 8 ds).length+1:=rfl
 exact⟨(by simp),(by omega),(by omega),ok,pE,s0,bt,ho,cc,gI,hd,by omega,hh,by omega,by omega,by omega,by omega,(W.hand.may o ds (by omega) (λd hd=>by obtain⟨s,h⟩:=Fl hh d hd;exact⟨sh,s,h⟩) (by omega))⟩
theorem LX(s:Nat)(hs:s<cA.length):(aH cA s).bt.length<=10000:=by
 have:s=0\/s=1\/s=2\/s=3\/s=4:=by simp[cA] at hs;omega
 rcases this with rfl|rfl|rfl|rfl|rfl<;>decide
theorem aaJ{m:Nat}{l:List aD}{x:aD}(h:∀t∈l,t.data.length<=m)(hx:x.data.length<=m):∀t∈iz l x,t.data.length<=m:=by
 intro t ht
 rcases Qw ht with rfl|ht<;>grind
theorem adl{x:cG}{m:Nat}(h:hU x m)(h1:1<=m):fP (m+1) (hM x)/\cJ (hM x)<=2/\eB (hM x)<=2:=by
 obtain⟨⟨r0,r2,r3,r4,r1⟩,d0,d2,d3,d4,d1,hmk,hth⟩:=h
 unfold hM
 have hl:=Qv x.bm (gT x.bk)
 have hsub:fQ (m+1) (if x.aZ.length=0 then .nil else .cons 40965 (.mk x.aZ .nil []) .nil)/\bI (if x.aZ.length=0 then .nil else .cons 40965 (.mk x.aZ .nil []) .nil)<=1/\fS (if x.aZ.length=0 then .nil else .cons 40965 (.mk x.aZ .nil []) .nil)<=1/\ij (if x.aZ.length=0 then .nil else .cons 40965 (.mk x.aZ .nil []) .nil)<=1:=by
  split
  ·exact⟨trivial,by decide,by decide,by decide⟩
  ·refine⟨⟨⟨by omega,by show 0<=_;omega,by show 0<=_;omega,λt ht=>by have:=d4 t ht;omega,trivial⟩,trivial⟩,by simp[bI],by simp[fS,cJ],by simp[ij,eB]⟩
 refine⟨⟨?_,by omega,by show 0<=_;omega,?_,hsub.1⟩,by rw[cJ];omega,by rw[eB];omega⟩
 ·grind
 ·split
  ·grind
  ·exact aaJ (λt ht=>by have:=d2 t ht;omega) (by show x.bk.length<=_;omega)
theorem RN{x:cG}{m:Nat}(h:hU x m)(h1:2<=m):kU (m+1) (dE x).cS/\gj (dE x).cS<=5/\iR (dE x).cS<=3/\(dE x).cS.length<=2:=by
 obtain⟨t1,t2,t3⟩:=adl h (by omega)
 obtain⟨⟨r0,r2,r3,r4,r1⟩,d0,d2,d3,d4,d1,hmk,hth⟩:=h
 have hg:fQ (m+1) (kE x)/\bI (kE x)<=1/\fS (kE x)<=1/\ij (kE x)<=1:=by
  unfold kE
  split
  ·exact⟨trivial,by decide,by decide,by decide⟩
  ·exact⟨⟨⟨by omega,by show 0<=_;omega,by show 0<=_;omega,λt ht=>by have:=d3 t ht;omega,trivial⟩,trivial⟩,by simp[bI],by simp[fS,cJ],by simp[ij,eB]⟩
 have hs:fQ (m+1) (gY x)/\bI (gY x)<=2/\fS (gY x)<=3/\ij (gY x)<=2:=by
  unfold gY
  split
  ·exact⟨hg.1,by omega,by omega,by omega⟩
  ·refine⟨⟨t1,hg.1⟩,by rw[bI];omega,by rw[fS];omega,by rw[ij];omega⟩
 have h0:fP (m+1) (.mk x.bQ (gY x) []):=⟨by omega,by omega,by show 0<=_;omega,λt ht=>by have:=d0 t ht;omega,hs.1⟩
 unfold dE
 by_cases c:x.first.length=0/\x.cm.length=0
 ·simp only[if_pos c]
  refine⟨λd hd=>?_,by simp only[gj,cJ];omega,by simp only[iR,eB];omega,by simp⟩
  rw[List.mem_singleton.1 hd];exact h0
 ·simp only[if_neg c]
  refine⟨λd hd=>?_,by simp only[gj,cJ,fS];omega,by simp only[iR,eB,ij];omega,by simp⟩
  simp_all
  rcases hd with rfl|rfl
  ·exact h0
  ·exact(⟨by omega,by show 0<=_;omega,by omega,λt ht=>by have:=d1 t ht;omega,trivial⟩)
theorem fP.mono{m m':Nat}(h:m<=m'):∀{d:aK},fP m d->fP m' d:=by
 have key:(∀d:aK,fP m d->fP m' d)/\∀r:bW,fQ m r->fQ m' r:=by
  refine⟨λd=>?_,λr=>?_⟩
  ·exact aK.rec (motive_2:=λr=>fQ m r->fQ m' r) (λtags subs blob ih hd=>by
    have hd:tags.length<=m/\bI subs<=m/\blob.length<=m/\(∀t∈tags,t.data.length<=m)/\fQ m subs:=hd
    exact⟨by omega,by omega,by omega,λt ht=>by have:=hd.2.2.2.1 t ht;omega,ih hd.2.2.2.2⟩) (λ_=>trivial) (λt d r i1 i2 hd=>⟨i1 hd.1,i2 hd.2⟩) d
  ·exact bW.rec (motive_1:=λd=>fP m d->fP m' d) (λtags subs blob ih hd=>by
    have hd:tags.length<=m/\bI subs<=m/\blob.length<=m/\(∀t∈tags,t.data.length<=m)/\fQ m subs:=hd
    exact⟨by omega,by omega,by omega,λt ht=>by have:=hd.2.2.2.1 t ht;omega,ih hd.2.2.2.2⟩) (λ_=>trivial) (λt d r i1 i2 hd=>⟨i1 hd.1,i2 hd.2⟩) r
 grind
theorem zF{w:Nat}(W:cU w){x:cG}(h:hU x 9000)(hc:ga x=0):lX w 10000 cA x.order (dE x).cS:=by
 obtain⟨a,b,c,d⟩:=RN h (by simp)
 have hr:=h.rows
 refine J4 W EW (abE (by have:=W.iE;omega)) (by decide) LX (pc hc).1 (by simp[dE]) (by omega) (λd hd=>(a d hd).mono (by simp)) (by omega) (by omega) (RP hc ?_)
 unfold nN at hr⊢
 omega
theorem adq(x:cG):(⟨x.order,(dE x).cS⟩:jO)=dE x:=rfl
theorem IJ(w:Nat):xC w=some (bP cA):=rfl
theorem acJ{w:Nat}(W:cU w){x:cG}(h:hU x 9000):Db w x.order (au x.bQ) (au x.bm) (au x.bD) (au x.aZ) (au x.first) (ag x.bk) (ag x.cm)=some (if ga x=0 then(ag (dc (dE x) cA),0) else(ae 0 [],ga x)):=by
 have hb:=W.iE
 unfold Db
 rw[QJ W.hand h (by simp) (by omega)]
 by_cases hc:ga x=0
 ·rw[if_pos hc,if_pos hc]
  rw[IJ]
  simp
  rw[QK (zF W h hc)]
  rfl
 simp_all
theorem acI{w:Nat}(W:cU w){x:cG}(h:hU x 9000):Da w x.order (au x.bQ) (au x.bm) (au x.bD) (au x.aZ) (au x.first) (ag x.bk) (ag x.cm)=some (if ga x=0 then(65527 -(fq (dE x):Int),0) else(0,ga x)):=by
 have hb:=W.iE
 unfold Da
 rw[QJ W.hand h (by simp) (by omega)]
 simp
 by_cases hc:ga x=0
 ·rw[if_pos hc,if_pos hc]
  have T:=zF W h hc
  have:=T.he
  rw[T.bU]
  simp
  rw[aJ (by omega) (by omega)]
  rfl
 grind
theorem K0(a:List Int)(b:List UInt8)(h:a=b.map λc=>(c.toNat:Int)):aW a=b.map aQ:=by
 subst h
 unfold aW
 rw[List.map_map]
 rfl
theorem Ju{w:Nat}(W:cU w){x:cG}(h:hU x 9000):xO w x.order (au x.bQ) (au x.bm) (au x.bD) (au x.aZ) (au x.first) (ag x.bk) (ag x.cm)=some (match fY x with| .ok b=>(ag b,0)| .error e=>(ae 0 [],e)):=by
 unfold xO vf fY
 rw[acI W h,acJ W h]
 by_cases hc:ga x=0
 case neg=>
  simp_all
 rw[if_pos hc,if_pos hc,if_neg (by omega)]
 simp only[ay,aO]
 by_cases h2:65533<6+fq (dE x)
 ·have:(65527:Int) -(fq (dE x):Int)<0:=by omega
  simp_all
 ·have h3:¬((65527:Int) -(fq (dE x):Int)<0):=by omega
  simp only[h3,decide_false,if_neg h2]
  unfold qF
  have hl:=uN (zF W h hc).hh
  have hpos:8<=fq (dE x):=mV _ _
  simp only[show ai 0 0=true from rfl]
  rw[o8]
  have r2:((dc (dE x) cA).map λb=>(b.toNat:Int)).isEmpty=false:=by
   cases q:dc (dE x) cA with
   |nil=>rw[q] at hl;simp at hl;omega
   |cons _ _=>rfl
  simp only[(show aF ((dc (dE x) cA).map λb=>(b.toNat:Int)).length=true from by simp;omega),r2,cond_true,cond_false]
  rw[K0 _ (kC++dc (dE x) cA) (by rw[List.map_append];rfl),qH _ _ (by simp[kC];omega)]
theorem QL{w:Nat}{sh:List aP}{o:Int}{ds:List aK}(T:lX w 10000 sh o ds):rK w o (cy ds) (bP sh)=some (if 65533<4+fq ⟨o,ds⟩ then(ae 0 [],7) else(ag (fJ++dc ⟨o,ds⟩ sh),0)):=by
 unfold rK pJ
 rw[QK T]
 have hl:(dc ⟨o,ds⟩ sh).length=fq ⟨o,ds⟩:=uN T.hh
 have he:fq ⟨o,ds⟩<=1000000000:=T.he
 have hpos:8<=fq ⟨o,ds⟩:=mV _ _
 simp only[ay,show ai 0 0=true from rfl]
 rw[o8]
 have r2:((dc ⟨o,ds⟩ sh).map λb=>(b.toNat:Int)).isEmpty=false:=by
  cases q:dc ⟨o,ds⟩ sh with
  |nil=>grind
  |cons _ _=>rfl
 simp only[List.length_map,hl,(show aF (fq ⟨o,ds⟩)=true from by simp;omega),r2,cond_true,cond_false,jQ,mS]
 split
 ·rfl
 ·rw[K0 _ (fJ++dc ⟨o,ds⟩ sh) (by rw[List.map_append];rfl),qH _ _ (by simp[fJ];omega)]
end
end Lt
end Go.Proofs.YtcfjfbeadhnknaaGreatDoor

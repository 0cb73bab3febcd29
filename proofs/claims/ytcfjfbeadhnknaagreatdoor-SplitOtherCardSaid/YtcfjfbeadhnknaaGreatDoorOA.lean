import Derived.Control
import Derived.Laws.Sem
import Derived.Below
import GoSem.Dispatch
import Derived.Laws.StructEq
import Derived.Laws.BytesString
import Derived.ChangeKeysEq
namespace Go.Proofs.YtcfjfbeadhnknaaGreatDoor
set_option linter.unusedVariables false
set_option linter.unusedSimpArgs false
set_option linter.unusedSectionVars false
set_option linter.constructorNameAsVariable false
section
abbrev Qu:=Value
abbrev Zh:=@Option
abbrev H1:=@List
abbrev Hx:=World
theorem aq:∀{c:Prop}{h:Decidable c},¬c->∀{α:Sort _}{t e:α},(if c then t else e)=e:=@if_neg
theorem ay:∀{c:Prop}{h:Decidable c},c->∀{α:Sort _}{t e:α},(if c then t else e)=t:=@if_pos
theorem aC:∀{α:Sort _}(a b:α),(bif true then a else b)=a:=@cond_true
theorem aD:∀{α:Sort _}(a b:α),(bif false then a else b)=b:=@cond_false
theorem aM:∀(n:Nat),n<=n:=@Nat.le_refl
theorem aP:∀{α:Type _}{as bs:H1 α},List.length (as++bs)=List.length as+List.length bs:=@List.length_append
theorem bd:∀(h:Decidable True),decide True=true:=@decide_true
theorem bt:∀(a b:Bool),((a&&b)=true)=(a=true/\b=true):=@Bool.and_eq_true
theorem bM:∀(h:Decidable False),decide False=false:=@decide_false
theorem bT:∀{n m:Nat},Nat.beq n m=true->n=m:=@Nat.eq_of_beq_eq_true
theorem bW:(!true)=false:=@Bool.not_true
theorem bX:∀{α:Sort _}{β:Sort _}{a₁ a₂:α}(f:α->β),a₁=a₂->f a₁=f a₂:=@congrArg
theorem cc:∀{α:Type _}{a:α}{as:H1 α},List.length (a::as)=List.length as+1:=@List.length_cons
theorem cm:∀{p:Prop}[inst:Decidable p],(decide p=true)=p:=@decide_eq_true_eq
theorem cw:∀{α:Type _}{l:H1 α}{i:Nat}(h:i<List.length l),l[i]? =some l[i]:=@List.getElem?_eq_getElem
theorem cx:∀{α:Type _}{l:H1 α}{n:Nat}(h:n<List.length l),l[n]∈l:=@List.getElem_mem
theorem cH:∀{α:Type _}{β:Type _}{as:H1 α}(f:α->β),List.length (List.map f as)=List.length as:=@List.length_map
theorem cU:∀{α β:Type}(P:Program)(w:Hx)(x:Sem α)(f:α->Sem β),Sem.run P (x>>=f) w=Result.andThen (Sem.run P x w) λa w'↦Sem.run P (f a) w':=@Sem.run_bind
theorem cW:∀{α:Type _}{i:Nat}{l:H1 α}(h:i<List.length l),List.drop i l=l[i]::List.drop (i+1) l:=@List.drop_eq_getElem_cons
theorem cX:∀{α:Type _}{b:α}{l:H1 α}{a:α},a∈b::l↔a=b\/a∈l:=@List.mem_cons
theorem dk:∀{α:Type _}{i:Nat}{l:H1 α},List.length (List.take i l)=min i (List.length l):=@List.length_take
theorem dG:∀{α:Type _}{β:Type _}{x:α}{xs:H1 α}{f:α->H1 β},List.flatMap f (x::xs)=f x++List.flatMap f xs:=@List.flatMap_cons
theorem dP:∀{α:Type _}(as:H1 α),as++[]=as:=@List.append_nil
theorem dW:∀{n m:Nat},Nat.ble n m=true->n<=m:=@Nat.le_of_ble_eq_true
theorem dZ:∀{p:Prop}[inst:Decidable p],p->decide p=true:=@decide_eq_true
theorem ea:∀{α:Sort _}{x:Decidable True}(t e:α),(if True then t else e)=t:=@if_true
theorem ed:∀{α:Type _}(as bs cs:H1 α),as++bs++cs=as++(bs++cs):=@List.append_assoc
theorem er:∀{α:Type _}{l:H1 α},List.drop 0 l=l:=@List.drop_zero
theorem eu:∀{α:Type _}{i:Nat}{l:H1 α},List.length (List.drop i l)=List.length l -i:=@List.length_drop
theorem eA:∀{α β:Type}(a:α)(w:Hx)(f:α->Hx->Result β),Result.andThen (Result.ok a w) f=f a w:=@Result.andThen_ok
theorem eB:∀{p:Prop}[inst:Decidable p],¬p->decide p=false:=@decide_eq_false
theorem eD:∀{α:Type _}{a:α}{as bs:H1 α},a::as++bs=a::(as++bs):=@List.cons_append
theorem eE:∀{α:Type}(P:Program)(w:Hx)(a:α),Sem.run P (pure a) w=Result.ok a w:=@Sem.run_pure
theorem eQ:∀{α:Type _}{i:Nat}{l:H1 α},List.length l<=i->List.take i l=l:=@List.take_of_length_le
theorem eY:∀(b:Bool),(true&&b)=b:=@Bool.true_and
theorem fo:∀{α:Type _}{β:Type _}{xs ys:H1 α}{f:α->H1 β},List.flatMap f (xs++ys)=List.flatMap f xs++List.flatMap f ys:=@List.flatMap_append
theorem fq:∀(B:Nat)(w:Hx),RowKit.Below B w w:=@RowKit.Below.refl
theorem fw:∀{α:Type _}{i:Nat}{b:α}{xs:Array α},xs[i]? =some b↔∃h,xs[i]=b:=@Array.getElem?_eq_some_iff
theorem fy:∀{α:Type _}(as:H1 α),[]++as=as:=@List.nil_append
theorem fE:∀{n m k:Nat},n<=m->m<=k->n<=k:=@Nat.le_trans
theorem fH:(!false)=true:=@Bool.not_false
theorem fI:∀(n:Nat),0+n=n:=@Nat.zero_add
theorem fQ:∀{α:Type _}{a:α}{s t:H1 α},a∈s++t↔a∈s\/a∈t:=@List.mem_append
theorem fY:∀{α:Type _}{β:Type _}{f:α->β}{l₁ l₂:H1 α},List.map f (l₁++l₂)=List.map f l₁++List.map f l₂:=@List.map_append
theorem gy:∀(n:Nat),n*1=n:=@Nat.mul_one
theorem gQ:∀{p:Prop}{x:Decidable p},decide p=false↔¬p:=@decide_eq_false_iff_not
theorem gR:∀{α:Sort _}{x:Decidable False}(t e:α),(if False then t else e)=e:=@if_false
theorem gU:∀(n:Nat),0<=n:=@Nat.zero_le
theorem gY:∀(n m:Nat),n<m\/n>=m:=@Nat.lt_or_ge
theorem ij:∀{α:Type _}{β:Type _}{f:α->β}{a:α}{l:H1 α},List.map f (a::l)=f a::List.map f l:=@List.map_cons
theorem im:∀{α:Type _}{i:Nat}{l:H1 α}(h:i<List.length l),List.take (i+1) l=List.take i l++[l[i]]:=@List.take_succ_eq_append_getElem
theorem iq:∀{x y:Nat},(Nat.ble x y=true)=(x<=y):=@Nat.ble_eq
theorem ir:∀(m:Nat){n:Nat},0<n->m*n/n=m:=@Nat.mul_div_cancel
theorem iD:∀{a b:Bool},a=b↔(a=true↔b=true):=@Bool.eq_iff_iff
theorem iE:∀{α:Type _}{p:α->Bool}{l:H1 α},List.all l p=true↔∀(x:α),x∈l->p x=true:=@List.all_eq_true
theorem ja:∀(w:Hx)(a:Addr){u:Qu},World.cell? w a=some u->Addr.block a<Array.size (World.heap w):=@World.block_lt_of_cell?
theorem jl:∀{w w':Hx}{a:Addr},(World.heap w')[Addr.block a]? =(World.heap w)[Addr.block a]? ->World.cell? w' a=World.cell? w a:=@World.cell?_of_block
theorem jm:∀(w:Hx)(o:Obj),Array.size (World.heap (World.alloc w o))=Array.size (World.heap w)+1:=@World.size_alloc
theorem jB:∀(b:Bool),(b&&b)=b:=@Bool.and_self
theorem jC:∀{α:Type _}{val val_1:α},some val=some val_1->val=val_1:=@Option.some.inj
theorem kA:∀(b:Bool),(b&&true)=b:=@Bool.and_true
theorem kB:(false=true)=False:=@Bool.false_eq_true
theorem kC:∀{α:Type _}{l:H1 α},List.length l=0->l=[]:=@List.eq_nil_of_length_eq_zero
theorem kE:∀{α:Type _}{x:α}{xs:H1 α}{p:α->Bool},List.filter p (x::xs)=if p x=true then x::List.filter p xs else List.filter p xs:=@List.filter_cons
theorem kF:∀{α:Type _}(i:Nat)(l:H1 α),List.take i l++List.drop i l=l:=@List.take_append_drop
theorem kG:∀(n:Nat),n/1=n:=@Nat.div_one
theorem kR:∀{α:Type _}{l:H1 α}{i:Nat},List.length l<=i->l[i]? =none:=@List.getElem?_eq_none
theorem kT:∀(n:Nat),n<Nat.succ n:=@Nat.lt_succ_self
theorem lH:∀{α:Type _}{β:Type _}{f:α->H1 β},List.flatMap f []=[]:=@List.flatMap_nil
theorem lI:∀{a b:Nat},a<=b->min a b=a:=@Nat.min_eq_left
theorem lR:∀{α:Type _}{xs:Array α}{i:Nat},(Array.toList xs)[i]? =xs[i]? :=@Array.getElem?_toList
theorem lU:∀{α:Type _}(y:α){a:α}{l:H1 α},a∈l->a∈y::l:=@List.mem_cons_of_mem
theorem lW:∀(n m k:Nat),(n+m)*k=n*k+m*k:=@Nat.add_mul
theorem mI:∀{a:Int},0<=a->↑(Int.toNat a)=a:=@Int.toNat_of_nonneg
theorem mJ:∀{α:Type _}{i:Nat}{a:α}{l:H1 α},l[i]? =some a↔∃h,l[i]=a:=@List.getElem?_eq_some_iff
theorem mK:∀{α:Type _}{β:Type _}{b:β}{f:α->β}{l:H1 α},b∈List.map f l↔∃a,a∈l/\f a=b:=@List.mem_map
theorem mL:∀{α:Type _}{l:H1 α},List.take (List.length l) l=l:=@List.take_length
theorem nq:∀(n:Nat),Int.toNat ↑n=n:=@Int.toNat_natCast
theorem nr:∀{α:Type _}{a:α}{l:H1 α},a∈a::l:=@List.mem_cons_self
theorem nt:∀{α:Type _}{a b:α},a∈[b]↔a=b:=@List.mem_singleton
theorem nu:∀{α:Type _}{a:α},¬a∈[]:=@List.not_mem_nil
theorem nv:∀(a:Nat),Nat.beq a a=true:=@Nat.beq_refl
theorem nw:∀(n m:Nat),n*m=m*n:=@Nat.mul_comm
theorem ny:∀{p:Prop}[inst:Decidable p],decide p=true->p:=@of_decide_eq_true
theorem nA:∀(p:Prop),(p\/False)=p:=@or_false
theorem ou:∀{α:Type _}{l:H1 α}{i:Nat}{a:α},l[i]? =some a->a∈l:=@List.mem_of_getElem?
theorem ox:∀{α:Type _}{a:α}{as:H1 α}{i:Nat},List.take (i+1) (a::as)=a::List.take i as:=@List.take_succ_cons
theorem oy:∀{a b:UInt8},UInt8.toNat a=UInt8.toNat b↔a=b:=@UInt8.toNat_inj
theorem o5:∀(n:Nat),Int.ofNat n=↑n:=@Int.ofNat_eq_natCast
theorem o6:∀{α:Type _}{l:H1 α}{i j:Nat},(List.take i l)[j]? =if j<i then l[j]? else none:=@List.getElem?_take
theorem o7:∀{α:Type _}{p:α->Bool}{as:H1 α}{x:α},x∈List.filter p as↔x∈as/\p x=true:=@List.mem_filter
theorem o8:∀(n m k:Nat),n+m+k=n+(m+k):=@Nat.add_assoc
theorem o9:∀{n m k:Nat},n<m->m<=k->n<k:=@Nat.lt_of_lt_of_le
theorem pW:∀{n:Nat}{α:Type _}{a:α},Array.replicate (n+1) a=Array.push (Array.replicate n a) a:=@Array.replicate_succ
theorem pX:∀{α:Type _}{a:α},Array.replicate 0 a=#[]:=@Array.replicate_zero
theorem pY:∀{α:Type _}(l₁ l₂:H1 α),List.toArray l₁++List.toArray l₂=List.toArray (l₁++l₂):=@List.append_toArray
theorem pZ:∀{α:Type _}(l:H1 α)(a:α),Array.push (List.toArray l) a=List.toArray (l++[a]):=@List.push_toArray
theorem p9:∀{α:Type _}{as:H1 α},Array.size (List.toArray as)=List.length as:=@List.size_toArray
theorem qa:∀{α:Type _}{l:H1 α},List.take 0 l=[]:=@List.take_zero
theorem qb:∀(n:Nat),n<=Nat.succ n:=@Nat.le_succ
theorem qJ:∀{α:Type _}{xs:Array α}{i:Nat}{d:α},Array.getD xs i d=Option.getD xs[i]? d:=@Array.getD_eq_getD_getElem?
theorem qK:∀{a:Prop},¬¬a↔a:=@Classical.not_not
theorem qL:∀{α:Type _}[inst:BEq α][LawfulBEq α]{l₁ l₂:H1 α},List.isPrefixOf l₁ l₂=true↔l₁<+:l₂:=@List.isPrefixOf_iff_prefix
theorem qM:∀{α:Type _}{l:H1 α},List.length l=0↔l=[]:=@List.length_eq_zero_iff
theorem qN:∀{α:Type _}{a:α}{i:Nat}{l:H1 α},a∈List.drop i l->a∈l:=@List.mem_of_mem_drop
theorem qO:∀{a b:Nat},a<b->a%b=a:=@Nat.mod_eq_of_lt
theorem qP:∀{α:Type _}{a b:α},Option.getD (some a) b=a:=@Option.getD_some
theorem rN:∀{α:Type _}{l:H1 α},List.drop (List.length l) l=[]:=@List.drop_length
theorem rO:∀{α:Type _}{i:Nat}{l:H1 α},List.length l<=i->List.drop i l=[]:=@List.drop_of_length_le
theorem rP:∀{α:Type _}{l₁ l₂:H1 α},(∀(i:Nat),l₁[i]? =l₂[i]?)->l₁=l₂:=@List.ext_getElem?
theorem rQ:∀{α:Type _}{l₁ l₂:H1 α}{i:Nat},i<List.length l₁->(l₁++l₂)[i]? =l₁[i]? :=@List.getElem?_append_left
theorem rR:∀{α:Type _}{β:Type _}(a:α)(f:α->β),Option.map f (some a)=some (f a):=@Option.map_some
theorem sZ:∀(a b:Bool),((a||b)=true)=(a=true\/b=true):=@Bool.or_eq_true
theorem s8:∀{α:Type _}{xs:H1 α}{i j:Nat},(List.drop i xs)[j]? =xs[i+j]? :=@List.getElem?_drop
theorem s9:∀{α:Type _}(l₁ l₂:H1 α),l₁<+:l₁++l₂:=@List.prefix_append
theorem ta:∀{n m:Nat},n=m->n<=m:=@Nat.le_of_eq
theorem tb:∀{α:Type _}(val val_1:α),(some val=some val_1)=(val=val_1):=@Option.some.injEq
theorem uI:∀(b:Bool),((!b)=true)=(b=false):=@Bool.not_eq_true'
theorem uJ:∀{α:Type _}{l₁ l₂:H1 α}{i:Nat},List.length l₁<=i->(l₁++l₂)[i]? =l₂[i -List.length l₁]? :=@List.getElem?_append_right
theorem uK:∀{α:Type _}{n:Nat}{a:α},List.length (List.replicate n a)=n:=@List.length_replicate
theorem uL:∀{α:Type _}{i:Nat}{a:α}{l:H1 α},a∈List.take i l->a∈l:=@List.mem_of_mem_take
theorem uM:∀{n:Nat},List.range (n+1)=0::List.map Nat.succ (List.range n):=@List.range_succ_eq_map
theorem wV:∀{α:Type _}{as:H1 α}{i:Nat},List.length as<=i->List.drop i as=[]:=@List.drop_eq_nil_of_le
theorem wW:∀{α:Type _}{l:H1 α}{i:Nat}{a:α},List.getD l i a=Option.getD l[i]? a:=@List.getD_eq_getElem?_getD
theorem wX:∀{α:Type _}{a:α},List.length [a]=1:=@List.length_singleton
theorem wY:∀{m n:Nat},m<=n->∃k,n=k+m:=@Nat.exists_eq_add_of_le'
theorem wZ:∀{n m:Nat}(k:Nat),n<=m->n*k<=m*k:=@Nat.mul_le_mul_right
theorem w7:∀{n:Nat},UInt8.toNat (UInt8.ofNat n)=n%2^8:=@UInt8.toNat_ofNat'
theorem zI:∀{α:Type _}{xs:Array α}{i:Nat}(h:i<Array.size xs),xs[i]? =some xs[i]:=@Array.getElem?_eq_getElem
theorem zJ:∀(b:Bool),(false||b)=b:=@Bool.false_or
theorem zK:∀{α:Type _}{l:H1 α}{i j:Nat},i<j->(List.take j l)[i]? =l[i]? :=@List.getElem?_take_of_lt
theorem zL:∀{n m:Nat},n<=m->Nat.ble n m=true:=@Nat.ble_eq_true_of_le
theorem IW:∀(n m:Nat),n+m -n=m:=@Nat.add_sub_cancel_left
namespace Lt
inductive Tr(α:Type) where
 |nil
 |node (v:Option α) (l r:Tr α)
inductive jD where
 |z
 |l (p:jD)
 |r (p:jD)
def vT:Nat->Nat->jD
 |0,_=>.z
 |f+1,n=>cond (Nat.beq n 0) .z (cond (Nat.beq (n%2) 1) (.l (vT f (n/2))) (.r (vT f (n/2 -1))))
def sI(n:Nat):jD:=vT (n+1) n
def Tr.val{α:Type}:Tr α->Zh α| .nil=>none| .node v _ _=>v
def Tr.left{α:Type}:Tr α->Tr α| .nil=>.nil| .node _ l _=>l
def Tr.right{α:Type}:Tr α->Tr α| .nil=>.nil| .node _ _ r=>r
def walk{α:Type}:jD->Tr α->Zh α
 | .z,t=>t.val
 | .l p,t=>walk p t.left
 | .r p,t=>walk p t.right
def oZ{α:Type}(x:Zh α):jD->Tr α->Tr α
 | .z,.nil=>.node x .nil .nil
 | .z,.node _ l r=>.node x l r
 | .l p,.nil=>.node none (oZ x p .nil) .nil
 | .l p,.node v l r=>.node v (oZ x p l) r
 | .r p,.nil=>.node none .nil (oZ x p .nil)
 | .r p,.node v l r=>.node v l (oZ x p r)
theorem C6{α:Type}(t:Tr α):walk .z t=t.val:=rfl
theorem IL{α:Type}(p:jD)(t:Tr α):walk (.l p) t=walk p t.left:=rfl
theorem IN{α:Type}(p:jD)(t:Tr α):walk (.r p) t=walk p t.right:=rfl
theorem P6{α:Type}(x:Zh α)(t:Tr α):oZ x .z t=.node x t.left t.right:=by cases t<;>rfl
theorem IU{α:Type}(x:Zh α)(p:jD)(t:Tr α):oZ x (.l p) t=.node t.val (oZ x p t.left) t.right:=by cases t<;>rfl
theorem IV{α:Type}(x:Zh α)(p:jD)(t:Tr α):oZ x (.r p) t=.node t.val t.left (oZ x p t.right):=by cases t<;>rfl
theorem P1{α:Type}(v:Zh α)(l r:Tr α):(Tr.node v l r).val=v:=rfl
theorem Tu{α:Type}(v:Zh α)(l r:Tr α):(Tr.node v l r).left=l:=rfl
theorem WN{α:Type}(v:Zh α)(l r:Tr α):(Tr.node v l r).right=r:=rfl
theorem IQ{α:Type}(x:Zh α):∀(p:jD)(t:Tr α),walk p (oZ x p t)=x
 | .z,t=>by rw[P6,C6,P1]
 | .l p,t=>by rw[IU];exact IQ x p _
 | .r p,t=>by rw[IV];exact IQ x p _
theorem IP{α:Type}(x:Zh α):∀(p q:jD)(t:Tr α),p≠q->walk p (oZ x q t)=walk p t
 | .z,.z,t,h=>by grind
 | .z,.l q,t,_=>by rw[IU,C6,P1,C6]
 | .z,.r q,t,_=>by rw[IV,C6,P1,C6]
 | .l p,.z,t,_=>by rw[P6,IL,Tu,IL]
 | .l p,.l q,t,h=>by rw[IU];exact IP x p q _ λe=>h (by rw[e])
 | .l p,.r q,t,_=>by rw[IV,IL,Tu,IL]
 | .r p,.z,t,_=>by rw[P6,IN,WN,IN]
 | .r p,.l q,t,_=>by rw[IU,IN,WN,IN]
 | .r p,.r q,t,h=>by rw[IV];exact IP x p q _ λe=>h (by rw[e])
def jD.num:jD->Nat
 | .z=>0
 | .l p=>2*p.num+1
 | .r p=>2*p.num+2
theorem Ak{α:Type}(a b:Nat)(x y:α):cond (Nat.beq a b) x y=if a=b then x else y:=by simp
theorem Bt:∀(f n:Nat),n<f->(vT f n).num=n
 |0,_,h=>by grind
 |f+1,n,h=>by
  unfold vT;rw[Ak,Ak];by_cases h0:n=0
  ·rw[h0];rfl
  ·rw[aq h0];by_cases h1:n%2=1
   ·rw[ay h1];show 2*(vT f (n/2)).num+1=n;rw[Bt f _ (by omega)];omega
   ·rw[aq h1];show 2*(vT f (n/2 -1)).num+2=n;rw[Bt f _ (by omega)];omega
theorem VX{m n:Nat}(h:sI m=sI n):m=n:=by have:=bX jD.num h;unfold sI at this;rwa[Bt _ _ (kT _),Bt _ _ (kT _)] at this
def Tr.get{α:Type}(t:Tr α)(n:Nat):Zh α:=walk (sI n) t
def Tr.set{α:Type}(t:Tr α)(n:Nat)(x:α):Tr α:=oZ (some x) (sI n) t
def Tr.del{α:Type}(t:Tr α)(n:Nat):Tr α:=oZ none (sI n) t
theorem Tr.fN{α:Type}(t:Tr α)(m n:Nat)(x:α):(t.set m x).get n=if n=m then some x else t.get n:=by
 by_cases h:n=m
 ·rw[ay h,h];exact IQ _ _ _
 ·rw[aq h];exact IP _ _ _ _ λe=>h (VX e)
theorem Tr.sk{α:Type}(t:Tr α)(m n:Nat):(t.del m).get n=if n=m then none else t.get n:=by
 by_cases h:n=m
 ·rw[ay h,h];exact IQ _ _ _
 ·rw[aq h];exact IP _ _ _ _ λe=>h (VX e)
theorem IM{α:Type}:∀p:jD,walk p (.nil:Tr α)=none
 | .z=>rfl
 | .l p=>IM p
 | .r p=>IM p
theorem Tr.get_nil{α:Type}(n:Nat):(Tr.nil:Tr α).get n=none:=IM _
def PW{α γ:Type}(R:α->γ->Prop)(xs:H1 α)(ys:H1 γ):Prop:=xs.length=ys.length/\∀(i:Nat)(x:α)(y:γ),xs[i]? =some x->ys[i]? =some y->R x y
section
variable{α γ:Type} {R:α->γ->Prop}
theorem PW.nil:PW R [] []:=⟨rfl,λ_ _ _ h=>by simp at h⟩
theorem PW.cons{x:α}{y:γ}{xs:H1 α}{ys:H1 γ}(h:R x y)(t:PW R xs ys):PW R (x::xs) (y::ys):=
 ⟨bX (·+1) t.1,λi a b ha hb=>by
  cases i with
  |zero=>simp at ha hb;subst ha hb;exact h
  |succ i=>exact t.2 i a b (by simpa using ha) (by simpa using hb)⟩
theorem PW.dY{l:H1 γ}(h:PW R [] l):l=[]:=kC h.1.symm
theorem PW.inv{x:α}{xs:H1 α}{l:H1 γ}(h:PW R (x::xs) l):∃y ys,l=y::ys/\R x y/\PW R xs ys:=by
 obtain⟨h1,h2⟩:=h;cases l with
 |nil=>cases h1
 |cons y ys=>exact⟨y,ys,rfl,h2 0 x y rfl rfl,by simpa using h1,λi a b ha hb=>h2 (i+1) a b (by simpa using ha) (by simpa using hb)⟩
theorem PW.get{xs:H1 α}{ys:H1 γ}(h:PW R xs ys){i:Nat}{x:α}(e:xs[i]? =some x):∃y,ys[i]? =some y/\R x y:=by have:=(mJ.1 e).1;have hl:=h.1;exact⟨ys[i],by simp,h.2 i x _ e (by simp)⟩
theorem PW.mono{R':α->γ->Prop}(e:∀x y,R x y->R' x y){xs:H1 α}{ys:H1 γ}(h:PW R xs ys):PW R' xs ys:=⟨h.1,λi x y a b=>e x y (h.2 i x y a b)⟩
theorem PW.append{xs us:H1 α}{ys vs:H1 γ}(h:PW R xs ys)(k:PW R us vs):PW R (xs++us) (ys++vs):=by
 obtain⟨h1,h2⟩:=h;obtain⟨k1,k2⟩:=k;refine⟨by simp[h1,k1],λi x y a b=>?_⟩;rw[List.getElem?_append] at a b;split at a
 ·rw[ay (by omega)] at b;exact h2 i x y a b
 ·rw[aq (by omega)] at b;rw[h1] at a;exact k2 _ x y a b
theorem PW.take{xs:H1 α}{ys:H1 γ}(h:PW R xs ys)(n:Nat):PW R (xs.take n) (ys.take n):=
 ⟨by simp[h.1],λi x y a b=>by rw[o6] at a b;split at a<;>simp_all;exact h.2 i x y a b⟩
theorem PW.drop{xs:H1 α}{ys:H1 γ}(h:PW R xs ys)(n:Nat):PW R (xs.drop n) (ys.drop n):=
 ⟨by simp[h.1],λi x y a b=>by rw[s8] at a b;exact h.2 _ x y a b⟩
theorem PW.set{xs:H1 α}{ys:H1 γ}(h:PW R xs ys){x:α}{y:γ}(r:R x y)(n:Nat):PW R (xs.set n x) (ys.set n y):=
 ⟨by simp[h.1],λi a b ha hb=>by rw[List.getElem?_set] at ha hb;have:=h.1;have:=h.2 i a b;grind⟩
end
def aX{α:Type}:Nat->H1 α->H1 α->H1 α
 |_,[],c=>c
 |n,v::vs,c=>aX (n+1) vs (c.set n v)
theorem nZ{α:Type}:∀(vs:H1 α)(n:Nat)(c:H1 α),(aX n vs c).length=c.length
 |[],_,_=>rfl
 |v::vs,n,c=>by simp only[aX,nZ vs,List.length_set]
theorem PW.aX{α γ:Type}{R:α->γ->Prop}:∀{us:H1 α}{vs:H1 γ},PW R us vs->∀(n:Nat){xs:H1 α}{ys:H1 γ},PW R xs ys->PW R (aX n us xs) (aX n vs ys)
 |[],vs,h,n,_,_,hx=>by rw[h.dY];exact hx
 |u::us,vs,h,n,_,_,hx=>by obtain⟨y,ys,rfl,r,t⟩:=h.inv;exact PW.aX t (n+1) (hx.set r n)
def ae(n:Nat)(cells:H1 Qu):Qu:=.func (.via n #[] 0 true) ⟨cells⟩ #[]
def Ex(cells:H1 Qu):Qu:=.func (.via 0 #[] 0 false) ⟨cells⟩ #[]
def Ee(n:Nat)(cells:H1 Qu):Qu:=.func (.yield n) ⟨cells⟩ #[]
def Vv:Nat:=18446744073709551616
def TK(es:H1 MapEntry):Qu:=.func (.via 0 #[] 7 true) ⟨es.map λe=>.func (.func 0) #[e.key] #[e.val]⟩ #[]
def DU(b:Bool):Qu:=.func (.via 0 #[] (cond b 2 1) true) #[] #[]
def aZ:H1 Qu->Bool
 |[]=>true
 | .agg _::_=>false
 | .tuple _::_=>false
 |_::vs=>aZ vs
theorem qv{x:Qu}{r:H1 Qu}:aZ (x::r)=(aZ [x]&&aZ r):=by cases x<;>simp[aZ]
theorem iV:∀{c:H1 Qu},aZ c=true↔∀x∈c,aZ [x]=true
 |[]=>by simp[aZ]
 |y::r=>by rw[qv,bt,iV (c:=r)];simp
theorem re{c d:H1 Qu}(h:aZ c=true)(s:∀x∈d,x∈c):aZ d=true:=iV.2 λx hx=>iV.1 h x (s x hx)
def fJ(w:Hx)(b i:Nat):Zh Qu:=match w.heap[b]? with
 |some (.map es _)=>some (TK es.toList)
 |_=>w.cell? ⟨b,i,none⟩
theorem q9{w w':Hx}{b i:Nat}(h:w'.heap[b]? =w.heap[b]?):fJ w' b i=fJ w b i:=by
 unfold fJ;rw[h];split
 ·rfl
 ·exact jl h
theorem mq{w:Hx}{b i:Nat}{v:Qu}(h:fJ w b i=some v):b<w.heap.size:=by
 rcases gY b w.heap.size with q|q
 ·grind
 ·unfold fJ World.cell? at h
  grind
theorem sq{w:Hx}{b:Nat}{cs:Array Qu}{e:TypeId}{fz:Nat×Nat}(h:w.heap[b]? =some (.cells cs e fz))(i:Nat):fJ w b i=cs[i]? :=by simp[fJ,World.cell?,h]
inductive aK(m:Nat->Nat->Option Value):Value->Value->Prop where
 |bool (b:Bool):aK m (.bool b) (.bool b)
 |int (k:IntKind) (n:Int):aK m (.int k n) (.int k n)
 |str (s:ByteArray):aK m (.string s) (.string s)
 |sJ:aK m (.pointer none) (.pointer none)
 |PB:aK m (.slice none 0 0) (.slice none 0 0)
 |EB:aK m (.map none) (.map none)
 |nilFunc:aK m .nilFunc .nilFunc
 |nilIface:aK m .nilIface .nilIface
 |agg {xs xs':Array Value} (hl:xs.toList.length=xs'.toList.length) (h:∀(i:Nat) x y,xs.toList[i]? =some x->xs'.toList[i]? =some y->aK m x y):aK m (.agg xs) (.agg xs')
 |aH {xs xs':Array Value} (hl:xs.toList.length=xs'.toList.length) (h:∀(i:Nat) x y,xs.toList[i]? =some x->xs'.toList[i]? =some y->aK m x y):aK m (.tuple xs) (.tuple xs')
 |fn {f:FuncId} {xs ys xs' ys':Array Value} (hl:xs.toList.length=xs'.toList.length) (h:∀(i:Nat) x y,xs.toList[i]? =some x->xs'.toList[i]? =some y->aK m x y)
  (kl:ys.toList.length=ys'.toList.length) (k:∀(i:Nat) x y,ys.toList[i]? =some x->ys'.toList[i]? =some y->aK m x y):aK m (.func (.func f) xs ys) (.func (.func f) xs' ys')
 |kv {n c:Nat} {cs:Array Value} {a:Addr} {ys:List Value} (hl:cs.toList.length=ys.length) (h:∀(i:Nat) x y,cs.toList[i]? =some x->ys[i]? =some y->aK m x y)
  (hm:∀(i:Nat) y,ys[i]? =some y->m a.block (a.off+i)=some y) (hs:a.spot=none) (hn:n<=c) (ho:aZ cs.toList=true):aK m (.func (.via n #[] 0 true) cs #[]) (.slice (some a) n c)
 |fW {c:Nat} {a:Option Addr}:aK m (.func (.via 0 #[] 0 true) #[] #[]) (.slice a 0 c)
 |zH {c:Nat} {a:Addr}:aK m (.func (.via 0 #[] 1 true) #[] #[]) (.slice (some a) 0 c)
 |A7 {c:Nat}:aK m (.func (.via 0 #[] 2 true) #[] #[]) (.slice none 0 c)
 |vR {cs:Array Value} {a:Addr} {ys:List Value} (hl:cs.toList.length=ys.length) (h:∀(i:Nat) x y,cs.toList[i]? =some x->ys[i]? =some y->aK m x y)
  (hm:∀(i:Nat) y,ys[i]? =some y->m a.block (a.off+i)=some y) (hs:a.spot=none) (ho:aZ cs.toList=true):aK m (.func (.via 0 #[] 0 false) cs #[]) (.pointer (some a))
 |EF {cs:Array Value} {ys:List Value} {b:Nat} (hl:cs.toList.length=ys.length) (h:∀(i:Nat) x y,cs.toList[i]? =some x->ys[i]? =some y->aK m x y)
  (hm:∀i,m b i=some (.func (.via 0 #[] 7 true) ⟨ys⟩ #[])):aK m (.func (.method "") cs #[]) (.map (some b))
 |AF {n:Nat} {cs:Array Value} {a:Option Addr} (h:aK m (.func (.via n #[] 0 true) cs #[]) (.slice a n n)):aK m (.func (.yield n) cs #[]) (.slice a n n)
 |iface {t:TypeId} {xs xs':Array Value} (hl:xs.toList.length=xs'.toList.length) (h:∀(i:Nat) x y,xs.toList[i]? =some x->xs'.toList[i]? =some y->aK m x y) (ho:aZ xs.toList=true):aK m (.iface t (.agg xs)) (.iface t (.agg xs'))
theorem aK.mono{m m':Nat->Nat->Zh Qu}(e:∀b i v,m b i=some v->m' b i=some v){v v':Qu}(h:aK m v v'):aK m' v v':=by
 induction h with
 |bool=>exact .bool _
 |int=>exact .int _ _
 |str=>exact .str _
 |sJ=>exact .sJ
 |PB=>exact .PB
 |EB=>exact .EB
 |nilFunc=>exact .nilFunc
 |nilIface=>exact .nilIface
 |agg hl _ ih=>exact .agg hl ih
 |aH hl _ ih=>exact .aH hl ih
 |fn hl _ kl _ ih ik=>exact .fn hl ih kl ik
 |kv hl _ hm hs hn ho ih=>exact .kv hl ih (λi y hy=>e _ _ _ (hm i y hy)) hs hn ho
 |fW=>exact .fW
 |zH=>exact .zH
 |A7=>exact .A7
 |vR hl _ hm hs ho ih=>exact .vR hl ih (λi y hy=>e _ _ _ (hm i y hy)) hs ho
 |EF hl _ hm ih=>exact .EF hl ih λi=>e _ _ _ (hm i)
 |AF _ ih=>exact .AF ih
 |iface hl _ ho ih=>exact .iface hl ih ho
theorem aK.one{m:Nat->Nat->Zh Qu}{v v':Qu}(h:aK m v v'):aZ [v']=aZ [v]:=by cases h<;>rfl
theorem Bf{m:Nat->Nat->Zh Qu}{c cs:H1 Qu}(h:PW (aK m) c cs)(o:aZ c=true):aZ cs=true:=iV.2 λy hy=>by obtain⟨i,hi⟩:=List.mem_iff_getElem?.1 hy;have:=(mJ.1 hi).1;have hl:=h.1;have r:=h.2 i c[i] y (by simp) hi;rw[r.one];exact iV.1 o _ (cx _)
end Lt
end
namespace Lt
section
inductive SV where
 |i (k:IntKind) (n:Int)
 |b (x:Bool)
 |s (x:ByteArray)
 |v (x:Value)
 |nl
 |agg (l:List SV)
 |aH (l:List SV)
 |ptr (id off:Nat)
 |lp (cells:List Value)
 |sl (id off n cap:Nat)
 |gr (id E:Nat)
 |fn (f:FuncId) (l:List SV)
 |fe (t:TypeId) (x:SV)
 |em (b:Bool)
 |ni
 |mp (id:Nat)
inductive SO where
 |cells (c:List SV) (t:TypeId)
 |arr (c:List Value) (t:TypeId)
 |grow (E:Nat) (c:List Value) (t:TypeId)
 |mp (es:List (Value×SV))
structure St where
 tm:Tr SV
 h:Tr SO
 sx:Nat
structure Ren where
 nm:Nat->Option (Option (Nat×Nat)×Nat)
 lit:Nat->Nat->Option Value
structure Ext(σ σ':Ren):Prop where
 nm:∀id x,σ.nm id=some x->σ'.nm id=some x
 lit:∀b i v,σ.lit b i=some v->σ'.lit b i=some v
theorem Ext.refl(σ:Ren):Ext σ σ:=⟨λ_ _ h=>h,λ_ _ _ h=>h⟩
theorem Ext.trans{a b c:Ren}(h:Ext a b)(k:Ext b c):Ext a c:=⟨λi x e=>k.nm i x (h.nm i x e),λb i v e=>k.lit b i v (h.lit b i v e)⟩
def se(f:Nat)(ys:H1 Qu):Qu:=.func (.func (f%65536)) ⟨ys.take (f/65536)⟩ ⟨ys.drop (f/65536)⟩
inductive DV(σ:Ren):SV->Value->Prop where
 |i (k:IntKind) (n:Int):DV σ (.i k n) (.int k n)
 |b (x:Bool):DV σ (.b x) (.bool x)
 |s (x:ByteArray):DV σ (.s x) (.string x)
 |v {x y:Value} (h:aK σ.lit x y) (h1:aZ [x]=true):DV σ (.v x) y
 |nl:DV σ .nl (.slice none 0 0)
 |agg {l:List SV} {xs:Array Value} (hl:l.length=xs.toList.length) (h:∀(i:Nat) x y,l[i]? =some x->xs.toList[i]? =some y->DV σ x y):DV σ (.agg l) (.agg xs)
 |aH {l:List SV} {xs:Array Value} (hl:l.length=xs.toList.length) (h:∀(i:Nat) x y,l[i]? =some x->xs.toList[i]? =some y->DV σ x y):DV σ (.aH l) (.tuple xs)
 |ptr {id off n:Nat} {o:Nat×Nat} (h:σ.nm id=some (some o,n)):DV σ (.ptr id off) (.pointer (some ⟨o.1,off,none⟩))
 |lp {cells:List Value} {v:Value} (h:aK σ.lit (Ex cells) v):DV σ (.lp cells) v
 |sl {id off n cap m:Nat} {o:Nat×Nat} (h:σ.nm id=some (some o,m)) (hn:n<=cap):DV σ (.sl id off n cap) (.slice (some ⟨o.1,off,none⟩) n cap)
 |jJ {id E:Nat} (h:σ.nm id=some (none,0)):DV σ (.gr id E) (.slice none 0 0)
 |gr {id E n c:Nat} {o:Nat×Nat} (h:σ.nm id=some (some o,n)) (hc:c*E=o.2) (hn:n<=c):DV σ (.gr id E) (.slice (some ⟨o.1,0,none⟩) n c)
 |fn {f:FuncId} {l:List SV} {ys:List Value} (hl:l.length=ys.length) (h:∀(i:Nat) x y,l[i]? =some x->ys[i]? =some y->DV σ x y):DV σ (.fn f l) (se f ys)
 |fe {t:TypeId} {x:SV} {v:Value} (h:DV σ x v):DV σ (.fe t x) (.iface t v)
 |em {b:Bool} {v:Value} (h:aK σ.lit (DU b) v):DV σ (.em b) v
 |ni:DV σ .ni .nilIface
 |mp {id n:Nat} {o:Nat×Nat} (h:σ.nm id=some (some o,n)):DV σ (.mp id) (.map (some o.1))
abbrev eR(σ:Ren):=PW (DV σ)
theorem DV.mono{σ σ':Ren}(e:Ext σ σ'){x:SV}{v:Qu}(h:DV σ x v):DV σ' x v:=by
 induction h with
 |i=>exact .i _ _
 |b=>exact .b _
 |s=>exact .s _
 |v h h1=>exact .v (h.mono e.lit) h1
 |nl=>exact .nl
 |agg hl _ ih=>exact .agg hl ih
 |aH hl _ ih=>exact .aH hl ih
 |ptr h=>exact .ptr (e.nm _ _ h)
 |lp h=>exact .lp (h.mono e.lit)
 |sl h hn=>exact .sl (e.nm _ _ h) hn
 |jJ h=>exact .jJ (e.nm _ _ h)
 |gr h hc hn=>exact .gr (e.nm _ _ h) hc hn
 |fn hl _ ih=>exact .fn hl ih
 |fe _ ih=>exact .fe ih
 |em h=>exact .em (h.mono e.lit)
 |ni=>exact .ni
 |mp h=>exact .mp (e.nm _ _ h)
theorem eR.mono{σ σ':Ren}(e:Ext σ σ'){xs:H1 SV}{vs:H1 Qu}(h:eR σ xs vs):eR σ' xs vs:=PW.mono (λ_ _=>DV.mono e) h
def uQ(fz:Nat×Nat)(n:Nat):Prop:=fz=(0,0)\/n<=fz.1
def Cl(w:Hx)(b:Nat)(cs:Array Qu)(t:TypeId):Prop:=∃fz,w.heap[b]? =some (.cells cs t fz)/\uQ fz cs.size
def I4(σ:Ren)(e:Qu×SV)(m:MapEntry):Prop:=m.key=e.1 /\DV σ e.2 m.val
def DO(σ:Ren)(w:Hx)(id:Nat):SO->Prop
 | .cells c t=>∃o n cs,σ.nm id=some (some o,n)/\Cl w o.1 cs t/\eR σ c cs.toList
 | .arr c t=>∃o n cs,σ.nm id=some (some o,n)/\Cl w o.1 cs t/\aZ c=true/\PW (aK σ.lit) c cs.toList
 | .grow E c t=>0<E/\aZ c=true/\(σ.nm id=some (none,0)/\c=[]\/∃o n cs,σ.nm id=some (some o,n)/\Cl w o.1 cs t/\o.2 =cs.size/\c.length=n*E/\c.length<=cs.size/\PW (aK σ.lit) c (cs.toList.take c.length))
 | .mp es=>∃o n es' ck,σ.nm id=some (some o,n)/\w.heap[o.1]? =some (.map es' ck)/\PW (I4 σ) es es'.toList
theorem DO.nm{σ:Ren}{w:Hx}{id:Nat}{so:SO}(d:DO σ w id so):σ.nm id=some (none,0)\/∃o n,σ.nm id=some (some o,n)/\o.1 <w.heap.size:=by
 have key:∀{b cs t},Cl w b cs t->b<w.heap.size:=λ⟨_,h,_⟩=>by grind
 cases so with
 |cells=>obtain⟨o,n,cs,a,b,_⟩:=d;exact .inr ⟨o,n,a,key b⟩
 |arr=>obtain⟨o,n,cs,a,b,_⟩:=d;exact .inr ⟨o,n,a,key b⟩
 |grow=>
  rcases d.2.2 with⟨a,_⟩|⟨o,n,cs,a,b,_⟩
  ·exact .inl a
  ·exact .inr ⟨o,n,a,key b⟩
 |mp=>obtain⟨o,n,es',ck,a,b,_⟩:=d;exact .inr ⟨o,n,a,by grind⟩
theorem DO.mono{σ σ':Ren}(e:Ext σ σ'){w w':Hx}{id:Nat}{so:SO}(d:DO σ w id so)(he:∀o n,σ.nm id=some (some o,n)->w'.heap[o.1]? =w.heap[o.1]?):DO σ' w' id so:=by
 have key:∀{o n cs t},σ.nm id=some (some o,n)->Cl w o.1 cs t->Cl w' o.1 cs t:=λa ⟨fz,h,k⟩=>⟨fz,(he _ _ a).trans h,k⟩;cases so with
 |cells=>obtain⟨o,n,cs,a,b,c⟩:=d;exact⟨o,n,cs,e.nm _ _ a,key a b,c.mono e⟩
 |arr=>obtain⟨o,n,cs,a,b,c,r⟩:=d;exact⟨o,n,cs,e.nm _ _ a,key a b,c,r.mono λ_ _=>aK.mono e.lit⟩
 |grow=>
  obtain⟨p,q,d⟩:=d;refine⟨p,q,?_⟩;rcases d with⟨a,b⟩|⟨o,n,cs,a,b,c,f,g,r⟩
  ·exact .inl ⟨e.nm _ _ a,b⟩
  ·exact .inr ⟨o,n,cs,e.nm _ _ a,key a b,c,f,g,r.mono λ_ _=>aK.mono e.lit⟩
 |mp=>obtain⟨o,n,es',ck,a,b,c⟩:=d;exact⟨o,n,es',ck,e.nm _ _ a,(he _ _ a).trans b,c.mono λ_ _ q=>⟨q.1,q.2.mono e⟩⟩
structure eS(own:Nat->Prop)(w w':World):Prop where
 os:w'.os=w.os
 tape:w'.tape=w.tape
 output:w'.output=w.output
 size:w.heap.size<=w'.heap.size
 block:∀b,b<w.heap.size->¬own b->w'.heap[b]? =w.heap[b]?
theorem eS.refl(own:Nat->Prop)(w:Hx):eS own w w:=⟨rfl,rfl,rfl,aM _,λ_ _ _=>rfl⟩
theorem eS.trans{own own':Nat->Prop}{a b c:Hx}(h:eS own a b)(k:eS own' b c)(s:∀n,own' n->own n\/a.heap.size<=n):eS own a c:=
 ⟨k.os.trans h.os,k.tape.trans h.tape,k.output.trans h.output,fE h.size k.size,λn hn ho=>(k.block n (o9 hn h.size) λq=>by rcases s n q with q|q;exact ho q;omega).trans (h.block n hn ho)⟩
theorem eS.wide{own own':Nat->Prop}{a b:Hx}(h:eS own a b)(s:∀n,own n->own' n):eS own' a b:=⟨h.os,h.tape,h.output,h.size,λn hn ho=>h.block n hn λq=>ho (s n q)⟩
structure Bs where
 w:World
 own:Nat->Prop
 lit:Nat->Nat->Option Value
 an:Nat
 nm:Nat->Option (Option (Nat×Nat)×Nat)
 n:Nat
 dQ:List Deferred
def Own(σ:Ren)(G:Nat->SO->Prop)(b:Nat):Prop:=∃id so o n,G id so/\σ.nm id=some (some o,n)/\o.1 =b
structure Mem(B:Bs)(σ:Ren)(G:Nat->SO->Prop)(F:Nat->Prop)(w:World):Prop where
 obj:∀id so,G id so->DO σ w id so
 inj:∀i j so so' o o' n n',G i so->G j so'->σ.nm i=some (some o,n)->σ.nm j=some (some o',n')->o.1 =o'.1 ->i=j
 fresh:∀id,F id->σ.nm id=none
 lit:∀b i v,σ.lit b i=some v->fJ w b i=some v
 free:∀b i v,σ.lit b i=some v->¬Own σ G b
 base:eS B.own B.w w
 owned:∀b,Own σ G b->B.own b\/B.w.heap.size<=b
 lP:∀b i v,σ.lit b i=some v->B.lit b i=some v\/B.own b\/B.w.heap.size<=b
 jU:∀k,k<B.an->∀x,B.nm k=some x->σ.nm k=some x
 mW:∀b i v,B.lit b i=some v->σ.lit b i=some v
theorem Mem.lt{B:Bs}{σ:Ren}{G:Nat->SO->Prop}{F:Nat->Prop}{w:Hx}(M:Mem B σ G F w){id n:Nat}{so:SO}{o:Nat×Nat}(h:G id so)(k:σ.nm id=some (some o,n)):o.1 <w.heap.size:=by rcases(M.obj id so h).nm with q|⟨o',n',q,r⟩<;>rw[k] at q<;>cases q;exact r
theorem Mem.IH{B:Bs}{σ σ':Ren}{G G':Nat->SO->Prop}{F F':Nat->Prop}{w w':Hx}(M:Mem B σ G F w)(E:∀id x,σ.nm id=some x->σ'.nm id=some x)(hl:σ'.lit=σ.lit)(fr:eS (Own σ G) w w')
 (src:∀id so,G' id so->(G id so/\∀o n,σ.nm id=some (some o,n)->w'.heap[o.1]? =w.heap[o.1]?)\/DO σ' w' id so)
 (orig:∀id so o n,G' id so->σ'.nm id=some (some o,n)->Own σ G o.1 \/w.heap.size<=o.1)
 (inj:∀i j so so' o o' n n',G' i so->G' j so'->σ'.nm i=some (some o,n)->σ'.nm j=some (some o',n')->o.1 =o'.1 ->i=j) (fresh:∀id,F' id->σ'.nm id=none):Mem B σ' G' F' w':=by
 have E':Ext σ σ':=⟨E,by rw[hl];exactλ_ _ _ h=>h⟩;have ow:∀b,Own σ' G' b->Own σ G b\/w.heap.size<=b:=λb ⟨id,so,o,n,h1,h2,h3⟩=>h3▸orig id so o n h1 h2;refine⟨λid so h=>?_,inj,fresh,λb i v h=>?_,λb i v h q=>?_,M.base.trans fr M.owned,λb h=>?_,by rw[hl];exact M.lP,λk hk x hx=>E k x (M.jU k hk x hx),by rw[hl];exact M.mW⟩
 ·rcases src id so h with⟨a,b⟩|a
  ·exact(M.obj id so a).mono E' b
  ·exact a
 ·rw[hl] at h;rw[q9 (fr.block b (mq (M.lit b i v h)) (M.free b i v h))];exact M.lit b i v h
 ·rw[hl] at h;rcases ow b q with q|q
  ·exact M.free b i v h q
  ·have:=mq (M.lit b i v h);omega
 ·rcases ow b h with q|q
  ·exact M.owned b q
  ·exact .inr (fE M.base.size q)
def Ren.add(σ:Ren)(id:Nat)(x:Zh (Nat×Nat)×Nat):Ren:=⟨λj=>if j=id then some x else σ.nm j,σ.lit⟩
theorem Ren.jE(σ:Ren)(id:Nat)(x:Zh (Nat×Nat)×Nat):(σ.add id x).nm id=some x:=ay rfl
theorem Ren.uZ{σ:Ren}{id j:Nat}{x:Zh (Nat×Nat)×Nat}(h:j≠id):(σ.add id x).nm j=σ.nm j:=aq h
theorem Ren.zV{σ:Ren}{id:Nat}{x:Zh (Nat×Nat)×Nat}(h:σ.nm id=none):Ext σ (σ.add id x):=⟨λj y hj=>by
 by_cases e:j=id
 ·subst e;rw[h] at hj;cases hj
 ·rw[Ren.uZ e];exact hj,λ_ _ _ h=>h⟩
abbrev hG(h:Tr SO):Nat->SO->Prop:=λid so=>h.get id=some so
abbrev jb(B:Bs)(σ:Ren)(h:Tr SO)(sx:Nat)(w:Hx):Prop:=Mem B σ (hG h) (λid=>sx<=id) w
def mf(F:Nat->Prop)(a b:Nat):Nat->Prop:=λid=>F id/\¬(a<=id/\id<b)
section
variable{B:Bs} {σ:Ren} {h:Tr SO} {F:Nat->Prop} {sx:Nat} {w w':Hx} (M:Mem B σ (hG h) F w)
include M
theorem Mem.swap(hF:F sx){id:Nat}{x:Zh (Nat×Nat)×Nat}{so:SO}(fr:eS (Own σ (hG h)) w w')(hx:∀o n,x=(some o,n)->w.heap.size<=o.1 \/∃s m p,h.get id=some s/\σ.nm id=some (some p,m)/\p.1 =o.1)
 (tR:∀j s o n,j≠id->h.get j=some s->σ.nm j=some (some o,n)->w'.heap[o.1]? =w.heap[o.1]?) (d:DO (σ.add sx x) w' sx so):
 Ext σ (σ.add sx x)/\Mem B (σ.add sx x) (hG ((h.del id).set sx so)) (mf F sx (sx+1)) w':=by
 have hn:=M.fresh sx hF;have old:∀j s,((h.del id).set sx so).get j=some s->j=sx/\s=so\/j≠sx/\j≠id/\h.get j=some s:=by
  intro j s hj;rw[Tr.fN,Tr.sk] at hj
  grind
 refine⟨Ren.zV hn,M.IH (Ren.zV hn).nm rfl fr (λj s hj=>?_) (λj s o n hj ho=>?_) (λi j s s' o o' n n' a1 a2 b1 b2 e=>?_) λj hj=>?_⟩
 ·rcases old j s hj with⟨rfl,rfl⟩|⟨_,h2,h3⟩
  ·exact .inr d
  ·exact .inl ⟨h3,λo n q=>tR j s o n h2 h3 q⟩
 ·rcases old j s hj with⟨rfl,rfl⟩|⟨h1,h2,h3⟩
  ·rw[Ren.jE] at ho;rcases hx o n (by cases ho;rfl) with q|⟨s,m,p,q1,q2,q3⟩
   ·exact .inr q
   ·exact .inl ⟨id,s,p,m,q1,q2,q3⟩
  ·rw[Ren.uZ h1] at ho;exact .inl ⟨j,s,o,n,h3,ho,rfl⟩
 ·have one:∀j s o o' n n',j≠sx->j≠id->h.get j=some s->x=(some o,n)->σ.nm j=some (some o',n')->o.1 =o'.1 ->False:=by
   intro j s o o' n n' k1 k2 k3 k4 k5 k6;rcases hx o n k4 with q|⟨s',m,p,q1,q2,q3⟩
   ·have:=M.lt k3 k5;omega
   ·exact k2 (M.inj _ _ _ _ _ _ _ _ k3 q1 k5 q2 (by omega))
  rcases old i s a1 with⟨rfl,rfl⟩|⟨h1,h2,h3⟩<;>rcases old j s' a2 with⟨rfl,rfl⟩|⟨k1,k2,k3⟩
  ·rfl
  ·rw[Ren.jE] at b1;rw[Ren.uZ k1] at b2;exact(one j s' o o' n n' k1 k2 k3 (by cases b1;rfl) b2 e).elim
  ·rw[Ren.jE] at b2;rw[Ren.uZ h1] at b1;exact(one i s o' o n' n h1 h2 h3 (by cases b2;rfl) b1 e.symm).elim
  ·rw[Ren.uZ h1] at b1;rw[Ren.uZ k1] at b2;exact M.inj _ _ _ _ _ _ _ _ h3 k3 b1 b2 e
 ·rw[Ren.uZ (λe=>hj.2 (by omega))];exact M.fresh j hj.1
theorem Mem.new(hF:F sx){c n:Nat}{so:SO}(fr:eS (λ_=>False) w w')(d:DO (σ.add sx (some (w.heap.size,c),n)) w' sx so):
 Ext σ (σ.add sx (some (w.heap.size,c),n))/\Mem B (σ.add sx (some (w.heap.size,c),n)) (hG (h.set sx so)) (mf F sx (sx+1)) w':=by
 have hd:h.get sx=none:=by
  cases q:h.get sx with
  |none=>rfl
  |some s=>rcases(M.obj sx s q).nm with k|⟨_,_,k,_⟩<;>rw[M.fresh sx hF] at k<;>cases k
 have:=M.swap hF (id:=sx) (fr.wide λ_ q=>q.elim) (λo n e=>.inl (by cases e;exact aM _)) (λj s o n _ h1 h2=>fr.block _ (M.lt h1 h2) id) d;refine⟨this.1,?_⟩;have e:hG ((h.del sx).set sx so)=hG (h.set sx so):=by
  funext j s
  simp only[hG,Tr.fN,Tr.sk]
  grind
 have h2:=this.2;rwa[e] at h2
theorem Mem.put{id n:Nat}{o:Nat×Nat}{so so':SO}(ho:h.get id=some so)(hσ:σ.nm id=some (some o,n))(fr:eS (λb=>b=o.1) w w')(d:DO σ w' id so'):Mem B σ (hG (h.set id so')) F w':=by
 have dom:∀j s,(h.set id so').get j=some s->∃s',h.get j=some s':=λj s hj=>by rw[Tr.fN] at hj;grind
 refine M.IH (λ_ _ h=>h) rfl (fr.wide λb e=>⟨id,so,o,n,ho,hσ,e.symm⟩) (λj s hj=>?_) (λj s p m hj hp=>?_) (λi j s s' p p' m m' a1 a2 b1 b2 e=>?_) M.fresh
 ·by_cases e:j=id
  ·subst e;simp only[hG,Tr.fN,ea] at hj;cases hj;exact .inr d
  ·simp only[hG,Tr.fN,aq e] at hj;exact .inl ⟨hj,λp m hp=>fr.block _ (M.lt hj hp) λq=>e (M.inj _ _ _ _ _ _ _ _ hj ho hp hσ q)⟩
 ·obtain⟨s',hs⟩:=dom j s hj;exact .inl ⟨j,s',p,m,hs,hp,rfl⟩
 ·obtain⟨_,f1⟩:=dom i s a1;obtain⟨_,f2⟩:=dom j s' a2;exact M.inj _ _ _ _ _ _ _ _ f1 f2 b1 b2 e
end
theorem Mem.less{B:Bs}{σ:Ren}{G G':Nat->SO->Prop}{F F':Nat->Prop}{w:Hx}(M:Mem B σ G F w)(s:∀id so,G' id so->G id so)(f:∀id,F' id->F id):Mem B σ G' F' w:=
 have o:∀b,Own σ G' b->Own σ G b:=λ_ ⟨id,so,o,n,a,b,c⟩=>⟨id,so,o,n,s _ _ a,b,c⟩
 ⟨λid so h=>M.obj id so (s id so h),λi j so so' o o' n n' a b=>M.inj i j so so' o o' n n' (s _ _ a) (s _ _ b),λid h=>M.fresh id (f id h),M.lit,λb i v h q=>M.free b i v h (o b q),M.base,λb h=>M.owned b (o b h),M.lP,M.jU,M.mW⟩
theorem Mem.same{B:Bs}{σ:Ren}{G:Nat->SO->Prop}{F:Nat->Prop}{w w':Hx}(M:Mem B σ G F w)(fr:eS (λ_=>False) w w'):Mem B σ G F w':=
 M.IH (λ_ _ h=>h) rfl (fr.wide λ_ q=>q.elim) (λid so h=>.inl ⟨h,λo n q=>fr.block _ (M.lt h q) λq=>q⟩) (λid so o n h q=>.inl ⟨id,so,o,n,h,q,rfl⟩) M.inj M.fresh
theorem Mem.ade{B:Bs}{σ:Ren}{G:Nat->SO->Prop}{F:Nat->Prop}{w w':Hx}(M:Mem B σ G F w)(fr:eS (λ_=>False) w w'){l:H1 Qu}(hl:∀(i:Nat) v,l[i]? =some v->fJ w' w.heap.size i=some v):
 Ext σ ⟨σ.nm,λb i=>if b=w.heap.size then l[i]? else σ.lit b i⟩/\Mem B ⟨σ.nm,λb i=>if b=w.heap.size then l[i]? else σ.lit b i⟩ G F w':=by
 have lt:∀b i v,σ.lit b i=some v->b<w.heap.size:=λb i v h=>mq (M.lit b i v h);have E:Ext σ ⟨σ.nm,λb i=>if b=w.heap.size then l[i]? else σ.lit b i⟩:=⟨λ_ _ h=>h,λb i v h=>by have:=lt b i v h;show(if b=w.heap.size then l[i]? else σ.lit b i)=some v;rw[aq (by omega)];exact h⟩;refine⟨E,λid so h=>(M.obj id so h).mono E λo n q=>fr.block _ (M.lt h q) λz=>z,M.inj,M.fresh,λb i v h=>?_,λb i v h q=>?_,M.base.trans fr λ_ h=>h.elim,M.owned,λb i v h=>?_,M.jU,λb i v h=>E.lit _ _ _ (M.mW b i v h)⟩
 ·replace h:(if b=w.heap.size then l[i]? else σ.lit b i)=some v:=h;split at h
  ·rename_i e;subst e;exact hl i v h
  ·rw[q9 (fr.block b (lt b i v h) id)];exact M.lit b i v h
 ·replace h:(if b=w.heap.size then l[i]? else σ.lit b i)=some v:=h;obtain⟨id,so,o,n,h1,h2,h3⟩:=q;have:=M.lt h1 h2;rw[aq (by omega)] at h;exact M.free b i v h ⟨id,so,o,n,h1,h2,h3⟩
 ·replace h:(if b=w.heap.size then l[i]? else σ.lit b i)=some v:=h;split at h
  ·rename_i e;subst e;exact .inr (.inr M.base.size)
  ·exact M.lP b i v h
end
section
theorem tA(b k i:Nat):(⟨b,k,none⟩:Addr).add i=⟨b,k+i,none⟩:=by unfold Addr.add;simp
theorem cell_of{w:Hx}{b:Nat}{cs:Array Qu}{e:TypeId}{fz:Nat×Nat}(h:w.heap[b]? =some (.cells cs e fz))(k:Nat):w.cell? ⟨b,k,none⟩=cs[k]? :=by simp[World.cell?,h]
theorem abL{w:Hx}{b:Nat}{cs:Array Qu}{e:TypeId}{fz:Nat×Nat}(h:w.heap[b]? =some (.cells cs e fz))(hz:uQ fz cs.size)(k:Nat)(hk:k<cs.size):w.frozen? ⟨b,k,none⟩=false:=by
 simp[World.frozen?,h];rcases hz with rfl|hz
 ·simp
 grind
theorem Xe(P:Program){w:Hx}{b k:Nat}{cs:Array Qu}{e:TypeId}{fz:Nat×Nat}(h:w.heap[b]? =some (.cells cs e fz)):
 ∀(n i:Nat)(acc:Array Qu),k+i+n<=cs.size->∃vs,(loadCellsFrom ⟨b,k,none⟩ i n acc).run P w=.ok vs w/\vs.toList=acc.toList++(cs.toList.drop (k+i)).take n
 |0,i,acc,_=>⟨acc,by simp[loadCellsFrom],by simp⟩
 |n+1,i,acc,hle=>by
  have hlt:k+i<cs.size:=by omega
  obtain⟨vs,h1,h2⟩:=Xe P (k:=k) h n (i+1) (acc.push cs[k+i]) (by omega);refine⟨vs,?_,?_⟩
  ·simp[loadCellsFrom,tA,(show w.cell? ⟨b,k+i,none⟩=some cs[k+i] from by rw[cell_of h,zI hlt])];exact h1
  ·rw[h2];rw[show k+(i+1)=k+i+1 from rfl,cW (show k+i<cs.toList.length from by simpa using hlt)];simp
theorem BH(P:Program){w:Hx}{b k n:Nat}{cs:Array Qu}{e:TypeId}{fz:Nat×Nat}(h:w.heap[b]? =some (.cells cs e fz))(hle:k+n<=cs.size):
 ∃vs,(loadCells ⟨b,k,none⟩ n).run P w=.ok vs w/\vs.toList=(cs.toList.drop k).take n:=by
 obtain⟨vs,h1,h2⟩:=Xe P h n 0 #[] (by omega);exact⟨vs,h1,by simpa using h2⟩
theorem XO{w:Hx}{b k:Nat}{cs:Array Qu}{e:TypeId}{fz:Nat×Nat}(h:w.heap[b]? =some (.cells cs e fz))(v:Qu):
 (w.setCell ⟨b,k,none⟩ v).heap[b]? =some (.cells (cs.setIfInBounds k v) e fz):=by
 simp[World.setCell,Array.getElem?_modify,h]
theorem XN{w:Hx}{b k b':Nat}(v:Qu)(hb:b'≠b):(w.setCell ⟨b,k,none⟩ v).heap[b']? =w.heap[b']? :=by simp[World.setCell,Array.getElem?_modify,Ne.symm hb]
theorem XP(w:Hx)(a:Addr)(v:Qu):(w.setCell a v).heap.size=w.heap.size:=by simp
theorem BI(P:Program){b k:Nat}{e:TypeId}{fz:Nat×Nat}:
 ∀(vs:H1 Qu)(i:Nat)(w:Hx)(cs:Array Qu),w.heap[b]? =some (.cells cs e fz)->uQ fz cs.size->k+i+vs.length<=cs.size->(∀v∈vs,v.oneCell'=true)->
  ∃w',(storeCells ⟨b,k,none⟩ vs i).run P w=.ok () w'/\w'.heap[b]? =some (.cells ⟨aX (k+i) vs cs.toList⟩ e fz)/\(∀b',b'≠b->w'.heap[b']? =w.heap[b']?)/\
   w'.heap.size=w.heap.size/\w'.os=w.os/\w'.tape=w.tape/\w'.output=w.output
 |[],i,w,cs,h,_,_,_=>⟨w,by simp[storeCells],by simpa[aX] using h,λ_ _=>rfl,rfl,rfl,rfl,rfl⟩
 |v::vs,i,w,cs,h,hz,hle,hv=>by
  simp at hle;have hlt:k+i<cs.size:=by omega
  obtain⟨w',h1,h2,h3,h4,h5,h6,h7⟩:=BI P (k:=k) vs (i+1) (w.setCell ⟨b,k+i,none⟩ v) _ (XO h v) (by simpa using hz) (by simp;omega) (λx hx=>hv x (lU _ hx));refine⟨w',?_,?_,?_,by rw[h4,XP],h5,h6,h7⟩
  ·simp[storeCells,tA,run_store P w _ v .plain (hv v nr),(show w.cell? ⟨b,k+i,none⟩=some cs[k+i] from by rw[cell_of h,zI hlt]),(abL h hz (k+i) hlt)];exact h1
  ·rw[h2];simp[aX,o8]
  ·intro b' hb';rw[h3 b' hb',XN v hb']
structure jd where
 desc:TypeDesc
 size:Nat
 bytes:Nat
 zero:Option Value
 flat:Bool:=false
 direct:List (String×FuncId):=[]
abbrev TT:=Tr jd
def zO(P:Program)(n:Nat):TypeDesc->Prop
 | .struct fs=>fs.size=n/\∀(i:Nat)(f:Field),fs[i]? =some f->f.name≠ "_"/\f.offset=i/\(∃k,P.underlying f.type=some (.int k))/\∃inf,P.info? f.type=some inf/\inf.size=1
 | .array len e=>len=n/\(∃k,P.underlying e=some (.int k))/\∃inf,P.info? e=some inf/\inf.size=1
 |_=>False
structure eZ(P:Program)(T:TT):Prop where
 under:∀t i,T.get t=some i->P.underlying t=some i.desc
 info:∀t i,T.get t=some i->∃inf,P.info? t=some inf/\inf.size=i.size/\inf.bytes=i.bytes/\∀z,i.zero=some z->inf.zero=some z
 flat:∀t i,T.get t=some i->i.flat=true->P.eqGuardType P.depth t=false/\P.stoodInHeld t=false/\zO P i.size i.desc
 Lk:∀t i,T.get t=some i->∀e∈i.direct,∃inf m,P.info? t=some inf/\inf.methods.find? (·.name==e.1)=some m/\m.path=#[]/\m.func=some (e.2,false)/\∀u,i.desc≠.pointer u
def ob{α β:Type}(x:Zh α)(f:α->Zh β):Zh β:=match x with|none=>none|some a=>f a
theorem ax{α β:Type}{x:Zh α}{f:α->Zh β}{b:β}(h:ob x f=some b):∃a,x=some a/\f a=some b:=by
 cases x with
 |none=>cases h
 |some a=>exact⟨a,rfl,h⟩
section
variable{P:Program} {T:TT} {t:TypeId} {i:jd} (w:Hx)
theorem gN(H:eZ P T)(h:T.get t=some i):(underlying t).run P w=.ok i.desc w:=by simp[underlying,H.under t i h]
theorem Nj(H:eZ P T)(h:T.get t=some i):∃inf,(typeInfo t).run P w=.ok inf w/\inf.size=i.size/\inf.bytes=i.bytes/\∀z,i.zero=some z->inf.zero=some z:=by obtain⟨inf,h1,h2⟩:=H.info t i h;exact⟨inf,by simp[typeInfo,h1],h2⟩
theorem run_sizeOf(H:eZ P T)(h:T.get t=some i):(sizeOf t).run P w=.ok i.size w:=by obtain⟨inf,h1,h2,_⟩:=Nj w H h;simp[sizeOf,h1,h2]
theorem sL(H:eZ P T)(h:T.get t=some i){z:Qu}(hz:i.zero=some z):(zeroValue t).run P w=.ok z w:=by obtain⟨inf,h1,_,_,h4⟩:=Nj w H h;simp[zeroValue,h1,h4 z hz]
def oM:TypeDesc->Bool
 | .struct _| .array _ _=>true
 |_=>false
theorem Nf(H:eZ P T)(h:T.get t=some i):(isAgg t).run P w=.ok (oM i.desc) w:=by simp only[isAgg,cU,gN w H h];cases i.desc<;>rfl
end
theorem abq(cs:Array Qu)(a b:Nat):(cs.extract a b).toList=(cs.toList.drop a).take (b -a):=by simp
def vD:IntKind->Int->Bool
 | .i64,.ofNat m=>Nat.blt m 9223372036854775808
 | .i64,.negSucc m=>Nat.blt m 9223372036854775808
 | .u8,.ofNat m=>Nat.blt m 256
 | .u64,.ofNat m=>Nat.blt m 18446744073709551616
 | .u32,.ofNat m=>Nat.blt m 4294967296
 |_,_=>false
theorem fb{a b:Nat}(h:Nat.blt a b=true):a<b:=dW h
theorem ZS{k:IntKind}{n:Int}(h:vD k n=true):k.wrap n=n:=by
 unfold vD at h;split at h
 ·have:=fb h;have e:((Int.ofNat ‹Nat›)%(2^64:Int))=Int.ofNat ‹Nat›:=Int.emod_eq_of_lt (Int.natCast_nonneg _) (by simp;omega);simp only[IntKind.wrap,IntKind.bits,e];simp;omega
 ·have:=fb h;simp only[IntKind.wrap,IntKind.bits,IntKind.signed];simp;omega
 ·have:=fb h;simp only[IntKind.wrap,IntKind.bits,IntKind.signed];simp;omega
 ·have:=fb h;simp only[IntKind.wrap,IntKind.bits,IntKind.signed];simp;omega
 ·have:=fb h;simp only[IntKind.wrap,IntKind.bits,IntKind.signed];simp;omega
 ·cases h
def ag(k:IntKind)(n:Int):Int:=cond (vD k n) n (k.wrap n)
theorem py(k:IntKind)(n:Int):ag k n=k.wrap n:=by
 unfold ag;cases h:vD k n with
 |true=>simp[ZS h]
 |false=>rfl
def ak:Int->Int->Bool
 | .ofNat a,.ofNat b=>Nat.blt a b
 | .negSucc a,.negSucc b=>Nat.blt b a
 | .negSucc _,.ofNat _=>true
 | .ofNat _,.negSucc _=>false
theorem nO(a b:Int):ak a b=decide (a<b):=by
 have key:∀x y:Nat,Nat.blt x y=decide (x<y):=λx y=>by rw[iD];simp
 unfold ak;cases a<;>cases b<;>simp<;>grind
def aj:Int->Int->Bool
 | .ofNat a,.ofNat b=>Nat.beq a b
 | .negSucc a,.negSucc b=>Nat.beq b a
 |_,_=>false
theorem Lq(x y:Nat):Nat.beq x y=decide (x=y):=by rw[iD];simp
theorem vA(a b:Int):aj a b=(a==b):=by unfold aj;cases a<;>cases b<;>simp[Lq]<;>grind
theorem aW{α:Type}{a:Bool}{x:Zh α}{y:α}(h:cond a x none=some y):a=true/\x=some y:=by grind
theorem vg{α:Type}{a:Bool}{x:Zh α}{y:α}(h:cond a none x=some y):a=false/\x=some y:=by grind
def ju:H1 Qu->H1 Qu->Zh Bool
 |[],[]=>some true
 | .int j a::xs,.int k b::ys=>cond (decide (j=k)) (cond (aj a b) (ju xs ys) (some false)) none
 |_,_=>none
theorem RM{P:Program}{t:TypeId}{k:IntKind}(h:P.underlying t=some (.int k))(d:Nat)(j:IntKind)(a b:Int)(w:Hx):
 (Op.equalIn (d+1) t (.int j a) (.int j b)).run P w=.ok (aj a b) w:=by
 simp[Op.equalIn,underlying,h,vA]
theorem Bo{P:Program}{t:TypeId}{k:IntKind}(h:P.underlying t=some (.int k)){cs:Array Qu}{i:Nat}{v:Qu}(hv:cs.toList[i]? =some v)(w:Hx):
 (part t cs i).run P w=.ok v w:=by
 unfold part isAgg;have:cs[i]? =some v:=by simpa using hv
 simp[underlying,h,this]
theorem Kb{x y:Qu}{xs ys:H1 Qu}{r:Bool}(h:ju (x::xs) (y::ys)=some r):
 ∃k a b,x=.int k a/\y=.int k b/\((aj a b=true/\ju xs ys=some r)\/(aj a b=false/\r=false)):=by
 cases x<;>cases y<;>simp only[ju] at h<;>try cases h
 rename_i j a k c;by_cases e:j=k
 ·subst e;simp at h;cases e2:aj a c with
  |true=>simp[e2] at h;exact⟨j,a,c,rfl,rfl,.inl ⟨e2,h⟩⟩
  |false=>simp only[e2,aD,tb] at h;exact⟨j,a,c,rfl,rfl,.inr ⟨e2,h.symm⟩⟩
 ·simp_all
theorem RE{P:Program}{d:Nat}{xs ys:Array Qu}(w:Hx):∀(fs:H1 Field)(n:Nat){b:Bool},
 (∀(i:Nat)(f:Field),fs[i]? =some f->f.name≠ "_"/\f.offset=n+i/\(∃k,P.underlying f.type=some (.int k))/\∃inf,P.info? f.type=some inf/\inf.size=1)->
 n+fs.length=xs.toList.length->n+fs.length=ys.toList.length->ju (xs.toList.drop n) (ys.toList.drop n)=some b->
 (Op.eqFields (d+1) xs ys fs).run P w=.ok b w
 |[],n,b,_,hx,hy,he=>by rw[(wV (by simp at hx⊢;omega)),(wV (by simp at hy⊢;omega))] at he;simp[ju] at he;subst he;simp[Op.eqFields]
 |f::fs,n,b,hf,hx,hy,he=>by
  obtain⟨h1,h2,⟨k0,h3⟩,_⟩:=hf 0 f rfl;simp only[cc] at hx hy;have lx:n<xs.toList.length:=by omega
  have ly:n<ys.toList.length:=by omega
  rw[cW lx,cW ly] at he;obtain⟨k,a,c,ex,ey,hh⟩:=Kb he;have ho:f.offset=n:=by omega
  simp[Op.eqFields,ho,ne_eq,h1,ea,Bo h3 (by rw[cw lx,ex]),Bo h3 (by rw[cw ly,ey]),RM h3];rcases hh with⟨e,hr⟩|⟨e,hr⟩
  ·rw[e];exact RE w fs (n+1) (λi g hg=>by obtain⟨a1,a2,a3,a4⟩:=hf (i+1) g (by simpa using hg);exact⟨a1,by omega,a3,a4⟩) (by omega) (by omega) hr
  ·rw[e,hr];simp
theorem RF{P:Program}{d:Nat}{e:TypeId}{k0:IntKind}(h3:P.underlying e=some (.int k0)){xs ys:Array Qu}(w:Hx):∀(m n:Nat){b:Bool},
 n+m=xs.toList.length->n+m=ys.toList.length->ju (xs.toList.drop n) (ys.toList.drop n)=some b->
 (Op.eqItems (d+1) e 1 xs ys (List.range' n m)).run P w=.ok b w
 |0,n,b,hx,hy,he=>by rw[(wV (by omega)),(wV (by omega))] at he;simp[ju] at he;subst he;simp[Op.eqItems]
 |m+1,n,b,hx,hy,he=>by
  have lx:n<xs.toList.length:=by omega
  have ly:n<ys.toList.length:=by omega
  rw[cW lx,cW ly] at he;obtain⟨k,a,c,ex,ey,hh⟩:=Kb he;simp[List.range'_succ,Op.eqItems,Bo h3 (by rw[cw lx,ex]),Bo h3 (by rw[cw ly,ey]),RM h3];rcases hh with⟨e,hr⟩|⟨e,hr⟩
  ·rw[e];exact RF h3 w m (n+1) (by omega) (by omega) hr
  ·rw[e,hr];simp
theorem RL{P:Program}{t:TypeId}{D:TypeDesc}{n:Nat}(hu:P.underlying t=some D)(hF:zO P n D)(hs:P.stoodInHeld t=false){xs ys:Array Qu}{b:Bool}
 (hx:xs.toList.length=n) (hy:ys.toList.length=n) (he:ju xs.toList ys.toList=some b) (d:Nat) (w:Hx):
 (Op.equalIn (d+2) t (.agg xs) (.agg ys)).run P w=.ok b w:=by
 cases D with
 |struct fs=>
  obtain⟨h1,h2⟩:=hF;have hfs:P.fieldsOf t=fs:=by simp[Program.fieldsOf,hu]
  rw[run_equalIn_struct w (d+1) t xs ys (by grind) hs,hfs];refine RE w fs.toList 0 (λi f hf=>?_) (by grind) (by grind) (by simpa using he)
  grind
 |array len e=>obtain⟨h1,⟨k,h2⟩,inf,h3,h4⟩:=hF;rw[run_equalIn_array w (d+1) xs ys hu h3,(show P.cellsOf e=1 from by simp[Program.cellsOf,h3,h4]),List.range_eq_range'];exact RF h2 w len 0 (by omega) (by omega) (by grind)
 |_=>exact hF.elim
def mO:H1 UInt8->H1 UInt8->Bool
 |[],[]=>true
 |a::x,b::y=>cond (Nat.beq a.toNat b.toNat) (mO x y) false
 |_,_=>false
theorem Dz:∀(x y:H1 UInt8),mO x y=(x==y)
 |[],[]=>rfl
 |[],_::_=>rfl
 |_::_,[]=>rfl
 |a::x,b::y=>by
  simp only[mO,Dz x y,Lq];have:decide (a.toNat=b.toNat)=(a==b):=by rw[iD];simp[oy]
  grind
def vF:Operand->Bool
 | .const _=>true
 |_=>false
theorem Sk{P:Program}{op:BinOp}{t:TypeId}{x y:Operand}{a b:Qu}{w:Hx}(h1:¬(a=.nilIface/\b=.nilIface))(h2:¬(∃xs ys,a=.agg xs/\b=.agg ys)):(eqGuard op t x y a b).run P w=.ok () w:=by
 cases op<;>first
  |rfl
  |(simp[eqGuard]
    split
    ·grind
    ·grind
    ·rfl)
theorem Ah{P:Program}{t:TypeId}{x y:Qu}{r:Bool}{w:Hx}(h1:¬∃k a k' b,x=.int k a/\y=.int k' b)(h2:¬∃a b,x=.string a/\y=.string b)(hf:¬∃k a k' b,x=.float k a/\y=.float k' b)
 (hc:¬∃k a b k' c d,x=.complex k a b/\y=.complex k' c d) (h:(Op.equal t x y).run P w=.ok r w):(binOp .eql t x y).run P w=.ok (.bool r) w/\(binOp .neq t x y).run P w=.ok (.bool (!r)) w:=by
 constructor
 ·unfold binOp;split<;>first
   |(exact absurd ⟨_,_,_,_,rfl,rfl⟩ h1)
   |(exact absurd ⟨_,_,_,_,rfl,rfl⟩ hf)
   |(exact absurd ⟨_,_,_,_,_,_,rfl,rfl⟩ hc)
   |(exact absurd ⟨_,_,rfl,rfl⟩ h2)
   |(simp;done)
   |(rename_i hh;cases hh)
   |simp_all
 ·unfold binOp;split<;>first
   |(exact absurd ⟨_,_,_,_,rfl,rfl⟩ h1)
   |(exact absurd ⟨_,_,_,_,rfl,rfl⟩ hf)
   |(exact absurd ⟨_,_,_,_,_,_,rfl,rfl⟩ hc)
   |(exact absurd ⟨_,_,rfl,rfl⟩ h2)
   |(simp;done)
   |(rename_i hh;cases hh)
   |simp_all
theorem Ji(a:Addr)(k:Nat):(a.add k).block=a.block:=by unfold Addr.add;split<;>rfl
theorem Jk(a:Addr)(k:Nat)(h:a.spot=none):(a.add k).spot=none:=by unfold Addr.add;split<;>simp_all
theorem Jj(a:Addr)(k:Nat):(a.add k).off=a.off+k:=by unfold Addr.add;split<;>simp_all
theorem Qt(b k n m l:Nat):(if m=l then(⟨b,k,none⟩:Addr) else(⟨b,k,none⟩:Addr).add n)=⟨b,cond (Nat.beq m l) k (k+n),none⟩:=by
 rw[Ak,tA]
 grind
theorem Ls(n:Nat):uQ (0,0) n:=.inl rfl
theorem MG(w:Hx)(o:Obj)(b:Nat)(hb:b<w.heap.size):({w with heap:=w.heap.push o}:Hx).heap[b]? =w.heap[b]? :=by grind
theorem Fu(w:Hx)(o:Obj):({w with heap:=w.heap.push o}:Hx).heap[w.heap.size]? =some o:=by simp
def rep:Nat->H1 Qu->H1 Qu
 |0,_=>[]
 |n+1,l=>l++rep n l
theorem WJ(l:H1 Qu):∀n,(rep n l).length=n*l.length
 |0=>by simp[rep]
 |n+1=>by simp[rep,WJ l n,lW];omega
theorem WI(l:H1 Qu)(hl:0<l.length):∀(n i:Nat),i<n*l.length->(rep n l)[i]? =l[i%l.length]?
 |0,i,h=>by omega
 |n+1,i,h=>by
  unfold rep;rw[lW] at h;by_cases hlt:i<l.length
  ·rw[rQ hlt,qO hlt]
  ·rw[uJ (by omega),WI l hl n (i -l.length) (by omega)]
   congr 1
   exact(Nat.mod_eq_sub_mod (by omega)).symm
theorem MU(zs:Array Qu)(hz:0<zs.size)(n:Nat):((Array.range (n*zs.size)).map λi=>zs[i%zs.size]!).toList=rep n zs.toList:=by
 have hs:zs.toList.length=zs.size:=rfl;apply rP;intro i;by_cases hi:i<n*zs.size
 ·rw[WI zs.toList (by omega) n i (by grind)];simp[hi,(Nat.mod_lt _ hz)]
 ·rw[kR (by grind),kR (by rw[WJ,hs];omega)]
theorem IS{m:Nat}(h:m<9223372036854775808):IntKind.i64.wrap (Int.ofNat m)=Int.ofNat m:=
 ZS (by unfold vD;unfold Nat.blt;exact zL h)
theorem Ng(P:Program){w:Hx}{a:Addr}(hs:a.spot=none):∀(ys:H1 Qu)(i:Nat)(acc:Array Qu),(∀k y,ys[k]? =some y->w.cell? ⟨a.block,a.off+i+k,none⟩=some y)->
 (loadCellsFrom a i ys.length acc).run P w=.ok ⟨acc.toList++ys⟩ w
 |[],i,acc,_=>by simp[loadCellsFrom]
 |y::ys,i,acc,h=>by
  have hc:w.cell? (a.add i)=some y:=by
   have:w.cell? (a.add i)=w.cell? ⟨a.block,a.off+i,none⟩:=by have e1:=Ji a i;have e2:=Jj a i;have e3:=Jk a i hs;generalize a.add i=q at e1 e2 e3;cases q;simp_all
   rw[this];exact(h 0 y (by simp))
  have ih:=Ng P hs ys (i+1) (acc.push y) (λk z hz=>by have:=h (k+1) z (by grind);rw[<-this];congr 2;omega);simp[loadCellsFrom,hc]
  grind
def pU:H1 Qu->Zh (H1 Int)
 |[]=>some []
 | .int .u8 n::xs=>ob (pU xs) λr=>some (n::r)
 |_=>none
def mkStr(ns:H1 Int):ByteArray:=⟨⟨ns.map λn=>UInt8.ofNat n.toNat⟩⟩
theorem T4:∀(ns:H1 Int)(s:ByteArray),ns.foldl (λr n=>r.push (UInt8.ofNat n.toNat)) s=⟨⟨s.data.toList++ns.map λn=>UInt8.ofNat n.toNat⟩⟩
 |[],s=>by simp
 |n::ns,s=>by simp only[List.foldl_cons,T4 ns];simp
def Ep:TypeDesc->Bool
 | .int .u8=>true
 |_=>false
theorem Tb{d:TypeDesc}(h:Ep d=true):d=.int .u8:=by
 unfold Ep at h
 grind
theorem Ey(P:Program)(a:Addr)(w:Hx):(loadCells a 0).run P w=.ok #[] w:=by simp[loadCells,loadCellsFrom]
def zn(b:Zh Addr)(l:H1 Qu):Sem Unit:=
 match b with
 |some a=>storeCells a l
 |none=>pure ()
def oN:TypeDesc->Bool
 | .int _=>true
 |_=>false
def pA(z:Bool)(size n:Nat)(e:TypeId)(x:Qu):Sem (Array Qu):=
 if !z then Builtin.firstCells size n x
 else if n*size=0 then pure #[]
 else do pure (Builtin.zeroCells (<-zeroValue e).cells n)
structure uN(P:Program)(w:World)(ts:Array TypeId)(xs:Array Value)(st xt e:TypeId)(dx:TypeDesc)(inf:TypeInfo)(b:Option Addr)(len c:Nat)(x:Value)(n:Nat):Prop where
 h0:ts[0]? =some st
 h1:ts[1]? =some xt
 x0:xs[0]? =some (.slice b len c)
 x1:xs[1]? =some x
 us:P.underlying st=some (.slice e)
 ux:P.underlying xt=some dx
 ie:P.info? e=some inf
 num:(oN dx=false/\(Builtin.lenOf x).run P w=.ok n w)\/(oN dx=true/\(∃k,x=.int k (Int.ofNat n))/\n<9223372036854775808/\n*inf.bytes<=281474976710656)
theorem u5{P:Program}{w:Hx}{ts:Array TypeId}{rt:TypeId}{xs:Array Qu}{st xt e:TypeId}{dx:TypeDesc}{inf:TypeInfo}{b:Zh Addr}{len c:Nat}{x:Qu}{n:Nat}
 (A:uN P w ts xs st xt e dx inf b len c x n) (hle:len+n<=c) {vs:Array Qu} (ha:(pA (oN dx) inf.size n e x).run P w=.ok vs w) {w':Hx}
 (hs:(zn (b.map (·.add (len*inf.size))) vs.toList).run P w=.ok () w'):
 (Builtin.append_ ts rt xs).run P w=.ok (.slice b (len+n) c) w':=by
 obtain⟨h0,h1,x0,x1,us,ux,ie,num⟩:=A;unfold Builtin.append_;have q1:(underlying st).run P w=.ok (.slice e) w:=by simp[underlying,us]
 have q2:(underlying xt).run P w=.ok dx w:=by simp[underlying,ux]
 have q3:(typeInfo e).run P w=.ok inf w:=by simp[typeInfo,ie]
 have q4:(sizeOf e).run P w=.ok inf.size w:=by simp[sizeOf,q3]
 have fin:((match b with|some a=>(storeCells (a.add (len*inf.size)) vs.toList)|none=>pure ()):Sem Unit).run P w=.ok () w':=by cases b<;>exact hs
 rcases num with⟨hz,hn⟩|⟨hz,⟨k,rfl⟩,hlt,hby⟩
 ·simp only[pA,hz,fH,ea] at ha;cases dx<;>first
   |(cases hz;done)
   |(cases b with
    |none=>simp only[eE] at fin;cases fin;simp only[h0,h1,x0,x1,cU,q1,q4,q2,eA,eE,kB,gR,hn,ay hle,fH,ea,ha]
    |some a=>simp only[h0,h1,x0,x1,cU,q1,q4,q2,eA,eE,kB,gR,hn,ay hle,fH,ea,ha,fin])
 ·simp only[pA,hz,bW,kB,gR] at ha;have e1:=IS hlt;have c1:¬(Int.ofNat n<0):=by simp
  have c2:¬(Int.ofNat n*(inf.bytes:Int)>2^48):=by
   have:((n*inf.bytes:Nat):Int)<=281474976710656:=by omega
   simp only[o5,Int.natCast_mul] at this⊢;omega
  have e2:(Int.ofNat n).toNat=n:=rfl;cases dx<;>first
   |(cases hz;done)
   |(cases b with
    |none=>simp only[eE] at fin;cases fin;simp only[h0,h1,x0,x1,cU,q1,q4,q2,q3,eA,eE,ea,asInt,asIntOf,e1,aq c1,aq c2,e2,ay hle,bW,kB,gR,ha]
    |some a=>simp only[h0,h1,x0,x1,cU,q1,q4,q2,q3,eA,eE,ea,asInt,asIntOf,e1,aq c1,aq c2,e2,ay hle,bW,kB,gR,ha,fin])
def jt(w:Hx):Hx:={w with drawn:=w.drawn+1}
theorem Jq{P:Program}{w:Hx}{ts:Array TypeId}{rt:TypeId}{xs:Array Qu}{st xt e:TypeId}{dx:TypeDesc}{inf:TypeInfo}{b:Zh Addr}{len c:Nat}{x:Qu}{n:Nat}
 (A:uN P w ts xs st xt e dx inf b len c x n) (hgt:c<len+n) (hneed:len+n<9223372036854775808) (hcap:Builtin.nextslicecap (len+n) c*inf.bytes<=281474976710656)
 {old vs:Array Qu} {z:Qu} (hold:(Builtin.firstCells inf.size len (.slice b len c)).run P (jt w)=.ok old (jt w)) (ha:(pA (oN dx) inf.size n e x).run P (jt w)=.ok vs (jt w)) (hz:inf.zero=some z):
 ∃cap,len+n<=cap/\(Builtin.append_ ts rt xs).run P w=.ok (.slice (some ⟨w.heap.size,0,none⟩) (len+n) cap) {jt w with heap:=w.heap.push (.cells (old++vs++Builtin.zeroCells z.cells (cap -(len+n))) e)}:=by
 obtain⟨h0,h1,x0,x1,us,ux,ie,num⟩:=A;refine⟨Question.cut (.appendCap (len+n) c e) (w.tape w.drawn (.appendCap (len+n) c e)),by simp[Question.cut],?_⟩;generalize hk:Question.cut (.appendCap (len+n) c e) (w.tape w.drawn (.appendCap (len+n) c e))=cap;unfold Builtin.append_;have q1:(underlying st).run P w=.ok (.slice e) w:=by simp[underlying,us]
 have q2:(underlying xt).run P w=.ok dx w:=by simp[underlying,ux]
 have q3:∀w,(typeInfo e).run P w=.ok inf w:=λw=>by simp[typeInfo,ie]
 have q4:(sizeOf e).run P w=.ok inf.size w:=by simp[sizeOf,q3]
 have q5:∀w,(zeroValue e).run P w=.ok z w:=λw=>by simp[zeroValue,q3,hz]
 have q6:(choose (.appendCap (len+n) c e)).run P w=.ok cap (jt w):=by rw[run_choose];simp[Question.forced,hk,jt]
 have g1:¬(len+n<=c):=by omega
 have g2:∀p:Prop,¬(((len+n:Nat):Int)>IntKind.i64.max/\p):=λp=>by have:IntKind.i64.max=9223372036854775807:=rfl;rw[this];omega
 have g3:¬(Builtin.nextslicecap (len+n) c*inf.bytes>2^48):=by omega
 have q7:∀cs,(newRow e cs).run P (jt w)=.ok ⟨w.heap.size,0,none⟩ {jt w with heap:=w.heap.push (.cells cs e)}:=λcs=>by unfold newRow;simp[jt];try rfl
 rcases num with⟨hzz,hn⟩|⟨hzz,⟨k,rfl⟩,hlt,hby⟩
 ·simp only[pA,hzz,fH,ea] at ha;cases dx<;>first
   |(cases hzz;done)
   |(simp only[h0,h1,x0,x1,cU,q1,q4,q2,q3,eA,eE,kB,gR,hn,aq g1,aq (g2 _),aq g3,q6,run_askRoom,hold,fH,ea,ha,q5,q7])
 ·simp only[pA,hzz,bW,kB,gR] at ha;have e1:=IS hlt;have c1:¬(Int.ofNat n<0):=by simp
  have c2:¬(Int.ofNat n*(inf.bytes:Int)>2^48):=by
   have:((n*inf.bytes:Nat):Int)<=281474976710656:=by omega
   simp only[o5,Int.natCast_mul] at this⊢;omega
  have e2:(Int.ofNat n).toNat=n:=rfl;cases dx<;>first
   |(cases hzz;done)
   |(simp only[h0,h1,x0,x1,cU,q1,q4,q2,q3,eA,eE,ea,asInt,asIntOf,e1,aq c1,aq c2,e2,aq g1,aq (g2 _),aq g3,q6,run_askRoom,hold,bW,kB,gR,ha,q5,q7])
end
section
variable{β:Type}
abbrev bC{β:Type}(_:Nat):Zh β:=none
def aw(k:IntKind)(x:Qu)(K:Int->Zh β):Zh β:=match x with
 | .int k' n=>cond (decide (k'=k)) (K n) none
 |_=>none
def Ac(x:Qu)(K:Bool->Zh β):Zh β:=match x with
 | .bool b=>K b
 |_=>none
def Ad(x:Qu)(K:ByteArray->Zh β):Zh β:=match x with
 | .string s=>K s
 |_=>none
def aE(n:Int)(K:Nat->Zh β):Zh β:=match n with
 | .ofNat m=>K m
 | .negSucc _=>none
inductive CK where
 |i (k:IntKind)|b|s|v
def xy:Qu->CK
 | .int k _=>.i k
 | .bool _=>.b
 | .string _=>.s
 |_=>.v
def xn(c:CK)(x:Qu)(K:SV->Zh β):Zh β:=match c with
 | .i k=>aw k x λn=>K (.i k n)
 | .b=>Ac x λb=>K (.b b)
 | .s=>Ad x λb=>K (.s b)
 | .v=>K (.v x)
def af(cs:H1 Qu)(K:Qu->H1 Qu->Zh β):Zh β:=match cs with
 |[]=>none
 |x::r=>K x r
def xF:H1 CK->H1 Qu->(H1 SV->Zh β)->Zh β
 |[],_,K=>K []
 |c::ks,cs,K=>af cs λx r=>xn c x λs=>xF ks r λl=>K (s::l)
theorem QG{c:CK}{x:Qu}{K:SV->Zh β}{b:β}(e:xn c x K=some b):∃sv,K sv=some b/\∀(σ:Ren) y,aK σ.lit x y->aZ [x]=true->DV σ sv y:=by
 cases c with
 |i k=>
  simp only[xn,aw] at e;split at e
  ·rename_i k' n;by_cases hk:k'=k
   ·subst hk;exact⟨_,by simpa using e,λσ y h _=>by cases h;exact .i _ _⟩
   ·simp[hk] at e
  ·cases e
 |b=>
  simp only[xn,Ac] at e;split at e
  ·exact⟨_,e,λσ y h _=>by cases h;exact .b _⟩
  ·cases e
 |s=>
  simp only[xn,Ad] at e;split at e
  ·exact⟨_,e,λσ y h _=>by cases h;exact .s _⟩
  ·cases e
 |v=>exact⟨_,e,λσ y h h1=>.v h h1⟩
theorem zz{cs:H1 Qu}{K:Qu->H1 Qu->Zh β}{b:β}(e:af cs K=some b):∃x r,cs=x::r/\K x r=some b:=by
 unfold af at e
 grind
theorem D4:∀{ks:H1 CK}{cs:H1 Qu}{K:H1 SV->Zh β}{b:β},xF ks cs K=some b->
 ∃l,K l=some b/\l.length=ks.length/\∀(σ:Ren) ys,PW (aK σ.lit) cs ys->aZ cs=true->ks.length<=ys.length/\eR σ l (ys.take ks.length)
 |[],cs,K,b,e=>⟨[],e,rfl,λσ ys _ _=>⟨by simp,by simpa using PW.nil⟩⟩
 |c::ks,cs,K,b,e=>by obtain⟨x,r,rfl,e'⟩:=zz e;obtain⟨sv,h1,h2⟩:=QG e';obtain⟨l,g1,g2,g3⟩:=D4 h1;refine⟨sv::l,g1,by simp[g2],λσ ys r o=>?_⟩;obtain⟨y,ys,rfl,a,t⟩:=r.inv;rw[qv,bt] at o;obtain⟨k1,k2⟩:=g3 σ ys t o.2;exact⟨by simp;omega,.cons (h2 σ y a o.1) k2⟩
def kinds(z:Qu):H1 CK:=z.cells.toList.map xy
def FB(c:CK)(x:SV)(K:SV->Zh β):Zh β:=match c,x with
 | .i k,.i k' n=>cond (decide (k'=k)) (K (.i k n)) none
 | .i _,_=>none
 | .b,.b b=>K (.b b)
 | .b,_=>none
 | .s,.s b=>K (.s b)
 | .s,_=>none
 | .v,x=>K x
theorem WG{c:CK}{x:SV}{K:SV->Zh β}{b:β}(e:FB c x K=some b):K x=some b:=by
 unfold FB at e
 grind
def vH(i:jd)(z:Qu)(c:H1 Qu)(K:SV->Zh β):Zh β:=
 cond (oM i.desc) (cond (Nat.beq (kinds z).length i.size&&Nat.blt 0 i.size) (xF (kinds z) c λl=>K (.agg l)) none) (af c λx _=>xn (xy z) x K)
def Ld(i:jd)(ys:H1 Qu)(off:Nat)(u:Qu):Prop:=cond (oM i.desc) (off+i.size<=ys.length/\u=.agg ⟨(ys.drop off).take i.size⟩) (ys[off]? =some u)
theorem Ld.pre{i:jd}{ys:H1 Qu}{k off:Nat}{u:Qu}(h:Ld i (ys.take k) off u):Ld i ys off u:=by
 unfold Ld at*;cases ha:oM i.desc with
 |true=>rw[ha] at h;obtain⟨h1,h2⟩:=h;rw[dk] at h1;refine⟨by omega,?_⟩;rw[h2,List.drop_take,List.take_take,lI (by omega)]
 |false=>
  rw[ha] at h;have h:(ys.take k)[off]? =some u:=h;rw[o6] at h;show ys[off]? =some u
  grind
theorem AS{i:jd}{c:H1 Qu}{off:Nat}{z:Qu}{K:SV->Zh β}{b:β}(e:vH i z (c.drop off) K=some b):
 ∃sv,K sv=some b/\∀(σ:Ren) ys,PW (aK σ.lit) c ys->aZ c=true->∃u,DV σ sv u/\Ld i ys off u:=by
 unfold vH at e;unfold Ld;cases ha:oM i.desc with
 |true=>rw[ha] at e;obtain⟨e1,e⟩:=aW e;rw[bt] at e1;have e2:=fb e1.2;have e1:=bT e1.1;obtain⟨l,g1,g2,g3⟩:=D4 e;refine⟨_,g1,λσ ys r o=>?_⟩;obtain⟨k1,k2⟩:=g3 σ _ (r.drop off) (re o λ_=>qN);rw[eu] at k1;exact⟨.agg ⟨(ys.drop off).take i.size⟩,.agg (by rw[e1] at k2;exact k2.1) (by rw[e1] at k2;exact k2.2),by omega,rfl⟩
 |false=>
  rw[ha] at e;obtain⟨x,r,h1,h2⟩:=zz e;obtain⟨sv,k1,k2⟩:=QG h2;have hx:c[off]? =some x:=by
   have:=bX (λl:H1 Qu=>l[0]?) h1
   grind
  refine⟨sv,k1,λσ ys r o=>?_⟩;obtain⟨y,y1,y2⟩:=r.get hx;exact⟨y,k2 σ y y2 (iV.1 o x (ou hx)),y1⟩
def Zo:SV->Zh Qu
 | .i k n=>some (.int k n)
 | .b x=>some (.bool x)
 | .s x=>some (.string x)
 |_=>none
def PS:H1 SV->Zh (H1 Qu)
 |[]=>some []
 |x::xs=>ob (Zo x) λu=>ob (PS xs) λus=>some (u::us)
def Nu(T:TT)(st:St)(t:TypeId)(p:SV)(K:SV->Zh β):Zh β:=
 ob (T.get t) λi=>ob i.zero λz=>match p with
  | .ptr id off=>ob (st.h.get id) λso=>match so with
   | .cells c _=>match PS c with
    |some us=>vH i z (us.drop off) K
    |none=>cond (oM i.desc) (cond (Nat.ble (off+i.size) c.length) (K (.agg ((c.drop off).take i.size))) none) (ob (c[off]?) λx=>FB (xy z) x K)
   | .arr c _=>vH i z (c.drop off) K
   | .grow _ c _=>vH i z (c.drop off) K
   | .mp _=>none
  | .lp cs=>vH i z cs K
  |_=>bC 1
theorem Zp{σ:Ren}:∀{xs:H1 SV}{vs us:H1 Qu},eR σ xs vs->PS xs=some us->PW (aK σ.lit) us vs/\aZ us=true
 |[],vs,us,d,e=>by cases e;rw[d.dY];exact⟨.nil,rfl⟩
 |x::xs,vs,us,d,e=>by
  obtain⟨u,h1,e⟩:=ax e;obtain⟨ws,h2,e⟩:=ax e;cases e;obtain⟨y,ys,rfl,a,t⟩:=d.inv;obtain⟨g1,g2⟩:=Zp t h2;cases x<;>simp only[Zo] at h1<;>cases h1<;>cases a
  ·exact⟨.cons (.int _ _) g1,g2⟩
  ·exact⟨.cons (.bool _) g1,g2⟩
  ·exact⟨.cons (.str _) g1,g2⟩
theorem aK.cell{m:Nat->Nat->Zh Qu}{w:Hx}{x y:Qu}{b i:Nat}(h:aK m x y)(k:fJ w b i=some y):w.cell? ⟨b,i,none⟩=some y:=by
 unfold fJ at k;split at k
 ·cases k;cases h
 ·exact k
section
variable{P:Program} {T:TT} (HT:eZ P T) {t:TypeId} {i:jd} (hi:T.get t=some i) {w:Hx}
include HT hi
theorem BG{b off:Nat}{cs:Array Qu}{el:TypeId}(c:Cl w b cs el){u:Qu}(h:Ld i cs.toList off u):(Instr.loadAt t (.pointer (some ⟨b,off,none⟩))).run P w=.ok u w:=by
 obtain⟨fz,h1,h2⟩:=c;unfold Ld at h;simp only[Instr.loadAt,loadVar,cU,Instr.sureAddr,eE,Nf w HT hi,eA];cases ha:oM i.desc with
 |true=>
  rw[ha] at h;obtain⟨k1,rfl⟩:=h;obtain⟨vs,a1,a2⟩:=BH P (k:=off) (n:=i.size) h1 (by simpa using k1);have:vs=⟨(cs.toList.drop off).take i.size⟩:=by rw[<-a2]
  simp[run_sizeOf w HT hi,a1,this]
 |false=>rw[ha] at h;have h:cs.toList[off]? =some u:=h;simp[cell_of h1,(show cs[off]? =some u from by simpa using h)]
theorem aiy{a:Addr}{ys:H1 Qu}(hs:a.spot=none)(hm:∀(k:Nat) y,ys[k]? =some y->w.cell? ⟨a.block,a.off+k,none⟩=some y){u:Qu}(h:Ld i ys 0 u):(Instr.loadAt t (.pointer (some a))).run P w=.ok u w:=by
 unfold Ld at h;simp only[Instr.loadAt,loadVar,cU,Instr.sureAddr,eE,Nf w HT hi,eA];cases ha:oM i.desc with
 |true=>rw[ha] at h;obtain⟨k1,rfl⟩:=h;have:=Ng P hs (ys.take i.size) 0 #[] λk y hy=>(hm k y (by grind));rw[(show(ys.take i.size).length=i.size from by rw[dk];omega)] at this;have h2:(loadCells a i.size).run P w=.ok ⟨ys.take i.size⟩ w:=this;simp[run_sizeOf w HT hi,h2]
 |false=>rw[ha] at h;have:=hm 0 u h;cases a;simp_all
end
theorem Xm{P:Program}{T:TT}(HT:eZ P T){st:St}{t:TypeId}{p:SV}{K:SV->Zh β}{b:β}(e:Nu T st t p K=some b):
 ∃sv,K sv=some b/\∀{B:Bs}{σ:Ren}{F:Nat->Prop}{w:Hx},Mem B σ (hG st.h) F w->∀v,DV σ p v->∃u,(Instr.loadAt t v).run P w=.ok u w/\DV σ sv u:=by
 replace e:=ax e;obtain⟨i,hi,e⟩:=e;replace e:=ax e;obtain⟨z,hz,e⟩:=e;split at e
 ·rename_i id off;obtain⟨so,hso,e⟩:=ax e;split at e
  ·rename_i c _;split at e
   ·rename_i us hus;obtain⟨sv,h1,h2⟩:=AS e;refine⟨sv,h1,λM v dv=>?_⟩;obtain⟨o,n,cs,g1,g2,g3⟩:=M.obj id _ hso;obtain⟨k1,k2⟩:=Zp g3 hus;obtain⟨u,u1,u2⟩:=h2 _ _ k1 k2;cases dv with
    |ptr g=>rw[g1] at g;cases g;exact⟨u,BG HT hi g2 u2,u1⟩
   ·cases ha:oM i.desc with
    |true=>
     rw[ha] at e;obtain⟨e1,e⟩:=aW e;have e1:=dW e1;refine⟨_,e,λM v dv=>?_⟩;obtain⟨o,n,cs,g1,g2,g3⟩:=M.obj id _ hso;cases dv with
     |ptr g=>rw[g1] at g;cases g;have k:=(g3.drop off).take i.size;exact⟨.agg ⟨(cs.toList.drop off).take i.size⟩,BG HT hi g2 (by unfold Ld;rw[ha];exact⟨by have:=g3.1;omega,rfl⟩),.agg k.1 k.2⟩
    |false=>
     rw[ha] at e;obtain⟨x,hx,e⟩:=ax e;refine⟨x,WG e,λM v dv=>?_⟩;obtain⟨o,n,cs,g1,g2,g3⟩:=M.obj id _ hso;cases dv with
     |ptr g=>rw[g1] at g;cases g;obtain⟨u,u1,u2⟩:=g3.get hx;exact⟨u,BG HT hi g2 (by unfold Ld;rw[ha];exact u1),u2⟩
  ·obtain⟨sv,h1,h2⟩:=AS e;refine⟨sv,h1,λM v dv=>?_⟩;obtain⟨o,n,cs,g1,g2,g3,g4⟩:=M.obj id _ hso;obtain⟨u,u1,u2⟩:=h2 _ _ g4 g3;cases dv with
   |ptr g=>rw[g1] at g;cases g;exact⟨u,BG HT hi g2 u2,u1⟩
  ·obtain⟨sv,h1,h2⟩:=AS e;refine⟨sv,h1,λM v dv=>?_⟩;obtain⟨_,g0,g⟩:=M.obj id _ hso;cases dv with
   |ptr k=>rcases g with⟨g1,_⟩|⟨o,n,cs,g1,g2,_,_,_,g3⟩<;>rw[g1] at k<;>cases k;obtain⟨u,u1,u2⟩:=h2 _ _ g3 g0;exact⟨u,BG HT hi g2 u2.pre,u1⟩
  ·cases e
 ·rename_i cs;obtain⟨sv,h1,h2⟩:=AS (off:=0) e;refine⟨sv,h1,λM v dv=>?_⟩;cases dv with
  |lp g=>
   cases g with
   |vR hl hr hm hs o=>
    obtain⟨u,u1,u2⟩:=h2 _ _ ⟨hl,hr⟩ o;refine⟨u,aiy HT hi hs (λk y hy=>?_) u2,u1⟩;obtain⟨x,hx⟩:∃x,cs[k]? =some x:=by have:=(mJ.1 hy).1;exact⟨cs[k]'(by rw[hl];omega),by simp⟩
    exact(hr k x y hx hy).cell (M.lit _ _ _ (hm k y hy))
 ·cases e
end
section
variable{β:Type}
def SV.cells:SV->H1 SV
 | .agg l=>l
 |x=>[x]
theorem DV.cells{σ:Ren}{x:SV}{v:Qu}(h:DV σ x v):eR σ x.cells v.cells.toList:=by
 have h0:=h;cases h with
 |v a b=>have:=a.one;rw[b] at this;cases v<;>first|exact .cons h0 .nil|cases this
 |agg hl h=>exact⟨hl,h⟩
 |lp a=>cases a;exact .cons h0 .nil
 |em a=>cases‹Bool›<;>cases a<;>exact .cons h0 .nil
 |_=>exact .cons h0 .nil
def IC:Qu->Zh SV
 | .bool b=>some (.b b)
 | .int k n=>some (.i k n)
 | .string s=>some (.s s)
 | .pointer none=>some (.v (.pointer none))
 | .slice none 0 0=>some .nl
 | .map none=>some (.v (.map none))
 | .nilFunc=>some (.v .nilFunc)
 | .nilIface=>some .ni
 |_=>none
def wO:H1 Qu->Zh (H1 SV)
 |[]=>some []
 |x::xs=>ob (IC x) λy=>ob (wO xs) λys=>some (y::ys)
def wN:Qu->Zh SV
 | .agg cs=>ob (wO cs.toList) λl=>some (.agg l)
 | .tuple cs=>ob (wO cs.toList) λl=>some (.aH l)
 |v=>IC v
theorem Zf{σ:Ren}{v:Qu}{x:SV}(e:IC v=some x):DV σ x v/\aK σ.lit v v/\aZ [v]=true:=by
 unfold IC at e;split at e<;>cases e
 ·exact⟨.b _,.bool _,rfl⟩
 ·exact⟨.i _ _,.int _ _,rfl⟩
 ·exact⟨.s _,.str _,rfl⟩
 ·exact⟨.v .sJ rfl,.sJ,rfl⟩
 ·exact⟨.nl,.PB,rfl⟩
 ·exact⟨.v .EB rfl,.EB,rfl⟩
 ·exact⟨.v .nilFunc rfl,.nilFunc,rfl⟩
 ·exact⟨.ni,.nilIface,rfl⟩
theorem zp{σ:Ren}:∀{vs:H1 Qu}{xs:H1 SV},wO vs=some xs->eR σ xs vs/\PW (aK σ.lit) vs vs/\aZ vs=true
 |[],_,e=>by cases e;exact⟨.nil,.nil,rfl⟩
 |v::vs,_,e=>by obtain⟨y,h1,e⟩:=ax e;obtain⟨ys,h2,e⟩:=ax e;cases e;obtain⟨a1,a2,a3⟩:=Zf (σ:=σ) h1;obtain⟨b1,b2,b3⟩:=zp (σ:=σ) h2;exact⟨.cons a1 b1,.cons a2 b2,by rw[qv,a3,b3];rfl⟩
theorem zo{σ:Ren}{v:Qu}{x:SV}(e:wN v=some x):DV σ x v:=by
 unfold wN at e;split at e
 ·obtain⟨l,h1,e⟩:=ax e;cases e;have:=(zp (σ:=σ) h1).1;exact .agg this.1 this.2
 ·obtain⟨l,h1,e⟩:=ax e;cases e;have:=(zp (σ:=σ) h1).1;exact .aH this.1 this.2
 ·exact(Zf e).1
def dH(tm:Tr SV):Operand->Zh SV
 | .tmp t=>tm.get t
 | .const v=>wN v
 | .global _=>none
 | .func f=>cond (Nat.blt f 65536) (some (.fn f [])) none
def IF:SV->Zh Qu
 | .i k n=>some (.int k n)
 | .b x=>some (.bool x)
 | .s x=>some (.string x)
 | .v x=>some x
 | .nl=>some (ae 0 [])
 | .ni=>some .nilIface
 |_=>none
def PU:H1 SV->Zh (H1 Qu)
 |[]=>some []
 |x::xs=>ob (IF x) λu=>ob (PU xs) λus=>some (u::us)
def IE(x:SV):Zh Qu:=match x with
 | .fe t (.agg l)=>ob (PU l) λus=>some (.iface t (.agg ⟨us⟩))
 |x=>IF x
def uF:H1 SV->Zh (H1 Qu)
 |[]=>some []
 |x::xs=>ob (IE x) λu=>ob (uF xs) λus=>some (u::us)
theorem Zr{σ:Ren}{x:SV}{v u:Qu}(d:DV σ x v)(e:IF x=some u):aK σ.lit u v/\aZ [u]=true:=by
 cases d<;>simp only[IF] at e<;>cases e
 ·exact⟨.int _ _,rfl⟩
 ·exact⟨.bool _,rfl⟩
 ·exact⟨.str _,rfl⟩
 ·exact⟨‹_›,‹_›⟩
 ·exact⟨.fW,rfl⟩
 ·exact⟨.nilIface,rfl⟩
theorem Zs{σ:Ren}:∀{xs:H1 SV}{vs us:H1 Qu},eR σ xs vs->PU xs=some us->PW (aK σ.lit) us vs/\aZ us=true
 |[],vs,us,d,e=>by cases e;rw[d.dY];exact⟨.nil,rfl⟩
 |x::xs,vs,us,d,e=>by obtain⟨u,h1,e⟩:=ax e;obtain⟨ws,h2,e⟩:=ax e;cases e;obtain⟨y,ys,rfl,a,t⟩:=d.inv;obtain⟨g1,g2⟩:=Zr a h1;obtain⟨k1,k2⟩:=Zs t h2;exact⟨.cons g1 k1,by rw[qv,k2,g2];rfl⟩
theorem Zq{σ:Ren}{x:SV}{v u:Qu}(d:DV σ x v)(e:IE x=some u):aK σ.lit u v/\aZ [u]=true:=by
 unfold IE at e;split at e
 ·rename_i t l;obtain⟨us,h,e⟩:=ax e;cases e;cases d with
  |fe d=>
  cases d with
  |agg hl hr=>
  have r:=Zs ⟨hl,hr⟩ h;exact⟨.iface r.1.1 r.1.2 r.2,rfl⟩
 ·exact Zr d e
theorem wP{σ:Ren}:∀{xs:H1 SV}{vs us:H1 Qu},eR σ xs vs->uF xs=some us->PW (aK σ.lit) us vs/\aZ us=true
 |[],vs,us,d,e=>by cases e;rw[d.dY];exact⟨.nil,rfl⟩
 |x::xs,vs,us,d,e=>by obtain⟨u,h1,e⟩:=ax e;obtain⟨ws,h2,e⟩:=ax e;cases e;obtain⟨y,ys,rfl,a,t⟩:=d.inv;obtain⟨g1,g2⟩:=wP t h2;obtain⟨k1,k2⟩:=Zq a h1;exact⟨.cons k1 g1,by rw[qv,k2,g2];rfl⟩
def flat:H1 SV->Bool
 |[]=>true
 | .agg _::_=>false
 | .aH _::_=>false
 |_::l=>flat l
theorem RY{σ:Ren}:∀{l:H1 SV}{vs:H1 Qu},eR σ l vs->flat l=true->aZ vs=true
 |[],vs,d,_=>by rw[d.dY];rfl
 |x::l,vs,d,h=>by
  obtain⟨y,ys,rfl,a,t⟩:=d.inv;rw[qv];have hx:flat l=true:=by cases x<;>first|exact h|cases h
  rw[RY t hx,kA];cases a with
  |v a b=>rw[a.one];exact b
  |lp a=>cases a;rfl
  |em a=>cases‹Bool›<;>cases a<;>rfl
  |agg=>cases h
  |aH=>cases h
  |_=>rfl
theorem one_cell{v:Qu}(h:aZ [v]=true):v.oneCell'=true:=by cases v<;>first|rfl|cases h
theorem V4{α:Type}:∀(vs:H1 α)(n k:Nat)(l:H1 α),(aX n vs l).take k=aX n vs (l.take k)
 |[],_,_,_=>rfl
 |v::vs,n,k,l=>by simp only[aX];rw[V4 vs,List.take_set]
theorem ag2{v:Qu}{n:Nat}{c:H1 Qu}(h:aZ [v]=true)(k:aZ c=true):aZ (c.set n v)=true:=iV.2 λx hx=>by
 rcases List.mem_or_eq_of_mem_set hx with q|rfl
 ·exact iV.1 k x q
 ·exact h
theorem Be:∀{us:H1 Qu}(n:Nat){c:H1 Qu},aZ us=true->aZ c=true->aZ (aX n us c)=true
 |[],_,_,_,h=>h
 |u::us,n,c,p,h=>by rw[qv,bt] at p;exact Be (n+1) p.2 (ag2 p.1 h)
section
variable{P:Program} {T:TT} (HT:eZ P T) {t:TypeId} {i:jd} (hi:T.get t=some i) {w:Hx}
theorem Iy(P:Program){w:Hx}{b off:Nat}{cs:Array Qu}{el:TypeId}(c:Cl w b cs el){vs:H1 Qu}(o:aZ vs=true)(hle:off+vs.length<=cs.toList.length):
 ∃w',(storeCells ⟨b,off,none⟩ vs).run P w=.ok () w'/\Cl w' b ⟨aX off vs cs.toList⟩ el/\eS (λk=>k=b) w w':=by
 obtain⟨fz,h1,h2⟩:=c;obtain⟨w',a1,a2,a3,a4,a5,a6,a7⟩:=BI P (k:=off) vs 0 w cs h1 h2 (by simpa using hle) λv hv=>one_cell (iV.1 o v hv);exact⟨w',a1,⟨fz,a2,by show uQ fz (aX off vs cs.toList).length;rw[nZ];exact h2⟩,a5,a6,a7,ta a4.symm,λk _ hk=>a3 k hk⟩
include HT hi
theorem Ni{b off:Nat}{cs:Array Qu}{el:TypeId}(c:Cl w b cs el){y:Qu}(o:aZ y.cells.toList=true)(hs:y.cells.toList.length=i.size)(hle:off+i.size<=cs.toList.length):
 ∃w',(Instr.storeAt t (.pointer (some ⟨b,off,none⟩)) y).run P w=.ok () w'/\Cl w' b ⟨aX off y.cells.toList cs.toList⟩ el/\eS (λk=>k=b) w w':=by
 obtain⟨w',a,b⟩:=Iy P c o (off:=off) (by omega);refine⟨w',?_,b⟩;have s:¬y.cells.size≠i.size:=by have:y.cells.toList.length=y.cells.size:=rfl;omega
 unfold Instr.storeAt storeVar;simp only[cU,Instr.sureAddr,eE,eA,run_sizeOf w HT hi,aq s];exact a
end
def Xt(T:TT)(st:St)(t:TypeId)(p y:SV)(K:St->Zh β):Zh β:=
 ob (T.get t) λi=>match p with
  | .ptr id off=>ob (st.h.get id) λso=>match so with
   | .cells c t'=>cond (Nat.beq y.cells.length i.size&&Nat.ble (off+i.size) c.length&&flat y.cells) (K {st with h:=st.h.set id (.cells (aX off y.cells c) t')}) none
   | .arr c t'=>ob (uF y.cells) λus=>cond (Nat.beq y.cells.length i.size&&Nat.ble (off+i.size) c.length) (K {st with h:=st.h.set id (.arr (aX off us c) t')}) none
   | .grow E c t'=>ob (uF y.cells) λus=>cond (Nat.beq y.cells.length i.size&&Nat.ble (off+i.size) c.length) (K {st with h:=st.h.set id (.grow E (aX off us c) t')}) none
   | .mp _=>none
  |_=>bC 3
theorem aiV{P:Program}{T:TT}(HT:eZ P T){st:St}{t:TypeId}{p y:SV}{K:St->Zh β}{b:β}(e:Xt T st t p y K=some b):
 ∃h',K {st with h:=h'}=some b/\∀{B:Bs}{σ:Ren}{F:Nat->Prop}{w:Hx},Mem B σ (hG st.h) F w->∀v u,DV σ p v->DV σ y u->∃w',(Instr.storeAt t v u).run P w=.ok () w'/\Mem B σ (hG h') F w':=by
 replace e:=ax e;obtain⟨i,hi,e⟩:=e;split at e
 ·rename_i id off;obtain⟨so,hso,e⟩:=ax e;split at e
  ·rename_i c t';obtain⟨e1,e⟩:=aW e;refine⟨_,e,λM v u dp dy=>?_⟩;obtain⟨o,n,cs,g1,g2,g3⟩:=M.obj id _ hso;simp only[bt] at e1;have q1:=bT e1.1.1;have q2:=dW e1.1.2;cases dp with
   |ptr g=>rw[g1] at g;cases g;have hy:=dy.cells;obtain⟨w',a1,a2,a3⟩:=Ni HT hi g2 (RY hy e1.2) (by have:=hy.1;omega) (off:=off) (by have:=g3.1;omega);exact⟨w',a1,M.put hso g1 a3 ⟨_,_,_,g1,a2,hy.aX off g3⟩⟩
  ·obtain⟨us,hx,e⟩:=ax e;obtain⟨e1,e⟩:=aW e;rw[bt] at e1;refine⟨_,e,λM v u dp dy=>?_⟩;obtain⟨o,n,cs,g1,g2,g3,g4⟩:=M.obj id _ hso;obtain⟨k1,k3⟩:=wP dy.cells hx;have q1:=bT e1.1;have q2:=dW e1.2;cases dp with
   |ptr g=>rw[g1] at g;cases g;obtain⟨w',a1,a2,a3⟩:=Ni HT hi g2 (Bf k1 k3) (by have:=dy.cells.1;omega) (off:=off) (by have:=g4.1;omega);exact⟨w',a1,M.put hso g1 a3 ⟨_,_,_,g1,a2,Be off k3 g3,k1.aX off g4⟩⟩
  ·obtain⟨us,hx,e⟩:=ax e;obtain⟨e1,e⟩:=aW e;rw[bt] at e1;refine⟨_,e,λM v u dp dy=>?_⟩;obtain⟨f1,f2,f3⟩:=M.obj id _ hso;obtain⟨k1,k3⟩:=wP dy.cells hx;have q1:=bT e1.1;have q2:=dW e1.2;cases dp with
   |ptr g=>rcases f3 with⟨g1,_⟩|⟨o,n,cs,g1,g2,g5,g6,g7,g4⟩<;>rw[g1] at g<;>cases g;obtain⟨w',a1,a2,a3⟩:=Ni HT hi g2 (Bf k1 k3) (by have:=dy.cells.1;omega) (off:=off) (by have:cs.toList.length=cs.size:=rfl;omega);have s:∀l:H1 Qu,(⟨aX off l cs.toList⟩:Array Qu).size=cs.size:=λl=>nZ _ _ _;exact⟨w',a1,M.put hso g1 a3 ⟨f1,Be off k3 f2,.inr ⟨_,_,_,g1,a2,by rw[s];exact g5,by rw[nZ];exact g6,by rw[nZ,s];exact g7,by rw[nZ];show PW _ _ ((aX off u.cells.toList cs.toList).take _);rw[V4];exact k1.aX off g4⟩⟩⟩
  ·cases e
 ·cases e
end
section
variable{β:Type}
theorem DV.ME{σ:Ren}{id off:Nat}{v:Qu}(d:DV σ (.ptr id off) v):∃a,v=.pointer (some a)/\∀k,DV σ (.ptr id (off+k)) (.pointer (some (a.add k))):=by
 cases d with
 |ptr h=>exact⟨_,rfl,λk=>by rw[tA];exact .ptr h⟩
theorem TG{σ:Ren}{cs ys:H1 Qu}{a:Addr}(o:aZ cs=true)(h:PW (aK σ.lit) cs ys)(hm:∀(i:Nat) y,ys[i]? =some y->σ.lit a.block (a.off+i)=some y)(hs:a.spot=none)(k:Nat):DV σ (.lp (cs.drop k)) (.pointer (some (a.add k))):=
 .lp (.vR (ys:=ys.drop k) (h.drop k).1 (h.drop k).2 (λi y hy=>by rw[Ji,Jj,o8];exact hm _ y (by rw[<-hy,s8])) (Jk a k hs) (re o λ_=>qN))
theorem DV.Lh{σ:Ren}{cs:H1 Qu}{v:Qu}(d:DV σ (.lp cs) v):∃a,v=.pointer (some a)/\∀k,DV σ (.lp (cs.drop k)) (.pointer (some (a.add k))):=by
 cases d with
 |lp h=>
  cases h with
  |vR hl h hm hs o=>exact⟨_,rfl,TG o ⟨hl,h⟩ hm hs⟩
section
variable{P:Program} {T:TT} (HT:eZ P T) {w:Hx}
include HT
theorem Nh{t:TypeId}{i:jd}(hi:T.get t=some i){cs:Array Qu}{off:Nat}{u:Qu}(h:Ld i cs.toList off u):(part t cs off).run P w=.ok u w:=by
 unfold Ld at h;simp only[part,cU,Nf w HT hi,eA];cases ha:oM i.desc with
 |true=>rw[ha] at h;obtain⟨_,rfl⟩:=h;simp[run_sizeOf w HT hi];apply Array.ext';rw[abq,IW]
 |false=>rw[ha] at h;have h:cs.toList[off]? =some u:=h;simp[(show cs[off]? =some u from by simpa using h)]
theorem Xb{s:TypeId}{i j:jd}(hi:T.get s=some i){fs:Array Field}(hd:i.desc=.struct fs){f:Nat}{fl:Field}(hf:fs[f]? =some fl)(hj:T.get fl.type=some j)(hz:Nat.beq j.size 0=false)(a:Addr):
 (Instr.fieldAt s (.pointer (some a)) f).run P w=.ok (.pointer (some (a.add fl.offset))) w:=by
 simp[Instr.fieldAt,cU,gN w HT hi,hd,hf,Instr.sureAddr,eE,fieldPlace,run_sizeOf w HT hj,(by rw[Lq] at hz;simpa using hz),gR]
theorem Jx{m n:Nat}(hb:Nat.blt m n=true):(0:Int)<=Int.ofNat m/\Int.ofNat m<(n:Int):=by have:=fb hb;simp;omega
theorem Xd{t e:TypeId}{i j:jd}(hi:T.get t=some i){len:Nat}(hd:i.desc=.array len e)(hj:T.get e=some j){m:Nat}(hb:Nat.blt m len=true)(k:IntKind)(a:Addr):
 (Instr.indexAt t (.pointer (some a)) (.int k (Int.ofNat m))).run P w=.ok (.pointer (some (a.add (m*j.size)))) w:=by
 unfold Instr.indexAt;simp only[cU,asIntOf,eE,eA,gN w HT hi,hd,Instr.sureAddr,ay (Jx HT hb),run_sizeOf w HT hj];simp
theorem Nd{t e:TypeId}{i j:jd}(hi:T.get t=some i)(hd:i.desc=.slice e)(hj:T.get e=some j){m n c:Nat}(hb:Nat.blt m n=true)(k:IntKind)(a:Addr):
 (Instr.indexAt t (.slice (some a) n c) (.int k (Int.ofNat m))).run P w=.ok (.pointer (some (a.add (m*j.size)))) w:=by
 unfold Instr.indexAt;simp only[cU,asIntOf,eE,eA,gN w HT hi,hd,ay (Jx HT hb),run_sizeOf w HT hj];simp
end
def Nx(T:TT)(t:TypeId)(l:H1 SV)(off:Nat)(K:SV->Zh β):Zh β:=
 ob (T.get t) λi=>cond (oM i.desc) (cond (Nat.ble (off+i.size) l.length) (K (.agg ((l.drop off).take i.size))) none) (ob i.zero λz=>ob (l[off]?) λx=>FB (xy z) x K)
def Xj(T:TT)(s:TypeId)(x:SV)(f:Nat)(K:SV->Zh β):Zh β:=
 ob (T.get s) λi=>match i.desc with
  | .struct fs=>ob (fs[f]?) λfl=>ob (T.get fl.type) λj=>cond (Nat.beq j.size 0) none (match x with
   | .ptr id off=>K (.ptr id (off+fl.offset))
   | .lp cs=>K (.lp (cs.drop fl.offset))
   |_=>none)
  |_=>bC 5
def aJ(sz m:Nat)(x:Qu)(K:H1 Qu->Zh β):Zh β:=match x with
 | .func (.via n _ _ true) cs _=>cond (Nat.blt m n) (K (cs.toList.drop (m*sz))) none
 |_=>none
theorem xq{n:Int}{K:Nat->Zh β}{b:β}(e:aE n K=some b):∃m,n=.ofNat m/\K m=some b:=by unfold aE at e;split at e<;>grind
theorem Xq{P:Program}{T:TT}(HT:eZ P T){t:TypeId}{l:H1 SV}{off:Nat}{K:SV->Zh β}{b:β}(e:Nx T t l off K=some b):
 ∃sv,K sv=some b/\∀(σ:Ren)(vs:Array Qu)(w:Hx),eR σ l vs.toList->∃u,(part t vs off).run P w=.ok u w/\DV σ sv u:=by
 obtain⟨i,hi,e⟩:=ax e;cases ha:oM i.desc with
 |true=>rw[ha] at e;obtain⟨e1,e⟩:=aW e;refine⟨_,e,λσ vs w d=>?_⟩;have k:=(d.drop off).take i.size;have:=dW e1;exact⟨.agg ⟨(vs.toList.drop off).take i.size⟩,Nh HT hi (by unfold Ld;rw[ha];exact⟨by have:=d.1;omega,rfl⟩),.agg k.1 k.2⟩
 |false=>rw[ha] at e;obtain⟨z,hz,e⟩:=ax e;obtain⟨x,hx,e⟩:=ax e;refine⟨_,WG e,λσ vs w d=>?_⟩;obtain⟨u,h1,h2⟩:=d.get hx;exact⟨u,Nh HT hi (by unfold Ld;rw[ha];exact h1),h2⟩
theorem aiJ{P:Program}{T:TT}(HT:eZ P T){s:TypeId}{x:SV}{f:Nat}{K:SV->Zh β}{b:β}(e:Xj T s x f K=some b):
 ∃sv,K sv=some b/\∀(σ:Ren) v (w:Hx),DV σ x v->∃u,(Instr.fieldAt s v f).run P w=.ok u w/\DV σ sv u:=by
 obtain⟨i,hi,e⟩:=ax e;split at e
 ·rename_i fs hd;obtain⟨fl,hf,e⟩:=ax e;obtain⟨j,hj,e⟩:=ax e;obtain⟨hz,e⟩:=vg e;split at e
  ·refine⟨_,e,λσ v w d=>?_⟩;obtain⟨a,rfl,k⟩:=d.ME;exact⟨_,Xb HT hi hd hf hj hz a,k _⟩
  ·refine⟨_,e,λσ v w d=>?_⟩;obtain⟨a,rfl,k⟩:=d.Lh;exact⟨_,Xb HT hi hd hf hj hz a,k _⟩
  ·cases e
 ·cases e
def Nt(T:TT)(st:St)(t:TypeId)(x ix:SV)(K:SV->Zh β):Zh β:=match ix with
 | .i _ n=>aE n λm=>ob (T.get t) λi=>match i.desc,x with
  | .array len e,.ptr id off=>ob (T.get e) λj=>cond (Nat.blt m len) (K (.ptr id (off+m*j.size))) none
  | .array len e,.lp cs=>ob (T.get e) λj=>cond (Nat.blt m len) (K (.lp (cs.drop (m*j.size)))) none
  | .slice e,.v x=>ob (T.get e) λj=>aJ j.size m x λcs=>K (.lp cs)
  | .slice e,.sl id off n _=>ob (T.get e) λj=>cond (Nat.blt m n) (K (.ptr id (off+m*j.size))) none
  | .slice e,.gr id _=>ob (T.get e) λj=>ob (st.h.get id) λso=>match so with
   | .grow E c _=>cond (Nat.beq E j.size&&Nat.blt (m*E) c.length) (K (.ptr id (0+m*j.size))) none
   |_=>bC 6
  |_,_=>bC 7
 |_=>bC 8
theorem aiM{P:Program}{T:TT}(HT:eZ P T){st:St}{t:TypeId}{x ix:SV}{K:SV->Zh β}{b:β}(e:Nt T st t x ix K=some b):
 ∃sv,K sv=some b/\∀{B:Bs}{σ:Ren}{F:Nat->Prop}{w:Hx},Mem B σ (hG st.h) F w->∀v z,DV σ x v->DV σ ix z->∃u,(Instr.indexAt t v z).run P w=.ok u w/\DV σ sv u:=by
 unfold Nt at e;split at e
 ·obtain⟨m,rfl,e⟩:=xq e;replace e:=ax e;obtain⟨i,hi,e⟩:=e;split at e
  ·rename_i len el id off hd _;obtain⟨j,hj,e⟩:=ax e;obtain⟨e1,e⟩:=aW e;refine⟨_,e,λM v z d d2=>?_⟩;cases d2;obtain⟨a,rfl,k⟩:=d.ME;exact⟨_,Xd HT hi hd hj e1 _ a,k _⟩
  ·rename_i len el cs hd _;obtain⟨j,hj,e⟩:=ax e;obtain⟨e1,e⟩:=aW e;refine⟨_,e,λM v z d d2=>?_⟩;cases d2;obtain⟨a,rfl,k⟩:=d.Lh;exact⟨_,Xd HT hi hd hj e1 _ a,k _⟩
  ·rename_i el x hd _;obtain⟨j,hj,e⟩:=ax e;unfold aJ at e;split at e
   ·rename_i n sI fid cs ys;obtain⟨e1,e⟩:=aW e;have e2:=fb e1;refine⟨_,e,λM v z d d2=>?_⟩;cases d2;cases d with
    |v p q=>
     cases p with
     |kv hl h hm hs hn o=>exact⟨_,Nd HT hi hd hj e1 _ _,TG o ⟨hl,h⟩ hm hs _⟩
     |_=>omega
   ·cases e
  ·rename_i el id off n cap hd _;obtain⟨j,hj,e⟩:=ax e;obtain⟨e1,e⟩:=aW e;refine⟨_,e,λM v z d d2=>?_⟩;cases d2;cases d with
   |sl g hn=>exact⟨_,Nd HT hi hd hj e1 _ _,by rw[tA];exact .ptr g⟩
  ·rename_i el id E0 hd _;obtain⟨j,hj,e⟩:=ax e;obtain⟨so,hso,e⟩:=ax e;split at e
   ·rename_i E c t0;obtain⟨e1,e⟩:=aW e;rw[bt] at e1;have e3:=fb e1.2;refine⟨_,e,λM v z d d2=>?_⟩;obtain⟨k1,k2,k3⟩:=M.obj id _ hso;cases d2;rcases k3 with⟨_,k4⟩|⟨o,n,cs,g1,_,_,g2,_⟩
    ·subst k4;simp at e3
    ·cases d with
     |jJ g=>rw[g1] at g;cases g
     |gr g hc hn=>rw[g1] at g;cases g;exact⟨_,Nd HT hi hd hj (zL (Nat.lt_of_mul_lt_mul_right (by rw[g2] at e3;exact e3))) _ _,by rw[tA];exact .ptr g1⟩
   ·cases e
  ·cases e
 ·cases e
def rG(s:ByteArray)(m:Nat):Zh UInt8:=s.data.toList[m]?
def Ns(T:TT)(t:TypeId)(x ix:SV)(K:SV->Zh β):Zh β:=match ix with
 | .i _ n=>aE n λm=>ob (T.get t) λi=>match i.desc,x with
  | .array len e,.agg l=>ob (T.get e) λj=>cond (Nat.blt m len) (match uF l with|some us=>ob j.zero λz=>vH j z (us.drop (m*j.size)) K|none=>Nx T e l (m*j.size) K) none
  | .string,.s s=>ob (rG s m) λc=>K (.i .u8 (Int.ofNat c.toNat))
  |_,_=>bC 15
 |_=>bC 16
theorem aiN{P:Program}{T:TT}(HT:eZ P T){t:TypeId}{x ix:SV}{K:SV->Zh β}{b:β}(e:Ns T t x ix K=some b):
 ∃sv,K sv=some b/\∀(σ:Ren) v z (w:Hx),DV σ x v->DV σ ix z->∃u,(Instr.index t v z).run P w=.ok u w/\DV σ sv u:=by
 unfold Ns at e;split at e
 ·obtain⟨m,rfl,e⟩:=xq e;replace e:=ax e;obtain⟨i,hi,e⟩:=e;split at e
  ·rename_i len el l hd _;obtain⟨j,hj,e⟩:=ax e;obtain⟨e1,e⟩:=aW e;have run:∀{cs:Array Qu}{k:IntKind}{w:Hx}{u:Qu},(part el cs (m*j.size)).run P w=.ok u w->(Instr.index t (.agg cs) (.int k (Int.ofNat m))).run P w=.ok u w:=by
    intro cs k w u h;unfold Instr.index;simp only[cU,asIntOf,eE,eA,gN w HT hi,hd,ay (Jx HT e1),run_sizeOf w HT hj];simpa using h
   split at e
   ·rename_i us hus;obtain⟨z,hz,e⟩:=ax e;obtain⟨sv,h1,h2⟩:=AS e;refine⟨sv,h1,λσ v z w d d2=>?_⟩;cases d2;cases d with
    |agg hl h=>obtain⟨k1,k2⟩:=wP ⟨hl,h⟩ hus;obtain⟨u,u1,u2⟩:=h2 σ _ k1 k2;exact⟨u,run (Nh HT hj u2),u1⟩
   ·obtain⟨sv,h1,h2⟩:=Xq HT e;refine⟨sv,h1,λσ v z w d d2=>?_⟩;cases d2;cases d with
    |agg hl h=>obtain⟨u,u1,u2⟩:=h2 σ _ w ⟨hl,h⟩;exact⟨u,run u1,u2⟩
  ·rename_i s hd _;obtain⟨c,hb,e⟩:=ax e;unfold rG at hb;refine⟨_,e,λσ v z w d d2=>?_⟩;cases d2;cases d;refine⟨.int .u8 (Int.ofNat c.toNat),?_,.i _ _⟩;unfold Instr.index;have hs:s[m]? =some c:=by
    have hm:m<s.data.toList.length:=by rcases gY m s.data.toList.length with h|h<;>grind
    have:s.data.toList[m]=c:=by rw[cw hm] at hb;exact jC hb
    rw[getElem?_pos s m (by simpa using hm)];exact bX some this
   simp[cU,asIntOf,gN w HT hi,hd,hs]
  ·cases e
 ·cases e
def Nr(T:TT)(t:TypeId)(x:SV)(f:Nat)(K:SV->Zh β):Zh β:=match x with
 | .agg l=>ob (T.get t) λi=>match i.desc with
  | .struct fs=>ob (fs[f]?) λfl=>Nx T fl.type l fl.offset K
  |_=>bC 31
 |_=>bC 32
def Nq(x:SV)(n:Nat)(K:SV->Zh β):Zh β:=match x with
 | .aH l=>ob (l[n]?) K
 |_=>bC 33
theorem aiK{P:Program}{T:TT}(HT:eZ P T){t:TypeId}{x:SV}{f:Nat}{K:SV->Zh β}{b:β}(e:Nr T t x f K=some b):
 ∃sv,K sv=some b/\∀(σ:Ren) v (w:Hx),DV σ x v->∃u,(Instr.field t v f).run P w=.ok u w/\DV σ sv u:=by
 unfold Nr at e;split at e
 ·obtain⟨i,hi,e⟩:=ax e;split at e
  ·rename_i fs hd;obtain⟨fl,hf,e⟩:=ax e;obtain⟨sv,h1,h2⟩:=Xq HT e;refine⟨sv,h1,λσ v w d=>?_⟩;cases d with
   |agg hl h=>obtain⟨u,u1,u2⟩:=h2 σ _ w ⟨hl,h⟩;exact⟨u,by simp[Instr.field,cU,gN w HT hi,hd,hf,asAgg,u1],u2⟩
  ·cases e
 ·cases e
theorem aiI{P:Program}{x:SV}{n:Nat}{K:SV->Zh β}{b:β}(e:Nq x n K=some b):
 ∃sv,K sv=some b/\∀(σ:Ren) v (w:Hx),DV σ x v->∃u,(Instr.extract v n).run P w=.ok u w/\DV σ sv u:=by
 unfold Nq at e;split at e
 ·obtain⟨y,h1,e⟩:=ax e;refine⟨y,e,λσ v w d=>?_⟩;cases d with
  |aH hl h=>obtain⟨u,u1,u2⟩:=PW.get ⟨hl,h⟩ h1;refine⟨u,?_,u2⟩;unfold Instr.extract;simp_all
 ·cases e
end
section
variable{β:Type}
def SZ(op:BinOp)(k:IntKind)(a b:Int)(K:SV->Zh β):Zh β:=match op with
 | .add=>K (.i k (ag k (Int.add a b)))
 | .sub=>K (.i k (ag k (Int.sub a b)))
 | .mul=>K (.i k (ag k (Int.mul a b)))
 | .quo=>cond (aj b 0) none (K (.i k (ag k (Int.tdiv a b))))
 | .rem=>cond (aj b 0) none (K (.i k (Int.tmod a b)))
 | .and=>K (.i k (ag k ((BitVec.ofInt k.bits a&&&BitVec.ofInt k.bits b).toNat:Nat)))
 | .or=>K (.i k (ag k ((BitVec.ofInt k.bits a|||BitVec.ofInt k.bits b).toNat:Nat)))
 | .xor=>K (.i k (ag k ((BitVec.ofInt k.bits a^^^BitVec.ofInt k.bits b).toNat:Nat)))
 | .eql=>K (.b (aj a b))
 | .neq=>K (.b (!aj a b))
 | .lss=>K (.b (ak a b))
 | .leq=>K (.b (!ak b a))
 | .gtr=>K (.b (ak b a))
 | .geq=>K (.b (!ak a b))
 |_=>none
def PA(op:BinOp)(k:IntKind)(a b:Int)(K:SV->Zh β):Zh β:=match op with
 | .shl=>cond (ak b 0) none (K (.i k (ag k (Int.mul a (2^min b.toNat k.bits)))))
 | .shr=>cond (ak b 0) none (K (.i k (Int.fdiv a (2^min b.toNat k.bits))))
 |_=>none
theorem aco{P:Program}{op:BinOp}{k:IntKind}{a b:Int}{K:SV->Zh β}{c:β}(e:SZ op k a b K=some c):∃sv v,K sv=some c/\(∀t w,(binOp op t (.int k a) (.int k b)).run P w=.ok v w)/\∀σ,DV σ sv v:=by
 have hnot:∀x y:Int,(!decide (x<y))=decide (y<=x):=λx y=>by rw[iD];simp
 cases op with
 |quo=>
  obtain⟨h,e⟩:=vg e;have hb:b≠0:=by rintro rfl;cases h
  exact⟨_,_,e,λt w=>by simp[binOp,Op.intDiv,hb,py],λσ=>.i _ _⟩
 |rem=>
  obtain⟨h,e⟩:=vg e;have hb:b≠0:=by rintro rfl;cases h
  exact⟨_,.int k (Int.tmod a b),e,λt w=>by simp[binOp,Op.intDiv,hb],λσ=>.i _ _⟩
 |add=>exact⟨_,_,e,λt w=>by simp[binOp,py];rfl,λσ=>.i _ _⟩
 |sub=>exact⟨_,_,e,λt w=>by simp[binOp,py];rfl,λσ=>.i _ _⟩
 |mul=>exact⟨_,_,e,λt w=>by simp[binOp,py];rfl,λσ=>.i _ _⟩
 |and=>exact⟨_,_,e,λt w=>by simp[binOp,Op.intBits,py],λσ=>.i _ _⟩
 |or=>exact⟨_,_,e,λt w=>by simp[binOp,Op.intBits,py],λσ=>.i _ _⟩
 |xor=>exact⟨_,_,e,λt w=>by simp[binOp,Op.intBits,py],λσ=>.i _ _⟩
 |eql=>exact⟨_,_,e,λt w=>by simp[binOp,Op.intCmp,vA],λσ=>.b _⟩
 |neq=>exact⟨_,_,e,λt w=>by simp[binOp,Op.intCmp,bne,vA],λσ=>.b _⟩
 |lss=>exact⟨_,_,e,λt w=>by simp[binOp,Op.intCmp,nO],λσ=>.b _⟩
 |leq=>exact⟨_,_,e,λt w=>by simp[binOp,Op.intCmp,hnot,nO],λσ=>.b _⟩
 |gtr=>exact⟨_,_,e,λt w=>by simp[binOp,Op.intCmp,nO],λσ=>.b _⟩
 |geq=>exact⟨_,_,e,λt w=>by simp[binOp,Op.intCmp,hnot,nO],λσ=>.b _⟩
 |_=>cases e
theorem YV{P:Program}{op:BinOp}{k k':IntKind}{a b:Int}{K:SV->Zh β}{c:β}(e:PA op k a b K=some c):∃sv v,K sv=some c/\(∀t w,(binOp op t (.int k a) (.int k' b)).run P w=.ok v w)/\∀σ,DV σ sv v:=by
 cases op with
 |shl=>obtain⟨h,e⟩:=vg e;rw[nO] at h;exact⟨_,_,e,λt w=>by simp[binOp,Op.shift,of_decide_eq_false h,py],λσ=>.i _ _⟩
 |shr=>obtain⟨h,e⟩:=vg e;rw[nO] at h;exact⟨_,.int k _,e,λt w=>by simp[binOp,Op.shift,of_decide_eq_false h],λσ=>.i _ _⟩
 |_=>cases e
def ar(x:Qu)(K:Nat->Zh β):Zh β:=match x with
 | .func (.via n _ _ true) _ _=>K n
 |_=>none
def Ke:H1 SV->H1 SV->Zh Bool
 |[],[]=>some true
 | .i k a::xs,.i k' b::ys=>cond (decide (k=k')) (ob (Ke xs ys) λr=>some (cond (aj a b) r false)) none
 |_,_=>none
def Np(T:TT)(t:TypeId)(x y:SV)(K:Bool->Zh β):Zh β:=ob (T.get t) λi=>match i.desc,x,y with
 | .pointer _,.ptr _ _,.v (.pointer none)=>K false
 | .slice _,.em b,.nl=>K b
 | .slice _,.nl,.nl=>K true
 | .slice _,.sl _ _ _ _,.nl=>K false
 | .slice _,.v x,.nl=>ar x λn=>cond (Nat.blt 0 n) (K false) none
 | .func ..,.fn _ _,.v .nilFunc=>K false
 | .func ..,.v .nilFunc,.v .nilFunc=>K true
 | .interface _,.fe _ _,.ni=>K false
 |_,.agg xs,.agg ys=>cond (i.flat&&Nat.beq xs.length i.size) (ob (Ke xs ys) K) none
 |_,_,_=>bC 51
theorem RJ{σ:Ren}:∀{xs ys:H1 SV}{r:Bool},Ke xs ys=some r->∀{vs ws:H1 Qu},eR σ xs vs->eR σ ys ws->ju vs ws=some r/\vs.length=ws.length
 |[],[],r,e,vs,ws,d,d2=>by cases e;rw[d.dY,d2.dY];exact⟨rfl,rfl⟩
 | .i k a::xs,.i k' b::ys,r,e,vs,ws,d,d2=>by obtain⟨e1,e3⟩:=aW e;obtain⟨r',h1,e3⟩:=ax e3;cases e3;obtain⟨y,vs,rfl,a1,t1⟩:=d.inv;obtain⟨z,ws,rfl,a2,t2⟩:=d2.inv;obtain⟨g1,g2⟩:=RJ h1 t1 t2;cases a1;cases a2;refine⟨?_,by simp[g2]⟩;unfold ju;simp_all;cases aj a b<;>simp
abbrev oV(P:Program)(op:BinOp)(t:TypeId)(xo yo:Operand)(v u:Qu)(w:Hx):Result Qu:=(do eqGuard op t xo yo v u;binOp op t v u:Sem Qu).run P w
theorem Eu{x:Qu}{K:Nat->Zh β}{b:β}(e:ar x K=some b):∃n p f cs ys,x=.func (.via n p f true) cs ys/\K n=some b:=by
 unfold ar at e;split at e
 ·exact⟨_,_,_,_,_,rfl,e⟩
 ·cases e
theorem Xi{P:Program}{T:TT}(H:eZ P T){t:TypeId}{x y:SV}{K:Bool->Zh β}{b:β}(e:Np T t x y K=some b):
 ∃r,K r=some b/\∀(σ:Ren) v u xo yo w,DV σ x v->DV σ y u->oV P .eql t xo yo v u w=.ok (.bool r) w/\oV P .neq t xo yo v u w=.ok (.bool (!r)) w:=by
 replace e:=ax e;obtain⟨i,hi,e⟩:=e;have hu:=H.under t i hi;have fin:∀{r:Bool}{v u:Qu}{xo yo:Operand}{w:Hx},(¬∃k a k' b,v=.int k a/\u=.int k' b)->(¬∃a b,v=.string a/\u=.string b)->(¬∃k a k' b,v=.float k a/\u=.float k' b)->
  (¬∃k a b k' c d,v=.complex k a b/\u=.complex k' c d)->((∀op,(eqGuard op t xo yo v u).run P w=.ok () w)/\(Op.equal t v u).run P w=.ok r w)->oV P .eql t xo yo v u w=.ok (.bool r) w/\oV P .neq t xo yo v u w=.ok (.bool (!r)) w:=by
  intro r v u xo yo w h1 h2 h3 h4 ⟨g,h⟩;obtain⟨b1,b2⟩:=Ah h1 h2 h3 h4 h;exact⟨by simp[oV,g,b1],by simp[oV,g,b2]⟩
 have g0:∀{v u:Qu}{xo yo:Operand}{w:Hx},¬(v=.nilIface/\u=.nilIface)->¬(∃xs ys,v=.agg xs/\u=.agg ys)->∀op,(eqGuard op t xo yo v u).run P w=.ok () w:=λh1 h2 _=>Sk h1 h2;split at e
 ·rename_i hd;refine⟨_,e,λσ v u xo yo w d d2=>?_⟩;cases d with
  |ptr g=>
   cases d2 with
   |v a _=>cases a;exact fin (by simp) (by simp) (by simp) (by simp) ⟨g0 (by simp) (by simp),by unfold Op.equal Op.maxDepth Op.equalIn;simp[underlying,hu,hd]⟩
 ·rename_i q hd;refine⟨_,e,λσ v u xo yo w d d2=>?_⟩;cases d2;cases d with
  |em a=>cases q<;>cases a<;>exact fin (by simp) (by simp) (by simp) (by simp) ⟨g0 (by simp) (by simp),by unfold Op.equal Op.maxDepth Op.equalIn;simp[underlying,hu,hd]⟩
 ·rename_i hd;refine⟨_,e,λσ v u xo yo w d d2=>?_⟩;cases d;cases d2;exact fin (by simp) (by simp) (by simp) (by simp) ⟨g0 (by simp) (by simp),by unfold Op.equal Op.maxDepth Op.equalIn;simp[underlying,hu,hd]⟩
 ·rename_i hd;refine⟨_,e,λσ v u xo yo w d d2=>?_⟩;cases d;cases d2;exact fin (by simp) (by simp) (by simp) (by simp) ⟨g0 (by simp) (by simp),by unfold Op.equal Op.maxDepth Op.equalIn;simp[underlying,hu,hd]⟩
 ·rename_i x hd;obtain⟨n,p,f,cs,ys,rfl,e⟩:=Eu e;obtain⟨e1,e⟩:=aW e;have e1:=fb e1;refine⟨_,e,λσ v u xo yo w d d2=>?_⟩;cases d2;cases d with
  |v a _=>
   cases a with
   |kv=>exact fin (by simp) (by simp) (by simp) (by simp) ⟨g0 (by simp) (by simp),by unfold Op.equal Op.maxDepth Op.equalIn;simp[underlying,hu,hd]⟩
   |_=>omega
 ·rename_i hd;refine⟨_,e,λσ v u xo yo w d d2=>?_⟩;cases d with
  |fn=>
   cases d2 with
   |v a _=>cases a;unfold se;exact fin (by simp) (by simp) (by simp) (by simp) ⟨g0 (by simp) (by simp),by unfold Op.equal Op.maxDepth Op.equalIn;simp[underlying,hu,hd]⟩
 ·rename_i hd;refine⟨_,e,λσ v u xo yo w d d2=>?_⟩;cases d with
  |v a _=>
   cases d2 with
   |v a2 _=>cases a;cases a2;exact fin (by simp) (by simp) (by simp) (by simp) ⟨g0 (by simp) (by simp),by unfold Op.equal Op.maxDepth Op.equalIn;simp[underlying,hu,hd]⟩
 ·rename_i hd;refine⟨_,e,λσ v u xo yo w d d2=>?_⟩;cases d;cases d2;exact fin (by simp) (by simp) (by simp) (by simp) ⟨g0 (by simp) (by simp),by unfold Op.equal Op.maxDepth Op.equalIn;simp[underlying,hu,hd]⟩
 ·obtain⟨e1,e⟩:=aW e;rw[bt] at e1;have e2:=bT e1.2;obtain⟨r,h1,e⟩:=ax e;refine⟨_,e,λσ v u xo yo w d d2=>?_⟩;cases d with
  |agg hl h=>
   cases d2 with
   |agg kl k=>obtain⟨k1,k2⟩:=RJ h1 ⟨hl,h⟩ ⟨kl,k⟩;exact fin (by simp) (by simp) (by simp) (by simp) ⟨λop=>run_eqGuard_agg w op t xo yo _ _ (H.flat t i hi e1.1).1,RL hu (H.flat t i hi e1.1).2.2 (H.flat t i hi e1.1).2.1 (by omega) (by omega) k1 9998 w⟩
 ·cases e
def Nn(T:TT)(op:BinOp)(t:TypeId)(x y:SV)(K:SV->Zh β):Zh β:=match x,y with
 | .i k a,.i k' b=>match op with
  | .shl=>PA .shl k a b K
  | .shr=>PA .shr k a b K
  |op=>cond (decide (k=k')) (SZ op k a b K) none
 | .s a,.s b=>match op with
  | .eql=>K (.b (mO a.data.toList b.data.toList))
  | .neq=>K (.b (!mO a.data.toList b.data.toList))
  |_=>bC 9
 | .b a,.b b=>ob (T.get t) λi=>match i.desc,op with
  | .bool,.eql=>K (.b (a==b))
  | .bool,.neq=>K (.b (!(a==b)))
  |_,_=>bC 10
 |x,y=>match op with
  | .eql=>Np T t x y λr=>K (.b r)
  | .neq=>Np T t x y λr=>K (.b (!r))
  |_=>bC 11
theorem aiC{P:Program}{T:TT}(H:eZ P T){op:BinOp}{t:TypeId}{x y:SV}{K:SV->Zh β}{b:β}(e:Nn T op t x y K=some b):
 ∃sv,K sv=some b/\∀(σ:Ren) v u xo yo w,DV σ x v->DV σ y u->∃r,oV P op t xo yo v u w=.ok r w/\DV σ sv r:=by
 have gi:∀{op:BinOp}{v u:Qu}{xo yo:Operand}{w:Hx}{r:Qu},¬(v=.nilIface/\u=.nilIface)->¬(∃xs ys,v=.agg xs/\u=.agg ys)->(binOp op t v u).run P w=.ok r w->oV P op t xo yo v u w=.ok r w:=by intro op v u xo yo w r h1 h2 h;have g:(eqGuard op t xo yo v u).run P w=.ok () w:=Sk h1 h2;simp[oV,g,h]
 unfold Nn at e;split at e
 ·rename_i k a k' b';have go:∀{e:∃sv v,K sv=some b/\(∀t w,(binOp op t (.int k a) (.int k' b')).run P w=.ok v w)/\∀σ,DV σ sv v},∃sv,K sv=some b/\∀(σ:Ren) v u xo yo w,DV σ (.i k a) v->DV σ (.i k' b') u->∃r,oV P op t xo yo v u w=.ok r w/\DV σ sv r:=by
   intro e;obtain⟨sv,v,h1,hv,h2⟩:=e;exact⟨sv,h1,λσ v' u xo yo w d d2=>by cases d;cases d2;exact⟨v,gi (by simp) (by simp) (hv t w),h2 σ⟩⟩
  split at e
  ·exact go (e:=YV e)
  ·exact go (e:=YV e)
  ·obtain⟨e1,e2⟩:=aW e;have e1:=ny e1;subst e1;exact go (e:=aco e2)
 ·rename_i a b';split at e
  ·exact⟨_,e,λσ v u xo yo w d d2=>by cases d;cases d2;exact⟨_,gi (by simp) (by simp) (by simp[binOp,Op.stringOp];rfl),by rw[Dz];simp[ByteArray.toList_eq];exact .b _⟩⟩
  ·exact⟨_,e,λσ v u xo yo w d d2=>by cases d;cases d2;exact⟨_,gi (by simp) (by simp) (by simp[binOp,Op.stringOp];rfl),by rw[Dz];simp[ByteArray.toList_eq];exact .b _⟩⟩
  ·cases e
 ·rename_i a b';replace e:=ax e;obtain⟨i,hi,e⟩:=e;have hu:=H.under t i hi;have key:∀{w:Hx},i.desc=.bool->(Op.equal t (.bool a) (.bool b')).run P w=.ok (a==b') w:=λhd=>by unfold Op.equal Op.maxDepth Op.equalIn;simp[underlying,hu,hd]
  split at e
  ·rename_i hd;exact⟨_,e,λσ v u xo yo w d d2=>by cases d;cases d2;exact⟨_,gi (by simp) (by simp) (Ah (by simp) (by simp) (by simp) (by simp) (key hd)).1,.b _⟩⟩
  ·rename_i hd;exact⟨_,e,λσ v u xo yo w d d2=>by cases d;cases d2;exact⟨_,gi (by simp) (by simp) (Ah (by simp) (by simp) (by simp) (by simp) (key hd)).2,.b _⟩⟩
  ·cases e
 ·split at e
  ·obtain⟨r,h1,h2⟩:=Xi H e;exact⟨_,h1,λσ v u xo yo w d d2=>⟨_,(h2 σ v u xo yo w d d2).1,.b _⟩⟩
  ·obtain⟨r,h1,h2⟩:=Xi H e;exact⟨_,h1,λσ v u xo yo w d d2=>⟨_,(h2 σ v u xo yo w d d2).2,.b _⟩⟩
  ·cases e
def Xp(T:TT)(op:BinOp)(t:TypeId)(K:SV->Zh β):Zh β:=ob (T.get t) λi=>match i.desc,op with
 | .interface _,.eql=>K (.b true)
 | .interface _,.neq=>K (.b false)
 |_,_=>bC 54
theorem aiT{P:Program}{T:TT}(H:eZ P T){op:BinOp}{t:TypeId}{K:SV->Zh β}{b:β}(e:Xp T op t K=some b):∃sv,K sv=some b/\∀xo yo w,(vF xo||vF yo)=true->∃u,oV P op t xo yo .nilIface .nilIface w=.ok u w/\∀σ,DV σ sv u:=by
 replace e:=ax e;obtain⟨i,hi,e⟩:=e;have hu:=H.under t i hi;have key:∀{w:Hx}{n:TypeDesc},i.desc=n->(∃m,n=.interface m)->(Op.equal t .nilIface .nilIface).run P w=.ok true w:=λhd ⟨m,hm⟩=>by subst hm;unfold Op.equal Op.maxDepth Op.equalIn;simp[underlying,hu,hd]
 have g:∀{op xo yo w},(vF xo||vF yo)=true->(eqGuard op t xo yo .nilIface .nilIface).run P w=.ok () w:=by intro op xo yo w h;unfold eqGuard;cases op<;>cases xo<;>cases yo<;>simp_all[vF]
 split at e
 ·rename_i hd;exact⟨_,e,λxo yo w h=>⟨.bool true,by simp[oV,g h,(Ah (by simp) (by simp) (by simp) (by simp) (key (w:=w) hd ⟨_,rfl⟩)).1],λσ=>.b _⟩⟩
 ·rename_i hd;exact⟨_,e,λxo yo w h=>⟨.bool false,by simp[oV,g h,(Ah (by simp) (by simp) (by simp) (by simp) (key (w:=w) hd ⟨_,rfl⟩)).2],λσ=>.b _⟩⟩
 ·cases e
end
section
variable{β:Type}
def dN(E:Nat)(x:Qu)(K:Nat->H1 Qu->Zh β):Zh β:=match x with
 | .func (.via n _ _ true) cs _=>cond (Nat.ble (n*E) cs.toList.length) (K n (cs.toList.take (n*E))) none
 |_=>none
def zm(st:St)(E:Nat)(x:SV)(K:Nat->H1 Qu->Zh β):Zh β:=match x with
 | .v x=>dN E x K
 | .nl=>K 0 []
 | .em _=>K 0 []
 | .gr id E0=>ob (st.h.get id) λso=>match so with
  | .grow E' c _=>cond (Nat.beq E' E&&Nat.beq E0 E) (K (c.length/E) c) none
  |_=>none
 | .sl id off n _=>ob (st.h.get id) λso=>match so with
  | .cells c _=>cond (Nat.ble (off+n*E) c.length) (ob (uF ((c.drop off).take (n*E))) λus=>K n us) none
  | .arr c _=>cond (Nat.ble (off+n*E) c.length) (K n ((c.drop off).take (n*E))) none
  |_=>none
 | .s s=>K s.data.toList.length (s.data.toList.map λb=>.int .u8 (Int.ofNat b.toNat))
 |_=>none
def aF(n:Nat):Bool:=Nat.ble n 1000000000
def BF:SO->Zh (H1 Qu×TypeId)
 | .arr c t=>some (c,t)
 | .cells c t=>ob (uF c) λus=>some (us,t)
 |_=>none
def PH(st:St)(j ix:jd)(z:Qu)(x:SV)(K:Nat->H1 Qu->Zh β):Zh β:=cond (oN ix.desc)
 (ob (wO z.cells.toList) λ_=>match x with
  | .i _ n=>aE n λm=>cond (Nat.ble m 1000000000) (K m (rep m z.cells.toList)) none
  |_=>bC 25)
 (zm st j.size x K)
def zX(E n:Nat)(new:H1 Qu)(x:Qu)(K:Qu->Zh β):Zh β:=match x with
 | .func (.yield m) cs _=>cond (Nat.beq cs.toList.length (m*E)&&(Nat.beq new.length (n*E)&&(aF m&&aF n))) (K (ae (m+n) (cs.toList++new))) none
 |_=>none
def Nl(T:TT)(st:St)(ts:H1 TypeId)(s x:SV)(K:SV->St->Zh β):Zh β:=match ts with
 |t::xt::_=>ob (T.get t) λi=>ob (T.get xt) λix=>match i.desc with
  | .slice e=>ob (T.get e) λj=>ob j.zero λz=>cond (Nat.blt 0 j.size&&(Nat.beq z.cells.size j.size&&Nat.ble j.bytes 10000))
   (PH st j ix z x λn new=>match s with
    | .nl=>cond (aF n&&Nat.beq new.length (n*j.size)) (K (.gr st.sx j.size) {st with h:=(st.h.del st.sx).set st.sx (.grow j.size new e),sx:=st.sx+1}) none
    | .gr id E0=>ob (st.h.get id) λso=>match so with
     | .grow E c t0=>cond (Nat.beq E j.size&&(Nat.beq E0 j.size&&Nat.beq t0 e)) (cond (aF c.length&&(aF n&&Nat.beq new.length (n*j.size))) (K (.gr st.sx j.size) {st with h:=(st.h.del id).set st.sx (.grow j.size (c++new) e),sx:=st.sx+1}) none) none
     |_=>bC 22
    | .sl id off n0 cap=>ob (st.h.get id) λso=>ob (BF so) λq=>cond (Nat.beq new.length (n*j.size)&&(Nat.ble (off+n0*j.size) q.1.length&&Nat.beq q.2 e))
     (cond (Nat.ble (n0+n) cap)
      (cond (Nat.ble (off+n0*j.size+new.length) q.1.length) (K (.sl id off (n0+n) cap) {st with h:=st.h.set id (.arr (aX (off+n0*j.size) new q.1) q.2)}) none)
      (cond (aF n&&(aF n0&&Nat.ble (Builtin.nextslicecap (n0+n) cap) 5000000000)) (K (.gr st.sx j.size) {st with h:=st.h.set st.sx (.grow j.size ((q.1.drop off).take (n0*j.size)++new) e),sx:=st.sx+1}) none)) none
    | .v x=>zX j.size n new x λy=>K (.v y) st
    |_=>bC 44) none
  |_=>bC 23
 |_=>bC 24
theorem AT(P:Program){w:Hx}{b off n n' c E:Nat}{cs:Array Qu}{t:TypeId}(k:Cl w b cs t)(h:off+n*E<=cs.toList.length):∀m≤n,(Builtin.firstCells E m (.slice (some ⟨b,off,none⟩) n' c)).run P w=.ok ⟨((cs.toList.drop off).take (n*E)).take (m*E)⟩ w:=λm hm=>by obtain⟨fz,h1,_⟩:=k;have hk:m*E<=n*E:=wZ _ hm;obtain⟨vs,a1,a2⟩:=BH P (k:=off) (n:=m*E) h1 (by simp at h;omega);rw[List.take_take,lI hk,<-a2];exact a1
theorem QR{m:Nat->Nat->Zh Qu}(l:H1 UInt8):PW (aK m) (l.map λb=>Value.int .u8 (Int.ofNat b.toNat)) (l.map λb=>Value.int .u8 (Int.ofNat b.toNat))/\aZ (l.map λb=>Value.int .u8 (Int.ofNat b.toNat))=true:=by
 induction l with
 |nil=>exact⟨.nil,rfl⟩
 |cons b l ih=>exact⟨.cons (.int _ _) ih.1,ih.2⟩
theorem Ir{P:Program}{st:St}{E:Nat}(hE:0<E){x:SV}{K:Nat->H1 Qu->Zh β}{b:β}(e:zm st E x K=some b):
 ∃n c,K n c=some b/\∀{B:Bs}{σ:Ren}{F:Nat->Prop}{w:Hx},Mem B σ (hG st.h) F w->∀v,DV σ x v->aZ c=true/\(Builtin.lenOf v).run P w=.ok n w/\(c.length=n*E->∃vs,PW (aK σ.lit) c vs/\∀k≤n,(Builtin.firstCells E k v).run P w=.ok ⟨vs.take (k*E)⟩ w)/\((∃s,x=.s s)\/c.length=n*E/\∃a m cp,v=.slice a m cp):=by
 have zero:∀{σ:Ren}{w:Hx}{a:Zh Addr}{c:Nat},∃vs,PW (aK σ.lit) [] vs/\∀k≤0,(Builtin.firstCells E k (.slice a 0 c)).run P w=.ok ⟨vs.take (k*E)⟩ w:=by
  intro σ w a c;refine⟨[],.nil,λk hk=>?_⟩;obtain rfl:k=0:=by omega
  cases a with
  |none=>simp[Builtin.firstCells]
  |some a=>simp only[Builtin.firstCells,Nat.zero_mul];exact Ey P a w
 unfold zm at e;split at e
 ·unfold dN at e;split at e
  ·rename_i n p f cs ys;obtain⟨e1,e⟩:=aW e;have e1:=dW e1;refine⟨_,_,e,λM v d=>?_⟩;cases d with
   |v a _=>
    cases a with
    |@kv _ _ _ a zs hl h hm hs hn ho=>
     refine⟨re ho λ_=>uL,rfl,λ_=>⟨zs.take (n*E),PW.take ⟨hl,h⟩ _,λk hk=>?_⟩,.inr ⟨by rw[dk];omega,_,_,_,rfl⟩⟩;have hk:k*E<=n*E:=wZ _ hk;have:=Ng P hs (zs.take (k*E)) 0 #[] λi y hy=>by
      have hy2:zs[i]? =some y:=by grind
      obtain⟨x,hx⟩:∃x,cs.toList[i]? =some x:=by have:=(mJ.1 hy2).1;exact⟨cs.toList[i]'(by omega),by simp⟩
      exact(h i x y hx hy2).cell (M.lit _ _ _ (hm i y hy2))
     rw[(show(zs.take (k*E)).length=k*E from by rw[dk];omega)] at this;rw[List.take_take,lI hk];exact this
    |fW=>rw[Nat.zero_mul];exact⟨rfl,rfl,λ_=>zero,.inr ⟨rfl,_,_,_,rfl⟩⟩
    |zH=>rw[Nat.zero_mul];exact⟨rfl,rfl,λ_=>zero,.inr ⟨rfl,_,_,_,rfl⟩⟩
    |A7=>rw[Nat.zero_mul];exact⟨rfl,rfl,λ_=>zero,.inr ⟨rfl,_,_,_,rfl⟩⟩
  ·cases e
 ·exact⟨_,_,e,λM v d=>by cases d;exact⟨rfl,rfl,λ_=>zero,.inr ⟨by simp,_,_,_,rfl⟩⟩⟩
 ·exact⟨_,_,e,λM v d=>by
   cases d with
   |em a=>cases‹Bool›<;>cases a<;>exact⟨rfl,rfl,λ_=>zero,.inr ⟨by simp,_,_,_,rfl⟩⟩⟩
 ·rename_i id E0;obtain⟨so,hso,e⟩:=ax e;split at e
  ·rename_i E' c t;obtain⟨e1,e⟩:=aW e;rw[bt] at e1;obtain rfl:=bT e1.1;obtain rfl:=bT e1.2;refine⟨_,_,e,λM v d=>?_⟩;obtain⟨k1,k2,k3⟩:=M.obj id _ hso;rcases k3 with⟨g1,rfl⟩|⟨o,n,cs,g1,g2,_,g4,g5,g6⟩
   ·cases d with
    |jJ g=>simp only[List.length_nil,Nat.zero_div];exact⟨k2,rfl,λ_=>zero,.inr ⟨by simp,_,_,_,rfl⟩⟩
    |gr g=>rw[g1] at g;cases g
   ·cases d with
    |jJ g=>rw[g1] at g;cases g
    |gr g hc hn=>rw[g1] at g;cases g;rw[g4,ir _ k1,<-g4];refine⟨k2,rfl,λ_=>⟨_,g6,λk hk=>?_⟩,.inr ⟨rfl,_,_,_,rfl⟩⟩;rw[g4];exact AT P g2 (off:=0) (by rw[<-g4];simpa using g5) k hk
  ·cases e
 ·rename_i id off n _;obtain⟨so,hso,e⟩:=ax e;split at e
  ·rename_i c t;obtain⟨e1,e⟩:=aW e;have e1:=dW e1;obtain⟨us,hus,e⟩:=ax e;refine⟨_,_,e,λM v d=>?_⟩;obtain⟨o,m,cs,g1,g2,g3⟩:=M.obj id _ hso;obtain⟨k1,k2⟩:=wP ((g3.drop off).take _) hus;cases d with
   |sl g hn=>rw[g1] at g;cases g;exact⟨k2,rfl,λ_=>⟨_,k1,AT P g2 (by have:=g3.1;omega)⟩,.inr ⟨by rw[k1.1,dk,eu];have:=g3.1;omega,_,_,_,rfl⟩⟩
  ·rename_i c t;obtain⟨e1,e⟩:=aW e;have e1:=dW e1;refine⟨_,_,e,λM v d=>?_⟩;obtain⟨o,m,cs,g1,g2,g3,g4⟩:=M.obj id _ hso;cases d with
   |sl g hn=>rw[g1] at g;cases g;exact⟨re g3 λ_ h=>qN (uL h),rfl,λ_=>⟨_,(g4.drop off).take _,AT P g2 (by have:=g4.1;omega)⟩,.inr ⟨by rw[dk,eu];omega,_,_,_,rfl⟩⟩
  ·cases e
 ·rename_i s;refine⟨_,_,e,λM v d=>?_⟩;cases d;refine⟨(QR (m:=λ_ _=>none) _).2,rfl,λh=>⟨_,(QR _).1,λk hk=>?_⟩,.inl ⟨_,rfl⟩⟩;rw[cH] at h;have hk2:k*E=k:=by
   rcases Nat.eq_zero_or_pos k with q|q
   ·rw[q,Nat.zero_mul]
   ·have:E=1:=by
     have h0:0<s.data.toList.length:=by omega
     exact(Nat.mul_left_cancel (n:=s.data.toList.length) h0 (by omega)).symm
    rw[this,gy]
  have:((s.extract 0 k).data.map λb=>Value.int .u8 (b.toNat:Int))=⟨(s.data.toList.map λb=>Value.int .u8 (Int.ofNat b.toNat)).take (k*E)⟩:=by apply Array.ext';rw[hk2];simp
  exact bX (λx=>Result.ok x _) this
 ·cases e
end
section
variable{β:Type}
theorem MY{m:Nat->Nat->Zh Qu}{l:H1 Qu}(h:PW (aK m) l l):∀n,PW (aK m) (rep n l) (rep n l)
 |0=>.nil
 |n+1=>h.append (MY h n)
theorem Bd{a b:H1 Qu}(h:aZ a=true)(k:aZ b=true):aZ (a++b)=true:=iV.2 λx hx=>by
 rcases fQ.1 hx with q|q
 ·exact iV.1 h x q
 ·exact iV.1 k x q
theorem FC{l:H1 Qu}(h:aZ l=true):∀n,aZ (rep n l)=true
 |0=>rfl
 |n+1=>Bd h (FC h n)
theorem amD(z:Array Qu)(n:Nat):(Builtin.zeroCells z n).size=n*z.size:=by simp[Builtin.zeroCells]
def Qa(P:Program)(w:Hx)(dx:TypeDesc)(x:Qu)(n bytes:Nat):Prop:=
 (oN dx=false/\(Builtin.lenOf x).run P w=.ok n w)\/(oN dx=true/\(∃k,x=.int k (Int.ofNat n))/\n<9223372036854775808/\n*bytes<=281474976710656)
theorem alP{P:Program}{T:TT}(HT:eZ P T){st:St}{e:TypeId}{j ix:jd}(hj:T.get e=some j){z:Qu}(p1:0<j.size)(hz:j.zero=some z)(p2:Nat.beq z.cells.size j.size=true)(p3:j.bytes<=10000){x:SV}{K:Nat->H1 Qu->Zh β}{b:β}(e1:PH st j ix z x K=some b):
 ∃n c,K n c=some b/\∀{B:Bs}{σ:Ren}{F:Nat->Prop}{w:Hx},Mem B σ (hG st.h) F w->∀v,DV σ x v->aZ c=true/\Qa P w ix.desc v n j.bytes/\(c.length=n*j.size->∃vs,PW (aK σ.lit) c vs/\(pA (oN ix.desc) j.size n e v).run P w=.ok ⟨vs⟩ w):=by
 unfold PH at e1;cases hd:oN ix.desc with
 |true=>
  rw[hd] at e1;obtain⟨zs,hzs,e1⟩:=ax e1;split at e1
  ·obtain⟨m,rfl,e1⟩:=xq e1;obtain⟨q,e1⟩:=aW e1;have q:=dW q;refine⟨_,_,e1,λ{_ σ _ w} M v d=>?_⟩;cases d;obtain⟨_,r,o⟩:=zp (σ:=σ) hzs;have hs:=bT p2;refine⟨FC o _,.inr ⟨hd,⟨_,rfl⟩,by omega,fE (Nat.mul_le_mul q p3) (by decide)⟩,λ_=>⟨_,MY r _,?_⟩⟩;unfold pA;simp only[bW,kB,gR];by_cases h0:m*j.size=0
   ·have:m=0:=by rcases Nat.mul_eq_zero.1 h0 with h|h<;>omega
    subst this;simp[rep]
   ·rw[aq h0,cU,sL w HT hj hz];refine bX (λx=>Result.ok x w) (Array.ext' ?_);exact MU z.cells (by omega) m
  ·cases e1
 |false=>rw[hd] at e1;obtain⟨n,c,h1,h2⟩:=Ir (P:=P) p1 e1;refine⟨n,c,h1,λM v d=>?_⟩;obtain⟨k1,k2,k3,_⟩:=h2 M v d;refine⟨k1,.inl ⟨hd,k2⟩,λhl=>?_⟩;obtain⟨vs,r,f⟩:=k3 hl;refine⟨vs,r,?_⟩;have:=f n (aM _);rw[<-hl,r.1,mL] at this;simpa[pA] using this
theorem FO{σ:Ren}{w:Hx}{id:Nat}{so:SO}{q:H1 Qu×TypeId}(e:BF so=some q)(d:DO σ w id so):∃o m cs,σ.nm id=some (some o,m)/\Cl w o.1 cs q.2 /\aZ q.1 =true/\PW (aK σ.lit) q.1 cs.toList:=by
 unfold BF at e;split at e
 ·cases e;exact d
 ·obtain⟨us,h,e⟩:=ax e;cases e;obtain⟨o,m,cs,g1,g2,g3⟩:=d;obtain⟨k1,k2⟩:=wP g3 h;exact⟨o,m,cs,g1,g2,k2,k1⟩
 ·cases e
theorem Ap(w:Hx):eS (λ_=>False) w (jt w):=⟨rfl,rfl,rfl,aM _,λ_ _ _=>rfl⟩
theorem V1(w:Hx)(o:Obj):eS (λ_=>False) w {jt w with heap:=w.heap.push o}:=⟨rfl,rfl,rfl,by simp,λb hb _=>MG w o b hb⟩
theorem EH{n c:Nat}(h:n<=2000000000)(k:c<n):Builtin.nextslicecap n c<=5000000000:=by
 have gr:∀r c,c<=5000000000->c<3000000000\/n<=c->Builtin.growBy n r c<=5000000000:=by
  intro r;induction r with
  |zero=>intro c h1 _;exact h1
  |succ r ih=>
   intro c h1 h2;unfold Builtin.growBy;split
   ·exact h1
   ·exact ih _ (by omega) (by omega)
 unfold Builtin.nextslicecap;split
 ·omega
 ·split
  ·omega
  ·exact gr 4 c (by omega) (by omega)
theorem V2{α:Type}(vs:H1 α)(n:Nat)(l:H1 α)(h:n+vs.length<=l.length):aX n vs l=l.take n++vs++l.drop (n+vs.length):=by
 induction vs generalizing n l with
 |nil=>simp[aX]
 |cons v vs ih=>simp only[aX];simp at h;rw[ih (n+1) (l.set n v) (by simp;omega),List.take_set,List.drop_set_of_lt (by omega)];rw[im (by omega),List.set_append,aq (by simp;omega)];simp[lI (show n<=l.length by omega),Nat.add_comm,Nat.add_left_comm]
theorem aiA{P:Program}{T:TT}(HT:eZ P T){st:St}{ts:Array TypeId}{s x:SV}{K:SV->St->Zh β}{b:β}(e:Nl T st ts.toList s x K=some b):
 ∃sv h' d,K sv {st with h:=h',sx:=st.sx+d}=some b/\∀{B:Bs}{σ:Ren}{F:Nat->Prop}{w:Hx},(∀id,st.sx<=id->id<st.sx+d->F id)->Mem B σ (hG st.h) F w->∀(xs:Array Qu)(rt:TypeId) v u,xs[0]? =some v->xs[1]? =some u->DV σ s v->DV σ x u->
  ∃r w' σ',(Builtin.append_ ts rt xs).run P w=.ok r w'/\Ext σ σ'/\DV σ' sv r/\Mem B σ' (hG h') (mf F st.sx (st.sx+d)) w':=by
 unfold Nl at e;split at e
 ·rename_i t xt rest hts;have h0:ts[0]? =some t:=by rw[<-lR,hts];rfl
  have h1:ts[1]? =some xt:=by rw[<-lR,hts];rfl
  replace e:=ax e;obtain⟨i,hi,e⟩:=e;replace e:=ax e;obtain⟨ix,hix,e⟩:=e;split at e
  ·rename_i el hd;replace e:=ax e;obtain⟨j,hj,e⟩:=e;replace e:=ax e;obtain⟨z,hz,e⟩:=e;obtain⟨e1,e⟩:=aW e;simp only[bt] at e1;obtain⟨p1,p2,p3⟩:=e1;have p1:=fb p1;have p3:=dW p3;obtain⟨n,new,f,g⟩:=alP HT hj p1 hz p2 p3 e;clear e;obtain⟨inf,i1,i2,i3,i4⟩:=HT.info el j hj;have args:∀{w:Hx}{xs:Array Qu}{b:Zh Addr}{len c:Nat}{u:Qu},xs[0]? =some (.slice b len c)->xs[1]? =some u->Qa P w ix.desc u n j.bytes->uN P w ts xs t xt el ix.desc inf b len c u n:=by
    intro w xs b len c u x0 x1 nm;exact⟨h0,h1,x0,x1,by rw[HT.under t i hi,hd],HT.under xt ix hix,i1,by rw[i3];exact nm⟩
   have grow:∀{σ:Ren}{w:Hx}{xs:Array Qu}{rt:TypeId}{b:Zh Addr}{len c:Nat}{u:Qu}{c0 v0 vs:H1 Qu},uN P w ts xs t xt el ix.desc inf b len c u n->c<len+n->len+n<=2000000000->Builtin.nextslicecap (len+n) c<=5000000000->
    (Builtin.firstCells j.size len (.slice b len c)).run P (jt w)=.ok ⟨v0⟩ (jt w)->(pA (oN ix.desc) j.size n el u).run P (jt w)=.ok ⟨vs⟩ (jt w)->PW (aK σ.lit) c0 v0->PW (aK σ.lit) new vs->aZ c0=true->aZ new=true->
    c0.length=len*j.size->new.length=n*j.size->∃r w' cap,(Builtin.append_ ts rt xs).run P w=.ok r w'/\eS (λ_=>False) w w'/\∀σ' id,σ'.lit=σ.lit->σ'.nm id=some (some (w.heap.size,cap),len+n)->
     DV σ' (.gr id j.size) r/\DO σ' w' id (.grow j.size (c0++new) el):=by
    intro σ w xs rt b len c u c0 v0 vs A hgt hb1 hb2 f1 f2 r1 r2 o1 o2 l1 l2;obtain⟨cap,hcap,run⟩:=Jq (rt:=rt) A hgt (by omega) (by rw[i3];exact fE (Nat.mul_le_mul hb2 p3) (by decide)) (by rw[i2];exact f1) (by rw[i2];exact f2) (i4 z hz);refine⟨_,_,cap*j.size,run,V1 w _,λσ' id hl hn=>⟨.gr hn rfl hcap,p1,Bd o1 o2,.inr ⟨_,_,_,hn,⟨_,Fu w _,Ls _⟩,?_,by rw[aP,l1,l2,lW],?_,?_⟩⟩⟩;all_goals have s1:v0.length=len*j.size:=by rw[<-r1.1,l1]
    all_goals have s2:vs.length=n*j.size:=by rw[<-r2.1,l2]
    all_goals have s3:=bT p2
    ·show cap*j.size=((⟨v0⟩:Array Qu)++(⟨vs⟩:Array Qu)++_).size;rw[Array.size_append,Array.size_append,amD,s3];show _=v0.length+vs.length+_;rw[s1,s2,<-lW,<-lW]
     congr 1;omega
    ·rw[aP,l1,l2,Array.size_append,Array.size_append];show _<=v0.length+vs.length+_;omega
    ·have:=(r1.append r2);rw[hl,aP,l1,l2,<-s1,<-s2,<-aP];simp only[Array.toList_append];rw[List.take_left']
     ·exact this
     ·rfl
   split at f
   ·obtain⟨e2,f⟩:=aW f;simp only[bt] at e2;have q1:=dW e2.1;have q2:=bT e2.2;refine⟨_,_,1,f,λ{B σ F w} hF M xs rt v u x0 x1 d d2=>?_⟩;cases d;obtain⟨o2,nm,k⟩:=g M u d2;rcases Nat.eq_zero_or_pos n with rfl|hn
    ·obtain⟨vs,r,ad⟩:=k q2;have:new=[]:=kC (by omega);subst this;obtain rfl:=r.dY;have run:=u5 (rt:=rt) (args x0 x1 nm) (aM _) (by rw[i2];exact ad) (w':=w) rfl;obtain⟨E,M'⟩:=M.swap (hF _ (aM _) (kT _)) (id:=st.sx) (x:=(none,0)) (so:=.grow j.size [] el) (eS.refl _ _) (λo n h=>by cases h) (λ_ _ _ _ _ _ _=>rfl) ⟨p1,rfl,.inl ⟨Ren.jE _ _ _,rfl⟩⟩;exact⟨_,_,_,run,E,.jJ (Ren.jE _ _ _),M'⟩
    ·obtain⟨_,_,k'⟩:=g (M.same (Ap w)) u d2;obtain⟨vs,r,ad⟩:=k' q2;obtain⟨r0,w',cap,run,fr,h⟩:=grow (c0:=[]) (v0:=[]) (rt:=rt) (args x0 x1 nm) (by omega) (by omega) (by simp[Builtin.nextslicecap,hn];omega) (by simp[Builtin.firstCells]) ad .nil r rfl o2 (by simp) q2;obtain⟨h1,h2⟩:=h (σ.add st.sx (some (w.heap.size,cap),0+n)) st.sx rfl (Ren.jE _ _ _);obtain⟨E,M'⟩:=M.swap (hF _ (aM _) (kT _)) (id:=st.sx) (fr.wide λ_ q=>q.elim) (λo m q=>.inl (by cases q;exact aM _)) (λ_ _ _ _ _ a b=>fr.block _ (M.lt a b) λq=>q) h2;exact⟨_,_,_,run,E,h1,M'⟩
   ·rename_i id E0;obtain⟨so,hso,f⟩:=ax f;split at f
    ·rename_i E c t0;obtain⟨e2,f2⟩:=aW f;simp only[bt] at e2;obtain⟨c1,c2,c3⟩:=e2;obtain rfl:=bT c1;obtain rfl:=bT c2;obtain rfl:=bT c3;obtain⟨e3,f3⟩:=aW f2;simp only[bt] at e3;have q0:=dW e3.1;have q1:=dW e3.2.1;have q2:=bT e3.2.2;refine⟨_,_,1,f3,λ{B σ F w} hF M xs rt v u x0 x1 d d2=>?_⟩;obtain⟨o2,nm,k⟩:=g M u d2;obtain⟨_,_,k'⟩:=g (M.same (Ap w)) u d2;obtain⟨k1,k2,k3⟩:=M.obj id _ hso;rcases k3 with⟨g1,rfl⟩|⟨o,m,cs,g1,g2,g3,g4,g5,g6⟩
     ·cases d with
      |gr g=>rw[g1] at g;cases g
      |jJ _=>
      rcases Nat.eq_zero_or_pos n with rfl|hn
      ·obtain⟨vs,r,ad⟩:=k q2;have:new=[]:=kC (by omega);subst this;obtain rfl:=r.dY;have run:=u5 (rt:=rt) (args x0 x1 nm) (aM _) (by rw[i2];exact ad) (w':=w) rfl;obtain⟨E,M'⟩:=M.swap (hF _ (aM _) (kT _)) (id:=id) (x:=(none,0)) (so:=.grow j.size ([]++[]) t0) (eS.refl _ _) (λo n h=>by cases h) (λ_ _ _ _ _ _ _=>rfl) ⟨p1,rfl,.inl ⟨Ren.jE _ _ _,rfl⟩⟩;exact⟨_,_,_,run,E,.jJ (Ren.jE _ _ _),M'⟩
      ·obtain⟨vs,r,ad⟩:=k' q2;obtain⟨r0,w',cap,run,fr,h⟩:=grow (c0:=[]) (v0:=[]) (rt:=rt) (args x0 x1 nm) (by omega) (by omega) (by simp[Builtin.nextslicecap,hn];omega) (by simp[Builtin.firstCells]) ad .nil r rfl o2 (by simp) q2;obtain⟨h1,h2⟩:=h (σ.add st.sx (some (w.heap.size,cap),0+n)) st.sx rfl (Ren.jE _ _ _);obtain⟨E,M'⟩:=M.swap (hF _ (aM _) (kT _)) (id:=id) (fr.wide λ_ q=>q.elim) (λo m q=>.inl (by cases q;exact aM _)) (λ_ _ _ _ _ a b=>fr.block _ (M.lt a b) λq=>q) h2;exact⟨_,_,_,run,E,h1,M'⟩
     ·cases d with
      |jJ g=>rw[g1] at g;cases g
      |@gr _ _ _ cp _ g hc hn=>
      rw[g1] at g;cases g;rcases gY cp (m+n) with hgt|hle
      ·obtain⟨vs,r,ad⟩:=k' q2;have hm:m<=c.length:=by rw[g4];exact Nat.le_mul_of_pos_right _ p1
       have hcap:Builtin.nextslicecap (m+n) cp<=5000000000:=EH (by omega) (by omega);obtain⟨r0,w',cap,run,fr,h⟩:=grow (rt:=rt) (args x0 x1 nm) hgt (by omega) hcap (by
        have:=AT P (E:=j.size) (n:=m) (n':=m) (c:=cp) (w:=jt w) g2 (off:=0) (by rw[<-g4];simpa using g5) m (aM _);rw[List.take_take,Nat.min_self,er,<-g4] at this;exact this) ad g6 r k2 o2 g4 q2
       obtain⟨h1,h2⟩:=h (σ.add st.sx (some (w.heap.size,cap),m+n)) st.sx rfl (Ren.jE _ _ _);obtain⟨E,M'⟩:=M.swap (hF _ (aM _) (kT _)) (id:=id) (fr.wide λ_ q=>q.elim) (λo m q=>.inl (by cases q;exact aM _)) (λ_ _ _ _ _ a b=>fr.block _ (M.lt a b) λq=>q) h2;exact⟨_,_,_,run,E,h1,M'⟩
      ·obtain⟨vs,r,ad⟩:=k q2;have hv:vs.length=n*j.size:=by rw[<-r.1,q2]
       have hcs:cs.toList.length=cs.size:=rfl;have hle2:(m+n)*j.size<=cs.size:=by rw[<-g3,<-hc];exact wZ _ hle
       rw[lW] at hle2;obtain⟨w',a1,a2,a3⟩:=Iy P g2 (Bf r o2) (off:=m*j.size) (by omega);have run:=u5 (rt:=rt) (args x0 x1 nm) hle (by rw[i2];exact ad) (w':=w') (by rw[i2];simp only[rR,zn,tA,fI];exact a1);have sz:(⟨aX (m*j.size) vs cs.toList⟩:Array Qu).size=cs.size:=nZ _ _ _;have dd:DO (σ.add st.sx (some o,m+n)) w' st.sx (.grow j.size (c++new) t0):=by refine⟨p1,Bd k2 o2,.inr ⟨_,_,_,Ren.jE _ _ _,a2,by rw[sz];exact g3,by rw[aP,g4,q2,lW],by rw[aP,sz];omega,?_⟩⟩;show PW (aK σ.lit) (c++new) ((aX (m*j.size) vs cs.toList).take (c++new).length);rw[aP,V2 _ _ _ (by omega),List.take_append_of_le_length (by simp;omega)];rw[g4] at g6;rw[g4,q2,<-hv,eQ (by simp;omega)];exact g6.append r
       obtain⟨E,M'⟩:=M.swap (hF _ (aM _) (kT _)) (id:=id) (a3.wide λb q=>⟨id,_,o,m,hso,g1,q.symm⟩) (λo' n' h=>.inr ⟨_,_,_,hso,g1,by cases h;rfl⟩)
        (λi s p n' h1 h2 h3=>a3.block _ (M.lt h2 h3) λq=>h1 (M.inj _ _ _ _ _ _ _ _ h2 hso h3 g1 q)) dd
       exact⟨_,_,_,run,E,.gr (Ren.jE _ _ _) hc hle,M'⟩
    ·cases f
   ·rename_i id off n0 cap;obtain⟨so,hso,f⟩:=ax f;obtain⟨q,hq,f⟩:=ax f;obtain⟨e2,f⟩:=aW f;simp only[bt] at e2;have q1:=bT e2.1;have q2:=dW e2.2.1;have q3:=bT e2.2.2;cases hb:Nat.ble (n0+n) cap with
    |true=>
     rw[hb] at f;obtain⟨e3,f⟩:=aW f;have q4:=dW e3;have hb:=dW hb;refine⟨_,_,0,f,λ{B σ F w} hF M xs rt v u x0 x1 d d2=>?_⟩;obtain⟨o2,nm,k⟩:=g M u d2;obtain⟨vs,r,ad⟩:=k q1;obtain⟨o,m,cs,g1,g2,g3,g4⟩:=FO hq (M.obj _ _ hso);cases d with
     |sl gg hn=>rw[g1] at gg;cases gg;have:=r.1;have:=g4.1;obtain⟨w',a1,a2,a3⟩:=Iy P g2 (Bf r o2) (off:=off+n0*j.size) (by omega);have run:=u5 (rt:=rt) (args x0 x1 nm) hb (by rw[i2];exact ad) (w':=w') (by rw[i2];simp only[rR,zn,tA];exact a1);have dd:DO σ w' id (.arr (aX (off+n0*j.size) new q.1) q.2):=⟨_,_,_,g1,a2,Be _ o2 g3,r.aX _ g4⟩;exact⟨_,_,_,run,Ext.refl _,.sl g1 hb,(M.put hso g1 a3 dd).less (λ_ _ h=>h) λ_ h=>h.1⟩
    |false=>
     rw[hb] at f;obtain⟨e3,f⟩:=aW f;simp only[bt] at e3;have r1:=dW e3.1;have r2:=dW e3.2.1;have r3:=dW e3.2.2;refine⟨_,_,1,f,λ{B σ F w} hF M xs rt v u x0 x1 d d2=>?_⟩;obtain⟨o2,nm,_⟩:=g M u d2;obtain⟨_,_,k'⟩:=g (M.same (Ap w)) u d2;obtain⟨vs,r,ad⟩:=k' q1;obtain⟨o,m,cs,g1,g2,g3,g4⟩:=FO hq (M.obj _ _ hso);have hgt:cap<n0+n:=by
      rcases gY cap (n0+n) with h|h
      ·exact h
      ·rw[zL h] at hb;cases hb
     cases d with
     |sl gg hn=>
      rw[g1] at gg;cases gg;have:=g4.1;obtain⟨r0,w',cp,run,fr,h⟩:=grow (rt:=rt) (args x0 x1 nm) hgt (by omega) r3 (by
       have:=AT P (E:=j.size) (n:=n0) (n':=n0) (c:=cap) (w:=jt w) g2 (off:=off) (by omega) n0 (aM _);rw[List.take_take,Nat.min_self] at this;exact this) ad ((g4.drop off).take _) r (re g3 λ_ h=>qN (uL h)) o2 (by rw[dk,eu];omega) q1
      obtain⟨h1,h2⟩:=h (σ.add st.sx (some (w.heap.size,cp),n0+n)) st.sx rfl (Ren.jE _ _ _);rw[<-q3] at h2;obtain⟨E,M'⟩:=M.new (hF _ (aM _) (kT _)) fr h2;exact⟨_,_,_,run,E,h1,by rw[q3] at M';exact M'⟩
   ·rename_i x0v;unfold zX at f;split at f
    ·rename_i m cs ys;obtain⟨e2,f⟩:=aW f;simp only[bt] at e2;have c1:=bT e2.1;have c2:=bT e2.2.1;have c3:=dW e2.2.2.1;have c4:=dW e2.2.2.2;obtain⟨n1,c0,s1,s2⟩:=Ir (P:=P) (st:=st) (E:=j.size) p1 (x:=.v (.func (.via m #[] 0 true) cs #[])) (K:=λn c=>some (n,c)) (b:=(m,cs.toList.take (m*j.size))) (by
      unfold zm dN;simp only;rw[show Nat.ble (m*j.size) cs.toList.length=true by rw[c1];exact zL (aM _)];rfl)
     cases s1;rw[<-c1,mL] at s2;refine⟨_,_,0,f,λ{B σ F w} hF M xs rt v u x0 x1 d d2=>?_⟩;cases d with
     |v r0 ho=>
     cases r0 with
     |@AF _ _ a r1=>
     obtain⟨_,nm,k⟩:=g M u d2;rcases Nat.eq_zero_or_pos n with rfl|hn
     ·obtain⟨vs,r,ad⟩:=k c2;have:new=[]:=kC (by omega);subst this;obtain rfl:=r.dY;have run:=u5 (rt:=rt) (args x0 x1 nm) (aM _) (by rw[i2];exact ad) (w':=w) (by cases a<;>simp[zn,storeCells]);exact⟨_,_,σ,run,Ext.refl _,.v (by rw[dP];exact r1) rfl,M.less (λ_ _ h=>h) λ_ h=>h.1⟩
     ·obtain⟨o2,_,k'⟩:=g (M.same (Ap w)) u d2;obtain⟨vs,r,ad⟩:=k' c2;obtain⟨o0,_,h3,_⟩:=s2 (M.same (Ap w)) _ (.v r1 rfl);obtain⟨v0,r2,f0⟩:=h3 rfl;have f0:=f0 m (aM _);have l0:=r2.1;rw[eQ (by omega)] at f0;obtain⟨cap,hcap,run⟩:=Jq (rt:=rt) (args x0 x1 nm) (by omega) (by omega) (by rw[i3];exact fE (Nat.mul_le_mul (EH (by omega) (by omega)) p3) (by decide)) (by rw[i2];exact f0) (by rw[i2];exact ad) (i4 z hz);obtain⟨E,M'⟩:=M.ade (V1 w (.cells ((⟨v0⟩:Array Qu)++(⟨vs⟩:Array Qu)++Builtin.zeroCells z.cells (cap -(m+n))) el)) (l:=v0++vs) (λi y hy=>by
       refine(sq (Fu w _) i).trans ?_;have hy2:=(mJ.1 hy).1;rw[aP] at hy2;rw[<-lR,Array.toList_append,Array.toList_append,rQ (by simpa using hy2)];exact hy)
      refine⟨_,_,_,run,E,.v ?_ rfl,M'.less (λ_ _ h=>h) λ_ h=>h.1⟩;have rr:=(r2.mono λ_ _=>aK.mono E.lit).append (r.mono λ_ _=>aK.mono E.lit);refine .kv (ys:=v0++vs) rr.1 rr.2 (λi y hy=>?_) rfl hcap (Bd o0 o2);show(if w.heap.size=w.heap.size then(v0++vs)[0+i]? else _)=some y;rw[ay rfl,fI];exact hy
    ·cases f
   ·cases f
  ·cases e
 ·cases e
end
section
variable{β:Type}
def oF(x:Zh SV)(d:Nat)(K:Nat->Zh β):Zh β:=match x with
 |none=>K d
 |some (.i _ n)=>aE n K
 |_=>none
def gC(sz l h:Nat)(x:Qu)(K:Qu->Zh β):Zh β:=match x with
 | .func (.via _ _ _ true) cs _=>K (ae (h -l) ((cs.toList.drop (l*sz)).take ((h -l)*sz)))
 |_=>none
def DM(sz l h:Nat)(x:Qu)(K:Qu->Zh β):Zh β:=match x with
 | .func (.via _ _ _ true) cs _=>K (Ee (h -l) ((cs.toList.drop (l*sz)).take ((h -l)*sz)))
 |_=>none
def Ta:TypeDesc->Bool
 | .slice _=>true
 |_=>false
def Xr(T:TT)(t:TypeId)(x:SV)(lo hi mx:Zh SV)(K:SV->Zh β):Zh β:=
 ob (T.get t) λi=>match i.desc,x,mx with
  | .slice e,.v x,none=>ob (T.get e) λj=>ar x λn=>oF hi n λh=>oF lo 0 λl=>cond (Nat.ble h n&&Nat.ble l h) (gC j.size l h x λy=>K (.v y)) none
  | .slice e,.v x,some mx=>ob (T.get e) λj=>ar x λn=>oF (some mx) n λm=>cond hi.isSome (oF hi n λh=>oF lo 0 λl=>cond (Nat.ble m n&&(Nat.ble h m&&Nat.ble l h)) (cond (Ta j.desc) (cond (Nat.beq h m) (DM j.size l h x λy=>K (.v y)) none) (gC j.size l h x λy=>K (.v y))) none) none
  | .array n e,.ptr id off,none=>ob (T.get e) λj=>oF hi n λh=>oF lo 0 λl=>cond (Nat.blt n Vv&&(Nat.ble h n&&Nat.ble l h)) (K (.sl id (cond (Nat.beq n l) off (off+l*j.size)) (h -l) (n -l))) none
  | .slice e,.sl id off n c,none=>ob (T.get e) λj=>oF hi n λh=>oF lo 0 λl=>cond (Nat.ble h c&&Nat.ble l h) (K (.sl id (cond (Nat.beq c l) off (off+l*j.size)) (h -l) (c -l))) none
  | .string,.s s,none=>oF hi s.size λh=>oF lo 0 λl=>cond (Nat.ble h s.size&&Nat.ble l h) (K (.s (s.extract l h))) none
  |_,_,_=>bC 19
def xa(σ:Ren)(x:Zh SV)(v:Zh Qu):Prop:=match x,v with
 |none,none=>True
 |some x,some v=>DV σ x v
 |_,_=>False
def BV(v:Zh Qu)(d m:Nat):Prop:=v=none/\m=d\/∃k,v=some (.int k (Int.ofNat m))
theorem qg{x:Zh SV}{d:Nat}{K:Nat->Zh β}{b:β}(e:oF x d K=some b):∃m,K m=some b/\∀(σ:Ren)(v:Zh Qu),xa σ x v->BV v d m:=by
 unfold oF at e;split at e
 ·exact⟨_,e,λσ v h=>by cases v with|none=>exact .inl ⟨rfl,rfl⟩|some v=>exact h.elim⟩
 ·obtain⟨m,rfl,e⟩:=xq e;exact⟨m,e,λσ v h=>by
   cases v with
   |none=>exact h.elim
   |some v=>have h:DV σ _ v:=h;cases h;exact .inr ⟨_,rfl⟩⟩
 ·cases e
theorem JA{P:Program}{k:IntKind}{m lim:Nat}(h:m<=lim)(code:BoundsCode)(w:Hx):(Instr.sliceBound (.int k (Int.ofNat m)) lim code).run P w=.ok m w:=by unfold Instr.sliceBound;simp only[cU,asIntOf,eE,eA,ay (show(0:Int)<=Int.ofNat m/\Int.ofNat m<=(lim:Int) from by simp;omega)];simp
theorem JB{P:Program}{lo hi mx:Zh Qu}{len cap l h m:Nat}(hl:BV lo 0 l)(hh:BV hi len h)(hm:BV mx cap m)(hs:mx.isSome=true->hi.isSome=true)(a1:m<=cap)(a2:h<=m)(a3:l<=h)(b:Bool)(w:Hx):(Instr.sliceBounds b len cap lo hi mx).run P w=.ok (l,h,m) w:=by
 unfold Instr.sliceBounds;rcases hm with⟨rfl,rfl⟩|⟨k1,rfl⟩<;>rcases hh with⟨rfl,rfl⟩|⟨k2,rfl⟩<;>rcases hl with⟨rfl,rfl⟩|⟨k3,rfl⟩<;>first
  |(simp at hs;done)
  |simp only[cU,eE,eA,JA a1,JA a2,JA a3]
theorem AU{a b c d:Nat}(h:(Nat.ble a b&&Nat.ble c d)=true):a<=b/\c<=d:=by rw[bt] at h;exact⟨dW h.1,dW h.2⟩
section
variable{P:Program} {T:TT} (HT:eZ P T) {t e:TypeId} {i j:jd} (hi':T.get t=some i) (hd:i.desc=.slice e) (hj:T.get e=some j) {lo hi mx:Zh Qu} {n c l h m:Nat} (hl:BV lo 0 l) (hh:BV hi n h) (hm:BV mx c m) (hs:mx.isSome=true->hi.isSome=true) (a1:m<=c) (a2:h<=m) (a3:l<=h) {w:Hx}
include HT hi' hd hj hl hh hm hs a1 a2 a3
theorem FZ(a:Zh Addr):(Instr.sliceAt t (.slice a n c) lo hi mx).run P w=.ok (.slice (if m=l then a else a.map (·.add (l*j.size))) (h -l) (m -l)) w:=by unfold Instr.sliceAt Instr.slice;simp only[cU,gN w HT hi',hd,eA,JB hl hh hm hs a1 a2 a3,run_sizeOf w HT hj,eE]
end
theorem Am{m:Nat->Nat->Zh Qu}{n:Nat}{p:Array FieldStep}{f:FuncId}{cs ys:Array Qu}{v:Qu}(r:aK m (.func (.via n p f true) cs ys) v)(E l h M:Nat)(hlh:l<=h)(hn:h<=n):∃a c,v=.slice a n c/\n<=c/\(h<=M->M<=c->aK m (ae (h -l) ((cs.toList.drop (l*E)).take ((h -l)*E))) (.slice (if M=l then a else a.map (·.add (l*E))) (h -l) (M -l))):=by
 have zero:∀{l h:Nat}{cs:H1 Qu}{b:Zh Addr}{c:Nat},h -l=0->aK m (ae (h -l) (cs.take ((h -l)*E))) (.slice b (h -l) c):=by intro l h cs b c z;rw[z,Nat.zero_mul,qa];exact .fW
 cases r with
 |kv hl hr hm hs hc ho=>
  rename_i c a zs;refine⟨some a,c,rfl,hc,λq1 q2=>?_⟩;rcases Nat.eq_zero_or_pos (h -l) with z|z
  ·exact zero z
  ·rw[aq (by omega)];have k:=(PW.drop ⟨hl,hr⟩ (l*E)).take ((h -l)*E);refine .kv (ys:=(zs.drop (l*E)).take ((h -l)*E)) k.1 k.2 (λi y hy=>?_) (Jk _ _ hs) (by omega) (re ho λ_ h=>qN (uL h));rw[o6] at hy;split at hy
   ·rw[s8] at hy;rw[Ji,Jj,o8];exact hm _ _ hy
   ·cases hy
 |fW=>exact⟨_,_,rfl,gU _,λ_ _=>zero (by omega)⟩
 |zH=>exact⟨_,_,rfl,gU _,λ_ _=>zero (by omega)⟩
 |A7=>exact⟨_,_,rfl,gU _,λ_ _=>zero (by omega)⟩
theorem aiU{P:Program}{T:TT}(HT:eZ P T){t:TypeId}{x:SV}{lo hi mx:Zh SV}{K:SV->Zh β}{b:β}(e:Xr T t x lo hi mx K=some b):
 ∃sv,K sv=some b/\∀(σ:Ren) v (lo' hi' mx':Zh Qu) (w:Hx),DV σ x v->xa σ lo lo'->xa σ hi hi'->xa σ mx mx'->∃u,(Instr.sliceAt t v lo' hi' mx').run P w=.ok u w/\DV σ sv u:=by
 have no:∀{σ:Ren}{v:Zh Qu},xa σ none v->v=none:=λ{σ v} h=>by cases v with|none=>rfl|some v=>exact h.elim
 replace e:=ax e;obtain⟨i,hi',e⟩:=e;split at e
 ·rename_i el x hd;replace e:=ax e;obtain⟨j,hj,e⟩:=e;obtain⟨n,p,f,cs,ys,rfl,e⟩:=Eu e;obtain⟨h,e,b1⟩:=qg e;obtain⟨l,e,b2⟩:=qg e;obtain⟨e1,e⟩:=aW e;obtain⟨e2,e3⟩:=AU e1;refine⟨_,e,λσ v lo' hi2 mx' w d dl dh dm=>?_⟩;obtain rfl:=no dm;cases d with
  |v r _=>
   obtain⟨a,c,rfl,hc,k⟩:=Am r j.size l h (M:=(match v with| .slice _ _ c=>c|_=>0)) e3 e2
   exact⟨_,FZ HT hi' hd hj (b2 σ _ dl) (b1 σ _ dh) (.inl ⟨rfl,rfl⟩) (by simp) (aM _) (by omega) e3 a,.v (k (by simp;omega) (by simp)) rfl⟩
 ·rename_i el x mx hd;replace e:=ax e;obtain⟨j,hj,e⟩:=e;obtain⟨n,p,f,cs,ys,rfl,e⟩:=Eu e;obtain⟨m,e,b0⟩:=qg e;obtain⟨e0,e⟩:=aW e;obtain⟨h,e,b1⟩:=qg e;obtain⟨l,e,b2⟩:=qg e;obtain⟨e1,e⟩:=aW e;rw[bt] at e1;have e2:=dW e1.1;obtain⟨e3,e4⟩:=AU e1.2;cases hsl:Ta j.desc with
  |true=>
   rw[hsl,aC] at e;obtain⟨eq,f2⟩:=aW e;obtain rfl:=bT eq;refine⟨_,f2,λσ v lo' hi2 mx' w d dl dh dm=>?_⟩;have hs:hi2.isSome=true:=by cases hi<;>cases hi2<;>first|rfl|exact(id dh:False).elim|cases e0
   have hb:∃k,mx'=some (.int k (Int.ofNat h)):=by
    rcases b0 σ mx' dm with⟨q,_⟩|q
    ·subst q;exact(id dm:False).elim
    ·exact q
   cases d with
   |v r _=>obtain⟨a,c,rfl,hc,k⟩:=Am r j.size l h h e4 (by omega);exact⟨_,FZ HT hi' hd hj (b2 σ _ dl) (b1 σ _ dh) (.inr hb) (λ_=>hs) (by omega) e3 e4 a,.v (.AF (k e3 (by omega))) rfl⟩
  |false=>
  rw[hsl,aD] at e;refine⟨_,e,λσ v lo' hi2 mx' w d dl dh dm=>?_⟩;have hs:hi2.isSome=true:=by cases hi<;>cases hi2<;>first|rfl|exact(id dh:False).elim|cases e0
  have hb:∃k,mx'=some (.int k (Int.ofNat m)):=by
   rcases b0 σ mx' dm with⟨q,_⟩|q
   ·subst q;exact(id dm:False).elim
   ·exact q
  cases d with
  |v r _=>obtain⟨a,c,rfl,hc,k⟩:=Am r j.size l h m e4 (by omega);exact⟨_,FZ HT hi' hd hj (b2 σ _ dl) (b1 σ _ dh) (.inr hb) (λ_=>hs) (by omega) e3 e4 a,.v (k e3 (by omega)) rfl⟩
 ·rename_i n el id off hd;replace e:=ax e;obtain⟨j,hj,e⟩:=e;obtain⟨h,e,b1⟩:=qg e;obtain⟨l,e,b2⟩:=qg e;obtain⟨e1,e⟩:=aW e;rw[bt] at e1;obtain⟨e2,e3⟩:=AU e1.2;refine⟨_,e,λσ v lo' hi2 mx' w d dl dh dm=>?_⟩;obtain rfl:=no dm;cases d with
  |ptr g=>refine⟨_,?_,.sl g (by omega)⟩;unfold Instr.sliceAt;simp only[cU,gN w HT hi',hd,eA,Instr.sureAddr,eE,JB (b2 σ _ dl) (b1 σ _ dh) (.inl ⟨rfl,rfl⟩) (by simp) (aM n) e2 e3,run_sizeOf w HT hj,Qt]
 ·rename_i el id off n c hd;replace e:=ax e;obtain⟨j,hj,e⟩:=e;obtain⟨h,e,b1⟩:=qg e;obtain⟨l,e,b2⟩:=qg e;obtain⟨e1,e⟩:=aW e;obtain⟨e2,e3⟩:=AU e1;refine⟨_,e,λσ v lo' hi2 mx' w d dl dh dm=>?_⟩;obtain rfl:=no dm;cases d with
  |sl g hn=>refine⟨_,FZ HT hi' hd hj (b2 σ _ dl) (b1 σ _ dh) (.inl ⟨rfl,rfl⟩) (by simp) (aM _) e2 e3 _,?_⟩;rw[rR,<-apply_ite some,Qt];exact .sl g (by omega)
 ·rename_i s hd;obtain⟨h,e,b1⟩:=qg e;obtain⟨l,e,b2⟩:=qg e;obtain⟨e1,e⟩:=aW e;obtain⟨e2,e3⟩:=AU e1;refine⟨_,e,λσ v lo' hi2 mx' w d dl dh dm=>?_⟩;obtain rfl:=no dm;cases d;refine⟨_,?_,.s _⟩;unfold Instr.sliceAt Instr.slice;simp[cU,gN w HT hi',hd,JB (b2 σ _ dl) (b1 σ _ dh) (.inl ⟨rfl,rfl⟩) (by simp) (aM s.size) e2 e3]
 ·cases e
end
section
variable{β:Type}
def Xh(T:TT)(st:St)(t:TypeId)(dst src:SV)(K:SV->St->Zh β):Zh β:=
 ob (T.get t) λi=>match i.desc with
  | .slice e=>ob (T.get e) λj=>cond (Nat.blt 0 j.size) (zm st j.size src λn new=>match dst with
   | .sl id off nd _=>ob (st.h.get id) λso=>ob (BF so) λq=>cond (Nat.beq new.length (n*j.size)&&Nat.ble (off+Nat.min n nd*j.size) q.1.length)
    (K (.i .i64 (Int.ofNat (Nat.min n nd))) {st with h:=st.h.set id (.arr (aX off (new.take (Nat.min n nd*j.size)) q.1) q.2)}) none
   | .nl=>K (.i .i64 0) st
   |_=>bC 45) none
  |_=>bC 46
theorem abA{P:Program}{w w':Hx}{E n:Nat}{u:Qu}(h:(Builtin.lenOf u).run P w=.ok n w'):(Builtin.firstCells E 0 u).run P w=.ok ⟨[]⟩ w:=by
 cases u with
 |slice a _ _=>
  cases a with
  |none=>simp[Builtin.firstCells]
  |some a=>simp only[Builtin.firstCells,Nat.zero_mul];exact Ey P a w
 |string s=>simp[Builtin.firstCells]
 |_=>cases h
theorem aiG{P:Program}{T:TT}(HT:eZ P T){st:St}{ts:Array TypeId}{t:TypeId}(ht:ts.toList[0]? =some t){dst src:SV}{K:SV->St->Zh β}{b:β}(e:Xh T st t dst src K=some b):
 ∃sv h',K sv {st with h:=h'}=some b/\∀{B:Bs}{σ:Ren}{F:Nat->Prop}{w:Hx},Mem B σ (hG st.h) F w->∀(xs:Array Qu)(rt:TypeId) v u,xs[0]? =some v->xs[1]? =some u->DV σ dst v->DV σ src u->∃r w',(Builtin.copy_ ts rt xs).run P w=.ok r w'/\DV σ sv r/\Mem B σ (hG h') F w':=by
 replace e:=ax e;obtain⟨i,hi,e⟩:=e;have ht:ts[0]? =some t:=by simpa using ht
 split at e
 ·rename_i el hd;replace e:=ax e;obtain⟨j,hj,e⟩:=e;obtain⟨p1,e⟩:=aW e;obtain⟨n,new,f,g⟩:=Ir (P:=P) (fb p1) e;clear e;have run:∀{w w':Hx}{xs:Array Qu}{rt:TypeId}{u:Qu}{b:Zh Addr}{nd c:Nat}{vs:H1 Qu},xs[0]? =some (.slice b nd c)->xs[1]? =some u->(Builtin.lenOf u).run P w=.ok n w->(Builtin.firstCells j.size (Nat.min n nd) u).run P w=.ok ⟨vs⟩ w->(zn b vs).run P w=.ok () w'->(Builtin.copy_ ts rt xs).run P w=.ok (.int .i64 (Int.ofNat (Nat.min n nd))) w':=by
   intro w w' xs rt u b nd c vs x0 x1 l f s;simp[Builtin.copy_,ht,x0,x1,cU,gN w HT hi,hd,l,run_sizeOf w HT hj,f];cases b with
   |none=>have s:Result.ok () w=Result.ok () w':=s;cases s;rfl
   |some a=>have s:(storeCells a vs).run P w=.ok () w':=s;simp[s];rfl
  split at f
  ·rename_i id off nd cap;obtain⟨so,hso,f⟩:=ax f;obtain⟨q,hq,f⟩:=ax f;obtain⟨e1,f⟩:=aW f;rw[bt] at e1;have q1:=bT e1.1;have q2:=dW e1.2;refine⟨_,_,f,λM xs rt v u x0 x1 d d2=>?_⟩;obtain⟨w1,w2,w3,_⟩:=g M u d2;obtain⟨vs,r,fc⟩:=w3 q1;obtain⟨o,m,cs,g1,g2,g3,g4⟩:=FO hq (M.obj _ _ hso);cases d with
   |sl gg hn=>rw[g1] at gg;cases gg;have r':=r.take (Nat.min n nd*j.size);have o':aZ (new.take (Nat.min n nd*j.size))=true:=re w1 λ_=>uL;have:=g4.1;have hmn:Nat.min n nd*j.size<=n*j.size:=wZ _ (Nat.min_le_left _ _);obtain⟨w',a1,a2,a3⟩:=Iy P g2 (Bf r' o') (off:=off) (by rw[dk];omega);exact⟨_,w',run x0 x1 w2 (fc _ (Nat.min_le_left _ _)) a1,.i _ _,M.put hso g1 a3 ⟨_,_,_,g1,a2,Be _ o' g3,r'.aX _ g4⟩⟩
  ·refine⟨_,_,f,λM xs rt v u x0 x1 d d2=>?_⟩;cases d;obtain⟨w1,w2,w3,_⟩:=g M u d2;have z:Nat.min n 0=0:=by show min n 0=0;omega
   have:=run (w':=_) (rt:=rt) (vs:=[]) x0 x1 w2 (by rw[z];exact abA w2) rfl;rw[z] at this;exact⟨_,_,this,.i _ _,M⟩
  ·cases f
 ·cases e
def aiF(T:TT)(s d:TypeId)(x:SV)(K:SV->Zh β):Zh β:=match x with
 | .i _ n=>ob (T.get s) λ_=>ob (T.get d) λj=>match j.desc with
  | .int k=>K (.i k (ag k n))
  |_=>bC 13
 |_=>bC 14
def No(T:TT)(st:St)(s d:TypeId)(x:SV)(K:SV->Zh β):Zh β:=match x with
 | .i k n=>aiF T s d (.i k n) K
 | .s _=>bC 48
 |x=>ob (T.get s) λi=>ob (T.get d) λj=>match i.desc,j.desc with
  | .slice e,.string=>ob (T.get e) λk=>cond (Ep k.desc) (zm st 1 x λn c=>ob (pU c) λns=>K (.s (mkStr ns))) none
  | .slice e,_=>match x with
   | .sl id off n cap=>cond (Nat.beq s d) (ob (T.get e) λk=>cond (Ep k.desc) (ob (st.h.get id) λso=>ob (BF so) λ_=>K (.sl id off n cap)) none) none
   |_=>bC 49
  |_,_=>bC 50
theorem ZB{m:Nat->Nat->Zh Qu}:∀{xs ys:H1 Qu}{ns:H1 Int},PW (aK m) xs ys->pU xs=some ns->ys=ns.map (Value.int .u8)
 |[],_,ns,r,e=>by cases e;rw[r.dY];rfl
 |x::xs,_,ns,r,e=>by
  obtain⟨y,ys,rfl,a,t⟩:=r.inv;unfold pU at e;split at e
  ·simp_all
  ·rename_i n xs hh;cases hh;obtain⟨ms,h1,e⟩:=ax e;cases e;cases a;rw[ZB t h1];rfl
  ·cases e
theorem Kx{w:Hx}{b b':Nat}{cs0:Array Qu}{t0:TypeId}{fz0:Nat×Nat}(h0:w.heap[b]? =some (.cells cs0 t0 fz0)){cs:Array Qu}{t:TypeId}(c:Cl w b' cs t):Cl (w.freeze ⟨b,cs0.size,none⟩ 1) b' cs t:=by
 obtain⟨fz,h,k⟩:=c;by_cases e:b'=b
 ·subst e;rw[h0] at h;simp only[tb,Obj.cells.injEq] at h;obtain⟨rfl,rfl,rfl⟩:=h;refine⟨if fz0.1 ==fz0.2 then(cs0.size,cs0.size+1) else(min fz0.1 cs0.size,max fz0.2 (cs0.size+1)),by simp[World.freeze,Array.getElem?_modify,h0],.inr ?_⟩;rcases k with rfl|k
  ·simp
  ·split<;>grind
 ·exact⟨fz,by simp[World.freeze,Array.getElem?_modify,Ne.symm e,h],k⟩
theorem Mem.ami{B:Bs}{σ:Ren}{G:Nat->SO->Prop}{F:Nat->Prop}{w:Hx}(M:Mem B σ G F w){id n:Nat}{so:SO}{o:Nat×Nat}(hg:G id so)(hn:σ.nm id=some (some o,n)){cs:Array Qu}{t:TypeId}(c:Cl w o.1 cs t):Mem B σ G F (w.freeze ⟨o.1,cs.size,none⟩ 1):=by
 obtain⟨fz,h0,_⟩:=c;have ne:∀b,b≠o.1 ->(w.freeze ⟨o.1,cs.size,none⟩ 1).heap[b]? =w.heap[b]? :=λb hb=>by simp[World.freeze,Array.getElem?_modify,Ne.symm hb]
 refine M.IH (λ_ _ h=>h) rfl (eS.wide (own:=λb=>b=o.1) ⟨by simp[World.freeze],by simp[World.freeze],by simp[World.freeze],by simp[World.freeze],λb _ hb=>ne b hb⟩ λb e=>⟨id,so,o,n,hg,hn,e.symm⟩) (λi s h=>.inr ?_) (λi s o n h q=>.inl ⟨i,s,o,n,h,q,rfl⟩) M.inj M.fresh;have d:=M.obj i s h;cases s with
 |cells=>obtain⟨o,n,cs,a,b,c⟩:=d;exact⟨o,n,cs,a,Kx h0 b,c⟩
 |arr=>obtain⟨o,n,cs,a,b,c⟩:=d;exact⟨o,n,cs,a,Kx h0 b,c⟩
 |grow=>
  obtain⟨p,q,d⟩:=d;refine⟨p,q,?_⟩;rcases d with a|⟨o,n,cs,a,b,c⟩
  ·exact .inl a
  ·exact .inr ⟨o,n,cs,a,Kx h0 b,c⟩
 |mp=>
  obtain⟨o',n,es',ck,a,b,c⟩:=d;refine⟨o',n,es',ck,a,?_,c⟩;by_cases e:o'.1 =o.1
  ·rw[e,h0] at b;cases b
  ·rw[ne _ e];exact b
theorem aiH{P:Program}{T:TT}(HT:eZ P T){st:St}{s d:TypeId}{x:SV}{K:SV->Zh β}{b:β}(e:No T st s d x K=some b):
 ∃sv,K sv=some b/\∀{B:Bs}{σ:Ren}{G:Nat->SO->Prop}{F:Nat->Prop}{w:Hx},(∀id so,st.h.get id=some so->G id so)->Mem B σ G F w->∀v,DV σ x v->∃u w',(convert s d v).run P w=.ok u w'/\DV σ sv u/\Mem B σ G F w':=by
 unfold No at e;split at e
 ·obtain⟨i,hi,e⟩:=ax e;obtain⟨j,hj,e⟩:=ax e;split at e
  ·rename_i k hd;refine⟨_,e,λsG M v dv=>?_⟩;cases dv;refine⟨_,_,?_,.i _ _,M⟩;simp[convert,gN _ HT hi,gN _ HT hj,hd,py];rfl
  ·cases e
 ·cases e
 ·rename_i x hni hns;replace e:=ax e;obtain⟨i,hi,e⟩:=e;replace e:=ax e;obtain⟨j,hj,e⟩:=e;split at e
  ·rename_i el h1 h2;obtain⟨k,hk,e⟩:=ax e;obtain⟨h3,e⟩:=aW e;obtain⟨n,c,f,g⟩:=Ir (P:=P) Nat.one_pos e;obtain⟨ns,h4,f⟩:=ax f;refine⟨_,f,λ{_ σ _ _ w} sG M v dv=>⟨.string (mkStr ns),w,?_,.s _,M⟩⟩;obtain⟨g1,g2,g3,g4⟩:=g (M.less sG λ_ h=>h) v dv;have hs:=HT.under s i hi;have hd:=HT.under d j hj;have he:=HT.under el k hk;rw[Tb h3] at he;rw[h1] at hs;rw[h2] at hd;rcases g4 with⟨z,rfl⟩|⟨hlen,a,m,cp,rfl⟩
   ·exact absurd rfl (hns _)
   ·cases g2;obtain⟨vs,r,fc⟩:=g3 hlen;have hv:=ZB r h4;have fc:=fc n (aM _);rw[<-hlen,r.1,mL,hv] at fc;rw[run_convert_bytes_string w s d el a n cp hs he hd];cases a with
    |none=>
     simp only[Builtin.firstCells,eE] at fc;injection fc with fc;have:ns=[]:=by have:=bX Array.toList fc;simpa using this.symm
     subst this;unfold Conv.bytesToString;rfl
    |some a=>have:=run_bytesToString w a n cp ns (by simpa[Builtin.firstCells] using fc);rw[this,T4];rfl
  ·rename_i el h1 h2;split at e
   ·rename_i id off n cap;replace e:=aW e;obtain⟨hsd,e⟩:=e;obtain rfl:=bT hsd;replace e:=ax e;obtain⟨k,hk,e⟩:=e;replace e:=aW e;obtain⟨h3,e⟩:=e;replace e:=ax e;obtain⟨so,hso,e⟩:=e;replace e:=ax e;obtain⟨q,hq,e⟩:=e;refine⟨_,e,λ{_ σ _ _ w} sG M v dv=>?_⟩;obtain⟨o,m,cs,g1,g2,g3,g4⟩:=FO hq (M.obj _ _ (sG _ _ hso));cases dv with
    |sl g hn=>
    rename_i m2 o2;have ho:o2=o:=by have g':=g.symm.trans g1;simp only[tb,Prod.mk.injEq] at g';exact g'.1
    refine⟨_,w.freeze ⟨o.1,cs.size,none⟩ 1,?_,.sl g hn,M.ami (sG _ _ hso) g1 g2⟩;obtain⟨fz,c1,_⟩:=g2;have hsh:w.shape? o.1 =some (q.2,cs.size):=by unfold World.shape?;rw[c1]
    have q1:=gN w HT hi;have q2:=gN w HT hk;rw[Tb h3] at q2;rw[h1] at q1;unfold convert;simp[q1,q2,ho,markStringish,hsh]
   ·cases e
  ·cases e
end
section
variable{β:Type}
def Ny(op:UnOp)(x:SV)(K:SV->Zh β):Zh β:=match op,x with
 | .not,.b a=>K (.b (!a))
 | .neg,.i k n=>K (.i k (ag k (Int.sub 0 n)))
 |_,_=>bC 12
def Xl(T:TT)(st:St)(t:TypeId)(x:SV)(K:SV->Zh β):Zh β:=
 ob (T.get t) λi=>match i.desc,x with
  | .string,.s s=>K (.i .i64 (Int.ofNat s.data.toList.length))
  | .array n _,_=>K (.i .i64 (Int.ofNat n))
  | .slice _,.nl=>K (.i .i64 (Int.ofNat 0))
  | .slice _,.v x=>ar x λn=>K (.i .i64 (Int.ofNat n))
  | .slice _,.sl _ _ n _=>K (.i .i64 (Int.ofNat n))
  | .slice _,.gr id _=>ob (st.h.get id) λso=>match so with
   | .grow E c _=>K (.i .i64 (Int.ofNat (c.length/E)))
   |_=>bC 17
  |_,_=>bC 18
def S7:TypeDesc->Bool
 | .interface _=>true
 |_=>false
def Xk(T:TT)(t:TypeId)(x:SV)(K:SV->Zh β):Zh β:=ob (T.get t) λi=>cond (S7 i.desc) none (K (.fe t x))
def Xf(T:TT)(x:SV)(a:TypeId)(ok:Bool)(K:SV->Zh β):Zh β:=ob (T.get a) λi=>cond (S7 i.desc) none (match x with
 | .ni=>cond ok (ob i.zero λz=>ob (wN z) λzv=>K (.aH [zv,.b false])) none
 | .fe t v=>cond (Nat.beq t a) (cond ok (K (.aH [v,.b true])) (K v)) (cond ok (ob i.zero λz=>ob (wN z) λzv=>K (.aH [zv,.b false])) none)
 |_=>bC 55)
def F3(mx:Bool)(args:H1 SV)(K:SV->Zh β):Zh β:=match args with
 |[.i k a,.i k' b]=>cond (decide (k=k')) (K (.i k (cond (cond mx (ak a b) (ak b a)) b a))) none
 |_=>bC 77
theorem aiW{P:Program}{op:UnOp}{x:SV}{K:SV->Zh β}{b:β}(e:Ny op x K=some b):∃sv,K sv=some b/\∀(σ:Ren) v w,DV σ x v->∃u,(Op.unary op v).run P w=.ok u w/\DV σ sv u:=by
 unfold Ny at e;split at e
 ·exact⟨_,e,λσ v w d=>by cases d;exact⟨_,rfl,.b _⟩⟩
 ·exact⟨_,e,λσ v w d=>by cases d;rw[py];exact⟨_,rfl,.i _ _⟩⟩
 ·cases e
theorem aiP{P:Program}{T:TT}(HT:eZ P T){ts:Array TypeId}{t:TypeId}(ht:ts.toList[0]? =some t){st:St}{x:SV}{K:SV->Zh β}{b:β}(e:Xl T st t x K=some b):
 ∃sv,K sv=some b/\∀{B:Bs}{σ:Ren}{F:Nat->Prop}{w:Hx},Mem B σ (hG st.h) F w->∀(xs:Array Qu)(rt:TypeId) v,xs[0]? =some v->DV σ x v->∃u,(Builtin.len_ ts rt xs).run P w=.ok u w/\DV σ sv u:=by
 have ht:ts[0]? =some t:=by simpa using ht
 replace e:=ax e;obtain⟨i,hi,e⟩:=e;have run:∀{w:Hx}{xs:Array Qu}{rt:TypeId}{el:TypeId}{a:Zh Addr}{n c:Nat},i.desc=.slice el->xs[0]? =some (.slice a n c)->(Builtin.len_ ts rt xs).run P w=.ok (.int .i64 (Int.ofNat n)) w:=by intro w xs rt el a n c hd x0;simp[Builtin.len_,ht,x0,cU,gN w HT hi,hd];rfl
 split at e
 ·rename_i hd;refine⟨_,e,λM xs rt v x0 d=>?_⟩;cases d;refine⟨_,?_,.i _ _⟩;simp[Builtin.len_,ht,x0,cU,gN _ HT hi,hd];rfl
 ·rename_i hd;refine⟨_,e,λM xs rt v x0 d=>⟨_,?_,.i _ _⟩⟩;simp[Builtin.len_,ht,x0,cU,gN _ HT hi,hd];rfl
 ·rename_i hd;exact⟨_,e,λM xs rt v x0 d=>by cases d;exact⟨_,run hd x0,.i _ _⟩⟩
 ·rename_i hd;obtain⟨n,p,f,cs,ys,rfl,e⟩:=Eu e;refine⟨_,e,λM xs rt v x0 d=>?_⟩;cases d with
  |v a _=>cases a<;>exact⟨_,run hd x0,.i _ _⟩
 ·rename_i hd;exact⟨_,e,λM xs rt v x0 d=>by cases d;exact⟨_,run hd x0,.i _ _⟩⟩
 ·rename_i hd;obtain⟨so,hso,e⟩:=ax e;split at e
  ·rename_i E c t0;refine⟨_,e,λM xs rt v x0 d=>?_⟩;obtain⟨k1,k2,k3⟩:=M.obj _ _ hso;rcases k3 with⟨g1,rfl⟩|⟨o,n,cs,g1,_,_,g2,_⟩
   ·cases d with
    |jJ g=>exact⟨_,run hd x0,by simp only[List.length_nil,Nat.zero_div];exact .i _ _⟩
    |gr g=>rw[g1] at g;cases g
   ·cases d with
    |jJ g=>rw[g1] at g;cases g
    |gr g hc hn=>rw[g1] at g;cases g;exact⟨_,run hd x0,by rw[g2,ir _ k1];exact .i _ _⟩
  ·cases e
 ·cases e
theorem aiL{P:Program}{T:TT}(HT:eZ P T){t:TypeId}{x:SV}{K:SV->Zh β}{b:β}(e:Xk T t x K=some b):∃sv,K sv=some b/\∀(σ:Ren) v w,DV σ x v->∃u,(Instr.makeInterface t v).run P w=.ok u w/\DV σ sv u:=by
 obtain⟨i,hi,e⟩:=ax e;obtain⟨hc,e⟩:=vg e;refine⟨_,e,λσ v w d=>⟨.iface t v,?_,.fe d⟩⟩;simp[Instr.makeInterface,gN w HT hi];split
 ·rename_i hd;rw[hd] at hc;cases hc
 ·simp
theorem aiB{P:Program}{T:TT}(HT:eZ P T){x:SV}{a:TypeId}{ok:Bool}{K:SV->Zh β}{b:β}(e:Xf T x a ok K=some b):∃sv,K sv=some b/\∀(σ:Ren) v xt w,DV σ x v->∃u,(Instr.typeAssert v xt a ok).run P w=.ok u w/\DV σ sv u:=by
 replace e:=ax e;obtain⟨i,hi,e⟩:=e;obtain⟨hc,e⟩:=vg e;have nd:∀m,i.desc≠.interface m:=λm e=>by rw[e] at hc;cases hc
 have aH:∀{σ:Ren}{x:SV}{v:Qu}{q:Bool},DV σ x v->DV σ (.aH [x,.b q]) (.tuple #[v,.bool q]):=λ{_ _ _ q} d=>
  have h:=PW.cons d (PW.cons (DV.b q) PW.nil)
  .aH h.1 h.2
 split at e
 ·cases ok with
  |false=>cases e
  |true=>
   obtain⟨z,hz,e⟩:=ax e;obtain⟨zv,hv,e⟩:=ax e;refine⟨_,e,λσ v xt w d=>?_⟩;cases d;refine⟨.tuple #[z,.bool false],?_,aH (zo hv)⟩;unfold Instr.typeAssert;simp[gN w HT hi];cases hd:i.desc<;>first
    |exact absurd hd (nd _)
    |simp[sL w HT hi hz]
 ·rename_i t y _;cases ht:Nat.beq t a with
  |true=>
   rw[ht] at e;have hta:=bT ht;cases ok with
   |true=>
    refine⟨_,e,λσ v xt w d=>?_⟩;cases d with
    |fe g=>subst hta;refine⟨_,?_,aH g⟩;unfold Instr.typeAssert;simp[gN w HT hi]
   |false=>
    refine⟨_,e,λσ v xt w d=>?_⟩;cases d with
    |fe g=>subst hta;refine⟨_,?_,g⟩;unfold Instr.typeAssert;simp[gN w HT hi]
  |false=>
   rw[ht] at e;have ne:t≠a:=λq=>by subst q;simp at ht
   cases ok with
   |false=>cases e
   |true=>
    obtain⟨z,hz,e⟩:=ax e;obtain⟨zv,hv,e⟩:=ax e;refine⟨_,e,λσ v xt w d=>?_⟩;cases d with
    |fe g=>
     refine⟨.tuple #[z,.bool false],?_,aH (zo hv)⟩;unfold Instr.typeAssert;simp[gN w HT hi,ne];cases hd:i.desc<;>first
      |exact absurd hd (nd _)
      |simp[sL w HT hi hz]
 ·cases e
theorem Xo{P:Program}{mx:Bool}{args:H1 SV}{K:SV->Zh β}{b:β}(e:F3 mx args K=some b):∃sv,K sv=some b/\∀(σ:Ren)(xs:Array Qu) ts t w,eR σ args xs.toList->∃u,(cond mx (Builtin.max_ ts t xs) (Builtin.min_ ts t xs)).run P w=.ok u w/\DV σ sv u:=by
 unfold F3 at e;split at e
 ·rename_i k x k' y;obtain⟨_,e⟩:=aW e;refine⟨_,e,λσ xs ts t w d=>?_⟩;obtain⟨v1,r,h1,a1,d⟩:=d.inv;obtain⟨v2,r,rfl,a2,d⟩:=d.inv;obtain rfl:=d.dY;cases a1;cases a2;refine⟨_,?_,.i _ _⟩;cases mx with
  |true=>show(Builtin.max_ ts t xs).run P w=_;simp only[Builtin.max_,h1,List.foldlM_cons,List.foldlM_nil];rw[show(Builtin.max2 (.int k x) (.int k' y))=pure (.int k (if y>x then y else x)) from rfl,nO];by_cases e:x<y<;>simp[e]
  |false=>show(Builtin.min_ ts t xs).run P w=_;simp only[Builtin.min_,h1,List.foldlM_cons,List.foldlM_nil];rw[show(Builtin.min2 (.int k x) (.int k' y))=pure (.int k (if y<x then y else x)) from rfl,aD,nO];by_cases e:y<x<;>simp[e]
 ·cases e
end
section
variable{β:Type}
theorem ZU(off:Nat):∀(vs:H1 Qu)(n:Nat)(cs:Array Qu),
 ((vs.zipIdx n).foldl (λcs (x:Qu×Nat)=>cs.setIfInBounds (off+x.2) x.1) cs).toList=aX (off+n) vs cs.toList
 |[],n,cs=>rfl
 |v::vs,n,cs=>by simp;rw[ZU off vs (n+1) _,Array.toList_setIfInBounds];rfl
def Qs(T:TT)(d:TypeDesc):Zh (Nat->Zh (Nat×Nat)):=
 match d with
 | .struct fs=>some λi=>ob (fs[i]?) λf=>ob (T.get f.type) λj=>some (f.offset,j.size)
 | .array _ e=>ob (T.get e) λj=>some λi=>some (i*j.size,j.size)
 |_=>none
def D7(T:TT):H1 Field->Bool
 |[]=>true
 |f::fs=>match T.get f.type with|some _=>D7 T fs|none=>false
theorem VQ{P:Program}{T:TT}(H:eZ P T)(w:Hx):∀(fs:H1 Field),D7 T fs=true->∃ps:H1 (Nat×Nat),(fs.mapM (λf=>(do pure (f.offset,<-sizeOf f.type):Sem (Nat×Nat)))).run P w=.ok ps w/\
 ∀i:Nat,ps[i]? =ob (fs[i]?) λf=>ob (T.get f.type) λj=>some (f.offset,j.size)
 |[],_=>⟨[],rfl,λi=>by simp[ob]⟩
 |f::fs,h=>by
  unfold D7 at h;cases hg:T.get f.type with
  |none=>grind
  |some j=>
   simp only[hg] at h;obtain⟨ps,h1,h2⟩:=VQ H w fs h;refine⟨(f.offset,j.size)::ps,?_,?_⟩
   ·rw[List.mapM_cons];simp[run_sizeOf w H hg];simp_all
   ·intro i;cases i with
    |zero=>simp[ob,hg]
    |succ i=>grind
def Jh(i:jd)(n:Nat):Zh (H1 Qu):=
 cond (Nat.beq (n*i.size) 0) (some []) (ob i.zero λz=>cond (Nat.beq z.cells.size i.size) (some (rep n z.cells.toList)) none)
def BJ(place:Nat->Zh (Nat×Nat))(cells:H1 SV):H1 (Nat×SV)->Zh (H1 SV)
 |[]=>some cells
 |(i,v)::rest=>ob (place i) λq=>cond (Nat.beq v.cells.length q.2 &&Nat.ble (q.1 +q.2) cells.length) (BJ place (aX q.1 v.cells cells) rest) none
def Xg(T:TT)(t:TypeId)(ps:H1 (Nat×SV))(K:SV->Zh β):Zh β:=
 ob (T.get t) λi=>ob i.zero λz=>ob (wN z) λzv=>match i.desc with
  | .struct fs=>cond (D7 T fs.toList) (ob (Qs T i.desc) λp=>ob (BJ p zv.cells ps) λcs=>K (.agg cs)) none
  | .array _ _=>ob (Qs T i.desc) λp=>ob (BJ p zv.cells ps) λcs=>K (.agg cs)
  |_=>bC 4
abbrev IY(σ:Ren):H1 (Nat×SV)->H1 (Nat×Qu)->Prop:=PW λp q=>p.1 =q.1 /\DV σ p.2 q.2
theorem F1{σ:Ren}{place:Nat->Zh (Nat×Nat)}:∀{ps:H1 (Nat×SV)}{ps':H1 (Nat×Qu)},IY σ ps ps'->∀{cs out:H1 SV}{cs':Array Qu},eR σ cs cs'.toList->BJ place cs ps=some out->∃out',Instr.fill place cs' ps'=some out'/\eR σ out out'.toList
 |[],ps',d,cs,out,cs',r,e=>by cases e;rw[d.dY];exact⟨cs',rfl,r⟩
 |(i,x)::ps,ps',d,cs,out,cs',r,e=>by
  obtain⟨⟨i',y⟩,ps',rfl,⟨h0,h⟩,t⟩:=d.inv;cases h0;obtain⟨⟨off,size⟩,hp,e⟩:=ax e;obtain⟨e1,e⟩:=aW e;rw[bt] at e1;have q1:=bT e1.1;have q2:=dW e1.2;have l1:=h.cells.1;have l2:=r.1;have s1:y.cells.toList.length=y.cells.size:=rfl;have s2:cs'.toList.length=cs'.size:=rfl;have key:eR σ (aX off x.cells cs) (y.cells.zipIdx.foldl (λcs (c,j)=>cs.setIfInBounds (off+j) c) cs').toList:=by
   have e:(y.cells.zipIdx.foldl (λcs (c,j)=>cs.setIfInBounds (off+j) c) cs')=((y.cells.toList.zipIdx 0).foldl (λcs (x:Qu×Nat)=>cs.setIfInBounds (off+x.2) x.1) cs'):=by rw[<-Array.foldl_toList];simp
   rw[e,ZU off y.cells.toList 0 cs'];exact h.cells.aX off r
  obtain⟨out',h1,h2⟩:=F1 t key e;refine⟨out',?_,h2⟩;unfold Instr.fill
  grind
theorem aiD{P:Program}{T:TT}(HT:eZ P T){t:TypeId}{ps:H1 (Nat×SV)}{K:SV->Zh β}{b:β}(e:Xg T t ps K=some b):
 ∃sv,K sv=some b/\∀(σ:Ren)(ps':Array (Nat×Qu)) w,IY σ ps ps'.toList->∃u,(Instr.build t ps').run P w=.ok u w/\DV σ sv u:=by
 obtain⟨i,hi,e⟩:=ax e;obtain⟨z,hz,e⟩:=ax e;obtain⟨zv,hv,e⟩:=ax e;split at e
 ·rename_i fs hd;obtain⟨hf,e⟩:=aW e;obtain⟨p,hp,e⟩:=ax e;obtain⟨cs,hc,e⟩:=ax e;refine⟨_,e,λσ ps' w d=>?_⟩;obtain⟨out,h1,h2⟩:=F1 d (zo (σ:=σ) hv).cells hc;refine⟨.agg out,?_,.agg h2.1 h2.2⟩;rw[hd] at hp;cases hp;obtain⟨pl,q1,q2⟩:=VQ HT w fs.toList hf;have hm:(fs.mapM (λf=>(do pure (f.offset,<-sizeOf f.type):Sem (Nat×Nat)))).run P w=.ok pl.toArray w:=by
   rw[Array.mapM_eq_mapM_toList];simp only[Sem.run_map];rw[q1];rfl
  have e:(λi:Nat=>pl.toArray[i]?)=λi:Nat=>ob (fs[i]?) λf=>ob (T.get f.type) λj=>some (f.offset,j.size):=by
   funext i
   have:=q2 i;simpa using this
  unfold Instr.build;simp only[cU,sL w HT hi hz,eA,gN w HT hi];simp_all
 ·rename_i n el hd;obtain⟨p,hp,e⟩:=ax e;obtain⟨cs,hc,e⟩:=ax e;refine⟨_,e,λσ ps' w d=>?_⟩;obtain⟨out,h1,h2⟩:=F1 d (zo (σ:=σ) hv).cells hc;refine⟨.agg out,?_,.agg h2.1 h2.2⟩;rw[hd] at hp;obtain⟨j,hj,hp⟩:=ax hp;cases hp;unfold Instr.build;simp only[cU,sL w HT hi hz,eA,gN w HT hi,hd,run_sizeOf w HT hj,h1];rfl
 ·cases e
theorem amF{P:Program}{T:TT}(HT:eZ P T){e:TypeId}{i:jd}(hi:T.get e=some i){n:Nat}{zs:H1 Qu}(hz:Jh i n=some zs)(w:Hx):
 ∃z0:Array Qu,(if n*i.size=0 then(pure #[]:Sem (Array Qu)) else(do let z<-zeroValue e;pure z.cells)).run P w=.ok z0 w/\zs=((Array.range (n*i.size)).map λj=>z0[j%z0.size]!).toList:=by
 unfold Jh at hz;rw[Ak] at hz;by_cases h0:n*i.size=0
 ·rw[ay h0] at hz;cases hz;exact⟨#[],by rw[ay h0];rfl,by rw[h0];simp⟩
 ·rw[aq h0] at hz;obtain⟨z,hz1,hz⟩:=ax hz;rw[Ak] at hz;by_cases hs:z.cells.size=i.size
  ·rw[ay hs] at hz;cases hz;refine⟨z.cells,?_,?_⟩
   ·rw[aq h0];simp[sL w HT hi hz1]
   ·rw[<-hs,MU z.cells (by grind)]
  ·rw[aq hs] at hz;cases hz
def Ev(σ:Ren)(tm:Tr SV)(a:Act):Prop:=∀t sv,tm.get t=some sv->DV σ sv (a.eval (.tmp t))
def BZ(tm:Tr SV):H1 Operand->Zh (H1 SV)
 |[]=>some []
 |x::xs=>ob (dH tm x) λv=>ob (BZ tm xs) λvs=>some (v::vs)
def Gk(tm:Tr SV):H1 (Nat×Operand)->Zh (H1 (Nat×SV))
 |[]=>some []
 |(i,x)::xs=>ob (dH tm x) λv=>ob (Gk tm xs) λvs=>some ((i,v)::vs)
def Gj(tm:Tr SV):Zh Operand->Zh (Zh SV)
 |none=>some none
 |some x=>ob (dH tm x) λv=>some (some v)
section
variable{σ:Ren} {tm:Tr SV} {a:Act} (R:Ev σ tm a)
include R
theorem ej{x:Operand}{sv:SV}(e:dH tm x=some sv):DV σ sv (a.eval x):=by
 cases x with
 |tmp t=>exact R t sv e
 |const v=>exact zo e
 |global g=>cases e
 |func f=>obtain⟨q,e⟩:=aW e;cases e;have h:DV σ (.fn f []) (se f []):=.fn rfl (λi x y h=>by simp at h);have q:=fb q;unfold se at h;rw[qO q,Nat.div_eq_of_lt q] at h;exact h
theorem Gl:∀{xs:H1 Operand}{l:H1 SV},BZ tm xs=some l->eR σ l (xs.map a.eval)
 |[],_,e=>by cases e;exact .nil
 |x::xs,_,e=>by obtain⟨v,h1,e⟩:=ax e;obtain⟨ws,h2,e⟩:=ax e;cases e;exact .cons (ej R h1) (Gl h2)
theorem N0:∀{xs:H1 (Nat×Operand)}{l:H1 (Nat×SV)},Gk tm xs=some l->IY σ l (xs.map λ(i,x)=>(i,a.eval x))
 |[],_,e=>by cases e;exact .nil
 |(i,x)::xs,_,e=>by obtain⟨v,h1,e⟩:=ax e;obtain⟨ws,h2,e⟩:=ax e;cases e;exact .cons ⟨rfl,ej R h1⟩ (N0 h2)
theorem NZ{x:Zh Operand}{l:Zh SV}(e:Gj tm x=some l):xa σ l (x.map a.eval):=by
 cases x with
 |none=>cases e;trivial
 |some x=>obtain⟨v,h1,e⟩:=ax e;cases e;exact ej R h1
end
abbrev FT:=Tr Func
structure eC where
 T:TT
 F:FT
 M:List TypeId
structure iP(P:Program)(X:eC):Prop where
 T:eZ P X.T
 F:∀f fn,X.F.get f=some fn->P.funcs[f]? =some fn/\(fn.name== "runtime.NumGoroutine")=false/\fn.body.isSome=true
def Nw(T:TT)(st:St)(t:TypeId)(len cap:SV)(K:SV->SO->Zh β):Zh β:=
 ob (T.get t) λi=>match i.desc with
  | .slice e=>ob (T.get e) λj=>ob j.zero λz=>ob (wO z.cells.toList) λ_=>match len,cap with
   | .i _ n,.i _ k=>aE n λm=>aE k λc=>cond (Nat.blt 0 j.size&&Nat.beq z.cells.size j.size&&Nat.ble j.bytes 10000&&(Nat.ble m c&&Nat.ble c 1000000000))
    (K (.sl st.sx 0 m c) (.arr (rep c z.cells.toList) e)) none
   |_,_=>bC 20
  |_=>bC 21
def rm(X:eC)(st:St)(o:Op)(K:SV->SO->Zh β):Zh β:=match o with
 | .alloc t=>ob (X.T.get t) λi=>ob i.zero λz=>ob (wN z) λzv=>K (.ptr st.sx 0) (.cells zv.cells t)
 | .box t x=>ob (dH st.tm x) λv=>K (.ptr st.sx 0) (.cells v.cells t)
 | .buildSlice t n ps=>ob (Gk st.tm ps.toList) λus=>ob (X.T.get t) λi=>match i.desc with
  | .slice e=>ob (X.T.get e) λj=>cond (Nat.ble (n*j.size) 16777216&&Nat.blt n Vv) (ob (Jh j n) λz=>ob (wO z) λzs=>ob (BJ (λk=>some (k*j.size,j.size)) zs us) λcs=>match uF cs with
   |some vs=>K (.sl st.sx 0 n n) (.arr vs e)
   |none=>K (.sl st.sx 0 n n) (.cells cs e)) none
  |_=>bC 25
 | .makeSlice t l c=>ob (dH st.tm l) λa=>ob (dH st.tm c) λb=>Nw X.T st t a b K
 |_=>bC 26
theorem FY{P:Program}(w:Hx)(t:TypeId)(cs:Array Qu):∃w',(newRow t cs).run P w=.ok ⟨w.heap.size,0,none⟩ w'/\eS (λ_=>False) w w'/\Cl w' w.heap.size cs t:=
 ⟨{w with heap:=w.heap.push (.cells cs t)},by unfold newRow;simp,⟨rfl,rfl,rfl,by simp,λb hb _=>MG w _ b hb⟩,_,Fu w _,Ls _⟩
theorem DV.int{σ:Ren}{k:IntKind}{n:Int}{v:Qu}(d:DV σ (.i k n) v):v=.int k n:=by cases d;rfl
theorem run_makeSlice{P:Program}{T:TT}(HT:eZ P T){t el:TypeId}{i j:jd}(hi:T.get t=some i)(hd:i.desc=.slice el)(hj:T.get el=some j){z:Qu}(hz:j.zero=some z)(p2:z.cells.size=j.size)(p1:0<j.size)(p3:j.bytes<=10000){m c:Nat}(p4:m<=c)(p5:c<=1000000000){w w':Hx}{k k':IntKind}{ad:Addr}
 (r:(newRow el ((Array.range (c*j.size)).map λk=>z.cells[k%z.cells.size]!)).run P w=.ok ad w'):(do pure (Next.value (<-Instr.makeSlice t (.int k (Int.ofNat m)) (.int k' (Int.ofNat c)))):Sem Next).run P w=.ok (.value (.slice (some ad) m c)) w':=by
 obtain⟨inf,q0,q1,q2,_⟩:=Nj w HT hj;have e1:=IS (show m<9223372036854775808 by omega);have e2:=IS (show c<9223372036854775808 by omega);have hb:j.bytes*c<=281474976710656:=fE (Nat.mul_le_mul p3 p5) (by decide);have hcond:¬((((decide (Int.ofNat c<0)||decide ((inf.bytes:Int)*Int.ofNat c>2^48))||decide (Int.ofNat m<0))||decide (Int.ofNat m>Int.ofNat c))=true):=by
  rw[q2];have:((j.bytes*c:Nat):Int)<=281474976710656:=by omega
  simp at this⊢;omega
 have s:(Instr.makeSlice t (.int k (Int.ofNat m)) (.int k' (Int.ofNat c))).run P w=.ok (.slice (some ad) m c) w':=by
  unfold Instr.makeSlice;rw[cU,gN w HT hi,hd];simp only[asInt,asIntOf,cU,eE,eA,q0,e1,e2,aq hcond,run_askRoom,run_sizeOf w HT hj];have e3:(Int.ofNat c).toNat=c:=rfl;rw[e3];by_cases h0:c*j.size=0
  ·rw[ay h0];have e0:∀f:Nat->Qu,(Array.range (c*j.size)).map f=#[]:=λf=>by rw[h0];simp
   rw[e0] at r;simp only[cU,eE,eA,e0,r];rfl
  ·rw[aq h0];simp only[cU,eE,eA,sL w HT hj hz,r];rfl
 simp only[cU,s,eA,eE]
theorem Nv{P:Program}{X:eC}(OK:iP P X){st:St}{o:Oper}{K:SV->SO->Zh β}{b:β}(e:rm X st o.op K=some b):
 ∃sv so,K sv so=some b/\∀{σ:Ren}(a:Act),Ev σ st.tm a->∀w,∃u w',(execOp a.eval o).run P w=.ok (.value u) w'/\eS (λ_=>False) w w'/\∀σ' c n,Ext σ σ'->σ'.nm st.sx=some (some (w.heap.size,c),n)->DV σ' sv u/\DO σ' w' st.sx so/\
  (∀m k cs t,sv=.sl st.sx 0 m k->so=.arr cs t->u=.slice (some ⟨w.heap.size,0,none⟩) m k/\(cs.length=c->c=k->n=k->DO σ' w' st.sx (.grow 1 cs t))):=by
 have gr:∀{σ':Ren}{w':Hx}{id c n k:Nat}{cs:H1 Qu}{t:TypeId}{b:Nat}{z:Array Qu},σ'.nm id=some (some (b,c),n)->Cl w' b z t->aZ cs=true->PW (aK σ'.lit) cs z.toList->cs.length=c->c=k->n=k->DO σ' w' id (.grow 1 cs t):=by intro σ' w' id c n k cs t b z h1 h2 h3 h4 h5 h6 h7;have:=h4.1;have s:z.toList.length=z.size:=rfl;exact⟨Nat.one_pos,h3,.inr ⟨_,_,_,h1,h2,by show c=_;omega,by omega,by omega,by rw[eQ (by omega)];exact h4⟩⟩
 unfold rm at e;split at e
 ·rename_i t hop;obtain⟨i,hi,e⟩:=ax e;obtain⟨z,hz,e⟩:=ax e;obtain⟨zv,hv,e⟩:=ax e;refine⟨_,_,e,λa R w=>?_⟩;obtain⟨w',r1,r2,r3⟩:=FY (P:=P) w t z.cells;refine⟨.pointer (some ⟨w.heap.size,0,none⟩),w',?_,r2,λσ' c n E hn=>⟨.ptr hn,⟨_,_,_,hn,r3,(zo hv).cells⟩,λm k cs t h=>by cases h⟩⟩;unfold execOp;simp[hop,Instr.alloc,sL w OK.T hi hz,newVar,r1]
 ·rename_i t x hop;obtain⟨v,k1,e⟩:=ax e;refine⟨_,_,e,λa R w=>?_⟩;obtain⟨w',r1,r2,r3⟩:=FY (P:=P) w t (a.eval x).cells;refine⟨.pointer (some ⟨w.heap.size,0,none⟩),w',?_,r2,λσ' c n E hn=>⟨.ptr hn,⟨_,_,_,hn,r3,(ej R k1).cells.mono E⟩,λm k cs t h=>by cases h⟩⟩;unfold execOp;simp[hop,Instr.box,newVar,r1]
 ·rename_i t n ps hop;obtain⟨us,k1,e⟩:=ax e;obtain⟨i,hi,e⟩:=ax e;split at e
  ·rename_i el hd;obtain⟨j,hj,e⟩:=ax e;obtain⟨c1,e⟩:=aW e;rw[bt] at c1;obtain⟨z,hz,e⟩:=ax e;obtain⟨zs,hzs,e⟩:=ax e;obtain⟨cs,hcs,e⟩:=ax e;have mk:∀{σ:Ren}(a:Act),Ev σ st.tm a->∀w,∃z w',eR σ cs z.toList/\(execOp a.eval o).run P w=.ok (.value (.slice (some ⟨w.heap.size,0,none⟩) n n)) w'/\eS (λ_=>False) w w'/\Cl w' w.heap.size z el:=by
    intro σ a R w;obtain⟨zs',q1,q2⟩:=amF OK.T hj hz w;obtain⟨out,f1,f2⟩:=F1 (ps':=ps.toList.map λ(i,x)=>(i,a.eval x)) (N0 R k1) (cs':=(Array.range (n*j.size)).map λk=>zs'[k%zs'.size]!) (by rw[<-q2];exact(zp hzs).1) hcs;obtain⟨w',r1,r2,r3⟩:=FY (P:=P) w el out;refine⟨out,w',f2,?_,r2,r3⟩;have hle:=dW c1.1;unfold execOp;simp only[hop,Instr.buildSlice,cU,gN w OK.T hi,hd,eA,run_sizeOf w OK.T hj];by_cases h0:n*j.size=0
    ·rw[ay h0] at q1;simp_all
    ·rw[aq h0] at q1;cases hz0:(zeroValue el).run P w with
     |halt x y=>simp[hz0] at q1
     |ok z w0=>simp_all
   split at e
   ·rename_i vs hvs;refine⟨_,_,e,λa R w=>?_⟩;obtain⟨z,w',f2,g1,g2,g3⟩:=mk a R w;refine⟨_,w',g1,g2,λσ' c m E hn=>?_⟩;obtain⟨v1,v2⟩:=wP (f2.mono E) hvs;exact⟨.sl hn (aM _),⟨_,_,_,hn,g3,v2,v1⟩,λm' k' cs' t' h h'=>by cases h;cases h';exact⟨rfl,gr hn g3 v2 v1⟩⟩
   ·refine⟨_,_,e,λa R w=>?_⟩;obtain⟨z,w',f2,g1,g2,g3⟩:=mk a R w;exact⟨_,w',g1,g2,λσ' c m E hn=>⟨.sl hn (aM _),⟨_,_,_,hn,g3,f2.mono E⟩,λm' k' cs' t' h h'=>by cases h'⟩⟩
  ·cases e
 ·rename_i t l c hop;obtain⟨x,k1,e⟩:=ax e;obtain⟨y,k2,e⟩:=ax e;obtain⟨i,hi,e⟩:=ax e;split at e
  ·rename_i el hd;obtain⟨j,hj,e⟩:=ax e;obtain⟨z,hz,e⟩:=ax e;obtain⟨zs,hzs,e⟩:=ax e;split at e
   ·obtain⟨m,s1,e⟩:=xq e;obtain⟨c',s2,e⟩:=xq e;obtain⟨e1,e⟩:=aW e;simp only[bt] at e1;obtain⟨⟨⟨p1,p2⟩,p3⟩,p4,p5⟩:=e1;have p1:=fb p1;have p2:=bT p2;have p3:=dW p3;have p4:=dW p4;have p5:=dW p5;refine⟨_,_,e,λ{σ} a R w=>?_⟩;have d1:=ej R k1;have d2:=ej R k2;obtain⟨w',r1,r2,r3⟩:=FY (P:=P) w el ((Array.range (c'*j.size)).map λk=>z.cells[k%z.cells.size]!);have hr:((Array.range (c'*j.size)).map λk=>z.cells[k%z.cells.size]!).toList=rep c' z.cells.toList:=by rw[<-p2];exact MU z.cells (by omega) c'
    refine⟨.slice (some ⟨w.heap.size,0,none⟩) m c',w',?_,r2,λσ' c n E hn=>?_⟩
    ·unfold execOp;simp only[hop];have h1:=d1.int;have h2:=d2.int;rw[s1] at h1;rw[s2] at h2;rw[h1,h2];exact run_makeSlice OK.T hi hd hj hz p2 p1 p3 p4 p5 r1
    ·obtain⟨_,q1,q2⟩:=zp (σ:=σ') hzs;have k':PW (aK σ'.lit) (rep c' z.cells.toList) ((Array.range (c'*j.size)).map λk=>z.cells[k%z.cells.size]!).toList:=by rw[hr];exact MY q1 c'
     exact⟨.sl hn p4,⟨_,_,_,hn,r3,FC q2 _,k'⟩,λm' k'' cs' t' h h'=>by cases h;cases h';exact⟨rfl,gr hn r3 (FC q2 _) k'⟩⟩
   ·cases e
  ·cases e
 ·cases e
end
section
variable{β:Type}
theorem abu{fs:Array Field}{k:Qu}:∀(es:H1 MapEntry),Instr.findNow (.struct fs) k es 0=match es with|[]=>some none|_::_=>none
 |[]=>rfl
 |e::es=>by
  unfold Instr.findNow;have:Instr.sameNow (.struct fs) k e.key=none:=by rfl
  grind
theorem aav{P:Program}{t:TypeId}{k:IntKind}(h:P.underlying t=some (.int k))(em:Bool)(n:Nat)(v:Qu)(w:Hx):(Instr.checkKey em (n+1) t v).run P w=.ok () w:=by simp[Instr.checkKey,underlying,h]
theorem QX{P:Program}{em:Bool}{n:Nat}{cs:Array Qu}(w:Hx):∀(fs:H1 Field)(m:Nat),
 (∀(i:Nat)(f:Field),fs[i]? =some f->f.name≠ "_"/\f.offset=m+i/\(∃k,P.underlying f.type=some (.int k))/\∃inf,P.info? f.type=some inf/\inf.size=1)->m+fs.length=cs.toList.length->
 (forIn fs PUnit.unit (λf (_:PUnit)=>if f.name≠ "_" then(do let x<-part f.type cs f.offset;Instr.checkKey em (n+1) f.type x;pure (ForInStep.yield PUnit.unit):Sem (ForInStep PUnit)) else pure (ForInStep.yield PUnit.unit))).run P w=.ok PUnit.unit w
 |[],m,_,_=>by simp
 |f::fs,m,hf,hl=>by obtain⟨h1,h2,⟨k,h3⟩,_⟩:=hf 0 f rfl;simp only[cc] at hl;rw[List.forIn_cons];simp only[(show f.offset=m from by omega),ne_eq,h1,not_false_eq_true,ea,cU,Bo h3 (cw (show m<cs.toList.length from by omega)),aav h3];exact QX w fs (m+1) (λi g hg=>by obtain⟨a1,a2,a3,a4⟩:=hf (i+1) g (by simpa using hg);exact⟨a1,by omega,a3,a4⟩) (by omega)
theorem aaw{P:Program}{t:TypeId}{fs:Array Field}{m:Nat}(hu:P.underlying t=some (.struct fs))(hF:zO P m (.struct fs)){cs:Array Qu}(hc:cs.toList.length=m)(em:Bool)(n:Nat)(w:Hx):
 (Instr.checkKey em (n+2) t (.agg cs)).run P w=.ok () w:=by
 obtain⟨h1,h2⟩:=hF;unfold Instr.checkKey;simp only[cU,underlying,run_program,hu,eA,eE];rw[<-Array.forIn_toList];have:=QX (em:=em) (n:=n) w fs.toList 0 (λi f hf=>by obtain⟨a1,a2,a3,a4⟩:=h2 i f (by grind);exact⟨a1,by omega,a3,a4⟩) (by rw[hc];simpa using h1);simp_all
def zy:H1 Qu->Zh (H1 (Qu×Qu))
 |[]=>some []
 | .func (.func 0) ⟨[k]⟩ ⟨[v]⟩::r=>ob (zy r) λes=>some ((k,v)::es)
 |_::_=>none
def Mo:Qu->Bool
 | .int _ _=>true
 | .bool _=>true
 | .string _=>true
 | .slice none 0 0=>true
 |_=>false
def zN:Qu->Qu
 | .slice none 0 0=>ae 0 []
 |x=>x
def AM:H1 SV->Zh (H1 Qu)
 |[]=>some []
 | .i k n::l=>ob (AM l) λr=>some (.int k n::r)
 |_=>none
theorem KV{σ:Ren}:∀{l:H1 SV}{ks us:H1 Qu},AM l=some ks->eR σ l us->us=ks
 |[],ks,us,e,d=>by cases e;exact d.dY
 |x::l,ks,us,e,d=>by
  unfold AM at e;split at e
  ·rename_i h;cases h
  ·rename_i k n l' h;cases h;obtain⟨r,h1,e1⟩:=ax e;cases e1;obtain⟨y,ys,rfl,a,t⟩:=d.inv;cases a;rw[KV h1 t]
  ·cases e
def uY{α:Type}(ks:H1 Qu):H1 (Qu×α)->Nat->Zh (Zh (Nat×α))
 |[],_=>some none
 |(.agg k0,v0)::es,i=>cond (Nat.beq ks.length k0.toList.length) (ob (ju ks k0.toList) λb=>cond b (some (some (i,v0))) (uY ks es (i+1))) none
 |_::_,_=>none
def I1(k mk:Qu):Prop:=∀xs:Array Qu,k=.agg xs->∃ys:Array Qu,mk=.agg ys/\ys.toList.length=xs.toList.length/\∀ks b,ju ks xs.toList=some b->ju ks ys.toList=some b
theorem RD{m:Nat->Nat->Zh Qu}:∀{ks xs ys:H1 Qu}{b:Bool},PW (aK m) xs ys->ju ks xs=some b->ju ks ys=some b
 |ks,[],ys,b,r,e=>by rw[r.dY];exact e
 |[],x::xs,ys,b,r,e=>by cases e
 |k::ks,x::xs,ys,b,r,e=>by
  obtain⟨y,ys,rfl,a,t⟩:=r.inv;obtain⟨kk,p,q,rfl,rfl,h⟩:=Kb e;cases a;unfold ju at e⊢;rcases h with⟨h1,h2⟩|⟨h1,h2⟩
  ·simp only[h1,bd,aC] at e⊢;exact RD t e
  ·simp only[h1,bd,aC,aD] at e⊢;exact e
theorem aK.acP{m:Nat->Nat->Zh Qu}{k mk:Qu}(r:aK m k mk):I1 k mk:=λxs e=>by
 subst e;cases r with
 |agg hl h=>exact⟨_,rfl,hl.symm,λks b q=>RD ⟨hl,h⟩ q⟩
section
variable{P:Program} {T:TT} (H:eZ P T) {kt:TypeId} {ki:jd} (hki:T.get kt=some ki) {fs:Array Field} (hkd:ki.desc=.struct fs) (hf:ki.flat=true) {ks:H1 Qu} (hl:ks.length=ki.size)
include H hki hf hl
theorem RU{α:Type}{R:Qu×α->MapEntry->Prop}(hR:∀e m,R e m->I1 e.1 m.key)(w:Hx):∀{es:H1 (Qu×α)}{es':H1 MapEntry}{i:Nat}{r:Zh (Nat×α)},PW R es es'->uY ks es i=some r->
 ∃r',(Instr.findAsking kt (.agg ⟨ks⟩) es' i).run P w=.ok r' w/\(r=none->r'=none)/\∀n v,r=some (n,v)->∃e m,r'=some (n,m.val)/\e∈es/\R e m/\e.2 =v
 |[],es',i,r,p,e=>by rw[p.dY];cases e;exact⟨none,rfl,λ_=>rfl,λ_ _ h=>by cases h⟩
 |(k,v0)::es,es',i,r,p,e=>by
  obtain⟨y,ys,rfl,a,t⟩:=p.inv;cases k with
  |agg k0=>
   unfold uY at e;obtain⟨e1,e2⟩:=aW e;obtain⟨b,e3,e4⟩:=ax e2;have e1:=bT e1;obtain⟨k1,q1,q2,q3⟩:=hR _ _ a k0 rfl;have run:(Op.equal kt (.agg ⟨ks⟩) y.key).run P w=.ok b w:=by rw[q1];exact RL (H.under kt ki hki) (H.flat kt ki hki hf).2.2 (H.flat kt ki hki hf).2.1 (n:=ki.size) hl (by rw[q2,<-e1,hl]) (q3 ks b e3) 9998 w
   unfold Instr.findAsking;cases b with
   |true=>cases e4;refine⟨some (i,y.val),by simp[run],λh=>(by cases h),λn v h=>?_⟩;cases h;exact⟨_,y,rfl,nr,a,rfl⟩
   |false=>obtain⟨r',z1,z2,z3⟩:=RU hR w t e4;refine⟨r',by simp[run,z1],z2,λn v h=>?_⟩;obtain⟨e',m,h1,h2,h3⟩:=z3 n v h;exact⟨e',m,h1,lU _ h2,h3⟩
  |_=>cases e
include hkd in
theorem Tl{α:Type}{R:Qu×α->MapEntry->Prop}(hR:∀e m,R e m->I1 e.1 m.key)(w:Hx){es:H1 (Qu×α)}{es':H1 MapEntry}{r:Zh (Nat×α)}(p:PW R es es')(e:uY ks es 0=some r):
 (∀em,(Instr.checkKey em 10000 kt (.agg ⟨ks⟩)).run P w=.ok () w)/\∃r',(Instr.findKey kt (.agg ⟨ks⟩) es').run P w=.ok r' w/\(r=none->r'=none)/\∀n v,r=some (n,v)->∃e m,r'=some (n,m.val)/\e∈es/\R e m/\e.2 =v:=by
 have hu:=H.under kt ki hki;have hF:=(H.flat kt ki hki hf).2.2;rw[hkd] at hu hF;refine⟨λem=>aaw hu hF hl em 9998 w,?_⟩;simp only[Instr.findKey,cU,gN w H hki,hkd,eA];cases es' with
 |nil=>have:es=[]:=kC p.1;subst this;cases e;exact⟨none,rfl,λ_=>rfl,λ_ _ h=>by cases h⟩
 |cons y ys=>rw[abu];exact RU H hki hf hl hR w p e
end
def AZ(_:TT)(_:TypeId)(x k:Qu)(zs:H1 Qu)(K:Bool->H1 Qu->Zh β):Zh β:=match x,k with
 | .func (.method _) cs _,.agg ks=>ob (zy cs.toList) λes=>ob (uY ks.toList es 0) λr=>match r with
  |none=>K false (zs.map zN)
  |some (_,.agg vs)=>cond (aZ vs.toList) (K true vs.toList) none
  |some _=>none
 |_,_=>none
def Xn(T:TT)(t:TypeId)(a b:SV)(ok:Bool)(K:SV->Zh β):Zh β:=
 ob (T.get t) λi=>match i.desc with
  | .map kt et=>ob (T.get kt) λki=>ob (T.get et) λei=>ob ei.zero λz=>match ki.desc,a,b,z with
   | .struct _,.v x,.agg l,.agg zs=>ob (AM l) λks=>cond (ki.flat&&Nat.beq ks.length ki.size&&zs.toList.all Mo)
    (AZ T kt x (.agg ⟨ks⟩) zs.toList λf cs=>xF (zs.toList.map xy) cs λr=>cond (Nat.beq cs.length r.length) (K (cond ok (.aH [.agg r,.b f]) (.agg r))) none) none
   |_,_,_,_=>bC 54
  |_=>bC 55
theorem P7{m:Nat->Nat->Zh Qu}:∀{zs:H1 Qu},zs.all Mo=true->PW (aK m) (zs.map zN) zs/\aZ (zs.map zN)=true
 |[],_=>⟨.nil,rfl⟩
 |z::zs,h=>by
  rw[List.all_cons,bt] at h;obtain⟨c,d⟩:=P7 h.2;have key:aK m (zN z) z/\aZ [zN z]=true:=by
   have h:=h.1;unfold Mo at h;split at h
   ·exact⟨.int _ _,rfl⟩
   ·exact⟨.bool _,rfl⟩
   ·exact⟨.str _,rfl⟩
   ·exact⟨.fW,rfl⟩
   ·cases h
  exact⟨.cons key.1 c,by rw[ij,qv,key.2,d];rfl⟩
theorem adf{w:Hx}{b:Nat}{ys:H1 Qu}(h:∀i,fJ w b i=some (.func (.via 0 #[] 7 true) ⟨ys⟩ #[])):∃es ck,w.heap[b]? =some (.map es ck)/\ys=es.toList.map λe=>.func (.func 0) #[e.key] #[e.val]:=by
 unfold fJ at h;split at h
 ·rename_i es ck hb;have:=h 0;unfold TK at this;simp only[tb,Value.func.injEq,Array.mk.injEq] at this;exact⟨es,ck,hb,this.2.1.symm⟩
 ·rename_i hn;unfold World.cell? at h;cases hb:w.heap[b]? with
  |none=>simp[hb] at h
  |some o=>
   cases o with
   |cells c t fz=>have:=h c.size;simp[hb] at this
   |_=>simp[hb] at h
theorem ZH{m:Nat->Nat->Zh Qu}:∀{cs:H1 Qu}{es:H1 (Qu×Qu)}{es':H1 MapEntry},zy cs=some es->PW (aK m) cs (es'.map λe=>.func (.func 0) #[e.key] #[e.val])->PW (λ(e:Qu×Qu)(x:MapEntry)=>aK m e.1 x.key/\aK m e.2 x.val) es es'
 |[],es,es',e,r=>by cases e;have:=r.dY;simp at this;rw[this];exact .nil
 |c::cs,es,es',e,r=>by
  obtain⟨y,ys,h1,a,t⟩:=r.inv;cases es' with
  |nil=>cases h1
  |cons x es'=>
   simp only[ij,List.cons.injEq] at h1;obtain⟨rfl,rfl⟩:=h1;unfold zy at e;split at e
   ·rename_i h;cases h
   ·rename_i k v cs' h;cases h;obtain⟨r0,h2,e2⟩:=ax e;cases e2;cases a with
    |fn hl h kl k=>exact .cons ⟨h 0 _ _ rfl rfl,k 0 _ _ rfl rfl⟩ (ZH h2 t)
   ·cases e
theorem aiQ{P:Program}{T:TT}(H:eZ P T){t:TypeId}{x k:SV}{ok:Bool}{K:SV->Zh β}{b:β}(e:Xn T t x k ok K=some b):
 ∃sv,K sv=some b/\∀{B:Bs}{σ:Ren}{G:Nat->SO->Prop}{F:Nat->Prop}{w:Hx},Mem B σ G F w->∀v u,DV σ x v->DV σ k u->∃r,(Instr.lookup t v u ok).run P w=.ok r w/\DV σ sv r:=by
 replace e:=ax e;obtain⟨i,hi,e⟩:=e;split at e
 case h_2=>cases e
 rename_i kt et hd;replace e:=ax e;obtain⟨ki,hki,e⟩:=e;replace e:=ax e;obtain⟨ei,hei,e⟩:=e;replace e:=ax e;obtain⟨z,hz,e⟩:=e;split at e
 case h_2=>cases e
 rename_i fs x l zs hkd;replace e:=ax e;obtain⟨ks,hks,e⟩:=e;replace e:=aW e;obtain⟨e1,e⟩:=e;simp only[bt] at e1;obtain⟨⟨c1,c2⟩,c4⟩:=e1;have c2:=bT c2;unfold AZ at e;split at e
 case h_2=>cases e
 rename_i m cs cs2 ks' hk';cases hk';replace e:=ax e;obtain⟨es,hes,e⟩:=e;replace e:=ax e;obtain⟨r,hr,e⟩:=e;have fin:∀{f:Bool}{cs:H1 Qu},aZ cs=true->xF (zs.toList.map xy) cs (λr=>cond (Nat.beq cs.length r.length) (K (cond ok (.aH [.agg r,.b f]) (.agg r))) none)=some b->
  ∃sv,K sv=some b/\∀(σ:Ren) vs,PW (aK σ.lit) cs vs->DV σ sv (cond ok (.tuple ⟨[.agg ⟨vs⟩,.bool f]⟩) (.agg ⟨vs⟩)):=by
  intro f cs on e;obtain⟨l,g1,g2,g3⟩:=D4 e;obtain⟨g0,g1⟩:=aW g1;refine⟨_,g1,λσ vs wv=>?_⟩;have q:=(g3 σ vs wv on).2;rw[<-g2,<-(bT g0),wv.1,mL] at q;have dg:DV σ (.agg l) (.agg ⟨vs⟩):=.agg q.1 q.2;cases ok with
  |true=>have q:eR σ [.agg l,.b f] [.agg ⟨vs⟩,.bool f]:=.cons dg (.cons (.b _) .nil);exact .aH q.1 q.2
  |false=>exact dg
 have look:∀{B:Bs}{σ:Ren}{G:Nat->SO->Prop}{F:Nat->Prop}{w:Hx},Mem B σ G F w->∀v u,DV σ (.v (.func (.method m) cs cs2)) v->DV σ (.agg l) u->
  ∃r',(Instr.lookup t v u ok).run P w=.ok (match r' with|none=>cond ok (.tuple ⟨[.agg zs,.bool false]⟩) (.agg zs)|some (_,y)=>cond ok (.tuple ⟨[y,.bool true]⟩) y) w/\(r=none->r'=none)/\∀n y,r=some (n,y)->∃y',r'=some (n,y')/\aK σ.lit y y':=by
  intro B σ G F w M v u dv du;cases dv with
  |v dv dv1=>
  cases dv with
  |EF h1 h2 hm=>
  rename_i ys mb;obtain⟨es',ck,q1,q2⟩:=adf λi=>M.lit _ _ _ (hm i);have R:=ZH hes (show PW (aK σ.lit) cs.toList (es'.toList.map λe=>.func (.func 0) #[e.key] #[e.val]) from q2▸⟨h1,h2⟩);cases du with
  |agg du1 du2=>
  rename_i us;have hu:us=⟨ks⟩:=by rw[<-KV hks (show eR σ l us.toList from⟨du1,du2⟩)]
  subst hu;obtain⟨k1,r',k2,k3,k4⟩:=Tl H hki hkd c1 c2 (λe m q=>q.1.acP) w R hr;refine⟨r',?_,k3,λn y h=>?_⟩
  ·have hg:(getObj mb).run P w=.ok (.map es' ck) w:=by simp only[getObj,Sem.run,q1]
   simp[Instr.lookup,gN w H hi,hd,hg,k1,k2];cases r' with
   |none=>simp[sL w H hei hz]
   |some p=>simp
  ·obtain⟨e0,m0,z1,_,z2,z3⟩:=k4 n y h;exact⟨_,z1,z3▸z2.2⟩
 split at e
 ·obtain⟨sv,s1,s2⟩:=fin (P7 (m:=λ_ _=>none) c4).2 e;refine⟨sv,s1,λ{B σ G F w} M v u dv du=>?_⟩;obtain⟨r',l1,l2,_⟩:=look M v u dv du;rw[l2 rfl] at l1;exact⟨_,l1,s2 σ _ (P7 c4).1⟩
 ·rename_i n vs;replace e:=aW e;obtain⟨o1,e⟩:=e;obtain⟨sv,s1,s2⟩:=fin o1 e;refine⟨sv,s1,λ{B σ G F w} M v u dv du=>?_⟩;obtain⟨r',l1,_,l3⟩:=look M v u dv du;obtain⟨y',rfl,l4⟩:=l3 _ _ rfl;cases l4 with
  |agg a1 a2=>exact⟨_,l1,s2 σ _ ⟨a1,a2⟩⟩
 ·cases e
def F2(T:TT)(st:St)(t:TypeId)(a b c:SV)(K:Tr SO->Zh β):Zh β:=
 ob (T.get t) λi=>match i.desc with
  | .map kt _=>ob (T.get kt) λki=>match ki.desc,a,b with
   | .struct _,.mp id,.agg l=>ob (AM l) λks=>cond (ki.flat&&Nat.beq ks.length ki.size) (ob (st.h.get id) λso=>match so with
    | .mp es=>ob (uY ks es 0) λr=>match r with
     |none=>K (st.h.set id (.mp (es++[(.agg ⟨ks⟩,c)])))
     |some _=>bC 56
    |_=>bC 56) none
   |_,_,_=>bC 57
  |_=>bC 57
theorem aiO{P:Program}{T:TT}(H:eZ P T){st:St}{t:TypeId}{x k y:SV}{K:Tr SO->Zh β}{b:β}(e:F2 T st t x k y K=some b):
 ∃h',K h'=some b/\∀{B:Bs}{σ:Ren}{F:Nat->Prop}{w:Hx},Mem B σ (hG st.h) F w->∀v u z,DV σ x v->DV σ k u->DV σ y z->∃w',(Instr.mapUpdate t v u z).run P w=.ok () w'/\Mem B σ (hG h') F w':=by
 replace e:=ax e;obtain⟨i,hi,e⟩:=e;split at e
 case h_2=>cases e
 rename_i kt et hd;replace e:=ax e;obtain⟨ki,hki,e⟩:=e;split at e
 case h_2=>cases e
 rename_i fs id l hkd;replace e:=ax e;obtain⟨ks,hks,e⟩:=e;replace e:=aW e;obtain⟨e1,e⟩:=e;rw[bt] at e1;have c2:=bT e1.2;replace e:=ax e;obtain⟨so,hso,e⟩:=e;split at e
 case h_2=>cases e
 rename_i es;replace e:=ax e;obtain⟨r,hr,e⟩:=e;split at e
 case h_2=>cases e
 refine⟨_,e,λ{B σ F w} M v u z dv du dz=>?_⟩;obtain⟨o,n,es',ck,g1,g2,g3⟩:=M.obj _ _ hso;cases dv with
 |mp g=>
 rename_i n2 o2;have ho:o2=o:=by have g':=g.symm.trans g1;simp only[tb,Prod.mk.injEq] at g';exact g'.1
 rw[ho];cases du with
 |agg du1 du2=>
 rename_i us;have hu:us=⟨ks⟩:=by rw[<-KV hks (show eR σ l us.toList from⟨du1,du2⟩)]
 subst hu;obtain⟨k1,r',k2,k3,_⟩:=Tl H hki hkd e1.1 c2 (R:=I4 σ) (λe m q xs h=>⟨xs,by rw[q.1,h],rfl,λ_ _ q=>q⟩) w g3 hr;obtain rfl:=k3 rfl
 let o':Obj:=.map (es'.push {key:=.agg ⟨ks⟩,val:=z,born:=ck}) (ck+1)
 have hg:(getObj o.1).run P w=.ok (.map es' ck) w:=by simp only[getObj,Sem.run,g2]
 have hs:(setObj o.1 o').run P w=.ok () {w with heap:=w.heap.setIfInBounds o.1 o'}:=by simp only[setObj,Sem.run,g2]
 refine⟨_,?_,M.put (so':=.mp (es++[(.agg ⟨ks⟩,y)])) hso g1 (w':={w with heap:=w.heap.setIfInBounds o.1 o'}) ⟨rfl,rfl,rfl,by simp,λb hb hn=>?_⟩ ⟨_,_,es'.push {key:=.agg ⟨ks⟩,val:=z,born:=ck},ck+1,g1,?_,?_⟩⟩
 ·unfold Instr.mapUpdate;simp[gN w H hi,hd,hg,k1,k2];exact hs
 ·exact Array.getElem?_setIfInBounds_ne (Ne.symm hn)
 ·have:=M.lt hso g1;exact Array.getElem?_setIfInBounds_self_of_lt this
 ·rw[Array.toList_push];exact g3.append (.cons ⟨rfl,dz⟩ .nil)
theorem aiS{P:Program}{st:St}{B:Bs}{σ:Ren}{F:Nat->Prop}{w:Hx}(hF:F st.sx)(M:Mem B σ (hG st.h) F w)(t:TypeId):∃v w' σ',(Instr.makeMap t none).run P w=.ok v w'/\Ext σ σ'/\DV σ' (.mp st.sx) v/\Mem B σ' (hG (st.h.set st.sx (.mp []))) (mf F st.sx (st.sx+1)) w':=by
 let w':Hx:={w with heap:=w.heap.push (.map #[] 0)}
 have fr:eS (λ_=>False) w w':=⟨rfl,rfl,rfl,by simp[w'],λb hb _=>MG w _ b hb⟩;obtain⟨E,M'⟩:=M.new hF (c:=0) (n:=0) (so:=.mp []) fr ⟨_,_,#[],0,Ren.jE _ _ _,Fu w _,.nil⟩;exact⟨_,w',_,by simp[Instr.makeMap,newObj,w'];rfl,E,.mp (Ren.jE _ _ _),M'⟩
end
end Lt
end Go.Proofs.YtcfjfbeadhnknaaGreatDoor

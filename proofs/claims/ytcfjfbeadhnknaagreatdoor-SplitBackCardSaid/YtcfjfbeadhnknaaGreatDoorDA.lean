import Derived.Control
import Derived.Laws.Sem
import Derived.Below
import GoSem.Dispatch
import Derived.Laws.StructEq
import Derived.Laws.BytesString
import Derived.ChangeKeysEq
namespace Go.Proofs.YtcfjfbeadhnknaaGreatDoor
set_option linter.unusedVariables false
set_option linter.unusedSimpArgs false
set_option linter.unusedSectionVars false
set_option linter.constructorNameAsVariable false
section
abbrev H1:=Value
abbrev Hx:=@Option
abbrev qr:=@List
abbrev jp:=World
theorem aq:∀{c:Prop}{h:Decidable c},¬c->∀{α:Sort _}{t e:α},(if c then t else e)=e:=@if_neg
theorem ay:∀{c:Prop}{h:Decidable c},c->∀{α:Sort _}{t e:α},(if c then t else e)=t:=@if_pos
theorem aD:∀{α:Sort _}(a b:α),(bif false then a else b)=b:=@cond_false
theorem aE:∀{α:Sort _}(a b:α),(bif true then a else b)=a:=@cond_true
theorem aM:∀(n:Nat),n<=n:=@Nat.le_refl
theorem aT:∀{α:Type _}{as bs:qr α},List.length (as++bs)=List.length as+List.length bs:=@List.length_append
theorem aY:∀(h:Decidable True),decide True=true:=@decide_true
theorem bB:∀(a b:Bool),((a&&b)=true)=(a=true/\b=true):=@Bool.and_eq_true
theorem bH:(!true)=false:=@Bool.not_true
theorem bL:∀(h:Decidable False),decide False=false:=@decide_false
theorem bW:∀{α:Type _}{a:α}{as:qr α},List.length (a::as)=List.length as+1:=@List.length_cons
theorem bX:∀{n m:Nat},Nat.beq n m=true->n=m:=@Nat.eq_of_beq_eq_true
theorem bY:∀{α:Sort _}{β:Sort _}{a₁ a₂:α}(f:α->β),a₁=a₂->f a₁=f a₂:=@congrArg
theorem cf:∀{p:Prop}[inst:Decidable p],(decide p=true)=p:=@decide_eq_true_eq
theorem cA:∀{α:Type _}{l:qr α}{n:Nat}(h:n<List.length l),l[n]∈l:=@List.getElem_mem
theorem cD:∀{α:Type _}{β:Type _}{as:qr α}(f:α->β),List.length (List.map f as)=List.length as:=@List.length_map
theorem cG:∀{α:Type _}{l:qr α}{i:Nat}(h:i<List.length l),l[i]? =some l[i]:=@List.getElem?_eq_getElem
theorem cZ:∀{α:Type _}{b:α}{l:qr α}{a:α},a∈b::l↔a=b\/a∈l:=@List.mem_cons
theorem dk:∀{α:Type _}{i:Nat}{l:qr α}(h:i<List.length l),List.drop i l=l[i]::List.drop (i+1) l:=@List.drop_eq_getElem_cons
theorem dA:∀{α β:Type}(P:Program)(w:jp)(x:Sem α)(f:α->Sem β),Sem.run P (x>>=f) w=Result.andThen (Sem.run P x w) λa w'↦Sem.run P (f a) w':=@Sem.run_bind
theorem dE:∀{α:Type _}{i:Nat}{l:qr α},List.length (List.take i l)=min i (List.length l):=@List.length_take
theorem dM:∀{α:Type _}(as bs cs:qr α),as++bs++cs=as++(bs++cs):=@List.append_assoc
theorem dN:∀{α:Type _}{β:Type _}{x:α}{xs:qr α}{f:α->qr β},List.flatMap f (x::xs)=f x++List.flatMap f xs:=@List.flatMap_cons
theorem dW:∀{α:Sort _}{x:Decidable True}(t e:α),(if True then t else e)=t:=@if_true
theorem ea:∀{α:Type _}(as:qr α),as++[]=as:=@List.append_nil
theorem ec:∀{α:Type _}{a:α}{as bs:qr α},a::as++bs=a::(as++bs):=@List.cons_append
theorem ed:∀{n m:Nat},Nat.ble n m=true->n<=m:=@Nat.le_of_ble_eq_true
theorem er:∀{α:Type _}{i:Nat}{l:qr α},List.length (List.drop i l)=List.length l -i:=@List.length_drop
theorem ew:∀{α:Type _}{l:qr α},List.drop 0 l=l:=@List.drop_zero
theorem eK:∀{α:Type _}(as:qr α),[]++as=as:=@List.nil_append
theorem eQ:∀{α:Type _}{i:Nat}{l:qr α},List.length l<=i->List.take i l=l:=@List.take_of_length_le
theorem eV:∀(b:Bool),(true&&b)=b:=@Bool.true_and
theorem eW:∀{α β:Type}(a:α)(w:jp)(f:α->jp->Result β),Result.andThen (Result.ok a w) f=f a w:=@Result.andThen_ok
theorem eX:∀{α:Type}(P:Program)(w:jp)(a:α),Sem.run P (pure a) w=Result.ok a w:=@Sem.run_pure
theorem eY:∀{p:Prop}[inst:Decidable p],p->decide p=true:=@decide_eq_true
theorem ft:∀(B:Nat)(w:jp),RowKit.Below B w w:=@RowKit.Below.refl
theorem fy:∀{α:Type _}{i:Nat}{b:α}{xs:Array α},xs[i]? =some b↔∃h,xs[i]=b:=@Array.getElem?_eq_some_iff
theorem fD:∀{α:Type _}{β:Type _}{xs ys:qr α}{f:α->qr β},List.flatMap f (xs++ys)=List.flatMap f xs++List.flatMap f ys:=@List.flatMap_append
theorem fH:∀{n m k:Nat},n<=m->m<=k->n<=k:=@Nat.le_trans
theorem fI:∀{p:Prop}[inst:Decidable p],¬p->decide p=false:=@decide_eq_false
theorem fS:∀{α:Type _}{β:Type _}{f:α->β}{l₁ l₂:qr α},List.map f (l₁++l₂)=List.map f l₁++List.map f l₂:=@List.map_append
theorem fT:∀{α:Type _}{a:α}{s t:qr α},a∈s++t↔a∈s\/a∈t:=@List.mem_append
theorem fU:∀(n:Nat),0+n=n:=@Nat.zero_add
theorem gj:(!false)=true:=@Bool.not_false
theorem gk:∀(n:Nat),n*1=n:=@Nat.mul_one
theorem gJ:∀{p:Prop}{x:Decidable p},decide p=false↔¬p:=@decide_eq_false_iff_not
theorem gY:∀{α:Sort _}{x:Decidable False}(t e:α),(if False then t else e)=e:=@if_false
theorem ia:∀(n m:Nat),n<m\/n>=m:=@Nat.lt_or_ge
theorem ib:∀(n:Nat),0<=n:=@Nat.zero_le
theorem iv:∀{α:Type _}{p:α->Bool}{l:qr α},List.all l p=true↔∀(x:α),x∈l->p x=true:=@List.all_eq_true
theorem iw:∀{α:Type _}{β:Type _}{f:α->β}{a:α}{l:qr α},List.map f (a::l)=f a::List.map f l:=@List.map_cons
theorem iy:∀{x y:Nat},(Nat.ble x y=true)=(x<=y):=@Nat.ble_eq
theorem iH:∀{a b:Bool},a=b↔(a=true↔b=true):=@Bool.eq_iff_iff
theorem iI:∀{α:Type _}{i:Nat}{l:qr α}(h:i<List.length l),List.take (i+1) l=List.take i l++[l[i]]:=@List.take_succ_eq_append_getElem
theorem ja:∀(m:Nat){n:Nat},0<n->m*n/n=m:=@Nat.mul_div_cancel
theorem jb:∀(w:jp)(a:Addr){u:H1},World.cell? w a=some u->Addr.block a<Array.size (World.heap w):=@World.block_lt_of_cell?
theorem jq:∀{w w':jp}{a:Addr},(World.heap w')[Addr.block a]? =(World.heap w)[Addr.block a]? ->World.cell? w' a=World.cell? w a:=@World.cell?_of_block
theorem jt:∀(w:jp)(o:Obj),Array.size (World.heap (World.alloc w o))=Array.size (World.heap w)+1:=@World.size_alloc
theorem jG:∀(b:Bool),(b&&b)=b:=@Bool.and_self
theorem jH:∀{α:Type _}{val val_1:α},some val=some val_1->val=val_1:=@Option.some.inj
theorem ky:∀(b:Bool),(b&&true)=b:=@Bool.and_true
theorem kA:∀{α:Type _}{x:α}{xs:qr α}{p:α->Bool},List.filter p (x::xs)=if p x=true then x::List.filter p xs else List.filter p xs:=@List.filter_cons
theorem kB:∀(n:Nat),n/1=n:=@Nat.div_one
theorem kC:∀{a b:Nat},a<=b->min a b=a:=@Nat.min_eq_left
theorem kO:(false=true)=False:=@Bool.false_eq_true
theorem kP:∀{α:Type _}{l:qr α},List.length l=0->l=[]:=@List.eq_nil_of_length_eq_zero
theorem kQ:∀{α:Type _}{l:qr α}{i:Nat},List.length l<=i->l[i]? =none:=@List.getElem?_eq_none
theorem kR:∀(n:Nat),n<Nat.succ n:=@Nat.lt_succ_self
theorem lH:∀{α:Type _}{β:Type _}{f:α->qr β},List.flatMap f []=[]:=@List.flatMap_nil
theorem lI:∀{α:Type _}(i:Nat)(l:qr α),List.take i l++List.drop i l=l:=@List.take_append_drop
theorem lP:∀(n m k:Nat),(n+m)*k=n*k+m*k:=@Nat.add_mul
theorem mC:∀{α:Type _}{xs:Array α}{i:Nat},(Array.toList xs)[i]? =xs[i]? :=@Array.getElem?_toList
theorem mD:∀{a:Int},0<=a->↑(Int.toNat a)=a:=@Int.toNat_of_nonneg
theorem mE:∀{α:Type _}(y:α){a:α}{l:qr α},a∈l->a∈y::l:=@List.mem_cons_of_mem
theorem mF:∀{α:Type _}{β:Type _}{b:β}{f:α->β}{l:qr α},b∈List.map f l↔∃a,a∈l/\f a=b:=@List.mem_map
theorem nh:∀(n:Nat),Int.toNat ↑n=n:=@Int.toNat_natCast
theorem nj:∀{α:Type _}{a b:α},a∈[b]↔a=b:=@List.mem_singleton
theorem nk:∀{α:Type _}{a:α},¬a∈[]:=@List.not_mem_nil
theorem np:∀(a:Nat),Nat.beq a a=true:=@Nat.beq_refl
theorem nq:∀(n m:Nat),n*m=m*n:=@Nat.mul_comm
theorem nr:∀(p:Prop),(p\/False)=p:=@or_false
theorem nY:∀{α:Type _}{a:α}{l:qr α},a∈a::l:=@List.mem_cons_self
theorem nZ:∀{α:Type _}{l:qr α}{i:Nat}{a:α},l[i]? =some a->a∈l:=@List.mem_of_getElem?
theorem oa:∀{α:Type _}{a:α}{as:qr α}{i:Nat},List.take (i+1) (a::as)=a::List.take i as:=@List.take_succ_cons
theorem oe:∀{a b:UInt8},UInt8.toNat a=UInt8.toNat b↔a=b:=@UInt8.toNat_inj
theorem oh:∀{p:Prop}[inst:Decidable p],decide p=true->p:=@of_decide_eq_true
theorem oV:∀(n:Nat),Int.ofNat n=↑n:=@Int.ofNat_eq_natCast
theorem oW:∀{α:Type _}{i:Nat}{a:α}{l:qr α},l[i]? =some a↔∃h,l[i]=a:=@List.getElem?_eq_some_iff
theorem oX:∀{α:Type _}{p:α->Bool}{as:qr α}{x:α},x∈List.filter p as↔x∈as/\p x=true:=@List.mem_filter
theorem oY:∀{α:Type _}{l:qr α},List.take (List.length l) l=l:=@List.take_length
theorem oZ:∀{α:Type _}{l:qr α},List.take 0 l=[]:=@List.take_zero
theorem o5:∀(n m k:Nat),n+m+k=n+(m+k):=@Nat.add_assoc
theorem o6:∀{n m k:Nat},n<m->m<=k->n<k:=@Nat.lt_of_lt_of_le
theorem pU:∀{n:Nat}{α:Type _}{a:α},Array.replicate (n+1) a=Array.push (Array.replicate n a) a:=@Array.replicate_succ
theorem pV:∀{α:Type _}{a:α},Array.replicate 0 a=#[]:=@Array.replicate_zero
theorem pW:∀{α:Type _}(l₁ l₂:qr α),List.toArray l₁++List.toArray l₂=List.toArray (l₁++l₂):=@List.append_toArray
theorem pX:∀{α:Type _}{l:qr α}{i j:Nat},(List.take i l)[j]? =if j<i then l[j]? else none:=@List.getElem?_take
theorem pY:∀{α:Type _}[inst:BEq α][LawfulBEq α]{l₁ l₂:qr α},List.isPrefixOf l₁ l₂=true↔l₁<+:l₂:=@List.isPrefixOf_iff_prefix
theorem pZ:∀{α:Type _}(l:qr α)(a:α),Array.push (List.toArray l) a=List.toArray (l++[a]):=@List.push_toArray
theorem p9:∀{α:Type _}{as:qr α},Array.size (List.toArray as)=List.length as:=@List.size_toArray
theorem qa:∀(n:Nat),n<=Nat.succ n:=@Nat.le_succ
theorem qD:∀{α:Type _}{xs:Array α}{i:Nat}{d:α},Array.getD xs i d=Option.getD xs[i]? d:=@Array.getD_eq_getD_getElem?
theorem qE:∀{a:Prop},¬¬a↔a:=@Classical.not_not
theorem qF:∀{α:Type _}{l:qr α},List.length l=0↔l=[]:=@List.length_eq_zero_iff
theorem qG:∀{α:Type _}{a:α}{i:Nat}{l:qr α},a∈List.drop i l->a∈l:=@List.mem_of_mem_drop
theorem qH:∀{a b:Nat},a<b->a%b=a:=@Nat.mod_eq_of_lt
theorem qI:∀{α:Type _}{a b:α},Option.getD (some a) b=a:=@Option.getD_some
theorem rG:∀{α:Type _}{l:qr α},List.drop (List.length l) l=[]:=@List.drop_length
theorem rH:∀{α:Type _}{l₁ l₂:qr α},(∀(i:Nat),l₁[i]? =l₂[i]?)->l₁=l₂:=@List.ext_getElem?
theorem rI:∀{α:Type _}(l₁ l₂:qr α),l₁<+:l₁++l₂:=@List.prefix_append
theorem rJ:∀{α:Type _}{β:Type _}(a:α)(f:α->β),Option.map f (some a)=some (f a):=@Option.map_some
theorem sU:∀(a b:Bool),((a||b)=true)=(a=true\/b=true):=@Bool.or_eq_true
theorem sV:∀{α:Type _}{xs:qr α}{i j:Nat},(List.drop i xs)[j]? =xs[i+j]? :=@List.getElem?_drop
theorem sW:∀{n m:Nat},n=m->n<=m:=@Nat.le_of_eq
theorem sX:∀{α:Type _}(val val_1:α),(some val=some val_1)=(val=val_1):=@Option.some.injEq
theorem uI:∀(b:Bool),((!b)=true)=(b=false):=@Bool.not_eq_true'
theorem uJ:∀{α:Type _}{as:qr α}{i:Nat},List.length as<=i->List.drop i as=[]:=@List.drop_eq_nil_of_le
theorem uK:∀{α:Type _}{i:Nat}{l:qr α},List.length l<=i->List.drop i l=[]:=@List.drop_of_length_le
theorem uL:∀{α:Type _}{l₁ l₂:qr α}{i:Nat},List.length l₁<=i->(l₁++l₂)[i]? =l₂[i -List.length l₁]? :=@List.getElem?_append_right
theorem uM:∀{α:Type _}{n:Nat}{a:α},List.length (List.replicate n a)=n:=@List.length_replicate
theorem uN:∀{α:Type _}{i:Nat}{a:α}{l:qr α},a∈List.take i l->a∈l:=@List.mem_of_mem_take
theorem uO:∀{n:Nat},List.range (n+1)=0::List.map Nat.succ (List.range n):=@List.range_succ_eq_map
theorem wS:∀{α:Type _}{l:qr α}{i:Nat}{a:α},List.getD l i a=Option.getD l[i]? a:=@List.getD_eq_getElem?_getD
theorem wT:∀{α:Type _}{l₁ l₂:qr α}{i:Nat},i<List.length l₁->(l₁++l₂)[i]? =l₁[i]? :=@List.getElem?_append_left
theorem wU:∀{α:Type _}{a:α},List.length [a]=1:=@List.length_singleton
theorem wV:∀{m n:Nat},m<=n->∃k,n=k+m:=@Nat.exists_eq_add_of_le'
theorem wW:∀{n m:Nat}(k:Nat),n<=m->n*k<=m*k:=@Nat.mul_le_mul_right
theorem wX:∀{n:Nat},UInt8.toNat (UInt8.ofNat n)=n%2^8:=@UInt8.toNat_ofNat'
theorem zH:∀{α:Type _}{xs:Array α}{i:Nat}(h:i<Array.size xs),xs[i]? =some xs[i]:=@Array.getElem?_eq_getElem
theorem zI:∀(b:Bool),(false||b)=b:=@Bool.false_or
theorem zJ:∀{α:Type _}{l:qr α}{i j:Nat},i<j->(List.take j l)[i]? =l[i]? :=@List.getElem?_take_of_lt
theorem C6:∀{n m:Nat},n<=m->Nat.ble n m=true:=@Nat.ble_eq_true_of_le
theorem IT:∀(n m:Nat),n+m -n=m:=@Nat.add_sub_cancel_left
namespace Lt
inductive Tr(α:Type) where
 |nil
 |node (v:Option α) (l r:Tr α)
inductive jJ where
 |z
 |l (p:jJ)
 |r (p:jJ)
def vQ:Nat->Nat->jJ
 |0,_=>.z
 |f+1,n=>cond (Nat.beq n 0) .z (cond (Nat.beq (n%2) 1) (.l (vQ f (n/2))) (.r (vQ f (n/2 -1))))
def su(n:Nat):jJ:=vQ (n+1) n
def Tr.val{α:Type}:Tr α->Hx α| .nil=>none| .node v _ _=>v
def Tr.left{α:Type}:Tr α->Tr α| .nil=>.nil| .node _ l _=>l
def Tr.right{α:Type}:Tr α->Tr α| .nil=>.nil| .node _ _ r=>r
def walk{α:Type}:jJ->Tr α->Hx α
 | .z,t=>t.val
 | .l p,t=>walk p t.left
 | .r p,t=>walk p t.right
def oU{α:Type}(x:Hx α):jJ->Tr α->Tr α
 | .z,.nil=>.node x .nil .nil
 | .z,.node _ l r=>.node x l r
 | .l p,.nil=>.node none (oU x p .nil) .nil
 | .l p,.node v l r=>.node v (oU x p l) r
 | .r p,.nil=>.node none .nil (oU x p .nil)
 | .r p,.node v l r=>.node v l (oU x p r)
theorem C5{α:Type}(t:Tr α):walk .z t=t.val:=rfl
theorem II{α:Type}(p:jJ)(t:Tr α):walk (.l p) t=walk p t.left:=rfl
theorem IK{α:Type}(p:jJ)(t:Tr α):walk (.r p) t=walk p t.right:=rfl
theorem P1{α:Type}(x:Hx α)(t:Tr α):oU x .z t=.node x t.left t.right:=by cases t<;>rfl
theorem IQ{α:Type}(x:Hx α)(p:jJ)(t:Tr α):oU x (.l p) t=.node t.val (oU x p t.left) t.right:=by cases t<;>rfl
theorem IS{α:Type}(x:Hx α)(p:jJ)(t:Tr α):oU x (.r p) t=.node t.val t.left (oU x p t.right):=by cases t<;>rfl
theorem PV{α:Type}(v:Hx α)(l r:Tr α):(Tr.node v l r).val=v:=rfl
theorem Ti{α:Type}(v:Hx α)(l r:Tr α):(Tr.node v l r).left=l:=rfl
theorem Wu{α:Type}(v:Hx α)(l r:Tr α):(Tr.node v l r).right=r:=rfl
theorem IM{α:Type}(x:Hx α):∀(p:jJ)(t:Tr α),walk p (oU x p t)=x
 | .z,t=>by rw[P1,C5,PV]
 | .l p,t=>by rw[IQ];exact IM x p _
 | .r p,t=>by rw[IS];exact IM x p _
theorem IL{α:Type}(x:Hx α):∀(p q:jJ)(t:Tr α),p≠q->walk p (oU x q t)=walk p t
 | .z,.z,t,h=>by grind
 | .z,.l q,t,_=>by rw[IQ,C5,PV,C5]
 | .z,.r q,t,_=>by rw[IS,C5,PV,C5]
 | .l p,.z,t,_=>by rw[P1,II,Ti,II]
 | .l p,.l q,t,h=>by rw[IQ];exact IL x p q _ λe=>h (by rw[e])
 | .l p,.r q,t,_=>by rw[IS,II,Ti,II]
 | .r p,.z,t,_=>by rw[P1,IK,Wu,IK]
 | .r p,.l q,t,_=>by rw[IQ,IK,Wu,IK]
 | .r p,.r q,t,h=>by rw[IS];exact IL x p q _ λe=>h (by rw[e])
def jJ.num:jJ->Nat
 | .z=>0
 | .l p=>2*p.num+1
 | .r p=>2*p.num+2
theorem Ah{α:Type}(a b:Nat)(x y:α):cond (Nat.beq a b) x y=if a=b then x else y:=by simp
theorem Bo:∀(f n:Nat),n<f->(vQ f n).num=n
 |0,_,h=>by grind
 |f+1,n,h=>by
  unfold vQ;rw[Ah,Ah];by_cases h0:n=0
  ·rw[h0];rfl
  ·rw[aq h0];by_cases h1:n%2=1
   ·rw[ay h1];show 2*(vQ f (n/2)).num+1=n;rw[Bo f _ (by omega)];omega
   ·rw[aq h1];show 2*(vQ f (n/2 -1)).num+2=n;rw[Bo f _ (by omega)];omega
theorem VF{m n:Nat}(h:su m=su n):m=n:=by have:=bY jJ.num h;unfold su at this;rwa[Bo _ _ (kR _),Bo _ _ (kR _)] at this
def Tr.get{α:Type}(t:Tr α)(n:Nat):Hx α:=walk (su n) t
def Tr.set{α:Type}(t:Tr α)(n:Nat)(x:α):Tr α:=oU (some x) (su n) t
def Tr.del{α:Type}(t:Tr α)(n:Nat):Tr α:=oU none (su n) t
theorem Tr.fN{α:Type}(t:Tr α)(m n:Nat)(x:α):(t.set m x).get n=if n=m then some x else t.get n:=by
 by_cases h:n=m
 ·rw[ay h,h];exact IM _ _ _
 ·rw[aq h];exact IL _ _ _ _ λe=>h (VF e)
theorem Tr.rY{α:Type}(t:Tr α)(m n:Nat):(t.del m).get n=if n=m then none else t.get n:=by
 by_cases h:n=m
 ·rw[ay h,h];exact IM _ _ _
 ·rw[aq h];exact IL _ _ _ _ λe=>h (VF e)
theorem IJ{α:Type}:∀p:jJ,walk p (.nil:Tr α)=none
 | .z=>rfl
 | .l p=>IJ p
 | .r p=>IJ p
theorem Tr.get_nil{α:Type}(n:Nat):(Tr.nil:Tr α).get n=none:=IJ _
def PW{α γ:Type}(R:α->γ->Prop)(xs:qr α)(ys:qr γ):Prop:=xs.length=ys.length/\∀(i:Nat)(x:α)(y:γ),xs[i]? =some x->ys[i]? =some y->R x y
section
variable{α γ:Type} {R:α->γ->Prop}
theorem PW.nil:PW R [] []:=⟨rfl,λ_ _ _ h=>by simp at h⟩
theorem PW.cons{x:α}{y:γ}{xs:qr α}{ys:qr γ}(h:R x y)(t:PW R xs ys):PW R (x::xs) (y::ys):=
 ⟨bY (·+1) t.1,λi a b ha hb=>by
  cases i with
  |zero=>simp at ha hb;subst ha hb;exact h
  |succ i=>exact t.2 i a b (by simpa using ha) (by simpa using hb)⟩
theorem PW.ee{l:qr γ}(h:PW R [] l):l=[]:=kP h.1.symm
theorem PW.inv{x:α}{xs:qr α}{l:qr γ}(h:PW R (x::xs) l):∃y ys,l=y::ys/\R x y/\PW R xs ys:=by
 obtain⟨h1,h2⟩:=h;cases l with
 |nil=>cases h1
 |cons y ys=>exact⟨y,ys,rfl,h2 0 x y rfl rfl,by simpa using h1,λi a b ha hb=>h2 (i+1) a b (by simpa using ha) (by simpa using hb)⟩
theorem PW.get{xs:qr α}{ys:qr γ}(h:PW R xs ys){i:Nat}{x:α}(e:xs[i]? =some x):∃y,ys[i]? =some y/\R x y:=by have:=(oW.1 e).1;have hl:=h.1;exact⟨ys[i],by simp,h.2 i x _ e (by simp)⟩
theorem PW.mono{R':α->γ->Prop}(e:∀x y,R x y->R' x y){xs:qr α}{ys:qr γ}(h:PW R xs ys):PW R' xs ys:=⟨h.1,λi x y a b=>e x y (h.2 i x y a b)⟩
theorem PW.append{xs us:qr α}{ys vs:qr γ}(h:PW R xs ys)(k:PW R us vs):PW R (xs++us) (ys++vs):=by
 obtain⟨h1,h2⟩:=h;obtain⟨k1,k2⟩:=k;refine⟨by simp[h1,k1],λi x y a b=>?_⟩;rw[List.getElem?_append] at a b;split at a
 ·rw[ay (by omega)] at b;exact h2 i x y a b
 ·rw[aq (by omega)] at b;rw[h1] at a;exact k2 _ x y a b
theorem PW.take{xs:qr α}{ys:qr γ}(h:PW R xs ys)(n:Nat):PW R (xs.take n) (ys.take n):=
 ⟨by simp[h.1],λi x y a b=>by rw[pX] at a b;split at a<;>simp_all;exact h.2 i x y a b⟩
theorem PW.drop{xs:qr α}{ys:qr γ}(h:PW R xs ys)(n:Nat):PW R (xs.drop n) (ys.drop n):=
 ⟨by simp[h.1],λi x y a b=>by rw[sV] at a b;exact h.2 _ x y a b⟩
theorem PW.set{xs:qr α}{ys:qr γ}(h:PW R xs ys){x:α}{y:γ}(r:R x y)(n:Nat):PW R (xs.set n x) (ys.set n y):=
 ⟨by simp[h.1],λi a b ha hb=>by rw[List.getElem?_set] at ha hb;have:=h.1;have:=h.2 i a b;grind⟩
end
def aW{α:Type}:Nat->qr α->qr α->qr α
 |_,[],c=>c
 |n,v::vs,c=>aW (n+1) vs (c.set n v)
theorem nS{α:Type}:∀(vs:qr α)(n:Nat)(c:qr α),(aW n vs c).length=c.length
 |[],_,_=>rfl
 |v::vs,n,c=>by simp only[aW,nS vs,List.length_set]
theorem PW.aW{α γ:Type}{R:α->γ->Prop}:∀{us:qr α}{vs:qr γ},PW R us vs->∀(n:Nat){xs:qr α}{ys:qr γ},PW R xs ys->PW R (aW n us xs) (aW n vs ys)
 |[],vs,h,n,_,_,hx=>by rw[h.ee];exact hx
 |u::us,vs,h,n,_,_,hx=>by obtain⟨y,ys,rfl,r,t⟩:=h.inv;exact PW.aW t (n+1) (hx.set r n)
def ae(n:Nat)(cells:qr H1):H1:=.func (.via n #[] 0 true) ⟨cells⟩ #[]
def Ex(cells:qr H1):H1:=.func (.via 0 #[] 0 false) ⟨cells⟩ #[]
def Vi:Nat:=18446744073709551616
def Tz(es:qr MapEntry):H1:=.func (.via 0 #[] 7 true) ⟨es.map λe=>.func (.func 0) #[e.key] #[e.val]⟩ #[]
def DU(b:Bool):H1:=.func (.via 0 #[] (cond b 2 1) true) #[] #[]
def bh:qr H1->Bool
 |[]=>true
 | .agg _::_=>false
 | .tuple _::_=>false
 |_::vs=>bh vs
theorem qX{x:H1}{r:qr H1}:bh (x::r)=(bh [x]&&bh r):=by cases x<;>simp[bh]
theorem iW:∀{c:qr H1},bh c=true↔∀x∈c,bh [x]=true
 |[]=>by simp[bh]
 |y::r=>by rw[qX,bB,iW (c:=r)];simp
theorem qY{c d:qr H1}(h:bh c=true)(s:∀x∈d,x∈c):bh d=true:=iW.2 λx hx=>iW.1 h x (s x hx)
def fP(w:jp)(b i:Nat):Hx H1:=match w.heap[b]? with
 |some (.map es _)=>some (Tz es.toList)
 |_=>w.cell? ⟨b,i,none⟩
theorem r8{w w':jp}{b i:Nat}(h:w'.heap[b]? =w.heap[b]?):fP w' b i=fP w b i:=by
 unfold fP;rw[h];split
 ·rfl
 ·exact jq h
theorem mP{w:jp}{b i:Nat}{v:H1}(h:fP w b i=some v):b<w.heap.size:=by
 rcases ia b w.heap.size with q|q
 ·grind
 ·unfold fP World.cell? at h
  grind
theorem tO{w:jp}{b:Nat}{cs:Array H1}{e:TypeId}{fz:Nat×Nat}(h:w.heap[b]? =some (.cells cs e fz))(i:Nat):fP w b i=cs[i]? :=by simp[fP,World.cell?,h]
inductive aN(m:Nat->Nat->Option Value):Value->Value->Prop where
 |bool (b:Bool):aN m (.bool b) (.bool b)
 |int (k:IntKind) (n:Int):aN m (.int k n) (.int k n)
 |str (s:ByteArray):aN m (.string s) (.string s)
 |sw:aN m (.pointer none) (.pointer none)
 |Pw:aN m (.slice none 0 0) (.slice none 0 0)
 |EB:aN m (.map none) (.map none)
 |nilFunc:aN m .nilFunc .nilFunc
 |nilIface:aN m .nilIface .nilIface
 |agg {xs xs':Array Value} (hl:xs.toList.length=xs'.toList.length) (h:∀(i:Nat) x y,xs.toList[i]? =some x->xs'.toList[i]? =some y->aN m x y):aN m (.agg xs) (.agg xs')
 |aG {xs xs':Array Value} (hl:xs.toList.length=xs'.toList.length) (h:∀(i:Nat) x y,xs.toList[i]? =some x->xs'.toList[i]? =some y->aN m x y):aN m (.tuple xs) (.tuple xs')
 |fn {f:FuncId} {xs ys xs' ys':Array Value} (hl:xs.toList.length=xs'.toList.length) (h:∀(i:Nat) x y,xs.toList[i]? =some x->xs'.toList[i]? =some y->aN m x y)
  (kl:ys.toList.length=ys'.toList.length) (k:∀(i:Nat) x y,ys.toList[i]? =some x->ys'.toList[i]? =some y->aN m x y):aN m (.func (.func f) xs ys) (.func (.func f) xs' ys')
 |lC {n c:Nat} {cs:Array Value} {a:Addr} {ys:List Value} (hl:cs.toList.length=ys.length) (h:∀(i:Nat) x y,cs.toList[i]? =some x->ys[i]? =some y->aN m x y)
  (hm:∀(i:Nat) y,ys[i]? =some y->m a.block (a.off+i)=some y) (hs:a.spot=none) (hn:n<=c) (ho:bh cs.toList=true):aN m (.func (.via n #[] 0 true) cs #[]) (.slice (some a) n c)
 |gy {c:Nat} {a:Option Addr}:aN m (.func (.via 0 #[] 0 true) #[] #[]) (.slice a 0 c)
 |zG {c:Nat} {a:Addr}:aN m (.func (.via 0 #[] 1 true) #[] #[]) (.slice (some a) 0 c)
 |A1 {c:Nat}:aN m (.func (.via 0 #[] 2 true) #[] #[]) (.slice none 0 c)
 |vP {cs:Array Value} {a:Addr} {ys:List Value} (hl:cs.toList.length=ys.length) (h:∀(i:Nat) x y,cs.toList[i]? =some x->ys[i]? =some y->aN m x y)
  (hm:∀(i:Nat) y,ys[i]? =some y->m a.block (a.off+i)=some y) (hs:a.spot=none) (ho:bh cs.toList=true):aN m (.func (.via 0 #[] 0 false) cs #[]) (.pointer (some a))
 |EF {cs:Array Value} {ys:List Value} {b:Nat} (hl:cs.toList.length=ys.length) (h:∀(i:Nat) x y,cs.toList[i]? =some x->ys[i]? =some y->aN m x y)
  (hm:∀i,m b i=some (.func (.via 0 #[] 7 true) ⟨ys⟩ #[])):aN m (.func (.method "") cs #[]) (.map (some b))
theorem aN.mono{m m':Nat->Nat->Hx H1}(e:∀b i v,m b i=some v->m' b i=some v){v v':H1}(h:aN m v v'):aN m' v v':=by
 induction h with
 |bool=>exact .bool _
 |int=>exact .int _ _
 |str=>exact .str _
 |sw=>exact .sw
 |Pw=>exact .Pw
 |EB=>exact .EB
 |nilFunc=>exact .nilFunc
 |nilIface=>exact .nilIface
 |agg hl _ ih=>exact .agg hl ih
 |aG hl _ ih=>exact .aG hl ih
 |fn hl _ kl _ ih ik=>exact .fn hl ih kl ik
 |lC hl _ hm hs hn ho ih=>exact .lC hl ih (λi y hy=>e _ _ _ (hm i y hy)) hs hn ho
 |gy=>exact .gy
 |zG=>exact .zG
 |A1=>exact .A1
 |vP hl _ hm hs ho ih=>exact .vP hl ih (λi y hy=>e _ _ _ (hm i y hy)) hs ho
 |EF hl _ hm ih=>exact .EF hl ih λi=>e _ _ _ (hm i)
theorem aN.one{m:Nat->Nat->Hx H1}{v v':H1}(h:aN m v v'):bh [v']=bh [v]:=by cases h<;>rfl
theorem Ba{m:Nat->Nat->Hx H1}{c cs:qr H1}(h:PW (aN m) c cs)(o:bh c=true):bh cs=true:=iW.2 λy hy=>by obtain⟨i,hi⟩:=List.mem_iff_getElem?.1 hy;have:=(oW.1 hi).1;have hl:=h.1;have r:=h.2 i c[i] y (by simp) hi;rw[r.one];exact iW.1 o _ (cA _)
end Lt
end
namespace Lt
section
inductive SV where
 |i (k:IntKind) (n:Int)
 |b (x:Bool)
 |s (x:ByteArray)
 |v (x:Value)
 |nl
 |agg (l:List SV)
 |aG (l:List SV)
 |ptr (id off:Nat)
 |lp (cells:List Value)
 |sl (id off n cap:Nat)
 |gr (id E:Nat)
 |fn (f:FuncId) (l:List SV)
 |fO (t:TypeId) (x:SV)
 |em (b:Bool)
 |ni
 |mp (id:Nat)
inductive SO where
 |cells (c:List SV) (t:TypeId)
 |arr (c:List Value) (t:TypeId)
 |grow (E:Nat) (c:List Value) (t:TypeId)
 |mp (es:List (Value×SV))
structure St where
 tm:Tr SV
 h:Tr SO
 sx:Nat
structure Ren where
 nm:Nat->Option (Option (Nat×Nat)×Nat)
 lit:Nat->Nat->Option Value
structure Ext(σ σ':Ren):Prop where
 nm:∀id x,σ.nm id=some x->σ'.nm id=some x
 lit:∀b i v,σ.lit b i=some v->σ'.lit b i=some v
theorem Ext.refl(σ:Ren):Ext σ σ:=⟨λ_ _ h=>h,λ_ _ _ h=>h⟩
theorem Ext.trans{a b c:Ren}(h:Ext a b)(k:Ext b c):Ext a c:=⟨λi x e=>k.nm i x (h.nm i x e),λb i v e=>k.lit b i v (h.lit b i v e)⟩
def rW(f:Nat)(ys:qr H1):H1:=.func (.func (f%65536)) ⟨ys.take (f/65536)⟩ ⟨ys.drop (f/65536)⟩
inductive DV(σ:Ren):SV->Value->Prop where
 |i (k:IntKind) (n:Int):DV σ (.i k n) (.int k n)
 |b (x:Bool):DV σ (.b x) (.bool x)
 |s (x:ByteArray):DV σ (.s x) (.string x)
 |v {x y:Value} (h:aN σ.lit x y) (h1:bh [x]=true):DV σ (.v x) y
 |nl:DV σ .nl (.slice none 0 0)
 |agg {l:List SV} {xs:Array Value} (hl:l.length=xs.toList.length) (h:∀(i:Nat) x y,l[i]? =some x->xs.toList[i]? =some y->DV σ x y):DV σ (.agg l) (.agg xs)
 |aG {l:List SV} {xs:Array Value} (hl:l.length=xs.toList.length) (h:∀(i:Nat) x y,l[i]? =some x->xs.toList[i]? =some y->DV σ x y):DV σ (.aG l) (.tuple xs)
 |ptr {id off n:Nat} {o:Nat×Nat} (h:σ.nm id=some (some o,n)):DV σ (.ptr id off) (.pointer (some ⟨o.1,off,none⟩))
 |lp {cells:List Value} {v:Value} (h:aN σ.lit (Ex cells) v):DV σ (.lp cells) v
 |sl {id off n cap m:Nat} {o:Nat×Nat} (h:σ.nm id=some (some o,m)) (hn:n<=cap):DV σ (.sl id off n cap) (.slice (some ⟨o.1,off,none⟩) n cap)
 |jP {id E:Nat} (h:σ.nm id=some (none,0)):DV σ (.gr id E) (.slice none 0 0)
 |gr {id E n c:Nat} {o:Nat×Nat} (h:σ.nm id=some (some o,n)) (hc:c*E=o.2) (hn:n<=c):DV σ (.gr id E) (.slice (some ⟨o.1,0,none⟩) n c)
 |fn {f:FuncId} {l:List SV} {ys:List Value} (hl:l.length=ys.length) (h:∀(i:Nat) x y,l[i]? =some x->ys[i]? =some y->DV σ x y):DV σ (.fn f l) (rW f ys)
 |fO {t:TypeId} {x:SV} {v:Value} (h:DV σ x v):DV σ (.fO t x) (.iface t v)
 |em {b:Bool} {v:Value} (h:aN σ.lit (DU b) v):DV σ (.em b) v
 |ni:DV σ .ni .nilIface
 |mp {id n:Nat} {o:Nat×Nat} (h:σ.nm id=some (some o,n)):DV σ (.mp id) (.map (some o.1))
abbrev fm(σ:Ren):=PW (DV σ)
theorem DV.mono{σ σ':Ren}(e:Ext σ σ'){x:SV}{v:H1}(h:DV σ x v):DV σ' x v:=by
 induction h with
 |i=>exact .i _ _
 |b=>exact .b _
 |s=>exact .s _
 |v h h1=>exact .v (h.mono e.lit) h1
 |nl=>exact .nl
 |agg hl _ ih=>exact .agg hl ih
 |aG hl _ ih=>exact .aG hl ih
 |ptr h=>exact .ptr (e.nm _ _ h)
 |lp h=>exact .lp (h.mono e.lit)
 |sl h hn=>exact .sl (e.nm _ _ h) hn
 |jP h=>exact .jP (e.nm _ _ h)
 |gr h hc hn=>exact .gr (e.nm _ _ h) hc hn
 |fn hl _ ih=>exact .fn hl ih
 |fO _ ih=>exact .fO ih
 |em h=>exact .em (h.mono e.lit)
 |ni=>exact .ni
 |mp h=>exact .mp (e.nm _ _ h)
theorem fm.mono{σ σ':Ren}(e:Ext σ σ'){xs:qr SV}{vs:qr H1}(h:fm σ xs vs):fm σ' xs vs:=PW.mono (λ_ _=>DV.mono e) h
def uS(fz:Nat×Nat)(n:Nat):Prop:=fz=(0,0)\/n<=fz.1
def Cl(w:jp)(b:Nat)(cs:Array H1)(t:TypeId):Prop:=∃fz,w.heap[b]? =some (.cells cs t fz)/\uS fz cs.size
def I2(σ:Ren)(e:H1×SV)(m:MapEntry):Prop:=m.key=e.1 /\DV σ e.2 m.val
def DO(σ:Ren)(w:jp)(id:Nat):SO->Prop
 | .cells c t=>∃o n cs,σ.nm id=some (some o,n)/\Cl w o.1 cs t/\fm σ c cs.toList
 | .arr c t=>∃o n cs,σ.nm id=some (some o,n)/\Cl w o.1 cs t/\bh c=true/\PW (aN σ.lit) c cs.toList
 | .grow E c t=>0<E/\bh c=true/\(σ.nm id=some (none,0)/\c=[]\/∃o n cs,σ.nm id=some (some o,n)/\Cl w o.1 cs t/\o.2 =cs.size/\c.length=n*E/\c.length<=cs.size/\PW (aN σ.lit) c (cs.toList.take c.length))
 | .mp es=>∃o n es' ck,σ.nm id=some (some o,n)/\w.heap[o.1]? =some (.map es' ck)/\PW (I2 σ) es es'.toList
theorem DO.nm{σ:Ren}{w:jp}{id:Nat}{so:SO}(d:DO σ w id so):σ.nm id=some (none,0)\/∃o n,σ.nm id=some (some o,n)/\o.1 <w.heap.size:=by
 have key:∀{b cs t},Cl w b cs t->b<w.heap.size:=λ⟨_,h,_⟩=>by grind
 cases so with
 |cells=>obtain⟨o,n,cs,a,b,_⟩:=d;exact .inr ⟨o,n,a,key b⟩
 |arr=>obtain⟨o,n,cs,a,b,_⟩:=d;exact .inr ⟨o,n,a,key b⟩
 |grow=>
  rcases d.2.2 with⟨a,_⟩|⟨o,n,cs,a,b,_⟩
  ·exact .inl a
  ·exact .inr ⟨o,n,a,key b⟩
 |mp=>obtain⟨o,n,es',ck,a,b,_⟩:=d;exact .inr ⟨o,n,a,by grind⟩
theorem DO.mono{σ σ':Ren}(e:Ext σ σ'){w w':jp}{id:Nat}{so:SO}(d:DO σ w id so)(he:∀o n,σ.nm id=some (some o,n)->w'.heap[o.1]? =w.heap[o.1]?):DO σ' w' id so:=by
 have key:∀{o n cs t},σ.nm id=some (some o,n)->Cl w o.1 cs t->Cl w' o.1 cs t:=λa ⟨fz,h,k⟩=>⟨fz,(he _ _ a).trans h,k⟩;cases so with
 |cells=>obtain⟨o,n,cs,a,b,c⟩:=d;exact⟨o,n,cs,e.nm _ _ a,key a b,c.mono e⟩
 |arr=>obtain⟨o,n,cs,a,b,c,r⟩:=d;exact⟨o,n,cs,e.nm _ _ a,key a b,c,r.mono λ_ _=>aN.mono e.lit⟩
 |grow=>
  obtain⟨p,q,d⟩:=d;refine⟨p,q,?_⟩;rcases d with⟨a,b⟩|⟨o,n,cs,a,b,c,f,g,r⟩
  ·exact .inl ⟨e.nm _ _ a,b⟩
  ·exact .inr ⟨o,n,cs,e.nm _ _ a,key a b,c,f,g,r.mono λ_ _=>aN.mono e.lit⟩
 |mp=>obtain⟨o,n,es',ck,a,b,c⟩:=d;exact⟨o,n,es',ck,e.nm _ _ a,(he _ _ a).trans b,c.mono λ_ _ q=>⟨q.1,q.2.mono e⟩⟩
structure eZ(own:Nat->Prop)(w w':World):Prop where
 os:w'.os=w.os
 tape:w'.tape=w.tape
 output:w'.output=w.output
 size:w.heap.size<=w'.heap.size
 block:∀b,b<w.heap.size->¬own b->w'.heap[b]? =w.heap[b]?
theorem eZ.refl(own:Nat->Prop)(w:jp):eZ own w w:=⟨rfl,rfl,rfl,aM _,λ_ _ _=>rfl⟩
theorem eZ.trans{own own':Nat->Prop}{a b c:jp}(h:eZ own a b)(k:eZ own' b c)(s:∀n,own' n->own n\/a.heap.size<=n):eZ own a c:=
 ⟨k.os.trans h.os,k.tape.trans h.tape,k.output.trans h.output,fH h.size k.size,λn hn ho=>(k.block n (o6 hn h.size) λq=>by rcases s n q with q|q;exact ho q;omega).trans (h.block n hn ho)⟩
theorem eZ.wide{own own':Nat->Prop}{a b:jp}(h:eZ own a b)(s:∀n,own n->own' n):eZ own' a b:=⟨h.os,h.tape,h.output,h.size,λn hn ho=>h.block n hn λq=>ho (s n q)⟩
structure Bs where
 w:World
 own:Nat->Prop
 lit:Nat->Nat->Option Value
 an:Nat
 nm:Nat->Option (Option (Nat×Nat)×Nat)
 n:Nat
 dX:List Deferred
def Own(σ:Ren)(G:Nat->SO->Prop)(b:Nat):Prop:=∃id so o n,G id so/\σ.nm id=some (some o,n)/\o.1 =b
structure Mem(B:Bs)(σ:Ren)(G:Nat->SO->Prop)(F:Nat->Prop)(w:World):Prop where
 obj:∀id so,G id so->DO σ w id so
 inj:∀i j so so' o o' n n',G i so->G j so'->σ.nm i=some (some o,n)->σ.nm j=some (some o',n')->o.1 =o'.1 ->i=j
 fresh:∀id,F id->σ.nm id=none
 lit:∀b i v,σ.lit b i=some v->fP w b i=some v
 free:∀b i v,σ.lit b i=some v->¬Own σ G b
 base:eZ B.own B.w w
 owned:∀b,Own σ G b->B.own b\/B.w.heap.size<=b
 mj:∀b i v,σ.lit b i=some v->B.lit b i=some v\/B.own b\/B.w.heap.size<=b
 kE:∀k,k<B.an->∀x,B.nm k=some x->σ.nm k=some x
 nM:∀b i v,B.lit b i=some v->σ.lit b i=some v
theorem Mem.lt{B:Bs}{σ:Ren}{G:Nat->SO->Prop}{F:Nat->Prop}{w:jp}(M:Mem B σ G F w){id n:Nat}{so:SO}{o:Nat×Nat}(h:G id so)(k:σ.nm id=some (some o,n)):o.1 <w.heap.size:=by rcases(M.obj id so h).nm with q|⟨o',n',q,r⟩<;>rw[k] at q<;>cases q;exact r
theorem Mem.IE{B:Bs}{σ σ':Ren}{G G':Nat->SO->Prop}{F F':Nat->Prop}{w w':jp}(M:Mem B σ G F w)(E:∀id x,σ.nm id=some x->σ'.nm id=some x)(hl:σ'.lit=σ.lit)(fr:eZ (Own σ G) w w')
 (src:∀id so,G' id so->(G id so/\∀o n,σ.nm id=some (some o,n)->w'.heap[o.1]? =w.heap[o.1]?)\/DO σ' w' id so)
 (orig:∀id so o n,G' id so->σ'.nm id=some (some o,n)->Own σ G o.1 \/w.heap.size<=o.1)
 (inj:∀i j so so' o o' n n',G' i so->G' j so'->σ'.nm i=some (some o,n)->σ'.nm j=some (some o',n')->o.1 =o'.1 ->i=j) (fresh:∀id,F' id->σ'.nm id=none):Mem B σ' G' F' w':=by
 have E':Ext σ σ':=⟨E,by rw[hl];exactλ_ _ _ h=>h⟩;have ow:∀b,Own σ' G' b->Own σ G b\/w.heap.size<=b:=λb ⟨id,so,o,n,h1,h2,h3⟩=>h3▸orig id so o n h1 h2;refine⟨λid so h=>?_,inj,fresh,λb i v h=>?_,λb i v h q=>?_,M.base.trans fr M.owned,λb h=>?_,by rw[hl];exact M.mj,λk hk x hx=>E k x (M.kE k hk x hx),by rw[hl];exact M.nM⟩
 ·rcases src id so h with⟨a,b⟩|a
  ·exact(M.obj id so a).mono E' b
  ·exact a
 ·rw[hl] at h;rw[r8 (fr.block b (mP (M.lit b i v h)) (M.free b i v h))];exact M.lit b i v h
 ·rw[hl] at h;rcases ow b q with q|q
  ·exact M.free b i v h q
  ·have:=mP (M.lit b i v h);omega
 ·rcases ow b h with q|q
  ·exact M.owned b q
  ·exact .inr (fH M.base.size q)
def Ren.add(σ:Ren)(id:Nat)(x:Hx (Nat×Nat)×Nat):Ren:=⟨λj=>if j=id then some x else σ.nm j,σ.lit⟩
theorem Ren.jK(σ:Ren)(id:Nat)(x:Hx (Nat×Nat)×Nat):(σ.add id x).nm id=some x:=ay rfl
theorem Ren.u5{σ:Ren}{id j:Nat}{x:Hx (Nat×Nat)×Nat}(h:j≠id):(σ.add id x).nm j=σ.nm j:=aq h
theorem Ren.zT{σ:Ren}{id:Nat}{x:Hx (Nat×Nat)×Nat}(h:σ.nm id=none):Ext σ (σ.add id x):=⟨λj y hj=>by
 by_cases e:j=id
 ·subst e;rw[h] at hj;cases hj
 ·rw[Ren.u5 e];exact hj,λ_ _ _ h=>h⟩
abbrev hG(h:Tr SO):Nat->SO->Prop:=λid so=>h.get id=some so
abbrev jc(B:Bs)(σ:Ren)(h:Tr SO)(sx:Nat)(w:jp):Prop:=Mem B σ (hG h) (λid=>sx<=id) w
def lZ(F:Nat->Prop)(a b:Nat):Nat->Prop:=λid=>F id/\¬(a<=id/\id<b)
section
variable{B:Bs} {σ:Ren} {h:Tr SO} {F:Nat->Prop} {sx:Nat} {w w':jp} (M:Mem B σ (hG h) F w)
include M
theorem Mem.swap(hF:F sx){id:Nat}{x:Hx (Nat×Nat)×Nat}{so:SO}(fr:eZ (Own σ (hG h)) w w')(hx:∀o n,x=(some o,n)->w.heap.size<=o.1 \/∃s m p,h.get id=some s/\σ.nm id=some (some p,m)/\p.1 =o.1)
 (tL:∀j s o n,j≠id->h.get j=some s->σ.nm j=some (some o,n)->w'.heap[o.1]? =w.heap[o.1]?) (d:DO (σ.add sx x) w' sx so):
 Ext σ (σ.add sx x)/\Mem B (σ.add sx x) (hG ((h.del id).set sx so)) (lZ F sx (sx+1)) w':=by
 have hn:=M.fresh sx hF;have old:∀j s,((h.del id).set sx so).get j=some s->j=sx/\s=so\/j≠sx/\j≠id/\h.get j=some s:=by
  intro j s hj;rw[Tr.fN,Tr.rY] at hj
  grind
 refine⟨Ren.zT hn,M.IE (Ren.zT hn).nm rfl fr (λj s hj=>?_) (λj s o n hj ho=>?_) (λi j s s' o o' n n' a1 a2 b1 b2 e=>?_) λj hj=>?_⟩
 ·rcases old j s hj with⟨rfl,rfl⟩|⟨_,h2,h3⟩
  ·exact .inr d
  ·exact .inl ⟨h3,λo n q=>tL j s o n h2 h3 q⟩
 ·rcases old j s hj with⟨rfl,rfl⟩|⟨h1,h2,h3⟩
  ·rw[Ren.jK] at ho;rcases hx o n (by cases ho;rfl) with q|⟨s,m,p,q1,q2,q3⟩
   ·exact .inr q
   ·exact .inl ⟨id,s,p,m,q1,q2,q3⟩
  ·rw[Ren.u5 h1] at ho;exact .inl ⟨j,s,o,n,h3,ho,rfl⟩
 ·have one:∀j s o o' n n',j≠sx->j≠id->h.get j=some s->x=(some o,n)->σ.nm j=some (some o',n')->o.1 =o'.1 ->False:=by
   intro j s o o' n n' k1 k2 k3 k4 k5 k6;rcases hx o n k4 with q|⟨s',m,p,q1,q2,q3⟩
   ·have:=M.lt k3 k5;omega
   ·exact k2 (M.inj _ _ _ _ _ _ _ _ k3 q1 k5 q2 (by omega))
  rcases old i s a1 with⟨rfl,rfl⟩|⟨h1,h2,h3⟩<;>rcases old j s' a2 with⟨rfl,rfl⟩|⟨k1,k2,k3⟩
  ·rfl
  ·rw[Ren.jK] at b1;rw[Ren.u5 k1] at b2;exact(one j s' o o' n n' k1 k2 k3 (by cases b1;rfl) b2 e).elim
  ·rw[Ren.jK] at b2;rw[Ren.u5 h1] at b1;exact(one i s o' o n' n h1 h2 h3 (by cases b2;rfl) b1 e.symm).elim
  ·rw[Ren.u5 h1] at b1;rw[Ren.u5 k1] at b2;exact M.inj _ _ _ _ _ _ _ _ h3 k3 b1 b2 e
 ·rw[Ren.u5 (λe=>hj.2 (by omega))];exact M.fresh j hj.1
theorem Mem.new(hF:F sx){c n:Nat}{so:SO}(fr:eZ (λ_=>False) w w')(d:DO (σ.add sx (some (w.heap.size,c),n)) w' sx so):
 Ext σ (σ.add sx (some (w.heap.size,c),n))/\Mem B (σ.add sx (some (w.heap.size,c),n)) (hG (h.set sx so)) (lZ F sx (sx+1)) w':=by
 have hd:h.get sx=none:=by
  cases q:h.get sx with
  |none=>rfl
  |some s=>rcases(M.obj sx s q).nm with k|⟨_,_,k,_⟩<;>rw[M.fresh sx hF] at k<;>cases k
 have:=M.swap hF (id:=sx) (fr.wide λ_ q=>q.elim) (λo n e=>.inl (by cases e;exact aM _)) (λj s o n _ h1 h2=>fr.block _ (M.lt h1 h2) id) d;refine⟨this.1,?_⟩;have e:hG ((h.del sx).set sx so)=hG (h.set sx so):=by
  funext j s
  simp only[hG,Tr.fN,Tr.rY]
  grind
 have h2:=this.2;rwa[e] at h2
theorem Mem.put{id n:Nat}{o:Nat×Nat}{so so':SO}(ho:h.get id=some so)(hσ:σ.nm id=some (some o,n))(fr:eZ (λb=>b=o.1) w w')(d:DO σ w' id so'):Mem B σ (hG (h.set id so')) F w':=by
 have dom:∀j s,(h.set id so').get j=some s->∃s',h.get j=some s':=λj s hj=>by rw[Tr.fN] at hj;grind
 refine M.IE (λ_ _ h=>h) rfl (fr.wide λb e=>⟨id,so,o,n,ho,hσ,e.symm⟩) (λj s hj=>?_) (λj s p m hj hp=>?_) (λi j s s' p p' m m' a1 a2 b1 b2 e=>?_) M.fresh
 ·by_cases e:j=id
  ·subst e;simp only[hG,Tr.fN,dW] at hj;cases hj;exact .inr d
  ·simp only[hG,Tr.fN,aq e] at hj;exact .inl ⟨hj,λp m hp=>fr.block _ (M.lt hj hp) λq=>e (M.inj _ _ _ _ _ _ _ _ hj ho hp hσ q)⟩
 ·obtain⟨s',hs⟩:=dom j s hj;exact .inl ⟨j,s',p,m,hs,hp,rfl⟩
 ·obtain⟨_,f1⟩:=dom i s a1;obtain⟨_,f2⟩:=dom j s' a2;exact M.inj _ _ _ _ _ _ _ _ f1 f2 b1 b2 e
end
theorem Mem.less{B:Bs}{σ:Ren}{G G':Nat->SO->Prop}{F F':Nat->Prop}{w:jp}(M:Mem B σ G F w)(s:∀id so,G' id so->G id so)(f:∀id,F' id->F id):Mem B σ G' F' w:=
 have o:∀b,Own σ G' b->Own σ G b:=λ_ ⟨id,so,o,n,a,b,c⟩=>⟨id,so,o,n,s _ _ a,b,c⟩
 ⟨λid so h=>M.obj id so (s id so h),λi j so so' o o' n n' a b=>M.inj i j so so' o o' n n' (s _ _ a) (s _ _ b),λid h=>M.fresh id (f id h),M.lit,λb i v h q=>M.free b i v h (o b q),M.base,λb h=>M.owned b (o b h),M.mj,M.kE,M.nM⟩
theorem Mem.same{B:Bs}{σ:Ren}{G:Nat->SO->Prop}{F:Nat->Prop}{w w':jp}(M:Mem B σ G F w)(fr:eZ (λ_=>False) w w'):Mem B σ G F w':=
 M.IE (λ_ _ h=>h) rfl (fr.wide λ_ q=>q.elim) (λid so h=>.inl ⟨h,λo n q=>fr.block _ (M.lt h q) λq=>q⟩) (λid so o n h q=>.inl ⟨id,so,o,n,h,q,rfl⟩) M.inj M.fresh
end
section
theorem tj(b k i:Nat):(⟨b,k,none⟩:Addr).add i=⟨b,k+i,none⟩:=by unfold Addr.add;simp
theorem cell_of{w:jp}{b:Nat}{cs:Array H1}{e:TypeId}{fz:Nat×Nat}(h:w.heap[b]? =some (.cells cs e fz))(k:Nat):w.cell? ⟨b,k,none⟩=cs[k]? :=by simp[World.cell?,h]
theorem abd{w:jp}{b:Nat}{cs:Array H1}{e:TypeId}{fz:Nat×Nat}(h:w.heap[b]? =some (.cells cs e fz))(hz:uS fz cs.size)(k:Nat)(hk:k<cs.size):w.frozen? ⟨b,k,none⟩=false:=by
 simp[World.frozen?,h];rcases hz with rfl|hz
 ·simp
 grind
theorem WL(P:Program){w:jp}{b k:Nat}{cs:Array H1}{e:TypeId}{fz:Nat×Nat}(h:w.heap[b]? =some (.cells cs e fz)):
 ∀(n i:Nat)(acc:Array H1),k+i+n<=cs.size->∃vs,(loadCellsFrom ⟨b,k,none⟩ i n acc).run P w=.ok vs w/\vs.toList=acc.toList++(cs.toList.drop (k+i)).take n
 |0,i,acc,_=>⟨acc,by simp[loadCellsFrom],by simp⟩
 |n+1,i,acc,hle=>by
  have hlt:k+i<cs.size:=by omega
  obtain⟨vs,h1,h2⟩:=WL P (k:=k) h n (i+1) (acc.push cs[k+i]) (by omega);refine⟨vs,?_,?_⟩
  ·simp[loadCellsFrom,tj,(show w.cell? ⟨b,k+i,none⟩=some cs[k+i] from by rw[cell_of h,zH hlt])];exact h1
  ·rw[h2];rw[show k+(i+1)=k+i+1 from rfl,dk (show k+i<cs.toList.length from by simpa using hlt)];simp
theorem BE(P:Program){w:jp}{b k n:Nat}{cs:Array H1}{e:TypeId}{fz:Nat×Nat}(h:w.heap[b]? =some (.cells cs e fz))(hle:k+n<=cs.size):
 ∃vs,(loadCells ⟨b,k,none⟩ n).run P w=.ok vs w/\vs.toList=(cs.toList.drop k).take n:=by
 obtain⟨vs,h1,h2⟩:=WL P h n 0 #[] (by omega);exact⟨vs,h1,by simpa using h2⟩
theorem Xw{w:jp}{b k:Nat}{cs:Array H1}{e:TypeId}{fz:Nat×Nat}(h:w.heap[b]? =some (.cells cs e fz))(v:H1):
 (w.setCell ⟨b,k,none⟩ v).heap[b]? =some (.cells (cs.setIfInBounds k v) e fz):=by
 simp[World.setCell,Array.getElem?_modify,h]
theorem Xv{w:jp}{b k b':Nat}(v:H1)(hb:b'≠b):(w.setCell ⟨b,k,none⟩ v).heap[b']? =w.heap[b']? :=by simp[World.setCell,Array.getElem?_modify,Ne.symm hb]
theorem Xx(w:jp)(a:Addr)(v:H1):(w.setCell a v).heap.size=w.heap.size:=by simp
theorem BF(P:Program){b k:Nat}{e:TypeId}{fz:Nat×Nat}:
 ∀(vs:qr H1)(i:Nat)(w:jp)(cs:Array H1),w.heap[b]? =some (.cells cs e fz)->uS fz cs.size->k+i+vs.length<=cs.size->(∀v∈vs,v.oneCell'=true)->
  ∃w',(storeCells ⟨b,k,none⟩ vs i).run P w=.ok () w'/\w'.heap[b]? =some (.cells ⟨aW (k+i) vs cs.toList⟩ e fz)/\(∀b',b'≠b->w'.heap[b']? =w.heap[b']?)/\
   w'.heap.size=w.heap.size/\w'.os=w.os/\w'.tape=w.tape/\w'.output=w.output
 |[],i,w,cs,h,_,_,_=>⟨w,by simp[storeCells],by simpa[aW] using h,λ_ _=>rfl,rfl,rfl,rfl,rfl⟩
 |v::vs,i,w,cs,h,hz,hle,hv=>by
  simp at hle;have hlt:k+i<cs.size:=by omega
  obtain⟨w',h1,h2,h3,h4,h5,h6,h7⟩:=BF P (k:=k) vs (i+1) (w.setCell ⟨b,k+i,none⟩ v) _ (Xw h v) (by simpa using hz) (by simp;omega) (λx hx=>hv x (mE _ hx));refine⟨w',?_,?_,?_,by rw[h4,Xx],h5,h6,h7⟩
  ·simp[storeCells,tj,run_store P w _ v .plain (hv v nY),(show w.cell? ⟨b,k+i,none⟩=some cs[k+i] from by rw[cell_of h,zH hlt]),(abd h hz (k+i) hlt)];exact h1
  ·rw[h2];simp[aW,o5]
  ·intro b' hb';rw[h3 b' hb',Xv v hb']
structure jw where
 desc:TypeDesc
 size:Nat
 bytes:Nat
 zero:Option Value
 flat:Bool:=false
 direct:List (String×FuncId):=[]
abbrev TT:=Tr jw
def zL(P:Program)(n:Nat):TypeDesc->Prop
 | .struct fs=>fs.size=n/\∀(i:Nat)(f:Field),fs[i]? =some f->f.name≠ "_"/\f.offset=i/\(∃k,P.underlying f.type=some (.int k))/\∃inf,P.info? f.type=some inf/\inf.size=1
 | .array len e=>len=n/\(∃k,P.underlying e=some (.int k))/\∃inf,P.info? e=some inf/\inf.size=1
 |_=>False
structure fA(P:Program)(T:TT):Prop where
 under:∀t i,T.get t=some i->P.underlying t=some i.desc
 info:∀t i,T.get t=some i->∃inf,P.info? t=some inf/\inf.size=i.size/\inf.bytes=i.bytes/\∀z,i.zero=some z->inf.zero=some z
 flat:∀t i,T.get t=some i->i.flat=true->P.eqGuardType P.depth t=false/\P.stoodInHeld t=false/\zL P i.size i.desc
def ob{α β:Type}(x:Hx α)(f:α->Hx β):Hx β:=match x with|none=>none|some a=>f a
theorem ax{α β:Type}{x:Hx α}{f:α->Hx β}{b:β}(h:ob x f=some b):∃a,x=some a/\f a=some b:=by
 cases x with
 |none=>cases h
 |some a=>exact⟨a,rfl,h⟩
section
variable{P:Program} {T:TT} {t:TypeId} {i:jw} (w:jp)
theorem gQ(H:fA P T)(h:T.get t=some i):(underlying t).run P w=.ok i.desc w:=by simp[underlying,H.under t i h]
theorem Nc(H:fA P T)(h:T.get t=some i):∃inf,(typeInfo t).run P w=.ok inf w/\inf.size=i.size/\inf.bytes=i.bytes/\∀z,i.zero=some z->inf.zero=some z:=by obtain⟨inf,h1,h2⟩:=H.info t i h;exact⟨inf,by simp[typeInfo,h1],h2⟩
theorem run_sizeOf(H:fA P T)(h:T.get t=some i):(sizeOf t).run P w=.ok i.size w:=by obtain⟨inf,h1,h2,_⟩:=Nc w H h;simp[sizeOf,h1,h2]
theorem sC(H:fA P T)(h:T.get t=some i){z:H1}(hz:i.zero=some z):(zeroValue t).run P w=.ok z w:=by obtain⟨inf,h1,_,_,h4⟩:=Nc w H h;simp[zeroValue,h1,h4 z hz]
def pD:TypeDesc->Bool
 | .struct _| .array _ _=>true
 |_=>false
theorem M7(H:fA P T)(h:T.get t=some i):(isAgg t).run P w=.ok (pD i.desc) w:=by simp only[isAgg,dA,gQ w H h];cases i.desc<;>rfl
end
theorem aaV(cs:Array H1)(a b:Nat):(cs.extract a b).toList=(cs.toList.drop a).take (b -a):=by simp
def vC:IntKind->Int->Bool
 | .i64,.ofNat m=>Nat.blt m 9223372036854775808
 | .i64,.negSucc m=>Nat.blt m 9223372036854775808
 | .u8,.ofNat m=>Nat.blt m 256
 | .u64,.ofNat m=>Nat.blt m 18446744073709551616
 | .u32,.ofNat m=>Nat.blt m 4294967296
 |_,_=>false
theorem fb{a b:Nat}(h:Nat.blt a b=true):a<b:=ed h
theorem Zm{k:IntKind}{n:Int}(h:vC k n=true):k.wrap n=n:=by
 unfold vC at h;split at h
 ·have:=fb h;have e:((Int.ofNat ‹Nat›)%(2^64:Int))=Int.ofNat ‹Nat›:=Int.emod_eq_of_lt (Int.natCast_nonneg _) (by simp;omega);simp only[IntKind.wrap,IntKind.bits,e];simp;omega
 ·have:=fb h;simp only[IntKind.wrap,IntKind.bits,IntKind.signed];simp;omega
 ·have:=fb h;simp only[IntKind.wrap,IntKind.bits,IntKind.signed];simp;omega
 ·have:=fb h;simp only[IntKind.wrap,IntKind.bits,IntKind.signed];simp;omega
 ·have:=fb h;simp only[IntKind.wrap,IntKind.bits,IntKind.signed];simp;omega
 ·cases h
def ah(k:IntKind)(n:Int):Int:=cond (vC k n) n (k.wrap n)
theorem pc(k:IntKind)(n:Int):ah k n=k.wrap n:=by
 unfold ah;cases h:vC k n with
 |true=>simp[Zm h]
 |false=>rfl
def ak:Int->Int->Bool
 | .ofNat a,.ofNat b=>Nat.blt a b
 | .negSucc a,.negSucc b=>Nat.blt b a
 | .negSucc _,.ofNat _=>true
 | .ofNat _,.negSucc _=>false
theorem nK(a b:Int):ak a b=decide (a<b):=by
 have key:∀x y:Nat,Nat.blt x y=decide (x<y):=λx y=>by rw[iH];simp
 unfold ak;cases a<;>cases b<;>simp<;>grind
def aj:Int->Int->Bool
 | .ofNat a,.ofNat b=>Nat.beq a b
 | .negSucc a,.negSucc b=>Nat.beq b a
 |_,_=>false
theorem Lj(x y:Nat):Nat.beq x y=decide (x=y):=by rw[iH];simp
theorem vz(a b:Int):aj a b=(a==b):=by unfold aj;cases a<;>cases b<;>simp[Lj]<;>grind
theorem bd{α:Type}{a:Bool}{x:Hx α}{y:α}(h:cond a x none=some y):a=true/\x=some y:=by grind
theorem vh{α:Type}{a:Bool}{x:Hx α}{y:α}(h:cond a none x=some y):a=false/\x=some y:=by grind
def jz:qr H1->qr H1->Hx Bool
 |[],[]=>some true
 | .int j a::xs,.int k b::ys=>cond (decide (j=k)) (cond (aj a b) (jz xs ys) (some false)) none
 |_,_=>none
theorem RC{P:Program}{t:TypeId}{k:IntKind}(h:P.underlying t=some (.int k))(d:Nat)(j:IntKind)(a b:Int)(w:jp):
 (Op.equalIn (d+1) t (.int j a) (.int j b)).run P w=.ok (aj a b) w:=by
 simp[Op.equalIn,underlying,h,vz]
theorem Bj{P:Program}{t:TypeId}{k:IntKind}(h:P.underlying t=some (.int k)){cs:Array H1}{i:Nat}{v:H1}(hv:cs.toList[i]? =some v)(w:jp):
 (part t cs i).run P w=.ok v w:=by
 unfold part isAgg;have:cs[i]? =some v:=by simpa using hv
 simp[underlying,h,this]
theorem J7{x y:H1}{xs ys:qr H1}{r:Bool}(h:jz (x::xs) (y::ys)=some r):
 ∃k a b,x=.int k a/\y=.int k b/\((aj a b=true/\jz xs ys=some r)\/(aj a b=false/\r=false)):=by
 cases x<;>cases y<;>simp only[jz] at h<;>try cases h
 rename_i j a k c;by_cases e:j=k
 ·subst e;simp at h;cases e2:aj a c with
  |true=>simp[e2] at h;exact⟨j,a,c,rfl,rfl,.inl ⟨e2,h⟩⟩
  |false=>simp only[e2,aD,sX] at h;exact⟨j,a,c,rfl,rfl,.inr ⟨e2,h.symm⟩⟩
 ·simp_all
theorem Rv{P:Program}{d:Nat}{xs ys:Array H1}(w:jp):∀(fs:qr Field)(n:Nat){b:Bool},
 (∀(i:Nat)(f:Field),fs[i]? =some f->f.name≠ "_"/\f.offset=n+i/\(∃k,P.underlying f.type=some (.int k))/\∃inf,P.info? f.type=some inf/\inf.size=1)->
 n+fs.length=xs.toList.length->n+fs.length=ys.toList.length->jz (xs.toList.drop n) (ys.toList.drop n)=some b->
 (Op.eqFields (d+1) xs ys fs).run P w=.ok b w
 |[],n,b,_,hx,hy,he=>by rw[(uJ (by simp at hx⊢;omega)),(uJ (by simp at hy⊢;omega))] at he;simp[jz] at he;subst he;simp[Op.eqFields]
 |f::fs,n,b,hf,hx,hy,he=>by
  obtain⟨h1,h2,⟨k0,h3⟩,_⟩:=hf 0 f rfl;simp only[bW] at hx hy;have lx:n<xs.toList.length:=by omega
  have ly:n<ys.toList.length:=by omega
  rw[dk lx,dk ly] at he;obtain⟨k,a,c,ex,ey,hh⟩:=J7 he;have ho:f.offset=n:=by omega
  simp[Op.eqFields,ho,ne_eq,h1,dW,Bj h3 (by rw[cG lx,ex]),Bj h3 (by rw[cG ly,ey]),RC h3];rcases hh with⟨e,hr⟩|⟨e,hr⟩
  ·rw[e];exact Rv w fs (n+1) (λi g hg=>by obtain⟨a1,a2,a3,a4⟩:=hf (i+1) g (by simpa using hg);exact⟨a1,by omega,a3,a4⟩) (by omega) (by omega) hr
  ·rw[e,hr];simp
theorem Rw{P:Program}{d:Nat}{e:TypeId}{k0:IntKind}(h3:P.underlying e=some (.int k0)){xs ys:Array H1}(w:jp):∀(m n:Nat){b:Bool},
 n+m=xs.toList.length->n+m=ys.toList.length->jz (xs.toList.drop n) (ys.toList.drop n)=some b->
 (Op.eqItems (d+1) e 1 xs ys (List.range' n m)).run P w=.ok b w
 |0,n,b,hx,hy,he=>by rw[(uJ (by omega)),(uJ (by omega))] at he;simp[jz] at he;subst he;simp[Op.eqItems]
 |m+1,n,b,hx,hy,he=>by
  have lx:n<xs.toList.length:=by omega
  have ly:n<ys.toList.length:=by omega
  rw[dk lx,dk ly] at he;obtain⟨k,a,c,ex,ey,hh⟩:=J7 he;simp[List.range'_succ,Op.eqItems,Bj h3 (by rw[cG lx,ex]),Bj h3 (by rw[cG ly,ey]),RC h3];rcases hh with⟨e,hr⟩|⟨e,hr⟩
  ·rw[e];exact Rw h3 w m (n+1) (by omega) (by omega) hr
  ·rw[e,hr];simp
theorem RB{P:Program}{t:TypeId}{D:TypeDesc}{n:Nat}(hu:P.underlying t=some D)(hF:zL P n D)(hs:P.stoodInHeld t=false){xs ys:Array H1}{b:Bool}
 (hx:xs.toList.length=n) (hy:ys.toList.length=n) (he:jz xs.toList ys.toList=some b) (d:Nat) (w:jp):
 (Op.equalIn (d+2) t (.agg xs) (.agg ys)).run P w=.ok b w:=by
 cases D with
 |struct fs=>
  obtain⟨h1,h2⟩:=hF;have hfs:P.fieldsOf t=fs:=by simp[Program.fieldsOf,hu]
  rw[run_equalIn_struct w (d+1) t xs ys (by grind) hs,hfs];refine Rv w fs.toList 0 (λi f hf=>?_) (by grind) (by grind) (by simpa using he)
  grind
 |array len e=>obtain⟨h1,⟨k,h2⟩,inf,h3,h4⟩:=hF;rw[run_equalIn_array w (d+1) xs ys hu h3,(show P.cellsOf e=1 from by simp[Program.cellsOf,h3,h4]),List.range_eq_range'];exact Rw h2 w len 0 (by omega) (by omega) (by grind)
 |_=>exact hF.elim
def mI:qr UInt8->qr UInt8->Bool
 |[],[]=>true
 |a::x,b::y=>cond (Nat.beq a.toNat b.toNat) (mI x y) false
 |_,_=>false
theorem Dx:∀(x y:qr UInt8),mI x y=(x==y)
 |[],[]=>rfl
 |[],_::_=>rfl
 |_::_,[]=>rfl
 |a::x,b::y=>by
  simp only[mI,Dx x y,Lj];have:decide (a.toNat=b.toNat)=(a==b):=by rw[iH];simp[oe]
  grind
def vD:Operand->Bool
 | .const _=>true
 |_=>false
theorem Sc{P:Program}{op:BinOp}{t:TypeId}{x y:Operand}{a b:H1}{w:jp}(h1:¬(a=.nilIface/\b=.nilIface))(h2:¬(∃xs ys,a=.agg xs/\b=.agg ys)):(eqGuard op t x y a b).run P w=.ok () w:=by
 cases op<;>first
  |rfl
  |(simp[eqGuard]
    split
    ·grind
    ·grind
    ·rfl)
theorem Af{P:Program}{t:TypeId}{x y:H1}{r:Bool}{w:jp}(h1:¬∃k a k' b,x=.int k a/\y=.int k' b)(h2:¬∃a b,x=.string a/\y=.string b)(hf:¬∃k a k' b,x=.float k a/\y=.float k' b)
 (hc:¬∃k a b k' c d,x=.complex k a b/\y=.complex k' c d) (h:(Op.equal t x y).run P w=.ok r w):(binOp .eql t x y).run P w=.ok (.bool r) w/\(binOp .neq t x y).run P w=.ok (.bool (!r)) w:=by
 constructor
 ·unfold binOp;split<;>first
   |(exact absurd ⟨_,_,_,_,rfl,rfl⟩ h1)
   |(exact absurd ⟨_,_,_,_,rfl,rfl⟩ hf)
   |(exact absurd ⟨_,_,_,_,_,_,rfl,rfl⟩ hc)
   |(exact absurd ⟨_,_,rfl,rfl⟩ h2)
   |(simp;done)
   |(rename_i hh;cases hh)
   |simp_all
 ·unfold binOp;split<;>first
   |(exact absurd ⟨_,_,_,_,rfl,rfl⟩ h1)
   |(exact absurd ⟨_,_,_,_,rfl,rfl⟩ hf)
   |(exact absurd ⟨_,_,_,_,_,_,rfl,rfl⟩ hc)
   |(exact absurd ⟨_,_,rfl,rfl⟩ h2)
   |(simp;done)
   |(rename_i hh;cases hh)
   |simp_all
theorem Jg(a:Addr)(k:Nat):(a.add k).block=a.block:=by unfold Addr.add;split<;>rfl
theorem Ji(a:Addr)(k:Nat)(h:a.spot=none):(a.add k).spot=none:=by unfold Addr.add;split<;>simp_all
theorem Jh(a:Addr)(k:Nat):(a.add k).off=a.off+k:=by unfold Addr.add;split<;>simp_all
theorem Qo(b k n m l:Nat):(if m=l then(⟨b,k,none⟩:Addr) else(⟨b,k,none⟩:Addr).add n)=⟨b,cond (Nat.beq m l) k (k+n),none⟩:=by
 rw[Ah,tj]
 grind
theorem Lm(n:Nat):uS (0,0) n:=.inl rfl
theorem Mz(w:jp)(o:Obj)(b:Nat)(hb:b<w.heap.size):({w with heap:=w.heap.push o}:jp).heap[b]? =w.heap[b]? :=by grind
theorem My(w:jp)(o:Obj):({w with heap:=w.heap.push o}:jp).heap[w.heap.size]? =some o:=by simp
def rep:Nat->qr H1->qr H1
 |0,_=>[]
 |n+1,l=>l++rep n l
theorem Wq(l:qr H1):∀n,(rep n l).length=n*l.length
 |0=>by simp[rep]
 |n+1=>by simp[rep,Wq l n,lP];omega
theorem Wp(l:qr H1)(hl:0<l.length):∀(n i:Nat),i<n*l.length->(rep n l)[i]? =l[i%l.length]?
 |0,i,h=>by omega
 |n+1,i,h=>by
  unfold rep;rw[lP] at h;by_cases hlt:i<l.length
  ·rw[wT hlt,qH hlt]
  ·rw[uL (by omega),Wp l hl n (i -l.length) (by omega)]
   congr 1
   exact(Nat.mod_eq_sub_mod (by omega)).symm
theorem MM(zs:Array H1)(hz:0<zs.size)(n:Nat):((Array.range (n*zs.size)).map λi=>zs[i%zs.size]!).toList=rep n zs.toList:=by
 have hs:zs.toList.length=zs.size:=rfl;apply rH;intro i;by_cases hi:i<n*zs.size
 ·rw[Wp zs.toList (by omega) n i (by grind)];simp[hi,(Nat.mod_lt _ hz)]
 ·rw[kQ (by grind),kQ (by rw[Wq,hs];omega)]
theorem IN{m:Nat}(h:m<9223372036854775808):IntKind.i64.wrap (Int.ofNat m)=Int.ofNat m:=
 Zm (by unfold vC;unfold Nat.blt;exact C6 h)
theorem M8(P:Program){w:jp}{a:Addr}(hs:a.spot=none):∀(ys:qr H1)(i:Nat)(acc:Array H1),(∀k y,ys[k]? =some y->w.cell? ⟨a.block,a.off+i+k,none⟩=some y)->
 (loadCellsFrom a i ys.length acc).run P w=.ok ⟨acc.toList++ys⟩ w
 |[],i,acc,_=>by simp[loadCellsFrom]
 |y::ys,i,acc,h=>by
  have hc:w.cell? (a.add i)=some y:=by
   have:w.cell? (a.add i)=w.cell? ⟨a.block,a.off+i,none⟩:=by have e1:=Jg a i;have e2:=Jh a i;have e3:=Ji a i hs;generalize a.add i=q at e1 e2 e3;cases q;simp_all
   rw[this];exact(h 0 y (by simp))
  have ih:=M8 P hs ys (i+1) (acc.push y) (λk z hz=>by have:=h (k+1) z (by grind);rw[<-this];congr 2;omega);simp[loadCellsFrom,hc]
  grind
def pS:qr H1->Hx (qr Int)
 |[]=>some []
 | .int .u8 n::xs=>ob (pS xs) λr=>some (n::r)
 |_=>none
def mkStr(ns:qr Int):ByteArray:=⟨⟨ns.map λn=>UInt8.ofNat n.toNat⟩⟩
theorem TM:∀(ns:qr Int)(s:ByteArray),ns.foldl (λr n=>r.push (UInt8.ofNat n.toNat)) s=⟨⟨s.data.toList++ns.map λn=>UInt8.ofNat n.toNat⟩⟩
 |[],s=>by simp
 |n::ns,s=>by simp only[List.foldl_cons,TM ns];simp
def Ep:TypeDesc->Bool
 | .int .u8=>true
 |_=>false
theorem SX{d:TypeDesc}(h:Ep d=true):d=.int .u8:=by
 unfold Ep at h
 grind
theorem Ey(P:Program)(a:Addr)(w:jp):(loadCells a 0).run P w=.ok #[] w:=by simp[loadCells,loadCellsFrom]
def CU(b:Hx Addr)(l:qr H1):Sem Unit:=
 match b with
 |some a=>storeCells a l
 |none=>pure ()
def oF:TypeDesc->Bool
 | .int _=>true
 |_=>false
def pg(z:Bool)(size n:Nat)(e:TypeId)(x:H1):Sem (Array H1):=
 if !z then Builtin.firstCells size n x
 else if n*size=0 then pure #[]
 else do pure (Builtin.zeroCells (<-zeroValue e).cells n)
structure uP(P:Program)(w:World)(ts:Array TypeId)(xs:Array Value)(st xt e:TypeId)(dx:TypeDesc)(inf:TypeInfo)(b:Option Addr)(len c:Nat)(x:Value)(n:Nat):Prop where
 h0:ts[0]? =some st
 h1:ts[1]? =some xt
 x0:xs[0]? =some (.slice b len c)
 x1:xs[1]? =some x
 us:P.underlying st=some (.slice e)
 ux:P.underlying xt=some dx
 ie:P.info? e=some inf
 num:(oF dx=false/\(Builtin.lenOf x).run P w=.ok n w)\/(oF dx=true/\(∃k,x=.int k (Int.ofNat n))/\n<9223372036854775808/\n*inf.bytes<=281474976710656)
theorem xj{P:Program}{w:jp}{ts:Array TypeId}{rt:TypeId}{xs:Array H1}{st xt e:TypeId}{dx:TypeDesc}{inf:TypeInfo}{b:Hx Addr}{len c:Nat}{x:H1}{n:Nat}
 (A:uP P w ts xs st xt e dx inf b len c x n) (hle:len+n<=c) {vs:Array H1} (ha:(pg (oF dx) inf.size n e x).run P w=.ok vs w) {w':jp}
 (hs:(CU (b.map (·.add (len*inf.size))) vs.toList).run P w=.ok () w'):
 (Builtin.append_ ts rt xs).run P w=.ok (.slice b (len+n) c) w':=by
 obtain⟨h0,h1,x0,x1,us,ux,ie,num⟩:=A;unfold Builtin.append_;have q1:(underlying st).run P w=.ok (.slice e) w:=by simp[underlying,us]
 have q2:(underlying xt).run P w=.ok dx w:=by simp[underlying,ux]
 have q3:(typeInfo e).run P w=.ok inf w:=by simp[typeInfo,ie]
 have q4:(sizeOf e).run P w=.ok inf.size w:=by simp[sizeOf,q3]
 have fin:((match b with|some a=>(storeCells (a.add (len*inf.size)) vs.toList)|none=>pure ()):Sem Unit).run P w=.ok () w':=by cases b<;>exact hs
 rcases num with⟨hz,hn⟩|⟨hz,⟨k,rfl⟩,hlt,hby⟩
 ·simp only[pg,hz,gj,dW] at ha;cases dx<;>first
   |(cases hz;done)
   |(cases b with
    |none=>simp only[eX] at fin;cases fin;simp only[h0,h1,x0,x1,dA,q1,q4,q2,eW,eX,kO,gY,hn,ay hle,gj,dW,ha]
    |some a=>simp only[h0,h1,x0,x1,dA,q1,q4,q2,eW,eX,kO,gY,hn,ay hle,gj,dW,ha,fin])
 ·simp only[pg,hz,bH,kO,gY] at ha;have e1:=IN hlt;have c1:¬(Int.ofNat n<0):=by simp
  have c2:¬(Int.ofNat n*(inf.bytes:Int)>2^48):=by
   have:((n*inf.bytes:Nat):Int)<=281474976710656:=by omega
   simp only[oV,Int.natCast_mul] at this⊢;omega
  have e2:(Int.ofNat n).toNat=n:=rfl;cases dx<;>first
   |(cases hz;done)
   |(cases b with
    |none=>simp only[eX] at fin;cases fin;simp only[h0,h1,x0,x1,dA,q1,q4,q2,q3,eW,eX,dW,asInt,asIntOf,e1,aq c1,aq c2,e2,ay hle,bH,kO,gY,ha]
    |some a=>simp only[h0,h1,x0,x1,dA,q1,q4,q2,q3,eW,eX,dW,asInt,asIntOf,e1,aq c1,aq c2,e2,ay hle,bH,kO,gY,ha,fin])
def jy(w:jp):jp:={w with drawn:=w.drawn+1}
theorem Qx{P:Program}{w:jp}{ts:Array TypeId}{rt:TypeId}{xs:Array H1}{st xt e:TypeId}{dx:TypeDesc}{inf:TypeInfo}{b:Hx Addr}{len c:Nat}{x:H1}{n:Nat}
 (A:uP P w ts xs st xt e dx inf b len c x n) (hgt:c<len+n) (hneed:len+n<9223372036854775808) (hcap:Builtin.nextslicecap (len+n) c*inf.bytes<=281474976710656)
 {old vs:Array H1} {z:H1} (hold:(Builtin.firstCells inf.size len (.slice b len c)).run P (jy w)=.ok old (jy w)) (ha:(pg (oF dx) inf.size n e x).run P (jy w)=.ok vs (jy w)) (hz:inf.zero=some z):
 ∃cap,len+n<=cap/\(Builtin.append_ ts rt xs).run P w=.ok (.slice (some ⟨w.heap.size,0,none⟩) (len+n) cap) {jy w with heap:=w.heap.push (.cells (old++vs++Builtin.zeroCells z.cells (cap -(len+n))) e)}:=by
 obtain⟨h0,h1,x0,x1,us,ux,ie,num⟩:=A;refine⟨Question.cut (.appendCap (len+n) c e) (w.tape w.drawn (.appendCap (len+n) c e)),by simp[Question.cut],?_⟩;generalize hk:Question.cut (.appendCap (len+n) c e) (w.tape w.drawn (.appendCap (len+n) c e))=cap;unfold Builtin.append_;have q1:(underlying st).run P w=.ok (.slice e) w:=by simp[underlying,us]
 have q2:(underlying xt).run P w=.ok dx w:=by simp[underlying,ux]
 have q3:∀w,(typeInfo e).run P w=.ok inf w:=λw=>by simp[typeInfo,ie]
 have q4:(sizeOf e).run P w=.ok inf.size w:=by simp[sizeOf,q3]
 have q5:∀w,(zeroValue e).run P w=.ok z w:=λw=>by simp[zeroValue,q3,hz]
 have q6:(choose (.appendCap (len+n) c e)).run P w=.ok cap (jy w):=by rw[run_choose];simp[Question.forced,hk,jy]
 have g1:¬(len+n<=c):=by omega
 have g2:∀p:Prop,¬(((len+n:Nat):Int)>IntKind.i64.max/\p):=λp=>by have:IntKind.i64.max=9223372036854775807:=rfl;rw[this];omega
 have g3:¬(Builtin.nextslicecap (len+n) c*inf.bytes>2^48):=by omega
 have q7:∀cs,(newRow e cs).run P (jy w)=.ok ⟨w.heap.size,0,none⟩ {jy w with heap:=w.heap.push (.cells cs e)}:=λcs=>by unfold newRow;simp[jy];try rfl
 rcases num with⟨hzz,hn⟩|⟨hzz,⟨k,rfl⟩,hlt,hby⟩
 ·simp only[pg,hzz,gj,dW] at ha;cases dx<;>first
   |(cases hzz;done)
   |(simp only[h0,h1,x0,x1,dA,q1,q4,q2,q3,eW,eX,kO,gY,hn,aq g1,aq (g2 _),aq g3,q6,run_askRoom,hold,gj,dW,ha,q5,q7])
 ·simp only[pg,hzz,bH,kO,gY] at ha;have e1:=IN hlt;have c1:¬(Int.ofNat n<0):=by simp
  have c2:¬(Int.ofNat n*(inf.bytes:Int)>2^48):=by
   have:((n*inf.bytes:Nat):Int)<=281474976710656:=by omega
   simp only[oV,Int.natCast_mul] at this⊢;omega
  have e2:(Int.ofNat n).toNat=n:=rfl;cases dx<;>first
   |(cases hzz;done)
   |(simp only[h0,h1,x0,x1,dA,q1,q4,q2,q3,eW,eX,dW,asInt,asIntOf,e1,aq c1,aq c2,e2,aq g1,aq (g2 _),aq g3,q6,run_askRoom,hold,bH,kO,gY,ha,q5,q7])
end
section
variable{β:Type}
abbrev bJ{β:Type}(_:Nat):Hx β:=none
def au(k:IntKind)(x:H1)(K:Int->Hx β):Hx β:=match x with
 | .int k' n=>cond (decide (k'=k)) (K n) none
 |_=>none
def z8(x:H1)(K:Bool->Hx β):Hx β:=match x with
 | .bool b=>K b
 |_=>none
def Aa(x:H1)(K:ByteArray->Hx β):Hx β:=match x with
 | .string s=>K s
 |_=>none
def aF(n:Int)(K:Nat->Hx β):Hx β:=match n with
 | .ofNat m=>K m
 | .negSucc _=>none
inductive CK where
 |i (k:IntKind)|b|s|v
def xw:H1->CK
 | .int k _=>.i k
 | .bool _=>.b
 | .string _=>.s
 |_=>.v
def xk(c:CK)(x:H1)(K:SV->Hx β):Hx β:=match c with
 | .i k=>au k x λn=>K (.i k n)
 | .b=>z8 x λb=>K (.b b)
 | .s=>Aa x λb=>K (.s b)
 | .v=>K (.v x)
def af(cs:qr H1)(K:H1->qr H1->Hx β):Hx β:=match cs with
 |[]=>none
 |x::r=>K x r
def Av:qr CK->qr H1->(qr SV->Hx β)->Hx β
 |[],_,K=>K []
 |c::ks,cs,K=>af cs λx r=>xk c x λs=>Av ks r λl=>K (s::l)
theorem Qz{c:CK}{x:H1}{K:SV->Hx β}{b:β}(e:xk c x K=some b):∃sv,K sv=some b/\∀(σ:Ren) y,aN σ.lit x y->bh [x]=true->DV σ sv y:=by
 cases c with
 |i k=>
  simp only[xk,au] at e;split at e
  ·rename_i k' n;by_cases hk:k'=k
   ·subst hk;exact⟨_,by simpa using e,λσ y h _=>by cases h;exact .i _ _⟩
   ·simp[hk] at e
  ·cases e
 |b=>
  simp only[xk,z8] at e;split at e
  ·exact⟨_,e,λσ y h _=>by cases h;exact .b _⟩
  ·cases e
 |s=>
  simp only[xk,Aa] at e;split at e
  ·exact⟨_,e,λσ y h _=>by cases h;exact .s _⟩
  ·cases e
 |v=>exact⟨_,e,λσ y h h1=>.v h h1⟩
theorem zz{cs:qr H1}{K:H1->qr H1->Hx β}{b:β}(e:af cs K=some b):∃x r,cs=x::r/\K x r=some b:=by
 unfold af at e
 grind
theorem Kd:∀{ks:qr CK}{cs:qr H1}{K:qr SV->Hx β}{b:β},Av ks cs K=some b->
 ∃l,K l=some b/\l.length=ks.length/\∀(σ:Ren) ys,PW (aN σ.lit) cs ys->bh cs=true->ks.length<=ys.length/\fm σ l (ys.take ks.length)
 |[],cs,K,b,e=>⟨[],e,rfl,λσ ys _ _=>⟨by simp,by simpa using PW.nil⟩⟩
 |c::ks,cs,K,b,e=>by obtain⟨x,r,rfl,e'⟩:=zz e;obtain⟨sv,h1,h2⟩:=Qz e';obtain⟨l,g1,g2,g3⟩:=Kd h1;refine⟨sv::l,g1,by simp[g2],λσ ys r o=>?_⟩;obtain⟨y,ys,rfl,a,t⟩:=r.inv;rw[qX,bB] at o;obtain⟨k1,k2⟩:=g3 σ ys t o.2;exact⟨by simp;omega,.cons (h2 σ y a o.1) k2⟩
def kinds(z:H1):qr CK:=z.cells.toList.map xw
def Fx(c:CK)(x:SV)(K:SV->Hx β):Hx β:=match c,x with
 | .i k,.i k' n=>cond (decide (k'=k)) (K (.i k n)) none
 | .i _,_=>none
 | .b,.b b=>K (.b b)
 | .b,_=>none
 | .s,.s b=>K (.s b)
 | .s,_=>none
 | .v,x=>K x
theorem Wo{c:CK}{x:SV}{K:SV->Hx β}{b:β}(e:Fx c x K=some b):K x=some b:=by
 unfold Fx at e
 grind
def vF(i:jw)(z:H1)(c:qr H1)(K:SV->Hx β):Hx β:=
 cond (pD i.desc) (cond (Nat.beq (kinds z).length i.size&&Nat.blt 0 i.size) (Av (kinds z) c λl=>K (.agg l)) none) (af c λx _=>xk (xw z) x K)
def Ld(i:jw)(ys:qr H1)(off:Nat)(u:H1):Prop:=cond (pD i.desc) (off+i.size<=ys.length/\u=.agg ⟨(ys.drop off).take i.size⟩) (ys[off]? =some u)
theorem Ld.pre{i:jw}{ys:qr H1}{k off:Nat}{u:H1}(h:Ld i (ys.take k) off u):Ld i ys off u:=by
 unfold Ld at*;cases ha:pD i.desc with
 |true=>rw[ha] at h;obtain⟨h1,h2⟩:=h;rw[dE] at h1;refine⟨by omega,?_⟩;rw[h2,List.drop_take,List.take_take,kC (by omega)]
 |false=>
  rw[ha] at h;have h:(ys.take k)[off]? =some u:=h;rw[pX] at h;show ys[off]? =some u
  grind
theorem AM{i:jw}{c:qr H1}{off:Nat}{z:H1}{K:SV->Hx β}{b:β}(e:vF i z (c.drop off) K=some b):
 ∃sv,K sv=some b/\∀(σ:Ren) ys,PW (aN σ.lit) c ys->bh c=true->∃u,DV σ sv u/\Ld i ys off u:=by
 unfold vF at e;unfold Ld;cases ha:pD i.desc with
 |true=>rw[ha] at e;obtain⟨e1,e⟩:=bd e;rw[bB] at e1;have e2:=fb e1.2;have e1:=bX e1.1;obtain⟨l,g1,g2,g3⟩:=Kd e;refine⟨_,g1,λσ ys r o=>?_⟩;obtain⟨k1,k2⟩:=g3 σ _ (r.drop off) (qY o λ_=>qG);rw[er] at k1;exact⟨.agg ⟨(ys.drop off).take i.size⟩,.agg (by rw[e1] at k2;exact k2.1) (by rw[e1] at k2;exact k2.2),by omega,rfl⟩
 |false=>
  rw[ha] at e;obtain⟨x,r,h1,h2⟩:=zz e;obtain⟨sv,k1,k2⟩:=Qz h2;have hx:c[off]? =some x:=by
   have:=bY (λl:qr H1=>l[0]?) h1
   grind
  refine⟨sv,k1,λσ ys r o=>?_⟩;obtain⟨y,y1,y2⟩:=r.get hx;exact⟨y,k2 σ y y2 (iW.1 o x (nZ hx)),y1⟩
def YW:SV->Hx H1
 | .i k n=>some (.int k n)
 | .b x=>some (.bool x)
 | .s x=>some (.string x)
 |_=>none
def PL:qr SV->Hx (qr H1)
 |[]=>some []
 |x::xs=>ob (YW x) λu=>ob (PL xs) λus=>some (u::us)
def No(T:TT)(st:St)(t:TypeId)(p:SV)(K:SV->Hx β):Hx β:=
 ob (T.get t) λi=>ob i.zero λz=>match p with
  | .ptr id off=>ob (st.h.get id) λso=>match so with
   | .cells c _=>match PL c with
    |some us=>vF i z (us.drop off) K
    |none=>cond (pD i.desc) (cond (Nat.ble (off+i.size) c.length) (K (.agg ((c.drop off).take i.size))) none) (ob (c[off]?) λx=>Fx (xw z) x K)
   | .arr c _=>vF i z (c.drop off) K
   | .grow _ c _=>vF i z (c.drop off) K
   | .mp _=>none
  | .lp cs=>vF i z cs K
  |_=>bJ 1
theorem YX{σ:Ren}:∀{xs:qr SV}{vs us:qr H1},fm σ xs vs->PL xs=some us->PW (aN σ.lit) us vs/\bh us=true
 |[],vs,us,d,e=>by cases e;rw[d.ee];exact⟨.nil,rfl⟩
 |x::xs,vs,us,d,e=>by
  obtain⟨u,h1,e⟩:=ax e;obtain⟨ws,h2,e⟩:=ax e;cases e;obtain⟨y,ys,rfl,a,t⟩:=d.inv;obtain⟨g1,g2⟩:=YX t h2;cases x<;>simp only[YW] at h1<;>cases h1<;>cases a
  ·exact⟨.cons (.int _ _) g1,g2⟩
  ·exact⟨.cons (.bool _) g1,g2⟩
  ·exact⟨.cons (.str _) g1,g2⟩
theorem aN.cell{m:Nat->Nat->Hx H1}{w:jp}{x y:H1}{b i:Nat}(h:aN m x y)(k:fP w b i=some y):w.cell? ⟨b,i,none⟩=some y:=by
 unfold fP at k;split at k
 ·cases k;cases h
 ·exact k
section
variable{P:Program} {T:TT} (HT:fA P T) {t:TypeId} {i:jw} (hi:T.get t=some i) {w:jp}
include HT hi
theorem BD{b off:Nat}{cs:Array H1}{el:TypeId}(c:Cl w b cs el){u:H1}(h:Ld i cs.toList off u):(Instr.loadAt t (.pointer (some ⟨b,off,none⟩))).run P w=.ok u w:=by
 obtain⟨fz,h1,h2⟩:=c;unfold Ld at h;simp only[Instr.loadAt,loadVar,dA,Instr.sureAddr,eX,M7 w HT hi,eW];cases ha:pD i.desc with
 |true=>
  rw[ha] at h;obtain⟨k1,rfl⟩:=h;obtain⟨vs,a1,a2⟩:=BE P (k:=off) (n:=i.size) h1 (by simpa using k1);have:vs=⟨(cs.toList.drop off).take i.size⟩:=by rw[<-a2]
  simp[run_sizeOf w HT hi,a1,this]
 |false=>rw[ha] at h;have h:cs.toList[off]? =some u:=h;simp[cell_of h1,(show cs[off]? =some u from by simpa using h)]
theorem aib{a:Addr}{ys:qr H1}(hs:a.spot=none)(hm:∀(k:Nat) y,ys[k]? =some y->w.cell? ⟨a.block,a.off+k,none⟩=some y){u:H1}(h:Ld i ys 0 u):(Instr.loadAt t (.pointer (some a))).run P w=.ok u w:=by
 unfold Ld at h;simp only[Instr.loadAt,loadVar,dA,Instr.sureAddr,eX,M7 w HT hi,eW];cases ha:pD i.desc with
 |true=>rw[ha] at h;obtain⟨k1,rfl⟩:=h;have:=M8 P hs (ys.take i.size) 0 #[] λk y hy=>(hm k y (by grind));rw[(show(ys.take i.size).length=i.size from by rw[dE];omega)] at this;have h2:(loadCells a i.size).run P w=.ok ⟨ys.take i.size⟩ w:=this;simp[run_sizeOf w HT hi,h2]
 |false=>rw[ha] at h;have:=hm 0 u h;cases a;simp_all
end
theorem WU{P:Program}{T:TT}(HT:fA P T){st:St}{t:TypeId}{p:SV}{K:SV->Hx β}{b:β}(e:No T st t p K=some b):
 ∃sv,K sv=some b/\∀{B:Bs}{σ:Ren}{F:Nat->Prop}{w:jp},Mem B σ (hG st.h) F w->∀v,DV σ p v->∃u,(Instr.loadAt t v).run P w=.ok u w/\DV σ sv u:=by
 replace e:=ax e;obtain⟨i,hi,e⟩:=e;replace e:=ax e;obtain⟨z,hz,e⟩:=e;split at e
 ·rename_i id off;obtain⟨so,hso,e⟩:=ax e;split at e
  ·rename_i c _;split at e
   ·rename_i us hus;obtain⟨sv,h1,h2⟩:=AM e;refine⟨sv,h1,λM v dv=>?_⟩;obtain⟨o,n,cs,g1,g2,g3⟩:=M.obj id _ hso;obtain⟨k1,k2⟩:=YX g3 hus;obtain⟨u,u1,u2⟩:=h2 _ _ k1 k2;cases dv with
    |ptr g=>rw[g1] at g;cases g;exact⟨u,BD HT hi g2 u2,u1⟩
   ·cases ha:pD i.desc with
    |true=>
     rw[ha] at e;obtain⟨e1,e⟩:=bd e;have e1:=ed e1;refine⟨_,e,λM v dv=>?_⟩;obtain⟨o,n,cs,g1,g2,g3⟩:=M.obj id _ hso;cases dv with
     |ptr g=>rw[g1] at g;cases g;have k:=(g3.drop off).take i.size;exact⟨.agg ⟨(cs.toList.drop off).take i.size⟩,BD HT hi g2 (by unfold Ld;rw[ha];exact⟨by have:=g3.1;omega,rfl⟩),.agg k.1 k.2⟩
    |false=>
     rw[ha] at e;obtain⟨x,hx,e⟩:=ax e;refine⟨x,Wo e,λM v dv=>?_⟩;obtain⟨o,n,cs,g1,g2,g3⟩:=M.obj id _ hso;cases dv with
     |ptr g=>rw[g1] at g;cases g;obtain⟨u,u1,u2⟩:=g3.get hx;exact⟨u,BD HT hi g2 (by unfold Ld;rw[ha];exact u1),u2⟩
  ·obtain⟨sv,h1,h2⟩:=AM e;refine⟨sv,h1,λM v dv=>?_⟩;obtain⟨o,n,cs,g1,g2,g3,g4⟩:=M.obj id _ hso;obtain⟨u,u1,u2⟩:=h2 _ _ g4 g3;cases dv with
   |ptr g=>rw[g1] at g;cases g;exact⟨u,BD HT hi g2 u2,u1⟩
  ·obtain⟨sv,h1,h2⟩:=AM e;refine⟨sv,h1,λM v dv=>?_⟩;obtain⟨_,g0,g⟩:=M.obj id _ hso;cases dv with
   |ptr k=>rcases g with⟨g1,_⟩|⟨o,n,cs,g1,g2,_,_,_,g3⟩<;>rw[g1] at k<;>cases k;obtain⟨u,u1,u2⟩:=h2 _ _ g3 g0;exact⟨u,BD HT hi g2 u2.pre,u1⟩
  ·cases e
 ·rename_i cs;obtain⟨sv,h1,h2⟩:=AM (off:=0) e;refine⟨sv,h1,λM v dv=>?_⟩;cases dv with
  |lp g=>
   cases g with
   |vP hl hr hm hs o=>
    obtain⟨u,u1,u2⟩:=h2 _ _ ⟨hl,hr⟩ o;refine⟨u,aib HT hi hs (λk y hy=>?_) u2,u1⟩;obtain⟨x,hx⟩:∃x,cs[k]? =some x:=by have:=(oW.1 hy).1;exact⟨cs[k]'(by rw[hl];omega),by simp⟩
    exact(hr k x y hx hy).cell (M.lit _ _ _ (hm k y hy))
 ·cases e
end
section
variable{β:Type}
def SV.cells:SV->qr SV
 | .agg l=>l
 |x=>[x]
theorem DV.cells{σ:Ren}{x:SV}{v:H1}(h:DV σ x v):fm σ x.cells v.cells.toList:=by
 have h0:=h;cases h with
 |v a b=>have:=a.one;rw[b] at this;cases v<;>first|exact .cons h0 .nil|cases this
 |agg hl h=>exact⟨hl,h⟩
 |lp a=>cases a;exact .cons h0 .nil
 |em a=>cases‹Bool›<;>cases a<;>exact .cons h0 .nil
 |_=>exact .cons h0 .nil
def ID:H1->Hx SV
 | .bool b=>some (.b b)
 | .int k n=>some (.i k n)
 | .string s=>some (.s s)
 | .pointer none=>some (.v (.pointer none))
 | .slice none 0 0=>some .nl
 | .map none=>some (.v (.map none))
 | .nilFunc=>some (.v .nilFunc)
 | .nilIface=>some .ni
 |_=>none
def wL:qr H1->Hx (qr SV)
 |[]=>some []
 |x::xs=>ob (ID x) λy=>ob (wL xs) λys=>some (y::ys)
def wK:H1->Hx SV
 | .agg cs=>ob (wL cs.toList) λl=>some (.agg l)
 | .tuple cs=>ob (wL cs.toList) λl=>some (.aG l)
 |v=>ID v
theorem YO{σ:Ren}{v:H1}{x:SV}(e:ID v=some x):DV σ x v/\aN σ.lit v v/\bh [v]=true:=by
 unfold ID at e;split at e<;>cases e
 ·exact⟨.b _,.bool _,rfl⟩
 ·exact⟨.i _ _,.int _ _,rfl⟩
 ·exact⟨.s _,.str _,rfl⟩
 ·exact⟨.v .sw rfl,.sw,rfl⟩
 ·exact⟨.nl,.Pw,rfl⟩
 ·exact⟨.v .EB rfl,.EB,rfl⟩
 ·exact⟨.v .nilFunc rfl,.nilFunc,rfl⟩
 ·exact⟨.ni,.nilIface,rfl⟩
theorem zp{σ:Ren}:∀{vs:qr H1}{xs:qr SV},wL vs=some xs->fm σ xs vs/\PW (aN σ.lit) vs vs/\bh vs=true
 |[],_,e=>by cases e;exact⟨.nil,.nil,rfl⟩
 |v::vs,_,e=>by obtain⟨y,h1,e⟩:=ax e;obtain⟨ys,h2,e⟩:=ax e;cases e;obtain⟨a1,a2,a3⟩:=YO (σ:=σ) h1;obtain⟨b1,b2,b3⟩:=zp (σ:=σ) h2;exact⟨.cons a1 b1,.cons a2 b2,by rw[qX,a3,b3];rfl⟩
theorem zo{σ:Ren}{v:H1}{x:SV}(e:wK v=some x):DV σ x v:=by
 unfold wK at e;split at e
 ·obtain⟨l,h1,e⟩:=ax e;cases e;have:=(zp (σ:=σ) h1).1;exact .agg this.1 this.2
 ·obtain⟨l,h1,e⟩:=ax e;cases e;have:=(zp (σ:=σ) h1).1;exact .aG this.1 this.2
 ·exact(YO e).1
def dK(tm:Tr SV):Operand->Hx SV
 | .tmp t=>tm.get t
 | .const v=>wK v
 | .global _=>none
 | .func f=>cond (Nat.blt f 65536) (some (.fn f [])) none
def PM:SV->Hx H1
 | .i k n=>some (.int k n)
 | .b x=>some (.bool x)
 | .s x=>some (.string x)
 | .v x=>some x
 | .nl=>some (ae 0 [])
 | .ni=>some .nilIface
 |_=>none
def uF:qr SV->Hx (qr H1)
 |[]=>some []
 |x::xs=>ob (PM x) λu=>ob (uF xs) λus=>some (u::us)
theorem al3{σ:Ren}{x:SV}{v u:H1}(d:DV σ x v)(e:PM x=some u):aN σ.lit u v/\bh [u]=true:=by
 cases d<;>simp only[PM] at e<;>cases e
 ·exact⟨.int _ _,rfl⟩
 ·exact⟨.bool _,rfl⟩
 ·exact⟨.str _,rfl⟩
 ·exact⟨‹_›,‹_›⟩
 ·exact⟨.gy,rfl⟩
 ·exact⟨.nilIface,rfl⟩
theorem wM{σ:Ren}:∀{xs:qr SV}{vs us:qr H1},fm σ xs vs->uF xs=some us->PW (aN σ.lit) us vs/\bh us=true
 |[],vs,us,d,e=>by cases e;rw[d.ee];exact⟨.nil,rfl⟩
 |x::xs,vs,us,d,e=>by obtain⟨u,h1,e⟩:=ax e;obtain⟨ws,h2,e⟩:=ax e;cases e;obtain⟨y,ys,rfl,a,t⟩:=d.inv;obtain⟨g1,g2⟩:=wM t h2;obtain⟨k1,k2⟩:=al3 a h1;exact⟨.cons k1 g1,by rw[qX,k2,g2];rfl⟩
def flat:qr SV->Bool
 |[]=>true
 | .agg _::_=>false
 | .aG _::_=>false
 |_::l=>flat l
theorem RR{σ:Ren}:∀{l:qr SV}{vs:qr H1},fm σ l vs->flat l=true->bh vs=true
 |[],vs,d,_=>by rw[d.ee];rfl
 |x::l,vs,d,h=>by
  obtain⟨y,ys,rfl,a,t⟩:=d.inv;rw[qX];have hx:flat l=true:=by cases x<;>first|exact h|cases h
  rw[RR t hx,ky];cases a with
  |v a b=>rw[a.one];exact b
  |lp a=>cases a;rfl
  |em a=>cases‹Bool›<;>cases a<;>rfl
  |agg=>cases h
  |aG=>cases h
  |_=>rfl
theorem one_cell{v:H1}(h:bh [v]=true):v.oneCell'=true:=by cases v<;>first|rfl|cases h
theorem VL{α:Type}:∀(vs:qr α)(n k:Nat)(l:qr α),(aW n vs l).take k=aW n vs (l.take k)
 |[],_,_,_=>rfl
 |v::vs,n,k,l=>by simp only[aW];rw[VL vs,List.take_set]
theorem agC{v:H1}{n:Nat}{c:qr H1}(h:bh [v]=true)(k:bh c=true):bh (c.set n v)=true:=iW.2 λx hx=>by
 rcases List.mem_or_eq_of_mem_set hx with q|rfl
 ·exact iW.1 k x q
 ·exact h
theorem A9:∀{us:qr H1}(n:Nat){c:qr H1},bh us=true->bh c=true->bh (aW n us c)=true
 |[],_,_,_,h=>h
 |u::us,n,c,p,h=>by rw[qX,bB] at p;exact A9 (n+1) p.2 (agC p.1 h)
section
variable{P:Program} {T:TT} (HT:fA P T) {t:TypeId} {i:jw} (hi:T.get t=some i) {w:jp}
theorem Iz(P:Program){w:jp}{b off:Nat}{cs:Array H1}{el:TypeId}(c:Cl w b cs el){vs:qr H1}(o:bh vs=true)(hle:off+vs.length<=cs.toList.length):
 ∃w',(storeCells ⟨b,off,none⟩ vs).run P w=.ok () w'/\Cl w' b ⟨aW off vs cs.toList⟩ el/\eZ (λk=>k=b) w w':=by
 obtain⟨fz,h1,h2⟩:=c;obtain⟨w',a1,a2,a3,a4,a5,a6,a7⟩:=BF P (k:=off) vs 0 w cs h1 h2 (by simpa using hle) λv hv=>one_cell (iW.1 o v hv);exact⟨w',a1,⟨fz,a2,by show uS fz (aW off vs cs.toList).length;rw[nS];exact h2⟩,a5,a6,a7,sW a4.symm,λk _ hk=>a3 k hk⟩
include HT hi
theorem Nb{b off:Nat}{cs:Array H1}{el:TypeId}(c:Cl w b cs el){y:H1}(o:bh y.cells.toList=true)(hs:y.cells.toList.length=i.size)(hle:off+i.size<=cs.toList.length):
 ∃w',(Instr.storeAt t (.pointer (some ⟨b,off,none⟩)) y).run P w=.ok () w'/\Cl w' b ⟨aW off y.cells.toList cs.toList⟩ el/\eZ (λk=>k=b) w w':=by
 obtain⟨w',a,b⟩:=Iz P c o (off:=off) (by omega);refine⟨w',?_,b⟩;have s:¬y.cells.size≠i.size:=by have:y.cells.toList.length=y.cells.size:=rfl;omega
 unfold Instr.storeAt storeVar;simp only[dA,Instr.sureAddr,eX,eW,run_sizeOf w HT hi,aq s];exact a
end
def W8(T:TT)(st:St)(t:TypeId)(p y:SV)(K:St->Hx β):Hx β:=
 ob (T.get t) λi=>match p with
  | .ptr id off=>ob (st.h.get id) λso=>match so with
   | .cells c t'=>cond (Nat.beq y.cells.length i.size&&Nat.ble (off+i.size) c.length&&flat y.cells) (K {st with h:=st.h.set id (.cells (aW off y.cells c) t')}) none
   | .arr c t'=>ob (uF y.cells) λus=>cond (Nat.beq y.cells.length i.size&&Nat.ble (off+i.size) c.length) (K {st with h:=st.h.set id (.arr (aW off us c) t')}) none
   | .grow E c t'=>ob (uF y.cells) λus=>cond (Nat.beq y.cells.length i.size&&Nat.ble (off+i.size) c.length) (K {st with h:=st.h.set id (.grow E (aW off us c) t')}) none
   | .mp _=>none
  |_=>bJ 3
theorem aiy{P:Program}{T:TT}(HT:fA P T){st:St}{t:TypeId}{p y:SV}{K:St->Hx β}{b:β}(e:W8 T st t p y K=some b):
 ∃h',K {st with h:=h'}=some b/\∀{B:Bs}{σ:Ren}{F:Nat->Prop}{w:jp},Mem B σ (hG st.h) F w->∀v u,DV σ p v->DV σ y u->∃w',(Instr.storeAt t v u).run P w=.ok () w'/\Mem B σ (hG h') F w':=by
 replace e:=ax e;obtain⟨i,hi,e⟩:=e;split at e
 ·rename_i id off;obtain⟨so,hso,e⟩:=ax e;split at e
  ·rename_i c t';obtain⟨e1,e⟩:=bd e;refine⟨_,e,λM v u dp dy=>?_⟩;obtain⟨o,n,cs,g1,g2,g3⟩:=M.obj id _ hso;simp only[bB] at e1;have q1:=bX e1.1.1;have q2:=ed e1.1.2;cases dp with
   |ptr g=>rw[g1] at g;cases g;have hy:=dy.cells;obtain⟨w',a1,a2,a3⟩:=Nb HT hi g2 (RR hy e1.2) (by have:=hy.1;omega) (off:=off) (by have:=g3.1;omega);exact⟨w',a1,M.put hso g1 a3 ⟨_,_,_,g1,a2,hy.aW off g3⟩⟩
  ·obtain⟨us,hx,e⟩:=ax e;obtain⟨e1,e⟩:=bd e;rw[bB] at e1;refine⟨_,e,λM v u dp dy=>?_⟩;obtain⟨o,n,cs,g1,g2,g3,g4⟩:=M.obj id _ hso;obtain⟨k1,k3⟩:=wM dy.cells hx;have q1:=bX e1.1;have q2:=ed e1.2;cases dp with
   |ptr g=>rw[g1] at g;cases g;obtain⟨w',a1,a2,a3⟩:=Nb HT hi g2 (Ba k1 k3) (by have:=dy.cells.1;omega) (off:=off) (by have:=g4.1;omega);exact⟨w',a1,M.put hso g1 a3 ⟨_,_,_,g1,a2,A9 off k3 g3,k1.aW off g4⟩⟩
  ·obtain⟨us,hx,e⟩:=ax e;obtain⟨e1,e⟩:=bd e;rw[bB] at e1;refine⟨_,e,λM v u dp dy=>?_⟩;obtain⟨f1,f2,f3⟩:=M.obj id _ hso;obtain⟨k1,k3⟩:=wM dy.cells hx;have q1:=bX e1.1;have q2:=ed e1.2;cases dp with
   |ptr g=>rcases f3 with⟨g1,_⟩|⟨o,n,cs,g1,g2,g5,g6,g7,g4⟩<;>rw[g1] at g<;>cases g;obtain⟨w',a1,a2,a3⟩:=Nb HT hi g2 (Ba k1 k3) (by have:=dy.cells.1;omega) (off:=off) (by have:cs.toList.length=cs.size:=rfl;omega);have s:∀l:qr H1,(⟨aW off l cs.toList⟩:Array H1).size=cs.size:=λl=>nS _ _ _;exact⟨w',a1,M.put hso g1 a3 ⟨f1,A9 off k3 f2,.inr ⟨_,_,_,g1,a2,by rw[s];exact g5,by rw[nS];exact g6,by rw[nS,s];exact g7,by rw[nS];show PW _ _ ((aW off u.cells.toList cs.toList).take _);rw[VL];exact k1.aW off g4⟩⟩⟩
  ·cases e
 ·cases e
end
section
variable{β:Type}
theorem DV.Mw{σ:Ren}{id off:Nat}{v:H1}(d:DV σ (.ptr id off) v):∃a,v=.pointer (some a)/\∀k,DV σ (.ptr id (off+k)) (.pointer (some (a.add k))):=by
 cases d with
 |ptr h=>exact⟨_,rfl,λk=>by rw[tj];exact .ptr h⟩
theorem Tv{σ:Ren}{cs ys:qr H1}{a:Addr}(o:bh cs=true)(h:PW (aN σ.lit) cs ys)(hm:∀(i:Nat) y,ys[i]? =some y->σ.lit a.block (a.off+i)=some y)(hs:a.spot=none)(k:Nat):DV σ (.lp (cs.drop k)) (.pointer (some (a.add k))):=
 .lp (.vP (ys:=ys.drop k) (h.drop k).1 (h.drop k).2 (λi y hy=>by rw[Jg,Jh,o5];exact hm _ y (by rw[<-hy,sV])) (Ji a k hs) (qY o λ_=>qG))
theorem DV.K7{σ:Ren}{cs:qr H1}{v:H1}(d:DV σ (.lp cs) v):∃a,v=.pointer (some a)/\∀k,DV σ (.lp (cs.drop k)) (.pointer (some (a.add k))):=by
 cases d with
 |lp h=>
  cases h with
  |vP hl h hm hs o=>exact⟨_,rfl,Tv o ⟨hl,h⟩ hm hs⟩
section
variable{P:Program} {T:TT} (HT:fA P T) {w:jp}
include HT
theorem M9{t:TypeId}{i:jw}(hi:T.get t=some i){cs:Array H1}{off:Nat}{u:H1}(h:Ld i cs.toList off u):(part t cs off).run P w=.ok u w:=by
 unfold Ld at h;simp only[part,dA,M7 w HT hi,eW];cases ha:pD i.desc with
 |true=>rw[ha] at h;obtain⟨_,rfl⟩:=h;simp[run_sizeOf w HT hi];apply Array.ext';rw[aaV,IT]
 |false=>rw[ha] at h;have h:cs.toList[off]? =some u:=h;simp[(show cs[off]? =some u from by simpa using h)]
theorem WJ{s:TypeId}{i j:jw}(hi:T.get s=some i){fs:Array Field}(hd:i.desc=.struct fs){f:Nat}{fl:Field}(hf:fs[f]? =some fl)(hj:T.get fl.type=some j)(hz:Nat.beq j.size 0=false)(a:Addr):
 (Instr.fieldAt s (.pointer (some a)) f).run P w=.ok (.pointer (some (a.add fl.offset))) w:=by
 simp[Instr.fieldAt,dA,gQ w HT hi,hd,hf,Instr.sureAddr,eX,fieldPlace,run_sizeOf w HT hj,(by rw[Lj] at hz;simpa using hz),gY]
theorem Jt{m n:Nat}(hb:Nat.blt m n=true):(0:Int)<=Int.ofNat m/\Int.ofNat m<(n:Int):=by have:=fb hb;simp;omega
theorem WK{t e:TypeId}{i j:jw}(hi:T.get t=some i){len:Nat}(hd:i.desc=.array len e)(hj:T.get e=some j){m:Nat}(hb:Nat.blt m len=true)(k:IntKind)(a:Addr):
 (Instr.indexAt t (.pointer (some a)) (.int k (Int.ofNat m))).run P w=.ok (.pointer (some (a.add (m*j.size)))) w:=by
 unfold Instr.indexAt;simp only[dA,asIntOf,eX,eW,gQ w HT hi,hd,Instr.sureAddr,ay (Jt HT hb),run_sizeOf w HT hj];simp
theorem M6{t e:TypeId}{i j:jw}(hi:T.get t=some i)(hd:i.desc=.slice e)(hj:T.get e=some j){m n c:Nat}(hb:Nat.blt m n=true)(k:IntKind)(a:Addr):
 (Instr.indexAt t (.slice (some a) n c) (.int k (Int.ofNat m))).run P w=.ok (.pointer (some (a.add (m*j.size)))) w:=by
 unfold Instr.indexAt;simp only[dA,asIntOf,eX,eW,gQ w HT hi,hd,ay (Jt HT hb),run_sizeOf w HT hj];simp
end
def Nr(T:TT)(t:TypeId)(l:qr SV)(off:Nat)(K:SV->Hx β):Hx β:=
 ob (T.get t) λi=>cond (pD i.desc) (cond (Nat.ble (off+i.size) l.length) (K (.agg ((l.drop off).take i.size))) none) (ob i.zero λz=>ob (l[off]?) λx=>Fx (xw z) x K)
def WR(T:TT)(s:TypeId)(x:SV)(f:Nat)(K:SV->Hx β):Hx β:=
 ob (T.get s) λi=>match i.desc with
  | .struct fs=>ob (fs[f]?) λfl=>ob (T.get fl.type) λj=>cond (Nat.beq j.size 0) none (match x with
   | .ptr id off=>K (.ptr id (off+fl.offset))
   | .lp cs=>K (.lp (cs.drop fl.offset))
   |_=>none)
  |_=>bJ 5
def aJ(sz m:Nat)(x:H1)(K:qr H1->Hx β):Hx β:=match x with
 | .func (.via n _ _ true) cs _=>cond (Nat.blt m n) (K (cs.toList.drop (m*sz))) none
 |_=>none
theorem xm{n:Int}{K:Nat->Hx β}{b:β}(e:aF n K=some b):∃m,n=.ofNat m/\K m=some b:=by unfold aF at e;split at e<;>grind
theorem WY{P:Program}{T:TT}(HT:fA P T){t:TypeId}{l:qr SV}{off:Nat}{K:SV->Hx β}{b:β}(e:Nr T t l off K=some b):
 ∃sv,K sv=some b/\∀(σ:Ren)(vs:Array H1)(w:jp),fm σ l vs.toList->∃u,(part t vs off).run P w=.ok u w/\DV σ sv u:=by
 obtain⟨i,hi,e⟩:=ax e;cases ha:pD i.desc with
 |true=>rw[ha] at e;obtain⟨e1,e⟩:=bd e;refine⟨_,e,λσ vs w d=>?_⟩;have k:=(d.drop off).take i.size;have:=ed e1;exact⟨.agg ⟨(vs.toList.drop off).take i.size⟩,M9 HT hi (by unfold Ld;rw[ha];exact⟨by have:=d.1;omega,rfl⟩),.agg k.1 k.2⟩
 |false=>rw[ha] at e;obtain⟨z,hz,e⟩:=ax e;obtain⟨x,hx,e⟩:=ax e;refine⟨_,Wo e,λσ vs w d=>?_⟩;obtain⟨u,h1,h2⟩:=d.get hx;exact⟨u,M9 HT hi (by unfold Ld;rw[ha];exact h1),h2⟩
theorem aim{P:Program}{T:TT}(HT:fA P T){s:TypeId}{x:SV}{f:Nat}{K:SV->Hx β}{b:β}(e:WR T s x f K=some b):
 ∃sv,K sv=some b/\∀(σ:Ren) v (w:jp),DV σ x v->∃u,(Instr.fieldAt s v f).run P w=.ok u w/\DV σ sv u:=by
 obtain⟨i,hi,e⟩:=ax e;split at e
 ·rename_i fs hd;obtain⟨fl,hf,e⟩:=ax e;obtain⟨j,hj,e⟩:=ax e;obtain⟨hz,e⟩:=vh e;split at e
  ·refine⟨_,e,λσ v w d=>?_⟩;obtain⟨a,rfl,k⟩:=d.Mw;exact⟨_,WJ HT hi hd hf hj hz a,k _⟩
  ·refine⟨_,e,λσ v w d=>?_⟩;obtain⟨a,rfl,k⟩:=d.K7;exact⟨_,WJ HT hi hd hf hj hz a,k _⟩
  ·cases e
 ·cases e
def Nn(T:TT)(st:St)(t:TypeId)(x ix:SV)(K:SV->Hx β):Hx β:=match ix with
 | .i _ n=>aF n λm=>ob (T.get t) λi=>match i.desc,x with
  | .array len e,.ptr id off=>ob (T.get e) λj=>cond (Nat.blt m len) (K (.ptr id (off+m*j.size))) none
  | .array len e,.lp cs=>ob (T.get e) λj=>cond (Nat.blt m len) (K (.lp (cs.drop (m*j.size)))) none
  | .slice e,.v x=>ob (T.get e) λj=>aJ j.size m x λcs=>K (.lp cs)
  | .slice e,.sl id off n _=>ob (T.get e) λj=>cond (Nat.blt m n) (K (.ptr id (off+m*j.size))) none
  | .slice e,.gr id _=>ob (T.get e) λj=>ob (st.h.get id) λso=>match so with
   | .grow E c _=>cond (Nat.beq E j.size&&Nat.blt (m*E) c.length) (K (.ptr id (0+m*j.size))) none
   |_=>bJ 6
  |_,_=>bJ 7
 |_=>bJ 8
theorem aip{P:Program}{T:TT}(HT:fA P T){st:St}{t:TypeId}{x ix:SV}{K:SV->Hx β}{b:β}(e:Nn T st t x ix K=some b):
 ∃sv,K sv=some b/\∀{B:Bs}{σ:Ren}{F:Nat->Prop}{w:jp},Mem B σ (hG st.h) F w->∀v z,DV σ x v->DV σ ix z->∃u,(Instr.indexAt t v z).run P w=.ok u w/\DV σ sv u:=by
 unfold Nn at e;split at e
 ·obtain⟨m,rfl,e⟩:=xm e;replace e:=ax e;obtain⟨i,hi,e⟩:=e;split at e
  ·rename_i len el id off hd _;obtain⟨j,hj,e⟩:=ax e;obtain⟨e1,e⟩:=bd e;refine⟨_,e,λM v z d d2=>?_⟩;cases d2;obtain⟨a,rfl,k⟩:=d.Mw;exact⟨_,WK HT hi hd hj e1 _ a,k _⟩
  ·rename_i len el cs hd _;obtain⟨j,hj,e⟩:=ax e;obtain⟨e1,e⟩:=bd e;refine⟨_,e,λM v z d d2=>?_⟩;cases d2;obtain⟨a,rfl,k⟩:=d.K7;exact⟨_,WK HT hi hd hj e1 _ a,k _⟩
  ·rename_i el x hd _;obtain⟨j,hj,e⟩:=ax e;unfold aJ at e;split at e
   ·rename_i n su fid cs ys;obtain⟨e1,e⟩:=bd e;have e2:=fb e1;refine⟨_,e,λM v z d d2=>?_⟩;cases d2;cases d with
    |v p q=>
     cases p with
     |lC hl h hm hs hn o=>exact⟨_,M6 HT hi hd hj e1 _ _,Tv o ⟨hl,h⟩ hm hs _⟩
     |_=>omega
   ·cases e
  ·rename_i el id off n cap hd _;obtain⟨j,hj,e⟩:=ax e;obtain⟨e1,e⟩:=bd e;refine⟨_,e,λM v z d d2=>?_⟩;cases d2;cases d with
   |sl g hn=>exact⟨_,M6 HT hi hd hj e1 _ _,by rw[tj];exact .ptr g⟩
  ·rename_i el id E0 hd _;obtain⟨j,hj,e⟩:=ax e;obtain⟨so,hso,e⟩:=ax e;split at e
   ·rename_i E c t0;obtain⟨e1,e⟩:=bd e;rw[bB] at e1;have e3:=fb e1.2;refine⟨_,e,λM v z d d2=>?_⟩;obtain⟨k1,k2,k3⟩:=M.obj id _ hso;cases d2;rcases k3 with⟨_,k4⟩|⟨o,n,cs,g1,_,_,g2,_⟩
    ·subst k4;simp at e3
    ·cases d with
     |jP g=>rw[g1] at g;cases g
     |gr g hc hn=>rw[g1] at g;cases g;exact⟨_,M6 HT hi hd hj (C6 (Nat.lt_of_mul_lt_mul_right (by rw[g2] at e3;exact e3))) _ _,by rw[tj];exact .ptr g1⟩
   ·cases e
  ·cases e
 ·cases e
def ru(s:ByteArray)(m:Nat):Hx UInt8:=s.data.toList[m]?
def Nl(T:TT)(t:TypeId)(x ix:SV)(K:SV->Hx β):Hx β:=match ix with
 | .i _ n=>aF n λm=>ob (T.get t) λi=>match i.desc,x with
  | .array len e,.agg l=>ob (T.get e) λj=>cond (Nat.blt m len) (match uF l with|some us=>ob j.zero λz=>vF j z (us.drop (m*j.size)) K|none=>Nr T e l (m*j.size) K) none
  | .string,.s s=>ob (ru s m) λc=>K (.i .u8 (Int.ofNat c.toNat))
  |_,_=>bJ 15
 |_=>bJ 16
theorem aiq{P:Program}{T:TT}(HT:fA P T){t:TypeId}{x ix:SV}{K:SV->Hx β}{b:β}(e:Nl T t x ix K=some b):
 ∃sv,K sv=some b/\∀(σ:Ren) v z (w:jp),DV σ x v->DV σ ix z->∃u,(Instr.index t v z).run P w=.ok u w/\DV σ sv u:=by
 unfold Nl at e;split at e
 ·obtain⟨m,rfl,e⟩:=xm e;replace e:=ax e;obtain⟨i,hi,e⟩:=e;split at e
  ·rename_i len el l hd _;obtain⟨j,hj,e⟩:=ax e;obtain⟨e1,e⟩:=bd e;have run:∀{cs:Array H1}{k:IntKind}{w:jp}{u:H1},(part el cs (m*j.size)).run P w=.ok u w->(Instr.index t (.agg cs) (.int k (Int.ofNat m))).run P w=.ok u w:=by
    intro cs k w u h;unfold Instr.index;simp only[dA,asIntOf,eX,eW,gQ w HT hi,hd,ay (Jt HT e1),run_sizeOf w HT hj];simpa using h
   split at e
   ·rename_i us hus;obtain⟨z,hz,e⟩:=ax e;obtain⟨sv,h1,h2⟩:=AM e;refine⟨sv,h1,λσ v z w d d2=>?_⟩;cases d2;cases d with
    |agg hl h=>obtain⟨k1,k2⟩:=wM ⟨hl,h⟩ hus;obtain⟨u,u1,u2⟩:=h2 σ _ k1 k2;exact⟨u,run (M9 HT hj u2),u1⟩
   ·obtain⟨sv,h1,h2⟩:=WY HT e;refine⟨sv,h1,λσ v z w d d2=>?_⟩;cases d2;cases d with
    |agg hl h=>obtain⟨u,u1,u2⟩:=h2 σ _ w ⟨hl,h⟩;exact⟨u,run u1,u2⟩
  ·rename_i s hd _;obtain⟨c,hb,e⟩:=ax e;unfold ru at hb;refine⟨_,e,λσ v z w d d2=>?_⟩;cases d2;cases d;refine⟨.int .u8 (Int.ofNat c.toNat),?_,.i _ _⟩;unfold Instr.index;have hs:s[m]? =some c:=by
    have hm:m<s.data.toList.length:=by rcases ia m s.data.toList.length with h|h<;>grind
    have:s.data.toList[m]=c:=by rw[cG hm] at hb;exact jH hb
    rw[getElem?_pos s m (by simpa using hm)];exact bY some this
   simp[dA,asIntOf,gQ w HT hi,hd,hs]
  ·cases e
 ·cases e
def Nk(T:TT)(t:TypeId)(x:SV)(f:Nat)(K:SV->Hx β):Hx β:=match x with
 | .agg l=>ob (T.get t) λi=>match i.desc with
  | .struct fs=>ob (fs[f]?) λfl=>Nr T fl.type l fl.offset K
  |_=>bJ 31
 |_=>bJ 32
def Nj(x:SV)(n:Nat)(K:SV->Hx β):Hx β:=match x with
 | .aG l=>ob (l[n]?) K
 |_=>bJ 33
theorem ain{P:Program}{T:TT}(HT:fA P T){t:TypeId}{x:SV}{f:Nat}{K:SV->Hx β}{b:β}(e:Nk T t x f K=some b):
 ∃sv,K sv=some b/\∀(σ:Ren) v (w:jp),DV σ x v->∃u,(Instr.field t v f).run P w=.ok u w/\DV σ sv u:=by
 unfold Nk at e;split at e
 ·obtain⟨i,hi,e⟩:=ax e;split at e
  ·rename_i fs hd;obtain⟨fl,hf,e⟩:=ax e;obtain⟨sv,h1,h2⟩:=WY HT e;refine⟨sv,h1,λσ v w d=>?_⟩;cases d with
   |agg hl h=>obtain⟨u,u1,u2⟩:=h2 σ _ w ⟨hl,h⟩;exact⟨u,by simp[Instr.field,dA,gQ w HT hi,hd,hf,asAgg,u1],u2⟩
  ·cases e
 ·cases e
theorem ail{P:Program}{x:SV}{n:Nat}{K:SV->Hx β}{b:β}(e:Nj x n K=some b):
 ∃sv,K sv=some b/\∀(σ:Ren) v (w:jp),DV σ x v->∃u,(Instr.extract v n).run P w=.ok u w/\DV σ sv u:=by
 unfold Nj at e;split at e
 ·obtain⟨y,h1,e⟩:=ax e;refine⟨y,e,λσ v w d=>?_⟩;cases d with
  |aG hl h=>obtain⟨u,u1,u2⟩:=PW.get ⟨hl,h⟩ h1;refine⟨u,?_,u2⟩;unfold Instr.extract;simp_all
 ·cases e
end
section
variable{β:Type}
def SM(op:BinOp)(k:IntKind)(a b:Int)(K:SV->Hx β):Hx β:=match op with
 | .add=>K (.i k (ah k (Int.add a b)))
 | .sub=>K (.i k (ah k (Int.sub a b)))
 | .mul=>K (.i k (ah k (Int.mul a b)))
 | .quo=>cond (aj b 0) none (K (.i k (ah k (Int.tdiv a b))))
 | .rem=>cond (aj b 0) none (K (.i k (Int.tmod a b)))
 | .and=>K (.i k (ah k ((BitVec.ofInt k.bits a&&&BitVec.ofInt k.bits b).toNat:Nat)))
 | .or=>K (.i k (ah k ((BitVec.ofInt k.bits a|||BitVec.ofInt k.bits b).toNat:Nat)))
 | .xor=>K (.i k (ah k ((BitVec.ofInt k.bits a^^^BitVec.ofInt k.bits b).toNat:Nat)))
 | .eql=>K (.b (aj a b))
 | .neq=>K (.b (!aj a b))
 | .lss=>K (.b (ak a b))
 | .leq=>K (.b (!ak b a))
 | .gtr=>K (.b (ak b a))
 | .geq=>K (.b (!ak a b))
 |_=>none
def Pv(op:BinOp)(k:IntKind)(a b:Int)(K:SV->Hx β):Hx β:=match op with
 | .shl=>cond (ak b 0) none (K (.i k (ah k (Int.mul a (2^min b.toNat k.bits)))))
 | .shr=>cond (ak b 0) none (K (.i k (Int.fdiv a (2^min b.toNat k.bits))))
 |_=>none
theorem abT{P:Program}{op:BinOp}{k:IntKind}{a b:Int}{K:SV->Hx β}{c:β}(e:SM op k a b K=some c):∃sv v,K sv=some c/\(∀t w,(binOp op t (.int k a) (.int k b)).run P w=.ok v w)/\∀σ,DV σ sv v:=by
 have hnot:∀x y:Int,(!decide (x<y))=decide (y<=x):=λx y=>by rw[iH];simp
 cases op with
 |quo=>
  obtain⟨h,e⟩:=vh e;have hb:b≠0:=by rintro rfl;cases h
  exact⟨_,_,e,λt w=>by simp[binOp,Op.intDiv,hb,pc],λσ=>.i _ _⟩
 |rem=>
  obtain⟨h,e⟩:=vh e;have hb:b≠0:=by rintro rfl;cases h
  exact⟨_,.int k (Int.tmod a b),e,λt w=>by simp[binOp,Op.intDiv,hb],λσ=>.i _ _⟩
 |add=>exact⟨_,_,e,λt w=>by simp[binOp,pc];rfl,λσ=>.i _ _⟩
 |sub=>exact⟨_,_,e,λt w=>by simp[binOp,pc];rfl,λσ=>.i _ _⟩
 |mul=>exact⟨_,_,e,λt w=>by simp[binOp,pc];rfl,λσ=>.i _ _⟩
 |and=>exact⟨_,_,e,λt w=>by simp[binOp,Op.intBits,pc],λσ=>.i _ _⟩
 |or=>exact⟨_,_,e,λt w=>by simp[binOp,Op.intBits,pc],λσ=>.i _ _⟩
 |xor=>exact⟨_,_,e,λt w=>by simp[binOp,Op.intBits,pc],λσ=>.i _ _⟩
 |eql=>exact⟨_,_,e,λt w=>by simp[binOp,Op.intCmp,vz],λσ=>.b _⟩
 |neq=>exact⟨_,_,e,λt w=>by simp[binOp,Op.intCmp,bne,vz],λσ=>.b _⟩
 |lss=>exact⟨_,_,e,λt w=>by simp[binOp,Op.intCmp,nK],λσ=>.b _⟩
 |leq=>exact⟨_,_,e,λt w=>by simp[binOp,Op.intCmp,hnot,nK],λσ=>.b _⟩
 |gtr=>exact⟨_,_,e,λt w=>by simp[binOp,Op.intCmp,nK],λσ=>.b _⟩
 |geq=>exact⟨_,_,e,λt w=>by simp[binOp,Op.intCmp,hnot,nK],λσ=>.b _⟩
 |_=>cases e
theorem Yv{P:Program}{op:BinOp}{k k':IntKind}{a b:Int}{K:SV->Hx β}{c:β}(e:Pv op k a b K=some c):∃sv v,K sv=some c/\(∀t w,(binOp op t (.int k a) (.int k' b)).run P w=.ok v w)/\∀σ,DV σ sv v:=by
 cases op with
 |shl=>obtain⟨h,e⟩:=vh e;rw[nK] at h;exact⟨_,_,e,λt w=>by simp[binOp,Op.shift,of_decide_eq_false h,pc],λσ=>.i _ _⟩
 |shr=>obtain⟨h,e⟩:=vh e;rw[nK] at h;exact⟨_,.int k _,e,λt w=>by simp[binOp,Op.shift,of_decide_eq_false h],λσ=>.i _ _⟩
 |_=>cases e
def aw(x:H1)(K:Nat->Hx β):Hx β:=match x with
 | .func (.via n _ _ true) _ _=>K n
 |_=>none
def Ka:qr SV->qr SV->Hx Bool
 |[],[]=>some true
 | .i k a::xs,.i k' b::ys=>cond (decide (k=k')) (ob (Ka xs ys) λr=>some (cond (aj a b) r false)) none
 |_,_=>none
def Ni(T:TT)(t:TypeId)(x y:SV)(K:Bool->Hx β):Hx β:=ob (T.get t) λi=>match i.desc,x,y with
 | .pointer _,.ptr _ _,.v (.pointer none)=>K false
 | .slice _,.em b,.nl=>K b
 | .slice _,.nl,.nl=>K true
 | .slice _,.sl _ _ _ _,.nl=>K false
 | .slice _,.v x,.nl=>aw x λn=>cond (Nat.blt 0 n) (K false) none
 | .func ..,.fn _ _,.v .nilFunc=>K false
 | .func ..,.v .nilFunc,.v .nilFunc=>K true
 | .interface _,.fO _ _,.ni=>K false
 |_,.agg xs,.agg ys=>cond (i.flat&&Nat.beq xs.length i.size) (ob (Ka xs ys) K) none
 |_,_,_=>bJ 51
theorem RA{σ:Ren}:∀{xs ys:qr SV}{r:Bool},Ka xs ys=some r->∀{vs ws:qr H1},fm σ xs vs->fm σ ys ws->jz vs ws=some r/\vs.length=ws.length
 |[],[],r,e,vs,ws,d,d2=>by cases e;rw[d.ee,d2.ee];exact⟨rfl,rfl⟩
 | .i k a::xs,.i k' b::ys,r,e,vs,ws,d,d2=>by obtain⟨e1,e3⟩:=bd e;obtain⟨r',h1,e3⟩:=ax e3;cases e3;obtain⟨y,vs,rfl,a1,t1⟩:=d.inv;obtain⟨z,ws,rfl,a2,t2⟩:=d2.inv;obtain⟨g1,g2⟩:=RA h1 t1 t2;cases a1;cases a2;refine⟨?_,by simp[g2]⟩;unfold jz;simp_all;cases aj a b<;>simp
abbrev oP(P:Program)(op:BinOp)(t:TypeId)(xo yo:Operand)(v u:H1)(w:jp):Result H1:=(do eqGuard op t xo yo v u;binOp op t v u:Sem H1).run P w
theorem Eu{x:H1}{K:Nat->Hx β}{b:β}(e:aw x K=some b):∃n p f cs ys,x=.func (.via n p f true) cs ys/\K n=some b:=by
 unfold aw at e;split at e
 ·exact⟨_,_,_,_,_,rfl,e⟩
 ·cases e
theorem WQ{P:Program}{T:TT}(H:fA P T){t:TypeId}{x y:SV}{K:Bool->Hx β}{b:β}(e:Ni T t x y K=some b):
 ∃r,K r=some b/\∀(σ:Ren) v u xo yo w,DV σ x v->DV σ y u->oP P .eql t xo yo v u w=.ok (.bool r) w/\oP P .neq t xo yo v u w=.ok (.bool (!r)) w:=by
 replace e:=ax e;obtain⟨i,hi,e⟩:=e;have hu:=H.under t i hi;have fin:∀{r:Bool}{v u:H1}{xo yo:Operand}{w:jp},(¬∃k a k' b,v=.int k a/\u=.int k' b)->(¬∃a b,v=.string a/\u=.string b)->(¬∃k a k' b,v=.float k a/\u=.float k' b)->
  (¬∃k a b k' c d,v=.complex k a b/\u=.complex k' c d)->((∀op,(eqGuard op t xo yo v u).run P w=.ok () w)/\(Op.equal t v u).run P w=.ok r w)->oP P .eql t xo yo v u w=.ok (.bool r) w/\oP P .neq t xo yo v u w=.ok (.bool (!r)) w:=by
  intro r v u xo yo w h1 h2 h3 h4 ⟨g,h⟩;obtain⟨b1,b2⟩:=Af h1 h2 h3 h4 h;exact⟨by simp[oP,g,b1],by simp[oP,g,b2]⟩
 have g0:∀{v u:H1}{xo yo:Operand}{w:jp},¬(v=.nilIface/\u=.nilIface)->¬(∃xs ys,v=.agg xs/\u=.agg ys)->∀op,(eqGuard op t xo yo v u).run P w=.ok () w:=λh1 h2 _=>Sc h1 h2;split at e
 ·rename_i hd;refine⟨_,e,λσ v u xo yo w d d2=>?_⟩;cases d with
  |ptr g=>
   cases d2 with
   |v a _=>cases a;exact fin (by simp) (by simp) (by simp) (by simp) ⟨g0 (by simp) (by simp),by unfold Op.equal Op.maxDepth Op.equalIn;simp[underlying,hu,hd]⟩
 ·rename_i q hd;refine⟨_,e,λσ v u xo yo w d d2=>?_⟩;cases d2;cases d with
  |em a=>cases q<;>cases a<;>exact fin (by simp) (by simp) (by simp) (by simp) ⟨g0 (by simp) (by simp),by unfold Op.equal Op.maxDepth Op.equalIn;simp[underlying,hu,hd]⟩
 ·rename_i hd;refine⟨_,e,λσ v u xo yo w d d2=>?_⟩;cases d;cases d2;exact fin (by simp) (by simp) (by simp) (by simp) ⟨g0 (by simp) (by simp),by unfold Op.equal Op.maxDepth Op.equalIn;simp[underlying,hu,hd]⟩
 ·rename_i hd;refine⟨_,e,λσ v u xo yo w d d2=>?_⟩;cases d;cases d2;exact fin (by simp) (by simp) (by simp) (by simp) ⟨g0 (by simp) (by simp),by unfold Op.equal Op.maxDepth Op.equalIn;simp[underlying,hu,hd]⟩
 ·rename_i x hd;obtain⟨n,p,f,cs,ys,rfl,e⟩:=Eu e;obtain⟨e1,e⟩:=bd e;have e1:=fb e1;refine⟨_,e,λσ v u xo yo w d d2=>?_⟩;cases d2;cases d with
  |v a _=>
   cases a with
   |lC=>exact fin (by simp) (by simp) (by simp) (by simp) ⟨g0 (by simp) (by simp),by unfold Op.equal Op.maxDepth Op.equalIn;simp[underlying,hu,hd]⟩
   |_=>omega
 ·rename_i hd;refine⟨_,e,λσ v u xo yo w d d2=>?_⟩;cases d with
  |fn=>
   cases d2 with
   |v a _=>cases a;unfold rW;exact fin (by simp) (by simp) (by simp) (by simp) ⟨g0 (by simp) (by simp),by unfold Op.equal Op.maxDepth Op.equalIn;simp[underlying,hu,hd]⟩
 ·rename_i hd;refine⟨_,e,λσ v u xo yo w d d2=>?_⟩;cases d with
  |v a _=>
   cases d2 with
   |v a2 _=>cases a;cases a2;exact fin (by simp) (by simp) (by simp) (by simp) ⟨g0 (by simp) (by simp),by unfold Op.equal Op.maxDepth Op.equalIn;simp[underlying,hu,hd]⟩
 ·rename_i hd;refine⟨_,e,λσ v u xo yo w d d2=>?_⟩;cases d;cases d2;exact fin (by simp) (by simp) (by simp) (by simp) ⟨g0 (by simp) (by simp),by unfold Op.equal Op.maxDepth Op.equalIn;simp[underlying,hu,hd]⟩
 ·obtain⟨e1,e⟩:=bd e;rw[bB] at e1;have e2:=bX e1.2;obtain⟨r,h1,e⟩:=ax e;refine⟨_,e,λσ v u xo yo w d d2=>?_⟩;cases d with
  |agg hl h=>
   cases d2 with
   |agg kl k=>obtain⟨k1,k2⟩:=RA h1 ⟨hl,h⟩ ⟨kl,k⟩;exact fin (by simp) (by simp) (by simp) (by simp) ⟨λop=>run_eqGuard_agg w op t xo yo _ _ (H.flat t i hi e1.1).1,RB hu (H.flat t i hi e1.1).2.2 (H.flat t i hi e1.1).2.1 (by omega) (by omega) k1 9998 w⟩
 ·cases e
def Ng(T:TT)(op:BinOp)(t:TypeId)(x y:SV)(K:SV->Hx β):Hx β:=match x,y with
 | .i k a,.i k' b=>match op with
  | .shl=>Pv .shl k a b K
  | .shr=>Pv .shr k a b K
  |op=>cond (decide (k=k')) (SM op k a b K) none
 | .s a,.s b=>match op with
  | .eql=>K (.b (mI a.data.toList b.data.toList))
  | .neq=>K (.b (!mI a.data.toList b.data.toList))
  |_=>bJ 9
 | .b a,.b b=>ob (T.get t) λi=>match i.desc,op with
  | .bool,.eql=>K (.b (a==b))
  | .bool,.neq=>K (.b (!(a==b)))
  |_,_=>bJ 10
 |x,y=>match op with
  | .eql=>Ni T t x y λr=>K (.b r)
  | .neq=>Ni T t x y λr=>K (.b (!r))
  |_=>bJ 11
theorem aie{P:Program}{T:TT}(H:fA P T){op:BinOp}{t:TypeId}{x y:SV}{K:SV->Hx β}{b:β}(e:Ng T op t x y K=some b):
 ∃sv,K sv=some b/\∀(σ:Ren) v u xo yo w,DV σ x v->DV σ y u->∃r,oP P op t xo yo v u w=.ok r w/\DV σ sv r:=by
 have gi:∀{op:BinOp}{v u:H1}{xo yo:Operand}{w:jp}{r:H1},¬(v=.nilIface/\u=.nilIface)->¬(∃xs ys,v=.agg xs/\u=.agg ys)->(binOp op t v u).run P w=.ok r w->oP P op t xo yo v u w=.ok r w:=by intro op v u xo yo w r h1 h2 h;have g:(eqGuard op t xo yo v u).run P w=.ok () w:=Sc h1 h2;simp[oP,g,h]
 unfold Ng at e;split at e
 ·rename_i k a k' b';have go:∀{e:∃sv v,K sv=some b/\(∀t w,(binOp op t (.int k a) (.int k' b')).run P w=.ok v w)/\∀σ,DV σ sv v},∃sv,K sv=some b/\∀(σ:Ren) v u xo yo w,DV σ (.i k a) v->DV σ (.i k' b') u->∃r,oP P op t xo yo v u w=.ok r w/\DV σ sv r:=by
   intro e;obtain⟨sv,v,h1,hv,h2⟩:=e;exact⟨sv,h1,λσ v' u xo yo w d d2=>by cases d;cases d2;exact⟨v,gi (by simp) (by simp) (hv t w),h2 σ⟩⟩
  split at e
  ·exact go (e:=Yv e)
  ·exact go (e:=Yv e)
  ·obtain⟨e1,e2⟩:=bd e;have e1:=oh e1;subst e1;exact go (e:=abT e2)
 ·rename_i a b';split at e
  ·exact⟨_,e,λσ v u xo yo w d d2=>by cases d;cases d2;exact⟨_,gi (by simp) (by simp) (by simp[binOp,Op.stringOp];rfl),by rw[Dx];simp[ByteArray.toList_eq];exact .b _⟩⟩
  ·exact⟨_,e,λσ v u xo yo w d d2=>by cases d;cases d2;exact⟨_,gi (by simp) (by simp) (by simp[binOp,Op.stringOp];rfl),by rw[Dx];simp[ByteArray.toList_eq];exact .b _⟩⟩
  ·cases e
 ·rename_i a b';replace e:=ax e;obtain⟨i,hi,e⟩:=e;have hu:=H.under t i hi;have key:∀{w:jp},i.desc=.bool->(Op.equal t (.bool a) (.bool b')).run P w=.ok (a==b') w:=λhd=>by unfold Op.equal Op.maxDepth Op.equalIn;simp[underlying,hu,hd]
  split at e
  ·rename_i hd;exact⟨_,e,λσ v u xo yo w d d2=>by cases d;cases d2;exact⟨_,gi (by simp) (by simp) (Af (by simp) (by simp) (by simp) (by simp) (key hd)).1,.b _⟩⟩
  ·rename_i hd;exact⟨_,e,λσ v u xo yo w d d2=>by cases d;cases d2;exact⟨_,gi (by simp) (by simp) (Af (by simp) (by simp) (by simp) (by simp) (key hd)).2,.b _⟩⟩
  ·cases e
 ·split at e
  ·obtain⟨r,h1,h2⟩:=WQ H e;exact⟨_,h1,λσ v u xo yo w d d2=>⟨_,(h2 σ v u xo yo w d d2).1,.b _⟩⟩
  ·obtain⟨r,h1,h2⟩:=WQ H e;exact⟨_,h1,λσ v u xo yo w d d2=>⟨_,(h2 σ v u xo yo w d d2).2,.b _⟩⟩
  ·cases e
def WX(T:TT)(op:BinOp)(t:TypeId)(K:SV->Hx β):Hx β:=ob (T.get t) λi=>match i.desc,op with
 | .interface _,.eql=>K (.b true)
 | .interface _,.neq=>K (.b false)
 |_,_=>bJ 54
theorem aiw{P:Program}{T:TT}(H:fA P T){op:BinOp}{t:TypeId}{K:SV->Hx β}{b:β}(e:WX T op t K=some b):∃sv,K sv=some b/\∀xo yo w,(vD xo||vD yo)=true->∃u,oP P op t xo yo .nilIface .nilIface w=.ok u w/\∀σ,DV σ sv u:=by
 replace e:=ax e;obtain⟨i,hi,e⟩:=e;have hu:=H.under t i hi;have key:∀{w:jp}{n:TypeDesc},i.desc=n->(∃m,n=.interface m)->(Op.equal t .nilIface .nilIface).run P w=.ok true w:=λhd ⟨m,hm⟩=>by subst hm;unfold Op.equal Op.maxDepth Op.equalIn;simp[underlying,hu,hd]
 have g:∀{op xo yo w},(vD xo||vD yo)=true->(eqGuard op t xo yo .nilIface .nilIface).run P w=.ok () w:=by intro op xo yo w h;unfold eqGuard;cases op<;>cases xo<;>cases yo<;>simp_all[vD]
 split at e
 ·rename_i hd;exact⟨_,e,λxo yo w h=>⟨.bool true,by simp[oP,g h,(Af (by simp) (by simp) (by simp) (by simp) (key (w:=w) hd ⟨_,rfl⟩)).1],λσ=>.b _⟩⟩
 ·rename_i hd;exact⟨_,e,λxo yo w h=>⟨.bool false,by simp[oP,g h,(Af (by simp) (by simp) (by simp) (by simp) (key (w:=w) hd ⟨_,rfl⟩)).2],λσ=>.b _⟩⟩
 ·cases e
end
section
variable{β:Type}
def dQ(E:Nat)(x:H1)(K:Nat->qr H1->Hx β):Hx β:=match x with
 | .func (.via n _ _ true) cs _=>cond (Nat.ble (n*E) cs.toList.length) (K n (cs.toList.take (n*E))) none
 |_=>none
def CT(st:St)(E:Nat)(x:SV)(K:Nat->qr H1->Hx β):Hx β:=match x with
 | .v x=>dQ E x K
 | .nl=>K 0 []
 | .em _=>K 0 []
 | .gr id E0=>ob (st.h.get id) λso=>match so with
  | .grow E' c _=>cond (Nat.beq E' E&&Nat.beq E0 E) (K (c.length/E) c) none
  |_=>none
 | .sl id off n _=>ob (st.h.get id) λso=>match so with
  | .cells c _=>cond (Nat.ble (off+n*E) c.length) (ob (uF ((c.drop off).take (n*E))) λus=>K n us) none
  | .arr c _=>cond (Nat.ble (off+n*E) c.length) (K n ((c.drop off).take (n*E))) none
  |_=>none
 | .s s=>K s.data.toList.length (s.data.toList.map λb=>.int .u8 (Int.ofNat b.toNat))
 |_=>none
def aH(n:Nat):Bool:=Nat.ble n 1000000000
def BC:SO->Hx (qr H1×TypeId)
 | .arr c t=>some (c,t)
 | .cells c t=>ob (uF c) λus=>some (us,t)
 |_=>none
def PD(st:St)(j ix:jw)(z:H1)(x:SV)(K:Nat->qr H1->Hx β):Hx β:=cond (oF ix.desc)
 (ob (wL z.cells.toList) λ_=>match x with
  | .i _ n=>aF n λm=>cond (Nat.ble m 1000000000) (K m (rep m z.cells.toList)) none
  |_=>bJ 25)
 (CT st j.size x K)
def Nf(T:TT)(st:St)(ts:qr TypeId)(s x:SV)(K:SV->St->Hx β):Hx β:=match ts with
 |t::xt::_=>ob (T.get t) λi=>ob (T.get xt) λix=>match i.desc with
  | .slice e=>ob (T.get e) λj=>ob j.zero λz=>cond (Nat.blt 0 j.size&&(Nat.beq z.cells.size j.size&&Nat.ble j.bytes 10000))
   (PD st j ix z x λn new=>match s with
    | .nl=>cond (aH n&&Nat.beq new.length (n*j.size)) (K (.gr st.sx j.size) {st with h:=(st.h.del st.sx).set st.sx (.grow j.size new e),sx:=st.sx+1}) none
    | .gr id E0=>ob (st.h.get id) λso=>match so with
     | .grow E c t0=>cond (Nat.beq E j.size&&(Nat.beq E0 j.size&&Nat.beq t0 e)) (cond (aH c.length&&(aH n&&Nat.beq new.length (n*j.size))) (K (.gr st.sx j.size) {st with h:=(st.h.del id).set st.sx (.grow j.size (c++new) e),sx:=st.sx+1}) none) none
     |_=>bJ 22
    | .sl id off n0 cap=>ob (st.h.get id) λso=>ob (BC so) λq=>cond (Nat.beq new.length (n*j.size)&&(Nat.ble (off+n0*j.size) q.1.length&&Nat.beq q.2 e))
     (cond (Nat.ble (n0+n) cap)
      (cond (Nat.ble (off+n0*j.size+new.length) q.1.length) (K (.sl id off (n0+n) cap) {st with h:=st.h.set id (.arr (aW (off+n0*j.size) new q.1) q.2)}) none)
      (cond (aH n&&(aH n0&&Nat.ble (Builtin.nextslicecap (n0+n) cap) 5000000000)) (K (.gr st.sx j.size) {st with h:=st.h.set st.sx (.grow j.size ((q.1.drop off).take (n0*j.size)++new) e),sx:=st.sx+1}) none)) none
    |_=>bJ 44) none
  |_=>bJ 23
 |_=>bJ 24
theorem AN(P:Program){w:jp}{b off n n' c E:Nat}{cs:Array H1}{t:TypeId}(k:Cl w b cs t)(h:off+n*E<=cs.toList.length):∀m≤n,(Builtin.firstCells E m (.slice (some ⟨b,off,none⟩) n' c)).run P w=.ok ⟨((cs.toList.drop off).take (n*E)).take (m*E)⟩ w:=λm hm=>by obtain⟨fz,h1,_⟩:=k;have hk:m*E<=n*E:=wW _ hm;obtain⟨vs,a1,a2⟩:=BE P (k:=off) (n:=m*E) h1 (by simp at h;omega);rw[List.take_take,kC hk,<-a2];exact a1
theorem QJ{m:Nat->Nat->Hx H1}(l:qr UInt8):PW (aN m) (l.map λb=>Value.int .u8 (Int.ofNat b.toNat)) (l.map λb=>Value.int .u8 (Int.ofNat b.toNat))/\bh (l.map λb=>Value.int .u8 (Int.ofNat b.toNat))=true:=by
 induction l with
 |nil=>exact⟨.nil,rfl⟩
 |cons b l ih=>exact⟨.cons (.int _ _) ih.1,ih.2⟩
theorem PC{P:Program}{st:St}{E:Nat}(hE:0<E){x:SV}{K:Nat->qr H1->Hx β}{b:β}(e:CT st E x K=some b):
 ∃n c,K n c=some b/\∀{B:Bs}{σ:Ren}{F:Nat->Prop}{w:jp},Mem B σ (hG st.h) F w->∀v,DV σ x v->bh c=true/\(Builtin.lenOf v).run P w=.ok n w/\(c.length=n*E->∃vs,PW (aN σ.lit) c vs/\∀k≤n,(Builtin.firstCells E k v).run P w=.ok ⟨vs.take (k*E)⟩ w)/\((∃s,x=.s s)\/c.length=n*E/\∃a m cp,v=.slice a m cp):=by
 have zero:∀{σ:Ren}{w:jp}{a:Hx Addr}{c:Nat},∃vs,PW (aN σ.lit) [] vs/\∀k≤0,(Builtin.firstCells E k (.slice a 0 c)).run P w=.ok ⟨vs.take (k*E)⟩ w:=by
  intro σ w a c;refine⟨[],.nil,λk hk=>?_⟩;obtain rfl:k=0:=by omega
  cases a with
  |none=>simp[Builtin.firstCells]
  |some a=>simp only[Builtin.firstCells,Nat.zero_mul];exact Ey P a w
 unfold CT at e;split at e
 ·unfold dQ at e;split at e
  ·rename_i n p f cs ys;obtain⟨e1,e⟩:=bd e;have e1:=ed e1;refine⟨_,_,e,λM v d=>?_⟩;cases d with
   |v a _=>
    cases a with
    |@lC _ _ _ a zs hl h hm hs hn ho=>
     refine⟨qY ho λ_=>uN,rfl,λ_=>⟨zs.take (n*E),PW.take ⟨hl,h⟩ _,λk hk=>?_⟩,.inr ⟨by rw[dE];omega,_,_,_,rfl⟩⟩;have hk:k*E<=n*E:=wW _ hk;have:=M8 P hs (zs.take (k*E)) 0 #[] λi y hy=>by
      have hy2:zs[i]? =some y:=by grind
      obtain⟨x,hx⟩:∃x,cs.toList[i]? =some x:=by have:=(oW.1 hy2).1;exact⟨cs.toList[i]'(by omega),by simp⟩
      exact(h i x y hx hy2).cell (M.lit _ _ _ (hm i y hy2))
     rw[(show(zs.take (k*E)).length=k*E from by rw[dE];omega)] at this;rw[List.take_take,kC hk];exact this
    |gy=>rw[Nat.zero_mul];exact⟨rfl,rfl,λ_=>zero,.inr ⟨rfl,_,_,_,rfl⟩⟩
    |zG=>rw[Nat.zero_mul];exact⟨rfl,rfl,λ_=>zero,.inr ⟨rfl,_,_,_,rfl⟩⟩
    |A1=>rw[Nat.zero_mul];exact⟨rfl,rfl,λ_=>zero,.inr ⟨rfl,_,_,_,rfl⟩⟩
  ·cases e
 ·exact⟨_,_,e,λM v d=>by cases d;exact⟨rfl,rfl,λ_=>zero,.inr ⟨by simp,_,_,_,rfl⟩⟩⟩
 ·exact⟨_,_,e,λM v d=>by
   cases d with
   |em a=>cases‹Bool›<;>cases a<;>exact⟨rfl,rfl,λ_=>zero,.inr ⟨by simp,_,_,_,rfl⟩⟩⟩
 ·rename_i id E0;obtain⟨so,hso,e⟩:=ax e;split at e
  ·rename_i E' c t;obtain⟨e1,e⟩:=bd e;rw[bB] at e1;obtain rfl:=bX e1.1;obtain rfl:=bX e1.2;refine⟨_,_,e,λM v d=>?_⟩;obtain⟨k1,k2,k3⟩:=M.obj id _ hso;rcases k3 with⟨g1,rfl⟩|⟨o,n,cs,g1,g2,_,g4,g5,g6⟩
   ·cases d with
    |jP g=>simp only[List.length_nil,Nat.zero_div];exact⟨k2,rfl,λ_=>zero,.inr ⟨by simp,_,_,_,rfl⟩⟩
    |gr g=>rw[g1] at g;cases g
   ·cases d with
    |jP g=>rw[g1] at g;cases g
    |gr g hc hn=>rw[g1] at g;cases g;rw[g4,ja _ k1,<-g4];refine⟨k2,rfl,λ_=>⟨_,g6,λk hk=>?_⟩,.inr ⟨rfl,_,_,_,rfl⟩⟩;rw[g4];exact AN P g2 (off:=0) (by rw[<-g4];simpa using g5) k hk
  ·cases e
 ·rename_i id off n _;obtain⟨so,hso,e⟩:=ax e;split at e
  ·rename_i c t;obtain⟨e1,e⟩:=bd e;have e1:=ed e1;obtain⟨us,hus,e⟩:=ax e;refine⟨_,_,e,λM v d=>?_⟩;obtain⟨o,m,cs,g1,g2,g3⟩:=M.obj id _ hso;obtain⟨k1,k2⟩:=wM ((g3.drop off).take _) hus;cases d with
   |sl g hn=>rw[g1] at g;cases g;exact⟨k2,rfl,λ_=>⟨_,k1,AN P g2 (by have:=g3.1;omega)⟩,.inr ⟨by rw[k1.1,dE,er];have:=g3.1;omega,_,_,_,rfl⟩⟩
  ·rename_i c t;obtain⟨e1,e⟩:=bd e;have e1:=ed e1;refine⟨_,_,e,λM v d=>?_⟩;obtain⟨o,m,cs,g1,g2,g3,g4⟩:=M.obj id _ hso;cases d with
   |sl g hn=>rw[g1] at g;cases g;exact⟨qY g3 λ_ h=>qG (uN h),rfl,λ_=>⟨_,(g4.drop off).take _,AN P g2 (by have:=g4.1;omega)⟩,.inr ⟨by rw[dE,er];omega,_,_,_,rfl⟩⟩
  ·cases e
 ·rename_i s;refine⟨_,_,e,λM v d=>?_⟩;cases d;refine⟨(QJ (m:=λ_ _=>none) _).2,rfl,λh=>⟨_,(QJ _).1,λk hk=>?_⟩,.inl ⟨_,rfl⟩⟩;rw[cD] at h;have hk2:k*E=k:=by
   rcases Nat.eq_zero_or_pos k with q|q
   ·rw[q,Nat.zero_mul]
   ·have:E=1:=by
     have h0:0<s.data.toList.length:=by omega
     exact(Nat.mul_left_cancel (n:=s.data.toList.length) h0 (by omega)).symm
    rw[this,gk]
  have:((s.extract 0 k).data.map λb=>Value.int .u8 (b.toNat:Int))=⟨(s.data.toList.map λb=>Value.int .u8 (Int.ofNat b.toNat)).take (k*E)⟩:=by apply Array.ext';rw[hk2];simp
  exact bY (λx=>Result.ok x _) this
 ·cases e
end
section
variable{β:Type}
theorem MQ{m:Nat->Nat->Hx H1}{l:qr H1}(h:PW (aN m) l l):∀n,PW (aN m) (rep n l) (rep n l)
 |0=>.nil
 |n+1=>h.append (MQ h n)
theorem E9{a b:qr H1}(h:bh a=true)(k:bh b=true):bh (a++b)=true:=iW.2 λx hx=>by
 rcases fT.1 hx with q|q
 ·exact iW.1 h x q
 ·exact iW.1 k x q
theorem Fy{l:qr H1}(h:bh l=true):∀n,bh (rep n l)=true
 |0=>rfl
 |n+1=>E9 h (Fy h n)
theorem amp(z:Array H1)(n:Nat):(Builtin.zeroCells z n).size=n*z.size:=by simp[Builtin.zeroCells]
def P5(P:Program)(w:jp)(dx:TypeDesc)(x:H1)(n bytes:Nat):Prop:=
 (oF dx=false/\(Builtin.lenOf x).run P w=.ok n w)\/(oF dx=true/\(∃k,x=.int k (Int.ofNat n))/\n<9223372036854775808/\n*bytes<=281474976710656)
theorem alA{P:Program}{T:TT}(HT:fA P T){st:St}{e:TypeId}{j ix:jw}(hj:T.get e=some j){z:H1}(p1:0<j.size)(hz:j.zero=some z)(p2:Nat.beq z.cells.size j.size=true)(p3:j.bytes<=10000){x:SV}{K:Nat->qr H1->Hx β}{b:β}(e1:PD st j ix z x K=some b):
 ∃n c,K n c=some b/\∀{B:Bs}{σ:Ren}{F:Nat->Prop}{w:jp},Mem B σ (hG st.h) F w->∀v,DV σ x v->bh c=true/\P5 P w ix.desc v n j.bytes/\(c.length=n*j.size->∃vs,PW (aN σ.lit) c vs/\(pg (oF ix.desc) j.size n e v).run P w=.ok ⟨vs⟩ w):=by
 unfold PD at e1;cases hd:oF ix.desc with
 |true=>
  rw[hd] at e1;obtain⟨zs,hzs,e1⟩:=ax e1;split at e1
  ·obtain⟨m,rfl,e1⟩:=xm e1;obtain⟨q,e1⟩:=bd e1;have q:=ed q;refine⟨_,_,e1,λ{_ σ _ w} M v d=>?_⟩;cases d;obtain⟨_,r,o⟩:=zp (σ:=σ) hzs;have hs:=bX p2;refine⟨Fy o _,.inr ⟨hd,⟨_,rfl⟩,by omega,fH (Nat.mul_le_mul q p3) (by decide)⟩,λ_=>⟨_,MQ r _,?_⟩⟩;unfold pg;simp only[bH,kO,gY];by_cases h0:m*j.size=0
   ·have:m=0:=by rcases Nat.mul_eq_zero.1 h0 with h|h<;>omega
    subst this;simp[rep]
   ·rw[aq h0,dA,sC w HT hj hz];refine bY (λx=>Result.ok x w) (Array.ext' ?_);exact MM z.cells (by omega) m
  ·cases e1
 |false=>rw[hd] at e1;obtain⟨n,c,h1,h2⟩:=PC (P:=P) p1 e1;refine⟨n,c,h1,λM v d=>?_⟩;obtain⟨k1,k2,k3,_⟩:=h2 M v d;refine⟨k1,.inl ⟨hd,k2⟩,λhl=>?_⟩;obtain⟨vs,r,f⟩:=k3 hl;refine⟨vs,r,?_⟩;have:=f n (aM _);rw[<-hl,r.1,oY] at this;simpa[pg] using this
theorem FK{σ:Ren}{w:jp}{id:Nat}{so:SO}{q:qr H1×TypeId}(e:BC so=some q)(d:DO σ w id so):∃o m cs,σ.nm id=some (some o,m)/\Cl w o.1 cs q.2 /\bh q.1 =true/\PW (aN σ.lit) q.1 cs.toList:=by
 unfold BC at e;split at e
 ·cases e;exact d
 ·obtain⟨us,h,e⟩:=ax e;cases e;obtain⟨o,m,cs,g1,g2,g3⟩:=d;obtain⟨k1,k2⟩:=wM g3 h;exact⟨o,m,cs,g1,g2,k2,k1⟩
 ·cases e
theorem JP(w:jp):eZ (λ_=>False) w (jy w):=⟨rfl,rfl,rfl,aM _,λ_ _ _=>rfl⟩
theorem ag9(w:jp)(o:Obj):eZ (λ_=>False) w {jy w with heap:=w.heap.push o}:=⟨rfl,rfl,rfl,by simp,λb hb _=>Mz w o b hb⟩
theorem Ll{n c:Nat}(h:n<=2000000000)(k:c<n):Builtin.nextslicecap n c<=5000000000:=by
 have gr:∀r c,c<=5000000000->c<3000000000\/n<=c->Builtin.growBy n r c<=5000000000:=by
  intro r;induction r with
  |zero=>intro c h1 _;exact h1
  |succ r ih=>
   intro c h1 h2;unfold Builtin.growBy;split
   ·exact h1
   ·exact ih _ (by omega) (by omega)
 unfold Builtin.nextslicecap;split
 ·omega
 ·split
  ·omega
  ·exact gr 4 c (by omega) (by omega)
theorem VJ{α:Type}(vs:qr α)(n:Nat)(l:qr α)(h:n+vs.length<=l.length):aW n vs l=l.take n++vs++l.drop (n+vs.length):=by
 induction vs generalizing n l with
 |nil=>simp[aW]
 |cons v vs ih=>simp only[aW];simp at h;rw[ih (n+1) (l.set n v) (by simp;omega),List.take_set,List.drop_set_of_lt (by omega)];rw[iI (by omega),List.set_append,aq (by simp;omega)];simp[kC (show n<=l.length by omega),Nat.add_comm,Nat.add_left_comm]
theorem aic{P:Program}{T:TT}(HT:fA P T){st:St}{ts:Array TypeId}{s x:SV}{K:SV->St->Hx β}{b:β}(e:Nf T st ts.toList s x K=some b):
 ∃sv h' d,K sv {st with h:=h',sx:=st.sx+d}=some b/\∀{B:Bs}{σ:Ren}{F:Nat->Prop}{w:jp},(∀id,st.sx<=id->id<st.sx+d->F id)->Mem B σ (hG st.h) F w->∀(xs:Array H1)(rt:TypeId) v u,xs[0]? =some v->xs[1]? =some u->DV σ s v->DV σ x u->
  ∃r w' σ',(Builtin.append_ ts rt xs).run P w=.ok r w'/\Ext σ σ'/\DV σ' sv r/\Mem B σ' (hG h') (lZ F st.sx (st.sx+d)) w':=by
 unfold Nf at e;split at e
 ·rename_i t xt rest hts;have h0:ts[0]? =some t:=by rw[<-mC,hts];rfl
  have h1:ts[1]? =some xt:=by rw[<-mC,hts];rfl
  replace e:=ax e;obtain⟨i,hi,e⟩:=e;replace e:=ax e;obtain⟨ix,hix,e⟩:=e;split at e
  ·rename_i el hd;replace e:=ax e;obtain⟨j,hj,e⟩:=e;replace e:=ax e;obtain⟨z,hz,e⟩:=e;obtain⟨e1,e⟩:=bd e;simp only[bB] at e1;obtain⟨p1,p2,p3⟩:=e1;have p1:=fb p1;have p3:=ed p3;obtain⟨n,new,f,g⟩:=alA HT hj p1 hz p2 p3 e;clear e;obtain⟨inf,i1,i2,i3,i4⟩:=HT.info el j hj;have args:∀{w:jp}{xs:Array H1}{b:Hx Addr}{len c:Nat}{u:H1},xs[0]? =some (.slice b len c)->xs[1]? =some u->P5 P w ix.desc u n j.bytes->uP P w ts xs t xt el ix.desc inf b len c u n:=by
    intro w xs b len c u x0 x1 nm;exact⟨h0,h1,x0,x1,by rw[HT.under t i hi,hd],HT.under xt ix hix,i1,by rw[i3];exact nm⟩
   have grow:∀{σ:Ren}{w:jp}{xs:Array H1}{rt:TypeId}{b:Hx Addr}{len c:Nat}{u:H1}{c0 v0 vs:qr H1},uP P w ts xs t xt el ix.desc inf b len c u n->c<len+n->len+n<=2000000000->Builtin.nextslicecap (len+n) c<=5000000000->
    (Builtin.firstCells j.size len (.slice b len c)).run P (jy w)=.ok ⟨v0⟩ (jy w)->(pg (oF ix.desc) j.size n el u).run P (jy w)=.ok ⟨vs⟩ (jy w)->PW (aN σ.lit) c0 v0->PW (aN σ.lit) new vs->bh c0=true->bh new=true->
    c0.length=len*j.size->new.length=n*j.size->∃r w' cap,(Builtin.append_ ts rt xs).run P w=.ok r w'/\eZ (λ_=>False) w w'/\∀σ' id,σ'.lit=σ.lit->σ'.nm id=some (some (w.heap.size,cap),len+n)->
     DV σ' (.gr id j.size) r/\DO σ' w' id (.grow j.size (c0++new) el):=by
    intro σ w xs rt b len c u c0 v0 vs A hgt hb1 hb2 f1 f2 r1 r2 o1 o2 l1 l2;obtain⟨cap,hcap,run⟩:=Qx (rt:=rt) A hgt (by omega) (by rw[i3];exact fH (Nat.mul_le_mul hb2 p3) (by decide)) (by rw[i2];exact f1) (by rw[i2];exact f2) (i4 z hz);refine⟨_,_,cap*j.size,run,ag9 w _,λσ' id hl hn=>⟨.gr hn rfl hcap,p1,E9 o1 o2,.inr ⟨_,_,_,hn,⟨_,My w _,Lm _⟩,?_,by rw[aT,l1,l2,lP],?_,?_⟩⟩⟩;all_goals have s1:v0.length=len*j.size:=by rw[<-r1.1,l1]
    all_goals have s2:vs.length=n*j.size:=by rw[<-r2.1,l2]
    all_goals have s3:=bX p2
    ·show cap*j.size=((⟨v0⟩:Array H1)++(⟨vs⟩:Array H1)++_).size;rw[Array.size_append,Array.size_append,amp,s3];show _=v0.length+vs.length+_;rw[s1,s2,<-lP,<-lP]
     congr 1;omega
    ·rw[aT,l1,l2,Array.size_append,Array.size_append];show _<=v0.length+vs.length+_;omega
    ·have:=(r1.append r2);rw[hl,aT,l1,l2,<-s1,<-s2,<-aT];simp only[Array.toList_append];rw[List.take_left']
     ·exact this
     ·rfl
   split at f
   ·obtain⟨e2,f⟩:=bd f;simp only[bB] at e2;have q1:=ed e2.1;have q2:=bX e2.2;refine⟨_,_,1,f,λ{B σ F w} hF M xs rt v u x0 x1 d d2=>?_⟩;cases d;obtain⟨o2,nm,k⟩:=g M u d2;rcases Nat.eq_zero_or_pos n with rfl|hn
    ·obtain⟨vs,r,ad⟩:=k q2;have:new=[]:=kP (by omega);subst this;obtain rfl:=r.ee;have run:=xj (rt:=rt) (args x0 x1 nm) (aM _) (by rw[i2];exact ad) (w':=w) rfl;obtain⟨E,M'⟩:=M.swap (hF _ (aM _) (kR _)) (id:=st.sx) (x:=(none,0)) (so:=.grow j.size [] el) (eZ.refl _ _) (λo n h=>by cases h) (λ_ _ _ _ _ _ _=>rfl) ⟨p1,rfl,.inl ⟨Ren.jK _ _ _,rfl⟩⟩;exact⟨_,_,_,run,E,.jP (Ren.jK _ _ _),M'⟩
    ·obtain⟨_,_,k'⟩:=g (M.same (JP w)) u d2;obtain⟨vs,r,ad⟩:=k' q2;obtain⟨r0,w',cap,run,fr,h⟩:=grow (c0:=[]) (v0:=[]) (rt:=rt) (args x0 x1 nm) (by omega) (by omega) (by simp[Builtin.nextslicecap,hn];omega) (by simp[Builtin.firstCells]) ad .nil r rfl o2 (by simp) q2;obtain⟨h1,h2⟩:=h (σ.add st.sx (some (w.heap.size,cap),0+n)) st.sx rfl (Ren.jK _ _ _);obtain⟨E,M'⟩:=M.swap (hF _ (aM _) (kR _)) (id:=st.sx) (fr.wide λ_ q=>q.elim) (λo m q=>.inl (by cases q;exact aM _)) (λ_ _ _ _ _ a b=>fr.block _ (M.lt a b) λq=>q) h2;exact⟨_,_,_,run,E,h1,M'⟩
   ·rename_i id E0;obtain⟨so,hso,f⟩:=ax f;split at f
    ·rename_i E c t0;obtain⟨e2,f2⟩:=bd f;simp only[bB] at e2;obtain⟨c1,c2,c3⟩:=e2;obtain rfl:=bX c1;obtain rfl:=bX c2;obtain rfl:=bX c3;obtain⟨e3,f3⟩:=bd f2;simp only[bB] at e3;have q0:=ed e3.1;have q1:=ed e3.2.1;have q2:=bX e3.2.2;refine⟨_,_,1,f3,λ{B σ F w} hF M xs rt v u x0 x1 d d2=>?_⟩;obtain⟨o2,nm,k⟩:=g M u d2;obtain⟨_,_,k'⟩:=g (M.same (JP w)) u d2;obtain⟨k1,k2,k3⟩:=M.obj id _ hso;rcases k3 with⟨g1,rfl⟩|⟨o,m,cs,g1,g2,g3,g4,g5,g6⟩
     ·cases d with
      |gr g=>rw[g1] at g;cases g
      |jP _=>
      rcases Nat.eq_zero_or_pos n with rfl|hn
      ·obtain⟨vs,r,ad⟩:=k q2;have:new=[]:=kP (by omega);subst this;obtain rfl:=r.ee;have run:=xj (rt:=rt) (args x0 x1 nm) (aM _) (by rw[i2];exact ad) (w':=w) rfl;obtain⟨E,M'⟩:=M.swap (hF _ (aM _) (kR _)) (id:=id) (x:=(none,0)) (so:=.grow j.size ([]++[]) t0) (eZ.refl _ _) (λo n h=>by cases h) (λ_ _ _ _ _ _ _=>rfl) ⟨p1,rfl,.inl ⟨Ren.jK _ _ _,rfl⟩⟩;exact⟨_,_,_,run,E,.jP (Ren.jK _ _ _),M'⟩
      ·obtain⟨vs,r,ad⟩:=k' q2;obtain⟨r0,w',cap,run,fr,h⟩:=grow (c0:=[]) (v0:=[]) (rt:=rt) (args x0 x1 nm) (by omega) (by omega) (by simp[Builtin.nextslicecap,hn];omega) (by simp[Builtin.firstCells]) ad .nil r rfl o2 (by simp) q2;obtain⟨h1,h2⟩:=h (σ.add st.sx (some (w.heap.size,cap),0+n)) st.sx rfl (Ren.jK _ _ _);obtain⟨E,M'⟩:=M.swap (hF _ (aM _) (kR _)) (id:=id) (fr.wide λ_ q=>q.elim) (λo m q=>.inl (by cases q;exact aM _)) (λ_ _ _ _ _ a b=>fr.block _ (M.lt a b) λq=>q) h2;exact⟨_,_,_,run,E,h1,M'⟩
     ·cases d with
      |jP g=>rw[g1] at g;cases g
      |@gr _ _ _ cp _ g hc hn=>
      rw[g1] at g;cases g;rcases ia cp (m+n) with hgt|hle
      ·obtain⟨vs,r,ad⟩:=k' q2;have hm:m<=c.length:=by rw[g4];exact Nat.le_mul_of_pos_right _ p1
       have hcap:Builtin.nextslicecap (m+n) cp<=5000000000:=Ll (by omega) (by omega);obtain⟨r0,w',cap,run,fr,h⟩:=grow (rt:=rt) (args x0 x1 nm) hgt (by omega) hcap (by
        have:=AN P (E:=j.size) (n:=m) (n':=m) (c:=cp) (w:=jy w) g2 (off:=0) (by rw[<-g4];simpa using g5) m (aM _);rw[List.take_take,Nat.min_self,ew,<-g4] at this;exact this) ad g6 r k2 o2 g4 q2
       obtain⟨h1,h2⟩:=h (σ.add st.sx (some (w.heap.size,cap),m+n)) st.sx rfl (Ren.jK _ _ _);obtain⟨E,M'⟩:=M.swap (hF _ (aM _) (kR _)) (id:=id) (fr.wide λ_ q=>q.elim) (λo m q=>.inl (by cases q;exact aM _)) (λ_ _ _ _ _ a b=>fr.block _ (M.lt a b) λq=>q) h2;exact⟨_,_,_,run,E,h1,M'⟩
      ·obtain⟨vs,r,ad⟩:=k q2;have hv:vs.length=n*j.size:=by rw[<-r.1,q2]
       have hcs:cs.toList.length=cs.size:=rfl;have hle2:(m+n)*j.size<=cs.size:=by rw[<-g3,<-hc];exact wW _ hle
       rw[lP] at hle2;obtain⟨w',a1,a2,a3⟩:=Iz P g2 (Ba r o2) (off:=m*j.size) (by omega);have run:=xj (rt:=rt) (args x0 x1 nm) hle (by rw[i2];exact ad) (w':=w') (by rw[i2];simp only[rJ,CU,tj,fU];exact a1);have sz:(⟨aW (m*j.size) vs cs.toList⟩:Array H1).size=cs.size:=nS _ _ _;have dd:DO (σ.add st.sx (some o,m+n)) w' st.sx (.grow j.size (c++new) t0):=by refine⟨p1,E9 k2 o2,.inr ⟨_,_,_,Ren.jK _ _ _,a2,by rw[sz];exact g3,by rw[aT,g4,q2,lP],by rw[aT,sz];omega,?_⟩⟩;show PW (aN σ.lit) (c++new) ((aW (m*j.size) vs cs.toList).take (c++new).length);rw[aT,VJ _ _ _ (by omega),List.take_append_of_le_length (by simp;omega)];rw[g4] at g6;rw[g4,q2,<-hv,eQ (by simp;omega)];exact g6.append r
       obtain⟨E,M'⟩:=M.swap (hF _ (aM _) (kR _)) (id:=id) (a3.wide λb q=>⟨id,_,o,m,hso,g1,q.symm⟩) (λo' n' h=>.inr ⟨_,_,_,hso,g1,by cases h;rfl⟩)
        (λi s p n' h1 h2 h3=>a3.block _ (M.lt h2 h3) λq=>h1 (M.inj _ _ _ _ _ _ _ _ h2 hso h3 g1 q)) dd
       exact⟨_,_,_,run,E,.gr (Ren.jK _ _ _) hc hle,M'⟩
    ·cases f
   ·rename_i id off n0 cap;obtain⟨so,hso,f⟩:=ax f;obtain⟨q,hq,f⟩:=ax f;obtain⟨e2,f⟩:=bd f;simp only[bB] at e2;have q1:=bX e2.1;have q2:=ed e2.2.1;have q3:=bX e2.2.2;cases hb:Nat.ble (n0+n) cap with
    |true=>
     rw[hb] at f;obtain⟨e3,f⟩:=bd f;have q4:=ed e3;have hb:=ed hb;refine⟨_,_,0,f,λ{B σ F w} hF M xs rt v u x0 x1 d d2=>?_⟩;obtain⟨o2,nm,k⟩:=g M u d2;obtain⟨vs,r,ad⟩:=k q1;obtain⟨o,m,cs,g1,g2,g3,g4⟩:=FK hq (M.obj _ _ hso);cases d with
     |sl gg hn=>rw[g1] at gg;cases gg;have:=r.1;have:=g4.1;obtain⟨w',a1,a2,a3⟩:=Iz P g2 (Ba r o2) (off:=off+n0*j.size) (by omega);have run:=xj (rt:=rt) (args x0 x1 nm) hb (by rw[i2];exact ad) (w':=w') (by rw[i2];simp only[rJ,CU,tj];exact a1);have dd:DO σ w' id (.arr (aW (off+n0*j.size) new q.1) q.2):=⟨_,_,_,g1,a2,A9 _ o2 g3,r.aW _ g4⟩;exact⟨_,_,_,run,Ext.refl _,.sl g1 hb,(M.put hso g1 a3 dd).less (λ_ _ h=>h) λ_ h=>h.1⟩
    |false=>
     rw[hb] at f;obtain⟨e3,f⟩:=bd f;simp only[bB] at e3;have r1:=ed e3.1;have r2:=ed e3.2.1;have r3:=ed e3.2.2;refine⟨_,_,1,f,λ{B σ F w} hF M xs rt v u x0 x1 d d2=>?_⟩;obtain⟨o2,nm,_⟩:=g M u d2;obtain⟨_,_,k'⟩:=g (M.same (JP w)) u d2;obtain⟨vs,r,ad⟩:=k' q1;obtain⟨o,m,cs,g1,g2,g3,g4⟩:=FK hq (M.obj _ _ hso);have hgt:cap<n0+n:=by
      rcases ia cap (n0+n) with h|h
      ·exact h
      ·rw[C6 h] at hb;cases hb
     cases d with
     |sl gg hn=>
      rw[g1] at gg;cases gg;have:=g4.1;obtain⟨r0,w',cp,run,fr,h⟩:=grow (rt:=rt) (args x0 x1 nm) hgt (by omega) r3 (by
       have:=AN P (E:=j.size) (n:=n0) (n':=n0) (c:=cap) (w:=jy w) g2 (off:=off) (by omega) n0 (aM _);rw[List.take_take,Nat.min_self] at this;exact this) ad ((g4.drop off).take _) r (qY g3 λ_ h=>qG (uN h)) o2 (by rw[dE,er];omega) q1
      obtain⟨h1,h2⟩:=h (σ.add st.sx (some (w.heap.size,cp),n0+n)) st.sx rfl (Ren.jK _ _ _);rw[<-q3] at h2;obtain⟨E,M'⟩:=M.new (hF _ (aM _) (kR _)) fr h2;exact⟨_,_,_,run,E,h1,by rw[q3] at M';exact M'⟩
   ·cases f
  ·cases e
 ·cases e
end
section
variable{β:Type}
def ox(x:Hx SV)(d:Nat)(K:Nat->Hx β):Hx β:=match x with
 |none=>K d
 |some (.i _ n)=>aF n K
 |_=>none
def gL(sz l h:Nat)(x:H1)(K:H1->Hx β):Hx β:=match x with
 | .func (.via _ _ _ true) cs _=>K (ae (h -l) ((cs.toList.drop (l*sz)).take ((h -l)*sz)))
 |_=>none
def WZ(T:TT)(t:TypeId)(x:SV)(lo hi mx:Hx SV)(K:SV->Hx β):Hx β:=
 ob (T.get t) λi=>match i.desc,x,mx with
  | .slice e,.v x,none=>ob (T.get e) λj=>aw x λn=>ox hi n λh=>ox lo 0 λl=>cond (Nat.ble h n&&Nat.ble l h) (gL j.size l h x λy=>K (.v y)) none
  | .slice e,.v x,some mx=>ob (T.get e) λj=>aw x λn=>ox (some mx) n λm=>cond hi.isSome (ox hi n λh=>ox lo 0 λl=>cond (Nat.ble m n&&(Nat.ble h m&&Nat.ble l h)) (gL j.size l h x λy=>K (.v y)) none) none
  | .array n e,.ptr id off,none=>ob (T.get e) λj=>ox hi n λh=>ox lo 0 λl=>cond (Nat.blt n Vi&&(Nat.ble h n&&Nat.ble l h)) (K (.sl id (cond (Nat.beq n l) off (off+l*j.size)) (h -l) (n -l))) none
  | .slice e,.sl id off n c,none=>ob (T.get e) λj=>ox hi n λh=>ox lo 0 λl=>cond (Nat.ble h c&&Nat.ble l h) (K (.sl id (cond (Nat.beq c l) off (off+l*j.size)) (h -l) (c -l))) none
  | .string,.s s,none=>ox hi s.size λh=>ox lo 0 λl=>cond (Nat.ble h s.size&&Nat.ble l h) (K (.s (s.extract l h))) none
  |_,_,_=>bJ 19
def wZ(σ:Ren)(x:Hx SV)(v:Hx H1):Prop:=match x,v with
 |none,none=>True
 |some x,some v=>DV σ x v
 |_,_=>False
def BV(v:Hx H1)(d m:Nat):Prop:=v=none/\m=d\/∃k,v=some (.int k (Int.ofNat m))
theorem qf{x:Hx SV}{d:Nat}{K:Nat->Hx β}{b:β}(e:ox x d K=some b):∃m,K m=some b/\∀(σ:Ren)(v:Hx H1),wZ σ x v->BV v d m:=by
 unfold ox at e;split at e
 ·exact⟨_,e,λσ v h=>by cases v with|none=>exact .inl ⟨rfl,rfl⟩|some v=>exact h.elim⟩
 ·obtain⟨m,rfl,e⟩:=xm e;exact⟨m,e,λσ v h=>by
   cases v with
   |none=>exact h.elim
   |some v=>have h:DV σ _ v:=h;cases h;exact .inr ⟨_,rfl⟩⟩
 ·cases e
theorem Jw{P:Program}{k:IntKind}{m lim:Nat}(h:m<=lim)(code:BoundsCode)(w:jp):(Instr.sliceBound (.int k (Int.ofNat m)) lim code).run P w=.ok m w:=by unfold Instr.sliceBound;simp only[dA,asIntOf,eX,eW,ay (show(0:Int)<=Int.ofNat m/\Int.ofNat m<=(lim:Int) from by simp;omega)];simp
theorem Jx{P:Program}{lo hi mx:Hx H1}{len cap l h m:Nat}(hl:BV lo 0 l)(hh:BV hi len h)(hm:BV mx cap m)(hs:mx.isSome=true->hi.isSome=true)(a1:m<=cap)(a2:h<=m)(a3:l<=h)(b:Bool)(w:jp):(Instr.sliceBounds b len cap lo hi mx).run P w=.ok (l,h,m) w:=by
 unfold Instr.sliceBounds;rcases hm with⟨rfl,rfl⟩|⟨k1,rfl⟩<;>rcases hh with⟨rfl,rfl⟩|⟨k2,rfl⟩<;>rcases hl with⟨rfl,rfl⟩|⟨k3,rfl⟩<;>first
  |(simp at hs;done)
  |simp only[dA,eX,eW,Jw a1,Jw a2,Jw a3]
theorem AO{a b c d:Nat}(h:(Nat.ble a b&&Nat.ble c d)=true):a<=b/\c<=d:=by rw[bB] at h;exact⟨ed h.1,ed h.2⟩
section
variable{P:Program} {T:TT} (HT:fA P T) {t e:TypeId} {i j:jw} (hi':T.get t=some i) (hd:i.desc=.slice e) (hj:T.get e=some j) {lo hi mx:Hx H1} {n c l h m:Nat} (hl:BV lo 0 l) (hh:BV hi n h) (hm:BV mx c m) (hs:mx.isSome=true->hi.isSome=true) (a1:m<=c) (a2:h<=m) (a3:l<=h) {w:jp}
include HT hi' hd hj hl hh hm hs a1 a2 a3
theorem Na(a:Hx Addr):(Instr.sliceAt t (.slice a n c) lo hi mx).run P w=.ok (.slice (if m=l then a else a.map (·.add (l*j.size))) (h -l) (m -l)) w:=by unfold Instr.sliceAt Instr.slice;simp only[dA,gQ w HT hi',hd,eW,Jx hl hh hm hs a1 a2 a3,run_sizeOf w HT hj,eX]
end
theorem DM{m:Nat->Nat->Hx H1}{n:Nat}{p:Array FieldStep}{f:FuncId}{cs ys:Array H1}{v:H1}(r:aN m (.func (.via n p f true) cs ys) v)(E l h M:Nat)(hlh:l<=h)(hn:h<=n):∃a c,v=.slice a n c/\n<=c/\(h<=M->M<=c->aN m (ae (h -l) ((cs.toList.drop (l*E)).take ((h -l)*E))) (.slice (if M=l then a else a.map (·.add (l*E))) (h -l) (M -l))):=by
 have zero:∀{l h:Nat}{cs:qr H1}{b:Hx Addr}{c:Nat},h -l=0->aN m (ae (h -l) (cs.take ((h -l)*E))) (.slice b (h -l) c):=by intro l h cs b c z;rw[z,Nat.zero_mul,oZ];exact .gy
 cases r with
 |lC hl hr hm hs hc ho=>
  rename_i c a zs;refine⟨some a,c,rfl,hc,λq1 q2=>?_⟩;rcases Nat.eq_zero_or_pos (h -l) with z|z
  ·exact zero z
  ·rw[aq (by omega)];have k:=(PW.drop ⟨hl,hr⟩ (l*E)).take ((h -l)*E);refine .lC (ys:=(zs.drop (l*E)).take ((h -l)*E)) k.1 k.2 (λi y hy=>?_) (Ji _ _ hs) (by omega) (qY ho λ_ h=>qG (uN h));rw[pX] at hy;split at hy
   ·rw[sV] at hy;rw[Jg,Jh,o5];exact hm _ _ hy
   ·cases hy
 |gy=>exact⟨_,_,rfl,ib _,λ_ _=>zero (by omega)⟩
 |zG=>exact⟨_,_,rfl,ib _,λ_ _=>zero (by omega)⟩
 |A1=>exact⟨_,_,rfl,ib _,λ_ _=>zero (by omega)⟩
theorem aix{P:Program}{T:TT}(HT:fA P T){t:TypeId}{x:SV}{lo hi mx:Hx SV}{K:SV->Hx β}{b:β}(e:WZ T t x lo hi mx K=some b):
 ∃sv,K sv=some b/\∀(σ:Ren) v (lo' hi' mx':Hx H1) (w:jp),DV σ x v->wZ σ lo lo'->wZ σ hi hi'->wZ σ mx mx'->∃u,(Instr.sliceAt t v lo' hi' mx').run P w=.ok u w/\DV σ sv u:=by
 have no:∀{σ:Ren}{v:Hx H1},wZ σ none v->v=none:=λ{σ v} h=>by cases v with|none=>rfl|some v=>exact h.elim
 replace e:=ax e;obtain⟨i,hi',e⟩:=e;split at e
 ·rename_i el x hd;replace e:=ax e;obtain⟨j,hj,e⟩:=e;obtain⟨n,p,f,cs,ys,rfl,e⟩:=Eu e;obtain⟨h,e,b1⟩:=qf e;obtain⟨l,e,b2⟩:=qf e;obtain⟨e1,e⟩:=bd e;obtain⟨e2,e3⟩:=AO e1;refine⟨_,e,λσ v lo' hi2 mx' w d dl dh dm=>?_⟩;obtain rfl:=no dm;cases d with
  |v r _=>
   obtain⟨a,c,rfl,hc,k⟩:=DM r j.size l h (M:=(match v with| .slice _ _ c=>c|_=>0)) e3 e2
   exact⟨_,Na HT hi' hd hj (b2 σ _ dl) (b1 σ _ dh) (.inl ⟨rfl,rfl⟩) (by simp) (aM _) (by omega) e3 a,.v (k (by simp;omega) (by simp)) rfl⟩
 ·rename_i el x mx hd;replace e:=ax e;obtain⟨j,hj,e⟩:=e;obtain⟨n,p,f,cs,ys,rfl,e⟩:=Eu e;obtain⟨m,e,b0⟩:=qf e;obtain⟨e0,e⟩:=bd e;obtain⟨h,e,b1⟩:=qf e;obtain⟨l,e,b2⟩:=qf e;obtain⟨e1,e⟩:=bd e;rw[bB] at e1;have e2:=ed e1.1;obtain⟨e3,e4⟩:=AO e1.2;refine⟨_,e,λσ v lo' hi2 mx' w d dl dh dm=>?_⟩;have hs:hi2.isSome=true:=by cases hi<;>cases hi2<;>first|rfl|exact(id dh:False).elim|cases e0
  have hb:∃k,mx'=some (.int k (Int.ofNat m)):=by
   rcases b0 σ mx' dm with⟨q,_⟩|q
   ·subst q;exact(id dm:False).elim
   ·exact q
  cases d with
  |v r _=>obtain⟨a,c,rfl,hc,k⟩:=DM r j.size l h m e4 (by omega);exact⟨_,Na HT hi' hd hj (b2 σ _ dl) (b1 σ _ dh) (.inr hb) (λ_=>hs) (by omega) e3 e4 a,.v (k e3 (by omega)) rfl⟩
 ·rename_i n el id off hd;replace e:=ax e;obtain⟨j,hj,e⟩:=e;obtain⟨h,e,b1⟩:=qf e;obtain⟨l,e,b2⟩:=qf e;obtain⟨e1,e⟩:=bd e;rw[bB] at e1;obtain⟨e2,e3⟩:=AO e1.2;refine⟨_,e,λσ v lo' hi2 mx' w d dl dh dm=>?_⟩;obtain rfl:=no dm;cases d with
  |ptr g=>refine⟨_,?_,.sl g (by omega)⟩;unfold Instr.sliceAt;simp only[dA,gQ w HT hi',hd,eW,Instr.sureAddr,eX,Jx (b2 σ _ dl) (b1 σ _ dh) (.inl ⟨rfl,rfl⟩) (by simp) (aM n) e2 e3,run_sizeOf w HT hj,Qo]
 ·rename_i el id off n c hd;replace e:=ax e;obtain⟨j,hj,e⟩:=e;obtain⟨h,e,b1⟩:=qf e;obtain⟨l,e,b2⟩:=qf e;obtain⟨e1,e⟩:=bd e;obtain⟨e2,e3⟩:=AO e1;refine⟨_,e,λσ v lo' hi2 mx' w d dl dh dm=>?_⟩;obtain rfl:=no dm;cases d with
  |sl g hn=>refine⟨_,Na HT hi' hd hj (b2 σ _ dl) (b1 σ _ dh) (.inl ⟨rfl,rfl⟩) (by simp) (aM _) e2 e3 _,?_⟩;rw[rJ,<-apply_ite some,Qo];exact .sl g (by omega)
 ·rename_i s hd;obtain⟨h,e,b1⟩:=qf e;obtain⟨l,e,b2⟩:=qf e;obtain⟨e1,e⟩:=bd e;obtain⟨e2,e3⟩:=AO e1;refine⟨_,e,λσ v lo' hi2 mx' w d dl dh dm=>?_⟩;obtain rfl:=no dm;cases d;refine⟨_,?_,.s _⟩;unfold Instr.sliceAt Instr.slice;simp[dA,gQ w HT hi',hd,Jx (b2 σ _ dl) (b1 σ _ dh) (.inl ⟨rfl,rfl⟩) (by simp) (aM s.size) e2 e3]
 ·cases e
end
section
variable{β:Type}
def WO(T:TT)(st:St)(t:TypeId)(dst src:SV)(K:SV->St->Hx β):Hx β:=
 ob (T.get t) λi=>match i.desc with
  | .slice e=>ob (T.get e) λj=>cond (Nat.blt 0 j.size) (CT st j.size src λn new=>match dst with
   | .sl id off nd _=>ob (st.h.get id) λso=>ob (BC so) λq=>cond (Nat.beq new.length (n*j.size)&&Nat.ble (off+Nat.min n nd*j.size) q.1.length)
    (K (.i .i64 (Int.ofNat (Nat.min n nd))) {st with h:=st.h.set id (.arr (aW off (new.take (Nat.min n nd*j.size)) q.1) q.2)}) none
   | .nl=>K (.i .i64 0) st
   |_=>bJ 45) none
  |_=>bJ 46
theorem aa2{P:Program}{w w':jp}{E n:Nat}{u:H1}(h:(Builtin.lenOf u).run P w=.ok n w'):(Builtin.firstCells E 0 u).run P w=.ok ⟨[]⟩ w:=by
 cases u with
 |slice a _ _=>
  cases a with
  |none=>simp[Builtin.firstCells]
  |some a=>simp only[Builtin.firstCells,Nat.zero_mul];exact Ey P a w
 |string s=>simp[Builtin.firstCells]
 |_=>cases h
theorem aij{P:Program}{T:TT}(HT:fA P T){st:St}{ts:Array TypeId}{t:TypeId}(ht:ts.toList[0]? =some t){dst src:SV}{K:SV->St->Hx β}{b:β}(e:WO T st t dst src K=some b):
 ∃sv h',K sv {st with h:=h'}=some b/\∀{B:Bs}{σ:Ren}{F:Nat->Prop}{w:jp},Mem B σ (hG st.h) F w->∀(xs:Array H1)(rt:TypeId) v u,xs[0]? =some v->xs[1]? =some u->DV σ dst v->DV σ src u->∃r w',(Builtin.copy_ ts rt xs).run P w=.ok r w'/\DV σ sv r/\Mem B σ (hG h') F w':=by
 replace e:=ax e;obtain⟨i,hi,e⟩:=e;have ht:ts[0]? =some t:=by simpa using ht
 split at e
 ·rename_i el hd;replace e:=ax e;obtain⟨j,hj,e⟩:=e;obtain⟨p1,e⟩:=bd e;obtain⟨n,new,f,g⟩:=PC (P:=P) (fb p1) e;clear e;have run:∀{w w':jp}{xs:Array H1}{rt:TypeId}{u:H1}{b:Hx Addr}{nd c:Nat}{vs:qr H1},xs[0]? =some (.slice b nd c)->xs[1]? =some u->(Builtin.lenOf u).run P w=.ok n w->(Builtin.firstCells j.size (Nat.min n nd) u).run P w=.ok ⟨vs⟩ w->(CU b vs).run P w=.ok () w'->(Builtin.copy_ ts rt xs).run P w=.ok (.int .i64 (Int.ofNat (Nat.min n nd))) w':=by
   intro w w' xs rt u b nd c vs x0 x1 l f s;simp[Builtin.copy_,ht,x0,x1,dA,gQ w HT hi,hd,l,run_sizeOf w HT hj,f];cases b with
   |none=>have s:Result.ok () w=Result.ok () w':=s;cases s;rfl
   |some a=>have s:(storeCells a vs).run P w=.ok () w':=s;simp[s];rfl
  split at f
  ·rename_i id off nd cap;obtain⟨so,hso,f⟩:=ax f;obtain⟨q,hq,f⟩:=ax f;obtain⟨e1,f⟩:=bd f;rw[bB] at e1;have q1:=bX e1.1;have q2:=ed e1.2;refine⟨_,_,f,λM xs rt v u x0 x1 d d2=>?_⟩;obtain⟨w1,w2,w3,_⟩:=g M u d2;obtain⟨vs,r,fc⟩:=w3 q1;obtain⟨o,m,cs,g1,g2,g3,g4⟩:=FK hq (M.obj _ _ hso);cases d with
   |sl gg hn=>rw[g1] at gg;cases gg;have r':=r.take (Nat.min n nd*j.size);have o':bh (new.take (Nat.min n nd*j.size))=true:=qY w1 λ_=>uN;have:=g4.1;have hmn:Nat.min n nd*j.size<=n*j.size:=wW _ (Nat.min_le_left _ _);obtain⟨w',a1,a2,a3⟩:=Iz P g2 (Ba r' o') (off:=off) (by rw[dE];omega);exact⟨_,w',run x0 x1 w2 (fc _ (Nat.min_le_left _ _)) a1,.i _ _,M.put hso g1 a3 ⟨_,_,_,g1,a2,A9 _ o' g3,r'.aW _ g4⟩⟩
  ·refine⟨_,_,f,λM xs rt v u x0 x1 d d2=>?_⟩;cases d;obtain⟨w1,w2,w3,_⟩:=g M u d2;have z:Nat.min n 0=0:=by show min n 0=0;omega
   have:=run (w':=_) (rt:=rt) (vs:=[]) x0 x1 w2 (by rw[z];exact aa2 w2) rfl;rw[z] at this;exact⟨_,_,this,.i _ _,M⟩
  ·cases f
 ·cases e
def aii(T:TT)(s d:TypeId)(x:SV)(K:SV->Hx β):Hx β:=match x with
 | .i _ n=>ob (T.get s) λ_=>ob (T.get d) λj=>match j.desc with
  | .int k=>K (.i k (ah k n))
  |_=>bJ 13
 |_=>bJ 14
def Nh(T:TT)(st:St)(s d:TypeId)(x:SV)(K:SV->Hx β):Hx β:=match x with
 | .i k n=>aii T s d (.i k n) K
 | .s _=>bJ 48
 |x=>ob (T.get s) λi=>ob (T.get d) λj=>match i.desc,j.desc with
  | .slice e,.string=>ob (T.get e) λk=>cond (Ep k.desc) (CT st 1 x λn c=>ob (pS c) λns=>K (.s (mkStr ns))) none
  | .slice e,_=>match x with
   | .sl id off n cap=>cond (Nat.beq s d) (ob (T.get e) λk=>cond (Ep k.desc) (ob (st.h.get id) λso=>ob (BC so) λ_=>K (.sl id off n cap)) none) none
   |_=>bJ 49
  |_,_=>bJ 50
theorem Y6{m:Nat->Nat->Hx H1}:∀{xs ys:qr H1}{ns:qr Int},PW (aN m) xs ys->pS xs=some ns->ys=ns.map (Value.int .u8)
 |[],_,ns,r,e=>by cases e;rw[r.ee];rfl
 |x::xs,_,ns,r,e=>by
  obtain⟨y,ys,rfl,a,t⟩:=r.inv;unfold pS at e;split at e
  ·simp_all
  ·rename_i n xs hh;cases hh;obtain⟨ms,h1,e⟩:=ax e;cases e;cases a;rw[Y6 t h1];rfl
  ·cases e
theorem Ku{w:jp}{b b':Nat}{cs0:Array H1}{t0:TypeId}{fz0:Nat×Nat}(h0:w.heap[b]? =some (.cells cs0 t0 fz0)){cs:Array H1}{t:TypeId}(c:Cl w b' cs t):Cl (w.freeze ⟨b,cs0.size,none⟩ 1) b' cs t:=by
 obtain⟨fz,h,k⟩:=c;by_cases e:b'=b
 ·subst e;rw[h0] at h;simp only[sX,Obj.cells.injEq] at h;obtain⟨rfl,rfl,rfl⟩:=h;refine⟨if fz0.1 ==fz0.2 then(cs0.size,cs0.size+1) else(min fz0.1 cs0.size,max fz0.2 (cs0.size+1)),by simp[World.freeze,Array.getElem?_modify,h0],.inr ?_⟩;rcases k with rfl|k
  ·simp
  ·split<;>grind
 ·exact⟨fz,by simp[World.freeze,Array.getElem?_modify,Ne.symm e,h],k⟩
theorem Mem.al4{B:Bs}{σ:Ren}{G:Nat->SO->Prop}{F:Nat->Prop}{w:jp}(M:Mem B σ G F w){id n:Nat}{so:SO}{o:Nat×Nat}(hg:G id so)(hn:σ.nm id=some (some o,n)){cs:Array H1}{t:TypeId}(c:Cl w o.1 cs t):Mem B σ G F (w.freeze ⟨o.1,cs.size,none⟩ 1):=by
 obtain⟨fz,h0,_⟩:=c;have ne:∀b,b≠o.1 ->(w.freeze ⟨o.1,cs.size,none⟩ 1).heap[b]? =w.heap[b]? :=λb hb=>by simp[World.freeze,Array.getElem?_modify,Ne.symm hb]
 refine M.IE (λ_ _ h=>h) rfl (eZ.wide (own:=λb=>b=o.1) ⟨by simp[World.freeze],by simp[World.freeze],by simp[World.freeze],by simp[World.freeze],λb _ hb=>ne b hb⟩ λb e=>⟨id,so,o,n,hg,hn,e.symm⟩) (λi s h=>.inr ?_) (λi s o n h q=>.inl ⟨i,s,o,n,h,q,rfl⟩) M.inj M.fresh;have d:=M.obj i s h;cases s with
 |cells=>obtain⟨o,n,cs,a,b,c⟩:=d;exact⟨o,n,cs,a,Ku h0 b,c⟩
 |arr=>obtain⟨o,n,cs,a,b,c⟩:=d;exact⟨o,n,cs,a,Ku h0 b,c⟩
 |grow=>
  obtain⟨p,q,d⟩:=d;refine⟨p,q,?_⟩;rcases d with a|⟨o,n,cs,a,b,c⟩
  ·exact .inl a
  ·exact .inr ⟨o,n,cs,a,Ku h0 b,c⟩
 |mp=>
  obtain⟨o',n,es',ck,a,b,c⟩:=d;refine⟨o',n,es',ck,a,?_,c⟩;by_cases e:o'.1 =o.1
  ·rw[e,h0] at b;cases b
  ·rw[ne _ e];exact b
theorem aik{P:Program}{T:TT}(HT:fA P T){st:St}{s d:TypeId}{x:SV}{K:SV->Hx β}{b:β}(e:Nh T st s d x K=some b):
 ∃sv,K sv=some b/\∀{B:Bs}{σ:Ren}{G:Nat->SO->Prop}{F:Nat->Prop}{w:jp},(∀id so,st.h.get id=some so->G id so)->Mem B σ G F w->∀v,DV σ x v->∃u w',(convert s d v).run P w=.ok u w'/\DV σ sv u/\Mem B σ G F w':=by
 unfold Nh at e;split at e
 ·obtain⟨i,hi,e⟩:=ax e;obtain⟨j,hj,e⟩:=ax e;split at e
  ·rename_i k hd;refine⟨_,e,λsG M v dv=>?_⟩;cases dv;refine⟨_,_,?_,.i _ _,M⟩;simp[convert,gQ _ HT hi,gQ _ HT hj,hd,pc];rfl
  ·cases e
 ·cases e
 ·rename_i x hni hns;replace e:=ax e;obtain⟨i,hi,e⟩:=e;replace e:=ax e;obtain⟨j,hj,e⟩:=e;split at e
  ·rename_i el h1 h2;obtain⟨k,hk,e⟩:=ax e;obtain⟨h3,e⟩:=bd e;obtain⟨n,c,f,g⟩:=PC (P:=P) Nat.one_pos e;obtain⟨ns,h4,f⟩:=ax f;refine⟨_,f,λ{_ σ _ _ w} sG M v dv=>⟨.string (mkStr ns),w,?_,.s _,M⟩⟩;obtain⟨g1,g2,g3,g4⟩:=g (M.less sG λ_ h=>h) v dv;have hs:=HT.under s i hi;have hd:=HT.under d j hj;have he:=HT.under el k hk;rw[SX h3] at he;rw[h1] at hs;rw[h2] at hd;rcases g4 with⟨z,rfl⟩|⟨hlen,a,m,cp,rfl⟩
   ·exact absurd rfl (hns _)
   ·cases g2;obtain⟨vs,r,fc⟩:=g3 hlen;have hv:=Y6 r h4;have fc:=fc n (aM _);rw[<-hlen,r.1,oY,hv] at fc;rw[run_convert_bytes_string w s d el a n cp hs he hd];cases a with
    |none=>
     simp only[Builtin.firstCells,eX] at fc;injection fc with fc;have:ns=[]:=by have:=bY Array.toList fc;simpa using this.symm
     subst this;unfold Conv.bytesToString;rfl
    |some a=>have:=run_bytesToString w a n cp ns (by simpa[Builtin.firstCells] using fc);rw[this,TM];rfl
  ·rename_i el h1 h2;split at e
   ·rename_i id off n cap;replace e:=bd e;obtain⟨hsd,e⟩:=e;obtain rfl:=bX hsd;replace e:=ax e;obtain⟨k,hk,e⟩:=e;replace e:=bd e;obtain⟨h3,e⟩:=e;replace e:=ax e;obtain⟨so,hso,e⟩:=e;replace e:=ax e;obtain⟨q,hq,e⟩:=e;refine⟨_,e,λ{_ σ _ _ w} sG M v dv=>?_⟩;obtain⟨o,m,cs,g1,g2,g3,g4⟩:=FK hq (M.obj _ _ (sG _ _ hso));cases dv with
    |sl g hn=>
    rename_i m2 o2;have ho:o2=o:=by have g':=g.symm.trans g1;simp only[sX,Prod.mk.injEq] at g';exact g'.1
    refine⟨_,w.freeze ⟨o.1,cs.size,none⟩ 1,?_,.sl g hn,M.al4 (sG _ _ hso) g1 g2⟩;obtain⟨fz,c1,_⟩:=g2;have hsh:w.shape? o.1 =some (q.2,cs.size):=by unfold World.shape?;rw[c1]
    have q1:=gQ w HT hi;have q2:=gQ w HT hk;rw[SX h3] at q2;rw[h1] at q1;unfold convert;simp[q1,q2,ho,markStringish,hsh]
   ·cases e
  ·cases e
end
section
variable{β:Type}
def Ns(op:UnOp)(x:SV)(K:SV->Hx β):Hx β:=match op,x with
 | .not,.b a=>K (.b (!a))
 | .neg,.i k n=>K (.i k (ah k (Int.sub 0 n)))
 |_,_=>bJ 12
def WT(T:TT)(st:St)(t:TypeId)(x:SV)(K:SV->Hx β):Hx β:=
 ob (T.get t) λi=>match i.desc,x with
  | .string,.s s=>K (.i .i64 (Int.ofNat s.data.toList.length))
  | .array n _,_=>K (.i .i64 (Int.ofNat n))
  | .slice _,.nl=>K (.i .i64 (Int.ofNat 0))
  | .slice _,.v x=>aw x λn=>K (.i .i64 (Int.ofNat n))
  | .slice _,.sl _ _ n _=>K (.i .i64 (Int.ofNat n))
  | .slice _,.gr id _=>ob (st.h.get id) λso=>match so with
   | .grow E c _=>K (.i .i64 (Int.ofNat (c.length/E)))
   |_=>bJ 17
  |_,_=>bJ 18
def SR:TypeDesc->Bool
 | .interface _=>true
 |_=>false
def WS(T:TT)(t:TypeId)(x:SV)(K:SV->Hx β):Hx β:=ob (T.get t) λi=>cond (SR i.desc) none (K (.fO t x))
def WM(T:TT)(x:SV)(a:TypeId)(ok:Bool)(K:SV->Hx β):Hx β:=ob (T.get a) λi=>cond (SR i.desc) none (match x with
 | .ni=>cond ok (ob i.zero λz=>ob (wK z) λzv=>K (.aG [zv,.b false])) none
 | .fO t v=>cond (Nat.beq t a) (cond ok (K (.aG [v,.b true])) (K v)) (cond ok (ob i.zero λz=>ob (wK z) λzv=>K (.aG [zv,.b false])) none)
 |_=>bJ 55)
def FZ(mx:Bool)(args:qr SV)(K:SV->Hx β):Hx β:=match args with
 |[.i k a,.i k' b]=>cond (decide (k=k')) (K (.i k (cond (cond mx (ak a b) (ak b a)) b a))) none
 |_=>bJ 77
theorem aiz{P:Program}{op:UnOp}{x:SV}{K:SV->Hx β}{b:β}(e:Ns op x K=some b):∃sv,K sv=some b/\∀(σ:Ren) v w,DV σ x v->∃u,(Op.unary op v).run P w=.ok u w/\DV σ sv u:=by
 unfold Ns at e;split at e
 ·exact⟨_,e,λσ v w d=>by cases d;exact⟨_,rfl,.b _⟩⟩
 ·exact⟨_,e,λσ v w d=>by cases d;rw[pc];exact⟨_,rfl,.i _ _⟩⟩
 ·cases e
theorem ais{P:Program}{T:TT}(HT:fA P T){ts:Array TypeId}{t:TypeId}(ht:ts.toList[0]? =some t){st:St}{x:SV}{K:SV->Hx β}{b:β}(e:WT T st t x K=some b):
 ∃sv,K sv=some b/\∀{B:Bs}{σ:Ren}{F:Nat->Prop}{w:jp},Mem B σ (hG st.h) F w->∀(xs:Array H1)(rt:TypeId) v,xs[0]? =some v->DV σ x v->∃u,(Builtin.len_ ts rt xs).run P w=.ok u w/\DV σ sv u:=by
 have ht:ts[0]? =some t:=by simpa using ht
 replace e:=ax e;obtain⟨i,hi,e⟩:=e;have run:∀{w:jp}{xs:Array H1}{rt:TypeId}{el:TypeId}{a:Hx Addr}{n c:Nat},i.desc=.slice el->xs[0]? =some (.slice a n c)->(Builtin.len_ ts rt xs).run P w=.ok (.int .i64 (Int.ofNat n)) w:=by intro w xs rt el a n c hd x0;simp[Builtin.len_,ht,x0,dA,gQ w HT hi,hd];rfl
 split at e
 ·rename_i hd;refine⟨_,e,λM xs rt v x0 d=>?_⟩;cases d;refine⟨_,?_,.i _ _⟩;simp[Builtin.len_,ht,x0,dA,gQ _ HT hi,hd];rfl
 ·rename_i hd;refine⟨_,e,λM xs rt v x0 d=>⟨_,?_,.i _ _⟩⟩;simp[Builtin.len_,ht,x0,dA,gQ _ HT hi,hd];rfl
 ·rename_i hd;exact⟨_,e,λM xs rt v x0 d=>by cases d;exact⟨_,run hd x0,.i _ _⟩⟩
 ·rename_i hd;obtain⟨n,p,f,cs,ys,rfl,e⟩:=Eu e;refine⟨_,e,λM xs rt v x0 d=>?_⟩;cases d with
  |v a _=>cases a<;>exact⟨_,run hd x0,.i _ _⟩
 ·rename_i hd;exact⟨_,e,λM xs rt v x0 d=>by cases d;exact⟨_,run hd x0,.i _ _⟩⟩
 ·rename_i hd;obtain⟨so,hso,e⟩:=ax e;split at e
  ·rename_i E c t0;refine⟨_,e,λM xs rt v x0 d=>?_⟩;obtain⟨k1,k2,k3⟩:=M.obj _ _ hso;rcases k3 with⟨g1,rfl⟩|⟨o,n,cs,g1,_,_,g2,_⟩
   ·cases d with
    |jP g=>exact⟨_,run hd x0,by simp only[List.length_nil,Nat.zero_div];exact .i _ _⟩
    |gr g=>rw[g1] at g;cases g
   ·cases d with
    |jP g=>rw[g1] at g;cases g
    |gr g hc hn=>rw[g1] at g;cases g;exact⟨_,run hd x0,by rw[g2,ja _ k1];exact .i _ _⟩
  ·cases e
 ·cases e
theorem aio{P:Program}{T:TT}(HT:fA P T){t:TypeId}{x:SV}{K:SV->Hx β}{b:β}(e:WS T t x K=some b):∃sv,K sv=some b/\∀(σ:Ren) v w,DV σ x v->∃u,(Instr.makeInterface t v).run P w=.ok u w/\DV σ sv u:=by
 obtain⟨i,hi,e⟩:=ax e;obtain⟨hc,e⟩:=vh e;refine⟨_,e,λσ v w d=>⟨.iface t v,?_,.fO d⟩⟩;simp[Instr.makeInterface,gQ w HT hi];split
 ·rename_i hd;rw[hd] at hc;cases hc
 ·simp
theorem aid{P:Program}{T:TT}(HT:fA P T){x:SV}{a:TypeId}{ok:Bool}{K:SV->Hx β}{b:β}(e:WM T x a ok K=some b):∃sv,K sv=some b/\∀(σ:Ren) v xt w,DV σ x v->∃u,(Instr.typeAssert v xt a ok).run P w=.ok u w/\DV σ sv u:=by
 replace e:=ax e;obtain⟨i,hi,e⟩:=e;obtain⟨hc,e⟩:=vh e;have nd:∀m,i.desc≠.interface m:=λm e=>by rw[e] at hc;cases hc
 have aG:∀{σ:Ren}{x:SV}{v:H1}{q:Bool},DV σ x v->DV σ (.aG [x,.b q]) (.tuple #[v,.bool q]):=λ{_ _ _ q} d=>
  have h:=PW.cons d (PW.cons (DV.b q) PW.nil)
  .aG h.1 h.2
 split at e
 ·cases ok with
  |false=>cases e
  |true=>
   obtain⟨z,hz,e⟩:=ax e;obtain⟨zv,hv,e⟩:=ax e;refine⟨_,e,λσ v xt w d=>?_⟩;cases d;refine⟨.tuple #[z,.bool false],?_,aG (zo hv)⟩;unfold Instr.typeAssert;simp[gQ w HT hi];cases hd:i.desc<;>first
    |exact absurd hd (nd _)
    |simp[sC w HT hi hz]
 ·rename_i t y _;cases ht:Nat.beq t a with
  |true=>
   rw[ht] at e;have hta:=bX ht;cases ok with
   |true=>
    refine⟨_,e,λσ v xt w d=>?_⟩;cases d with
    |fO g=>subst hta;refine⟨_,?_,aG g⟩;unfold Instr.typeAssert;simp[gQ w HT hi]
   |false=>
    refine⟨_,e,λσ v xt w d=>?_⟩;cases d with
    |fO g=>subst hta;refine⟨_,?_,g⟩;unfold Instr.typeAssert;simp[gQ w HT hi]
  |false=>
   rw[ht] at e;have ne:t≠a:=λq=>by subst q;simp at ht
   cases ok with
   |false=>cases e
   |true=>
    obtain⟨z,hz,e⟩:=ax e;obtain⟨zv,hv,e⟩:=ax e;refine⟨_,e,λσ v xt w d=>?_⟩;cases d with
    |fO g=>
     refine⟨.tuple #[z,.bool false],?_,aG (zo hv)⟩;unfold Instr.typeAssert;simp[gQ w HT hi,ne];cases hd:i.desc<;>first
      |exact absurd hd (nd _)
      |simp[sC w HT hi hz]
 ·cases e
theorem WW{P:Program}{mx:Bool}{args:qr SV}{K:SV->Hx β}{b:β}(e:FZ mx args K=some b):∃sv,K sv=some b/\∀(σ:Ren)(xs:Array H1) ts t w,fm σ args xs.toList->∃u,(cond mx (Builtin.max_ ts t xs) (Builtin.min_ ts t xs)).run P w=.ok u w/\DV σ sv u:=by
 unfold FZ at e;split at e
 ·rename_i k x k' y;obtain⟨_,e⟩:=bd e;refine⟨_,e,λσ xs ts t w d=>?_⟩;obtain⟨v1,r,h1,a1,d⟩:=d.inv;obtain⟨v2,r,rfl,a2,d⟩:=d.inv;obtain rfl:=d.ee;cases a1;cases a2;refine⟨_,?_,.i _ _⟩;cases mx with
  |true=>show(Builtin.max_ ts t xs).run P w=_;simp only[Builtin.max_,h1,List.foldlM_cons,List.foldlM_nil];rw[show(Builtin.max2 (.int k x) (.int k' y))=pure (.int k (if y>x then y else x)) from rfl,nK];by_cases e:x<y<;>simp[e]
  |false=>show(Builtin.min_ ts t xs).run P w=_;simp only[Builtin.min_,h1,List.foldlM_cons,List.foldlM_nil];rw[show(Builtin.min2 (.int k x) (.int k' y))=pure (.int k (if y<x then y else x)) from rfl,aD,nK];by_cases e:y<x<;>simp[e]
 ·cases e
end
section
variable{β:Type}
theorem Zo(off:Nat):∀(vs:qr H1)(n:Nat)(cs:Array H1),
 ((vs.zipIdx n).foldl (λcs (x:H1×Nat)=>cs.setIfInBounds (off+x.2) x.1) cs).toList=aW (off+n) vs cs.toList
 |[],n,cs=>rfl
 |v::vs,n,cs=>by simp;rw[Zo off vs (n+1) _,Array.toList_setIfInBounds];rfl
def Qn(T:TT)(d:TypeDesc):Hx (Nat->Hx (Nat×Nat)):=
 match d with
 | .struct fs=>some λi=>ob (fs[i]?) λf=>ob (T.get f.type) λj=>some (f.offset,j.size)
 | .array _ e=>ob (T.get e) λj=>some λi=>some (i*j.size,j.size)
 |_=>none
def D6(T:TT):qr Field->Bool
 |[]=>true
 |f::fs=>match T.get f.type with|some _=>D6 T fs|none=>false
theorem VB{P:Program}{T:TT}(H:fA P T)(w:jp):∀(fs:qr Field),D6 T fs=true->∃ps:qr (Nat×Nat),(fs.mapM (λf=>(do pure (f.offset,<-sizeOf f.type):Sem (Nat×Nat)))).run P w=.ok ps w/\
 ∀i:Nat,ps[i]? =ob (fs[i]?) λf=>ob (T.get f.type) λj=>some (f.offset,j.size)
 |[],_=>⟨[],rfl,λi=>by simp[ob]⟩
 |f::fs,h=>by
  unfold D6 at h;cases hg:T.get f.type with
  |none=>grind
  |some j=>
   simp only[hg] at h;obtain⟨ps,h1,h2⟩:=VB H w fs h;refine⟨(f.offset,j.size)::ps,?_,?_⟩
   ·rw[List.mapM_cons];simp[run_sizeOf w H hg];simp_all
   ·intro i;cases i with
    |zero=>simp[ob,hg]
    |succ i=>grind
def Jf(i:jw)(n:Nat):Hx (qr H1):=
 cond (Nat.beq (n*i.size) 0) (some []) (ob i.zero λz=>cond (Nat.beq z.cells.size i.size) (some (rep n z.cells.toList)) none)
def BG(place:Nat->Hx (Nat×Nat))(cells:qr SV):qr (Nat×SV)->Hx (qr SV)
 |[]=>some cells
 |(i,v)::rest=>ob (place i) λq=>cond (Nat.beq v.cells.length q.2 &&Nat.ble (q.1 +q.2) cells.length) (BG place (aW q.1 v.cells cells) rest) none
def WN(T:TT)(t:TypeId)(ps:qr (Nat×SV))(K:SV->Hx β):Hx β:=
 ob (T.get t) λi=>ob i.zero λz=>ob (wK z) λzv=>match i.desc with
  | .struct fs=>cond (D6 T fs.toList) (ob (Qn T i.desc) λp=>ob (BG p zv.cells ps) λcs=>K (.agg cs)) none
  | .array _ _=>ob (Qn T i.desc) λp=>ob (BG p zv.cells ps) λcs=>K (.agg cs)
  |_=>bJ 4
abbrev IW(σ:Ren):qr (Nat×SV)->qr (Nat×H1)->Prop:=PW λp q=>p.1 =q.1 /\DV σ p.2 q.2
theorem FX{σ:Ren}{place:Nat->Hx (Nat×Nat)}:∀{ps:qr (Nat×SV)}{ps':qr (Nat×H1)},IW σ ps ps'->∀{cs out:qr SV}{cs':Array H1},fm σ cs cs'.toList->BG place cs ps=some out->∃out',Instr.fill place cs' ps'=some out'/\fm σ out out'.toList
 |[],ps',d,cs,out,cs',r,e=>by cases e;rw[d.ee];exact⟨cs',rfl,r⟩
 |(i,x)::ps,ps',d,cs,out,cs',r,e=>by
  obtain⟨⟨i',y⟩,ps',rfl,⟨h0,h⟩,t⟩:=d.inv;cases h0;obtain⟨⟨off,size⟩,hp,e⟩:=ax e;obtain⟨e1,e⟩:=bd e;rw[bB] at e1;have q1:=bX e1.1;have q2:=ed e1.2;have l1:=h.cells.1;have l2:=r.1;have s1:y.cells.toList.length=y.cells.size:=rfl;have s2:cs'.toList.length=cs'.size:=rfl;have key:fm σ (aW off x.cells cs) (y.cells.zipIdx.foldl (λcs (c,j)=>cs.setIfInBounds (off+j) c) cs').toList:=by
   have e:(y.cells.zipIdx.foldl (λcs (c,j)=>cs.setIfInBounds (off+j) c) cs')=((y.cells.toList.zipIdx 0).foldl (λcs (x:H1×Nat)=>cs.setIfInBounds (off+x.2) x.1) cs'):=by rw[<-Array.foldl_toList];simp
   rw[e,Zo off y.cells.toList 0 cs'];exact h.cells.aW off r
  obtain⟨out',h1,h2⟩:=FX t key e;refine⟨out',?_,h2⟩;unfold Instr.fill
  grind
theorem aif{P:Program}{T:TT}(HT:fA P T){t:TypeId}{ps:qr (Nat×SV)}{K:SV->Hx β}{b:β}(e:WN T t ps K=some b):
 ∃sv,K sv=some b/\∀(σ:Ren)(ps':Array (Nat×H1)) w,IW σ ps ps'.toList->∃u,(Instr.build t ps').run P w=.ok u w/\DV σ sv u:=by
 obtain⟨i,hi,e⟩:=ax e;obtain⟨z,hz,e⟩:=ax e;obtain⟨zv,hv,e⟩:=ax e;split at e
 ·rename_i fs hd;obtain⟨hf,e⟩:=bd e;obtain⟨p,hp,e⟩:=ax e;obtain⟨cs,hc,e⟩:=ax e;refine⟨_,e,λσ ps' w d=>?_⟩;obtain⟨out,h1,h2⟩:=FX d (zo (σ:=σ) hv).cells hc;refine⟨.agg out,?_,.agg h2.1 h2.2⟩;rw[hd] at hp;cases hp;obtain⟨pl,q1,q2⟩:=VB HT w fs.toList hf;have hm:(fs.mapM (λf=>(do pure (f.offset,<-sizeOf f.type):Sem (Nat×Nat)))).run P w=.ok pl.toArray w:=by
   rw[Array.mapM_eq_mapM_toList];simp only[Sem.run_map];rw[q1];rfl
  have e:(λi:Nat=>pl.toArray[i]?)=λi:Nat=>ob (fs[i]?) λf=>ob (T.get f.type) λj=>some (f.offset,j.size):=by
   funext i
   have:=q2 i;simpa using this
  unfold Instr.build;simp only[dA,sC w HT hi hz,eW,gQ w HT hi];simp_all
 ·rename_i n el hd;obtain⟨p,hp,e⟩:=ax e;obtain⟨cs,hc,e⟩:=ax e;refine⟨_,e,λσ ps' w d=>?_⟩;obtain⟨out,h1,h2⟩:=FX d (zo (σ:=σ) hv).cells hc;refine⟨.agg out,?_,.agg h2.1 h2.2⟩;rw[hd] at hp;obtain⟨j,hj,hp⟩:=ax hp;cases hp;unfold Instr.build;simp only[dA,sC w HT hi hz,eW,gQ w HT hi,hd,run_sizeOf w HT hj,h1];rfl
 ·cases e
theorem amr{P:Program}{T:TT}(HT:fA P T){e:TypeId}{i:jw}(hi:T.get e=some i){n:Nat}{zs:qr H1}(hz:Jf i n=some zs)(w:jp):
 ∃z0:Array H1,(if n*i.size=0 then(pure #[]:Sem (Array H1)) else(do let z<-zeroValue e;pure z.cells)).run P w=.ok z0 w/\zs=((Array.range (n*i.size)).map λj=>z0[j%z0.size]!).toList:=by
 unfold Jf at hz;rw[Ah] at hz;by_cases h0:n*i.size=0
 ·rw[ay h0] at hz;cases hz;exact⟨#[],by rw[ay h0];rfl,by rw[h0];simp⟩
 ·rw[aq h0] at hz;obtain⟨z,hz1,hz⟩:=ax hz;rw[Ah] at hz;by_cases hs:z.cells.size=i.size
  ·rw[ay hs] at hz;cases hz;refine⟨z.cells,?_,?_⟩
   ·rw[aq h0];simp[sC w HT hi hz1]
   ·rw[<-hs,MM z.cells (by grind)]
  ·rw[aq hs] at hz;cases hz
def Ev(σ:Ren)(tm:Tr SV)(a:Act):Prop:=∀t sv,tm.get t=some sv->DV σ sv (a.eval (.tmp t))
def BU(tm:Tr SV):qr Operand->Hx (qr SV)
 |[]=>some []
 |x::xs=>ob (dK tm x) λv=>ob (BU tm xs) λvs=>some (v::vs)
def Gg(tm:Tr SV):qr (Nat×Operand)->Hx (qr (Nat×SV))
 |[]=>some []
 |(i,x)::xs=>ob (dK tm x) λv=>ob (Gg tm xs) λvs=>some ((i,v)::vs)
def Gf(tm:Tr SV):Hx Operand->Hx (Hx SV)
 |none=>some none
 |some x=>ob (dK tm x) λv=>some (some v)
section
variable{σ:Ren} {tm:Tr SV} {a:Act} (R:Ev σ tm a)
include R
theorem ej{x:Operand}{sv:SV}(e:dK tm x=some sv):DV σ sv (a.eval x):=by
 cases x with
 |tmp t=>exact R t sv e
 |const v=>exact zo e
 |global g=>cases e
 |func f=>obtain⟨q,e⟩:=bd e;cases e;have h:DV σ (.fn f []) (rW f []):=.fn rfl (λi x y h=>by simp at h);have q:=fb q;unfold rW at h;rw[qH q,Nat.div_eq_of_lt q] at h;exact h
theorem Gh:∀{xs:qr Operand}{l:qr SV},BU tm xs=some l->fm σ l (xs.map a.eval)
 |[],_,e=>by cases e;exact .nil
 |x::xs,_,e=>by obtain⟨v,h1,e⟩:=ax e;obtain⟨ws,h2,e⟩:=ax e;cases e;exact .cons (ej R h1) (Gh h2)
theorem NU:∀{xs:qr (Nat×Operand)}{l:qr (Nat×SV)},Gg tm xs=some l->IW σ l (xs.map λ(i,x)=>(i,a.eval x))
 |[],_,e=>by cases e;exact .nil
 |(i,x)::xs,_,e=>by obtain⟨v,h1,e⟩:=ax e;obtain⟨ws,h2,e⟩:=ax e;cases e;exact .cons ⟨rfl,ej R h1⟩ (NU h2)
theorem NT{x:Hx Operand}{l:Hx SV}(e:Gf tm x=some l):wZ σ l (x.map a.eval):=by
 cases x with
 |none=>cases e;trivial
 |some x=>obtain⟨v,h1,e⟩:=ax e;cases e;exact ej R h1
end
abbrev FT:=Tr Func
structure eL where
 T:TT
 F:FT
structure iR(P:Program)(X:eL):Prop where
 T:fA P X.T
 F:∀f fn,X.F.get f=some fn->P.funcs[f]? =some fn/\(fn.name== "runtime.NumGoroutine")=false/\fn.body.isSome=true
def Nq(T:TT)(st:St)(t:TypeId)(len cap:SV)(K:SV->SO->Hx β):Hx β:=
 ob (T.get t) λi=>match i.desc with
  | .slice e=>ob (T.get e) λj=>ob j.zero λz=>ob (wL z.cells.toList) λ_=>match len,cap with
   | .i _ n,.i _ k=>aF n λm=>aF k λc=>cond (Nat.blt 0 j.size&&Nat.beq z.cells.size j.size&&Nat.ble j.bytes 10000&&(Nat.ble m c&&Nat.ble c 1000000000))
    (K (.sl st.sx 0 m c) (.arr (rep c z.cells.toList) e)) none
   |_,_=>bJ 20
  |_=>bJ 21
def rb(X:eL)(st:St)(o:Op)(K:SV->SO->Hx β):Hx β:=match o with
 | .alloc t=>ob (X.T.get t) λi=>ob i.zero λz=>ob (wK z) λzv=>K (.ptr st.sx 0) (.cells zv.cells t)
 | .box t x=>ob (dK st.tm x) λv=>K (.ptr st.sx 0) (.cells v.cells t)
 | .buildSlice t n ps=>ob (Gg st.tm ps.toList) λus=>ob (X.T.get t) λi=>match i.desc with
  | .slice e=>ob (X.T.get e) λj=>cond (Nat.ble (n*j.size) 16777216&&Nat.blt n Vi) (ob (Jf j n) λz=>ob (wL z) λzs=>ob (BG (λk=>some (k*j.size,j.size)) zs us) λcs=>match uF cs with
   |some vs=>K (.sl st.sx 0 n n) (.arr vs e)
   |none=>K (.sl st.sx 0 n n) (.cells cs e)) none
  |_=>bJ 25
 | .makeSlice t l c=>ob (dK st.tm l) λa=>ob (dK st.tm c) λb=>Nq X.T st t a b K
 |_=>bJ 26
theorem FU{P:Program}(w:jp)(t:TypeId)(cs:Array H1):∃w',(newRow t cs).run P w=.ok ⟨w.heap.size,0,none⟩ w'/\eZ (λ_=>False) w w'/\Cl w' w.heap.size cs t:=
 ⟨{w with heap:=w.heap.push (.cells cs t)},by unfold newRow;simp,⟨rfl,rfl,rfl,by simp,λb hb _=>Mz w _ b hb⟩,_,My w _,Lm _⟩
theorem DV.int{σ:Ren}{k:IntKind}{n:Int}{v:H1}(d:DV σ (.i k n) v):v=.int k n:=by cases d;rfl
theorem run_makeSlice{P:Program}{T:TT}(HT:fA P T){t el:TypeId}{i j:jw}(hi:T.get t=some i)(hd:i.desc=.slice el)(hj:T.get el=some j){z:H1}(hz:j.zero=some z)(p2:z.cells.size=j.size)(p1:0<j.size)(p3:j.bytes<=10000){m c:Nat}(p4:m<=c)(p5:c<=1000000000){w w':jp}{k k':IntKind}{ad:Addr}
 (r:(newRow el ((Array.range (c*j.size)).map λk=>z.cells[k%z.cells.size]!)).run P w=.ok ad w'):(do pure (Next.value (<-Instr.makeSlice t (.int k (Int.ofNat m)) (.int k' (Int.ofNat c)))):Sem Next).run P w=.ok (.value (.slice (some ad) m c)) w':=by
 obtain⟨inf,q0,q1,q2,_⟩:=Nc w HT hj;have e1:=IN (show m<9223372036854775808 by omega);have e2:=IN (show c<9223372036854775808 by omega);have hb:j.bytes*c<=281474976710656:=fH (Nat.mul_le_mul p3 p5) (by decide);have hcond:¬((((decide (Int.ofNat c<0)||decide ((inf.bytes:Int)*Int.ofNat c>2^48))||decide (Int.ofNat m<0))||decide (Int.ofNat m>Int.ofNat c))=true):=by
  rw[q2];have:((j.bytes*c:Nat):Int)<=281474976710656:=by omega
  simp at this⊢;omega
 have s:(Instr.makeSlice t (.int k (Int.ofNat m)) (.int k' (Int.ofNat c))).run P w=.ok (.slice (some ad) m c) w':=by
  unfold Instr.makeSlice;rw[dA,gQ w HT hi,hd];simp only[asInt,asIntOf,dA,eX,eW,q0,e1,e2,aq hcond,run_askRoom,run_sizeOf w HT hj];have e3:(Int.ofNat c).toNat=c:=rfl;rw[e3];by_cases h0:c*j.size=0
  ·rw[ay h0];have e0:∀f:Nat->H1,(Array.range (c*j.size)).map f=#[]:=λf=>by rw[h0];simp
   rw[e0] at r;simp only[dA,eX,eW,e0,r];rfl
  ·rw[aq h0];simp only[dA,eX,eW,sC w HT hj hz,r];rfl
 simp only[dA,s,eW,eX]
theorem Np{P:Program}{X:eL}(OK:iR P X){st:St}{o:Oper}{K:SV->SO->Hx β}{b:β}(e:rb X st o.op K=some b):
 ∃sv so,K sv so=some b/\∀{σ:Ren}(a:Act),Ev σ st.tm a->∀w,∃u w',(execOp a.eval o).run P w=.ok (.value u) w'/\eZ (λ_=>False) w w'/\∀σ' c n,Ext σ σ'->σ'.nm st.sx=some (some (w.heap.size,c),n)->DV σ' sv u/\DO σ' w' st.sx so/\
  (∀m k cs t,sv=.sl st.sx 0 m k->so=.arr cs t->u=.slice (some ⟨w.heap.size,0,none⟩) m k/\(cs.length=c->c=k->n=k->DO σ' w' st.sx (.grow 1 cs t))):=by
 have gr:∀{σ':Ren}{w':jp}{id c n k:Nat}{cs:qr H1}{t:TypeId}{b:Nat}{z:Array H1},σ'.nm id=some (some (b,c),n)->Cl w' b z t->bh cs=true->PW (aN σ'.lit) cs z.toList->cs.length=c->c=k->n=k->DO σ' w' id (.grow 1 cs t):=by intro σ' w' id c n k cs t b z h1 h2 h3 h4 h5 h6 h7;have:=h4.1;have s:z.toList.length=z.size:=rfl;exact⟨Nat.one_pos,h3,.inr ⟨_,_,_,h1,h2,by show c=_;omega,by omega,by omega,by rw[eQ (by omega)];exact h4⟩⟩
 unfold rb at e;split at e
 ·rename_i t hop;obtain⟨i,hi,e⟩:=ax e;obtain⟨z,hz,e⟩:=ax e;obtain⟨zv,hv,e⟩:=ax e;refine⟨_,_,e,λa R w=>?_⟩;obtain⟨w',r1,r2,r3⟩:=FU (P:=P) w t z.cells;refine⟨.pointer (some ⟨w.heap.size,0,none⟩),w',?_,r2,λσ' c n E hn=>⟨.ptr hn,⟨_,_,_,hn,r3,(zo hv).cells⟩,λm k cs t h=>by cases h⟩⟩;unfold execOp;simp[hop,Instr.alloc,sC w OK.T hi hz,newVar,r1]
 ·rename_i t x hop;obtain⟨v,k1,e⟩:=ax e;refine⟨_,_,e,λa R w=>?_⟩;obtain⟨w',r1,r2,r3⟩:=FU (P:=P) w t (a.eval x).cells;refine⟨.pointer (some ⟨w.heap.size,0,none⟩),w',?_,r2,λσ' c n E hn=>⟨.ptr hn,⟨_,_,_,hn,r3,(ej R k1).cells.mono E⟩,λm k cs t h=>by cases h⟩⟩;unfold execOp;simp[hop,Instr.box,newVar,r1]
 ·rename_i t n ps hop;obtain⟨us,k1,e⟩:=ax e;obtain⟨i,hi,e⟩:=ax e;split at e
  ·rename_i el hd;obtain⟨j,hj,e⟩:=ax e;obtain⟨c1,e⟩:=bd e;rw[bB] at c1;obtain⟨z,hz,e⟩:=ax e;obtain⟨zs,hzs,e⟩:=ax e;obtain⟨cs,hcs,e⟩:=ax e;have mk:∀{σ:Ren}(a:Act),Ev σ st.tm a->∀w,∃z w',fm σ cs z.toList/\(execOp a.eval o).run P w=.ok (.value (.slice (some ⟨w.heap.size,0,none⟩) n n)) w'/\eZ (λ_=>False) w w'/\Cl w' w.heap.size z el:=by
    intro σ a R w;obtain⟨zs',q1,q2⟩:=amr OK.T hj hz w;obtain⟨out,f1,f2⟩:=FX (ps':=ps.toList.map λ(i,x)=>(i,a.eval x)) (NU R k1) (cs':=(Array.range (n*j.size)).map λk=>zs'[k%zs'.size]!) (by rw[<-q2];exact(zp hzs).1) hcs;obtain⟨w',r1,r2,r3⟩:=FU (P:=P) w el out;refine⟨out,w',f2,?_,r2,r3⟩;have hle:=ed c1.1;unfold execOp;simp only[hop,Instr.buildSlice,dA,gQ w OK.T hi,hd,eW,run_sizeOf w OK.T hj];by_cases h0:n*j.size=0
    ·rw[ay h0] at q1;simp_all
    ·rw[aq h0] at q1;cases hz0:(zeroValue el).run P w with
     |halt x y=>simp[hz0] at q1
     |ok z w0=>simp_all
   split at e
   ·rename_i vs hvs;refine⟨_,_,e,λa R w=>?_⟩;obtain⟨z,w',f2,g1,g2,g3⟩:=mk a R w;refine⟨_,w',g1,g2,λσ' c m E hn=>?_⟩;obtain⟨v1,v2⟩:=wM (f2.mono E) hvs;exact⟨.sl hn (aM _),⟨_,_,_,hn,g3,v2,v1⟩,λm' k' cs' t' h h'=>by cases h;cases h';exact⟨rfl,gr hn g3 v2 v1⟩⟩
   ·refine⟨_,_,e,λa R w=>?_⟩;obtain⟨z,w',f2,g1,g2,g3⟩:=mk a R w;exact⟨_,w',g1,g2,λσ' c m E hn=>⟨.sl hn (aM _),⟨_,_,_,hn,g3,f2.mono E⟩,λm' k' cs' t' h h'=>by cases h'⟩⟩
  ·cases e
 ·rename_i t l c hop;obtain⟨x,k1,e⟩:=ax e;obtain⟨y,k2,e⟩:=ax e;obtain⟨i,hi,e⟩:=ax e;split at e
  ·rename_i el hd;obtain⟨j,hj,e⟩:=ax e;obtain⟨z,hz,e⟩:=ax e;obtain⟨zs,hzs,e⟩:=ax e;split at e
   ·obtain⟨m,s1,e⟩:=xm e;obtain⟨c',s2,e⟩:=xm e;obtain⟨e1,e⟩:=bd e;simp only[bB] at e1;obtain⟨⟨⟨p1,p2⟩,p3⟩,p4,p5⟩:=e1;have p1:=fb p1;have p2:=bX p2;have p3:=ed p3;have p4:=ed p4;have p5:=ed p5;refine⟨_,_,e,λ{σ} a R w=>?_⟩;have d1:=ej R k1;have d2:=ej R k2;obtain⟨w',r1,r2,r3⟩:=FU (P:=P) w el ((Array.range (c'*j.size)).map λk=>z.cells[k%z.cells.size]!);have hr:((Array.range (c'*j.size)).map λk=>z.cells[k%z.cells.size]!).toList=rep c' z.cells.toList:=by rw[<-p2];exact MM z.cells (by omega) c'
    refine⟨.slice (some ⟨w.heap.size,0,none⟩) m c',w',?_,r2,λσ' c n E hn=>?_⟩
    ·unfold execOp;simp only[hop];have h1:=d1.int;have h2:=d2.int;rw[s1] at h1;rw[s2] at h2;rw[h1,h2];exact run_makeSlice OK.T hi hd hj hz p2 p1 p3 p4 p5 r1
    ·obtain⟨_,q1,q2⟩:=zp (σ:=σ') hzs;have k':PW (aN σ'.lit) (rep c' z.cells.toList) ((Array.range (c'*j.size)).map λk=>z.cells[k%z.cells.size]!).toList:=by rw[hr];exact MQ q1 c'
     exact⟨.sl hn p4,⟨_,_,_,hn,r3,Fy q2 _,k'⟩,λm' k'' cs' t' h h'=>by cases h;cases h';exact⟨rfl,gr hn r3 (Fy q2 _) k'⟩⟩
   ·cases e
  ·cases e
 ·cases e
end
section
variable{β:Type}
theorem aaX{fs:Array Field}{k:H1}:∀(es:qr MapEntry),Instr.findNow (.struct fs) k es 0=match es with|[]=>some none|_::_=>none
 |[]=>rfl
 |e::es=>by
  unfold Instr.findNow;have:Instr.sameNow (.struct fs) k e.key=none:=by rfl
  grind
theorem ZZ{P:Program}{t:TypeId}{k:IntKind}(h:P.underlying t=some (.int k))(em:Bool)(n:Nat)(v:H1)(w:jp):(Instr.checkKey em (n+1) t v).run P w=.ok () w:=by simp[Instr.checkKey,underlying,h]
theorem QP{P:Program}{em:Bool}{n:Nat}{cs:Array H1}(w:jp):∀(fs:qr Field)(m:Nat),
 (∀(i:Nat)(f:Field),fs[i]? =some f->f.name≠ "_"/\f.offset=m+i/\(∃k,P.underlying f.type=some (.int k))/\∃inf,P.info? f.type=some inf/\inf.size=1)->m+fs.length=cs.toList.length->
 (forIn fs PUnit.unit (λf (_:PUnit)=>if f.name≠ "_" then(do let x<-part f.type cs f.offset;Instr.checkKey em (n+1) f.type x;pure (ForInStep.yield PUnit.unit):Sem (ForInStep PUnit)) else pure (ForInStep.yield PUnit.unit))).run P w=.ok PUnit.unit w
 |[],m,_,_=>by simp
 |f::fs,m,hf,hl=>by obtain⟨h1,h2,⟨k,h3⟩,_⟩:=hf 0 f rfl;simp only[bW] at hl;rw[List.forIn_cons];simp only[(show f.offset=m from by omega),ne_eq,h1,not_false_eq_true,dW,dA,Bj h3 (cG (show m<cs.toList.length from by omega)),ZZ h3];exact QP w fs (m+1) (λi g hg=>by obtain⟨a1,a2,a3,a4⟩:=hf (i+1) g (by simpa using hg);exact⟨a1,by omega,a3,a4⟩) (by omega)
theorem Z0{P:Program}{t:TypeId}{fs:Array Field}{m:Nat}(hu:P.underlying t=some (.struct fs))(hF:zL P m (.struct fs)){cs:Array H1}(hc:cs.toList.length=m)(em:Bool)(n:Nat)(w:jp):
 (Instr.checkKey em (n+2) t (.agg cs)).run P w=.ok () w:=by
 obtain⟨h1,h2⟩:=hF;unfold Instr.checkKey;simp only[dA,underlying,run_program,hu,eW,eX];rw[<-Array.forIn_toList];have:=QP (em:=em) (n:=n) w fs.toList 0 (λi f hf=>by obtain⟨a1,a2,a3,a4⟩:=h2 i f (by grind);exact⟨a1,by omega,a3,a4⟩) (by rw[hc];simpa using h1);simp_all
def zy:qr H1->Hx (qr (H1×H1))
 |[]=>some []
 | .func (.func 0) ⟨[k]⟩ ⟨[v]⟩::r=>ob (zy r) λes=>some ((k,v)::es)
 |_::_=>none
def Mg:H1->Bool
 | .int _ _=>true
 | .bool _=>true
 | .string _=>true
 | .slice none 0 0=>true
 |_=>false
def zN:H1->H1
 | .slice none 0 0=>ae 0 []
 |x=>x
def AI:qr SV->Hx (qr H1)
 |[]=>some []
 | .i k n::l=>ob (AI l) λr=>some (.int k n::r)
 |_=>none
theorem KU{σ:Ren}:∀{l:qr SV}{ks us:qr H1},AI l=some ks->fm σ l us->us=ks
 |[],ks,us,e,d=>by cases e;exact d.ee
 |x::l,ks,us,e,d=>by
  unfold AI at e;split at e
  ·rename_i h;cases h
  ·rename_i k n l' h;cases h;obtain⟨r,h1,e1⟩:=ax e;cases e1;obtain⟨y,ys,rfl,a,t⟩:=d.inv;cases a;rw[KU h1 t]
  ·cases e
def u0{α:Type}(ks:qr H1):qr (H1×α)->Nat->Hx (Hx (Nat×α))
 |[],_=>some none
 |(.agg k0,v0)::es,i=>cond (Nat.beq ks.length k0.toList.length) (ob (jz ks k0.toList) λb=>cond b (some (some (i,v0))) (u0 ks es (i+1))) none
 |_::_,_=>none
def IY(k mk:H1):Prop:=∀xs:Array H1,k=.agg xs->∃ys:Array H1,mk=.agg ys/\ys.toList.length=xs.toList.length/\∀ks b,jz ks xs.toList=some b->jz ks ys.toList=some b
theorem Ru{m:Nat->Nat->Hx H1}:∀{ks xs ys:qr H1}{b:Bool},PW (aN m) xs ys->jz ks xs=some b->jz ks ys=some b
 |ks,[],ys,b,r,e=>by rw[r.ee];exact e
 |[],x::xs,ys,b,r,e=>by cases e
 |k::ks,x::xs,ys,b,r,e=>by
  obtain⟨y,ys,rfl,a,t⟩:=r.inv;obtain⟨kk,p,q,rfl,rfl,h⟩:=J7 e;cases a;unfold jz at e⊢;rcases h with⟨h1,h2⟩|⟨h1,h2⟩
  ·simp only[h1,aY,aE] at e⊢;exact Ru t e
  ·simp only[h1,aY,aE,aD] at e⊢;exact e
theorem aN.acj{m:Nat->Nat->Hx H1}{k mk:H1}(r:aN m k mk):IY k mk:=λxs e=>by
 subst e;cases r with
 |agg hl h=>exact⟨_,rfl,hl.symm,λks b q=>Ru ⟨hl,h⟩ q⟩
section
variable{P:Program} {T:TT} (H:fA P T) {kt:TypeId} {ki:jw} (hki:T.get kt=some ki) {fs:Array Field} (hkd:ki.desc=.struct fs) (hf:ki.flat=true) {ks:qr H1} (hl:ks.length=ki.size)
include H hki hf hl
theorem RM{α:Type}{R:H1×α->MapEntry->Prop}(hR:∀e m,R e m->IY e.1 m.key)(w:jp):∀{es:qr (H1×α)}{es':qr MapEntry}{i:Nat}{r:Hx (Nat×α)},PW R es es'->u0 ks es i=some r->
 ∃r',(Instr.findAsking kt (.agg ⟨ks⟩) es' i).run P w=.ok r' w/\(r=none->r'=none)/\∀n v,r=some (n,v)->∃e m,r'=some (n,m.val)/\e∈es/\R e m/\e.2 =v
 |[],es',i,r,p,e=>by rw[p.ee];cases e;exact⟨none,rfl,λ_=>rfl,λ_ _ h=>by cases h⟩
 |(k,v0)::es,es',i,r,p,e=>by
  obtain⟨y,ys,rfl,a,t⟩:=p.inv;cases k with
  |agg k0=>
   unfold u0 at e;obtain⟨e1,e2⟩:=bd e;obtain⟨b,e3,e4⟩:=ax e2;have e1:=bX e1;obtain⟨k1,q1,q2,q3⟩:=hR _ _ a k0 rfl;have run:(Op.equal kt (.agg ⟨ks⟩) y.key).run P w=.ok b w:=by rw[q1];exact RB (H.under kt ki hki) (H.flat kt ki hki hf).2.2 (H.flat kt ki hki hf).2.1 (n:=ki.size) hl (by rw[q2,<-e1,hl]) (q3 ks b e3) 9998 w
   unfold Instr.findAsking;cases b with
   |true=>cases e4;refine⟨some (i,y.val),by simp[run],λh=>(by cases h),λn v h=>?_⟩;cases h;exact⟨_,y,rfl,nY,a,rfl⟩
   |false=>obtain⟨r',z1,z2,z3⟩:=RM hR w t e4;refine⟨r',by simp[run,z1],z2,λn v h=>?_⟩;obtain⟨e',m,h1,h2,h3⟩:=z3 n v h;exact⟨e',m,h1,mE _ h2,h3⟩
  |_=>cases e
include hkd in
theorem Ta{α:Type}{R:H1×α->MapEntry->Prop}(hR:∀e m,R e m->IY e.1 m.key)(w:jp){es:qr (H1×α)}{es':qr MapEntry}{r:Hx (Nat×α)}(p:PW R es es')(e:u0 ks es 0=some r):
 (∀em,(Instr.checkKey em 10000 kt (.agg ⟨ks⟩)).run P w=.ok () w)/\∃r',(Instr.findKey kt (.agg ⟨ks⟩) es').run P w=.ok r' w/\(r=none->r'=none)/\∀n v,r=some (n,v)->∃e m,r'=some (n,m.val)/\e∈es/\R e m/\e.2 =v:=by
 have hu:=H.under kt ki hki;have hF:=(H.flat kt ki hki hf).2.2;rw[hkd] at hu hF;refine⟨λem=>Z0 hu hF hl em 9998 w,?_⟩;simp only[Instr.findKey,dA,gQ w H hki,hkd,eW];cases es' with
 |nil=>have:es=[]:=kP p.1;subst this;cases e;exact⟨none,rfl,λ_=>rfl,λ_ _ h=>by cases h⟩
 |cons y ys=>rw[aaX];exact RM H hki hf hl hR w p e
end
def AV(_:TT)(_:TypeId)(x k:H1)(zs:qr H1)(K:Bool->qr H1->Hx β):Hx β:=match x,k with
 | .func (.method _) cs _,.agg ks=>ob (zy cs.toList) λes=>ob (u0 ks.toList es 0) λr=>match r with
  |none=>K false (zs.map zN)
  |some (_,.agg vs)=>cond (bh vs.toList) (K true vs.toList) none
  |some _=>none
 |_,_=>none
def WV(T:TT)(t:TypeId)(a b:SV)(ok:Bool)(K:SV->Hx β):Hx β:=
 ob (T.get t) λi=>match i.desc with
  | .map kt et=>ob (T.get kt) λki=>ob (T.get et) λei=>ob ei.zero λz=>match ki.desc,a,b,z with
   | .struct _,.v x,.agg l,.agg zs=>ob (AI l) λks=>cond (ki.flat&&Nat.beq ks.length ki.size&&zs.toList.all Mg)
    (AV T kt x (.agg ⟨ks⟩) zs.toList λf cs=>Av (zs.toList.map xw) cs λr=>cond (Nat.beq cs.length r.length) (K (cond ok (.aG [.agg r,.b f]) (.agg r))) none) none
   |_,_,_,_=>bJ 54
  |_=>bJ 55
theorem P2{m:Nat->Nat->Hx H1}:∀{zs:qr H1},zs.all Mg=true->PW (aN m) (zs.map zN) zs/\bh (zs.map zN)=true
 |[],_=>⟨.nil,rfl⟩
 |z::zs,h=>by
  rw[List.all_cons,bB] at h;obtain⟨c,d⟩:=P2 h.2;have key:aN m (zN z) z/\bh [zN z]=true:=by
   have h:=h.1;unfold Mg at h;split at h
   ·exact⟨.int _ _,rfl⟩
   ·exact⟨.bool _,rfl⟩
   ·exact⟨.str _,rfl⟩
   ·exact⟨.gy,rfl⟩
   ·cases h
  exact⟨.cons key.1 c,by rw[iw,qX,key.2,d];rfl⟩
theorem acH{w:jp}{b:Nat}{ys:qr H1}(h:∀i,fP w b i=some (.func (.via 0 #[] 7 true) ⟨ys⟩ #[])):∃es ck,w.heap[b]? =some (.map es ck)/\ys=es.toList.map λe=>.func (.func 0) #[e.key] #[e.val]:=by
 unfold fP at h;split at h
 ·rename_i es ck hb;have:=h 0;unfold Tz at this;simp only[sX,Value.func.injEq,Array.mk.injEq] at this;exact⟨es,ck,hb,this.2.1.symm⟩
 ·rename_i hn;unfold World.cell? at h;cases hb:w.heap[b]? with
  |none=>simp[hb] at h
  |some o=>
   cases o with
   |cells c t fz=>have:=h c.size;simp[hb] at this
   |_=>simp[hb] at h
theorem Zc{m:Nat->Nat->Hx H1}:∀{cs:qr H1}{es:qr (H1×H1)}{es':qr MapEntry},zy cs=some es->PW (aN m) cs (es'.map λe=>.func (.func 0) #[e.key] #[e.val])->PW (λ(e:H1×H1)(x:MapEntry)=>aN m e.1 x.key/\aN m e.2 x.val) es es'
 |[],es,es',e,r=>by cases e;have:=r.ee;simp at this;rw[this];exact .nil
 |c::cs,es,es',e,r=>by
  obtain⟨y,ys,h1,a,t⟩:=r.inv;cases es' with
  |nil=>cases h1
  |cons x es'=>
   simp only[iw,List.cons.injEq] at h1;obtain⟨rfl,rfl⟩:=h1;unfold zy at e;split at e
   ·rename_i h;cases h
   ·rename_i k v cs' h;cases h;obtain⟨r0,h2,e2⟩:=ax e;cases e2;cases a with
    |fn hl h kl k=>exact .cons ⟨h 0 _ _ rfl rfl,k 0 _ _ rfl rfl⟩ (Zc h2 t)
   ·cases e
theorem ait{P:Program}{T:TT}(H:fA P T){t:TypeId}{x k:SV}{ok:Bool}{K:SV->Hx β}{b:β}(e:WV T t x k ok K=some b):
 ∃sv,K sv=some b/\∀{B:Bs}{σ:Ren}{G:Nat->SO->Prop}{F:Nat->Prop}{w:jp},Mem B σ G F w->∀v u,DV σ x v->DV σ k u->∃r,(Instr.lookup t v u ok).run P w=.ok r w/\DV σ sv r:=by
 replace e:=ax e;obtain⟨i,hi,e⟩:=e;split at e
 case h_2=>cases e
 rename_i kt et hd;replace e:=ax e;obtain⟨ki,hki,e⟩:=e;replace e:=ax e;obtain⟨ei,hei,e⟩:=e;replace e:=ax e;obtain⟨z,hz,e⟩:=e;split at e
 case h_2=>cases e
 rename_i fs x l zs hkd;replace e:=ax e;obtain⟨ks,hks,e⟩:=e;replace e:=bd e;obtain⟨e1,e⟩:=e;simp only[bB] at e1;obtain⟨⟨c1,c2⟩,c4⟩:=e1;have c2:=bX c2;unfold AV at e;split at e
 case h_2=>cases e
 rename_i m cs cs2 ks' hk';cases hk';replace e:=ax e;obtain⟨es,hes,e⟩:=e;replace e:=ax e;obtain⟨r,hr,e⟩:=e;have fin:∀{f:Bool}{cs:qr H1},bh cs=true->Av (zs.toList.map xw) cs (λr=>cond (Nat.beq cs.length r.length) (K (cond ok (.aG [.agg r,.b f]) (.agg r))) none)=some b->
  ∃sv,K sv=some b/\∀(σ:Ren) vs,PW (aN σ.lit) cs vs->DV σ sv (cond ok (.tuple ⟨[.agg ⟨vs⟩,.bool f]⟩) (.agg ⟨vs⟩)):=by
  intro f cs on e;obtain⟨l,g1,g2,g3⟩:=Kd e;obtain⟨g0,g1⟩:=bd g1;refine⟨_,g1,λσ vs wv=>?_⟩;have q:=(g3 σ vs wv on).2;rw[<-g2,<-(bX g0),wv.1,oY] at q;have dg:DV σ (.agg l) (.agg ⟨vs⟩):=.agg q.1 q.2;cases ok with
  |true=>have q:fm σ [.agg l,.b f] [.agg ⟨vs⟩,.bool f]:=.cons dg (.cons (.b _) .nil);exact .aG q.1 q.2
  |false=>exact dg
 have look:∀{B:Bs}{σ:Ren}{G:Nat->SO->Prop}{F:Nat->Prop}{w:jp},Mem B σ G F w->∀v u,DV σ (.v (.func (.method m) cs cs2)) v->DV σ (.agg l) u->
  ∃r',(Instr.lookup t v u ok).run P w=.ok (match r' with|none=>cond ok (.tuple ⟨[.agg zs,.bool false]⟩) (.agg zs)|some (_,y)=>cond ok (.tuple ⟨[y,.bool true]⟩) y) w/\(r=none->r'=none)/\∀n y,r=some (n,y)->∃y',r'=some (n,y')/\aN σ.lit y y':=by
  intro B σ G F w M v u dv du;cases dv with
  |v dv dv1=>
  cases dv with
  |EF h1 h2 hm=>
  rename_i ys mb;obtain⟨es',ck,q1,q2⟩:=acH λi=>M.lit _ _ _ (hm i);have R:=Zc hes (show PW (aN σ.lit) cs.toList (es'.toList.map λe=>.func (.func 0) #[e.key] #[e.val]) from q2▸⟨h1,h2⟩);cases du with
  |agg du1 du2=>
  rename_i us;have hu:us=⟨ks⟩:=by rw[<-KU hks (show fm σ l us.toList from⟨du1,du2⟩)]
  subst hu;obtain⟨k1,r',k2,k3,k4⟩:=Ta H hki hkd c1 c2 (λe m q=>q.1.acj) w R hr;refine⟨r',?_,k3,λn y h=>?_⟩
  ·have hg:(getObj mb).run P w=.ok (.map es' ck) w:=by simp only[getObj,Sem.run,q1]
   simp[Instr.lookup,gQ w H hi,hd,hg,k1,k2];cases r' with
   |none=>simp[sC w H hei hz]
   |some p=>simp
  ·obtain⟨e0,m0,z1,_,z2,z3⟩:=k4 n y h;exact⟨_,z1,z3▸z2.2⟩
 split at e
 ·obtain⟨sv,s1,s2⟩:=fin (P2 (m:=λ_ _=>none) c4).2 e;refine⟨sv,s1,λ{B σ G F w} M v u dv du=>?_⟩;obtain⟨r',l1,l2,_⟩:=look M v u dv du;rw[l2 rfl] at l1;exact⟨_,l1,s2 σ _ (P2 c4).1⟩
 ·rename_i n vs;replace e:=bd e;obtain⟨o1,e⟩:=e;obtain⟨sv,s1,s2⟩:=fin o1 e;refine⟨sv,s1,λ{B σ G F w} M v u dv du=>?_⟩;obtain⟨r',l1,_,l3⟩:=look M v u dv du;obtain⟨y',rfl,l4⟩:=l3 _ _ rfl;cases l4 with
  |agg a1 a2=>exact⟨_,l1,s2 σ _ ⟨a1,a2⟩⟩
 ·cases e
def FY(T:TT)(st:St)(t:TypeId)(a b c:SV)(K:Tr SO->Hx β):Hx β:=
 ob (T.get t) λi=>match i.desc with
  | .map kt _=>ob (T.get kt) λki=>match ki.desc,a,b with
   | .struct _,.mp id,.agg l=>ob (AI l) λks=>cond (ki.flat&&Nat.beq ks.length ki.size) (ob (st.h.get id) λso=>match so with
    | .mp es=>ob (u0 ks es 0) λr=>match r with
     |none=>K (st.h.set id (.mp (es++[(.agg ⟨ks⟩,c)])))
     |some _=>bJ 56
    |_=>bJ 56) none
   |_,_,_=>bJ 57
  |_=>bJ 57
theorem air{P:Program}{T:TT}(H:fA P T){st:St}{t:TypeId}{x k y:SV}{K:Tr SO->Hx β}{b:β}(e:FY T st t x k y K=some b):
 ∃h',K h'=some b/\∀{B:Bs}{σ:Ren}{F:Nat->Prop}{w:jp},Mem B σ (hG st.h) F w->∀v u z,DV σ x v->DV σ k u->DV σ y z->∃w',(Instr.mapUpdate t v u z).run P w=.ok () w'/\Mem B σ (hG h') F w':=by
 replace e:=ax e;obtain⟨i,hi,e⟩:=e;split at e
 case h_2=>cases e
 rename_i kt et hd;replace e:=ax e;obtain⟨ki,hki,e⟩:=e;split at e
 case h_2=>cases e
 rename_i fs id l hkd;replace e:=ax e;obtain⟨ks,hks,e⟩:=e;replace e:=bd e;obtain⟨e1,e⟩:=e;rw[bB] at e1;have c2:=bX e1.2;replace e:=ax e;obtain⟨so,hso,e⟩:=e;split at e
 case h_2=>cases e
 rename_i es;replace e:=ax e;obtain⟨r,hr,e⟩:=e;split at e
 case h_2=>cases e
 refine⟨_,e,λ{B σ F w} M v u z dv du dz=>?_⟩;obtain⟨o,n,es',ck,g1,g2,g3⟩:=M.obj _ _ hso;cases dv with
 |mp g=>
 rename_i n2 o2;have ho:o2=o:=by have g':=g.symm.trans g1;simp only[sX,Prod.mk.injEq] at g';exact g'.1
 rw[ho];cases du with
 |agg du1 du2=>
 rename_i us;have hu:us=⟨ks⟩:=by rw[<-KU hks (show fm σ l us.toList from⟨du1,du2⟩)]
 subst hu;obtain⟨k1,r',k2,k3,_⟩:=Ta H hki hkd e1.1 c2 (R:=I2 σ) (λe m q xs h=>⟨xs,by rw[q.1,h],rfl,λ_ _ q=>q⟩) w g3 hr;obtain rfl:=k3 rfl
 let o':Obj:=.map (es'.push {key:=.agg ⟨ks⟩,val:=z,born:=ck}) (ck+1)
 have hg:(getObj o.1).run P w=.ok (.map es' ck) w:=by simp only[getObj,Sem.run,g2]
 have hs:(setObj o.1 o').run P w=.ok () {w with heap:=w.heap.setIfInBounds o.1 o'}:=by simp only[setObj,Sem.run,g2]
 refine⟨_,?_,M.put (so':=.mp (es++[(.agg ⟨ks⟩,y)])) hso g1 (w':={w with heap:=w.heap.setIfInBounds o.1 o'}) ⟨rfl,rfl,rfl,by simp,λb hb hn=>?_⟩ ⟨_,_,es'.push {key:=.agg ⟨ks⟩,val:=z,born:=ck},ck+1,g1,?_,?_⟩⟩
 ·unfold Instr.mapUpdate;simp[gQ w H hi,hd,hg,k1,k2];exact hs
 ·exact Array.getElem?_setIfInBounds_ne (Ne.symm hn)
 ·have:=M.lt hso g1;exact Array.getElem?_setIfInBounds_self_of_lt this
 ·rw[Array.toList_push];exact g3.append (.cons ⟨rfl,dz⟩ .nil)
theorem aiv{P:Program}{st:St}{B:Bs}{σ:Ren}{F:Nat->Prop}{w:jp}(hF:F st.sx)(M:Mem B σ (hG st.h) F w)(t:TypeId):∃v w' σ',(Instr.makeMap t none).run P w=.ok v w'/\Ext σ σ'/\DV σ' (.mp st.sx) v/\Mem B σ' (hG (st.h.set st.sx (.mp []))) (lZ F st.sx (st.sx+1)) w':=by
 let w':jp:={w with heap:=w.heap.push (.map #[] 0)}
 have fr:eZ (λ_=>False) w w':=⟨rfl,rfl,rfl,by simp[w'],λb hb _=>Mz w _ b hb⟩;obtain⟨E,M'⟩:=M.new hF (c:=0) (n:=0) (so:=.mp []) fr ⟨_,_,#[],0,Ren.jK _ _ _,My w _,.nil⟩;exact⟨_,w',_,by simp[Instr.makeMap,newObj,w'];rfl,E,.mp (Ren.jK _ _ _),M'⟩
end
end Lt
end Go.Proofs.YtcfjfbeadhnknaaGreatDoor

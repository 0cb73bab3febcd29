import Derived.Below
import Derived.ChangeKeysEq
import Derived.Laws.BytesString
import Derived.AtR
import Derived.Scope
import Derived.Recover
namespace Go.Proofs.YtfdojmichbgpiaaGreatDoor
section
theorem ai:∀{c:Prop}{_:Decidable c},¬c->∀{α:Sort _}{t e:α},(if c then t else e)=e:=@if_neg
theorem ar:∀{c:Prop}{_:Decidable c},c->∀{α:Sort _}{t e:α},(if c then t else e)=t:=@if_pos
theorem ay:∀{α:Sort _}(a b:α),(bif true then a else b)=a:=@cond_true
theorem aE:∀{α:Sort _}(a b:α),(bif false then a else b)=b:=@cond_false
theorem aB:∀(n:Nat),n<=n:=@Nat.le_refl
theorem aR:∀{α:Type _}{as bs:List α},List.length (as++bs)=List.length as+List.length bs:=@List.length_append
theorem bn:∀(_:Decidable True),decide True=true:=@decide_true
theorem bg:∀(a b:Bool),((a&&b)=true)=(a=true/\b=true):=@Bool.and_eq_true
theorem bu:∀{α:Type _}{val val_1:α},some val=some val_1->val=val_1:=@Option.some.inj
theorem bK:∀{α:Sort _}{β:Sort _}{a₁ a₂:α}(f:α->β),a₁=a₂->f a₁=f a₂:=@congrArg
theorem bJ:∀{n m:Nat},Nat.beq n m=true->n=m:=@Nat.eq_of_beq_eq_true
theorem cL:(!true)=false:=@Bool.not_true
theorem bV:∀{p:Prop}[Decidable p],(decide p=true)=p:=@decide_eq_true_eq
theorem cy:∀(_:Decidable False),decide False=false:=@decide_false
theorem cj:∀{α:Type _}{b:α}{l:List α}{a:α},a∈b::l↔a=b\/a∈l:=@List.mem_cons
theorem cI:∀{n m:Nat},Nat.ble n m=true->n<=m:=@Nat.le_of_ble_eq_true
theorem cQ:∀{α:Type _}{a:α}{as:List α},List.length (a::as)=List.length as+1:=@List.length_cons
theorem dg:∀(n m:Nat),n<m\/n>=m:=@Nat.lt_or_ge
theorem dD:∀{α:Type _}{l:List α}{i:Nat}(h:i<List.length l),l[i]? =some l[i]:=@List.getElem?_eq_getElem
theorem dH:∀{α:Type _}{i:Nat}{l:List α},List.length (List.take i l)=min i (List.length l):=@List.length_take
theorem dG:∀{α:Type _}{i:Nat}{l:List α}(h:i<List.length l),List.drop i l=l[i]::List.drop (i+1) l:=@List.drop_eq_getElem_cons
theorem dL:∀{α:Type _}{l:List α}{n:Nat}(h:n<List.length l),l[n]∈l:=@List.getElem_mem
theorem dO:∀{α β:Type}(P:Program)(w:World)(x:Sem α)(f:α->Sem β),Sem.run P (x>>=f) w=Result.andThen (Sem.run P x w) λa w'↦Sem.run P (f a) w':=@Sem.run_bind
theorem dY:∀{α:Type _}(as bs cs:List α),as++bs++cs=as++(bs++cs):=@List.append_assoc
theorem dZ:∀{α:Type _}{i:Nat}{l:List α},List.length (List.drop i l)=List.length l -i:=@List.length_drop
theorem eD:∀{α:Type _}{β:Type _}{as:List α}(f:α->β),List.length (List.map f as)=List.length as:=@List.length_map
theorem eH:∀{α:Type _}(as:List α),as++[]=as:=@List.append_nil
theorem eL:∀{α:Type _}{l:List α},List.drop 0 l=l:=@List.drop_zero
theorem eM:∀{α:Type _}{a:α}{s t:List α},a∈s++t↔a∈s\/a∈t:=@List.mem_append
theorem eP:∀{n m k:Nat},n<=m->m<=k->n<=k:=@Nat.le_trans
theorem fg:∀(n:Nat),0+n=n:=@Nat.zero_add
theorem fb:∀(B:Nat)(w:World),RowKit.Below B w w:=@RowKit.Below.refl
theorem ff:∀{α:Type _}{β:Type _}{x:α}{xs:List α}{f:α->List β},List.flatMap f (x::xs)=f x++List.flatMap f xs:=@List.flatMap_cons
theorem fS:∀{p:Prop}[Decidable p],p->decide p=true:=@decide_eq_true
theorem gh:∀{α:Type _}{i:Nat}{l:List α},List.length l<=i->List.take i l=l:=@List.take_of_length_le
theorem fu:(!false)=true:=@Bool.not_false
theorem gj:∀{α:Sort _}{_:Decidable True}(t e:α),(if True then t else e)=t:=@if_true
theorem fQ:∀{α:Type}(P:Program)(w:World)(a:α),Sem.run P (pure a) w=Result.ok a w:=@Sem.run_pure
theorem fR:∀{p:Prop}[Decidable p],¬p->decide p=false:=@decide_eq_false
theorem fP:∀(b:Bool),(true&&b)=b:=@Bool.true_and
theorem gi:∀{n m:Nat},n<=m->Nat.ble n m=true:=@Nat.ble_eq_true_of_le
theorem gq:∀{α:Type _}{β:Type _}{xs ys:List α}{f:α->List β},List.flatMap f (xs++ys)=List.flatMap f xs++List.flatMap f ys:=@List.flatMap_append
theorem fI:∀{p:Prop}{_:Decidable p},decide p=false↔¬p:=@decide_eq_false_iff_not
theorem gA:∀{α β:Type}(a:α)(w:World)(f:α->World->Result β),Result.andThen (Result.ok a w) f=f a w:=@Result.andThen_ok
theorem gN:∀{α:Sort _}{_:Decidable False}(t e:α),(if False then t else e)=e:=@if_false
theorem fO:∀{a b:Bool},a=b↔(a=true↔b=true):=@Bool.eq_iff_iff
theorem gL:∀{α:Type _}(y:α){a:α}{l:List α},a∈l->a∈y::l:=@List.mem_cons_of_mem
theorem gM:∀(n:Nat),n*1=n:=@Nat.mul_one
theorem gZ:∀(n:Nat),0<=n:=@Nat.zero_le
theorem iq:∀{α:Sort _}{a b c:α},a=b->b=c->a=c:=@Eq.trans
theorem jg:∀{α:Type _}{a:α}{as bs:List α},a::as++bs=a::(as++bs):=@List.cons_append
theorem gY:∀(b:Bool),(b&&true)=b:=@Bool.and_true
theorem iF:∀{α:Type _}(as:List α),[]++as=as:=@List.nil_append
theorem iP:∀{w w':World}{a:Addr},(World.heap w')[Addr.block a]? =(World.heap w)[Addr.block a]? ->World.cell? w' a=World.cell? w a:=@World.cell?_of_block
theorem jh:∀{α:Type _}{a:α},¬a∈[]:=@List.not_mem_nil
theorem ji:∀(w:World)(a:Addr){u:Value},World.cell? w a=some u->Addr.block a<Array.size (World.heap w):=@World.block_lt_of_cell?
theorem jj:∀(p:Prop),(p\/False)=p:=@or_false
theorem jf:∀{α:Type _}{p:α->Bool}{l:List α},List.all l p=true↔∀(x:α),x∈l->p x=true:=@List.all_eq_true
theorem jJ:∀{α:Type _}{l:List α},List.length l=0->l=[]:=@List.eq_nil_of_length_eq_zero
theorem jK:∀{α:Type _}{x:α}{xs:List α}{p:α->Bool},List.filter p (x::xs)=if p x=true then x::List.filter p xs else List.filter p xs:=@List.filter_cons
theorem kU:∀(b:Bool),(b&&b)=b:=@Bool.and_self
theorem jZ:∀{α:Type _}{β:Type _}{f:α->β}{l₁ l₂:List α},List.map f (l₁++l₂)=List.map f l₁++List.map f l₂:=@List.map_append
theorem kb:∀(n m k:Nat),(n+m)*k=n*k+m*k:=@Nat.add_mul
theorem kc:∀(n:Nat),n<=Nat.succ n:=@Nat.le_succ
theorem kB:∀{α:Type _}{xs:Array α}{i:Nat},(Array.toList xs)[i]? =xs[i]? :=@Array.getElem?_toList
theorem kC:∀{α:Type _}{a b:α},a∈[b]↔a=b:=@List.mem_singleton
theorem kE:∀{a b:Nat},a<=b->min a b=a:=@Nat.min_eq_left
theorem kF:∀{α:Type _}(val val_1:α),(some val=some val_1)=(val=val_1):=@Option.some.injEq
theorem kV:∀(a:Nat),Nat.beq a a=true:=@Nat.beq_refl
theorem kW:∀{x y:Nat},(Nat.ble x y=true)=(x<=y):=@Nat.ble_eq
theorem lL:∀{α:Type _}{i:Nat}{b:α}{xs:Array α},xs[i]? =some b↔∃h,xs[i]=b:=@Array.getElem?_eq_some_iff
theorem lM:∀{a:Int},0<=a->↑(Int.toNat a)=a:=@Int.toNat_of_nonneg
theorem lN:∀{α:Type _}{l:List α}{i:Nat},List.length l<=i->l[i]? =none:=@List.getElem?_eq_none
theorem lO:∀(n m k:Nat),n+m+k=n+(m+k):=@Nat.add_assoc
theorem lP:∀(m:Nat){n:Nat},0<n->m*n/n=m:=@Nat.mul_div_cancel
theorem mA:(false=true)=False:=@Bool.false_eq_true
theorem mB:∀(n:Nat),Int.toNat ↑n=n:=@Int.toNat_natCast
theorem mC:∀{α:Type _}{a:α}{l:List α},a∈a::l:=@List.mem_cons_self
theorem mD:∀{α:Type _}(i:Nat)(l:List α),List.take i l++List.drop i l=l:=@List.take_append_drop
theorem nB:∀{α:Type _}{i:Nat}{l:List α}(h:i<List.length l),List.take (i+1) l=List.take i l++[l[i]]:=@List.take_succ_eq_append_getElem
theorem mE:∀(n:Nat),n/1=n:=@Nat.div_one
theorem nz:∀{α:Type _}{β:Type _}{f:α->List β},List.flatMap f []=[]:=@List.flatMap_nil
theorem nA:∀{α:Type _}{a:α}{as:List α}{i:Nat},List.take (i+1) (a::as)=a::List.take i as:=@List.take_succ_cons
theorem nC:∀{a b:UInt8},UInt8.toNat a=UInt8.toNat b↔a=b:=@UInt8.toNat_inj
theorem oD:∀(n:Nat),Int.ofNat n=↑n:=@Int.ofNat_eq_natCast
theorem oE:∀{α:Type _}{p:α->Bool}{as:List α}{x:α},x∈List.filter p as↔x∈as/\p x=true:=@List.mem_filter
theorem oF:∀(n m:Nat),n*m=m*n:=@Nat.mul_comm
theorem qu:∀{α:Type _}{l:List α},List.length l=0↔l=[]:=@List.length_eq_zero_iff
theorem pj:∀(n:Nat),n<Nat.succ n:=@Nat.lt_succ_self
theorem qn:∀(a b:Bool),((a||b)=true)=(a=true\/b=true):=@Bool.or_eq_true
theorem qp:∀{a:Prop},¬¬a↔a:=@Classical.not_not
theorem qq:∀{α:Type _}{l:List α}{i j:Nat},(List.take i l)[j]? =if j<i then l[j]? else none:=@List.getElem?_take
theorem qv:∀{α:Type _}{l:List α}{i:Nat}{a:α},l[i]? =some a->a∈l:=@List.mem_of_getElem?
theorem qw:∀{p:Prop}[Decidable p],decide p=true->p:=@of_decide_eq_true
theorem s8:∀{α:Type _}{l:List α},List.drop (List.length l) l=[]:=@List.drop_length
theorem rG:∀{α:Type _}{l:List α},List.take (List.length l) l=l:=@List.take_length
theorem rH:∀{α:Type _}{l:List α},List.take 0 l=[]:=@List.take_zero
theorem rI:∀{a b:Nat},a<b->a%b=a:=@Nat.mod_eq_of_lt
theorem sY:∀{α:Type _}{xs ys:Array α},Array.toList (xs++ys)=Array.toList xs++Array.toList ys:=@Array.toList_append
theorem s9:∀{α:Type _}{l₁ l₂:List α},(∀(i:Nat),l₁[i]? =l₂[i]?)->l₁=l₂:=@List.ext_getElem?
theorem uW:∀{α:Type _}[BEq α][LawfulBEq α]{l₁ l₂:List α},List.isPrefixOf l₁ l₂=true↔l₁<+:l₂:=@List.isPrefixOf_iff_prefix
theorem ta:∀{n m:Nat},n=m->n<=m:=@Nat.le_of_eq
theorem tb:∀{n m k:Nat},n<m->m<=k->n<k:=@Nat.lt_of_lt_of_le
theorem te:∀{α:Type _}{a b:α},Option.getD (some a) b=a:=@Option.getD_some
theorem uS:∀{α:Type _}{xs:Array α}{i:Nat}(h:i<Array.size xs),xs[i]? =some xs[i]:=@Array.getElem?_eq_getElem
theorem uU:∀{α:Type _}{l₁ l₂:List α}{i:Nat},i<List.length l₁->(l₁++l₂)[i]? =l₁[i]? :=@List.getElem?_append_left
theorem uV:∀{α:Type _}{l₁ l₂:List α}{i:Nat},List.length l₁<=i->(l₁++l₂)[i]? =l₂[i -List.length l₁]? :=@List.getElem?_append_right
theorem uX:∀{α:Type _}{n:Nat}{a:α},List.length (List.replicate n a)=n:=@List.length_replicate
theorem xj:∀{α:Type _}{xs:Array α}{i:Nat}{d:α},Array.getD xs i d=Option.getD xs[i]? d:=@Array.getD_eq_getD_getElem?
theorem xk:∀{α:Type _}{a:α},Array.replicate 0 a=#[]:=@Array.replicate_zero
theorem uT:∀(b:Bool),(false&&b)=false:=@Bool.false_and
theorem sZ:∀(b:Bool),((!b)=true)=(b=false):=@Bool.not_eq_true'
theorem xm:∀{α:Type _}{as:List α}{i:Nat},List.length as<=i->List.drop i as=[]:=@List.drop_eq_nil_of_le
theorem xq:∀{α:Type _}{a:α},List.length [a]=1:=@List.length_singleton
theorem xr:∀{α:Type _}{a:α}{i:Nat}{l:List α},a∈List.drop i l->a∈l:=@List.mem_of_mem_drop
theorem aiQ:∀{α:Type _}(l₁ l₂:List α),l₁<+:l₁++l₂:=@List.prefix_append
theorem xu:∀{n:Nat},List.range (n+1)=0::List.map Nat.succ (List.range n):=@List.range_succ_eq_map
theorem xv:∀{m n:Nat},m<=n->∃k,n=k+m:=@Nat.exists_eq_add_of_le'
theorem xw:∀{n:Nat},UInt8.toNat (UInt8.ofNat n)=n%2^8:=@UInt8.toNat_ofNat'
theorem Ao:∀{α:Type _}{l:List α}{i:Nat}{a:α},List.getD l i a=Option.getD l[i]? a:=@List.getD_eq_getElem?_getD
theorem Ap:∀(a b:Nat),a<b\/a=b\/b<a:=@Nat.lt_trichotomy
theorem Aq:∀{n m:Nat}(k:Nat),n<=m->k*n<=k*m:=@Nat.mul_le_mul_left
theorem aiT:∀{n m:Nat}(k:Nat),n<=m->n*k<=m*k:=@Nat.mul_le_mul_right
theorem Dj:∀(n m:Nat),n+m -n=m:=@Nat.add_sub_cancel_left
namespace Lt
inductive Tr(α:Type) where
 |nil
 |node (v:Option α) (l r:Tr α)
inductive ke where
 |z
 |l (p:ke)
 |r (p:ke)
def wD:Nat->Nat->ke
 |0,_=>.z
 |f+1,n=>cond (Nat.beq n 0) .z (cond (Nat.beq (n%2) 1) (.l (wD f (n/2))) (.r (wD f (n/2 -1))))
def oY(n:Nat):ke:=wD (n+1) n
variable{α:Type}
def Tr.val:Tr α->Option α| .nil=>none| .node v _ _=>v
def Tr.left:Tr α->Tr α| .nil=>.nil| .node _ l _=>l
def Tr.right:Tr α->Tr α| .nil=>.nil| .node _ _ r=>r
def walk:ke->Tr α->Option α
 | .z,t=>t.val
 | .l p,t=>walk p t.left
 | .r p,t=>walk p t.right
def oB(x:Option α):ke->Tr α->Tr α
 | .z,.nil=>.node x .nil .nil
 | .z,.node _ l r=>.node x l r
 | .l p,.nil=>.node none (oB x p .nil) .nil
 | .l p,.node v l r=>.node v (oB x p l) r
 | .r p,.nil=>.node none .nil (oB x p .nil)
 | .r p,.node v l r=>.node v l (oB x p r)
theorem Dh(t:Tr α):walk .z t=t.val:=rfl
theorem IB(p:ke)(t:Tr α):walk (.l p) t=walk p t.left:=rfl
theorem IC(p:ke)(t:Tr α):walk (.r p) t=walk p t.right:=rfl
theorem Pm(x:Option α)(t:Tr α):oB x .z t=.node x t.left t.right:=by cases t<;>rfl
theorem IH(x:Option α)(p:ke)(t:Tr α):oB x (.l p) t=.node t.val (oB x p t.left) t.right:=by cases t<;>rfl
theorem II(x:Option α)(p:ke)(t:Tr α):oB x (.r p) t=.node t.val t.left (oB x p t.right):=by cases t<;>rfl
theorem Pe(v:Option α)(l r:Tr α):(Tr.node v l r).val=v:=rfl
theorem Sw(v:Option α)(l r:Tr α):(Tr.node v l r).left=l:=rfl
theorem UP(v:Option α)(l r:Tr α):(Tr.node v l r).right=r:=rfl
theorem IE(x:Option α):∀(p:ke)(t:Tr α),walk p (oB x p t)=x
 | .z,t=>by rw[Pm,Dh,Pe]
 | .l p,t=>by rw[IH];exact IE x p _
 | .r p,t=>by rw[II];exact IE x p _
theorem ID(x:Option α):∀(p q:ke)(t:Tr α),p≠q->walk p (oB x q t)=walk p t
 | .z,.z,t,h=>by grind
 | .z,.l q,t,_=>by rw[IH,Dh,Pe,Dh]
 | .z,.r q,t,_=>by rw[II,Dh,Pe,Dh]
 | .l p,.z,t,_=>by rw[Pm,IB,Sw,IB]
 | .l p,.l q,t,h=>by rw[IH];exact ID x p q _ λe=>h (by rw[e])
 | .l p,.r q,t,_=>by rw[II,IB,Sw,IB]
 | .r p,.z,t,_=>by rw[Pm,IC,UP,IC]
 | .r p,.l q,t,_=>by rw[IH,IC,UP,IC]
 | .r p,.r q,t,h=>by rw[II];exact ID x p q _ λe=>h (by rw[e])
def ke.num:ke->Nat
 | .z=>0
 | .l p=>2*p.num+1
 | .r p=>2*p.num+2
theorem oP(a b:Nat)(x y:α):cond (Nat.beq a b) x y=if a=b then x else y:=by simp
theorem yZ:∀(f n:Nat),n<f->(wD f n).num=n
 |0,_,h=>by grind
 |f+1,n,h=>by
  unfold wD;rw[oP,oP];by_cases h0:n=0
  ·rw[h0];rfl
  ·rw[ai h0];by_cases h1:n%2=1
   ·rw[ar h1];show 2*(wD f (n/2)).num+1=n;rw[yZ f _ (by omega)];omega
   ·rw[ai h1];show 2*(wD f (n/2 -1)).num+2=n;rw[yZ f _ (by omega)];omega
variable{n:Nat}
theorem Uw{m:Nat}(h:oY m=oY n):m=n:=by have:=bK ke.num h;unfold oY at this;rwa[yZ _ _ (pj _),yZ _ _ (pj _)] at this
def Tr.get(t:Tr α)(n:Nat):Option α:=walk (oY n) t
def Tr.set(t:Tr α)(n:Nat)(x:α):Tr α:=oB (some x) (oY n) t
def Tr.del(t:Tr α)(n:Nat):Tr α:=oB none (oY n) t
theorem Tr.bD(t:Tr α)(m n:Nat)(x:α):(t.set m x).get n=if n=m then some x else t.get n:=by
 by_cases h:n=m
 ·rw[ar h,h];exact IE _ _ _
 ·rw[ai h];exact ID _ _ _ _ λe=>h (Uw e)
theorem Tr.kK(t:Tr α)(m n:Nat):(t.del m).get n=if n=m then none else t.get n:=by
 by_cases h:n=m
 ·rw[ar h,h];exact IE _ _ _
 ·rw[ai h];exact ID _ _ _ _ λe=>h (Uw e)
theorem An:∀p:ke,walk p (.nil:Tr α)=none
 | .z=>rfl
 | .l p=>An p
 | .r p=>An p
theorem Tr.get_nil(n:Nat):(Tr.nil:Tr α).get n=none:=An _
structure Loc where
 block:Nat
 base:Nat
 stop:Nat
structure Ren where
 cq:Nat->Option Loc
 lit:Nat->Nat->Option Value
instance:CoeFun Ren (λ_=>Nat->Option Loc):=⟨Ren.cq⟩
def ae(n:Nat)(cells:List Value):Value:=.func (.via n #[] 0 true) ⟨cells⟩ #[]
def og(cells:List Value):Value:=.func (.via 0 #[] 0 false) ⟨cells⟩ #[]
def bt:Nat:=18446744073709551616
def xC(ρ:Ren):Fn->Fn->Prop
 | .yield l,g=>∃L,ρ l=some L/\g=.yield L.block
 | .via _ _ _ _,_=>False
 | .method _,_=>False
 |f,g=>g=f
def KJ(es:List MapEntry):Value:=.func (.via 0 #[] 7 true) ⟨es.map λe=>.func (.func 0) #[e.key] #[e.val]⟩ #[]
def Bu:Value->Bool
 | .func (.via _ _ 7 _) _ _=>true
 |_=>false
def fc(w:World)(b i:Nat):Option Value:=match w.heap[b]? with
 |some (.map es _)=>some (KJ es.toList)
 |_=>w.cell? ⟨b,i,none⟩
variable{b i:Nat} {w w':World}
theorem oe(h:w'.heap[b]? =w.heap[b]?):fc w' b i=fc w b i:=by
 unfold fc;rw[h];split
 ·rfl
 ·exact iP h
variable{v:Value}
theorem oU(h:fc w b i=some v):b<w.heap.size:=by
 rcases dg b w.heap.size with q|q
 ·grind
 ·unfold fc World.cell? at h
  grind
variable{cs:Array Value}
theorem qR{e:TypeId}{fz:Nat×Nat}(h:w.heap[b]? =some (.cells cs e fz))(i:Nat):fc w b i=cs[i]? :=by simp[fc,World.cell?,h]
theorem aaW(_:Bu v=true)(h:∀i,fc w b i=some v):∃es c,w.heap[b]? =some (.map es c)/\v=KJ es.toList:=by
 have lt:=oU (h 0);cases hb:w.heap[b]? with
 |none=>grind
 |some ob=>
  cases ob with
  |map es c=>have:=h 0;unfold fc at this;simp_all
  |cells cs e fz=>have:=h cs.size;rw[qR hb] at this;simp_all
  |_=>have:=h 0;unfold fc World.cell? at this;simp_all
theorem BD(ht:Bu v=false)(h:fc w b i=some v):w.cell? ⟨b,i,none⟩=some v:=by
 unfold fc at h;split at h
 ·cases h;cases ht
 grind
mutual
inductive bj(m:Nat->Nat->Option Value):Value->Value->Prop where
 |bool (b:Bool):bj m (.bool b) (.bool b)
 |int (k:IntKind) (n:Int):bj m (.int k n) (.int k n)
 |str (s:ByteArray):bj m (.string s) (.string s)
 |ow:bj m (.pointer none) (.pointer none)
 |kS:bj m (.slice none 0 0) (.slice none 0 0)
 |oi:bj m (.map none) (.map none)
 |nilFunc:bj m .nilFunc .nilFunc
 |nilIface:bj m .nilIface .nilIface
 |agg {xs xs':Array Value} (h:aP m xs.toList xs'.toList):bj m (.agg xs) (.agg xs')
 |aH {xs xs':Array Value} (h:aP m xs.toList xs'.toList):bj m (.tuple xs) (.tuple xs')
 |fn {f:FuncId} {xs ys xs' ys':Array Value} (h:aP m xs.toList xs'.toList) (h':aP m ys.toList ys'.toList):bj m (.func (.func f) xs ys) (.func (.func f) xs' ys')
 |gH {n c:Nat} {cs:Array Value} {a:Addr} {ys:List Value} (h:aP m cs.toList ys) (hm:∀i y,ys[i]? =some y->m a.block (a.off+i)=some y) (hs:a.spot=none) (hn:n<=c):bj m (.func (.via n #[] 0 true) cs #[]) (.slice (some a) n c)
 |fN {c:Nat} {a:Option Addr}:bj m (.func (.via 0 #[] 0 true) #[] #[]) (.slice a 0 c)
 |qm {c:Nat} {a:Addr}:bj m (.func (.via 0 #[] 1 true) #[] #[]) (.slice (some a) 0 c)
 |pZ {c:Nat}:bj m (.func (.via 0 #[] 2 true) #[] #[]) (.slice none 0 c)
 |sA {cs:Array Value} {a:Addr} {ys:List Value} (h:aP m cs.toList ys) (hm:∀i y,ys[i]? =some y->m a.block (a.off+i)=some y) (hs:a.spot=none):bj m (.func (.via 0 #[] 0 false) cs #[]) (.pointer (some a))
 |gy {cs:Array Value} {ys:List Value} {b:Nat} (h:aP m cs.toList ys) (hm:∀i,m b i=some (.func (.via 0 #[] 7 true) ⟨ys⟩ #[])):bj m (.func (.method "") cs #[]) (.map (some b))
inductive aP(m:Nat->Nat->Option Value):List Value->List Value->Prop where
 |nil:aP m [] []
 |cons {x y:Value} {xs ys:List Value} (h:bj m x y) (t:aP m xs ys):aP m (x::xs) (y::ys)
end
mutual
theorem bj.mono{m m':Nat->Nat->Option Value}(e:∀b i v,m b i=some v->m' b i=some v):∀{v v':Value},bj m v v'->bj m' v v'
 |_,_,.bool b=>.bool b
 |_,_,.int k n=>.int k n
 |_,_,.str s=>.str s
 |_,_,.ow=>.ow
 |_,_,.kS=>.kS
 |_,_,.oi=>.oi
 |_,_,.nilFunc=>.nilFunc
 |_,_,.nilIface=>.nilIface
 |_,_,.agg h=>.agg (aP.mono e h)
 |_,_,.aH h=>.aH (aP.mono e h)
 |_,_,.fn h h'=>.fn (aP.mono e h) (aP.mono e h')
 |_,_,.gH h hm hs hn=>.gH (aP.mono e h) (λi y hy=>e _ _ _ (hm i y hy)) hs hn
 |_,_,.fN=>.fN
 |_,_,.qm=>.qm
 |_,_,.pZ=>.pZ
 |_,_,.sA h hm hs=>.sA (aP.mono e h) (λi y hy=>e _ _ _ (hm i y hy)) hs
 |_,_,.gy h hm=>.gy (aP.mono e h) λi=>e _ _ _ (hm i)
theorem aP.mono{m m':Nat->Nat->Option Value}(e:∀b i v,m b i=some v->m' b i=some v):∀{v v':List Value},aP m v v'->aP m' v v'
 |_,_,.nil=>.nil
 |_,_,.cons h t=>.cons (bj.mono e h) (aP.mono e t)
end
variable{v':Value}
theorem bj.KW{m:Nat->Nat->Option Value}(h:bj m v v'):Bu v'=false:=by cases h<;>rfl
mutual
inductive aF(ρ:Ren):Value->Value->Prop where
 |bool (b:Bool):aF ρ (.bool b) (.bool b)
 |int (k:IntKind) (n:Int):aF ρ (.int k n) (.int k n)
 |str (s:ByteArray):aF ρ (.string s) (.string s)
 |ow:aF ρ (.pointer none) (.pointer none)
 |ptr {o off:Nat} {L:Loc} (h:ρ o=some L):aF ρ (.pointer (some ⟨o,off,none⟩)) (.pointer (some ⟨L.block,L.base+off,none⟩))
 |kS:aF ρ (.slice none 0 0) (.slice none 0 0)
 |gG {o off n cap:Nat} {L:Loc} (h:ρ o=some L) (hc:cap<bt) (hn:n<=cap):aF ρ (.slice (some ⟨o,off,none⟩) n cap) (.slice (some ⟨L.block,L.base+off,none⟩) n cap)
 |gz {o off n E c:Nat} {L:Loc} (h:ρ o=some L) (hE:0<E) (hc:L.base+off+c*E=L.stop) (hn:n<=c):aF ρ (.slice (some ⟨o,off,none⟩) n (bt+E)) (.slice (some ⟨L.block,L.base+off,none⟩) n c)
 |jb {a:Addr} {c:Nat}:aF ρ (.slice (some ⟨0,0,none⟩) 0 bt) (.slice (some a) 0 c)
 |oi:aF ρ (.map none) (.map none)
 |map {o:Nat} {L:Loc} (h:ρ o=some L):aF ρ (.map (some o)) (.map (some L.block))
 |func {f g:Fn} {xs ys xs' ys':Array Value} (hf:xC ρ f g) (h:bk ρ xs.toList xs'.toList) (h':bk ρ ys.toList ys'.toList):aF ρ (.func f xs ys) (.func g xs' ys')
 |nilFunc:aF ρ .nilFunc .nilFunc
 |iface {t:TypeId} {v v':Value} (h:aF ρ v v'):aF ρ (.iface t v) (.iface t v')
 |nilIface:aF ρ .nilIface .nilIface
 |agg {xs xs':Array Value} (h:bk ρ xs.toList xs'.toList):aF ρ (.agg xs) (.agg xs')
 |tuple {xs xs':Array Value} (h:bk ρ xs.toList xs'.toList):aF ρ (.tuple xs) (.tuple xs')
 |lit {n:Nat} {p:Array FieldStep} {f:FuncId} {b:Bool} {cs ys:Array Value} {v':Value} (h:bj ρ.lit (.func (.via n p f b) cs ys) v'):aF ρ (.func (.via n p f b) cs ys) v'
 |gy {cs ys:Array Value} {v':Value} (h:bj ρ.lit (.func (.method "") cs ys) v'):aF ρ (.func (.method "") cs ys) v'
inductive bk(ρ:Ren):List Value->List Value->Prop where
 |nil:bk ρ [] []
 |cons {x y:Value} {xs ys:List Value} (h:aF ρ x y) (t:bk ρ xs ys):bk ρ (x::xs) (y::ys)
end
structure Ext(ρ ρ':Ren):Prop where
 cq:∀o L,ρ o=some L->ρ' o=some L
 lit:∀b i v,ρ.lit b i=some v->ρ'.lit b i=some v
instance{ρ ρ':Ren}:CoeFun (Ext ρ ρ') (λ_=>∀o L,ρ o=some L->ρ' o=some L):=⟨Ext.cq⟩
theorem Ext.refl(ρ:Ren):Ext ρ ρ:=⟨λ_ _ h=>h,λ_ _ _ h=>h⟩
theorem Ext.trans{a b c:Ren}(h:Ext a b)(k:Ext b c):Ext a c:=⟨λo L x=>k.cq o L (h.cq o L x),λb i v x=>k.lit b i v (h.lit b i v x)⟩
variable{ρ ρ':Ren}
theorem xC.mono(e:Ext ρ ρ'){f g:Fn}(h:xC ρ f g):xC ρ' f g:=by cases f<;>first|exact h|(obtain⟨L,h1,h2⟩:=h;exact⟨L,e.cq _ _ h1,h2⟩)
mutual
theorem aF.mono{ρ ρ':Ren}(e:Ext ρ ρ'):∀{v v':Value},aF ρ v v'->aF ρ' v v'
 |_,_,.bool b=>.bool b
 |_,_,.int k n=>.int k n
 |_,_,.str s=>.str s
 |_,_,.ow=>.ow
 |_,_,.ptr h=>.ptr (e.cq _ _ h)
 |_,_,.kS=>.kS
 |_,_,.gG h hc hn=>.gG (e.cq _ _ h) hc hn
 |_,_,.gz h hE hc hn=>.gz (e.cq _ _ h) hE hc hn
 |_,_,.jb=>.jb
 |_,_,.oi=>.oi
 |_,_,.map h=>.map (e.cq _ _ h)
 |_,_,.func hf h h'=>.func (hf.mono e) (bk.mono e h) (bk.mono e h')
 |_,_,.nilFunc=>.nilFunc
 |_,_,.iface h=>.iface (aF.mono e h)
 |_,_,.nilIface=>.nilIface
 |_,_,.agg h=>.agg (bk.mono e h)
 |_,_,.tuple h=>.tuple (bk.mono e h)
 |_,_,.lit h=>.lit (h.mono e.lit)
 |_,_,.gy h=>.gy (h.mono e.lit)
theorem bk.mono{ρ ρ':Ren}(e:Ext ρ ρ'):∀{v v':List Value},bk ρ v v'->bk ρ' v v'
 |_,_,.nil=>.nil
 |_,_,.cons h t=>.cons (aF.mono e h) (bk.mono e t)
end
theorem bk.length:∀{xs ys:List Value},bk ρ xs ys->xs.length=ys.length
 |_,_,.nil=>rfl
 |_,_,.cons _ t=>bK (·+1) t.length
theorem bk.get:∀{xs ys:List Value},bk ρ xs ys->∀{i:Nat}{x:Value},xs[i]? =some x->∃y,ys[i]? =some y/\aF ρ x y
 |_,_,.nil,_,_,h=>by grind
 |_,_,.cons h t,i,x,hi=>by
  cases i with
  |zero=>grind
  |succ i=>simpa using t.get hi
theorem bk.append:∀{xs ys us vs:List Value},bk ρ xs ys->bk ρ us vs->bk ρ (xs++us) (ys++vs)
 |_,_,_,_,.nil,h=>h
 |_,_,_,_,.cons x t,h=>.cons x (t.append h)
theorem bk.qU:∀{xs ys:List Value},xs.length=ys.length->(∀(i:Nat)(x:Value),xs[i]? =some x->∃y,ys[i]? =some y/\aF ρ x y)->bk ρ xs ys
 |[],[],_,_=>.nil
 |[],_::_,h,_=>by grind
 |_::_,[],h,_=>by grind
 |x::xs,y::ys,h,g=>by obtain⟨z,hz,r⟩:=g 0 x rfl;simp at hz;subst hz;exact .cons r (bk.qU (by grind) λi x hx=>by simpa using g (i+1) x (by grind))
theorem bk.take:∀{xs ys:List Value},bk ρ xs ys->∀n,bk ρ (xs.take n) (ys.take n)
 |_,_,.nil,n=>by simp;exact .nil
 |_,_,.cons h t,0=>by simp;exact .nil
 |_,_,.cons h t,n+1=>by simp;exact .cons h (t.take n)
theorem bk.drop:∀{xs ys:List Value},bk ρ xs ys->∀n,bk ρ (xs.drop n) (ys.drop n)
 |_,_,.nil,n=>by simp;exact .nil
 |_,_,.cons h t,0=>by simpa using .cons h t
 |_,_,.cons h t,n+1=>by simpa using t.drop n
theorem bk.set:∀{xs ys:List Value},bk ρ xs ys->∀{x y:Value}(_:aF ρ x y)(n:Nat),bk ρ (xs.set n x) (ys.set n y)
 |_,_,.nil,_,_,_,n=>by simp;exact .nil
 |_,_,.cons h t,_,_,r,0=>by simpa using .cons r t
 |_,_,.cons h t,_,_,r,n+1=>by simpa using .cons h (t.set r n)
structure IJ where
 state:LoopState
 pending:Option Code
 fn:FuncId
 n:Nat
 tmps:Tr Value
 params:List Tmp
 assign:Code
 body:Code
 defers:Nat
inductive eV where
 |cells (c:List Value) (elem:TypeId) (opn:Bool)
 |map (es:List (Value×Value))
 |loop (l:IJ)
 |deferred (calls:Option (List Deferred))
abbrev Heap:=Tr eV
def mF(ρ:Ren)(L:Loc)(c:List Value)(opn:Bool)(cs:Array Value):Prop:=
 L.stop=cs.size/\L.base+c.length<=cs.size/\(opn=false->L.base=0/\cs.size=c.length)/\
  ∀i v,c[i]? =some v->∃v',cs[L.base+i]? =some v'/\aF ρ v v'
inductive lQ(ρ:Ren):List (Value×Value)->List MapEntry->Prop where
 |nil:lQ ρ [] []
 |cons {k v:Value} {e:MapEntry} {xs:List (Value×Value)} {es:List MapEntry} (hk:aF ρ k e.key) (hv:aF ρ v e.val) (t:lQ ρ xs es):lQ ρ ((k,v)::xs) (e::es)
theorem lQ.mono(e:Ext ρ ρ'):∀{xs:List (Value×Value)}{es:List MapEntry},lQ ρ xs es->lQ ρ' xs es
 |_,_,.nil=>.nil
 |_,_,.cons hk hv t=>.cons (hk.mono e) (hv.mono e) (t.mono e)
def DH(ρ:Ren):Target->Target->Prop
 | .fn f c,t'=>∃g c',t'=.fn g c'/\xC ρ f g/\bk ρ c.toList c'.toList
 | .nil,t'=>t'=.nil
 | .builtin b x y z,t'=>t'=.builtin b x y z
 | .collected r,t'=>∃L,ρ r=some L/\t'=.collected L.block
 | .coroexit _,_=>False
def xy(ρ:Ren)(d d':Deferred):Prop:=DH ρ d.target d'.target/\bk ρ d.args.toList d'.args.toList
inductive mG(ρ:Ren):List Deferred->List Deferred->Prop where
 |nil:mG ρ [] []
 |cons {x y:Deferred} {xs ys:List Deferred} (h:xy ρ x y) (t:mG ρ xs ys):mG ρ (x::xs) (y::ys)
theorem DH.mono(e:Ext ρ ρ'){t t':Target}(h:DH ρ t t'):DH ρ' t t':=by
 cases t with
 |fn f c=>obtain⟨g,c',h1,h2,h3⟩:=h;exact⟨g,c',h1,h2.mono e,h3.mono e⟩
 |nil=>exact h
 |builtin b x y z=>exact h
 |collected r=>obtain⟨L,h1,h2⟩:=h;exact⟨L,e.cq _ _ h1,h2⟩
 |coroexit c=>exact h
theorem xy.mono(e:Ext ρ ρ'){t t':Deferred}(h:xy ρ t t'):xy ρ' t t':=⟨h.1.mono e,h.2.mono e⟩
theorem mG.mono(e:Ext ρ ρ'):∀{t t':List Deferred},mG ρ t t'->mG ρ' t t'
 |_,_,.nil=>.nil
 |_,_,.cons h t=>.cons (h.mono e) (t.mono e)
theorem mG.append:∀{xs ys us vs:List Deferred},mG ρ xs ys->mG ρ us vs->mG ρ (xs++us) (ys++vs)
 |_,_,_,_,.nil,h=>h
 |_,_,_,_,.cons x t,h=>.cons x (t.append h)
def jm(ρ:Ren)(tm:Tr Value)(n:Nat)(tmps:Array Value):Prop:=tmps.size=n/\∀t v,tm.get t=some v->∃v',tmps[t]? =some v'/\aF ρ v v'
variable{tm:Tr Value} {tmps:Array Value}
theorem jm.mono(e:Ext ρ ρ')(h:jm ρ tm n tmps):jm ρ' tm n tmps:=
 ⟨h.1,λt v hv=>by obtain⟨v',h1,h2⟩:=h.2 t v hv;exact⟨v',h1,h2.mono e⟩⟩
theorem jm.set(h:jm ρ tm n tmps){d:Nat}(hd:d<n)(r:aF ρ v v'):jm ρ (tm.set d v) n (tmps.setIfInBounds d v'):=by
 obtain⟨h1,h2⟩:=h;refine⟨by simpa using h1,λt u hu=>?_⟩;rw[Tr.bD] at hu
 grind
structure Ds(ρ:Ren)(l:IJ)(l':Loop):Prop where
 state:l'.state=l.state
 pending:l'.pending=l.pending
 fn:l'.fn=l.fn
 tmps:jm ρ l.tmps l.n l'.tmps
 params:l'.params.toList=l.params
 assign:l'.assign=l.assign
 body:l'.body=l.body
 defers:∃L,ρ l.defers=some L/\l'.defers=L.block
theorem Ds.mono(e:Ext ρ ρ'){l:IJ}{l':Loop}(h:Ds ρ l l'):Ds ρ' l l':=
 ⟨h.state,h.pending,h.fn,h.tmps.mono e,h.params,h.assign,h.body,by obtain⟨L,h1,h2⟩:=h.defers;exact⟨L,e.cq _ _ h1,h2⟩⟩
def vQ(b:Bool):Value:=.func (.via 0 #[] (cond b 2 1) true) #[] #[]
def vc(fz:Nat×Nat)(n:Nat):Prop:=fz=(0,0)\/n<=fz.1
def lh(ρ:Ren)(w:World)(L:Loc):eV->Prop
 | .cells c elem opn=>∃cs fz,w.heap[L.block]? =some (.cells cs elem fz)/\vc fz cs.size/\mF ρ L c opn cs
 | .map es=>∃es' clock,w.heap[L.block]? =some (.map es' clock)/\lQ ρ es es'.toList
 | .loop l=>∃l',w.heap[L.block]? =some (.loop l')/\Ds ρ l l'
 | .deferred none=>w.heap[L.block]? =some (.deferred none)
 | .deferred (some ds)=>∃ds',w.heap[L.block]? =some (.deferred (some ds'))/\mG ρ ds ds'
structure bh(ρ:Ren)(h:Heap)(w:World):Prop where
 obj:∀o ob,h.get o=some ob->∃L,ρ o=some L/\lh ρ w L ob
 inj:∀o o' L L' ob ob',h.get o=some ob->h.get o'=some ob'->ρ o=some L->ρ o'=some L'->L.block=L'.block->o=o'
 lit:∀b i v,ρ.lit b i=some v->fc w b i=some v
 free:∀b i v,ρ.lit b i=some v->∀o ob L,h.get o=some ob->ρ o=some L->L.block≠b
theorem mF.mono(e:Ext ρ ρ'){L:Loc}{c:List Value}{opn:Bool}(h:mF ρ L c opn cs):mF ρ' L c opn cs:=
 ⟨h.1,h.2.1,h.2.2.1,λi v hi=>by obtain⟨v',h1,h2⟩:=h.2.2.2 i v hi;exact⟨v',h1,h2.mono e⟩⟩
theorem lh.mono(e:Ext ρ ρ'){L:Loc}{ob:eV}(h:lh ρ w L ob):lh ρ' w L ob:=by
 cases ob with
 |cells c elem opn=>obtain⟨cs,fz,h1,hz,h2⟩:=h;exact⟨cs,fz,h1,hz,h2.mono e⟩
 |map es=>obtain⟨x,y,h1,h2⟩:=h;exact⟨x,y,h1,h2.mono e⟩
 |loop l=>obtain⟨x,h1,h2⟩:=h;exact⟨x,h1,h2.mono e⟩
 |deferred ds=>
  cases ds with
  |none=>exact h
  |some ds=>obtain⟨x,h1,h2⟩:=h;exact⟨x,h1,h2.mono e⟩
theorem lh.block{L:Loc}{ob:eV}(h:lh ρ w L ob)(e:w'.heap[L.block]? =w.heap[L.block]?):lh ρ w' L ob:=by
 cases ob with
 |cells c elem opn=>obtain⟨cs,fz,h1,hz,h2⟩:=h;exact⟨cs,fz,e.trans h1,hz,h2⟩
 |map es=>obtain⟨x,y,h1,h2⟩:=h;exact⟨x,y,e.trans h1,h2⟩
 |loop l=>obtain⟨x,h1,h2⟩:=h;exact⟨x,e.trans h1,h2⟩
 |deferred ds=>
  cases ds with
  |none=>exact e.trans h
  |some ds=>obtain⟨x,h1,h2⟩:=h;exact⟨x,e.trans h1,h2⟩
theorem lh.lt{L:Loc}{ob:eV}(h:lh ρ w L ob):L.block<w.heap.size:=by
 have key:∀x,w.heap[L.block]? =some x->L.block<w.heap.size:=λx hx=>by grind
 cases ob with
 |cells c elem opn=>obtain⟨cs,fz,h1,hz,h2⟩:=h;exact key _ h1
 |map es=>obtain⟨x,y,h1,h2⟩:=h;exact key _ h1
 |loop l=>obtain⟨x,h1,h2⟩:=h;exact key _ h1
 |deferred ds=>
  cases ds with
  |none=>exact key _ h
  |some ds=>obtain⟨x,h1,h2⟩:=h;exact key _ h1
def gT(ρ:Ren)(h:Heap)(b:Nat):Prop:=∃o ob L,h.get o=some ob/\ρ o=some L/\L.block=b
structure bP(ρ:Ren)(h:Heap)(nx:Nat)(w:World)(ρ':Ren)(h':Heap)(nx':Nat)(w':World):Prop where
 os:w'.os=w.os
 tape:w'.tape=w.tape
 output:w'.output=w.output
 size:w.heap.size<=w'.heap.size
 block:∀b,b<w.heap.size->¬gT ρ h b->w'.heap[b]? =w.heap[b]?
 owned:∀b,b<w.heap.size->gT ρ' h' b->gT ρ h b
 le:nx<=nx'
 cq:∀o,o<nx\/nx'<=o->ρ' o=ρ o
 lit:∀b i v,ρ.lit b i=some v->ρ'.lit b i=some v
 eU:∀b i v,ρ'.lit b i=some v->ρ.lit b i=some v\/w.heap.size<=b\/gT ρ h b
theorem bP.refl(ρ:Ren)(h:Heap)(nx:Nat)(w:World):bP ρ h nx w ρ h nx w:=
 ⟨rfl,rfl,rfl,aB _,λ_ _ _=>rfl,λ_ _ h=>h,aB _,λ_ _=>rfl,λ_ _ _ h=>h,λ_ _ _ h=>.inl h⟩
variable{h h':Heap} {n':Nat}
theorem bP.trans{ρ'':Ren}{h'':Heap}{n'':Nat}{w'':World}(a:bP ρ h n w ρ' h' n' w')(b:bP ρ' h' n' w' ρ'' h'' n'' w''):bP ρ h n w ρ'' h'' n'' w'' where
 os:=b.os.trans a.os
 tape:=b.tape.trans a.tape
 output:=b.output.trans a.output
 size:=eP a.size b.size
 block:=λk hk ho=>(b.block k (tb hk a.size) (λx=>ho (a.owned k hk x))).trans (a.block k hk ho)
 owned:=λk hk ho=>a.owned k hk (b.owned k (tb hk a.size) ho)
 le:=eP a.le b.le
 cq:=λo ho=>by have:=a.le;have:=b.le;rw[b.cq o (by omega),a.cq o (by omega)]
 lit:=λk i v h=>b.lit k i v (a.lit k i v h)
 eU:=λk i v h=>by
  rcases dg k w.heap.size with hk|hk
  ·rcases b.eU k i v h with h|h|h
   ·exact a.eU k i v h
   ·exact .inr (.inl (eP a.size h))
   ·exact .inr (.inr (a.owned k hk h))
  grind
theorem bP.ext(a:bP ρ h n w ρ' h' n' w')(f:∀o,n<=o->o<n'->ρ o=none):Ext ρ ρ':=by
 refine⟨λo L ho=>?_,a.lit⟩;rcases dg o n with h1|h1
 ·rw[a.cq o (.inl h1)];exact ho
 ·rcases dg o n' with h2|h2
  ·grind
  ·rw[a.cq o (.inr h2)];exact ho
end Lt
end
namespace Lt
section
variable{b:Nat} {h:Heap} {v:Value} {w:World} {ρ:Ren}
theorem bh.yL(H:bh ρ h w){i:Nat}(hv:ρ.lit b i=some v):b<w.heap.size:=oU (H.lit b i v hv)
theorem bh.mono{ρ':Ren}(e:Ext ρ ρ')(hl:ρ'.lit=ρ.lit)(H:bh ρ h w):bh ρ' h w where
 lit:=by rw[hl];exact H.lit
 free:=by rw[hl];intro b i v hv o ob L ho hL;obtain⟨L1,a1,_⟩:=H.obj o ob ho;cases(e.cq _ _ a1).symm.trans hL;exact H.free b i v hv o ob _ ho a1
 obj o ob ho:=by obtain⟨L,h1,h2⟩:=H.obj o ob ho;exact⟨L,e.cq _ _ h1,h2.mono e⟩
 inj o o' L L' ob ob' h1 h2 r1 r2 hb:=by obtain⟨L1,a1,_⟩:=H.obj o ob h1;obtain⟨L2,a2,_⟩:=H.obj o' ob' h2;cases(e.cq _ _ a1).symm.trans r1;cases(e.cq _ _ a2).symm.trans r2;exact H.inj o o' _ _ ob ob' h1 h2 a1 a2 hb
theorem bh.sub{h':Heap}(H:bh ρ h w)(s:∀o ob,h'.get o=some ob->h.get o=some ob):bh ρ h' w where
 obj o ob ho:=H.obj o ob (s o ob ho)
 inj o o' L L' ob ob' h1 h2 r1 r2 hb:=H.inj o o' L L' ob ob' (s _ _ h1) (s _ _ h2) r1 r2 hb
 lit:=H.lit
 free b i v hv o ob L ho hL:=H.free b i v hv o ob L (s _ _ ho) hL
variable{w':World}
theorem bh.same(H:bh ρ h w)(e:∀b:Nat,w'.heap[b]? =w.heap[b]?):bh ρ h w' where
 obj o ob ho:=by obtain⟨L,h1,h2⟩:=H.obj o ob ho;exact⟨L,h1,h2.block (e _)⟩
 inj:=H.inj
 lit b i v hv:=by rw[oe (e b)];exact H.lit b i v hv
 free:=H.free
variable{o:Nat} {ob':eV}
theorem bh.put(H:bh ρ h w){ob:eV}{L:Loc}(ho:h.get o=some ob)(hρ:ρ o=some L)
 (he:∀b,b≠L.block->w'.heap[b]? =w.heap[b]?) (hO:lh ρ w' L ob'):bh ρ (h.set o ob') w' where
 obj p x hp:=by
  rw[Tr.bD] at hp;by_cases e:p=o
  ·grind
  ·rw[ai e] at hp;obtain⟨M,h1,h2⟩:=H.obj p x hp;exact⟨M,h1,h2.block (he _ λhb=>e (H.inj p o M L x ob hp ho h1 hρ hb))⟩
 inj p q M M' x y hp hq r1 r2 hb:=by
  rw[Tr.bD] at hp hq;by_cases e:p=o
  ·by_cases e':q=o
   ·grind
   ·rw[ai e'] at hq;subst e;exact H.inj _ _ M M' ob y ho hq r1 r2 hb
  ·rw[ai e] at hp;by_cases e':q=o
   ·subst e';exact H.inj _ _ M M' x ob hp ho r1 r2 hb
   ·rw[ai e'] at hq;exact H.inj _ _ M M' x y hp hq r1 r2 hb
 lit b i v hv:=by rw[oe (he b (Ne.symm (H.free b i v hv o ob L ho hρ)))];exact H.lit b i v hv
 free b i v hv p x M hp hM:=by
  rw[Tr.bD] at hp;by_cases e:p=o
  ·subst e;cases hρ.symm.trans hM;exact H.free b i v hv p ob L ho hρ
  ·rw[ai e] at hp;exact H.free b i v hv p x M hp hM
variable{nx:Nat}
theorem bP.put{ob:eV}{L:Loc}(ho:h.get o=some ob)(hρ:ρ o=some L)
 (h1:w'.os=w.os) (h2:w'.tape=w.tape) (h3:w'.output=w.output) (h4:w'.heap.size=w.heap.size)
 (he:∀b,b≠L.block->w'.heap[b]? =w.heap[b]?):bP ρ h nx w ρ (h.set o ob') nx w' where
 os:=h1
 tape:=h2
 output:=h3
 size:=ta h4.symm
 block b _ hb:=he b λe=>hb ⟨o,ob,L,ho,hρ,e.symm⟩
 owned b _ hb:=by
  obtain⟨p,x,M,a1,a2,a3⟩:=hb;rw[Tr.bD] at a1;by_cases e:p=o
  ·subst e;exact⟨p,ob,M,ho,a2,a3⟩
  ·rw[ai e] at a1;exact⟨p,x,M,a1,a2,a3⟩
 le:=aB _
 cq _ _:=rfl
 lit _ _ _ h:=h
 eU _ _ _ h:=.inl h
def Ren.with(ρ:Ren)(o:Nat)(L:Loc):Ren:=⟨λp=>if p=o then some L else ρ p,ρ.lit⟩
theorem Ren.iO(ρ:Ren)(o:Nat)(L:Loc):ρ.with o L o=some L:=ar rfl
theorem Ren.jX{p:Nat}{L:Loc}(h:p≠o):ρ.with o L p=ρ p:=ai h
theorem Ren.sX{L:Loc}(h:ρ o=none):Ext ρ (ρ.with o L):=by
 refine⟨λp M hp=>?_,λ_ _ _ h=>h⟩;by_cases e:p=o
 ·grind
 ·rw[Ren.jX e];exact hp
theorem bh.fresh(H:bh ρ h w)(hn:ρ nx=none){ob:eV}{L:Loc}(hL:L.block=w.heap.size)
 (he:∀b,b<w.heap.size->w'.heap[b]? =w.heap[b]?) (hO:lh (ρ.with nx L) w' L ob):bh (ρ.with nx L) (h.set nx ob) w' where
 obj p x hp:=by
  rw[Tr.bD] at hp;by_cases e:p=nx
  ·rw[ar e] at hp;subst e;cases hp;exact⟨L,Ren.iO _ _ _,hO⟩
  ·rw[ai e] at hp;obtain⟨M,h1,h2⟩:=H.obj p x hp;exact⟨M,(Ren.sX hn).cq _ _ h1,(h2.mono (Ren.sX hn)).block (he _ h2.lt)⟩
 inj p q M M' x y hp hq r1 r2 hb:=by
  rw[Tr.bD] at hp hq;by_cases e:p=nx
  ·by_cases e':q=nx
   ·grind
   ·rw[ai e'] at hq;rw[e,Ren.iO] at r1;rw[Ren.jX e'] at r2;cases r1;obtain⟨N,a1,a2⟩:=H.obj q y hq;cases a1.symm.trans r2;have:=a2.lt;omega
  ·rw[ai e] at hp;rw[Ren.jX e] at r1;by_cases e':q=nx
   ·rw[e',Ren.iO] at r2;cases r2;obtain⟨N,a1,a2⟩:=H.obj p x hp;cases a1.symm.trans r1;have:=a2.lt;omega
   ·rw[ai e'] at hq;rw[Ren.jX e'] at r2;exact H.inj p q M M' x y hp hq r1 r2 hb
 lit b i v hv:=by rw[oe (he b (H.yL hv))];exact H.lit b i v hv
 free b i v hv p x M hp hM:=by
  rw[Tr.bD] at hp;by_cases e:p=nx
  ·rw[e,Ren.iO] at hM;cases hM;have:=H.yL hv;omega
  ·rw[ai e] at hp;rw[Ren.jX e] at hM;exact H.free b i v hv p x M hp hM
theorem bP.fresh{ob:eV}{L:Loc}(hL:L.block=w.heap.size)
 (h1:w'.os=w.os) (h2:w'.tape=w.tape) (h3:w'.output=w.output) (h4:w.heap.size<=w'.heap.size)
 (he:∀b,b<w.heap.size->w'.heap[b]? =w.heap[b]?):bP ρ h nx w (ρ.with nx L) (h.set nx ob) (nx+1) w' where
 os:=h1
 tape:=h2
 output:=h3
 size:=h4
 block b hb _:=he b hb
 owned b hb ho:=by
  obtain⟨p,x,M,a1,a2,a3⟩:=ho;rw[Tr.bD] at a1;by_cases e:p=nx
  ·rw[e,Ren.iO] at a2
   grind
  ·rw[ai e] at a1;rw[Ren.jX e] at a2;exact⟨p,x,M,a1,a2,a3⟩
 le:=kc _
 cq o ho:=Ren.jX (by omega)
 lit _ _ _ h:=h
 eU _ _ _ h:=.inl h
theorem tF(b k i:Nat):(⟨b,k,none⟩:Addr).add i=⟨b,k+i,none⟩:=by unfold Addr.add;simp
variable{cs:Array Value} {e:TypeId} {fz:Nat×Nat}
theorem cell_of(h:w.heap[b]? =some (.cells cs e fz))(k:Nat):w.cell? ⟨b,k,none⟩=cs[k]? :=by simp[World.cell?,h]
theorem ZP(h:w.heap[b]? =some (.cells cs e fz))(hz:vc fz cs.size)(k:Nat)(hk:k<cs.size):w.frozen? ⟨b,k,none⟩=false:=by
 simp[World.frozen?,h];rcases hz with rfl|hz
 ·simp
 grind
theorem U4(P:Program){w:World}{b k:Nat}{cs:Array Value}{e:TypeId}{fz:Nat×Nat}(h:w.heap[b]? =some (.cells cs e fz)):
 ∀(n i:Nat)(acc:Array Value),k+i+n<=cs.size->∃vs,(loadCellsFrom ⟨b,k,none⟩ i n acc).run P w=.ok vs w/\vs.toList=acc.toList++(cs.toList.drop (k+i)).take n
 |0,i,acc,_=>⟨acc,by simp[loadCellsFrom],by simp⟩
 |n+1,i,acc,hle=>by
  have hlt:k+i<cs.size:=by omega
  obtain⟨vs,h1,h2⟩:=U4 P (k:=k) h n (i+1) (acc.push cs[k+i]) (by omega);refine⟨vs,?_,?_⟩
  ·simp[loadCellsFrom,tF,(show w.cell? ⟨b,k+i,none⟩=some cs[k+i] from by rw[cell_of h,uS hlt])];exact h1
  ·rw[h2];rw[show k+(i+1)=k+i+1 from rfl,dG (show k+i<cs.toList.length from by simpa using hlt)];simp
variable{k n:Nat}
theorem Ge(P:Program)(h:w.heap[b]? =some (.cells cs e fz))(hle:k+n<=cs.size):
 ∃vs,(loadCells ⟨b,k,none⟩ n).run P w=.ok vs w/\vs.toList=(cs.toList.drop k).take n:=by
 obtain⟨vs,h1,h2⟩:=U4 P h n 0 #[] (by omega);exact⟨vs,h1,by simpa using h2⟩
def aW:Nat->List Value->List Value->List Value
 |_,[],c=>c
 |n,v::vs,c=>aW (n+1) vs (c.set n v)
theorem kq:∀(vs:List Value)(n:Nat)(c:List Value),(aW n vs c).length=c.length
 |[],_,_=>rfl
 |v::vs,n,c=>by simp only[aW,kq vs,List.length_set]
theorem VA(h:w.heap[b]? =some (.cells cs e fz))(v:Value):
 (w.setCell ⟨b,k,none⟩ v).heap[b]? =some (.cells (cs.setIfInBounds k v) e fz):=by
 simp[World.setCell,Array.getElem?_modify,h]
theorem Vz{b':Nat}(v:Value)(hb:b'≠b):(w.setCell ⟨b,k,none⟩ v).heap[b']? =w.heap[b']? :=by simp[World.setCell,Array.getElem?_modify,Ne.symm hb]
theorem VB(w:World)(a:Addr)(v:Value):(w.setCell a v).heap.size=w.heap.size:=by simp
theorem zj(P:Program){b k:Nat}{e:TypeId}{fz:Nat×Nat}:
 ∀(vs:List Value)(i:Nat)(w:World)(cs:Array Value),w.heap[b]? =some (.cells cs e fz)->vc fz cs.size->k+i+vs.length<=cs.size->(∀v∈vs,v.oneCell'=true)->
  ∃w',(storeCells ⟨b,k,none⟩ vs i).run P w=.ok () w'/\w'.heap[b]? =some (.cells ⟨aW (k+i) vs cs.toList⟩ e fz)/\(∀b',b'≠b->w'.heap[b']? =w.heap[b']?)/\
   w'.heap.size=w.heap.size/\w'.os=w.os/\w'.tape=w.tape/\w'.output=w.output
 |[],i,w,cs,h,_,_,_=>⟨w,by simp[storeCells],by simpa[aW] using h,λ_ _=>rfl,rfl,rfl,rfl,rfl⟩
 |v::vs,i,w,cs,h,hz,hle,hv=>by
  simp at hle;have hlt:k+i<cs.size:=by omega
  obtain⟨w',h1,h2,h3,h4,h5,h6,h7⟩:=zj P (k:=k) vs (i+1) (w.setCell ⟨b,k+i,none⟩ v) _ (VA h v) (by simpa using hz) (by simp;omega) (λx hx=>hv x (gL _ hx));refine⟨w',?_,?_,?_,by rw[h4,VB],h5,h6,h7⟩
  ·simp[storeCells,tF,run_store P w _ v .plain (hv v mC),(show w.cell? ⟨b,k+i,none⟩=some cs[k+i] from by rw[cell_of h,uS hlt]),(ZP h hz (k+i) hlt)];exact h1
  ·rw[h2];simp[aW,lO]
  ·intro b' hb';rw[h3 b' hb',Vz v hb']
theorem bk.aW:∀{us vs:List Value},bk ρ us vs->∀(n:Nat){xs ys:List Value},bk ρ xs ys->bk ρ (aW n us xs) (aW n vs ys)
 |_,_,.nil,_,_,_,h=>h
 |_,_,.cons h t,n,_,_,hx=>bk.aW t (n+1) (hx.set h n)
variable{c:List Value} {opn:Bool}
theorem mF.list{L:Loc}(h:mF ρ L c opn cs):bk ρ c ((cs.toList.drop L.base).take c.length):=by obtain⟨_,h2,_,h4⟩:=h;exact bk.qU (by grind) λi x hx=>(by grind)
variable{off:Nat}
theorem mF.part{L:Loc}(h:mF ρ L c opn cs)(hle:off+n<=c.length):
 bk ρ ((c.drop off).take n) ((cs.toList.drop (L.base+off)).take n):=by
 have h1:=(h.list.drop off).take n;have e:(((cs.toList.drop L.base).take c.length).drop off).take n=(cs.toList.drop (L.base+off)).take n:=by rw[List.drop_take,List.take_take,List.drop_drop,kE (by omega)]
 grind
theorem B2:∀(vs:List Value)(n:Nat)(c:List Value)(i:Nat),i<n->(aW n vs c)[i]? =c[i]?
 |[],_,_,_,_=>rfl
 |v::vs,n,c,i,hi=>by simp only[aW];rw[B2 vs (n+1) _ i (by omega),List.getElem?_set_ne (by omega)]
theorem LO:∀(vs:List Value)(n:Nat)(c:List Value)(i:Nat),n+vs.length<=i->(aW n vs c)[i]? =c[i]?
 |[],_,_,_,_=>rfl
 |v::vs,n,c,i,hi=>by simp[aW] at*;rw[LO vs (n+1) _ i (by omega),List.getElem?_set_ne (by omega)]
theorem FM:∀(vs:List Value)(n:Nat)(c:List Value)(i:Nat),n+vs.length<=c.length->i<vs.length->(aW n vs c)[n+i]? =vs[i]?
 |[],_,_,_,_,hi=>by grind
 |v::vs,n,c,0,hle,_=>by simp only[aW] at*;rw[B2 vs (n+1) _ _ (by simp),Nat.add_zero,List.getElem?_set_self (by omega)];rfl
 |v::vs,n,c,i+1,hle,hi=>by
  simp[aW] at*;have:=FM vs (n+1) (c.set n v) i (by grind) (by omega)
  grind
variable{us vs:List Value}
theorem mF.aW{L:Loc}(h:mF ρ L c opn cs)(r:bk ρ us vs)(hle:off+us.length<=c.length):
 mF ρ L (aW off us c) opn ⟨aW (L.base+off) vs cs.toList⟩:=by
 obtain⟨h1,h2,h3,h4⟩:=h;have hl:=r.length;have hcs:cs.toList.length=cs.size:=rfl;refine⟨?_,?_,?_,?_⟩
 ·show L.stop=(Lt.aW _ _ _).length;rw[kq];exact h1
 ·show L.base+(Lt.aW _ _ _).length<=(Lt.aW _ _ _).length;rw[kq,kq];exact h2
 ·intro e;obtain⟨a,b⟩:=h3 e;refine⟨a,?_⟩;show(Lt.aW _ _ _).length=(Lt.aW _ _ _).length;rw[kq,kq];exact b
 ·intro i v hi;rw[List.getElem?_toArray];rcases dg i off with hlt|hge
  ·rw[B2 _ _ _ _ hlt] at hi;rw[B2 _ _ _ _ (by omega)]
   grind
  ·rcases dg i (off+us.length) with hlt2|hge2
   ·obtain⟨j,rfl⟩:∃j,i=off+j:=⟨i -off,by omega⟩;rw[FM _ _ _ _ hle (by omega)] at hi;rw[<-lO,FM _ _ _ _ (by omega) (by omega)];exact r.get hi
   ·rw[LO _ _ _ _ hge2] at hi;rw[LO _ _ _ _ (by omega)];simp_all
theorem bh.load(P:Program)(H:bh ρ h w){L:Loc}(ho:h.get o=some (.cells c e opn))(hρ:ρ o=some L)
 (hle:off+n<=c.length):∃vs,(loadCells ⟨L.block,L.base+off,none⟩ n).run P w=.ok vs w/\bk ρ ((c.drop off).take n) vs.toList:=by
 obtain⟨M,h1,cs,fz,h2,hz,h3⟩:=H.obj o _ ho;obtain rfl:=bu (h1.symm.trans hρ);have:=h3.2.1;obtain⟨vs,a1,a2⟩:=Ge P (k:=M.base+off) (n:=n) h2 (by omega);exact⟨vs,a1,by rw[a2];exact h3.part hle⟩
theorem bh.cell(H:bh ρ h w){L:Loc}(ho:h.get o=some (.cells c e opn))(hρ:ρ o=some L)
 (hv:c[off]? =some v):∃v',w.cell? ⟨L.block,L.base+off,none⟩=some v'/\aF ρ v v':=by
 obtain⟨M,h1,cs,fz,h2,hz,h3⟩:=H.obj o _ ho;cases h1.symm.trans hρ;obtain⟨v',a,b⟩:=h3.2.2.2 off v hv;exact⟨v',by rw[cell_of h2];exact a,b⟩
theorem bh.store(P:Program)(H:bh ρ h w){L:Loc}(ho:h.get o=some (.cells c e opn))(hρ:ρ o=some L)
 (r:bk ρ us vs) (hv:∀v∈vs,v.oneCell'=true) (hle:off+us.length<=c.length) (nx:Nat):
 ∃w',(storeCells ⟨L.block,L.base+off,none⟩ vs).run P w=.ok () w'/\bh ρ (h.set o (.cells (aW off us c) e opn)) w'/\bP ρ h nx w ρ (h.set o (.cells (aW off us c) e opn)) nx w':=by
 obtain⟨M,h1,cs,fz,h2,hz,h3⟩:=H.obj o _ ho;obtain rfl:=bu (h1.symm.trans hρ);have hb:=h3.2.1;have hl:=r.length;obtain⟨w',a1,a2,a3,a4,a5,a6,a7⟩:=zj P (k:=M.base+off) vs 0 w cs h2 hz (by omega) hv;refine⟨w',a1,H.put ho hρ a3 ⟨_,_,a2,?_,?_⟩,bP.put ho hρ a5 a6 a7 a4 a3⟩
 ·show vc fz (Lt.aW _ _ _).length;rw[kq];exact hz
 ·have:=h3.aW r hle;omega
end
section
structure gC where
 desc:TypeDesc
 size:Nat
 bytes:Nat
 zero:Option Value
 flat:Bool:=false
 direct:List (String×FuncId):=[]
abbrev TT:=Tr gC
def tN:Value->Bool
 | .bool _| .int _ _| .string _| .pointer none| .slice none 0 0| .map none| .nilFunc| .nilIface=>true
 |_=>false
def mP:Value->Bool
 | .agg cs=>cs.toList.all tN
 | .tuple cs=>cs.toList.all tN
 |v=>tN v
variable{v:Value} {ρ:Ren}
theorem Qu(h:tN v=true):aF ρ v v:=by
 unfold tN at h;split at h
 ·exact .bool _
 ·exact .int _ _
 ·exact .str _
 ·exact .ow
 ·exact .kS
 ·exact .oi
 ·exact .nilFunc
 ·exact .nilIface
 grind
theorem Jr:∀{vs:List Value},vs.all tN=true->bk ρ vs vs
 |[],_=>.nil
 |v::vs,h=>by simp only[List.all_cons,bg] at h;exact .cons (Qu h.1) (Jr h.2)
theorem D6(h:mP v=true):aF ρ v v:=by
 unfold mP at h;split at h
 ·exact .agg (Jr h)
 ·exact .tuple (Jr h)
 ·exact Qu h
structure eE(P:Program)(T:TT):Prop where
 under:∀t i,T.get t=some i->P.underlying t=some i.desc
 info:∀t i,T.get t=some i->∃inf,P.info? t=some inf/\inf.size=i.size/\inf.bytes=i.bytes/\(∀z,i.zero=some z->inf.zero=some z/\mP z=true)
 flat:∀t i,T.get t=some i->i.flat=true->P.eqGuardType P.depth t=false/\P.stoodInHeld t=false
 direct:∀t i,T.get t=some i->∀n f,i.direct.lookup n=some f->∃inf m,P.info? t=some inf/\inf.methods.find? (·.name==n)=some m/\m.path=#[]/\
  ((m.func=some (f,false)/\¬(∃e,i.desc=.pointer e))\/(m.func=some (f,true)/\∃e,i.desc=.pointer e))
variable{α β:Type}
def ob(x:Option α)(f:α->Option β):Option β:=match x with|none=>none|some a=>f a
theorem af{x:Option α}{f:α->Option β}{b:β}(h:ob x f=some b):∃a,x=some a/\f a=some b:=by
 cases x with
 |none=>cases h
 |some a=>exact⟨a,rfl,h⟩
section
variable{P:Program} {T:TT} {t:TypeId} {i:gC} (w:World)
theorem ga(H:eE P T)(h:T.get t=some i):(underlying t).run P w=.ok i.desc w:=by simp[underlying,H.under t i h]
theorem Mo(H:eE P T)(h:T.get t=some i):∃inf,(typeInfo t).run P w=.ok inf w/\inf.size=i.size/\inf.bytes=i.bytes/\∀z,i.zero=some z->inf.zero=some z/\mP z=true:=by obtain⟨inf,h1,h2⟩:=H.info t i h;exact⟨inf,by simp[typeInfo,h1],h2⟩
theorem run_sizeOf(H:eE P T)(h:T.get t=some i):(sizeOf t).run P w=.ok i.size w:=by obtain⟨inf,h1,h2,_⟩:=Mo w H h;simp[sizeOf,h1,h2]
variable{z:Value}
theorem uA(H:eE P T)(h:T.get t=some i)(hz:i.zero=some z):(zeroValue t).run P w=.ok z w:=by obtain⟨inf,h1,_,_,h4⟩:=Mo w H h;simp[zeroValue,h1,(h4 z hz).1]
theorem xi(H:eE P T)(h:T.get t=some i)(hz:i.zero=some z):mP z=true:=by
 obtain⟨inf,_,_,_,h4⟩:=H.info t i h
 grind
def mV:TypeDesc->Bool
 | .struct _| .array _ _=>true
 |_=>false
theorem Mn(H:eE P T)(h:T.get t=some i):(isAgg t).run P w=.ok (mV i.desc) w:=by simp only[isAgg,dO,ga w H h];cases i.desc<;>rfl
end
def rQ(T:TT)(t:TypeId)(cs:List Value)(off:Nat):Option Value:=
 ob (T.get t) λi=>cond (mV i.desc) (cond (Nat.ble (off+i.size) cs.length) (some (.agg ⟨(cs.drop off).take i.size⟩)) none) (cs[off]?)
theorem Zq(cs:Array Value)(a b:Nat):(cs.extract a b).toList=(cs.toList.drop a).take (b -a):=by simp
theorem Ui{P:Program}{T:TT}(H:eE P T){t:TypeId}{cs:List Value}{cs':Array Value}(r:bk ρ cs cs'.toList){off:Nat}(h:rQ T t cs off=some v)(w:World):
 ∃v',(part t cs' off).run P w=.ok v' w/\aF ρ v v':=by
 obtain⟨i,hi,h⟩:=af h;simp[part,Mn w H hi];cases ha:mV i.desc with
 |true=>
  simp_all;cases hb:Nat.ble (off+i.size) cs.length with
  |false=>grind
  |true=>simp_all;subst h;refine⟨.agg (cs'.extract off (off+i.size)),by simp[run_sizeOf w H hi],.agg ?_⟩;rw[Zq,Dj];exact(r.drop off).take i.size
 |false=>simp_all;obtain⟨v',h1,h2⟩:=r.get h;simp_all
def wj:IntKind->Int->Bool
 | .i64,.ofNat m=>Nat.blt m 9223372036854775808
 | .i64,.negSucc m=>Nat.blt m 9223372036854775808
 | .u8,.ofNat m=>Nat.blt m 256
 | .u64,.ofNat m=>Nat.blt m 18446744073709551616
 | .u32,.ofNat m=>Nat.blt m 4294967296
 |_,_=>false
theorem cT{a b:Nat}(h:Nat.blt a b=true):a<b:=cI h
variable{k:IntKind}
theorem Xy{n:Int}(h:wj k n=true):k.wrap n=n:=by
 unfold wj at h;split at h
 ·have:=cT h;have e:((Int.ofNat ‹Nat›)%(2^64:Int))=Int.ofNat ‹Nat›:=Int.emod_eq_of_lt (Int.natCast_nonneg _) (by simp;omega);simp only[IntKind.wrap,IntKind.bits,e];simp;omega
 ·have:=cT h;simp only[IntKind.wrap,IntKind.bits,IntKind.signed];simp;omega
 ·have:=cT h;simp only[IntKind.wrap,IntKind.bits,IntKind.signed];simp;omega
 ·have:=cT h;simp only[IntKind.wrap,IntKind.bits,IntKind.signed];simp;omega
 ·have:=cT h;simp only[IntKind.wrap,IntKind.bits,IntKind.signed];simp;omega
 ·cases h
def ah(k:IntKind)(n:Int):Int:=cond (wj k n) n (k.wrap n)
theorem xP(k:IntKind)(n:Int):ah k n=k.wrap n:=by
 unfold ah;cases h:wj k n with
 |true=>simp[Xy h]
 |false=>rfl
def aq:Int->Int->Bool
 | .ofNat a,.ofNat b=>Nat.blt a b
 | .negSucc a,.negSucc b=>Nat.blt b a
 | .negSucc _,.ofNat _=>true
 | .ofNat _,.negSucc _=>false
theorem yE(a b:Int):aq a b=decide (a<b):=by
 have key:∀x y:Nat,Nat.blt x y=decide (x<y):=λx y=>by rw[fO];simp
 unfold aq;cases a<;>cases b<;>simp<;>grind
def ak:Int->Int->Bool
 | .ofNat a,.ofNat b=>Nat.beq a b
 | .negSucc a,.negSucc b=>Nat.beq b a
 |_,_=>false
theorem jE(x y:Nat):Nat.beq x y=decide (x=y):=by rw[fO];simp
theorem Ki(a b:Int):ak a b=(a==b):=by unfold ak;cases a<;>cases b<;>simp[jE]<;>grind
def vu(op:BinOp)(k:IntKind)(a b:Int):Option Value:=
 match op with
 | .add=>some (.int k (ah k (Int.add a b)))
 | .sub=>some (.int k (ah k (Int.sub a b)))
 | .mul=>some (.int k (ah k (Int.mul a b)))
 | .quo=>cond (ak b 0) none (some (.int k (ah k (Int.tdiv a b))))
 | .rem=>cond (ak b 0) none (some (.int k (Int.tmod a b)))
 | .and=>some (.int k (ah k ((BitVec.ofInt k.bits a&&&BitVec.ofInt k.bits b).toNat:Nat)))
 | .or=>some (.int k (ah k ((BitVec.ofInt k.bits a|||BitVec.ofInt k.bits b).toNat:Nat)))
 | .xor=>some (.int k (ah k ((BitVec.ofInt k.bits a^^^BitVec.ofInt k.bits b).toNat:Nat)))
 | .eql=>some (.bool (ak a b))
 | .neq=>some (.bool (!ak a b))
 | .lss=>some (.bool (aq a b))
 | .leq=>some (.bool (!aq b a))
 | .gtr=>some (.bool (aq b a))
 | .geq=>some (.bool (!aq a b))
 |_=>none
def rR(op:BinOp)(k:IntKind)(a b:Int):Option Value:=
 cond (aq b 0) none (match op with
  | .shl=>some (.int k (ah k (Int.mul a (2^min b.toNat k.bits))))
  | .shr=>some (.int k (Int.fdiv a (2^min b.toNat k.bits)))
  |_=>none)
variable{a b:Int} {op:BinOp}
theorem aap{P:Program}{t:TypeId}(h:vu op k a b=some v)(w:World):(binOp op t (.int k a) (.int k b)).run P w=.ok v w:=by
 have hnot:∀x y:Int,(!decide (x<y))=decide (y<=x):=λx y=>by rw[fO];simp
 cases op<;>simp[vu,xP,Ki,yE] at h
 case add=>subst h;simp[binOp];try rfl
 case sub=>subst h;simp[binOp];try rfl
 case mul=>subst h;simp[binOp];try rfl
 case quo=>
  by_cases hb:b=0
  ·subst hb;cases h
  ·have e:(b==0)=false:=by simpa using hb
   simp_all;subst h;simp[binOp,Op.intDiv,hb]
 case rem=>
  by_cases hb:b=0
  ·subst hb;cases h
  ·have e:(b==0)=false:=by simpa using hb
   simp_all;subst h;simp[binOp,Op.intDiv,hb]
 case and=>subst h;simp[binOp,Op.intBits]
 case or=>subst h;simp[binOp,Op.intBits]
 case xor=>subst h;simp[binOp,Op.intBits]
 case eql=>subst h;simp[binOp,Op.intCmp]
 case neq=>subst h;simp[binOp,Op.intCmp,bne]
 case lss=>subst h;simp[binOp,Op.intCmp]
 case leq=>subst h;simp[binOp,Op.intCmp,hnot]
 case gtr=>subst h;simp[binOp,Op.intCmp]
 case geq=>subst h;simp[binOp,Op.intCmp,hnot]
 all_goals cases h
theorem Wm{P:Program}(hop:op=.shl\/op=.shr){k':IntKind}{t:TypeId}(h:rR op k a b=some v)(w:World):(binOp op t (.int k a) (.int k' b)).run P w=.ok v w:=by
 unfold rR at h;rw[yE] at h;by_cases hb:b<0
 ·grind
 ·simp[hb] at h;rcases hop with rfl|rfl
  ·simp[xP] at h;subst h;simp[binOp,Op.shift,hb]
  ·simp at h;subst h;simp[binOp,Op.shift,hb]
end
section
def lA:List Value->List Value->Option Bool
 |[],[]=>some true
 | .int j a::xs,.int k b::ys=>cond (decide (j=k)) (cond (ak a b) (lA xs ys) (some false)) none
 |_,_=>none
def jO:List Value->Bool
 |[]=>true
 | .int _ _::xs=>jO xs
 |_=>false
variable{ρ:Ren}
theorem Jf:∀(xs ys:List Value),jO xs=true->bk ρ xs ys->ys=xs
 |[],_,_,r=>by cases r;rfl
 |x::xs,_,h,r=>by
  cases r with
  |cons r t=>
   cases r<;>simp only[jO] at h<;>try cases h
   rw[Jf xs _ h t]
def oG(P:Program)(n:Nat):TypeDesc->Prop
 | .struct fs=>fs.size=n/\∀(i:Nat)(f:Field),fs[i]? =some f->f.name≠ "_"/\f.offset=i/\(∃k,P.underlying f.type=some (.int k))/\∃inf,P.info? f.type=some inf/\inf.size=1
 | .array len e=>len=n/\(∃k,P.underlying e=some (.int k))/\∃inf,P.info? e=some inf/\inf.size=1
 |_=>False
variable{P:Program} {k:IntKind} {t:TypeId}
theorem Q8(h:P.underlying t=some (.int k))(d:Nat)(j:IntKind)(a b:Int)(w:World):
 (Op.equalIn (d+1) t (.int j a) (.int j b)).run P w=.ok (ak a b) w:=by
 simp[Op.equalIn,underlying,h,Ki]
variable{v:Value}
theorem BU(h:P.underlying t=some (.int k)){cs:Array Value}{i:Nat}(hv:cs.toList[i]? =some v)(w:World):
 (part t cs i).run P w=.ok v w:=by
 unfold part isAgg;have:cs[i]? =some v:=by simpa using hv
 simp[underlying,h,this]
variable{x y:Value}
theorem Q3{xs ys:List Value}{r:Bool}(h:lA (x::xs) (y::ys)=some r):
 ∃k a b,x=.int k a/\y=.int k b/\((ak a b=true/\lA xs ys=some r)\/(ak a b=false/\r=false)):=by
 cases x<;>cases y<;>simp only[lA] at h<;>try cases h
 rename_i j a k c;by_cases e:j=k
 ·subst e;simp at h;cases e2:ak a c with
  |true=>simp[e2] at h;exact⟨j,a,c,rfl,rfl,.inl ⟨e2,h⟩⟩
  |false=>simp only[e2,aE,kF] at h;exact⟨j,a,c,rfl,rfl,.inr ⟨e2,h.symm⟩⟩
 ·simp_all
variable{d:Nat} {xs ys:Array Value}
theorem Q4(w:World):∀(fs:List Field)(n:Nat){b:Bool},
 (∀(i:Nat)(f:Field),fs[i]? =some f->f.name≠ "_"/\f.offset=n+i/\(∃k,P.underlying f.type=some (.int k))/\∃inf,P.info? f.type=some inf/\inf.size=1)->
 n+fs.length=xs.toList.length->n+fs.length=ys.toList.length->lA (xs.toList.drop n) (ys.toList.drop n)=some b->
 (Op.eqFields (d+1) xs ys fs).run P w=.ok b w
 |[],n,b,_,hx,hy,he=>by rw[(xm (by simp at hx⊢;omega)),(xm (by simp at hy⊢;omega))] at he;simp[lA] at he;subst he;simp[Op.eqFields]
 |f::fs,n,b,hf,hx,hy,he=>by
  obtain⟨h1,h2,⟨k0,h3⟩,_⟩:=hf 0 f rfl;simp only[cQ] at hx hy;have lx:n<xs.toList.length:=by omega
  have ly:n<ys.toList.length:=by omega
  rw[dG lx,dG ly] at he;obtain⟨k,a,c,ex,ey,hh⟩:=Q3 he;have ho:f.offset=n:=by omega
  simp[Op.eqFields,ho,ne_eq,h1,BU h3 (by rw[dD lx,ex]),BU h3 (by rw[dD ly,ey]),Q8 h3];rcases hh with⟨e,hr⟩|⟨e,hr⟩
  ·rw[e];exact Q4 w fs (n+1) (λi g hg=>by obtain⟨a1,a2,a3,a4⟩:=hf (i+1) g (by simpa using hg);exact⟨a1,by omega,a3,a4⟩) (by omega) (by omega) hr
  ·rw[e,hr];simp
theorem Q5{e:TypeId}{k0:IntKind}(h3:P.underlying e=some (.int k0))(w:World):∀(m n:Nat){b:Bool},
 n+m=xs.toList.length->n+m=ys.toList.length->lA (xs.toList.drop n) (ys.toList.drop n)=some b->
 (Op.eqItems (d+1) e 1 xs ys (List.range' n m)).run P w=.ok b w
 |0,n,b,hx,hy,he=>by rw[(xm (by omega)),(xm (by omega))] at he;simp[lA] at he;subst he;simp[Op.eqItems]
 |m+1,n,b,hx,hy,he=>by
  have lx:n<xs.toList.length:=by omega
  have ly:n<ys.toList.length:=by omega
  rw[dG lx,dG ly] at he;obtain⟨k,a,c,ex,ey,hh⟩:=Q3 he;simp[List.range'_succ,Op.eqItems,BU h3 (by rw[dD lx,ex]),BU h3 (by rw[dD ly,ey]),Q8 h3];rcases hh with⟨e,hr⟩|⟨e,hr⟩
  ·rw[e];exact Q5 h3 w m (n+1) (by omega) (by omega) hr
  ·rw[e,hr];simp
variable{b:Bool} {n:Nat}
theorem Zo{D:TypeDesc}(hu:P.underlying t=some D)(hF:oG P n D)(hs:P.stoodInHeld t=false)
 (hx:xs.toList.length=n) (hy:ys.toList.length=n) (he:lA xs.toList ys.toList=some b) (d:Nat) (w:World):
 (Op.equalIn (d+2) t (.agg xs) (.agg ys)).run P w=.ok b w:=by
 cases D with
 |struct fs=>
  obtain⟨h1,h2⟩:=hF;have hfs:P.fieldsOf t=fs:=by simp[Program.fieldsOf,hu]
  rw[run_equalIn_struct w (d+1) t xs ys (by grind) hs,hfs];refine Q4 w fs.toList 0 (λi f hf=>?_) (by grind) (by grind) (by simpa using he)
  grind
 |array len e=>obtain⟨h1,⟨k,h2⟩,inf,h3,h4⟩:=hF;rw[run_equalIn_array w (d+1) xs ys hu h3,(show P.cellsOf e=1 from by simp[Program.cellsOf,h3,h4]),List.range_eq_range'];exact Q5 h2 w len 0 (by omega) (by omega) (by grind)
 |_=>exact hF.elim
def yH:Fn->Bool
 | .via _ _ _ _=>true
 | .method _=>true
 |_=>false
def iv(T:TT)(t:TypeId)(x y:Value):Option Bool:=
 ob (T.get t) λi=>
  match i.desc,x,y with
  | .bool,.bool a,.bool b=>some (a==b)
  | .pointer _,.pointer none,.pointer b=>some b.isNone
  | .pointer _,.pointer (some _),.pointer none=>some false
  | .slice _,.slice none _ _,.slice b _ _=>some b.isNone
  | .slice _,.slice (some _) _ _,.slice none _ _=>some false
  | .map _ _,.map none,.map b=>some b.isNone
  | .map _ _,.map (some _),.map none=>some false
  | .func ..,.nilFunc,.nilFunc=>some true
  | .func ..,.nilFunc,.func f _ _=>cond (yH f) none (some false)
  | .func ..,.func f _ _,.nilFunc=>cond (yH f) none (some false)
  | .slice _,.func (.via (_+1) _ _ true) _ _,.slice none _ _=>some false
  | .slice _,.slice none _ _,.func (.via (_+1) _ _ true) _ _=>some false
  | .slice _,.func (.via 0 _ 1 true) _ _,.slice none _ _=>some false
  | .slice _,.func (.via 0 _ 2 true) _ _,.slice none _ _=>some true
  | .interface _,.nilIface,.nilIface=>some true
  | .interface _,.nilIface,.iface ..=>some false
  | .interface _,.iface ..,.nilIface=>some false
  |_,.agg xs,.agg ys=>cond (i.flat&&Nat.beq xs.size i.size&&Nat.beq ys.size i.size&&jO xs.toList&&jO ys.toList) (lA xs.toList ys.toList) none
  |_,_,_=>none
variable{a:Option Addr}
theorem aF.Se(h:aF ρ (.pointer a) v):∃b,v=.pointer b/\b.isNone=a.isNone:=by cases h<;>exact⟨_,rfl,rfl⟩
theorem aF.Sf{c:Nat}(h:aF ρ (.slice a n c) v):∃b n' c',v=.slice b n' c'/\b.isNone=a.isNone:=by cases h<;>exact⟨_,_,_,rfl,rfl⟩
theorem aF.isNone_map{a:Option Nat}(h:aF ρ (.map a) v):∃b,v=.map b/\b.isNone=a.isNone:=by cases h<;>exact⟨_,rfl,rfl⟩
theorem isNone_some{α:Type}{b:Option α}{a:α}(h:b.isNone=(some a).isNone):∃c,b=some c:=by
 cases b with
 |none=>grind
 |some c=>simp
theorem En{T:TT}(H:eE P T)(HF:∀t i,T.get t=some i->i.flat=true->oG P i.size i.desc){x' y':Value}(hx:aF ρ x x')(hy:aF ρ y y')(h:iv T t x y=some b)(w:World):
 (Op.equal t x' y').run P w=.ok b w:=by
 replace h:=af h;obtain⟨i,hi,h⟩:=h;have hu:=H.under t i hi;unfold Op.equal Op.maxDepth;split at h
 ·cases hx;cases hy;rename_i hd _ _;simp only[kF] at h;subst h;unfold Op.equalIn;simp[underlying, *]
 ·obtain⟨b',rfl,e⟩:=hy.Se;cases hx;simp only[kF] at h;subst h;unfold Op.equalIn;simp[underlying, *]
 ·obtain⟨a',rfl,e⟩:=hx.Se;obtain⟨c,rfl⟩:=isNone_some e;cases hy;obtain rfl:=bu h;unfold Op.equalIn;simp[underlying, *]
 ·obtain⟨b',n',c',rfl,e⟩:=hy.Sf;cases hx;obtain rfl:=bu h;unfold Op.equalIn;simp[underlying, *]
 ·obtain⟨a',n',c',rfl,e⟩:=hx.Sf;obtain⟨c,rfl⟩:=isNone_some e;cases hy;obtain rfl:=bu h;unfold Op.equalIn;simp[underlying, *]
 ·obtain⟨b',rfl,e⟩:=hy.isNone_map;cases hx;simp only[kF] at h;subst h;unfold Op.equalIn;simp[underlying, *]
 ·obtain⟨a',rfl,e⟩:=hx.isNone_map;obtain⟨c,rfl⟩:=isNone_some e;cases hy;obtain rfl:=bu h;unfold Op.equalIn;simp[underlying, *]
 ·cases hx;cases hy;simp only[kF] at h;subst h;unfold Op.equalIn;simp[underlying, *]
 ·rename_i f _ _ hd;cases hc:yH f with
  |true=>simp[hc] at h
  |false=>
   simp only[hc,aE] at h;cases hx;cases hy with
   |func a b c=>simp only[kF] at h;subst h;unfold Op.equalIn;simp[underlying, *]
   |lit h=>cases hc
   |gy h=>cases hc
 ·rename_i f _ _ hd;cases hc:yH f with
  |true=>simp[hc] at h
  |false=>
   simp only[hc,aE] at h;cases hy;cases hx with
   |func a b c=>simp only[kF] at h;subst h;unfold Op.equalIn;simp[underlying, *]
   |lit h=>cases hc
   |gy h=>cases hc
 ·cases hy;cases hx with
  |func a b c=>exact a.elim
  |lit hl=>
   cases hl with
   |gH a b _ c=>obtain rfl:=bu h;unfold Op.equalIn;simp[underlying, *]
 ·cases hx;cases hy with
  |func a b c=>exact a.elim
  |lit hl=>
   cases hl with
   |gH a b _ c=>obtain rfl:=bu h;unfold Op.equalIn;simp[underlying, *]
 ·cases hy;cases hx with
  |func a b c=>exact a.elim
  |lit hl=>
   cases hl with
   |qm=>obtain rfl:=bu h;unfold Op.equalIn;simp[underlying, *]
 ·cases hy;cases hx with
  |func a b c=>exact a.elim
  |lit hl=>
   cases hl with
   |pZ=>obtain rfl:=bu h;unfold Op.equalIn;simp[underlying, *]
 ·cases hx;cases hy;simp only[kF] at h;subst h;unfold Op.equalIn;simp[underlying, *]
 ·cases hx;cases hy;simp only[kF] at h;subst h;unfold Op.equalIn;simp[underlying, *]
 ·cases hx;cases hy;simp only[kF] at h;subst h;unfold Op.equalIn;simp[underlying, *]
 ·rename_i xs ys;cases hx with
  |agg rx=>
   cases hy with
   |agg ry=>
    cases hc:(i.flat&&Nat.beq xs.size i.size&&Nat.beq ys.size i.size&&jO xs.toList&&jO ys.toList) with
    |false=>simp[hc] at h
    |true=>simp only[hc,ay] at h;simp only[bg] at hc;obtain⟨⟨⟨⟨h1,h2⟩,h3⟩,h4⟩,h5⟩:=hc;have e1:=Jf _ _ h4 rx;have e2:=Jf _ _ h5 ry;refine Zo hu (HF t i hi h1) (H.flat t i hi h1).2 (by rw[e1];exact bJ h2) (by rw[e2];exact bJ h3) (by rw[e1,e2];exact h) 9998 w
 ·cases h
end
section
def nS:List UInt8->List UInt8->Bool
 |[],[]=>true
 |a::x,b::y=>cond (Nat.beq a.toNat b.toNat) (nS x y) false
 |_,_=>false
theorem DW:∀(x y:List UInt8),nS x y=(x==y)
 |[],[]=>rfl
 |[],_::_=>rfl
 |_::_,[]=>rfl
 |a::x,b::y=>by
  simp only[nS,DW x y,jE];have:decide (a.toNat=b.toNat)=(a==b):=by rw[fO];simp[nC]
  grind
def lj(T:TT)(op:BinOp)(t:TypeId)(c:Bool)(x y:Value):Option Value:=
 match x,y with
 | .int k a,.int k' b=>
  match op with
  | .shl=>rR .shl k a b
  | .shr=>rR .shr k a b
  |op=>cond (decide (k=k')) (vu op k a b) none
 | .string a,.string b=>
  match op with
  | .eql=>some (.bool (nS a.data.toList b.data.toList))
  | .neq=>some (.bool (!nS a.data.toList b.data.toList))
  |_=>none
 | .nilIface,.nilIface=>
  match op,c with
  | .eql,true=>ob (iv T t .nilIface .nilIface) λr=>some (.bool r)
  | .neq,true=>ob (iv T t .nilIface .nilIface) λr=>some (.bool (!r))
  |_,_=>none
 |x,y=>
  match op with
  | .eql=>ob (iv T t x y) λr=>some (.bool r)
  | .neq=>ob (iv T t x y) λr=>some (.bool (!r))
  |_=>none
def qO:Operand->Bool
 | .const _=>true
 |_=>false
variable{P:Program} {op:BinOp} {t:TypeId} {w:World}
theorem Kd{x y:Operand}{a b:Value}(h1:¬(a=.nilIface/\b=.nilIface))(h2:¬(∃xs ys,a=.agg xs/\b=.agg ys)):(eqGuard op t x y a b).run P w=.ok () w:=by
 cases op<;>first
  |rfl
  |(simp[eqGuard]
    split
    ·grind
    ·grind
    ·rfl)
variable{x y:Value}
theorem Jm{r:Bool}(h1:¬∃k a k' b,x=.int k a/\y=.int k' b)(h2:¬∃a b,x=.string a/\y=.string b)(hf:¬∃k a k' b,x=.float k a/\y=.float k' b)
 (hc:¬∃k a b k' c d,x=.complex k a b/\y=.complex k' c d) (h:(Op.equal t x y).run P w=.ok r w):(binOp .eql t x y).run P w=.ok (.bool r) w/\(binOp .neq t x y).run P w=.ok (.bool (!r)) w:=by
 constructor
 ·unfold binOp;split<;>first
   |(exact absurd ⟨_,_,_,_,rfl,rfl⟩ h1)
   |(exact absurd ⟨_,_,_,_,rfl,rfl⟩ hf)
   |(exact absurd ⟨_,_,_,_,_,_,rfl,rfl⟩ hc)
   |(exact absurd ⟨_,_,rfl,rfl⟩ h2)
   |(simp;done)
   |(rename_i hh;cases hh)
   |simp_all
 ·unfold binOp;split<;>first
   |(exact absurd ⟨_,_,_,_,rfl,rfl⟩ h1)
   |(exact absurd ⟨_,_,_,_,rfl,rfl⟩ hf)
   |(exact absurd ⟨_,_,_,_,_,_,rfl,rfl⟩ hc)
   |(exact absurd ⟨_,_,rfl,rfl⟩ h2)
   |(simp;done)
   |(rename_i hh;cases hh)
   |simp_all
variable{v:Value} {ρ:Ren}
theorem aF.Sb{k:IntKind}{n:Int}(h:aF ρ v (.int k n)):v=.int k n:=by
 cases h with
 |int=>rfl
 |lit h=>cases h
 |gy h=>cases h
theorem aF.WN{s:ByteArray}(h:aF ρ v (.string s)):v=.string s:=by
 cases h with
 |str=>rfl
 |lit h=>cases h
 |gy h=>cases h
theorem aF.S8(h:aF ρ v .nilIface):v=.nilIface:=by
 cases h with
 |nilIface=>rfl
 |lit h=>cases h
 |gy h=>cases h
theorem aF.PM{xs:Array Value}(h:aF ρ v (.agg xs)):∃ys,v=.agg ys:=by
 cases h with
 |agg=>simp
 |lit h=>cases h
 |gy h=>cases h
variable{k:FloatKind} {n:Nat}
theorem aF.abt(h:aF ρ v (.float k n)):False:=by
 cases h with
 |lit h=>cases h
 |gy h=>cases h
theorem aF.abr{m:Nat}(h:aF ρ v (.complex k n m)):False:=by
 cases h with
 |lit h=>cases h
 |gy h=>cases h
theorem X5{T:TT}(H:eE P T)(HF:∀t i,T.get t=some i->i.flat=true->oG P i.size i.desc){xo yo:Operand}{x' y':Value}(hx:aF ρ x x')(hy:aF ρ y y')
 (h:lj T op t (qO xo||qO yo) x y=some v) (w:World):
 ∃v',(do eqGuard op t xo yo x' y';binOp op t x' y':Sem Value).run P w=.ok v' w/\aF ρ v v':=by
 unfold lj at h;split at h
 ·rename_i k a k' b;cases hx;cases hy;have g:∀op,(eqGuard op t xo yo (.int k a) (.int k' b)).run P w=.ok () w:=λop=>Kd (λh=>by cases h.1) (λ⟨_,_,h,_⟩=>by cases h);simp[g];split at h
  ·exact⟨v,Wm (.inl rfl) h w,by unfold rR at h;cases hh:aq b 0<;>simp[hh] at h;subst h;exact .int _ _⟩
  ·exact⟨v,Wm (.inr rfl) h w,by unfold rR at h;cases hh:aq b 0<;>simp[hh] at h;subst h;exact .int _ _⟩
  ·by_cases e:k=k'
   ·subst e;simp_all;refine⟨v,aap h w,?_⟩;cases op<;>simp[vu] at h<;>first
     |(subst h;first|exact .int _ _|exact .bool _)
     |(cases hh:ak b 0<;>simp[hh] at h;subst h;exact .int _ _)
     |cases h
   ·simp[e] at h
 ·rename_i a b;cases hx;cases hy;have g:∀op,(eqGuard op t xo yo (.string a) (.string b)).run P w=.ok () w:=λop=>Kd (λh=>by cases h.1) (λ⟨_,_,h,_⟩=>by cases h);simp[g];split at h
  ·cases h;exact⟨_,by simp[binOp,Op.stringOp,DW,ByteArray.toList_eq],.bool _⟩
  ·cases h;exact⟨_,by simp[binOp,Op.stringOp,DW,ByteArray.toList_eq],.bool _⟩
  ·cases h
 ·cases hx;cases hy;split at h
  ·rename_i hc;obtain⟨r,h1,h2⟩:=af h;cases h2;have e:=En H HF (.nilIface) (.nilIface (ρ:=ρ)) h1 w;refine⟨_,?_,.bool _⟩;have g:(eqGuard .eql t xo yo .nilIface .nilIface).run P w=.ok () w:=by
    unfold eqGuard;cases xo<;>cases yo<;>simp_all[qO]
   simp[g,((Jm (w:=w) (by simp) (by simp) (by simp) (by simp) e).1)]
  ·rename_i hc;obtain⟨r,h1,h2⟩:=af h;cases h2;have e:=En H HF (.nilIface) (.nilIface (ρ:=ρ)) h1 w;refine⟨_,?_,.bool _⟩;have g:(eqGuard .neq t xo yo .nilIface .nilIface).run P w=.ok () w:=by
    unfold eqGuard;cases xo<;>cases yo<;>simp_all[qO]
   simp[g,((Jm (w:=w) (by simp) (by simp) (by simp) (by simp) e).2)]
  ·cases h
 ·rename_i n1 n2 n3;have key:∀r,iv T t x y=some r->(op=.eql\/op=.neq)->(eqGuard op t xo yo x' y').run P w=.ok () w/\(binOp .eql t x' y').run P w=.ok (.bool r) w/\(binOp .neq t x' y').run P w=.ok (.bool (!r)) w:=by
   intro r hr _;have b:=Jm (w:=w) (x:=x') (y:=y')
    (by rintro ⟨k,a,k',b,rfl,rfl⟩;exact n1 _ _ _ _ hx.Sb hy.Sb)
    (by rintro ⟨a,b,rfl,rfl⟩;exact n2 _ _ hx.WN hy.WN)
    (by rintro ⟨k,a,k',b,rfl,rfl⟩;exact hx.abt)
    (by rintro ⟨k,a,b,k',c,d,rfl,rfl⟩;exact hx.abr) (En H HF hx hy hr w)
   refine⟨?_,b⟩;by_cases ha:∃xs ys,x'=.agg xs/\y'=.agg ys
   ·obtain⟨xs,ys,rfl,rfl⟩:=ha;obtain⟨us,rfl⟩:=hx.PM;obtain⟨vs,rfl⟩:=hy.PM;refine run_eqGuard_agg w op t xo yo xs ys ?_;obtain⟨i,hi,hr⟩:=af hr;split at hr<;>first
     |(rename_i hh _;cases hh;done)
     |(rename_i hh;cases hh;done)
     |skip
    ·rename_i _ _ _ _ he1 he2;cases he1;cases he2;cases hc:(i.flat&&Nat.beq us.size i.size&&Nat.beq vs.size i.size&&jO us.toList&&jO vs.toList) with
     |false=>rw[hc] at hr;cases hr
     |true=>simp_all;exact(H.flat t i hi hc.1.1.1.1).1
    ·cases hr
   ·exact Kd (λ⟨h1,h2⟩=>by subst h1 h2;exact n3 hx.S8 hy.S8) ha
  split at h
  ·obtain⟨r,h1,h2⟩:=af h;cases h2;obtain⟨g,b,_⟩:=key r h1 (.inl rfl);exact⟨_,by simp[g,b],.bool _⟩
  ·obtain⟨r,h1,h2⟩:=af h;cases h2;obtain⟨g,_,b⟩:=key r h1 (.inr rfl);exact⟨_,by simp[g,b],.bool _⟩
  ·cases h
end
section
theorem Jc(a:Addr)(k:Nat):(a.add k).block=a.block:=by unfold Addr.add;split<;>rfl
theorem Je(a:Addr)(k:Nat)(h:a.spot=none):(a.add k).spot=none:=by unfold Addr.add;split<;>simp_all
theorem Jd(a:Addr)(k:Nat):(a.add k).off=a.off+k:=by unfold Addr.add;split<;>simp_all
variable{m:Nat->Nat->Option Value}
theorem aP.get:∀{xs ys:List Value},aP m xs ys->∀{i:Nat}{x:Value},xs[i]? =some x->∃y,ys[i]? =some y/\bj m x y
 |_,_,.nil,_,_,h=>by grind
 |_,_,.cons h t,i,x,hi=>by
  cases i with
  |zero=>grind
  |succ i=>simpa using t.get hi
theorem aP.length:∀{xs ys:List Value},aP m xs ys->xs.length=ys.length
 |_,_,.nil=>rfl
 |_,_,.cons _ t=>bK (·+1) t.length
theorem aP.take:∀{xs ys:List Value},aP m xs ys->∀n,aP m (xs.take n) (ys.take n)
 |_,_,.nil,n=>by simp;exact .nil
 |_,_,.cons h t,0=>by simp;exact .nil
 |_,_,.cons h t,n+1=>by simp;exact .cons h (t.take n)
theorem aP.drop:∀{xs ys:List Value},aP m xs ys->∀n,aP m (xs.drop n) (ys.drop n)
 |_,_,.nil,n=>by simp;exact .nil
 |_,_,.cons h t,0=>by simpa using .cons h t
 |_,_,.cons h t,n+1=>by simpa using t.drop n
theorem aP.append:∀{xs ys us vs:List Value},aP m xs ys->aP m us vs->aP m (xs++us) (ys++vs)
 |_,_,_,_,.nil,h=>h
 |_,_,_,_,.cons x t,h=>.cons x (t.append h)
mutual
theorem bj.to{ρ:Ren}:∀{v v':Value},bj ρ.lit v v'->aF ρ v v'
 |_,_,.bool b=>.bool b
 |_,_,.int k n=>.int k n
 |_,_,.str s=>.str s
 |_,_,.ow=>.ow
 |_,_,.kS=>.kS
 |_,_,.oi=>.oi
 |_,_,.nilFunc=>.nilFunc
 |_,_,.nilIface=>.nilIface
 |_,_,.agg h=>.agg (aP.to h)
 |_,_,.aH h=>.tuple (aP.to h)
 |_,_,.fn h h'=>.func rfl (aP.to h) (aP.to h')
 |_,_,.gH h hm hs hn=>.lit (.gH h hm hs hn)
 |_,_,.fN=>.lit .fN
 |_,_,.qm=>.lit .qm
 |_,_,.pZ=>.lit .pZ
 |_,_,.sA h hm hs=>.lit (.sA h hm hs)
 |_,_,.gy h hm=>.gy (.gy h hm)
theorem aP.to{ρ:Ren}:∀{v v':List Value},aP ρ.lit v v'->bk ρ v v'
 |_,_,.nil=>.nil
 |_,_,.cons h t=>.cons h.to (aP.to t)
end
theorem bj.step{cs:List Value}{ys:List Value}{a:Addr}(h:aP m cs ys)(hm:∀i y,ys[i]? =some y->m a.block (a.off+i)=some y)(hs:a.spot=none)(k:Nat):
 bj m (og (cs.drop k)) (.pointer (some (a.add k))):=by
 refine .sA (h.drop k) (λi y hy=>?_) (Je a k hs);rw[Jc,Jd]
 grind
def xJ(T:TT)(s:TypeId)(x:Value)(f:Nat):Option Value:=
 match x with
 | .pointer (some ⟨o,off,none⟩)=>
  ob (T.get s) λi=>match i.desc with
   | .struct fs=>ob (fs[f]?) λfl=>ob (T.get fl.type) λj=>cond (Nat.beq j.size 0) none (some (.pointer (some ⟨o,off+fl.offset,none⟩)))
   |_=>none
 | .func (.via _ _ _ false) cs _=>
  ob (T.get s) λi=>match i.desc with
   | .struct fs=>ob (fs[f]?) λfl=>ob (T.get fl.type) λj=>cond (Nat.beq j.size 0) none (some (og (cs.toList.drop fl.offset)))
   |_=>none
 |_=>none
variable{P:Program} {T:TT} {v x x':Value} {ρ:Ren}
theorem Zs(H:eE P T){s:TypeId}(hx:aF ρ x x'){f:Nat}(h:xJ T s x f=some v)(w:World):
 ∃v',(Instr.fieldAt s x' f).run P w=.ok v' w/\aF ρ v v':=by
 unfold xJ at h;split at h
 ·cases hx with
  |ptr hL=>
   rename_i o off L;obtain⟨i,hi,h⟩:=af h;split at h
   ·rename_i fs hd;obtain⟨fl,hf,h⟩:=af h;obtain⟨j,hj,h⟩:=af h;cases hz:Nat.beq j.size 0 with
    |true=>simp_all
    |false=>simp_all;subst h;refine⟨.pointer (some ⟨L.block,L.base+(off+fl.offset),none⟩),?_,.ptr hL⟩;simp[Instr.fieldAt,ga w H hi,hd,hf,Instr.sureAddr,fieldPlace,run_sizeOf w H hj,(by rw[jE] at hz;simpa using hz),tF];simp[lO]
   ·cases h
 ·cases hx with
  |func a _ _=>exact a.elim
  |lit hl=>
   cases hl with
   |sA h1 hm hs=>
    rename_i a ys;obtain⟨i,hi,h⟩:=af h;split at h
    ·rename_i fs hd;obtain⟨fl,hf,h⟩:=af h;obtain⟨j,hj,h⟩:=af h;cases hz:Nat.beq j.size 0 with
     |true=>simp_all
     |false=>simp_all;subst h;refine⟨.pointer (some (a.add fl.offset)),?_,(bj.step h1 hm hs _).to⟩;simp[Instr.fieldAt,ga w H hi,hd,hf,Instr.sureAddr,fieldPlace,run_sizeOf w H hj,(by rw[jE] at hz;simpa using hz)]
    ·cases h
 ·cases h
def rP(T:TT)(t:TypeId)(x ix:Value):Option Value:=
 match ix with
 | .int _ (.ofNat m)=>
  ob (T.get t) λi=>match i.desc,x with
   | .array len e,.pointer (some ⟨o,off,none⟩)=>ob (T.get e) λj=>cond (Nat.blt m len) (some (.pointer (some ⟨o,off+m*j.size,none⟩))) none
   | .slice e,.slice (some ⟨o,off,none⟩) len _=>ob (T.get e) λj=>cond (Nat.blt m len) (some (.pointer (some ⟨o,off+m*j.size,none⟩))) none
   | .slice e,.func (.via len _ _ true) cs _=>ob (T.get e) λj=>cond (Nat.blt m len) (some (og (cs.toList.drop (m*j.size)))) none
   | .array len e,.func (.via _ _ _ false) cs _=>ob (T.get e) λj=>cond (Nat.blt m len) (some (og (cs.toList.drop (m*j.size)))) none
   |_,_=>none
 |_=>none
variable{ix ix':Value} {t:TypeId}
theorem aab(H:eE P T)(hx:aF ρ x x')(hi':aF ρ ix ix')(h:rP T t x ix=some v)(w:World):
 ∃v',(Instr.indexAt t x' ix').run P w=.ok v' w/\aF ρ v v':=by
 unfold rP at h;split at h
 ·cases hi';rename_i k m;replace h:=af h;obtain⟨i,hi,h⟩:=h;have lt:∀{n:Nat},Nat.blt m n=true->((0:Int)<=Int.ofNat m/\Int.ofNat m<(n:Int)):=λ{n} hb=>by
   have:=cT hb;simp;omega
  split at h
  ·rename_i len e o off hd;cases hx with
   |ptr hL=>
    rename_i L;replace h:=af h;obtain⟨j,hj,h⟩:=h;cases hb:Nat.blt m len with
    |false=>simp[hb] at h
    |true=>simp[hb] at h;subst h;refine⟨.pointer (some ⟨L.block,L.base+(off+m*j.size),none⟩),?_,.ptr hL⟩;unfold Instr.indexAt;simp only[dO,asIntOf,fQ,gA,ga w H hi,hd,Instr.sureAddr,ar (lt hb),run_sizeOf w H hj,tF];simp[lO]
  ·rename_i e o off len cap hd;replace h:=af h;obtain⟨j,hj,h⟩:=h;cases hb:Nat.blt m len with
   |false=>simp[hb] at h
   |true=>
    simp[hb] at h;subst h;have key:∀(L:Loc)(c:Nat),(Instr.indexAt t (.slice (some ⟨L.block,L.base+off,none⟩) len c) (.int k (Int.ofNat m))).run P w=.ok (.pointer (some ⟨L.block,L.base+(off+m*j.size),none⟩)) w:=by intro L c;unfold Instr.indexAt;simp only[dO,asIntOf,fQ,gA,ga w H hi,hd,ar (lt hb),run_sizeOf w H hj,tF];simp[lO]
    cases hx with
    |gG hL hc hn=>exact⟨_,key _ _,.ptr hL⟩
    |gz hL hE hc hn=>exact⟨_,key _ _,.ptr hL⟩
    |jb=>have:=cT hb;omega
  ·rename_i e len _ _ cs _ hd;replace h:=af h;obtain⟨j,hj,h⟩:=h;cases hb:Nat.blt m len with
   |false=>simp[hb] at h
   |true=>
    simp[hb] at h;subst h;cases hx with
    |func a _ _=>exact a.elim
    |lit hl=>
     cases hl with
     |gH h1 hm hs hn=>rename_i c a ys;refine⟨.pointer (some (a.add (m*j.size))),?_,(bj.step h1 hm hs _).to⟩;unfold Instr.indexAt;simp only[dO,asIntOf,fQ,gA,ga w H hi,hd,ar (lt hb),run_sizeOf w H hj];simp
     |fN=>have:=cT hb;omega
     |qm=>have:=cT hb;omega
     |pZ=>have:=cT hb;omega
  ·rename_i len e _ _ _ cs _ hd;replace h:=af h;obtain⟨j,hj,h⟩:=h;cases hb:Nat.blt m len with
   |false=>simp[hb] at h
   |true=>
    simp[hb] at h;subst h;cases hx with
    |func a _ _=>exact a.elim
    |lit hl=>
     cases hl with
     |sA h1 hm hs=>rename_i a ys;refine⟨.pointer (some (a.add (m*j.size))),?_,(bj.step h1 hm hs _).to⟩;unfold Instr.indexAt;simp only[dO,asIntOf,fQ,gA,ga w H hi,hd,Instr.sureAddr,ar (lt hb),run_sizeOf w H hj];simp
  ·cases h
 ·cases h
def vr(T:TT)(t:TypeId)(x ix:Value):Option Value:=
 match ix with
 | .int _ (.ofNat m)=>
  ob (T.get t) λi=>match i.desc,x with
   | .array len e,.agg cs=>ob (T.get e) λj=>cond (Nat.blt m len) (rQ T e cs.toList (m*j.size)) none
   | .string,.string s=>ob (s.data.toList[m]?) λb=>some (.int .u8 (Int.ofNat b.toNat))
   |_,_=>none
 |_=>none
theorem aaf(H:eE P T)(hx:aF ρ x x')(hi':aF ρ ix ix')(h:vr T t x ix=some v)(w:World):
 ∃v',(Instr.index t x' ix').run P w=.ok v' w/\aF ρ v v':=by
 unfold vr at h;split at h
 ·cases hi';rename_i k m;replace h:=af h;obtain⟨i,hi,h⟩:=h;have lt:∀{n:Nat},Nat.blt m n=true->((0:Int)<=Int.ofNat m/\Int.ofNat m<(n:Int)):=λ{n} hb=>by
   have:=cT hb;simp;omega
  split at h
  ·rename_i len e cs hd;cases hx with
   |agg r=>
    obtain⟨j,hj,h⟩:=af h;cases hb:Nat.blt m len with
    |false=>simp_all
    |true=>simp[hb] at h;obtain⟨v',h1,h2⟩:=Ui H r h w;refine⟨v',?_,h2⟩;unfold Instr.index;simp only[dO,asIntOf,fQ,gA,ga w H hi,hd,ar (lt hb),run_sizeOf w H hj];simpa using h1
  ·rename_i s hd;cases hx;obtain⟨b,hb,h⟩:=af h;cases h;refine⟨_,?_,.int _ _⟩;unfold Instr.index;have hs:s[m]? =some b:=by
    have hm:m<s.data.toList.length:=by rcases dg m s.data.toList.length with h|h<;>grind
    have:s.data.toList[m]=b:=by rw[dD hm] at hb;exact bu hb
    rw[getElem?_pos s m (by simpa using hm)];exact bK some (by rw[<-this];rfl)
   simp[asIntOf,ga w H hi,hd];simp[hs]
  ·cases h
 ·cases h
def mL(x:Option Value)(dflt lim:Nat):Option Nat:=
 match x with
 |none=>some dflt
 |some (.int _ (.ofNat m))=>cond (Nat.ble m lim) (some m) none
 |_=>none
def mM(len cap:Nat)(low high max:Option Value):Option (Nat×Nat×Nat):=
 ob (mL max cap cap) λm=>
  ob (match high,max with|none,some _=>none|_,_=>mL high len m) λh=>ob (mL low 0 h) λl=>some (l,h,m)
def qE(T:TT)(t:TypeId)(x:Value)(lim:Nat)(low high max:Option Value):Option Value:=
 ob (T.get t) λi=>match i.desc,x with
  | .array n e,.pointer (some ⟨o,off,none⟩)=>ob (T.get e) λj=>ob (mM n n low high max) λ(l,h,m)=>
   cond (Nat.blt m bt) (some (.slice (some ⟨o,cond (Nat.beq m l) off (off+l*j.size),none⟩) (h -l) (m -l))) none
  | .string,.string s=>match max with
   |none=>ob (mM s.size s.size low high none) λ(l,h,_)=>some (.string (s.extract l h))
   |some _=>none
  | .slice e,.slice (some ⟨o,off,none⟩) len cap=>ob (T.get e) λj=>
   cond (Nat.blt cap bt)
    (ob (mM len cap low high max) λ(l,h,m)=>some (.slice (some ⟨o,cond (Nat.beq m l) off (off+l*j.size),none⟩) (h -l) (m -l)))
    (match max with
     |some _=>cond (Nat.beq cap (bt+j.size)&&Nat.blt 0 j.size) (ob (mM len len low high max) λ(l,h,m)=>cond (Nat.blt m bt) (some (.slice (some ⟨o,cond (Nat.beq m l) off (off+l*j.size),none⟩) (h -l) (m -l))) none) none
     |none=>cond (Nat.beq cap (bt+j.size)&&Nat.blt 0 j.size) (ob (mM len (Nat.max len lim) low high none) λ(l,h,_)=>
      cond (Nat.beq l 0) (some (.slice (some ⟨o,off,none⟩) h cap))
       (cond (Nat.blt l len||Nat.blt l h) (some (.slice (some ⟨o,off+l*j.size,none⟩) (h -l) cap)) (some (.slice (some ⟨0,0,none⟩) 0 bt)))) none)
  | .slice e,.slice none 0 0=>ob (T.get e) λ_=>ob (mM 0 0 low high max) λ_=>some (.slice none 0 0)
  | .slice e,.func (.via len _ _ true) cs _=>ob (T.get e) λj=>ob (mM len len low high max) λ(l,h,_)=>some (ae (h -l) ((cs.toList.drop (l*j.size)).take ((h -l)*j.size)))
  |_,_=>none
def tj(ρ:Ren):Option Value->Option Value->Prop
 |none,none=>True
 |some x,some y=>aF ρ x y
 |_,_=>False
variable{lim:Nat}
theorem DY(hx:aF ρ x x'){d lim':Nat}(hl:lim<=lim'){m:Nat}(h:mL (some x) d lim=some m)(code:BoundsCode)(w:World):
 (Instr.sliceBound x' lim' code).run P w=.ok m w/\m<=lim:=by
 unfold mL at h;split at h
 ·grind
 ·rename_i k n hh;cases hh;cases hx;cases hb:Nat.ble n lim with
  |false=>grind
  |true=>simp[hb] at h;subst h;have hle:=cI hb;refine⟨?_,hle⟩;unfold Instr.sliceBound;simp only[dO,asIntOf,fQ,gA,ar (show(0:Int)<=Int.ofNat n/\Int.ofNat n<=(lim':Int) from by simp;omega)];simp
 grind
variable{low low':Option Value}
theorem KE(rl:tj ρ low low'){h0 l0:Nat}(h3:mL low 0 h0=some l0)(code:BoundsCode)(w:World):
 l0<=h0/\∀{α:Type}(g:Nat->α),(match low' with|some v=>(do let l<-Instr.sliceBound v h0 code;pure (g l):Sem α)|none=>(do let l<-pure 0;pure (g l))).run P w=.ok (g l0) w:=by
 cases low with
 |none=>
  cases low' with
  |some y=>exact rl.elim
  |none=>simp[mL] at h3;subst h3;simp
 |some x=>
  cases low' with
  |none=>exact rl.elim
  |some y=>obtain⟨a,b⟩:=DY (P:=P) rl (aB h0) h3 code w;simp_all
theorem qG{high max high' max':Option Value}(rl:tj ρ low low')(rh:tj ρ high high')(rm:tj ρ max max'){len cap':Nat}(hlen:len<=lim)(hcap:lim<=cap'){l h m:Nat}
 (hb:mM len lim low high max=some (l,h,m)) (b:Bool) (w:World):
 l<=h/\h<=m/\(Instr.sliceBounds b len cap' low' high' max').run P w=.ok (l,h,if max=none then cap' else m) w/\(max=none->m=lim)/\m<=lim:=by
 obtain⟨m0,h1,hb⟩:=af hb;obtain⟨h0,h2,hb⟩:=af hb;obtain⟨l0,h3,hb⟩:=af hb;obtain⟨rfl,rfl,rfl⟩:l0=l/\h0=h/\m0=m:=by simpa using bu hb
 unfold Instr.sliceBounds;cases max with
 |none=>
  cases max' with
  |some y=>exact rm.elim
  |none=>
   simp[mL] at h1;subst h1;cases high with
   |none=>
    cases high' with
    |some y=>exact rh.elim
    |none=>simp[mL] at h2;subst h2;obtain⟨a1,a2⟩:=KE rl h3 .sliceB w;exact⟨a1,hlen,((a2 λl=>(l,len,cap')).trans (by simp)),λ_=>rfl,aB _⟩
   |some x=>
    cases high' with
    |none=>exact rh.elim
    |some y=>obtain⟨b1,b2⟩:=DY rh hcap h2 (if b=true then .sliceAcap else .sliceAlen) w;obtain⟨a1,a2⟩:=KE rl h3 .sliceB w;refine⟨a1,b2,?_,λ_=>rfl,aB _⟩;simp;rw[b1];exact(a2 λl=>(l,h0,cap')).trans (by simp)
 |some z=>
  cases max' with
  |none=>exact rm.elim
  |some z'=>
   obtain⟨c1,c2⟩:=DY rm hcap h1 (if b=true then .slice3Acap else .slice3Alen) w;cases high with
   |none=>grind
   |some x=>
    cases high' with
    |none=>exact rh.elim
    |some y=>obtain⟨b1,b2⟩:=DY rh (aB m0) h2 .slice3B w;obtain⟨a1,a2⟩:=KE rl h3 .slice3C w;refine⟨a1,b2,?_,λh=>(by grind),c2⟩;simp;rw[c1];simp;rw[b1];exact(a2 λl=>(l,h0,m0)).trans (by simp)
end
section
theorem PL(b k n m l:Nat):(if m=l then(⟨b,k,none⟩:Addr) else(⟨b,k,none⟩:Addr).add n)=⟨b,cond (Nat.beq m l) k (k+n),none⟩:=by
 rw[oP,tF]
 grind
theorem P1(x k n m l:Nat):x+cond (Nat.beq m l) k (k+n)=cond (Nat.beq m l) (x+k) (x+k+n):=by grind
theorem E6{a b:Nat}(h:Nat.blt a b=false):b<=a:=by
 rcases dg a b with h2|h2
 ·have:Nat.blt a b=true:=by unfold Nat.blt;exact gi h2
  grind
 grind
variable{P:Program} {v x x':Value} {ρ:Ren}
theorem ahA{T:TT}(H:eE P T){t:TypeId}{low high max low' high' max':Option Value}(hx:aF ρ x x')(rl:tj ρ low low')(rh:tj ρ high high')(rm:tj ρ max max'){lim:Nat}
 (hlim:∀o off n E c L,x=.slice (some ⟨o,off,none⟩) n (bt+E)->ρ o=some L->0<E->L.base+off+c*E=L.stop->lim<=c)
 (hb:qE T t x lim low high max=some v) (w:World):∃v',(Instr.sliceAt t x' low' high' max').run P w=.ok v' w/\aF ρ v v':=by
 replace hb:=af hb;obtain⟨i,hi,hb⟩:=hb;have hu:=ga w H hi;split at hb
 ·rename_i n e o off hd;cases hx with
  |ptr hL=>
   rename_i L;replace hb:=af hb;obtain⟨j,hj,hb⟩:=hb;replace hb:=af hb;obtain⟨⟨l,h,m⟩,h1,hb⟩:=hb;simp only at hb;obtain⟨a1,a2,a3,a4,a5⟩:=qG (P:=P) rl rh rm (aB n) (aB n) h1 false w;have em:(if max=none then n else m)=m:=by split<;>simp_all
   rw[em] at a3;cases hm:Nat.blt m bt with
   |false=>simp[hm] at hb
   |true=>simp only[hm,ay,kF] at hb;subst hb;have:=cT hm;refine⟨.slice (some ⟨L.block,L.base+cond (Nat.beq m l) off (off+l*j.size),none⟩) (h -l) (m -l),?_,.gG hL (by omega) (by omega)⟩;unfold Instr.sliceAt;simp only[dO,hu,hd,gA,Instr.sureAddr,fQ,a3,run_sizeOf w H hj,PL,P1]
 ·rename_i s hd;cases hx;split at hb
  ·replace hb:=af hb;obtain⟨⟨l,h,m⟩,h1,hb⟩:=hb;simp only at hb;obtain rfl:=bu hb;cases max' with
   |some y=>exact rm.elim
   |none=>obtain⟨a1,a2,a3,a4,a5⟩:=qG (P:=P) rl rh rm (aB s.size) (aB s.size) h1 false w;refine⟨_,?_,.str _⟩;unfold Instr.sliceAt Instr.slice;simp only[gj] at a3;simp_all
  ·cases hb
 ·rename_i e o off len cap hd;replace hb:=af hb;obtain⟨j,hj,hb⟩:=hb;have run:∀(L:Loc)(c l h m:Nat),(Instr.sliceBounds true len c low' high' max').run P w=.ok (l,h,m) w->
   (Instr.sliceAt t (.slice (some ⟨L.block,L.base+off,none⟩) len c) low' high' max').run P w=.ok (.slice (some ⟨L.block,L.base+cond (Nat.beq m l) off (off+l*j.size),none⟩) (h -l) (m -l)) w:=by
   intro L c l h m hbd;unfold Instr.sliceAt Instr.slice;simp only[dO,hu,hd,gA,hbd,run_sizeOf w H hj,fQ,Option.map_some];have:(if m=l then some (⟨L.block,L.base+off,none⟩:Addr) else some ((⟨L.block,L.base+off,none⟩:Addr).add (l*j.size)))=some ⟨L.block,L.base+cond (Nat.beq m l) off (off+l*j.size),none⟩:=by rw[P1,<-PL];split<;>rfl
   rw[this]
  cases hcap:Nat.blt cap bt with
  |true=>
   simp only[hcap,ay] at hb;replace hb:=af hb;obtain⟨⟨l,h,m⟩,h1,hb⟩:=hb;simp only at hb;obtain rfl:=bu hb;have hlt:=cT hcap;cases hx with
   |gG hL hc hn=>
    obtain⟨a1,a2,a3,a4,a5⟩:=qG (P:=P) rl rh rm hn (aB cap) h1 true w;have em:(if max=none then cap else m)=m:=by split<;>simp_all
    rw[em] at a3;refine⟨_,run _ _ _ _ _ a3,.gG hL ?_ (by omega)⟩;omega
   |gz hL hE hc hn=>omega
   |jb=>omega
  |false=>
   have hge:=E6 hcap;simp only[hcap,aE] at hb;split at hb
   ·rename_i mx;cases hE:(Nat.beq cap (bt+j.size)&&Nat.blt 0 j.size) with
    |false=>simp[hE] at hb
    |true=>
     simp only[hE,ay] at hb;replace hb:=af hb;obtain⟨⟨l,h,m⟩,h1,hb⟩:=hb;simp only at hb;cases hm:Nat.blt m bt with
     |false=>simp[hm] at hb
     |true=>
      simp only[hm,ay,kF] at hb;subst hb;have hml:=cT hm;have go:∀(L:Loc)(c:Nat),ρ o=some L->len<=c->∃v',(Instr.sliceAt t (.slice (some ⟨L.block,L.base+off,none⟩) len c) low' high' max').run P w=.ok v' w/\aF ρ (.slice (some ⟨o,cond (Nat.beq m l) off (off+l*j.size),none⟩) (h -l) (m -l)) v':=by intro L c hL hn;obtain⟨a1,a2,a3,a4,a5⟩:=qG (P:=P) rl rh rm (aB len) hn h1 true w;simp only[reduceCtorEq,gN] at a3;exact⟨_,run L c l h m a3,.gG hL (by omega) (by omega)⟩
      cases hx with
      |gG hL hc hn=>omega
      |gz hL hE' hc hn=>exact go _ _ hL hn
      |jb=>simp only[bg] at hE;have:=bJ hE.1;have:=cT hE.2;omega
   ·cases hE:(Nat.beq cap (bt+j.size)&&Nat.blt 0 j.size) with
    |false=>simp[hE] at hb
    |true=>
     simp only[hE,ay] at hb;simp only[bg] at hE;have hEq:=bJ hE.1;have hpos:=cT hE.2;replace hb:=af hb;obtain⟨⟨l,h,m⟩,h1,hb⟩:=hb;simp only at hb;cases max' with
     |some y=>exact rm.elim
     |none=>
      cases hx with
      |gG hL hc hn=>omega
      |jb=>omega
      |@gz _ _ _ E c L hL hE' hc hn=>
       have hlc:=hlim _ _ _ _ _ _ rfl hL hE' hc;obtain⟨a1,a2,a3,a4,a5⟩:=qG (P:=P) rl rh rm (len:=len) (lim:=Nat.max len lim) (Nat.le_max_left _ _) (Nat.max_le.2 ⟨hn,hlc⟩) h1 true w;have hsz:j.size=E:=by omega
       have hm:=a4 rfl;have hmc:Nat.max len lim<=c:=Nat.max_le.2 ⟨hn,hlc⟩;simp only[gj] at a3;have r:=run L c l h c a3;cases hl0:Nat.beq l 0 with
       |true=>
        simp only[hl0,ay,kF] at hb;subst hb;obtain rfl:=bJ hl0;have e0:cond (Nat.beq c 0) off (off+0*j.size)=off:=by rw[oP];split<;>simp
        rw[e0] at r;exact⟨_,r,.gz hL hE' hc (by omega)⟩
       |false=>
        simp only[hl0,aE] at hb;cases hlt:(Nat.blt l len||Nat.blt l h) with
        |true=>
         simp only[hlt,ay,kF] at hb;subst hb;simp only[qn] at hlt;have hll:l<c:=by
          rcases hlt with q|q
          ·have:=cT q;omega
          ·have:=cT q;omega
         have e1:cond (Nat.beq c l) off (off+l*j.size)=off+l*j.size:=by rw[oP,ai (by omega)]
         rw[e1] at r;refine⟨_,r,.gz hL hE' ?_ (by omega)⟩;rw[hsz,Nat.sub_mul];have:l*E<=c*E:=aiT _ (by omega);omega
        |false=>
         simp only[hlt,aE,kF] at hb;subst hb;simp only[Bool.or_eq_false_iff] at hlt;have:=E6 hlt.2;have hz:h -l=0:=by omega
         rw[hz] at r;exact⟨_,r,.jb⟩
 ·rename_i e hd;cases hx;replace hb:=af hb;obtain⟨j,hj,hb⟩:=hb;replace hb:=af hb;obtain⟨⟨l,h,m⟩,h1,hb⟩:=hb;obtain rfl:=bu hb;obtain⟨a1,a2,a3,a4,a5⟩:=qG (P:=P) rl rh rm (aB 0) (aB 0) h1 true w;have hm0:(if max=none then 0 else m)=m:=by split<;>simp_all
  rw[hm0] at a3;refine⟨_,?_,.kS⟩;have e1:h -l=0:=by omega
  have e2:m -l=0:=by omega
  unfold Instr.sliceAt Instr.slice;simp only[dO,hu,hd,gA,a3,run_sizeOf w H hj,fQ,e1,e2,Option.map_none,ite_self]
 ·rename_i e len _ _ cs _ hd;replace hb:=af hb;obtain⟨j,hj,hb⟩:=hb;replace hb:=af hb;obtain⟨⟨l,h,m⟩,h1,hb⟩:=hb;simp only at hb;obtain rfl:=bu hb;have go:∀(a:Option Addr)(c:Nat),len<=c->∃m',h<=m'/\(Instr.sliceAt t (.slice a len c) low' high' max').run P w=.ok (.slice (if m'=l then a else a.map (·.add (l*j.size))) (h -l) (m' -l)) w/\l<=h:=by
   intro a c hn;obtain⟨a1,a2,a3,a4,a5⟩:=qG (P:=P) rl rh rm (aB len) hn h1 true w;refine⟨if max=none then c else m,?_,?_,a1⟩
   ·split
    ·rename_i q;have q2:=a4 q;exact eP (q2▸a2) hn
    ·exact a2
   ·unfold Instr.sliceAt Instr.slice;simp only[dO,hu,hd,gA,a3,run_sizeOf w H hj,fQ]
  cases hx with
  |func a _ _=>exact a.elim
  |lit hl=>
   cases hl with
   |gH r hm hs hn=>
    rename_i c a ys;obtain⟨m',k1,k2,k3⟩:=go (some a) c hn;refine⟨_,k2,?_⟩;by_cases e:h=l
    ·subst e;have z:h -h=0:=by omega
     have:ae (h -h) ((cs.toList.drop (h*j.size)).take ((h -h)*j.size))=.func (.via 0 #[] 0 true) #[] #[]:=by unfold ae;rw[z];simp
     rw[this,z];exact .lit .fN
    ·have ca:¬m'=l:=by omega
     rw[ai ca];refine bj.to (.gH ((r.drop (l*j.size)).take ((h -l)*j.size)) (λi y hy=>?_) (Je _ _ hs) (by omega));rw[qq] at hy;split at hy
     ·rw[List.getElem?_drop] at hy;rw[Jc,Jd,lO];exact hm _ _ hy
     ·cases hy
   |fN=>
    rename_i c a;obtain⟨m',k1,k2,k3⟩:=go a c (gZ _);obtain⟨a1,a2,a3,a4,a5⟩:=qG (P:=P) rl rh rm (aB 0) (gZ c) h1 true w;have z:h -l=0:=by omega
    have:ae (h -l) (((#[]:Array Value).toList.drop (l*j.size)).take ((h -l)*j.size))=.func (.via 0 #[] 0 true) #[] #[]:=by unfold ae;rw[z];simp
    refine⟨_,k2,?_⟩;rw[this,z];exact .lit .fN
   |qm=>
    rename_i c a;obtain⟨m',k1,k2,k3⟩:=go (some a) c (gZ _);obtain⟨a1,a2,a3,a4,a5⟩:=qG (P:=P) rl rh rm (aB 0) (gZ c) h1 true w;have z:h -l=0:=by omega
    have:ae (h -l) (((#[]:Array Value).toList.drop (l*j.size)).take ((h -l)*j.size))=.func (.via 0 #[] 0 true) #[] #[]:=by unfold ae;rw[z];simp
    refine⟨_,k2,?_⟩;rw[this,z];exact .lit .fN
   |pZ=>
    rename_i c;obtain⟨m',k1,k2,k3⟩:=go none c (gZ _);obtain⟨a1,a2,a3,a4,a5⟩:=qG (P:=P) rl rh rm (aB 0) (gZ c) h1 true w;have z:h -l=0:=by omega
    have:ae (h -l) (((#[]:Array Value).toList.drop (l*j.size)).take ((h -l)*j.size))=.func (.via 0 #[] 0 true) #[] #[]:=by unfold ae;rw[z];simp
    refine⟨_,k2,?_⟩;rw[this,z];exact .lit .fN
 ·cases hb
def DL(x:Value)(n:Nat):Option Value:=
 match x with
 | .tuple vs=>vs.toList[n]?
 |_=>none
theorem Zr(hx:aF ρ x x'){n:Nat}(h:DL x n=some v)(w:World):
 ∃v',(Instr.extract x' n).run P w=.ok v' w/\aF ρ v v':=by
 unfold DL at h;split at h
 ·cases hx with
  |tuple r=>obtain⟨v',h1,h2⟩:=r.get h;refine⟨v',?_,h2⟩;unfold Instr.extract;simp_all
 grind
def vq(place:Nat->Option (Nat×Nat))(cells:List Value):List (Nat×Value)->Option (List Value)
 |[]=>some cells
 |(i,v)::rest=>
  ob (place i) λ(off,size)=>cond (Nat.beq v.cells.size size&&Nat.ble (off+size) cells.length) (vq place (aW off v.cells.toList cells) rest) none
theorem aF.cells{v':Value}(h:aF ρ v v'):bk ρ v.cells.toList v'.cells.toList:=by
 have h0:=h;cases h with
 |lit hl=>cases hl<;>exact .cons h0 .nil
 |gy hl=>cases hl;exact .cons h0 .nil
 |agg r=>exact r
 |tuple r=>exact .cons h0 .nil
 |_=>exact .cons h0 .nil
theorem XC(off:Nat):∀(vs:List Value)(n:Nat)(cs:Array Value),
 ((vs.zipIdx n).foldl (λcs (x:Value×Nat)=>cs.setIfInBounds (off+x.2) x.1) cs).toList=aW (off+n) vs cs.toList
 |[],n,cs=>rfl
 |v::vs,n,cs=>by simp;rw[XC off vs (n+1) _,Array.toList_setIfInBounds];rfl
inductive vg(ρ:Ren):List (Nat×Value)->List (Nat×Value)->Prop where
 |nil:vg ρ [] []
 |cons {i:Nat} {x y:Value} {xs ys:List (Nat×Value)} (h:aF ρ x y) (t:vg ρ xs ys):vg ρ ((i,x)::xs) ((i,y)::ys)
theorem Er{place:Nat->Option (Nat×Nat)}:∀{ps ps':List (Nat×Value)},vg ρ ps ps'->∀{cs:List Value}{cs':Array Value},bk ρ cs cs'.toList->∀{out:List Value},vq place cs ps=some out->
 ∃out',Instr.fill place cs' ps'=some out'/\bk ρ out out'.toList
 |_,_,.nil,cs,cs',r,out,h=>by cases h;exact⟨cs',rfl,r⟩
 |_,_,.cons (x:=x) (y:=y) hv t,cs,cs',r,out,h=>by
  obtain⟨⟨off,size⟩,hp,h⟩:=af h;simp only at h;cases hc:(Nat.beq x.cells.size size&&Nat.ble (off+size) cs.length) with
  |false=>grind
  |true=>
   rw[hc] at h;simp only[bg] at hc;have e1:=bJ hc.1;have e2:=cI hc.2;have l1:=hv.cells.length;have l2:=r.length;have key:bk ρ (aW off x.cells.toList cs) (y.cells.zipIdx.foldl (λcs (c,j)=>cs.setIfInBounds (off+j) c) cs').toList:=by
    have:=XC off y.cells.toList 0 cs';have e:(y.cells.zipIdx.foldl (λcs (c,j)=>cs.setIfInBounds (off+j) c) cs')=((y.cells.toList.zipIdx 0).foldl (λcs (x:Value×Nat)=>cs.setIfInBounds (off+x.2) x.1) cs'):=by rw[<-Array.foldl_toList];simp
    rw[e,this];exact bk.aW hv.cells off r
   obtain⟨out',h1,h2⟩:=Er t key h;refine⟨out',?_,h2⟩;unfold Instr.fill
   grind
end
section
def DT(T:TT)(d:TypeDesc):Option (Nat->Option (Nat×Nat)):=
 match d with
 | .struct fs=>some λi=>ob (fs[i]?) λf=>ob (T.get f.type) λj=>some (f.offset,j.size)
 | .array _ e=>ob (T.get e) λj=>some λi=>some (i*j.size,j.size)
 |_=>none
def yu(T:TT):List Field->Bool
 |[]=>true
 |f::fs=>match T.get f.type with|some _=>yu T fs|none=>false
def AE(T:TT)(t:TypeId)(parts:List (Nat×Value)):Option Value:=
 ob (T.get t) λi=>ob i.zero λz=>
  match i.desc with
  | .struct fs=>cond (yu T fs.toList) (ob (DT T i.desc) λp=>ob (vq p z.cells.toList parts) λcs=>some (.agg ⟨cs⟩)) none
  | .array _ _=>ob (DT T i.desc) λp=>ob (vq p z.cells.toList parts) λcs=>some (.agg ⟨cs⟩)
  |_=>none
variable{P:Program} {T:TT}
theorem Uu(H:eE P T)(w:World):∀(fs:List Field),yu T fs=true->∃ps:List (Nat×Nat),(fs.mapM (λf=>(do pure (f.offset,<-sizeOf f.type):Sem (Nat×Nat)))).run P w=.ok ps w/\
 ∀i:Nat,ps[i]? =ob (fs[i]?) λf=>ob (T.get f.type) λj=>some (f.offset,j.size)
 |[],_=>⟨[],rfl,λi=>by simp[ob]⟩
 |f::fs,h=>by
  unfold yu at h;cases hg:T.get f.type with
  |none=>grind
  |some j=>
   simp only[hg] at h;obtain⟨ps,h1,h2⟩:=Uu H w fs h;refine⟨(f.offset,j.size)::ps,?_,?_⟩
   ·rw[List.mapM_cons];simp[run_sizeOf w H hg];simp_all
   ·intro i;cases i with
    |zero=>simp[ob,hg]
    |succ i=>grind
variable{ρ:Ren}
theorem Ba{z:Value}(h:mP z=true):bk ρ z.cells.toList z.cells.toList:=(D6 h).cells
variable{t:TypeId} {v:Value}
theorem Yd(H:eE P T){ps:List (Nat×Value)}{ps':Array (Nat×Value)}(r:vg ρ ps ps'.toList)(h:AE T t ps=some v)(w:World):
 ∃v',(Instr.build t ps').run P w=.ok v' w/\aF ρ v v':=by
 obtain⟨i,hi,h⟩:=af h;obtain⟨z,hz,h⟩:=af h;have hzc:=Ba (xi H hi hz) (ρ:=ρ);unfold Instr.build;simp only[dO,uA w H hi hz,gA,ga w H hi];split at h
 ·rename_i fs hd;cases hf:yu T fs.toList with
  |false=>simp_all
  |true=>
   simp[hf] at h;obtain⟨p,hp,h⟩:=af h;obtain⟨cs,hc,h⟩:=af h;cases h;rw[hd] at hp;cases hp;obtain⟨out',h1,h2⟩:=Er r hzc hc;obtain⟨pl,q1,q2⟩:=Uu H w fs.toList hf;have hm:(fs.mapM (λf=>(do pure (f.offset,<-sizeOf f.type):Sem (Nat×Nat)))).run P w=.ok pl.toArray w:=by rw[Array.mapM_eq_mapM_toList];simp only[Sem.run_map];rw[q1];rfl
   have e:(λi:Nat=>pl.toArray[i]?)=λi:Nat=>ob (fs[i]?) λf=>ob (T.get f.type) λj=>some (f.offset,j.size):=by
    funext i
    have:=q2 i;simpa using this
   refine⟨.agg out',?_,.agg h2⟩;simp_all
 ·rename_i n e hd;obtain⟨p,hp,h⟩:=af h;obtain⟨cs,hc,h⟩:=af h;cases h;rw[hd] at hp;obtain⟨j,hj,hp⟩:=af hp;cases hp;obtain⟨out',h1,h2⟩:=Er r hzc hc;refine⟨.agg out',?_,.agg h2⟩;simp only[hd,dO,run_sizeOf w H hj,gA,h1];rfl
 ·cases h
def AF(T:TT)(s d:TypeId)(x:Value):Option Value:=
 ob (T.get s) λ_=>ob (T.get d) λj=>match j.desc,x with
  | .int k,.int _ n=>some (.int k (ah k n))
  |_,_=>none
variable{x x':Value}
theorem YM(H:eE P T){s d:TypeId}(hx:aF ρ x x')(h:AF T s d x=some v)(w:World):
 ∃v',(convert s d x').run P w=.ok v' w/\aF ρ v v':=by
 replace h:=af h;obtain⟨i,hi,h⟩:=h;replace h:=af h;obtain⟨j,hj,h⟩:=h;split at h
 ·rename_i k _ n hd;cases hx;simp[xP] at h;subst h;refine⟨_,?_,.int _ _⟩;simp[convert,ga w H hi,ga w H hj,hd];rfl
 grind
def DU(op:UnOp)(x:Value):Option Value:=
 match op,x with
 | .not,.bool b=>some (.bool (!b))
 | .neg,.int k n=>some (.int k (ah k (Int.sub 0 n)))
 |_,_=>none
theorem aio{op:UnOp}(hx:aF ρ x x')(h:DU op x=some v)(w:World):∃v',(Op.unary op x').run P w=.ok v' w/\aF ρ v v':=by
 unfold DU at h;split at h
 ·cases hx;cases h;exact⟨_,rfl,.bool _⟩
 ·cases hx;simp[xP] at h;subst h;exact⟨_,rfl,.int _ _⟩
 grind
def pA(T:TT)(t:TypeId)(x:Value):Option Value:=
 ob (T.get t) λi=>match i.desc,x with
  | .string,.string s=>some (.int .i64 (Int.ofNat s.data.toList.length))
  | .array n _,_=>some (.int .i64 (Int.ofNat n))
  | .slice _,.slice _ n _=>some (.int .i64 (Int.ofNat n))
  | .slice _,.func (.via n _ _ true) _ _=>some (.int .i64 (Int.ofNat n))
  |_,_=>none
variable{rt:TypeId} {ts:Array TypeId} {xs':Array Value}
theorem aaR(H:eE P T)(ht:ts[0]? =some t)(hx':xs'[0]? =some x')(hx:aF ρ x x')(h:pA T t x=some v)(w:World):
 ∃v',(Builtin.len_ ts rt xs').run P w=.ok v' w/\aF ρ v v':=by
 obtain⟨i,hi,h⟩:=af h;simp[Builtin.len_,ht,hx',ga w H hi];split at h
 ·rename_i s hd;cases hx;cases h;exact⟨_,by simp_all;rfl,.int _ _⟩
 ·rename_i n e hd;cases h;exact⟨_,by simp_all;rfl,.int _ _⟩
 ·rename_i e a n c hd;cases h;refine⟨_,?_,.int _ _⟩;cases hx<;>(simp_all;rfl)
 ·rename_i e n _ _ _ _ hd;cases h;refine⟨_,?_,.int _ _⟩;cases hx with
  |func a _ _=>exact a.elim
  |lit hl=>cases hl<;>(simp_all;rfl)
 ·cases h
def PG(T:TT)(t:TypeId)(x:Value):Option Value:=
 ob (T.get t) λi=>match i.desc,x with
  | .array n _,_=>some (.int .i64 (Int.ofNat n))
  | .slice _,.slice _ _ c=>cond (Nat.blt c bt) (some (.int .i64 (Int.ofNat c))) none
  |_,_=>none
theorem Yn(H:eE P T)(ht:ts[0]? =some t)(hx':xs'[0]? =some x')(hx:aF ρ x x')(h:PG T t x=some v)(w:World):
 ∃v',(Builtin.cap_ ts rt xs').run P w=.ok v' w/\aF ρ v v':=by
 replace h:=af h;obtain⟨i,hi,h⟩:=h;simp[Builtin.cap_,ht,hx',ga w H hi];split at h
 ·rename_i n e hd;cases h;exact⟨_,by simp_all;rfl,.int _ _⟩
 ·rename_i e a n c hd;cases hc:Nat.blt c bt with
  |false=>simp_all
  |true=>
   simp[hc] at h;subst h;have:=cT hc;refine⟨_,?_,.int _ _⟩;cases hx<;>first
    |(simp_all;rfl)
    |omega
 ·cases h
def DP(mx:Bool)(k:IntKind):Int->List Value->Option Value
 |x,[]=>some (.int k x)
 |x,.int _ y::rest=>DP mx k (cond (cond mx (aq x y) (aq y x)) y x) rest
 |_,_=>none
def vy(mx:Bool):List Value->Option Value
 | .int k x::rest=>DP mx k x rest
 |_=>none
theorem KS{P:Program}{ρ:Ren}(w:World)(k:IntKind)(mx:Bool)(f:Value->Value->Sem Value)(hf:∀x k' y,f (.int k x) (.int k' y)=pure (.int k (cond (cond mx (aq x y) (aq y x)) y x))):
 ∀(xs xs':List Value),bk ρ xs xs'->∀(x:Int)(v:Value),DP mx k x xs=some v->(xs'.foldlM f (.int k x)).run P w=.ok v w/\aF ρ v v
 |[],_,r,x,v,h=>by cases r;cases h;exact⟨rfl,.int _ _⟩
 |y::xs,_,r,x,v,h=>by
  cases r with
  |cons r t=>
   unfold DP at h;split at h
   ·grind
   ·rename_i k' y rest hh;cases hh;cases r;have:=KS (P:=P) w k mx f hf xs _ t _ v h;simp_all
   grind
variable{xs:List Value}
theorem abm(w:World)(r:bk ρ xs xs'.toList)(h:vy false xs=some v)(ts:Array TypeId)(t:TypeId):(Builtin.min_ ts t xs').run P w=.ok v w/\aF ρ v v:=by
 unfold vy at h;split at h
 ·rename_i k x rest;unfold Builtin.min_;generalize xs'.toList=l at r;cases r with
  |cons r0 t0=>cases r0;exact KS w k false Builtin.min2 (λx k' y=>by rw[show(Builtin.min2 (.int k x) (.int k' y))=pure (.int k (if y<x then y else x)) from rfl,aE,yE];by_cases e:y<x<;>simp[e]) _ _ t0 x v h
 grind
theorem abc(w:World)(r:bk ρ xs xs'.toList)(h:vy true xs=some v)(ts:Array TypeId)(t:TypeId):(Builtin.max_ ts t xs').run P w=.ok v w/\aF ρ v v:=by
 unfold vy at h;split at h
 ·rename_i k x rest;unfold Builtin.max_;generalize xs'.toList=l at r;cases r with
  |cons r0 t0=>cases r0;exact KS w k true Builtin.max2 (λx k' y=>by rw[show(Builtin.max2 (.int k x) (.int k' y))=pure (.int k (if y>x then y else x)) from rfl,yE];by_cases e:x<y<;>simp[e]) _ _ t0 x v h
 grind
def yG:TypeDesc->Bool
 | .interface _=>true
 |_=>false
def DQ(T:TT)(t:TypeId)(x:Value):Option Value:=
 ob (T.get t) λi=>cond (yG i.desc) none (some (.iface t x))
theorem aa8(H:eE P T)(hx:aF ρ x x')(h:DQ T t x=some v)(w:World):
 ∃v',(Instr.makeInterface t x').run P w=.ok v' w/\aF ρ v v':=by
 obtain⟨i,hi,h⟩:=af h;cases hc:yG i.desc with
 |true=>grind
 |false=>
  simp_all;subst h;refine⟨_,?_,.iface hx⟩;simp[Instr.makeInterface,ga w H hi];split
  ·rename_i hd;rw[hd] at hc;cases hc
  simp
def vp(T:TT)(x:Value)(a:TypeId)(ok:Bool):Option Value:=
 ob (T.get a) λi=>cond (yG i.desc) none (match x with
  | .nilIface=>cond ok (ob i.zero λz=>some (.tuple ⟨[z,.bool false]⟩)) none
  | .iface t v=>cond (Nat.beq t a) (some (cond ok (.tuple ⟨[v,.bool true]⟩) v)) (cond ok (ob i.zero λz=>some (.tuple ⟨[z,.bool false]⟩)) none)
  |_=>none)
theorem X1(H:eE P T){xt a:TypeId}{ok:Bool}(hx:aF ρ x x')(h:vp T x a ok=some v)(w:World):
 ∃v',(Instr.typeAssert x' xt a ok).run P w=.ok v' w/\aF ρ v v':=by
 replace h:=af h;obtain⟨i,hi,h⟩:=h;cases hc:yG i.desc with
 |true=>simp_all
 |false=>
  simp_all;have nd:∀m,i.desc≠.interface m:=λm e=>by rw[e] at hc;cases hc
  have zt:∀z,i.zero=some z->aF ρ (.tuple ⟨[z,.bool false]⟩) (.tuple #[z,.bool false]):=λz hz=>
   .tuple (.cons (D6 (xi H hi hz)) (.cons (.bool _) .nil))
  unfold Instr.typeAssert;simp[ga w H hi];split at h
  ·cases hx;cases ok with
   |false=>cases h
   |true=>
    obtain⟨z,hz,h⟩:=af h;cases h;refine⟨_,?_,zt z hz⟩;cases hd:i.desc<;>first
     |exact absurd hd (nd _)
     |simp[uA w H hi hz]
  ·rename_i t u;cases hx with
   |iface r=>
    rename_i u';cases e:Nat.beq t a with
    |true=>
     obtain rfl:=bJ e;simp at h;subst h;cases ok with
     |true=>
      refine⟨.tuple #[u',.bool true],?_,.tuple (.cons r (.cons (.bool _) .nil))⟩;cases hd:i.desc<;>first
       |exact absurd hd (nd _)
       |simp
     |false=>
      refine⟨u',?_,r⟩;cases hd:i.desc<;>first
       |exact absurd hd (nd _)
       |simp
    |false=>
     have ne:t≠a:=λq=>by subst q;simp at e
     simp_all;cases ok with
     |false=>cases h
     |true=>
      obtain⟨z,hz,h⟩:=af h;cases h;refine⟨_,?_,zt z hz⟩;cases hd:i.desc<;>first
       |exact absurd hd (nd _)
       |simp[uA w H hi hz]
  ·cases h
end
section
def Good(ρ:Ren)(h:Heap)(nx:Nat)(w:World)(v:Value)(h':Heap)(nx':Nat)(r:Result Value):Prop:=
 ∃ρ' v' w',r=.ok v' w'/\aF ρ' v v'/\bh ρ' h' w'/\bP ρ h nx w ρ' h' nx' w'
def IM(ρ:Ren)(h:Heap)(nx:Nat)(w:World)(h':Heap)(nx':Nat)(r:Result Unit):Prop:=
 ∃ρ' w',r=.ok () w'/\bh ρ' h' w'/\bP ρ h nx w ρ' h' nx' w'
theorem KU(n:Nat):vc (0,0) n:=.inl rfl
variable{b:Nat} {cs:Array Value} {vs:List Value} {ρ:Ren}
theorem YP(r:bk ρ vs cs.toList):mF ρ ⟨b,0,cs.size⟩ vs false cs:=by
 have hl:=r.length;have hcs:cs.toList.length=cs.size:=rfl;refine⟨rfl,by simp;omega,λ_=>⟨rfl,by omega⟩,λi v hi=>?_⟩;obtain⟨v',h1,h2⟩:=r.get hi
 grind
theorem FJ(w:World)(o:Obj)(b:Nat)(hb:b<w.heap.size):({w with heap:=w.heap.push o}:World).heap[b]? =w.heap[b]? :=by grind
theorem Uz(w:World)(o:Obj):({w with heap:=w.heap.push o}:World).heap[w.heap.size]? =some o:=by simp
variable{P:Program} {h:Heap} {nx:Nat} {w:World}
theorem EA(H:bh ρ h w)(hn:ρ nx=none)(r:bk ρ vs cs.toList)(e:TypeId):
 ∃w',(newRow e cs).run P w=.ok ⟨w.heap.size,0,none⟩ w'/\bh (ρ.with nx ⟨w.heap.size,0,cs.size⟩) (h.set nx (.cells vs e false)) w'/\
  bP ρ h nx w (ρ.with nx ⟨w.heap.size,0,cs.size⟩) (h.set nx (.cells vs e false)) (nx+1) w':=by
 refine⟨{w with heap:=w.heap.push (.cells cs e)},?_,?_,bP.fresh rfl rfl rfl rfl (by simp) (λb hb=>FJ w _ b hb)⟩
 ·unfold newRow;simp
 ·refine H.fresh hn rfl (λb hb=>FJ w _ b hb) ⟨cs,(0,0),Uz w _,KU _,?_⟩;exact(YP r).mono (Ren.sX hn)
def I8(T:TT)(h:Heap)(nx:Nat)(t:TypeId):Option (Value×Heap):=
 ob (T.get t) λi=>ob i.zero λz=>some (.pointer (some ⟨nx,0,none⟩),h.set nx (.cells z.cells.toList t false))
theorem Ux{s:Nat}:aF (ρ.with nx ⟨b,0,s⟩) (.pointer (some ⟨nx,0,none⟩)) (.pointer (some ⟨b,0,none⟩)):=
 .ptr (Ren.iO ρ nx ⟨b,0,s⟩)
variable{T:TT} {h':Heap} {t:TypeId} {v:Value}
theorem XQ(HT:eE P T)(H:bh ρ h w)(hn:ρ nx=none)(e:I8 T h nx t=some (v,h'))(old:Value):
 Good ρ h nx w v h' (nx+1) ((Instr.alloc t true old).run P w):=by
 obtain⟨i,hi,e⟩:=af e;obtain⟨z,hz,e⟩:=af e;obtain⟨rfl,rfl⟩:Value.pointer (some ⟨nx,0,none⟩)=v/\h.set nx (.cells z.cells.toList t false)=h':=by simpa using bu e
 obtain⟨w',a,b,c⟩:=EA (P:=P) H hn (Ba (xi HT hi hz)) t;refine⟨_,_,w',?_,Ux,b,c⟩;simp[Instr.alloc,uA w HT hi hz,newVar,a]
def AD(h:Heap)(nx:Nat)(t:TypeId)(x:Value):Value×Heap:=(.pointer (some ⟨nx,0,none⟩),h.set nx (.cells x.cells.toList t false))
theorem Ya(H:bh ρ h w)(hn:ρ nx=none){x x':Value}(r:aF ρ x x'):
 Good ρ h nx w (AD h nx t x).1 (AD h nx t x).2 (nx+1) ((Instr.box t x').run P w):=by
 obtain⟨w',a,b,c⟩:=EA (P:=P) H hn r.cells t;refine⟨_,_,w',?_,Ux,b,c⟩;simp[Instr.box,newVar,a]
def rep:Nat->List Value->List Value
 |0,_=>[]
 |n+1,l=>l++rep n l
theorem LX(l:List Value):∀n,(rep n l).length=n*l.length
 |0=>by simp[rep]
 |n+1=>by simp[rep,LX l n,kb];omega
theorem UL(l:List Value)(hl:0<l.length):∀(n i:Nat),i<n*l.length->(rep n l)[i]? =l[i%l.length]?
 |0,i,h=>by omega
 |n+1,i,h=>by
  unfold rep;rw[kb] at h;by_cases hlt:i<l.length
  ·rw[uU hlt,rI hlt]
  ·rw[uV (by omega),UL l hl n (i -l.length) (by omega)]
   congr 1
   exact(Nat.mod_eq_sub_mod (by omega)).symm
theorem LU(zs:Array Value)(hz:0<zs.size)(n:Nat):((Array.range (n*zs.size)).map λi=>zs[i%zs.size]!).toList=rep n zs.toList:=by
 have hs:zs.toList.length=zs.size:=rfl;apply s9;intro i;by_cases hi:i<n*zs.size
 ·rw[UL zs.toList (by omega) n i (by grind)];simp[hi,(Nat.mod_lt _ hz)]
 ·rw[lN (by grind),lN (by rw[LX,hs];omega)]
theorem FZ{l l':List Value}(r:bk ρ l l'):∀n,bk ρ (rep n l) (rep n l')
 |0=>.nil
 |n+1=>r.append (FZ r n)
def mN(i:gC)(n:Nat):Option (List Value):=
 cond (Nat.beq (n*i.size) 0) (some []) (ob i.zero λz=>cond (Nat.beq z.cells.size i.size) (some (rep n z.cells.toList)) none)
theorem XB(HT:eE P T){e:TypeId}{i:gC}(hi:T.get e=some i){n:Nat}{zs:List Value}(hz:mN i n=some zs)(w:World):
 ∃z0:Array Value,(if n*i.size=0 then(pure #[]:Sem (Array Value)) else(do let z<-zeroValue e;pure z.cells)).run P w=.ok z0 w/\bk ρ zs ((Array.range (n*i.size)).map λj=>z0[j%z0.size]!).toList:=by
 unfold mN at hz;rw[oP] at hz;by_cases h0:n*i.size=0
 ·rw[ar h0] at hz;cases hz;exact⟨#[],by rw[ar h0];rfl,by rw[h0];simp;exact .nil⟩
 ·rw[ai h0] at hz;obtain⟨z,hz1,hz⟩:=af hz;rw[oP] at hz;by_cases hs:z.cells.size=i.size
  ·rw[ar hs] at hz;cases hz;refine⟨z.cells,?_,?_⟩
   ·rw[ai h0];simp[uA w HT hi hz1]
   ·have hp:0<z.cells.size:=by
     grind
    rw[<-hs,LU z.cells hp];exact FZ (Ba (xi HT hi hz1)) n
  grind
def I9(T:TT)(h:Heap)(nx:Nat)(t:TypeId)(len:Nat)(parts:List (Nat×Value)):Option (Value×Heap):=
 ob (T.get t) λi=>match i.desc with
  | .slice e=>ob (T.get e) λj=>cond (Nat.ble (len*j.size) 16777216)
   (ob (mN j len) λzs=>ob (vq (λk=>some (k*j.size,j.size)) zs parts) λcs=>cond (Nat.blt len bt) (some (.slice (some ⟨nx,0,none⟩) len len,h.set nx (.cells cs e false))) none) none
  |_=>none
theorem Yb(HT:eE P T)(H:bh ρ h w)(hn:ρ nx=none){len:Nat}{ps:List (Nat×Value)}{ps':Array (Nat×Value)}(r:vg ρ ps ps'.toList)
 (e:I9 T h nx t len ps=some (v,h')):Good ρ h nx w v h' (nx+1) ((Instr.buildSlice t len ps').run P w):=by
 obtain⟨i,hi,e⟩:=af e;split at e
 ·rename_i el hd;obtain⟨j,hj,e⟩:=af e;cases hc:Nat.ble (len*j.size) 16777216 with
  |false=>simp_all
  |true=>
   simp_all;obtain⟨zs,hz,e⟩:=af e;obtain⟨cs,hf,e⟩:=af e;cases hl:Nat.blt len bt with
   |false=>simp_all
   |true=>
    simp[hl] at e;obtain⟨rfl,rfl⟩:=e;obtain⟨zs',q1,q2⟩:=XB HT hj hz w;obtain⟨cs',q3,q4⟩:=Er r q2 hf;obtain⟨w',a,b,c⟩:=EA (P:=P) H hn q4 el;refine⟨_,.slice (some ⟨w.heap.size,0,none⟩) len len,w',?_,.gG (Ren.iO ρ nx _) (cT hl) (aB _),b,c⟩
    ·unfold Instr.buildSlice;rw[dO,ga w HT hi,hd];simp[run_sizeOf w HT hj];by_cases h0:len*j.size=0
     ·rw[ar h0] at q1⊢;simp_all
     ·rw[ai h0] at q1⊢;simp_all;cases hz0:(zeroValue el).run P w with
      |halt x y=>rw[hz0] at q1;cases q1
      |ok z w0=>simp_all
 ·cases e
end
section
def vx(T:TT)(h:Heap)(nx:Nat)(t:TypeId)(len cap:Value):Option (Value×Heap):=
 match len,cap with
 | .int _ (.ofNat m),.int _ (.ofNat c)=>
  ob (T.get t) λi=>match i.desc with
   | .slice e=>ob (T.get e) λj=>
    cond (Nat.ble m c&&Nat.blt c 9223372036854775808&&Nat.ble (j.bytes*c) 281474976710656)
     (ob (mN j c) λzs=>some (.slice (some ⟨nx,0,none⟩) m c,h.set nx (.cells zs e false))) none
   |_=>none
 |_,_=>none
theorem IF{m:Nat}(h:m<9223372036854775808):IntKind.i64.wrap (Int.ofNat m)=Int.ofNat m:=
 Xy (by unfold wj;unfold Nat.blt;exact gi h)
variable{P:Program} {T:TT} {h h':Heap} {nx:Nat} {t:TypeId} {v:Value} {w:World} {ρ:Ren}
theorem aba(HT:eE P T)(H:bh ρ h w)(hn:ρ nx=none){len cap len' cap':Value}(rl:aF ρ len len')(rc:aF ρ cap cap')
 (e:vx T h nx t len cap=some (v,h')):Good ρ h nx w v h' (nx+1) ((Instr.makeSlice t len' cap').run P w):=by
 unfold vx at e;split at e
 ·cases rl;cases rc;rename_i k m k' c;obtain⟨i,hi,e⟩:=af e;split at e
  ·rename_i el hd;obtain⟨j,hj,e⟩:=af e;cases hc:(Nat.ble m c&&Nat.blt c 9223372036854775808&&Nat.ble (j.bytes*c) 281474976710656) with
   |false=>simp_all
   |true=>
    simp[hc] at e;simp only[bg] at hc;obtain⟨⟨h1,h2⟩,h3⟩:=hc;have c1:=cI h1;have c2:=cT h2;have c3:=cI h3;obtain⟨zs,hz,e⟩:=af e;obtain⟨rfl,rfl⟩:Value.slice (some ⟨nx,0,none⟩) m c=v/\h.set nx (.cells zs el false)=h':=by simpa using bu e
    obtain⟨inf,q0,q1,q2,_⟩:=Mo w HT hj;obtain⟨zs',p1,p2⟩:=XB HT hj hz w;obtain⟨w',a,b,d⟩:=EA (P:=P) H hn p2 el;refine⟨_,.slice (some ⟨w.heap.size,0,none⟩) m c,w',?_,.gG (Ren.iO ρ nx _) (by unfold bt;omega) c1,b,d⟩;have e2:=IF c2;have hb:¬((inf.bytes:Int)*Int.ofNat c>2^48):=by
     rw[q2];have:((j.bytes*c:Nat):Int)<=281474976710656:=by omega
     simp at this⊢;omega
    unfold Instr.makeSlice;rw[dO,ga w HT hi,hd];have hcond:¬((((decide (Int.ofNat c<0)||decide ((inf.bytes:Int)*Int.ofNat c>2^48))||decide (Int.ofNat m<0))||decide (Int.ofNat m>Int.ofNat c))=true):=by simp at hb⊢;omega
    simp only[asInt,asIntOf,dO,fQ,gA,q0,(IF (show m<9223372036854775808 by omega)),e2,ai hcond,run_askRoom,run_sizeOf w HT hj];have e3:(Int.ofNat c).toNat=c:=rfl;rw[e3];by_cases h0:c*j.size=0
    ·rw[ar h0] at p1⊢;simp_all
    ·rw[ai h0] at p1⊢;simp_all;cases hz0:(zeroValue el).run P w with
     |halt x y=>rw[hz0] at p1;cases p1
     |ok z w0=>rw[hz0] at p1;obtain⟨rfl,rfl⟩:=p1;simp[a]
  ·cases e
 ·cases e
def DR(h:Heap)(nx:Nat):Value×Heap:=(.map (some nx),h.set nx (.map []))
theorem aa9(H:bh ρ h w)(hn:ρ nx=none)(t:TypeId):Good ρ h nx w (DR h nx).1 (DR h nx).2 (nx+1) ((Instr.makeMap t none).run P w):=by
 refine⟨ρ.with nx ⟨w.heap.size,0,0⟩,.map (some w.heap.size),{w with heap:=w.heap.push (.map #[] 0)},?_,.map (Ren.iO ρ nx _),H.fresh hn rfl (λb hb=>FJ w _ b hb) ⟨#[],0,Uz w _,.nil⟩,bP.fresh rfl rfl rfl rfl (by simp) (λb hb=>FJ w _ b hb)⟩
 ·unfold Instr.makeMap;simp
def oM(T:TT)(h:Heap)(t:TypeId)(x:Value):Option Value:=
 match x with
 | .pointer (some ⟨o,off,none⟩)=>
  ob (h.get o) λob'=>match ob' with
   | .cells c _ _=>ob (T.get t) λi=>cond (mV i.desc) (cond (Nat.ble (off+i.size) c.length) (some (.agg ⟨(c.drop off).take i.size⟩)) none) (c[off]?)
   |_=>none
 | .func (.via _ _ _ false) cs _=>
  ob (T.get t) λi=>cond (mV i.desc) (cond (Nat.ble i.size cs.toList.length) (some (.agg ⟨cs.toList.take i.size⟩)) none) (cs.toList[0]?)
 |_=>none
theorem U5(P:Program){w:World}{a:Addr}(hs:a.spot=none):∀(ys:List Value)(i:Nat)(acc:Array Value),(∀k y,ys[k]? =some y->w.cell? ⟨a.block,a.off+i+k,none⟩=some y)->
 (loadCellsFrom a i ys.length acc).run P w=.ok ⟨acc.toList++ys⟩ w
 |[],i,acc,_=>by simp[loadCellsFrom]
 |y::ys,i,acc,h=>by
  have hc:w.cell? (a.add i)=some y:=by
   have:w.cell? (a.add i)=w.cell? ⟨a.block,a.off+i,none⟩:=by have e1:=Jc a i;have e2:=Jd a i;have e3:=Je a i hs;generalize a.add i=q at e1 e2 e3;cases q;simp_all
   rw[this];exact(h 0 y (by simp))
  have ih:=U5 P hs ys (i+1) (acc.push y) (λk z hz=>by have:=h (k+1) z (by grind);rw[<-this];congr 2;omega);simp[loadCellsFrom,hc]
  grind
variable{a:Addr} {cs ys:List Value}
theorem KD(P:Program)(H:bh ρ h w)(r:aP ρ.lit cs ys)(hm:∀i y,ys[i]? =some y->ρ.lit a.block (a.off+i)=some y)(hs:a.spot=none){n:Nat}(hn:n<=cs.length):
 ∃vs,(loadCells a n).run P w=.ok vs w/\bk ρ (cs.take n) vs.toList:=by
 refine⟨⟨[]++ys.take n⟩,?_,by simpa using(r.take n).to⟩
 ·have:=U5 P hs (ys.take n) 0 #[] (λk y hy=>by
   rw[qq] at hy;split at hy
   ·obtain⟨x,hx⟩:∃x,cs[k]? =some x:=by
     grind
    obtain⟨y',hy',rx⟩:=r.get hx;rw[hy] at hy';cases hy';exact BD rx.KW (H.lit _ _ _ (hm k y hy))
   ·cases hy)
  rw[(show(ys.take n).length=n from by rw[dH,<-r.length];omega)] at this;exact this
theorem Yq(H:bh ρ h w)(r:aP ρ.lit cs ys)(hm:∀i y,ys[i]? =some y->ρ.lit a.block (a.off+i)=some y)(hs:a.spot=none)(hv:cs[0]? =some v):
 ∃v',w.cell? a=some v'/\aF ρ v v':=by
 obtain⟨y,h1,h2⟩:=r.get hv;refine⟨y,?_,h2.to⟩;have:=BD h2.KW (H.lit _ _ _ (hm 0 y h1));cases a
 grind
variable{x x':Value}
theorem SE(HT:eE P T)(H:bh ρ h w)(hx:aF ρ x x')(e:oM T h t x=some v):
 ∃v',(Instr.loadAt t x').run P w=.ok v' w/\aF ρ v v':=by
 unfold oM at e;split at e
 ·rename_i o off;cases hx with
  |ptr hL=>
   obtain⟨obj,ho,e⟩:=af e;split at e
   ·rename_i c el opn;obtain⟨i,hi,e⟩:=af e;simp[Instr.loadAt,loadVar,Instr.sureAddr,Mn w HT hi];cases ha:mV i.desc with
    |true=>
     simp_all;cases hb:Nat.ble (off+i.size) c.length with
     |false=>simp_all
     |true=>simp[hb] at e;subst e;obtain⟨vs,a,b⟩:=H.load P ho hL (cI hb);exact⟨.agg vs,by simp[run_sizeOf w HT hi,a],.agg b⟩
    |false=>simp_all;obtain⟨v',a,b⟩:=H.cell ho hL e;exact⟨v',by simp[a],b⟩
   ·cases e
 ·rename_i cs _;obtain⟨i,hi,e⟩:=af e;cases hx with
  |func a _ _=>exact a.elim
  |lit hl=>
   cases hl with
   |sA r hm hs=>
    simp[Instr.loadAt,loadVar,Instr.sureAddr,Mn w HT hi];cases ha:mV i.desc with
    |true=>
     simp only[ha] at e;cases hb:Nat.ble i.size cs.toList.length with
     |false=>rw[hb] at e;cases e
     |true=>simp only[hb,ay,kF] at e;subst e;obtain⟨vs,a,b⟩:=KD P H r hm hs (cI hb);exact⟨.agg vs,by simp[run_sizeOf w HT hi,a],.agg b⟩
    |false=>simp only[ha] at e;obtain⟨v',a,b⟩:=Yq H r hm hs e;exact⟨v',by simp[a],b⟩
 ·cases e
def bB:List Value->Bool
 |[]=>true
 | .agg _::_=>false
 | .tuple _::_=>false
 |_::vs=>bB vs
theorem aF.one{v':Value}(h:aF ρ v v'):v'.oneCell'=v.oneCell':=by
 cases h with
 |lit h=>cases h<;>rfl
 |gy h=>cases h;rfl
 |_=>rfl
theorem yV:∀(us:List Value),bB us=true->∀{vs:List Value},bk ρ us vs->∀v∈vs,v.oneCell'=true
 |[],_,_,r,v,hv=>by cases r;cases hv
 |u::us,h,_,r,v,hv=>by
  cases r with
  |cons r t=>
   have h1:u.oneCell'=true/\bB us=true:=by cases u<;>first|exact⟨rfl,h⟩|(simp[bB] at h)
   rcases cj.1 hv with rfl|hv
   ·rw[r.one];exact h1.1
   ·exact yV us h1.2 t v hv
def vz(T:TT)(h:Heap)(t:TypeId)(x y:Value):Option Heap:=
 match x with
 | .pointer (some ⟨o,off,none⟩)=>
  ob (h.get o) λob'=>match ob' with
   | .cells c el opn=>ob (T.get t) λi=>cond (Nat.beq y.cells.size i.size&&Nat.ble (off+i.size) c.length&&bB y.cells.toList) (some (h.set o (.cells (aW off y.cells.toList c) el opn))) none
   |_=>none
 |_=>none
theorem ah0(HT:eE P T)(H:bh ρ h w)(nx:Nat){y y':Value}(hx:aF ρ x x')(hy:aF ρ y y')(e:vz T h t x y=some h'):
 IM ρ h nx w h' nx ((Instr.storeAt t x' y').run P w):=by
 unfold vz at e;split at e
 ·rename_i o off;cases hx with
  |ptr hL=>
   obtain⟨obj,ho,e⟩:=af e;split at e
   ·rename_i c el opn;obtain⟨i,hi,e⟩:=af e;cases hc:(Nat.beq y.cells.size i.size&&Nat.ble (off+i.size) c.length&&bB y.cells.toList) with
    |false=>grind
    |true=>simp[hc] at e;subst e;simp only[bg] at hc;have c1:=bJ hc.1.1;have c2:=cI hc.1.2;have r:=hy.cells;have hl:=r.length;have s1:y.cells.toList.length=y.cells.size:=rfl;have s2:y'.cells.toList.length=y'.cells.size:=rfl;obtain⟨w',a,b,d⟩:=H.store P ho hL r (yV _ hc.2 r) (off:=off) (by omega) nx;refine⟨ρ,w',?_,b,d⟩;unfold Instr.storeAt storeVar;simp only[dO,Instr.sureAddr,fQ,gA,run_sizeOf w HT hi,ai (show¬y'.cells.size≠i.size from by omega)];omega
   grind
 grind
end
section
def iN:List Value->Option (List Int)
 |[]=>some []
 | .int .u8 n::xs=>ob (iN xs) λr=>some (n::r)
 |_=>none
variable{ρ:Ren}
theorem Pb:∀(xs xs':List Value)(ns:List Int),bk ρ xs xs'->iN xs=some ns->xs'=ns.map (Value.int .u8)
 |[],_,ns,r,h=>by cases r;cases h;rfl
 |x::xs,_,ns,r,h=>by
  cases r with
  |cons r t=>
   unfold iN at h;split at h
   ·grind
   ·rename_i n rest hh;cases hh;cases r;obtain⟨m,h1,h2⟩:=af h;cases h2;rw[Pb xs _ m t h1];rfl
   grind
def mkStr(ns:List Int):ByteArray:=⟨⟨ns.map λn=>UInt8.ofNat n.toNat⟩⟩
theorem KO:∀(ns:List Int)(s:ByteArray),ns.foldl (λr n=>r.push (UInt8.ofNat n.toNat)) s=⟨⟨s.data.toList++ns.map λn=>UInt8.ofNat n.toNat⟩⟩
 |[],s=>by simp
 |n::ns,s=>by simp only[List.foldl_cons,KO ns];simp
def oc:TypeDesc->Bool
 | .int .u8=>true
 |_=>false
theorem EL{d:TypeDesc}(h:oc d=true):d=.int .u8:=by
 unfold oc at h
 grind
def rS(T:TT)(h:Heap)(s d:TypeId)(x:Value):Option Value:=
 ob (T.get s) λi=>ob (T.get d) λj=>match i.desc,j.desc,x with
  | .slice e,.string,.slice none 0 0=>ob (T.get e) λk=>cond (oc k.desc) (some (.string ⟨⟨[]⟩⟩)) none
  | .slice e,.string,.slice (some ⟨o,off,none⟩) n cap=>ob (T.get e) λk=>cond (oc k.desc)
   (cond (Nat.beq n 0) (some (.string ⟨⟨[]⟩⟩)) (cond (Nat.beq cap bt) none (ob (h.get o) λob'=>match ob' with
    | .cells c _ _=>cond (Nat.ble (off+n) c.length) (ob (iN ((c.drop off).take n)) λns=>some (.string (mkStr ns))) none
    |_=>none))) none
  | .slice e,.string,.func (.via n _ _ true) cs _=>ob (T.get e) λk=>cond (oc k.desc) (cond (Nat.ble n cs.toList.length) (ob (iN (cs.toList.take n)) λns=>some (.string (mkStr ns))) none) none
  |_,_,_=>none
variable{P:Program} {T:TT} {d s:TypeId} {h:Heap} {v x x':Value} {w:World}
theorem O4(HT:eE P T)(H:bh ρ h w)(hx:aF ρ x x')(e:rS T h s d x=some v):
 ∃v',(convert s d x').run P w=.ok v' w/\aF ρ v v':=by
 replace e:=af e;obtain⟨i,hi,e⟩:=e;replace e:=af e;obtain⟨j,hj,e⟩:=e;have hs:=HT.under s i hi;have hd:=HT.under d j hj;split at e
 ·rename_i el h1 h2;cases hx;obtain⟨k,hk,e⟩:=af e;cases hu:oc k.desc with
  |false=>simp_all
  |true=>simp[hu] at e;subst e;have he:=HT.under el k hk;rw[EL hu] at he;rw[h1] at hs;rw[h2] at hd;rw[run_convert_bytes_string w s d el none 0 0 hs he hd];exact⟨.string .empty,by unfold Conv.bytesToString;rfl,.str _⟩
 ·rename_i el o off n cap h1 h2;obtain⟨k,hk,e⟩:=af e;cases hu:oc k.desc with
  |false=>simp_all
  |true=>
   have he:=HT.under el k hk;rw[EL hu] at he;rw[h1] at hs;rw[h2] at hd;have empty:∀(a:Addr)(c:Nat),(convert s d (.slice (some a) 0 c)).run P w=.ok (.string ⟨⟨[]⟩⟩) w:=by intro a c;rw[run_convert_bytes_string w s d el (some a) 0 c hs he hd];exact run_bytesToString w a 0 c [] (by simp[loadCells,loadCellsFrom])
   cases h0:Nat.beq n 0 with
   |true=>simp_all;subst e;cases hx<;>exact⟨_,empty _ _,.str _⟩
   |false=>
    simp_all;cases hcap:Nat.beq cap bt with
    |true=>simp_all
    |false=>
     simp_all;obtain⟨obj,ho,e⟩:=af e;split at e
     ·rename_i c _ opn;cases hb:Nat.ble (off+n) c.length with
      |false=>simp_all
      |true=>
       simp[hb] at e;obtain⟨ns,hn,e⟩:=af e;cases e;have go:∀(L:Loc)(c':Nat),ρ o=some L->∃v',(convert s d (.slice (some ⟨L.block,L.base+off,none⟩) n c')).run P w=.ok v' w/\aF ρ (.string (mkStr ns)) v':=by intro L c' hL;obtain⟨vs,a,b⟩:=H.load P ho hL (cI hb);have:=Pb _ _ _ b hn;rw[run_convert_bytes_string w s d el _ n c' hs he hd];refine⟨_,run_bytesToString w _ n c' ns (by rw[a,(show vs=(ns.map (Value.int .u8)).toArray from by rw[<-this])]),?_⟩;rw[KO];exact .str _
       cases hx with
       |gG hL _ _=>exact go _ _ hL
       |gz hL _ _ _=>exact go _ _ hL
       |jb=>simp at h0
     ·cases e
 ·rename_i el n _ _ cs _ h1 h2;obtain⟨k,hk,e⟩:=af e;cases hu:oc k.desc with
  |false=>simp_all
  |true=>
   simp only[hu] at e;have he:=HT.under el k hk;rw[EL hu] at he;rw[h1] at hs;rw[h2] at hd;cases hb:Nat.ble n cs.toList.length with
   |false=>rw[hb] at e;cases e
   |true=>
    rw[hb] at e;replace e:=af e;obtain⟨ns,hn,e⟩:=e;cases e;cases hx with
    |func a _ _=>exact a.elim
    |lit hl=>
     cases hl with
     |gH r hm hs2 hn2=>rename_i c a ys;obtain⟨vs,a1,b1⟩:=KD P H r hm hs2 (cI hb);have:=Pb _ _ _ b1 hn;rw[run_convert_bytes_string w s d el _ n c hs he hd];refine⟨_,run_bytesToString w _ n c ns (by rw[a1,(show vs=(ns.map (Value.int .u8)).toArray from by rw[<-this])]),?_⟩;rw[KO];exact .str _
     |fN=>
      rename_i c a;have:ns=[]:=by simpa[iN] using hn.symm
      subst this;cases a with
      |none=>rw[run_convert_bytes_string w s d el none 0 c hs he hd];exact⟨.string .empty,by unfold Conv.bytesToString;rfl,.str _⟩
      |some a=>rw[run_convert_bytes_string w s d el (some a) 0 c hs he hd];exact⟨_,run_bytesToString w a 0 c [] (by simp[loadCells,loadCellsFrom]),.str _⟩
     |qm=>
      rename_i c a;have:ns=[]:=by simpa[iN] using hn.symm
      subst this;rw[run_convert_bytes_string w s d el (some a) 0 c hs he hd];exact⟨_,run_bytesToString w a 0 c [] (by simp[loadCells,loadCellsFrom]),.str _⟩
     |pZ=>
      rename_i c;have:ns=[]:=by simpa[iN] using hn.symm
      subst this;rw[run_convert_bytes_string w s d el none 0 c hs he hd];exact⟨.string .empty,by unfold Conv.bytesToString;rfl,.str _⟩
 ·cases e
variable{o:Nat} {ob':eV} {w':World}
theorem bP.O6{nx:Nat}{L:Loc}(ho:h.get o=some ob')(hρ:ρ o=some L)
 (h1:w'.os=w.os) (h2:w'.tape=w.tape) (h3:w'.output=w.output) (h4:w'.heap.size=w.heap.size)
 (he:∀b,b≠L.block->w'.heap[b]? =w.heap[b]?):bP ρ h nx w ρ h nx w' where
 os:=h1
 tape:=h2
 output:=h3
 size:=ta h4.symm
 block b _ hb:=he b λe=>hb ⟨o,ob',L,ho,hρ,e.symm⟩
 owned _ _ hb:=hb
 le:=aB _
 cq _ _:=rfl
 lit _ _ _ h:=h
 eU _ _ _ h:=.inl h
theorem bh.O6(H:bh ρ h w){L:Loc}(ho:h.get o=some ob')(hρ:ρ o=some L)
 (he:∀b,b≠L.block->w'.heap[b]? =w.heap[b]?) (hO:lh ρ w' L ob'):bh ρ h w':=
 (H.put ho hρ he hO).sub λp x hp=>by
  rw[Tr.bD]
  grind
def AI(T:TT)(h:Heap)(s d:TypeId)(x:Value):Option Value:=
 match x with
 | .slice (some ⟨o,off,none⟩) n cap=>cond (Nat.beq s d) (ob (T.get s) λi=>match i.desc with
  | .slice e=>ob (T.get e) λk=>cond (oc k.desc&&!Nat.beq cap bt) (ob (h.get o) λob'=>match ob' with
   | .cells _ _ _=>some (.slice (some ⟨o,off,none⟩) n cap)
   |_=>none) none
  |_=>none) none
 |_=>none
theorem aeQ(HT:eE P T)(H:bh ρ h w)(nx:Nat)(hx:aF ρ x x')(e:AI T h s d x=some v):
 Good ρ h nx w v h nx ((convert s d x').run P w):=by
 unfold AI at e;split at e
 ·rename_i o off n cap;cases hsd:Nat.beq s d with
  |false=>simp[hsd] at e
  |true=>
   obtain rfl:=bJ hsd;simp_all;obtain⟨i,hi,e⟩:=af e;split at e
   ·rename_i el hd;obtain⟨k,hk,e⟩:=af e;cases hu:(oc k.desc&&!Nat.beq cap bt) with
    |false=>rw[hu] at e;cases e
    |true=>
     rw[hu] at e;simp_all;obtain⟨obj,ho,e⟩:=af e;split at e
     ·rename_i c el' opn;cases e;have go:∀(L:Loc)(c':Nat),ρ o=some L->∃w',(convert s s (.slice (some ⟨L.block,L.base+off,none⟩) n c')).run P w=.ok (.slice (some ⟨L.block,L.base+off,none⟩) n c') w'/\bh ρ h w'/\bP ρ h nx w ρ h nx w':=by
       intro L c' hL;obtain⟨M,m1,cs,fz,m2,m3,m4⟩:=H.obj o _ ho;have hsh:w.shape? M.block=some (el',cs.size):=by unfold World.shape?;rw[m2]
       refine⟨w.freeze ⟨M.block,cs.size,none⟩ 1,?_,?_,?_⟩
       ·unfold convert;have q1:=ga w HT hi;have q2:=ga w HT hk;rw[EL hu.1] at q2;simp_all;simp[markStringish,hsh]
       ·have hb:(w.freeze ⟨M.block,cs.size,none⟩ 1).heap[M.block]? =some (.cells cs el' (if fz.1 ==fz.2 then(cs.size,cs.size+1) else(min fz.1 cs.size,max fz.2 (cs.size+1)))):=by
         unfold World.freeze;simp[Array.getElem?_modify,m2]
        refine H.O6 ho m1 ?_ ⟨cs,_,hb,?_,m4⟩
        ·intro b ca;unfold World.freeze;simp[Array.getElem?_modify,Ne.symm ca]
        ·rcases m3 with rfl|m3
         ·exact .inr (by simp)
         ·right;split<;>grind
       ·refine bP.O6 ho m1 ?_ ?_ ?_ ?_ ?_
        ·unfold World.freeze;simp
        ·unfold World.freeze;simp
        ·unfold World.freeze;simp
        ·unfold World.freeze;simp
        ·intro b ca;unfold World.freeze;simp[Array.getElem?_modify,Ne.symm ca]
      cases hx with
      |gG hL hc hn=>obtain⟨w',a,b,d⟩:=go _ _ hL;exact⟨ρ,_,w',a,.gG hL hc hn,b,d⟩
      |gz hL hE hc hn=>obtain⟨w',a,b,d⟩:=go _ _ hL;exact⟨ρ,_,w',a,.gz hL hE hc hn,b,d⟩
      |jb=>have:=hu.2;simp at this
     ·cases e
   ·cases e
 ·cases e
end
section
def kg(h:Heap)(size n:Nat)(x:Value):Option (List Value):=
 match x with
 | .slice none 0 0=>cond (Nat.beq n 0) (some []) none
 | .slice (some ⟨o,off,none⟩) _ cap=>cond (Nat.beq (n*size) 0) (some []) (cond (Nat.beq cap bt) none (ob (h.get o) λob'=>match ob' with
  | .cells c _ _=>cond (Nat.ble (off+n*size) c.length) (some ((c.drop off).take (n*size))) none
  |_=>none))
 | .string s=>some ((s.data.toList.take n).map λb=>.int .u8 (Int.ofNat b.toNat))
 | .func (.via _ _ _ true) cs _=>cond (Nat.ble (n*size) cs.toList.length) (some (cs.toList.take (n*size))) none
 |_=>none
theorem BF(P:Program)(a:Addr)(w:World):(loadCells a 0).run P w=.ok #[] w:=by simp[loadCells,loadCellsFrom]
variable{P:Program} {h:Heap} {n:Nat} {w:World} {x x':Value} {ρ:Ren}
theorem Rk(H:bh ρ h w){size:Nat}(hx:aF ρ x x'){cs:List Value}(e:kg h size n x=some cs):
 ∃vs,(Builtin.firstCells size n x').run P w=.ok vs w/\bk ρ cs vs.toList:=by
 unfold kg at e;split at e
 ·cases hx;cases h0:Nat.beq n 0 with
  |false=>simp_all
  |true=>simp_all;exact⟨#[],rfl,.nil⟩
 ·rename_i o off len cap;cases h0:Nat.beq (n*size) 0 with
  |true=>simp_all;refine⟨#[],?_,.nil⟩;cases hx<;>(unfold Builtin.firstCells;simp_all;exact BF P _ w)
  |false=>
   simp_all;cases hcap:Nat.beq cap bt with
   |true=>simp_all
   |false=>
    simp_all;obtain⟨obj,ho,e⟩:=af e;split at e
    ·rename_i c el opn;cases hb:Nat.ble (off+n*size) c.length with
     |false=>simp_all
     |true=>
      simp[hb] at e;subst e;have hle:=cI hb;cases hx with
      |gG hL _ _=>exact H.load P ho hL hle
      |gz hL _ _ _=>exact H.load P ho hL hle
      |jb=>simp at hcap
    ·cases e
 ·rename_i s;cases hx;cases e;refine⟨(s.extract 0 n).data.map λb=>.int .u8 b.toNat,rfl,?_⟩;have:((s.extract 0 n).data.map λb=>Value.int .u8 (b.toNat:Int)).toList=(s.data.toList.take n).map λb=>Value.int .u8 (Int.ofNat b.toNat):=by
   simp
  rw[this];have key:∀(l:List UInt8),bk ρ (l.map λb=>Value.int .u8 (Int.ofNat b.toNat)) (l.map λb=>Value.int .u8 (Int.ofNat b.toNat)):=by
   intro l;induction l with
   |nil=>exact .nil
   |cons b l ih=>exact .cons (.int _ _) ih
  exact key _
 ·rename_i cs _;cases hb:Nat.ble (n*size) cs.toList.length with
  |false=>rw[hb] at e;cases e
  |true=>
   rw[hb] at e;cases e;cases hx with
   |func a _ _=>exact a.elim
   |lit hl=>
    cases hl with
    |gH r hm hs hn=>exact KD P H r hm hs (cI hb)
    |fN=>
     rename_i c a;rw[(show((#[]:Array Value).toList.take (n*size))=[] from by simp)];refine⟨#[],?_,.nil⟩;cases a with
     |none=>rfl
     |some a=>unfold Builtin.firstCells;simp_all;exact BF P _ w
    |qm=>rw[(show((#[]:Array Value).toList.take (n*size))=[] from by simp)];refine⟨#[],?_,.nil⟩;unfold Builtin.firstCells;simp_all;exact BF P _ w
    |pZ=>rw[(show((#[]:Array Value).toList.take (n*size))=[] from by simp)];exact⟨#[],rfl,.nil⟩
 ·cases e
def vw(x:Value):Option Nat:=
 match x with
 | .slice _ n _=>some n
 | .func (.via n _ _ true) _ _=>some n
 | .string s=>some s.data.toList.length
 |_=>none
theorem Sy(hx:aF ρ x x')(e:vw x=some n)(w:World):(Builtin.lenOf x').run P w=.ok n w:=by
 unfold vw at e;split at e
 ·cases e;cases hx<;>rfl
 ·cases e;cases hx with
  |func a _ _=>exact a.elim
  |lit hl=>cases hl<;>rfl
 ·cases hx;cases e;rfl
 grind
def xO(x:Value):Option Nat:=
 match x with
 | .slice _ n _=>some n
 |_=>none
theorem ahz(hx:aF ρ x x')(e:xO x=some n):∃b c,x'=.slice b n c:=by
 unfold xO at e;split at e
 ·cases e;cases hx<;>exact⟨_,_,rfl⟩
 grind
def C8(b:Option Addr)(l:List Value):Sem Unit:=
 match b with
 |some a=>storeCells a l
 |none=>pure ()
def xI(T:TT)(h:Heap)(t:TypeId)(dst src:Value):Option (Value×Heap):=
 ob (T.get t) λi=>match i.desc with
  | .slice e=>ob (T.get e) λj=>ob (vw src) λl=>ob (xO dst) λd=>
   ob (kg h j.size (Nat.min l d) src) λcs=>
    cond (Nat.beq cs.length 0) (some (.int .i64 (Int.ofNat (Nat.min l d)),h))
     (match dst with
      | .slice (some ⟨o,off,none⟩) _ cap=>cond (Nat.beq cap bt) none (ob (h.get o) λob'=>match ob' with
       | .cells c el opn=>cond (Nat.ble (off+cs.length) c.length&&bB cs) (some (.int .i64 (Int.ofNat (Nat.min l d)),h.set o (.cells (aW off cs c) el opn))) none
       |_=>none)
      |_=>none)
  |_=>none
variable{T:TT} {h':Heap} {rt t:TypeId} {ts:Array TypeId} {xs':Array Value}
theorem YN(HT:eE P T)(H:bh ρ h w)(nx:Nat)(ht:ts[0]? =some t){y y':Value}(hx':xs'[0]? =some x')(hy':xs'[1]? =some y')
 (hx:aF ρ x x') (hy:aF ρ y y') {v:Value} (e:xI T h t x y=some (v,h')):Good ρ h nx w v h' nx ((Builtin.copy_ ts rt xs').run P w):=by
 replace e:=af e;obtain⟨i,hi,e⟩:=e;split at e
 ·rename_i el hd;replace e:=af e;obtain⟨j,hj,e⟩:=e;replace e:=af e;obtain⟨l,hl,e⟩:=e;replace e:=af e;obtain⟨d,ik,e⟩:=e;replace e:=af e;obtain⟨cs,hcs,e⟩:=e;obtain⟨vs,p1,p2⟩:=Rk (P:=P) H hy hcs;have hlen:=p2.length;have q1:=Sy (P:=P) hy hl w;obtain⟨b,c',hb⟩:=ahz hx ik;have pre:∀(r:Result Unit),(C8 b vs.toList).run P w=r->∀w',r=.ok () w'->(Builtin.copy_ ts rt xs').run P w=.ok (.int .i64 (Int.ofNat (Nat.min l d))) w':=by
   intro r hr w' hw;subst hr;simp[Builtin.copy_,ht,hx',hy',hb,ga w HT hi,hd,q1,run_sizeOf w HT hj,p1];cases b with
   |none=>have hw:Result.ok () w=Result.ok () w':=hw;simp_all;rfl
   |some a=>have hw:(storeCells a vs.toList).run P w=.ok () w':=hw;simp_all;rfl
  cases h0:Nat.beq cs.length 0 with
  |true=>
   simp[h0] at e;obtain⟨rfl,rfl⟩:=e;have hz:=bJ h0;refine⟨ρ,_,w,pre _ rfl w ?_,.int _ _,H,bP.refl _ _ _ _⟩;unfold C8;cases b with
   |none=>rfl
   |some a=>simp[(show vs.toList=[] from qu.1 (by omega)),storeCells]
  |false=>
   simp[h0] at e;split at e
   ·rename_i o off n cap;cases hcap:Nat.beq cap bt with
    |true=>simp_all
    |false=>
     simp[hcap] at e;obtain⟨obj,ho,e⟩:=af e;split at e
     ·rename_i c el' opn;cases hc:(Nat.ble (off+cs.length) c.length&&bB cs) with
      |false=>simp[hc] at e
      |true=>
       simp[hc] at e;obtain⟨rfl,rfl⟩:=e;simp only[bg] at hc;have go:∀L,ρ o=some L->b=some ⟨L.block,L.base+off,none⟩->Good ρ h nx w (.int .i64 (Int.ofNat (Nat.min l d))) (h.set o (.cells (aW off cs c) el' opn)) nx ((Builtin.copy_ ts rt xs').run P w):=by intro L hL hbb;obtain⟨w',a1,a2,a3⟩:=H.store P ho hL p2 (yV _ hc.2 p2) (cI hc.1) nx;exact⟨ρ,_,w',pre _ rfl w' (by rw[hbb];exact a1),.int _ _,a2,a3⟩
       subst hb;cases hx with
       |gG hL _ _=>exact go _ hL rfl
       |gz hL _ _ _=>exact go _ hL rfl
       |jb=>simp at hcap
     ·cases e
   ·cases e
 ·cases e
def PH(T:TT)(h:Heap)(t:TypeId)(x:Value):Option Heap:=
 ob (T.get t) λi=>match i.desc,x with
  | .slice _,.slice none 0 0=>some h
  | .slice _,.slice (some _) 0 _=>some h
  | .slice e,.slice (some ⟨o,off,none⟩) n cap=>ob (T.get e) λj=>ob (j.zero) λz=>cond (Nat.beq cap bt) none (ob (h.get o) λob'=>match ob' with
   | .cells c el opn=>cond (Nat.blt 0 z.cells.size&&Nat.ble (off+n*z.cells.size) c.length&&bB z.cells.toList) (some (h.set o (.cells (aW off (rep n z.cells.toList) c) el opn))) none
   |_=>none)
  |_,_=>none
theorem qV:∀(a b:List Value),bB a=true->bB b=true->bB (a++b)=true
 |[],_,_,h=>h
 |x::a,b,h,h2=>by
  cases x<;>first
   |(simp[bB] at h;done)
   |exact qV a b h h2
theorem T9(l:List Value)(h:bB l=true):∀n,bB (rep n l)=true
 |0=>rfl
 |n+1=>qV _ _ h (T9 l h n)
theorem Yz(HT:eE P T)(H:bh ρ h w)(nx:Nat)(ht:ts[0]? =some t)(hx':xs'[0]? =some x')
 (hx:aF ρ x x') (e:PH T h t x=some h'):Good ρ h nx w (.tuple #[]) h' nx ((Builtin.clear_ ts rt xs').run P w):=by
 replace e:=af e;obtain⟨i,hi,e⟩:=e;have empty:∀y:Value,aF ρ (.tuple #[]) (.tuple #[]):=λ_=>.tuple .nil;split at e
 ·rename_i el hd;cases hx;cases e;refine⟨ρ,.tuple #[],w,?_,empty .nilFunc,H,bP.refl _ _ _ _⟩;unfold Builtin.clear_;simp only[ht,hx',dO,ga w HT hi];rfl
 ·rename_i el a cap hd;cases e;refine⟨ρ,.tuple #[],w,?_,empty .nilFunc,H,bP.refl _ _ _ _⟩;simp[Builtin.clear_,ht,hx',ga w HT hi,hd];cases hx<;>rfl
 ·rename_i el o off n cap ca hd;obtain⟨j,hj,e⟩:=af e;obtain⟨z,hz,e⟩:=af e;cases hcap:Nat.beq cap bt with
  |true=>simp_all
  |false=>
   simp[hcap] at e;obtain⟨obj,ho,e⟩:=af e;split at e
   ·rename_i c el' opn;cases hc:(Nat.blt 0 z.cells.size&&Nat.ble (off+n*z.cells.size) c.length&&bB z.cells.toList) with
    |false=>rw[hc] at e;cases e
    |true=>
     rw[hc] at e;cases e;simp only[bg] at hc;have hr:=FZ (Ba (xi HT hj hz) (ρ:=ρ)) n;have hs:z.cells.toList.length=z.cells.size:=rfl;have go:∀(L:Loc)(c':Nat),ρ o=some L->x'=.slice (some ⟨L.block,L.base+off,none⟩) n c'->Good ρ h nx w (.tuple #[]) (h.set o (.cells (aW off (rep n z.cells.toList) c) el' opn)) nx ((Builtin.clear_ ts rt xs').run P w):=by
      intro L c' hL hxx;obtain⟨w',a1,a2,a3⟩:=H.store P ho hL hr (yV _ (T9 _ hc.2 n) hr) (by have:=cI hc.1.2;rw[(LX z.cells.toList n),hs];exact this) nx;refine⟨ρ,.tuple #[],w',?_,empty .nilFunc,a2,a3⟩;have hzz:(Builtin.zeroCells z.cells n).toList=rep n z.cells.toList:=LU z.cells (cT hc.1.1) n;unfold Builtin.clear_;simp only[ht,hx',hxx,dO,ga w HT hi,hd,gA];cases n with
      |zero=>exact False.elim (by first|exact ca ⟨o,off,none⟩|exact ca rfl)
      |succ n=>simp only[uA w HT hj hz,gA,hzz,a1];rfl
     cases hx with
     |gG hL _ _=>exact go _ _ hL rfl
     |gz hL _ _ _=>exact go _ _ hL rfl
     |jb=>simp at hcap
   ·cases e
 ·cases e
end
section
def me:TypeDesc->Bool
 | .int _=>true
 |_=>false
def qD(h:Heap)(j ix:gC)(x:Value):Option (Nat×List Value):=
 cond (me ix.desc)
  (match x with
   | .int _ (.ofNat m)=>cond (Nat.blt m 9223372036854775808&&Nat.ble (m*j.bytes) 281474976710656) (ob (mN j m) λzs=>some (m,zs)) none
   |_=>none)
  (ob (vw x) λn=>ob (kg h j.size n x) λcs=>some (n,cs))
def pB(z:Bool)(size n:Nat)(e:TypeId)(x:Value):Sem (Array Value):=
 if !z then Builtin.firstCells size n x
 else if n*size=0 then pure #[]
 else do pure (Builtin.zeroCells (<-zeroValue e).cells n)
variable{P:Program} {e:TypeId} {n:Nat} {w:World} {x:Value}
theorem XP{T:TT}(HT:eE P T){ρ:Ren}{h:Heap}(H:bh ρ h w){j ix:gC}(hj:T.get e=some j){x':Value}(hx:aF ρ x x'){cs:List Value}(en:qD h j ix x=some (n,cs)):
 ∃vs,(pB (me ix.desc) j.size n e x').run P w=.ok vs w/\bk ρ cs vs.toList:=by
 unfold qD at en;unfold pB;cases hz:me ix.desc with
 |false=>
  simp_all;obtain⟨n',h1,en⟩:=af en;obtain⟨cs',h2,en⟩:=af en;obtain⟨rfl,rfl⟩:n'=n/\cs'=cs:=by simpa using bu en
  simpa using Rk H hx h2
 |true=>
  simp_all;split at en
  ·rename_i k m;cases hc:(Nat.blt m 9223372036854775808&&Nat.ble (m*j.bytes) 281474976710656) with
   |false=>grind
   |true=>
    simp_all;obtain⟨zs,h2,en⟩:=af en;obtain⟨rfl,rfl⟩:m=n/\zs=cs:=by simpa using bu en
    unfold mN at h2;rw[oP] at h2;by_cases h0:m*j.size=0
    ·rw[ar h0] at h2;cases h2;exact⟨#[],by simp[h0],.nil⟩
    ·rw[ai h0] at h2;obtain⟨z,hz1,h2⟩:=af h2;rw[oP] at h2;by_cases hs:z.cells.size=j.size
     ·rw[ar hs] at h2;cases h2;refine⟨Builtin.zeroCells z.cells m,by simp[h0,uA w HT hj hz1],?_⟩
      ·have hp:0<z.cells.size:=by
        grind
       have:=LU z.cells hp m;unfold Builtin.zeroCells;rw[this];exact FZ (Ba (xi HT hj hz1)) m
     grind
  grind
structure uY(P:Program)(w:World)(ts:Array TypeId)(xs:Array Value)(st xt e:TypeId)(dx:TypeDesc)(inf:TypeInfo)(b:Option Addr)(len c:Nat)(x:Value)(n:Nat):Prop where
 h0:ts[0]? =some st
 h1:ts[1]? =some xt
 x0:xs[0]? =some (.slice b len c)
 x1:xs[1]? =some x
 us:P.underlying st=some (.slice e)
 ux:P.underlying xt=some dx
 ie:P.info? e=some inf
 num:(me dx=false/\(Builtin.lenOf x).run P w=.ok n w)\/(me dx=true/\(∃k,x=.int k (Int.ofNat n))/\n<9223372036854775808/\n*inf.bytes<=281474976710656)
variable{b:Option Addr} {c len:Nat} {dx:TypeDesc} {inf:TypeInfo} {rt st xt:TypeId} {ts:Array TypeId} {vs xs:Array Value}
theorem AR
 (A:uY P w ts xs st xt e dx inf b len c x n) (hle:len+n<=c) (ha:(pB (me dx) inf.size n e x).run P w=.ok vs w) {w':World}
 (hs:(C8 (b.map (·.add (len*inf.size))) vs.toList).run P w=.ok () w'):
 (Builtin.append_ ts rt xs).run P w=.ok (.slice b (len+n) c) w':=by
 obtain⟨h0,h1,x0,x1,us,ux,ie,num⟩:=A;unfold Builtin.append_;have q1:(underlying st).run P w=.ok (.slice e) w:=by simp[underlying,us]
 have q2:(underlying xt).run P w=.ok dx w:=by simp[underlying,ux]
 have q3:(typeInfo e).run P w=.ok inf w:=by simp[typeInfo,ie]
 have q4:(sizeOf e).run P w=.ok inf.size w:=by simp[sizeOf,q3]
 have fin:((match b with|some a=>(storeCells (a.add (len*inf.size)) vs.toList)|none=>pure ()):Sem Unit).run P w=.ok () w':=by cases b<;>exact hs
 rcases num with⟨hz,hn⟩|⟨hz,⟨k,rfl⟩,hlt,hby⟩
 ·simp only[pB,hz,fu,gj] at ha;cases dx<;>first
   |(cases hz;done)
   |(cases b with
    |none=>simp only[fQ] at fin;cases fin;simp only[h0,h1,x0,x1,dO,q1,q4,q2,gA,fQ,mA,gN,hn,ar hle,fu,gj,ha]
    |some a=>simp only[h0,h1,x0,x1,dO,q1,q4,q2,gA,fQ,mA,gN,hn,ar hle,fu,gj,ha,fin])
 ·simp only[pB,hz,cL,mA,gN] at ha;have e1:=IF hlt;have c1:¬(Int.ofNat n<0):=by simp
  have c2:¬(Int.ofNat n*(inf.bytes:Int)>2^48):=by
   have:((n*inf.bytes:Nat):Int)<=281474976710656:=by omega
   simp only[oD,Int.natCast_mul] at this⊢;omega
  have e2:(Int.ofNat n).toNat=n:=rfl;cases dx<;>first
   |(cases hz;done)
   |(cases b with
    |none=>simp only[fQ] at fin;cases fin;simp only[h0,h1,x0,x1,dO,q1,q4,q2,q3,gA,fQ,gj,asInt,asIntOf,e1,ai c1,ai c2,e2,ar hle,cL,mA,gN,ha]
    |some a=>simp only[h0,h1,x0,x1,dO,q1,q4,q2,q3,gA,fQ,gj,asInt,asIntOf,e1,ai c1,ai c2,e2,ar hle,cL,mA,gN,ha,fin])
def jx(w:World):World:={w with drawn:=w.drawn+1}
theorem PS
 (A:uY P w ts xs st xt e dx inf b len c x n) (hgt:c<len+n) (hneed:len+n<9223372036854775808) (hcap:Builtin.nextslicecap (len+n) c*inf.bytes<=281474976710656)
 {old:Array Value} {z:Value} (hold:(Builtin.firstCells inf.size len (.slice b len c)).run P (jx w)=.ok old (jx w)) (ha:(pB (me dx) inf.size n e x).run P (jx w)=.ok vs (jx w)) (hz:inf.zero=some z):
 ∃cap,len+n<=cap/\(Builtin.append_ ts rt xs).run P w=.ok (.slice (some ⟨w.heap.size,0,none⟩) (len+n) cap) {jx w with heap:=w.heap.push (.cells (old++vs++Builtin.zeroCells z.cells (cap -(len+n))) e)}:=by
 obtain⟨h0,h1,x0,x1,us,ux,ie,num⟩:=A;refine⟨Question.cut (.appendCap (len+n) c e) (w.tape w.drawn (.appendCap (len+n) c e)),by simp[Question.cut],?_⟩;generalize hk:Question.cut (.appendCap (len+n) c e) (w.tape w.drawn (.appendCap (len+n) c e))=cap;unfold Builtin.append_;have q1:(underlying st).run P w=.ok (.slice e) w:=by simp[underlying,us]
 have q2:(underlying xt).run P w=.ok dx w:=by simp[underlying,ux]
 have q3:∀w,(typeInfo e).run P w=.ok inf w:=λw=>by simp[typeInfo,ie]
 have q4:(sizeOf e).run P w=.ok inf.size w:=by simp[sizeOf,q3]
 have q5:∀w,(zeroValue e).run P w=.ok z w:=λw=>by simp[zeroValue,q3,hz]
 have q6:(choose (.appendCap (len+n) c e)).run P w=.ok cap (jx w):=by rw[run_choose];simp[Question.forced,hk,jx]
 have g1:¬(len+n<=c):=by omega
 have g2:∀p:Prop,¬(((len+n:Nat):Int)>IntKind.i64.max/\p):=λp=>by have:IntKind.i64.max=9223372036854775807:=rfl;rw[this];omega
 have g3:¬(Builtin.nextslicecap (len+n) c*inf.bytes>2^48):=by omega
 have q7:∀cs,(newRow e cs).run P (jx w)=.ok ⟨w.heap.size,0,none⟩ {jx w with heap:=w.heap.push (.cells cs e)}:=λcs=>by unfold newRow;simp[jx];try rfl
 rcases num with⟨hzz,hn⟩|⟨hzz,⟨k,rfl⟩,hlt,hby⟩
 ·simp only[pB,hzz,fu,gj] at ha;cases dx<;>first
   |(cases hzz;done)
   |(simp only[h0,h1,x0,x1,dO,q1,q4,q2,q3,gA,fQ,mA,gN,hn,ai g1,ai (g2 _),ai g3,q6,run_askRoom,hold,fu,gj,ha,q5,q7])
 ·simp only[pB,hzz,cL,mA,gN] at ha;have e1:=IF hlt;have c1:¬(Int.ofNat n<0):=by simp
  have c2:¬(Int.ofNat n*(inf.bytes:Int)>2^48):=by
   have:((n*inf.bytes:Nat):Int)<=281474976710656:=by omega
   simp only[oD,Int.natCast_mul] at this⊢;omega
  have e2:(Int.ofNat n).toNat=n:=rfl;cases dx<;>first
   |(cases hzz;done)
   |(simp only[h0,h1,x0,x1,dO,q1,q4,q2,q3,gA,fQ,gj,asInt,asIntOf,e1,ai c1,ai c2,e2,ai g1,ai (g2 _),ai g3,q6,run_askRoom,hold,cL,mA,gN,ha,q5,q7])
end
section
variable{h h':Heap} {n n':Nat} {w w':World} {ρ ρ':Ren}
theorem bP.sub{h'':Heap}(M:bP ρ h n w ρ' h' n' w')(s:∀o ob,h''.get o=some ob->h'.get o≠none):bP ρ h n w ρ' h'' n' w' where
 os:=M.os
 tape:=M.tape
 output:=M.output
 size:=M.size
 block:=M.block
 owned b hb ho:=by
  obtain⟨o,ob',L,h1,h2,h3⟩:=ho;cases hg:h'.get o with
  |none=>grind
  |some x=>exact M.owned b hb ⟨o,x,L,hg,h2,h3⟩
 le:=M.le
 cq:=M.cq
 lit:=M.lit
 eU:=M.eU
variable{L':Loc} {nx o:Nat} {ob':eV}
theorem bh.move(H:bh ρ h w)(hn:ρ nx=none){ob:eV}{L:Loc}(ho:h.get o=some ob)(hρ:ρ o=some L)(hb:L'.block=L.block)
 (he:∀b,b≠L.block->w'.heap[b]? =w.heap[b]?) (hO:lh (ρ.with nx L') w' L' ob'):bh (ρ.with nx L') ((h.del o).set nx ob') w' where
 obj p x hp:=by
  rw[Tr.bD] at hp;by_cases e:p=nx
  ·rw[ar e] at hp;subst e;cases hp;exact⟨L',Ren.iO _ _ _,hO⟩
  ·rw[ai e,Tr.kK] at hp;by_cases e2:p=o
   ·grind
   ·rw[ai e2] at hp;obtain⟨M,h1,h2⟩:=H.obj p x hp;exact⟨M,(Ren.sX hn).cq _ _ h1,(h2.mono (Ren.sX hn)).block (he _ λhbb=>e2 (H.inj p o M L x ob hp ho h1 hρ hbb))⟩
 inj p q M M' x y hp hq r1 r2 hbb:=by
  rw[Tr.bD] at hp hq;have key:∀(q:Nat)(y:eV)(M':Loc),q≠nx->(h.del o).get q=some y->ρ.with nx L' q=some M'->L'.block=M'.block->False:=by
   intro q y M' e hq r2 hbb;rw[Tr.kK] at hq;by_cases e2:q=o
   ·grind
   ·rw[ai e2] at hq;rw[Ren.jX e] at r2;exact e2 (H.inj q o M' L y ob hq ho r2 hρ (by grind))
  by_cases e:p=nx
  ·by_cases e':q=nx
   ·grind
   ·rw[ai e'] at hq;rw[e,Ren.iO] at r1
    grind
  ·rw[ai e] at hp;by_cases e':q=nx
   ·rw[e',Ren.iO] at r2
    grind
   ·rw[ai e'] at hq;rw[Tr.kK] at hp hq;by_cases e2:p=o
    ·grind
    ·by_cases e3:q=o
     ·grind
     ·rw[ai e2] at hp;rw[ai e3] at hq;rw[Ren.jX e] at r1;rw[Ren.jX e'] at r2;exact H.inj p q M M' x y hp hq r1 r2 hbb
 lit b i v hv:=by rw[oe (he b (Ne.symm (H.free b i v hv o ob L ho hρ)))];exact H.lit b i v hv
 free b i v hv p x M hp hM:=by
  rw[Tr.bD] at hp;by_cases e:p=nx
  ·rw[e,Ren.iO] at hM;cases hM;rw[hb];exact H.free b i v hv o ob L ho hρ
  ·rw[ai e,Tr.kK] at hp;rw[Ren.jX e] at hM;by_cases e2:p=o
   ·grind
   ·rw[ai e2] at hp;exact H.free b i v hv p x M hp hM
theorem bP.move(_:ρ nx=none){ob:eV}{L:Loc}(ho:h.get o=some ob)(hρ:ρ o=some L)(hb:L'.block=L.block)
 (h1:w'.os=w.os) (h2:w'.tape=w.tape) (h3:w'.output=w.output) (h4:w'.heap.size=w.heap.size) (he:∀b,b≠L.block->w'.heap[b]? =w.heap[b]?):
 bP ρ h nx w (ρ.with nx L') ((h.del o).set nx ob') (nx+1) w' where
 os:=h1
 tape:=h2
 output:=h3
 size:=ta h4.symm
 block b _ hbb:=he b λe=>hbb ⟨o,ob,L,ho,hρ,e.symm⟩
 owned b _ hbb:=by
  obtain⟨p,x,M,a1,a2,a3⟩:=hbb;rw[Tr.bD] at a1;by_cases e:p=nx
  ·rw[e,Ren.iO] at a2;cases a2;exact⟨o,ob,L,ho,hρ,by rw[<-hb];exact a3⟩
  ·rw[ai e,Tr.kK] at a1;by_cases e2:p=o
   ·grind
   ·rw[ai e2] at a1;rw[Ren.jX e] at a2;exact⟨p,x,M,a1,a2,a3⟩
 le:=kc _
 cq p hp:=Ren.jX (by omega)
 lit _ _ _ h:=h
 eU _ _ _ h:=.inl h
theorem Rz(newLen:Nat):∀(r c:Nat),Builtin.growBy newLen r c<=max c (newLen+(newLen+768)/4)
 |0,c=>by simp only[Builtin.growBy];omega
 |r+1,c=>by
  unfold Builtin.growBy;split
  ·omega
  ·have:=Rz newLen r (c+(c+768)/4);omega
variable{c:Nat}
theorem KT{need:Nat}(h:c<need):Builtin.nextslicecap need c<=2*need+768:=by
 unfold Builtin.nextslicecap;split
 ·omega
 ·split
  ·omega
  ·have:=Rz need 4 c;omega
def xK(h:Heap)(nx:Nat)(e:TypeId)(j:gC)(need:Nat)(bound:Nat)(cells:List Value):Option (Value×Heap×Nat):=
 ob j.zero λz=>cond (Nat.blt need 9223372036854775808&&Nat.blt 0 j.size&&Nat.beq z.cells.size j.size&&Nat.ble (bound*j.bytes) 281474976710656&&Nat.beq cells.length (need*j.size))
  (some (.slice (some ⟨nx,0,none⟩) need (bt+j.size),h.set nx (.cells cells e true),nx+1)) none
variable{P:Program} {T:TT} {b:Option Addr} {e rt st xt:TypeId} {inf:TypeInfo} {j:gC} {len nx':Nat} {ts:Array TypeId} {v x:Value} {xs:Array Value}
theorem Kc(HT:eE P T)(H:bh ρ h w)(hn:nx<nx'->ρ nx=none)(hj:T.get e=some j)(hie:P.info? e=some inf)
 {dx:TypeDesc} (A:uY P w ts xs st xt e dx inf b len c x n) (hgt:c<len+n) {bound:Nat} (hbd:Builtin.nextslicecap (len+n) c<=bound)
 {oldc newc:List Value} (hold:∃old,(Builtin.firstCells inf.size len (.slice b len c)).run P (jx w)=.ok old (jx w)/\bk ρ oldc old.toList)
 (hnew:∃vs,(pB (me dx) inf.size n e x).run P (jx w)=.ok vs (jx w)/\bk ρ newc vs.toList) (eg:xK h nx e j (len+n) bound (oldc++newc)=some (v,h',nx')):
 nx'=nx+1/\Good ρ h nx w v h' nx' ((Builtin.append_ ts rt xs).run P w):=by
 obtain⟨z,hz,eg⟩:=af eg;cases hc:(Nat.blt (len+n) 9223372036854775808&&Nat.blt 0 j.size&&Nat.beq z.cells.size j.size&&Nat.ble (bound*j.bytes) 281474976710656&&Nat.beq (oldc++newc).length ((len+n)*j.size)) with
 |false=>rw[hc] at eg;cases eg
 |true=>
  rw[hc] at eg;obtain⟨rfl,rfl,rfl⟩:=eg;have hn:=hn (pj _);simp only[bg] at hc;obtain⟨⟨⟨⟨c1,c2⟩,c3⟩,c4⟩,c5⟩:=hc;have c4:=cI c4;obtain⟨inf',i1,i2,i3,i4⟩:=HT.info e j hj;obtain rfl:=bu (i1.symm.trans hie);refine⟨rfl,?_⟩;obtain⟨old,o1,o2⟩:=hold;obtain⟨vs,v1,v2⟩:=hnew;have hb2:Builtin.nextslicecap (len+n) c*inf'.bytes<=281474976710656:=by rw[i3];exact eP (aiT _ hbd) c4
  obtain⟨cap,k1,k2⟩:=PS A hgt (cT c1) hb2 o1 v1 (i4 z hz).1;have r:=o2.append v2;have hl:=r.length;have hzc:(Builtin.zeroCells z.cells (cap -(len+n))).size=(cap -(len+n))*z.cells.size:=by unfold Builtin.zeroCells;simp
  have hsize:(old++vs++Builtin.zeroCells z.cells (cap -(len+n))).size=cap*j.size:=by
   simp_all;have:cap*j.size=(len+n)*j.size+(cap -(len+n))*j.size:=by rw[<-kb];congr 1;omega
   omega
  refine⟨ρ.with nx ⟨w.heap.size,0,(old++vs++Builtin.zeroCells z.cells (cap -(len+n))).size⟩,_,_,k2,?_,?_,?_⟩
  ·refine .gz (Ren.iO ρ nx _) (cT c2) ?_ k1;rw[hsize];simp
  ·refine H.fresh hn rfl (λb hb=>?_) ⟨old++vs++Builtin.zeroCells z.cells (cap -(len+n)),(0,0),?_,KU _,?_⟩
   ·show(w.heap.push _)[b]? =_;rw[Array.getElem?_push,ai (by omega)]
   ·show(w.heap.push _)[w.heap.size]? =_;rw[Array.getElem?_push,ar rfl]
   ·refine mF.mono (Ren.sX hn) ⟨rfl,?_,λh=>(by cases h),λi u hu=>?_⟩
    ·simp;simp_all;omega
    ·obtain⟨u',a1,a2⟩:=r.get hu;refine⟨u',?_,a2⟩;rw[fg,<-kB,sY,sY];have hi:i<(old.toList++vs.toList).length:=by
      rcases dg i (old.toList++vs.toList).length with h|h<;>grind
     rw[uU hi];exact a1
  ·exact bP.fresh rfl rfl rfl rfl (by simp) (λb hb=>by rw[Array.getElem?_push,ai (by omega)])
def nN(T:TT)(h:Heap)(nx:Nat)(ts:List TypeId)(s x:Value):Option (Value×Heap×Nat):=
 match ts with
 |st::xt::_=>ob (T.get st) λi=>ob (T.get xt) λix=>match i.desc with
  | .slice e=>ob (T.get e) λj=>ob (qD h j ix x) λ(n,new)=>
   match s with
   | .slice none 0 0=>cond (Nat.beq n 0) (some (s,h,nx)) (xK h nx e j (0+n) n ([]++new))
   | .slice (some ⟨o,off,none⟩) len cap=>cond (Nat.beq n 0) (some (s,h,nx)) (cond (Nat.beq cap bt) none (ob (h.get o) λob'=>match ob' with
    | .cells c el opn=>
     cond (Nat.ble (off+len*j.size+new.length) c.length&&Nat.beq new.length (n*j.size)&&bB new&&(cond (Nat.blt cap bt) (Nat.ble (len+n) cap) (Nat.beq cap (bt+j.size))))
      (some (.slice (some ⟨o,off,none⟩) (len+n) cap,h.set o (.cells (aW (off+len*j.size) new c) el opn),nx))
      (cond (Nat.blt cap bt)
       (cond (Nat.blt cap (len+n)&&Nat.ble (off+len*j.size) c.length) (xK h nx e j (len+n) (Builtin.nextslicecap (len+n) cap) ((c.drop off).take (len*j.size)++new)) none)
       (cond (Nat.beq cap (bt+j.size)&&opn&&Nat.beq el e&&Nat.beq (off+len*j.size) c.length&&bB new&&Nat.beq new.length (n*j.size))
        (xK (h.del o) nx e j (len+n) (2*(len+n)+768) (c.drop off++new)) none))
    |_=>none))
   |_=>none
  |_=>none
 |_=>none
theorem bP.ZO{hb:Heap}(M:bP ρ h n w ρ' h' n' w')(s:∀o ob,h.get o=some ob->hb.get o=some ob):bP ρ hb n w ρ' h' n' w' where
 os:=M.os
 tape:=M.tape
 output:=M.output
 size:=M.size
 block b hb' ho:=M.block b hb' λ⟨o,x,L,h1,h2,h3⟩=>ho ⟨o,x,L,s _ _ h1,h2,h3⟩
 owned b hb' ho:=by obtain⟨o,x,L,h1,h2,h3⟩:=M.owned b hb' ho;exact⟨o,x,L,s _ _ h1,h2,h3⟩
 le:=M.le
 cq:=M.cq
 lit:=M.lit
 eU b i v hv:=by
  rcases M.eU b i v hv with h|h|⟨o,x,L,h1,h2,h3⟩
  ·grind
  ·grind
  ·exact .inr (.inr ⟨o,x,L,s _ _ h1,h2,h3⟩)
variable{ix:gC} {new:List Value} {x':Value}
theorem XV(HT:eE P T){i:gC}(ht0:ts[0]? =some st)(ht1:ts[1]? =some xt)(hi:T.get st=some i)(hix:T.get xt=some ix)(hd:i.desc=.slice e)(hj:T.get e=some j)
 (hie:P.info? e=some inf) (hx0:xs[0]? =some (.slice b len c)) (hx1:xs[1]? =some x') (hx:aF ρ x x') (en:qD h j ix x=some (n,new)):uY P w ts xs st xt e ix.desc inf b len c x' n:=by
 obtain⟨inf',i1,i2,i3,i4⟩:=HT.info e j hj;cases i1.symm.trans hie;refine⟨ht0,ht1,hx0,hx1,by rw[HT.under st i hi,hd],HT.under xt ix hix,hie,?_⟩;unfold qD at en;cases hz:me ix.desc with
 |false=>
  simp[hz] at en;obtain⟨n',h1,en⟩:=af en;obtain⟨cs',h2,en⟩:=af en;obtain⟨rfl,rfl⟩:n'=n/\cs'=new:=by simpa using bu en
  exact .inl ⟨rfl,Sy hx h1 w⟩
 |true=>
  simp[hz] at en;split at en
  ·rename_i k m;cases hx;cases hc:(Nat.blt m 9223372036854775808&&Nat.ble (m*j.bytes) 281474976710656) with
   |false=>simp_all
   |true=>simp[hc] at en;obtain⟨zs,h2,en⟩:=af en;simp_all
  ·cases en
theorem XO(en:qD h j ix x=some (0,new)):new=[]:=by
 unfold qD at en;cases hz:me ix.desc with
 |false=>
  simp_all;obtain⟨n',h1,en⟩:=af en;obtain⟨cs',h2,en⟩:=af en;obtain⟨rfl,rfl⟩:n'=0/\cs'=new:=by simpa using bu en
  unfold kg at h2;split at h2
  ·grind
  ·simp_all
  ·grind
  ·grind
  grind
 |true=>
  simp_all;split at en
  ·rename_i k m;cases hc:(Nat.blt m 9223372036854775808&&Nat.ble (m*j.bytes) 281474976710656) with
   |false=>grind
   |true=>
    simp_all;obtain⟨zs,h2,en⟩:=af en;obtain⟨rfl,rfl⟩:m=0/\zs=new:=by simpa using bu en
    unfold mN at h2;simp_all
  grind
theorem XZ(HT:eE P T)(H:bh ρ h w)(hn:nx<nx'->ρ nx=none){s s':Value}(hx0:xs[0]? =some s')(hx1:xs[1]? =some x')
 (hs:aF ρ s s') (hx:aF ρ x x') (e:nN T h nx ts.toList s x=some (v,h',nx')):Good ρ h nx w v h' nx' ((Builtin.append_ ts rt xs).run P w):=by
 unfold nN at e;split at e
 ·rename_i st xt trest htl;have ht0:ts[0]? =some st:=by rw[<-kB,htl];rfl
  have ht1:ts[1]? =some xt:=by rw[<-kB,htl];rfl
  replace e:=af e;obtain⟨i,hi,e⟩:=e;replace e:=af e;obtain⟨ix,hix,e⟩:=e;split at e
  ·rename_i el hd;replace e:=af e;obtain⟨j,hj,e⟩:=e;replace e:=af e;obtain⟨⟨n,new⟩,hnew,e⟩:=e;simp only at e;obtain⟨inf,i1,i2,i3,i4⟩:=HT.info el j hj;have addr:=λ(w:World)(Hw:bh ρ h w)=>XP (P:=P) HT Hw hj hx hnew;have args:=λ(b:Option Addr)(len c:Nat)(hxx:xs[0]? =some (.slice b len c))=>XV (w:=w) HT ht0 ht1 hi hix hd hj i1 hxx hx1 hx hnew;have nothing:∀(b:Option Addr)(len c:Nat),s'=.slice b len c->len<=c->n=0->(Builtin.append_ ts rt xs).run P w=.ok (.slice b len c) w:=by
    intro b len c hss hle h0;subst h0;obtain rfl:=XO hnew;obtain⟨vs,a1,a2⟩:=addr w H;have hv:vs.toList=[]:=qu.1 (by have:=a2.length;simpa using this.symm);rw[<-i2] at a1;have:=AR (rt:=rt) (args b len c (by rw[hx0,hss])) (by omega) a1 (w':=w) (by unfold C8;cases b<;>simp[hv,storeCells]);simpa using this
   split at e
   ·cases hs;cases h0:Nat.beq n 0 with
    |true=>simp only[h0,ay,kF,Prod.mk.injEq] at e;obtain⟨rfl,rfl,rfl⟩:=e;exact⟨ρ,_,w,nothing none 0 0 rfl (aB _) (bJ h0),.kS,H,bP.refl _ _ _ _⟩
    |false=>
     simp only[h0,aE] at e;have hpos:0<n:=by rw[jE] at h0;simp at h0;omega
     have hd':bh ρ h (jx w):=H.same λ_=>rfl;obtain⟨vs,a1,a2⟩:=addr _ hd';rw[<-i2] at a1;refine(Kc HT H hn hj i1 (args none 0 0 hx0) (by omega) (bound:=n) ?_ (oldc:=[]) (newc:=new) ⟨#[],rfl,.nil⟩ ⟨vs,a1,a2⟩ e).2;unfold Builtin.nextslicecap;rw[ar (by omega)];omega
   ·rename_i o off len cap;cases h0:Nat.beq n 0 with
    |true=>
     simp only[h0,ay,kF,Prod.mk.injEq] at e;obtain⟨rfl,rfl,rfl⟩:=e;have hz:=bJ h0;have hs':=hs;cases hs with
     |gG hL hc hl=>exact⟨ρ,_,w,nothing _ _ _ rfl hl hz,hs',H,bP.refl _ _ _ _⟩
     |gz hL hE hc hl=>exact⟨ρ,_,w,nothing _ _ _ rfl hl hz,hs',H,bP.refl _ _ _ _⟩
     |jb=>exact⟨ρ,_,w,nothing _ _ _ rfl (gZ _) hz,hs',H,bP.refl _ _ _ _⟩
    |false=>
     simp only[h0,aE] at e;cases hcap:Nat.beq cap bt with
     |true=>simp[hcap] at e
     |false=>
      simp only[hcap,aE] at e;replace e:=af e;obtain⟨obj,ho,e⟩:=e;split at e
      ·rename_i c el' opn;have hd':bh ρ h (jx w):=H.same λ_=>rfl;have inplace:∀(L:Loc)(c':Nat),ρ o=some L->s'=.slice (some ⟨L.block,L.base+off,none⟩) len c'->len+n<=c'->off+len*j.size+new.length<=c.length->bB new=true->
        ∃w',(Builtin.append_ ts rt xs).run P w=.ok (.slice (some ⟨L.block,L.base+off,none⟩) (len+n) c') w'/\bh ρ (h.set o (.cells (aW (off+len*j.size) new c) el' opn)) w'/\bP ρ h nx w ρ (h.set o (.cells (aW (off+len*j.size) new c) el' opn)) nx w':=by
        intro L c' hL hss hle hfit hone;obtain⟨vs,a1,a2⟩:=addr w H;rw[<-i2] at a1;obtain⟨w',b1,b2,b3⟩:=H.store P ho hL a2 (yV _ hone a2) (off:=off+len*j.size) hfit nx;refine⟨w',?_,b2,b3⟩;refine AR (rt:=rt) (args _ len c' (by rw[hx0,hss])) hle a1 ?_;show(storeCells ((⟨L.block,L.base+off,none⟩:Addr).add (len*inf.size)) vs.toList).run P w=_;rw[tF,i2,lO];exact b1
       cases hin:(Nat.ble (off+len*j.size+new.length) c.length&&Nat.beq new.length (n*j.size)&&bB new&&(cond (Nat.blt cap bt) (Nat.ble (len+n) cap) (Nat.beq cap (bt+j.size)))) with
       |true=>
        rw[hin] at e;obtain⟨rfl,rfl,rfl⟩:=e;simp only[bg] at hin;obtain⟨⟨⟨g1,g2⟩,g3⟩,g4⟩:=hin;have g1:=cI g1;have g2:=bJ g2;cases hs with
        |gG hL hc hl=>
         have:Nat.blt cap bt=true:=by unfold Nat.blt;exact gi hc
         simp only[this,ay] at g4;have g4:=cI g4;obtain⟨w',b1,b2,b3⟩:=inplace _ _ hL rfl g4 g1 g3;exact⟨ρ,_,w',b1,.gG hL hc g4,b2,b3⟩
        |@gz _ _ _ E c' L hL hE hc hl=>
         have:Nat.blt (bt+E) bt=false:=by
          cases hh:Nat.blt (bt+E) bt with
          |false=>rfl
          |true=>have:=cT hh;omega
         simp only[this,aE] at g4;have g4:=bJ g4;have hEs:j.size=E:=by omega
         obtain⟨M,m1,cs,fz,m2,m3,m4⟩:=H.obj o _ ho;obtain rfl:=bu (m1.symm.trans hL);have k1:=m4.1;have k2:=m4.2.1;have hle:len+n<=c':=by
          have:(len+n)*E<=c'*E:=by rw[kb,<-hEs];rw[<-hEs] at hc;omega
          exact Nat.le_of_mul_le_mul_right this hE
         obtain⟨w',b1,b2,b3⟩:=inplace _ _ hL rfl hle g1 g3;exact⟨ρ,_,w',b1,.gz hL hE hc hle,b2,b3⟩
        |jb=>simp at hcap
       |false=>
        rw[hin] at e;simp only[aE] at e;cases hlt:Nat.blt cap bt with
        |true=>
         simp only[hlt,ay] at e;cases hg:(Nat.blt cap (len+n)&&Nat.ble (off+len*j.size) c.length) with
         |false=>rw[hg] at e;cases e
         |true=>
          rw[hg] at e;simp only[ay] at e;simp only[bg] at hg;have g1:=cT hg.1;have g2:=cI hg.2;obtain⟨vs,a1,a2⟩:=addr _ hd';rw[<-i2] at a1;cases hs with
          |gG hL hc hl=>rename_i L;obtain⟨old,o1,o2⟩:=hd'.load P ho hL (off:=off) (n:=len*j.size) g2;refine(Kc HT H hn hj i1 (args _ len cap hx0) g1 (aB _) ⟨old,?_,o2⟩ ⟨vs,a1,a2⟩ e).2;rw[i2];exact o1
          |gz hL hE hc hl=>have:=cT hlt;omega
          |jb=>simp at hcap
        |false=>
         simp only[hlt,aE] at e;cases hg:(Nat.beq cap (bt+j.size)&&opn&&Nat.beq el' el&&Nat.beq (off+len*j.size) c.length&&bB new&&Nat.beq new.length (n*j.size)) with
         |false=>rw[hg] at e;cases e
         |true=>
          rw[hg] at e;simp only[ay] at e;simp only[bg] at hg;obtain⟨⟨⟨⟨⟨g1,g2⟩,g3⟩,g4⟩,g5⟩,g6⟩:=hg;have g1:=bJ g1;obtain rfl:=bJ g3;have g4:=bJ g4;have g6:=bJ g6;have hcl:=E6 hlt;cases hs with
          |gG hL hc hl=>omega
          |jb=>simp at hcap
          |@gz _ _ _ E c' L hL hE hc hl=>
           have hEs:j.size=E:=by omega
           by_cases hfit:len+n<=c'
           ·
            obtain⟨M,m1,cs,fz,m2,m3,m4⟩:=H.obj o _ ho;obtain rfl:=bu (m1.symm.trans hL);obtain⟨vs,a1,a2⟩:=addr w H;rw[<-i2] at a1;have hvl:=a2.length;have k1:=m4.1;have k2:=m4.2.1;have hmul:len*j.size+n*j.size<=c'*j.size:=by rw[<-kb];exact aiT _ hfit
            have hsum:M.base+off+len*j.size+vs.toList.length<=cs.size:=by rw[<-hEs] at hc;omega
            obtain⟨w',b1,b2,b3,b4,b5,b6,b7⟩:=zj P (k:=M.base+off+len*j.size) vs.toList 0 w cs m2 m3 (by omega) (yV _ g5 a2);replace e:=af e;obtain⟨z,hz,e⟩:=e;cases hc2:(Nat.blt (len+n) 9223372036854775808&&Nat.blt 0 j.size&&Nat.beq z.cells.size j.size&&Nat.ble ((2*(len+n)+768)*j.bytes) 281474976710656&&Nat.beq (c.drop off++new).length ((len+n)*j.size)) with
            |false=>rw[hc2] at e;cases e
            |true=>
             rw[hc2] at e;obtain⟨rfl,rfl,rfl⟩:=e;have hn:=hn (pj _);refine⟨ρ.with nx ⟨M.block,M.base+off,M.stop⟩,.slice (some ⟨M.block,M.base+off,none⟩) (len+n) c',w',?_,?_,?_,?_⟩
             ·refine AR (rt:=rt) (args _ len c' hx0) hfit a1 ?_;show(storeCells ((⟨M.block,M.base+off,none⟩:Addr).add (len*inf.size)) vs.toList).run P w=_;rw[tF,i2];exact b1
             ·refine .gz (off:=0) (L:=⟨M.block,M.base+off,M.stop⟩) (Ren.iO ρ nx _) (by omega) ?_ hfit;rw[hEs];exact hc
             ·refine H.move hn ho m1 rfl b3 ⟨_,fz,b2,?_,?_⟩
              ·show vc fz (Lt.aW _ _ _).length;rw[kq];exact m3
              ·refine mF.mono (Ren.sX hn) ⟨?_,?_,λh=>(by cases h),λq u hu=>?_⟩
               ·show M.stop=(Lt.aW _ _ _).length;rw[kq];exact k1
               ·show M.base+off+(c.drop off++new).length<=(Lt.aW _ _ _).length;rw[kq];simp only[aR,dZ];have:cs.toList.length=cs.size:=rfl;omega
               ·show∃v',((⟨Lt.aW (M.base+off+len*j.size+0) vs.toList cs.toList⟩:Array Value))[M.base+off+q]? =some v'/\_;rw[List.getElem?_toArray,Nat.add_zero];by_cases hq:q<(c.drop off).length
                ·rw[uU hq,List.getElem?_drop] at hu;rw[dZ] at hq;rw[B2 _ _ _ _ (by omega)];obtain⟨v',d1,d2⟩:=m4.2.2.2 (off+q) u hu;exact⟨v',by rw[lO];simpa using d1,d2⟩
                ·rw[uV (by omega)] at hu;rw[dZ] at hq hu;obtain⟨v',d1,d2⟩:=a2.get hu;have hql:q -(c.length -off)<vs.toList.length:=by
                  rcases dg (q -(c.length -off)) vs.toList.length with h|h<;>grind
                 have hsplit:M.base+off+q=M.base+off+len*j.size+(q -(c.length -off)):=by omega
                 rw[hsplit,FM _ _ _ _ (by have:cs.toList.length=cs.size:=rfl;omega) hql];exact⟨v',d1,d2⟩
             ·exact bP.move hn ho m1 rfl b5 b6 b7 b4 b3
           ·
            obtain⟨vs,a1,a2⟩:=addr _ hd';rw[<-i2] at a1;obtain⟨old,o1,o2⟩:=hd'.load P ho hL (off:=off) (n:=len*j.size) (by omega);rw[(gh (by rw[dZ];omega))] at o2;have sub:∀p x,(h.del o).get p=some x->h.get p=some x:=λp x hp=>by rw[Tr.kK] at hp;by_cases e2:p=o<;>grind
            obtain⟨hnx,ρ',v',w',r1,r2,r3,r4⟩:=Kc HT (H.sub sub) hn hj i1 (args _ len c' hx0) (by omega) (KT (by omega)) ⟨old,(by rw[i2];exact o1),o2⟩ ⟨vs,a1,a2⟩ e;exact⟨ρ',v',w',r1,r2,r3,r4.ZO sub⟩
      ·cases e
   ·cases e
  ·cases e
 ·cases e
end
section
def qB(T:TT)(kt:TypeId)(k:Value):List (Value×Value)->Nat->Option (Option (Nat×Value))
 |[],_=>some none
 |(k0,v0)::es,i=>ob (iv T kt k k0) λb=>cond b (some (some (i,v0))) (qB T kt k es (i+1))
variable{P:Program} {T:TT} {k k':Value} {kt:TypeId} {ρ:Ren}
theorem Rh(HT:eE P T)(HF:∀t i,T.get t=some i->i.flat=true->oG P i.size i.desc)(hk:aF ρ k k')(w:World):
 ∀(es:List (Value×Value))(es':List MapEntry),lQ ρ es es'->∀(i:Nat)(r:Option (Nat×Value)),qB T kt k es i=some r->
  ∃r':Option (Nat×Value),(Instr.findAsking kt k' es' i).run P w=.ok r' w/\(r=none->r'=none)/\(∀n v,r=some (n,v)->∃v',r'=some (n,v')/\aF ρ v v')
 |[],_,h,i,r,e=>by cases h;cases e;exact⟨none,rfl,λ_=>rfl,λ_ _ h=>by cases h⟩
 |(k0,v0)::es,_,h,i,r,e=>by
  cases h with
  |cons h1 h2 t=>
   rename_i en es';obtain⟨b,hb,e⟩:=af e;have q:=En HT HF hk h1 hb w;unfold Instr.findAsking;cases b with
   |true=>cases e;simp_all
   |false=>obtain⟨r',a,b,c⟩:=Rh HT HF hk w es es' t (i+1) r e;simp_all
variable{es:List (Value×Value)} {fs:Array Field}
theorem Ri(HT:eE P T)(HF:∀t i,T.get t=some i->i.flat=true->oG P i.size i.desc){ki:gC}(hki:T.get kt=some ki)(hd:ki.desc=.struct fs)(hk:aF ρ k k')(w:World)
 {es':List MapEntry} (he:lQ ρ es es') {r:Option (Nat×Value)} (e:qB T kt k es 0=some r):
 ∃r':Option (Nat×Value),(Instr.findKey kt k' es').run P w=.ok r' w/\(r=none->r'=none)/\(∀n v,r=some (n,v)->∃v',r'=some (n,v')/\aF ρ v v'):=by
 simp[Instr.findKey,ga w HT hki,hd];cases he with
 |nil=>cases e;exact⟨none,rfl,λ_=>rfl,λ_ _ h=>by cases h⟩
 |cons h1 h2 t=>exact Rh HT HF hk w _ _ (.cons h1 h2 t) 0 r e
variable{t:TypeId}
theorem Yx{k:IntKind}(h:P.underlying t=some (.int k))(em:Bool)(n:Nat)(v:Value)(w:World):(Instr.checkKey em (n+1) t v).run P w=.ok () w:=by simp[Instr.checkKey,underlying,h]
variable{cs:Array Value}
theorem Qp{em:Bool}{n:Nat}(w:World):∀(fs:List Field)(m:Nat),
 (∀(i:Nat)(f:Field),fs[i]? =some f->f.name≠ "_"/\f.offset=m+i/\(∃k,P.underlying f.type=some (.int k))/\∃inf,P.info? f.type=some inf/\inf.size=1)->m+fs.length=cs.toList.length->
 (forIn fs PUnit.unit (λf (_:PUnit)=>if f.name≠ "_" then(do let x<-part f.type cs f.offset;Instr.checkKey em (n+1) f.type x;pure (ForInStep.yield PUnit.unit):Sem (ForInStep PUnit)) else pure (ForInStep.yield PUnit.unit))).run P w=.ok PUnit.unit w
 |[],m,_,_=>by simp
 |f::fs,m,hf,hl=>by obtain⟨h1,h2,⟨k,h3⟩,_⟩:=hf 0 f rfl;simp only[cQ] at hl;rw[List.forIn_cons];simp only[(show f.offset=m from by omega),ne_eq,h1,not_false_eq_true,gj,dO,BU h3 (dD (show m<cs.toList.length from by omega)),Yx h3];exact Qp w fs (m+1) (λi g hg=>by obtain⟨a1,a2,a3,a4⟩:=hf (i+1) g (by simpa using hg);exact⟨a1,by omega,a3,a4⟩) (by omega)
theorem Qq{m:Nat}(hu:P.underlying t=some (.struct fs))(hF:oG P m (.struct fs))(hc:cs.toList.length=m)(em:Bool)(n:Nat)(w:World):
 (Instr.checkKey em (n+2) t (.agg cs)).run P w=.ok () w:=by
 obtain⟨h1,h2⟩:=hF;unfold Instr.checkKey;simp only[dO,underlying,run_program,hu,gA,fQ];rw[<-Array.forIn_toList];have:=Qp (em:=em) (n:=n) w fs.toList 0 (λi f hf=>by obtain⟨a1,a2,a3,a4⟩:=h2 i f (by grind);exact⟨a1,by omega,a3,a4⟩) (by rw[hc];simpa using h1);simp_all
def sW:List Value->Option (List (Value×Value))
 |[]=>some []
 | .func (.func 0) ⟨[k]⟩ ⟨[v]⟩::r=>ob (sW r) λes=>some ((k,v)::es)
 |_::_=>none
theorem Xq:∀{cs:List Value}{es:List (Value×Value)}{es':List MapEntry},sW cs=some es->aP ρ.lit cs (es'.map λe=>.func (.func 0) #[e.key] #[e.val])->lQ ρ es es'
 |[],es,es',e,r=>by
  cases e;cases es' with
  |nil=>exact .nil
  |cons _ _=>cases r
 |c::cs,es,es',e,r=>by
  cases es' with
  |nil=>cases r
  |cons en es'=>
   unfold sW at e;split at e
   ·grind
   ·rename_i k v r' h;cases h;obtain⟨es0,h1,e⟩:=af e;cases e;cases r with
    |cons a b=>
     cases a with
     |fn a1 a2=>
      cases a1 with
      |cons x1 x2=>
       cases a2 with
       |cons y1 y2=>exact .cons x1.to y1.to (Xq h1 b)
   grind
def DS(h:Heap):Value->Option (List (Value×Value))
 | .map (some o)=>ob (h.get o) λob'=>match ob' with
  | .map es=>some es
  |_=>none
 | .func (.method _) cs _=>sW cs.toList
 |_=>none
variable{h:Heap} {w:World} {x x':Value}
theorem XN(H:bh ρ h w)(hx:aF ρ x x')(e:DS h x=some es):
 ∃b es' clock,x'=.map (some b)/\w.heap[b]? =some (.map es' clock)/\lQ ρ es es'.toList:=by
 unfold DS at e;split at e
 ·rename_i o;obtain⟨obj,ho,e⟩:=af e;split at e
  ·cases e;cases hx with
   |map hL=>obtain⟨M,m1,es',clock,m2,m3⟩:=H.obj o _ ho;simp_all
  grind
 ·cases hx with
  |func a _ _=>exact a.elim
  |gy hl=>
   cases hl with
   |gy h1 hm=>obtain⟨es',c,q1,q2⟩:=aaW rfl λi=>H.lit _ _ _ (hm i);unfold KJ at q2;simp at q2;rw[q2] at h1;exact⟨_,es',c,rfl,q1,Xq e h1⟩
 grind
def xL(T:TT)(h:Heap)(t:TypeId)(x k:Value)(ok:Bool):Option Value:=
 ob (T.get t) λi=>match i.desc with
  | .map kt et=>ob (T.get kt) λki=>ob (T.get et) λei=>ob ei.zero λz=>match ki.desc,k with
   | .struct _,.agg cs=>cond (ki.flat&&Nat.beq cs.size ki.size&&jO cs.toList) (ob (DS h x) λes=>ob (qB T kt k es 0) λr=>match r with
    |none=>some (cond ok (.tuple ⟨[z,.bool false]⟩) z)
    |some (_,v)=>some (cond ok (.tuple ⟨[v,.bool true]⟩) v)) none
   |_,_=>none
  |_=>none
variable{v:Value}
theorem aa0(HT:eE P T)(HF:∀t i,T.get t=some i->i.flat=true->oG P i.size i.desc)(H:bh ρ h w)(hx:aF ρ x x')(hk:aF ρ k k'){ok:Bool}(e:xL T h t x k ok=some v):
 ∃v',(Instr.lookup t x' k' ok).run P w=.ok v' w/\aF ρ v v':=by
 replace e:=af e;obtain⟨i,hi,e⟩:=e;split at e
 ·rename_i kt et hd;replace e:=af e;obtain⟨ki,hki,e⟩:=e;replace e:=af e;obtain⟨ei,hei,e⟩:=e;replace e:=af e;obtain⟨z,hz,e⟩:=e;split at e
  ·rename_i fs cs hkd;have hk0:=hk;cases hk with
   |agg rk=>
    rename_i cs';cases hc:(ki.flat&&Nat.beq cs.size ki.size&&jO cs.toList) with
    |false=>rw[hc] at e;cases e
    |true=>
     rw[hc] at e;simp only[bg] at hc;obtain⟨⟨c1,c2⟩,c3⟩:=hc;obtain⟨es,hes,e⟩:=af e;obtain⟨mb,es',clock,rfl,m2,m3⟩:=XN H hx hes;obtain⟨r,hr,e⟩:=af e;have hg:(getObj mb).run P w=.ok (.map es' clock) w:=by simp only[getObj,Sem.run,m2]
     have hF:=HF kt ki hki c1;rw[hkd] at hF;have hu:=HT.under kt ki hki;rw[hkd] at hu;have hck:∀em,(Instr.checkKey em 10000 kt (.agg cs')).run P w=.ok () w:=λem=>
      Qq hu hF (by rw[<-rk.length];exact(bJ c2)) em 9998 w
     obtain⟨r',f1,f2,f3⟩:=Ri HT HF hki hkd hk0 w m3 hr;simp[Instr.lookup,ga w HT hi,hd,hg,hck,f1];cases r with
     |none=>
      obtain rfl:=f2 rfl;cases e;refine⟨if ok then .tuple #[z,.bool false] else z,by simp[uA w HT hei hz],?_⟩
      ·have hzr:=D6 (xi HT hei hz) (ρ:=ρ);cases ok with
       |true=>exact .tuple (.cons hzr (.cons (.bool _) .nil))
       |false=>exact hzr
     |some p=>
      obtain⟨n,v0⟩:=p;obtain⟨v',rfl,hv⟩:=f3 n v0 rfl;cases e;refine⟨if ok then .tuple #[v',.bool true] else v',by simp,?_⟩
      ·cases ok with
       |true=>exact .tuple (.cons hv (.cons (.bool _) .nil))
       |false=>exact hv
  ·cases e
 ·cases e
theorem lQ.snoc{en:MapEntry}(hk:aF ρ k en.key)(hv:aF ρ v en.val):∀{xs:List (Value×Value)}{es:List MapEntry},lQ ρ xs es->lQ ρ (xs++[(k,v)]) (es++[en])
 |_,_,.nil=>.cons hk hv .nil
 |_,_,.cons a b t=>.cons a b (t.snoc hk hv)
def PJ(T:TT)(h:Heap)(t:TypeId)(x k v:Value):Option Heap:=
 ob (T.get t) λi=>match i.desc with
  | .map kt _=>ob (T.get kt) λki=>match ki.desc,x,k with
   | .struct _,.map (some o),.agg cs=>cond (ki.flat&&Nat.beq cs.size ki.size&&jO cs.toList) (ob (h.get o) λob'=>match ob' with
    | .map es=>ob (qB T kt k es 0) λr=>match r with
     |none=>some (h.set o (.map (es++[(k,v)])))
     |some _=>none
    |_=>none) none
   |_,_,_=>none
  |_=>none
theorem aip(HT:eE P T)(HF:∀t i,T.get t=some i->i.flat=true->oG P i.size i.desc){h':Heap}(H:bh ρ h w)(nx:Nat){v':Value}(hx:aF ρ x x')(hk:aF ρ k k')(hv:aF ρ v v')(e:PJ T h t x k v=some h'):
 IM ρ h nx w h' nx ((Instr.mapUpdate t x' k' v').run P w):=by
 replace e:=af e;obtain⟨i,hi,e⟩:=e;split at e
 ·rename_i kt et hd;replace e:=af e;obtain⟨ki,hki,e⟩:=e;split at e
  ·rename_i fs o cs hkd;cases hx with
   |map hL=>
    have hk0:=hk;cases hk with
    |agg rk=>
     rename_i cs';cases hc:(ki.flat&&Nat.beq cs.size ki.size&&jO cs.toList) with
     |false=>rw[hc] at e;cases e
     |true=>
      rw[hc] at e;simp only[bg] at hc;obtain⟨⟨c1,c2⟩,c3⟩:=hc;obtain⟨obj,ho,e⟩:=af e;split at e
      ·rename_i es;obtain⟨r,hr,e⟩:=af e;cases r with
       |some p=>cases e
       |none=>
        cases e;obtain⟨M,m1,es',clock,m2,m3⟩:=H.obj o _ ho;obtain rfl:=bu (m1.symm.trans hL);have hg:(getObj M.block).run P w=.ok (.map es' clock) w:=by simp only[getObj,Sem.run,m2]
        have hF:=HF kt ki hki c1;rw[hkd] at hF;have hu:=HT.under kt ki hki;rw[hkd] at hu;have hck:∀em,(Instr.checkKey em 10000 kt (.agg cs')).run P w=.ok () w:=λem=>
         Qq hu hF (by rw[<-rk.length];exact(bJ c2)) em 9998 w
        obtain⟨r',f1,f2,f3⟩:=Ri HT HF hki hkd hk0 w m3 hr;obtain rfl:=f2 rfl
        let o':Obj:=.map (es'.push {key:=.agg cs',val:=v',born:=clock}) (clock+1)
        have hs:(setObj M.block o').run P w=.ok () {w with heap:=w.heap.setIfInBounds M.block o'}:=by simp only[setObj,Sem.run,m2]
        have g1:({w with heap:=w.heap.setIfInBounds M.block o'}:World).heap[M.block]? =some o':=by rw[Array.getElem?_setIfInBounds_self_of_lt (lh.lt (ob:=.map es) ⟨es',clock,m2,m3⟩)]
        have g2:∀b,b≠M.block->({w with heap:=w.heap.setIfInBounds M.block o'}:World).heap[b]? =w.heap[b]? :=λb hb=>by rw[Array.getElem?_setIfInBounds_ne (Ne.symm hb)]
        refine⟨ρ,{w with heap:=w.heap.setIfInBounds M.block o'},?_,?_,bP.put ho m1 rfl rfl rfl (by simp) g2⟩
        ·unfold Instr.mapUpdate;simp[ga w HT hi,hd,hg,hck,f1];exact hs
        ·refine H.put ho m1 g2 ⟨_,_,g1,?_⟩;rw[Array.toList_push];exact m3.snoc hk0 hv
      ·cases e
  ·cases e
 ·cases e
end
section
abbrev FT:=Tr Func
def Po(P:Program)(F:FT):Prop:=∀f fn,F.get f=some fn->P.funcs[f]? =some fn/\(fn.name== "runtime.NumGoroutine")=false/\fn.body.isSome=true
structure cJ where
 T:TT
 F:FT
structure ea(P:Program)(X:cJ):Prop where
 T:eE P X.T
 flat:∀t i,X.T.get t=some i->i.flat=true->oG P i.size i.desc
 F:Po P X.F
inductive kG where
 |val (v:Value) (h:Heap) (nx:Nat)
 |skip (h:Heap) (nx:Nat)
 |enter (f:FuncId) (args:List Value)
 |round (l:Nat) (args:List Value)
 |tP (d:Deferred)
 |uy
 |uq (v:Value)
def qK(ev:Operand->Option Value):List Operand->Option (List Value)
 |[]=>some []
 |x::xs=>ob (ev x) λv=>ob (qK ev xs) λvs=>some (v::vs)
def ym(ev:Operand->Option Value):Option Operand->Option (Option Value)
 |none=>some none
 |some x=>ob (ev x) λv=>some (some v)
def yn(ev:Operand->Option Value):List (Nat×Operand)->Option (List (Nat×Value))
 |[]=>some []
 |(i,x)::xs=>ob (ev x) λv=>ob (yn ev xs) λvs=>some ((i,v)::vs)
section
variable{ρ:Ren} {ev:Operand->Option Value} {rv:Operand->Value}
theorem Bk(hev:∀x v,ev x=some v->aF ρ v (rv x)):∀(xs:List Operand)(vs:List Value),qK ev xs=some vs->bk ρ vs (xs.map rv)
 |[],vs,h=>by cases h;exact .nil
 |x::xs,vs,h=>by obtain⟨v,h1,h⟩:=af h;obtain⟨us,h2,h⟩:=af h;cases h;exact .cons (hev _ _ h1) (Bk hev xs us h2)
theorem JP(hev:∀x v,ev x=some v->aF ρ v (rv x)){x:Option Operand}{v:Option Value}(h:ym ev x=some v):tj ρ v (x.map rv):=by
 cases x with
 |none=>cases h;trivial
 |some x=>obtain⟨u,h1,h⟩:=af h;cases h;exact hev _ _ h1
theorem JQ(hev:∀x v,ev x=some v->aF ρ v (rv x)):∀(xs:List (Nat×Operand))(vs:List (Nat×Value)),yn ev xs=some vs->vg ρ vs (xs.map λ(i,x)=>(i,rv x))
 |[],vs,h=>by cases h;exact .nil
 |(i,x)::xs,vs,h=>by obtain⟨v,h1,h⟩:=af h;obtain⟨us,h2,h⟩:=af h;cases h;exact .cons (hev _ _ h1) (JQ hev xs us h2)
end
def qC(X:cJ)(fn:Fn)(args captured:List Value):Option kG:=
 match fn with
 | .func f=>ob (X.F.get f) λ_=>some (.enter f (args++captured))
 | .yield l=>some (.round l args)
 |_=>none
def tB(X:cJ)(h:Heap)(nx:Nat)(b:Builtin)(ts:Array TypeId)(args:List Value):Option kG:=
 match b,args with
 | .append,[s,x]=>ob (nN X.T h nx ts.toList s x) λ(v,h',nx')=>some (.val v h' nx')
 | .len,[x]=>ob (ts.toList[0]?) λt=>ob (pA X.T t x) λv=>some (.val v h nx)
 | .cap,[x]=>ob (ts.toList[0]?) λt=>ob (PG X.T t x) λv=>some (.val v h nx)
 | .copy,[x,y]=>ob (ts.toList[0]?) λt=>ob (xI X.T h t x y) λ(v,h')=>some (.val v h' nx)
 | .clear,[x]=>ob (ts.toList[0]?) λt=>ob (PH X.T h t x) λh'=>some (.val (.tuple #[]) h' nx)
 | .min,xs=>ob (vy false xs) λv=>some (.val v h nx)
 | .max,xs=>ob (vy true xs) λv=>some (.val v h nx)
 | .recover,[]=>some .uy
 |_,_=>none
def rO(X:cJ)(h:Heap)(nx:Nat)(ev:Operand->Option Value)(c:Call):Option kG:=
 ob (qK ev c.args.toList) λargs=>match c.callee with
  | .builtin b=>tB X h nx b c.argTypes args
  | .value f=>ob (ev f) λfv=>match fv with
   | .func fn first captured=>qC X fn (first.toList++args) captured.toList
   |_=>none
  | .invoke r name=>ob (ev r) λrv=>match rv with
   | .iface t v=>ob (X.T.get t) λi=>ob (i.direct.lookup name) λf=>ob (X.F.get f) λ_=>some (.enter f (v::args))
   |_=>none
def Ja(ev:Operand->Option Value)(c:Call):Option kG:=
 ob (qK ev c.args.toList) λargs=>match c.callee with
  | .value f=>ob (ev f) λfv=>match fv with
   | .func fn first captured=>cond (yH fn) none (some (.tP {target:=.fn fn captured,args:=⟨first.toList++args⟩}))
   |_=>none
  |_=>none
def DN(h:Heap)(x:Value):Nat:=
 match x with
 | .slice (some ⟨o,off,none⟩) n cap=>cond (Nat.ble cap bt) n (match h.get o with
  |some (.cells c _ _)=>(c.length -off)/(cap -bt)
  |_=>n)
 |_=>0
theorem XL{ρ:Ren}{h:Heap}{w:World}(H:bh ρ h w){x x':Value}(hx:aF ρ x x'):∀o off n E c L,x=.slice (some ⟨o,off,none⟩) n (bt+E)->ρ o=some L->0<E->L.base+off+c*E=L.stop->DN h x<=c:=by
 intro o off n E c L e hL hE hc;subst e;have hn:n<=c:=by
  generalize hcc:bt+E=cc at hx;cases hx with
  |gG _ hc' _=>omega
  |@gz _ _ _ E' c' L' hL' _ hc' hn'=>
   cases hL.symm.trans hL';obtain rfl:E=E':=by omega
   have:c*E=c'*E:=by omega
   have:=Nat.eq_of_mul_eq_mul_right hE this;omega
  |jb=>simp
 unfold DN;have:Nat.ble (bt+E) bt=false:=by
  cases hh:Nat.ble (bt+E) bt with
  |false=>rfl
  |true=>have:=cI hh;omega
 simp only[this];split
 ·rename_i cl _ _ ho;obtain⟨M,m1,cs,fz,m2,m3,m4⟩:=H.obj o _ ho;cases m1.symm.trans hL;have k1:=m4.1;have k2:=m4.2.1;rw[Dj];apply Nat.div_le_of_le_mul
  grind
 grind
def dr(X:cJ)(h:Heap)(nx:Nat)(ev:Operand->Option Value)(o:Oper):Option kG:=
 match o.op with
 | .move x=>ob (ev x) λv=>some (.val v h nx)
 | .assign x=>ob (ev x) λv=>some (.val v h nx)
 | .pick c a b=>ob (ev c) λv=>match v with
  | .bool true=>ob (ev a) λv=>some (.val v h nx)
  | .bool false=>ob (ev b) λv=>some (.val v h nx)
  |_=>none
 | .alloc t=>ob (I8 X.T h nx t) λ(v,h')=>some (.val v h' (nx+1))
 | .box t x=>ob (ev x) λu=>some (.val (AD h nx t u).1 (AD h nx t u).2 (nx+1))
 | .build t ps=>ob (yn ev ps.toList) λus=>ob (AE X.T t us) λv=>some (.val v h nx)
 | .buildSlice t n ps=>ob (yn ev ps.toList) λus=>ob (I9 X.T h nx t n us) λ(v,h')=>some (.val v h' (nx+1))
 | .load t a=>ob (ev a) λx=>ob (oM X.T h t x) λv=>some (.val v h nx)
 | .store t a y=>ob (ev a) λx=>ob (ev y) λu=>ob (vz X.T h t x u) λh'=>some (.skip h' nx)
 | .nilCheck x=>ob (ev x) λv=>match v with
  | .pointer (some _)=>some (.val v h nx)
  | .func (.func _) _ _=>some (.val v h nx)
  | .func (.yield _) _ _=>some (.val v h nx)
  | .iface _ _=>some (.val v h nx)
  | .func (.via _ _ _ false) _ _=>some (.val v h nx)
  |_=>none
 | .binOp op t x y _=>ob (ev x) λa=>ob (ev y) λb=>ob (lj X.T op t (qO x||qO y) a b) λv=>some (.val v h nx)
 | .unOp op _ x=>ob (ev x) λa=>ob (DU op a) λv=>some (.val v h nx)
 | .convert s d x=>ob (ev x) λa=>match a with
  | .int _ _=>ob (AF X.T s d a) λv=>some (.val v h nx)
  | .slice (some _) _ _=>cond (Nat.beq s d) (ob (AI X.T h s d a) λv=>some (.val v h nx)) (ob (rS X.T h s d a) λv=>some (.val v h nx))
  | .slice none _ _=>ob (rS X.T h s d a) λv=>some (.val v h nx)
  | .func (.via _ _ _ true) _ _=>ob (rS X.T h s d a) λv=>some (.val v h nx)
  |_=>none
 | .makeInterface t x=>ob (ev x) λa=>ob (DQ X.T t a) λv=>some (.val v h nx)
 | .makeFunc fn first captured=>ob (qK ev first.toList) λa=>ob (qK ev captured.toList) λb=>match fn with
  | .func f=>some (.val (.func (.func f) ⟨a⟩ ⟨b⟩) h nx)
  |_=>none
 | .makeMap _ none=>some (.val (DR h nx).1 (DR h nx).2 (nx+1))
 | .makeSlice t l c=>ob (ev l) λa=>ob (ev c) λb=>ob (vx X.T h nx t a b) λ(v,h')=>some (.val v h' (nx+1))
 | .slice t x lo hi mx=>ob (ev x) λa=>ob (ym ev lo) λl=>ob (ym ev hi) λu=>ob (ym ev mx) λm=>ob (qE X.T t a (DN h a) l u m) λv=>some (.val v h nx)
 | .fieldAddr s x f=>ob (ev x) λa=>ob (xJ X.T s a f) λv=>some (.val v h nx)
 | .field t x f=>ob (ev x) λa=>match a with
  | .agg cs=>ob (X.T.get t) λi=>match i.desc with
   | .struct fs=>ob (fs[f]?) λfl=>ob (rQ X.T fl.type cs.toList fl.offset) λv=>some (.val v h nx)
   |_=>none
  |_=>none
 | .indexAddr t x ix=>ob (ev x) λa=>ob (ev ix) λb=>ob (rP X.T t a b) λv=>some (.val v h nx)
 | .index t x ix=>ob (ev x) λa=>ob (ev ix) λb=>ob (vr X.T t a b) λv=>some (.val v h nx)
 | .lookup t x ix ok=>ob (ev x) λa=>ob (ev ix) λb=>ob (xL X.T h t a b ok) λv=>some (.val v h nx)
 | .mapUpdate t m k x=>ob (ev m) λa=>ob (ev k) λb=>ob (ev x) λc=>ob (PJ X.T h t a b c) λh'=>some (.skip h' nx)
 | .typeAssert x _ a ok=>ob (ev x) λu=>ob (vp X.T u a ok) λv=>some (.val v h nx)
 | .extract t i=>ob (ev t) λa=>ob (DL a i) λv=>some (.val v h nx)
 | .call c=>rO X h nx ev c
 | .defer c=>Ja ev c
 | .panic x=>ob (ev x) λv=>match v with
  | .iface t u=>some (.uq (.iface t u))
  |_=>none
 |_=>none
def vf(P:Program)(ρ:Ren)(h:Heap)(nx:Nat)(w:World)(r:Result Next):kG->Prop
 | .val v h' nx'=>∃ρ' v' w',r=.ok (.value v') w'/\aF ρ' v v'/\bh ρ' h' w'/\bP ρ h nx w ρ' h' nx' w'
 | .skip h' nx'=>∃ρ' w',r=.ok .skip w'/\bh ρ' h' w'/\bP ρ h nx w ρ' h' nx' w'
 | .enter f args=>∃args':Array Value,r=.ok (.enter f args') w/\bk ρ args args'.toList
 | .round l args=>∃args':Array Value,r=(Instr.yield (match ρ l with|some L=>L.block|none=>0) args').run P w/\bk ρ args args'.toList/\ρ l≠none
 | .tP d=>∃d',r=.ok (.defer d') w/\xy ρ d d'
 | .uy=>r=.ok .recover w
 | .uq v=>∃v',r=.halt (.panic v') w/\aF ρ v v'
def kG.top(nx:Nat):kG->Nat
 | .val _ _ n=>n
 | .skip _ n=>n
 |_=>nx
end
section
section
variable{P:Program} {X:cJ} {ρ:Ren} {h:Heap} {nx:Nat} {w:World}
variable{h':Heap} {nx':Nat} {s:Sem Value} {v:Value}
theorem rZ(g:Good ρ h nx w v h' nx' (s.run P w)):vf P ρ h nx w ((do pure (Next.value (<-s)):Sem Next).run P w) (.val v h' nx'):=by obtain⟨ρ',v',w',h1,h2,h3,h4⟩:=g;exact⟨ρ',v',w',by simp[h1],h2,h3,h4⟩
theorem iK(H:bh ρ h w)(g:∃v',s.run P w=.ok v' w/\aF ρ v v'):vf P ρ h nx w ((do pure (Next.value (<-s)):Sem Next).run P w) (.val v h nx):=by obtain⟨v',h1,h2⟩:=g;exact⟨ρ,v',w,by simp[h1],h2,H,bP.refl _ _ _ _⟩
theorem Rw{s:Sem Unit}(g:IM ρ h nx w h' nx' (s.run P w)):vf P ρ h nx w ((do s;pure Next.skip:Sem Next).run P w) (.skip h' nx'):=by obtain⟨ρ',w',h1,h3,h4⟩:=g;exact⟨ρ',w',by simp[h1],h3,h4⟩
theorem Qd(OK:ea P X){f:FuncId}{fn:Func}(hf:X.F.get f=some fn)(args:Array Value):(callFunc f args).run P w=.ok (.enter f args) w:=by
 obtain⟨h1,h2,h3⟩:=OK.F f fn hf;unfold callFunc;have h4:fn.body.isNone=false:=by cases hb:fn.body with
  |none=>grind
  |some b=>rfl
 simp only[dO,run_program,gA,h1,h2,h4,mA,gN,fQ]
variable{args:List Value} {args':Array Value} {out:kG}
theorem Sc(OK:ea P X){fn:Fn}{captured:List Value}(e:qC X fn args captured=some out){fn':Fn}{captured':Array Value}(hf:xC ρ fn fn')(ra:bk ρ args args'.toList)(rc:bk ρ captured captured'.toList):
 vf P ρ h nx w ((invoke (.fn fn' captured') args').run P w) out:=by
 unfold qC at e;split at e
 ·rename_i f;obtain⟨g,hg,e⟩:=af e;cases e;subst hf;refine⟨args'++captured',?_,by rw[sY];exact ra.append rc⟩
  ·unfold invoke;exact Qd OK hg _
 ·rename_i l;cases e;obtain⟨L,h1,h2⟩:=hf;subst h2;refine⟨args',?_,ra,by rw[h1];simp⟩;rw[h1];rfl
 grind
variable{rv:Operand->Value}
theorem JR(xs:Array Operand):(xs.map rv).toList=xs.toList.map rv:=by simp
variable{α:Type} {x:α} {xs:Array α}
theorem Jk(h:xs.toList=[x]):xs[0]? =some x:=by rw[<-kB,h];rfl
theorem PX{y:α}(h:xs.toList=[x,y]):xs[0]? =some x/\xs[1]? =some y:=by constructor<;>(rw[<-kB,h];rfl)
theorem Ye(OK:ea P X)(H:bh ρ h w){b:Builtin}{ts:Array TypeId}{rt:TypeId}{cs:Array Bool}(ra:bk ρ args args'.toList)(e:tB X h nx b ts args=some out)
 (fresh:∀o,nx<=o->o<out.top nx->ρ o=none):vf P ρ h nx w ((builtin b ts rt cs args').run P w) out:=by
 unfold tB at e;generalize hl:args'.toList=l at ra;split at e
 ·rename_i s x;obtain⟨⟨v,h',nx'⟩,he,e⟩:=af e;cases e;cases ra with
  |cons r1 t=>
   cases t with
   |cons r2 t=>cases t;obtain⟨a1,a2⟩:=PX hl;exact rZ (XZ OK.T H (λq=>fresh nx (aB _) q) a1 a2 r1 r2 he)
 ·rename_i x;obtain⟨t0,ht,e⟩:=af e;obtain⟨v,he,e⟩:=af e;cases e;cases ra with
  |cons r1 t=>cases t;exact iK H (aaR OK.T (by grind) (Jk hl) r1 he w)
 ·rename_i x;obtain⟨t0,ht,e⟩:=af e;obtain⟨v,he,e⟩:=af e;cases e;cases ra with
  |cons r1 t=>cases t;exact iK H (Yn OK.T (by grind) (Jk hl) r1 he w)
 ·rename_i x y;obtain⟨t0,ht,e⟩:=af e;obtain⟨⟨v,h'⟩,he,e⟩:=af e;cases e;cases ra with
  |cons r1 t=>
   cases t with
   |cons r2 t=>cases t;obtain⟨a1,a2⟩:=PX hl;exact rZ (YN OK.T H nx (by grind) a1 a2 r1 r2 he)
 ·rename_i x;obtain⟨t0,ht,e⟩:=af e;obtain⟨h',he,e⟩:=af e;cases e;cases ra with
  |cons r1 t=>cases t;exact rZ (Yz OK.T H nx (by grind) (Jk hl) r1 he)
 ·obtain⟨v,he,e⟩:=af e;cases e;rw[<-hl] at ra;have:=abm (P:=P) w ra he ts rt;exact iK H ⟨v,this.1,this.2⟩
 ·obtain⟨v,he,e⟩:=af e;cases e;rw[<-hl] at ra;have:=abc (P:=P) w ra he ts rt;exact iK H ⟨v,this.1,this.2⟩
 ·cases e;rfl
 grind
variable{ev:Operand->Option Value}
theorem Yl(OK:ea P X)(H:bh ρ h w)(hev:∀x v,ev x=some v->aF ρ v (rv x)){c:Call}{ty:TypeId}(e:rO X h nx ev c=some out)(fresh:∀o,nx<=o->o<out.top nx->ρ o=none):
 vf P ρ h nx w ((do let d<-resolve rv c ty;invoke d.target d.args:Sem Next).run P w) out:=by
 obtain⟨args,ha,e⟩:=af e;have ra:=Bk hev _ _ ha;rw[<-JR] at ra;unfold resolve;split at e
 ·rename_i b hb;simp[hb];exact Ye OK H ra e fresh
 ·rename_i f hb;obtain⟨fv,hf,e⟩:=af e;have rf:=hev _ _ hf;split at e
  ·rename_i fn first captured
   generalize hg:rv f=g at rf;cases rf with
   |func r1 r2 r3=>simp only[hb,hg,Deferred.ofValue,dO,fQ];refine Sc OK e r1 ?_ r3;rw[sY];exact r2.append ra
   |lit hl=>cases e
   |gy hl=>cases e
  ·cases e
 ·rename_i r name hb;obtain⟨u,hu,e⟩:=af e;have ru:=hev _ _ hu;split at e
  ·rename_i t v;obtain⟨i,hi,e⟩:=af e;obtain⟨f,hf,e⟩:=af e;obtain⟨fn,hfn,e⟩:=af e;cases e;generalize hg:rv r=g at ru;cases ru with
   |iface rr=>
    rename_i v';obtain⟨inf,m,d1,d2,d3,d4⟩:=OK.T.direct t i hi name f hf;refine⟨#[v']++c.args.map rv,?_,?_⟩
    ·have ht:(typeInfo t).run P w=.ok inf w:=by simp[typeInfo,d1]
     have hu':=ga w OK.T hi;have hm:(method (P.types.size+Made.depth) t v' name).run P w=.ok (f,v') w:=by
      have hd:P.types.size+Made.depth=(P.types.size+Made.depth -1)+1:=by
       have:Made.depth≠0:=by decide
       omega
      rw[hd];unfold method;simp only[dO,ht,gA,d2,d3,follow,fQ];rcases d4 with⟨d4,d5⟩|⟨d4,el,d5⟩
      ·simp only[d4,receiverAt,dO,hu'];cases hdd:i.desc<;>first
        |(exfalso;exact d5 ⟨_,hdd⟩)
        |simp[Place.get]
      ·simp only[d4,receiverAt,dO,hu',d5];rfl
     simp_all;have e0:(#[Value.iface t v']++c.args.map rv)[0]? =some (Value.iface t v'):=by rw[<-kB,sY];rfl
     have e1:(#[Value.iface t v']++c.args.map rv).extract 1 (#[Value.iface t v']++c.args.map rv).size=c.args.map rv:=by simp
     have e2:invoke (.fn (.method name) #[]) (#[Value.iface t v']++c.args.map rv)=callMethod (.iface t v') name (c.args.map rv):=by
      show(match(#[Value.iface t v']++c.args.map rv)[0]? with
       |some recv=>callMethod recv name ((#[Value.iface t v']++c.args.map rv).extract 1 (#[Value.iface t v']++c.args.map rv).size)
       |_=>stuck "call: a method without a receiver")=_
      rw[e0,e1]
     rw[e2];unfold callMethod;simp_all;exact Qd OK hfn _
    ·rw[sY];exact .cons rr ra
  ·cases e
theorem Zt(OK:ea P X){t:TypeId}{cs cs':Array Value}(r:bk ρ cs.toList cs'.toList){i:gC}(hi:X.T.get t=some i){fs:Array Field}(hd:i.desc=.struct fs){f:Nat}{fl:Field}(hf:fs[f]? =some fl)(e:rQ X.T fl.type cs.toList fl.offset=some v):
 ∃v',(Instr.field t (.agg cs') f).run P w=.ok v' w/\aF ρ v v':=by
 obtain⟨v',h1,h2⟩:=Ui OK.T r e w;refine⟨v',?_,h2⟩;simp[Instr.field,ga w OK.T hi,hd,hf];exact h1
theorem Q9(ps:Array (Nat×Operand)):(ps.map λ(i,x)=>(i,rv x)).toList=ps.toList.map λ(i,x)=>(i,rv x):=by simp
theorem AL(OK:ea P X)(H:bh ρ h w)(hev:∀x v,ev x=some v->aF ρ v (rv x)){o:Oper}(e:dr X h nx ev o=some out)(fresh:∀o,nx<=o->o<out.top nx->ρ o=none):
 vf P ρ h nx w ((execOp rv o).run P w) out:=by
 unfold dr at e;unfold execOp;split at e
 ·rename_i x ho;replace e:=af e;obtain⟨v,h1,e⟩:=e;obtain rfl:=bu e;simp only[ho];exact⟨ρ,rv x,w,rfl,hev _ _ h1,H,bP.refl _ _ _ _⟩
 ·rename_i x ho;replace e:=af e;obtain⟨v,h1,e⟩:=e;obtain rfl:=bu e;simp only[ho];exact⟨ρ,rv x,w,rfl,hev _ _ h1,H,bP.refl _ _ _ _⟩
 ·rename_i c a b ho;replace e:=af e;obtain⟨v,h1,e⟩:=e;have hc:=hev _ _ h1;simp only[ho];split at e
  ·replace e:=af e;obtain⟨v,h2,e⟩:=e;obtain rfl:=bu e;generalize hg:rv c=g at hc;cases hc;exact⟨ρ,rv a,w,by simp[asBool],hev _ _ h2,H,bP.refl _ _ _ _⟩
  ·replace e:=af e;obtain⟨v,h2,e⟩:=e;obtain rfl:=bu e;generalize hg:rv c=g at hc;cases hc;exact⟨ρ,rv b,w,by simp[asBool],hev _ _ h2,H,bP.refl _ _ _ _⟩
  ·cases e
 ·rename_i t ho;replace e:=af e;obtain⟨⟨v,h'⟩,h1,e⟩:=e;obtain rfl:=bu e;simp only[ho];exact rZ (XQ OK.T H (fresh nx (aB _) (pj _)) h1 _)
 ·rename_i t x ho;replace e:=af e;obtain⟨u,h1,e⟩:=e;obtain rfl:=bu e;simp only[ho];exact rZ (Ya H (fresh nx (aB _) (pj _)) (hev _ _ h1))
 ·rename_i t ps ho;replace e:=af e;obtain⟨us,h1,e⟩:=e;replace e:=af e;obtain⟨v,h2,e⟩:=e;obtain rfl:=bu e;simp only[ho];have r:=JQ hev _ _ h1;rw[<-Q9] at r;exact iK H (Yd OK.T r h2 w)
 ·rename_i t n ps ho;replace e:=af e;obtain⟨us,h1,e⟩:=e;replace e:=af e;obtain⟨⟨v,h'⟩,h2,e⟩:=e;obtain rfl:=bu e;simp only[ho];have r:=JQ hev _ _ h1;rw[<-Q9] at r;exact rZ (Yb OK.T H (fresh nx (aB _) (pj _)) r h2)
 ·rename_i t a ho;replace e:=af e;obtain⟨x,h1,e⟩:=e;replace e:=af e;obtain⟨v,h2,e⟩:=e;obtain rfl:=bu e;simp only[ho];exact iK H (SE OK.T H (hev _ _ h1) h2)
 ·rename_i t a y ho;replace e:=af e;obtain⟨x,h1,e⟩:=e;replace e:=af e;obtain⟨u,h2,e⟩:=e;replace e:=af e;obtain⟨h',h3,e⟩:=e;obtain rfl:=bu e;simp only[ho];exact Rw (ah0 OK.T H nx (hev _ _ h1) (hev _ _ h2) h3)
 ·rename_i x ho;replace e:=af e;obtain⟨v,h1,e⟩:=e;have hx:=hev _ _ h1;simp only[ho];split at e
  ·obtain rfl:=bu e;generalize rv x=g at hx;have hx':=hx;cases hx;exact⟨ρ,_,w,rfl,hx',H,bP.refl _ _ _ _⟩
  ·obtain rfl:=bu e;generalize rv x=g at hx;have hx':=hx;cases hx with
   |func a b c=>have a':_=Fn.func _:=a;subst a';exact⟨ρ,_,w,rfl,hx',H,bP.refl _ _ _ _⟩
  ·obtain rfl:=bu e;generalize rv x=g at hx;have hx':=hx;cases hx with
   |func a b c=>obtain⟨L,_,a'⟩:=a;subst a';exact⟨ρ,_,w,rfl,hx',H,bP.refl _ _ _ _⟩
  ·obtain rfl:=bu e;generalize rv x=g at hx;have hx':=hx;cases hx;exact⟨ρ,_,w,rfl,hx',H,bP.refl _ _ _ _⟩
  ·obtain rfl:=bu e;generalize rv x=g at hx;have hx':=hx;cases hx with
   |func a b c=>exact a.elim
   |lit hl=>cases hl;exact⟨ρ,_,w,rfl,hx',H,bP.refl _ _ _ _⟩
  ·cases e
 ·rename_i op t x y yt ho;replace e:=af e;obtain⟨a,h1,e⟩:=e;replace e:=af e;obtain⟨b,h2,e⟩:=e;replace e:=af e;obtain⟨v,h3,e⟩:=e;obtain rfl:=bu e;simp only[ho];exact iK H (X5 OK.T OK.flat (hev _ _ h1) (hev _ _ h2) h3 w)
 ·rename_i op t x ho;replace e:=af e;obtain⟨a,h1,e⟩:=e;replace e:=af e;obtain⟨v,h2,e⟩:=e;obtain rfl:=bu e;simp only[ho];exact iK H (aio (hev _ _ h1) h2 w)
 ·rename_i s d x ho;replace e:=af e;obtain⟨a,h1,e⟩:=e;simp only[ho];split at e
  ·replace e:=af e;obtain⟨v,h2,e⟩:=e;obtain rfl:=bu e;exact iK H (YM OK.T (hev _ _ h1) h2 w)
  ·rename_i ad n c;cases hsd:Nat.beq s d with
   |true=>rw[hsd] at e;replace e:=af e;obtain⟨v,h2,e⟩:=e;obtain rfl:=bu e;exact rZ (aeQ OK.T H nx (hev _ _ h1) h2)
   |false=>rw[hsd] at e;replace e:=af e;obtain⟨v,h2,e⟩:=e;obtain rfl:=bu e;exact iK H (O4 OK.T H (hev _ _ h1) h2)
  ·replace e:=af e;obtain⟨v,h2,e⟩:=e;obtain rfl:=bu e;exact iK H (O4 OK.T H (hev _ _ h1) h2)
  ·replace e:=af e;obtain⟨v,h2,e⟩:=e;obtain rfl:=bu e;exact iK H (O4 OK.T H (hev _ _ h1) h2)
  ·cases e
 ·rename_i t x ho;replace e:=af e;obtain⟨a,h1,e⟩:=e;replace e:=af e;obtain⟨v,h2,e⟩:=e;obtain rfl:=bu e;simp only[ho];exact iK H (aa8 OK.T (hev _ _ h1) h2 w)
 ·rename_i fn first captured ho
  replace e:=af e;obtain⟨a,h1,e⟩:=e;replace e:=af e;obtain⟨b,h2,e⟩:=e;simp only[ho];split at e
  ·obtain rfl:=bu e;have r1:=Bk hev _ _ h1;have r2:=Bk hev _ _ h2;rw[<-JR] at r1 r2;exact iK H ⟨_,rfl,.func rfl r1 r2⟩
  ·cases e
 ·rename_i t ho;obtain rfl:=bu e;simp only[ho];exact rZ (aa9 H (fresh nx (aB _) (pj _)) t)
 ·rename_i t l c ho;replace e:=af e;obtain⟨a,h1,e⟩:=e;replace e:=af e;obtain⟨b,h2,e⟩:=e;replace e:=af e;obtain⟨⟨v,h'⟩,h3,e⟩:=e;obtain rfl:=bu e;simp only[ho];exact rZ (aba OK.T H (fresh nx (aB _) (pj _)) (hev _ _ h1) (hev _ _ h2) h3)
 ·rename_i t x lo hi mx ho;replace e:=af e;obtain⟨a,h1,e⟩:=e;replace e:=af e;obtain⟨l,h2,e⟩:=e;replace e:=af e;obtain⟨u,h3,e⟩:=e;replace e:=af e;obtain⟨m,h4,e⟩:=e;replace e:=af e;obtain⟨v,h5,e⟩:=e;obtain rfl:=bu e;simp only[ho];exact iK H (ahA OK.T (hev _ _ h1) (JP hev h2) (JP hev h3) (JP hev h4) (XL H (hev _ _ h1)) h5 w)
 ·rename_i s x f ho;replace e:=af e;obtain⟨a,h1,e⟩:=e;replace e:=af e;obtain⟨v,h2,e⟩:=e;obtain rfl:=bu e;simp only[ho];exact iK H (Zs OK.T (hev _ _ h1) h2 w)
 ·rename_i t x f ho;replace e:=af e;obtain⟨a,h1,e⟩:=e;have hx:=hev _ _ h1;simp only[ho];split at e
  ·replace e:=af e;obtain⟨i,hi,e⟩:=e;split at e
   ·rename_i hd;replace e:=af e;obtain⟨fl,hf,e⟩:=e;replace e:=af e;obtain⟨v,hv,e⟩:=e;obtain rfl:=bu e;generalize rv x=g at hx;cases hx with
    |agg r=>exact iK H (Zt OK r hi hd hf hv)
   ·cases e
  ·cases e
 ·rename_i t x ix ho;replace e:=af e;obtain⟨a,h1,e⟩:=e;replace e:=af e;obtain⟨b,h2,e⟩:=e;replace e:=af e;obtain⟨v,h3,e⟩:=e;obtain rfl:=bu e;simp only[ho];exact iK H (aab OK.T (hev _ _ h1) (hev _ _ h2) h3 w)
 ·rename_i t x ix ho;replace e:=af e;obtain⟨a,h1,e⟩:=e;replace e:=af e;obtain⟨b,h2,e⟩:=e;replace e:=af e;obtain⟨v,h3,e⟩:=e;obtain rfl:=bu e;simp only[ho];exact iK H (aaf OK.T (hev _ _ h1) (hev _ _ h2) h3 w)
 ·rename_i t x ix ok ho;replace e:=af e;obtain⟨a,h1,e⟩:=e;replace e:=af e;obtain⟨b,h2,e⟩:=e;replace e:=af e;obtain⟨v,h3,e⟩:=e;obtain rfl:=bu e;simp only[ho];exact iK H (aa0 OK.T OK.flat H (hev _ _ h1) (hev _ _ h2) h3)
 ·rename_i t m k x ho;replace e:=af e;obtain⟨a,h1,e⟩:=e;replace e:=af e;obtain⟨b,h2,e⟩:=e;replace e:=af e;obtain⟨c,h3,e⟩:=e;replace e:=af e;obtain⟨h',h4,e⟩:=e;obtain rfl:=bu e;simp only[ho];exact Rw (aip OK.T OK.flat H nx (hev _ _ h1) (hev _ _ h2) (hev _ _ h3) h4)
 ·rename_i x xt a ok ho;replace e:=af e;obtain⟨u,h1,e⟩:=e;replace e:=af e;obtain⟨v,h2,e⟩:=e;obtain rfl:=bu e;simp only[ho];exact iK H (X1 OK.T (hev _ _ h1) h2 w)
 ·rename_i t i ho;replace e:=af e;obtain⟨a,h1,e⟩:=e;replace e:=af e;obtain⟨v,h2,e⟩:=e;obtain rfl:=bu e;simp only[ho];exact iK H (Zr (hev _ _ h1) h2 w)
 ·rename_i c ho;simp only[ho];exact Yl OK H hev e fresh
 ·rename_i c ho;simp only[ho];unfold Ja at e;replace e:=af e;obtain⟨args,h1,e⟩:=e;split at e
  ·rename_i f hf;replace e:=af e;obtain⟨fv,h2,e⟩:=e;have rf:=hev _ _ h2;split at e
   ·rename_i fn0 _ _;cases hvia:yH fn0 with
    |true=>simp[hvia] at e
    |false=>
    simp only[hvia,aE] at e;obtain rfl:=bu e;have ra:=Bk hev _ _ h1;rw[<-JR] at ra;generalize hg:rv f=g at rf;cases rf with
    |lit hl=>cases hvia
    |gy hl=>cases hvia
    |@func _ fn' _ _ xs' ys' r1 r2 r3=>
     refine⟨{target:=.fn fn' ys',args:=xs'++c.args.map rv},?_,⟨fn',ys',rfl,r1,r3⟩,?_⟩
     ·unfold resolve;simp only[hf,hg,Deferred.ofValue,dO,fQ,gA]
     ·rw[sY];exact r2.append ra
   ·cases e
  ·cases e
 ·rename_i x ho;replace e:=af e;obtain⟨v,h1,e⟩:=e;have hx:=hev _ _ h1;simp only[ho];split at e
  ·obtain rfl:=bu e;generalize rv x=g at hx;cases hx with
   |iface r=>exact⟨_,by simp[Instr.panic],.iface r⟩
  ·cases e
 ·cases e
end
end
section
structure cC where
 fn:FuncId
 n:Nat
 tmps:Tr Value
 todo:List Item
 defers:List Deferred
 mode:FrameMode
 kind:CallKind
 roundOf:Option Nat
def Au(ρ:Ren):Item->Item->Prop
 | .inRangeFunc l,y=>∃L,ρ l=some L/\y=.inRangeFunc L.block
 | .endRangeFunc l,y=>∃L,ρ l=some L/\y=.endRangeFunc L.block
 | .call ..,_=>False
 | .extern ..,_=>False
 |x,y=>y=x
inductive ir(ρ:Ren):List Item->List Item->Prop where
 |nil:ir ρ [] []
 |cons {x y:Item} {xs ys:List Item} (h:Au ρ x y) (t:ir ρ xs ys):ir ρ (x::xs) (y::ys)
variable{ρ ρ':Ren}
theorem Au.mono(e:Ext ρ ρ'){x y:Item}(h:Au ρ x y):Au ρ' x y:=by
 cases x<;>first
  |exact h
  |(obtain⟨L,h1,h2⟩:=h;exact⟨L,e _ _ h1,h2⟩)
theorem ir.mono(e:Ext ρ ρ'):∀{xs ys:List Item},ir ρ xs ys->ir ρ' xs ys
 |_,_,.nil=>.nil
 |_,_,.cons h t=>.cons (h.mono e) (t.mono e)
theorem ir.append:∀{xs ys us vs:List Item},ir ρ xs ys->ir ρ us vs->ir ρ (xs++us) (ys++vs)
 |_,_,_,_,.nil,h=>h
 |_,_,_,_,.cons x t,h=>.cons x (t.append h)
theorem ir.exitTo{id:Nat}:∀{xs ys:List Item},ir ρ xs ys->(∀k,exitTo id xs=some k->∃k',exitTo id ys=some k'/\ir ρ k k')/\(exitTo id xs=none->exitTo id ys=none)
 |_,_,.nil=>⟨λk h=>(by simp[Go.exitTo] at h),λ_=>rfl⟩
 |_,_,.cons (x:=x) (y:=y) h t=>by
  have ih:=t.exitTo (id:=id);cases x with
  |inBlock i=>
   have:y=.inBlock i:=h;unfold Go.exitTo
   grind
  |inRangeFunc l=>obtain⟨L,_,rfl⟩:=h;exact ih
  |endRangeFunc l=>obtain⟨L,_,rfl⟩:=h;exact ih
  |call=>exact h.elim
  |extern=>exact h.elim
  |code c=>have:y=.code c:=h;subst this;exact ih
  |inLoop c=>have:y=.inLoop c:=h;subst this;exact ih
  |inScope c=>have:y=.inScope c:=h;subst this;exact ih
  |inRegion a b=>have:y=.inRegion a b:=h;subst this;exact ih
  |beginRound=>have:y=.beginRound:=h;subst this;exact ih
theorem ir.gotoIn{l:Nat}:∀{xs ys:List Item},ir ρ xs ys->(∀k,gotoIn l xs=some k->∃k',gotoIn l ys=some k'/\ir ρ k k')/\(gotoIn l xs=none->gotoIn l ys=none)
 |_,_,.nil=>⟨λk h=>(by simp[Go.gotoIn] at h),λ_=>rfl⟩
 |_,_,.cons (x:=x) (y:=y) h t=>by
  have ih:=t.gotoIn (l:=l);cases x with
  |inScope b=>
   have:y=.inScope b:=h;subst this;unfold Go.gotoIn;cases hf:findLabel b l with
   |none=>grind
   |some rest=>exact⟨λk hk=>⟨_,rfl,by cases hk;exact .cons rfl (.cons rfl t)⟩,λh=>(by grind)⟩
  |inRangeFunc l=>obtain⟨L,_,rfl⟩:=h;exact ih
  |endRangeFunc l=>obtain⟨L,_,rfl⟩:=h;exact ih
  |call=>exact h.elim
  |extern=>exact h.elim
  |code c=>have:y=.code c:=h;subst this;exact ih
  |inLoop c=>have:y=.inLoop c:=h;subst this;exact ih
  |inBlock c=>have:y=.inBlock c:=h;subst this;exact ih
  |inRegion a b=>have:y=.inRegion a b:=h;subst this;exact ih
  |beginRound=>have:y=.beginRound:=h;subst this;exact ih
inductive nJ(ρ:Ren):List PanicEntry->List PanicEntry->Prop where
 |nil:nJ ρ [] []
 |cons {v v':Value} {b:Bool} {xs ys:List PanicEntry} (h:aF ρ v v') (t:nJ ρ xs ys):nJ ρ ({v,recovered:=b}::xs) ({v:=v',recovered:=b}::ys)
theorem nJ.mono(e:Ext ρ ρ'):∀{xs ys:List PanicEntry},nJ ρ xs ys->nJ ρ' xs ys
 |_,_,.nil=>.nil
 |_,_,.cons h t=>.cons (h.mono e) (t.mono e)
theorem nJ.append:∀{xs ys us vs:List PanicEntry},nJ ρ xs ys->nJ ρ us vs->nJ ρ (xs++us) (ys++vs)
 |_,_,_,_,.nil,h=>h
 |_,_,_,_,.cons x t,h=>.cons x (t.append h)
def rK(ρ:Ren):FrameMode->FrameMode->Prop
 | .panicking c,m=>∃c',m=.panicking c'/\nJ ρ c c'
 |x,m=>m=x
theorem rK.mono(e:Ext ρ ρ'){x y:FrameMode}(h:rK ρ x y):rK ρ' x y:=by
 cases x<;>first
  |exact h
  |(obtain⟨c,h1,h2⟩:=h;exact⟨c,h1,h2.mono e⟩)
def DD(ρ:Ren):Option Nat->Option Nat->Prop
 |none,y=>y=none
 |some l,y=>∃L,ρ l=some L/\y=some L.block
theorem DD.mono(e:Ext ρ ρ'){x y:Option Nat}(h:DD ρ x y):DD ρ' x y:=by
 cases x<;>first
  |exact h
  |(obtain⟨c,h1,h2⟩:=h;exact⟨c,e _ _ h1,h2⟩)
structure jM(ρ:Ren)(a:cC)(f:Frame):Prop where
 fn:f.fn=a.fn
 tmps:jm ρ a.tmps a.n f.tmps
 todo:ir ρ a.todo f.todo
 defers:mG ρ a.defers f.defers
 mode:rK ρ a.mode f.mode
 kind:f.kind=a.kind
 round:DD ρ a.roundOf f.roundOf
variable{a:cC} {f:Frame}
theorem jM.mono(e:Ext ρ ρ')(h:jM ρ a f):jM ρ' a f:=
 ⟨h.fn,h.tmps.mono e,h.todo.mono e,h.defers.mono e,h.mode.mono e,h.kind,h.round.mono e⟩
inductive qx(ρ:Ren):List cC->List Frame->Prop where
 |nil:qx ρ [] []
 |cons {x:cC} {y:Frame} {xs:List cC} {ys:List Frame} (h:jM ρ x y) (t:qx ρ xs ys):qx ρ (x::xs) (y::ys)
theorem qx.mono(e:Ext ρ ρ'):∀{xs:List cC}{ys:List Frame},qx ρ xs ys->qx ρ' xs ys
 |_,_,.nil=>.nil
 |_,_,.cons h t=>.cons (h.mono e) (t.mono e)
structure AM where
 fr:cC
 cs:List cC
 h:Heap
 nx:Nat
def jo(tm:Tr Value):Operand->Option Value
 | .tmp t=>tm.get t
 | .const v=>cond (mP v) (some v) none
 | .global _=>none
 | .func f=>some (.func (.func f) #[] #[])
theorem xR(h:jm ρ a.tmps a.n f.tmps):∀x v,jo a.tmps x=some v->aF ρ v (f.eval x):=by
 intro x v e;cases x with
 |tmp t=>
  obtain⟨v',h1,h2⟩:=h.2 t v e;have:f.eval (.tmp t)=v':=by show f.tmps.getD t undef=v';simp_all
  grind
 |const c=>
  unfold jo at e;cases hc:mP c with
  |false=>grind
  |true=>simp_all;exact D6 hc
 |global g=>cases e
 |func g=>cases e;exact .func rfl .nil .nil
def fU(ops:Array Oper)(tm:Tr Value)(o:Oper):Option Bool:=
 match o.guard with
 |none=>some true
 |some (j,want)=>ob (ops[j]?) λoj=>ob oj.dst λd=>ob (tm.get d) λv=>match v with
  | .bool b=>some (b==want)
  | .tuple _=>some false
  |_=>none
theorem AW(h:jm ρ a.tmps a.n f.tmps){ops:Array Oper}{o:Oper}{b:Bool}(e:fU ops a.tmps o=some b):Region.wanted o (yielded ops f.tmps)=b:=by
 unfold fU at e;unfold Region.wanted;split at e
 ·grind
 ·rename_i j want hg;rw[hg];obtain⟨oj,h1,e⟩:=af e;replace e:=af e;obtain⟨d,h2,e⟩:=e;replace e:=af e;obtain⟨v,h3,e⟩:=e;obtain⟨v',h4,h5⟩:=h.2 d v h3;have hy:((ops[j]?).bind (·.dst)).bind (f.tmps[·]?)=some v':=by simp_all
  split at e
  ·cases h5;cases e;rename_i b;show(yielded ops f.tmps j==some want)=_;rw[(show yielded ops f.tmps j=some b from by unfold yielded;rw[hy])];simp
  ·cases h5;cases e;show(yielded ops f.tmps j==some want)=_;rw[(show yielded ops f.tmps j=none from by unfold yielded;rw[hy])];rfl
  grind
def tI(fr:cC)(dst:Option Nat)(v:Value):Option cC:=
 match dst with
 |none=>some fr
 |some d=>cond (Nat.blt d fr.n) (some {fr with tmps:=fr.tmps.set d v}) none
def mO(fr:cC)(v:Value):Option cC:=
 match fr.todo with
 | .inRegion ops (i::rest)::k=>ob (tI fr ((ops[i]?).bind (·.dst)) v) λfr=>some {fr with todo:=.inRegion ops rest::k}
 | .inRangeFunc l::k=>some {fr with todo:=.endRangeFunc l::k}
 |_=>none
def wF(tmps:Array Value)(dst:Option Nat)(v:Value):Array Value:=
 match dst with
 |some d=>tmps.setIfInBounds d v
 |none=>tmps
variable{a':cC} {v v':Value}
theorem X0(h:jM ρ a f){dst:Option Nat}(r:aF ρ v v')(e:tI a dst v=some a'):
 jM ρ a' {f with tmps:=wF f.tmps dst v'}/\a'.todo=a.todo:=by
 unfold tI at e;split at e
 ·cases e;exact⟨h,rfl⟩
 ·rename_i d;cases hd:Nat.blt d a.n with
  |false=>grind
  |true=>simp[hd] at e;subst e;exact⟨⟨h.fn,h.tmps.set (cT hd) r,h.todo,h.defers,h.mode,h.kind,h.round⟩,rfl⟩
theorem tG(h:jM ρ a f)(r:aF ρ v v')(e:mO a v=some a'):jM ρ a' (f.finish v'):=by
 unfold mO at e;have ht:=h.todo;split at e
 ·rename_i ops i rest k hk;replace e:=af e;obtain⟨b,h1,e⟩:=e;cases e;obtain⟨g1,g2⟩:=X0 h r h1;rw[hk] at ht;generalize hft:f.todo=ft at ht;cases ht with
  |cons hx t=>subst hx;simp[Frame.finish,hft];exact⟨g1.fn,g1.tmps,.cons rfl t,g1.defers,g1.mode,g1.kind,g1.round⟩
 ·rename_i l k hk;cases e;rw[hk] at ht;generalize hft:f.todo=ft at ht;cases ht with
  |cons hx t=>obtain⟨L,h1,rfl⟩:=hx;simp[Frame.finish,hft];exact⟨h.fn,h.tmps,.cons ⟨L,h1,rfl⟩ t,h.defers,h.mode,h.kind,h.round⟩
 grind
def AS(fr:cC)(vs:List PanicEntry):cC:=
 match fr.mode with
 | .panicking chain=>{fr with mode:=.panicking (vs++chain)}
 |_=>{fr with mode:=.panicking vs}
theorem PW(h:jM ρ a f){vs vs':List PanicEntry}(r:nJ ρ vs vs'):jM ρ (AS a vs) (f.raise vs'):=by
 unfold AS Frame.raise;have hm:=h.mode;cases ha:a.mode with
 |panicking c=>rw[ha] at hm;obtain⟨c',h1,h2⟩:=hm;simp_all;exact⟨h.fn,h.tmps,h.todo,h.defers,⟨_,rfl,r.append h2⟩,h.kind,h.round⟩
 |run=>rw[ha] at hm;have hm':f.mode=.run:=hm;simp_all;exact⟨h.fn,h.tmps,h.todo,h.defers,⟨_,rfl,r⟩,h.kind,h.round⟩
 |returning=>rw[ha] at hm;have hm':f.mode=.returning:=hm;simp_all;exact⟨h.fn,h.tmps,h.todo,h.defers,⟨_,rfl,r⟩,h.kind,h.round⟩
def cW:List Value->Nat->Tr Value->Tr Value
 |[],_,t=>t
 |v::vs,n,t=>cW vs (n+1) (t.set n v)
theorem Wx:∀(vs:List Value)(n:Nat)(t:Tr Value)(i:Nat)(v:Value),(cW vs n t).get i=some v->(n<=i/\vs[i -n]? =some v)\/t.get i=some v
 |[],_,_,_,_,h=>.inr h
 |u::vs,n,t,i,v,h=>by
  rcases Wx vs (n+1) (t.set n u) i v h with⟨h1,h2⟩|h1
  ·grind
  ·rw[Tr.bD] at h1
   grind
def jn(F:FT)(f:FuncId)(args:List Value)(kind:CallKind):Option cC:=
 ob (F.get f) λfn=>ob fn.body λc=>some {fn:=f,n:=args.length+(fn.ntmps -args.length),tmps:=cW args 0 .nil,todo:=[.code c],defers:=[],mode:=.run,kind,roundOf:=none}
theorem AK{P:Program}{F:FT}(hF:Po P F){f:FuncId}{args:List Value}{args':Array Value}(r:bk ρ args args'.toList){kind:CallKind}(e:jn F f args kind=some a):jM ρ a (Frame.enter P f args' kind):=by
 obtain⟨fn,h1,e⟩:=af e;obtain⟨c,h2,e⟩:=af e;cases e;obtain⟨g1,_,_⟩:=hF f fn h1;unfold Frame.enter;refine⟨rfl,⟨by simp[g1,r.length],λt v hv=>?_⟩,?_,.nil,rfl,rfl,rfl⟩
 ·rcases Wx args 0 .nil t v hv with⟨_,hv⟩|hv
  ·obtain⟨v',a1,a2⟩:=r.get hv
   grind
  ·rw[Tr.get_nil] at hv;cases hv
 ·simp_all;exact .cons rfl .nil
end
end Lt
end Go.Proofs.YtfdojmichbgpiaaGreatDoor

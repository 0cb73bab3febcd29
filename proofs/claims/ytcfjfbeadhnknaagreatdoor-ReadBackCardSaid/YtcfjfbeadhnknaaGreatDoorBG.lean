import Derived.Laws.Append
import Derived.Test.YtcfjfbeadhnknaaGreatDoorBF
namespace Go.Proofs.YtcfjfbeadhnknaaGreatDoor
set_option linter.unusedVariables false
set_option linter.unusedSimpArgs false
set_option linter.unusedSectionVars false
set_option linter.constructorNameAsVariable false
set_option maxRecDepth 100000
set_option maxHeartbeats 1000000
namespace Lt
section
variable{β:Type}
@[simp] theorem Ef(n:Nat)(v:Value)(c:List Value):aQ n [v] c=c.set n v:=rfl
theorem Ee:∀(vs old pre post:List Value),old.length=vs.length->aQ pre.length vs (pre++(old++post))=pre++(vs++post)
 |[],old,pre,post,h=>by obtain rfl:=oX.1 h;rfl
 |v::vs,[],pre,post,h=>by grind
 |v::vs,o::old,pre,post,h=>by
  have:=Ee vs old (pre++[v]) post (by grind);show aQ (pre.length+1) vs ((pre++(o::old++post)).set pre.length v)=_
  grind
theorem Y5{c:List Value}{n:Nat}(h:n<c.length)(K:Value->List Value->Option β):af (c.drop n) K=K c[n] (c.drop (n+1)):=by rw[cX h];rfl
def mF(l:List UInt8)(k:Nat):List UInt8:=(List.range l.length).map λj=>if j<k\/l.length -k<=j then(l[l.length -1 -j]?).getD 0 else(l[j]?).getD 0
@[simp] theorem Vb(l:List UInt8)(k:Nat):(mF l k).length=l.length:=by simp[mF]
theorem xj(l:List UInt8)(k j:Nat)(h:j<l.length):(mF l k)[j]? =if j<k\/l.length -k<=j then l[l.length -1 -j]? else l[j]? :=by
 unfold mF
 grind
theorem ahn(l:List UInt8):mF l 0=l:=by
 apply qU;intro j;by_cases h:j<l.length
 ·rw[xj _ _ _ h,ar (by omega)]
 simp_all
theorem ahl(l:List UInt8){k:Nat}(hk:l.length<=2*k+1):mF l k=l.reverse:=by
 apply qU;intro j;by_cases h:j<l.length
 ·rw[xj _ _ _ h]
  grind
 simp_all
theorem ahm(l:List UInt8){k:Nat}(hk:2*k+1<l.length):((mF l k).set k (l[l.length -1 -k]'(by omega))).set (l.length -1 -k) (l[k]'(by omega))=mF l (k+1):=by
 apply qU;intro j;by_cases h:j<l.length
 ·rw[xj _ _ _ h,List.getElem?_set,List.getElem?_set,xj _ _ _ h];simp
  grind
 simp_all
theorem Sv{pre m post:List UInt8}{k:Nat}{b:UInt8}(h:m[k]? =some b)(hk:pre.length+k<((pre++(m++post)).map aX).length):((pre++(m++post)).map aX)[pre.length+k]=aX b:=by grind
theorem J0(pre m post:List UInt8){k:Nat}(b:UInt8)(h:k<m.length):((pre++(m++post)).map aX).set (pre.length+k) (aX b)=(pre++(m.set k b++post)).map aX:=by simp_all
theorem PB(b:UInt8):(SV.i IntKind.u8 (b.toNat:Int)).cells.length.beq 1=true:=rfl
theorem Np{w:Nat}(pre l post:List UInt8)(hl:l.length<2^60)(hw:l.length+1<w)(c:Nat):tA w pre.length l.length c ((pre++(l++post)).map aX)=some ((pre++(l.reverse++post)).map aX):=by
 unfold tA;rw[iT,cf,aO (by omega) (by omega),<-ahl l (k:=l.length/2) (by omega)];rw[show(pre++(l++post))=pre++(mF l 0++post) by rw[ahn],show(l.length:Int) -1=(l.length:Int) -1 -((0:Nat):Int) by omega];refine iL (ev:=λi (g:Nat->Nat->Nat->Int->Int->List Value->Option (List Value))=>g pre.length l.length c i ((l.length:Int) -1 -i) ((pre++(mF l i++post)).map aX)) (l.length/2) ?_ ?_ (show l.length/2<w by omega)
 ·intro i g hi;have e1:((i:Int)<(l.length:Int) -1 -i):=by omega
  simp(disch:=omega) only[aV,e1,aY,aE,lK,mI,mr,gD];have e2:((l.length:Int) -1 -i).toNat=l.length -1 -i:=by omega
  rw[e2];have h1:l.length -1 -i<l.length:=by omega
  have h2:i<l.length:=by omega
  have h3:((pre++(mF l i++post)).map aX).length=pre.length+(l.length+post.length):=by simp
  have g1:((pre++(mF l i++post)).map aX)[pre.length+(l.length -1 -i)]'(by omega)=aX (l[l.length -1 -i]):=Sv (by
   rw[xj _ _ _ h1,ar (by omega),cN h1]) _
  have g2:((pre++(mF l i++post)).map aX)[pre.length+i]'(by omega)=aX (l[i]):=Sv (by
   rw[xj _ _ _ h2,ar (by omega),cN h2]) _
  simp only[h1,h2,aE];rw[Y5 (by omega),g1];simp only[o9];rw[Y5 (by omega),g2];simp only[o9,PB,fW,nr];have f1:pre.length+i+1<=((pre++(mF l i++post)).map aX).length:=by omega
  have f2:pre.length+(l.length -1 -i)+1<=((pre++(mF l i++post)).map aX).length:=by omega
  simp only[f1,f2,aE,Ef,iT,cc];rw[aO (by omega) (by omega),aO (by omega) (by omega)];rw[show Value.int IntKind.u8 (l[l.length -1 -i].toNat:Int)=aX l[l.length -1 -i] from rfl,show Value.int IntKind.u8 (l[i].toNat:Int)=aX l[i] from rfl];rw[J0 _ _ _ _ (by rw[Vb];exact h2),J0 _ _ _ _ (by rw[List.length_set,Vb];exact h1),ahm l (by omega)];rw[show(l.length:Int) -1 -i -1=(l.length:Int) -1 -((i+1:Nat):Int) by omega];rfl
 ·intro g;have e1:¬(((l.length/2:Nat):Int)<(l.length:Int) -1 -((l.length/2:Nat):Int)):=by omega
  simp only[aV,e1,bN,aF]
theorem acf{α α':Type}{z:α}{F:α->α}{z':α'}{F':α'->α'}(R:α->α'->Prop)(h0:R z z')(hs:∀g g',R g g'->R (F g) (F' g'))(w:Nat):R (lp z F w) (lp z' F' w):=by
 induction w with
 |zero=>exact h0
 |succ w ih=>exact hs _ _ ih
theorem aiX(w a b:Nat)(c:List Value):F0 w a b c=tA w 0 a b c:=by
 refine acf (R:=λ(g:Nat->Nat->Int->Int->List Value->Option (List Value))(g':Nat->Nat->Nat->Int->Int->List Value->Option (List Value))=>∀a b i j c,g a b i j c=g' 0 a b i j c) ?_ ?_ w _ _ _ _ _
 ·intros;rfl
 ·intro g g' h a b i j c;simp_all
theorem aiW{w:Nat}(l:List UInt8)(hl:l.length<2^60)(hw:l.length+1<w)(c:Nat):F0 w l.length c (l.map aX)=some (l.reverse.map aX):=by
 rw[aiX];have:=Np [] l [] hl hw c
 grind
theorem Pu:∀(i n:Nat),eI n (i+1)=UInt8.ofNat (n/256^i%256)::eI n i
 |0,n=>by simp[eI]
 |i+1,n=>by show eI (n/256) (i+1)++_=_;rw[Pu i (n/256)];show _=_::(eI (n/256) i++_);rw[eV,Nat.div_div_eq_div_mul,Nat.pow_succ,mM]
theorem aiV{s:Int}(h:s=1\/s=2\/s=4)(w:Nat):xR w s=some ((256^s.toNat:Nat):Int):=by rcases h with rfl|rfl|rfl<;>rfl
theorem ak1(i:Nat):(2:Int)^(8*i)=((256^i:Nat):Int):=by rw[<-(show(2:Nat)^(8*i)=256^i from by rw[Nat.pow_mul])];simp
theorem nL(l:List UInt8):aj l=ae l.length (l.map aX):=by unfold aj aD;rw[iv]
theorem s9:∀n:Nat,rep n (Value.int IntKind.u8 0).cells.toList=(List.replicate n (0:UInt8)).map aX
 |0=>rfl
 |n+1=>by show _=aX 0::_;rw[<-s9 n];rfl
theorem rM{w:Nat}(hw:8<=w)(n s o:Int):ia w n s o=some (match(if fQ s o=true then oP n s.toNat o else none) with|some l=>(aj l,true)|none=>(ae 0 [],false)):=by
 unfold ia;rw[vn (by omega)];cases hm:fQ s o with
 |false=>simp
 |true=>
  obtain⟨hs,ho⟩:=sS hm;unfold oP;simp only[aB,bH,aF,aV,qe,dW];by_cases h0:n<0
  ·rw[az h0,ar (by omega)]
  rw[ar h0,aiV hs];simp only[aB];by_cases h1:¬n<((256^s.toNat:Nat):Int)
  ·rw[ar (by omega)];simp only[h1,bN,ft,aE]
  replace h1:=pU.1 h1;rw[az (by omega)];obtain⟨n,rfl⟩:=Int.eq_ofNat_of_zero_le (Int.not_lt.1 h0);obtain⟨s,rfl⟩:=Int.eq_ofNat_of_zero_le (a:=s) (by omega);have hs4:s<=4:=by omega
  have hr:Nat.ble s 1000000000=true:=by rw[gW];omega
  have hr2:Nat.ble s s=true:=by rw[gW];omega
  simp only[h1,aY,bH,aF];simp only[bQ,hr,hr2,jW,s9,mI,oe];rw[show List.replicate s (0:UInt8)=List.replicate (s -0) 0++eI n 0 by simp[eI]];refine iL (ev:=λi (g:Int->Int->Int->Nat->Nat->Int->Int->List Value->Option (Value×Bool))=>g n s o s s s i ((List.replicate (s -i) (0:UInt8)++eI n i).map aX)) s ?_ ?_ (by omega)
  ·intro i g hi;have e1:((i:Int)<(s:Int)):=by omega
   simp only[e1,dW];have e2:(ag IntKind.u64 (Int.mul 8 (ag IntKind.u64 (i:Int))))=((8*i:Nat):Int):=by rw[oI,si (n:=(i:Int)) (by omega) (by omega),si (by omega) (by omega)];omega
   have e3:(n:Int).fdiv (2^min ((8*i:Nat):Int).toNat 64)=((n/256^i:Nat):Int):=by rw[mI,kU (by omega),ak1,Int.fdiv_eq_ediv_of_nonneg _ (Int.natCast_nonneg _)];rfl
   have e4:ag IntKind.u8 ((n/256^i:Nat):Int)=((UInt8.ofNat (n/256^i%256)).toNat:Int):=by rw[oz,IntKind.wrap_u8];simp
   rw[e2,ar (by omega),e3,e4];simp(disch:=omega) only[iT,cc,aO,lK,PB,eD,fW,mr];have e5:((s:Int) -1 -i).toNat=s -1 -i:=by omega
   have e6:s -1 -i<s:=by omega
   have e7:((List.replicate (s -i) (0:UInt8)++eI n i).map aX).length=s:=by simp[oC];omega
   have e8:0+(s -1 -i)*1+1<=s:=by omega
   simp only[e5,e6,e7,e8,aY,aE];rw[show 0+(s -1 -i)*1=s -1 -i by omega,Ef,show Value.int IntKind.u8 ((UInt8.ofNat (n/256^i%256)).toNat:Int)=aX (UInt8.ofNat (n/256^i%256)) from rfl];have e9:(List.replicate (s -i) (0:UInt8)++eI n i)=List.replicate (s -1 -i) 0++([0]++eI n i):=by rw[<-dO,<-List.replicate_succ',show s -1 -i+1=s -i by omega]
   have e10:=J0 (List.replicate (s -1 -i) 0) [0] (eI n i) (k:=0) (UInt8.ofNat (n/256^i%256)) (by simp);rw[tO,Nat.add_zero] at e10;rw[e9,e10,Pu,show s -(i+1)=s -1 -i by omega];rfl
  ·intro g;simp;unfold aW;have hb:=oC s n;by_cases h2:o=1
   ·subst h2;have:=aiW (w:=w) (eI n s) (by omega) (by omega) s;rw[hb] at this;simp only[show ah 1 1=true from rfl,aE,this,aB,dX,dW];rw[nL,List.length_reverse,hb]
   ·simp_all;rw[nL,hb]
end
theorem He(l:List UInt8)(s m i:Nat)(h:i<l.length)(hs:0<s)(hm:m<=l.length)(hd:m%s=0):(ib l s m)[i]? =if i<m then l[i -i%s+(s -1 -i%s)]? else l[i]? :=by
 rw[B4 _ _ _ _ h];split
 ·next h1=>
  have:i -i%s+(s -1 -i%s)<l.length:=by
   have h3:=Nat.div_add_mod i s;have h4:=Nat.div_add_mod m s;have h5:i/s<m/s:=by apply Nat.lt_of_mul_lt_mul_left (a:=s);omega
   have h6:s*(i/s+1)<=s*(m/s):=Nat.mul_le_mul_left _ h5;rw[Nat.mul_add] at h6;omega
  grind
 ·rw[cN h];rfl
theorem YT(l:List UInt8){s i:Nat}(hs:0<s)(h:i*s+s<=l.length):
 ib l s ((i+1)*s)=(ib l s (i*s)).take (i*s)++((((ib l s (i*s)).drop (i*s)).take s).reverse++(ib l s (i*s)).drop (i*s+s)):=by
 apply qU;intro j;have e1:(i+1)*s=i*s+s:=by rw[lG,Nat.one_mul]
 have d1:(i*s)%s=0:=Nat.mul_mod_left _ _;have d2:((i+1)*s)%s=0:=Nat.mul_mod_left _ _;have hlen:=oU l s (i*s);by_cases hj:j<l.length
 ·rw[He _ _ _ _ hj hs (by omega) d2];by_cases h1:j<i*s
  ·rw[az (by omega),List.getElem?_append_left (by rw[dJ];omega),List.getElem?_take_of_lt h1,He _ _ _ _ hj hs (by omega) d1,az h1]
  ·by_cases h2:j<i*s+s
   ·have hm:j%s=j -i*s:=by
     have:=qa (show j -i*s<s by omega);rw[<-this]
     conv=>lhs;rw[show j=(j -i*s)+s*i by rw[mM s i];omega]
     rw[Nat.add_mul_mod_self_left]
    rw[az (by omega),List.getElem?_append_right (by rw[dJ];omega),dJ,hlen,kU (by omega)];rw[List.getElem?_append_left (by rw[List.length_reverse,dJ,eS];omega)];rw[List.getElem?_reverse (by rw[dJ,eS];omega),dJ,eS,hlen,kU (by omega)];rw[List.getElem?_take_of_lt (by omega),List.getElem?_drop,He _ _ _ _ (by omega) hs (by omega) d1,ar (by omega),hm]
    congr 1
    omega
   ·rw[ar (by omega),List.getElem?_append_right (by rw[dJ];omega),List.getElem?_append_right (by simp;omega)];simp;rw[He _ _ _ _ (by omega) hs (by omega) d1,ar (by omega)]
    congr 1
    omega
 ·rw[kT (by rw[oU];omega),kT (by simp;omega)]
theorem YS(l:List UInt8)(s:Nat):ib l s 0=l:=by
 apply qU;intro i;by_cases h:i<l.length
 ·rw[B4 _ _ _ _ h,cN h];rfl
 ·rw[kT (by rw[oU];omega),kT (by omega)]
theorem GA(w:Nat){a b c:Int}(h:-2^62<c/\c<2^62)(ha:a<2^62):vv w a b c=some (decide (0<=a/\0<=b/\a<=c/\b<=c -a)):=by
 unfold vv;simp;by_cases h1:a<0
 ·simp[h1];omega
 by_cases h2:b<0
 ·simp_all;omega
 by_cases h3:c<a
 ·simp_all;omega
 rw[aO (by omega) (by omega)];by_cases h4:c -a<b<;>grind
theorem ajS(w:Nat){n:Nat}(h:n<2^60):GH w (n:Int)=some (aI n:Int):=by
 unfold GH aI;have e:(BitVec.ofInt 64 (n:Int)&&&BitVec.ofInt 64 1).toNat=n%2:=by simp
 rw[e,aO (n:=((n%2:Nat):Int)) (by omega) (by omega),cc,aO (by omega) (by omega)];rfl
theorem YQ{w:Nat}(l:List UInt8)(hl:l.length<2^29)(hw:l.length+10<=w)(s:Nat)(o:Int)(hs:(s:Int)=1\/(s:Int)=2\/(s:Int)=4\/(s:Int)=8)(ho:o=1\/o=2):
 lp (λ(x8 x9:Int)(x10 x11:Nat)(x12:Int)(x13:List Value)=>(none:Option Value))
     (λ(x14:Int->Int->Nat->Nat->Int->List Value->Option Value)(x15 x16:Int)(x17 x18:Nat)(x19:Int)(x20:List Value)=>
      bif ah x16 1 then
       bif !ai (Int.ofNat x17) (ag IntKind.i64 (x19.add x15)) then
        ax (ag IntKind.i64 (x19.add x15)) λx21=>
         ax x19 λx22=>
          bif x21.ble x18&&x22.ble x21 then
           ob (tA w (bif x18.beq x22 then 0 else 0+x22*1) (x21 -x22) (x18 -x22) x20) λx23=>
            x14 x15 x16 x17 x18 (ag IntKind.i64 (x19.add x15)) x23
          else none
       else some (ae x17 (List.drop 0 x20))
      else some (ae x17 (List.drop 0 x20)))
     w (s:Int) o l.length l.length 0 (l.map aX)=some (if o=1 then aj (ib l s (l.length/s*s)) else aj l):=by
 have hs0:0<s:=by omega
 have hs8:s<=8:=by omega
 have hd2:l.length/s<=l.length:=Nat.div_le_self _ _;by_cases h1:o=1
 ·subst h1;have hd:s*(l.length/s)<=l.length:=Nat.mul_div_le _ _;have hd3:l.length<s*(l.length/s)+s:=Nat.lt_mul_div_succ _ hs0;rw[show l.map aX=(ib l s (s*0)).map aX by rw[Nat.mul_zero,YS],az rfl];refine iL (ev:=λi (g:Int->Int->Nat->Nat->Int->List Value->Option Value)=>g (s:Int) 1 l.length l.length ((s*i:Nat):Int) ((ib l s (s*i)).map aX)) (l.length/s) ?_ ?_ (by omega)
  ·intro i g hi;have hle:s*(i+1)<=s*(l.length/s):=Nat.mul_le_mul_left _ hi;have e1:s*(i+1)=s*i+s:=by rw[Nat.mul_add,gD]
   have e2:(((s*i:Nat):Int).add (s:Int))=((s*(i+1):Nat):Int):=by rw[cc,e1];omega
   simp only[e2,show ah 1 1=true from rfl,aE,aV,cf];rw[aO (by omega) (by omega)];have e3:¬((l.length:Int)<((s*(i+1):Nat):Int)):=by omega
   simp only[e3,bN,ft,aE,bQ,fW,yZ];have e4:s*(i+1)<=l.length:=by omega
   have e5:s*i<=s*(i+1):=by omega
   have e6:¬(l.length=s*i):=by omega
   simp only[e4,e5,e6,aY,bN,jW,aE,aF];have hlen:=oU l s (s*i);have:=Np (w:=w) ((ib l s (s*i)).take (s*i)) (((ib l s (s*i)).drop (s*i)).take s) ((ib l s (s*i)).drop (s*i+s)) (by simp;omega) (by simp;omega) (l.length -s*i);rw[<-mM i s,<-YT l hs0 (by rw[mM];omega),mM i s,mM (i+1) s,<-List.drop_drop,lE,lE,dJ,dJ,eS,hlen,kU (by omega),kU (by omega)] at this;rw[show 0+s*i*1=s*i by omega,show s*(i+1) -s*i=s by omega,this];rfl
  ·intro g;simp only[show ah 1 1=true from rfl,aE,aV,cf,cc];rw[aO (by omega) (by omega)];have e3:((l.length:Int)<((s*(l.length/s):Nat):Int)+(s:Int)):=by omega
   simp_all;rw[nL,oU,mM]
 ·rw[ar h1,eA _ _ (by omega)];simp only[bW,h1,bN,aF,dX,nL]
theorem ajU{w:Nat}(l:List UInt8)(hl:l.length<2^29)(hw:l.length+10<=w)(s o:Int):
 GI w (aj l) s o=some (if fQ s o=true\/(s=8/\fQ 1 o=true) then(if o=1 then aj (ib l s.toNat (l.length/s.toNat*s.toNat)) else aj l) else ae 0 []):=by
 unfold GI Me;rw[vn (by omega)];have hr:Nat.ble l.length 1000000000=true:=by rw[gW];omega
 have hr2:Nat.ble l.length l.length=true:=by rw[gW];omega
 have hi:aQ 0 (List.take (l.length*1) (l.map aX)) (List.map aX (List.replicate l.length 0))=l.map aX:=by have:=Ee (l.map aX) (List.map aX (List.replicate l.length 0)) [] [] (by simp);simp only[List.length_nil,gC,dQ] at this;rw[gD,fe (by simp),this]
 have hq:((l.map aX).length.beq (l.length*1)&&(0+l.length*1).ble (List.map aX (List.replicate l.length 0)).length)=true:=by simp
 by_cases hc:¬(fQ s o=true\/(s=8/\fQ 1 o=true))
 ·rw[ar hc];have hm:fQ s o=false:=by cases h:fQ s o<;>simp_all
  simp[aE];by_cases h8:s=8
  ·have hm1:fQ 1 o=false:=by cases h:fQ 1 o<;>simp_all
   simp_all;rw[vn (by omega),hm1];rfl
  ·simp_all
 replace hc:=pU.1 hc;have hs:s=1\/s=2\/s=4\/s=8:=by
  rcases hc with h|h
  ·have:=(sS h).1;omega
  ·omega
 have ho:o=1\/o=2:=by
  rcases hc with h|h
  ·exact(sS h).2
  ·exact(sS h.2).2
 obtain⟨s,rfl⟩:=Int.eq_ofNat_of_zero_le (a:=s) (by omega);have hs0:0<s:=by omega
 have hs8:s<=8:=by omega
 rw[az hc,mI];cases hm:fQ s o;all_goals simp only[aB,bH,ft,aE,aF]
 ·have h8:(s:Int)=8:=by rcases hc with h|h;(rw[hm] at h;cases h);exact h.1
  have hm1:fQ 1 o=true:=by rcases hc with h|h;(rw[hm] at h;cases h);exact h.2
  rw[vn (by omega),hm1,show ah (s:Int) 8=true by rw[h8];rfl];simp only[bH,aF,aB,cw,gY,hr,hr2,jW,aE,s9,iv,Nat.min_self];rw[hq,aE,hi];exact YQ l hl hw s o hs ho
 ·simp only[cw,gY,hr,hr2,jW,aE,s9,iv,Nat.min_self];rw[hq,aE,hi];exact YQ l hl hw s o hs ho
theorem xV(w:Nat)(t:Int):rS w t=some (kindOf t):=by
 by_cases o:t<1\/12<t
 ·rw[Di o];unfold rS;simp only[aV,qe];by_cases h:t<0
  ·rw[az h]
  rw[ar h];by_cases h2:12<t
  ·rw[az h2]
  rw[show t=0 by omega];rfl
 ·have hc:t=1\/t=2\/t=3\/t=4\/t=5\/t=6\/t=7\/t=8\/t=9\/t=10\/t=11\/t=12:=by omega
  rcases hc with rfl|rfl|rfl|rfl|rfl|rfl|rfl|rfl|rfl|rfl|rfl|rfl<;>rfl
theorem zL(t:Int):0<=(kindOf t).1 /\(kindOf t).1 <=8:=by
 by_cases o:t<1\/12<t
 ·rw[Di o];exact⟨by decide,by decide⟩
 ·have hc:t=1\/t=2\/t=3\/t=4\/t=5\/t=6\/t=7\/t=8\/t=9\/t=10\/t=11\/t=12:=by omega
  rcases hc with rfl|rfl|rfl|rfl|rfl|rfl|rfl|rfl|rfl|rfl|rfl|rfl<;>exact⟨by decide,by decide⟩
theorem X8(w:Nat)(t:Int):Bv w t=some (kindOf t).1 :=by unfold Bv;rw[xV];rfl
theorem OL:∀l:List UInt8,qP (l.map aX)=some (l.map λb=>(b.toNat:Int))
 |[]=>rfl
 |b::l=>by show ob (qP (l.map aX)) _=_;rw[OL l];rfl
theorem sw{β:Type}(l:List UInt8)(K:List Int->Option β):kE (aj l) K=K (l.map λb=>(b.toNat:Int)):=by rw[nL];show cond (Nat.ble l.length (l.map aX).length) (ob (qP ((l.map aX).take l.length)) K) none=_;rw[fe (by simp),OL,cZ,show Nat.ble l.length l.length=true by rw[gW];exact aL _];rfl
theorem ZB(l:List UInt8):Lib.bytesOf (l.map λb=>(b.toNat:Int))=l:=by
 unfold Lib.bytesOf;rw[List.map_map]
 conv=>rhs;rw[<-List.map_id l]
 apply List.map_congr_left;simp
theorem Qg(b:UInt8)(l:List UInt8):zj (b::l)=(((b==0)==l.isEmpty)&&zj l):=by
 unfold zj;rw[cm,tQ,List.all_cons,List.all_map]
 grind
theorem Rh:∀l:List UInt8,l≠[]->((Lib.indexByte l 0=(l.length:Int) -1)↔zj l=true)
 |[],h=>absurd rfl h
 |[b],_=>by
  rw[Qg];by_cases hb:b=0
  ·subst hb;decide
  ·simp[hb,Lib.indexByte]
 |b::c::l,_=>by
  rw[Qg];have ih:=Rh (c::l) (by simp);unfold Lib.indexByte;by_cases hb:b=0
  ·subst hb;simp;omega
  ·have hb':(b==0)=false:=by simpa using hb
   simp only[hb',gK,List.isEmpty_cons,BEq.rfl,eD];rw[<-ih];by_cases h1:Lib.indexByte (c::l) 0=-1
   ·simp;omega
   ·have h1':(Lib.indexByte (c::l) 0==-1)=false:=by simpa using h1
    simp only[h1',gK];simp
theorem ajE(w:Nat){l:List UInt8}(h:l≠[]):Br w (aj l) 0=some (Lib.indexByte l 0):=by
 unfold Br;rw[sw,ZB];cases l with
 |nil=>grind
 |cons b l=>rfl
theorem xY(w:Nat)(ty aA:Int)(l:List UInt8)(hl:l.length<2^40):pR w ty aA (aj l)=some (ec ty aA l):=by
 unfold pR ec;rw[xV];have hk:=zL ty;simp;by_cases h1:(kindOf ty).1 =0
 ·simp[h1]
 by_cases h2:aA<1
 ·rw[az h2];have:¬(1<=aA):=by omega
  simp[this]
 rw[ar h2];by_cases h3:65536<aA
 ·rw[az h3];have:¬(aA<=65536):=by omega
  simp[this]
 rw[ar h3];have h5:aA*(kindOf ty).1 <=65536*8:=Int.mul_le_mul (by omega) (by omega) (by omega) (by omega);have h6:0<=aA*(kindOf ty).1 :=Int.mul_nonneg (by omega) (by omega);rw[aO (by omega) (by omega)];by_cases h4:(l.length:Int)=aA*(kindOf ty).1
 ·have h1':(kindOf ty).1 ≠0:=h1;have h2':1<=aA:=by omega
  have h3':aA<=65536:=by omega
  have h0:l≠[]:=by
   rintro rfl
   have:1*1<=aA*(kindOf ty).1 :=Int.mul_le_mul h2' (by omega) (by decide) (by omega);simp at h4;omega
  rw[ajE w h0];simp only[h4,h1',h2',h3',aY,bH,aF,aB,ne_eq,and_self,eD];rw[<-h4,aO (by omega) (by omega)];have:=Rh l h0;by_cases h7:ty=2
  ·subst h7;simp_all
  ·simp[h7]
 ·simp[h4]
theorem RJ(t:Int)(h:(kindOf t).1 ≠0):(kindOf t).2.1 =1\/(kindOf t).2.1 =2\/(kindOf t).2.1 =4\/(kindOf t).2.1 =8:=by obtain⟨s,m,e1,e2,e3⟩:=JM t h;omega
theorem Ya{w:Nat}(ty aA:Int)(l:List UInt8)(hl:l.length<2^29)(hw:l.length+10<=w)(o:Int)(ho:o=1\/o=2):
 Bx w ty aA (aj l) o=some (match oO ty aA l o with|some d=>(ty,aA,aj d,true)|none=>(0,0,ae 0 [],false)):=by
 unfold Bx oO;rw[xV];have hk:=zL ty;simp only[aB,bW,aV,qe,cw,cf,oI];by_cases h1:(kindOf ty).1 =0
 ·simp[h1]
 rw[ar h1];by_cases h2:aA<1
 ·rw[az h2,ar (by omega)]
 rw[ar h2];by_cases h3:65536<aA
 ·rw[az h3,ar (by omega)]
 rw[ar h3];have h5:aA*(kindOf ty).1 <=65536*8:=Int.mul_le_mul (by omega) (by omega) (by omega) (by omega);have h6:0<=aA*(kindOf ty).1 :=Int.mul_nonneg (by omega) (by omega);rw[aO (by omega) (by omega)];by_cases h4:(l.length:Int)<aA*(kindOf ty).1
 ·rw[az h4,ar (by omega)]
 rw[ar h4];have h7:(aA*(kindOf ty).1).toNat<=l.length:=by omega
 simp only[lK h6,fW,h7,il,aY,aE];rw[lM l h7,dX,Nat.sub_zero];have hlen:(l.take (aA*(kindOf ty).1).toNat).length=(aA*(kindOf ty).1).toNat:=by rw[dJ];omega
 rw[ajU _ (by omega) (by omega)];have hc:fQ (kindOf ty).2.1 o=true\/((kindOf ty).2.1 =8/\fQ 1 o=true):=by rcases(RJ ty h1) with h|h|h|h<;>rcases ho with rfl|rfl<;>rw[h]<;>simp[fQ,BY]
 rw[az hc];obtain⟨s,m,e1,e2,e3⟩:=JM ty h1;have hd:(l.take (aA*(kindOf ty).1).toNat).length/(kindOf ty).2.1.toNat*(kindOf ty).2.1.toNat=(l.take (aA*(kindOf ty).1).toNat).length:=by rw[hlen,e1,mI];apply Nat.div_mul_cancel;rw[e2];refine⟨aA.toNat*m,?_⟩;obtain⟨c,rfl⟩:=Int.eq_ofNat_of_zero_le (a:=aA) (by omega);rw[<-Int.natCast_mul,mI,mI,<-Nat.mul_assoc,mM]
 rw[hd];have ht:(if o=1 then aj (ib (l.take (aA*(kindOf ty).1).toNat) (kindOf ty).2.1.toNat (l.take (aA*(kindOf ty).1).toNat).length) else aj (l.take (aA*(kindOf ty).1).toNat))=aj (iM (l.take (aA*(kindOf ty).1).toNat) (kindOf ty).2.1.toNat o):=by unfold iM;split<;>rfl
 rw[ht];simp;rw[xY _ _ _ _ (by rw[vJ];omega)];cases hm:ec ty aA (iM (l.take (aA*(kindOf ty).1).toNat) (kindOf ty).2.1.toNat o) with
 |true=>rw[az ⟨h1,by omega,by omega,by omega,rfl⟩];rfl
 |false=>rw[ar (by simp)];rfl
theorem Sb(ty aA:Int):0<=iU ty aA/\iU ty aA<=65536*8:=by
 unfold iU;have hk:=zL ty;split
 ·simp
 ·exact⟨Int.mul_nonneg (by omega) (by omega),Int.mul_le_mul (by omega) (by omega) (by omega) (by simp)⟩
theorem Ye(w:Nat)(ty aA:Int):BA w ty aA=some (iU ty aA):=by
 have hs:=Sb ty aA;unfold BA;unfold iU at hs⊢;simp;by_cases h1:aA<1
 ·rw[az h1,az (.inl h1)]
 rw[ar h1];by_cases h2:65536<aA
 ·rw[az h2,az (.inr h2)]
 rw[ar h2,ar (by omega),X8];simp;rw[aO (by omega) (by omega)]
theorem X9(w:Nat)(ty aA:Int):Bw w ty aA=some (bK ty aA:Int):=by
 unfold Bw bK;rw[Ye];simp
 grind
theorem ajV(w:Nat)(ty aA:Int):GL w ty aA=some (decide (0<iU ty aA/\iU ty aA<=4)):=by
 unfold GL;rw[Ye];simp;by_cases h:0<iU ty aA
 ·rw[az h];by_cases h2:4<iU ty aA
  ·grind
  grind
 grind
def cW{α:Type}(p:α->Bool)(l:List α):Int:=match l.findIdx? p with
 |some i=>(i:Int)
 |none=>-1
theorem wN{α:Type}(p:α->Bool)(l:List α):cW p l<0↔l.all (λx=>!p x)=true:=by
 unfold cW;cases h:l.findIdx? p with
 |none=>grind
 |some i=>
  obtain⟨hi,h1,-⟩:=List.findIdx?_eq_some_iff_getElem.1 h
  grind
theorem mB{α δ:Type}{z:δ}{F:δ->δ}{w:Nat}(l:List α)(p:α->Bool)(ev:Nat->δ->Option Int)(hs:∀i g (h:i<l.length),ev i (F g)=if p l[i]=true then some (i:Int) else ev (i+1) g)(he:∀g,ev l.length (F g)=some (-1))(hw:l.length<w):
 ev 0 (lp z F w)=some (cW p l):=by
 have key:∀(d i v:Nat),i+d=l.length->d<v->ev i (lp z F v)=some (match(l.drop i).findIdx? p with|some j=>((i+j:Nat):Int)|none=>-1):=by
  intro d;induction d with
  |zero=>
   intro i v hi hv;obtain rfl:i=l.length:=by omega
   rw[eA z F (by omega),he,qT];rfl
  |succ d ih=>
   intro i v hi hv;have hlt:i<l.length:=by omega
   rw[eA z F (by omega),hs i _ hlt,cX hlt,List.findIdx?_cons];by_cases hp:p l[i]=true
   ·rw[az hp,az hp];rfl
   ·grind
 have:=key l.length 0 w (by omega) hw;rw[this,dX];unfold cW;cases l.findIdx? p<;>simp
theorem ajX{w:Nat}(l:List UInt8)(hl:l.length<2^40)(hw:l.length<w):N9 w (aj l)=some (cW (λb=>b !=0) l):=by
 refine mB l (λb=>b !=0) (ev:=λi (g:Value->Int->Int->Option Int)=>g (aj l) l.length i) ?_ ?_ hw
 ·intro i g h;have e1:((i:Int)<(l.length:Int)):=by omega
  simp only[aV,e1,aE,bQ];rw[nQ h];simp only[bh,o9];unfold N6;simp only[bW,cc];rw[aO (by omega) (by omega)];have e2:(decide ((l[i].toNat:Int)=0))=!(l[i]!=0):=by rw[ig];simp[<-nC]
  rw[e2];cases l[i]!=0<;>simp
 ·intro g;simp
theorem ajW{w:Nat}(l:List UInt8)(hl:l.length<2^40)(hw:l.length<w):GM w (aj l)=some (!l.all (·==0)):=by
 unfold GM;rw[ajX l hl hw];simp;have:=wN (λb:UInt8=>b !=0) l
 grind
theorem Lg(n:Int)(o:Int):oP n 4 o=if 0<=n/\n<4294967296 then some (aW n.toNat 4 o) else none:=rfl
def Hf(ty aA slot order:Int):Option (List UInt8×Bool):=
 if 0<=slot/\slot<4294967296/\0<iU ty aA/\iU ty aA<=4 then
  (oO ty aA (aW slot.toNat 4 order) order).map λd=>(d,((aW slot.toNat 4 order).drop d.length).all (·==0))
 else none
theorem acE{ty aA:Int}{b d:List UInt8}{o:Int}(h:oO ty aA b o=some d):d.length<=b.length:=by
 unfold oO at h;split at h
 ·cases h;rw[vJ,dJ];omega
 grind
theorem ajP{w:Nat}(hw:100<=w)(tag ty aA slot o:Int)(ho:o=1\/o=2):
 GG w tag ty aA slot o=some (match Hf ty aA slot o with|some (d,c)=>(ty,aA,aj d,c,true)|none=>(0,0,ae 0 [],false,false)):=by
 unfold GG Hf;rw[rM (by omega),az (by rcases ho with rfl|rfl<;>rfl),show(4:Int).toNat=4 from rfl,Lg,ajV];by_cases h1:¬(0<=slot/\slot<4294967296)
 ·rw[ar h1,ar (by omega)];rfl
 replace h1:=pU.1 h1;rw[az h1];by_cases h2:¬(0<iU ty aA/\iU ty aA<=4)
 ·rw[ar (by omega)];simp[h2]
 simp_all;have hl:(aW slot.toNat 4 o).length=4:=ef _ _ _;rw[Ya ty aA _ (by omega) (by omega) o ho];cases hv:oO ty aA (aW slot.toNat 4 o) o with
 |none=>rfl
 |some d=>simp[(acE hv)];rw[lM _ (aL _),fe (by rw[eS];omega),ajW _ (by rw[eS];omega) (by rw[eS];omega)];simp
theorem GK{w:Nat}(hw:5<=w)(l:List UInt8)(hl:l.length<2^60)(s o p:Int)(ok:Bool)(hp:0<=p/\p<2^60)(hs:0<=s/\s<=8):
 vx w s (aj l) o p ok=some ((oH l p s o).getD 0,aj l,o,p+s,ok&&(oH l p s o).isSome):=by
 unfold vx N8;rw[A8 hw l hl p s o (by omega)];simp;rw[aO (by omega) (by omega)]
 grind
theorem ajM{w:Nat}(hw:5<=w)(l:List UInt8)(hl:l.length<2^50)(p:Nat)(o:Int)(ho:o=1\/o=2):
 GC w (aj l) p o=some (if p+12<=l.length then((ca l p 2 o:Int),(ca l (p+2) 2 o:Int),(ca l (p+4) 4 o:Int),(ca l (p+8) 4 o:Int),true) else(0,0,0,0,false)):=by
 unfold GC;rw[cw];by_cases hp:¬(p+12<=l.length)
 ·by_cases hb:(p:Int)<2^62
  ·rw[GA w ⟨by simp;omega,by simp only[oe];omega⟩ hb];have:¬(0<=(p:Int)/\(0:Int)<=12/\(p:Int)<=Int.ofNat l.length/\(12:Int)<=Int.ofNat l.length -p):=by
    simp;omega
   simp only[aB,this,bN,ft,aE];rw[ar hp]
  ·unfold vv;have e1:¬((p:Int)<0):=by omega
   have e2:Int.ofNat l.length<(p:Int):=by simp;omega
   simp only[aV,e1,e2,bN,aY,ft,bH,aE,aF,show decide ((12:Int)<0)=false from rfl,aB];rw[ar hp]
 replace hp:=pU.1 hp;rw[az hp,GA w ⟨by simp;omega,by simp only[oe];omega⟩ (by omega)];have:(0<=(p:Int)/\(0:Int)<=12/\(p:Int)<=Int.ofNat l.length/\(12:Int)<=Int.ofNat l.length -p):=by simp;omega
 simp_all;have g:∀(k s:Nat),(s=2\/s=4)->k+s<=12->(oH l ((p:Int)+k) s o).isSome=true/\(oH l ((p:Int)+k) s o).getD 0=(ca l (p+k) s o:Int):=by intro k s hs hk;have:=wI (l:=l) (p:=p+k) (s:=s) (by omega) ho (by omega);rw[show((p+k:Nat):Int)=(p:Int)+k by omega] at this;unfold ca;rw[show((p+k:Nat):Int)=(p:Int)+k by omega,this];exact⟨rfl,by simp⟩
 rw[GK hw l (by omega) 2 o p true (by omega) (by omega)];simp;rw[GK hw l (by omega) 2 o _ _ (by omega) (by omega)];simp;rw[GK hw l (by omega) 4 o _ _ (by omega) (by omega)];simp;rw[GK hw l (by omega) 4 o _ _ (by omega) (by omega)];have g0:=g 0 2 (.inl rfl) (by decide);have g1:=g 2 2 (.inl rfl) (by decide);have g2:=g 4 4 (.inr rfl) (by decide);have g3:=g 8 4 (.inr rfl) (by decide);rw[show(p:Int)+((0:Nat):Int)=p by omega] at g0;rw[show(p:Int)+2+2=(p:Int)+4 by omega,show(p:Int)+4+4=(p:Int)+8 by omega];simp at g0 g1 g2 g3;rw[g0.1,g1.1,g2.1,g3.1,g0.2,g1.2,g2.2,g3.2];rfl
def cq(t:aJ):List Value:=[.int .i64 t.tag,.int .i64 t.ty,.int .i64 t.aA,aj t.data]
theorem gI(t:aJ):(cq t).length=4:=rfl
def au(l:List aJ):Value:=aD cq l
def lU(x:im):List Value:=[.int .i64 x.tag,.int .i64 x.shape]
theorem sP(x:im):(lU x).length=2:=rfl
def gx(l:List im):Value:=aD lU l
def jh(s:aZ):List Value:=[gx s.bJ,.int .i64 s.at_,.int .i64 s.cx,.int .i64 s.next]
theorem yr(s:aZ):(jh s).length=4:=rfl
def cg(l:List aZ):Value:=aD jh l
mutual
def cS:aT->List Value
 | .mk tags subs blob=>[au tags,ae (bY subs) (gA subs),aj blob]
def gA:cA->List Value
 | .nil=>[]
 | .cons tag d r=>.int .i64 tag::(cS d++gA r)
end
theorem kH(d:aT):(cS d).length=3:=by cases d;rfl
theorem YE:∀s:cA,(gA s).length=bY s*4
 | .nil=>rfl
 | .cons tag d r=>by show(cS d++gA r).length+1=(bY r+1)*4;rw[aP,kH,YE r];omega
theorem Sc{δ:Type}{z:δ}{F:δ->δ}{w:Nat}(m:Nat)(ok:Nat->Bool)(ev:Nat->δ->Option Bool)(hs:∀i g,i<m->ev i (F g)=if ok i=true then ev (i+1) g else some false)(he:∀g,ev m (F g)=some true)(hw:m<w):
 ev 0 (lp z F w)=some ((List.range m).all ok):=by
 have key:∀(d i v:Nat),i+d=m->d<v->ev i (lp z F v)=some ((List.range d).all λj=>ok (i+j)):=by
  intro d;induction d with
  |zero=>intro i v hi hv;rw[eA z F (by omega),show i=m by omega,he];rfl
  |succ d ih=>
   intro i v hi hv;rw[eA z F (by omega),hs i _ (by omega),tQ];by_cases h:ok i=true
   ·rw[ih (i+1) (v -1) (by omega) (by omega)];simp[h]
    congr 2
    funext j
    congr 1;omega
   ·rw[ar h];simp[h]
 have:=key m 0 w (by omega) hw;simpa using this
theorem ajz{w:Nat}(hw:8<=w)(n:Int):yd w n=some (mH n):=by unfold yd;rw[rM hw];have hm:fQ 2 2=true:=rfl;rw[az hm];unfold oP mH;by_cases h:0<=n/\n<65536<;>simp[h]
theorem F9(w:Nat)(tags:List aJ)(subs:cA)(blob:List UInt8)(h:tags.length+bY subs<2^60):ku w (au tags) (ae (bY subs) (gA subs)) (aj blob)=some (bE (.mk tags subs blob):Int):=by
 unfold ku au bE;simp only[cI,ab4,cw,aV,qe,cf,cc];rw[aO (n:=(tags.length:Int)+(bY subs:Int)) (by omega) (by omega)];by_cases hb:blob.length=0
 ·rw[ar (by omega),az hb];rfl
 ·rw[az (by omega),ar hb,aO (by omega) (by omega)];rfl
theorem ajw{w:Nat}(l:List im)(n:Int)(hl:l.length<2^40)(hw:l.length<w):NL w (gx l) n=some (cW (λx=>x.tag==n) l):=by
 refine mB l (λx=>x.tag==n) (ev:=λi (g:Value->List Value->Int->Int->Option Int)=>g (aD lU l) [.int .i64 n] l.length i) ?_ ?_ hw
 ·intro i g h;simp_all;rw[bu sP h];unfold lU N7;simp only[eV,bh,bP,aB,bW,cc];rw[aO (by omega) (by omega)];by_cases e2:l[i].tag=n<;>grind
 ·intro g;simp
theorem ajO{w:Nat}(l:List im)(n:Int)(hl:l.length<2^40)(hw:l.length<w):Bu w (gx l) n=some (l.any λx=>x.tag==n):=by
 unfold Bu;rw[ajw l n hl hw];simp;have:=wN (λx:im=>x.tag==n) l
 grind
def HF(S:aZ):Prop:=0<=S.at_
theorem ajT{w:Nat}(S:aZ)(n:Int)(hs:HF S)(hl:S.bJ.length<2^40)(hw:S.bJ.length<w):By w (gx S.bJ) S.at_ S.cx S.next n=some (eB S n):=by
 have hs:0<=S.at_:=hs;unfold By eB fq fj;rw[ajO S.bJ n hl hw];simp;by_cases h0:0<S.at_
 ·have h1:S.at_≠0:=by omega
  grind
 grind
theorem ahq(l:List aJ):fE l=(List.range l.length).all λi=>decide (i=0)||decide ((l[i -1]?.getD ⟨0,0,0,[]⟩).tag<(l[i]?.getD ⟨0,0,0,[]⟩).tag):=by
 induction l with
 |nil=>rfl
 |cons a l ih=>
  cases l with
  |nil=>rfl
  |cons b l=>
   show(decide (a.tag<b.tag)&&fE (b::l))=_;rw[ih,cm (a:=a),tQ,cm,tQ];simp
   congr 1
theorem akR(S:aZ)(l:List aJ):jU S l=(List.range l.length).all λi=>(decide (i=0)||decide ((l[i -1]?.getD ⟨0,0,0,[]⟩).tag<(l[i]?.getD ⟨0,0,0,[]⟩).tag))&&(mH (l[i]?.getD ⟨0,0,0,[]⟩).tag&&(!eB S (l[i]?.getD ⟨0,0,0,[]⟩).tag&&ec (l[i]?.getD ⟨0,0,0,[]⟩).ty (l[i]?.getD ⟨0,0,0,[]⟩).aA (l[i]?.getD ⟨0,0,0,[]⟩).data)):=by
 unfold jU;rw[ahq,ig];simp;constructor
 ·grind
 ·intro h;refine⟨λi hi=>(h i hi).1,λx hx=>?_⟩;obtain⟨i,hi,rfl⟩:=List.getElem_of_mem hx
  grind
theorem ajH{w:Nat}(S:aZ)(l:List aJ)(X Y Z:Value)(hs:HF S)(hS:S.bJ.length<2^40)(hl:l.length<2^40)(hd:∀t∈l,t.data.length<2^40)(hw:S.bJ.length+l.length+10<=w):
 Gw w X (au l) Y Z (gx S.bJ) S.at_ S.cx S.next=some (jU S l):=by
 unfold Gw au;rw[cI,akR];refine Sc l.length _ (ev:=λi (g:Value->Int->Int->Value->Value->Value->Value->Int->Int->Int->Option Bool)=>g (aD cq l) l.length i (aD cq l) Y Z (gx S.bJ) S.at_ S.cx S.next) ?_ ?_ (by omega)
 ·intro i g h;have e1:((i:Int)<(l.length:Int)):=by omega
  simp only[aV,e1,aY,aE,bQ];rw[bu gI h,cN h];have hdi:=hd _ (cG h);have tg:∀(t:aJ)(r:List Value),cq t++r=.int .i64 t.tag::.int .i64 t.ty::.int .i64 t.aA::aj t.data::r:=λ_ _=>rfl;simp only[tg,bh,bP,cc,iT,qb];rw[ajz (by omega),aO (n:=(i:Int)+1) (by omega) (by omega)];simp only[aB];rw[ajT S _ hs hS (by omega),xY w _ _ _ hdi];simp only[aB];have fin:∀a b:Bool,(cond a (some false) (cond (!b) (some false) (g (aD cq l) (l.length:Int) ((i:Int)+1) (aD cq l) Y Z (gx S.bJ) S.at_ S.cx S.next)))=if(!a&&b)=true then g (aD cq l) (l.length:Int) ((i+1:Nat):Int) (aD cq l) Y Z (gx S.bJ) S.at_ S.cx S.next else some false:=by intro a b;cases a<;>cases b<;>rfl
  rcases Bool.eq_false_or_eq_true (mH l[i].tag) with ht|ht
  ·simp only[ht,bH,aF,eD];by_cases h0:i=0
   ·have e2:¬((0:Int)<(i:Int)):=by omega
    have e3:decide (i=0)=true:=by simp[h0]
    simp only[e2,bN,aF,fin,e3,Bool.true_or,eD]
   ·have e2:((0:Int)<(i:Int)):=by omega
    rw[aO (n:=(i:Int) -1) (by omega) (by omega),lK (by omega),show((i:Int) -1).toNat=i -1 by omega];rw[bu gI (show i -1<l.length by omega)];simp_all;by_cases h3:l[i -1].tag<l[i].tag<;>grind
  ·simp_all
 ·intro g;have e1:¬((l.length:Int)<(l.length:Int)):=by omega
  simp
def aN:cA->List (Int×aT)
 | .nil=>[]
 | .cons tag d r=>(tag,d)::aN r
def dT:aT->Value
 | .mk tags _ _=>au tags
def dS:aT->Value
 | .mk _ subs _=>ae (bY subs) (gA subs)
def dB:aT->Value
 | .mk _ _ blob=>aj blob
theorem py(d:aT):cS d=[dT d,dS d,dB d]:=by cases d;rfl
def fU(p:Int×aT):List Value:=.int .i64 p.1 ::cS p.2
theorem tI(p:Int×aT):(fU p).length=4:=by unfold fU;rw[cm,kH]
theorem tK:∀s:cA,(aN s).length=bY s
 | .nil=>rfl
 | .cons _ _ r=>by show(aN r).length+1=bY r+1;rw[tK r]
theorem OB:∀s:cA,gA s=(aN s).flatMap fU
 | .nil=>rfl
 | .cons t d r=>by show Value.int .i64 t::(cS d++gA r)=(Value.int .i64 t::cS d)++(aN r).flatMap fU;rw[OB r];rfl
theorem BU(s:cA):ae (bY s) (gA s)=aD fU (aN s):=by unfold aD;rw[tK,OB]
mutual
def iq(m:Nat):aT->Prop
 | .mk tags subs blob=>tags.length<=m/\bY subs<=m/\blob.length<=m/\(∀t∈tags,t.data.length<=m)/\ir m subs
def ir(m:Nat):cA->Prop
 | .nil=>True
 | .cons _ d r=>iq m d/\ir m r
end
theorem we{m:Nat}:∀{s:cA},ir m s->∀p∈aN s,iq m p.2
 | .nil,_,p,h=>by cases h
 | .cons t d r,h,p,hp=>by
  rcases cO.1 hp with rfl|hp
  ·exact h.1
  ·exact we h.2 p hp
theorem CQ:∀{s:cA},∀p∈aN s,fP p.2 <=jJ s
 | .nil,p,h=>by cases h
 | .cons t d r,p,hp=>by
  rcases cO.1 hp with rfl|hp
  ·exact Nat.le_max_left _ _
  ·exact fG (CQ p hp) (Nat.le_max_right _ _)
theorem ajs{w:Nat}(l:List im)(n:Int)(a b c:Value)(hl:l.length<2^40)(hw:l.length<w):NM w (gx l) n a b c=some (cW (λx=>x.tag==n) l):=by
 refine mB l (λx=>x.tag==n) (ev:=λi (g:Value->List Value->Int->Int->Option Int)=>g (aD lU l) [.int .i64 n,a,b,c] l.length i) ?_ ?_ hw
 ·intro i g h;simp_all;rw[bu sP h];unfold lU NZ;rw[aO (by omega) (by omega)];simp
 simp
theorem JR(S:aZ)(n:Int):(cW (λx:im=>x.tag==n) S.bJ<0/\fj S n=false)\/
 ∃k,∃h:k<S.bJ.length,cW (λx:im=>x.tag==n) S.bJ=(k:Int)/\fj S n=true/\(lk S n).getD 0=(S.bJ[k]).shape.toNat:=by
 unfold fj lk cW;cases h:S.bJ.findIdx? (λx=>x.tag==n) with
 |none=>left;refine⟨by decide,?_⟩;rw[List.findIdx?_eq_none_iff] at h;rw[Bool.eq_false_iff];intro q;obtain⟨x,hx,e⟩:=List.any_eq_true.1 q;rw[h x hx] at e;cases e
 |some k=>
  right;obtain⟨hk,h1,h2⟩:=List.findIdx?_eq_some_iff_getElem.1 h;refine⟨k,hk,rfl,List.any_eq_true.2 ⟨_,cG hk,h1⟩,?_⟩;have:S.bJ.find? (λx=>x.tag==n)=some S.bJ[k]:=by rw[List.find?_eq_some_iff_getElem];exact⟨h1,k,hk,rfl,λj hj=>by have:=h2 j hj;simpa using this⟩
  rw[this];rfl
theorem ahp(l:List Int):nu l=(List.range l.length).all λi=>decide (i=0)||decide ((l[i -1]?.getD 0)<(l[i]?.getD 0)):=by
 induction l with
 |nil=>rfl
 |cons a l ih=>
  cases l with
  |nil=>rfl
  |cons b l=>
   show(decide (a<b)&&nu (b::l))=_;rw[ih,cm (a:=a),tQ,cm,tQ];simp
   congr 1
theorem YD:∀s:cA,kO s=(aN s).map Prod.fst
 | .nil=>rfl
 | .cons t d r=>by show t::kO r=t::(aN r).map Prod.fst;rw[YD r]
theorem QY(sh:List aZ)(S:aZ):∀s:cA,iS sh S s=(aN s).all λp=>fj S p.1 &&cD sh ((lk S p.1).getD 0) p.2
 | .nil=>by simp[iS,aN]
 | .cons t d r=>by simp only[iS,aN,List.all_cons];rw[QY sh S r,Bool.and_assoc]
def wV:Int×aT:=(0,.mk [] .nil [])
theorem aa3(sh:List aZ)(S:aZ)(s:cA):(nu (kO s)&&iS sh S s)=(List.range (aN s).length).all λi=>
 (decide (i=0)||decide (((aN s)[i -1]?.getD wV).1 <((aN s)[i]?.getD wV).1))&&(fj S ((aN s)[i]?.getD wV).1 &&cD sh ((lk S ((aN s)[i]?.getD wV).1).getD 0) ((aN s)[i]?.getD wV).2):=by
 rw[ahp,QY,YD,cZ,ig];simp only[bq,ij,List.mem_range];have hf:∀i:Nat,((List.map Prod.fst (aN s))[i]?).getD 0=((aN s)[i]?.getD wV).1 :=by intro i;rw[List.getElem?_map];cases(aN s)[i]? <;>rfl
 simp only[hf];constructor
 ·grind
 ·intro h;refine⟨λi hi=>(h i hi).1,λx hx=>?_⟩;obtain⟨i,hi,rfl⟩:=List.getElem_of_mem hx
  grind
theorem akC{w m:Nat}(hm:m<2^38)(hw:2*m+100<=w)(sh:List aZ)(hsh:iQ sh)(hl:∀s,s<sh.length->(aM sh s).bJ.length<=m)(rec:Value->Value->Value->Value->Int->Option Bool)
 (d:aT) (s:Nat) (hs:s<sh.length) (hd:iq m d) (hrec:∀p∈aN (match d with| .mk _ subs _=>subs),∀k:Nat,k<sh.length->rec (cg sh) (dT p.2) (dS p.2) (dB p.2) (k:Int)=some (cD sh k p.2)):
 G5 w rec (cg sh) (dT d) (dS d) (dB d) (s:Int)=some (cD sh s d):=by
 obtain⟨tags,subs,blob⟩:=d;have hd:tags.length<=m/\bY subs<=m/\blob.length<=m/\(∀t∈tags,t.data.length<=m)/\ir m subs:=hd;have hS:sh[s]=aM sh s:=by unfold aM;rw[cN hs];rfl
 have hp:HF (aM sh s):=by
  have:=(hsh.ok s).pair;show 0<=(aM sh s).at_;by_cases q:(aM sh s).at_=0
  ·omega
  ·have:=this q;omega
 have hln:=hl s hs;unfold G5 cg cD Mc;simp only[dT,dS,dB,bQ];rw[bu yr hs,hS];have tg:∀(S:aZ)(r:List Value),jh S++r=gx S.bJ::.int .i64 S.at_::.int .i64 S.cx::.int .i64 S.next::r:=λ_ _=>rfl;simp only[tg,bh,bP];rw[F9 w tags subs blob (by omega),ajH (aM sh s) tags _ _ _ hp (by omega) (by omega) (λt ht=>by have:=hd.2.2.2.1 t ht;omega) (by omega)];simp only[aB,aV,qe,bW];generalize hE:bE (.mk tags subs blob)=E;by_cases h1:(E:Int)<1
 ·rw[az h1];have:¬(1<=E/\E<=65535):=by omega
  simp[this]
 rw[ar h1];by_cases h2:65535<(E:Int)
 ·rw[az h2];have:¬(1<=E/\E<=65535):=by omega
  simp[this]
 rw[ar h2];have h3:(1<=E/\E<=65535):=by omega
 simp only[h3,and_self,aY,eD];rcases Bool.eq_false_or_eq_true (jU (aM sh s) tags) with ht|ht
 ·simp only[ht,bH,aF,eD];rw[cw];have sg:∀(p:Int×aT)(r:List Value),fU p++r=.int .i64 p.1 ::dT p.2 ::dS p.2 ::dB p.2 ::r:=by
   intro p r;unfold fU;rw[py];rfl
  have hsl:=tK subs;have fin:∀(b:Bool)(x y:Option Bool),(cond (!b) x y)=if b=true then y else x:=by intro b x y;cases b<;>rfl
  by_cases hb:blob.length=0
  case' pos=>rw[ar (by simp only[oe];omega)];simp only[hb,aY,Bool.true_or,eD]
  case' neg=>
   rw[az (by simp only[oe];omega)];by_cases ha:(aM sh s).at_=0
   case pos=>rw[az ha];simp[hb,ha]
   rw[ar ha];simp only[hb,ha,bN,ne_eq,not_false_eq_true,aY,Bool.or_true,eD]
  all_goals
   rw[BU,cI,aa3];refine Sc (aN subs).length _ (ev:=λi (g:Value->Int->Int->Value->Value->Value->Value->Value->Int->Int->Int->Option Bool)=>g (aD fU (aN subs)) (aN subs).length i (aD jh sh) (au tags) (aD fU (aN subs)) (aj blob) (gx (aM sh s).bJ) (aM sh s).at_ (aM sh s).cx (aM sh s).next) ?_ ?_ (by omega)
   ·intro i g h;have e1:((i:Int)<((aN subs).length:Int)):=by omega
    simp only[e1,dW,bQ];rw[bu tI h,cN h];simp only[sg,bh,bP,cc,iT,qb];rw[ajs _ _ _ _ _ (by omega) (by omega)];simp only[aB];rcases JR (aM sh s) (aN subs)[i].1 with⟨hn,hb0⟩|⟨k,hk,e,hb1,e2⟩
    ·rw[az hn];simp only[hb0,Bool.false_and,Bool.and_false,kx,gK]
    ·rw[e,ar (by omega)];have hmem:=cG (l:=(aM sh s).bJ) hk;have hlk:=hsh.bJ s hs _ hmem;have hr:=hrec _ (cG h) ((aM sh s).bJ[k]).shape.toNat (by omega);rw[mj (by omega)] at hr;have lg:∀(x:im)(r:List Value),(lU x++r).drop 1=.int .i64 x.shape::r:=λ_ _=>rfl;rw[aO (n:=(i:Int)+1) (by omega) (by omega)];unfold gx;simp only[bQ];rw[bu sP hk];simp only[lg,bh,bP];unfold cg at hr;rw[hr];simp only[aB,fin,hb1,eD,e2];by_cases h0:i=0
     ·have e3:decide (i=0)=true:=by simp[h0]
      rw[ar (by omega)];simp only[e3,Bool.true_or,eD];rfl
     ·rw[az (by omega),aO (n:=(i:Int) -1) (by omega) (by omega),lK (by omega),show((i:Int) -1).toNat=i -1 by omega];rw[bu tI (show i -1<(aN subs).length by omega),cN (show i -1<(aN subs).length by omega)];simp only[dX,sg,bh,bP,qb];by_cases h3:(aN subs)[i -1].1 <(aN subs)[i].1
      ·simp only[h3,aY,dW,Bool.or_true,eD];rfl
      ·simp only[h3,bN,h0,Bool.or_self,Bool.false_and,kx,gK]
   ·intro g;have e1:¬(((aN subs).length:Int)<((aN subs).length:Int)):=by omega
    simp only[e1,gK]
 ·simp only[ht,ft,aE,Bool.false_and]
theorem QZ{w m:Nat}(hm:m<2^38)(hw:2*m+100<=w)(sh:List aZ)(hsh:iQ sh)(hl:∀s,s<sh.length->(aM sh s).bJ.length<=m)(z:Value->Value->Value->Value->Int->Option Bool):
 ∀(n:Nat)(d:aT)(s:Nat),fP d<=n->s<sh.length->iq m d->lQ z (G5 w) n (cg sh) (dT d) (dS d) (dB d) (s:Int)=some (cD sh s d)
 |0,d,s,h,_,_=>by obtain⟨tags,subs,blob⟩:=d;unfold fP at h;omega
 |n+1,d,s,h,hs,hd=>by refine akC hm hw sh hsh hl _ d s hs hd ?_;obtain⟨tags,subs,blob⟩:=d;intro p hp k hk;have hp:p∈aN subs:=hp;have:=CQ p hp;unfold fP at h;exact QZ hm hw sh hsh hl z n p.2 k (by omega) hk (we hd.2.2.2.2 p hp)
theorem ajl{w m:Nat}(hm:m<2^38)(hw:2*m+100<=w)(sh:List aZ)(hsh:iQ sh)(hl:∀s,s<sh.length->(aM sh s).bJ.length<=m)(d:aT)(s:Nat)(hs:s<sh.length)(hd:iq m d)(jM:fP d<=w):
 NJ w (cg sh) (dT d) (dS d) (dB d) (s:Int)=some (cD sh s d):=QZ hm hw sh hsh hl _ w d s jM hs hd
def bV(x:bn):List Value:=[.int .i64 x.nz,.int .i64 x.dir,.int .i64 x.tag,.int .i64 x.at_,.int .i64 x.cx]
theorem BP(x:bn):(bV x).length=5:=rfl
theorem uq(n:Nat):aI n<=n+1:=by unfold aI;omega
theorem Uw(ty aA:Int):bK ty aA<=524288:=by
 have:=Sb ty aA;unfold bK
 grind
theorem NH(w:Nat)(nz dir tag no:Int){n e:Nat}(hn:n<2^50)(he:e<2^50)(c:List Value)(hc:c.length<=1000000000):
 vu w nz dir tag n e no c=some (((aI e+n:Nat):Int),no,c++bV ⟨nz,dir,tag,aI e,n⟩):=by
 have hv:=uq e;unfold vu NY;rw[ajS w (by omega)];simp;rw[aO (by omega) (by omega)];simp_all;rfl
theorem IM(t:aJ):∀(l:List aJ)(e:Nat),bZ e (l++[t])=if bK t.ty t.aA=0 then bZ e l else aI (bZ e l)+bK t.ty t.aA
 |[],e=>rfl
 |a::l,e=>by show(if bK a.ty a.aA=0 then bZ e (l++[t]) else bZ (aI e+bK a.ty a.aA) (l++[t]))=_;rw[IM t l e,IM t l (aI e+bK a.ty a.aA)];by_cases h:bK a.ty a.aA=0<;>simp[bZ,h]
theorem Yv(no:Nat)(t:aJ):∀(l:List aJ)(e:Nat),cU no e (l++[t])=cU no e l++(if bK t.ty t.aA=0 then[] else[⟨3,no,t.tag,aI (bZ e l),bK t.ty t.aA⟩])
 |[],e=>by simp[cU,bZ]
 |a::l,e=>by by_cases h:bK a.ty a.aA=0<;>simp[cU,bZ,h,Yv no t l]
theorem IL{K:Nat}(hK:524289<=K):∀(l:List aJ)(e:Nat),bZ e l<=e+l.length*K
 |[],e=>Nat.le_add_right _ _
 |a::l,e=>by
  have h1:=IL hK l e;have h2:=IL hK l (aI e+bK a.ty a.aA);have h3:=uq e;have h4:=Uw a.ty a.aA;have h5:(a::l).length*K=l.length*K+K:=by rw[cm,Nat.succ_mul]
  unfold bZ
  grind
theorem aao(l:List aJ)(e:Nat):bZ e l<=e+l.length*600000:=IL (by simp) l e
theorem Ox(no:Nat):∀(l:List aJ)(e:Nat),(cU no e l).length<=l.length
 |[],e=>by simp[cU]
 |a::l,e=>by
  have h1:=Ox no l e;have h2:=Ox no l (aI e+bK a.ty a.aA);unfold cU
  grind
theorem aks(no:Nat)(l:List aJ)(e i:Nat):(cU no e (l.take i)).length<=(cU no e l).length:=by
 have:∀(a b:List aJ)(e:Nat),cU no e (a++b)=cU no e a++cU no (bZ e a) b:=by
  intro a;induction a with
  |nil=>intro b e;rfl
  |cons p a ih=>intro b e;by_cases h:bK p.ty p.aA=0<;>simp[cU,bZ,h,ih]
 rw[<-lE i l,this];simp
theorem vC(l:List bn):(l.flatMap bV).length=l.length*5:=dc BP l
theorem ajG{w:Nat}(l:List aJ)(X Y:Value)(no:Nat)(k:Int){e:Nat}(c:List Value)(he:e+l.length*600000<2^50)(hc:c.length+(cU no e l).length*5<=1000000000)(hw:l.length<w):
 Gv w (au l) X Y no e k c=some ((bZ e l:Int),k,c++(cU no e l).flatMap bV):=by
 unfold Gv au;rw[cI];have s0:c=c++(cU no e (l.take 0)).flatMap bV:=by simp[cU]
 conv=>lhs;rw[s0]
 refine iL (ev:=λi (g:Int->Value->Int->Int->Int->Int->List Value->Option (Int×Int×List Value))=>g no (aD cq l) l.length i (bZ e (l.take i):Nat) k (c++(cU no e (l.take i)).flatMap bV)) l.length ?_ ?_ hw
 ·intro i g h;have e1:((i:Int)<(l.length:Int)):=by omega
  simp[e1];rw[bu gI h];have tg:∀(t:aJ)(r:List Value),cq t++r=.int .i64 t.tag::.int .i64 t.ty::.int .i64 t.aA::aj t.data::r:=λ_ _=>rfl;simp[tg];rw[X9,aO (n:=(i:Int)+1) (by omega) (by omega)];simp only[aB];rw[iO h,IM,Yv];have hlt:(l.take i).length<=l.length:=by rw[dJ];omega
  have b1:=aao (l.take i) e;have b2:=aks no l e i;have b3:=Uw l[i].ty l[i].aA;by_cases h0:bK l[i].ty l[i].aA=0
  ·simp only[h0,aF,dW,dQ];rfl
  ·have e2:((0:Int)<((bK l[i].ty l[i].aA:Nat):Int)):=by omega
   simp only[e2,aY,aE,h0,gK];rw[NH w 3 no l[i].tag k (by omega) (by omega) _ (by rw[aP,vC];omega)];simp only[aB,fu,dL,lD,dQ,dO];rfl
 ·intro g;simp
def gQ(e:Nat):List (Int×aT)->Nat
 |[]=>e
 |p::l=>gQ (bt e p.2) l
def fO:List (Int×aT)->Nat
 |[]=>0
 |p::l=>dw p.2 +fO l
def fS(no e:Nat):List (Int×aT)->List bn
 |[]=>[]
 |p::l=>fR no e p.2 ++fS (no+dw p.2) (bt e p.2) l
theorem IK:∀(s:cA)(e:Nat),ea e s=gQ e (aN s)
 | .nil,e=>by simp[ea,aN,gQ]
 | .cons t d r,e=>by simp[ea,aN,gQ,IK r]
theorem Iz:∀(s:cA),gX s=fO (aN s)
 | .nil=>by simp[gX,aN,fO]
 | .cons t d r=>by simp[gX,aN,fO,Iz r]
theorem G0:∀(s:cA)(no e:Nat),kv no e s=fS no e (aN s)
 | .nil,no,e=>by simp[kv,aN,fS]
 | .cons t d r,no,e=>by simp[kv,aN,fS,G0 r]
theorem Qd(p:Int×aT):∀(l:List (Int×aT))(e:Nat),gQ e (l++[p])=bt (gQ e l) p.2
 |[],e=>rfl
 |a::l,e=>Qd p l (bt e a.2)
theorem PQ(p:Int×aT):∀(l:List (Int×aT)),fO (l++[p])=fO l+dw p.2
 |[]=>by simp[fO]
 |a::l=>by simp[fO,PQ p l,p9]
theorem Yt(p:Int×aT):∀(l:List (Int×aT))(no e:Nat),fS no e (l++[p])=fS no e l++fR (no+fO l) (gQ e l) p.2
 |[],no,e=>by simp[fS,fO,gQ]
 |a::l,no,e=>by simp[fS,fO,gQ,Yt p l,p9]
theorem CV:∀(l:List (Int×aT))(e:Nat),e<=gQ e l
 |[],_=>aL _
 |p::l,e=>fG (zh p.2 e) (CV l (bt e p.2))
theorem aan(l:List (Int×aT))(e i:Nat):gQ e (l.take i)<=gQ e l:=by
 have:∀(a b:List (Int×aT))(e:Nat),gQ e (a++b)=gQ (gQ e a) b:=by
  intro a;induction a with
  |nil=>intro b e;rfl
  |cons p a ih=>intro b e;exact ih b (bt e p.2)
 conv=>rhs;rw[<-lE i l,this]
 exact CV _ _
theorem ZV(l:List (Int×aT))(i:Nat):fO (l.take i)<=fO l:=by
 have:∀(a b:List (Int×aT)),fO (a++b)=fO a+fO b:=by
  intro a;induction a with
  |nil=>simp[fO]
  |cons p a ih=>intro b;simp[fO,ih b,p9]
 rw[<-lE i l,this];simp
theorem akp(l:List (Int×aT))(no e i:Nat):(fS no e (l.take i)).length<=(fS no e l).length:=by
 have:∀(a b:List (Int×aT))(no e:Nat),fS no e (a++b)=fS no e a++fS (no+fO a) (gQ e a) b:=by
  intro a;induction a with
  |nil=>simp[fS,fO,gQ]
  |cons p a ih=>intro b no e;simp[fS,fO,gQ,ih b,p9]
 rw[<-lE i l,this];simp
theorem akB{w m:Nat}(hm:m<2^28)(hw:2*m+100<=w)(rec:Value->Value->Value->Int->Int->List Value->Option (Int×Int×List Value))(d:aT)(no e:Nat)(c:List Value)(he:bt e d<2^49)(hno:no+dw d<2^50)
 (hc:c.length+(fR no e d).length*5<=1000000000) (hd:iq m d)
 (hrec:∀p∈aN (match d with| .mk _ subs _=>subs),∀(no' e':Nat)(c':List Value),bt e' p.2 <2^49->no'+dw p.2 <2^50->c'.length+(fR no' e' p.2).length*5<=1000000000->rec (dT p.2) (dS p.2) (dB p.2) e' no' c'=some ((bt e' p.2 :Int),((no'+dw p.2 :Nat):Int),c'++(fR no' e' p.2).flatMap bV)):
 G4 w rec (dT d) (dS d) (dB d) e no c=some ((bt e d:Int),((no+dw d:Nat):Int),c++(fR no e d).flatMap bV):=by
 obtain⟨tags,subs,blob⟩:=d;have hd:tags.length<=m/\bY subs<=m/\blob.length<=m/\(∀t∈tags,t.data.length<=m)/\ir m subs:=hd;have hE:bE (.mk tags subs blob)<=2*m+2:=by show tags.length+bY subs+(if blob.length=0 then 0 else 2)<=2*m+2;split<;>omega
 unfold dw at hno⊢;rw[Iz] at hno⊢;unfold bt at he⊢;unfold fR at hc⊢;simp only[G0] at hc⊢;simp only[IK] at he hc⊢;unfold G4;simp only[dT,dS,dB];rw[F9 w tags subs blob (by omega)];simp only[aB,oI,cc];generalize bE (.mk tags subs blob)=E at he hc hE⊢;rw[aO (n:=12*(E:Int)) (by omega) (by omega),aO (n:=2+12*(E:Int)) (by omega) (by omega),aO (n:=2+12*(E:Int)+4) (by omega) (by omega),aO (n:=(no:Int)+1) (by omega) (by omega)];rw[show(2:Int)+12*(E:Int)+4=((6+12*E:Nat):Int) by omega,show(no:Int)+1=((no+1:Nat):Int) by omega];have v1:=uq e;have v0:e<=aI e:=by unfold aI;omega
 have g1:=qf tags (aI e+(6+12*E));have g2:=CV (aN subs) (bZ (aI e+(6+12*E)) tags);have g3:gQ (bZ (aI e+(6+12*E)) tags) (aN subs)<2^49:=by
  by_cases q:blob.length=0
  ·rw[az q] at he;exact he
  ·rw[ar q] at he;have:∀n:Nat,n<=aI n:=λn=>by unfold aI;omega
   have:=this (gQ (bZ (aI e+(6+12*E)) tags) (aN subs));omega
 rw[NH w 2 no 0 _ (by omega) (by omega) c (by omega)];simp only[aB];simp only[cm,aP] at hc;rw[ajG tags _ _ no _ _ (by omega) (by rw[aP,BP];omega) (by omega)];simp only[aB];rw[BU,cI];have sg:∀(p:Int×aT)(r:List Value),fU p++r=.int .i64 p.1 ::dT p.2 ::dS p.2 ::dB p.2 ::r:=by intro p r;unfold fU;rw[py];rfl
 have hsl:=tK subs;generalize hE2:bZ (aI e+(6+12*E)) tags=E2 at*;generalize hC:c++bV ⟨2,no,0,aI e,6+12*E⟩++(cU no (aI e+(6+12*E)) tags).flatMap bV=C;have hCl:C.length=c.length+5+(cU no (aI e+(6+12*E)) tags).length*5:=by rw[<-hC,aP,aP,vC];rfl
 have s0:C=C++(fS (no+1) E2 ((aN subs).take 0)).flatMap bV:=by simp[fS]
 conv=>lhs;rw[s0]
 refine iL (ev:=λi (g:Int->Value->Int->Int->Int->Int->Value->Value->Value->List Value->Option (Int×Int×List Value))=>g no (aD fU (aN subs)) (aN subs).length i (gQ E2 ((aN subs).take i):Nat) ((no+1+fO ((aN subs).take i):Nat):Int) (au tags) (aD fU (aN subs)) (aj blob) (C++(fS (no+1) E2 ((aN subs).take i)).flatMap bV)) (aN subs).length ?_ ?_ (by omega)
 ·intro i g h;have e1:((i:Int)<((aN subs).length:Int)):=by omega
  simp only[aV,e1,aY,aE,bQ];rw[bu tI h];simp only[sg,bh,bP];have k1:=aan (aN subs) E2 (i+1);have k2:=ZV (aN subs) (i+1);have k3:=akp (aN subs) (no+1) E2 (i+1);rw[iO h] at k1 k2 k3⊢;rw[Qd] at k1⊢;rw[PQ] at k2⊢;rw[Yt] at k3⊢;rw[aP] at k3;rw[hrec _ (cG h) (no+1+fO ((aN subs).take i)) (gQ E2 ((aN subs).take i)) _ (by omega) (by omega) (by rw[aP,vC];omega)];simp only[aB];rw[aO (n:=(i:Int)+1) (by omega) (by omega),fu,<-dO,p9 (no+1)];rfl
 ·intro g;have e1:¬(((aN subs).length:Int)<((aN subs).length:Int)):=by omega
  simp only[aV,e1,bN,aF,oZ,cw,cf];have hcs:c++(⟨2,no,0,aI e,6+12*E⟩::(cU no (aI e+(6+12*E)) tags++(fS (no+1) E2 (aN subs)++(if blob.length=0 then[] else[⟨4,no,0,aI (gQ E2 (aN subs)),blob.length⟩]:List bn)))).flatMap bV=C++(fS (no+1) E2 (aN subs)).flatMap bV++(if blob.length=0 then[] else[⟨4,no,0,aI (gQ E2 (aN subs)),blob.length⟩]:List bn).flatMap bV:=by rw[<-hC];simp[dL,fu,dO]
  rw[hcs];by_cases hb:blob.length=0
  ·simp only[hb,show decide ((0:Int)<((0:Nat):Int))=false from rfl,aF,dW,lD,dQ,p9];rw[Nat.add_comm 1]
  ·have e2:((0:Int)<(blob.length:Int)):=by omega
   simp only[e2,aY,aE,hb,gK];simp only[hb,gK,cm,List.length_nil] at hc;rw[NH w 4 no 0 _ (by omega) (by omega) _ (by rw[aP,vC];omega)];simp only[aB,dL,lD,dQ,p9];rw[Nat.add_comm 1]
theorem P6{w m:Nat}(hm:m<2^28)(hw:2*m+100<=w)(z:Value->Value->Value->Int->Int->List Value->Option (Int×Int×List Value)):
 ∀(n:Nat)(d:aT)(no e:Nat)(c:List Value),fP d<=n->bt e d<2^49->no+dw d<2^50->c.length+(fR no e d).length*5<=1000000000->iq m d->
  lQ z (G4 w) n (dT d) (dS d) (dB d) e no c=some ((bt e d:Int),((no+dw d:Nat):Int),c++(fR no e d).flatMap bV)
 |0,d,no,e,c,h,_,_,_,_=>by obtain⟨tags,subs,blob⟩:=d;unfold fP at h;omega
 |n+1,d,no,e,c,h,he,hno,hc,hd=>by refine akB hm hw _ d no e c he hno hc hd ?_;obtain⟨tags,subs,blob⟩:=d;intro p hp no' e' c' h1 h2 h3;have hp:p∈aN subs:=hp;have:=CQ p hp;unfold fP at h;exact P6 hm hw z n p.2 no' e' c' (by omega) h1 h2 h3 (we hd.2.2.2.2 p hp)
theorem ajk{w m:Nat}(hm:m<2^28)(hw:2*m+100<=w)(d:aT)(no e:Nat)(c:List Value)(jM:fP d<=w)(he:bt e d<2^49)(hno:no+dw d<2^50)(hc:c.length+(fR no e d).length*5<=1000000000)(hd:iq m d):
 NI w (dT d) (dS d) (dB d) e no c=some ((bt e d:Int),((no+dw d:Nat):Int),c++(fR no e d).flatMap bV):=P6 hm hw _ w d no e c jM he hno hc hd
theorem aha(n:Int)(o:Int):oP n 2 o=if 0<=n/\n<65536 then some (aW n.toNat 2 o) else none:=rfl
theorem ajy{w:Nat}(hw:8<=w)(a b c d o:Int)(ho:o=1\/o=2):Gm w a b c d o=some (if(0<=a/\a<65536)/\(0<=b/\b<65536)/\(0<=c/\c<4294967296)/\(0<=d/\d<4294967296) then(aj (aW a.toNat 2 o++(aW b.toNat 2 o++(aW c.toNat 4 o++aW d.toNat 4 o))),true) else(ae 0 [],false)):=by
 have m4:fQ 4 o=true:=by rcases ho with rfl|rfl<;>rfl
 have p2:∀n:Int,ia w n 2 o=some (if 0<=n/\n<65536 then(aj (aW n.toNat 2 o),true) else(ae 0 [],false)):=by intro n;rw[rM hw,az (by rcases ho with rfl|rfl<;>rfl),show(2:Int).toNat=2 from rfl,aha];by_cases h:0<=n/\n<65536<;>grind
 have p4:∀n:Int,ia w n 4 o=some (if 0<=n/\n<4294967296 then(aj (aW n.toNat 4 o),true) else(ae 0 [],false)):=by intro n;rw[rM hw,az m4,show(4:Int).toNat=4 from rfl,Lg];by_cases h:0<=n/\n<4294967296<;>grind
 have fl:∀(l:List UInt8),(l.flatMap pg).length=l.length:=λl=>by rw[iv,cZ]
 have l2:∀n:Int,(aW n.toNat 2 o).length=2:=λn=>ef _ _ _;have l4:∀n:Int,(aW n.toNat 4 o).length=4:=λn=>ef _ _ _;unfold Gm;rw[p2 a];by_cases ha:0<=a/\a<65536
 case neg=>rw[ar ha,ar (λq=>ha q.1)];rfl
 rw[az ha];simp only[aB,bH,aF,gY,fl,l2,l4,show aw 2=true from rfl,show aw 4=true from rfl,jW,aE];rw[p2 b];by_cases hb:0<=b/\b<65536
 case neg=>rw[ar hb,ar (λq=>hb q.2.1)];rfl
 rw[az hb];simp only[aB,bH,aF,gY,fl,l2,l4,show aw 2=true from rfl,show aw 4=true from rfl,jW,aE];rw[p4 c];by_cases hc:0<=c/\c<4294967296
 case neg=>rw[ar hc,ar (λq=>hc q.2.2.1)];rfl
 rw[az hc];simp only[aB,bH,aF,gY,fl,l2,l4,aP,show aw 2=true from rfl,show aw (2+2)=true from rfl,show aw 4=true from rfl,jW,aE];rw[p4 d];by_cases hd:0<=d/\d<4294967296
 case neg=>rw[ar hd,ar (λq=>hd q.2.2.2)];rfl
 rw[az hd];simp only[aB,bH,aF,gY,fl,l2,l4,aP,show aw (2+2)=true from rfl,show aw (2+2+4)=true from rfl,show aw 4=true from rfl,jW,aE];unfold aj aD;simp_all
theorem YR{w:Nat}(l:List UInt8)(hl:l.length<2^29)(hw:l.length+10<=w)(s:Nat)(o:Int)(hs:(s:Int)=1\/(s:Int)=2\/(s:Int)=4\/(s:Int)=8)(ho:o=1\/o=2):
 lp (λ(x8 x9:Int)(x10 x11:Nat)(x12:Int)(x13:List Value)=>(none:Option (Nat×Nat×List Value)))
     (λx14 (x15 x16:Int) (x17 x18:Nat) (x19:Int) (x20:List Value)=>
      bif ah x16 1 then
       bif !ai (Int.ofNat x17) (ag IntKind.i64 (x19.add x15)) then
        ax (ag IntKind.i64 (x19.add x15)) λx21=>
         ax x19 λx22=>
          bif x21.ble x18&&x22.ble x21 then
           ob (tA w (bif x18.beq x22 then 0 else 0+x22*1) (x21 -x22) (x18 -x22) x20) λx23=>
            x14 x15 x16 x17 x18 (ag IntKind.i64 (x19.add x15)) x23
          else none
       else some (x17,x18,x20)
      else some (x17,x18,x20))
     w (s:Int) o l.length l.length 0 (l.map aX)=some (l.length,l.length,(if o=1 then ib l s (l.length/s*s) else l).map aX):=by
 have hs0:0<s:=by omega
 have hs8:s<=8:=by omega
 have hd2:l.length/s<=l.length:=Nat.div_le_self _ _;by_cases h1:o=1
 ·subst h1;have hd:s*(l.length/s)<=l.length:=Nat.mul_div_le _ _;have hd3:l.length<s*(l.length/s)+s:=Nat.lt_mul_div_succ _ hs0;rw[show l.map aX=(ib l s (s*0)).map aX by rw[Nat.mul_zero,YS],az rfl];refine iL (ev:=λi (g:Int->Int->Nat->Nat->Int->List Value->Option (Nat×Nat×List Value))=>g (s:Int) 1 l.length l.length ((s*i:Nat):Int) ((ib l s (s*i)).map aX)) (l.length/s) ?_ ?_ (by omega)
  ·intro i g hi;have hle:s*(i+1)<=s*(l.length/s):=Nat.mul_le_mul_left _ hi;have e1:s*(i+1)=s*i+s:=by rw[Nat.mul_add,gD]
   have e2:(((s*i:Nat):Int).add (s:Int))=((s*(i+1):Nat):Int):=by rw[cc,e1];omega
   simp only[e2,show ah 1 1=true from rfl,aE,aV,cf];rw[aO (by omega) (by omega)];have e3:¬((l.length:Int)<((s*(i+1):Nat):Int)):=by omega
   simp only[e3,bN,ft,aE,bQ,fW,yZ];have e4:s*(i+1)<=l.length:=by omega
   have e5:s*i<=s*(i+1):=by omega
   have e6:¬(l.length=s*i):=by omega
   simp only[e4,e5,e6,aY,bN,jW,aE,aF];have hlen:=oU l s (s*i);have:=Np (w:=w) ((ib l s (s*i)).take (s*i)) (((ib l s (s*i)).drop (s*i)).take s) ((ib l s (s*i)).drop (s*i+s)) (by simp;omega) (by simp;omega) (l.length -s*i);rw[<-mM i s,<-YT l hs0 (by rw[mM];omega),mM i s,mM (i+1) s,<-List.drop_drop,lE,lE,dJ,dJ,eS,hlen,kU (by omega),kU (by omega)] at this;rw[show 0+s*i*1=s*i by omega,show s*(i+1) -s*i=s by omega,this];rfl
  ·intro g;simp only[show ah 1 1=true from rfl,aE,aV,cf,cc];rw[aO (by omega) (by omega)];have e3:((l.length:Int)<((s*(l.length/s):Nat):Int)+(s:Int)):=by omega
   simp only[e3,aY,bH,aF];rw[mM]
 ·rw[ar h1,eA _ _ (by omega)];simp only[bW,h1,bN,aF,gK]
theorem Yd{w:Nat}(l:List UInt8)(hl:l.length<2^29)(hw:l.length+10<=w)(s o:Int)(hc:fQ s o=true\/(s=8/\fQ 1 o=true)):
 Bz w (aj l) s o=some (l.length,l.length,(if o=1 then ib l s.toNat (l.length/s.toNat*s.toNat) else l).map aX):=by
 unfold Bz Mf;rw[vn (by omega)];have hr:Nat.ble l.length 1000000000=true:=by rw[gW];omega
 have hr2:Nat.ble l.length l.length=true:=by rw[gW];omega
 have hi:aQ 0 (List.take (l.length*1) (l.map aX)) (List.map aX (List.replicate l.length 0))=l.map aX:=by have:=Ee (l.map aX) (List.map aX (List.replicate l.length 0)) [] [] (by simp);simp only[List.length_nil,gC,dQ] at this;rw[fe (by simp),this]
 have hq:((l.map aX).length.beq (l.length*1)&&(0+l.length*1).ble (List.map aX (List.replicate l.length 0)).length)=true:=by simp
 have hs:s=1\/s=2\/s=4\/s=8:=by
  rcases hc with h|h
  ·have:=(sS h).1;omega
  ·omega
 have ho:o=1\/o=2:=by
  rcases hc with h|h
  ·exact(sS h).2
  ·exact(sS h.2).2
 obtain⟨s,rfl⟩:=Int.eq_ofNat_of_zero_le (a:=s) (by omega);cases hm:fQ s o;all_goals simp only[aB,bH,aE,aF]
 ·have h8:(s:Int)=8:=by rcases hc with h|h;(rw[hm] at h;cases h);exact h.1
  rw[vn (by omega),(show fQ 1 o=true from by rcases hc with h|h;(rw[hm] at h;cases h);exact h.2),show ah (s:Int) 8=true by rw[h8];rfl];simp only[bH,aF,aB,cw,gY,hr,hr2,jW,aE,s9,iv,Nat.min_self];rw[hq,hi];exact YR l hl hw s o hs ho
 ·simp only[cw,gY,hr,hr2,jW,aE,s9,iv,Nat.min_self];rw[hq,hi];exact YR l hl hw s o hs ho
def lY(n:Int):Bool:=decide (0<=n/\n<=4294967295)
theorem NG(w:Nat)(n:Int):ya w n=some (lY n):=by
 unfold ya lY;by_cases h1:n<0
 ·have:¬(0<=n/\n<=4294967295):=by omega
  simp_all
 ·by_cases h2:4294967295<n
  ·simp_all
  ·have:(0<=n/\n<=4294967295):=by omega
   simp[h2,this]
theorem XP(w:Nat)(a b:Int):F6 w a b=some (if lY a=true/\lY b=true/\lY (a+b)=true then(a+b,true) else(0,false)):=by
 unfold F6;rw[NG,NG];by_cases ha:lY a=true
 case neg=>simp[ha]
 by_cases hb:lY b=true
 case neg=>simp_all
 have a1:0<=a/\a<=4294967295:=by simpa[lY] using ha
 have b1:0<=b/\b<=4294967295:=by simpa[lY] using hb
 simp_all;rw[aO (by omega) (by omega),NG];cases hc:lY (a+b)<;>simp
theorem Fv(w:Nat)(b:Bool):rO w b=some (if b=true then 0 else-1):=by cases b<;>rfl
def wx(n:Nat):Nat:=(n+65518)/65519
theorem Yl(w n:Nat)(h:n<2^60):BI w (n:Int)=some (wx n:Int):=by
 unfold BI wx;simp only[aV,qe,iT,cc];by_cases h1:(n:Int)<1
 ·rw[show n=0 by omega];rfl
 rw[ar h1,aO (n:=(n:Int) -1) (by omega) (by omega),show(n:Int) -1=((n -1:Nat):Int) by omega];have e:(((n -1:Nat):Int)).tdiv 65519=(((n -1)/65519:Nat):Int):=rfl;rw[e];have:(n+65518)/65519=(n -1)/65519+1:=by omega
 rw[this,aO (n:=(((n -1)/65519:Nat):Int)) (by omega) (by omega),aO (by omega) (by omega)];rfl
theorem Uz{ty aA:Int}{l:List UInt8}{o:Int}(h:ec ty aA l=true)(ho:o=1\/o=2):
 (fQ (kindOf ty).2.1 o=true\/((kindOf ty).2.1 =8/\fQ 1 o=true))/\l.length/(kindOf ty).2.1.toNat*(kindOf ty).2.1.toNat=l.length:=by
 refine⟨?_,?_⟩
 ·rcases(RJ ty ((uO h).1)) with h|h|h|h<;>rcases ho with rfl|rfl<;>rw[h]<;>simp[fQ,BY]
 ·obtain⟨s,q,e1,e2,e3⟩:=Ss h
  grind
theorem ajJ{w:Nat}{ty aA:Int}{l:List UInt8}(hm:ec ty aA l=true)(hl:l.length<2^29)(hw:l.length+10<=w){o:Int}(ho:o=1\/o=2):
 Gy w ty aA (aj l) o=some (l.length,l.length,(iM l (kindOf ty).2.1.toNat o).map aX):=by
 obtain⟨h1,h2⟩:=Uz hm ho;unfold Gy;rw[xY w ty aA l (by omega),hm,xV];simp;rw[Yd l hl hw _ _ h1,h2];rfl
theorem ajI{w:Nat}{ty aA:Int}{l:List UInt8}(hm:ec ty aA l=true)(hl:l.length<2^29)(hw:l.length+10<=w){o:Int}(ho:o=1\/o=2):
 Gz w ty aA (aj l) o=some (aj (iM l (kindOf ty).2.1.toNat o)):=by
 obtain⟨h1,h2⟩:=Uz hm ho;unfold Gz;rw[xY w ty aA l (by omega),hm,xV];simp;rw[Yd l hl hw _ _ h1,h2,nL,vJ];rfl
theorem uh(l:List UInt8)(n:Nat)(h:n=l.length):ae n (l.map aX)=aj l:=by rw[nL,h]
theorem X7{w:Nat}(hw:100<=w)(t:aJ)(hm:ec t.ty t.aA t.data=true)(hl:t.data.length<2^29)(hw2:t.data.length+10<=w){o:Int}(ho:o=1\/o=2)(ht:mH t.tag=true):
 Gx w t.tag t.ty t.aA (aj t.data) o=some (if bK t.ty t.aA=0 then(t.tag,t.ty,t.aA,(oJ o t:Int),true) else(0,0,0,0,false)):=by
 unfold Gx;rw[ajJ hm hl hw2 ho,rM (by omega)];have m2:fQ 2 o=true:=by rcases ho with rfl|rfl<;>rfl
 have htr:0<=t.tag/\t.tag<65536:=by unfold mH at ht;simpa using ht
 have hp:oP t.tag (2:Int).toNat o=some (aW t.tag.toNat 2 o):=by unfold oP;rw[az ⟨htr.1,by show t.tag<((256^2:Nat):Int);omega⟩];rfl
 rw[az m2,hp];have hout:=xd hm;obtain⟨k1,k2,k3,k4⟩:=uO hm;have hk:=zL t.ty;have hpos:t.data.length≠0:=by intro q;have:1*1<=t.aA*(kindOf t.ty).1 :=Int.mul_le_mul k2 (by omega) (by decide) (by omega);omega
 simp only[aB,bH,aF,bW,aV,cf];have e1:¬((t.data.length:Int)=0):=by omega
 simp only[e1,bN,aF];by_cases h4:t.data.length<=4
 ·have e2:¬((4:Int)<(t.data.length:Int)):=by omega
  simp only[e2,bN,aF];rw[az h4] at hout;rw[az hout,iT,aO (by omega) (by omega),lK (by omega)];have e3:((4:Int) -(t.data.length:Int)).toNat=4 -t.data.length:=by omega
  have hv:(iM t.data (kindOf t.ty).2.1.toNat o).length=t.data.length:=vJ _ _ _;have hget:∀b:List UInt8,b=iM t.data (kindOf t.ty).2.1.toNat o++List.replicate (4 -t.data.length) 0->jB w (aj b) 0 4 o=some ((oJ o t:Int),true):=by
   intro b hb;have hbl:b.length=4:=by rw[hb,aP,hv,tO];omega
   rw[A8 (by omega) b (by omega) 0 4 o (by omega)];have:=wI (l:=b) (p:=0) (s:=4) (order:=o) (.inr (.inr rfl)) ho (by omega);rw[show((0:Nat):Int)=0 from rfl,show((4:Nat):Int)=4 from rfl] at this;rw[this];unfold oJ kQ;rw[hb]
  rw[e3];have r1:(4 -t.data.length).ble 1000000000=true:=by rw[gW];omega
  simp only[r1,s9,cZ,tO,gD,gm,hv,aE,yZ,fW,dX,aL,aY,jj,show Nat.beq 5 5=true from rfl];by_cases h5:t.data.length=4
  ·have e4:t.data.length+(4 -t.data.length)<=t.data.length:=by omega
   simp only[e4,aY,aE];have:4 -t.data.length=0:=by omega
   rw[this];simp only[List.replicate_zero,List.map_nil,aQ];rw[uh _ _ (by rw[hv];omega),hget _ (by rw[this];simp)];rfl
  ·have e4:¬(4<=t.data.length):=by omega
   have e5:t.data.length+(4 -t.data.length)=4:=by omega
   have hn:=nextslicecap_le (need:=4) (old:=t.data.length) (by omega);have r3:aw (4 -t.data.length)=true:=by simp;omega
   have r4:aw t.data.length=true:=by simp;omega
   have r5:Builtin.nextslicecap 4 t.data.length<=5000000000:=by omega
   simp only[e4,bN,aF,e5,r3,r4,r5,aY,jj,aE];have h6:List.take t.data.length ((iM t.data (kindOf t.ty).2.1.toNat o).map aX)++(List.replicate (4 -t.data.length) (0:UInt8)).map aX=(iM t.data (kindOf t.ty).2.1.toNat o++List.replicate (4 -t.data.length) 0).map aX:=by rw[fe (by rw[cZ,hv];exact aL _),gV]
   rw[h6];rw[uh _ _ (by rw[ky,cZ]),hget _ rfl];rfl
 ·have e2:((4:Int)<(t.data.length:Int)):=by omega
  simp only[e2,aY,aE];rw[ar h4] at hout;rw[ar (by omega)]
theorem nb{α γ σ:Type}{z:α}{F:α->α}{r:γ}{w:Nat}(ev:Nat->σ->α->γ)(Inv:Nat->σ->Prop)(m:Nat)(s0:σ)(h0:Inv 0 s0)(hs:∀i g s,i<m->Inv i s->∃s',Inv (i+1) s'/\ev i s (F g)=ev (i+1) s' g)(he:∀g s,Inv m s->ev m s (F g)=r)(h:m<w):ev 0 s0 (lp z F w)=r:=by
 have:∀(d i v:Nat)(s:σ),i+d=m->d<v->Inv i s->ev i s (lp z F v)=r:=by
  intro d;induction d with
  |zero=>intro i v s hi hv hI;rw[eA z F (by omega)];simp_all
  |succ d ih=>
   intro i v s hi hv hI;obtain⟨s',h1,h2⟩:=hs i (lp z F (v -1)) s (by omega) hI;rw[eA z F (by omega)]
   grind
 grind
def cQ(l:List aT):Value:=aD cS l
theorem zf(d:aT)(r:List Value):cS d++r=dT d::dS d::dB d::r:=by rw[py];rfl
def kF:List aT->Nat
 |[]=>0
 |d::ds=>max (fP d) (kF ds)
theorem CP:∀{ds:List aT}{d:aT},d∈ds->fP d<=kF ds
 |[],d,h=>by grind
 |a::ds,d,h=>by
  rcases cO.1 h with rfl|h
  ·exact Nat.le_max_left _ _
  ·exact fG (CP h) (Nat.le_max_right _ _)
def nG(m:Nat)(ds:List aT):Prop:=∀d∈ds,iq m d
theorem Yx(l:List bn)(c:List Value)(h:c=l.flatMap bV):ae (c.length/5) c=aD bV l:=by subst h;unfold aD;rw[vC,jk _ (by simp)]
theorem XS{w m:Nat}(hm:m<2^28)(hw:2*m+100<=w)(o:Int)(ds:List aT)(wM:vr w o (cQ ds)=some true)(jM:kF ds<=w)(hl:ds.length<=m)(he:dZ 8 ds<2^49)(hc:(fb ⟨o,ds⟩).length*5<=1000000000)(hn:gP ds<2^50)(hd:nG m ds):
 xU w o (cQ ds)=some (if dZ 8 ds<=4294967295 then(aD bV (fb ⟨o,ds⟩),true) else(ae 0 [],false)):=by
 unfold xU;rw[wM];simp;unfold cQ;refine nb (σ:=Nat×Nat×List bn) (ev:=λi s (g:Value->Int->Int->Int->Int->List Value->Option (Value×Bool))=>g (aD cS ds) ds.length i (s.1 :Nat) (s.2.1 :Nat) (s.2.2.flatMap bV))
  (Inv:=λi s=>dZ s.1 (ds.drop i)=dZ 8 ds/\s.2.1 +gP (ds.drop i)=gP ds/\s.2.2 ++ji s.2.1 s.1 (ds.drop i)=fb ⟨o,ds⟩) ds.length (8,0,[⟨1,-1,0,0,8⟩]) ?_ ?_ ?_ (by omega)
 ·exact⟨rfl,by simp,rfl⟩
 ·rintro i g ⟨e,no,sp⟩ hi ⟨h1,h2,h3⟩
  simp only at h1 h2 h3;rw[cX hi] at h1 h2 h3;rw[dZ] at h1;rw[gP] at h2;rw[ji] at h3;refine⟨(bt e ds[i],no+dw ds[i],sp++fR no e ds[i]),⟨h1,by simp only;omega,by simp only;rw[<-h3,dO]⟩,?_⟩;have e1:((i:Int)<(ds.length:Int)):=by omega
  simp only[aV,e1,aE,bQ];rw[bu kH hi];simp only[zf,bh];have hmem:=cG hi;have g1:=pA (ds.drop (i+1)) (bt e ds[i]);have g2:(sp++fR no e ds[i]).length<=(fb ⟨o,ds⟩).length:=by rw[<-h3];simp only[aP];omega
  rw[aP] at g2;have h4:=CP hmem;rw[ajk hm hw ds[i] no e _ (by omega) (by omega) (by omega) (by rw[vC];omega) (hd _ hmem)];simp only[aB];rw[aO (by omega) (by omega),fu];rfl
 ·rintro g ⟨e,no,sp⟩ ⟨h1,h2,h3⟩
  simp[qT,dZ,ji,dQ] at h1 h3;have e1:¬((ds.length:Int)<(ds.length:Int)):=by omega
  rw[Yx _ _ rfl,h3];by_cases q:dZ 8 ds<=4294967295
  ·have:¬((4294967295:Int)<((dZ 8 ds:Nat):Int)):=by omega
   simp_all
  ·have:((4294967295:Int)<((dZ 8 ds:Nat):Int)):=by omega
   simp_all
def pC(l:List bn)(e:Nat):Nat:=match l.getLast? with
 |some x=>x.at_+x.cx
 |none=>e
theorem zM(a b:List bn)(e:Nat):pC (a++b) e=pC b (pC a e):=by
 unfold pC
 grind
theorem JO(x:bn)(b:List bn)(e:Nat):pC (x::b) e=pC b (x.at_+x.cx):=zM [x] b e
theorem JN(no:Nat):∀(l:List aJ)(e:Nat),pC (cU no e l) e=bZ e l
 |[],_=>rfl
 |t::l,e=>by
  unfold cU bZ;split
  ·exact JN no l e
  ·rw[JO];exact JN no l _
mutual
theorem RN:∀(d:aT)(no e:Nat),pC (fR no e d) e=bt e d
 | .mk tags subs blob,no,e=>by unfold fR bt;rw[JO,zM,zM,JN,RP];split<;>rfl
theorem RP:∀(r:cA)(no e:Nat),pC (kv no e r) e=ea e r
 | .nil,no,e=>rfl
 | .cons _ d r,no,e=>by unfold kv ea;rw[zM,RN,RP]
end
theorem RM:∀(ds:List aT)(no e:Nat),pC (ji no e ds) e=dZ e ds
 |[],no,e=>rfl
 |d::ds,no,e=>by unfold ji dZ;rw[zM,RN,RM]
theorem abT(o:Int)(ds:List aT):∃x l,fb ⟨o,ds⟩=l++[x]/\x.at_+x.cx=dZ 8 ds:=by
 have e:pC (fb ⟨o,ds⟩) 0=dZ 8 ds:=by unfold fb;rw[JO];exact(RM ds 0 8)
 have cu:fb ⟨o,ds⟩≠[]:=by unfold fb;simp
 exact⟨(fb ⟨o,ds⟩).getLast cu,(fb ⟨o,ds⟩).dropLast,(List.dropLast_concat_getLast cu).symm,(e)⟩
theorem aiP{w m:Nat}(hm:m<2^28)(hw:2*m+100<=w)(o:Int)(ds:List aT)(wM:vr w o (cQ ds)=some true)(jM:kF ds<=w)(hl:ds.length<=m)(he:dZ 8 ds<=4294967295)(hc:(fb ⟨o,ds⟩).length*5<=1000000000)(hn:gP ds<2^50)(hd:nG m ds):
 rQ w o (cQ ds)=some (dZ 8 ds:Int):=by
 unfold rQ;rw[XS hm hw o ds wM jM hl (by omega) hc hn hd,az he];obtain⟨x,l,h1,h2⟩:=abT o ds;have hlen:(fb ⟨o,ds⟩).length=l.length+1:=by rw[h1];simp
 simp;rw[aO (by omega) (by omega),lK (by omega),show(((fb ⟨o,ds⟩).length:Int) -1).toNat=l.length by omega,bu BP (show l.length<(fb ⟨o,ds⟩).length by omega)];have tg:∀(x:bn)(r:List Value),bV x++r=.int .i64 x.nz::.int .i64 x.dir::.int .i64 x.tag::.int .i64 x.at_::.int .i64 x.cx::r:=λ_ _=>rfl;simp_all;rw[aO (by omega) (by omega),<-h2];rfl
theorem ajc{w:Nat}(hw:20<=w):qG w (cg cV)=some true:=by obtain⟨v,rfl⟩:=vR hw;rfl
theorem XV{w:Nat}(hw:20<=w):qG w (cg fX)=some true:=by obtain⟨v,rfl⟩:=vR hw;rfl
theorem XU{w:Nat}(hw:20<=w):qG w (cg kB)=some true:=by obtain⟨v,rfl⟩:=vR hw;rfl
noncomputable def CH(w:Nat)(sv:Value)(a o:Int)(dv:Value)(cs:List Value):Option Int:=
 u9 w dv cs sv o
def dH(n:Int):List Value:=[.int .i64 n]
theorem ql(n:Int):(dH n).length=1:=rfl
def nO(l:List Int):List Value:=l.map (Value.int .i64)
theorem abr{l:List Int}{i:Nat}(h:i<l.length):(nO l).drop i=Value.int .i64 l[i]::nO (l.drop (i+1)):=by unfold nO;rw[<-List.map_drop,cX h,iD]
theorem ZM{w m:Nat}(hm:m<2^28)(hw:2*m+100<=w)(sh:List aZ)(hsh:iQ sh)(hl:∀s,s<sh.length->(aM sh s).bJ.length<=m)(a o:Int)(ds:List aT)(l:List Int)(hlen:l.length=ds.length)(je:ds.length<=m)(hd:nG m ds)(jM:kF ds<=w)
 (hh:∀j (h:j<ds.length),0<=l[j]/\l[j]<sh.length/\cD sh l[j].toNat ds[j]=true) {n:Nat} (hn:0<n) (h138:rQ w o (cQ ds)=some (n:Int)):CH w (cg sh) a o (cQ ds) (nO l)=some 0:=by
 unfold CH u9 cQ;have hcl:(nO l).length=ds.length:=by unfold nO;rw[cZ,hlen]
 simp only[cI,ky,hcl,aV,cf];have e0:¬((ds.length:Int)<(ds.length:Int)):=by omega
 simp only[e0,bN,aF];refine iL (ev:=λi (g:Value->Value->Int->Int->Int->Value->List Value->Option Int)=>g (cg sh) (aD cS ds) ds.length i o (aD cS ds) (nO l)) ds.length ?_ ?_ (by omega)
 ·intro i g hi;have e1:((i:Int)<(ds.length:Int)):=by omega
  simp only[e1,aY,aE,bQ];rw[bu kH hi];simp only[zf,bh,hcl,gD,gm,mr,hi,aY,show Nat.beq 1 1=true from rfl,jj,aE];rw[abr (by omega)];obtain⟨h1,h2,h3⟩:=hh i hi;have hs:(l[i].toNat:Int)=l[i]:=mj h1;have hmem:=cG hi;have h4:=CP hmem;simp only[bh,bP];have:=ajl (w:=w) (m:=m) (by omega) hw sh hsh hl ds[i] l[i].toNat (by omega) (hd _ hmem) (by omega);rw[hs,h3] at this;rw[this];simp only[aB,bH,aF,cc];rw[aO (by omega) (by omega)];rfl
 ·intro g;simp only[e0,bN,aF];unfold cQ at h138;rw[h138];have:¬((n:Int)=0):=by omega
  simp_all
theorem ai9{w m:Nat}(hm:m<2^28)(hw:2*m+100<=w)(sh:List aZ)(hsh:iQ sh)(sM:qG w (cg sh)=some true)(hs0:0<sh.length)(hl:∀s,s<sh.length->(aM sh s).bJ.length<=m){o:Int}(ho:o=1\/o=2)(ds:List aT)(cu:ds≠[])(je:ds.length<=m)(hd:nG m ds)(jM:kF ds<=w)
 (hh:fZ sh 0 ds=true) {n:Nat} (hn:0<n) (h138:rQ w o (cQ ds)=some (n:Int)):tC w o (cQ ds) (cg sh)=some 0:=by
 have hpos:0<ds.length:=List.length_pos_iff.2 cu;unfold tC Mh u9;rw[sM];simp only[aB,bH,aF,bW];have e0:¬((Int.ofNat ds.length:Int)=0):=by simp only[cf];omega
 rcases ho with rfl|rfl
 case' inl=>simp only[aY,bH,aF]
 case' inr=>simp only[show decide ((2:Int)=1)=false from rfl,show decide ((2:Int)=2)=true from rfl,ft,bH,aE,aF]
 all_goals
  unfold cQ;rw[cI];simp only[e0,bN,aF];refine nb (σ:=Int×List Int) (ev:=λi s (g:Value->Int->Int->Value->List Value->Option Int)=>g (cg sh) s.1 _ (aD cS ds) (nO s.2))
   (Inv:=λi s=>s.2.length=i/\s.1 <sh.length/\fZ sh s.1 (ds.drop i)=true/\∀j (h:j<i) (h2:j<s.2.length) (h3:j<ds.length),0<=s.2[j]/\s.2[j]<sh.length/\cD sh s.2[j].toNat ds[j]=true) ds.length (0,[]) ?_ ?_ ?_ (by omega)
  ·exact⟨rfl,by omega,hh,λj h=>by omega⟩
  ·rintro i g ⟨a,l⟩ hi ⟨h1,h2,h3,h4⟩
   simp only at h1 h2 h3 h4;rw[cX hi] at h3;simp only[fZ,bq,bX] at h3;obtain⟨h5,h6,h7⟩:=h3;have hs:(a.toNat:Int)=a:=mj h5;have hat:a.toNat<sh.length:=by omega
   have hnx:=hsh.next a.toNat hat;refine⟨((aM sh a.toNat).next,l++[a]),⟨by simp[h1],by simp only;omega,h7,?_⟩,?_⟩
   ·intro j hj hj2 hj3;simp only at hj2⊢;by_cases q:j<i
    ·rw[List.getElem_append_left (by omega)];exact h4 j q (by omega) hj3
    ·have:j=i:=by omega
     subst this;have e:(l++[a])[j]'hj2=a:=by rw[List.getElem_append_right (by omega)];simp
     rw[e];exact⟨h5,by omega,h6⟩
   ·have hcl:(nO l).length=i:=by unfold nO;rw[cZ,h1]
    have e1:¬(a<0):=by omega
    have e2:((i:Int)<(ds.length:Int)):=by omega
    have r1:aw i=true:=by simp;omega
    simp only[aV,e1,bN,ft,aE,cI,ky,hcl,cf,e2,aY,r1,cm,List.length_nil,gm,gD,show aw 1=true from rfl,mL,jj,lK h5];have hS:sh[a.toNat]=aM sh a.toNat:=by unfold aM;rw[cN hat];rfl
    have tg:∀(S:aZ)(r:List Value),(jh S++r).drop 3=.int .i64 S.next::r:=λ_ _=>rfl;unfold cg;rw[bu yr hat,hS];simp only[tg,bh,bP];unfold nO;rw[gV];rfl
  ·rintro g ⟨a,l⟩ ⟨h1,h2,h3,h4⟩
   simp only at h1 h2 h3 h4;have hcl:(nO l).length=ds.length:=by unfold nO;rw[cZ,h1]
   have hr:=λo=>ZM hm hw sh hsh hl a o ds l h1 je hd jM (λj h=>h4 j h (by omega) h) hn;by_cases q:a<0
   ·simp only[aV,q,aY,bH,aF];have:=hr _ h138;unfold CH u9 cQ at this;simpa only[aV,bW] using this
   ·have e2:¬((ds.length:Int)<(ds.length:Int)):=by omega
    simp only[aV,q,bN,ft,aE];have:=hr _ h138;unfold CH u9 cQ at this;simp only[cI,ky,hcl,cf,aV,bW,e2,bN,aF] at this⊢;exact this
theorem Li(pre v old post:List UInt8)(h:old.length=v.length)(p:Nat)(hp:p=pre.length):aQ p (v.map aX) ((pre++(old++post)).map aX)=(pre++(v++post)).map aX:=by
 have:=Ee (v.map aX) (old.map aX) (pre.map aX) (post.map aX) (by grind)
 grind
theorem NB{w:Nat}(hw:8<=w)(pre old post:List UInt8)(n s:Nat)(hs:s=2\/s=4)(hn:n<256^s){o:Int}(ho:o=1\/o=2)(X Y:Value)(no:Int)(hold:old.length=s)(L:Nat)(hL:L=(pre++(old++post)).length)(hlt:L<2^60)(p:Int)(hp:p=(pre.length:Int))(k:Int)(hk:k=(s:Int))(q:Int)(hq:q=(n:Int)):
 rR w p q k L L o X Y no ((pre++(old++post)).map aX)=some (L,L,o,X,Y,no,(pre++(aW n s o++post)).map aX):=by
 subst hp hk hq;unfold rR;rw[rM hw];have hpf:oP (n:Int) (s:Int).toNat o=some (aW n s o):=by unfold oP;rw[az ⟨by omega,by rw[mI];exact_mod_cast hn⟩];simp
 rw[az (by rcases hs with rfl|rfl<;>rcases ho with rfl|rfl<;>rfl),hpf];have hlen:L=pre.length+(s+post.length):=by simp_all
 have cu:¬(L=pre.length):=by omega
 have e1:pre.length<=L:=by omega
 have ev:(aW n s o).length=s:=ef _ _ _;simp only[aB,bQ,fW,e1,aL,aE,gY,iv,cZ,ev,gD,yZ,cu,bN,aF,gm];rw[show s.min (L -pre.length)=s from(show min s (L -pre.length)=s from by omega)];have e3:pre.length+s<=(pre++(old++post)).length:=by omega
 simp only[e3];rw[fe (by rw[cZ,ev];exact aL _),Li _ _ _ _ (by rw[hold,ev]) _ rfl];rfl
def mf(nz dir tag:Int)(x:bn):Bool:=x.nz==nz&&(x.dir==dir&&x.tag==tag)
theorem ajK{w:Nat}(l:List bn)(a b c:Int)(hl:l.length<2^40)(hw:l.length<w):N0 w (aD bV l) a b c=some (cW (mf a b c) l):=by
 refine mB l (mf a b c) (ev:=λi (g:Value->List Value->List Value->List Value->Int->Int->Option Int)=>g (aD bV l) [.int .i64 a] [.int .i64 b] [.int .i64 c] l.length i) ?_ ?_ hw
 ·intro i g h;simp_all;rw[bu BP h];have tg:∀(x:bn)(r:List Value),bV x++r=.int .i64 x.nz::.int .i64 x.dir::.int .i64 x.tag::.int .i64 x.at_::.int .i64 x.cx::r:=λ_ _=>rfl;unfold N1 mf;simp_all;rw[aO (by omega) (by omega)];by_cases q1:l[i].nz=a
  ·by_cases q2:l[i].dir=b
   ·by_cases q3:l[i].tag=c
    ·simp_all
    ·simp_all
   ·simp_all
  ·simp[q1]
 ·intro g;simp
theorem NR{w:Nat}{A B:List bn}{x:bn}(hl:(A++x::B).length<2^40)(hw:(A++x::B).length<w)(a b c:Int)(hA:∀y∈A,mf a b c y=false)(hx:mf a b c x=true)(L c2:Nat)(o:Int)(Y:Value)(no:Int)(cs:List Value):
 tE w a b c L c2 o (aD bV (A++x::B)) Y no cs=some ((x.at_:Int),L,c2,o,aD bV (A++x::B),Y,no,cs):=by
 have hi:cW (mf a b c) (A++x::B)=(A.length:Int):=by
  unfold cW
  grind
 unfold tE;rw[ajK _ a b c hl hw,hi];simp;rw[bu BP (show A.length<(A++x::B).length by simp)];have tg:∀(x:bn)(r:List Value),(bV x++r).drop 3=.int .i64 x.at_::.int .i64 x.cx::r:=λ_ _=>rfl;simp_all
theorem IA(pre v old post:List UInt8)(hold:old.length=v.length){L:Nat}(hL:L=(pre++(old++post)).length){β:Type}(K:List Value->Option β):
 (bif Nat.ble L L&&pre.length.ble L then cn 1 (aj v) λn (c:List Value)=>bif c.length.beq (n*1)&&((bif Nat.beq L pre.length then 0 else 0+pre.length*1)+n.min (L -pre.length)*1).ble ((pre++(old++post)).map aX,5).fst.length then
  K (aQ (bif Nat.beq L pre.length then 0 else 0+pre.length*1) (List.take (n.min (L -pre.length)*1) c) ((pre++(old++post)).map aX,5).fst) else none else none)=K ((pre++(v++post)).map aX):=by
 have hlen:L=pre.length+(v.length+post.length):=by simp_all
 have e1:pre.length<=L:=by omega
 simp only[fW,e1,aL,aY,gY,iv,cZ,gD,mL,eD,gm];rw[(show v.length.min (L -pre.length)=v.length from by show min _ _=_;omega)];by_cases h0:L=pre.length
 ·have hv:v=[]:=kS (by omega);subst hv;have ho:=kS hold;subst ho;simp[h0,aQ]
 ·have e3:pre.length+v.length<=(pre++(old++post)).length:=by rw[<-hL];omega
  simp only[yZ,h0,bN,aF,e3,aY,aE];rw[fe (by rw[cZ];exact aL _),Li _ _ _ _ hold _ rfl]
theorem ajq{w:Nat}(hw:100<=w)(t:aJ)(hm:ec t.ty t.aA t.data=true)(hl:t.data.length<2^29)(hw2:t.data.length+10<=w){o:Int}(ho:o=1\/o=2)(ht:mH t.tag=true)(h0:bK t.ty t.aA=0)(dir:Int)(L c2:Nat)(X Y:Value)(no:Int)(cs:List Value):
 yb w t.tag t.ty t.aA (aj t.data) dir L c2 o X Y no cs=some (t.tag,t.ty,t.aA,(oJ o t:Int),L,c2,o,X,Y,no,cs):=by
 unfold yb;rw[X7 hw t hm hl hw2 ho ht,az h0];rfl
theorem ajr{w:Nat}(hw:100<=w)(t:aJ)(hm:ec t.ty t.aA t.data=true)(hl:t.data.length<2^29)(hw2:t.data.length+10<=w){o:Int}(ho:o=1\/o=2)(ht:mH t.tag=true)(h0:bK t.ty t.aA≠0)(dir:Int){A B:List bn}{x:bn}(hsl:(A++x::B).length<2^40)(hsw:(A++x::B).length<w)
 (hA:∀y∈A,mf 3 dir t.tag y=false) (hx:mf 3 dir t.tag x=true) (pre old post:List UInt8) (hold:old.length=t.data.length) (hat:x.at_=pre.length) {L:Nat} (hL:L=(pre++(old++post)).length) (Y:Value) (no:Int):
 yb w t.tag t.ty t.aA (aj t.data) dir L L o (aD bV (A++x::B)) Y no ((pre++(old++post)).map aX)=some (t.tag,t.ty,t.aA,(pre.length:Int),L,L,o,aD bV (A++x::B),Y,no,(pre++(kQ o t++post)).map aX):=by
 unfold yb;rw[X7 hw t hm hl hw2 ho ht,ar h0,NR hsl hsw 3 dir t.tag hA hx];simp only[aB,hat];rw[ajI hm hl hw2 ho];simp only[mL];exact IA pre (kQ o t) old post (by rw[yD];exact hold) hL λcs=>some (t.tag,t.ty,t.aA,(pre.length:Int),L,L,o,aD bV (A++x::B),Y,no,cs)
theorem NK(w:Nat)(e:bk)(c:List Value)(hc:c.length<=1000000000):Bo w [.int .i64 e.tag,.int .i64 e.ty,.int .i64 e.aA,.int .i64 e.slot] c=some (c++[.int .i64 e.tag,.int .i64 e.ty,.int .i64 e.aA,.int .i64 e.slot]):=by
 unfold Bo;have:aw c.length=true:=by simp;omega
 simp only[this,show aw 1=true from rfl,cm,List.length_nil,dX,oi,pZ];rfl
section
open Go.Sort
def e4(x:bk):E4:=(x.tag,x.ty,x.aA,(x.slot:Int))
def qO(x:E4):bk:=⟨x.1,x.2.1,x.2.2.1,x.2.2.2.toNat⟩
theorem YX(x:bk):qO (e4 x)=x:=by obtain⟨a,b,c,d⟩:=x;show bk.mk a b c ((d:Int)).toNat=_;simp
def bM(x:bk):List Value:=[.int .i64 x.tag,.int .i64 x.ty,.int .i64 x.aA,.int .i64 x.slot]
theorem kI(x:bk):(bM x).length=4:=rfl
theorem Qh(l:List bk):l.flatMap bM=(l.map e4).flatMap fy:=by
 induction l with
 |nil=>rfl
 |cons x l ih=>rw[dL,ih];rfl
theorem Y0:∀l:List E4,vK (l.flatMap fy)=some l
 |[]=>rfl
 |(a,b,c,d)::l=>by show vK (.int .i64 a::.int .i64 b::.int .i64 c::.int .i64 d::l.flatMap fy)=_;unfold vK;rw[Y0 l];rfl
theorem Vf:∀{a b:List bk},eM a=true->eM b=true->(∀x,x∈a↔x∈b)->a=b
 |[],[],_,_,_=>rfl
 |[],y::b,_,_,h=>by have:=(h y).2 (by simp);cases this
 |x::a,[],_,_,h=>by have:=(h x).1 (by simp);cases this
 |x::a,y::b,ha,hb,h=>by
  have ha':eM a=true/\∀z∈a,x.tag<z.tag:=by have:=Ls ha;omega
  have hb':=Ls hb;have hxy:x=y:=by grind
  congr 1
  refine Vf ha'.1 hb'.1 λz=>?_
  grind
where
 Ls:∀{x:bk}{a:List bk},eM (x::a)=true->eM a=true/\∀z∈a,x.tag<z.tag
  |x,[],_=>⟨rfl,λz h=>by cases h⟩
  |x,b::a,h=>by
   simp[eM] at h;obtain⟨_,h2⟩:=Ls h.2
   grind
theorem Vh:∀{l:List bk},l.Pairwise (λa b=>a.tag<b.tag)->eM l=true
 |[],_=>rfl
 |[x],_=>rfl
 |x::y::l,h=>by rw[List.pairwise_cons] at h;simp[eM];exact⟨h.1 y (by simp),Vh h.2⟩
theorem Ie:∀{l:List bk},nD l->(l.map bk.tag).Nodup
 |[],_=>by simp
 |x::l,h=>by rw[iD,List.nodup_cons];refine⟨λq=>?_,Ie h.2⟩;obtain⟨y,hy,e⟩:=List.mem_map.1 q;exact h.1 y hy e
theorem akh{l:List bk}(h:nD l):jT (l.map e4)=(gw l).map e4:=by
 obtain⟨h1,h2,h3⟩:=Yr (l.map e4);generalize jT (l.map e4)=p at h1 h2 h3;have hk:(p.map qO).Perm l:=by have:=h2.map qO;rw[List.map_map] at this;rw[(show(qO∘e4)=id from by funext x;exact YX x),List.map_id] at this;exact this
 have hp:(p.map qO).map e4=p:=by
  rw[List.map_map]
  conv=>rhs;rw[<-List.map_id p]
  apply List.map_congr_left;intro x hx;obtain⟨y,-,hy⟩:=List.mem_map.1 (h2.mem_iff.1 hx);simp;rw[<-hy,YX]
 have hr:eM (p.map qO)=true:=by
  apply Vh;rw[List.pairwise_iff_getElem];intro i j hi hj hij;have cu:(p.map qO)[i].tag≠(p.map qO)[j].tag:=by intro q;have:=(List.nodup_iff_pairwise_ne.1 ((hk.map bk.tag).nodup_iff.2 (Ie h)));rw[List.pairwise_iff_getElem] at this;have:=this i j (by simpa using hi) (by simpa using hj) hij;apply this;simp at q⊢;exact q
  simp at hi hj;have hs:=h3 i j (il _) hij (by rw[<-h1];exact hj);rw[Dp] at hs;simp_all;have a1:(qO p[i]).tag=p[i].1 :=rfl;have a2:(qO p[j]).tag=p[j].1 :=rfl;omega
 rw[<-(Vf hr (JH h) λx=>by rw[hk.mem_iff,wP]),hp]
theorem ajx(w:Nat){l:List bk}(h:nD l)(cu:l≠[])(hl:l.length<=1000000000):tF w (l.flatMap bM)=some ((gw l).flatMap bM):=by unfold tF;rw[Qh,Y0];simp only[aB,(show(l.map e4).isEmpty=false from by simp_all),(show aw (l.map e4).length=true from by simp;omega),bH,Bool.or_self,aF];rw[akh h,<-Qh]
noncomputable def CN(w:Nat)(mine:Int)(L c:Nat)(o:Int)(X Y:Value)(no:Int)(bs es:List Value):Option (Int×Nat×Nat×Int×Value×Value×Int×List Value):=
 ob (tF w es) λa=>ob (tE w 2 mine 0 L c o X Y no bs) λb=>AO w b a
def bg(n:Nat):List UInt8:=List.replicate n 0
theorem iY(n:Nat):(bg n).length=n:=tO
theorem oW(a b:Nat):bg (a+b)=bg a++bg b:=by unfold bg;simp
theorem aaw{l:List bk}{i:Nat}(h:i<l.length)(o:Int):(l.take (i+1)).flatMap (iR o)=(l.take i).flatMap (iR o)++iR o l[i]:=by rw[iO h,fu];simp
theorem Z7{w:Nat}(hw:100<=w){E:List bk}(hE:nD E)(cu:E≠[])(hEo:∀x∈E,Go.Proofs.YtcfjfbeadhnknaaGreatDoor.mm x)(hEn:E.length<=65535)(hEw:E.length<w){A B:List bn}{x:bn}(hsl:(A++x::B).length<2^40)(hsw:(A++x::B).length<w)(mine:Int)
 (hA:∀y∈A,mf 2 mine 0 y=false) (hx:mf 2 mine 0 x=true) (pre post:List UInt8) (hat:x.at_=pre.length) {L:Nat} (hL:L=(pre++(bg (6+12*E.length)++post)).length) (hlt:L<2^40) {o:Int} (ho:o=1\/o=2) (Y:Value) (no:Int):
 CN w mine L L o (aD bV (A++x::B)) Y no ((pre++(bg (6+12*E.length)++post)).map aX) (E.flatMap bM)=some ((pre.length:Int),L,L,o,aD bV (A++x::B),Y,no,(pre++(kG o (gw E) 0++post)).map aX):=by
 unfold CN AO;rw[ajx w hE cu (by omega)];simp only[aB];rw[NR hsl hsw 2 mine 0 hA hx];simp only[aB,hat];have hn:(gw E).length=E.length:=zJ E;have hsE:∀y∈gw E,Go.Proofs.YtcfjfbeadhnknaaGreatDoor.mm y:=λy hy=>hEo y (wP.1 hy);generalize gw E=F at hn hsE⊢;have hfl:(F.flatMap bM).length/4=F.length:=by rw[dc kI];omega
 rw[hfl];rw[<-hn] at hL hEn hEw⊢;have hz:bg (6+12*F.length)=bg 2++bg (12*F.length+4):=by rw[<-oW];congr 1;omega
 rw[hz,dO];have hlenL:L=pre.length+(6+12*F.length+post.length):=by rw[hL];simp[iY]
 rw[NB (by omega) pre (bg 2) (bg (12*F.length+4)++post) F.length 2 (.inl rfl) (by omega) ho _ Y no (iY 2) L (by rw[hL,hz,dO]) (by omega) (pre.length:Int) rfl (2:Int) rfl (Int.ofNat F.length) rfl];simp only[aB];have hlast:aW 0 4 o=bg 4:=by rcases ho with rfl|rfl<;>rfl
 refine nb (σ:=List UInt8) (ev:=λi s (g:Int->Int->Int->Nat->Nat->Int->Value->Value->Int->List Value->List Value->Option (Int×Nat×Nat×Int×Value×Value×Int×List Value))=>g pre.length (F.length:Int) i L L o (aD bV (A++x::B)) Y no (F.flatMap bM) (s.map aX))
  (Inv:=λi s=>s=pre++(aW F.length 2 o++((F.take i).flatMap (iR o)++(bg (12*(F.length -i)+4)++post)))) F.length _ ?_ ?_ ?_ (by omega)
 ·simp
 ·rintro i g s hi rfl
  refine⟨pre++(aW F.length 2 o++((F.take (i+1)).flatMap (iR o)++(bg (12*(F.length -(i+1))+4)++post))),rfl,?_⟩;have e1:((i:Int)<(F.length:Int)):=by omega
  have e2:i*4<(F.flatMap bM).length:=by omega
  simp only[aV,e1,aY,aE,bQ,show Nat.beq 4 4=true from rfl,eD,mr,e2];rw[show 0+i*4=i*4 from gm _,mW kI,cX hi,dL];have tg:∀(x:bk)(r:List Value),bM x++r=.int .i64 x.tag::.int .i64 x.ty::.int .i64 x.aA::.int .i64 x.slot::r:=λ_ _=>rfl;simp only[tg,bh,bP];have hok:=hsE _ (cG hi);have b1:=hok.tag;have b2:=hok.ty;have b3:=hok.aA;have b4:=hok.slot;rw[ajy (by omega) _ _ _ _ o ho,az ⟨⟨b1.1,b1.2⟩,⟨b2.1,b2.2⟩,⟨b3.1,b3.2⟩,by omega,by omega⟩];simp only[aB,cc,oI];rw[aO (n:=12*(i:Int)) (by omega) (by omega),aO (n:=(pre.length:Int)+2) (by omega) (by omega),aO (n:=(pre.length:Int)+2+12*(i:Int)) (by omega) (by omega),aO (n:=(i:Int)+1) (by omega) (by omega),lK (by omega)];have ek:((pre.length:Int)+2+12*(i:Int)).toNat=(pre++(aW F.length 2 o++(F.take i).flatMap (iR o))).length:=by rw[aP,aP,ef,wE,dJ];omega
  rw[ek];have eb:aW F[i].tag.toNat 2 o++(aW F[i].ty.toNat 2 o++(aW F[i].aA.toNat 4 o++aW ((F[i].slot:Int)).toNat 4 o))=iR o F[i]:=by unfold iR;simp
  rw[eb];have ez:bg (12*(F.length -i)+4)=bg 12++bg (12*(F.length -(i+1))+4):=by rw[<-oW];congr 1;omega
  have ebs:pre++(aW F.length 2 o++((F.take i).flatMap (iR o)++(bg (12*(F.length -i)+4)++post)))=(pre++(aW F.length 2 o++(F.take i).flatMap (iR o)))++(bg 12++(bg (12*(F.length -(i+1))+4)++post)):=by rw[ez];simp
  rw[ebs];have:=IA (pre++(aW F.length 2 o++(F.take i).flatMap (iR o))) (iR o F[i]) (bg 12) (bg (12*(F.length -(i+1))+4)++post) (by rw[iY,IN]) (L:=L) (by
   rw[hlenL];simp only[aP,iY,ef,wE,dJ];omega)
   (λcs=>g (pre.length:Int) (F.length:Int) ((i:Int)+1) L L o (aD bV (A++x::B)) Y no (F.flatMap bM) cs)
  refine this.trans ?_;rw[aaw hi];simp only[dO];rfl
 ·rintro g s rfl
  have e1:¬((F.length:Int)<(F.length:Int)):=by omega
  simp only[aV,e1,bN,aF];rw[oZ,Nat.sub_self,Nat.mul_zero,gm];unfold kG;rw[hlast];simp only[dO]
end
theorem KN(e:Nat):dN e=bg (aI e -e):=by
 unfold dN aI;by_cases h:e%2=0
 ·rw[az h,show e+e%2 -e=0 by omega];rfl
 ·rw[ar h,show e+e%2 -e=1 by omega];rfl
theorem BO{no:Nat}{y:bn}:∀{l:List aJ}{e:Nat},y∈cU no e l->y.nz=3/\y.dir=(no:Int)/\∃t∈l,y.tag=t.tag
 |[],_,h=>by cases h
 |t::l,e,h=>by
  unfold cU at h;split at h
  ·obtain⟨a,b,t',c,d⟩:=BO h
   grind
  ·rcases cO.1 h with rfl|h
   ·simp
   ·obtain⟨a,b,t',c,d⟩:=BO h
    grind
theorem ZU(d:aT):1<=dw d:=by cases d;unfold dw;omega
mutual
theorem Ov{y:bn}:∀{d:aT}{no e:Nat},y∈fR no e d->(no:Int)<=y.dir/\y.dir<(no:Int)+dw d
 | .mk tags subs blob,no,e,h=>by
  unfold dw;rcases cO.1 h with rfl|h
  ·exact⟨Int.le_refl _,by simp only;omega⟩
  ·rcases fF.1 h with h|h
   ·have:=(BO h).2.1;omega
   ·rcases fF.1 h with h|h
    ·have:=Ow h;omega
    grind
theorem Ow{y:bn}:∀{r:cA}{no e:Nat},y∈kv no e r->(no:Int)<=y.dir/\y.dir<(no:Int)+gX r
 | .nil,no,e,h=>by unfold kv at h;cases h
 | .cons t d r,no,e,h=>by
  unfold gX;rcases fF.1 h with h|h
  ·have:=Ov h;omega
  ·have:=Ow h;omega
end
def mu(o:Int)(sh:List aZ)(S:aZ)(e:Nat):List (Int×aT)->List UInt8
 |[]=>[]
 |p::l=>jb o sh ((lk S p.1).getD 0) 0 e p.2 ++mu o sh S (bt e p.2) l
theorem PC(o:Int)(sh:List aZ)(S:aZ):∀(s:cA)(e:Nat),jI o sh S e s=mu o sh S e (aN s)
 | .nil,e=>by simp[jI,aN,mu]
 | .cons t d r,e=>by simp[jI,aN,mu,PC o sh S r]
def nM(e:Nat):List (Int×aT)->List bk
 |[]=>[]
 |p::l=>⟨p.1,4,1,aI e⟩::nM (bt e p.2) l
theorem Ql:∀(s:cA)(e:Nat),iw e s=nM e (aN s)
 | .nil,e=>by simp[iw,aN,nM]
 | .cons t d r,e=>by simp[iw,aN,nM,Ql r]
theorem Ju{sh:List aZ}{S:aZ}:∀{s:cA},iS sh S s=true->∀p∈aN s,fj S p.1 =true/\cD sh ((lk S p.1).getD 0) p.2 =true
 | .nil,_,p,h=>by cases h
 | .cons t d r,h,p,hp=>by
  simp[iS] at h;rcases cO.1 hp with rfl|hp
  ·grind
  ·exact Ju h.2.2 p hp
theorem ajt{w:Nat}(l:List im)(n:Int)(a b c:Value)(hl:l.length<2^40)(hw:l.length<w):NN w (gx l) n a b c=some (cW (λx=>x.tag==n) l):=by
 refine mB l (λx=>x.tag==n) (ev:=λi (g:Value->List Value->Int->Int->Option Int)=>g (aD lU l) [.int .i64 n,a,b,c] l.length i) ?_ ?_ hw
 ·intro i g h;simp_all;rw[bu sP h];unfold lU NQ;rw[aO (by omega) (by omega)];simp
 simp
theorem ajp(w:Nat)(x y:bk)(c:List Value)(hc:c.length<=1000000000):Bp w [.int .i64 x.tag,.int .i64 x.ty,.int .i64 x.aA,.int .i64 x.slot,.int .i64 y.tag,.int .i64 y.ty,.int .i64 y.aA,.int .i64 y.slot] c=some (c++(bM x++bM y)):=by unfold Bp;simp_all;rfl
theorem uY{l:List aJ}(h:fE l=true){i j:Nat}(hij:i<j)(hj:j<l.length):l[i].tag<l[j].tag:=by
 induction l generalizing i j with
 |nil=>grind
 |cons a l ih=>
  obtain⟨h1,h2⟩:=Ek h;cases j with
  |zero=>omega
  |succ j=>
   cases i with
   |zero=>grind
   |succ i=>grind
structure yN(w m:Nat)(sh:List aZ)(o:Int)(L:Nat)(Sp:List bn):Prop where
 hm:m<2^28
 hw:2*m+1000<=w
 ok:iQ sh
 bJ:∀s,s<sh.length->(aM sh s).bJ.length<=m
 ho:o=1\/o=2
 hL:L<4294967296
 zC:Sp.length<2^40
 uD:Sp.length<w
 zF:70000<=w
def yH(sh:List aZ)(o:Int)(L:Nat)(Sp:List bn)(rec:Value->Value->Value->Int->Nat->Nat->Int->Value->Value->Int->List Value->Option (Int×Nat×Nat×Int×Value×Value×Int×List Value))(d:aT)(s:Nat):Prop:=
 ∀(no e:Nat)(A B:List bn)(pre post:List UInt8),(∀y∈A,y.dir<(no:Int))->pre.length=e->Sp=A++(fR no e d++B)->L=(pre++(bg (bt e d -e)++post)).length->no+dw d<2^40->
  rec (dT d) (dS d) (dB d) (s:Int) L L o (aD bV Sp) (cg sh) (no:Int) ((pre++(bg (bt e d -e)++post)).map aX)=
   some ((aI e:Int),L,L,o,aD bV Sp,cg sh,((no+dw d:Nat):Int),(pre++(jb o sh s 0 e d++post)).map aX)
theorem Qf(e:Nat)(t:aJ)(ts:List aJ):bZ e (t::ts)=if bK t.ty t.aA=0 then bZ e ts else bZ (aI e+bK t.ty t.aA) ts:=rfl
theorem ak3(o:Int)(e:Nat)(t:aJ)(ts:List aJ):gk o e (t::ts)=if bK t.ty t.aA=0 then gk o e ts else dN e++(kQ o t++gk o (aI e+bK t.ty t.aA) ts):=rfl
theorem aav(o:Int)(e:Nat)(t:aJ)(ts:List aJ):ee o e (t::ts)=if bK t.ty t.aA=0 then⟨t.tag,t.ty,t.aA,oJ o t⟩::ee o e ts else⟨t.tag,t.ty,t.aA,aI e⟩::ee o (aI e+bK t.ty t.aA) ts:=rfl
theorem akq(no e:Nat)(t:aJ)(ts:List aJ):cU no e (t::ts)=if bK t.ty t.aA=0 then cU no e ts else⟨3,no,t.tag,aI e,bK t.ty t.aA⟩::cU no (aI e+bK t.ty t.aA) ts:=rfl
theorem Ro(x:bk):∀l:List bk,(jP x l).Perm (x::l)
 |[]=>List.Perm.refl _
 |y::l=>by
  unfold jP;split
  ·simp
  ·exact((Ro x l).cons y).trans (List.Perm.swap x y l)
theorem RA:∀l:List bk,(gw l).Perm l
 |[]=>List.Perm.refl _
 |x::l=>by exact(Ro x _).trans ((RA l).cons x)
theorem SF:∀{l:List bk},(l.map bk.tag).Nodup->nD l
 |[],_=>trivial
 |x::l,h=>by rw[iD,List.nodup_cons] at h;refine⟨λy hy e=>h.1 ?_,SF h.2⟩;simp_all
theorem Zl{l:List bk}(h:eM (gw l)=true):nD l:=
 SF (((RA l).map bk.tag).nodup_iff.1 (Ie (yR h)))
theorem akz{w m:Nat}{sh:List aZ}{o:Int}{L:Nat}{Sp:List bn}(H:yN w m sh o L Sp)(rec:Value->Value->Value->Int->Nat->Nat->Int->Value->Value->Int->List Value->Option (Int×Nat×Nat×Int×Value×Value×Int×List Value))(d:aT)(s:Nat)(hs:s<sh.length)(hd:iq m d)(hh:cD sh s d=true)
 (hrec:∀p∈aN (match d with| .mk _ subs _=>subs),∀k:Nat,k<sh.length->cD sh k p.2 =true->yH sh o L Sp rec p.2 k):yH sh o L Sp (G2 w rec) d s:=by
 obtain⟨hm,hw,hsh,hl,ho,hLt,zC,uD,zF⟩:=H;obtain⟨tags,subs,blob⟩:=d;intro no e A B pre post hA hp hSp hL sN;have hd:tags.length<=m/\bY subs<=m/\blob.length<=m/\(∀t∈tags,t.data.length<=m)/\ir m subs:=hd;replace hrec:∀p∈aN subs,∀k:Nat,k<sh.length->cD sh k p.2 =true->yH sh o L Sp rec p.2 k:=hrec;have hlenB:=su o sh (.mk tags subs blob) s 0 e hh;have hh0:=hh;simp only[cD,bq,qS,bX] at hh;obtain⟨⟨n1,n2⟩,ht,hbl,hr,hss⟩:=hh;have htg:∀t∈tags,mH t.tag=true/\ec t.ty t.aA t.data=true:=λt h=>by simp only[jU,bq,ij] at ht;exact⟨(ht.2 t h).1,(ht.2 t h).2.2⟩
 have htr:fE tags=true:=by simp only[jU,bq] at ht;exact ht.1
 obtain⟨N,hN⟩:∃N,bE (.mk tags subs blob)=N:=⟨_,rfl⟩;rw[hN] at n1 n2;have hNt:tags.length+bY subs<=N:=by rw[<-hN];show _<=tags.length+bY subs+_;omega
 obtain⟨e1,he1⟩:∃e1,aI e+(6+12*N)=e1:=⟨_,rfl⟩;obtain⟨e2,he2⟩:∃e2,bZ e1 tags=e2:=⟨_,rfl⟩;obtain⟨e3,he3⟩:∃e3,ea e2 subs=e3:=⟨_,rfl⟩;obtain⟨S,hS⟩:∃S,aM sh s=S:=⟨_,rfl⟩;have hSo:=hsh.ok s;have hSlk:=hsh.bJ s hs;have hln:=hl s hs;rw[hS] at hSo ht hbl hss hSlk hln;have hSg:sh[s]=S:=by rw[<-hS];unfold aM;rw[cN hs];rfl
 have g1:=mU e;have g2:=qf tags e1;have g3:=sF subs e2;have g4:=mU e3;rw[he2] at g2;rw[he3] at g3;obtain⟨D,hD⟩:∃D,bt e (.mk tags subs blob)=D:=⟨_,rfl⟩;have hend:D=if blob.length=0 then e3 else aI e3+blob.length:=by rw[<-hD,bt,hN,he1,he2,he3]
 rw[hD] at hL hlenB⊢;have hDe:e3<=D:=by rw[hend];split<;>omega
 have hlenL:L=D+post.length:=by rw[hL,aP,aP,iY];omega
 obtain⟨E,hE⟩:∃E,ee o e1 tags++(iw e2 subs++gR S e3 blob)=E:=⟨_,rfl⟩;have c1:=(PN (order:=o) (e1:=e1) (e2:=e2) (e3:=e3) hSo ht hbl hr hss rfl).1;rw[hE] at c1;have hEap:nD E:=Zl c1;have hEn:E.length=N:=by rw[<-hE,aP,aP,sH,zm,CW,<-hN];show _=tags.length+bY subs+(if blob.length=0 then 0 else 2);omega
 have hEne:E≠[]:=by intro q;rw[q] at hEn;simp at hEn;omega
 have hEo:∀x∈E,Go.Proofs.YtcfjfbeadhnknaaGreatDoor.mm x:=by
  intro x hx;rw[<-hE] at hx;rcases fF.1 hx with hx|hx
  ·exact CX (S:=S) htg (by rw[he2];omega) x hx
  ·rcases fF.1 hx with hx|hx
   ·exact IQ hSo (C9 hss) (by rw[he3];omega) x hx
   ·unfold gR at hx;split at hx
    ·cases hx
    ·rename_i hb0;rw[ar hb0] at hend;have hat:=hSo.pair (hbl.resolve_left hb0);simp only[cO,mK,mN] at hx;rcases hx with rfl|rfl
     ·exact⟨by simp only;omega,by simp only;omega,by simp only;omega,by simp only;omega⟩
     ·exact⟨by simp only;omega,by simp only;omega,by simp only;omega,by simp only;omega⟩
 obtain⟨bS,hbS⟩:∃bS:List bn,(if blob.length=0 then[] else[⟨4,no,0,aI e3,blob.length⟩])=bS:=⟨_,rfl⟩;have hSp1:Sp=A++(⟨2,no,0,aI e,6+12*N⟩::(cU no e1 tags++(fS (no+1) e2 (aN subs)++(bS++B)))):=by rw[hSp,fR,hN,he1,he2,he3,hbS,G0];simp only[eV,dO]
 have hcN:dw (.mk tags subs blob)=fO (aN subs)+1:=by rw[dw,Iz]
 rw[hcN] at sN⊢;have hvl:=Hg o tags e1 λt h=>(htg t h).2;rw[he2] at hvl;unfold G2 cg AO;simp only[dT,dS,dB,bQ];rw[bu yr hs,hSg];have tg:∀(S:aZ)(r:List Value),jh S++r=gx S.bJ::.int .i64 S.at_::.int .i64 S.cx::.int .i64 S.next::r:=λ_ _=>rfl;simp only[tg,bh,bP,cc];unfold au;rw[cI,aO (n:=(no:Int)+1) (by omega) (by omega)];have hz1:bg (D -e)=bg (e1 -e)++([]++bg (D -e1)):=by rw[gC,<-oW];congr 1;omega
 rw[hz1];simp only[dO];refine nb (σ:=Nat×List UInt8×List bk×List bn) (ev:=λi s (g:Int->Value->Int->Int->Nat->Nat->Int->Value->Value->Int->Value->Value->Value->Value->Int->Int->Int->List Value->List Value->Option (Int×Nat×Nat×Int×Value×Value×Int×List Value))=>g no (aD cq tags) tags.length i L L o (aD bV Sp) (aD jh sh) ((no:Int)+1) (aD cq tags) (ae (bY subs) (gA subs)) (aj blob) (gx S.bJ) S.at_ S.cx S.next ((pre++(bg (e1 -e)++(s.2.1 ++(bg (D -s.1)++post)))).map aX) (s.2.2.1.flatMap bM))
  (Inv:=λi s=>bZ s.1 (tags.drop i)=e2/\e1+s.2.1.length=s.1 /\s.2.1 ++gk o s.1 (tags.drop i)=gk o e1 tags/\s.2.2.1 ++ee o s.1 (tags.drop i)=ee o e1 tags/\s.2.2.2 ++cU no s.1 (tags.drop i)=cU no e1 tags/\∀y∈s.2.2.2,y.nz=3/\y.dir=(no:Int)/\∃t∈tags.take i,y.tag=t.tag) tags.length (e1,[],[],[]) ?_ ?_ ?_ (by omega)
 ·exact⟨by simpa using he2,by simp,by simp,by simp,by simp,λy hy=>by cases hy⟩
 ·rintro i g ⟨ei,X,es,Q⟩ hi ⟨h1,h2,h3,h4,h5,h6⟩
  simp only at h1 h2 h3 h4 h5 h6;have hmem:=cG hi;obtain⟨ht1,ht2⟩:=htg _ hmem;have je:=hd.2.2.2.1 _ hmem;have hel:(es.flatMap bM).length<=1000000000:=by
   rw[dc kI];have:es.length<=tags.length:=by have:=bU List.length h4;rw[aP,sH,sH] at this;omega
   omega
  rw[cX hi] at h1 h3 h4 h5;rw[Qf] at h1;rw[ak3] at h3;rw[aav] at h4;rw[akq] at h5;have e0:((i:Int)<(tags.length:Int)):=by omega
  have tt:∀(t:aJ)(r:List Value),cq t++r=.int .i64 t.tag::.int .i64 t.ty::.int .i64 t.aA::aj t.data::r:=λ_ _=>rfl;by_cases h0:bK tags[i].ty tags[i].aA=0
  ·rw[az h0] at h1 h3 h4 h5;refine⟨(ei,X,es++[⟨tags[i].tag,tags[i].ty,tags[i].aA,oJ o tags[i]⟩],Q),⟨h1,h2,h3,by rw[<-h4];simp,h5,λy hy=>?_⟩,?_⟩
   ·obtain⟨a,b,t,c,q⟩:=h6 y hy;exact⟨a,b,t,by rw[iO hi];exact fF.2 (.inl c),q⟩
   ·simp only[aV,e0,aY,aE,bQ];rw[bu gI hi];simp only[tt,bh,bP];rw[ajq (by omega) tags[i] ht2 (by omega) (by omega) ho ht1 h0];simp only[aB];rw[NK w ⟨tags[i].tag,tags[i].ty,tags[i].aA,oJ o tags[i]⟩ _ hel];simp only[aB];rw[aO (by omega) (by omega),fu];simp only[dL,lD,dQ];rfl
  ·rw[ar h0] at h1 h3 h4 h5;have hout:=xd ht2;have hoL:bK tags[i].ty tags[i].aA=tags[i].data.length:=by rw[hout] at h0⊢;split<;>simp_all
   have hge:=qf (tags.drop (i+1)) (aI ei+bK tags[i].ty tags[i].aA);rw[h1] at hge;have hev:=mU ei;have hpd:=pG ei;have hvB:(kQ o tags[i]).length=bK tags[i].ty tags[i].aA:=by rw[yD,hoL]
   refine⟨(aI ei+bK tags[i].ty tags[i].aA,X++(dN ei++kQ o tags[i]),es++[⟨tags[i].tag,tags[i].ty,tags[i].aA,aI ei⟩],Q++[⟨3,no,tags[i].tag,aI ei,bK tags[i].ty tags[i].aA⟩]),⟨h1,?_,by rw[<-h3];simp,by rw[<-h4];simp,by rw[<-h5];simp,λy hy=>?_⟩,?_⟩
   ·simp only[aP,hvB];omega
   ·rcases fF.1 hy with hy|hy
    ·obtain⟨a,b,t,c,q⟩:=h6 y hy;exact⟨a,b,t,by rw[iO hi];exact fF.2 (.inl c),q⟩
    ·rw[oY.1 hy];exact⟨rfl,rfl,tags[i],by rw[iO hi];exact fF.2 (.inr (by simp)),rfl⟩
   ·simp only[aV,e0,aY,aE,bQ];rw[bu gI hi];simp only[tt,bh,bP];have hSpi:Sp=(A++(⟨2,no,0,aI e,6+12*N⟩::Q))++⟨3,no,tags[i].tag,aI ei,bK tags[i].ty tags[i].aA⟩::(cU no (aI ei+bK tags[i].ty tags[i].aA) (tags.drop (i+1))++(fS (no+1) e2 (aN subs)++(bS++B))):=by
     rw[hSp1,<-h5];simp
    have hbuf:pre++(bg (e1 -e)++(X++(bg (D -ei)++post)))=(pre++(bg (e1 -e)++(X++dN ei)))++(bg (bK tags[i].ty tags[i].aA)++(bg (D -(aI ei+bK tags[i].ty tags[i].aA))++post)):=by
     have:bg (D -ei)=dN ei++(bg (bK tags[i].ty tags[i].aA)++bg (D -(aI ei+bK tags[i].ty tags[i].aA))):=by rw[KN,<-oW,<-oW];congr 1;omega
     rw[this];simp
    have hpl:(pre++(bg (e1 -e)++(X++dN ei))).length=aI ei:=by simp only[aP,iY];omega
    have hq:=ajr (w:=w) (by omega) tags[i] ht2 (by omega) (by omega) ho ht1 h0 (no:Int) (A:=A++(⟨2,no,0,aI e,6+12*N⟩::Q)) (B:=cU no (aI ei+bK tags[i].ty tags[i].aA) (tags.drop (i+1))++(fS (no+1) e2 (aN subs)++(bS++B))) (x:=⟨3,no,tags[i].tag,aI ei,bK tags[i].ty tags[i].aA⟩) (by rw[<-hSpi];exact zC) (by rw[<-hSpi];exact uD) (λy hy=>by
     unfold mf;rcases fF.1 hy with hy|hy
     ·have:=hA y hy;have:(y.dir==(no:Int))=false:=by simp;omega
      rw[this];simp
     ·rcases cO.1 hy with rfl|hy
      ·rfl
      ·obtain⟨-,-,t,c,q⟩:=h6 y hy;obtain⟨j,hj,rfl⟩:=List.getElem_of_mem c;rw[dJ] at hj;rw[List.getElem_take] at q;have:=uY htr (show j<i by omega) hi;have:(y.tag==tags[i].tag)=false:=by simp;omega
       rw[this];simp) (by simp[mf]) (pre++(bg (e1 -e)++(X++dN ei))) (bg (bK tags[i].ty tags[i].aA)) (bg (D -(aI ei+bK tags[i].ty tags[i].aA))++post) (by rw[iY,hoL]) hpl.symm (L:=L) (by rw[hlenL];simp only[aP,iY];omega) (aD jh sh) ((no:Int)+1)
    rw[<-hSpi,<-hbuf] at hq;rw[hq];simp only[aB];rw[hpl];rw[NK w ⟨tags[i].tag,tags[i].ty,tags[i].aA,aI ei⟩ _ hel];simp only[aB];rw[aO (by omega) (by omega),fu];simp only[dL,lD,dQ,dO];rfl
 ·rintro g ⟨ei,X,es,Q⟩ ⟨h1,h2,h3,h4,h5,h6⟩
  simp only[qT,bZ,gk,ee,cU,dQ] at h1 h2 h3 h4 h5 h6;subst h1 h3 h4;have e0:ai (tags.length:Int) (tags.length:Int)=false:=by simp
  simp only[e0,aF];rw[BU,cI];have hsl:=tK subs;have sg:∀(p:Int×aT)(r:List Value),fU p++r=.int .i64 p.1 ::dT p.2 ::dS p.2 ::dB p.2 ::r:=by intro p r;unfold fU;rw[py];rfl
  have hvlen:(gk o e1 tags).length=ei -e1:=by omega
  generalize hV:gk o e1 tags=V at*;rw[show(no:Int)+1=((no+1:Nat):Int) by omega];refine nb (σ:=Nat×Nat×List UInt8×List bk×List bn) (ev:=λi s (g:Int->Value->Int->Int->Nat->Nat->Int->Value->Value->Int->Value->Value->Value->Value->Int->Int->Int->List Value->List Value->Option (Int×Nat×Nat×Int×Value×Value×Int×List Value))=>g no (aD fU (aN subs)) (aN subs).length i L L o (aD bV Sp) (aD jh sh) (s.2.1 :Nat) (aD cq tags) (aD fU (aN subs)) (aj blob) (gx S.bJ) S.at_ S.cx S.next ((pre++(bg (e1 -e)++(s.2.2.1 ++(bg (D -s.1)++post)))).map aX) (s.2.2.2.1.flatMap bM))
   (Inv:=λi s=>gQ s.1 ((aN subs).drop i)=e3/\s.2.1 +fO ((aN subs).drop i)=no+1+fO (aN subs)/\e1+s.2.2.1.length=s.1 /\s.2.2.1 ++mu o sh S s.1 ((aN subs).drop i)=V++mu o sh S ei (aN subs)/\s.2.2.2.1 ++nM s.1 ((aN subs).drop i)=ee o e1 tags++nM ei (aN subs)/\s.2.2.2.2 ++fS s.2.1 s.1 ((aN subs).drop i)=fS (no+1) ei (aN subs)/\no+1<=s.2.1 /\s.2.2.2.1.length=tags.length+i/\∀y∈s.2.2.2.2,y.dir<(s.2.1 :Int)) (aN subs).length (ei,no+1,V,ee o e1 tags,[]) ?_ ?_ ?_ ?_
  ·exact⟨by rw[dX,<-IK];exact he3,by simp,by simp only;omega,by simp,by simp,by simp,aL _,by simp[sH],λy hy=>by cases hy⟩
  ·rintro i g ⟨fi,ni,X,es,R⟩ hi ⟨k1,k2,k3,k4,k5,k6,k7,k8,k9⟩
   simp only at k1 k2 k3 k4 k5 k6 k7 k8 k9;have hmem:=cG hi;rw[cX hi] at k1 k2 k4 k5 k6;rw[gQ] at k1;rw[fO] at k2;rw[mu] at k4;rw[nM] at k5;rw[fS] at k6;obtain⟨p1,p2⟩:=Ju hss _ hmem;have hge:=CV ((aN subs).drop (i+1)) (bt fi (aN subs)[i].2);have hge2:=zh (aN subs)[i].2 fi;have hbl2:=su o sh (aN subs)[i].2 ((lk S (aN subs)[i].1).getD 0) 0 fi p2;rw[k1] at hge;have e5:((i:Int)<((aN subs).length:Int)):=by omega
   rcases JR S (aN subs)[i].1 with⟨-,hb0⟩|⟨k,hk,ek,-,e2⟩
   ·rw[p1] at hb0;cases hb0
   have hlk:=hSlk _ (cG hk);have hsh2:((S.bJ[k].shape.toNat:Nat):Int)=S.bJ[k].shape:=mj (by omega);rw[e2] at p2 k4 hbl2;refine⟨(bt fi (aN subs)[i].2,ni+dw (aN subs)[i].2,X++jb o sh S.bJ[k].shape.toNat 0 fi (aN subs)[i].2,es++[⟨(aN subs)[i].1,4,1,aI fi⟩],R++fR ni fi (aN subs)[i].2),⟨k1,by simp only;omega,by simp only[aP];omega,by rw[<-k4];simp,by rw[<-k5];simp,by rw[<-k6];simp,by simp only;omega,by simp only[aP,rX];omega,λy hy=>?_⟩,?_⟩
   ·rcases fF.1 hy with hy|hy
    ·have:=k9 y hy;simp only;omega
    ·have:=Ov hy;simp only;omega
   ·simp only[aV,e5,aY,aE,bQ];rw[bu tI hi];simp only[sg,bh,bP];rw[ajt _ _ _ _ _ (by omega) (by omega),ek];simp only[aB,bQ];unfold gx;rw[bu sP hk];have lg:∀(x:im)(r:List Value),(lU x++r).drop 1=.int .i64 x.shape::r:=λ_ _=>rfl;simp only[lg,bh,bP];have hSpi:Sp=(A++(⟨2,no,0,aI e,6+12*N⟩::(cU no e1 tags++R)))++(fR ni fi (aN subs)[i].2 ++(fS (ni+dw (aN subs)[i].2) (bt fi (aN subs)[i].2) ((aN subs).drop (i+1))++(bS++B))):=by
     rw[hSp1,<-k6];simp
    have hzz:bg (D -fi)=bg (bt fi (aN subs)[i].2 -fi)++bg (D -bt fi (aN subs)[i].2):=by rw[<-oW];congr 1;omega
    have hbuf:pre++(bg (e1 -e)++(X++(bg (D -fi)++post)))=(pre++(bg (e1 -e)++X))++(bg (bt fi (aN subs)[i].2 -fi)++(bg (D -bt fi (aN subs)[i].2)++post)):=by rw[hzz];simp
    have hpl:(pre++(bg (e1 -e)++X)).length=fi:=by simp only[aP,iY];omega
    have hr:=hrec _ hmem S.bJ[k].shape.toNat (by omega) p2 ni fi (A++(⟨2,no,0,aI e,6+12*N⟩::(cU no e1 tags++R))) (fS (ni+dw (aN subs)[i].2) (bt fi (aN subs)[i].2) ((aN subs).drop (i+1))++(bS++B)) (pre++(bg (e1 -e)++X)) (bg (D -bt fi (aN subs)[i].2)++post) (λy hy=>by
     rcases fF.1 hy with hy|hy
     ·have:=hA y hy;omega
     ·rcases cO.1 hy with rfl|hy
      ·simp only;omega
      ·rcases fF.1 hy with hy|hy
       ·have:=(BO hy).2.1;omega
       ·exact k9 y hy) hpl hSpi (by rw[hlenL];simp only[aP,iY];omega) (by omega)
    rw[hsh2] at hr;unfold cg at hr;rw[<-hbuf] at hr;rw[hr];simp only[aB,bW,aY,aE];unfold tD;simp only[aB];rw[NK w ⟨(aN subs)[i].1,4,1,aI fi⟩ _ (by rw[dc kI];omega)];simp only[aB,cc];rw[aO (by omega) (by omega)];simp only[fu,dL,lD,dQ,dO];rfl
  ·rintro g ⟨fi,ni,X,es,R⟩ ⟨k1,k2,k3,k4,k5,k6,k7,k8,k9⟩
   simp only[qT,gQ,fO,mu,nM,fS,dQ,Nat.add_zero] at k1 k2 k3 k4 k5 k6 k7 k8 k9;subst k1 k2 k4 k5;have e6:ai ((aN subs).length:Int) ((aN subs).length:Int)=false:=by simp
   simp only[e6,aF];rw[cw];have hE2:ee o e1 tags++nM ei (aN subs)++gR S fi blob=E:=by rw[<-hE,Ql];simp
   have hbD:jb o sh s 0 e (.mk tags subs blob)=dN e++(kG o (gw E) 0++(V++(mu o sh S ei (aN subs)++(if blob.length=0 then[] else dN fi++blob)))):=by rw[jb,hN,he1,he2,he3,hS,hE,PC,hV]
   have hpl:(pre++dN e).length=aI e:=by have:=pG e;rw[aP];omega
   have hz2:bg (e1 -e)=dN e++bg (6+12*E.length):=by rw[KN,<-oW];congr 1;omega
   have hfin:∀post':List UInt8,L=(pre++(bg (e1 -e)++post')).length->CN w no L L o (aD bV Sp) (aD jh sh) ((no+1+fO (aN subs):Nat):Int) ((pre++(bg (e1 -e)++post')).map aX) (E.flatMap bM)=
    some ((aI e:Int),L,L,o,aD bV Sp,aD jh sh,((no+1+fO (aN subs):Nat):Int),(pre++(dN e++(kG o (gw E) 0++post'))).map aX):=by
    intro post' hLp;have hb:pre++(bg (e1 -e)++post')=(pre++dN e)++(bg (6+12*E.length)++post'):=by rw[hz2];simp
    have:=Z7 (w:=w) (by omega) hEap hEne hEo (by omega) (by omega) (A:=A) (B:=cU no e1 tags++(fS (no+1) ei (aN subs)++(bS++B))) (x:=⟨2,no,0,aI e,6+12*N⟩) (by rw[<-hSp1];exact zC) (by rw[<-hSp1];exact uD) (no:Int) (λy hy=>by
     have:=hA y hy;unfold mf;have:(y.dir==(no:Int))=false:=by simp;omega
     rw[this];simp) (by simp[mf]) (pre++dN e) post' hpl.symm (L:=L) (by rw[<-hb];exact hLp) (by omega) ho (aD jh sh) ((no+1+fO (aN subs):Nat):Int)
    rw[<-hSp1,<-hb,hpl] at this;rw[this];simp
   by_cases hb0:blob.length=0
   ·rw[az hb0] at hend hbS;have hB0:gR S fi blob=[]:=by unfold gR;rw[az hb0]
    rw[hB0,dQ] at hE2;have e7:ai 0 (Int.ofNat blob.length)=false:=by rw[hb0];rfl
    simp only[e7,aF];rw[hE2,hbD,az hb0];refine(hfin _ (by rw[hlenL];simp only[aP,iY] at*;omega)).trans ?_;rw[show D -fi=0 by omega];simp only[bg,List.replicate_zero,gC,dQ,dO]
    congr 9
    omega
   ·rw[ar hb0] at hend hbS;have hB0:gR S fi blob=[⟨S.at_,4,1,aI fi⟩,⟨S.cx,4,1,blob.length⟩]:=by unfold gR;rw[ar hb0]
    have e7:ai 0 (Int.ofNat blob.length)=true:=by simp;omega
    have hpf:=pG fi;simp only[e7,aE];have hSpi:Sp=(A++(⟨2,no,0,aI e,6+12*N⟩::(cU no e1 tags++fS (no+1) ei (aN subs))))++⟨4,no,0,aI fi,blob.length⟩::B:=by rw[hSp1,<-hbS];simp
    have hq:=NR (w:=w) (A:=A++(⟨2,no,0,aI e,6+12*N⟩::(cU no e1 tags++fS (no+1) ei (aN subs)))) (B:=B) (x:=⟨4,no,0,aI fi,blob.length⟩) (by rw[<-hSpi];exact zC) (by rw[<-hSpi];exact uD) 4 (no:Int) 0 (λy hy=>by
     unfold mf;rcases fF.1 hy with hy|hy
     ·have:=hA y hy;have:(y.dir==(no:Int))=false:=by simp;omega
      rw[this];simp
     ·rcases cO.1 hy with rfl|hy
      ·rfl
      ·rcases fF.1 hy with hy|hy
       ·rw[(BO hy).1];rfl
       ·rw[<-G0] at hy;have:=(Ow hy).1;have:(y.dir==(no:Int))=false:=by simp;omega
        rw[this];simp) (by simp[mf])
    rw[<-hSpi] at hq;rw[hq];simp only[aB,bQ];have hbuf:pre++(bg (e1 -e)++(V++mu o sh S ei (aN subs)++(bg (D -fi)++post)))=(pre++(bg (e1 -e)++(V++mu o sh S ei (aN subs)++dN fi)))++(bg blob.length++post):=by
     have:bg (D -fi)=dN fi++bg blob.length:=by rw[KN,<-oW];congr 1;omega
     rw[this];simp
    have hpl2:(pre++(bg (e1 -e)++(V++mu o sh S ei (aN subs)++dN fi))).length=aI fi:=by simp only[aP,iY] at*;omega
    rw[hbuf];have hcp:=IA (pre++(bg (e1 -e)++(V++mu o sh S ei (aN subs)++dN fi))) blob (bg blob.length) post (iY _) (L:=L) (by rw[hlenL];simp only[aP,iY] at*;omega) (λcs=>ob (tD w S.at_ (aI fi:Int)) λ(x144:Int×Int×Int×Int)=>ak (aj blob) λ(x145:Nat)=>ob (tD w S.cx (Int.ofNat x145)) λ(x146:Int×Int×Int×Int)=>
     ob (Bp w [Value.int IntKind.i64 x144.fst,Value.int IntKind.i64 x144.snd.fst,Value.int IntKind.i64 x144.snd.snd.fst,Value.int IntKind.i64 x144.snd.snd.snd,Value.int IntKind.i64 x146.fst,Value.int IntKind.i64 x146.snd.fst,Value.int IntKind.i64 x146.snd.snd.fst,Value.int IntKind.i64 x146.snd.snd.snd] ((ee o e1 tags++nM ei (aN subs)).flatMap bM)) λ(x147:List Value)=>CN w no L L o (aD bV Sp) (aD jh sh) ((no+1+fO (aN subs):Nat):Int) cs x147)
    rw[hpl2] at hcp;refine Eq.trans hcp ?_;unfold tD;simp only[aB,cw];have hlen2:(ee o e1 tags++nM ei (aN subs)).length<=70000:=by have:=bU List.length hE2;rw[aP] at this;omega
    have h260:=ajp w ⟨S.at_,4,1,aI fi⟩ ⟨S.cx,4,1,blob.length⟩ ((ee o e1 tags++nM ei (aN subs)).flatMap bM) (by rw[dc kI];omega);simp only[cf] at h260⊢;rw[h260];simp only[aB];have hEc:(ee o e1 tags++nM ei (aN subs)).flatMap bM++(bM ⟨S.at_,4,1,aI fi⟩++bM ⟨S.cx,4,1,blob.length⟩)=E.flatMap bM:=by rw[<-hE2,hB0];simp[fu]
    rw[hEc];have hbuf2:(pre++(bg (e1 -e)++(V++mu o sh S ei (aN subs)++dN fi)))++(blob++post)=pre++(bg (e1 -e)++(V++(mu o sh S ei (aN subs)++(dN fi++(blob++post))))):=by simp
    rw[hbuf2,hbD,ar hb0];refine(hfin _ (by rw[hlenL];simp only[aP,iY] at*;omega)).trans ?_;simp only[dO]
    congr 9
    omega
  ·omega
theorem P5{w m:Nat}{sh:List aZ}{o:Int}{L:Nat}{Sp:List bn}(H:yN w m sh o L Sp)(z:Value->Value->Value->Int->Nat->Nat->Int->Value->Value->Int->List Value->Option (Int×Nat×Nat×Int×Value×Value×Int×List Value)):
 ∀(n:Nat)(d:aT)(s:Nat),fP d<=n->s<sh.length->iq m d->cD sh s d=true->yH sh o L Sp (lQ z (G2 w) n) d s
 |0,d,s,h,_,_,_=>by obtain⟨tags,subs,blob⟩:=d;unfold fP at h;omega
 |n+1,d,s,h,hs,hd,hh=>by refine akz H _ d s hs hd hh ?_;obtain⟨tags,subs,blob⟩:=d;intro p hp k hk hpk;have hp:p∈aN subs:=hp;have:=CQ p hp;unfold fP at h;exact P5 H z n p.2 k (by omega) hk (we hd.2.2.2.2 p hp) hpk
theorem aja{w m:Nat}{sh:List aZ}{o:Int}{L:Nat}{Sp:List bn}(H:yN w m sh o L Sp)(d:aT)(s:Nat)(hs:s<sh.length)(hd:iq m d)(hh:cD sh s d=true)(jM:fP d<=w):yH sh o L Sp (F8 w) d s:=P5 H _ w d s jM hs hd hh
theorem ZA(o:Int)(sh:List aZ)(s next e:Nat)(d:aT)(hh:cD sh s d=true):∃a b,jb o sh s next e d=a++(aW next 4 o++b)/\e+a.length=aI e+(2+12*bE d)/\∀n,jb o sh s n e d=a++(aW n 4 o++b):=by
 obtain⟨tags,subs,blob⟩:=d;have hl:∀E,E=gw (ee o (aI e+(6+12*bE (.mk tags subs blob))) tags++(iw (bZ (aI e+(6+12*bE (.mk tags subs blob))) tags) subs++gR (aM sh s) (ea (bZ (aI e+(6+12*bE (.mk tags subs blob))) tags) subs) blob))->E.length=bE (.mk tags subs blob):=by
  rintro E rfl
  rw[zJ,aP,aP,sH,zm,CW];show _=tags.length+bY subs+(if blob.length=0 then 0 else 2);omega
 obtain⟨E,hE⟩:∃E,gw (ee o (aI e+(6+12*bE (.mk tags subs blob))) tags++(iw (bZ (aI e+(6+12*bE (.mk tags subs blob))) tags) subs++gR (aM sh s) (ea (bZ (aI e+(6+12*bE (.mk tags subs blob))) tags) subs) blob))=E:=⟨_,rfl⟩;refine⟨dN e++(aW E.length 2 o++E.flatMap (iR o)),gk o (aI e+(6+12*bE (.mk tags subs blob))) tags++(jI o sh (aM sh s) (bZ (aI e+(6+12*bE (.mk tags subs blob))) tags) subs++(if blob.length=0 then[] else dN (ea (bZ (aI e+(6+12*bE (.mk tags subs blob))) tags) subs)++blob)),by rw[jb,hE];unfold kG;simp,?_,?_⟩
 ·have:=pG e;simp only[aP,ef,wE,(hl E hE.symm)];omega
 ·intro n;rw[jb,hE];unfold kG;simp
theorem Ze{o:Int}(ho:o=1\/o=2):aW 0 4 o=bg 4:=by rcases ho with rfl|rfl<;>rfl
theorem aam:∀{ds:List aT}{e:Nat},ds≠[]->aI e+6<=dZ e ds
 |[],_,h=>by grind
 |d::ds,e,_=>by rw[dZ];have:=K1 (d:=d) (e:=e);have:=pA ds (bt e d);omega
noncomputable def OR(w:Nat):Value->Int->Int->Value->Int->Int->Nat->Nat->Int->Value->Value->Int->List Value->Option (Value×Int):=
 lp (λ(x55:Value)(x56 x57:Int)(x58:Value)(x59 x60:Int)(x61 x62:Nat)(x63:Int)(x64 x65:Value)(x66:Int)(x67:List Value)=>none) (λ(x68:Value->Int->Int->Value->Int->Int->Nat->Nat->Int->Value->Value->Int->List Value->Option (Value×Int))(x69:Value)(x70 x71:Int)(x72:Value)(x73 x74:Int)(x75 x76:Nat)(x77:Int)(x78 x79:Value)(x80:Int)(x81:List Value)=>bif ai x74 x73 then ax x74 λ(x82:Nat)=>aC 3 x82 x72 λ(x83:List Value)=>af x83 λ(x84:Value)(x85:List Value)=>af x85 λ(x86:Value)(x87:List Value)=>af x87 λ(x88:Value)(x89:List Value)=>ob (F8 w x84 x86 x88 x70 x75 x76 x77 x78 x79 x80 x81) λ(x90:Int×Nat×Nat×Int×Value×Value×Int×List Value)=>ob (rR w x71 x90.fst 4 x90.snd.fst x90.snd.snd.fst x90.snd.snd.snd.fst x90.snd.snd.snd.snd.fst x90.snd.snd.snd.snd.snd.fst x90.snd.snd.snd.snd.snd.snd.fst x90.snd.snd.snd.snd.snd.snd.snd) λ(x91:Nat×Nat×Int×Value×Value×Int×List Value)=>ob (ku w x84 x86 x88) λ(x92:Int)=>ax x70 λ(x93:Nat)=>aC 4 x93 x69 λ(x94:List Value)=>af (List.drop 3 x94) λ(x95:Value)(x96:List Value)=>aq IntKind.i64 x95 λ(x97:Int)=>x68 x69 x97 (ag IntKind.i64 ((ag IntKind.i64 (Int.add x90.fst 2)).add (ag IntKind.i64 (Int.mul 12 x92)))) x72 x73 (ag IntKind.i64 (x74.add 1)) x91.fst x91.snd.fst x91.snd.snd.fst x91.snd.snd.snd.fst x91.snd.snd.snd.snd.fst x91.snd.snd.snd.snd.snd.fst x91.snd.snd.snd.snd.snd.snd else some (ae x75 (List.drop 0 x81),0)) w
theorem ala{w m:Nat}{sh:List aZ}{o:Int}{L:Nat}{Sp:List bn}(H:yN w m sh o L Sp)(ds:List aT)(je:ds.length<=m)(hd:nG m ds)(jM:kF ds<=w)(hh:fZ sh 0 ds=true)(hs0:0<sh.length)(hds:ds≠[])(hSp:Sp=fb ⟨o,ds⟩)(sN:gP ds<2^39)(hLe:L=dZ 8 ds)(pre0:List UInt8)(hp0:pre0.length=4):
 OR w (cg sh) 0 (pre0.length:Int) (cQ ds) ds.length 0 L L o (aD bV Sp) (cg sh) 0 ((pre0++(bg 4++([]++bg (L -8)))).map aX)=some (aj (pre0++(aW 8 4 o++kZ o sh 0 8 ds)),0):=by
 have H0:=H;obtain⟨hm,hw,hsh,hl,ho,hLt,zC,uD,zF⟩:=H;have h8:=pA ds 8;unfold OR cQ;have key:∀(e:Nat)(rest:List aT),(if rest.isEmpty then 0 else aI e)<4294967296\/True:=λ_ _=>.inr trivial;refine nb (σ:=Nat×Nat×Int×List UInt8×List UInt8×List bn) (ev:=λi s (g:Value->Int->Int->Value->Int->Int->Nat->Nat->Int->Value->Value->Int->List Value->Option (Value×Int))=>g (cg sh) s.2.2.1 (s.2.2.2.1.length:Int) (aD cS ds) ds.length i L L o (aD bV Sp) (cg sh) (s.2.1 :Nat) ((s.2.2.2.1 ++(bg 4++(s.2.2.2.2.1 ++bg (L -s.1)))).map aX))
  (Inv:=λi s=>dZ s.1 (ds.drop i)=L/\s.2.1 +gP (ds.drop i)=gP ds/\fZ sh s.2.2.1 (ds.drop i)=true/\s.2.2.1 <sh.length/\s.2.2.2.1.length+4+s.2.2.2.2.1.length=s.1 /\s.2.2.2.2.2 ++ji s.2.1 s.1 (ds.drop i)=Sp/\(∀y∈s.2.2.2.2.2,y.dir<(s.2.1 :Int))/\
   s.2.2.2.1 ++(aW (if(ds.drop i).isEmpty then 0 else aI s.1) 4 o++(s.2.2.2.2.1 ++kZ o sh s.2.2.1 s.1 (ds.drop i)))=pre0++(aW 8 4 o++kZ o sh 0 8 ds)) ds.length (8,0,0,pre0,[],[⟨1,-1,0,0,8⟩]) ?_ ?_ ?_ (by omega)
 ·refine⟨hLe.symm,by simp,hh,by simp only;omega,by simp only[hp0,List.length_nil],by rw[hSp];rfl,λy hy=>by rw[oY.1 hy];show(-1:Int)<((0:Nat):Int);decide,?_⟩;rw[dX];have:ds.isEmpty=false:=by cases ds with
   |nil=>exact absurd rfl hds
   |cons _ _=>rfl
  simp only[this,kx,gK,gC];rfl
 ·rintro i g ⟨e,no,s,P,M,R⟩ hi ⟨h1,h2,h3,h4,h5,h6,h7,h9⟩
  simp only at h1 h2 h3 h4 h5 h6 h7 h9;have hmem:=cG hi;rw[cX hi] at h1 h2 h3 h6 h9;rw[dZ] at h1;rw[gP] at h2;rw[ji] at h6;rw[kZ] at h9;simp only[fZ,bq,bX] at h3;obtain⟨k1,k2,k3⟩:=h3;have hs:(s.toNat:Int)=s:=mj k1;have hst:s.toNat<sh.length:=by omega
  have hnx:=hsh.next s.toNat hst;have hge:=pA (ds.drop (i+1)) (bt e ds[i]);have hge2:=zh ds[i] e;have hpos:=K1 (d:=ds[i]) (e:=e);have hev:=mU e;have hbl:=su o sh ds[i] s.toNat 0 e k2;obtain⟨a,b,q1,q2,q3⟩:=ZA o sh s.toNat 0 e ds[i] k2;have hcp:=ZU ds[i];have h10:=CP hmem;have e1:((i:Int)<(ds.length:Int)):=by omega
  refine⟨(bt e ds[i],no+dw ds[i],(aM sh s.toNat).next,P++(aW (aI e) 4 o++(M++a)),b,R++fR no e ds[i]),⟨h1,by simp only;omega,k3,by simp only;omega,?_,by rw[<-h6];simp,λy hy=>?_,?_⟩,?_⟩
  ·simp only[aP,ef];have:=bU List.length q1;simp only[aP,ef] at this;omega
  ·rcases fF.1 hy with hy|hy
   ·have:=h7 y hy;simp only;omega
   ·have:=Ov hy;simp only;omega
  ·rw[<-h9];have:pE e ds[i] (ds.drop (i+1))=if(ds.drop (i+1)).isEmpty then 0 else aI (bt e ds[i]):=rfl;rw[q3,this];simp only[List.isEmpty_cons,kx,gK,dO]
  ·simp only[aV,e1,aY,aE,bQ];rw[bu kH hi];simp only[zf,bh];have hzz:bg (L -e)=bg (bt e ds[i] -e)++bg (L -bt e ds[i]):=by rw[<-oW];congr 1;omega
   have hLl:L=((P++(bg 4++M))++(bg (bt e ds[i] -e)++bg (L -bt e ds[i]))).length:=by simp only[aP,iY];omega
   have hW:=aja H0 ds[i] s.toNat hst (hd _ hmem) k2 (by omega) no e R (ji (no+dw ds[i]) (bt e ds[i]) (ds.drop (i+1))) (P++(bg 4++M)) (bg (L -bt e ds[i])) h7 (by simp only[aP,iY];omega) h6.symm hLl (by omega);have hb1:P++(bg 4++(M++bg (L -e)))=(P++(bg 4++M))++(bg (bt e ds[i] -e)++bg (L -bt e ds[i])):=by rw[hzz];simp
   rw[hs] at hW;rw[hb1,hW];simp only[aB];have hb2:(P++(bg 4++M))++(jb o sh s.toNat 0 e ds[i]++bg (L -bt e ds[i]))=P++(bg 4++(M++(jb o sh s.toNat 0 e ds[i]++bg (L -bt e ds[i])))):=by simp
   rw[hb2,NB (by omega) P (bg 4) (M++(jb o sh s.toNat 0 e ds[i]++bg (L -bt e ds[i]))) (aI e) 4 (.inr rfl) (by omega) ho _ _ _ (iY 4) L (by simp only[aP,iY];omega) (by omega) (P.length:Int) rfl (4:Int) rfl ((aI e:Nat):Int) rfl];simp only[aB];have h203:ku w (dT ds[i]) (dS ds[i]) (dB ds[i])=some (bE ds[i]:Int):=by have hsm:=hd _ hmem;generalize ds[i]=d at hsm⊢;obtain⟨tags,subs,blob⟩:=d;have hsm:tags.length<=m/\bY subs<=m/\blob.length<=m/\(∀t∈tags,t.data.length<=m)/\ir m subs:=hsm;exact F9 w tags subs blob (by omega)
   rw[h203];simp only[aB,cc,oI];rw[lK k1];have hS:sh[s.toNat]=aM sh s.toNat:=by unfold aM;rw[cN hst];rfl
   have tg:∀(S:aZ)(r:List Value),(jh S++r).drop 3=.int .i64 S.next::r:=λ_ _=>rfl;have hsv:cg sh=aD jh sh:=rfl;rw[hsv,bu yr hst,hS];simp only[tg,bh,bP];have hen:bE ds[i]<=65535:=by generalize ds[i]=d at k2;obtain⟨tags,subs,blob⟩:=d;simp only[cD,bq,bX] at k2;exact k2.1.2
   rw[aO (n:=12*(bE ds[i]:Int)) (by omega) (by omega),aO (n:=((aI e:Nat):Int)+2) (by omega) (by omega),aO (n:=((aI e:Nat):Int)+2+12*(bE ds[i]:Int)) (by omega) (by omega),aO (n:=(i:Int)+1) (by omega) (by omega)];have ek:((aI e:Nat):Int)+2+12*(bE ds[i]:Int)=(((P++(aW (aI e) 4 o++(M++a))).length:Nat):Int):=by simp only[aP,ef];omega
   rw[ek,q1,Ze ho];simp only[dO];rfl
 ·rintro g ⟨e,no,s,P,M,R⟩ ⟨h1,h2,h3,h4,h5,h6,h7,h9⟩
  simp only[qT,dZ,kZ,dQ,List.isEmpty_nil,dW] at h1 h5 h9;have e1:¬((ds.length:Int)<(ds.length:Int)):=by omega
  simp only[aV,e1,bN,aF,dX];rw[<-h9,Ze ho,show L -e=0 by omega];simp only[bg,List.replicate_zero,dQ];rw[uh _ _ (by simp only[aP,tO];omega)]
structure ox(w m:Nat)(sh:List aZ)(o:Int)(ds:List aT):Prop where
 hm:m<2^28
 hw:2*m+1000<=w
 zF:70000<=w
 ok:iQ sh
 sM:qG w (cg sh)=some true
 s0:0<sh.length
 bJ:∀s,s<sh.length->(aM sh s).bJ.length<=m
 ho:o=1\/o=2
 cu:ds≠[]
 je:ds.length<=m
 hd:nG m ds
 jM:kF ds<=w
 hh:fZ sh 0 ds=true
 he:dZ 8 ds<=1000000000
 uD:(fb ⟨o,ds⟩).length<w
 Js:(fb ⟨o,ds⟩).length*5<=1000000000
 sN:gP ds<2^39
 wM:vr w o (cQ ds)=some true
theorem ox.cx{w m:Nat}{sh:List aZ}{o:Int}{ds:List aT}(T:ox w m sh o ds):rQ w o (cQ ds)=some (dZ 8 ds:Int):=by have:=T.he;have:=T.sN;have:=T.hw;exact aiP T.hm (by omega) o ds T.wM T.jM T.je (by omega) T.Js (by omega) T.hd
theorem ox.laid{w m:Nat}{sh:List aZ}{o:Int}{ds:List aT}(T:ox w m sh o ds):xU w o (cQ ds)=some (aD bV (fb ⟨o,ds⟩),true):=by have:=T.he;have:=T.sN;have:=T.hw;rw[XS T.hm (by omega) o ds T.wM T.jM T.je (by omega) T.Js (by omega) T.hd,az (by omega)]
theorem ox.check{w m:Nat}{sh:List aZ}{o:Int}{ds:List aT}(T:ox w m sh o ds):tC w o (cQ ds) (cg sh)=some 0:=by have:=T.hw;have:=pA ds 8;exact ai9 T.hm (by omega) sh T.ok T.sM T.s0 T.bJ T.ho ds T.cu T.je T.hd T.jM T.hh (by omega) T.cx
theorem UT(v:List UInt8)(n:Nat)(pre:List UInt8)(hv:v.length=2)(hp:pre.length=2){L:Nat}(hL:L=2+n):aQ 0 (List.take (Nat.min 2 L*1) (v.map aX)) ((pre++bg n).map aX)=(v++bg n).map aX:=by
 rw[fe (by grind)];have:=Li [] v pre (bg n) (by omega) 0 rfl
 grind
theorem Xd{w m:Nat}{sh:List aZ}{o:Int}{ds:List aT}(T:ox w m sh o ds):Bc w o (cQ ds) (cg sh)=some (aj (er ⟨o,ds⟩ sh),0):=by
 have t1:=T.he;have t2:=T.uD;have t3:=T.Js;have t4:=T.zF;have hpos:=aam (e:=8) T.cu;have hev:aI 8=8:=rfl;unfold Bc EJ Mb;rw[T.check,T.cx,T.laid];simp only[aB,show ah 0 0=true from rfl,bH,aF,bQ];obtain⟨L,hL⟩:∃L,dZ 8 ds=L:=⟨_,rfl⟩;rw[hL] at t1 hpos⊢;have r1:L.ble L=true:=by rw[gW];exact aL _
 have r2:L.ble 1000000000=true:=by rw[gW];exact t1
 have e2:Nat.min 2 L=2:=by show min _ _=_;omega
 have hrep:rep L (Value.int IntKind.u8 0).cells.toList=(bg L).map aX:=s9 L;have hz:bg L=bg 2++bg (L -2):=by rw[<-oW];congr 1;omega
 have r3:∀v:List UInt8,v.length=L->(0+Nat.min 2 L*1).ble (v.map aX).length=true:=by intro v hv;rw[e2,cZ,hv,gW];omega
 simp only[r1,r2,jj,aE,hrep,mL,eD];rw[r3 _ (iY L),aE];have m1:List.map (λ(b:UInt8)=>Value.int IntKind.u8 (Int.ofNat b.toNat)) (ByteArray.mk #[77,77]).data.toList=[(77:UInt8),77].map aX:=rfl;have m2:List.map (λ(b:UInt8)=>Value.int IntKind.u8 (Int.ofNat b.toNat)) (ByteArray.mk #[73,73]).data.toList=[(73:UInt8),73].map aX:=rfl;rw[m1,m2,hz,UT [77,77] (L -2) (bg 2) rfl rfl (by omega)];have hz2:bg (L -2)=bg 2++bg (L -4):=by rw[<-oW];congr 1;omega
 have hz3:bg (L -4)=bg 4++([]++bg (L -8)):=by rw[gC,<-oW];congr 1;omega
 have W:yN w m sh o L (fb ⟨o,ds⟩):=⟨T.hm,T.hw,T.ok,T.bJ,T.ho,by omega,by omega,t2,t4⟩;have fin:∀sg:List UInt8,sg.length=2->(ob (rR w 2 42 2 L L o (aD bV (fb ⟨o,ds⟩)) (cg sh) 0 ((sg++bg (L -2)).map aX)) λ(x53:Nat×Nat×Int×Value×Value×Int×List Value)=>ak (cQ ds) λ(x54:Nat)=>OR w (cg sh) 0 4 (cQ ds) (Int.ofNat x54) 0 x53.fst x53.snd.fst x53.snd.snd.fst x53.snd.snd.snd.fst x53.snd.snd.snd.snd.fst x53.snd.snd.snd.snd.snd.fst x53.snd.snd.snd.snd.snd.snd)=some (aj (sg++(aW 42 2 o++(aW 8 4 o++kZ o sh 0 8 ds))),0):=by
  intro sg hsg;rw[hz2,NB (by omega) sg (bg 2) (bg (L -4)) 42 2 (.inl rfl) (by decide) T.ho _ _ 0 (iY 2) L (by simp only[aP,iY];omega) (by omega) (2:Int) (by omega) (2:Int) rfl (42:Int) rfl];simp only[aB];unfold cQ;rw[cI];have:=ala W ds T.je T.hd T.jM T.hh T.s0 T.cu rfl T.sN hL.symm (sg++aW 42 2 o) (by rw[aP,ef,hsg]);have e4:(((sg++aW 42 2 o).length:Nat):Int)=4:=by rw[aP,ef,hsg];rfl
  rw[e4] at this;unfold cQ at this;rw[hz3];simp at this⊢;exact this
 rcases T.ho with ho|ho
 ·have hb:=UT [73,73] (L -2) [77,77] rfl rfl (L:=L) (by omega);simp only[ho,show ah 1 1=true from rfl,aE];have r4:(0+Nat.min 2 L*1).ble (([77,77]++bg (L -2)).map aX).length=true:=r3 _ (by simp[iY];omega);have f:=fin [73,73] rfl;rw[ho] at f;simp only[r4,hb,aE];refine Eq.trans ?_ (f.trans ?_)
  ·rfl
  ·unfold er;rfl
 ·simp only[ho,show ah 2 1=false from rfl,aF];have f:=fin [77,77] rfl;rw[ho] at f;refine Eq.trans ?_ (f.trans ?_)
  ·rfl
  ·unfold er;rfl
abbrev qZ:=Nat×Nat×List Nat×Nat
def Vp(e:qZ):Value:=.agg #[.int .i64 e.1,.int .i64 e.2.1]
def LA(e:qZ):Value:=.agg #[ae e.2.2.1.length (e.2.2.1.map λt=>.int .i64 (Int.ofNat t)),.int .i64 e.2.2.2]
theorem Y3:∀l:List qZ,yB (l.map Ly)=some (l.map λe=>(Vp e,LA e))
 |[]=>rfl
 |e::l=>by show ob (yB (l.map Ly)) _=_;rw[Y3 l];rfl
theorem abR(a b:Int)(e:qZ):jd [.int .i64 a,.int .i64 b] [.int .i64 e.1,.int .i64 e.2.1]=some (decide (a=(e.1 :Int)/\b=(e.2.1 :Int))):=by
 unfold jd;unfold jd;unfold jd;by_cases h1:a=(e.1 :Int)
 ·by_cases h2:b=(e.2.1 :Int)
  ·simp_all
  ·simp_all
 ·simp[h1]
def pM(a b:Int)(e:qZ):Bool:=decide (a=(e.1 :Int)/\b=(e.2.1 :Int))
theorem QD(a b:Int):∀(l:List qZ)(i:Nat),∃j,uc [.int .i64 a,.int .i64 b] (l.map λe=>(Vp e,LA e)) i=some ((l.find? (pM a b)).map λe=>(j,LA e))
 |[],i=>⟨0,rfl⟩
 |e::l,i=>by
  rw[iD,List.find?_cons];show∃j,(ob (jd [.int .i64 a,.int .i64 b] [.int .i64 e.1,.int .i64 e.2.1]) λq=>cond q _ _)=_;rw[abR];show∃j,cond (pM a b e) _ _=_;cases h:pM a b e with
  |true=>simp
  |false=>obtain⟨j,hj⟩:=QD a b l (i+1);exact⟨j,hj⟩
def nV:List qZ:=[(0,256,[3,4],1),(0,257,[3,4],1),(0,259,[3],1),(0,274,[3],1),(0,296,[3],1),(0,531,[3],1),(0,270,[2],0),(0,271,[2],0),(0,272,[2],0),(0,305,[2],0),(0,315,[2],0),(0,33432,[2],0),(0,306,[2],20),(0,282,[5],1),(0,283,[5],1),(1,256,[3,4],1),(1,257,[3,4],1),(1,259,[3],1),(1,274,[3],1),(1,296,[3],1),(1,531,[3],1),(1,270,[2],0),(1,271,[2],0),(1,272,[2],0),(1,305,[2],0),(1,315,[2],0),(1,33432,[2],0),(1,306,[2],20),(1,282,[5],1),(1,283,[5],1),(2,33434,[5],1),(2,33437,[5],1),(2,37378,[5],1),(2,37386,[5],1),(2,34850,[3],1),(2,37383,[3],1),(2,37384,[3],1),(2,37385,[3],1),(2,40961,[3],1),(2,41986,[3],1),(2,36864,[7],4),(2,37121,[7],4),(2,40960,[7],4),(2,37377,[10],1),(2,37380,[10],1),(2,36867,[2],20),(2,36868,[2],20),(2,40962,[3,4],1),(2,40963,[3,4],1),(2,34855,[3],0),(2,37510,[7],0),(2,37520,[2],0),(2,41728,[7],1),(2,42016,[2],33),(2,42034,[5],4),(3,0,[1],4),(3,5,[1],1),(3,6,[5],1),(3,1,[2],2),(3,3,[2],2),(3,2,[5],3),(3,4,[5],3),(3,7,[5],3),(3,18,[2],0),(3,29,[2],11),(4,1,[2],4),(4,2,[7],4),(5,45056,[7],4),(5,45313,[4],1),(5,45569,[4],1),(5,45570,[4],1),(5,45572,[5],1),(5,45574,[5],1),(5,45573,[10],1),(5,45576,[10],1)]
theorem aiZ(w:Nat):Nq w=some (xq nV):=rfl
def Vo(e:qZ):(Int×Int)×List Int×Int:=(((e.1 :Int),(e.2.1 :Int)),e.2.2.1.map (λn:Nat=>(n:Int)),(e.2.2.2 :Int))
theorem ahx:Vq=nV.map Vo:=by decide
theorem ahv(d t:Int):LB d t=(nV.find? (pM d t)).map λe=>(e.2.2.1.map (λn:Nat=>(n:Int)),(e.2.2.2 :Int)):=by
 unfold LB;rw[ahx];generalize nV=l;induction l with
 |nil=>rfl
 |cons e l ih=>
  rw[iD,List.find?_cons];unfold Vo;rw[List.lookup_cons];have:((d,t)==(((e.1 :Int),(e.2.1 :Int))))=pM d t e:=by
   unfold pM
   grind
  rw[this];cases pM d t e with
  |true=>rfl
  |false=>exact ih
theorem Sf{α:Type}[BEq α](l:List α)(x:α):(cW (λy=>x==y) l<0)=(l.any (λy=>x==y)=false):=by rw[wN];simp
theorem ajF{w:Nat}(l:List Int)(x:Int)(hl:l.length<2^40)(hw:l.length<w):NU w (aD dH l) x=some (cW (λy=>x==y) l):=by
 refine mB l (λy=>x==y) (ev:=λi (g:Value->Int->Int->Int->Option Int)=>g (aD dH l) x l.length i) ?_ ?_ hw
 ·intro i g h;simp;rw[bu ql h];simp[dH];rw[aO (by omega) (by omega)]
  grind
 simp
theorem ajg{w:Nat}(l:List Int)(x:Int)(hl:l.length<2^40)(hw:l.length<w):Gg w (aD dH l) x=some (l.contains x):=by
 unfold Gg;rw[ajF l x hl hw]
 congr 1
 have:=Sf l x;rw[(show l.contains x=l.any (λy=>x==y) from by rw[List.contains_eq_any_beq])];cases h:l.any (λy=>x==y) with
 |true=>simp_all
 |false=>simp_all
def An(p:Int×Int):List Value:=[.int .i64 p.1,.int .i64 p.2]
theorem agU(p:Int×Int):(An p).length=2:=rfl
theorem ajQ{w:Nat}(l:List (Int×Int))(a b:Int)(hl:l.length<2^40)(hw:l.length<w):N4 w (aD An l) a b=some (cW (λy=>(a,b)==y) l):=by
 refine mB l (λy=>(a,b)==y) (ev:=λi (g:Value->Int->Int->Int->Int->Option Int)=>g (aD An l) l.length i a b) ?_ ?_ hw
 ·intro i g h;have e1:((i:Int)<(l.length:Int)):=by omega
  simp only[aV,e1,bQ];rw[bu agU h];simp only[(show∀(x:Int×Int)(r:List Value),An x++r=.int .i64 x.1 ::.int .i64 x.2 ::r fromλ_ _=>rfl),cc];rw[aO (by omega) (by omega)];have hb:((a,b)==l[i])=(decide (a=l[i].1)&&decide (b=l[i].2)):=by rw[ig,beq_iff_eq,bq,bX,bX,Prod.ext_iff]
  rw[hb];by_cases e2:a=l[i].1
  ·by_cases e3:b=l[i].2
   ·simp
   ·simp
  ·simp
 ·intro g;simp
theorem ajf{w:Nat}(hw:20<=w)(a b:Int):Gf w a b=some (oQ.contains (a,b)):=by
 unfold Gf NT;have e:ae 8 (List.drop 0 [Value.int IntKind.i64 0,Value.int IntKind.i64 34665,Value.int IntKind.i64 0,Value.int IntKind.i64 34853,Value.int IntKind.i64 1,Value.int IntKind.i64 513,Value.int IntKind.i64 1,Value.int IntKind.i64 514,Value.int IntKind.i64 2,Value.int IntKind.i64 37500,Value.int IntKind.i64 2,Value.int IntKind.i64 40965,Value.int IntKind.i64 5,Value.int IntKind.i64 45057,Value.int IntKind.i64 5,Value.int IntKind.i64 45058])=aD An oQ:=rfl;rw[e,ajQ _ _ _ (by decide) (by show 8<w;omega)]
 congr 1
 have:=Sf oQ (a,b);rw[(show oQ.contains (a,b)=oQ.any (λy=>(a,b)==y) from by rw[List.contains_eq_any_beq])];cases h:oQ.any (λy=>(a,b)==y) with
 |true=>simp_all
 |false=>simp_all
theorem ahw{d t:Int}{e:qZ}(h:nV.find? (pM d t)=some e):e.2.2.1.length<=2:=by
 have:∀e∈nV,e.2.2.1.length<=2:=by decide
 grind
theorem ai0{w:Nat}(hw:20<=w)(d:Int)(t:aJ)(hl:t.data.length<2^40):Bi w (xq nV) d t.tag t.ty t.aA (aj t.data)=some (rq d t):=by
 unfold Bi rq;simp only[aV,qe];by_cases h1:d<0
 ·rw[az h1];have:¬(0<=d):=by omega
  simp[this]
 rw[ar h1];by_cases h2:d<6
 case neg=>simp[h2]
 by_cases h3:t.tag<0
 ·rw[az h3];have:¬(0<=t.tag):=by omega
  simp[this]
 rw[ar h3];by_cases h4:65535<t.tag
 ·rw[az h4];have:¬(t.tag<=65535):=by omega
  simp[this]
 rw[ar h4];have h5:0<=d/\d<6/\0<=t.tag/\t.tag<=65535:=by omega
 rw[ajf hw,xY _ _ _ _ hl];simp only[aB,h5,and_self,aY];cases hr:oQ.contains (d,t.tag) with
 |true=>rfl
 |false=>
  cases hm:ec t.ty t.aA t.data with
  |false=>rfl
  |true=>
   rw[ahv];obtain⟨j,hj⟩:=QD d t.tag nV 0;have hL:∀(zs:List Value)(K:Bool->List Value->Option Bool),zV pS.T 402 (xq nV) (.agg (Array.mk [.int .i64 d,.int .i64 t.tag])) zs K=match nV.find? (pM d t.tag) with
    |none=>K false (zs.map zN)
    |some e=>K true [ae e.2.2.1.length (e.2.2.1.map λt=>.int .i64 (Int.ofNat t)),.int .i64 e.2.2.2]:=by
    intro zs K;unfold zV xq;simp only;rw[Y3];simp;rw[hj];cases nV.find? (pM d t.tag) with
    |none=>rfl
    |some e=>rfl
   rw[hL];cases hf:nV.find? (pM d t.tag) with
   |none=>rfl
   |some e=>
    have hle:=ahw hf;simp only[bh,qV];have e1:ae e.2.2.1.length (e.2.2.1.map λt=>Value.int .i64 (Int.ofNat t))=aD dH (e.2.2.1.map (λn:Nat=>(n:Int))):=by
     unfold aD;rw[cZ]
     congr 1
     generalize e.2.2.1 =l;induction l with
     |nil=>rfl
     |cons a l ih=>rw[iD,iD,ih];rfl
    rw[e1,ajg _ _ (by rw[cZ];omega) (by rw[cZ];omega)];cases(e.2.2.1.map (λn:Nat=>(n:Int))).contains t.ty with
    |false=>rfl
    |true=>
     by_cases h0:e.2.2.2 =0
     ·simp[h0]
     ·have h0':¬((e.2.2.2 :Int)=0):=by omega
      rw[(show((e.2.2.2 :Int)==0)=false from by simpa using h0')];simp_all;rfl
theorem Vg:∀{l:List aJ},(∀i (hi:i+1<l.length),l[i].tag<l[i+1].tag)->fE l=true
 |[],_=>rfl
 |[a],_=>rfl
 |a::b::l,h=>by simp[fE];exact⟨h 0 (by simp),Vg λi hi=>h (i+1) (by grind)⟩
theorem ahu(d:Int)(l:List aJ):cR d l=((List.range l.length).all (λi=>(decide (i=0)||decide ((l[i -1]?.map aJ.tag).getD 0<(l[i]?.map aJ.tag).getD 0))&&((l[i]?.map (rq d)).getD true))&&decide (0<=d/\d<6)):=by
 unfold cR
 congr 1
 rw[ig];simp;constructor
 ·rintro ⟨h1,h2⟩ i hi
  refine⟨?_,?_⟩
  ·by_cases q:i=0
   ·grind
   ·right;rw[cN hi,cN (show i -1<l.length by omega)];exact uY h1 (by omega) hi
  grind
 ·intro h;refine⟨?_,λx hx=>?_⟩
  ·refine Vg λi hi=>?_
   grind
  ·obtain⟨i,hi,rfl⟩:=List.getElem_of_mem hx
   grind
theorem acb{δ:Type}{z:δ}{F:δ->δ}{w:Nat}(m:Nat)(ok:Nat->Bool)(r:Bool)(ev:Nat->δ->Option Bool)(hs:∀i g,i<m->ev i (F g)=if ok i=true then ev (i+1) g else some false)(he:∀g,ev m (F g)=some r)(hw:m<w):
 ev 0 (lp z F w)=some ((List.range m).all ok&&r):=by
 have key:∀(d i v:Nat),i+d=m->d<v->ev i (lp z F v)=some (((List.range d).all λj=>ok (i+j))&&r):=by
  intro d;induction d with
  |zero=>intro i v hi hv;rw[eA z F (by omega),show i=m by omega,he];rfl
  |succ d ih=>
   intro i v hi hv;rw[eA z F (by omega),hs i _ (by omega),tQ];by_cases h:ok i=true
   ·rw[ih (i+1) (v -1) (by omega) (by omega)];simp[h]
    grind
   grind
 grind
theorem qC{w:Nat}(hw:20<=w)(d:Int)(l:List aJ)(hl:l.length<2^40)(hd:∀t∈l,t.data.length<2^40)(hlw:l.length<w):nv w d (au l)=some (cR d l):=by
 unfold nv au;rw[aiZ,ahu];simp only[aB];refine acb l.length _ (decide (0<=d/\d<6)) (ev:=λi (g:Int->Value->Value->Value->Int->Int->Option Bool)=>g d (aD cq l) (xq nV) (aD cq l) l.length i) ?_ ?_ hlw
 ·intro i g h;have e1:((i:Int)<(l.length:Int)):=by omega
  simp only[aV,e1,aE,bQ];rw[bu gI h];have tt:∀(t:aJ)(r:List Value),cq t++r=.int .i64 t.tag::.int .i64 t.ty::.int .i64 t.aA::aj t.data::r:=λ_ _=>rfl;simp only[tt,bh,bP];rw[ai0 hw d l[i] (hd _ (cG h)),cN h];simp only[aB,cc,iT,qV];rw[aO (n:=(i:Int)+1) (by omega) (by omega)];by_cases h0:i=0
  ·have e2:¬((0:Int)<(i:Int)):=by omega
   have e3:decide (i=0)=true:=by simp[h0]
   simp only[e2,bN,aF,e3,Bool.true_or];cases rq d l[i]<;>rfl
  ·have e2:((0:Int)<(i:Int)):=by omega
   simp_all;rw[aO (by omega) (by omega),lK (by omega),show((i:Int) -1).toNat=i -1 by omega];rw[bu gI (show i -1<l.length by omega),cN (show i -1<l.length by omega)];simp_all;by_cases h3:l[i -1].tag<l[i].tag
   ·simp only[h3,aY,aF,eD];cases rq d l[i]<;>rfl
   ·simp[h3]
 ·intro g;have e1:¬((l.length:Int)<(l.length:Int)):=by omega
  by_cases h1:d<0
  ·have:¬(0<=d):=by omega
   simp[this]
  ·have:0<=d:=by omega
   simp[h1,this]
def fo(l:List UInt8):List Value:=[aj l]
structure Hand(w:Nat):Prop where
 may:∀o ds,ds.length<1000000000->(∀d∈ds,∃(sh:List aZ)(s:Nat),cD sh s d=true)->kF ds<=w->vr w o (cQ ds)=some true
 set:∀(l:List aJ)(x:aJ),fE l=true->l.length<2^20->l.length+2<w->(∀t∈l,t.data.length<=1000000000)->x.data.length<=1000000000->Bn w (au l) x.tag x.ty x.aA (aj x.data)=some (au (jS l x))
 drop:∀(l:List aJ)(t:Int),fE l=true->l.length<2^20->l.length+2<w->(∀t∈l,t.data.length<=1000000000)->yc w (au l) t=some (au (oD l t))
 cut:∀b:List UInt8,b.length<=65519->BC w (aj b)=some (aD fo (fY b),0)
 cat:∀a b c d:List UInt8,0<a.length->a.length+b.length+c.length+d.length<2^29->tr w (aj a) (aj b) (aj c) (d.map aX)=some ((d++(a++(b++c))).map aX)
theorem re(w:Nat)(l:List UInt8)(hl:l.length<=1000000000):nw w (aj l)=some (aj l):=by
 unfold nw;by_cases h:l.length=0
 ·have e:Nat.beq l.length 0=true:=by rw[h];rfl
  rw[my h];rfl
 ·have e:Nat.beq l.length 0=false:=by simp[h]
  unfold No EG;rw[gY,iv];have e1:Nat.blt 0 l.length=true:=by simp;omega
  have hn:=nextslicecap_le (need:=0+l.length) (old:=0) (by omega);have e4:(Builtin.nextslicecap (0+l.length) 0).ble 5000000000=true:=by rw[gW];omega
  simp_all;rw[uh _ _ rfl]
theorem ZQ(w:Nat)(l:List aJ)(h:l.length≠0)(hl:l.length<=1000000000):Gj w (au l)=some (l.flatMap cq):=by
 unfold Gj au;rw[zy gI];have hn:=nextslicecap_le (need:=0+l.length) (old:=0) (by omega);have e4:(Builtin.nextslicecap (0+l.length) 0).ble 5000000000=true:=by rw[gW];omega
 have e5:(l.flatMap cq).length.beq (l.length*4)=true:=by rw[dc gI];exact mL _
 simp_all
theorem rC{w:Nat}(l:List aJ)(hl:l.length<=100000000)(hd:∀t∈l,t.data.length<=1000000000)(hw:l.length<w):mc w (au l)=some (au l):=by
 unfold mc;rw[(show∀K:Nat->Option Value,ak (au l) K=K l.length fromλK=>cI cq l K)];by_cases h:l.length=0
 ·have e:Nat.beq l.length 0=true:=by rw[h];rfl
  rw[my h];rfl
 have e:Nat.beq l.length 0=false:=by simp[h]
 rw[e];unfold NA;rw[ZQ w l h (by omega)];have hfl:=dc gI l;simp only[aB,hfl,jk _ (show 0<4 by decide)];refine iL (ev:=λi (g:Int->Int->List Value->Option Value)=>g (l.length:Int) i (l.flatMap cq)) l.length ?_ ?_ hw
 ·intro i g hi;have e1:((i:Int)<(l.length:Int)):=by omega
  have e2:i*4<(l.flatMap cq).length:=by omega
  have e3:0+i*4+1+2+1<=(l.flatMap cq).length:=by omega
  have hdr:(l.flatMap cq).drop (0+i*4+1+2)=aj l[i].data::(l.drop (i+1)).flatMap cq:=by rw[show 0+i*4+1+2=i*4+3 by omega,<-List.drop_drop,mW gI,cX hi];rfl
  simp only[aV,e1,aY,aE,bQ,mr,e2,fW,e3];rw[hdr];simp only[bh];rw[re w _ (hd _ (cG hi))];simp only[aB,aE,Ef,cc];rw[aO (by omega) (by omega)];have hset:(l.flatMap cq).set (0+i*4+1+2) (aj l[i].data)=l.flatMap cq:=by
   have hg:(l.flatMap cq)[0+i*4+1+2]'(by omega)=aj l[i].data:=by have:=cX (l:=l.flatMap cq) (i:=0+i*4+1+2) (by omega);rw[hdr] at this;exact(List.cons.inj this).1.symm
   rw[<-hg];exact List.set_getElem_self _
  rw[hset];rfl
 ·intro g;simp only[aV,(show¬((l.length:Int)<(l.length:Int)) from by omega),bN,aF];unfold au aD;rw[hfl,jk _ (show 0<4 by decide)]
theorem max_eq{w:Nat}(a:Int)(l:List Int)(hl:l.length<2^40)(hw:l.length+1<w):Gk w (aD dH (a::l))=some (l.foldl (λm x=>if m<x then x else m) a):=by
 unfold Gk;simp only[aV,cf];refine nb (ev:=λi s (g:Value->Int->Int->Option Int)=>g (aD dH (a::l)) s ((i+1:Nat):Int)) (Inv:=λi s=>(l.drop i).foldl (λm x=>if m<x then x else m) s=l.foldl (λm x=>if m<x then x else m) a) l.length a (by rfl) ?_ ?_ (by omega)
 ·rintro i g s hi h1
  rw[cX hi] at h1;refine⟨_,h1,?_⟩;simp only[(show∀K:Nat->Option Int,ak (aD dH (a::l)) K=K (l.length+1) fromλK=>cI dH (a::l) K),(show(((i+1:Nat):Int)<((l.length+1:Nat):Int)) from by omega),bQ];rw[bu ql (show i+1<(a::l).length by simp;omega)];simp;rw[aO (by omega) (by omega)];rfl
 simp
theorem QM:∀(l:List Int)(a:Int),0<l.foldl (λm x=>if m<x then x else m) a↔(0<a\/∃x∈l,0<x)
 |[],a=>by simp
 |b::l,a=>by
  rw[List.foldl_cons,QM l];by_cases h:a<b
  ·rw[az h];constructor
   ·simp_all
   grind
  grind
theorem Ot{w:Nat}(hw:20<=w)(a:Int)(l:List Int)(hl:l.length<10):xT w (aD dH (a::l))=some (decide (0<a\/∃x∈l,0<x)):=by
 unfold xT;rw[max_eq a l (by omega) (by omega)];simp only[aB,aV]
 congr 1
 rw[ig,bX,bX];exact QM l a
structure jm(x:db)(m:Nat):Prop where
 rows:qz x m
 d0:∀t∈x.cj,t.data.length<=m
 d2:∀t∈x.bD,t.data.length<=m
 d3:∀t∈x.bG,t.data.length<=m
 d4:∀t∈x.bj,t.data.length<=m
 d1:∀t∈x.first,t.data.length<=m
 mkr:x.bC.length<=m
 th:x.cC.length<=m
theorem XQ{w m:Nat}{x:db}(h:jm x m)(hm:m<2^26)(hw:m+20<w):
 Bk w x.order (au x.cj) (au x.bD) (au x.bG) (au x.bj) (au x.first) (aj x.bC) (aj x.cC)=some (iI x):=by
 obtain⟨⟨r0,r2,r3,r4,r1⟩,d0,d2,d3,d4,d1,hmk,hth⟩:=h;have q0:=qC (w:=w) (by omega) 0 x.cj (by omega) (λt ht=>by have:=d0 t ht;omega) (by omega);have q2:=qC (w:=w) (by omega) 2 x.bD (by omega) (λt ht=>by have:=d2 t ht;omega) (by omega);have q3:=qC (w:=w) (by omega) 3 x.bG (by omega) (λt ht=>by have:=d3 t ht;omega) (by omega);have q4:=qC (w:=w) (by omega) 4 x.bj (by omega) (λt ht=>by have:=d4 t ht;omega) (by omega);have q1:=qC (w:=w) (by omega) 1 x.first (by omega) (λt ht=>by have:=d1 t ht;omega) (by omega);have hlr:∀(l:List aJ)(K:Nat->Option Int),ak (au l) K=K l.length:=λl K=>cI cq l K;have hs:=Ot (w:=w) (by omega) (x.cj.length:Int) [(x.bD.length:Int),(x.bG.length:Int),(x.bj.length:Int),(x.bC.length:Int)] (by simp);have e:aD dH [(x.cj.length:Int),(x.bD.length:Int),(x.bG.length:Int),(x.bj.length:Int),(x.bC.length:Int)]=ae 5 (List.drop 0 [Value.int IntKind.i64 (Int.ofNat x.cj.length),Value.int IntKind.i64 (Int.ofNat x.bD.length),Value.int IntKind.i64 (Int.ofNat x.bG.length),Value.int IntKind.i64 (Int.ofNat x.bj.length),Value.int IntKind.i64 (Int.ofNat x.bC.length)]):=rfl;rw[e] at hs;have hany:(decide ((0:Int)<(x.cj.length:Int)\/∃y∈[(x.bD.length:Int),(x.bG.length:Int),(x.bj.length:Int),(x.bC.length:Int)],0<y))=!decide (x.cj.length=0/\x.bD.length=0/\x.bG.length=0/\x.bj.length=0/\x.bC.length=0):=by rw[ig,bX,tN,gE];simp only[cO,mK,mN,exists_eq_or_imp,exists_eq_left];omega
 rw[hany] at hs;simp only[cf] at hs;have h95:yq w x.order (au x.cj) (au x.bD) (au x.bG) (au x.bj) (au x.first) (aj x.bC) (aj x.cC)=some (0,au x.cj,2,au x.bD,3,au x.bG,4,au x.bj,1,au x.first):=rfl;unfold Bk iI Md;simp only[h95,aB,q0,q2,q3,q4,q1,hlr,cw,hs,bW,aV,cf];have fin:(bif !cR 0 x.cj then some (6:Int) else bif !cR 2 x.bD then some 6 else bif !cR 3 x.bG then some 6 else bif !cR 4 x.bj then some 6 else bif !cR 1 x.first then some 6 else bif decide ((65536:Int)<(x.bC.length:Int)) then some 6 else bif !(!decide (x.cj.length=0/\x.bD.length=0/\x.bG.length=0/\x.bj.length=0/\x.bC.length=0)) then some 6 else some 0)=
  some (if(cR 0 x.cj&&(cR 2 x.bD&&(cR 3 x.bG&&(cR 4 x.bj&&cR 1 x.first))))=false then 6 else if 65536<x.bC.length\/(x.cj.length=0/\x.bD.length=0/\x.bG.length=0/\x.bj.length=0/\x.bC.length=0) then 6 else 0):=by
  cases cR 0 x.cj<;>cases cR 2 x.bD<;>cases cR 3 x.bG<;>cases cR 4 x.bj<;>cases cR 1 x.first<;>try rfl
  simp_all;by_cases c1:65536<x.bC.length
  ·rw[az (by omega),az (.inl c1)]
  ·rw[ar (by omega)];by_cases c2:(x.cj.length=0/\x.bD.length=0/\x.bG.length=0/\x.bj.length=0/\x.bC.length=0)<;>grind
 by_cases o1:x.order=1
 ·have:¬¬(x.order=1\/x.order=2):=by omega
  rw[ar this];simp only[o1,aY,bH,aF,hs,aB];exact fin
 ·by_cases o2:x.order=2
  ·have:¬¬(x.order=1\/x.order=2):=by omega
   rw[ar this];simp only[o2,show decide ((2:Int)=1)=false from rfl,ft,aE,aY,bH,aF,hs,aB];exact fin
  ·have:¬(x.order=1\/x.order=2):=by omega
   rw[az this];simp only[o1,o2,bN,ft,aE]
theorem acz(w:Nat)(b:List UInt8)(hb:b.length<=1000000000):Gl w (aj b)=some ((jz b).tag,(jz b).ty,(jz b).aA,aj (jz b).data):=by unfold Gl;rw[re w b hb];rfl
theorem ai8{w m:Nat}(A:Hand w){x:db}(h:jm x m)(hm:m<=70000)(hw:m+20<w)(hp:fE x.bD=true)(a b c d:Value)(o:Int):
 F7 w o a (au x.bD) b (au x.bj) c (aj x.bC) d=some (dT (jE x),dS (jE x),dB (jE x)):=by
 obtain⟨⟨r0,r2,r3,r4,r1⟩,d0,d2,d3,d4,d1,hmk,hth⟩:=h;have q4:=rC (w:=w) x.bj (by omega) (λt ht=>by have:=d4 t ht;omega) (by omega);have hs:=A.set x.bD (jz x.bC) hp (by omega) (by omega) (λt ht=>by have:=d2 t ht;omega) (by show x.bC.length<=_;omega);have hlr:∀(l:List aJ)(K:Nat->Option (Value×Value×Value)),ak (au l) K=K l.length:=λl K=>cI cq l K;unfold F7 Mk;rw[(rC (w:=w) x.bD (by omega) (λt ht=>by have:=d2 t ht;omega) (by omega))];simp only[cw,hlr,aV,cf];unfold jE;by_cases a1:x.bC.length=0
 ·have e1:¬((0:Int)<(x.bC.length:Int)):=by omega
  simp only[e1,aF,az a1];by_cases a2:x.bj.length=0
  ·have e2:¬((0:Int)<(x.bj.length:Int)):=by omega
   simp only[e2,aF,az a2];rfl
  ·have e2:((0:Int)<(x.bj.length:Int)):=by omega
   simp only[e2,aE,ar a2,q4,aB];rfl
 ·have e1:((0:Int)<(x.bC.length:Int)):=by omega
  simp only[e1,aE,ar a1];rw[acz w _ (by omega)];simp only[aB];rw[hs];by_cases a2:x.bj.length=0
  ·have e2:¬((0:Int)<(x.bj.length:Int)):=by omega
   simp only[e2,aF,az a2];rfl
  ·have e2:((0:Int)<(x.bj.length:Int)):=by omega
   simp only[e2,aE,ar a2,q4,aB];rfl
theorem akm{w:Nat}(hw:10<=w):oS w (ae 0 [])=some ():=by obtain⟨v,rfl⟩:=vR hw;rfl
theorem akn{w:Nat}(hw:10<=w)(t:Int)(a b c:Value):oS w (ae 1 [.int .i64 t,a,b,c])=some ():=by obtain⟨v,rfl⟩:=vR hw;rfl
theorem ako{w:Nat}(hw:10<=w)(a b c d e f:Value):oS w (ae 2 [.int .i64 34665,a,b,c,.int .i64 34853,d,e,f])=some ():=by obtain⟨v,rfl⟩:=vR hw;rfl
theorem Xb{w m:Nat}(A:Hand w){x:db}(h:jm x m)(hm:m<=70000)(hw:m+20<w):
 Bb w x.order (au x.cj) (au x.bD) (au x.bG) (au x.bj) (au x.first) (aj x.bC) (aj x.cC)=some (if iI x=0 then(x.order,cQ (eP x).dE,0) else(0,ae 0 [],iI x)):=by
 unfold Bb AH pN pO pP;rw[XQ h (by omega) hw];simp only[aB,bW];by_cases hc:iI x=0
 case neg=>rw[ar hc];simp only[hc,bN,ft,aE]
 rw[az hc];simp only[hc,aY,bH,aF];have hp:=(xk (sB hc).2.2.1).1;have q196:=λa b c d o=>ai8 A h hm hw hp a b c d o;obtain⟨⟨r0,r2,r3,r4,r1⟩,d0,d2,d3,d4,d1,hmk,hth⟩:=h;have q0:=rC (w:=w) x.cj (by omega) (λt ht=>by have:=d0 t ht;omega) (by omega);have q3:=rC (w:=w) x.bG (by omega) (λt ht=>by have:=d3 t ht;omega) (by omega);have q1:=rC (w:=w) x.first (by omega) (λt ht=>by have:=d1 t ht;omega) (by omega);have qt:=re w x.cC (by omega);have hlr:∀(l:List aJ)(K:Nat->Option (Int×Value×Int)),ak (au l) K=K l.length:=λl K=>cI cq l K;have s3:=Ot (w:=w) (by omega) (x.bD.length:Int) [(x.bj.length:Int),(x.bC.length:Int)] (by simp);have e3:aD dH [(x.bD.length:Int),(x.bj.length:Int),(x.bC.length:Int)]=ae 3 (List.drop 0 [Value.int IntKind.i64 (Int.ofNat x.bD.length),Value.int IntKind.i64 (Int.ofNat x.bj.length),Value.int IntKind.i64 (Int.ofNat x.bC.length)]):=rfl;have a3:(decide ((0:Int)<(x.bD.length:Int)\/∃y∈[(x.bj.length:Int),(x.bC.length:Int)],0<y))=!decide (x.bD.length=0/\x.bj.length=0/\x.bC.length=0):=by rw[ig,bX,tN,gE];simp only[cO,mK,mN,exists_eq_or_imp,exists_eq_left];omega
 rw[e3,a3] at s3;have s2:=Ot (w:=w) (by omega) (x.first.length:Int) [(x.cC.length:Int)] (by simp);have e2:aD dH [(x.first.length:Int),(x.cC.length:Int)]=ae 2 (List.drop 0 [Value.int IntKind.i64 (Int.ofNat x.first.length),Value.int IntKind.i64 (Int.ofNat x.cC.length)]):=rfl;have a2:(decide ((0:Int)<(x.first.length:Int)\/∃y∈[(x.cC.length:Int)],0<y))=!decide (x.first.length=0/\x.cC.length=0):=by rw[ig,bX,tN,gE];simp only[cO,mK,mN,exists_eq_left];omega
 rw[e2,a2] at s2;have n0:=akm (w:=w) (by omega);have n1:=λt a b c=>akn (w:=w) (by omega) t a b c;have n2:=λa b c d e f=>ako (w:=w) (by omega) a b c d e f;simp only[dX,cf] at s2 s3;simp only[q0,q3,q1,qt,q196,aB,hlr,cw,s3,s2,dX,oi,pZ,eV,gC,cm,List.length_nil,Nat.reduceAdd,Nat.reduceDiv,n0,n1,n2,aV,cf];unfold eP jC mX;by_cases c1:x.bD.length=0/\x.bj.length=0/\x.bC.length=0
 ·rw[gp c1];by_cases c2:x.bG.length=0
  ·have f2:¬((0:Int)<(x.bG.length:Int)):=by omega
   by_cases c3:x.first.length=0/\x.cC.length=0
   ·rw[gp c3];simp only[f2,bN,bH,aF,az c1,az c2,az c3];rfl
   ·rw[fH c3];simp only[f2,bN,bH,ft,aE,aF,az c1,az c2,ar c3];rfl
  ·have f2:((0:Int)<(x.bG.length:Int)):=by omega
   by_cases c3:x.first.length=0/\x.cC.length=0
   ·rw[gp c3];simp only[f2,aY,bH,aE,aF,az c1,ar c2,az c3];rfl
   ·rw[fH c3];simp only[f2,aY,bH,ft,aE,aF,az c1,ar c2,ar c3];rfl
 ·rw[fH c1];have tk:∀r:cA,gA (.cons 34665 (jE x) r)=.int .i64 34665::dT (jE x)::dS (jE x)::dB (jE x)::gA r:=by
   intro r;show Value.int .i64 34665::(cS (jE x)++gA r)=_;rw[py];rfl
  have td:∀(t:List aJ)(r:cA)(b:List UInt8),cS (.mk t r b)=[au t,ae (bY r) (gA r),aj b]:=λ_ _ _=>rfl;by_cases c2:x.bG.length=0
  ·have f2:¬((0:Int)<(x.bG.length:Int)):=by omega
   by_cases c3:x.first.length=0/\x.cC.length=0
   ·rw[gp c3];simp only[f2,bN,bH,ft,aE,aF,ar c1,az c2,az c3];unfold cQ aD;simp only[dL,lD,td,tk];rfl
   ·rw[fH c3];simp only[f2,bN,bH,ft,aE,aF,ar c1,az c2,ar c3];unfold cQ aD;simp only[dL,lD,td,tk];rfl
  ·have f2:((0:Int)<(x.bG.length:Int)):=by omega
   by_cases c3:x.first.length=0/\x.cC.length=0
   ·rw[gp c3];simp only[f2,aY,bH,ft,aE,aF,ar c1,ar c2,az c3];unfold cQ aD;simp only[dL,lD,td,tk];rfl
   ·rw[fH c3];simp only[f2,aY,bH,ft,aE,aF,ar c1,ar c2,ar c3];unfold cQ aD;simp only[dL,lD,td,tk];rfl
noncomputable section
def E9(w:Nat):Value->Int->Int->Option (Value×Bool):=λa b c=>ak a λd=>lp (α:=Value->Int->Int->Int->Value->Int->Int->List Value->Option (Value×Bool)) (λ_ _ _ _ _ _ _ _=>none) (λm n o p q r s t u=>bif ai t s then ax t λv=>aC 5 v r λy=>af y λz a0=>aq .i64 z λa1=>af a0 λa2 a3=>aq .i64 a2 λa4=>af a3 λa5 a6=>aq .i64 a5 λa7=>af a6 λa8 a9=>aq .i64 a8 λb0=>af a9 λb1 b2=>aq .i64 b1 λb3=>bif ai 0 t then bif !ah (ag .i64 (a7.add o)) q then some (ae 0 [],false) else bif ai a4 1 then some (ae 0 [],false) else bif ai (ag .i64 (p.sub q)) a4 then some (ae 0 [],false) else bif aw u.length&&(aw ([Value.int .i64 (ag .i64 (a7.add o))].length/1)&&[Value.int .i64 (ag .i64 (a7.add o))].length.beq ([Value.int .i64 (ag .i64 (a7.add o))].length/1*1)) then m n o p (ag .i64 (q.add a4)) r s (ag .i64 (t.add 1)) (u++[Value.int .i64 (ag .i64 (a7.add o))]) else none else bif !ah a7 q then some (ae 0 [],false) else bif ai a4 1 then some (ae 0 [],false) else bif ai (ag .i64 (p.sub q)) a4 then some (ae 0 [],false) else bif aw u.length&&(aw ([Value.int .i64 a7].length/1)&&[Value.int .i64 a7].length.beq ([Value.int .i64 a7].length/1*1)) then m n o p (ag .i64 (q.add a4)) r s (ag .i64 (t.add 1)) (u++[Value.int .i64 a7]) else none else ak n λb4=>bif ah (Int.ofNat b4) 0 then some (ae 0 [],false) else bif !ah q p then some (ae 0 [],false) else bif aw u.length&&(aw ([Value.int .i64 q].length/1)&&[Value.int .i64 q].length.beq ([Value.int .i64 q].length/1*1)) then some (ae ((u++[Value.int .i64 q]).length/1) (u++[Value.int .i64 q]),true) else none) w a b c 0 a (Int.ofNat d) 0 []
def vj(w:Nat):Int->Int->Value->Int->Value->Value->Value->List Value->List Value->Option (Int×Value×Int×Value×Value×Value×List Value×List Value):=λa b c d e f g h i=>ak c λj=>ax b λk=>ax b λl=>ax a λm=>bif k.ble j&&(l.ble k&&m.ble l) then eJ 1 m l c λn=>ob (rT w n) λo=>bif !ah o.2.2.2.2.2.2.2.2.2.2.2.2.2 0 then some (o.2.2.2.2.2.2.2.2.2.2.2.2.2,c,d,e,f,g,h,i) else bif aw i.length&&(aw 1&&(List.take 13 (List.drop 0 [Value.int .i64 o.1,o.2.1,o.2.2.1,o.2.2.2.1,o.2.2.2.2.1,o.2.2.2.2.2.1,o.2.2.2.2.2.2.1,o.2.2.2.2.2.2.2.1,o.2.2.2.2.2.2.2.2.1,o.2.2.2.2.2.2.2.2.2.1,o.2.2.2.2.2.2.2.2.2.2.1,Value.int .i64 o.2.2.2.2.2.2.2.2.2.2.2.1,Value.int .i64 o.2.2.2.2.2.2.2.2.2.2.2.2.1])).length.beq 13) then some (0,c,d,e,f,g,h,i++List.take 13 (List.drop 0 [Value.int .i64 o.1,o.2.1,o.2.2.1,o.2.2.2.1,o.2.2.2.2.1,o.2.2.2.2.2.1,o.2.2.2.2.2.2.1,o.2.2.2.2.2.2.2.1,o.2.2.2.2.2.2.2.2.1,o.2.2.2.2.2.2.2.2.2.1,o.2.2.2.2.2.2.2.2.2.2.1,Value.int .i64 o.2.2.2.2.2.2.2.2.2.2.2.1,Value.int .i64 o.2.2.2.2.2.2.2.2.2.2.2.2.1])) else none else none
def A3(w:Nat):Value->Int->Value->Value->Value->List Value->List Value->Option (Int×Value×Int×Value×Value×Value×List Value×List Value):=λa b c d e f g=>ak a λh=>bif ai 4294967295 (Int.ofNat h) then some (7,a,b,c,d,e,f,g) else ak a λi=>ob (vj w 0 (Int.ofNat i) a b c d e f g) λj=>some (j.1,j.2.1,j.2.2.1,j.2.2.2.1,j.2.2.2.2.1,j.2.2.2.2.2.1,j.2.2.2.2.2.2.1,j.2.2.2.2.2.2.2)
def xH(E:Value->Value->Option (Int×Value×Int×Value×Value×Value×List Value×List Value)->Option (Int×Value×Int×Value×Value×Value×List Value×List Value))(w:Nat):Value->Int->Value->Value->Value->List Value->List Value->Option (Int×Value×Int×Value×Value×Value×List Value×List Value):=λa b c d e f g=>bif Nat.beq 13 13&&Nat.blt 0 g.length then af (List.drop 0 g) λh i=>aq .i64 h λj=>af i λk l=>af l λm n=>af n λo p=>af p λq r=>af r λs t=>af t λu v=>af v λy z=>af z λa0 a1=>af a1 λa2 a3=>af a3 λa4 a5=>af a5 λa6 a7=>aq .i64 a6 λa8=>af a7 λa9 b0=>aq .i64 a9 λb1=>ak a λb2=>ak a4 λb3=>bif ai 0 (Int.ofNat b3) then ob (Bq w a4) λb4=>bif !ah b4.2.2.2 0 then some (b4.2.2.2,a,b,ae 2 (List.drop 0 [Value.int .i64 0,Value.int .i64 (Int.ofNat b2)]),ae 1 (List.drop 0 (rep 1 (Value.agg #[Value.int .i64 0,Value.int .i64 0,Value.int .i64 0,Value.int .i64 0,Value.int .i64 0]).cells.toList)),e,f,g) else ak a λb5=>ob (E9 w b4.2.1 (ag .i64 (a8.add 4)) (Int.ofNat b5)) λb6=>bif !b6.2 then some (4,a,b,ae 2 (List.drop 0 [Value.int .i64 0,Value.int .i64 (Int.ofNat b2)]),ae 1 (List.drop 0 (rep 1 (Value.agg #[Value.int .i64 0,Value.int .i64 0,Value.int .i64 0,Value.int .i64 0,Value.int .i64 0]).cells.toList)),e,f,g) else E b4.2.2.1 b4.2.2.1 (E b4.2.1 b4.2.1 (E b4.2.2.1 b4.2.2.1 (aC 1 1 b6.1 λb7=>af b7 λb8 b9=>aq .i64 b8 λc0=>bif !ah b1 c0 then some (2,a,b,b6.1,b4.2.1,b4.2.2.1,f,g) else some (0,a,b,b6.1,b4.2.1,b4.2.2.1,f,g)))) else bif !ah b1 (Int.ofNat b2) then some (2,a,b,ae 2 (List.drop 0 [Value.int .i64 0,Value.int .i64 (Int.ofNat b2)]),ae 1 (List.drop 0 (rep 1 (Value.agg #[Value.int .i64 0,Value.int .i64 0,Value.int .i64 0,Value.int .i64 0,Value.int .i64 0]).cells.toList)),e,f,g) else some (0,a,b,ae 2 (List.drop 0 [Value.int .i64 0,Value.int .i64 (Int.ofNat b2)]),ae 1 (List.drop 0 (rep 1 (Value.agg #[Value.int .i64 0,Value.int .i64 0,Value.int .i64 0,Value.int .i64 0,Value.int .i64 0]).cells.toList)),e,f,g) else none
def rN(w:Nat):Value->Int->Value->Value->Value->List Value->List Value->Option (Int×Value×Int×Value×Value×Value×List Value×List Value):=xH (λ_ _ r=>r) w
def A7(E:Value->Value->Option (Value×Int×Value×Value×Value×List Value×List Value)->Option (Value×Int×Value×Value×Value×List Value×List Value))(w:Nat):Int->Value->Value->Int->Value->Value->Value->List Value->List Value->Option (Value×Int×Value×Value×Value×List Value×List Value):=λa b c d e f g h i=>ax a λj=>bif Nat.beq 13 13&&(j*13).blt i.length then af (List.drop (0+j*13) i) λk l=>aq .i64 k λm=>af l λn o=>af o λp q=>af q λr s=>af s λt u=>af u λv y=>af y λz a0=>af a0 λa1 a2=>af a2 λa3 a4=>af a4 λa5 a6=>af a6 λa7 a8=>af a8 λa9 b0=>aq .i64 a9 λb1=>af b0 λb2 b3=>aq .i64 b2 λb4=>ax a λb5=>aC 5 b5 f λb6=>af b6 λb7 b8=>aq .i64 b7 λb9=>af b8 λc0 c1=>aq .i64 c0 λc2=>af c1 λc3 c4=>aq .i64 c3 λc5=>af c4 λc6 c7=>aq .i64 c6 λc8=>af c7 λc9 d0=>aq .i64 c9 λd1=>E f f (bif aw h.length&&(aw 1&&(List.take 14 (List.drop 0 [Value.int .i64 m,n,p,r,t,v,z,a1,a3,a5,Value.int .i64 b9,Value.int .i64 c8,Value.int .i64 d1,b])).length.beq 14) then some (c,d,e,f,g,h++List.take 14 (List.drop 0 [Value.int .i64 m,n,p,r,t,v,z,a1,a3,a5,Value.int .i64 b9,Value.int .i64 c8,Value.int .i64 d1,b]),i) else none) else none
def qD(w:Nat):Int->Value->Value->Int->Value->Value->Value->List Value->List Value->Option (Value×Int×Value×Value×Value×List Value×List Value):=A7 (λ_ _ r=>r) w
def Ft(w:Nat):Value->Option (Int×Value×Int):=λa=>ob (xP w) λb=>ob (vz w a b) λc=>bif !ah c.2.2.2 0 then some (0,ae 0 [],c.2.2.2) else aC 3 0 c.2.1 λd=>af (List.drop 0 d) λe f=>ob (nv w 5 e) λg=>bif !g then some (0,ae 0 [],6) else aC 3 0 c.2.1 λh=>af (List.drop 0 h) λi j=>some (c.1,i,0)
def Fm(w:Nat):Value->Int->Value->Value->Value->List Value->List Value->Option (Int×Value×Int×Value×Value×Value×List Value×List Value):=λa b c d e f g=>ob (qD w 0 e a b c d e f g) λh=>lp (α:=Int->Value->Int->Value->Value->Value->List Value->List Value->Option (Int×Value×Int×Value×Value×Value×List Value×List Value)) (λ_ _ _ _ _ _ _ _=>none) (λq r s t u v y z a0=>ak v λa1=>bif ai r (Int.ofNat a1) then ax r λa2=>aC 1 a2 u λa3=>af a3 λa4 a5=>aq .i64 a4 λa6=>ax (ag .i64 (r.add 1)) λa7=>aC 1 a7 u λa8=>af a8 λa9 b0=>aq .i64 a9 λb1=>ob (vj w a6 b1 s r u v y z a0) λb2=>bif !ah b2.1 0 then some (b2.1,b2.2.1,b2.2.2.1,b2.2.2.2.1,b2.2.2.2.2.1,b2.2.2.2.2.2.1,b2.2.2.2.2.2.2.1,b2.2.2.2.2.2.2.2) else ax r λb3=>bif Nat.beq 13 13&&(b3*13).blt (List.length b2.2.2.2.2.2.2.2) then af (List.drop (0+b3*13) b2.2.2.2.2.2.2.2) λb4 b5=>aq .i64 b4 λb6=>af b5 λb7 b8=>af b8 λb9 c0=>af c0 λc1 c2=>af c2 λc3 c4=>af c4 λc5 c6=>af c6 λc7 c8=>af c8 λc9 d0=>af d0 λd1 d2=>af d2 λd3 d4=>af d4 λd5 d6=>af d6 λd7 d8=>aq .i64 d7 λd9=>af d8 λe0 e1=>aq .i64 e0 λe2=>ax (ag .i64 (r.add 1)) λe3=>aC 1 e3 b2.2.2.2.1 λe4=>af e4 λe5 e6=>aq .i64 e5 λe7=>ax r λe8=>aC 1 e8 b2.2.2.2.1 λe9=>af e9 λf0 f1=>aq .i64 f0 λf2=>bif !ah e2 (ag .i64 (e7.sub f2)) then some (2,b2.2.1,b2.2.2.1,b2.2.2.2.1,b2.2.2.2.2.1,b2.2.2.2.2.2.1,b2.2.2.2.2.2.2.1,b2.2.2.2.2.2.2.2) else ak d5 λf3=>bif ai 0 (Int.ofNat f3) then ob (Ft w d5) λf4=>bif !ah f4.2.2 0 then some (f4.2.2,b2.2.1,b2.2.2.1,b2.2.2.2.1,b2.2.2.2.2.1,b2.2.2.2.2.2.1,b2.2.2.2.2.2.2.1,b2.2.2.2.2.2.2.2) else ob (qD w r f4.2.1 b2.2.1 b2.2.2.1 b2.2.2.2.1 b2.2.2.2.2.1 b2.2.2.2.2.2.1 b2.2.2.2.2.2.2.1 b2.2.2.2.2.2.2.2) λf5=>q (ag .i64 (r.add 1)) f5.1 f5.2.1 f5.2.2.1 f5.2.2.2.1 f5.2.2.2.2.1 f5.2.2.2.2.2.1 f5.2.2.2.2.2.2 else ob (qD w r (ae 0 []) b2.2.1 b2.2.2.1 b2.2.2.2.1 b2.2.2.2.2.1 b2.2.2.2.2.2.1 b2.2.2.2.2.2.2.1 b2.2.2.2.2.2.2.2) λf6=>q (ag .i64 (r.add 1)) f6.1 f6.2.1 f6.2.2.1 f6.2.2.2.1 f6.2.2.2.2.1 f6.2.2.2.2.2.1 f6.2.2.2.2.2.2 else none else some (0,s,t,u,v,y,z,a0)) w 1 h.1 h.2.1 h.2.2.1 h.2.2.2.1 h.2.2.2.2.1 h.2.2.2.2.2.1 h.2.2.2.2.2.2
def Fo(w:Nat):Value->Int->Value->Value->Value->List Value->List Value->Option (Int×Value×Int×Value×Value×Value×List Value×List Value):=λa b c d e f g=>ob (BH w (ae (f.length/14) f)) λh=>ob (xK w (ae (f.length/14) f)) λi=>some (i,a,h.2,c,d,e,f,g)
def vh(w:Nat):Value->Option (Int×Value×Int×Value×Value×Value×List Value×List Value):=λa=>ob (A3 w a 0 (ae 0 []) (ae 0 []) (ae 0 []) [] []) λb=>bif !ah b.1 0 then some (b.1,b.2.1,b.2.2.1,b.2.2.2.1,b.2.2.2.2.1,b.2.2.2.2.2.1,b.2.2.2.2.2.2.1,b.2.2.2.2.2.2.2) else ob (rN w b.2.1 b.2.2.1 b.2.2.2.1 b.2.2.2.2.1 b.2.2.2.2.2.1 b.2.2.2.2.2.2.1 b.2.2.2.2.2.2.2) λc=>bif !ah c.1 0 then some (c.1,c.2.1,c.2.2.1,c.2.2.2.1,c.2.2.2.2.1,c.2.2.2.2.2.1,c.2.2.2.2.2.2.1,c.2.2.2.2.2.2.2) else ob (Fm w c.2.1 c.2.2.1 c.2.2.2.1 c.2.2.2.2.1 c.2.2.2.2.2.1 c.2.2.2.2.2.2.1 c.2.2.2.2.2.2.2) λd=>bif !ah d.1 0 then some (d.1,d.2.1,d.2.2.1,d.2.2.2.1,d.2.2.2.2.1,d.2.2.2.2.2.1,d.2.2.2.2.2.2.1,d.2.2.2.2.2.2.2) else ob (Fo w d.2.1 d.2.2.1 d.2.2.2.1 d.2.2.2.2.1 d.2.2.2.2.2.1 d.2.2.2.2.2.2.1 d.2.2.2.2.2.2.2) λe=>bif !ah e.1 0 then some (e.1,e.2.1,e.2.2.1,e.2.2.2.1,e.2.2.2.2.1,e.2.2.2.2.2.1,e.2.2.2.2.2.2.1,e.2.2.2.2.2.2.2) else some (0,e.2.1,e.2.2.1,e.2.2.2.1,e.2.2.2.2.1,e.2.2.2.2.2.1,e.2.2.2.2.2.2.1,e.2.2.2.2.2.2.2)
def lA(w:Nat):Value->Option (Value×Int×Int):=λa=>ob (vh w a) λb=>bif !ah b.1 0 then bif ah b.2.2.1 b.2.2.1 then some (ae 0 [],b.2.2.1,b.1) else none else some (ae (List.length b.2.2.2.2.2.2.1 /14) b.2.2.2.2.2.2.1,0,0)
def WA(w:Nat):Int->Int->Int->Value->Int->Int->Int->Value->Option (Bool):=λa b c d e f g h=>bif ah a e then ob (GN w b c d f g h) λi=>some i else some false
def Oa(w:Nat):Value->Value->Option (Bool):=λa b=>ak a λc=>ak b λd=>bif !ah (Int.ofNat c) (Int.ofNat d) then some false else ak a λe=>lp (α:=Value->Value->Int->Int->Option Bool) (λ_ _ _ _=>none) (λj k l m n=>bif ai n m then ax n λo=>aC 4 o l λp=>af p λq r=>aq .i64 q λs=>af r λt u=>aq .i64 t λv=>af u λy z=>aq .i64 y λa0=>af z λa1 a2=>ax n λa3=>aC 4 a3 k λa4=>af a4 λa5 a6=>aq .i64 a5 λa7=>af a6 λa8 a9=>aq .i64 a8 λb0=>af a9 λb1 b2=>aq .i64 b1 λb3=>af b2 λb4 b5=>ob (WA w s v a0 a1 a7 b0 b3 b4) λb6=>bif !b6 then some false else j k l m (ag .i64 (n.add 1)) else some true) w b a (Int.ofNat e) 0
def Fi(w:Nat):Int->Value->Value->Value->Value->Value->Value->Value->Value->Value->Int->Int->Int->Value->Int->Value->Value->Value->Value->Value->Value->Value->Value->Value->Int->Int->Int->Value->Option (Bool):=λa b c d e f g h i j k l m n o p q r s t u v y z a0 a1 a2 a3=>ob (GO w a b c d e f g h o p q r s t u v) λa4=>bif a4 then ob (rU w i y) λa5=>bif a5 then ob (rU w j z) λa6=>bif a6 then bif ah k a0 then bif ah l a1 then bif ah m a2 then ob (Oa w n a3) λa7=>some a7 else some false else some false else some false else some false else some false else some false
def MJ(w:Nat):Value->Value->Option (Bool):=λa b=>ak a λc=>ak b λd=>bif !ah (Int.ofNat c) (Int.ofNat d) then some false else ak a λe=>lp (α:=Value->Value->Int->Int->Option Bool) (λ_ _ _ _=>none) (λj k l m n=>bif ai n m then ax n λo=>aC 14 o l λp=>af p λq r=>aq .i64 q λs=>af r λt u=>af u λv y=>af y λz a0=>af a0 λa1 a2=>af a2 λa3 a4=>af a4 λa5 a6=>af a6 λa7 a8=>af a8 λa9 b0=>af b0 λb1 b2=>af b2 λb3 b4=>aq .i64 b3 λb5=>af b4 λb6 b7=>aq .i64 b6 λb8=>af b7 λb9 c0=>aq .i64 b9 λc1=>af c0 λc2 c3=>ax n λc4=>aC 14 c4 k λc5=>af c5 λc6 c7=>aq .i64 c6 λc8=>af c7 λc9 d0=>af d0 λd1 d2=>af d2 λd3 d4=>af d4 λd5 d6=>af d6 λd7 d8=>af d8 λd9 e0=>af e0 λe1 e2=>af e2 λe3 e4=>af e4 λe5 e6=>af e6 λe7 e8=>aq .i64 e7 λe9=>af e8 λf0 f1=>aq .i64 f0 λf2=>af f1 λf3 f4=>aq .i64 f3 λf5=>af f4 λf6 f7=>ob (Fi w s t v z a1 a3 a5 a7 a9 b1 b5 b8 c1 c2 c8 c9 d1 d3 d5 d7 d9 e1 e3 e5 e9 f2 f5 f6) λf8=>bif !f8 then some false else j k l m (ag .i64 (n.add 1)) else some true) w b a (Int.ofNat e) 0
def Fb(w:Nat):Value->Value->Option (Bool):=λa b=>ob (MJ w a b) λc=>some c
end
end Lt
end Go.Proofs.YtcfjfbeadhnknaaGreatDoor

import Derived.Deep.Slices
import Derived.Deep.Fields
import Derived.OpenShut
import Derived.ProofKit
import Derived.ChangeSame
import Derived.Test.YtfdojmichbgpiaaGreatDoorQL
namespace Go.Proofs.YtfdojmichbgpiaaGreatDoor
namespace Lt
section
set_option maxRecDepth 100000
def ed(T:List Nat):List Value:=T.map λn:Nat=>.int .u64 (n:Int)
variable{T:List Nat}
theorem Xx{i:Nat}(h:i<T.length):(ed T).drop i=.int .u64 (T[i]:Int)::ed (T.drop (i+1)):=by unfold ed;rw[<-List.map_drop,dG h,List.map_cons]
def DX(T:List Nat)(p:Nat):Bool:=((T[p/64]?).getD 0).testBit (p%64)
def fL(S:List bm)(p:Nat):Bool:=S.any λs=>decide (s.at_<=p/\p<s.at_+s.cA)
structure Tk(T:List Nat)(L:Nat)(P:Nat->Bool):Prop where
 len:T.length=L/64+1
 lt:∀n∈T,n<2^64
 bit:∀p,p<L->DX T p=P p
theorem SL(p:Nat)(hp:p<2^60):ah IntKind.u64 (((BitVec.ofInt 64 (ah IntKind.u64 (p:Int))&&&BitVec.ofInt 64 63).toNat:Nat):Int)=((p%64:Nat):Int):=by
 rw[tD (n:=(p:Int)) (by simp) (by omega)];have e:(BitVec.ofInt 64 (p:Int)&&&BitVec.ofInt 64 63).toNat=p%64:=by rw[BitVec.ofInt_natCast,BitVec.toNat_and,BitVec.toNat_ofNat,rI (by omega)];exact Nat.and_two_pow_sub_one_eq_mod p 6
 rw[e];exact tD (by omega) (by omega)
theorem X6(n k:Nat)(_:n<2^64)(hk:k<64):ak (((BitVec.ofInt 64 ((n:Int).fdiv (2^min ((k:Int)).toNat 64))&&&BitVec.ofInt 64 1).toNat:Nat):Int) 1=n.testBit k:=by
 rw[mB,kE (by omega)];have e:(n:Int).fdiv (2^k)=((n/2^k:Nat):Int):=by grind
 rw[e,BitVec.ofInt_natCast,cD]
 grind
theorem or_eq(n k:Nat)(hn:n<2^64)(hk:k<64):ah IntKind.u64 (((BitVec.ofInt 64 (n:Int)|||BitVec.ofInt 64 (ah IntKind.u64 (Int.mul 1 (2^min ((k:Int)).toNat 64)))).toNat:Nat):Int)=((n|||2^k:Nat):Int)/\n|||2^k<2^64:=by have hk2:2^k<2^64:=Nat.pow_lt_pow_right (by simp) hk;have hor:=Nat.or_lt_two_pow hn hk2;refine⟨?_,hor⟩;rw[mB,kE (by omega),pS,Int.one_mul,(show(2:Int)^k=((2^k:Nat):Int) from(Int.natCast_pow 2 k).symm),tD (n:=((2^k:Nat):Int)) (Int.natCast_nonneg _) (by grind),BitVec.ofInt_natCast,BitVec.ofInt_natCast,BitVec.toNat_or,BitVec.toNat_ofNat,BitVec.toNat_ofNat,rI hn,rI hk2];exact tD (by simp) (by omega)
theorem Jx(p:Nat)(_:p<2^60):(p:Int).fdiv (2^6)=((p/64:Nat):Int):=by grind
variable{P:Nat->Bool}
theorem agZ(w:Nat){L:Nat}(H:Tk T L P)(hL:L<2^50)(p:Nat)(hp:p<L)(b:Value)(o:Int)(sh:Value)(c:Nat)(no so:Int)(S:List Value):
 HJ w (p:Int) b o sh T.length c no so (ed T) S=some (P p,b,o,sh,T.length,c,no,so,ed T,S):=by
 have hlt:p/64<T.length:=by rw[H.len];omega
 have hb:=H.bit p hp;unfold DX at hb;rw[dD hlt,te] at hb;unfold HJ zl;rw[Jx p (by omega)];simp only[ct,lU,hlt,bn,ay,gM,fg];rw[Xx hlt];simp only[bN,cH];rw[(SL p (by omega))];simp only[bc,(show¬(((p%64:Nat):Int)<0) from by omega),cy,aE];have hx:=X6 T[p/64] (p%64) (H.lt _ (dL hlt)) (by omega);rw[hb] at hx;have hle:(BitVec.ofInt 64 ((T[p/64]:Int).fdiv (2^min (((p%64:Nat):Int)).toNat 64))&&&BitVec.ofInt 64 1).toNat<=1:=by rw[BitVec.toNat_and];have:(BitVec.ofInt 64 1).toNat=1:=rfl;rw[this,Nat.and_one_is_mod];omega
 rw[(λz hz=>tD (by omega) (by omega)) _ hle,hx]
theorem afD{L:Nat}(H:Tk T L P){p:Nat}(hp:p<L):Tk (T.set (p/64) ((T[p/64]?).getD 0|||2^(p%64))) L (λq=>P q||decide (q=p)):=by
 have hlt:p/64<T.length:=by rw[H.len];omega
 have hw:(T[p/64]?).getD 0<2^64:=by rw[dD hlt];exact H.lt _ (dL hlt)
 refine⟨by rw[List.length_set,H.len],λn hn=>?_,λq hq=>?_⟩
 ·rcases List.mem_or_eq_of_mem_set hn with h|h
  ·exact H.lt n h
  ·rw[h];exact Nat.or_lt_two_pow hw (Nat.pow_lt_pow_right (by simp) (by omega))
 ·have hb:=H.bit q hq;unfold DX at hb⊢
  grind
theorem Hp{w:Nat}{L:Nat}{S S':List bm}{x:bm}(H:Tk T L (fL S))(hL:L<2^50)(hw:L+2<w)(ht:ky L S x=.ok S')(hS:S.length<100000000)(b:List UInt8)(hb:b.length=L)(o:Int)(sh:Value)(c:Nat)(no so:Int):
 S'=S++[x]/\∃T',Tk T' L (fL S')/\T'.length=T.length/\rj w x.ny x.dir x.tag (x.at_:Int) (x.cA:Int) (aj b) o sh T.length c no so (ed T) (S.flatMap cd)=some (.inl (aj b,o,sh,T.length,c,no,so,ed T',S'.flatMap cd)):=by
 unfold ky at ht;split at ht
 case isFalse=>cases ht
 rename_i h1;split at ht
 ·cases ht
 rename_i h2;injection ht with ht;subst ht;refine⟨rfl,?_⟩;obtain⟨he,hr⟩:=h1;have hcl:∀q,x.at_<=q->q<x.at_+x.cA->fL S q=false:=by intro q q1 q2;unfold fL;rw[List.any_eq_false];intro s hs;simp only[bV];intro hq;apply h2;unfold D5;rw[List.any_eq_true];exact⟨s,hs,by simp only[bV];omega⟩
 have hfin:∀q,(fL (S++[x]) q)=(fL S q||decide (x.at_<=q/\q<x.at_+x.cA)):=by intro q;unfold fL;rw[List.any_append];simp
 have H0:Tk T L (λq=>fL S q||decide (x.at_<=q/\q<x.at_+0)):=by
  refine⟨H.len,H.lt,λq hq=>?_⟩;rw[H.bit q hq];have:decide (x.at_<=q/\q<x.at_+0)=false:=by simp
  rw[this,Bool.or_false]
 unfold rj MU MX zl;have hmod:(x.at_:Int).tmod 2=0:=by rw[Int.tmod_eq_emod_of_nonneg (by omega)];omega
 rw[hmod];simp only[show ak 0 0=true from rfl,ay,dU];rw[HH w ⟨by simp only[oD];omega,by simp only[oD];omega⟩ (by omega)];have hroom:(0<=(x.at_:Int)/\0<=(x.cA:Int)/\(x.at_:Int)<=Int.ofNat b.length/\(x.cA:Int)<=Int.ofNat b.length -(x.at_:Int)):=by simp only[oD];omega
 simp only[aA,hroom,and_self,bn];have h232:eG w true 4=some (.inl ()):=rfl;rw[h232];simp only[aA,iD];generalize hG:lp _ _=G;have hF:=aa3 hG;clear hG;have key:∀(d k v:Nat)(T:List Nat),k+d=x.cA->d<v->Tk T L (λq=>fL S q||decide (x.at_<=q/\q<x.at_+k))->
  ∃T',Tk T' L (fL (S++[x]))/\T'.length=T.length/\G v ((x.at_+k:Nat):Int) (aj b) o sh T.length c no so x.ny x.dir x.tag (x.at_:Int) (x.cA:Int) (ed T) (S.flatMap cd)=some (.inl (aj b,o,sh,T.length,c,no,so,ed T',(S++[x]).flatMap cd)):=by
  intro d;induction d with
  |zero=>
   intro k v T hk hv HT;obtain⟨u,rfl⟩:∃u,v=u+1:=⟨v -1,by omega⟩;refine⟨T,⟨HT.len,HT.lt,λq hq=>?_⟩,rfl,?_⟩
   ·rw[HT.bit q hq,hfin,show k=x.cA by omega]
   ·simp only[hF];rw[cR,aN (by omega) (by omega)];have e1:¬(((x.at_+k:Nat):Int)<(x.at_:Int)+(x.cA:Int)):=by omega
    have hr1:aK (S.length*5)=true:=by simp;omega
    simp only[bc,e1,cy,aE,w9,hr1,show aK 1=true from rfl,eL,nA,rH,cQ,List.length_nil,fP];rw[show Nat.beq (0+1+1+1+1+1) 5=true from rfl,ay,gq];rfl
  |succ d ih=>
   intro k v T hk hv HT;obtain⟨u,rfl⟩:∃u,v=u+1:=⟨v -1,by omega⟩;have hpL:x.at_+k<L:=by omega
   have hlt:(x.at_+k)/64<T.length:=by rw[HT.len];omega
   have H2:=afD HT hpL;have H3:Tk (T.set ((x.at_+k)/64) ((T[(x.at_+k)/64]?).getD 0|||2^((x.at_+k)%64))) L (λq=>fL S q||decide (x.at_<=q/\q<x.at_+(k+1))):=by
    refine⟨H2.len,H2.lt,λq hq=>?_⟩;rw[H2.bit q hq,Bool.or_assoc]
    congr 1
    rw[fO,qn,bV,bV,bV];omega
   obtain⟨T',t1,t2,t3⟩:=ih (k+1) u _ (by omega) (by omega) H3;refine⟨T',t1,by rw[t2,List.length_set],?_⟩;simp only[hF];rw[cR,aN (n:=(x.at_:Int)+(x.cA:Int)) (by omega) (by omega)];have e1:(((x.at_+k:Nat):Int)<(x.at_:Int)+(x.cA:Int)):=by omega
   simp only[bc,e1,bn,ay];have hno:(fL S (x.at_+k)||decide (x.at_<=x.at_+k/\x.at_+k<x.at_+k))=false:=by rw[hcl _ (by omega) (by omega)];simp
   rw[agZ w HT hL (x.at_+k) hpL,hno];simp only[aA];have h232:eG w (!false) 5=some (.inl ()):=rfl;rw[h232];simp only[aA,iD];rw[Jx _ (by omega)];simp only[ct,lU,hlt,bn,ay,gM,fg];rw[Xx hlt];simp only[bN,cH];rw[SL _ (by omega)];have e2:¬((((x.at_+k)%64:Nat):Int)<0):=by omega
   simp only[e2,cy,aE];obtain⟨o1,o2⟩:=or_eq T[(x.at_+k)/64] ((x.at_+k)%64) (HT.lt _ (dL hlt)) (by omega);rw[o1];have e3:(x.at_+k)/64+1<=(ed T).length:=by unfold ed;rw[eD];omega
   simp only[show∀n:Int,(SV.i IntKind.u64 n).cells.length.beq 1=true fromλ_=>rfl,fP,gu,e3,bn,ay,FP,cR];rw[aN (by omega) (by omega),show((x.at_+k:Nat):Int)+1=((x.at_+(k+1):Nat):Int) by omega];have hset:(ed T).set ((x.at_+k)/64) (Value.int IntKind.u64 ((T[(x.at_+k)/64]|||2^((x.at_+k)%64):Nat):Int))=ed (T.set ((x.at_+k)/64) ((T[(x.at_+k)/64]?).getD 0|||2^((x.at_+k)%64))):=by unfold ed;rw[dD hlt,te,<-List.map_set]
   rw[hset];rw[List.length_set] at t3;exact t3
 exact key x.cA 0 w T (by omega) (by omega) H0
end
section
set_option maxRecDepth 100000
variable{o:Int} {w:Nat}
theorem Ho(hw:5<=w)(b:List UInt8)(hb:b.length<2^50)(ho:o=1\/o=2)(p s:Nat)(hs:s=2\/s=4)(hp:p+s<=b.length):mu w (aj b) o (p:Int) (s:Int)=some (cn b p s o:Int):=by have:=Bq (s:=s) (by omega) ho (by omega);unfold mu cn;rw[GG hw b (by omega) _ _ _ (by omega),this];simp
structure qz(w L:Nat)(b:List UInt8)(o:Int):Prop where
 len:b.length=L
 small:L<2^29
 wide:L+200000<w
 ord:o=1\/o=2
variable{S S':List bm}
theorem o9{L:Nat}{x:bm}(h:ky L S x=.ok S'):S'=S++[x]/\x.at_%2=0/\x.at_+x.cA<=L:=by
 unfold ky at h
 grind
variable{T:List Nat} {b:List UInt8}
theorem agQ{L:Nat}(R:qz w L b o){x:bf}{t:aI}{dir:Nat}(H:Tk T L (fL S))(h:sD b o dir S x=.ok (t,S'))(hs:x.slot<4294967296)(hS:S'.length<100000000)(sh:Value)(c:Nat)(no so:Int):
 (∃u,S'=S++u)/\∃T' so',Tk T' L (fL S')/\T'.length=T.length/\
  Hs w x.tag x.ty x.au (x.slot:Int) (dir:Int) (aj b) o sh T.length c no so (ed T) (S.flatMap cd)=some (.inl (t.tag,t.ty,t.au,aj t.data,aj b,o,sh,T.length,c,no,so',ed T',S'.flatMap cd)):=by
 have hsm:=R.small;have hlen:=R.len;have hw:=R.wide;have h232:eG w true 6=some (.inl ()):=rfl;unfold sD at h;split at h
 ·cases h
 rename_i h1;have hk:=Bw x.ty;have e1:0<(kindOf x.ty).1 :=by omega
 have e2:¬(x.au<1):=by omega
 have e3:¬(65536<x.au):=by omega
 unfold Hs Gj;rw[V7];simp only[aA,bc,e1,e2,e3,bn,cy,fu,ay];rw[h232];rw[V8];simp only[aA];split at h
 ·rename_i h0;have e4:¬(0<((bY x.ty x.au:Nat):Int)):=by omega
  simp only[e4,cy,aE];rw[ag3 (by omega) _ _ _ _ _ R.ord];have hl:0<iW x.ty x.au/\iW x.ty x.au<=4:=by
   unfold bY at h0;have hpos:0<iW x.ty x.au:=by unfold iW;rw[ai (by omega)];exact Int.mul_pos (by omega) e1
   split at h0<;>omega
  have hv:Iy x.ty x.au (x.slot:Int) o=(oW x.ty x.au (aU x.slot 4 o) o).map λd=>(d,((aU x.slot 4 o).drop d.length).all (·==0)):=by unfold Iy;rw[ar ⟨by omega,by omega,hl.1,hl.2⟩,mB]
  rw[hv];split at h
  case h_2=>cases h
  rename_i d hd;injection h with h;cases h;rw[hd];simp only[Option.map_some,aA];rw[h232];refine⟨⟨[],(eH _).symm⟩,?_⟩;cases((aU x.slot 4 o).drop d.length).all (·==0)<;>exact⟨T,_,H,rfl,rfl⟩
 ·rename_i h0;have e4:(0<((bY x.ty x.au:Nat):Int)):=by omega
  simp only[e4,bn,ay];split at h
  ·cases h
  rename_i S2 ht;split at h
  case h_2=>cases h
  rename_i d hd;injection h with h;cases h;obtain⟨a1,a2,a3⟩:=o9 ht;obtain⟨_,T',t1,t2,t3⟩:=Hp (w:=w) H (by omega) (by omega) (by rw[<-hlen];exact ht) (by rw[a1,aR] at hS;omega) b hlen o sh c no so;refine⟨⟨_,a1⟩,T',so,t1,t2,?_⟩;dsimp only at t3 a3;rw[t3];simp only[aA,iD,dU,ct,gu,aB,bn,fP];have e5:x.slot<=b.length:=by omega
  simp[e5];rw[pL _ (aB _),gh (by rw[dZ];omega),V9 _ _ _ (by rw[dZ];omega) (by rw[dZ];omega) _ R.ord,hd];simp;rw[h232];simp
theorem agt{L:Nat}(R:qz w L b o)(hL:8<=L)(ho:kP b=o)(h42:cn b 2 2 o=42)(H:Tk T L (fL []))(sh:Value)(c:Nat)(no so:Int):
 ∃T',Tk T' L (fL [⟨1,-1,0,0,8⟩])/\T'.length=T.length/\
  Hb w (aj b) 0 sh T.length c no so (ed T) []=some (.inl ((cn b 4 4 o:Int),aj b,o,sh,T.length,c,no,so,ed T',[⟨1,-1,0,0,8⟩].flatMap cd)):=by
 have hsm:=R.small;have hlen:=R.len;have hw:=R.wide;have ht:ky L [] ⟨1,-1,0,0,8⟩=.ok [⟨1,-1,0,0,8⟩]:=by unfold ky;rw[ar ⟨rfl,by show 0+8<=L;omega⟩];rfl
 obtain⟨_,T',t1,t2,t3⟩:=Hp (w:=w) H (by omega) (by omega) ht (by decide) b hlen o sh c no so;refine⟨T',t1,t2,?_⟩;have h288:=Ho (w:=w) (by omega) b (by omega) R.ord 2 2 (.inl rfl) (by omega);have h4:=Ho (w:=w) (by omega) b (by omega) R.ord 4 4 (.inr rfl) (by omega);have e1:¬(Int.ofNat b.length<8):=by simp;omega
 have e2:2<=b.length:=by omega
 have h232:∀n,eG w true n=some (.inl ()):=λ_=>rfl;unfold Hb Cj;simp only[dU,bc,e1,cy,fu,h232,aA,iD,gu,e2,bn,fP];rw[show decide (0<=2)=true from rfl,pL _ e2,ij,iH,Ix];simp only[aA];rw[KQ,eL];have hor:(b.take 2=[73,73]/\o=1)\/(b.take 2=[77,77]/\o=2):=by
  unfold kP at ho;split at ho
  ·rename_i q;exact .inl ⟨q,ho.symm⟩
  ·split at ho
   ·rename_i q;exact .inr ⟨q,ho.symm⟩
   ·have:=R.ord;omega
 have h42b:ak ((cn b 2 2 o:Nat):Int) 42=true:=by rw[h42];rfl
 rcases hor with⟨q,rfl⟩|⟨q,rfl⟩
 ·rw[q,show nS [73,73] (ByteArray.mk #[73,73]).data.toList=true from rfl];rw[show(2:Int)=((2:Nat):Int) from rfl,h288];simp only[aA];rw[h42b,h232];simp;refine iq (bK (λz=>ob z _) t3) ?_;simp;rw[show(4:Int)=((4:Nat):Int) from rfl,h4];rfl
 ·rw[q,show nS [77,77] (ByteArray.mk #[73,73]).data.toList=false from rfl,show nS [77,77] (ByteArray.mk #[77,77]).data.toList=true from rfl,ay];rw[(show mu w (aj b) 2 2 2=some (cn b 2 2 2:Int) from h288)];simp only[aA];rw[h42b,h232];simp;refine iq (bK (λz=>ob z _) t3) ?_;simp;rw[(show mu w (aj b) 2 4 4=some (cn b 4 4 2:Int) from h4)];rfl
end
section
set_option maxRecDepth 100000
theorem JI(b:List UInt8)(o:Int):∀(n p:Nat),(jy b o p n).length=n
 |0,_=>rfl
 |n+1,p=>by show(jy b o (p+12) n).length+1=n+1;rw[JI]
theorem Q1(b:List UInt8)(o:Int):∀(n p i:Nat)(h:i<(jy b o p n).length),(jy b o p n)[i]=Bi b (p+12*i) o
 |0,_,i,h=>absurd h (Nat.not_lt_zero _)
 |n+1,p,0,h=>rfl
 |n+1,p,i+1,h=>by
  show(jy b o (p+12) n)[i]'(by simpa[jy] using h)=_
  rw[Q1 b o n (p+12) i]
  grind
theorem UQ:∀{l:List bf},eA l=true->∀{i:Nat}(h:i+1<l.length),l[i].tag<l[i+1].tag
 |[],_,i,h=>by grind
 |[_],_,i,h=>by grind
 |a::b::l,hr,i,h=>by
  simp[eA] at hr;cases i with
  |zero=>grind
  |succ i=>exact UQ hr.2 (by grind)
theorem Em(l:List bf){c:List Value}(h:c=l.flatMap bH):ae (c.length/4) c=aC bH l:=by rw[h,eJ kk,lP _ (by simp)];rfl
variable{i:Nat}
theorem Zk{l:List bf}(h:i<l.length):(l.take (i+1)).flatMap bH=(l.take i).flatMap bH++bH l[i]:=by rw[nB h,gq];simp
theorem Tb(b:List UInt8)(p s:Nat)(o:Int):cn b p s o<256^s:=by
 unfold cn oR;split
 ·rw[te];have hl:(gm b p s o).length<=s:=by
   unfold gm;split<;>simp<;>omega
  exact tb (KY (gm b p s o)) (Nat.pow_le_pow_right (by simp) hl)
 grind
variable{o:Int}
theorem Tc(b:List UInt8)(p:Nat)(_:o=1\/o=2):cn b p 2 o<65536:=Tb b p 2 o
theorem E7(b:List UInt8)(p:Nat)(o:Int):cn b p 4 o<4294967296:=Tb b p 4 o
variable{w:Nat}
theorem agO{L:Nat}{b:List UInt8}(R:qz w L b o){T:List Nat}{S S':List bm}{at_ dir:Nat}(H:Tk T L (fL S))(h0:at_%2=0)(h1:at_+2<=L)(hn:cn b at_ 2 o≠0)(ht:ky L S ⟨2,dir,0,at_,6+12*cn b at_ 2 o⟩=.ok S')
 (hr:eA (jy b o (at_+2) (cn b at_ 2 o))=true) (hS:S.length<100000000) (_:dir<2^40) (sh:Value) (c:Nat) (no so:Int):
 ∃T',Tk T' L (fL S')/\T'.length=T.length/\
  Hq w (at_:Int) (dir:Int) (aj b) o sh T.length c no so (ed T) (S.flatMap cd)=some (.inl (aC bH (jy b o (at_+2) (cn b at_ 2 o)),aj b,o,sh,T.length,c,no,so,ed T',S'.flatMap cd)):=by
 have hsm:=R.small;have hlen:=R.len;have hw:=R.wide;obtain⟨a1,a2,a3⟩:=o9 ht;obtain⟨n,hnn⟩:∃n,cn b at_ 2 o=n:=⟨_,rfl⟩;have hn2:n<65536:=by rw[<-hnn];exact Tc b at_ R.ord
 obtain⟨_,T',t1,t2,t3⟩:=Hp (w:=w) H (by omega) (by omega) ht hS b hlen o sh c no so;refine⟨T',t1,t2,?_⟩;have h288:=Ho (w:=w) (by omega) b (by omega) R.ord at_ 2 (.inl rfl) (by omega);have h232:∀k,eG w true k=some (.inl ()):=λ_=>rfl;have hmod:(at_:Int).tmod 2=0:=by rw[Int.tmod_eq_emod_of_nonneg (by omega)];omega
 rw[hnn] at hn t3 h288 hr a3⊢;dsimp only at t3 a3;unfold Hq MM Cd;rw[hmod,show ak 0 0=true from rfl,ay,dU,HH w ⟨by simp only[oD];omega,by simp only[oD];omega⟩ (by omega)];have hroom:(0<=(at_:Int)/\(0:Int)<=2/\(at_:Int)<=Int.ofNat b.length/\(2:Int)<=Int.ofNat b.length -(at_:Int)):=by simp only[oD];omega
 rw[fS hroom];simp only[aA];rw[h232];simp only[aA,iD];have h288':mu w (aj b) o (at_:Int) 2=some (n:Int):=h288;rw[h288'];simp only[aA];rw[show aq 0 (n:Int)=true by rw[bc,bV];omega,h232];simp only[aA,iD];rw[pS,aN (n:=(12:Int)*(n:Int)) (by omega) (by omega),cR,aN (n:=(6:Int)+12*(n:Int)) (by omega) (by omega),show(6:Int)+12*(n:Int)=((6+12*n:Nat):Int) by omega,t3];simp only[aA,iD];obtain⟨E,hE⟩:∃E,E=jy b o (at_+2) n:=⟨_,rfl⟩;rw[<-hE] at hr⊢;have hat:at_+6+12*n<=L:=by omega
 have h232:eG w true 2=some (.inl ()):=rfl;generalize ed T'=U;generalize S'.flatMap cd=V;generalize T.length=tl;have hEl:E.length=n:=by rw[hE,JI]
 refine lD (ev:=λi (g:Int->Int->Int->Value->Int->Value->Nat->Nat->Int->Int->List Value->List Value->List Value->Option (Value×Value×Int×Value×Nat×Nat×Int×Int×List Value×List Value⊕Int×Value×Int×Value×Nat×Nat×Int×Int×List Value×List Value))=>g at_ n i (aj b) o sh tl c no so U V ((E.take i).flatMap bH)) n ?_ ?_ (by omega)
 ·intro i g hi;have e1:((i:Int)<(n:Int)):=by omega
  simp only[bc,e1,bn,ay,cR,pS];have hat2:at_<2^30:=by omega
  rw[aN (n:=(at_:Int)+2) (by omega) (by omega),aN (n:=(12:Int)*(i:Int)) (by omega) (by omega),aN (n:=(at_:Int)+2+12*(i:Int)) (by omega) (by omega),show(at_:Int)+2+12*(i:Int)=((at_+2+12*i:Nat):Int) by omega,ag0 (by omega) b (by omega) _ o R.ord,ar (by omega)];simp only[aA];have hgi:E[i]'(by omega)=Bi b (at_+2+12*i) o:=by subst hE;exact Q1 b o n (at_+2) i _
  have hiE:i<E.length:=by omega
  have hci:bH E[i]=[.int .i64 (cn b (at_+2+12*i) 2 o:Int),.int .i64 (cn b (at_+2+12*i+2) 2 o:Int),.int .i64 (cn b (at_+2+12*i+4) 4 o:Int),.int .i64 (cn b (at_+2+12*i+8) 4 o:Int)]:=by rw[hgi];rfl
  have hcl:((E.take i).flatMap bH).length=i*4:=by rw[eJ kk,dH,kE (by omega)]
  have hr1:aK (i*4)=true:=by simp;omega
  have hfin:∀(A:Option (Value×Value×Int×Value×Nat×Nat×Int×Int×List Value×List Value⊕Int×Value×Int×Value×Nat×Nat×Int×Int×List Value×List Value)),(bif aK ((E.take i).flatMap bH).length&&(aK 1&&(List.take 4 (List.drop 0 [Value.int IntKind.i64 (cn b (at_+2+12*i) 2 o:Int),Value.int IntKind.i64 (cn b (at_+2+12*i+2) 2 o:Int),Value.int IntKind.i64 (cn b (at_+2+12*i+4) 4 o:Int),Value.int IntKind.i64 (cn b (at_+2+12*i+8) 4 o:Int)])).length.beq 4) then g at_ n (ah IntKind.i64 ((i:Int)+1)) (aj b) o sh tl c no so U V ((E.take i).flatMap bH++List.take 4 (List.drop 0 [Value.int IntKind.i64 (cn b (at_+2+12*i) 2 o:Int),Value.int IntKind.i64 (cn b (at_+2+12*i+2) 2 o:Int),Value.int IntKind.i64 (cn b (at_+2+12*i+4) 4 o:Int),Value.int IntKind.i64 (cn b (at_+2+12*i+8) 4 o:Int)])) else A)=g at_ n ((i+1:Nat):Int) (aj b) o sh tl c no so U V ((E.take (i+1)).flatMap bH):=by intro A;rw[hcl,hr1,show aK 1=true from rfl,Zk hiE,hci,aN (by omega) (by omega)];rfl
  rcases i with _|i
  ·have e0:ak ((0:Nat):Int) 0=true:=rfl;rw[e0,ay];exact hfin none
  ·have e0:ak ((i+1:Nat):Int) 0=false:=by rw[cD,fI];omega
   rw[e0,aE,iV,aN (by omega) (by omega),show((i+1:Nat):Int) -1=(i:Int) by omega,ct,hcl];have e2:i*4<(i+1)*4:=by omega
   have hpi:i<E.length:=by omega
   have htk:List.drop (0+i*4+0) ((E.take (i+1)).flatMap bH)=bH E[i]:=by rw[show 0+i*4+0=i*4 by omega,pR kk,List.drop_take,show i+1 -i=1 by omega,dG hpi,nA,rH];simp
   have hlt:=UQ hr (i:=i) (by omega);have hg1:(E[i+1]'(by omega)).tag=(cn b (at_+2+12*(i+1)) 2 o:Int):=by rw[hgi];rfl
   rw[hg1] at hlt;simp only[lU,e2,bn,gY,show Nat.beq 4 4=true from rfl,ay];rw[htk];unfold bH;simp only[bN,cH,hlt,bn];rw[h232];simp only[aA,iD];rw[hcl] at hfin;exact hfin none
 ·intro g;have e1:¬((n:Int)<(n:Int)):=by omega
  simp only[bc,e1,cy,aE];rw[gh (by omega),Em E rfl]
theorem agI(l:List gU)(n a b c:Int)(hl:l.length<2^40)(hw:l.length<w):NW w (fY l) n a b c=some (db (λx=>x.tag==n) l):=by
 refine mg l (λx=>x.tag==n) (ev:=λi (g:Value->List Value->Int->Int->Option Int)=>g (aC lC l) [.int .i64 n,.int .i64 a,.int .i64 b,.int .i64 c] l.length i) ?_ ?_ hw
 ·intro i g h;simp_all;rw[bW ue h];unfold lC Og;simp only[jg,bN,cH,aA,cD];rw[aN (by omega) (by omega)];by_cases e2:l[i].tag=n<;>grind
 ·intro g;simp
theorem agJ(l:List gU)(n a b c:Int)(hl:l.length<2^40)(hw:l.length<w):NY w (fY l) n a b c=some (db (λx=>x.tag==n) l):=by
 refine mg l (λx=>x.tag==n) (ev:=λi (g:Value->List Value->Int->Int->Option Int)=>g (aC lC l) [.int .i64 n,.int .i64 a,.int .i64 b,.int .i64 c] l.length i) ?_ ?_ hw
 ·intro i g h;simp_all;rw[bW ue h];unfold lC N4;simp only[jg,bN,cH,aA,cD];rw[aN (by omega) (by omega)];by_cases e2:l[i].tag=n<;>grind
 ·intro g;simp
theorem ag1(l:List gU)(n a b c:Int)(hl:l.length<2^40)(hw:l.length<w):HM w (fY l) n a b c=some (l.any λx=>x.tag==n):=by
 unfold HM;rw[agI l n a b c hl hw];simp;have:=yF (λx:gU=>x.tag==n) l
 grind
variable{α:Type}
theorem J0(p:α->Bool){l:List α}(h:i<l.length):(l.take (i+1)).filter p=(l.take i).filter p++(if p l[i]=true then[l[i]] else[]):=by
 rw[nB h]
 grind
theorem Zu(p:α->Bool)(l:List α)(i:Nat):((l.take i).filter p).length<=l.length:=by grind
theorem agP(E:List bf)(S:aV)(hS:vi S)(hl:S.bG.length<2^40)(hw:S.bG.length<w)(hE:E.length<100000000)(hEw:E.length<w):
 Hr w (aC bH E) (fY S.bG) S.at_ S.cA S.next=some (aC bH (E.filter λx=>eS S x.tag),aC bH (E.filter λx=>eZ S x.tag),aC bH (E.filter λx=>!ej S x.tag)):=by
 unfold Hr zp wK;rw[dw];refine lD (ev:=λi (g:Value->Int->Int->Value->Int->Int->Int->List Value->List Value->List Value->Option (Value×Value×Value))=>g (aC bH E) E.length i (fY S.bG) S.at_ S.cA S.next (((E.take i).filter λx=>eS S x.tag).flatMap bH) (((E.take i).filter λx=>eZ S x.tag).flatMap bH) (((E.take i).filter λx=>!ej S x.tag).flatMap bH)) E.length ?_ ?_ hEw
 ·intro i g hi;have e1:((i:Int)<(E.length:Int)):=by omega
  simp only[bc,e1,bn,ay,ct];rw[bW kk hi];unfold bH;simp only[jg,bN,cH];rw[ag1 S.bG _ _ _ _ hl hw];simp only[aA];have hlk:(S.bG.any λx=>x.tag==E[i].tag)=eS S E[i].tag:=rfl;rw[hlk,J0 _ hi,J0 _ hi,J0 _ hi];have hr1:∀p:bf->Bool,aK (List.flatMap bH ((E.take i).filter p)).length=true:=by intro p;have:=Zu p E i;rw[eJ kk];simp;omega
  have hr1':∀p:bf->Bool,aK (List.flatMap (λx:bf=>[Value.int .i64 x.tag,Value.int .i64 x.ty,Value.int .i64 x.au,Value.int .i64 (x.slot:Int)]) ((E.take i).filter p)).length=true:=hr1;simp only[hr1',show aK 1=true from rfl,fP,eL,nA,rH,cQ,List.length_nil,cR];rw[aN (by omega) (by omega)];have hp:=hS.pair;cases hk:eS S E[i].tag with
  |true=>
   have hnp:eZ S E[i].tag=false:=by unfold eS at hk;rw[List.any_eq_true] at hk;obtain⟨x,hx,he⟩:=hk;rw[<-eq_of_beq he];exact(hS.bG x hx).2.2
   have hno:ej S E[i].tag=true:=by unfold ej;rw[hk];rfl
   simp[hnp,hno]
  |false=>
   have hno:ej S E[i].tag=eZ S E[i].tag:=by unfold ej;rw[hk];rfl
   rw[hno];by_cases h1:(0:Int)<S.at_
   ·have hb:eZ S E[i].tag=(decide (E[i].tag=S.at_)||decide (E[i].tag=S.cA)):=by
     unfold eZ;rw[fS (by omega:S.at_≠0)];rfl
    rw[hb];simp only[cD];by_cases h2:E[i].tag=S.at_
    ·simp[h1,h2]
    ·by_cases h3:E[i].tag=S.cA
     ·simp[h1,h3]
     ·simp[h1,h2,h3]
   ·have hb:eZ S E[i].tag=false:=by
     unfold eZ;have:¬(S.at_≠0):=λq=>by have:=hp q;omega
     rw[fR this];rfl
    rw[hb];simp[h1]
 ·intro g;have e1:¬((E.length:Int)<(E.length:Int)):=by omega
  simp only[bc,e1,cy,aE,rG];rw[Em _ rfl,Em _ rfl,Em _ rfl]
end
section
set_option maxRecDepth 100000
def xA(sh:List aV)(b:List UInt8)(o:Int)(L:Nat)(f:Nat)(rec:rN):Prop:=
 ∀(at_ s no:Nat)(Sp:List bm)(d:aO)(next no':Nat)(S':List bm)(T:List Nat)(so:Int)(c:Nat),
  jS b o sh f at_ s no Sp=.ok (d,next,no',S')->s<sh.length->at_<4294967296->S'.length<100000000->no'<2^40->Tk T L (fL Sp)->
  ∃T' so',Tk T' L (fL S')/\T'.length=T.length/\
   rec at_ s (aj b) o (cw sh) T.length c no so (ed T) (Sp.flatMap cd)=some (.inl (dT d,dS d,dB d,(next:Int),aj b,o,cw sh,T.length,c,(no':Int),so',ed T',S'.flatMap cd))
variable{S:List bm} {b:List UInt8} {no:Nat} {o:Int}
theorem aeP{S':List bm}{x:bf}{t:aI}(h:sD b o no S x=.ok (t,S')):∃u,S'=S++u:=by
 unfold sD at h;split at h
 ·grind
 split at h
 ·split at h
  ·simp_all
  grind
 ·split at h
  ·grind
  rename_i S2 ht;split at h
  ·cases h;exact⟨_,(o9 ht).1⟩
  grind
theorem zc{own:Int->Bool}:∀{E:List bf}{S S':List bm}{ts:List aI},jF own b o no E S=.ok (ts,S')->∃u,S'=S++u
 |[],S,S',ts,h=>by rw[jF] at h;cases h;exact⟨[],(eH _).symm⟩
 |x::E,S,S',ts,h=>by
  rw[jF] at h;split at h
  ·split at h
   ·exact zc h
   grind
  split at h
  ·grind
  rename_i hv;split at h
  ·grind
  rename_i ht;injection h with h;cases h;obtain⟨u,rfl⟩:=aeP hv;obtain⟨v,rfl⟩:=zc ht;simp
theorem B5{rd:Nat->Nat->Nat->List bm->Except Int (aO×Nat×Nat×List bm)}(hrd:∀a s no S d n no' S',rd a s no S=.ok (d,n,no',S')->no<=no'/\∃u,S'=S++u){Sh:aV}:∀{K:List bf}{no no':Nat}{S S':List bm}{r:cF},lI rd Sh K no S=.ok (r,no',S')->no<=no'/\∃u,S'=S++u
 |[],no,no',S,S',r,h=>by rw[lI] at h;cases h;exact⟨aB _,[],(eH _).symm⟩
 |x::K,no,no',S,S',r,h=>by
  rw[lI] at h;split at h
  ·grind
  split at h
  ·grind
  split at h
  ·grind
  rename_i hr;injection h with h;cases h;obtain⟨a2,v,rfl⟩:=B5 hrd hr
  grind
variable{sh:List aV}
theorem B4:∀(f a s no:Nat)(S:List bm)(d:aO)(n no':Nat)(S':List bm),jS b o sh f a s no S=.ok (d,n,no',S')->no<=no'/\∃u,S'=S++u
 |0,a,s,no,S,d,n,no',S',h=>by rw[jS] at h;cases h
 |f+1,a,s,no,S,d,n,no',S',h=>by
  rw[jS] at h;split at h
  case isFalse=>cases h
  split at h
  ·cases h
  split at h
  ·cases h
  rename_i S1 h1;split at h
  case isFalse=>cases h
  split at h
  ·cases h
  rename_i h2;split at h
  ·cases h
  split at h
  ·cases h
  rename_i S3 h3;obtain⟨u1,e1⟩:∃u,S1=S++u:=⟨_,(o9 h1).1⟩;obtain⟨u2,e2⟩:=zc h2;obtain⟨k,u3,e3⟩:=B5 (B4 f) h3;split at h
  ·split at h
   ·cases h
   split at h
   ·cases h
   rename_i h4;injection h with h;cases h;obtain⟨u4,e4⟩:∃u,S'=S3++u:=⟨_,(o9 h4).1⟩;refine⟨by omega,u1++u2++u3++u4,?_⟩;rw[e4,e3,e2,e1];simp
  ·injection h with h;cases h;refine⟨by omega,u1++u2++u3,?_⟩;rw[e3,e2,e1];simp
theorem ah2(l:List (Int×aO))(r:cF)(h:l=aL r):ae ((l.flatMap fH).length/4) (l.flatMap fH)=ae (cm r) (gd r):=by rw[h,eJ uP,lP _ (by simp),uQ,OX]
theorem aaX{w L:Nat}(R:qz w L b o)(hsh:iu sh){s:Nat}(hs:s<sh.length)(hlk:(aJ sh s).bG.length<100000){f:Nat}{rec:rN}(hrec:xA sh b o L f rec){at_ dir no':Nat}{E P K:List bf}{S3 S4:List bm}{subs:cF}{blob:List UInt8}{T:List Nat}
 (hK:∀x∈K,eS (aJ sh s) x.tag=true/\x.slot<4294967296) (hKl:K.length<70000) (hat:at_+6+12*E.length<=L)
 (h3:lI (jS b o sh f) (aJ sh s) K no S=.ok (subs,no',S3))
 (hfin:(∃p q,P=[p,q]/\q.slot≠0/\p.slot<4294967296/\q.slot<4294967296/\ky L S3 ⟨4,dir,0,p.slot,q.slot⟩=.ok S4/\blob=(b.drop p.slot).take q.slot)\/(P.length≠2/\S4=S3/\blob=[]))
 (hS:S4.length<100000000) (hno:no'<2^40) (H:Tk T L (fL S)) (so:Int) (c:Nat) (tc:List Value):
 ∃T' so',Tk T' L (fL S4)/\T'.length=T.length/\
  SD w rec at_ dir (aC bH E) (aC bH P) (aC bH K) K.length 0 (aj b) o (cw sh) T.length c no so (ae 0 []) (fY (aJ sh s).bG) (aJ sh s).at_ (aJ sh s).cA (aJ sh s).next (ed T) (S.flatMap cd) tc []=
   some (.inl (ae (tc.length/4) tc,ae (cm subs) (gd subs),aj blob,(cn b (at_+2+12*E.length) 4 o:Int),aj b,o,cw sh,T.length,c,(no':Int),so',ed T',S4.flatMap cd)):=by
 have hsm:=R.small;have hlen:=R.len;have hw:=R.wide;have h232:∀n,eG w true n=some (.inl ()):=λ_=>rfl;have hS34:S3.length<=S4.length:=by
  rcases hfin with⟨p,q,_,_,_,_,ht,_⟩|⟨_,e,_⟩
  ·rw[(o9 ht).1,aR];omega
  ·rw[e];exact aB _
 obtain⟨tl,htl⟩:∃tl,T.length=tl:=⟨_,rfl⟩;rw[htl];have key:∀(k i v no:Nat)(S:List bm)(T:List Nat)(so:Int)(r:cF)(D:List (Int×aO)),i+k=K.length->k<v->D.length=i->lI (jS b o sh f) (aJ sh s) (K.drop i) no S=.ok (r,no',S3)->D++aL r=aL subs->Tk T L (fL S)->T.length=tl->
  ∃T' so',Tk T' L (fL S4)/\T'.length=tl/\
   lp BE (wo w rec) v at_ dir (aC bH E) (aC bH P) (aC bH K) K.length i (aj b) o (cw sh) tl c no so (ae 0 []) (fY (aJ sh s).bG) (aJ sh s).at_ (aJ sh s).cA (aJ sh s).next (ed T) (S.flatMap cd) tc (D.flatMap fH)=
    some (.inl (ae (tc.length/4) tc,ae (cm subs) (gd subs),aj blob,(cn b (at_+2+12*E.length) 4 o:Int),aj b,o,cw sh,tl,c,(no':Int),so',ed T',S4.flatMap cd)):=by
  intro k;induction k with
  |zero=>
   intro i v no S T so r D hi hv hD hr hDr HT hTl;rw[show K.drop i=[] from xn (by omega),lI] at hr;injection hr with hr;cases hr;rw[show aL cF.nil=[] from rfl,eH] at hDr;have e1:¬((i:Int)<(K.length:Int)):=by omega
   have hD2:=ah2 D subs hDr;rw[ef BE (wo w rec) (by omega)];unfold wo;simp only[bc,e1,cy,aE];rw[dw];have hnx:=Ho (w:=w) (by omega) b (by omega) R.ord (at_+2+12*E.length) 4 (.inr rfl) (by omega);have haw:ah IntKind.i64 ((ah IntKind.i64 ((at_:Int).add 2)).add (ah IntKind.i64 (Int.mul 12 (Int.ofNat E.length))))=((at_+2+12*E.length:Nat):Int):=by rw[cR,cR,pS,cu,aN (n:=(at_:Int)+2) (by omega) (by omega),aN (n:=(12:Int)*(E.length:Int)) (by omega) (by omega),aN (by omega) (by omega)];omega
   rcases hfin with⟨p,q,rfl,hq,hp4,hq4,ht,rfl⟩|⟨hP,rfl,rfl⟩
   ·rw[show ak (Int.ofNat [p,q].length) 2=true from rfl,ay];have x0:∀(K:List Value->tz),aQ 4 0 (aC bH [p,q]) K=K (bH p++([q].flatMap bH)):=λK=>bW kk (by show 0<2;omega) K;have x1:∀(K:List Value->tz),aQ 4 1 (aC bH [p,q]) K=K (bH q++([].flatMap bH)):=λK=>bW kk (by show 1<2;omega) K;have d0:∀(y:bf)(r:List Value),List.drop 3 (bH y++r)=Value.int .i64 (y.slot:Int)::r:=λ_ _=>rfl;rw[x0,d0];simp only[bN,cH];rw[x1,d0];simp only[bN,cH];rw[fS (show(0:Int)<(q.slot:Int) by omega),h232];simp only[aA,iD];obtain⟨a1,a2,a3⟩:=o9 ht;obtain⟨_,T',t1,t2,t3⟩:=Hp (w:=w) HT (by omega) (by omega) ht (by rw[a1,aR] at hS;omega) b hlen o (cw sh) c (no':Int) so;dsimp only at t3 a3;refine⟨T',so,t1,by rw[t2,hTl],?_⟩;rw[hTl] at t3;rw[t3];simp only[aA,iD,dU];rw[cR,aN (n:=(p.slot:Int)+(q.slot:Int)) (by omega) (by omega),show(p.slot:Int)+(q.slot:Int)=((p.slot+q.slot:Nat):Int) by omega,ct,ct];have e3:p.slot+q.slot<=b.length:=by omega
    have e4:p.slot<=p.slot+q.slot:=by omega
    simp only[gu,e3,e4,bn,kU,ay];rw[pL _ e3,show p.slot+q.slot -p.slot=q.slot by omega,rV w _ (by rw[dH,dZ];omega)];simp only[aA];rw[dw,haw];have hnx':mu w (aj b) o ((at_+2+12*E.length:Nat):Int) 4=some (cn b (at_+2+12*E.length) 4 o:Int):=hnx;rw[hnx'];simp only[aA];rw[hD2]
   ·have e2:ak (Int.ofNat P.length) 2=false:=by rw[cD,fI,cu];omega
    rw[e2,aE,dw,haw];have hnx':mu w (aj b) o ((at_+2+12*E.length:Nat):Int) 4=some (cn b (at_+2+12*E.length) 4 o:Int):=hnx;rw[hnx'];simp only[aA];rw[hD2];exact⟨T,so,HT,hTl,rfl⟩
  |succ k ih=>
   intro i v no S T so r D hi hv hD hr hDr HT hTl;have hiK:i<K.length:=by omega
   have hmem:=dL hiK;obtain⟨k1,k2⟩:=hK _ hmem;rw[dG hiK,lI] at hr;split at hr
   ·cases hr
   rename_i d next no1 S1 hd
   split at hr
   ·cases hr
   rename_i hnx;split at hr
   ·cases hr
   rename_i r2 no2 S2 hr2;injection hr with hr;cases hr;have hnx:next=0:=qp.1 hnx
   subst hnx;obtain⟨m1,u,m2⟩:=B5 (B4 f) hr2;have e1:((i:Int)<(K.length:Int)):=by omega
   rw[ef BE (wo w rec) (by omega)];rcases KB (aJ sh s) K[i].tag with⟨_,q⟩|⟨j,hj,q1,_,q3⟩
   ·rw[k1] at q;cases q
   have hsx:=hsh.bG s hs _ (dL hj);rw[q3] at hd;have hsn:(((aJ sh s).bG[j].shape.toNat:Nat):Int)=(aJ sh s).bG[j].shape:=lM (by omega);obtain⟨T1,so1,t1,t2,t3⟩:=hrec K[i].slot _ no S d 0 no1 S1 T so c hd (by omega) k2 (by have:=bK List.length m2;rw[aR] at this;omega) (by omega) HT;rw[hTl] at t2 t3;obtain⟨T',so',v1,v2,v3⟩:=ih (i+1) (v -1) no1 S1 T1 so1 r2 (D++[(K[i].tag,d)]) (by omega) (by omega) (by rw[aR,hD];rfl) hr2 (by rw[<-hDr];simp[aL]) t1 t2;refine⟨T',so',v1,v2,?_⟩;rw[<-v3];generalize hg:lp BE (wo w rec) (v -1)=g;unfold wo;simp only[bc,e1,bn,ay,ct];rw[bW kk hiK];have tg:∀(y:bf)(r:List Value),bH y++r=Value.int .i64 y.tag::.int .i64 y.ty::.int .i64 y.au::.int .i64 (y.slot:Int)::r:=λ_ _=>rfl;rw[tg];simp only[bN,cH];rw[agJ _ _ _ _ _ (by omega) (by omega),q1];simp only[aA,ct];rw[show fY (aJ sh s).bG=aC lC (aJ sh s).bG from rfl,bW ue hj];have dl:∀(y:gU)(r:List Value),List.drop 1 (lC y++r)=Value.int .i64 y.shape::r:=λ_ _=>rfl;rw[dl];simp only[bN,cH];rw[<-hsn,t3];simp only[aA,iD];rw[show ak ((0:Nat):Int) 0=true from rfl,h232];simp only[aA,iD];have hr1:aK (D.flatMap fH).length=true:=by rw[eJ uP];simp;omega
   rw[hr1,cR,aN (by omega) (by omega),show(i:Int)+1=((i+1:Nat):Int) by omega,gq];have hsc:[(K[i].tag,d)].flatMap fH=[Value.int .i64 K[i].tag,dT d,dS d,dB d]:=by show fH (K[i].tag,d)++[]=_;unfold fH;rw[pM];rfl
   rw[hsc];rfl
 exact key K.length 0 w no S T so subs [] (by omega) (by omega) rfl (by rw[eL];exact h3) rfl H htl
end
section
set_option maxRecDepth 100000
theorem ah8{w L:Nat}{b:List UInt8}{o:Int}(R:qz w L b o){sh:List aV}(hsh:iu sh){s:Nat}(hs:s<sh.length)(hlk:(aJ sh s).bG.length<100000){f:Nat}{rec:rN}(hrec:xA sh b o L f rec){at_ dir no no':Nat}{E:List bf}{S S2 S3 S4:List bm}{tags:List aI}{subs:cF}{blob:List UInt8}{T:List Nat}
 (hE:∀x∈E,x.slot<4294967296) (hEl:E.length<65536) (hat:at_+6+12*E.length<=L)
 (h2:jF (ej (aJ sh s)) b o dir E S=.ok (tags,S2))
 (hP1:(E.filter λx=>eZ (aJ sh s) x.tag).length≠1)
 (h3:lI (jS b o sh f) (aJ sh s) (E.filter λx=>eS (aJ sh s) x.tag) no S2=.ok (subs,no',S3))
 (hfin:(∃p q,(E.filter λx=>eZ (aJ sh s) x.tag)=[p,q]/\q.slot≠0/\p.slot<4294967296/\q.slot<4294967296/\ky L S3 ⟨4,dir,0,p.slot,q.slot⟩=.ok S4/\blob=(b.drop p.slot).take q.slot)\/((E.filter λx=>eZ (aJ sh s) x.tag).length≠2/\S4=S3/\blob=[]))
 (hS:S4.length<100000000) (hno:no'<2^40) (_:dir<2^40) (H:Tk T L (fL S)) (so:Int) (c:Nat):
 ∃T' so',Tk T' L (fL S4)/\T'.length=T.length/\
  WU w rec at_ dir (aC bH E) (aC bH (E.filter λx=>eS (aJ sh s) x.tag)) (aC bH (E.filter λx=>eZ (aJ sh s) x.tag)) (aC bH (E.filter λx=>!ej (aJ sh s) x.tag)) (aC bH E) E.length 0 (aj b) o (cw sh) T.length c no so (ae 0 []) (fY (aJ sh s).bG) (aJ sh s).at_ (aJ sh s).cA (aJ sh s).next (ed T) (S.flatMap cd) [] []=
   some (.inl (az tags,ae (cm subs) (gd subs),aj blob,(cn b (at_+2+12*E.length) 4 o:Int),aj b,o,cw sh,T.length,c,(no':Int),so',ed T',S4.flatMap cd)):=by
 have hsm:=R.small;have hlen:=R.len;have hw:=R.wide;have h232:∀n,eG w true n=some (.inl ()):=λ_=>rfl;obtain⟨tl,htl⟩:∃tl,T.length=tl:=⟨_,rfl⟩;rw[htl];have hS24:S2.length<=S4.length:=by
  obtain⟨_,u,e⟩:=B5 (B4 f) h3;have e:=bK List.length e;rw[aR] at e;rcases hfin with⟨p,q,_,_,_,_,ht,_⟩|⟨_,e',_⟩
  ·rw[(o9 ht).1,aR];omega
  ·rw[e'];omega
 have key:∀(k i v:Nat)(S:List bm)(T:List Nat)(so:Int)(ts D:List aI),i+k=E.length->k<v->D.length<=i->jF (ej (aJ sh s)) b o dir (E.drop i) S=.ok (ts,S2)->D++ts=tags->Tk T L (fL S)->T.length=tl->
  ∃T' so',Tk T' L (fL S4)/\T'.length=tl/\
   lp Ad (sV w rec) v at_ dir (aC bH E) (aC bH (E.filter λx=>eS (aJ sh s) x.tag)) (aC bH (E.filter λx=>eZ (aJ sh s) x.tag)) (aC bH ((E.drop i).filter λx=>!ej (aJ sh s) x.tag)) (aC bH E) E.length i (aj b) o (cw sh) tl c no so (ae 0 []) (fY (aJ sh s).bG) (aJ sh s).at_ (aJ sh s).cA (aJ sh s).next (ed T) (S.flatMap cd) (D.flatMap cx) []=
    some (.inl (az tags,ae (cm subs) (gd subs),aj blob,(cn b (at_+2+12*E.length) 4 o:Int),aj b,o,cw sh,tl,c,(no':Int),so',ed T',S4.flatMap cd)):=by
  intro k;induction k with
  |zero=>
   intro i v S T so ts D hi hv hD hr hDr HT hTl;rw[show E.drop i=[] from xn (by omega),jF] at hr;injection hr with hr;cases hr;rw[eH] at hDr;subst hDr;have e1:¬((i:Int)<(E.length:Int)):=by omega
   rw[ef Ad (sV w rec) (by omega)];unfold sV Ch;simp only[bc,e1,cy,aE];rw[dw];have e2:ak (Int.ofNat (E.filter λx=>eZ (aJ sh s) x.tag).length) 1=false:=by rw[cD,fI,cu];omega
   rw[e2,show(!false)=true from rfl,h232];simp only[aA,iD];rw[dw];have hKl:=List.length_filter_le (λx:bf=>eS (aJ sh s) x.tag) E;obtain⟨T',so',t1,t2,t3⟩:=aaX R hsh hs hlk hrec (at_:=at_) (dir:=dir) (E:=E) (P:=E.filter λx=>eZ (aJ sh s) x.tag) (K:=E.filter λx=>eS (aJ sh s) x.tag) (T:=T)
    (λx hx=>⟨(oE.1 hx).2,hE x (oE.1 hx).1⟩) (by omega) hat h3 hfin hS hno HT so c (D.flatMap cx)
   rw[hTl] at t2 t3;refine⟨T',so',t1,t2,?_⟩;have htg:ae ((D.flatMap cx).length/4) (D.flatMap cx)=az D:=by rw[eJ gI,lP _ (by decide)];rfl
   rw[htg] at t3;exact t3
  |succ k ih=>
   intro i v S T so ts D hi hv hD hr hDr HT hTl;have hiE:i<E.length:=by omega
   have hmem:=dL hiE;have e1:((i:Int)<(E.length:Int)):=by omega
   have tg:∀(y:bf)(r:List Value),bH y++r=Value.int .i64 y.tag::.int .i64 y.ty::.int .i64 y.au::.int .i64 (y.slot:Int)::r:=λ_ _=>rfl;rw[dG hiE,jF] at hr;rw[ef Ad (sV w rec) (by omega)];by_cases ho:ej (aJ sh s) E[i].tag=true
   ·rw[ar ho] at hr;split at hr
    case isFalse=>cases hr
    rename_i h41;obtain⟨T',so',v1,v2,v3⟩:=ih (i+1) (v -1) S T so ts D (by omega) (by omega) (by omega) hr hDr HT hTl;refine⟨T',so',v1,v2,?_⟩;rw[<-v3];generalize hg:lp Ad (sV w rec) (v -1)=g;have hfl:(E.drop i).filter (λx=>!ej (aJ sh s) x.tag)=(E.drop (i+1)).filter (λx=>!ej (aJ sh s) x.tag):=by rw[dG hiE,jK,ho];rfl
    rw[hfl];generalize hX:(E.drop (i+1)).filter (λx=>!ej (aJ sh s) x.tag)=X;unfold sV Ch;simp only[bc,e1,bn,ay,ct];rw[bW kk hiE,tg];simp only[bN,cH];rw[dw,h41.1,h41.2];have hnx:ah IntKind.i64 ((i:Int).add 1)=((i+1:Nat):Int):=by rw[cR,aN (by omega) (by omega)];rfl
    have hend:(bif ak 4 4 then ob (eG w (ak 1 1) 6) λ(x112:PUnit⊕Int)=>dk x112 (λ(x113:PUnit)=>g (at_:Int) (dir:Int) (aC bH E) (aC bH (E.filter λx=>eS (aJ sh s) x.tag)) (aC bH (E.filter λx=>eZ (aJ sh s) x.tag)) (aC bH X) (aC bH E) (E.length:Int) (ah IntKind.i64 ((i:Int).add 1)) (aj b) o (cw sh) tl c no so (ae 0 []) (fY (aJ sh s).bG) (aJ sh s).at_ (aJ sh s).cA (aJ sh s).next (ed T) (S.flatMap cd) (D.flatMap cx) []) λ(x114:Int)=>some (Sum.inr (x114,aj b,o,cw sh,tl,c,(no:Int),so,ed T,S.flatMap cd)) else(none:tz))=g (at_:Int) (dir:Int) (aC bH E) (aC bH (E.filter λx=>eS (aJ sh s) x.tag)) (aC bH (E.filter λx=>eZ (aJ sh s) x.tag)) (aC bH X) (aC bH E) (E.length:Int) ((i+1:Nat):Int) (aj b) o (cw sh) tl c no so (ae 0 []) (fY (aJ sh s).bG) (aJ sh s).at_ (aJ sh s).cA (aJ sh s).next (ed T) (S.flatMap cd) (D.flatMap cx) []:=by rw[hnx];rfl
    rcases X with _|⟨y,X⟩
    ·have e5:decide ((0:Int)<Int.ofNat ([]:List bf).length)=false:=rfl;rw[e5,aE];exact hend
    ·have e5:decide ((0:Int)<Int.ofNat (y::X).length)=true:=by rw[bV,cu,cQ];omega
     have hy:ej (aJ sh s) y.tag=false:=by have:=(oE.1 (show y∈(E.drop (i+1)).filter (λx=>!ej (aJ sh s) x.tag) by rw[hX];exact mC)).2;simpa using this
     have ca:¬(E[i].tag=y.tag):=λq=>by rw[q,hy] at ho;cases ho
     have x0:∀(K:List Value->tz),aQ 4 0 (aC bH (y::X)) K=K (bH y++(X.flatMap bH)):=λK=>bW kk (l:=y::X) (m:=0) (by rw[cQ];omega) K;rw[e5,ay,x0,tg];simp only[bN,cH,cD,ca,cy,aE];have hend2:=hend;simp only[cD] at hend2;exact hend2
   ·rw[ai ho] at hr;split at hr
    ·cases hr
    rename_i t S1 hv1;split at hr
    ·cases hr
    rename_i ts2 S2' ht;injection hr with hr;cases hr;obtain⟨u,hu⟩:=zc ht;obtain⟨_,T1,so1,t1,t2,t3⟩:=agQ (w:=w) (dir:=dir) R HT hv1 (hE _ hmem) (by have:=bK List.length hu;rw[aR] at this;omega) (cw sh) c (no:Int) so;rw[hTl] at t2 t3;obtain⟨T',so',v1,v2,v3⟩:=ih (i+1) (v -1) S1 T1 so1 ts2 (D++[t]) (by omega) (by omega) (by rw[aR,xq];omega) ht (by rw[<-hDr];simp) t1 t2;refine⟨T',so',v1,v2,?_⟩;rw[<-v3];generalize hg:lp Ad (sV w rec) (v -1)=g;have ho':ej (aJ sh s) E[i].tag=false:=by simpa using ho
    have hfl:(E.drop i).filter (λx=>!ej (aJ sh s) x.tag)=E[i]::(E.drop (i+1)).filter (λx=>!ej (aJ sh s) x.tag):=by rw[dG hiE,jK,ho'];rfl
    rw[hfl];generalize hX:(E.drop (i+1)).filter (λx=>!ej (aJ sh s) x.tag)=X;unfold sV Ch;simp only[bc,e1,bn,ay,ct];rw[bW kk hiE,tg];simp only[bN,cH];rw[dw];have e5:decide ((0:Int)<Int.ofNat (E[i]::X).length)=true:=by rw[bV,cu,cQ];omega
    have x0:∀(K:List Value->tz),aQ 4 0 (aC bH (E[i]::X)) K=K (bH E[i]++(X.flatMap bH)):=λK=>bW kk (l:=E[i]::X) (m:=0) (by rw[cQ];omega) K;rw[e5,ay,x0,tg];simp only[bN,cH,cD,bn,ay];rw[t3];simp only[aA,iD];have hr1:aK (D.flatMap cx).length=true:=by rw[eJ gI];simp;omega
    rw[hr1,dw];have e6:1<=(E[i]::X).length:=by rw[cQ];omega
    simp only[show aK 1=true from rfl,fP,eL,nA,rH,cQ,List.length_nil,gu,aB,bn,show Nat.beq (0+1+1+1+1) 4=true from rfl,ay,cR];have e7:1<=X.length+1:=by omega
    have e8:decide (1<=X.length+1)=true:=fS e7;rw[e8,ay,yd kk (E[i]::X) (a:=1) (b:=X.length+1) (by rw[cQ];omega),show X.length+1 -1=X.length by omega,List.drop_succ_cons,eL,gh (aB _),aN (n:=(i:Int)+1) (by omega) (by omega),show(i:Int)+1=((i+1:Nat):Int) by omega,gq];have htc:[t].flatMap cx=[Value.int .i64 t.tag,.int .i64 t.ty,.int .i64 t.au,aj t.data]:=rfl;rw[htc]
 have hfin0:=key E.length 0 w S T so tags [] (by omega) (by omega) (aB _) (by rw[eL];exact h2) rfl H htl;rw[eL] at hfin0;exact hfin0
end
section
set_option maxRecDepth 100000
theorem Q2(b:List UInt8)(o:Int):∀(n p:Nat),∀x∈jy b o p n,x.slot<4294967296
 |0,_,x,h=>by cases h
 |n+1,p,x,h=>by
  rcases cj.1 (h) with rfl|h
  ·exact E7 b (p+8) o
  ·exact Q2 b o n (p+12) x h
variable{b:List UInt8} {f w:Nat} {o:Int} {sh:List aV}
theorem ahQ{L:Nat}(R:qz w L b o)(hsh:iu sh)(hlk:∀s,s<sh.length->(aJ sh s).bG.length<100000){rec:rN}(hrec:xA sh b o L f rec):xA sh b o L (f+1) (Ip w rec):=by
 have hsm:=R.small;have hlen:=R.len;have hw:=R.wide;intro at_ s no Sp d next no' S' T so c h hs hat hS hno HT
 rw[jS] at h;split at h
 case isFalse=>cases h
 rename_i h0;split at h
 ·cases h
 rename_i hn;split at h
 ·cases h
 rename_i S1 h1;split at h
 case isFalse=>cases h
 rename_i hr;split at h
 ·cases h
 rename_i tags S2 h2;split at h
 ·cases h
 rename_i hP1;split at h
 ·cases h
 rename_i subs no2 S3 h3;rw[hlen] at h0 h1;obtain⟨a1,_,a3⟩:=o9 h1;obtain⟨u2,e2⟩:=zc h2;obtain⟨k,u3,e3⟩:=B5 (B4 f) h3;obtain⟨n,hnn⟩:∃n,cn b at_ 2 o=n:=⟨_,rfl⟩;have hn2:n<65536:=by rw[<-hnn];exact Tc b at_ R.ord
 obtain⟨E,hE⟩:∃E,jy b o (at_+2) n=E:=⟨_,rfl⟩;have hEl:E.length=n:=by rw[<-hE,JI]
 have hEs:∀x∈E,x.slot<4294967296:=by rw[<-hE];exact Q2 b o n _
 rw[hnn,hE] at h;dsimp only at a3;have hS13:Sp.length<=S3.length:=by rw[e3,e2,a1];simp only[aR];omega
 have hend:∃S4 blob,((∃p q,(E.filter λx=>eZ (aJ sh s) x.tag)=[p,q]/\q.slot≠0/\p.slot<4294967296/\q.slot<4294967296/\ky L S3 ⟨4,(no:Int),0,p.slot,q.slot⟩=.ok S4/\blob=(b.drop p.slot).take q.slot)\/((E.filter λx=>eZ (aJ sh s) x.tag).length≠2/\S4=S3/\blob=[]))/\
  d=.mk tags subs blob/\next=cn b (at_+2+12*n) 4 o/\no'=no2/\S'=S4:=by
  split at h
  ·rename_i p q hpq;split at h
   ·cases h
   rename_i hq;split at h
   ·cases h
   rename_i S4 ht;injection h with h;cases h;refine⟨_,_,.inl ⟨p,q,hpq,hq,?_,?_,by rw[<-hlen];exact ht,rfl⟩,rfl,rfl,rfl,rfl⟩
   ·exact hEs p (oE.1 (show p∈E.filter λx=>eZ (aJ sh s) x.tag by rw[hpq];simp)).1
   ·exact hEs q (oE.1 (show q∈E.filter λx=>eZ (aJ sh s) x.tag by rw[hpq];simp)).1
  ·rename_i hno2;injection h with h;cases h;refine⟨_,_,.inr ⟨λq=>?_,rfl,rfl⟩,rfl,rfl,rfl,rfl⟩
   rcases hF:(E.filter λx=>eZ (aJ sh s) x.tag) with _|⟨x,_|⟨y,_|⟨z,l⟩⟩⟩<;>grind
 obtain⟨S4,blob,hfin,rfl,rfl,rfl,rfl⟩:=hend;have hS34:S3.length<=S'.length:=by
  rcases hfin with⟨p,q,_,_,_,_,ht,_⟩|⟨_,e',_⟩
  ·rw[(o9 ht).1,aR];omega
  ·rw[e'];omega
 obtain⟨T1,t1,t2,t3⟩:=agO R HT h0.1 h0.2 hn h1 hr (by omega) (by omega) (cw sh) c (ah .i64 ((no:Int).add 1)) so;rw[hnn] at t3 hn h1 hr h2 hP1 h3;rw[hE] at t3 h2 hP1 h3;have haw:ah IntKind.i64 ((no:Int).add 1)=((no+1:Nat):Int):=by rw[cR,aN (by omega) (by omega)];rfl
 rw[haw] at t3;obtain⟨T',so',v1,v2,v3⟩:=ah8 R hsh hs (hlk s hs) hrec (at_:=at_) (dir:=no) hEs (by omega) (by omega) h2 hP1 h3 hfin hS hno (by omega) t1 so c;rw[t2] at v2 v3;refine⟨T',so',v1,v2,?_⟩;unfold Ip;rw[ct,show cw sh=aC iL sh from rfl,bW zZ hs];have hsg:sh[s]=aJ sh s:=by unfold aJ;rw[dD hs];rfl
 have tg:∀(S:aV)(r:List Value),iL S++r=fY S.bG::.int .i64 S.at_::.int .i64 S.cA::.int .i64 S.next::r:=λ_ _=>rfl;rw[hsg,tg];simp only[bN,cH];rw[show ak (no:Int) (no:Int)=true by rw[cD,bV],ay,haw,show aC iL sh=cw sh from rfl,t3];simp only[aA,iD];rw[agP E _ (hsh.ok s) (by have:=hlk s hs;omega) (by have:=hlk s hs;omega) (by omega) (by omega)];simp only[aA];rw[dw];rw[hEl] at v3;rw[hEl];exact v3
theorem QJ{L:Nat}(R:qz w L b o)(hsh:iu sh)(hlk:∀s,s<sh.length->(aJ sh s).bG.length<100000)(z:rN):
 ∀(f n:Nat),f<=n->xA sh b o L f (pU z (Ip w) n)
 |0,n,_=>by
  intro at_ s no Sp d next no' S' T so c h
  cases h
 |f+1,n+1,h=>by exact ahQ R hsh hlk (QJ R hsh hlk z f n (by omega))
theorem agu{L:Nat}(R:qz w L b o)(hsh:iu sh)(hlk:∀s,s<sh.length->(aJ sh s).bG.length<100000)(hf:f<=w):xA sh b o L f (Hc w):=QJ R hsh hlk _ f w hf
end
section
set_option maxRecDepth 100000
theorem UE{rd:Nat->Nat->Nat->List bm->Except Int (aO×Nat×Nat×List bm)}(hrd:∀a s no S d n no' S',rd a s no S=.ok (d,n,no',S')->no'+S.length<=no+S'.length){Sh:aV}:∀{K:List bf}{no no':Nat}{S S':List bm}{r:cF},lI rd Sh K no S=.ok (r,no',S')->no'+S.length<=no+S'.length
 |[],no,no',S,S',r,h=>by rw[lI] at h;cases h;exact aB _
 |x::K,no,no',S,S',r,h=>by
  rw[lI] at h;split at h
  ·grind
  rename_i hd;split at h
  ·grind
  split at h
  ·grind
  rename_i hr;injection h with h;cases h;have a1:=hrd _ _ _ _ _ _ _ _ hd;have a2:=UE hrd hr;omega
variable{b:List UInt8} {o:Int} {sh:List aV}
theorem UD:∀(f a s no:Nat)(S:List bm)(d:aO)(n no':Nat)(S':List bm),jS b o sh f a s no S=.ok (d,n,no',S')->no'+S.length<=no+S'.length
 |0,a,s,no,S,d,n,no',S',h=>by rw[jS] at h;cases h
 |f+1,a,s,no,S,d,n,no',S',h=>by
  rw[jS] at h;split at h
  case isFalse=>cases h
  split at h
  ·cases h
  split at h
  ·cases h
  rename_i S1 h1;split at h
  case isFalse=>cases h
  split at h
  ·cases h
  rename_i h2;split at h
  ·cases h
  split at h
  ·cases h
  rename_i S3 h3;have e1:=bK List.length (o9 h1).1;rw[aR,xq] at e1;obtain⟨u2,e2⟩:=zc h2;have e2:=bK List.length e2;rw[aR] at e2;have e3:=UE (UD f) h3;split at h
  ·split at h
   ·cases h
   split at h
   ·cases h
   rename_i h4;injection h with h;cases h;have e4:=bK List.length (o9 h4).1;rw[aR] at e4;omega
  ·injection h with h;cases h;omega
theorem aeO:∀(f a s no:Nat)(S:List bm)(d:aO)(n no':Nat)(S':List bm),jS b o sh f a s no S=.ok (d,n,no',S')->n<4294967296
 |0,a,s,no,S,d,n,no',S',h=>by rw[jS] at h;cases h
 |f+1,a,s,no,S,d,n,no',S',h=>by
  rw[jS] at h;split at h
  case isFalse=>cases h
  split at h
  ·cases h
  split at h
  ·cases h
  split at h
  case isFalse=>cases h
  split at h
  ·cases h
  split at h
  ·cases h
  split at h
  ·cases h
  split at h
  ·split at h
   ·cases h
   split at h
   ·cases h
   injection h with h;cases h;exact E7 _ _ _
  ·injection h with h;cases h;exact E7 _ _ _
theorem UC:∀(f:Nat)(first:Bool)(a:Nat)(s:Int)(no:Nat)(S:List bm)(ds:List aO)(S':List bm),ox b o sh f first a s no S=.ok (ds,S')->∃u,S'=S++u
 |0,first,a,s,no,S,ds,S',h=>by rw[ox] at h;cases h
 |f+1,first,a,s,no,S,ds,S',h=>by
  rw[ox] at h;split at h
  ·simp_all
  split at h
  ·grind
  split at h
  ·grind
  rename_i hd;split at h
  ·grind
  rename_i hc;injection h with h;cases h;obtain⟨_,u,rfl⟩:=B4 _ _ _ _ _ _ _ _ _ hd;obtain⟨v,rfl⟩:=UC f _ _ _ _ _ _ _ hc;simp
variable{w:Nat}
theorem Qn{L:Nat}(R:qz w L b o)(hsh:iu sh)(hlk:∀s,s<sh.length->(aJ sh s).bG.length<100000)(hl:sh.length<100000){S':List bm}(hS:S'.length<100000000)(c:Nat)(tl:Nat):
 ∀(f v at_:Nat)(s:Int)(no:Nat)(Sp:List bm)(D ds:List aO)(T:List Nat)(so:Int),f<v->D.length+f<=sh.length+2->ox b o sh f D.isEmpty at_ s no Sp=.ok (ds,S')->at_<4294967296->s<sh.length->no<=Sp.length->Tk T L (fL Sp)->T.length=tl->
  ∃T' so' no',lp D3 (xW w) v (at_:Int) s (aj b) o (cw sh) tl c (no:Int) so o 0 (ed T) (Sp.flatMap cd) (D.flatMap dK)=some (o,0,aj b,o,cw sh,tl,c,no',so',(D++ds).flatMap dK,ed T',S'.flatMap cd)
 |0,v,at_,s,no,Sp,D,ds,T,so,_,_,h,_,_,_,_,_=>by rw[ox] at h;cases h
 |f+1,v,at_,s,no,Sp,D,ds,T,so,hv,hD,h,hat,hs,hno,HT,hTl=>by
  have hw:=R.wide;have h232:∀n,eG w true n=some (.inl ()):=λ_=>rfl;rw[ox] at h;rw[ef D3 (xW w) (by omega)];split at h
  ·rename_i h0;injection h with h;cases h;rw[h0.1];have hDe:D.length≠0:=by
    intro q;have:D=[]:=qu.1 q;rw[this] at h0;exact absurd h0.2 (by decide)
   refine⟨T,so,(no:Int),?_⟩;unfold xW Gk Cf;have e1:aq 0 ((0:Nat):Int)=false:=rfl;have e2:ak (Int.ofNat ((D.flatMap dK).length/3)) 0=false:=by rw[eJ nX,cD,fI,cu];omega
   simp_all
  ·rename_i h0;split at h
   ·cases h
   rename_i hs0;split at h
   ·cases h
   rename_i d next no1 S1 hd
   split at h
   ·cases h
   rename_i ds2 S2 hc;injection h with h;cases h;have hst:(s.toNat:Int)=s:=lM (by omega);have hsl:s.toNat<sh.length:=by omega
   obtain⟨u,hu⟩:=UC _ _ _ _ _ _ _ _ hc;have hu:=bK List.length hu;rw[aR] at hu;have hcn:=UD _ _ _ _ _ _ _ _ _ hd;obtain⟨T1,so1,t1,t2,t3⟩:=agu R hsh hlk (f:=sh.length) (by omega) at_ s.toNat no Sp d next no1 S1 T so c hd hsl hat (by omega) (by omega) HT
   rw[hTl] at t2 t3;rw[hst] at t3;have hnx:=hsh.next s.toNat hsl;obtain⟨T',so',no',v3⟩:=Qn R hsh hlk hl hS c tl f (v -1) next (aJ sh s.toNat).next no1 S1 (D++[d]) ds2 T1 so1 (by omega) (by rw[aR,xq];omega) (by
    have:(D++[d]).isEmpty=false:=by cases D<;>rfl
    rw[this];exact hc) (aeO _ _ _ _ _ _ _ _ _ hd) (by omega) (by omega) t1 t2
   refine⟨T',so',no',?_⟩;rw[dY] at v3;rw[show D++d::ds2=D++([d]++ds2) from rfl,<-v3];generalize hg:lp D3 (xW w) (v -1)=g;have hsn:(!aq s 0)=true:=by rw[bc,fR (by omega:¬s<0)];rfl
   have hr1:aK (D.flatMap dK).length=true:=by rw[eJ nX];simp;omega
   have hsg:sh[s.toNat]=aJ sh s.toNat:=by unfold aJ;rw[dD hsl];rfl
   have tg:∀(S:aV)(r:List Value),(iL S++r).drop 3=.int .i64 S.next::r:=λ_ _=>rfl;have hdc:List.take 3 (List.drop 0 [dT d,dS d,dB d])=[d].flatMap dK:=by rw[ff,nz,eH,pM];rfl
   have x0:∀(K:List Value->Option (Int×Int×Value×Int×Value×Nat×Nat×Int×Int×List Value×List Value×List Value)),aG s (λx58=>aQ 4 x58 (cw sh) K)=K (iL (aJ sh s.toNat)++(sh.drop (s.toNat+1)).flatMap iL):=by intro K;rw[<-hst,ct,show cw sh=aC iL sh from rfl,mB,bW zZ hsl,hsg]
   unfold xW Gk Cf;have fin:∀(A:Int->Option (Int×Int×Value×Int×Value×Nat×Nat×Int×Int×List Value×List Value×List Value))(B:Int×Value×Int×Value×Nat×Nat×Int×Int×List Value×List Value->Option (Int×Int×Value×Int×Value×Nat×Nat×Int×Int×List Value×List Value×List Value)),
    (ob (eG w (!aq s 0) 2) λ(x43:PUnit⊕Int)=>dk x43 (λ(x44:PUnit)=>ob (Hc w (at_:Int) s (aj b) o (cw sh) tl c (no:Int) so (ed T) (Sp.flatMap cd)) λx45=>dk x45 (λ(x46:Value×Value×Value×Int×Value×Int×Value×Nat×Nat×Int×Int×List Value×List Value)=>bif aK (D.flatMap dK).length&&(aK 1&&(List.take 3 (List.drop 0 [x46.fst,x46.snd.fst,x46.snd.snd.fst])).length.beq 3) then aG s λ(x47:Nat)=>aQ 4 x47 x46.snd.snd.snd.snd.snd.snd.fst λ(x48:List Value)=>ag (List.drop 3 x48) λ(x49:Value)(x50:List Value)=>aw IntKind.i64 x49 λ(x51:Int)=>g x46.snd.snd.snd.fst x51 x46.snd.snd.snd.snd.fst x46.snd.snd.snd.snd.snd.fst x46.snd.snd.snd.snd.snd.snd.fst x46.snd.snd.snd.snd.snd.snd.snd.fst x46.snd.snd.snd.snd.snd.snd.snd.snd.fst x46.snd.snd.snd.snd.snd.snd.snd.snd.snd.fst x46.snd.snd.snd.snd.snd.snd.snd.snd.snd.snd.fst o 0 x46.snd.snd.snd.snd.snd.snd.snd.snd.snd.snd.snd.fst x46.snd.snd.snd.snd.snd.snd.snd.snd.snd.snd.snd.snd (D.flatMap dK++List.take 3 (List.drop 0 [x46.fst,x46.snd.fst,x46.snd.snd.fst])) else none) B) A)=g (next:Int) (aJ sh s.toNat).next (aj b) o (cw sh) tl c (no1:Int) so1 o 0 (ed T1) (S1.flatMap cd) ((D++[d]).flatMap dK):=by
    intro A B;rw[hsn,h232];simp only[aA,iD];rw[t3];simp only[aA,iD];rw[hr1,hdc,x0,tg];simp only[bN,cH];rw[gq,show[d].flatMap dK=dK d++[] from rfl,eH,nX];rfl
   by_cases hp:0<at_
   ·have e1:aq 0 (at_:Int)=true:=by rw[bc,bV];omega
    rw[e1,ay];exact fin _ _
   ·have e1:aq 0 (at_:Int)=false:=by rw[bc,fI];omega
    have hDe:D=[]:=by
     cases D with
     |nil=>rfl
     |cons a l=>exact absurd ⟨by omega,rfl⟩ h0
    have e2:ak (Int.ofNat ((D.flatMap dK).length/3)) 0=true:=by rw[hDe];rfl
    rw[e1,aE,e2,ay];exact fin _ _
theorem UM:∀n:Nat,rep n (Value.int IntKind.u64 0).cells.toList=ed (List.replicate n 0)
 |0=>rfl
 |n+1=>by show _++rep n _=_;rw[UM n];rfl
theorem aiB(L:Nat):Tk (List.replicate (L/64+1) 0) L (fL []):=by
 refine⟨uX,λn hn=>(by grind),λp hp=>?_⟩
 ·unfold DX fL
  grind
theorem afT(hb:b.length<2^29)(hw:b.length+200000<w)(hsh:iu sh)(hlk:∀s,s<sh.length->(aJ sh s).bG.length<100000)(hl:sh.length<100000)(h0:0<sh.length)(tZ:ri w (cw sh)=some true){ds:List aO}{S:List bm}(hS:S.length<100000000)(h:xg b sh=.ok (⟨o,ds⟩,S)):
 Cs w (aj b) (cw sh)=some (o,dM ds,aC cd S,0):=by
 unfold xg at h;split at h
 ·cases h
 split at h
 ·cases h
 rename_i h42;split at h
 ·cases h
 rename_i ds1 Sx hc;injection h with h;injection h with h1 h2;injection h1 with h1 h3;subst h1 h2 h3;have ho:kP b=1\/kP b=2:=by
  have:kP b≠0:=λq=>h42 (.inl q);unfold kP at this⊢;split
  ·exact .inl rfl
  ·split
   ·exact .inr rfl
   ·rename_i a c;rw[ai a,ai c] at this;exact absurd rfl this
 have R:qz w b.length b (kP b):=⟨rfl,hb,hw,ho⟩;obtain⟨T1,t1,t2,t3⟩:=agt R (by omega) rfl (qp.1 λq=>h42 (.inr q)) (aiB b.length) (cw sh) (b.length/64+1) 0 0;rw[uX] at t2 t3;obtain⟨T2,so2,no2,v3⟩:=Qn R hsh hlk hl hS (b.length/64+1) (b.length/64+1) (sh.length+2) w (cn b 4 4 (kP b)) 0 0 [⟨1,-1,0,0,8⟩] [] ds1 T1 0 (by omega) (by simp) hc (E7 _ _ _) (by omega) (by omega) t1 t2;have h180:GZ w (aj b) (cw sh)=some (aj b,0,cw sh,b.length/64+1,b.length/64+1,0,0,ed (List.replicate (b.length/64+1) 0),[]):=by
  unfold GZ;rw[dU,cu,Jx _ (by omega),cR,aN (by omega) (by omega),show((b.length/64:Nat):Int)+1=((b.length/64+1:Nat):Int) by omega];simp only[ct];have e1:b.length/64+1<=1000000000:=by omega
  simp only[gu,aB,e1,bn,kU,gY];rw[UM];rfl
 have h181:G0 w (aj b) 0 (cw sh) (b.length/64+1) (b.length/64+1) 0 0 (ed (List.replicate (b.length/64+1) 0)) []=some (kP b,0,aj b,kP b,cw sh,b.length/64+1,b.length/64+1,no2,so2,ds1.flatMap dK,ed T2,Sx.flatMap cd):=by unfold G0 Cf;rw[tZ];rw[t3];exact v3
 unfold Cs;rw[h180];simp;rw[h181];simp only[aA];rw[WE Sx _ rfl,eJ nX,lP _ (by decide)];rfl
end
section
set_option maxRecDepth 100000
theorem VZ(w:Nat)(a b c t:Int)(d:Value):wT w a b c d t=some (if a<t then-1 else if t<a then 1 else 0):=by
 unfold wT NM Ht;by_cases h:a<t
 ·simp[h]
 ·by_cases h2:t<a
  ·simp[h,h2]
  ·simp[h,h2]
variable{w:Nat}
theorem Nz(l:List aI)(t:Int)(hr:fD l=true)(hl:l.length<2^40)(hw:l.length+2<w):
 ∃i:Nat,zz w (az l) t=some ((i:Int),(iI l t).isSome)/\i<=l.length/\(∀_:(iI l t).isSome=true,∃h':i<l.length,iI l t=some l[i])/\(∀x (h:x<l.length),x<i->l[x].tag<t)/\∀x (h:x<l.length),i<=x->t<=l[x].tag:=by
 have key:∀(k i j v:Nat),j=i+k->j<=l.length->k+1<v->(∀x (h:x<l.length),x<i->l[x].tag<t)->(∀x (h:x<l.length),j<=x->t<=l[x].tag)->
  ∀(z:Value->Int->Int->Int->Int->Option (Int×Bool))(F:(Value->Int->Int->Int->Int->Option (Int×Bool))->Value->Int->Int->Int->Int->Option (Int×Bool)),
  (∀(x8:Value->Int->Int->Int->Int->Option (Int×Bool))(x9:Value)(x10 x11 x12 x13:Int),F x8 x9 x10 x11 x12 x13=bif aq x12 x13 then aG (ah IntKind.i64 ((ah IntKind.u64 (ah IntKind.i64 (x12.add x13))).fdiv (2^1))) λ(x14:Nat)=>aQ 4 x14 x9 λ(x15:List Value)=>ag x15 λ(x16:Value)(x17:List Value)=>aw IntKind.i64 x16 λ(x18:Int)=>ag x17 λ(x19:Value)(x20:List Value)=>aw IntKind.i64 x19 λ(x21:Int)=>ag x20 λ(x22:Value)(x23:List Value)=>aw IntKind.i64 x22 λ(x24:Int)=>ag x23 λ(x25:Value)(x26:List Value)=>ob (wT w x18 x21 x24 x25 x10) λ(x27:Int)=>bif aq x27 0 then x8 x9 x10 x11 (ah IntKind.i64 ((ah IntKind.i64 ((ah IntKind.u64 (ah IntKind.i64 (x12.add x13))).fdiv (2^1))).add 1)) x13 else x8 x9 x10 x11 x12 (ah IntKind.i64 ((ah IntKind.u64 (ah IntKind.i64 (x12.add x13))).fdiv (2^1))) else bif aq x12 x11 then aG x12 λ(x28:Nat)=>aQ 4 x28 x9 λ(x29:List Value)=>ag x29 λ(x30:Value)(x31:List Value)=>aw IntKind.i64 x30 λ(x32:Int)=>ag x31 λ(x33:Value)(x34:List Value)=>aw IntKind.i64 x33 λ(x35:Int)=>ag x34 λ(x36:Value)(x37:List Value)=>aw IntKind.i64 x36 λ(x38:Int)=>ag x37 λ(x39:Value)(x40:List Value)=>ob (wT w x32 x35 x38 x39 x10) λ(x41:Int)=>some (x12,ak x41 0) else some (x12,false))->
  ∃i':Nat,lp z F v (az l) t l.length i j=some ((i':Int),(iI l t).isSome)/\i'<=l.length/\(∀h:(iI l t).isSome=true,∃h':i'<l.length,iI l t=some l[i'])/\(∀x (h:x<l.length),x<i'->l[x].tag<t)/\∀x (h:x<l.length),i'<=x->t<=l[x].tag:=by
  intro k;induction k using Nat.strongRecOn with
  |ind k ih=>
   intro i j v hj hjl hv h1 h2 z F hF;have tg:∀(y:aI)(r:List Value),cx y++r=Value.int .i64 y.tag::.int .i64 y.ty::.int .i64 y.au::aj y.data::r:=λ_ _=>rfl;rw[ef z F (by omega),hF];by_cases hk:k=0
   ·subst hk;have e1:¬((i:Int)<(j:Int)):=by omega
    simp only[bc,e1,cy,aE];by_cases hi:i<l.length
    ·have e2:((i:Int)<(l.length:Int)):=by omega
     simp only[e2,bn,ay,ct];rw[show az l=aC cx l from rfl,bW gI hi,tg];simp only[bN,cH];rw[VZ];simp only[aA];have hge:=h2 i hi (by omega);by_cases he:l[i].tag=t
     ·have hf:iI l t=some l[i]:=by
       unfold iI;rw[List.find?_eq_some_iff_getElem];refine⟨by simp[he],i,hi,rfl,λx hx=>?_⟩;have:=h1 x (by omega) hx;simp;omega
      refine⟨i,?_,by omega,λ_=>⟨hi,hf⟩,h1,λx h q=>h2 x h (by omega)⟩;rw[hf,ai (by omega),ai (by omega)];rfl
     ·have hf:iI l t=none:=by
       unfold iI;rw[List.find?_eq_none];intro y hy;obtain⟨x,hx,rfl⟩:=List.mem_iff_getElem.1 hy;have a:=λq=>h1 x hx q;have b:x=i\/x<i\/i<x:=by omega
       rcases b with rfl|b|b
       ·simpa using he
       ·have:=h1 x hx b;simp;omega
       ·have:=wH hr b hx;simp;omega
      refine⟨i,?_,by omega,(λh=>by rw[hf] at h;cases h),h1,λx h q=>h2 x h (by omega)⟩;rw[hf,ai (by omega),ar (by omega)];rfl
    ·have e2:¬((i:Int)<(l.length:Int)):=by omega
     simp only[e2,cy,aE];have hf:iI l t=none:=by unfold iI;rw[List.find?_eq_none];intro y hy;obtain⟨x,hx,rfl⟩:=List.mem_iff_getElem.1 hy;have:=h1 x hx (by omega);simp;omega
     exact⟨i,by rw[hf];rfl,by omega,(λh=>by rw[hf] at h;cases h),h1,λx h q=>h2 x h (by omega)⟩
   ·have e1:((i:Int)<(j:Int)):=by omega
    obtain⟨m,hm⟩:∃m,(i+j)/2=m:=⟨_,rfl⟩;have hmi:i<=m/\m<j:=by omega
    have haw:ah IntKind.i64 ((ah IntKind.u64 (ah IntKind.i64 ((i:Int).add (j:Int)))).fdiv (2^1))=(m:Int):=by rw[cR,aN (n:=(i:Int)+(j:Int)) (by omega) (by omega),tD (by omega) (by omega),show((2:Int)^1)=2 from rfl,Int.fdiv_eq_ediv_of_nonneg _ (by decide),show((i:Int)+(j:Int))/2=(m:Int) by omega,aN (by omega) (by omega)]
    simp only[bc,e1,bn,ay];rw[haw,ct,show az l=aC cx l from rfl,bW gI (by omega:m<l.length),tg];simp only[bN,cH];rw[VZ];simp only[aA];by_cases hlt:l[m].tag<t
    ·rw[ar hlt,show decide ((-1:Int)<0)=true from rfl,ay,cR,aN (by omega) (by omega),show(m:Int)+1=((m+1:Nat):Int) by omega];refine ih (j -(m+1)) (by omega) (m+1) j (v -1) (by omega) hjl (by omega) (λx hx hxm=>?_) h2 z F hF;by_cases hxe:x=m
     ·subst hxe;exact hlt
     ·have:=wH hr (show x<m by omega) (show m<l.length by omega);omega
    ·rw[ai hlt];have e3:∀(A B:Option (Int×Bool)),(bif decide ((if t<l[m].tag then(1:Int) else 0)<0) then A else B)=B:=by
      intro A B;split<;>rfl
     rw[e3];refine ih (m -i) (by omega) i m (v -1) (by omega) (by omega) (by omega) h1 (λx hx hxm=>?_) z F hF;by_cases hxe:x=m
     ·subst hxe;omega
     ·have:=wH hr (show m<x by omega) hx;omega
 obtain⟨i,a,b,c⟩:=key l.length 0 l.length w (by omega) (aB _) (by omega) (λ_ _ h=>by omega) (λx h h'=>by omega) _ _ (λ_ _ _ _ _ _=>rfl);refine⟨i,?_,b,c⟩;unfold zz NL Gs;refine iq (bK (λz=>ob z _) a) rfl
theorem afU(l:List aI)(t:Int)(hr:fD l=true)(hl:l.length<2^40)(hw:l.length+2<w)(hd:∀t∈l,t.data.length<=1000000000):
 GF w (az l) t=some (match iI l t with|some x=>(x.ty,x.au,aj x.data,true)|none=>(0,0,ae 0 [],false)):=by
 obtain⟨i,a,b,c,_⟩:=Nz l t hr hl hw;unfold GF;rw[a];simp only[aA];cases hf:iI l t with
 |none=>rfl
 |some x=>
  obtain⟨h',e⟩:=c (by grind);rw[hf] at e;injection e with e;rw[ct,show az l=aC cx l from rfl,bW gI h',(show∀(y:aI)(r:List Value),List.drop 1 (cx y++r)=.int .i64 y.ty::.int .i64 y.au::aj y.data::r fromλ_ _=>rfl)]
  simp;unfold uJ;rw[rV w _ (hd _ (dL h')),<-e];rfl
end
section
set_option maxRecDepth 100000
def yJ(l:List aI):List (Int×aO)->List aI
 |[]=>l
 |(_,.mk tags _ _)::r=>yJ tags r
theorem Su:∀(s:cF)(l:List aI),yK l s=yJ l (aL s)
 | .nil,l=>rfl
 | .cons _ (.mk tags _ _) r,l=>by rw[yK,Su r tags];rfl
theorem Ef(tags:List aI)(subs:cF)(blob:List UInt8):dK (.mk tags subs blob)=[az tags,ae (cm subs) (gd subs),aj blob]:=by rw[dK]
def XJ(m:Nat)(l:List (Int×aO)):Prop:=∀p∈l,gV m p.2
variable{m w:Nat}
theorem aeF(hm:m<=1000000)(hw:m+20<w)(L:List (Int×aO))(hL:L.length<=m)(hS:XJ m L)(o:Int)(a b c e f g:Value)(i0:List aI):
 lp Um (FA w) w (aC fH L) L.length 0 o a b c (az i0) e f g=some (true,o,a,b,c,az (yJ i0 L),e,f,g):=by
 refine oh (ev:=λi s (k:Dx)=>k (aC fH L) L.length i o a b c (az s) e f g) (Inv:=λi s=>yJ s (L.drop i)=yJ i0 L) L.length i0 (by rw[eL]) ?_ ?_ (by omega)
 ·intro i g s hi hI;have hsm:=hS _ (dL hi);rw[dG hi] at hI;have e1:((i:Int)<(L.length:Int)):=by omega
  have sg:∀(p:Int×aO)(r:List Value),fH p++r=.int .i64 p.1 ::dT p.2 ::dS p.2 ::dB p.2 ::r:=by intro p r;unfold fH;rw[pM];rfl
  obtain⟨⟨tags,subs,blob⟩,hd⟩:∃d,L[i].2 =d:=⟨_,rfl⟩;have hsm2:tags.length<=m/\cm subs<=m/\blob.length<=m/\(∀t∈tags,t.data.length<=m)/\gW m subs:=by rw[hd] at hsm;exact hsm
  refine⟨tags,?_,?_⟩
  ·rw[<-hI,show L[i]=(L[i].1,L[i].2) from rfl,hd];rfl
  ·unfold FA Cg;simp only[bc,e1,ct];rw[bW uP hi,sg];simp only[bN];rw[hd,show dT (.mk tags subs blob)=az tags from rfl,sy tags (by omega) (λt ht=>by have:=hsm2.2.2.2.1 t ht;omega) (by omega)];simp only[cR];rw[aN (by omega) (by omega)];rfl
 ·intro g s hI;rw[s8,yJ] at hI;unfold FA Cg;simp;rw[hI]
theorem agp(A:Hand w)(hm:m<=1000000)(hw:m+20<w){r r':di}{d:aO}(hd:gV m d)(hr:∀tags subs blob,d=.mk tags subs blob->fD tags=true)(h:qW r d=some r'):
 Ha w (dT d) (dS d) (dB d) r.order (az r.cP) (az r.bR) (az r.bZ) (az r.bp) (az r.first) (aj r.bQ) (aj r.dq)=some (true,r'.order,az r'.cP,az r'.bR,az r'.bZ,az r'.bp,az r'.first,aj r'.bQ,aj r'.dq):=by
 obtain⟨tags,subs,blob⟩:=d;have hsm2:tags.length<=m/\cm subs<=m/\blob.length<=m/\(∀t∈tags,t.data.length<=m)/\gW m subs:=hd;have hrt:=hr tags subs blob rfl;have hsl:=uQ subs;have hdrop:=A.drop tags 37500 hrt (by omega) (by omega) (λt ht=>by have:=hsm2.2.2.2.1 t ht;omega);have hlp:=aeF hm hw (aL subs) (by omega) (λp hp=>xG hsm2.2.2.2.2 p hp) r.order (az r.cP) (az (oQ tags 37500)) (az r.bZ) (az r.first);unfold Ha Cg;rw[show dT (.mk tags subs blob)=az tags from rfl,show dS (.mk tags subs blob)=ae (cm subs) (gd subs) from rfl,(afU tags 37500 hrt (by omega) (by omega) (λt ht=>by have:=hsm2.2.2.2.1 t ht;omega)),Da];simp only[qW,Su] at h;cases hf:iI tags 37500 with
 |some v=>
  rw[hf] at h;simp only at h;split at h
  case isFalse=>cases h
  rename_i h7;injection h with h;subst h;simp;rw[h7,hdrop];exact hlp _ _ _
 |none=>rw[hf] at h;injection h with h;subst h;rw[hdrop];simp only[Zm];exact hlp _ _ _
theorem abz(hm:m<=1000000)(hw:m+20<w)(ds:List aO)(hl:ds.length<=m)(hS:nK m ds)(r x:di)(hx:vX r ds=x)(hc:hU x=0)(hE:jL x m)(A B C D E F G:Value):
 lp Tf (Fa w) w (aC dK ds) ds.length 0 0 A B C D E F G r.order (az r.cP) (az r.bR) (az r.bZ) (az r.bp) (az r.first) (aj r.bQ) (aj r.dq)=some (x.order,az x.cP,az x.bR,az x.bZ,az x.bp,az x.first,aj x.bQ,aj x.dq,0):=by
 refine oh (σ:=di) (ev:=λi s (k:Du)=>k (aC dK ds) ds.length i 0 A B C D E F G s.order (az s.cP) (az s.bR) (az s.bZ) (az s.bp) (az s.first) (aj s.bQ) (aj s.dq)) (Inv:=λi s=>vX s (ds.drop i)=x) ds.length r hx ?_ ?_ (by omega)
 ·intro i g s hi hI;have hsm:=hS _ (dL hi);rw[dG hi] at hI;obtain⟨⟨tags,subs,blob⟩,hd⟩:∃d,ds[i]=d:=⟨_,rfl⟩;rw[hd] at hI hsm;have hsm2:tags.length<=m/\cm subs<=m/\blob.length<=m/\(∀t∈tags,t.data.length<=m)/\gW m subs:=hsm;refine⟨_,hI,?_⟩;unfold Fa;simp_all;rw[bW nX hi,hd,Eg];simp;rw[show dT (.mk tags subs blob)=az tags from rfl,show dB (.mk tags subs blob)=aj blob from rfl,sy tags (by omega) (λt ht=>by have:=hsm2.2.2.2.1 t ht;omega) (by omega),rV w blob (by omega),aN (by omega) (by omega)];rfl
 ·intro g s hI;rw[s8,vX] at hI;subst hI;unfold Fa;simp;rw[VV hE (by omega) hw,hc];rfl
def rA(r:di):List (Int×aO)->Option di
 |[]=>some r
 |(tag,d)::s=>if tag=34853 then rA {r with bZ:=(match d with| .mk tags _ _=>tags)} s else(qW r d).bind λr=>rA r s
theorem OW:∀(s:cF)(r:di),rq r s=rA r (aL s)
 | .nil,r=>rfl
 | .cons tag (.mk tags a b) s,r=>by
  show(if tag=34853 then rq {r with bZ:=tags} s else(qW r (.mk tags a b)).bind λr=>rq r s)=(if tag=34853 then rA {r with bZ:=tags} (aL s) else(qW r (.mk tags a b)).bind λr=>rA r (aL s))
  split
  ·exact OW s _
  ·congr 1
   funext r
   exact OW s r
theorem ah1(r:di)(tag:Int)(d:aO)(s:List (Int×aO)):rA r ((tag,d)::s)=if tag=34853 then rA {r with bZ:=(match d with| .mk tags _ _=>tags)} s else(qW r d).bind λr=>rA r s:=by rfl
def DE(d:aO):Prop:=∀tags subs blob,d=.mk tags subs blob->fD tags=true
variable{ds:List aO} {o:Int} {x:di}
theorem agb(A:Hand w)(hm:m<=1000000)(hw:m+20<w)(h200:uK w o (dM ds) (cw da)=some 0)(h:yS ⟨o,ds⟩=some x)(hE:jL x m)(hl:ds.length<=m)(hS:nK m ds)(hr:∀d∈ds,∀tags subs blob,d=.mk tags subs blob->∀p∈aL subs,DE p.2):
 GY w o (dM ds)=some (x.order,az x.cP,az x.bR,az x.bZ,az x.bp,az x.first,aj x.bQ,aj x.dq,0):=by
 unfold yS at h;rcases ds with _|⟨⟨tags,subs,blob⟩,ds⟩
 ·cases h
 simp only at h;rw[OW] at h;obtain⟨r1,hr1,h⟩:=Option.bind_eq_some_iff.1 h;split at h
 case isFalse=>cases h
 rename_i hc;injection h with h;have hsm2:tags.length<=m/\cm subs<=m/\blob.length<=m/\(∀t∈tags,t.data.length<=m)/\gW m subs:=hS _ mC;have hrs:=hr _ mC tags subs blob rfl;have hsl:=uQ subs;rw[cQ] at hl;have e0:∀(K:List Value->Option (Int×Value×Value×Value×Value×Value×Value×Value×Int)),aQ 3 0 (dM (.mk tags subs blob::ds)) K=K (dK (.mk tags subs blob)++ds.flatMap dK):=λK=>bW nX (m:=0) (by rw[cQ];omega) K
 have d0:∀r:List Value,List.drop 0 (dK (.mk tags subs blob)++r)=az tags::ae (cm subs) (gd subs)::aj blob::r:=by intro r;rw[Ef];rfl
 have d1:∀r:List Value,List.drop 1 (dK (.mk tags subs blob)++r)=ae (cm subs) (gd subs)::aj blob::r:=by intro r;rw[Ef];rfl
 unfold GY;rw[Nq];simp only[aA];rw[h200];simp only[aA];rw[show(!ak 0 0)=false from rfl,aE,e0,d0];simp only[bN];rw[sy tags (by omega) (λt ht=>by have:=hsm2.2.2.2.1 t ht;omega) (by omega)];simp only[aA];rw[e0,d1];simp only[bN];rw[Da,dw];have main:lp Te (E9 w) w (aC fH (aL subs)) (aL subs).length 0 o (dM (.mk tags subs blob::ds)) 0 (ae 0 []) (ae 0 []) (ae 0 []) (ae 0 []) (ae 0 []) (ae 0 []) (ae 0 []) o (az tags) (az []) (az []) (az []) (az []) (aj []) (aj [])=some (x.order,az x.cP,az x.bR,az x.bZ,az x.bp,az x.first,aj x.bQ,aj x.dq,0):=by
  refine oh (σ:=di) (ev:=λi s (k:Dt)=>k (aC fH (aL subs)) (aL subs).length i o (dM (.mk tags subs blob::ds)) 0 (ae 0 []) (ae 0 []) (ae 0 []) (ae 0 []) (ae 0 []) (ae 0 []) (ae 0 []) s.order (az s.cP) (az s.bR) (az s.bZ) (az s.bp) (az s.first) (aj s.bQ) (aj s.dq)) (Inv:=λi s=>rA s ((aL subs).drop i)=some r1) (aL subs).length ⟨o,tags,[],[],[],[],[],[]⟩ ?_ ?_ ?_ (by omega)
  ·exact hr1
  ·intro i g s hi hI;have hmem:=dL hi;have hsm:=xG hsm2.2.2.2.2 _ hmem;have hri:=hrs _ hmem;rw[dG hi] at hI;have e1:((i:Int)<((aL subs).length:Int)):=by omega
   have sg:∀(p:Int×aO)(r:List Value),fH p++r=.int .i64 p.1 ::dT p.2 ::dS p.2 ::dB p.2 ::r:=by intro p r;unfold fH;rw[pM];rfl
   rw[ah1] at hI;unfold E9;simp_all;rw[bW uP hi,sg];simp;by_cases hg:(aL subs)[i].1 =34853
   ·rw[ar hg] at hI;simp_all;refine⟨_,hI,?_⟩;obtain⟨⟨tags2,subs2,blob2⟩,hd⟩:∃d,(aL subs)[i].2 =d:=⟨_,rfl⟩;rw[hd] at hsm⊢;have hsm3:tags2.length<=m/\cm subs2<=m/\blob2.length<=m/\(∀t∈tags2,t.data.length<=m)/\gW m subs2:=hsm;rw[show dT (.mk tags2 subs2 blob2)=az tags2 from rfl,sy tags2 (by omega) (λt ht=>by have:=hsm3.2.2.2.1 t ht;omega) (by omega)];rw[aN (by omega) (by omega)];rfl
   ·rw[ai hg] at hI;simp_all;obtain⟨s2,hs2,hI⟩:=Option.bind_eq_some_iff.1 hI;refine⟨s2,hI,?_⟩;rw[agp A hm hw hsm hri hs2];simp only[aA];rw[aN (by omega) (by omega)];rfl
  ·intro g s hI;rw[s8,rA] at hI;injection hI with hI;subst hI;have e1:¬(((aL subs).length:Int)<((aL subs).length:Int)):=by omega
   unfold E9;simp;rw[show dM (.mk tags subs blob::ds)=aC dK (.mk tags subs blob::ds) from rfl,dw];have e2:1<=(aO.mk tags subs blob::ds).length:=by rw[cQ];omega
   simp only[e2];rw[yd nX _ (aB _),List.drop_succ_cons,eL,gh (by rw[cQ];omega),dw];exact abz hm hw ds (by omega) (λd hd=>hS d (gL _ hd)) s x h (by rw[<-h];exact hc) hE _ _ _ _ _ _ _
 exact main
theorem afR(A:Hand w)(hm:m<=1000000)(hw:m+20<w){b:List UInt8}{S:List bm}(h117:Cs w (aj b) (cw da)=some (o,dM ds,aC cd S,0))(h200:uK w o (dM ds) (cw da)=some 0)(h:yS ⟨o,ds⟩=some x)(hE:jL x m)(hl:ds.length<=m)(hS:nK m ds)(hr:∀d∈ds,∀tags subs blob,d=.mk tags subs blob->∀p∈aL subs,DE p.2):
 Cr w (aj b)=some (x.order,az x.cP,az x.bR,az x.bZ,az x.bp,az x.first,aj x.bQ,aj x.dq,0):=by
 unfold Cr Gr;rw[Nq];simp;rw[h117];simp;rw[agb A hm hw h200 h hE hl hS hr];rfl
end
section
set_option maxRecDepth 100000
theorem UY(l:List aI):rowOf (az l)=some (l.length,l.flatMap cx):=rfl
theorem VQ(w:Nat)(a b:Int)(d:List UInt8)(hd:d.length<=1000000000):uJ w a b (aj d)=some (a,b,aj d):=by unfold uJ;rw[rV w _ hd];rfl
theorem Ly(w:Nat):∀l:List aI,(∀t∈l,t.data.length<=1000000000)->nb (uJ w) (l.flatMap cx)=some (l.flatMap cx)
 |[],_=>rfl
 |t::l,h=>by have e:(t::l).flatMap cx=.int .i64 t.tag::.int .i64 t.ty::.int .i64 t.au::aj t.data::l.flatMap cx:=rfl;rw[e];unfold nb;rw[show bB [aj t.data]=true from rfl,ay,VQ w _ _ _ (h t (by simp)),aA,Ly w l λx hx=>h x (by grind),aA]
theorem SI:∀(l:List aI)(i:Nat)(p:aI->Bool),(∀x (h:x<l.length),x<i->p l[x]=true)->(∀x (h:x<l.length),i<=x->p l[x]=false)->l.filter p=l.take i
 |[],_,_,_,_=>by simp
 |a::l,0,p,h1,h2=>by rw[rH,List.filter_eq_nil_iff];intro x hx;obtain⟨k,hk,rfl⟩:=List.mem_iff_getElem.1 hx;simp_all
 |a::l,i+1,p,h1,h2=>by have h0:=h1 0 (by simp) (by simp);simp at h0;rw[jK,ar h0,nA,SI l i p (λx h q=>by have:=h1 (x+1) (by grind) (by omega);simpa using this) λx h q=>by have:=h2 (x+1) (by simp;omega) (by omega);simpa using this]
theorem J9:∀(l:List aI)(i:Nat)(p:aI->Bool),(∀x (h:x<l.length),x<i->p l[x]=false)->(∀x (h:x<l.length),i<=x->p l[x]=true)->l.filter p=l.drop i
 |[],_,_,_,_=>by simp
 |a::l,0,p,h1,h2=>by rw[eL,List.filter_eq_self];intro x hx;obtain⟨k,hk,rfl⟩:=List.mem_iff_getElem.1 hx;simp_all
 |a::l,i+1,p,h1,h2=>by have h0:=h1 0 (by simp) (by simp);simp at h0;rw[jK,ai (by simp[h0]),List.drop_succ_cons,J9 l i p (λx h q=>by have:=h1 (x+1) (by grind) (by omega);simpa using this) λx h q=>by have:=h2 (x+1) (by simp;omega) (by omega);simpa using this]
variable{w:Nat}
theorem Y4(l:List aI)(t:Int)(hr:fD l=true)(hl:l.length<2^20)(hw:l.length+2<w)(hd:∀t∈l,t.data.length<=1000000000):zM w (az l) t=some (az (oQ l t)):=by
 obtain⟨i,a,b,c,h1,h2⟩:=Nz l t hr (by omega) hw;unfold zM yi;rw[UY,aA,(eJ gI l),kV,show Nat.blt l.length 1000000000=true by simp;omega];rw[show(true&&true)=true from rfl,Ly w l hd,aA,show ae l.length (l.flatMap cx)=az l from rfl,a,aA];cases hf:iI l t with
 |none=>
  have:oQ l t=l:=by unfold oQ;rw[List.filter_eq_self];intro x hx;have:=List.find?_eq_none.1 (hf) x hx;simpa using this
  rw[this];rfl
 |some x=>
  obtain⟨hi,hx⟩:=c (by rw[hf];rfl);have ht:l[i].tag=t:=by have h0:=List.find?_some (hf);rw[hf] at hx;rw[<-bu hx];simpa using h0
  have e1:(decide ((0:Int)<=((i:Nat):Int))&&Nat.blt i l.length)=true:=by simp;omega
  have hdr:oQ l t=l.take i++l.drop (i+1):=by
   unfold oQ
   conv=>lhs;rw[<-mD i l,dG hi]
   rw[List.filter_append,jK,ai (by simp[ht])]
   congr 1
   ·rw[List.filter_eq_self];intro x hx;obtain⟨k,hk,rfl⟩:=List.mem_iff_getElem.1 hx;simp at hk;have:=h1 k (by omega) (by omega);simp;omega
   ·rw[List.filter_eq_self];intro x hx;obtain⟨k,hk,rfl⟩:=List.mem_iff_getElem.1 hx;simp at hk;have:=wH hr (show i<i+1+k by omega) (show i+1+k<l.length by omega);simp;omega
  simp only[Option.isSome_some,ay,e1,mB];rw[pR gI,yx gI,yx gI,gh (l:=l.drop (i+1)) (by simp),hdr,<-gq];unfold az aC;rw[show(l.take i++l.drop (i+1)).length=l.length -1 by simp;omega]
theorem afF(l:List aI)(x:aI)(hr:fD l=true)(hl:l.length<2^20)(hw:l.length+2<w)(hd:∀t∈l,t.data.length<=1000000000)(hx:x.data.length<=1000000000):CD w (az l) x.tag x.ty x.au (aj x.data)=some (az (jG l x)):=by
 obtain⟨i,a,b,c,h1,h2⟩:=Nz l x.tag hr (by omega) hw;unfold CD zr;rw[UY,aA,(eJ gI l),kV,show Nat.blt l.length 1000000000=true by simp;omega,show bB [aj x.data]=true from rfl];rw[show(true&&true&&true)=true from rfl,ay,Ly w l hd,VQ w _ _ _ hx,aA,show ae l.length (l.flatMap cx)=az l from rfl,a];have hlt:l.filter (λy=>decide (y.tag<x.tag))=l.take i:=SI l i _ (λk h q=>by have:=h1 k h q;simpa using this) λk h q=>by have:=h2 k h q;simp;omega
 cases hf:iI l x.tag with
 |none=>
  have ca:∀k (h:k<l.length),l[k].tag≠x.tag:=λk h=>by have:=List.find?_eq_none.1 (hf) l[k] (dL h);simpa using this
  simp_all;rw[pR gI,yx gI];unfold jG az aC;rw[hlt,(J9 l i _ (λk h q=>by have:=h1 k h q;simp;omega) λk h q=>by have:=h2 k h q;have:=ca k h;simp;omega),gq,show(l.take i++x::l.drop i).length=l.length+1 by simp;omega];rfl
 |some y=>
  obtain⟨hi,hy⟩:=c (by rw[hf];rfl);have ht:l[i].tag=x.tag:=by rw[hf] at hy;rw[<-bu hy];simpa using(List.find?_some (hf))
  have hgt:l.filter (λy=>decide (x.tag<y.tag))=l.drop (i+1):=J9 l (i+1) _ (λk h q=>by
   by_cases hk:k=i
   ·subst hk;simp;omega
   ·have:=h1 k h (by omega);simp;omega) λk h q=>by have:=wH hr (show i<k by omega) h;simp;omega
  simp_all;rw[pR gI,yx gI];unfold jG az aC;rw[hlt,hgt,gq,show(l.take i++x::l.drop (i+1)).length=l.length by simp;omega];rfl
end
section
set_option maxRecDepth 100000
def lH(n:Int):Bool:=decide (0<=n/\n<=4294967295)
theorem NN(w:Nat)(n:Int):zK w n=some (lH n):=by
 unfold zK lH;by_cases h1:n<0
 ·have:¬(0<=n/\n<=4294967295):=by omega
  simp_all
 ·by_cases h2:4294967295<n
  ·simp_all
  ·have:(0<=n/\n<=4294967295):=by omega
   simp[h2,this]
theorem VU(w:Nat)(a b:Int):G3 w a b=some (if lH a=true/\lH b=true/\lH (a+b)=true then(a+b,true) else(0,false)):=by
 unfold G3;rw[NN,NN];by_cases ha:lH a=true
 case neg=>simp[ha]
 by_cases hb:lH b=true
 case neg=>simp_all
 have a1:0<=a/\a<=4294967295:=by simpa[lH] using ha
 have b1:0<=b/\b<=4294967295:=by simpa[lH] using hb
 simp_all;rw[aN (by omega) (by omega),NN];cases hc:lH (a+b)<;>simp
theorem GH(w:Nat)(b:Bool):sM w b=some (if b=true then 0 else-1):=by cases b<;>rfl
def xX(n:Nat):Nat:=(n+65518)/65519
theorem Wk(w n:Nat)(h:n<2^60):CU w (n:Int)=some (xX n:Int):=by
 unfold CU xX;simp only[bc,qI,iV,cR];by_cases h1:(n:Int)<1
 ·rw[show n=0 by omega];rfl
 rw[ai h1,aN (n:=(n:Int) -1) (by omega) (by omega),show(n:Int) -1=((n -1:Nat):Int) by omega];have e:(((n -1:Nat):Int)).tdiv 65519=(((n -1)/65519:Nat):Int):=rfl;rw[e];have:(n+65518)/65519=(n -1)/65519+1:=by omega
 rw[this,aN (n:=(((n -1)/65519:Nat):Int)) (by omega) (by omega),aN (by omega) (by omega)];rfl
end
section
set_option maxRecDepth 100000
theorem Qi(l:List UInt8):bd (l.map λb=>(b.toNat:Int))=l.map aX:=by unfold bd;rw[List.map_map];rfl
variable{w:Nat}
theorem YS(b:List UInt8)(hb:b.length<=65519):CQ w (aj b)=some (aC iR (fJ b),0):=by
 unfold CQ yc;rw[vJ,eD,Wk w _ (by omega),aA];cases b with
 |nil=>rfl
 |cons a b=>
  rw[(show xX (a::b).length=1 from by unfold xX;simp_all;omega),show(ak ((1:Nat):Int) 1&&Nat.ble (a::b).length 65519)=true by rw[show Nat.ble (a::b).length 65519=true by rw[kW];exact hb];rfl];have e:bd (lZ++(a::b).map λb=>(b.toNat:Int))=(fm++1::1::(a::b)).map aX:=by rw[<-Qi];rfl
  rw[e,(show fJ (a::b)=[fm++1::1::(a::b)] from by unfold fJ;rw[ai (by simp)])];unfold aC iR aj aC;rw[ff,(show∀l:List UInt8,l.flatMap pH=l.map aX fromλl=>by induction l with|nil=>rfl|cons x l ih=>rw[ff,ih];rfl),(show(fm++1::1::(a::b)).length=14+(a::b).length from by simp[fm];omega)]
  rfl
theorem Yo(a b c d:List UInt8)(h0:0<a.length)(h:a.length+b.length+c.length+d.length<2^29):uF w (aj a) (aj b) (aj c) (d.map aX)=some ((d++(a++(b++c))).map aX):=by
 unfold uF;rw[Pc,aA,vJ,vJ,vJ,<-jZ,<-jZ,<-jZ,Qi];have e:(Nat.blt 0 (d++(a++(b++c))).length&&Nat.ble (d++(a++(b++c))).length 1000000000)=true:=by simp;omega
 grind
end
section
set_option maxRecDepth 100000
theorem aaF(t:Int):(kindOf t).1 <=8:=by
 unfold kindOf
 repeat' split
 all_goals decide
theorem abe{ty au:Int}{l:List UInt8}(h:dW ty au l=true):l.length<=524288:=by obtain⟨h0,h1,h2,h3⟩:=wu h;have:au*(kindOf ty).1 <=au*8:=Int.mul_le_mul_of_nonneg_left (aaF ty) (by omega);omega
variable{w:Nat}
theorem abh(l:List aI)(h:∀t∈l,dW t.ty t.au t.data=true)(hl:l.length<=65535)(hw:65540<=w):nt w (az l)=some false:=by
 have key:Oi w (az l)=some (-1):=by
  refine lD (ev:=λi (g:Value->Int->Int->Option Int)=>g (az l) (l.length:Int) i) l.length ?_ ?_ (by omega)
  ·intro i g hi;simp_all;rw[show az l=aC cx l from rfl,bW gI hi,(show∀(y:aI)(r:List Value),cx y++r=Value.int .i64 y.tag::.int .i64 y.ty::.int .i64 y.au::aj y.data::r fromλ_ _=>rfl)];simp;have hm:=h l[i] (dL hi);unfold Oa;rw[zI w _ _ _ (by have:=abe hm;omega),hm,aN (by omega) (by omega)];rfl
  ·intro g;simp
 unfold nt;rw[key];rfl
theorem Mh(d:aO):(eY (dT d)&&(eY (dS d)&&eY (dB d)))=true:=by cases d;rfl
theorem abd(hw:65540<=w){sh:List aV}{s:Nat}{d:aO}(h:cK sh s d=true):mi (jT w) (nt w) (dT d) (dS d) (dB d)=true:=by
 unfold mi;rw[Mh];obtain⟨tags,subs,blob⟩:=d;unfold cK at h;simp_all;obtain⟨⟨h1,h2⟩,h3,_⟩:=h;have hn:bF (.mk tags subs blob)=tags.length+cm subs+(if blob.length=0 then 0 else 2):=rfl;have hT:∀t∈tags,dW t.ty t.au t.data=true:=λt ht=>by unfold jI at h3;simp_all
 rw[show dT (.mk tags subs blob)=az tags from rfl,show dS (.mk tags subs blob)=ae (cm subs) (gd subs) from rfl,show dB (.mk tags subs blob)=aj blob from rfl,G7 w tags subs blob (by omega),abh tags hT (by omega) hw]
 grind
mutual
theorem SP{w:Nat}(hw:65540<=w){sh:List aV}:∀(d:aO)(s f:Nat),cK sh s d=true->fA d<=f->lE (mi (jT w) (nt w)) f (dT d) (dS d) (dB d)=true
 | .mk tags subs blob,s,0,h,hf=>by simp[fA] at hf
 | .mk tags subs blob,s,f+1,h,hf=>by unfold lE;rw[abd hw h];unfold cK at h;simp at h;obtain⟨⟨h1,h2⟩,_,_,_,h5⟩:=h;have hn:bF (.mk tags subs blob)=tags.length+cm subs+(if blob.length=0 then 0 else 2):=rfl;show(Nat.beq (gd subs).length (cm subs*4)&&Nat.blt (cm subs) 1000000000&&wq (lE (mi (jT w) (nt w)) f) (gd subs))=true;rw[WQ,kV,show Nat.blt (cm subs) 1000000000=true by simp;omega,SR hw subs _ f h5 (by simp only[fA] at hf;omega)];rfl
theorem SR{w:Nat}(hw:65540<=w){sh:List aV}:∀(s:cF)(S:aV)(f:Nat),iB sh S s=true->jw s<=f->wq (lE (mi (jT w) (nt w)) f) (gd s)=true
 | .nil,_,_,_,_=>rfl
 | .cons tag d r,S,f,h,hf=>by unfold iB at h;simp_all;unfold jw at hf;rw[show gd (.cons tag d r)=.int .i64 tag::(dK d++gd r) from rfl,pM];show((eY (dT d)&&(eY (dS d)&&eY (dB d)))&&lE (mi (jT w) (nt w)) f (dT d) (dS d) (dB d)&&wq (lE (mi (jT w) (nt w)) f) (gd r))=true;rw[Mh,SP hw d _ f h.2.1 (by omega),SR hw r S f h.2.2 (by omega)];rfl
end
theorem abf(hw:65540<=w)(o:Int)(ds:List aO)(hn:ds.length<1000000000)(h:∀d∈ds,∃(sh:List aV)(s:Nat),cK sh s d=true)(hd:kj ds<=w):wU w o (dM ds)=some true:=by
 have hC:∀ds:List aO,(∀d∈ds,∃(sh:List aV)(s:Nat),cK sh s d=true)->kj ds<=w->sb (lE (mi (jT w) (nt w)) w) (ds.flatMap dK)=true:=by
  intro ds;induction ds with
  |nil=>intro _ _;rfl
  |cons d ds ih=>intro h hd;obtain⟨sh,s,h0⟩:=h d (by simp);unfold kj at hd;rw[ff,pM];show((eY (dT d)&&(eY (dS d)&&eY (dB d)))&&lE (mi (jT w) (nt w)) w (dT d) (dS d) (dB d)&&sb (lE (mi (jT w) (nt w)) w) (ds.flatMap dK))=true;rw[Mh,SP hw d s w h0 (by omega),ih (λx hx=>h x (by grind)) (by omega)];rfl
 show cond (Nat.beq (ds.flatMap dK).length (ds.length*3)&&(Nat.blt ds.length 1000000000&&sb (lE (mi (jT w) (nt w)) w) (ds.flatMap dK))) (some true) none=some true;rw[(eJ nX ds),kV,show Nat.blt ds.length 1000000000=true by simp;omega,hC ds h hd];rfl
theorem Z0(hw:65540<=w):Hand w:=
 ⟨λo ds hn h hd=>abf hw o ds hn h hd,λl x h1 h2 h3 h4 h5=>afF l x h1 h2 h3 h4 h5,λl t h1 h2 h3 h4=>Y4 l t h1 h2 h3 h4,λb h=>YS b h,λa b c d h0 h=>Yo a b c d h0 h⟩
end
section
open Go.Shelf Go.RowKit Go.Lib Go.ChangeShapes Go.WideShapes Go.Deep
section
variable{H:Type} {enc:TypeId×Value->H} {P:Program} {w:World} {base:Nat} {spare:Nat->Bool} {held:Bool}
variable{y:Value}
theorem Yp{b i:Nat}(h:w.cell? ⟨b,i,none⟩=some y):fc w b i=some y:=by
 unfold fc;split
 ·rename_i es c q;unfold World.cell? at h;simp only[q] at h;cases h
 ·exact h
theorem Yr{a:Addr}(h:w.cell? a=some y):a.spot=none:=by
 unfold World.cell? at h;split at h
 ·split at h
  ·cases h
  ·rename_i q;cases e:a.spot with
   |none=>rfl
   |some _=>rw[e] at q;exact absurd rfl q
 ·cases h
theorem O9{α:Type}{t e:TypeId}{k:Nat}(f:α->List Value)(ht:P.underlying t=some (.slice e))(hk:P.cellsOf e=k)(k0:0<k){fuel:Nat}{cs:List Value}{x:DataW H×List MemPlace}
 (each:∀fuel cs x,DataW.trod enc P w base spare held fuel e cs=some x->∃p:α,aP (λb i=>fc w b i) (f p) cs) (h:DataW.trod enc P w base spare held fuel t cs=some x):
 ∃(l:List α)(v:Value),cs=[v]/\bj (λb i=>fc w b i) (aC f l) v/\l.length<=maxLen:=by
 rcases open_slice ht h with⟨rfl,_⟩|⟨a,len,cap,m,n,D,Pl,rfl,hb,hl,hm,hmm,hx,hi⟩
 ·exact⟨[],_,rfl,.fN,gZ _⟩
 have hlm:len<=m:=by rw[hmm];split<;>omega
 have key:∀j,j<=len->∃(l:List α)(ys:List Value),l.length=j/\aP (λb i=>fc w b i) (l.flatMap f) ys/\ys.length=j*k/\∀q y,ys[q]? =some y->w.cell? (a.add q)=some y:=by
  intro j;induction j with
  |zero=>intro _;exact⟨[],[],rfl,.nil,by simp,λq y h=>by simp at h⟩
  |succ j ih=>
   intro hj;obtain⟨l,ys,e1,e2,e3,e4⟩:=ih (by omega);obtain⟨cs',hc,htr⟩:=hi j (by omega);obtain⟨p,hp⟩:=each _ _ _ htr;rw[hk] at hc;obtain⟨_,hcl,hat⟩:=World.cells?_some hc;refine⟨l++[p],ys++cs',by simp[e1],?_,by simp[e3,hcl,kb],λq y hq=>?_⟩
   ·rw[gq,ff,nz,eH];exact e2.join hp
   ·rcases dg q ys.length with hlt|hge
    ·rw[uU hlt] at hq;exact e4 q y hq
    ·rw[uV hge] at hq;have hql:=(List.getElem?_eq_some_iff.1 hq).1;have:=hat (q -ys.length) (by omega);rw[hq] at this;rw[<-this,Go.Deep.add_add]
     congr 2
     omega
 obtain⟨l,ys,e1,e2,e3,e4⟩:=key len (aB _);refine⟨l,_,rfl,?_,by omega⟩;by_cases h0:len=0
 ·have:l=[]:=jJ (by omega);subst this;subst h0;exact .fN
 ·obtain⟨y0,hy0⟩:∃y,ys[0]? =some y:=⟨_,dD (by rw[e3];exact Nat.mul_pos (by omega) k0)⟩;obtain⟨b,o,sp⟩:=a;have hs:sp=none:=by
   have:=Yr (e4 0 y0 hy0);unfold Addr.add at this;first|exact this|(split at this<;>exact this)|simpa using this
  subst hs;subst e1;refine .gH e2 (λi y hy=>Yp ?_) rfl hl;have:=e4 i y hy;rwa[Addr.add_lit] at this
end
end
section
set_option maxRecDepth 100000
theorem Wi(w:Nat)(b:List UInt8):CS w (aj b)=some (mR.isPrefixOf b):=by unfold CS;have:ae 6 (List.drop 0 [Value.int IntKind.u8 69,Value.int IntKind.u8 120,Value.int IntKind.u8 105,Value.int IntKind.u8 102,Value.int IntKind.u8 0,Value.int IntKind.u8 0])=aj mR:=rfl;rw[this,Nb];rfl
theorem Nd(w:Nat)(b:List UInt8):Cq w (aj b)=some (fm.isPrefixOf b):=by unfold Cq;have:ae 12 (List.drop 0 [Value.int IntKind.u8 73,Value.int IntKind.u8 67,Value.int IntKind.u8 67,Value.int IntKind.u8 95,Value.int IntKind.u8 80,Value.int IntKind.u8 82,Value.int IntKind.u8 79,Value.int IntKind.u8 70,Value.int IntKind.u8 73,Value.int IntKind.u8 76,Value.int IntKind.u8 69,Value.int IntKind.u8 0])=aj fm:=rfl;rw[this,Nb];rfl
variable{b:List UInt8} {w:Nat}
theorem ahn{k:List UInt8}(hk:b=mR++k)(hb:b.length<=65533){o:Int}{a1 a2 a3 a4 a5 a6 a7:Value}(h:Cr w (aj k)=some (o,a1,a2,a3,a4,a5,a6,a7,0)):zX w (aj b)=some (o,a1,a2,a3,a4,a5,a6,a7,0):=by
 have hp:mR.isPrefixOf b=true:=by rw[hk,uW];exact List.prefix_append _ _
 have hl:6<=b.length:=by rw[hk,aR];have:mR.length=6:=rfl;omega
 have e1:¬((65533:Int)<(b.length:Int)):=by omega
 have e2:¬((b.length:Int)<(6:Int)):=by omega
 unfold zX Nf Ng Gr;rw[dU];simp[e1];simp[e2];rw[Wi,hp];simp[hl];rw[pL _ (aB _),gh (by rw[dZ];omega),show b.drop 6=k by rw[hk];rfl,h];rfl
theorem afS{c:List UInt8}(h1:1<=c.length)(h2:c.length<=65519):GD w (aj (fm++1::1::c)) ((0:Nat):Int) 1=some true:=by
 have hp:fm.isPrefixOf (fm++1::1::c)=true:=by rw[uW];exact List.prefix_append _ _
 have hl:(fm++1::1::c).length=c.length+14:=by rw[aR];show 12+_=_;simp;omega
 have i12:(fm++1::1::c)[12]'(by omega)=1:=rfl
 have i13:(fm++1::1::c)[13]'(by omega)=1:=rfl
 unfold GD;rw[dU,Nd,hp];simp only[aA];rw[pV (by omega:12<_),i12];unfold aX;simp only[bN,cH];rw[show ak (ah IntKind.i64 ((1:UInt8).toNat:Int)) (ah IntKind.i64 (Int.add ((0:Nat):Int) 1))=true from rfl];rw[pV (by omega:13<_),i13];unfold aX;simp only[bN,cH];rw[show ak (ah IntKind.i64 ((1:UInt8).toNat:Int)) 1=true from rfl];simp only[cL];rw[hl,iV,cu,aN (by omega) (by omega),show((c.length+14:Nat):Int) -14=(c.length:Int) by omega];simp only[cD,bc];by_cases h:(c.length:Int)=65519
 ·simp[h]
 ·have e1:¬((c.length:Int)<1):=by omega
  have e3:(((0:Nat):Int)=ah IntKind.i64 (Int.sub 1 1)):=rfl;simp only[h,e1,(show((c.length:Int)<65519) from by omega),cy,bn,fu,ay,aE];rw[fS e3,ay]
theorem aho(hw:20<w)(hb:b.length<=65519):Ia w (aC iR (fJ b))=some (aj b,0):=by
 have hbl:∀l:List (List UInt8),∀K:Nat->Option (Value×Int),ax (aC iR l) K=K l.length:=λl K=>dw iR l K;unfold Ia fJ;by_cases h0:b.length=0
 ·rw[ar h0,hbl,hbl,ef _ _ (by omega)];have:b=[]:=qu.1 h0;subst this;rfl
 ·rw[ai h0,hbl,hbl,ef _ _ (by omega)];have x0:∀(K:List Value->Option (Value×Int)),aQ 1 0 (aC iR [fm++1::1::b]) K=K (iR (fm++1::1::b)++([].flatMap iR)):=λK=>bW (k:=1) (λ_=>rfl) (m:=0) (by show 0<1;omega) K;have hl:(fm++1::1::b).length=b.length+14:=by rw[aR];show 12+_=_;simp;omega
  have e1:¬((Int.ofNat (fm++1::1::b).length)<14):=by rw[cu];omega
  have e14:14<=(fm++1::1::b).length:=by omega
  rw[show(0:Int)=((0:Nat):Int) from rfl,ct,x0];rw[show iR (fm++1::1::b)++([].flatMap iR)=[aj (fm++1::1::b)] from rfl];simp only[bN];rw[dU];simp only[bc,e1];rw[hbl,show Int.ofNat [fm++1::1::b].length=1 from rfl,afS (by omega) hb];rw[dU];simp only[gu,e14,bn];rw[pL _ (aB _),gh (by rw[dZ];omega),show(fm++1::1::b).drop 14=b from rfl,ij,iH,gM];have hr1:aK b.length=true:=by simp;omega
  rw[hr1];rw[show ah IntKind.i64 (Int.add ((0:Nat):Int) 1)=1 from rfl,ef _ _ (by omega)];simp;rw[nV]
def Af(m:Int)(p:List UInt8->Bool):List bE->Bool
 |[]=>false
 |s::_=>decide (s.bX=m)&&p s.data
variable{β:Type}
theorem oA(s:bE)(r:List bE)(K:List Value->Option β):aQ 3 0 (dC (s::r)) K=K (cN s++r.flatMap cN):=bW ja (by simp) K
theorem Gx(s:bE)(r:List bE)(K:Value->Option β):ib 3 1 (s::r).length (dC (s::r)) K=K (dC r):=by rw[show dC (s::r)=aC cN (s::r) from rfl,yd ja _ (aB _),gh (by simp)];rfl
theorem sG(l:List bE)(K:Nat->Option β):ax (dC l) K=K l.length:=dw cN l K
variable{m:Int} {r:List bE} {s:bE}
theorem ahi(h1:s.bX=m)(h2:mR.isPrefixOf s.data=true)(x2:Int)(x3 x4 x5 x6 x7 x8 x9 x10 x11 x12:Value)(x13 x14:Int):H8 w m (dC (s::r)) x2 x3 x4 x5 x6 x7 x8 x9 x10 x11 x12 x13 x14=some (aj s.data,true,dC r,x2,x3,x4,x5,x6,x7,x8,x9,x10,x11,x12,x13,x14):=by
 have e1:ak (Int.ofNat (s::r).length) 0=false:=by rw[cD,fI,cu,cQ];omega
 have e2:1<=(s::r).length:=by rw[cQ];omega
 have c2:∀q:List Value,cN s++q=.int .i64 s.bX::aj s.data::aj s.scan::q:=λ_=>rfl;unfold H8 uB;rw[sG,e1,oA,(show∀q:List Value,List.drop 0 (cN s++q)=.int .i64 s.bX::aj s.data::aj s.scan::q fromλ_=>rfl)];simp only[bN,cH];rw[h1,show ak m m=true by rw[cD,bV],oA,(show∀q:List Value,List.drop 1 (cN s++q)=aj s.data::aj s.scan::q fromλ_=>rfl)];simp only[bN];rw[Wi,h2];simp only[aA,cL,aE];rw[oA,c2];simp only[bN,cH];rw[sG];simp only[gu,aB,e2,bn,kU,ay];rw[Gx]
theorem ahf(h1:s.bX=m)(h2:ko.isPrefixOf s.data=true)(x2:Int)(x3 x4 x5 x6 x7 x8 x9 x10 x11 x12:Value)(x13 x14:Int):zU w m (dC (s::r)) x2 x3 x4 x5 x6 x7 x8 x9 x10 x11 x12 x13 x14=some (aj s.data,true,dC r,x2,x3,x4,x5,x6,x7,x8,x9,x10,x11,x12,x13,x14):=by
 have e1:ak (Int.ofNat (s::r).length) 0=false:=by rw[cD,fI,cu,cQ];omega
 have e2:1<=(s::r).length:=by rw[cQ];omega
 have c2:∀q:List Value,cN s++q=.int .i64 s.bX::aj s.data::aj s.scan::q:=λ_=>rfl;unfold zU uB;rw[sG,e1,oA,(show∀q:List Value,List.drop 0 (cN s++q)=.int .i64 s.bX::aj s.data::aj s.scan::q fromλ_=>rfl)];simp only[bN,cH];rw[h1,show ak m m=true by rw[cD,bV],oA,(show∀q:List Value,List.drop 1 (cN s++q)=aj s.data::aj s.scan::q fromλ_=>rfl)];simp only[bN];rw[Oq,h2];simp only[aA,cL,aE];rw[oA,c2];simp only[bN,cH];rw[sG];simp only[gu,aB,e2,bn,kU,ay];rw[Gx]
variable{l:List bE}
theorem ahe(h:Af m (λd=>ko.isPrefixOf d) l=false)(x2:Int)(x3 x4 x5 x6 x7 x8 x9 x10 x11 x12:Value)(x13 x14:Int):zU w m (dC l) x2 x3 x4 x5 x6 x7 x8 x9 x10 x11 x12 x13 x14=some (ae 0 [],false,dC l,x2,x3,x4,x5,x6,x7,x8,x9,x10,x11,x12,x13,x14):=by
 unfold zU uB;rw[sG];cases l with
 |nil=>rfl
 |cons s r=>
  have h:(decide (s.bX=m)&&ko.isPrefixOf s.data)=false:=h;rw[(show ak (Int.ofNat (s::r).length) 0=false from by rw[cD,fI,cu,cQ];omega),aE,oA,(show∀q:List Value,List.drop 0 (cN s++q)=.int .i64 s.bX::aj s.data::aj s.scan::q fromλ_=>rfl)];simp only[bN,cH,cD];by_cases hm:s.bX=m
  ·rw[fS hm,fP] at h;rw[oA,(show∀q:List Value,List.drop 1 (cN s++q)=aj s.data::aj s.scan::q fromλ_=>rfl)];simp;rw[Oq,h];simp
  ·rw[fR hm,fu,ay]
theorem ahh(h1:s.bX=m)(h2:fm.isPrefixOf s.data=true)(x2:Int)(x3 x4 x5 x6 x7 x8 x9 x10 x11 x12:Value)(x13 x14:Int):uO w m (dC (s::r)) x2 x3 x4 x5 x6 x7 x8 x9 x10 x11 x12 x13 x14=some (aj s.data,true,dC r,x2,x3,x4,x5,x6,x7,x8,x9,x10,x11,x12,x13,x14):=by
 have e1:ak (Int.ofNat (s::r).length) 0=false:=by rw[cD,fI,cu,cQ];omega
 have e2:1<=(s::r).length:=by rw[cQ];omega
 have c2:∀q:List Value,cN s++q=.int .i64 s.bX::aj s.data::aj s.scan::q:=λ_=>rfl;unfold uO uB;rw[sG,e1,oA,(show∀q:List Value,List.drop 0 (cN s++q)=.int .i64 s.bX::aj s.data::aj s.scan::q fromλ_=>rfl)];simp only[bN,cH];rw[h1,show ak m m=true by rw[cD,bV],oA,(show∀q:List Value,List.drop 1 (cN s++q)=aj s.data::aj s.scan::q fromλ_=>rfl)];simp only[bN];rw[Nd,h2];simp only[aA,cL,aE];rw[oA,c2];simp only[bN,cH];rw[sG];simp only[gu,aB,e2,bn,kU,ay];rw[Gx]
theorem ahg(h:Af m (λd=>fm.isPrefixOf d) l=false)(x2:Int)(x3 x4 x5 x6 x7 x8 x9 x10 x11 x12:Value)(x13 x14:Int):uO w m (dC l) x2 x3 x4 x5 x6 x7 x8 x9 x10 x11 x12 x13 x14=some (ae 0 [],false,dC l,x2,x3,x4,x5,x6,x7,x8,x9,x10,x11,x12,x13,x14):=by
 unfold uO uB;rw[sG];cases l with
 |nil=>rfl
 |cons s r=>
  have h:(decide (s.bX=m)&&fm.isPrefixOf s.data)=false:=h;rw[(show ak (Int.ofNat (s::r).length) 0=false from by rw[cD,fI,cu,cQ];omega),aE,oA,(show∀q:List Value,List.drop 0 (cN s++q)=.int .i64 s.bX::aj s.data::aj s.scan::q fromλ_=>rfl)];simp only[bN,cH,cD];by_cases hm:s.bX=m
  ·rw[fS hm,fP] at h;rw[oA,(show∀q:List Value,List.drop 1 (cN s++q)=aj s.data::aj s.scan::q fromλ_=>rfl)];simp;rw[Nd,h];simp
  grind
theorem ahl(cs:List (List UInt8))(hcs:∀c∈cs,fm.isPrefixOf c=true)(hl:cs.length<1000)(hw:2000<w)(h:Af 226 (λd=>fm.isPrefixOf d) r=false)(x1:Int)(x2 x3 x4 x5 x6 x7 x8 x9 x10 x11:Value)(x12 x13:Int):
 zV w (dC (cs.map (λc=>⟨226,c,[]⟩)++r)) x1 x2 x3 x4 x5 x6 x7 x8 x9 x10 x11 x12 x13=some (dC r,x1,x2,x3,x4,x5,x6,x7,x8,x9,x10,x11,x12,x13,cs.flatMap iR):=by
 obtain⟨tk,htk⟩:∃tk:List (List UInt8)->Value×Bool×Value×Int×Value×Value×Value×Value×Value×Value×Value×Value×Value×Value×Int×Int,tk=λl=>match l with
  |[]=>(ae 0 [],false,dC r,x1,x2,x3,x4,x5,x6,x7,x8,x9,x10,x11,x12,x13)
  |c::l=>(aj c,true,dC (l.map (λc=>(⟨226,c,[]⟩:bE))++r),x1,x2,x3,x4,x5,x6,x7,x8,x9,x10,x11,x12,x13):=⟨_,rfl⟩
 have ht:∀l:List (List UInt8),(∀c∈l,fm.isPrefixOf c=true)->uO w 226 (dC (l.map (λc=>(⟨226,c,[]⟩:bE))++r)) x1 x2 x3 x4 x5 x6 x7 x8 x9 x10 x11 x12 x13=some (tk l):=by
  intro l hl;rw[htk];cases l with
  |nil=>exact ahg h _ _ _ _ _ _ _ _ _ _ _ _ _
  |cons c l=>have:=ahh (w:=w) (s:=⟨226,c,[]⟩) (r:=l.map (λc=>(⟨226,c,[]⟩:bE))++r) rfl (hl c mC) x1 x2 x3 x4 x5 x6 x7 x8 x9 x10 x11 x12 x13;exact this
 unfold zV;rw[ht cs hcs];refine oh (ev:=λi _ (g:Value->Bool->Value->Int->Value->Value->Value->Value->Value->Value->Value->Value->Value->Value->Int->Int->List Value->Option (Value×Int×Value×Value×Value×Value×Value×Value×Value×Value×Value×Value×Int×Int×List Value))=>g (tk (cs.drop i)).1 (tk (cs.drop i)).2.1 (tk (cs.drop i)).2.2.1 (tk (cs.drop i)).2.2.2.1 (tk (cs.drop i)).2.2.2.2.1 (tk (cs.drop i)).2.2.2.2.2.1 (tk (cs.drop i)).2.2.2.2.2.2.1 (tk (cs.drop i)).2.2.2.2.2.2.2.1 (tk (cs.drop i)).2.2.2.2.2.2.2.2.1 (tk (cs.drop i)).2.2.2.2.2.2.2.2.2.1 (tk (cs.drop i)).2.2.2.2.2.2.2.2.2.2.1 (tk (cs.drop i)).2.2.2.2.2.2.2.2.2.2.2.1 (tk (cs.drop i)).2.2.2.2.2.2.2.2.2.2.2.2.1 (tk (cs.drop i)).2.2.2.2.2.2.2.2.2.2.2.2.2.1 (tk (cs.drop i)).2.2.2.2.2.2.2.2.2.2.2.2.2.2.1 (tk (cs.drop i)).2.2.2.2.2.2.2.2.2.2.2.2.2.2.2 ((cs.take i).flatMap iR)) (Inv:=λ_ _=>True) cs.length () trivial ?_ ?_ (by omega)
 ·intro i g _ hi _;refine⟨(),trivial,?_⟩;have hfl:((cs.take i).flatMap iR).length=i:=by
   rw[eJ (k:=1) (λ_=>rfl),dH,kE (by omega),gM]
  simp only[(show tk (cs.drop i)=(aj cs[i],true,dC ((cs.drop (i+1)).map (λc=>(⟨226,c,[]⟩:bE))++r),x1,x2,x3,x4,x5,x6,x7,x8,x9,x10,x11,x12,x13) from by rw[(dG hi),htk])];rw[hfl,(show aK i=true from by simp;omega),ht _ (λc hc=>hcs c (xr hc)),nB hi,gq];rfl
 ·intro g _ _;simp_all
theorem ahm(r:List bE)(hl:r.length<2^40)(hw:r.length<w)(h:∀s∈r,pC s.bX=false)(x1:Int)(x2 x3 x4 x5 x6 x7 x8 x9 x10 x11:Value)(x12 x13:Int):
 Ow w (dC r) x1 x2 x3 x4 x5 x6 x7 x8 x9 x10 x11 x12 x13=some (false,dC r,x1,x2,x3,x4,x5,x6,x7,x8,x9,x10,x11,x12,x13):=by
 refine lD (ev:=λi (g:Value->Int->Int->Value->Int->Value->Value->Value->Value->Value->Value->Value->Value->Value->Value->Int->Int->Option (Bool×Value×Int×Value×Value×Value×Value×Value×Value×Value×Value×Value×Value×Int×Int))=>g (dC r) r.length i (dC r) x1 x2 x3 x4 x5 x6 x7 x8 x9 x10 x11 x12 x13) r.length ?_ ?_ hw
 ·intro i g hi;have c2:∀(s:bE)(q:List Value),cN s++q=.int .i64 s.bX::aj s.data::aj s.scan::q:=λ_ _=>rfl;have ha:=h _ (dL hi);unfold pC at ha;simp;rw[show dC r=aC cN r from rfl,bW ja hi,aN (by omega) (by omega)];simp_all
 simp
end
section
set_option maxRecDepth 100000
noncomputable def SZ(w:Nat)(bC q:Value)(a1:Int)(a2 a3 a4 a5 a6 a7 a8 a9 a10 a11:Value)(a12 a13:Int):Option (Int×Value×Value×Value×Value×Value×Value×Value×Value×Value×Value×Int×Int×Int):=
 ob (zV w q a1 a2 a3 a4 a5 a6 a7 a8 a9 a10 a11 a12 a13) λx=>Cc w x (bC,true,q,0,q,q,q,q,q,q,q,q,q,q,0,0)
variable{bC core:List UInt8} {m w:Nat} {r:List bE}
theorem abn(A:Hand w){cs:List (List UInt8)}{cV:List UInt8}(hcs:cs=fJ cV)(hicc:cV.length<=65519)
 (hm:m<2^26) (hw:2*m+200000<w) (hr:∀s∈r,pC s.bX=false) (hr1:r.length≠0) (hcore:nW core=true) (hcw:dc (⟨216,[],[]⟩::r)=core) (hmay:mj (⟨216,[],[]⟩::r)=true) (hseg:xF (⟨216,[],[]⟩::r) m) (hlen:r.length<=m) (hcl:core.length<=m)
 {o:Int} {b1 b2 b3 b4 b5 b6 b7:Value} (h60:zX w (aj bC)=some (o,b1,b2,b3,b4,b5,b6,b7,0)) (a1:Int) (a2 a3 a4 a5 a6 a7 a8 a9 a10 a11:Value) (a12 a13:Int):
 SZ w (aj bC) (dC (cs.map (λc=>(⟨226,c,[]⟩:bE))++r)) a1 a2 a3 a4 a5 a6 a7 a8 a9 a10 a11 a12 a13=some (o,b1,b2,b3,b4,b5,b6,b7,aj cV,aj core,a11,a12,a13,0):=by
 have hq:Af 226 (λd=>fm.isPrefixOf d) r=false:=by
  cases r with
  |nil=>rfl
  |cons s r=>have:=hr s mC;unfold pC at this;rw[fI] at this;show(decide (s.bX=226)&&_)=false;rw[fR (by omega)];rfl
 have hpre:∀c∈cs,fm.isPrefixOf c=true:=by
  intro c hc;rw[hcs] at hc;unfold fJ at hc;split at hc
  ·cases hc
  ·rw[kC.1 hc,uW];exact List.prefix_append _ _
 have hchl:cs.length<=1:=by rw[hcs];unfold fJ;split<;>simp
 have e0:ak 0 0=true:=rfl;unfold SZ Cc zm Gl;rw[ahl cs hpre (by omega) (by omega) hq];simp only[aA];rw[ahm r (by omega) (by omega) hr];rw[h60];have hcv:ae ((cs.flatMap iR).length/1) (cs.flatMap iR)=aC iR (fJ cV):=by rw[eJ (k:=1) (λ_=>rfl),mE,gM,hcs];rfl
 rw[hcv,aho (by omega) hicc];simp only[aA,e0,cL,aE];rw[show dC r=aC cN r from rfl,EB ja,eJ ja];have e1:(1+r.length).ble 1=false:=by rw[gu,fI];omega
 have r2:aK r.length=true:=by simp;omega
 have hn:=nextslicecap_le (need:=1+r.length) (old:=1) (by omega);have r3:(Builtin.nextslicecap (1+r.length) 1).ble 5000000000=true:=by rw[kW];omega
 rw[e1,r2,r3];rw[show List.take 3 (List.drop 0 [Value.int IntKind.i64 216,ae 0 [],ae 0 []])++r.flatMap cN=(⟨216,[],[]⟩::r:List bE).flatMap cN from rfl,Vy,Wh A _ (by omega) hseg (by rw[cQ];omega) ⟨by rw[cQ];omega,by omega,by omega⟩ hmay (by rw[hcw];omega),hcw];simp;rw[Oo core (by omega) (by omega),hcore];rfl
variable{s:Nat} {sh:List aV}
theorem ae4{d:aO}(h:cK sh s d=true):DE d:=by
 rintro tags subs blob rfl
 simp only[cK,jI] at h
 grind
theorem ae5{tags:List aI}{subs:cF}{blob:List UInt8}(h:cK sh s (.mk tags subs blob)=true):∀p∈aL subs,DE p.2 :=by simp[cK] at h;intro p hp;exact ae4 (Kh h.2.2.2.2 p hp).2
variable{x:di}
theorem jL.more{k:Nat}(h:jL x m)(hk:m<=k):jL x k:=by obtain⟨⟨r0,r2,r3,r4,r1⟩,d0,d2,d3,d4,d1,hmk,hth⟩:=h;exact⟨⟨by omega,by omega,by omega,by omega,by omega⟩,λt ht=>by have:=d0 t ht;omega,λt ht=>by have:=d2 t ht;omega,λt ht=>by have:=d3 t ht;omega,λt ht=>by have:=d4 t ht;omega,λt ht=>by have:=d1 t ht;omega,by omega,by omega⟩
theorem XX(W:eW w){b:List UInt8}(h:iy x=.ok b)(hx:jL x 9000)(hw:800000<w):zX w (aj b)=some (x.order,az x.cP,az x.bR,az x.bZ,az x.bp,az x.first,aj x.bQ,aj x.dq,0):=by
 have hr:=hx.rows;obtain⟨-,-,hp2,hp3,hp4⟩:=AQ h (by unfold qX at hr⊢;omega);have hce:hU x=0:=by unfold iy at h;split at h<;>grind
 have TR:=Ep W hx hce;have hl:(fe (eC x) da).length<=65533:=by rw[hp3,aR] at hp2;omega
 obtain⟨-,k1,k2,-⟩:=W9 hx (by decide);have hsp:=OM (eC x).eK 0 8 TR.hd;have hsp3:(gK (eC x)).length=(jH 0 8 (eC x).eK).length+1:=rfl;have h114:=afR W.hand (by omega) (by omega) (afT (b:=fe (eC x) da) (by omega) (by omega) JX (λs hs=>by have:=Re s hs;omega) (by decide) (by decide) TR.tZ (S:=gK (eC x)) (by omega) (by rw[hp4];rfl)) TR.check (by rw[aii];exact Tj hce) (hx.more (by omega)) TR.ik TR.hd (λd hd tags subs blob he p hp=>by obtain⟨s,hs⟩:=Kg TR.hh d hd;rw[he] at hs;exact ae5 hs p hp);exact ahn hp3 hp2 h114
theorem YO(c4:dc (⟨216,[],[]⟩::r)=core)(hmay:mj (⟨216,[],[]⟩::r)=true):xF (⟨216,[],[]⟩::r) core.length:=by
 intro s hs;rcases cj.1 hs with rfl|hs2
 ·simp
 ·have h1:=M6 hs;by_cases ha:iw s.bX=true
  ·obtain⟨-,-,q,-⟩:=Pk hmay hs
   grind
  ·unfold dF at h1
   grind
theorem RL{x:qy}(c2:D8 x.core=⟨216,[],[]⟩::r)(c4:dc (⟨216,[],[]⟩::r)=x.core):(jB x bC).length<=100+bC.length+x.dN.length+x.cV.length+x.core.length:=by
 have e:jB x bC=dF ⟨216,[],[]⟩++(dF ⟨225,bC,[]⟩++(dc (if x.dN.length=0 then[] else[⟨226,x.dN,[]⟩])++(dc ((fJ x.cV).map (λc=>⟨226,c,[]⟩))++dc r))):=by unfold jB mc;rw[c2];simp[dc]
 have k1:(dF ⟨216,[],[]⟩).length=2:=rfl;have k2:(dF ⟨225,bC,[]⟩).length<=bC.length+4:=by unfold dF;split<;>simp<;>omega
 have k3:(dc (if x.dN.length=0 then[] else[⟨226,x.dN,[]⟩])).length<=x.dN.length+4:=by
  split
  ·simp[dc]
  ·simp[dc];unfold dF;split<;>simp<;>omega
 have k4:(dc ((fJ x.cV).map (λc=>⟨226,c,[]⟩))).length<=x.cV.length+30:=by
  unfold fJ;split
  ·simp[dc]
  ·simp[dc];unfold dF;split<;>simp[fm]<;>omega
 have k5:(dc r).length<=x.core.length:=by have:=bK List.length c4;rw[pf,aR] at this;omega
 simp_all;omega
theorem YA(w:Nat)(l:List UInt8)(hl:l.length<=1000000000):H9 w (aj l)=some (aj l):=by
 unfold H9;rw[dU];by_cases h:l.length=0
 ·have:l=[]:=qu.1 h;subst this;rfl
 ·have e1:Nat.beq l.length 0=false:=by
   rw[Bool.eq_false_iff];intro q;exact h (bJ q)
  rw[e1];have hn:=nextslicecap_le (need:=0+l.length) (old:=0) (by omega);have e5:(0+l.length).ble 0=false:=by rw[gu,fI];omega
  have e6:Nat.blt 0 l.length=true:=by rw[lU,bV];omega
  have r1:aK l.length=true:=by simp;omega
  unfold Ov Gm;rw[dU,e6,ij,iH,e5,r1,(show(Builtin.nextslicecap (0+l.length) 0).ble 5000000000=true from by rw[kW];omega)];simp;rw[nV]
theorem agC(W:eW w){x:qy}(h:Dn x bC)(hx:jL x.aS 9000)(hm:m<2^24)(hc:x.core.length<=m/\x.cV.length<=m/\x.dN.length<=m)(hw:2*m+800000<w):
 Hg w (aj (jB x bC))=some (x.aS.order,az x.aS.cP,az x.aS.bR,az x.aS.bZ,az x.aS.bp,az x.aS.first,aj x.aS.bQ,aj x.aS.dq,aj x.cV,aj x.core,aj x.dN,if x.dN.length=0 then 0 else((bC.length+10:Nat):Int),((jB x bC).length:Int),0):=by
 have hb:=W.jP;have hA:=W.hand;obtain⟨-,hp1,hp2,hp3,hp4⟩:=AQ h.app h.rows;have hrd:=Z8 h;obtain⟨r,c1,c2,c3,c4,c5,c6⟩:=D9 h.core;have hrl:r.length<=x.core.length:=by simpa using(Fb _ _ _ _ _ _ c1)
 have hmayC:mj (⟨216,[],[]⟩::r)=true:=by show(true&&iJ r)=true;rw[c3];rfl
 have hr0:r.length≠0:=by obtain⟨s,hs,_⟩:=c5;intro q;rw[qu.1 q] at hs;cases hs
 have h60:=XX W h.app hx (by omega);have himl:=RL (bC:=bC) c2 c4;have hi3:=h.cV;have htail:=λq=>abn (m:=m) hA (bC:=bC) (cs:=fJ x.cV) (r:=r) (core:=x.core) (cV:=x.cV) rfl h.cV (by omega) (by omega) c6 hr0 h.core c4 hmayC (λs hs=>by have:=YO c4 hmayC s hs;omega) (by omega) (by omega) h60 0 (ae 0 []) (ae 0 []) (ae 0 []) (ae 0 []) (ae 0 []) (ae 0 []) (ae 0 []) (ae 0 []) (ae 0 []) q;have hL:mc x bC=⟨216,[],[]⟩::⟨225,bC,[]⟩::((if x.dN.length=0 then[] else[⟨226,x.dN,[]⟩])++((fJ x.cV).map (λc=>⟨226,c,[]⟩)++r)):=by unfold mc;rw[c2];rfl
 unfold Hg zm Cc Gl;rw[Ot _ (by omega) (by omega),hrd];simp only[aA];rw[hL,sG];have hbl:∀(s:bE)(l:List bE),((s::l).length.ble (s::l).length&&Nat.ble 1 (s::l).length)=true:=by intro s l;rw[gu,gu,fS (aB _),fS (by rw[cQ];omega)];rfl
 rw[hbl,ay,Gx,ahi (s:=⟨225,bC,[]⟩) rfl hp1];simp only[aA,cL,aE];by_cases hmp:x.dN.length=0
 ·rw[ar hmp,ar hmp,iF];have hno:Af 226 (λd=>ko.isPrefixOf d) ((fJ x.cV).map (λc=>(⟨226,c,[]⟩:bE))++r)=false:=by
   unfold fJ;split
   ·show Af 226 _ r=false;cases r with
    |nil=>rfl
    |cons s r=>have:=c6 s mC;unfold pC at this;rw[fI] at this;show(decide (s.bX=226)&&_)=false;rw[fR (by omega)];rfl
   ·rfl
  rw[ahe hno];have:x.dN=[]:=qu.1 hmp;rw[this];exact htail (ae 0 []) 0 ((jB x bC).length:Int)
 ·rw[ai hmp,ai hmp];obtain⟨m1,m2⟩:=h.dN.resolve_left hmp;rw[show[⟨226,x.dN,[]⟩]++((fJ x.cV).map (λc=>⟨226,c,[]⟩)++r)=(⟨226,x.dN,[]⟩:bE)::((fJ x.cV).map (λc=>⟨226,c,[]⟩)++r) from rfl,ahf (s:=⟨226,x.dN,[]⟩) rfl m1];simp only[aA,ay];rw[YA w _ (by omega)];simp only[aA];rw[dU,cR,cR,cu,aN (n:=(6:Int)+(bC.length:Int)) (by omega) (by omega),aN (by omega) (by omega),show(6:Int)+(bC.length:Int)+4=((bC.length+10:Nat):Int) by omega];exact htail (aj x.dN) ((bC.length+10:Nat):Int) ((jB x bC).length:Int)
end
section
set_option maxRecDepth 100000
def nc(p:gB):List Value:=[.int .i64 p.attr,.int .i64 p.size,.int .i64 p.at_,.int .i64 p.fV,.int .i64 p.fW]
theorem BX(p:gB):(nc p).length=5:=rfl
def ng(l:List gB):Value:=aC nc l
variable{o:Int} {w:Nat}
theorem B1(hw:8<=w)(n:Int)(ho:o=1\/o=2):gR w n 4 o=some (if 0<=n/\n<4294967296 then(aj (aU n.toNat 4 o),true) else(ae 0 [],false)):=by
 rw[sJ hw,ar (by rcases ho with rfl|rfl<;>rfl),show(4:Int).toNat=4 from rfl,LN]
 grind
theorem FK(hw:8<=w)(n:Int)(ho:o=1\/o=2):gR w n 2 o=some (if 0<=n/\n<65536 then(aj (aU n.toNat 2 o),true) else(ae 0 [],false)):=by
 rw[sJ hw,ar (by rcases ho with rfl|rfl<;>rfl),show(2:Int).toNat=2 from rfl,show oZ n 2 o=if 0<=n/\n<65536 then some (aU n.toNat 2 o) else none from rfl]
 grind
theorem F6(l:List UInt8)(hl:l.length<=100):(aK l.length&&(l.map aX).length.beq (l.length*1))=true:=by rw[(show aK l.length=true from by simp;omega),eD,gM,kV];rfl
theorem F7(X:List Value)(l:List UInt8)(hX:X.length<=100)(hl:l.length<=100):(aK X.length&&(aK l.length&&(l.map aX).length.beq (l.length*1)))=true:=by rw[(show aK X.length=true from by simp;omega),F6 l hl];rfl
theorem Nr(hw:8<=w)(p:gB)(ho:o=1\/o=2):GQ w p.attr p.size p.at_ p.fV p.fW o=some (if ou p=true then(aj (fZ o p),true) else(ae 0 [],false)):=by
 unfold GQ NA wS;simp only[aA];unfold ou;rw[B1 hw _ ho];by_cases h1:0<=p.attr/\p.attr<4294967296
 case neg=>rw[ai h1,ai (by simp only[bV];exactλq=>h1 q.1)];rfl
 rw[ar h1];simp only[aA];rw[ij,iH,F6 _ (by rw[eh];omega),B1 hw _ ho];by_cases h2:0<=p.size/\p.size<4294967296
 case neg=>rw[ai h2,ai (by simp only[bV];exactλq=>h2 q.2.1)];rfl
 rw[ar h2];simp only[aA];rw[ij,iH,F7 _ _ (by simp[eh]) (by rw[eh];omega),B1 hw _ ho];by_cases h3:0<=p.at_/\p.at_<4294967296
 case neg=>rw[ai h3,ai (by simp only[bV];exactλq=>h3 q.2.2.1)];rfl
 rw[ar h3];simp only[aA];rw[ij,iH,F7 _ _ (by simp[eh]) (by rw[eh];omega),FK hw _ ho];by_cases h4:0<=p.fV/\p.fV<65536
 case neg=>rw[ai h4,ai (by simp only[bV];exactλq=>h4 q.2.2.2.1)];rfl
 rw[ar h4];simp only[aA];rw[ij,iH,F7 _ _ (by simp[eh]) (by rw[eh];omega),FK hw _ ho];by_cases h5:0<=p.fW/\p.fW<65536
 case neg=>rw[ai h5,ai (by simp only[bV];exactλq=>h5 q.2.2.2.2)];rfl
 rw[ar h5,ar (by rw[bV];exact⟨h1,h2,h3,h4,h5⟩)];simp only[aA];rw[ij,iH,F7 _ _ (by simp[eh]) (by rw[eh];omega)]
 congr 2
 rw[nV];unfold fZ;simp
theorem af3(hw:100<w)(n:Nat)(hn:n<4294967296):GR w 4 (ae 1 [Value.int IntKind.i64 (n:Int)])=some (4,1,aj (fj n 4),true):=by
 unfold GR MT;rw[zG,show kindOf 4=(4,4,1) from rfl];simp;have h211:G8 w 4 (ae 1 [Value.int IntKind.i64 (n:Int)]) 4 4 1=some (4,1,true,(fj n 4).map aX):=by
  unfold G8;have hl:∀K:Nat->Option (Int×Int×Bool×List Value),ax (ae 1 [Value.int IntKind.i64 (n:Int)]) K=K 1:=λ_=>rfl;rw[hl,hl,ef _ _ (by omega),show aq 0 (Int.ofNat 1)=true from rfl,show(0:Int)=((0:Nat):Int) from rfl,ct,(show∀K:List Value->Option (Int×Int×Bool×List Value),aQ 1 0 (ae 1 [Value.int IntKind.i64 (n:Int)]) K=K [Value.int IntKind.i64 (n:Int)] fromλ_=>rfl)];simp only[bN,cH];have h212:G9 w 4 4 1 (n:Int)=some (aj (fj n 4),true):=by unfold G9 MW;rw[B1 (by omega) _ (.inr rfl),ar (by omega)];rfl
  rw[h212];simp only[aA];rw[ij,iH,gM,tK,ay,ef _ _ (by omega),show ah IntKind.i64 (Int.add ((0:Nat):Int) 1)=1 from rfl,show aq 1 (Int.ofNat 1)=false from rfl,aE,iF,eD,mE,<-nV];rfl
 rw[h211];simp;rw[nV]
def VS(view:List aI):Prop:=view.length<=9000/\∀t∈view,t.data.length<=9000
variable{view:List aI}
theorem aiv(W:eW w)(ho:o=1\/o=2)(hv:VS view)(hr:dz 5 view=true)(h0:view.length≠0):oK w 10000 nQ o (kT o view).eK:=by
 have hl:=hv.1;refine O7 W XR (agq (by have:=W.jP;omega)) (by decide) (λs hs=>?_) ho (by simp[kT]) (by simp[kT]) (λd hd'=>?_) (by simp[kT,kj,fA,jw]) (by simp[kT,iT,dt,ia]) (Xu hr h0 (by omega))
 ·have:s=0:=by simp[nQ] at hs;omega
  rw[this];decide
 ·simp[kT] at hd';subst hd';exact⟨by omega,by show 0<=_;omega,by show 0<=_;omega,λt ht=>by have:=hv.2 t ht;omega,trivial⟩
theorem ahv(W:eW w)(o:Int)(hv:VS view):Ik w o (az view)=some (match Am o view with| .ok b=>(aj b,0)| .error e=>(ae 0 [],e)):=by
 have hb:=W.jP;have hl:=hv.1;have hlen:∀K:Nat->Option (Value×Int),ax (az view) K=K view.length:=λK=>dw cx view K;unfold Ik Am MQ;by_cases ho:o=1\/o=2
 case neg=>rw[ar (.inl ho)];rw[(show ak o 1=false from by rw[cD,fI];exactλq=>ho (.inl q)),(show ak o 2=false from by rw[cD,fI];exactλq=>ho (.inr q))];rfl
 have hrest:(ax (az view) λ(x2:Nat)=>bif ak (Int.ofNat x2) 0 then some (ae 0 [],1) else ob (o7 w 5 (az view)) λ(x3:Bool)=>bif !x3 then some (ae 0 [],6) else ob (GS w) λx4=>ob (wP w o (ae 1 (List.drop 0 [az view,ae 0 [],ae 0 []])) x4) λx5=>some (x5.fst,x5.snd))=some (match(if¬(o=1\/o=2)\/view.length=0 then .error 1 else if dz 5 view=false then .error 6 else if 65533<4+gJ (kT o view) then .error 7 else .ok (ko++fe (kT o view) nQ):Except Int (List UInt8)) with| .ok b=>(aj b,0)| .error e=>(ae 0 [],e)):=by
  rw[hlen];by_cases h0:view.length=0
  ·rw[ar (.inr h0),h0];rfl
  have e1:ak (Int.ofNat view.length) 0=false:=by rw[cD,fI,cu];omega
  rw[ai (by intro q;rcases q with q|q;exact q ho;exact h0 q),e1,uG (by omega) 5 view (by omega) (λt ht=>by have:=hv.2 t ht;omega) (by omega)]
  cases hr:dz 5 view with
  |false=>rfl
  |true=>
   have T:=aiv W ho hv hr h0;have e2:GS w=some (cw nQ):=rfl;rw[e2];simp only[aA,aE];have e3:ae 1 (List.drop 0 [az view,ae 0 [],ae 0 []])=dM (kT o view).eK:=by show _=ae 1 (dK (.mk view .nil [])++[]);rfl
   rw[e3,(VM T),show(⟨o,(kT o view).eK⟩:lR)=kT o view from rfl];by_cases h7:65533<4+gJ (kT o view)
   ·rw[ar h7,ar h7];rfl
   ·rw[ai h7,ai h7];rfl
 rcases ho with rfl|rfl<;>simp_all
end
section
set_option maxRecDepth 100000
structure bT where
 aS:di
 cV:List UInt8
 core:List UInt8
 attr:Int
 fV:Int
 fW:Int
 view:List aI
def dP(p:bT):List Value:=[.int .i64 p.aS.order,az p.aS.cP,az p.aS.bR,az p.aS.bZ,az p.aS.bp,az p.aS.first,aj p.aS.bQ,aj p.aS.dq,aj p.cV,aj p.core,.int .i64 p.attr,.int .i64 p.fV,.int .i64 p.fW,az p.view]
theorem kN(p:bT):(dP p).length=14:=rfl
def cO(l:List bT):Value:=aC dP l
theorem na(p:bT)(r:List Value):dP p++r=.int .i64 p.aS.order::az p.aS.cP::az p.aS.bR::az p.aS.bZ::az p.aS.bp::az p.aS.first::aj p.aS.bQ::aj p.aS.dq::aj p.cV::aj p.core::.int .i64 p.attr::.int .i64 p.fV::.int .i64 p.fW::az p.view::r:=rfl
def TS(l:List aI):Prop:=l.length<=60/\∀t∈l,t.data.length<=600
structure er(p:bT):Prop where
 t0:TS p.aS.cP
 t2:TS p.aS.bR
 t3:TS p.aS.bZ
 t4:TS p.aS.bp
 t1:TS p.aS.first
 tv:TS p.view
 mkr:p.aS.bQ.length<=2000
 th:p.aS.dq.length<=2000
 ic:p.cV.length<=2000
 co:p.core.length<=2000
variable{p:bT}
theorem er.Bn(h:er p):jL p.aS 9000:=by obtain⟨⟨a0,b0⟩,⟨a2,b2⟩,⟨a3,b3⟩,⟨a4,b4⟩,⟨a1,b1⟩,-,m1,m2,-,-⟩:=h;exact⟨⟨by omega,by omega,by omega,by omega,by omega⟩,λt ht=>by have:=b0 t ht;omega,λt ht=>by have:=b2 t ht;omega,λt ht=>by have:=b3 t ht;omega,λt ht=>by have:=b4 t ht;omega,λt ht=>by have:=b1 t ht;omega,by omega,by omega⟩
theorem er.vs(h:er p):VS p.view:=⟨by have:=h.tv.1;omega,λt ht=>by have:=h.tv.2 t ht;omega⟩
def jt(p:bT):Bool:=match iy p.aS with| .ok _=>false| .error _=>true
def AY(_:bT):Bool:=false
def nT(p:bT):Bool:=!nW p.core
def pE(p:bT):Bool:=!decide ((0<=p.attr/\p.attr<4294967296)/\(0<=p.fV/\p.fV<65536)/\(0<=p.fW/\p.fW<65536))
def pF(p:bT):Bool:=!dz 5 p.view
theorem PR{x:di}{e:Int}(h:iy x=.error e):e≠0:=by
 unfold iy at h
 grind
variable{w:Nat}
theorem afV(W:eW w)(h:er p)(a b c:Int)(v x y:Value):GI w p.aS.order (az p.aS.cP) (az p.aS.bR) (az p.aS.bZ) (az p.aS.bp) (az p.aS.first) (aj p.aS.bQ) (aj p.aS.dq) x y a b c v=some (jt p):=by
 unfold GI jt;rw[Of W h.Bn];cases he:iy p.aS with
 |ok b=>rfl
 |error e=>have:=PR he;simp_all
theorem afW(_:eW w)(h:er p)(o a b c:Int)(v x1 x2 x3 x4 x5 x6 x7 y:Value):GJ w o x1 x2 x3 x4 x5 x6 x7 (aj p.cV) y a b c v=some (AY p):=by
 have hi:=h.ic;unfold GJ AY;rw[dU,cu,Wk w _ (by omega)];simp only[aA,bc];have:xX p.cV.length<=1:=by unfold xX;omega
 rw[fR (by omega)]
theorem afX(W:eW w)(h:er p)(o a b c:Int)(v x1 x2 x3 x4 x5 x6 x7 x8:Value):GK w o x1 x2 x3 x4 x5 x6 x7 x8 (aj p.core) a b c v=some (nT p):=by have hb:=W.jP;have hi:=h.co;unfold GK nT;rw[Oo _ (by omega) (by omega)];rfl
theorem afY(W:eW w)(p:bT)(o:Int)(v x1 x2 x3 x4 x5 x6 x7 x8 x9:Value):GL w o x1 x2 x3 x4 x5 x6 x7 x8 x9 p.attr p.fV p.fW v=some (pE p):=by
 have hb:=W.jP;unfold GL pE;rw[B1 (by omega) _ (.inr rfl),FK (by omega) _ (.inr rfl),FK (by omega) _ (.inr rfl)];by_cases h1:0<=p.attr/\p.attr<4294967296
 ·by_cases h2:0<=p.fV/\p.fV<65536
  ·by_cases h3:0<=p.fW/\p.fW<65536
   ·simp_all
   ·simp[h3]
  ·simp[h2]
 ·simp[h1]
theorem afZ(W:eW w)(h:er p)(o a b c:Int)(x1 x2 x3 x4 x5 x6 x7 x8 x9:Value):GM w o x1 x2 x3 x4 x5 x6 x7 x8 x9 a b c (az p.view)=some (pF p):=by have hb:=W.jP;obtain⟨a1,b1⟩:=h.tv;unfold GM pF;rw[uG (by omega) 5 p.view (by omega) (λt ht=>by have:=b1 t ht;omega) (by omega)];rfl
variable{l:List bT}
theorem age(W:eW w)(h:∀p∈l,er p)(hl:l.length<=2000):NB w (cO l)=some (db jt l):=by
 have hb:=W.jP;refine mg l jt (ev:=λi (g:Value->Int->Int->Option Int)=>g (aC dP l) l.length i) ?_ ?_ (by omega)
 ·intro i g hi;simp_all;rw[bW kN hi,na];simp;rw[afV W (h _ (dL hi)),aN (by omega) (by omega)];simp
 simp
theorem agf(W:eW w)(h:∀p∈l,er p)(hl:l.length<=2000):NC w (cO l)=some (db AY l):=by
 have hb:=W.jP;refine mg l AY (ev:=λi (g:Value->Int->Int->Option Int)=>g (aC dP l) l.length i) ?_ ?_ (by omega)
 ·intro i g hi;simp_all;rw[bW kN hi,na];simp;rw[afW W (h _ (dL hi)),aN (by omega) (by omega)];simp
 simp
theorem agh(W:eW w)(h:∀p∈l,er p)(hl:l.length<=2000):ND w (cO l)=some (db nT l):=by
 have hb:=W.jP;refine mg l nT (ev:=λi (g:Value->Int->Int->Option Int)=>g (aC dP l) l.length i) ?_ ?_ (by omega)
 ·intro i g hi;simp_all;rw[bW kN hi,na];simp;rw[afX W (h _ (dL hi)),aN (by omega) (by omega)];simp
 simp
theorem agi(W:eW w)(_:∀p∈l,er p)(hl:l.length<=2000):NF w (cO l)=some (db pE l):=by
 have hb:=W.jP;refine mg l pE (ev:=λi (g:Value->Int->Int->Option Int)=>g (aC dP l) l.length i) ?_ ?_ (by omega)
 ·intro i g hi;simp_all;rw[bW kN hi,na];simp;rw[afY W,aN (by omega) (by omega)];simp
 simp
theorem agj(W:eW w)(h:∀p∈l,er p)(hl:l.length<=2000):NG w (cO l)=some (db pF l):=by
 have hb:=W.jP;refine mg l pF (ev:=λi (g:Value->Int->Int->Option Int)=>g (aC dP l) l.length i) ?_ ?_ (by omega)
 ·intro i g hi;simp_all;rw[bW kN hi,na];simp;rw[afZ W (h _ (dL hi)),aN (by omega) (by omega)];simp
 simp
end
section
set_option maxRecDepth 100000
end
section
set_option maxRecDepth 100000
def wk(o:Int)(l:List gB):List aI:=[⟨45056,7,4,[48,49,48,48]⟩,⟨45057,4,1,fj l.length 4⟩,⟨45058,7,((16*l.length:Nat):Int),l.flatMap (fZ o)⟩]
end
section
set_option maxRecDepth 100000
noncomputable def Sk(w:Nat)(x0:Int)(x1 x2:Value):Option (Value×Int):=
 ax x1 λ(x48:Nat)=>bif aq (Int.ofNat x48) 2 then some (ae 0 [],1) else ax x1 λ(x49:Nat)=>lp qQ (mX w) w x1 (Int.ofNat x49) 0 x0 x1 x2 []
variable{l:List gB} {o:Int} {view:List aI} {w:Nat}
theorem aag(W:eW w)(ho:o=1\/o=2)(h2:2<=l.length)(hl:l.length<=600)(hv:VS view)(hr:dz 5 view=true):oK w 10000 ju o (fX o l view).eK:=by
 have hvl:=hv.1;have hdirs:∀d∈(fX o l view).eK,d=km o l\/(d=.mk view .nil []/\view.length≠0):=by
  intro d hd;rcases cj.1 hd with rfl|hd
  ·exact .inl rfl
  ·split at hd
   ·cases hd
   ·rename_i h0;exact .inr ⟨kC.1 hd,h0⟩
 have hlen2:(fX o l view).eK.length<=2:=by unfold fX;split<;>simp
 refine O7 W Qm (agr (by have:=W.jP;omega)) (by decide) (λs hs=>?_) ho (by simp[fX]) (by omega) (λd hd=>?_) ?_ ?_ (RS ⟨by omega,by omega⟩ hr (by omega))
 ·have:s=0\/s=1:=by simp[ju] at hs;omega
  rcases this with rfl|rfl<;>decide
 ·rcases hdirs d hd with rfl|⟨rfl,_⟩
  ·refine⟨by show 3<=_;omega,by show 0<=_;omega,by show 0<=_;omega,λt ht=>?_,trivial⟩;simp_all;rcases ht with rfl|rfl|rfl
   ·simp
   ·simp only[tK];omega
   ·simp only[(wC o l)];omega
  ·exact⟨by omega,by show 0<=_;omega,by show 0<=_;omega,λt ht=>by have:=hv.2 t ht;omega,trivial⟩
 ·unfold fX km;split<;>simp[kj,fA,jw]
 ·unfold fX km;split<;>simp[iT,dt,ia]
theorem aas(W:eW w)(ho:o=1\/o=2)(h2:2<=l.length)(hl:l.length<=600)(hv:VS view):
 lp qQ (mX w) w (ng l) l.length 0 o (ng l) (az view) []=some (match mT o l view with| .ok b=>(aj b,0)| .error e=>(ae 0 [],e)):=by
 have hb:=W.jP;have hvl:=hv.1;have hlen:∀i,((l.take i).flatMap (fZ o)).length=16*(l.take i).length:=λi=>wC o _;have h1n:¬(¬(o=1\/o=2)\/l.length<2):=by
  rintro (q|q)
  ·exact q ho
  ·omega
 have hall:∀(k i v:Nat),i+k=l.length->k<v->l.all ou=true->lp qQ (mX w) v (ng l) l.length i o (ng l) (az view) (((l.take i).flatMap (fZ o)).map aX)=some (match mT o l view with| .ok b=>(aj b,0)| .error e=>(ae 0 [],e)):=by
  intro k;induction k with
  |zero=>
   intro i v hi hv2 ha;have e1:¬((i:Int)<(l.length:Int)):=by omega
   have htk:l.take i=l:=gh (by omega);have hpl:(l.flatMap (fZ o)).length=16*l.length:=wC o l;rw[ef qQ (mX w) (by omega),htk];unfold mX wM wL wO;simp only[bc,e1,cy,aE];rw[uG (by omega) 5 view (by omega) (λt ht=>by have:=hv.2 t ht;omega) (by omega)];simp only[aA];unfold mT;rw[ai h1n,ha,ai (by decide:¬(true=false))];cases hr:dz 5 view with
   |false=>rfl
   |true=>
    have T:=aag W ho h2 hl hv hr;have h150:=VM T;rw[show(⟨o,(fX o l view).eK⟩:lR)=fX o l view from rfl] at h150;rw[ai (by decide:¬(true=false)),ai (by omega:¬(65536<16*l.length))];simp only[cL,aE,eD,mE,cu];have e2:¬((65536:Int)<((l.flatMap (fZ o)).length:Int)):=by omega
    simp only[e2,cy,aE];rw[show ng l=aC nc l from rfl,dw];rw[show[Value.int IntKind.i64 (l.length:Int)].length=1 from rfl,af3 (by omega) l.length (by omega)];simp only[aA];rw[show az view=aC cx view from rfl,dw,show Ib w=some (cw ju) from rfl];simp only[aA];have hd0:ae 3 [Value.int IntKind.i64 45056,Value.int IntKind.i64 7,Value.int IntKind.i64 4,ae 4 (List.drop 0 [Value.int IntKind.u8 48,Value.int IntKind.u8 49,Value.int IntKind.u8 48,Value.int IntKind.u8 48]),Value.int IntKind.i64 45057,Value.int IntKind.i64 4,Value.int IntKind.i64 1,aj (fj l.length 4),Value.int IntKind.i64 45058,Value.int IntKind.i64 7,Value.int IntKind.i64 ((l.flatMap (fZ o)).length:Int),ae (l.flatMap (fZ o)).length ((l.flatMap (fZ o)).map aX)]=az (wk o l):=by unfold wk;rw[<-nV,hpl];rfl
    rw[hd0];have hdc:dK (km o l)=[az (wk o l),ae 0 [],ae 0 []]:=by unfold km;rw[Ef];rfl
    have fin:(ob (wP w o (dM (fX o l view).eK) (cw ju)) λ(x45:Value×Int)=>some (x45.fst,x45.snd))=some (match(if 65533<4+gJ (fX o l view) then .error 7 else .ok (ko++fe (fX o l view) ju):Except Int (List UInt8)) with| .ok b=>(aj b,0)| .error e=>(ae 0 [],e)):=by
     rw[h150];by_cases h7:65533<4+gJ (fX o l view)
     ·rw[ar h7,ar h7];rfl
     ·rw[ai h7,ai h7];rfl
    by_cases h0:view.length=0
    ·have e3:¬((0:Int)<((view.length:Nat):Int)):=by omega
     simp only[e3,cy,aE];have hdd:ae 1 [az (wk o l),ae 0 [],ae 0 []]=dM (fX o l view).eK:=by unfold fX;rw[ar h0];show _=ae 1 (dK (km o l)++[]);rw[hdc];rfl
     rw[hdd];exact fin
    ·have e3:((0:Int)<((view.length:Nat):Int)):=by omega
     simp only[e3,bn,ay];have hdd:ae ((List.take 3 (List.drop 0 [az (wk o l),ae 0 [],ae 0 []])++List.take 3 (List.drop 0 [aC cx view,ae 0 [],ae 0 []])).length/3) (List.take 3 (List.drop 0 [az (wk o l),ae 0 [],ae 0 []])++List.take 3 (List.drop 0 [aC cx view,ae 0 [],ae 0 []]))=dM (fX o l view).eK:=by unfold fX;rw[ai h0];show _=ae 2 (dK (km o l)++(dK (.mk view .nil [])++[]));rw[hdc,Ef,show(List.take 3 (List.drop 0 [az (wk o l),ae 0 [],ae 0 []])++List.take 3 (List.drop 0 [aC cx view,ae 0 [],ae 0 []])).length=6 from rfl];rfl
     rw[hdd];exact fin
  |succ k ih=>
   intro i v hi hv2 ha;have hiL:i<l.length:=by omega
   have e1:((i:Int)<(l.length:Int)):=by omega
   have hp:=jf.1 ha _ (dL hiL);have:=ih (i+1) (v -1) (by omega) (by omega) ha;rw[ef qQ (mX w) (by omega),<-this];generalize hg:lp qQ (mX w) (v -1)=g;have tg:∀(y:gB)(r:List Value),nc y++r=.int .i64 y.attr::.int .i64 y.size::.int .i64 y.at_::.int .i64 y.fV::.int .i64 y.fW::r:=λ_ _=>rfl;unfold mX wM wL wO;simp only[bc,e1,bn,ay,ct];rw[show ng l=aC nc l from rfl,bW BX hiL,tg];simp only[bN,cH];rw[Nr (by omega) l[i] ho,ar hp];simp only[aA,cL,aE];rw[ij,iH];have r1:aK (List.map aX ((l.take i).flatMap (fZ o))).length=true:=by rw[eD,hlen,dH];simp;omega
   rw[r1,F6 _ (by rw[FB];omega),kU,ay,cR,aN (by omega) (by omega),nB hiL,gq,jZ,show[l[i]].flatMap (fZ o)=fZ o l[i] by simp];rfl
 cases ha:l.all ou with
 |true=>exact hall l.length 0 w (by omega) (by omega) ha
 |false=>
  have hbad:∀(k i v:Nat),i+k=l.length->k<v->(l.drop i).all ou=false->lp qQ (mX w) v (ng l) l.length i o (ng l) (az view) (((l.take i).flatMap (fZ o)).map aX)=some (ae 0 [],1):=by
   intro k;induction k with
   |zero=>intro i v hi hv2 h;rw[show l.drop i=[] from xn (by omega)] at h;cases h
   |succ k ih=>
    intro i v hi hv2 h;have hiL:i<l.length:=by omega
    have e1:((i:Int)<(l.length:Int)):=by omega
    rw[dG hiL,List.all_cons] at h;have tg:∀(y:gB)(r:List Value),nc y++r=.int .i64 y.attr::.int .i64 y.size::.int .i64 y.at_::.int .i64 y.fV::.int .i64 y.fW::r:=λ_ _=>rfl;rw[ef qQ (mX w) (by omega)];cases hp:ou l[i] with
    |false=>unfold mX wM wL wO;simp only[bc,e1,bn,ay,ct];rw[show ng l=aC nc l from rfl,bW BX hiL,tg];simp only[bN,cH];rw[Nr (by omega) l[i] ho,hp];rfl
    |true=>
     rw[hp,fP] at h;have:=ih (i+1) (v -1) (by omega) (by omega) h;rw[<-this];generalize hg:lp qQ (mX w) (v -1)=g;unfold mX wM wL wO;simp only[bc,e1,bn,ay,ct];rw[show ng l=aC nc l from rfl,bW BX hiL,tg];simp only[bN,cH];rw[Nr (by omega) l[i] ho,ar hp];simp only[aA,cL,aE];rw[ij,iH];have r1:aK (List.map aX ((l.take i).flatMap (fZ o))).length=true:=by rw[eD,hlen,dH];simp;omega
     rw[r1,F6 _ (by rw[FB];omega),kU,ay,cR,aN (by omega) (by omega),nB hiL,gq,jZ,show[l[i]].flatMap (fZ o)=fZ o l[i] by simp];rfl
  have:=hbad l.length 0 w (by omega) (by omega) (by rw[eL];exact ha);unfold mT;rw[ai h1n,ha,ar rfl];exact this
theorem ahu(W:eW w)(o:Int)(hl:l.length<=600)(hv:VS view):Ij w o (ng l) (az view)=some (match mT o l view with| .ok b=>(aj b,0)| .error e=>(ae 0 [],e)):=by
 by_cases ho:o=1\/o=2
 case neg=>unfold Ij mT wM wL wO;rw[ar (.inl ho),(show ak o 1=false from by rw[cD,fI];exactλq=>ho (.inl q)),(show ak o 2=false from by rw[cD,fI];exactλq=>ho (.inr q))];rfl
 have hrest:Sk w o (ng l) (az view)=some (match mT o l view with| .ok b=>(aj b,0)| .error e=>(ae 0 [],e)):=by
  unfold Sk;rw[(show∀K:Nat->Option (Value×Int),ax (ng l) K=K l.length fromλK=>dw nc l K)];by_cases h2:l.length<2
  ·have e1:aq (Int.ofNat l.length) 2=true:=by rw[bc,bV,cu];omega
   unfold mT;rw[ar (.inr h2),e1];rfl
  ·have e1:aq (Int.ofNat l.length) 2=false:=by rw[bc,fI,cu];omega
   rw[e1];exact aas W ho (by omega) hl hv
 rcases ho with rfl|rfl<;>exact hrest
end
end Lt
end Go.Proofs.YtfdojmichbgpiaaGreatDoor

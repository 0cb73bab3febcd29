import Derived.Test.YtcfjfbeadhnknaaGreatDoorSG
namespace Go.Proofs.YtcfjfbeadhnknaaGreatDoor
set_option linter.unusedVariables false
set_option linter.unusedSimpArgs false
set_option linter.unusedSectionVars false
set_option linter.constructorNameAsVariable false
set_option maxRecDepth 100000
namespace Lt
section
set_option linter.unusedVariables false
set_option linter.unusedSimpArgs false
set_option linter.unusedSectionVars false
set_option linter.constructorNameAsVariable false
theorem Iw(w:Nat)(m:Int):uc w m=some (gq m):=by
 unfold uc gq
 simp
 grind
theorem QU(w:Nat)(m:Int):uk w m=some (lI m):=by
 unfold uk lI
 by_cases h1:m<208
 ·have:¬(208<=m/\m<=215):=by omega
  simp_all
 ·by_cases h2:m<216
  ·have:(208<=m/\m<=215):=by omega
   simp_all
  ·have:¬(208<=m/\m<=215):=by omega
   simp[h2,this]
theorem QN(w:Nat)(m:Int):xD w m=some (jg m):=by
 unfold xD jg
 rw[Iw,QU]
 simp
 grind
theorem D4{b:UInt8}:ah IntKind.i64 (b.toNat:Int)=(b.toNat:Int):=by
 have:=b.toNat_lt
 exact aJ (by simp) (by omega)
theorem adp{w:Nat}(l:List UInt8)(hl:l.length<2^60):xI w (ag l)=some (match l.getLast? with|some b=>if b=255 then 1 else 0|none=>0):=by
 unfold xI
 by_cases h:l.length=0
 ·rw[jU h];rfl
 ·have e1:((0:Int)<(l.length:Int)):=by omega
  simp_all
  rw[aJ (by omega) (by omega),ju (by omega),show((l.length:Int) -1).toNat=l.length -1 by omega,jT (show l.length -1<l.length by omega)]
  simp
  have hg:l.getLast? =some l[l.length -1]:=by
   rw[List.getLast?_eq_getElem?,List.getElem?_eq_getElem (by omega)]
  rw[hg]
  simp only
  by_cases h5:l[l.length -1]=255
  ·rw[if_pos h5,if_pos (by rw[h5];rfl)]
  ·rw[if_neg h5,if_neg (by intro q;exact h5 (UInt8.toNat_inj.1 (by have:(255:UInt8).toNat=255:=rfl;omega)))]
theorem QM{w:Nat}(l:List UInt8)(hl:l.length<2^60)(hw:l.length<w):ue w (ag l)=some (eE l:Int):=by
 have key:∀(z:Value->Int->Option Int)(F:(Value->Int->Option Int)->Value->Int->Option Int)(hF:F=λ(x3:Value->Int->Option Int)(x4:Value)(x5:Int)=>ak x4 λ(x6:Nat)=>bif aj (ah IntKind.i64 (x5.add 1)) (Int.ofNat x6) then aB x5 λ(x7:Nat)=>aE 1 x7 x4 λ(x8:List Value)=>af x8 λ(x9:Value)(x10:List Value)=>aw IntKind.u8 x9 λ(x11:Int)=>bif ai x11 255 then aB (ah IntKind.i64 (x5.add 1)) λ(x12:Nat)=>aE 1 x12 x4 λ(x13:List Value)=>af x13 λ(x14:Value)(x15:List Value)=>aw IntKind.u8 x14 λ(x16:Int)=>bif !ai x16 0 then aB (ah IntKind.i64 (x5.add 1)) λ(x17:Nat)=>aE 1 x17 x4 λ(x18:List Value)=>af x18 λ(x19:Value)(x20:List Value)=>aw IntKind.u8 x19 λ(x21:Int)=>ob (uk w (ah IntKind.i64 x21)) λ(x22:Bool)=>bif !x22 then some x5 else x3 x4 (ah IntKind.i64 (x5.add 1)) else x3 x4 (ah IntKind.i64 (x5.add 1)) else x3 x4 (ah IntKind.i64 (x5.add 1)) else ak x4 λ(x23:Nat)=>ob (xI w x4) λ(x24:Int)=>some (ah IntKind.i64 ((Int.ofNat x23).sub x24))),
  ∀(d i v:Nat),i+d+1=l.length->d<v->lp z F v (ag l) (i:Int)=some ((i+eE (l.drop i):Nat):Int):=by
  intro z F hF d
  induction d with
  |zero=>
   intro i v hi hv
   rw[dt z F (by omega),hF]
   simp only[cg,bO]
   rw[aJ (by omega) (by omega)]
   have e1:¬((i:Int)+1<(l.length:Int)):=by omega
   have hlt:i<l.length:=by omega
   have hll:l.drop i=[l[i]]:=by rw[List.drop_eq_getElem_cons hlt,List.drop_eq_nil_of_le (by omega)]
   have hg:l.getLast? =some l[i]:=by
    rw[List.getLast?_eq_getElem?,show l.length -1=i by omega,List.getElem?_eq_getElem hlt]
   simp only[aO,bG,e1,decide_false,cond_false]
   rw[adp l hl,hll,hg]
   simp only[ay,gS]
   by_cases h5:l[i]=255
   ·rw[if_pos h5,h5,aaE,aJ (by omega) (by omega)]
    congr 1;omega
   ·rw[if_neg h5,xi h5,aJ (by omega) (by omega)]
    congr 1
    show(l.length:Int) -0=((i+(0+1):Nat):Int)
    omega
  |succ d ih=>
   intro i v hi hv
   have hlt:i<l.length:=by omega
   have hlt2:i+1<l.length:=by omega
   have hll:l.drop i=l[i]::l[i+1]::l.drop (i+2):=by rw[List.drop_eq_getElem_cons hlt,List.drop_eq_getElem_cons hlt2]
   have hll2:l.drop (i+1)=l[i+1]::l.drop (i+2):=List.drop_eq_getElem_cons hlt2
   have ih:=ih (i+1) (v -1) (by omega) (by omega)
   rw[hll2] at ih
   rw[hll,dt z F (by omega)]
   generalize lp z F (v -1)=g at ih⊢
   rw[hF]
   have e1:((i:Int)+1<(l.length:Int)):=by omega
   simp only[cg,bO]
   rw[aJ (by omega) (by omega)]
   simp only[aO,bG,e1,decide_true,cond_true,bF]
   rw[show(i:Int)+1=((i+1:Nat):Int) by omega]
   simp only[bF]
   rw[jT hlt,jT hlt2]
   simp only[aX,kY,bT,QU,D4,ay]
   by_cases h5:l[i]=255
   ·have e5:((l[i].toNat:Int)=255):=by rw[h5];rfl
    rw[h5,Ih] at*
    simp only[show(((255:UInt8).toNat:Int)=255) from rfl,decide_true,cond_true]
    by_cases h6:l[i+1]=0
    ·have e6:((l[i+1].toNat:Int)=0):=by rw[h6];rfl
     have:¬(l[i+1]≠0/\lI (l[i+1].toNat:Int)=false):=λq=>q.1 h6
     rw[if_neg this]
     simp only[e6,decide_true,Bool.not_true,cond_false]
     rw[ih]
     congr 2;omega
    ·have e6:¬((l[i+1].toNat:Int)=0):=by
      intro q;exact h6 (UInt8.toNat_inj.1 (by have:(0:UInt8).toNat=0:=rfl;omega))
     simp only[e6,decide_false,Bool.not_false,cond_true]
     rw[jT hlt2]
     simp only[aX,kY,D4]
     cases hr:lI (l[i+1].toNat:Int) with
     |true=>
      have:¬(l[i+1]≠0/\true=false):=λq=>by cases q.2
      rw[if_neg this]
      simp only[Bool.not_true,cond_false]
      rw[ih]
      congr 2;omega
     |false=>
      rw[if_pos ⟨h6,rfl⟩]
      rfl
   ·have e5:¬((l[i].toNat:Int)=255):=by
     intro q;exact h5 (UInt8.toNat_inj.1 (by have:(255:UInt8).toNat=255:=rfl;omega))
    rw[xi h5]
    simp only[e5,decide_false,cond_false]
    rw[ih]
    congr 2;omega
 by_cases h0:l.length=0
 ·rw[jU h0]
  unfold ue
  rw[dt _ _ (by omega)]
  rfl
 ·unfold ue
  refine Eq.trans (key _ _ rfl (l.length -1) 0 w (by omega) (by omega)) ?_
  rw[List.drop_zero,Nat.zero_add]
def cj(s:bj):List Value:=[.int .i64 s.bE,ag s.data,ag s.scan]
theorem gV(s:bj):(cj s).length=3:=rfl
def cM(l:List bj):Value:=ax cj l
theorem Al(w:Nat)(n:Int)(b:List UInt8)(p:Nat)(hb:b.length<2^60)(hp:p<=b.length):rL w n (ag b) (p:Int)=some (if((b.length -p:Nat):Int)<n then .inr ((b.length:Int),3,ag b,(p:Int)) else .inl (ag b,(p:Int))):=by
 unfold rL
 simp only[cg,gS,bG]
 rw[aJ (by omega) (by omega)]
 simp
 grind
theorem aaY(w:Nat)(b:List UInt8)(p:Nat)(hb:b.length<2^60)(hp:p<=b.length):p9 w (ag b) (p:Int)=some (match b.drop p with
 |[]=>.inr ((b.length:Int),3,ag b,(p:Int))
 |[x]=>if x=255 then .inr ((b.length:Int),3,ag b,(p:Int)) else .inr ((p:Int),2,ag b,(p:Int))
 |x::m::_=>if x≠255 then .inr ((p:Int),2,ag b,(p:Int)) else if((decide (p=0)!=decide (m=216))||!(gq m.toNat||jg m.toNat))=true then .inr ((p:Int),2,ag b,(p:Int)) else .inl ((m.toNat:Int),ag b,((p+2:Nat):Int))):=by
 unfold p9 By
 rw[Al w 1 b p hb hp]
 simp only[ay]
 by_cases h1:p<b.length
 case neg=>
  rw[if_pos (by omega),List.drop_eq_nil_of_le (by omega)]
  rfl
 rw[if_neg (by omega),List.drop_eq_getElem_cons h1]
 simp only[fX,bF]
 rw[jT h1]
 simp only[aX,kY,bT]
 by_cases h2:b[p]=255
 case neg=>
  have e2:¬((b[p].toNat:Int)=255):=by
   intro q;exact h2 (UInt8.toNat_inj.1 (by have:(255:UInt8).toNat=255:=rfl;omega))
  simp only[e2,decide_false,Bool.not_false,cond_true]
  generalize b.drop (p+1)=r
  cases r with
  |nil=>simp only;rw[if_neg h2]
  |cons m r=>simp only;rw[if_pos h2]
 have e2:((b[p].toNat:Int)=255):=by rw[h2];rfl
 simp only[e2,decide_true,cond_false]
 rw[Al w 2 b p hb hp]
 simp only[ay]
 by_cases h3:p+1<b.length
 case neg=>
  rw[if_pos (by omega),List.drop_eq_nil_of_le (show b.length<=p+1 by omega),h2]
  simp
 rw[if_neg (by omega),List.drop_eq_getElem_cons h3,h2]
 simp only[fX,bO,ne_eq,if_false]
 rw[aJ (by omega) (by omega),show(p:Int)+1=((p+1:Nat):Int) by omega]
 simp only[bF]
 rw[jT h3]
 simp only[aX,kY,D4,QN]
 generalize b[p+1]=m
 have hp0:decide ((p:Int)=0)=decide (p=0):=by
  rw[Bool.eq_iff_iff,decide_eq_true_eq,decide_eq_true_eq];omega
 have h216:decide ((m.toNat:Int)=216)=decide (m=216):=by
  rw[Bool.eq_iff_iff,decide_eq_true_eq,decide_eq_true_eq]
  constructor
  ·intro q;exact UInt8.toNat_inj.1 (by have:(216:UInt8).toNat=216:=rfl;omega)
  ·rintro rfl;rfl
 have h217:decide ((m.toNat:Int)=217)=decide (m=217):=by
  rw[Bool.eq_iff_iff,decide_eq_true_eq,decide_eq_true_eq]
  constructor
  ·intro q;exact UInt8.toNat_inj.1 (by have:(217:UInt8).toNat=217:=rfl;omega)
  ·rintro rfl;rfl
 have hal:gq (m.toNat:Int)=(decide (m=216)||decide (m=217)):=by
  rw[<-h216,<-h217]
  unfold gq
  simp
 rw[hp0,h216,h217,hal,aJ (by omega) (by omega)]
 by_cases c0:p=0
 ·by_cases c1:m=216
  ·subst c1;simp[c0]
  ·simp[c0,c1]
 ·by_cases c1:m=216
  ·subst c1;simp[c0]
  ·by_cases c2:m=217
   ·subst c2;simp[c0]
   ·cases jg (m.toNat:Int)<;>simp[c0,c1,c2]
theorem V7(b:List UInt8)(p:Nat)(h:p+1<b.length):mn b p 2 2=some ((b[p].toNat*256+b[p+1].toNat:Nat):Int):=by
 have:=sY (l:=b) (p:=p) (.inr (.inl rfl)) (.inr rfl) (by omega)
 rw[show((2:Nat):Int)=2 from rfl] at this
 rw[this]
 have:fj b p 2 2=[b[p],b[p+1]]:=by
  unfold fj
  rw[List.drop_eq_getElem_cons (by omega),List.drop_eq_getElem_cons (show p+1<b.length by omega)]
  rfl
 rw[this]
 unfold fD
 simp
theorem aaW{w:Nat}(m:Int)(b:List UInt8)(p:Nat)(hb:b.length<2^29)(hp:p<=b.length)(hw:b.length+10<w):pY w m (ag b) (p:Int)=some (if gq m=true then .inl (m,ag [],ag [],ag b,(p:Int)) else match b.drop p with
 |x::y::t=>if x.toNat*256+y.toNat<2 then .inr ((p:Int),2,ag b,(p:Int)) else if b.length -p<x.toNat*256+y.toNat then .inr ((b.length:Int),3,ag b,(p:Int)) else
  .inl (m,ag ((b.drop (p+2)).take (x.toNat*256+y.toNat -2)),ag ((b.drop (p+(x.toNat*256+y.toNat))).take (if m=218 then eE (b.drop (p+(x.toNat*256+y.toNat))) else 0)),ag b,((p+(x.toNat*256+y.toNat)+(if m=218 then eE (b.drop (p+(x.toNat*256+y.toNat))) else 0):Nat):Int))
 |_=>.inr ((b.length:Int),3,ag b,(p:Int))):=by
 unfold pY
 rw[Iw]
 simp only[ay]
 cases ha:gq m with
 |true=>rfl
 |false=>
 simp only[cond_false,Bool.false_eq_true,if_false]
 rw[Al w 2 b p (by omega) hp]
 simp only[ay]
 by_cases h3:p+1<b.length
 case neg=>
  rw[if_pos (by omega)]
  have hl:(b.drop p).length<=1:=by rw[List.length_drop];omega
  split
  ·rename_i q;rw[q] at hl;simp at hl
  ·rfl
 rw[if_neg (by omega),List.drop_eq_getElem_cons (show p<b.length by omega),List.drop_eq_getElem_cons h3]
 simp only[fX]
 rw[xy (by omega) b (by omega) _ _ _ (by omega),V7 b p h3]
 simp only[ay,aO]
 have hx:=b[p].toNat_lt
 have hy:=b[p+1].toNat_lt
 generalize hn:b[p].toNat*256+b[p+1].toNat=n
 by_cases c1:n<2
 ·have:((n:Int)<2):=by omega
  simp_all
 have e4:¬((n:Int)<2):=by omega
 simp only[e4,decide_false,cond_false,if_neg c1]
 rw[Al w (n:Int) b p (by omega) hp]
 simp only[ay]
 by_cases c2:b.length -p<n
 ·have:((b.length -p:Nat):Int)<(n:Int):=by omega
  rw[if_pos this,if_pos c2]
  rfl
 rw[if_neg (by omega),if_neg c2]
 simp only[fX,bO,cg]
 rw[aJ (n:=(p:Int)+(n:Int)) (by omega) (by omega),aJ (n:=(p:Int)+2) (by omega) (by omega),show(p:Int)+(n:Int)=((p+n:Nat):Int) by omega,show(p:Int)+2=((p+2:Nat):Int) by omega]
 have e6:p+n<=b.length:=by omega
 have e7:p+2<=p+n:=by omega
 simp only[bF,eV,e6,e7,Nat.le_refl,decide_true,Bool.and_self,cond_true]
 rw[mh b e6,show p+n -(p+2)=n -2 by omega,oo w _ (by rw[List.length_take,List.length_drop];omega)]
 simp only[ay,bT]
 by_cases c3:m=218
 ·simp only[c3,decide_true,cond_true,if_true]
  rw[mh b (Nat.le_refl _),List.take_of_length_le (by rw[List.length_drop];omega),QM _ (by rw[List.length_drop];omega) (by rw[List.length_drop];omega)]
  simp only[ay]
  have hs:=Bz (b.drop (p+n))
  rw[List.length_drop] at hs
  rw[aJ (by omega) (by omega),show((p+n:Nat):Int)+(eE (b.drop (p+n)):Int)=((p+n+eE (b.drop (p+n)):Nat):Int) by omega]
  have e8:p+n+eE (b.drop (p+n))<=b.length:=by omega
  have e9:p+n<=p+n+eE (b.drop (p+n)):=by omega
  simp only[bF,e8,e9,decide_true,Bool.and_self,cond_true]
  rw[mh b e8,Nat.add_sub_cancel_left,oo w _ (by rw[List.length_take,List.length_drop];omega)]
  simp only[ay]
 ·simp_all
  rfl
end
section
set_option linter.unusedVariables false
set_option linter.unusedSimpArgs false
set_option linter.unusedSectionVars false
set_option linter.constructorNameAsVariable false
theorem step_eq{β:Type}{w:Nat}(b:List UInt8)(p:Nat)(hb:b.length<2^29)(hp:p<=b.length)(hw:b.length+10<w)(G:Int×Value×Value×Value×Int->Option β)(E:Int×Int×Value×Int->Option β):
 match iW (decide (p=0)) (b.drop p) with
 | .short=>∃q,(ob (p9 w (ag b) (p:Int)) λx14=>cD x14 (λx15=>ob (pY w x15.fst x15.snd.fst x15.snd.snd) λx16=>cD x16 G E) E)=E ((b.length:Int),3,ag b,q)
 | .form k=>∃q,(ob (p9 w (ag b) (p:Int)) λx14=>cD x14 (λx15=>ob (pY w x15.fst x15.snd.fst x15.snd.snd) λx16=>cD x16 G E) E)=E (((p+k:Nat):Int),2,ag b,q)
 | .last s t=>∃q:Nat,(ob (p9 w (ag b) (p:Int)) λx14=>cD x14 (λx15=>ob (pY w x15.fst x15.snd.fst x15.snd.snd) λx16=>cD x16 G E) E)=G (s.bE,ag s.data,ag s.scan,ag b,(q:Int))/\b.drop q=t/\p+2<=q/\q<=b.length/\s.bE=217
 | .more s t=>∃q:Nat,(ob (p9 w (ag b) (p:Int)) λx14=>cD x14 (λx15=>ob (pY w x15.fst x15.snd.fst x15.snd.snd) λx16=>cD x16 G E) E)=G (s.bE,ag s.data,ag s.scan,ag b,(q:Int))/\b.drop q=t/\p+2<=q/\q<=b.length/\s.bE≠217:=by
 rw[aaY w b p (by omega) hp]
 have hlen:(b.drop p).length=b.length -p:=List.length_drop
 have hd2:b.drop (p+2)=(b.drop p).drop 2:=by rw[List.drop_drop]
 generalize hr:b.drop p=r at hlen hd2
 cases r with
 |nil=>exact⟨_,rfl⟩
 |cons x r=>
  cases r with
  |nil=>
   dsimp only[iW]
   by_cases h1:x=255
   ·simp_all
    exact⟨_,rfl⟩
   ·simp_all
    exact⟨_,rfl⟩
  |cons m t=>
   have h2:p+2<=b.length:=by simp at hlen;omega
   dsimp only[iW]
   by_cases h1:x=255
   case neg=>
    have h1':x≠255:=h1
    simp_all
    exact⟨_,rfl⟩
   have h1':¬(x≠255):=λq=>q h1
   simp only[if_neg h1']
   by_cases h3:((decide (p=0)!=decide (m=216))||!(gq m.toNat||jg m.toNat))=true
   ·simp_all
    exact⟨_,rfl⟩
   simp only[if_neg h3,ay,fX]
   have hdt:b.drop (p+2)=t:=hd2
   by_cases h4:m=217
   ·subst h4
    have:gq ((217:UInt8).toNat:Int)=true:=rfl
    exact⟨p+2,rfl,hdt,Nat.le_refl _,h2,by first|rfl|trivial⟩
   simp only[if_neg h4]
   by_cases h5:m=216
   ·subst h5
    have:gq ((216:UInt8).toNat:Int)=true:=rfl
    exact⟨p+2,rfl,hdt,Nat.le_refl _,h2,by decide⟩
   simp only[if_neg h5]
   have hal:gq (m.toNat:Int)=false:=by
    unfold gq
    rw[decide_eq_false]
    rintro (e|e)
    ·exact h5 (UInt8.toNat_inj.1 (by have:(216:UInt8).toNat=216:=rfl;omega))
    ·exact h4 (UInt8.toNat_inj.1 (by have:(217:UInt8).toNat=217:=rfl;omega))
   have h218:((m.toNat:Int)=218)=(m=218):=by
    apply propext
    constructor
    ·intro q;exact UInt8.toNat_inj.1 (by have:(218:UInt8).toNat=218:=rfl;omega)
    ·rintro rfl;rfl
   have hm217:(m.toNat:Int)≠217:=by
    intro q;exact h4 (UInt8.toNat_inj.1 (by have:(217:UInt8).toNat=217:=rfl;omega))
   rw[aaW _ b (p+2) hb h2 hw,hdt]
   simp only[hal,Bool.false_eq_true,if_false,h218,ay]
   have htl:t.length=b.length -(p+2):=by rw[<-hdt,List.length_drop]
   cases t with
   |nil=>simp only[yp];exact⟨_,rfl⟩
   |cons a t=>
    cases t with
    |nil=>simp only[yp];exact⟨_,rfl⟩
    |cons c t=>
     simp only
     generalize a.toNat*256+c.toNat=n
     by_cases c1:n<2
     ·simp only[if_pos c1,yp]
      exact⟨_,rfl⟩
     simp only[if_neg c1]
     by_cases c2:(a::c::t).length<n
     ·have c2':b.length -(p+2)<n:=by omega
      simp_all
      exact⟨_,rfl⟩
     have c2':¬(b.length -(p+2)<n):=by omega
     simp only[if_neg c2,if_neg c2',fX]
     have e1:b.drop (p+2+n)=(a::c::t).drop n:=by rw[<-hdt,List.drop_drop]
     have e2:b.drop (p+2+2)=(a::c::t).drop 2:=by rw[<-hdt,List.drop_drop]
     rw[e1,e2]
     have hk:(if m=218 then eE ((a::c::t).drop n) else 0)<=b.length -(p+2+n):=by
      have:=Bz ((a::c::t).drop n)
      rw[<-e1,List.length_drop] at this
      rw[<-e1]
      split<;>omega
     refine⟨_,rfl,?_,by omega,by omega,hm217⟩
     rw[<-List.drop_drop,e1]
theorem JE{w:Nat}(b:List UInt8)(hb:b.length<2^28)(hw:b.length+10<w):uA w (ag b)=some (match ofM b with| .ok l e=>(cM l,(e:Int),0,0)| .bad a e=>(ae 0 [],0,(a:Int),e)):=by
 have key:∀(f:Nat)(l:List bj)(p v:Nat),(b.drop p).length<f->p<=b.length->f+1<v->(p=0↔l=[])->(∀s,l.getLast? =some s->s.bE≠217)->l.length<=p->
  ∀(z:Int->Int->Int->Value->Int->List Value->R6)(F:(Int->Int->Int->Value->Int->List Value->R6)->Int->Int->Int->Value->Int->List Value->R6),(∀g a c d e k x,F g a c d e k x=(bif ai (Int.ofNat (x.length/3)) 0 then oK w e k x g a c d else aB (ah .i64 ((Int.ofNat (x.length/3)).sub 1)) λo=>bif Nat.beq 3 3&&(o*3).blt x.length then af (List.drop (0+o*3+0) x) λp q=>aw .i64 p λr=>bif !ai r 217 then oK w e k x g a c d else bif ai k k then some (ae (x.length/3) x,k,0,0) else none else none))->
  lp z F v 0 0 0 (ag b) (p:Int) (l.flatMap cj)=some (match jG b.length f (decide (p=0)) (b.drop p) with| .ok l' e=>(cM (l++l'),(e:Int),0,0)| .bad a e=>(ae 0 [],0,(a:Int),e)):=by
  intro f
  induction f with
  |zero=>intro l p v h;omega
  |succ f ih=>
   intro l p v h hp hv h0 hlast hlp z F hF
   have gI:(b.drop p).length=b.length -p:=List.length_drop
   have hfl:(l.flatMap cj).length=l.length*3:=cK gV l
   have hr:aF (l.length*3)=true:=by simp;omega
   have hrefl:∀n:Int,ai n n=true:=λn=>by simp
   rw[dt z F (by omega),hF]
   have hst:=step_eq (w:=w) b p (by omega) hp hw (λk=>bif aF (l.flatMap cj).length&&(aF 1&&(List.take 3 (List.drop 0 [Value.int .i64 k.1,k.2.1,k.2.2.1])).length.beq 3) then lp z F (v -1) 0 0 0 k.2.2.2.1 k.2.2.2.2 (l.flatMap cj++List.take 3 (List.drop 0 [Value.int .i64 k.1,k.2.1,k.2.2.1])) else none) tT
   have red:(bif ai (Int.ofNat ((l.flatMap cj).length/3)) 0 then oK w (ag b) p (l.flatMap cj) (lp z F (v -1)) 0 0 0 else aB (ah .i64 ((Int.ofNat ((l.flatMap cj).length/3)).sub 1)) λo=>bif Nat.beq 3 3&&(o*3).blt (l.flatMap cj).length then af (List.drop (0+o*3+0) (l.flatMap cj)) λs q=>aw .i64 s λr=>bif !ai r 217 then oK w (ag b) p (l.flatMap cj) (lp z F (v -1)) 0 0 0 else bif ai p p then some (ae ((l.flatMap cj).length/3) (l.flatMap cj),p,0,0) else none else none)=oK w (ag b) p (l.flatMap cj) (lp z F (v -1)) 0 0 0:=by
    rw[hfl,Nat.mul_div_cancel _ (show 0<3 by decide)]
    by_cases q:l=[]
    ·subst q;rfl
    ·have hpos:0<l.length:=List.length_pos_iff.2 q
     have e1:ai (Int.ofNat l.length) 0=false:=by simp;omega
     rw[e1,cond_false,gS,bG,aJ (by omega) (by omega),ju (by omega),show((l.length:Int) -1).toNat=l.length -1 by omega]
     have e2:(Nat.beq 3 3&&((l.length -1)*3).blt (l.length*3))=true:=by
      simp;omega
     rw[e2,cond_true,show 0+(l.length -1)*3+0=(l.length -1)*3 by omega,mm gV,List.drop_eq_getElem_cons (show l.length -1<l.length by omega),List.flatMap_cons]
     have tg:∀(s:bj)(r:List Value),cj s++r=.int .i64 s.bE::ag s.data::ag s.scan::r:=λ_ _=>rfl
     simp only[tg,aX,bN]
     have hm:l[l.length -1].bE≠217:=hlast _ (by rw[List.getLast?_eq_getElem?,List.getElem?_eq_getElem (by omega)])
     have e3:(!ai l[l.length -1].bE 217)=true:=by simp[hm]
     rw[e3,cond_true]
   refine Eq.trans red ?_
   clear red
   unfold oK
   unfold jG
   generalize hs:iW (decide (p=0)) (b.drop p)=sr at hst
   cases sr with
   |short=>
    obtain⟨q,e⟩:=hst
    rw[e]
    unfold tT
    simp only[hrefl,cond_true]
   |form k=>
    obtain⟨q,e⟩:=hst
    rw[e]
    unfold tT
    simp only[hrefl,cond_true]
    rw[gI,show b.length -(b.length -p)+k=p+k by omega]
   |last s t=>
    obtain⟨q,e,e1,e2,e3,e4⟩:=hst
    rw[e]
    rw[hfl] at*
    simp only[hr,show aF 1=true from rfl,List.drop_zero,List.take_succ_cons,List.take_zero,List.length_cons,List.length_nil,Bool.true_and]
    rw[show Nat.beq (0+1+1+1) 3=true from rfl,cond_true,dt z F (by omega),hF]
    have hfl2:(l.flatMap cj++[Value.int .i64 s.bE,ag s.data,ag s.scan])=(l++[s]).flatMap cj:=by
     rw[List.flatMap_append,List.flatMap_cons];rfl
    rw[hfl2]
    have hfl3:((l++[s]).flatMap cj).length=(l.length+1)*3:=by rw[cK gV,List.length_append];rfl
    rw[hfl3,Nat.mul_div_cancel _ (show 0<3 by decide)]
    have e5:ai (Int.ofNat (l.length+1)) 0=false:=by simp;omega
    rw[e5,cond_false,gS,bG,aJ (by omega) (by omega),ju (by omega),show(((l.length+1:Nat):Int) -1).toNat=l.length by omega]
    have e6:(Nat.beq 3 3&&(l.length*3).blt ((l.length+1)*3))=true:=by simp
    rw[e6,cond_true,show 0+l.length*3+0=l.length*3 by omega,mm gV,List.drop_left]
    have tg:∀(s:bj)(r:List Value),cj s++r=.int .i64 s.bE::ag s.data::ag s.scan::r:=λ_ _=>rfl
    simp only[List.flatMap_cons,tg,aX,bN,e4]
    rw[show(!ai 217 217)=false from rfl,cond_false,hrefl,cond_true]
    have e7:b.length -t.length=q:=by rw[<-e1,List.length_drop];omega
    rw[e7]
    congr 1
    unfold cM ax
    rw[List.length_append]
    rfl
   |more s t=>
    obtain⟨q,e,e1,e2,e3,e4⟩:=hst
    rw[e]
    rw[hfl] at*
    simp only[hr,show aF 1=true from rfl,List.drop_zero,List.take_succ_cons,List.take_zero,List.length_cons,List.length_nil,Bool.true_and]
    rw[show Nat.beq (0+1+1+1) 3=true from rfl,cond_true]
    have hfl2:(l.flatMap cj++[Value.int .i64 s.bE,ag s.data,ag s.scan])=(l++[s]).flatMap cj:=by
     rw[List.flatMap_append,List.flatMap_cons];rfl
    have hdq:(b.drop q).length=b.length -q:=List.length_drop
    have:=ih (l++[s]) q (v -1) (by omega) e3 (by omega) (by constructor;intro;omega;intro q;simp at q) (λs' h'=>by simp at h';rw[<-h'];exact e4) (by rw[List.length_append];simp;omega) z F hF
    rw[hfl2,this,e1]
    have hq0:decide (q=0)=false:=by simp;omega
    rw[hq0]
    cases jG b.length f false t with
    |ok l' e=>simp
    |bad a e=>rfl
 unfold uA ofM oK tT
 refine Eq.trans (key (b.length+1) [] 0 w (by simp) (by omega) (by omega) (by simp) (λs h=>by simp at h) (by simp) _ _ (λ_ _ _ _ _ _ _=>rfl)) ?_
 rfl
end
section
set_option linter.unusedVariables false
set_option linter.unusedSimpArgs false
set_option linter.unusedSectionVars false
set_option linter.constructorNameAsVariable false
theorem Ik{w:Nat}(l:List bj)(p:bj->Bool)(P:Int->Value->Value->Option Bool)(hP:∀s∈l,P s.bE (ag s.data) (ag s.scan)=some (p s))(hl:l.length<2^40)(hw:l.length<w):
 (ak (cM l) λx1=>lp (λx2 (x3 x4:Int)=>none) (λx5 (x6:Value) (x7 x8:Int)=>bif aj x8 x7 then aB x8 λx9=>aE 3 x9 x6 λx10=>af x10 λx11 (x12:List Value)=>aw .i64 x11 λx13=>af x12 λx14 (x15:List Value)=>af x15 λx16 (x17:List Value)=>ob (P x13 x14 x16) λx18=>bif x18 then some x8 else x5 x6 x7 (ah .i64 (x8.add 1)) else some (-1)) w (cM l) (Int.ofNat x1) 0)=some (cC p l):=by
 refine jV l p (ev:=λi (g:Value->Int->Int->Option Int)=>g (ax cj l) l.length i) ?_ ?_ hw
 ·intro i g h
  simp_all
  rw[bn gV h]
  simp[(show∀(s:bj)(r:List Value),cj s++r=.int .i64 s.bE::ag s.data::ag s.scan::r fromλ_ _=>rfl)]
  rw[hP _ (List.getElem_mem h),aJ (by omega) (by omega)]
  simp
 simp
theorem Fq{α:Type}(p:α->Bool)(l:List α):(!decide (cC p l<0))=l.any p:=by
 have:=tb p l
 cases h:l.any p with
 |true=>grind
 |false=>grind
theorem aaS{w:Nat}(l:List bj)(hl:l.length<2^40)(hw:l.length<w):BF w (cM l)=some (l.any λs=>s.bE==218):=by
 unfold BF IL
 rw[Ik l (λs=>s.bE==218) (Cb w) (λs _=>by unfold Cb;rw[bT];rfl) hl hw]
 simp[Fq]
theorem aaU(w:Nat)(m:Int)(a b:Value):xq w m a b=some (mO m):=by
 unfold xq IP mO
 by_cases h1:m<224
 ·have:¬(224<=m/\m<=239):=by omega
  simp_all
 ·by_cases h2:m<240
  ·have:(224<=m/\m<=239):=by omega
   simp[h1,h2,this]
  ·have:¬(224<=m/\m<=239):=by omega
   simp[h2,this]
theorem aaR{w:Nat}(l:List bj)(hl:l.length<2^40)(hw:l.length<w):BG w (cM l)=some (l.any λs=>mO s.bE):=by
 unfold BG IM
 rw[Ik l (λs=>mO s.bE) (xq w) (λs _=>aaU w _ _ _) hl hw]
 simp[Fq]
theorem Au(L:Nat):∀(f:Nat)(first:Bool)(r:List UInt8)(l:List bj)(e:Nat),jG L f first r=.ok l e->l.length<=f
 |0,_,_,_,_,h=>by cases h
 |f+1,first,r,l,e,h=>by
  unfold jG at h
  split at h
  ·grind
  ·grind
  ·grind
  ·split at h
   ·rename_i q
    cases h
    have:=Au L f _ _ _ _ q
    simp_all
   grind
theorem JC{w:Nat}(b:List UInt8)(hb:b.length<2^28)(hw:b.length+10<w):uz w (ag b)=some (ky b):=by
 unfold uz Ip ky
 rw[JE b hb hw]
 cases h:ofM b with
 |bad a e=>
  have he:e≠0:=by
   have:∀(L f:Nat)(first:Bool)(r:List UInt8)(a:Nat)(e:Int),r.length<f->jG L f first r=.bad a e->e≠0:=by
    intro L f
    induction f with
    |zero=>omega
    |succ f ih=>
     intro first r a e hr h
     unfold jG at h
     split at h
     ·cases h;decide
     ·cases h;decide
     ·cases h
     ·rename_i s t hs
      split at h
      ·cases h
      ·refine ih false t a e ?_ h
       cases first with
       |true=>
        obtain⟨h1,h2⟩:=Qp hs
        have hs2:2<=(cq s).length:=by unfold cq;split<;>simp<;>omega
        have:=congrArg List.length h2
        rw[List.length_append] at this
        omega
       |false=>
        obtain⟨h1,h2⟩:=Qq hs
        have hs2:2<=(cq s).length:=by unfold cq;split<;>simp<;>omega
        have:=congrArg List.length h2
        rw[List.length_append] at this
        omega
   exact this _ _ _ _ _ _ (by omega) h
  simp_all
 |ok l e=>
  have hl:=Au _ _ _ _ _ _ h
  have he:=(N0 h).2.1
  simp only[ay,cond_false,cg,aO,bG]
  by_cases h1:e=b.length
  ·have e1:¬((b.length:Int)<(b.length:Int)):=by omega
   simp_all
   rw[aaS l (by omega) (by omega)]
   cases l.any (λs=>s.bE==218) with
   |false=>rfl
   |true=>
    simp
    rw[aaR l (by omega) (by omega)]
    simp only[ay]
    congr 1
    rw[List.not_any_eq_all_not]
  ·have e1:((e:Int)<(b.length:Int)):=by omega
   simp only[e1,decide_true,cond_true,h1,ay]
   rfl
theorem yv:∀l:List UInt8,mJ (l.map aQ)=some (l.map λb=>(b.toNat:Int))
 |[]=>rfl
 |b::l=>by
  show ob (mJ (l.map aQ)) _=_
  rw[yv l]
  rfl
theorem Ai(l:List UInt8):(mkStr (l.map λb=>(b.toNat:Int))).data.toList=l:=by
 unfold mkStr
 simp
 conv=>rhs;rw[<-List.map_id l]
 apply List.map_congr_left
 simp
theorem acs(w:Nat)(a b:List UInt8):C3 w (ag a) (ag b)=some (decide (a=b)):=by
 unfold C3
 rw[fV,fZ,yv]
 simp
 rw[fV,fZ,yv]
 simp
 rw[Ai,Ai,yZ]
 grind
theorem BI(w:Nat)(a p:List UInt8):ua w (ag a) (ag p)=some (p.isPrefixOf a):=by
 unfold ua
 simp only[cg,aO,bG]
 by_cases h:p.length<=a.length
 ·have e1:¬((a.length:Int)<(p.length:Int)):=by omega
  simp only[e1,cond_true,eV,h]
  rw[mh a h,acs]
  simp
  congr 1
  rw[Bool.eq_iff_iff,decide_eq_true_eq,List.isPrefixOf_iff_prefix]
  constructor
  ·intro q;rw[<-q];exact List.take_prefix _ _
  ·intro q;exact(List.prefix_iff_eq_take.1 q).symm
 ·have e1:((a.length:Int)<(p.length:Int)):=by omega
  simp only[e1,decide_true,Bool.not_true,cond_false]
  congr 1
  rw[eq_comm,Bool.eq_false_iff]
  intro q
  exact h (List.IsPrefix.length_le (List.isPrefixOf_iff_prefix.1 q))
theorem JD(w:Nat)(a:List UInt8):xX w (ag a)=some (fJ.isPrefixOf a):=by
 unfold xX Bu
 have:ae 4 (List.drop 0 [Value.int IntKind.u8 77,Value.int IntKind.u8 80,Value.int IntKind.u8 70,Value.int IntKind.u8 0])=ag fJ:=rfl
 rw[this,BI]
 rfl
theorem abk{w:Nat}(s:bj)(h1:s.scan.length<2^60)(hw:s.scan.length<w):Cd w s.bE (ag s.data) (ag s.scan)=some (kg s):=by
 unfold Cd kg
 rw[QN,QM _ h1 hw]
 simp only[ay,cg,aO,bG,bT]
 cases jg s.bE with
 |false=>rfl
 |true=>
  by_cases c1:s.data.length<=65533
  ·have e1:¬((65533:Int)<(s.data.length:Int)):=by omega
   simp only[e1,decide_false,Bool.not_false,cond_true,c1]
   by_cases c2:s.scan.length=0
   ·have e2:((s.scan.length:Int)=0):=by omega
    rw[jU c2];rfl
   ·have e2:¬((s.scan.length:Int)=0):=by omega
    have e3:s.scan.isEmpty=false:=by
     cases q:s.scan with
     |nil=>rw[q] at c2;exact absurd rfl c2
     |cons _ _=>rfl
    simp only[e2,decide_false,cond_false,e3,Bool.false_or]
    by_cases c3:s.bE=218
    ·simp only[c3,decide_true,cond_true,Bool.true_and]
     congr 1
     rw[Bool.eq_iff_iff,decide_eq_true_eq,decide_eq_true_eq]
     omega
    ·simp_all
  ·have e1:((65533:Int)<(s.data.length:Int)):=by omega
   simp[e1,decide_true,Bool.not_true,cond_false,c1,decide_false]
theorem QO(w:Nat)(s:bj)(m:Int)(h1:s.data.length+s.scan.length<2^60):xE w s.bE (ag s.data) (ag s.scan) m=some (jw s m):=by
 unfold xE jw
 simp_all
 rw[aJ (by omega) (by omega)]
 by_cases c1:s.bE=m
 ·simp_all
  congr 1
  rw[Bool.eq_iff_iff,decide_eq_true_eq,Bool.and_eq_true,List.isEmpty_iff,List.isEmpty_iff]
  constructor
  ·intro q;exact⟨jU (by omega),jU (by omega)⟩
  grind
 grind
theorem FY:∀(t:List bj),gJ t=true↔∃(h:t≠[]),jw (t.getLast h) 217=true/\∀s∈t.dropLast,kg s=true
 |[]=>by simp[gJ]
 |[s]=>by simp[gJ]
 |s::s'::t=>by
  simp only[gJ,Bool.and_eq_true,(FY (s'::t))]
  grind
def sB(l:List bj)(m:Nat):Prop:=∀s∈l,s.data.length+s.scan.length<=m
theorem aaZ{w m:Nat}(l:List bj)(hm:m<2^59)(hs:sB l m)(hl:l.length<2^40)(hw:l.length<w/\m<w)(h:jX l=true):BL w (cM l)=some true:=by
 cases l with
 |nil=>cases h
 |cons s t=>
  simp[jX] at h
  obtain⟨h1,h2⟩:=h
  obtain⟨cc,h3,h4⟩:=(FY t).1 h2
  have hpos:=List.length_pos_iff.2 cc
  have hlr:∀K:Nat->Option Bool,ak (cM (s::t)) K=K (t.length+1):=λK=>bV cj (s::t) K
  have tg:∀(s:bj)(r:List Value),cj s++r=.int .i64 s.bE::ag s.data::ag s.scan::r:=λ_ _=>rfl
  unfold BL
  simp at hl hw
  simp only[hlr,gS,bG]
  rw[aJ (by omega) (by omega)]
  have e1:¬((t.length:Int)<1):=by omega
  simp[e1]
  unfold cM
  rw[bn gV (show 0<(s::t).length by simp)]
  simp_all
  have b1:=hs s (by simp)
  rw[QO w s 216 (by omega)]
  rw[bn gV (show t.length<(s::t).length by simp)]
  have e2:(s::t)[t.length]=t.getLast cc:=by
   rw[List.getLast_eq_getElem]
   simp only[List.getElem_cons]
   rw[dif_neg (by omega)]
  simp_all
  have b2:=hs (t.getLast cc) (by simp)
  rw[QO w _ 217 (by omega)]
  have e4:1<=t.length:=hpos
  simp_all
  rw[qL gV (s::t) (show t.length<=(s::t).length by simp)]
  have e5:((s::t).drop 1).take (t.length -1)=t.dropLast:=by
   rw[List.drop_one,List.tail_cons,List.dropLast_eq_take]
  rw[e5]
  unfold It IN
  have:=Ik (w:=w) t.dropLast (λs=>!kg s) (Cc w) (λx hx=>by
   unfold Cc
   have b3:=hs x (by simp[(λx hx=>List.dropLast_subset t hx) x hx])
   rw[abk x (by omega) (by omega)]
   rfl) (by rw[List.length_dropLast];omega) (by rw[List.length_dropLast];omega)
  unfold cM at this
  rw[this]
  simp only[ay,aO,Fq]
  have:(t.dropLast.any λs=>!kg s)=false:=by
   rw[List.any_eq_false]
   intro x hx
   rw[h4 x hx];simp
  rw[this]
  rfl
theorem Kc{l:List bj}(h:jX l=true){s:bj}(hs:s∈l):0<=s.bE/\s.bE<256/\(gq s.bE=true->s.data=[]/\s.scan=[])/\s.data.length<=65533:=by
 cases l with
 |nil=>grind
 |cons a t=>
  simp[jX] at h
  obtain⟨h1,h2⟩:=h
  obtain⟨cc,h3,h4⟩:=(FY t).1 h2
  have bare:∀(x:bj)(m:Int),jw x m=true->x.bE=m/\x.data=[]/\x.scan=[]:=λx m q=>by
   unfold jw at q
   simp_all
  rcases List.mem_cons.1 hs with rfl|hs
  ·grind
  ·have:=List.dropLast_concat_getLast cc
   rw[<-this] at hs
   rcases List.mem_append.1 hs with hs|hs
   ·have q:=h4 s hs
    unfold kg jg at q
    grind
   grind
theorem Zr(n:Nat):aN n 2 2=[UInt8.ofNat (n/256%256),UInt8.ofNat (n%256)]:=rfl
theorem Rf{w m:Nat}(A:Hand w)(l:List bj)(hm:m<2^27)(hs:sB l m)(hl:l.length<2^27)(hw:l.length<w/\m<w/\20<=w)(h:jX l=true)(hb:(cu l).length<2^28):rU w (cM l)=some (ag (cu l),0):=by
 unfold rU
 rw[aaZ l (by omega) hs (by omega) ⟨hw.1,hw.2.1⟩ h]
 have hlr:∀K:Nat->Option (Value×Int),ak (cM l) K=K l.length:=λK=>bV cj l K
 rw[hlr]
 unfold cM
 refine kI (σ:=List UInt8) (ev:=λi s (g:Value->Int->Int->List Value->Option (Value×Int))=>g (ax cj l) l.length i (s.map aQ)) (Inv:=λi s=>s++cu (l.drop i)=cu l) l.length [] ?_ ?_ ?_ (by omega)
 ·rfl
 ·rintro i g s hi hI
  rw[List.drop_eq_getElem_cons hi,iO] at hI
  refine⟨s++cq l[i],by rw[<-hI,List.append_assoc],?_⟩
  have hmem:=List.getElem_mem hi
  obtain⟨m1,m2,m3,m4⟩:=Kc h hmem
  have hsz:=hs _ hmem
  have e1:((i:Int)<(l.length:Int)):=by omega
  have hlen:=congrArg List.length hI
  simp only[List.length_append] at hlen
  simp only[aO,e1,decide_true,cond_true,bF]
  rw[bn gV hi]
  have tg:∀(s:bj)(r:List Value),cj s++r=.int .i64 s.bE::ag s.data::ag s.scan::r:=λ_ _=>rfl
  simp only[tg,aX,bN]
  have hw8:ah IntKind.u8 l[i].bE=((UInt8.ofNat l[i].bE.toNat).toNat:Int):=by
   rw[lZ,IntKind.wrap_u8,UInt8.toNat_ofNat']
   omega
  have e2:Value.int IntKind.u8 255=aQ 255:=rfl
  have e3:Value.int IntKind.u8 ((UInt8.ofNat l[i].bE.toNat).toNat:Int)=aQ (UInt8.ofNat l[i].bE.toNat):=rfl
  have r1:aF s.length=true:=by simp;omega
  simp only[hw8,e2,e3,List.length_map,r1,show aF 2=true from rfl,List.drop_zero,List.take_succ_cons,List.take_zero,List.length_cons,List.length_nil,Bool.true_and]
  rw[show Nat.beq (0+1+1) 2=true from rfl,cond_true,Iw]
  simp only[ay,cg,bO,bG]
  rw[aJ (n:=(i:Int)+1) (by omega) (by omega)]
  cases ha:gq l[i].bE with
  |true=>
   simp only[cond_true]
   have:cq l[i]=[255,UInt8.ofNat l[i].bE.toNat]:=by unfold cq;rw[if_pos ha]
   rw[this,List.map_append]
   rfl
  |false=>
   simp only[cond_false]
   have hsb:cq l[i]=[255,UInt8.ofNat l[i].bE.toNat]++(aN (l[i].data.length+2) 2 2++(l[i].data++l[i].scan)):=by
    unfold cq
    rw[ha,Zr,Nat.mod_eq_of_lt (show(l[i].data.length+2)/256<256 by omega)]
    simp
   rw[aJ (n:=(l[i].data.length:Int)+2) (by omega) (by omega),oM (by omega),if_pos (show eD 2 2=true from rfl)]
   have hp:mD ((l[i].data.length:Int)+2) (2:Int).toNat 2=some (aN (l[i].data.length+2) 2 2):=by
    unfold mD
    rw[if_pos ⟨by omega,by show _<((256^2:Nat):Int);omega⟩]
    congr 1
   rw[hp]
   simp only[ay]
   have hc:=A.cat (aN (l[i].data.length+2) 2 2) l[i].data l[i].scan (s++[255,UInt8.ofNat l[i].bE.toNat]) (by rw[db];omega) (by rw[db,List.length_append];simp only[List.length_cons,List.length_nil];omega)
   rw[List.map_append] at hc
   have hc:qa w (ag (aN (l[i].data.length+2) 2 2)) (ag l[i].data) (ag l[i].scan) (s.map aQ++[aQ 255,aQ (UInt8.ofNat l[i].bE.toNat)])=_:=hc
   rw[hc]
   simp only[ay]
   rw[hsb]
   simp only[List.append_assoc]
   rfl
 ·rintro g s hI
  rw[List.drop_length] at hI
  simp only[cu,List.flatMap_nil,List.append_nil] at hI
  subst hI
  have e1:¬((l.length:Int)<(l.length:Int)):=by omega
  simp only[aO,e1,decide_false,cond_false]
  rw[qH _ _ (by rw[Nat.div_one,List.length_map])]
  rfl
end
section
set_option linter.unusedVariables false
set_option linter.unusedSimpArgs false
set_option linter.unusedSectionVars false
set_option linter.constructorNameAsVariable false
noncomputable def NN(w:Nat)(rest ch:Value)(cs:List Value):Option (Value×Int):=
 ak ch λ(x31:Nat)=>lp (λ(x32 x33:Value)(x34 x35:Int)(x36:List Value)=>none) (λ(x37:Value->Value->Int->Int->List Value->Option (Value×Int))(x38 x39:Value)(x40 x41:Int)(x42:List Value)=>bif aj x41 x40 then aB x41 λ(x43:Nat)=>aE 1 x43 x39 λ(x44:List Value)=>af x44 λ(x45:Value)(x46:List Value)=>ob (uB w 226 x45 x42) λ(x47:List Value)=>x37 x38 x39 x40 (ah .i64 (x41.add 1)) x47 else ak x38 λ(x48:Nat)=>bif x48.ble x48&&Nat.ble 1 x48 then fw 3 1 x48 x38 λ(x49:Value)=>dC 3 x49 λ(x50:Nat)(x51:List Value)=>bif aF x42.length&&(aF x50&&x51.length.beq (x50*3)) then ob (rU w (ae ((x42++x51).length/3) (x42++x51))) λ(x52:Value×Int)=>some (x52.fst,x52.snd) else none else none) w rest ch (Int.ofNat x31) 0 cs
theorem SN(l:List UInt8):(cf l).length=1:=rfl
theorem Qr(l:List bj):ae ((l.flatMap cj).length/3) (l.flatMap cj)=cM l:=by
 unfold cM ax
 rw[cK gV,Nat.mul_div_cancel _ (show 0<3 by decide)]
theorem Re(w:Nat)(m:Int)(d:List UInt8)(P:List bj)(h:P.length<300000000):uB w m (ag d) (P.flatMap cj)=some ((P++([⟨m,d,[]⟩]:List bj)).flatMap cj):=by
 unfold uB xf
 simp only[(cK gV P),(show aF (P.length*3)=true from by simp;omega)]
 rw[List.flatMap_append]
 rfl
theorem V0{w m:Nat}(A:Hand w)(s0:bj)(r P:List bj)(ch:List (List UInt8))(L:List bj)(hL:L=P++(ch.map (λc=>⟨226,c,[]⟩)++r))(hm:m<2^27)(hs:sB L m)(hl:L.length<2^27)(hw:L.length<w/\m<w/\20<=w)(h:jX L=true)(hb:(cu L).length<2^28):NN w (cM (s0::r)) (ax cf ch) (P.flatMap cj)=some (ag (cu L),0):=by
 have hLl:L.length=P.length+(ch.length+r.length):=by rw[hL];simp
 unfold NN
 refine kI (σ:=List bj) (ev:=λi s (g:Value->Value->Int->Int->List Value->Option (Value×Int))=>g (cM (s0::r)) (ax cf ch) ch.length i (s.flatMap cj)) (Inv:=λi s=>s++((ch.drop i).map (λc=>⟨226,c,[]⟩)++r)=L) ch.length P ?_ ?_ ?_ (by omega)
 ·rw[List.drop_zero,<-hL]
 ·rintro i g s hi hI
  rw[List.drop_eq_getElem_cons hi,List.map_cons] at hI
  refine⟨s++[⟨226,ch[i],[]⟩],by rw[<-hI];simp,?_⟩
  have hlen:=congrArg List.length hI
  simp at hlen
  have e1:((i:Int)<(ch.length:Int)):=by omega
  simp only[aO,e1,cond_true,bF]
  rw[bn SN hi]
  have tg:∀(b:List UInt8)(r:List Value),cf b++r=ag b::r:=λ_ _=>rfl
  simp only[tg,aX]
  rw[Re w 226 ch[i] s (by omega)]
  simp only[bO]
  rw[aJ (by omega) (by omega)]
  rfl
 ·rintro g s hI
  simp at hI
  have hlen:=congrArg List.length hI
  simp at hlen
  have e1:¬((ch.length:Int)<(ch.length:Int)):=by omega
  simp only[aO,e1,cond_false]
  have hlr:∀K:Nat->Option (Value×Int),ak (cM (s0::r)) K=K (r.length+1):=λK=>bV cj (s0::r) K
  simp only[hlr,eV,(by omega),Nat.le_refl,decide_true,Bool.and_self,cond_true]
  unfold cM
  rw[qL gV (s0::r) (show r.length+1<=(s0::r).length by simp)]
  have e3:((s0::r).drop 1).take (r.length+1 -1)=r:=by simp
  rw[e3,sX gV]
  have hf2:(r.flatMap cj).length=r.length*3:=cK gV r
  have r1:aF (s.length*3)=true:=by simp;omega
  have r2:aF r.length=true:=by simp;omega
  rw[(cK gV s),hf2,r1,r2,Nat.beq_refl]
  rw[<-List.flatMap_append,hI,Qr,Rf A L hm hs hl hw h hb]
  rfl
theorem Il:∀{r:List bj}{s:bj},s∈r->(cq s).length<=(cu r).length
 |[],s,h=>by grind
 |a::r,s,h=>by
  rw[iO,List.length_append]
  rcases List.mem_cons.1 h with rfl|h
  ·simp
  ·have:=Il h;omega
theorem QX{w m:Nat}(W:cU w){x:kS}{aL:List UInt8}(h:uX x aL)(hx:hU x.az 9000)(hm:m<2^24)(hc:x.core.length<=m/\x.bL.length<=m/\x.bY.length<=m)(hw:2*m+200000<w)(a b:Int):
 um w x.az.order (au x.az.bQ) (au x.az.bm) (au x.az.bD) (au x.az.aZ) (au x.az.first) (ag x.az.bk) (ag x.az.cm) (ag x.bL) (ag x.core) (ag x.bY) a b=some (ag (dM x aL),0):=by
 have hb:=W.iE
 have hA:=W.hand
 obtain⟨-,hp1,hp2,hp3,-⟩:=yX h.app h.rows
 obtain⟨r,c1,c2,c3,c4,c5,c6⟩:=zk h.core
 have hmayL:=MB h.core hp2 h.bL (by rcases h.bY with q|q;omega;exact q.2)
 have hcl:(⟨216,[],[]⟩::r:List bj).length<=x.core.length+1:=Au _ _ _ _ _ _ c1
 have hrl:r.length<=x.core.length:=by simpa using hcl
 have hchl:(eA x.bL).length<=1:=by unfold eA;split<;>simp
 have hLdef:iv x aL=[⟨216,[],[]⟩,⟨225,aL,[]⟩]++((if x.bY.length=0 then[] else[⟨226,x.bY,[]⟩])++((eA x.bL).map (λc=>⟨226,c,[]⟩)++r)):=by unfold iv;rw[c2];rfl
 have hLl:(iv x aL).length<=x.core.length+4:=by
  rw[hLdef]
  simp only[List.length_append,List.length_map,List.length_cons,List.length_nil]
  split<;>simp<;>omega
 have hwr:∀s∈r,(cq s).length<=x.core.length:=by
  intro s hs
  have:=congrArg List.length c4
  rw[iO,List.length_append] at this
  have hle:=Il hs
  omega
 have hmayC:jX (⟨216,[],[]⟩::r)=true:=by
  show(true&&gJ r)=true
  rw[c3];rfl
 have hsegs:sB (iv x aL) (m+70000):=by
  intro s hs
  rw[hLdef] at hs
  rcases List.mem_append.1 hs with hs|hs
  ·simp only[List.mem_cons,List.not_mem_nil,or_false] at hs
   rcases hs with rfl|rfl
   ·simp
   ·simp only[List.length_nil];omega
  ·rcases List.mem_append.1 hs with hs|hs
   ·split at hs
    ·cases hs
    ·rw[List.mem_singleton.1 hs];simp only[List.length_nil];omega
   ·rcases List.mem_append.1 hs with hs|hs
    ·obtain⟨c,hc',rfl⟩:=List.mem_map.1 hs
     have:=K8 h.bL hc'
     simp only[List.length_nil];omega
    ·have h1:=hwr s hs
     by_cases ha:gq s.bE=true
     ·obtain⟨-,-,q,-⟩:=Kc hmayC (List.mem_cons_of_mem _ hs)
      obtain⟨q1,q2⟩:=q ha
      rw[q1,q2];simp
     ·unfold cq at h1
      rw[if_neg ha] at h1
      simp at h1
      omega
 have hwl:(cu (iv x aL)).length<2^28:=by
  have e:cu (iv x aL)=cq ⟨216,[],[]⟩++(cq ⟨225,aL,[]⟩++(cu (if x.bY.length=0 then[] else[⟨226,x.bY,[]⟩])++(cu ((eA x.bL).map (λc=>⟨226,c,[]⟩))++cu r))):=by
   rw[hLdef];simp[cu]
  have k1:(cq ⟨216,[],[]⟩).length=2:=rfl
  have k2:(cq ⟨225,aL,[]⟩).length<=aL.length+4:=by unfold cq;split<;>simp<;>omega
  have k3:(cu (if x.bY.length=0 then[] else[⟨226,x.bY,[]⟩])).length<=x.bY.length+4:=by
   split
   ·simp[cu]
   ·simp only[cu,List.flatMap_cons,List.flatMap_nil,List.append_nil]
    unfold cq;split<;>simp<;>omega
  have k4:(cu ((eA x.bL).map (λc=>⟨226,c,[]⟩))).length<=x.bL.length+30:=by
   unfold eA
   split
   ·simp[cu]
   ·simp[cu]
    unfold cq;split<;>simp[ef]<;>omega
  have k5:(cu r).length<=x.core.length:=by
   have:=congrArg List.length c4
   rw[iO,List.length_append] at this
   omega
  rw[e]
  simp only[List.length_append,k1]
  omega
 have hcut:=hA.cut x.bL h.bL
 have h32:=Ju W hx
 rw[h.app] at h32
 have hmb:x.core.length<2^28:=by omega
 have h50:=JC (w:=w) x.core hmb (by omega)
 rw[h.core] at h50
 have h52:=JE (w:=w) x.core hmb (by omega)
 rw[c1] at h52
 have ix0:∀(K:List Value->Option (Value×Int)),aE 3 0 (cM (⟨216,[],[]⟩::r)) K=K (.int .i64 216::ag []::ag []::r.flatMap cj):=by
  intro K
  unfold cM
  rw[bn gV (show 0<(⟨216,[],[]⟩::r:List bj).length by simp)]
  rfl
 have h53:JF w 225 (ag aL) [Value.int .i64 216,ag [],ag []]=some ([⟨216,[],[]⟩,⟨225,aL,[]⟩].flatMap cj):=rfl
 have fin:=λP hL=>V0 (m:=m+70000) hA ⟨216,[],[]⟩ r P (eA x.bL) (iv x aL) hL (by omega) hsegs (by omega) ⟨by omega,by omega,by omega⟩ hmayL hwl
 unfold um H5 Ig
 rw[h32]
 simp only[ay,show ai 0 0=true from rfl,Bool.not_true,cond_false]
 rw[hcut]
 simp only[ay,show ai 0 0=true from rfl,Bool.not_true,cond_false]
 rw[h50]
 simp only[ay,Bool.not_true,cond_false,cg]
 by_cases hmp:x.bY.length=0
 ·have e1:aj 0 (Int.ofNat x.bY.length)=false:=by rw[hmp];rfl
  have e2:aj 65533 (Int.ofNat x.bY.length)=false:=by rw[hmp];rfl
  simp only[e1,e2,cond_false]
  rw[h52]
  simp only[ay,ix0,aX,bN]
  rw[h53]
  simp only[ay]
  exact fin _ (by rw[hLdef,if_pos hmp];rfl)
 ·have e1:aj 0 (Int.ofNat x.bY.length)=true:=by simp;omega
  obtain⟨m1,m2⟩:=h.bY.resolve_left hmp
  have e2:aj 65533 (Int.ofNat x.bY.length)=false:=by simp;omega
  simp only[e1,cond_true]
  rw[JD,m1]
  simp only[ay,Bool.not_true,cond_false,e2]
  rw[h52]
  simp only[ay,ix0,aX,bN]
  rw[h53]
  simp only[ay]
  rw[Re w 226 x.bY _ (by simp)]
  simp only[ay]
  exact fin _ (by rw[hLdef,if_neg hmp];simp)
end
section
set_option linter.unusedVariables false
set_option linter.unusedSimpArgs false
set_option linter.unusedSectionVars false
set_option linter.constructorNameAsVariable false
def dk(T:List Nat):List Value:=T.map λn:Nat=>.int .u64 (n:Int)
theorem Sn{T:List Nat}{i:Nat}(h:i<T.length):(dk T).drop i=.int .u64 (T[i]:Int)::dk (T.drop (i+1)):=by
 unfold dk
 rw[<-List.map_drop,List.drop_eq_getElem_cons h,List.map_cons]
def zc(T:List Nat)(p:Nat):Bool:=((T[p/64]?).getD 0).testBit (p%64)
def eQ(S:List bc)(p:Nat):Bool:=S.any λs=>decide (s.at_<=p/\p<s.at_+s.bU)
structure Tk(T:List Nat)(L:Nat)(P:Nat->Bool):Prop where
 len:T.length=L/64+1
 lt:∀n∈T,n<2^64
 bit:∀p,p<L->zc T p=P p
theorem Ny(p:Nat)(hp:p<2^60):ah IntKind.u64 (((BitVec.ofInt 64 (ah IntKind.u64 (p:Int))&&&BitVec.ofInt 64 63).toNat:Nat):Int)=((p%64:Nat):Int):=by
 rw[oY (n:=(p:Int)) (by simp) (by omega)]
 have e:(BitVec.ofInt 64 (p:Int)&&&BitVec.ofInt 64 63).toNat=p%64:=by
  rw[BitVec.ofInt_natCast,BitVec.toNat_and,BitVec.toNat_ofNat,Nat.mod_eq_of_lt (by omega)]
  exact Nat.and_two_pow_sub_one_eq_mod p 6
 rw[e]
 exact oY (by omega) (by omega)
theorem SH(n k:Nat)(hn:n<2^64)(hk:k<64):ai (((BitVec.ofInt 64 ((n:Int).fdiv (2^min ((k:Int)).toNat 64))&&&BitVec.ofInt 64 1).toNat:Nat):Int) 1=n.testBit k:=by
 rw[Int.toNat_natCast,Nat.min_eq_left (by omega)]
 have e:(n:Int).fdiv (2^k)=((n/2^k:Nat):Int):=by grind
 rw[e,BitVec.ofInt_natCast,bT]
 grind
theorem or_eq(n k:Nat)(hn:n<2^64)(hk:k<64):ah IntKind.u64 (((BitVec.ofInt 64 (n:Int)|||BitVec.ofInt 64 (ah IntKind.u64 (Int.mul 1 (2^min ((k:Int)).toNat 64)))).toNat:Nat):Int)=((n|||2^k:Nat):Int)/\n|||2^k<2^64:=by
 have hk2:2^k<2^64:=Nat.pow_lt_pow_right (by simp) hk
 have hor:=Nat.or_lt_two_pow hn hk2
 refine⟨?_,hor⟩
 rw[Int.toNat_natCast,Nat.min_eq_left (by omega),lu,Int.one_mul,(show(2:Int)^k=((2^k:Nat):Int) from(Int.natCast_pow 2 k).symm),oY (n:=((2^k:Nat):Int)) (Int.natCast_nonneg _) (by grind),BitVec.ofInt_natCast,BitVec.ofInt_natCast,BitVec.toNat_or,BitVec.toNat_ofNat,BitVec.toNat_ofNat,Nat.mod_eq_of_lt hn,Nat.mod_eq_of_lt hk2]
 exact oY (by simp) (by omega)
theorem Ex(p:Nat)(hp:p<2^60):(p:Int).fdiv (2^6)=((p/64:Nat):Int):=by grind
theorem ace(w:Nat){T:List Nat}{L:Nat}{P:Nat->Bool}(H:Tk T L P)(hL:L<2^50)(p:Nat)(hp:p<L)(b:Value)(o:Int)(sh:Value)(c:Nat)(no so:Int)(S:List Value):
 CT w (p:Int) b o sh T.length c no so (dk T) S=some (P p,b,o,sh,T.length,c,no,so,dk T,S):=by
 have hlt:p/64<T.length:=by rw[H.len];omega
 have hb:=H.bit p hp
 unfold zc at hb
 rw[List.getElem?_eq_getElem hlt,Option.getD_some] at hb
 unfold CT tR
 rw[Ex p (by omega)]
 simp only[bF,jQ,hlt,decide_true,cond_true,Nat.mul_one,Nat.zero_add]
 rw[Sn hlt]
 simp only[aX,bN]
 rw[(Ny p (by omega))]
 simp only[aO,(show¬(((p%64:Nat):Int)<0) from by omega),decide_false,cond_false]
 have hx:=SH T[p/64] (p%64) (H.lt _ (List.getElem_mem hlt)) (by omega)
 rw[hb] at hx
 have hle:(BitVec.ofInt 64 ((T[p/64]:Int).fdiv (2^min (((p%64:Nat):Int)).toNat 64))&&&BitVec.ofInt 64 1).toNat<=1:=by
  rw[BitVec.toNat_and]
  have:(BitVec.ofInt 64 1).toNat=1:=rfl
  rw[this,Nat.and_one_is_mod]
  omega
 rw[(λz hz=>oY (by omega) (by omega)) _ hle,hx]
theorem aaI{T:List Nat}{L:Nat}{P:Nat->Bool}(H:Tk T L P){p:Nat}(hp:p<L):Tk (T.set (p/64) ((T[p/64]?).getD 0|||2^(p%64))) L (λq=>P q||decide (q=p)):=by
 have hlt:p/64<T.length:=by rw[H.len];omega
 have hw:(T[p/64]?).getD 0<2^64:=by
  rw[List.getElem?_eq_getElem hlt]
  exact H.lt _ (List.getElem_mem hlt)
 refine⟨by rw[List.length_set,H.len],λn hn=>?_,λq hq=>?_⟩
 ·rcases List.mem_or_eq_of_mem_set hn with h|h
  ·exact H.lt n h
  ·rw[h];exact Nat.or_lt_two_pow hw (Nat.pow_lt_pow_right (by simp) (by omega))
 ·have hb:=H.bit q hq
  unfold zc at hb⊢
  grind
theorem CG{w:Nat}{T:List Nat}{L:Nat}{S S':List bc}{x:bc}(H:Tk T L (eQ S))(hL:L<2^50)(hw:L+2<w)(ht:iZ L S x=.ok S')(hS:S.length<100000000)(b:List UInt8)(hb:b.length=L)(o:Int)(sh:Value)(c:Nat)(no so:Int):
 S'=S++[x]/\∃T',Tk T' L (eQ S')/\T'.length=T.length/\nS w x.kQ x.dir x.tag (x.at_:Int) (x.bU:Int) (ag b) o sh T.length c no so (dk T) (S.flatMap bH)=some (.inl (ag b,o,sh,T.length,c,no,so,dk T',S'.flatMap bH)):=by
 unfold iZ at ht
 split at ht
 case isFalse=>cases ht
 rename_i h1
 split at ht
 ·cases ht
 rename_i h2
 injection ht with ht
 subst ht
 refine⟨rfl,?_⟩
 obtain⟨he,hr⟩:=h1
 have hcl:∀q,x.at_<=q->q<x.at_+x.bU->eQ S q=false:=by
  intro q q1 q2
  unfold eQ
  rw[List.any_eq_false]
  intro s hs
  simp only[decide_eq_true_eq]
  intro hq
  apply h2
  unfold zg
  rw[List.any_eq_true]
  exact⟨s,hs,by simp only[decide_eq_true_eq];omega⟩
 have hfin:∀q,(eQ (S++[x]) q)=(eQ S q||decide (x.at_<=q/\q<x.at_+x.bU)):=by
  intro q
  unfold eQ
  rw[List.any_append]
  simp
 have H0:Tk T L (λq=>eQ S q||decide (x.at_<=q/\q<x.at_+0)):=by
  refine⟨H.len,H.lt,λq hq=>?_⟩
  rw[H.bit q hq]
  have:decide (x.at_<=q/\q<x.at_+0)=false:=by simp
  rw[this,Bool.or_false]
 unfold nS Ia Ie tR
 have hmod:(x.at_:Int).tmod 2=0:=by
  rw[Int.tmod_eq_emod_of_nonneg (by omega)]
  omega
 rw[hmod]
 simp only[show ai 0 0=true from rfl,cond_true,cg]
 rw[CS w ⟨by simp only[Int.ofNat_eq_natCast];omega,by simp only[Int.ofNat_eq_natCast];omega⟩ (by omega)]
 have hroom:(0<=(x.at_:Int)/\0<=(x.bU:Int)/\(x.at_:Int)<=Int.ofNat b.length/\(x.bU:Int)<=Int.ofNat b.length -(x.at_:Int)):=by
  simp only[Int.ofNat_eq_natCast];omega
 simp only[ay,hroom,and_self,decide_true]
 have h232:dI w true 4=some (.inl ()):=rfl
 rw[h232]
 simp only[ay,fX]
 generalize hG:lp _ _=G
 have hF:=VJ hG
 clear hG
 have key:∀(d k v:Nat)(T:List Nat),k+d=x.bU->d<v->Tk T L (λq=>eQ S q||decide (x.at_<=q/\q<x.at_+k))->
  ∃T',Tk T' L (eQ (S++[x]))/\T'.length=T.length/\G v ((x.at_+k:Nat):Int) (ag b) o sh T.length c no so x.kQ x.dir x.tag (x.at_:Int) (x.bU:Int) (dk T) (S.flatMap bH)=some (.inl (ag b,o,sh,T.length,c,no,so,dk T',(S++[x]).flatMap bH)):=by
  intro d
  induction d with
  |zero=>
   intro k v T hk hv HT
   obtain⟨u,rfl⟩:∃u,v=u+1:=⟨v -1,by omega⟩
   refine⟨T,⟨HT.len,HT.lt,λq hq=>?_⟩,rfl,?_⟩
   ·rw[HT.bit q hq,hfin,show k=x.bU by omega]
   ·simp only[hF]
    rw[bO,aJ (by omega) (by omega)]
    have e1:¬(((x.at_+k:Nat):Int)<(x.at_:Int)+(x.bU:Int)):=by omega
    have hr1:aF (S.length*5)=true:=by simp;omega
    simp only[aO,e1,decide_false,cond_false,rW,hr1,show aF 1=true from rfl,List.drop_zero,List.take_succ_cons,List.take_zero,List.length_cons,List.length_nil,Bool.true_and]
    rw[show Nat.beq (0+1+1+1+1+1) 5=true from rfl,cond_true,List.flatMap_append]
    rfl
  |succ d ih=>
   intro k v T hk hv HT
   obtain⟨u,rfl⟩:∃u,v=u+1:=⟨v -1,by omega⟩
   have hpL:x.at_+k<L:=by omega
   have hlt:(x.at_+k)/64<T.length:=by rw[HT.len];omega
   have H2:=aaI HT hpL
   have H3:Tk (T.set ((x.at_+k)/64) ((T[(x.at_+k)/64]?).getD 0|||2^((x.at_+k)%64))) L (λq=>eQ S q||decide (x.at_<=q/\q<x.at_+(k+1))):=by
    refine⟨H2.len,H2.lt,λq hq=>?_⟩
    rw[H2.bit q hq,Bool.or_assoc]
    congr 1
    rw[Bool.eq_iff_iff,Bool.or_eq_true,decide_eq_true_eq,decide_eq_true_eq,decide_eq_true_eq]
    omega
   obtain⟨T',t1,t2,t3⟩:=ih (k+1) u _ (by omega) (by omega) H3
   refine⟨T',t1,by rw[t2,List.length_set],?_⟩
   simp only[hF]
   rw[bO,aJ (n:=(x.at_:Int)+(x.bU:Int)) (by omega) (by omega)]
   have e1:(((x.at_+k:Nat):Int)<(x.at_:Int)+(x.bU:Int)):=by omega
   simp only[aO,e1,decide_true,cond_true]
   have hno:(eQ S (x.at_+k)||decide (x.at_<=x.at_+k/\x.at_+k<x.at_+k))=false:=by
    rw[hcl _ (by omega) (by omega)]
    simp
   rw[ace w HT hL (x.at_+k) hpL,hno]
   simp only[ay]
   have h232:dI w (!false) 5=some (.inl ()):=rfl
   rw[h232]
   simp only[ay,fX]
   rw[Ex _ (by omega)]
   simp only[bF,jQ,hlt,decide_true,cond_true,Nat.mul_one,Nat.zero_add]
   rw[Sn hlt]
   simp only[aX,bN]
   rw[Ny _ (by omega)]
   have e2:¬((((x.at_+k)%64:Nat):Int)<0):=by omega
   simp only[e2,decide_false,cond_false]
   obtain⟨o1,o2⟩:=or_eq T[(x.at_+k)/64] ((x.at_+k)%64) (HT.lt _ (List.getElem_mem hlt)) (by omega)
   rw[o1]
   have e3:(x.at_+k)/64+1<=(dk T).length:=by unfold dk;rw[List.length_map];omega
   simp only[show∀n:Int,(SV.i IntKind.u64 n).cells.length.beq 1=true fromλ_=>rfl,Bool.true_and,eV,e3,decide_true,cond_true,AV,bO]
   rw[aJ (by omega) (by omega),show((x.at_+k:Nat):Int)+1=((x.at_+(k+1):Nat):Int) by omega]
   have hset:(dk T).set ((x.at_+k)/64) (Value.int IntKind.u64 ((T[(x.at_+k)/64]|||2^((x.at_+k)%64):Nat):Int))=dk (T.set ((x.at_+k)/64) ((T[(x.at_+k)/64]?).getD 0|||2^((x.at_+k)%64))):=by
    unfold dk
    rw[List.getElem?_eq_getElem hlt,Option.getD_some,<-List.map_set]
   rw[hset]
   rw[List.length_set] at t3
   exact t3
 exact key x.bU 0 w T (by omega) (by omega) H0
end
section
set_option linter.unusedVariables false
set_option linter.unusedSimpArgs false
set_option linter.unusedSectionVars false
set_option linter.constructorNameAsVariable false
theorem CF{w:Nat}(hw:5<=w)(b:List UInt8)(hb:b.length<2^50){o:Int}(ho:o=1\/o=2)(p s:Nat)(hs:s=2\/s=4)(hp:p+s<=b.length):kh w (ag b) o (p:Int) (s:Int)=some (bK b p s o:Int):=by
 have:=sY (s:=s) (by omega) ho (by omega)
 unfold kh bK
 rw[xy hw b (by omega) _ _ _ (by omega),this]
 simp
structure nv(w L:Nat)(b:List UInt8)(o:Int):Prop where
 len:b.length=L
 small:L<2^29
 wide:L+200000<w
 ord:o=1\/o=2
theorem mH{L:Nat}{S S':List bc}{x:bc}(h:iZ L S x=.ok S'):S'=S++[x]/\x.at_%2=0/\x.at_+x.bU<=L:=by
 unfold iZ at h
 grind
theorem ab4{w L:Nat}{b:List UInt8}{o:Int}(R:nv w L b o){T:List Nat}{S S':List bc}{x:aY}{t:aD}{dir:Nat}(H:Tk T L (eQ S))(h:oI b o dir S x=.ok (t,S'))(hs:x.slot<4294967296)(hS:S'.length<100000000)(sh:Value)(c:Nat)(no so:Int):
 (∃u,S'=S++u)/\∃T' so',Tk T' L (eQ S')/\T'.length=T.length/\
  CJ w x.tag x.ty x.ar (x.slot:Int) (dir:Int) (ag b) o sh T.length c no so (dk T) (S.flatMap bH)=some (.inl (t.tag,t.ty,t.ar,ag t.data,ag b,o,sh,T.length,c,no,so',dk T',S'.flatMap bH)):=by
 have hsm:=R.small
 have hlen:=R.len
 have hw:=R.wide
 have h232:dI w true 6=some (.inl ()):=rfl
 unfold oI at h
 split at h
 ·cases h
 rename_i h1
 have hk:=vW x.ty
 have e1:0<(kindOf x.ty).1 :=by omega
 have e2:¬(x.ar<1):=by omega
 have e3:¬(65536<x.ar):=by omega
 unfold CJ Bj
 rw[Q5]
 simp only[ay,aO,e1,e2,e3,decide_true,decide_false,Bool.not_false,cond_true]
 rw[h232]
 rw[Q6]
 simp only[ay]
 split at h
 ·rename_i h0
  have e4:¬(0<((bu x.ty x.ar:Nat):Int)):=by omega
  simp only[e4,decide_false,cond_false]
  rw[aci (by omega) _ _ _ _ _ R.ord]
  have hl:0<gy x.ty x.ar/\gy x.ty x.ar<=4:=by
   unfold bu at h0
   have hpos:0<gy x.ty x.ar:=by
    unfold gy
    rw[if_neg (by omega)]
    exact Int.mul_pos (by omega) e1
   split at h0<;>omega
  have hv:Dt x.ty x.ar (x.slot:Int) o=(mB x.ty x.ar (aN x.slot 4 o) o).map λd=>(d,((aN x.slot 4 o).drop d.length).all (·==0)):=by
   unfold Dt
   rw[if_pos ⟨by omega,by omega,hl.1,hl.2⟩,Int.toNat_natCast]
  rw[hv]
  split at h
  case h_2=>cases h
  rename_i d hd
  injection h with h
  cases h
  rw[hd]
  simp only[Option.map_some,ay]
  rw[h232]
  refine⟨⟨[],(List.append_nil _).symm⟩,?_⟩
  cases((aN x.slot 4 o).drop d.length).all (·==0)<;>exact⟨T,_,H,rfl,rfl⟩
 ·rename_i h0
  have e4:(0<((bu x.ty x.ar:Nat):Int)):=by omega
  simp only[e4,decide_true,cond_true]
  split at h
  ·cases h
  rename_i S2 ht
  split at h
  case h_2=>cases h
  rename_i d hd
  injection h with h
  cases h
  obtain⟨a1,a2,a3⟩:=mH ht
  obtain⟨_,T',t1,t2,t3⟩:=CG (w:=w) H (by omega) (by omega) (by rw[<-hlen];exact ht) (by rw[a1,List.length_append] at hS;omega) b hlen o sh c no so
  refine⟨⟨_,a1⟩,T',so,t1,t2,?_⟩
  dsimp only at t3 a3
  rw[t3]
  simp only[ay,fX,cg,bF,eV,Nat.le_refl,decide_true,Bool.true_and]
  have e5:x.slot<=b.length:=by omega
  simp[e5]
  rw[mh _ (Nat.le_refl _),List.take_of_length_le (by rw[List.length_drop];omega),Q7 _ _ _ (by rw[List.length_drop];omega) (by rw[List.length_drop];omega) _ R.ord,hd]
  simp
  rw[h232]
  simp
theorem abF{w L:Nat}{b:List UInt8}{o:Int}(R:nv w L b o)(hL:8<=L)(ho:jj b=o)(h42:bK b 2 2 o=42){T:List Nat}(H:Tk T L (eQ []))(sh:Value)(c:Nat)(no so:Int):
 ∃T',Tk T' L (eQ [⟨1,-1,0,0,8⟩])/\T'.length=T.length/\
  Ct w (ag b) 0 sh T.length c no so (dk T) []=some (.inl ((bK b 4 4 o:Int),ag b,o,sh,T.length,c,no,so,dk T',[⟨1,-1,0,0,8⟩].flatMap bH)):=by
 have hsm:=R.small
 have hlen:=R.len
 have hw:=R.wide
 have ht:iZ L [] ⟨1,-1,0,0,8⟩=.ok [⟨1,-1,0,0,8⟩]:=by
  unfold iZ
  rw[if_pos ⟨rfl,by show 0+8<=L;omega⟩]
  rfl
 obtain⟨_,T',t1,t2,t3⟩:=CG (w:=w) H (by omega) (by omega) ht (by decide) b hlen o sh c no so
 refine⟨T',t1,t2,?_⟩
 have h288:=CF (w:=w) (by omega) b (by omega) R.ord 2 2 (.inl rfl) (by omega)
 have h4:=CF (w:=w) (by omega) b (by omega) R.ord 4 4 (.inr rfl) (by omega)
 have e1:¬(Int.ofNat b.length<8):=by simp;omega
 have e2:2<=b.length:=by omega
 have h232:∀n,dI w true n=some (.inl ()):=λ_=>rfl
 unfold Ct xg
 simp only[cg,aO,e1,decide_false,Bool.not_false,h232,ay,fX,eV,e2,decide_true,Bool.true_and,cond_true]
 rw[show decide (0<=2)=true from rfl,mh _ e2,fV,fZ,yv]
 simp only[ay]
 rw[Ai,List.drop_zero]
 have hor:(b.take 2=[73,73]/\o=1)\/(b.take 2=[77,77]/\o=2):=by
  unfold jj at ho
  split at ho
  ·rename_i q;exact .inl ⟨q,ho.symm⟩
  ·split at ho
   ·rename_i q;exact .inr ⟨q,ho.symm⟩
   ·have:=R.ord;omega
 have h42b:ai ((bK b 2 2 o:Nat):Int) 42=true:=by rw[h42];rfl
 rcases hor with⟨q,rfl⟩|⟨q,rfl⟩
 ·rw[q,show jP [73,73] (ByteArray.mk #[73,73]).data.toList=true from rfl]
  rw[show(2:Int)=((2:Nat):Int) from rfl,h288]
  simp only[ay]
  rw[h42b,h232]
  simp
  refine Eq.trans (congrArg (λz=>ob z _) t3) ?_
  simp
  rw[show(4:Int)=((4:Nat):Int) from rfl,h4]
  rfl
 ·rw[q,show jP [77,77] (ByteArray.mk #[73,73]).data.toList=false from rfl,show jP [77,77] (ByteArray.mk #[77,77]).data.toList=true from rfl,cond_true]
  rw[(show kh w (ag b) 2 2 2=some (bK b 2 2 2:Int) from h288)]
  simp only[ay]
  rw[h42b,h232]
  simp
  refine Eq.trans (congrArg (λz=>ob z _) t3) ?_
  simp
  rw[(show kh w (ag b) 2 4 4=some (bK b 4 4 2:Int) from h4)]
  rfl
end
section
set_option linter.unusedVariables false
set_option linter.unusedSimpArgs false
set_option linter.unusedSectionVars false
set_option linter.constructorNameAsVariable false
theorem EJ(b:List UInt8)(o:Int):∀(n p:Nat),(iq b o p n).length=n
 |0,_=>rfl
 |n+1,p=>by show(iq b o (p+12) n).length+1=n+1;rw[EJ]
theorem LI(b:List UInt8)(o:Int):∀(n p i:Nat)(h:i<(iq b o p n).length),(iq b o p n)[i]=vA b (p+12*i) o
 |0,_,i,h=>absurd h (Nat.not_lt_zero _)
 |n+1,p,0,h=>rfl
 |n+1,p,i+1,h=>by
  show(iq b o (p+12) n)[i]'(by simpa[iq] using h)=_
  rw[LI b o n (p+12) i]
  grind
theorem PJ:∀{l:List aY},dD l=true->∀{i:Nat}(h:i+1<l.length),l[i].tag<l[i+1].tag
 |[],_,i,h=>by grind
 |[_],_,i,h=>by grind
 |a::b::l,hr,i,h=>by
  simp[dD] at hr
  cases i with
  |zero=>grind
  |succ i=>exact PJ hr.2 (by grind)
theorem zy(l:List aY){c:List Value}(h:c=l.flatMap bB):ae (c.length/4) c=ax bB l:=by
 rw[h,cK iT,Nat.mul_div_cancel _ (by simp)]
 rfl
theorem TW{l:List aY}{i:Nat}(h:i<l.length):(l.take (i+1)).flatMap bB=(l.take i).flatMap bB++bB l[i]:=by
 rw[List.take_succ_eq_append_getElem h,List.flatMap_append]
 simp
theorem NT(b:List UInt8)(p s:Nat)(o:Int):bK b p s o<256^s:=by
 unfold bK mn
 split
 ·rw[Option.getD_some]
  have hl:(fj b p s o).length<=s:=by
   unfold fj;split<;>simp<;>omega
  exact Nat.lt_of_lt_of_le (F6 (fj b p s o)) (Nat.pow_le_pow_right (by simp) hl)
 grind
theorem NU(b:List UInt8)(p:Nat){o:Int}(h:o=1\/o=2):bK b p 2 o<65536:=NT b p 2 o
theorem Ao(b:List UInt8)(p:Nat)(o:Int):bK b p 4 o<4294967296:=NT b p 4 o
theorem ab2{w L:Nat}{b:List UInt8}{o:Int}(R:nv w L b o){T:List Nat}{S S':List bc}{at_ dir:Nat}(H:Tk T L (eQ S))(h0:at_%2=0)(h1:at_+2<=L)(hn:bK b at_ 2 o≠0)(ht:iZ L S ⟨2,dir,0,at_,6+12*bK b at_ 2 o⟩=.ok S')
 (hr:dD (iq b o (at_+2) (bK b at_ 2 o))=true) (hS:S.length<100000000) (hd:dir<2^40) (sh:Value) (c:Nat) (no so:Int):
 ∃T',Tk T' L (eQ S')/\T'.length=T.length/\
  CH w (at_:Int) (dir:Int) (ag b) o sh T.length c no so (dk T) (S.flatMap bH)=some (.inl (ax bB (iq b o (at_+2) (bK b at_ 2 o)),ag b,o,sh,T.length,c,no,so,dk T',S'.flatMap bH)):=by
 have hsm:=R.small
 have hlen:=R.len
 have hw:=R.wide
 obtain⟨a1,a2,a3⟩:=mH ht
 obtain⟨n,hnn⟩:∃n,bK b at_ 2 o=n:=⟨_,rfl⟩
 have hn2:n<65536:=by rw[<-hnn];exact NU b at_ R.ord
 obtain⟨_,T',t1,t2,t3⟩:=CG (w:=w) H (by omega) (by omega) ht hS b hlen o sh c no so
 refine⟨T',t1,t2,?_⟩
 have h288:=CF (w:=w) (by omega) b (by omega) R.ord at_ 2 (.inl rfl) (by omega)
 have h232:∀k,dI w true k=some (.inl ()):=λ_=>rfl
 have hmod:(at_:Int).tmod 2=0:=by
  rw[Int.tmod_eq_emod_of_nonneg (by omega)]
  omega
 rw[hnn] at hn t3 h288 hr a3⊢
 dsimp only at t3 a3
 unfold CH HZ xa
 rw[hmod,show ai 0 0=true from rfl,cond_true,cg,CS w ⟨by simp only[Int.ofNat_eq_natCast];omega,by simp only[Int.ofNat_eq_natCast];omega⟩ (by omega)]
 have hroom:(0<=(at_:Int)/\(0:Int)<=2/\(at_:Int)<=Int.ofNat b.length/\(2:Int)<=Int.ofNat b.length -(at_:Int)):=by
  simp only[Int.ofNat_eq_natCast];omega
 rw[decide_eq_true hroom]
 simp only[ay]
 rw[h232]
 simp only[ay,fX]
 have h288':kh w (ag b) o (at_:Int) 2=some (n:Int):=h288
 rw[h288']
 simp only[ay]
 rw[show aj 0 (n:Int)=true by rw[aO,decide_eq_true_eq];omega,h232]
 simp only[ay,fX]
 rw[lu,aJ (n:=(12:Int)*(n:Int)) (by omega) (by omega),bO,aJ (n:=(6:Int)+12*(n:Int)) (by omega) (by omega),show(6:Int)+12*(n:Int)=((6+12*n:Nat):Int) by omega,t3]
 simp only[ay,fX]
 obtain⟨E,hE⟩:∃E,E=iq b o (at_+2) n:=⟨_,rfl⟩
 rw[<-hE] at hr⊢
 have hat:at_+6+12*n<=L:=by omega
 have h232:dI w true 2=some (.inl ()):=rfl
 generalize dk T'=U
 generalize S'.flatMap bH=V
 generalize T.length=tl
 have hEl:E.length=n:=by rw[hE,EJ]
 refine gz (ev:=λi (g:Int->Int->Int->Value->Int->Value->Nat->Nat->Int->Int->List Value->List Value->List Value->Option (Value×Value×Int×Value×Nat×Nat×Int×Int×List Value×List Value⊕Int×Value×Int×Value×Nat×Nat×Int×Int×List Value×List Value))=>g at_ n i (ag b) o sh tl c no so U V ((E.take i).flatMap bB)) n ?_ ?_ (by omega)
 ·intro i g hi
  have e1:((i:Int)<(n:Int)):=by omega
  simp only[aO,e1,decide_true,cond_true,bO,lu]
  have hat2:at_<2^30:=by omega
  rw[aJ (n:=(at_:Int)+2) (by omega) (by omega),aJ (n:=(12:Int)*(i:Int)) (by omega) (by omega),aJ (n:=(at_:Int)+2+12*(i:Int)) (by omega) (by omega),show(at_:Int)+2+12*(i:Int)=((at_+2+12*i:Nat):Int) by omega,acf (by omega) b (by omega) _ o R.ord,if_pos (by omega)]
  simp only[ay]
  have hgi:E[i]'(by omega)=vA b (at_+2+12*i) o:=by
   subst hE
   exact LI b o n (at_+2) i _
  have hiE:i<E.length:=by omega
  have hci:bB E[i]=[.int .i64 (bK b (at_+2+12*i) 2 o:Int),.int .i64 (bK b (at_+2+12*i+2) 2 o:Int),.int .i64 (bK b (at_+2+12*i+4) 4 o:Int),.int .i64 (bK b (at_+2+12*i+8) 4 o:Int)]:=by
   rw[hgi];rfl
  have hcl:((E.take i).flatMap bB).length=i*4:=by
   rw[cK iT,List.length_take,Nat.min_eq_left (by omega)]
  have hr1:aF (i*4)=true:=by simp;omega
  have hfin:∀(A:Option (Value×Value×Int×Value×Nat×Nat×Int×Int×List Value×List Value⊕Int×Value×Int×Value×Nat×Nat×Int×Int×List Value×List Value)),(bif aF ((E.take i).flatMap bB).length&&(aF 1&&(List.take 4 (List.drop 0 [Value.int IntKind.i64 (bK b (at_+2+12*i) 2 o:Int),Value.int IntKind.i64 (bK b (at_+2+12*i+2) 2 o:Int),Value.int IntKind.i64 (bK b (at_+2+12*i+4) 4 o:Int),Value.int IntKind.i64 (bK b (at_+2+12*i+8) 4 o:Int)])).length.beq 4) then g at_ n (ah IntKind.i64 ((i:Int)+1)) (ag b) o sh tl c no so U V ((E.take i).flatMap bB++List.take 4 (List.drop 0 [Value.int IntKind.i64 (bK b (at_+2+12*i) 2 o:Int),Value.int IntKind.i64 (bK b (at_+2+12*i+2) 2 o:Int),Value.int IntKind.i64 (bK b (at_+2+12*i+4) 4 o:Int),Value.int IntKind.i64 (bK b (at_+2+12*i+8) 4 o:Int)])) else A)=g at_ n ((i+1:Nat):Int) (ag b) o sh tl c no so U V ((E.take (i+1)).flatMap bB):=by
   intro A
   rw[hcl,hr1,show aF 1=true from rfl,TW hiE,hci,aJ (by omega) (by omega)]
   rfl
  rcases i with _|i
  ·have e0:ai ((0:Nat):Int) 0=true:=rfl
   rw[e0,cond_true]
   exact hfin none
  ·have e0:ai ((i+1:Nat):Int) 0=false:=by rw[bT,decide_eq_false_iff_not];omega
   rw[e0,cond_false,gS,aJ (by omega) (by omega),show((i+1:Nat):Int) -1=(i:Int) by omega,bF,hcl]
   have e2:i*4<(i+1)*4:=by omega
   have hpi:i<E.length:=by omega
   have htk:List.drop (0+i*4+0) ((E.take (i+1)).flatMap bB)=bB E[i]:=by
    rw[show 0+i*4+0=i*4 by omega,mm iT,List.drop_take,show i+1 -i=1 by omega,List.drop_eq_getElem_cons hpi,List.take_succ_cons,List.take_zero]
    simp
   have hlt:=PJ hr (i:=i) (by omega)
   have hg1:(E[i+1]'(by omega)).tag=(bK b (at_+2+12*(i+1)) 2 o:Int):=by rw[hgi];rfl
   rw[hg1] at hlt
   simp only[jQ,e2,decide_true,Bool.and_true,show Nat.beq 4 4=true from rfl,cond_true]
   rw[htk]
   unfold bB
   simp only[aX,bN,hlt,decide_true]
   rw[h232]
   simp only[ay,fX]
   rw[hcl] at hfin
   exact hfin none
 ·intro g
  have e1:¬((n:Int)<(n:Int)):=by omega
  simp only[aO,e1,decide_false,cond_false]
  rw[List.take_of_length_le (by omega),zy E rfl]
theorem abV{w:Nat}(l:List fO)(n a b c:Int)(hl:l.length<2^40)(hw:l.length<w):Jh w (eZ l) n a b c=some (cC (λx=>x.tag==n) l):=by
 refine jV l (λx=>x.tag==n) (ev:=λi (g:Value->List Value->Int->Int->Option Int)=>g (ax jC l) [.int .i64 n,.int .i64 a,.int .i64 b,.int .i64 c] l.length i) ?_ ?_ hw
 ·intro i g h
  simp_all
  rw[bn pH h]
  unfold jC Jv
  simp only[List.cons_append,aX,bN,ay,bT]
  rw[aJ (by omega) (by omega)]
  by_cases e2:l[i].tag=n<;>grind
 ·intro g
  simp
theorem abW{w:Nat}(l:List fO)(n a b c:Int)(hl:l.length<2^40)(hw:l.length<w):Ji w (eZ l) n a b c=some (cC (λx=>x.tag==n) l):=by
 refine jV l (λx=>x.tag==n) (ev:=λi (g:Value->List Value->Int->Int->Option Int)=>g (ax jC l) [.int .i64 n,.int .i64 a,.int .i64 b,.int .i64 c] l.length i) ?_ ?_ hw
 ·intro i g h
  simp_all
  rw[bn pH h]
  unfold jC Jl
  simp only[List.cons_append,aX,bN,ay,bT]
  rw[aJ (by omega) (by omega)]
  by_cases e2:l[i].tag=n<;>grind
 ·intro g
  simp
theorem acg{w:Nat}(l:List fO)(n a b c:Int)(hl:l.length<2^40)(hw:l.length<w):CV w (eZ l) n a b c=some (l.any λx=>x.tag==n):=by
 unfold CV
 rw[abV l n a b c hl hw]
 simp
 have:=tb (λx:fO=>x.tag==n) l
 grind
theorem EZ{α:Type}(p:α->Bool){l:List α}{i:Nat}(h:i<l.length):(l.take (i+1)).filter p=(l.take i).filter p++(if p l[i]=true then[l[i]] else[]):=by
 rw[List.take_succ_eq_append_getElem h]
 grind
theorem T5{α:Type}(p:α->Bool)(l:List α)(i:Nat):((l.take i).filter p).length<=l.length:=by grind
theorem ab3{w:Nat}(E:List aY)(S:aP)(hS:qx S)(hl:S.bt.length<2^40)(hw:S.bt.length<w)(hE:E.length<100000000)(hEw:E.length<w):
 CI w (ax bB E) (eZ S.bt) S.at_ S.bU S.next=some (ax bB (E.filter λx=>dV S x.tag),ax bB (E.filter λx=>dY S x.tag),ax bB (E.filter λx=>!dw S x.tag)):=by
 unfold CI tV rE
 rw[bV]
 refine gz (ev:=λi (g:Value->Int->Int->Value->Int->Int->Int->List Value->List Value->List Value->Option (Value×Value×Value))=>g (ax bB E) E.length i (eZ S.bt) S.at_ S.bU S.next (((E.take i).filter λx=>dV S x.tag).flatMap bB) (((E.take i).filter λx=>dY S x.tag).flatMap bB) (((E.take i).filter λx=>!dw S x.tag).flatMap bB)) E.length ?_ ?_ hEw
 ·intro i g hi
  have e1:((i:Int)<(E.length:Int)):=by omega
  simp only[aO,e1,decide_true,cond_true,bF]
  rw[bn iT hi]
  unfold bB
  simp only[List.cons_append,aX,bN]
  rw[acg S.bt _ _ _ _ hl hw]
  simp only[ay]
  have hlk:(S.bt.any λx=>x.tag==E[i].tag)=dV S E[i].tag:=rfl
  rw[hlk,EZ _ hi,EZ _ hi,EZ _ hi]
  have hr1:∀p:aY->Bool,aF (List.flatMap bB ((E.take i).filter p)).length=true:=by
   intro p
   have:=T5 p E i
   rw[cK iT]
   simp;omega
  have hr1':∀p:aY->Bool,aF (List.flatMap (λx:aY=>[Value.int .i64 x.tag,Value.int .i64 x.ty,Value.int .i64 x.ar,Value.int .i64 (x.slot:Int)]) ((E.take i).filter p)).length=true:=hr1
  simp only[hr1',show aF 1=true from rfl,Bool.true_and,List.drop_zero,List.take_succ_cons,List.take_zero,List.length_cons,List.length_nil,cond_true,bO]
  rw[aJ (by omega) (by omega)]
  have hp:=hS.pair
  cases hk:dV S E[i].tag with
  |true=>
   have hnp:dY S E[i].tag=false:=by
    unfold dV at hk
    rw[List.any_eq_true] at hk
    obtain⟨x,hx,he⟩:=hk
    rw[<-eq_of_beq he]
    exact(hS.bt x hx).2.2
   have hno:dw S E[i].tag=true:=by unfold dw;rw[hk];rfl
   simp[hnp,hno]
  |false=>
   have hno:dw S E[i].tag=dY S E[i].tag:=by unfold dw;rw[hk];rfl
   rw[hno]
   by_cases h1:(0:Int)<S.at_
   ·have hb:dY S E[i].tag=(decide (E[i].tag=S.at_)||decide (E[i].tag=S.bU)):=by
     unfold dY
     rw[decide_eq_true (by omega:S.at_≠0)]
     rfl
    rw[hb]
    simp only[bT]
    by_cases h2:E[i].tag=S.at_
    ·simp[h1,h2]
    ·by_cases h3:E[i].tag=S.bU
     ·simp[h1,h2,h3]
     ·simp[h1,h2,h3]
   ·have hb:dY S E[i].tag=false:=by
     unfold dY
     have:¬(S.at_≠0):=λq=>by have:=hp q;omega
     rw[decide_eq_false this]
     rfl
    rw[hb]
    simp[h1]
 ·intro g
  have e1:¬((E.length:Int)<(E.length:Int)):=by omega
  simp only[aO,e1,decide_false,cond_false,List.take_length]
  rw[zy _ rfl,zy _ rfl,zy _ rfl]
end
section
set_option linter.unusedVariables false
set_option linter.unusedSimpArgs false
set_option linter.unusedSectionVars false
set_option linter.constructorNameAsVariable false
def su(sh:List aP)(b:List UInt8)(o:Int)(L:Nat)(f:Nat)(rec:oh):Prop:=
 ∀(at_ s no:Nat)(Sp:List bc)(d:aK)(next no':Nat)(S':List bc)(T:List Nat)(so:Int)(c:Nat),
  iI b o sh f at_ s no Sp=.ok (d,next,no',S')->s<sh.length->at_<4294967296->S'.length<100000000->no'<2^40->Tk T L (eQ Sp)->
  ∃T' so',Tk T' L (eQ S')/\T'.length=T.length/\
   rec at_ s (ag b) o (bP sh) T.length c no so (dk T) (Sp.flatMap bH)=some (.inl (dT d,dS d,dB d,(next:Int),ag b,o,bP sh,T.length,c,(no':Int),so',dk T',S'.flatMap bH))
theorem ZS{b:List UInt8}{o:Int}{no:Nat}{S S':List bc}{x:aY}{t:aD}(h:oI b o no S x=.ok (t,S')):∃u,S'=S++u:=by
 unfold oI at h
 split at h
 ·grind
 split at h
 ·split at h
  ·simp_all
  grind
 ·split at h
  ·grind
  rename_i S2 ht
  split at h
  ·cases h;exact⟨_,(mH ht).1⟩
  grind
theorem tI{own:Int->Bool}{b:List UInt8}{o:Int}{no:Nat}:∀{E:List aY}{S S':List bc}{ts:List aD},iy own b o no E S=.ok (ts,S')->∃u,S'=S++u
 |[],S,S',ts,h=>by rw[iy] at h;cases h;exact⟨[],(List.append_nil _).symm⟩
 |x::E,S,S',ts,h=>by
  rw[iy] at h
  split at h
  ·split at h
   ·exact tI h
   grind
  split at h
  ·grind
  rename_i hv
  split at h
  ·grind
  rename_i ht
  injection h with h
  cases h
  obtain⟨u,rfl⟩:=ZS hv
  obtain⟨v,rfl⟩:=tI ht
  simp
theorem wU{rd:Nat->Nat->Nat->List bc->Except Int (aK×Nat×Nat×List bc)}(hrd:∀a s no S d n no' S',rd a s no S=.ok (d,n,no',S')->no<=no'/\∃u,S'=S++u){Sh:aP}:∀{K:List aY}{no no':Nat}{S S':List bc}{r:bW},jJ rd Sh K no S=.ok (r,no',S')->no<=no'/\∃u,S'=S++u
 |[],no,no',S,S',r,h=>by rw[jJ] at h;cases h;exact⟨Nat.le_refl _,[],(List.append_nil _).symm⟩
 |x::K,no,no',S,S',r,h=>by
  rw[jJ] at h
  split at h
  ·grind
  split at h
  ·grind
  split at h
  ·grind
  rename_i hr
  injection h with h
  cases h
  obtain⟨a2,v,rfl⟩:=wU hrd hr
  grind
theorem wT{b:List UInt8}{o:Int}{sh:List aP}:∀(f a s no:Nat)(S:List bc)(d:aK)(n no':Nat)(S':List bc),iI b o sh f a s no S=.ok (d,n,no',S')->no<=no'/\∃u,S'=S++u
 |0,a,s,no,S,d,n,no',S',h=>by rw[iI] at h;cases h
 |f+1,a,s,no,S,d,n,no',S',h=>by
  rw[iI] at h
  split at h
  case isFalse=>cases h
  split at h
  ·cases h
  split at h
  ·cases h
  rename_i S1 h1
  split at h
  case isFalse=>cases h
  split at h
  ·cases h
  rename_i h2
  split at h
  ·cases h
  split at h
  ·cases h
  rename_i S3 h3
  obtain⟨u1,e1⟩:∃u,S1=S++u:=⟨_,(mH h1).1⟩
  obtain⟨u2,e2⟩:=tI h2
  obtain⟨k,u3,e3⟩:=wU (wT f) h3
  split at h
  ·split at h
   ·cases h
   split at h
   ·cases h
   rename_i h4
   injection h with h
   cases h
   obtain⟨u4,e4⟩:∃u,S'=S3++u:=⟨_,(mH h4).1⟩
   refine⟨by omega,u1++u2++u3++u4,?_⟩
   rw[e4,e3,e2,e1]
   simp
  ·injection h with h
   cases h
   refine⟨by omega,u1++u2++u3,?_⟩
   rw[e3,e2,e1]
   simp
theorem adf(l:List (Int×aK))(r:bW)(h:l=aI r):ae ((l.flatMap eJ).length/4) (l.flatMap eJ)=ae (bI r) (fb r):=by
 rw[h,cK ql,Nat.mul_div_cancel _ (by simp),qn,J0]
theorem VD{w L:Nat}{b:List UInt8}{o:Int}(R:nv w L b o){sh:List aP}(hsh:gp sh){s:Nat}(hs:s<sh.length)(hlk:(aH sh s).bt.length<100000){f:Nat}{rec:oh}(hrec:su sh b o L f rec){at_ dir no no':Nat}{E P K:List aY}{S S3 S4:List bc}{subs:bW}{blob:List UInt8}{T:List Nat}
 (hK:∀x∈K,dV (aH sh s) x.tag=true/\x.slot<4294967296) (hKl:K.length<70000) (hat:at_+6+12*E.length<=L)
 (h3:jJ (iI b o sh f) (aH sh s) K no S=.ok (subs,no',S3))
 (hfin:(∃p q,P=[p,q]/\q.slot≠0/\p.slot<4294967296/\q.slot<4294967296/\iZ L S3 ⟨4,dir,0,p.slot,q.slot⟩=.ok S4/\blob=(b.drop p.slot).take q.slot)\/(P.length≠2/\S4=S3/\blob=[]))
 (hS:S4.length<100000000) (hno:no'<2^40) (H:Tk T L (eQ S)) (so:Int) (c:Nat) (tc:List Value):
 ∃T' so',Tk T' L (eQ S4)/\T'.length=T.length/\
  Np w rec at_ dir (ax bB E) (ax bB P) (ax bB K) K.length 0 (ag b) o (bP sh) T.length c no so (ae 0 []) (eZ (aH sh s).bt) (aH sh s).at_ (aH sh s).bU (aH sh s).next (dk T) (S.flatMap bH) tc []=
   some (.inl (ae (tc.length/4) tc,ae (bI subs) (fb subs),ag blob,(bK b (at_+2+12*E.length) 4 o:Int),ag b,o,bP sh,T.length,c,(no':Int),so',dk T',S4.flatMap bH)):=by
 have hsm:=R.small
 have hlen:=R.len
 have hw:=R.wide
 have h232:∀n,dI w true n=some (.inl ()):=λ_=>rfl
 have hS34:S3.length<=S4.length:=by
  rcases hfin with⟨p,q,_,_,_,_,ht,_⟩|⟨_,e,_⟩
  ·rw[(mH ht).1,List.length_append];omega
  ·rw[e];exact Nat.le_refl _
 obtain⟨tl,htl⟩:∃tl,T.length=tl:=⟨_,rfl⟩
 rw[htl]
 have key:∀(k i v no:Nat)(S:List bc)(T:List Nat)(so:Int)(r:bW)(D:List (Int×aK)),i+k=K.length->k<v->D.length=i->jJ (iI b o sh f) (aH sh s) (K.drop i) no S=.ok (r,no',S3)->D++aI r=aI subs->Tk T L (eQ S)->T.length=tl->
  ∃T' so',Tk T' L (eQ S4)/\T'.length=tl/\
   lp wh (ri w rec) v at_ dir (ax bB E) (ax bB P) (ax bB K) K.length i (ag b) o (bP sh) tl c no so (ae 0 []) (eZ (aH sh s).bt) (aH sh s).at_ (aH sh s).bU (aH sh s).next (dk T) (S.flatMap bH) tc (D.flatMap eJ)=
    some (.inl (ae (tc.length/4) tc,ae (bI subs) (fb subs),ag blob,(bK b (at_+2+12*E.length) 4 o:Int),ag b,o,bP sh,tl,c,(no':Int),so',dk T',S4.flatMap bH)):=by
  intro k
  induction k with
  |zero=>
   intro i v no S T so r D hi hv hD hr hDr HT hTl
   rw[show K.drop i=[] from List.drop_of_length_le (by omega),jJ] at hr
   injection hr with hr
   cases hr
   rw[show aI bW.nil=[] from rfl,List.append_nil] at hDr
   have e1:¬((i:Int)<(K.length:Int)):=by omega
   have hD2:=adf D subs hDr
   rw[dt wh (ri w rec) (by omega)]
   unfold ri
   simp only[aO,e1,decide_false,cond_false]
   rw[bV]
   have hnx:=CF (w:=w) (by omega) b (by omega) R.ord (at_+2+12*E.length) 4 (.inr rfl) (by omega)
   have haw:ah IntKind.i64 ((ah IntKind.i64 ((at_:Int).add 2)).add (ah IntKind.i64 (Int.mul 12 (Int.ofNat E.length))))=((at_+2+12*E.length:Nat):Int):=by
    rw[bO,bO,lu,bG,aJ (n:=(at_:Int)+2) (by omega) (by omega),aJ (n:=(12:Int)*(E.length:Int)) (by omega) (by omega),aJ (by omega) (by omega)]
    omega
   rcases hfin with⟨p,q,rfl,hq,hp4,hq4,ht,rfl⟩|⟨hP,rfl,rfl⟩
   ·rw[show ai (Int.ofNat [p,q].length) 2=true from rfl,cond_true]
    have x0:∀(K:List Value->oW),aE 4 0 (ax bB [p,q]) K=K (bB p++([q].flatMap bB)):=λK=>bn iT (by show 0<2;omega) K
    have x1:∀(K:List Value->oW),aE 4 1 (ax bB [p,q]) K=K (bB q++([].flatMap bB)):=λK=>bn iT (by show 1<2;omega) K
    have d0:∀(y:aY)(r:List Value),List.drop 3 (bB y++r)=Value.int .i64 (y.slot:Int)::r:=λ_ _=>rfl
    rw[x0,d0]
    simp only[aX,bN]
    rw[x1,d0]
    simp only[aX,bN]
    rw[decide_eq_true (show(0:Int)<(q.slot:Int) by omega),h232]
    simp only[ay,fX]
    obtain⟨a1,a2,a3⟩:=mH ht
    obtain⟨_,T',t1,t2,t3⟩:=CG (w:=w) HT (by omega) (by omega) ht (by rw[a1,List.length_append] at hS;omega) b hlen o (bP sh) c (no':Int) so
    dsimp only at t3 a3
    refine⟨T',so,t1,by rw[t2,hTl],?_⟩
    rw[hTl] at t3
    rw[t3]
    simp only[ay,fX,cg]
    rw[bO,aJ (n:=(p.slot:Int)+(q.slot:Int)) (by omega) (by omega),show(p.slot:Int)+(q.slot:Int)=((p.slot+q.slot:Nat):Int) by omega,bF,bF]
    have e3:p.slot+q.slot<=b.length:=by omega
    have e4:p.slot<=p.slot+q.slot:=by omega
    simp only[eV,e3,e4,decide_true,Bool.and_self,cond_true]
    rw[mh _ e3,show p.slot+q.slot -p.slot=q.slot by omega,oo w _ (by rw[List.length_take,List.length_drop];omega)]
    simp only[ay]
    rw[bV,haw]
    have hnx':kh w (ag b) o ((at_+2+12*E.length:Nat):Int) 4=some (bK b (at_+2+12*E.length) 4 o:Int):=hnx
    rw[hnx']
    simp only[ay]
    rw[hD2]
   ·have e2:ai (Int.ofNat P.length) 2=false:=by rw[bT,decide_eq_false_iff_not,bG];omega
    rw[e2,cond_false,bV,haw]
    have hnx':kh w (ag b) o ((at_+2+12*E.length:Nat):Int) 4=some (bK b (at_+2+12*E.length) 4 o:Int):=hnx
    rw[hnx']
    simp only[ay]
    rw[hD2]
    exact⟨T,so,HT,hTl,rfl⟩
  |succ k ih=>
   intro i v no S T so r D hi hv hD hr hDr HT hTl
   have hiK:i<K.length:=by omega
   have hmem:=List.getElem_mem hiK
   obtain⟨k1,k2⟩:=hK _ hmem
   rw[List.drop_eq_getElem_cons hiK,jJ] at hr
   split at hr
   ·cases hr
   rename_i d next no1 S1 hd
   split at hr
   ·cases hr
   rename_i hnx
   split at hr
   ·cases hr
   rename_i r2 no2 S2 hr2
   injection hr with hr
   cases hr
   have hnx:next=0:=Classical.not_not.1 hnx
   subst hnx
   obtain⟨m1,u,m2⟩:=wU (wT f) hr2
   have e1:((i:Int)<(K.length:Int)):=by omega
   rw[dt wh (ri w rec) (by omega)]
   rcases FO (aH sh s) K[i].tag with⟨_,q⟩|⟨j,hj,q1,_,q3⟩
   ·rw[k1] at q;cases q
   have hsx:=hsh.bt s hs _ (List.getElem_mem hj)
   rw[q3] at hd
   have hsn:(((aH sh s).bt[j].shape.toNat:Nat):Int)=(aH sh s).bt[j].shape:=Int.toNat_of_nonneg (by omega)
   obtain⟨T1,so1,t1,t2,t3⟩:=hrec K[i].slot _ no S d 0 no1 S1 T so c hd (by omega) k2 (by have:=congrArg List.length m2;rw[List.length_append] at this;omega) (by omega) HT
   rw[hTl] at t2 t3
   obtain⟨T',so',v1,v2,v3⟩:=ih (i+1) (v -1) no1 S1 T1 so1 r2 (D++[(K[i].tag,d)]) (by omega) (by omega) (by rw[List.length_append,hD];rfl) hr2 (by rw[<-hDr];simp[aI]) t1 t2
   refine⟨T',so',v1,v2,?_⟩
   rw[<-v3]
   generalize hg:lp wh (ri w rec) (v -1)=g
   unfold ri
   simp only[aO,e1,decide_true,cond_true,bF]
   rw[bn iT hiK]
   have tg:∀(y:aY)(r:List Value),bB y++r=Value.int .i64 y.tag::.int .i64 y.ty::.int .i64 y.ar::.int .i64 (y.slot:Int)::r:=λ_ _=>rfl
   rw[tg]
   simp only[aX,bN]
   rw[abW _ _ _ _ _ (by omega) (by omega),q1]
   simp only[ay,bF]
   rw[show eZ (aH sh s).bt=ax jC (aH sh s).bt from rfl,bn pH hj]
   have dl:∀(y:fO)(r:List Value),List.drop 1 (jC y++r)=Value.int .i64 y.shape::r:=λ_ _=>rfl
   rw[dl]
   simp only[aX,bN]
   rw[<-hsn,t3]
   simp only[ay,fX]
   rw[show ai ((0:Nat):Int) 0=true from rfl,h232]
   simp only[ay,fX]
   have hr1:aF (D.flatMap eJ).length=true:=by
    rw[cK ql];simp;omega
   rw[hr1,bO,aJ (by omega) (by omega),show(i:Int)+1=((i+1:Nat):Int) by omega,List.flatMap_append]
   have hsc:[(K[i].tag,d)].flatMap eJ=[Value.int .i64 K[i].tag,dT d,dS d,dB d]:=by
    show eJ (K[i].tag,d)++[]=_
    unfold eJ
    rw[mU]
    rfl
   rw[hsc]
   rfl
 exact key K.length 0 w no S T so subs [] (by omega) (by omega) rfl (by rw[List.drop_zero];exact h3) rfl H htl
end
section
set_option linter.unusedVariables false
set_option linter.unusedSimpArgs false
set_option linter.unusedSectionVars false
set_option linter.constructorNameAsVariable false
theorem adj{w L:Nat}{b:List UInt8}{o:Int}(R:nv w L b o){sh:List aP}(hsh:gp sh){s:Nat}(hs:s<sh.length)(hlk:(aH sh s).bt.length<100000){f:Nat}{rec:oh}(hrec:su sh b o L f rec){at_ dir no no':Nat}{E:List aY}{S S2 S3 S4:List bc}{tags:List aD}{subs:bW}{blob:List UInt8}{T:List Nat}
 (hE:∀x∈E,x.slot<4294967296) (hEl:E.length<65536) (hat:at_+6+12*E.length<=L)
 (h2:iy (dw (aH sh s)) b o dir E S=.ok (tags,S2))
 (hP1:(E.filter λx=>dY (aH sh s) x.tag).length≠1)
 (h3:jJ (iI b o sh f) (aH sh s) (E.filter λx=>dV (aH sh s) x.tag) no S2=.ok (subs,no',S3))
 (hfin:(∃p q,(E.filter λx=>dY (aH sh s) x.tag)=[p,q]/\q.slot≠0/\p.slot<4294967296/\q.slot<4294967296/\iZ L S3 ⟨4,dir,0,p.slot,q.slot⟩=.ok S4/\blob=(b.drop p.slot).take q.slot)\/((E.filter λx=>dY (aH sh s) x.tag).length≠2/\S4=S3/\blob=[]))
 (hS:S4.length<100000000) (hno:no'<2^40) (hdir:dir<2^40) (H:Tk T L (eQ S)) (so:Int) (c:Nat):
 ∃T' so',Tk T' L (eQ S4)/\T'.length=T.length/\
  RG w rec at_ dir (ax bB E) (ax bB (E.filter λx=>dV (aH sh s) x.tag)) (ax bB (E.filter λx=>dY (aH sh s) x.tag)) (ax bB (E.filter λx=>!dw (aH sh s) x.tag)) (ax bB E) E.length 0 (ag b) o (bP sh) T.length c no so (ae 0 []) (eZ (aH sh s).bt) (aH sh s).at_ (aH sh s).bU (aH sh s).next (dk T) (S.flatMap bH) [] []=
   some (.inl (au tags,ae (bI subs) (fb subs),ag blob,(bK b (at_+2+12*E.length) 4 o:Int),ag b,o,bP sh,T.length,c,(no':Int),so',dk T',S4.flatMap bH)):=by
 have hsm:=R.small
 have hlen:=R.len
 have hw:=R.wide
 have h232:∀n,dI w true n=some (.inl ()):=λ_=>rfl
 obtain⟨tl,htl⟩:∃tl,T.length=tl:=⟨_,rfl⟩
 rw[htl]
 have hS24:S2.length<=S4.length:=by
  obtain⟨_,u,e⟩:=wU (wT f) h3
  have e:=congrArg List.length e
  rw[List.length_append] at e
  rcases hfin with⟨p,q,_,_,_,_,ht,_⟩|⟨_,e',_⟩
  ·rw[(mH ht).1,List.length_append];omega
  ·rw[e'];omega
 have key:∀(k i v:Nat)(S:List bc)(T:List Nat)(so:Int)(ts D:List aD),i+k=E.length->k<v->D.length<=i->iy (dw (aH sh s)) b o dir (E.drop i) S=.ok (ts,S2)->D++ts=tags->Tk T L (eQ S)->T.length=tl->
  ∃T' so',Tk T' L (eQ S4)/\T'.length=tl/\
   lp uK (oS w rec) v at_ dir (ax bB E) (ax bB (E.filter λx=>dV (aH sh s) x.tag)) (ax bB (E.filter λx=>dY (aH sh s) x.tag)) (ax bB ((E.drop i).filter λx=>!dw (aH sh s) x.tag)) (ax bB E) E.length i (ag b) o (bP sh) tl c no so (ae 0 []) (eZ (aH sh s).bt) (aH sh s).at_ (aH sh s).bU (aH sh s).next (dk T) (S.flatMap bH) (D.flatMap bR) []=
    some (.inl (au tags,ae (bI subs) (fb subs),ag blob,(bK b (at_+2+12*E.length) 4 o:Int),ag b,o,bP sh,tl,c,(no':Int),so',dk T',S4.flatMap bH)):=by
  intro k
  induction k with
  |zero=>
   intro i v S T so ts D hi hv hD hr hDr HT hTl
   rw[show E.drop i=[] from List.drop_of_length_le (by omega),iy] at hr
   injection hr with hr
   cases hr
   rw[List.append_nil] at hDr
   subst hDr
   have e1:¬((i:Int)<(E.length:Int)):=by omega
   rw[dt uK (oS w rec) (by omega)]
   unfold oS xe
   simp only[aO,e1,decide_false,cond_false]
   rw[bV]
   have e2:ai (Int.ofNat (E.filter λx=>dY (aH sh s) x.tag).length) 1=false:=by rw[bT,decide_eq_false_iff_not,bG];omega
   rw[e2,show(!false)=true from rfl,h232]
   simp only[ay,fX]
   rw[bV]
   have hKl:=List.length_filter_le (λx:aY=>dV (aH sh s) x.tag) E
   obtain⟨T',so',t1,t2,t3⟩:=VD R hsh hs hlk hrec (at_:=at_) (dir:=dir) (E:=E) (P:=E.filter λx=>dY (aH sh s) x.tag) (K:=E.filter λx=>dV (aH sh s) x.tag) (T:=T)
    (λx hx=>⟨(List.mem_filter.1 hx).2,hE x (List.mem_filter.1 hx).1⟩) (by omega) hat h3 hfin hS hno HT so c (D.flatMap bR)
   rw[hTl] at t2 t3
   refine⟨T',so',t1,t2,?_⟩
   have htg:ae ((D.flatMap bR).length/4) (D.flatMap bR)=au D:=by
    rw[cK fE,Nat.mul_div_cancel _ (by decide)]
    rfl
   rw[htg] at t3
   exact t3
  |succ k ih=>
   intro i v S T so ts D hi hv hD hr hDr HT hTl
   have hiE:i<E.length:=by omega
   have hmem:=List.getElem_mem hiE
   have e1:((i:Int)<(E.length:Int)):=by omega
   have tg:∀(y:aY)(r:List Value),bB y++r=Value.int .i64 y.tag::.int .i64 y.ty::.int .i64 y.ar::.int .i64 (y.slot:Int)::r:=λ_ _=>rfl
   rw[List.drop_eq_getElem_cons hiE,iy] at hr
   rw[dt uK (oS w rec) (by omega)]
   by_cases ho:dw (aH sh s) E[i].tag=true
   ·rw[if_pos ho] at hr
    split at hr
    case isFalse=>cases hr
    rename_i h41
    obtain⟨T',so',v1,v2,v3⟩:=ih (i+1) (v -1) S T so ts D (by omega) (by omega) (by omega) hr hDr HT hTl
    refine⟨T',so',v1,v2,?_⟩
    rw[<-v3]
    generalize hg:lp uK (oS w rec) (v -1)=g
    have hfl:(E.drop i).filter (λx=>!dw (aH sh s) x.tag)=(E.drop (i+1)).filter (λx=>!dw (aH sh s) x.tag):=by
     rw[List.drop_eq_getElem_cons hiE,List.filter_cons,ho]
     rfl
    rw[hfl]
    generalize hX:(E.drop (i+1)).filter (λx=>!dw (aH sh s) x.tag)=X
    unfold oS xe
    simp only[aO,e1,decide_true,cond_true,bF]
    rw[bn iT hiE,tg]
    simp only[aX,bN]
    rw[bV,h41.1,h41.2]
    have hnx:ah IntKind.i64 ((i:Int).add 1)=((i+1:Nat):Int):=by rw[bO,aJ (by omega) (by omega)];rfl
    have hend:(bif ai 4 4 then ob (dI w (ai 1 1) 6) λ(x112:PUnit⊕Int)=>cD x112 (λ(x113:PUnit)=>g (at_:Int) (dir:Int) (ax bB E) (ax bB (E.filter λx=>dV (aH sh s) x.tag)) (ax bB (E.filter λx=>dY (aH sh s) x.tag)) (ax bB X) (ax bB E) (E.length:Int) (ah IntKind.i64 ((i:Int).add 1)) (ag b) o (bP sh) tl c no so (ae 0 []) (eZ (aH sh s).bt) (aH sh s).at_ (aH sh s).bU (aH sh s).next (dk T) (S.flatMap bH) (D.flatMap bR) []) λ(x114:Int)=>some (Sum.inr (x114,ag b,o,bP sh,tl,c,(no:Int),so,dk T,S.flatMap bH)) else(none:oW))=g (at_:Int) (dir:Int) (ax bB E) (ax bB (E.filter λx=>dV (aH sh s) x.tag)) (ax bB (E.filter λx=>dY (aH sh s) x.tag)) (ax bB X) (ax bB E) (E.length:Int) ((i+1:Nat):Int) (ag b) o (bP sh) tl c no so (ae 0 []) (eZ (aH sh s).bt) (aH sh s).at_ (aH sh s).bU (aH sh s).next (dk T) (S.flatMap bH) (D.flatMap bR) []:=by
     rw[hnx]
     rfl
    rcases X with _|⟨y,X⟩
    ·have e5:decide ((0:Int)<Int.ofNat ([]:List aY).length)=false:=rfl
     rw[e5,cond_false]
     exact hend
    ·have e5:decide ((0:Int)<Int.ofNat (y::X).length)=true:=by rw[decide_eq_true_eq,bG,List.length_cons];omega
     have hy:dw (aH sh s) y.tag=false:=by
      have:=(List.mem_filter.1 (show y∈(E.drop (i+1)).filter (λx=>!dw (aH sh s) x.tag) by rw[hX];exact List.mem_cons_self)).2
      simpa using this
     have cc:¬(E[i].tag=y.tag):=λq=>by rw[q,hy] at ho;cases ho
     have x0:∀(K:List Value->oW),aE 4 0 (ax bB (y::X)) K=K (bB y++(X.flatMap bB)):=λK=>bn iT (l:=y::X) (m:=0) (by rw[List.length_cons];omega) K
     rw[e5,cond_true,x0,tg]
     simp only[aX,bN,bT,cc,decide_false,cond_false]
     have hend2:=hend
     simp only[bT] at hend2
     exact hend2
   ·rw[if_neg ho] at hr
    split at hr
    ·cases hr
    rename_i t S1 hv1
    split at hr
    ·cases hr
    rename_i ts2 S2' ht
    injection hr with hr
    cases hr
    obtain⟨u,hu⟩:=tI ht
    obtain⟨_,T1,so1,t1,t2,t3⟩:=ab4 (w:=w) (dir:=dir) R HT hv1 (hE _ hmem) (by have:=congrArg List.length hu;rw[List.length_append] at this;omega) (bP sh) c (no:Int) so
    rw[hTl] at t2 t3
    obtain⟨T',so',v1,v2,v3⟩:=ih (i+1) (v -1) S1 T1 so1 ts2 (D++[t]) (by omega) (by omega) (by rw[List.length_append,List.length_singleton];omega) ht (by rw[<-hDr];simp) t1 t2
    refine⟨T',so',v1,v2,?_⟩
    rw[<-v3]
    generalize hg:lp uK (oS w rec) (v -1)=g
    have ho':dw (aH sh s) E[i].tag=false:=by simpa using ho
    have hfl:(E.drop i).filter (λx=>!dw (aH sh s) x.tag)=E[i]::(E.drop (i+1)).filter (λx=>!dw (aH sh s) x.tag):=by
     rw[List.drop_eq_getElem_cons hiE,List.filter_cons,ho']
     rfl
    rw[hfl]
    generalize hX:(E.drop (i+1)).filter (λx=>!dw (aH sh s) x.tag)=X
    unfold oS xe
    simp only[aO,e1,decide_true,cond_true,bF]
    rw[bn iT hiE,tg]
    simp only[aX,bN]
    rw[bV]
    have e5:decide ((0:Int)<Int.ofNat (E[i]::X).length)=true:=by rw[decide_eq_true_eq,bG,List.length_cons];omega
    have x0:∀(K:List Value->oW),aE 4 0 (ax bB (E[i]::X)) K=K (bB E[i]++(X.flatMap bB)):=λK=>bn iT (l:=E[i]::X) (m:=0) (by rw[List.length_cons];omega) K
    rw[e5,cond_true,x0,tg]
    simp only[aX,bN,bT,decide_true,cond_true]
    rw[t3]
    simp only[ay,fX]
    have hr1:aF (D.flatMap bR).length=true:=by
     rw[cK fE];simp;omega
    rw[hr1,bV]
    have e6:1<=(E[i]::X).length:=by rw[List.length_cons];omega
    simp only[show aF 1=true from rfl,Bool.true_and,List.drop_zero,List.take_succ_cons,List.take_zero,List.length_cons,List.length_nil,eV,Nat.le_refl,decide_true,show Nat.beq (0+1+1+1+1) 4=true from rfl,cond_true,bO]
    have e7:1<=X.length+1:=by omega
    have e8:decide (1<=X.length+1)=true:=decide_eq_true e7
    rw[e8,cond_true,qL iT (E[i]::X) (a:=1) (b:=X.length+1) (by rw[List.length_cons];omega),show X.length+1 -1=X.length by omega,List.drop_succ_cons,List.drop_zero,List.take_of_length_le (Nat.le_refl _),aJ (n:=(i:Int)+1) (by omega) (by omega),show(i:Int)+1=((i+1:Nat):Int) by omega,List.flatMap_append]
    have htc:[t].flatMap bR=[Value.int .i64 t.tag,.int .i64 t.ty,.int .i64 t.ar,ag t.data]:=rfl
    rw[htc]
 have hfin0:=key E.length 0 w S T so tags [] (by omega) (by omega) (Nat.le_refl _) (by rw[List.drop_zero];exact h2) rfl H htl
 rw[List.drop_zero] at hfin0
 exact hfin0
end
section
set_option linter.unusedVariables false
set_option linter.unusedSimpArgs false
set_option linter.unusedSectionVars false
set_option linter.constructorNameAsVariable false
theorem LJ(b:List UInt8)(o:Int):∀(n p:Nat),∀x∈iq b o p n,x.slot<4294967296
 |0,_,x,h=>by cases h
 |n+1,p,x,h=>by
  rcases List.mem_cons.1 (h) with rfl|h
  ·exact Ao b (p+8) o
  ·exact LJ b o n (p+12) x h
theorem ac2{w L:Nat}{b:List UInt8}{o:Int}(R:nv w L b o){sh:List aP}(hsh:gp sh)(hlk:∀s,s<sh.length->(aH sh s).bt.length<100000){f:Nat}{rec:oh}(hrec:su sh b o L f rec):su sh b o L (f+1) (Di w rec):=by
 have hsm:=R.small
 have hlen:=R.len
 have hw:=R.wide
 intro at_ s no Sp d next no' S' T so c h hs hat hS hno HT
 rw[iI] at h
 split at h
 case isFalse=>cases h
 rename_i h0
 split at h
 ·cases h
 rename_i hn
 split at h
 ·cases h
 rename_i S1 h1
 split at h
 case isFalse=>cases h
 rename_i hr
 split at h
 ·cases h
 rename_i tags S2 h2
 split at h
 ·cases h
 rename_i hP1
 split at h
 ·cases h
 rename_i subs no2 S3 h3
 rw[hlen] at h0 h1
 obtain⟨a1,_,a3⟩:=mH h1
 obtain⟨u2,e2⟩:=tI h2
 obtain⟨k,u3,e3⟩:=wU (wT f) h3
 obtain⟨n,hnn⟩:∃n,bK b at_ 2 o=n:=⟨_,rfl⟩
 have hn2:n<65536:=by rw[<-hnn];exact NU b at_ R.ord
 obtain⟨E,hE⟩:∃E,iq b o (at_+2) n=E:=⟨_,rfl⟩
 have hEl:E.length=n:=by rw[<-hE,EJ]
 have hEs:∀x∈E,x.slot<4294967296:=by rw[<-hE];exact LJ b o n _
 rw[hnn,hE] at h
 dsimp only at a3
 have hS13:Sp.length<=S3.length:=by
  rw[e3,e2,a1];simp only[List.length_append];omega
 have hend:∃S4 blob,((∃p q,(E.filter λx=>dY (aH sh s) x.tag)=[p,q]/\q.slot≠0/\p.slot<4294967296/\q.slot<4294967296/\iZ L S3 ⟨4,(no:Int),0,p.slot,q.slot⟩=.ok S4/\blob=(b.drop p.slot).take q.slot)\/((E.filter λx=>dY (aH sh s) x.tag).length≠2/\S4=S3/\blob=[]))/\
  d=.mk tags subs blob/\next=bK b (at_+2+12*n) 4 o/\no'=no2/\S'=S4:=by
  split at h
  ·rename_i p q hpq
   split at h
   ·cases h
   rename_i hq
   split at h
   ·cases h
   rename_i S4 ht
   injection h with h
   cases h
   refine⟨_,_,.inl ⟨p,q,hpq,hq,?_,?_,by rw[<-hlen];exact ht,rfl⟩,rfl,rfl,rfl,rfl⟩
   ·exact hEs p (List.mem_filter.1 (show p∈E.filter λx=>dY (aH sh s) x.tag by rw[hpq];simp)).1
   ·exact hEs q (List.mem_filter.1 (show q∈E.filter λx=>dY (aH sh s) x.tag by rw[hpq];simp)).1
  ·rename_i hno2
   injection h with h
   cases h
   refine⟨_,_,.inr ⟨λq=>?_,rfl,rfl⟩,rfl,rfl,rfl,rfl⟩
   rcases hF:(E.filter λx=>dY (aH sh s) x.tag) with _|⟨x,_|⟨y,_|⟨z,l⟩⟩⟩<;>grind
 obtain⟨S4,blob,hfin,rfl,rfl,rfl,rfl⟩:=hend
 have hS34:S3.length<=S'.length:=by
  rcases hfin with⟨p,q,_,_,_,_,ht,_⟩|⟨_,e',_⟩
  ·rw[(mH ht).1,List.length_append];omega
  ·rw[e'];omega
 obtain⟨T1,t1,t2,t3⟩:=ab2 R HT h0.1 h0.2 hn h1 hr (by omega) (by omega) (bP sh) c (ah .i64 ((no:Int).add 1)) so
 rw[hnn] at t3 hn h1 hr h2 hP1 h3
 rw[hE] at t3 h2 hP1 h3
 have haw:ah IntKind.i64 ((no:Int).add 1)=((no+1:Nat):Int):=by rw[bO,aJ (by omega) (by omega)];rfl
 rw[haw] at t3
 obtain⟨T',so',v1,v2,v3⟩:=adj R hsh hs (hlk s hs) hrec (at_:=at_) (dir:=no) hEs (by omega) (by omega) h2 hP1 h3 hfin hS hno (by omega) t1 so c
 rw[t2] at v2 v3
 refine⟨T',so',v1,v2,?_⟩
 unfold Di
 rw[bF,show bP sh=ax gM sh from rfl,bn uG hs]
 have hsg:sh[s]=aH sh s:=by unfold aH;rw[List.getElem?_eq_getElem hs];rfl
 have tg:∀(S:aP)(r:List Value),gM S++r=eZ S.bt::.int .i64 S.at_::.int .i64 S.bU::.int .i64 S.next::r:=λ_ _=>rfl
 rw[hsg,tg]
 simp only[aX,bN]
 rw[show ai (no:Int) (no:Int)=true by rw[bT,decide_eq_true_eq],cond_true,haw,show ax gM sh=bP sh from rfl,t3]
 simp only[ay,fX]
 rw[ab3 E _ (hsh.ok s) (by have:=hlk s hs;omega) (by have:=hlk s hs;omega) (by omega) (by omega)]
 simp only[ay]
 rw[bV]
 rw[hEl] at v3
 rw[hEl]
 exact v3
theorem Lm{w L:Nat}{b:List UInt8}{o:Int}(R:nv w L b o){sh:List aP}(hsh:gp sh)(hlk:∀s,s<sh.length->(aH sh s).bt.length<100000)(z:oh):
 ∀(f n:Nat),f<=n->su sh b o L f (mX z (Di w) n)
 |0,n,_=>by
  intro at_ s no Sp d next no' S' T so c h
  cases h
 |f+1,n+1,h=>by
  exact ac2 R hsh hlk (Lm R hsh hlk z f n (by omega))
theorem abG{w L:Nat}{b:List UInt8}{o:Int}(R:nv w L b o){sh:List aP}(hsh:gp sh)(hlk:∀s,s<sh.length->(aH sh s).bt.length<100000){f:Nat}(hf:f<=w):su sh b o L f (Cu w):=Lm R hsh hlk _ f w hf
end
section
set_option linter.unusedVariables false
set_option linter.unusedSimpArgs false
set_option linter.unusedSectionVars false
set_option linter.constructorNameAsVariable false
theorem Pv{rd:Nat->Nat->Nat->List bc->Except Int (aK×Nat×Nat×List bc)}(hrd:∀a s no S d n no' S',rd a s no S=.ok (d,n,no',S')->no'+S.length<=no+S'.length){Sh:aP}:∀{K:List aY}{no no':Nat}{S S':List bc}{r:bW},jJ rd Sh K no S=.ok (r,no',S')->no'+S.length<=no+S'.length
 |[],no,no',S,S',r,h=>by rw[jJ] at h;cases h;exact Nat.le_refl _
 |x::K,no,no',S,S',r,h=>by
  rw[jJ] at h
  split at h
  ·grind
  rename_i hd
  split at h
  ·grind
  split at h
  ·grind
  rename_i hr
  injection h with h
  cases h
  have a1:=hrd _ _ _ _ _ _ _ _ hd
  have a2:=Pv hrd hr
  omega
theorem Pu{b:List UInt8}{o:Int}{sh:List aP}:∀(f a s no:Nat)(S:List bc)(d:aK)(n no':Nat)(S':List bc),iI b o sh f a s no S=.ok (d,n,no',S')->no'+S.length<=no+S'.length
 |0,a,s,no,S,d,n,no',S',h=>by rw[iI] at h;cases h
 |f+1,a,s,no,S,d,n,no',S',h=>by
  rw[iI] at h
  split at h
  case isFalse=>cases h
  split at h
  ·cases h
  split at h
  ·cases h
  rename_i S1 h1
  split at h
  case isFalse=>cases h
  split at h
  ·cases h
  rename_i h2
  split at h
  ·cases h
  split at h
  ·cases h
  rename_i S3 h3
  have e1:=congrArg List.length (mH h1).1
  rw[List.length_append,List.length_singleton] at e1
  obtain⟨u2,e2⟩:=tI h2
  have e2:=congrArg List.length e2
  rw[List.length_append] at e2
  have e3:=Pv (Pu f) h3
  split at h
  ·split at h
   ·cases h
   split at h
   ·cases h
   rename_i h4
   injection h with h
   cases h
   have e4:=congrArg List.length (mH h4).1
   rw[List.length_append] at e4
   omega
  ·injection h with h
   cases h
   omega
theorem ZR{b:List UInt8}{o:Int}{sh:List aP}:∀(f a s no:Nat)(S:List bc)(d:aK)(n no':Nat)(S':List bc),iI b o sh f a s no S=.ok (d,n,no',S')->n<4294967296
 |0,a,s,no,S,d,n,no',S',h=>by rw[iI] at h;cases h
 |f+1,a,s,no,S,d,n,no',S',h=>by
  rw[iI] at h
  split at h
  case isFalse=>cases h
  split at h
  ·cases h
  split at h
  ·cases h
  split at h
  case isFalse=>cases h
  split at h
  ·cases h
  split at h
  ·cases h
  split at h
  ·cases h
  split at h
  ·split at h
   ·cases h
   split at h
   ·cases h
   injection h with h
   cases h
   exact Ao _ _ _
  ·injection h with h
   cases h
   exact Ao _ _ _
theorem Pt{b:List UInt8}{o:Int}{sh:List aP}:∀(f:Nat)(first:Bool)(a:Nat)(s:Int)(no:Nat)(S:List bc)(ds:List aK)(S':List bc),lH b o sh f first a s no S=.ok (ds,S')->∃u,S'=S++u
 |0,first,a,s,no,S,ds,S',h=>by rw[lH] at h;cases h
 |f+1,first,a,s,no,S,ds,S',h=>by
  rw[lH] at h
  split at h
  ·simp_all
  split at h
  ·grind
  split at h
  ·grind
  rename_i hd
  split at h
  ·grind
  rename_i hc
  injection h with h
  cases h
  obtain⟨_,u,rfl⟩:=wT _ _ _ _ _ _ _ _ _ hd
  obtain⟨v,rfl⟩:=Pt f _ _ _ _ _ _ _ hc
  simp
theorem K1{w L:Nat}{b:List UInt8}{o:Int}(R:nv w L b o){sh:List aP}(hsh:gp sh)(hlk:∀s,s<sh.length->(aH sh s).bt.length<100000)(hl:sh.length<100000){S':List bc}(hS:S'.length<100000000)(c:Nat)(tl:Nat):
 ∀(f v at_:Nat)(s:Int)(no:Nat)(Sp:List bc)(D ds:List aK)(T:List Nat)(so:Int),f<v->D.length+f<=sh.length+2->lH b o sh f D.isEmpty at_ s no Sp=.ok (ds,S')->at_<4294967296->s<sh.length->no<=Sp.length->Tk T L (eQ Sp)->T.length=tl->
  ∃T' so' no',lp ze (sK w) v (at_:Int) s (ag b) o (bP sh) tl c (no:Int) so o 0 (dk T) (Sp.flatMap bH) (D.flatMap cx)=some (o,0,ag b,o,bP sh,tl,c,no',so',(D++ds).flatMap cx,dk T',S'.flatMap bH)
 |0,v,at_,s,no,Sp,D,ds,T,so,_,_,h,_,_,_,_,_=>by rw[lH] at h;cases h
 |f+1,v,at_,s,no,Sp,D,ds,T,so,hv,hD,h,hat,hs,hno,HT,hTl=>by
  have hw:=R.wide
  have h232:∀n,dI w true n=some (.inl ()):=λ_=>rfl
  rw[lH] at h
  rw[dt ze (sK w) (by omega)]
  split at h
  ·rename_i h0
   injection h with h
   cases h
   rw[h0.1]
   have hDe:D.length≠0:=by
    intro q
    have:D=[]:=List.length_eq_zero_iff.1 q
    rw[this] at h0
    exact absurd h0.2 (by decide)
   refine⟨T,so,(no:Int),?_⟩
   unfold sK Bk xc
   have e1:aj 0 ((0:Nat):Int)=false:=rfl
   have e2:ai (Int.ofNat ((D.flatMap cx).length/3)) 0=false:=by
    rw[cK jf,bT,decide_eq_false_iff_not,bG];omega
   simp_all
  ·rename_i h0
   split at h
   ·cases h
   rename_i hs0
   split at h
   ·cases h
   rename_i d next no1 S1 hd
   split at h
   ·cases h
   rename_i ds2 S2 hc
   injection h with h
   cases h
   have hst:(s.toNat:Int)=s:=Int.toNat_of_nonneg (by omega)
   have hsl:s.toNat<sh.length:=by omega
   obtain⟨u,hu⟩:=Pt _ _ _ _ _ _ _ _ hc
   have hu:=congrArg List.length hu
   rw[List.length_append] at hu
   have hcn:=Pu _ _ _ _ _ _ _ _ _ hd
   obtain⟨T1,so1,t1,t2,t3⟩:=abG R hsh hlk (f:=sh.length) (by omega) at_ s.toNat no Sp d next no1 S1 T so c hd hsl hat (by omega) (by omega) HT
   rw[hTl] at t2 t3
   rw[hst] at t3
   have hnx:=hsh.next s.toNat hsl
   obtain⟨T',so',no',v3⟩:=K1 R hsh hlk hl hS c tl f (v -1) next (aH sh s.toNat).next no1 S1 (D++[d]) ds2 T1 so1 (by omega) (by rw[List.length_append,List.length_singleton];omega) (by
    have:(D++[d]).isEmpty=false:=by cases D<;>rfl
    rw[this];exact hc) (ZR _ _ _ _ _ _ _ _ _ hd) (by omega) (by omega) t1 t2
   refine⟨T',so',no',?_⟩
   rw[List.append_assoc] at v3
   rw[show D++d::ds2=D++([d]++ds2) from rfl,<-v3]
   generalize hg:lp ze (sK w) (v -1)=g
   have hsn:(!aj s 0)=true:=by rw[aO,decide_eq_false (by omega:¬s<0)];rfl
   have hr1:aF (D.flatMap cx).length=true:=by
    rw[cK jf];simp;omega
   have hsg:sh[s.toNat]=aH sh s.toNat:=by unfold aH;rw[List.getElem?_eq_getElem hsl];rfl
   have tg:∀(S:aP)(r:List Value),(gM S++r).drop 3=.int .i64 S.next::r:=λ_ _=>rfl
   have hdc:List.take 3 (List.drop 0 [dT d,dS d,dB d])=[d].flatMap cx:=by
    rw[List.flatMap_cons,List.flatMap_nil,List.append_nil,mU];rfl
   have x0:∀(K:List Value->Option (Int×Int×Value×Int×Value×Nat×Nat×Int×Int×List Value×List Value×List Value)),aB s (λx58=>aE 4 x58 (bP sh) K)=K (gM (aH sh s.toNat)++(sh.drop (s.toNat+1)).flatMap gM):=by
    intro K
    rw[<-hst,bF,show bP sh=ax gM sh from rfl,Int.toNat_natCast,bn uG hsl,hsg]
   unfold sK Bk xc
   have fin:∀(A:Int->Option (Int×Int×Value×Int×Value×Nat×Nat×Int×Int×List Value×List Value×List Value))(B:Int×Value×Int×Value×Nat×Nat×Int×Int×List Value×List Value->Option (Int×Int×Value×Int×Value×Nat×Nat×Int×Int×List Value×List Value×List Value)),
    (ob (dI w (!aj s 0) 2) λ(x43:PUnit⊕Int)=>cD x43 (λ(x44:PUnit)=>ob (Cu w (at_:Int) s (ag b) o (bP sh) tl c (no:Int) so (dk T) (Sp.flatMap bH)) λx45=>cD x45 (λ(x46:Value×Value×Value×Int×Value×Int×Value×Nat×Nat×Int×Int×List Value×List Value)=>bif aF (D.flatMap cx).length&&(aF 1&&(List.take 3 (List.drop 0 [x46.fst,x46.snd.fst,x46.snd.snd.fst])).length.beq 3) then aB s λ(x47:Nat)=>aE 4 x47 x46.snd.snd.snd.snd.snd.snd.fst λ(x48:List Value)=>af (List.drop 3 x48) λ(x49:Value)(x50:List Value)=>aw IntKind.i64 x49 λ(x51:Int)=>g x46.snd.snd.snd.fst x51 x46.snd.snd.snd.snd.fst x46.snd.snd.snd.snd.snd.fst x46.snd.snd.snd.snd.snd.snd.fst x46.snd.snd.snd.snd.snd.snd.snd.fst x46.snd.snd.snd.snd.snd.snd.snd.snd.fst x46.snd.snd.snd.snd.snd.snd.snd.snd.snd.fst x46.snd.snd.snd.snd.snd.snd.snd.snd.snd.snd.fst o 0 x46.snd.snd.snd.snd.snd.snd.snd.snd.snd.snd.snd.fst x46.snd.snd.snd.snd.snd.snd.snd.snd.snd.snd.snd.snd (D.flatMap cx++List.take 3 (List.drop 0 [x46.fst,x46.snd.fst,x46.snd.snd.fst])) else none) B) A)=g (next:Int) (aH sh s.toNat).next (ag b) o (bP sh) tl c (no1:Int) so1 o 0 (dk T1) (S1.flatMap bH) ((D++[d]).flatMap cx):=by
    intro A B
    rw[hsn,h232]
    simp only[ay,fX]
    rw[t3]
    simp only[ay,fX]
    rw[hr1,hdc,x0,tg]
    simp only[aX,bN]
    rw[List.flatMap_append,show[d].flatMap cx=cx d++[] from rfl,List.append_nil,jf]
    rfl
   by_cases hp:0<at_
   ·have e1:aj 0 (at_:Int)=true:=by rw[aO,decide_eq_true_eq];omega
    rw[e1,cond_true]
    exact fin _ _
   ·have e1:aj 0 (at_:Int)=false:=by rw[aO,decide_eq_false_iff_not];omega
    have hDe:D=[]:=by
     cases D with
     |nil=>rfl
     |cons a l=>exact absurd ⟨by omega,rfl⟩ h0
    have e2:ai (Int.ofNat ((D.flatMap cx).length/3)) 0=true:=by rw[hDe];rfl
    rw[e1,cond_false,e2,cond_true]
    exact fin _ _
theorem PF:∀n:Nat,rep n (Value.int IntKind.u64 0).cells.toList=dk (List.replicate n 0)
 |0=>rfl
 |n+1=>by
  show _++rep n _=_
  rw[PF n]
  rfl
theorem adH(L:Nat):Tk (List.replicate (L/64+1) 0) L (eQ []):=by
 refine⟨List.length_replicate,λn hn=>(by grind),λp hp=>?_⟩
 ·unfold zc eQ
  grind
theorem QD{w:Nat}{b:List UInt8}{sh:List aP}(hb:b.length<2^29)(hw:b.length+200000<w)(hsh:gp sh)(hlk:∀s,s<sh.length->(aH sh s).bt.length<100000)(hl:sh.length<100000)(h0:0<sh.length)(pE:nR w (bP sh)=some true){o:Int}{ds:List aK}{S:List bc}(hS:S.length<100000000)(h:si b sh=.ok (⟨o,ds⟩,S)):
 ud w (ag b) (bP sh)=some (o,cy ds,ax bH S,0):=by
 unfold si at h
 split at h
 ·cases h
 split at h
 ·cases h
 rename_i h42
 split at h
 ·cases h
 rename_i ds1 Sx hc
 injection h with h
 injection h with h1 h2
 injection h1 with h1 h3
 subst h1 h2 h3
 have ho:jj b=1\/jj b=2:=by
  have:jj b≠0:=λq=>h42 (.inl q)
  unfold jj at this⊢
  split
  ·exact .inl rfl
  ·split
   ·exact .inr rfl
   ·rename_i a c;rw[if_neg a,if_neg c] at this;exact absurd rfl this
 have R:nv w b.length b (jj b):=⟨rfl,hb,hw,ho⟩
 obtain⟨T1,t1,t2,t3⟩:=abF R (by omega) rfl (Classical.not_not.1 λq=>h42 (.inr q)) (adH b.length) (bP sh) (b.length/64+1) 0 0
 rw[List.length_replicate] at t2 t3
 obtain⟨T2,so2,no2,v3⟩:=K1 R hsh hlk hl hS (b.length/64+1) (b.length/64+1) (sh.length+2) w (bK b 4 4 (jj b)) 0 0 [⟨1,-1,0,0,8⟩] [] ds1 T1 0 (by omega) (by simp) hc (Ao _ _ _) (by omega) (by omega) t1 t2
 have h180:Cg w (ag b) (bP sh)=some (ag b,0,bP sh,b.length/64+1,b.length/64+1,0,0,dk (List.replicate (b.length/64+1) 0),[]):=by
  unfold Cg
  rw[cg,bG,Ex _ (by omega),bO,aJ (by omega) (by omega),show((b.length/64:Nat):Int)+1=((b.length/64+1:Nat):Int) by omega]
  simp only[bF]
  have e1:b.length/64+1<=1000000000:=by omega
  simp only[eV,Nat.le_refl,e1,decide_true,Bool.and_self,Bool.and_true]
  rw[PF]
  rfl
 have h181:Ch w (ag b) 0 (bP sh) (b.length/64+1) (b.length/64+1) 0 0 (dk (List.replicate (b.length/64+1) 0)) []=some (jj b,0,ag b,jj b,bP sh,b.length/64+1,b.length/64+1,no2,so2,ds1.flatMap cx,dk T2,Sx.flatMap bH):=by
  unfold Ch xc
  rw[pE]
  rw[t3]
  exact v3
 unfold ud
 rw[h180]
 simp
 rw[h181]
 simp only[ay]
 rw[Ru Sx _ rfl,cK jf,Nat.mul_div_cancel _ (by decide)]
 rfl
end
section
set_option linter.unusedVariables false
set_option linter.unusedSimpArgs false
set_option linter.unusedSectionVars false
set_option linter.constructorNameAsVariable false
theorem QW(w:Nat)(a b c t:Int)(d:Value):rO w a b c d t=some (if a<t then-1 else if t<a then 1 else 0):=by
 unfold rO I8 CL
 by_cases h:a<t
 ·simp[h]
 ·by_cases h2:t<a
  ·simp[h,h2]
  ·simp[h,h2]
theorem IU{w:Nat}(l:List aD)(t:Int)(hr:ed l=true)(hl:l.length<2^40)(hw:l.length+2<w):
 ∃i:Nat,ug w (au l) t=some ((i:Int),(fU l t).isSome)/\i<=l.length/\(∀h:(fU l t).isSome=true,∃h':i<l.length,fU l t=some l[i])/\(∀x (h:x<l.length),x<i->l[x].tag<t)/\∀x (h:x<l.length),i<=x->t<=l[x].tag:=by
 have key:∀(k i j v:Nat),j=i+k->j<=l.length->k+1<v->(∀x (h:x<l.length),x<i->l[x].tag<t)->(∀x (h:x<l.length),j<=x->t<=l[x].tag)->
  ∀(z:Value->Int->Int->Int->Int->Option (Int×Bool))(F:(Value->Int->Int->Int->Int->Option (Int×Bool))->Value->Int->Int->Int->Int->Option (Int×Bool)),
  (∀(x8:Value->Int->Int->Int->Int->Option (Int×Bool))(x9:Value)(x10 x11 x12 x13:Int),F x8 x9 x10 x11 x12 x13=bif aj x12 x13 then aB (ah IntKind.i64 ((ah IntKind.u64 (ah IntKind.i64 (x12.add x13))).fdiv (2^1))) λ(x14:Nat)=>aE 4 x14 x9 λ(x15:List Value)=>af x15 λ(x16:Value)(x17:List Value)=>aw IntKind.i64 x16 λ(x18:Int)=>af x17 λ(x19:Value)(x20:List Value)=>aw IntKind.i64 x19 λ(x21:Int)=>af x20 λ(x22:Value)(x23:List Value)=>aw IntKind.i64 x22 λ(x24:Int)=>af x23 λ(x25:Value)(x26:List Value)=>ob (rO w x18 x21 x24 x25 x10) λ(x27:Int)=>bif aj x27 0 then x8 x9 x10 x11 (ah IntKind.i64 ((ah IntKind.i64 ((ah IntKind.u64 (ah IntKind.i64 (x12.add x13))).fdiv (2^1))).add 1)) x13 else x8 x9 x10 x11 x12 (ah IntKind.i64 ((ah IntKind.u64 (ah IntKind.i64 (x12.add x13))).fdiv (2^1))) else bif aj x12 x11 then aB x12 λ(x28:Nat)=>aE 4 x28 x9 λ(x29:List Value)=>af x29 λ(x30:Value)(x31:List Value)=>aw IntKind.i64 x30 λ(x32:Int)=>af x31 λ(x33:Value)(x34:List Value)=>aw IntKind.i64 x33 λ(x35:Int)=>af x34 λ(x36:Value)(x37:List Value)=>aw IntKind.i64 x36 λ(x38:Int)=>af x37 λ(x39:Value)(x40:List Value)=>ob (rO w x32 x35 x38 x39 x10) λ(x41:Int)=>some (x12,ai x41 0) else some (x12,false))->
  ∃i':Nat,lp z F v (au l) t l.length i j=some ((i':Int),(fU l t).isSome)/\i'<=l.length/\(∀h:(fU l t).isSome=true,∃h':i'<l.length,fU l t=some l[i'])/\(∀x (h:x<l.length),x<i'->l[x].tag<t)/\∀x (h:x<l.length),i'<=x->t<=l[x].tag:=by
  intro k
  induction k using Nat.strongRecOn with
  |ind k ih=>
   intro i j v hj hjl hv h1 h2 z F hF
   have tg:∀(y:aD)(r:List Value),bR y++r=Value.int .i64 y.tag::.int .i64 y.ty::.int .i64 y.ar::ag y.data::r:=λ_ _=>rfl
   rw[dt z F (by omega),hF]
   by_cases hk:k=0
   ·subst hk
    have e1:¬((i:Int)<(j:Int)):=by omega
    simp only[aO,e1,decide_false,cond_false]
    by_cases hi:i<l.length
    ·have e2:((i:Int)<(l.length:Int)):=by omega
     simp only[e2,decide_true,cond_true,bF]
     rw[show au l=ax bR l from rfl,bn fE hi,tg]
     simp only[aX,bN]
     rw[QW]
     simp only[ay]
     have hge:=h2 i hi (by omega)
     by_cases he:l[i].tag=t
     ·have hf:fU l t=some l[i]:=by
       unfold fU
       rw[List.find?_eq_some_iff_getElem]
       refine⟨by simp[he],i,hi,rfl,λx hx=>?_⟩
       have:=h1 x (by omega) hx
       simp;omega
      refine⟨i,?_,by omega,λ_=>⟨hi,hf⟩,h1,λx h q=>h2 x h (by omega)⟩
      rw[hf,if_neg (by omega),if_neg (by omega)]
      rfl
     ·have hf:fU l t=none:=by
       unfold fU
       rw[List.find?_eq_none]
       intro y hy
       obtain⟨x,hx,rfl⟩:=List.mem_iff_getElem.1 hy
       have a:=λq=>h1 x hx q
       have b:x=i\/x<i\/i<x:=by omega
       rcases b with rfl|b|b
       ·simpa using he
       ·have:=h1 x hx b;simp;omega
       ·have:=rC hr b hx;simp;omega
      refine⟨i,?_,by omega,(λh=>by rw[hf] at h;cases h),h1,λx h q=>h2 x h (by omega)⟩
      rw[hf,if_neg (by omega),if_pos (by omega)]
      rfl
    ·have e2:¬((i:Int)<(l.length:Int)):=by omega
     simp only[e2,decide_false,cond_false]
     have hf:fU l t=none:=by
      unfold fU
      rw[List.find?_eq_none]
      intro y hy
      obtain⟨x,hx,rfl⟩:=List.mem_iff_getElem.1 hy
      have:=h1 x hx (by omega)
      simp;omega
     exact⟨i,by rw[hf];rfl,by omega,(λh=>by rw[hf] at h;cases h),h1,λx h q=>h2 x h (by omega)⟩
   ·have e1:((i:Int)<(j:Int)):=by omega
    obtain⟨m,hm⟩:∃m,(i+j)/2=m:=⟨_,rfl⟩
    have hmi:i<=m/\m<j:=by omega
    have haw:ah IntKind.i64 ((ah IntKind.u64 (ah IntKind.i64 ((i:Int).add (j:Int)))).fdiv (2^1))=(m:Int):=by
     rw[bO,aJ (n:=(i:Int)+(j:Int)) (by omega) (by omega),oY (by omega) (by omega),show((2:Int)^1)=2 from rfl,Int.fdiv_eq_ediv_of_nonneg _ (by decide),show((i:Int)+(j:Int))/2=(m:Int) by omega,aJ (by omega) (by omega)]
    simp only[aO,e1,decide_true,cond_true]
    rw[haw,bF,show au l=ax bR l from rfl,bn fE (by omega:m<l.length),tg]
    simp only[aX,bN]
    rw[QW]
    simp only[ay]
    by_cases hlt:l[m].tag<t
    ·rw[if_pos hlt,show decide ((-1:Int)<0)=true from rfl,cond_true,bO,aJ (by omega) (by omega),show(m:Int)+1=((m+1:Nat):Int) by omega]
     refine ih (j -(m+1)) (by omega) (m+1) j (v -1) (by omega) hjl (by omega) (λx hx hxm=>?_) h2 z F hF
     by_cases hxe:x=m
     ·subst hxe;exact hlt
     ·have:=rC hr (show x<m by omega) (show m<l.length by omega);omega
    ·rw[if_neg hlt]
     have e3:∀(A B:Option (Int×Bool)),(bif decide ((if t<l[m].tag then(1:Int) else 0)<0) then A else B)=B:=by
      intro A B
      split<;>rfl
     rw[e3]
     refine ih (m -i) (by omega) i m (v -1) (by omega) (by omega) (by omega) h1 (λx hx hxm=>?_) z F hF
     by_cases hxe:x=m
     ·subst hxe;omega
     ·have:=rC hr (show m<x by omega) hx;omega
 obtain⟨i,a,b,c⟩:=key l.length 0 l.length w (by omega) (Nat.le_refl _) (by omega) (λ_ _ h=>by omega) (λx h h'=>by omega) _ _ (λ_ _ _ _ _ _=>rfl)
 refine⟨i,?_,b,c⟩
 unfold ug I7 Bv
 refine Eq.trans (congrArg (λz=>ob z _) a) rfl
theorem BR{w:Nat}(l:List aD)(t:Int)(hr:ed l=true)(hl:l.length<2^40)(hw:l.length+2<w)(hd:∀t∈l,t.data.length<=1000000000):
 xx w (au l) t=some (match fU l t with|some x=>(x.ty,x.ar,ag x.data,true)|none=>(0,0,ae 0 [],false)):=by
 obtain⟨i,a,b,c,_⟩:=IU l t hr hl hw
 unfold xx
 rw[a]
 simp only[ay]
 cases hf:fU l t with
 |none=>rfl
 |some x=>
  obtain⟨h',e⟩:=c (by grind)
  rw[hf] at e
  injection e with e
  rw[bF,show au l=ax bR l from rfl,bn fE h',(show∀(y:aD)(r:List Value),List.drop 1 (bR y++r)=.int .i64 y.ty::.int .i64 y.ar::ag y.data::r fromλ_ _=>rfl)]
  simp
  unfold qd
  rw[oo w _ (hd _ (List.getElem_mem h')),<-e]
  rfl
end
section
set_option linter.unusedVariables false
set_option linter.unusedSimpArgs false
set_option linter.unusedSectionVars false
set_option linter.constructorNameAsVariable false
def tn(l:List aD):List (Int×aK)->List aD
 |[]=>l
 |(_,.mk tags _ _)::r=>tn tags r
theorem Nh:∀(s:bW)(l:List aD),tq l s=tn l (aI s)
 | .nil,l=>rfl
 | .cons _ (.mk tags _ _) r,l=>by
  rw[tq,Nh r tags]
  rfl
theorem sN(tags:List aD)(subs:bW)(blob:List UInt8):cx (.mk tags subs blob)=[au tags,ae (bI subs) (fb subs),ag blob]:=by rw[cx]
def Sy(m:Nat)(l:List (Int×aK)):Prop:=∀p∈l,fP m p.2
theorem ZD{w m:Nat}(hm:m<=1000000)(hw:m+20<w)(L:List (Int×aK))(hL:L.length<=m)(hS:Sy m L)(o:Int)(a b c e f g:Value)(i0:List aD):
 lp O8 (AP w) w (ax eJ L) L.length 0 o a b c (au i0) e f g=some (true,o,a,b,c,au (tn i0 L),e,f,g):=by
 refine kI (ev:=λi s (k:yJ)=>k (ax eJ L) L.length i o a b c (au s) e f g) (Inv:=λi s=>tn s (L.drop i)=tn i0 L) L.length i0 (by rw[List.drop_zero]) ?_ ?_ (by omega)
 ·intro i g s hi hI
  have hsm:=hS _ (List.getElem_mem hi)
  rw[List.drop_eq_getElem_cons hi] at hI
  have e1:((i:Int)<(L.length:Int)):=by omega
  have sg:∀(p:Int×aK)(r:List Value),eJ p++r=.int .i64 p.1 ::dT p.2 ::dS p.2 ::dB p.2 ::r:=by
   intro p r
   unfold eJ
   rw[mU]
   rfl
  obtain⟨⟨tags,subs,blob⟩,hd⟩:∃d,L[i].2 =d:=⟨_,rfl⟩
  have hsm2:tags.length<=m/\bI subs<=m/\blob.length<=m/\(∀t∈tags,t.data.length<=m)/\fQ m subs:=by rw[hd] at hsm;exact hsm
  refine⟨tags,?_,?_⟩
  ·rw[<-hI,show L[i]=(L[i].1,L[i].2) from rfl,hd]
   rfl
  ·unfold AP xd
   simp only[aO,e1,bF]
   rw[bn ql hi,sg]
   simp only[aX]
   rw[hd,show dT (.mk tags subs blob)=au tags from rfl,oF tags (by omega) (λt ht=>by have:=hsm2.2.2.2.1 t ht;omega) (by omega)]
   simp only[bO]
   rw[aJ (by omega) (by omega)]
   rfl
 ·intro g s hI
  rw[List.drop_length,tn] at hI
  unfold AP xd
  simp
  rw[hI]
theorem abC{w m:Nat}(A:Hand w)(hm:m<=1000000)(hw:m+20<w){r r':cG}{d:aK}(hd:fP m d)(hr:∀tags subs blob,d=.mk tags subs blob->ed tags=true)(h:nK r d=some r'):
 Cs w (dT d) (dS d) (dB d) r.order (au r.bQ) (au r.bm) (au r.bD) (au r.aZ) (au r.first) (ag r.bk) (ag r.cm)=some (true,r'.order,au r'.bQ,au r'.bm,au r'.bD,au r'.aZ,au r'.first,ag r'.bk,ag r'.cm):=by
 obtain⟨tags,subs,blob⟩:=d
 have hsm2:tags.length<=m/\bI subs<=m/\blob.length<=m/\(∀t∈tags,t.data.length<=m)/\fQ m subs:=hd
 have hrt:=hr tags subs blob rfl
 have hsl:=qn subs
 have hdrop:=A.drop tags 37500 hrt (by omega) (by omega) (λt ht=>by have:=hsm2.2.2.2.1 t ht;omega)
 have hlp:=ZD hm hw (aI subs) (by omega) (λp hp=>sC hsm2.2.2.2.2 p hp) r.order (au r.bQ) (au (mi tags 37500)) (au r.bD) (au r.first)
 unfold Cs xd
 rw[show dT (.mk tags subs blob)=au tags from rfl,show dS (.mk tags subs blob)=ae (bI subs) (fb subs) from rfl,(BR tags 37500 hrt (by omega) (by omega) (λt ht=>by have:=hsm2.2.2.2.1 t ht;omega)),yn]
 simp only[nK,Nh] at h
 cases hf:fU tags 37500 with
 |some v=>
  rw[hf] at h
  simp only at h
  split at h
  case isFalse=>cases h
  rename_i h7
  injection h with h
  subst h
  simp
  rw[h7,hdrop]
  exact hlp _ _ _
 |none=>
  rw[hf] at h
  injection h with h
  subst h
  rw[hdrop]
  simp only[zz]
  exact hlp _ _ _
theorem V9{w m:Nat}(hm:m<=1000000)(hw:m+20<w)(ds:List aK)(hl:ds.length<=m)(hS:kU m ds)(r x:cG)(hx:qS r ds=x)(hc:ga x=0)(hE:hU x m)(A B C D E F G:Value):
 lp NX (As w) w (ax cx ds) ds.length 0 0 A B C D E F G r.order (au r.bQ) (au r.bm) (au r.bD) (au r.aZ) (au r.first) (ag r.bk) (ag r.cm)=some (x.order,au x.bQ,au x.bm,au x.bD,au x.aZ,au x.first,ag x.bk,ag x.cm,0):=by
 refine kI (σ:=cG) (ev:=λi s (k:yG)=>k (ax cx ds) ds.length i 0 A B C D E F G s.order (au s.bQ) (au s.bm) (au s.bD) (au s.aZ) (au s.first) (ag s.bk) (ag s.cm)) (Inv:=λi s=>qS s (ds.drop i)=x) ds.length r hx ?_ ?_ (by omega)
 ·intro i g s hi hI
  have hsm:=hS _ (List.getElem_mem hi)
  rw[List.drop_eq_getElem_cons hi] at hI
  obtain⟨⟨tags,subs,blob⟩,hd⟩:∃d,ds[i]=d:=⟨_,rfl⟩
  rw[hd] at hI hsm
  have hsm2:tags.length<=m/\bI subs<=m/\blob.length<=m/\(∀t∈tags,t.data.length<=m)/\fQ m subs:=hsm
  refine⟨_,hI,?_⟩
  unfold As
  simp_all
  rw[bn jf hi,hd,vu]
  simp
  rw[show dT (.mk tags subs blob)=au tags from rfl,show dB (.mk tags subs blob)=ag blob from rfl,oF tags (by omega) (λt ht=>by have:=hsm2.2.2.2.1 t ht;omega) (by omega),oo w blob (by omega),aJ (by omega) (by omega)]
  rfl
 ·intro g s hI
  rw[List.drop_length,qS] at hI
  subst hI
  unfold As
  simp
  rw[QR hE (by omega) hw,hc]
  rfl
def nW(r:cG):List (Int×aK)->Option cG
 |[]=>some r
 |(tag,d)::s=>if tag=34853 then nW {r with bD:=(match d with| .mk tags _ _=>tags)} s else(nK r d).bind λr=>nW r s
theorem JZ:∀(s:bW)(r:cG),nV r s=nW r (aI s)
 | .nil,r=>rfl
 | .cons tag (.mk tags a b) s,r=>by
  show(if tag=34853 then nV {r with bD:=tags} s else(nK r (.mk tags a b)).bind λr=>nV r s)=(if tag=34853 then nW {r with bD:=tags} (aI s) else(nK r (.mk tags a b)).bind λr=>nW r (aI s))
  split
  ·exact JZ s _
  ·congr 1
   funext r
   exact JZ s r
theorem ade(r:cG)(tag:Int)(d:aK)(s:List (Int×aK)):nW r ((tag,d)::s)=if tag=34853 then nW {r with bD:=(match d with| .mk tags _ _=>tags)} s else(nK r d).bind λr=>nW r s:=by
 rfl
def yR(d:aK):Prop:=∀tags subs blob,d=.mk tags subs blob->ed tags=true
theorem abo{w m:Nat}(A:Hand w)(hm:m<=1000000)(hw:m+20<w){o:Int}{ds:List aK}{x:cG}(h200:qe w o (cy ds) (bP cA)=some 0)(h:tz ⟨o,ds⟩=some x)(hE:hU x m)(hl:ds.length<=m)(hS:kU m ds)(hr:∀d∈ds,∀tags subs blob,d=.mk tags subs blob->∀p∈aI subs,yR p.2):
 Cf w o (cy ds)=some (x.order,au x.bQ,au x.bm,au x.bD,au x.aZ,au x.first,ag x.bk,ag x.cm,0):=by
 unfold tz at h
 rcases ds with _|⟨⟨tags,subs,blob⟩,ds⟩
 ·cases h
 simp only at h
 rw[JZ] at h
 obtain⟨r1,hr1,h⟩:=Option.bind_eq_some_iff.1 h
 split at h
 case isFalse=>cases h
 rename_i hc
 injection h with h
 have hsm2:tags.length<=m/\bI subs<=m/\blob.length<=m/\(∀t∈tags,t.data.length<=m)/\fQ m subs:=hS _ List.mem_cons_self
 have hrs:=hr _ List.mem_cons_self tags subs blob rfl
 have hsl:=qn subs
 rw[List.length_cons] at hl
 have e0:∀(K:List Value->Option (Int×Value×Value×Value×Value×Value×Value×Value×Int)),aE 3 0 (cy (.mk tags subs blob::ds)) K=K (cx (.mk tags subs blob)++ds.flatMap cx):=λK=>bn jf (m:=0) (by rw[List.length_cons];omega) K
 have d0:∀r:List Value,List.drop 0 (cx (.mk tags subs blob)++r)=au tags::ae (bI subs) (fb subs)::ag blob::r:=by intro r;rw[sN];rfl
 have d1:∀r:List Value,List.drop 1 (cx (.mk tags subs blob)++r)=ae (bI subs) (fb subs)::ag blob::r:=by intro r;rw[sN];rfl
 unfold Cf
 rw[IJ]
 simp only[ay]
 rw[h200]
 simp only[ay]
 rw[show(!ai 0 0)=false from rfl,cond_false,e0,d0]
 simp only[aX]
 rw[oF tags (by omega) (λt ht=>by have:=hsm2.2.2.2.1 t ht;omega) (by omega)]
 simp only[ay]
 rw[e0,d1]
 simp only[aX]
 rw[yn,bV]
 have main:lp NW (Ar w) w (ax eJ (aI subs)) (aI subs).length 0 o (cy (.mk tags subs blob::ds)) 0 (ae 0 []) (ae 0 []) (ae 0 []) (ae 0 []) (ae 0 []) (ae 0 []) (ae 0 []) o (au tags) (au []) (au []) (au []) (au []) (ag []) (ag [])=some (x.order,au x.bQ,au x.bm,au x.bD,au x.aZ,au x.first,ag x.bk,ag x.cm,0):=by
  refine kI (σ:=cG) (ev:=λi s (k:yF)=>k (ax eJ (aI subs)) (aI subs).length i o (cy (.mk tags subs blob::ds)) 0 (ae 0 []) (ae 0 []) (ae 0 []) (ae 0 []) (ae 0 []) (ae 0 []) (ae 0 []) s.order (au s.bQ) (au s.bm) (au s.bD) (au s.aZ) (au s.first) (ag s.bk) (ag s.cm)) (Inv:=λi s=>nW s ((aI subs).drop i)=some r1) (aI subs).length ⟨o,tags,[],[],[],[],[],[]⟩ ?_ ?_ ?_ (by omega)
  ·exact hr1
  ·intro i g s hi hI
   have hmem:=List.getElem_mem hi
   have hsm:=sC hsm2.2.2.2.2 _ hmem
   have hri:=hrs _ hmem
   rw[List.drop_eq_getElem_cons hi] at hI
   have e1:((i:Int)<((aI subs).length:Int)):=by omega
   have sg:∀(p:Int×aK)(r:List Value),eJ p++r=.int .i64 p.1 ::dT p.2 ::dS p.2 ::dB p.2 ::r:=by
    intro p r
    unfold eJ
    rw[mU]
    rfl
   rw[ade] at hI
   unfold Ar
   simp_all
   rw[bn ql hi,sg]
   simp
   by_cases hg:(aI subs)[i].1 =34853
   ·rw[if_pos hg] at hI
    simp_all
    refine⟨_,hI,?_⟩
    obtain⟨⟨tags2,subs2,blob2⟩,hd⟩:∃d,(aI subs)[i].2 =d:=⟨_,rfl⟩
    rw[hd] at hsm⊢
    have hsm3:tags2.length<=m/\bI subs2<=m/\blob2.length<=m/\(∀t∈tags2,t.data.length<=m)/\fQ m subs2:=hsm
    rw[show dT (.mk tags2 subs2 blob2)=au tags2 from rfl,oF tags2 (by omega) (λt ht=>by have:=hsm3.2.2.2.1 t ht;omega) (by omega)]
    rw[aJ (by omega) (by omega)]
    rfl
   ·rw[if_neg hg] at hI
    simp_all
    obtain⟨s2,hs2,hI⟩:=Option.bind_eq_some_iff.1 hI
    refine⟨s2,hI,?_⟩
    rw[abC A hm hw hsm hri hs2]
    simp only[ay,Bool.not_true,cond_false,bO]
    rw[aJ (by omega) (by omega)]
    rfl
  ·intro g s hI
   rw[List.drop_length,nW] at hI
   injection hI with hI
   subst hI
   have e1:¬(((aI subs).length:Int)<((aI subs).length:Int)):=by omega
   unfold Ar
   simp
   rw[show cy (.mk tags subs blob::ds)=ax cx (.mk tags subs blob::ds) from rfl,bV]
   have e2:1<=(aK.mk tags subs blob::ds).length:=by rw[List.length_cons];omega
   simp only[eV,Nat.le_refl,e2,decide_true,Bool.and_self,cond_true]
   rw[qL jf _ (Nat.le_refl _),List.drop_succ_cons,List.drop_zero,List.take_of_length_le (by rw[List.length_cons];omega),bV]
   exact V9 hm hw ds (by omega) (λd hd=>hS d (List.mem_cons_of_mem _ hd)) s x h (by rw[<-h];exact hc) hE _ _ _ _ _ _ _
 exact main
theorem aa3{w m:Nat}(A:Hand w)(hm:m<=1000000)(hw:m+20<w){b:List UInt8}{o:Int}{ds:List aK}{S:List bc}{x:cG}(h117:ud w (ag b) (bP cA)=some (o,cy ds,ax bH S,0))(h200:qe w o (cy ds) (bP cA)=some 0)(h:tz ⟨o,ds⟩=some x)(hE:hU x m)(hl:ds.length<=m)(hS:kU m ds)(hr:∀d∈ds,∀tags subs blob,d=.mk tags subs blob->∀p∈aI subs,yR p.2):
 xv w (ag b)=some (x.order,au x.bQ,au x.bm,au x.bD,au x.aZ,au x.first,ag x.bk,ag x.cm,0):=by
 unfold xv Bt
 rw[IJ]
 simp
 rw[h117]
 simp
 rw[abo A hm hw h200 h hE hl hS hr]
 rfl
end
section
set_option linter.unusedVariables false
set_option linter.unusedSimpArgs false
set_option linter.unusedSectionVars false
set_option linter.constructorNameAsVariable false
theorem Rg(w:Nat)(b:List UInt8):xY w (ag b)=some (kC.isPrefixOf b):=by
 unfold xY
 have:ae 6 (List.drop 0 [Value.int IntKind.u8 69,Value.int IntKind.u8 120,Value.int IntKind.u8 105,Value.int IntKind.u8 102,Value.int IntKind.u8 0,Value.int IntKind.u8 0])=ag kC:=rfl
 rw[this,BI]
 rfl
theorem Iz(w:Nat)(b:List UInt8):xu w (ag b)=some (ef.isPrefixOf b):=by
 unfold xu
 have:ae 12 (List.drop 0 [Value.int IntKind.u8 73,Value.int IntKind.u8 67,Value.int IntKind.u8 67,Value.int IntKind.u8 95,Value.int IntKind.u8 80,Value.int IntKind.u8 82,Value.int IntKind.u8 79,Value.int IntKind.u8 70,Value.int IntKind.u8 73,Value.int IntKind.u8 76,Value.int IntKind.u8 69,Value.int IntKind.u8 0])=ag ef:=rfl
 rw[this,BI]
 rfl
theorem acD{w:Nat}{b k:List UInt8}(hk:b=kC++k)(hb:b.length<=65533){o:Int}{a1 a2 a3 a4 a5 a6 a7:Value}(h:xv w (ag k)=some (o,a1,a2,a3,a4,a5,a6,a7,0)):uE w (ag b)=some (o,a1,a2,a3,a4,a5,a6,a7,0):=by
 have hp:kC.isPrefixOf b=true:=by rw[hk,List.isPrefixOf_iff_prefix];exact List.prefix_append _ _
 have hl:6<=b.length:=by rw[hk,List.length_append];have:kC.length=6:=rfl;omega
 have e1:¬((65533:Int)<(b.length:Int)):=by omega
 have e2:¬((b.length:Int)<(6:Int)):=by omega
 unfold uE IA IB Bt
 rw[cg]
 simp[e1]
 simp[e2]
 rw[Rg,hp]
 simp[hl]
 rw[mh _ (Nat.le_refl _),List.take_of_length_le (by rw[List.length_drop];omega),show b.drop 6=k by rw[hk];rfl,h]
 rfl
theorem aa4{w:Nat}{c:List UInt8}(h1:1<=c.length)(h2:c.length<=65519):BP w (ag (ef++1::1::c)) ((0:Nat):Int) 1=some true:=by
 have hp:ef.isPrefixOf (ef++1::1::c)=true:=by rw[List.isPrefixOf_iff_prefix];exact List.prefix_append _ _
 have hl:(ef++1::1::c).length=c.length+14:=by rw[List.length_append];show 12+_=_;simp;omega
 have i12:(ef++1::1::c)[12]'(by omega)=1:=rfl
 have i13:(ef++1::1::c)[13]'(by omega)=1:=rfl
 unfold BP
 rw[cg,Iz,hp]
 simp only[ay,cond_false]
 rw[jT (by omega:12<_),i12]
 unfold aQ
 simp only[aX,bN]
 rw[show ai (ah IntKind.i64 ((1:UInt8).toNat:Int)) (ah IntKind.i64 (Int.add ((0:Nat):Int) 1))=true from rfl]
 rw[jT (by omega:13<_),i13]
 unfold aQ
 simp only[aX,bN]
 rw[show ai (ah IntKind.i64 ((1:UInt8).toNat:Int)) 1=true from rfl]
 simp only[Bool.not_true]
 rw[hl,gS,bG,aJ (by omega) (by omega),show((c.length+14:Nat):Int) -14=(c.length:Int) by omega]
 simp only[bT,aO]
 by_cases h:(c.length:Int)=65519
 ·simp[h]
 ·have e1:¬((c.length:Int)<1):=by omega
  have e3:(((0:Nat):Int)=ah IntKind.i64 (Int.sub 1 1)):=rfl
  simp only[h,e1,(show((c.length:Int)<65519) from by omega),decide_false,decide_true,Bool.not_false,cond_true,cond_false]
  rw[decide_eq_true e3,cond_true]
theorem acE{w:Nat}(hw:20<w){b:List UInt8}(hb:b.length<=65519):C6 w (ax cf (eA b))=some (ag b,0):=by
 have hbl:∀l:List (List UInt8),∀K:Nat->Option (Value×Int),ak (ax cf l) K=K l.length:=λl K=>bV cf l K
 unfold C6 eA
 by_cases h0:b.length=0
 ·rw[if_pos h0,hbl,hbl,dt _ _ (by omega)]
  have:b=[]:=List.length_eq_zero_iff.1 h0
  subst this
  rfl
 ·rw[if_neg h0,hbl,hbl,dt _ _ (by omega)]
  have x0:∀(K:List Value->Option (Value×Int)),aE 1 0 (ax cf [ef++1::1::b]) K=K (cf (ef++1::1::b)++([].flatMap cf)):=λK=>bn (k:=1) (λ_=>rfl) (m:=0) (by show 0<1;omega) K
  have hl:(ef++1::1::b).length=b.length+14:=by rw[List.length_append];show 12+_=_;simp;omega
  have e1:¬((Int.ofNat (ef++1::1::b).length)<14):=by rw[bG];omega
  have e14:14<=(ef++1::1::b).length:=by omega
  rw[show(0:Int)=((0:Nat):Int) from rfl,bF,x0]
  rw[show cf (ef++1::1::b)++([].flatMap cf)=[ag (ef++1::1::b)] from rfl]
  simp only[aX]
  rw[cg]
  simp only[aO,e1,cond_false]
  rw[hbl,show Int.ofNat [ef++1::1::b].length=1 from rfl,aa4 (by omega) hb]
  rw[cg]
  simp only[eV,e14,decide_true,cond_true]
  rw[mh _ (Nat.le_refl _),List.take_of_length_le (by rw[List.length_drop];omega),show(ef++1::1::b).drop 14=b from rfl,fV,fZ,Nat.mul_one]
  have hr1:aF b.length=true:=by simp;omega
  rw[hr1]
  rw[show ah IntKind.i64 (Int.add ((0:Nat):Int) 1)=1 from rfl,dt _ _ (by omega)]
  simp
  rw[lk]
def uM(m:Int)(p:List UInt8->Bool):List bj->Bool
 |[]=>false
 |s::_=>decide (s.bE=m)&&p s.data
theorem lL{β:Type}(s:bj)(r:List bj)(K:List Value->Option β):aE 3 0 (cM (s::r)) K=K (cj s++r.flatMap cj):=bn gV (by simp) K
theorem BA{β:Type}(s:bj)(r:List bj)(K:Value->Option β):fw 3 1 (s::r).length (cM (s::r)) K=K (cM r):=by
 rw[show cM (s::r)=ax cj (s::r) from rfl,qL gV _ (Nat.le_refl _),List.take_of_length_le (by simp)]
 rfl
theorem oL{β:Type}(l:List bj)(K:Nat->Option β):ak (cM l) K=K l.length:=bV cj l K
theorem acy{w:Nat}{m:Int}{s:bj}{r:List bj}(h1:s.bE=m)(h2:kC.isPrefixOf s.data=true)(x2:Int)(x3 x4 x5 x6 x7 x8 x9 x10 x11 x12:Value)(x13 x14:Int):C4 w m (cM (s::r)) x2 x3 x4 x5 x6 x7 x8 x9 x10 x11 x12 x13 x14=some (ag s.data,true,cM r,x2,x3,x4,x5,x6,x7,x8,x9,x10,x11,x12,x13,x14):=by
 have e1:ai (Int.ofNat (s::r).length) 0=false:=by rw[bT,decide_eq_false_iff_not,bG,List.length_cons];omega
 have e2:1<=(s::r).length:=by rw[List.length_cons];omega
 have c2:∀q:List Value,cj s++q=.int .i64 s.bE::ag s.data::ag s.scan::q:=λ_=>rfl
 unfold C4 pW
 rw[oL,e1,lL,(show∀q:List Value,List.drop 0 (cj s++q)=.int .i64 s.bE::ag s.data::ag s.scan::q fromλ_=>rfl)]
 simp only[aX,bN]
 rw[h1,show ai m m=true by rw[bT,decide_eq_true_eq],lL,(show∀q:List Value,List.drop 1 (cj s++q)=ag s.data::ag s.scan::q fromλ_=>rfl)]
 simp only[aX]
 rw[Rg,h2]
 simp only[ay,Bool.not_true,cond_false]
 rw[lL,c2]
 simp only[aX,bN]
 rw[oL]
 simp only[eV,Nat.le_refl,e2,decide_true,Bool.and_self,cond_true]
 rw[BA]
theorem acv{w:Nat}{m:Int}{s:bj}{r:List bj}(h1:s.bE=m)(h2:fJ.isPrefixOf s.data=true)(x2:Int)(x3 x4 x5 x6 x7 x8 x9 x10 x11 x12:Value)(x13 x14:Int):uC w m (cM (s::r)) x2 x3 x4 x5 x6 x7 x8 x9 x10 x11 x12 x13 x14=some (ag s.data,true,cM r,x2,x3,x4,x5,x6,x7,x8,x9,x10,x11,x12,x13,x14):=by
 have e1:ai (Int.ofNat (s::r).length) 0=false:=by rw[bT,decide_eq_false_iff_not,bG,List.length_cons];omega
 have e2:1<=(s::r).length:=by rw[List.length_cons];omega
 have c2:∀q:List Value,cj s++q=.int .i64 s.bE::ag s.data::ag s.scan::q:=λ_=>rfl
 unfold uC pW
 rw[oL,e1,lL,(show∀q:List Value,List.drop 0 (cj s++q)=.int .i64 s.bE::ag s.data::ag s.scan::q fromλ_=>rfl)]
 simp only[aX,bN]
 rw[h1,show ai m m=true by rw[bT,decide_eq_true_eq],lL,(show∀q:List Value,List.drop 1 (cj s++q)=ag s.data::ag s.scan::q fromλ_=>rfl)]
 simp only[aX]
 rw[JD,h2]
 simp only[ay,Bool.not_true,cond_false]
 rw[lL,c2]
 simp only[aX,bN]
 rw[oL]
 simp only[eV,Nat.le_refl,e2,decide_true,Bool.and_self,cond_true]
 rw[BA]
theorem acu{w:Nat}{m:Int}{l:List bj}(h:uM m (λd=>fJ.isPrefixOf d) l=false)(x2:Int)(x3 x4 x5 x6 x7 x8 x9 x10 x11 x12:Value)(x13 x14:Int):uC w m (cM l) x2 x3 x4 x5 x6 x7 x8 x9 x10 x11 x12 x13 x14=some (ae 0 [],false,cM l,x2,x3,x4,x5,x6,x7,x8,x9,x10,x11,x12,x13,x14):=by
 unfold uC pW
 rw[oL]
 cases l with
 |nil=>rfl
 |cons s r=>
  have h:(decide (s.bE=m)&&fJ.isPrefixOf s.data)=false:=h
  rw[(show ai (Int.ofNat (s::r).length) 0=false from by rw[bT,decide_eq_false_iff_not,bG,List.length_cons];omega),cond_false,lL,(show∀q:List Value,List.drop 0 (cj s++q)=.int .i64 s.bE::ag s.data::ag s.scan::q fromλ_=>rfl)]
  simp only[aX,bN,bT]
  by_cases hm:s.bE=m
  ·rw[decide_eq_true hm,Bool.true_and] at h
   rw[lL,(show∀q:List Value,List.drop 1 (cj s++q)=ag s.data::ag s.scan::q fromλ_=>rfl)]
   simp
   rw[JD,h]
   simp
  ·rw[decide_eq_false hm,Bool.not_false,cond_true]
theorem acx{w:Nat}{m:Int}{s:bj}{r:List bj}(h1:s.bE=m)(h2:ef.isPrefixOf s.data=true)(x2:Int)(x3 x4 x5 x6 x7 x8 x9 x10 x11 x12:Value)(x13 x14:Int):qj w m (cM (s::r)) x2 x3 x4 x5 x6 x7 x8 x9 x10 x11 x12 x13 x14=some (ag s.data,true,cM r,x2,x3,x4,x5,x6,x7,x8,x9,x10,x11,x12,x13,x14):=by
 have e1:ai (Int.ofNat (s::r).length) 0=false:=by rw[bT,decide_eq_false_iff_not,bG,List.length_cons];omega
 have e2:1<=(s::r).length:=by rw[List.length_cons];omega
 have c2:∀q:List Value,cj s++q=.int .i64 s.bE::ag s.data::ag s.scan::q:=λ_=>rfl
 unfold qj pW
 rw[oL,e1,lL,(show∀q:List Value,List.drop 0 (cj s++q)=.int .i64 s.bE::ag s.data::ag s.scan::q fromλ_=>rfl)]
 simp only[aX,bN]
 rw[h1,show ai m m=true by rw[bT,decide_eq_true_eq],lL,(show∀q:List Value,List.drop 1 (cj s++q)=ag s.data::ag s.scan::q fromλ_=>rfl)]
 simp only[aX]
 rw[Iz,h2]
 simp only[ay,Bool.not_true,cond_false]
 rw[lL,c2]
 simp only[aX,bN]
 rw[oL]
 simp only[eV,Nat.le_refl,e2,decide_true,Bool.and_self,cond_true]
 rw[BA]
theorem acw{w:Nat}{m:Int}{l:List bj}(h:uM m (λd=>ef.isPrefixOf d) l=false)(x2:Int)(x3 x4 x5 x6 x7 x8 x9 x10 x11 x12:Value)(x13 x14:Int):qj w m (cM l) x2 x3 x4 x5 x6 x7 x8 x9 x10 x11 x12 x13 x14=some (ae 0 [],false,cM l,x2,x3,x4,x5,x6,x7,x8,x9,x10,x11,x12,x13,x14):=by
 unfold qj pW
 rw[oL]
 cases l with
 |nil=>rfl
 |cons s r=>
  have h:(decide (s.bE=m)&&ef.isPrefixOf s.data)=false:=h
  rw[(show ai (Int.ofNat (s::r).length) 0=false from by rw[bT,decide_eq_false_iff_not,bG,List.length_cons];omega),cond_false,lL,(show∀q:List Value,List.drop 0 (cj s++q)=.int .i64 s.bE::ag s.data::ag s.scan::q fromλ_=>rfl)]
  simp only[aX,bN,bT]
  by_cases hm:s.bE=m
  ·rw[decide_eq_true hm,Bool.true_and] at h
   rw[lL,(show∀q:List Value,List.drop 1 (cj s++q)=ag s.data::ag s.scan::q fromλ_=>rfl)]
   simp
   rw[Iz,h]
   simp
  grind
theorem acB{w:Nat}(cs:List (List UInt8))(hcs:∀c∈cs,ef.isPrefixOf c=true)(hl:cs.length<1000)(hw:2000<w){r:List bj}(h:uM 226 (λd=>ef.isPrefixOf d) r=false)(x1:Int)(x2 x3 x4 x5 x6 x7 x8 x9 x10 x11:Value)(x12 x13:Int):
 uD w (cM (cs.map (λc=>⟨226,c,[]⟩)++r)) x1 x2 x3 x4 x5 x6 x7 x8 x9 x10 x11 x12 x13=some (cM r,x1,x2,x3,x4,x5,x6,x7,x8,x9,x10,x11,x12,x13,cs.flatMap cf):=by
 obtain⟨tk,htk⟩:∃tk:List (List UInt8)->Value×Bool×Value×Int×Value×Value×Value×Value×Value×Value×Value×Value×Value×Value×Int×Int,tk=λl=>match l with
  |[]=>(ae 0 [],false,cM r,x1,x2,x3,x4,x5,x6,x7,x8,x9,x10,x11,x12,x13)
  |c::l=>(ag c,true,cM (l.map (λc=>(⟨226,c,[]⟩:bj))++r),x1,x2,x3,x4,x5,x6,x7,x8,x9,x10,x11,x12,x13):=⟨_,rfl⟩
 have ht:∀l:List (List UInt8),(∀c∈l,ef.isPrefixOf c=true)->qj w 226 (cM (l.map (λc=>(⟨226,c,[]⟩:bj))++r)) x1 x2 x3 x4 x5 x6 x7 x8 x9 x10 x11 x12 x13=some (tk l):=by
  intro l hl
  rw[htk]
  cases l with
  |nil=>exact acw h _ _ _ _ _ _ _ _ _ _ _ _ _
  |cons c l=>
   have:=acx (w:=w) (s:=⟨226,c,[]⟩) (r:=l.map (λc=>(⟨226,c,[]⟩:bj))++r) rfl (hl c List.mem_cons_self) x1 x2 x3 x4 x5 x6 x7 x8 x9 x10 x11 x12 x13
   exact this
 unfold uD
 rw[ht cs hcs]
 refine kI (ev:=λi _ (g:Value->Bool->Value->Int->Value->Value->Value->Value->Value->Value->Value->Value->Value->Value->Int->Int->List Value->Option (Value×Int×Value×Value×Value×Value×Value×Value×Value×Value×Value×Value×Int×Int×List Value))=>g (tk (cs.drop i)).1 (tk (cs.drop i)).2.1 (tk (cs.drop i)).2.2.1 (tk (cs.drop i)).2.2.2.1 (tk (cs.drop i)).2.2.2.2.1 (tk (cs.drop i)).2.2.2.2.2.1 (tk (cs.drop i)).2.2.2.2.2.2.1 (tk (cs.drop i)).2.2.2.2.2.2.2.1 (tk (cs.drop i)).2.2.2.2.2.2.2.2.1 (tk (cs.drop i)).2.2.2.2.2.2.2.2.2.1 (tk (cs.drop i)).2.2.2.2.2.2.2.2.2.2.1 (tk (cs.drop i)).2.2.2.2.2.2.2.2.2.2.2.1 (tk (cs.drop i)).2.2.2.2.2.2.2.2.2.2.2.2.1 (tk (cs.drop i)).2.2.2.2.2.2.2.2.2.2.2.2.2.1 (tk (cs.drop i)).2.2.2.2.2.2.2.2.2.2.2.2.2.2.1 (tk (cs.drop i)).2.2.2.2.2.2.2.2.2.2.2.2.2.2.2 ((cs.take i).flatMap cf)) (Inv:=λ_ _=>True) cs.length () trivial ?_ ?_ (by omega)
 ·intro i g _ hi _
  refine⟨(),trivial,?_⟩
  have hfl:((cs.take i).flatMap cf).length=i:=by
   rw[cK (k:=1) (λ_=>rfl),List.length_take,Nat.min_eq_left (by omega),Nat.mul_one]
  simp only[(show tk (cs.drop i)=(ag cs[i],true,cM ((cs.drop (i+1)).map (λc=>(⟨226,c,[]⟩:bj))++r),x1,x2,x3,x4,x5,x6,x7,x8,x9,x10,x11,x12,x13) from by rw[(List.drop_eq_getElem_cons hi),htk])]
  rw[hfl,(show aF i=true from by simp;omega),ht _ (λc hc=>hcs c (List.mem_of_mem_drop hc)),List.take_succ_eq_append_getElem hi,List.flatMap_append]
  rfl
 ·intro g _ _
  simp_all
theorem acC{w:Nat}(r:List bj)(hl:r.length<2^40)(hw:r.length<w)(h:∀s∈r,mO s.bE=false)(x1:Int)(x2 x3 x4 x5 x6 x7 x8 x9 x10 x11:Value)(x12 x13:Int):
 JH w (cM r) x1 x2 x3 x4 x5 x6 x7 x8 x9 x10 x11 x12 x13=some (false,cM r,x1,x2,x3,x4,x5,x6,x7,x8,x9,x10,x11,x12,x13):=by
 refine gz (ev:=λi (g:Value->Int->Int->Value->Int->Value->Value->Value->Value->Value->Value->Value->Value->Value->Value->Int->Int->Option (Bool×Value×Int×Value×Value×Value×Value×Value×Value×Value×Value×Value×Value×Int×Int))=>g (cM r) r.length i (cM r) x1 x2 x3 x4 x5 x6 x7 x8 x9 x10 x11 x12 x13) r.length ?_ ?_ hw
 ·intro i g hi
  have c2:∀(s:bj)(q:List Value),cj s++q=.int .i64 s.bE::ag s.data::ag s.scan::q:=λ_ _=>rfl
  have ha:=h _ (List.getElem_mem hi)
  unfold mO at ha
  simp
  rw[show cM r=ax cj r from rfl,bn gV hi,aJ (by omega) (by omega)]
  simp_all
 simp
end
section
set_option linter.unusedVariables false
set_option linter.unusedSimpArgs false
set_option linter.unusedSectionVars false
set_option linter.constructorNameAsVariable false
noncomputable def NM(w:Nat)(aL q:Value)(a1:Int)(a2 a3 a4 a5 a6 a7 a8 a9 a10 a11:Value)(a12 a13:Int):Option (Int×Value×Value×Value×Value×Value×Value×Value×Value×Value×Value×Int×Int×Int):=
 ob (uD w q a1 a2 a3 a4 a5 a6 a7 a8 a9 a10 a11 a12 a13) λx=>w9 w x (aL,true,q,0,q,q,q,q,q,q,q,q,q,q,0,0)
theorem VZ{w m:Nat}(A:Hand w){aL:List UInt8}{cs:List (List UInt8)}{r:List bj}{core:List UInt8}{bL:List UInt8}(hcs:cs=eA bL)(hicc:bL.length<=65519)
 (hm:m<2^26) (hw:2*m+200000<w) (hr:∀s∈r,mO s.bE=false) (hr1:r.length≠0) (hcore:ky core=true) (hcw:cu (⟨216,[],[]⟩::r)=core) (hmay:jX (⟨216,[],[]⟩::r)=true) (hseg:sB (⟨216,[],[]⟩::r) m) (hlen:r.length<=m) (hcl:core.length<=m)
 {o:Int} {b1 b2 b3 b4 b5 b6 b7:Value} (h60:uE w (ag aL)=some (o,b1,b2,b3,b4,b5,b6,b7,0)) (a1:Int) (a2 a3 a4 a5 a6 a7 a8 a9 a10 a11:Value) (a12 a13:Int):
 NM w (ag aL) (cM (cs.map (λc=>(⟨226,c,[]⟩:bj))++r)) a1 a2 a3 a4 a5 a6 a7 a8 a9 a10 a11 a12 a13=some (o,b1,b2,b3,b4,b5,b6,b7,ag bL,ag core,a11,a12,a13,0):=by
 have hq:uM 226 (λd=>ef.isPrefixOf d) r=false:=by
  cases r with
  |nil=>rfl
  |cons s r=>
   have:=hr s List.mem_cons_self
   unfold mO at this
   rw[decide_eq_false_iff_not] at this
   show(decide (s.bE=226)&&_)=false
   rw[decide_eq_false (by omega)]
   rfl
 have hpre:∀c∈cs,ef.isPrefixOf c=true:=by
  intro c hc
  rw[hcs] at hc
  unfold eA at hc
  split at hc
  ·cases hc
  ·rw[List.mem_singleton.1 hc,List.isPrefixOf_iff_prefix]
   exact List.prefix_append _ _
 have hchl:cs.length<=1:=by rw[hcs];unfold eA;split<;>simp
 have e0:ai 0 0=true:=rfl
 unfold NM w9 tS Bn
 rw[acB cs hpre (by omega) (by omega) hq]
 simp only[ay]
 rw[acC r (by omega) (by omega) hr]
 rw[h60]
 have hcv:ae ((cs.flatMap cf).length/1) (cs.flatMap cf)=ax cf (eA bL):=by
  rw[cK (k:=1) (λ_=>rfl),Nat.div_one,Nat.mul_one,hcs]
  rfl
 rw[hcv,acE (by omega) hicc]
 simp only[ay,e0,Bool.not_true,cond_false]
 rw[show cM r=ax cj r from rfl,sX gV,cK gV]
 have e1:(1+r.length).ble 1=false:=by rw[eV,decide_eq_false_iff_not];omega
 have r2:aF r.length=true:=by simp;omega
 have hn:=nextslicecap_le (need:=1+r.length) (old:=1) (by omega)
 have r3:(Builtin.nextslicecap (1+r.length) 1).ble 5000000000=true:=by rw[Nat.ble_eq];omega
 rw[e1,r2,r3]
 rw[show List.take 3 (List.drop 0 [Value.int IntKind.i64 216,ae 0 [],ae 0 []])++r.flatMap cj=(⟨216,[],[]⟩::r:List bj).flatMap cj from rfl,Qr,Rf A _ (by omega) hseg (by rw[List.length_cons];omega) ⟨by rw[List.length_cons];omega,by omega,by omega⟩ hmay (by rw[hcw];omega),hcw]
 simp
 rw[JC core (by omega) (by omega),hcore]
 rfl
theorem Z5{sh:List aP}{s:Nat}{d:aK}(h:bX sh s d=true):yR d:=by
 rintro tags subs blob rfl
 simp only[bX,iB] at h
 grind
theorem Z6{sh:List aP}{s:Nat}{tags:List aD}{subs:bW}{blob:List UInt8}(h:bX sh s (.mk tags subs blob)=true):∀p∈aI subs,yR p.2 :=by
 simp[bX] at h
 intro p hp
 exact Z5 (Fm h.2.2.2.2 p hp).2
theorem hU.more{x:cG}{m k:Nat}(h:hU x m)(hk:m<=k):hU x k:=by
 obtain⟨⟨r0,r2,r3,r4,r1⟩,d0,d2,d3,d4,d1,hmk,hth⟩:=h
 exact⟨⟨by omega,by omega,by omega,by omega,by omega⟩,λt ht=>by have:=d0 t ht;omega,λt ht=>by have:=d2 t ht;omega,λt ht=>by have:=d3 t ht;omega,λt ht=>by have:=d4 t ht;omega,λt ht=>by have:=d1 t ht;omega,by omega,by omega⟩
theorem SE{w:Nat}(W:cU w){x:cG}{b:List UInt8}(h:fY x=.ok b)(hx:hU x 9000)(hw:800000<w):uE w (ag b)=some (x.order,au x.bQ,au x.bm,au x.bD,au x.aZ,au x.first,ag x.bk,ag x.cm,0):=by
 have hr:=hx.rows
 obtain⟨-,-,hp2,hp3,hp4⟩:=yX h (by unfold nN at hr⊢;omega)
 have hce:ga x=0:=by
  unfold fY at h
  split at h<;>grind
 have TR:=zF W hx hce
 have hl:(dc (dE x) cA).length<=65533:=by
  rw[hp3,List.length_append] at hp2
  omega
 obtain⟨-,k1,k2,-⟩:=RN hx (by decide)
 have hsp:=Df (dE x).cS 0 8 TR.hd
 have hsp3:(eK (dE x)).length=(gX 0 8 (dE x).cS).length+1:=rfl
 have h114:=aa3 W.hand (by omega) (by omega) (QD (b:=dc (dE x) cA) (by omega) (by omega) EW (λs hs=>by have:=LX s hs;omega) (by decide) (by decide) TR.pE (S:=eK (dE x)) (by omega) (by rw[hp4];rfl)) TR.check (by rw[adq];exact N1 hce) (hx.more (by omega)) TR.gI TR.hd (λd hd tags subs blob he p hp=>by
  obtain⟨s,hs⟩:=Fl TR.hh d hd
  rw[he] at hs
  exact Z6 hs p hp)
 exact acD hp3 hp2 h114
theorem To{core:List UInt8}{r:List bj}(c4:cu (⟨216,[],[]⟩::r)=core)(hmay:jX (⟨216,[],[]⟩::r)=true):sB (⟨216,[],[]⟩::r) core.length:=by
 intro s hs
 rcases List.mem_cons.1 hs with rfl|hs2
 ·simp
 ·have h1:=Il hs
  by_cases ha:gq s.bE=true
  ·obtain⟨-,-,q,-⟩:=Kc hmay hs
   grind
  ·unfold cq at h1
   grind
theorem MA{x:kS}{aL:List UInt8}{r:List bj}(c2:vq x.core=⟨216,[],[]⟩::r)(c4:cu (⟨216,[],[]⟩::r)=x.core):(dM x aL).length<=100+aL.length+x.bY.length+x.bL.length+x.core.length:=by
 have e:dM x aL=cq ⟨216,[],[]⟩++(cq ⟨225,aL,[]⟩++(cu (if x.bY.length=0 then[] else[⟨226,x.bY,[]⟩])++(cu ((eA x.bL).map (λc=>⟨226,c,[]⟩))++cu r))):=by
  unfold dM iv
  rw[c2]
  simp[cu]
 have k1:(cq ⟨216,[],[]⟩).length=2:=rfl
 have k2:(cq ⟨225,aL,[]⟩).length<=aL.length+4:=by unfold cq;split<;>simp<;>omega
 have k3:(cu (if x.bY.length=0 then[] else[⟨226,x.bY,[]⟩])).length<=x.bY.length+4:=by
  split
  ·simp[cu]
  ·simp[cu]
   unfold cq;split<;>simp<;>omega
 have k4:(cu ((eA x.bL).map (λc=>⟨226,c,[]⟩))).length<=x.bL.length+30:=by
  unfold eA
  split
  ·simp[cu]
  ·simp[cu]
   unfold cq;split<;>simp[ef]<;>omega
 have k5:(cu r).length<=x.core.length:=by
  have:=congrArg List.length c4
  rw[iO,List.length_append] at this
  omega
 simp_all
 omega
theorem Tc(w:Nat)(l:List UInt8)(hl:l.length<=1000000000):C5 w (ag l)=some (ag l):=by
 unfold C5
 rw[cg]
 by_cases h:l.length=0
 ·have:l=[]:=List.length_eq_zero_iff.1 h
  subst this
  rfl
 ·have e1:Nat.beq l.length 0=false:=by
   rw[Bool.eq_false_iff];intro q;exact h (Nat.eq_of_beq_eq_true q)
  rw[e1]
  have hn:=nextslicecap_le (need:=0+l.length) (old:=0) (by omega)
  have e5:(0+l.length).ble 0=false:=by rw[eV,decide_eq_false_iff_not];omega
  have e6:Nat.blt 0 l.length=true:=by rw[jQ,decide_eq_true_eq];omega
  have r1:aF l.length=true:=by simp;omega
  unfold JG Bo
  rw[cg,e6,fV,fZ,e5,r1,(show(Builtin.nextslicecap (0+l.length) 0).ble 5000000000=true from by rw[Nat.ble_eq];omega)]
  simp
  rw[lk]
theorem abP{w m:Nat}(y:List UInt8)(hy:y.length<2^26)(W:cU w){x:kS}{aL:List UInt8}(h:uX x aL)(hx:hU x.az 9000)(hm:m<2^24)(hc:x.core.length<=m/\x.bL.length<=m/\x.bY.length<=m)(hw:2*m+800000+y.length<w):
 xJ w (ag (dM x aL++y))=some (x.az.order,au x.az.bQ,au x.az.bm,au x.az.bD,au x.az.aZ,au x.az.first,ag x.az.bk,ag x.az.cm,ag x.bL,ag x.core,ag x.bY,if x.bY.length=0 then 0 else((aL.length+10:Nat):Int),((dM x aL).length:Int),0):=by
 have hb:=W.iE
 have hA:=W.hand
 obtain⟨-,hp1,hp2,hp3,hp4⟩:=yX h.app h.rows
 have hrd:ofM (dM x aL++y)=.ok (iv x aL) (dM x aL).length:=Wc (MB h.core hp2 h.bL (by rcases h.bY with q|q;omega;exact q.2)) y
 obtain⟨r,c1,c2,c3,c4,c5,c6⟩:=zk h.core
 have hrl:r.length<=x.core.length:=by simpa using(Au _ _ _ _ _ _ c1)
 have hmayC:jX (⟨216,[],[]⟩::r)=true:=by
  show(true&&gJ r)=true
  rw[c3];rfl
 have hr0:r.length≠0:=by
  obtain⟨s,hs,_⟩:=c5
  intro q
  rw[List.length_eq_zero_iff.1 q] at hs
  cases hs
 have h60:=SE W h.app hx (by omega)
 have himl:=MA (aL:=aL) c2 c4
 have hi3:=h.bL
 have htail:=λq=>VZ (m:=m) hA (aL:=aL) (cs:=eA x.bL) (r:=r) (core:=x.core) (bL:=x.bL) rfl h.bL (by omega) (by omega) c6 hr0 h.core c4 hmayC (λs hs=>by have:=To c4 hmayC s hs;omega) (by omega) (by omega) h60 0 (ae 0 []) (ae 0 []) (ae 0 []) (ae 0 []) (ae 0 []) (ae 0 []) (ae 0 []) (ae 0 []) (ae 0 []) q
 have hL:iv x aL=⟨216,[],[]⟩::⟨225,aL,[]⟩::((if x.bY.length=0 then[] else[⟨226,x.bY,[]⟩])++((eA x.bL).map (λc=>⟨226,c,[]⟩)++r)):=by unfold iv;rw[c2];rfl
 unfold xJ tS w9 Bn
 rw[JE _ (by rw[List.length_append];omega) (by rw[List.length_append];omega),hrd]
 simp only[ay,(rfl),Bool.not_true,cond_false]
 rw[hL,oL]
 have hbl:∀(s:bj)(l:List bj),((s::l).length.ble (s::l).length&&Nat.ble 1 (s::l).length)=true:=by
  intro s l
  rw[eV,eV,decide_eq_true (Nat.le_refl _),decide_eq_true (by rw[List.length_cons];omega)]
  rfl
 rw[hbl,cond_true,BA,acy (s:=⟨225,aL,[]⟩) rfl hp1]
 simp only[ay,Bool.not_true,cond_false]
 by_cases hmp:x.bY.length=0
 ·rw[if_pos hmp,if_pos hmp,List.nil_append]
  have hno:uM 226 (λd=>fJ.isPrefixOf d) ((eA x.bL).map (λc=>(⟨226,c,[]⟩:bj))++r)=false:=by
   unfold eA
   split
   ·show uM 226 _ r=false
    cases r with
    |nil=>rfl
    |cons s r=>
     have:=c6 s List.mem_cons_self
     unfold mO at this
     rw[decide_eq_false_iff_not] at this
     show(decide (s.bE=226)&&_)=false
     rw[decide_eq_false (by omega)]
     rfl
   ·rfl
  rw[acu hno]
  have:x.bY=[]:=List.length_eq_zero_iff.1 hmp
  rw[this]
  exact htail (ae 0 []) 0 ((dM x aL).length:Int)
 ·rw[if_neg hmp,if_neg hmp]
  obtain⟨m1,m2⟩:=h.bY.resolve_left hmp
  rw[show[⟨226,x.bY,[]⟩]++((eA x.bL).map (λc=>⟨226,c,[]⟩)++r)=(⟨226,x.bY,[]⟩:bj)::((eA x.bL).map (λc=>⟨226,c,[]⟩)++r) from rfl,acv (s:=⟨226,x.bY,[]⟩) rfl m1]
  simp only[ay,cond_true]
  rw[Tc w _ (by omega)]
  simp only[ay]
  rw[cg,bO,bO,bG,aJ (n:=(6:Int)+(aL.length:Int)) (by omega) (by omega),aJ (by omega) (by omega),show(6:Int)+(aL.length:Int)+4=((aL.length+10:Nat):Int) by omega]
  exact htail (ag x.bY) ((aL.length+10:Nat):Int) ((dM x aL).length:Int)
theorem abO{w m:Nat}(W:cU w){x:kS}{aL:List UInt8}(h:uX x aL)(hx:hU x.az 9000)(hm:m<2^24)(hc:x.core.length<=m/\x.bL.length<=m/\x.bY.length<=m)(hw:2*m+800000<w):
 xJ w (ag (dM x aL))=some (x.az.order,au x.az.bQ,au x.az.bm,au x.az.bD,au x.az.aZ,au x.az.first,ag x.az.bk,ag x.az.cm,ag x.bL,ag x.core,ag x.bY,if x.bY.length=0 then 0 else((aL.length+10:Nat):Int),((dM x aL).length:Int),0):=by
 have:=abP [] (by decide) W h hx hm hc (by simpa using hw)
 rwa[List.append_nil] at this
end
section
set_option linter.unusedVariables false
set_option linter.unusedSimpArgs false
set_option linter.unusedSectionVars false
set_option linter.constructorNameAsVariable false
def fm(p:cL):List Value:=[.int .i64 p.attr,.int .i64 p.size,.int .i64 p.at_,.int .i64 p.dQ,.int .i64 p.dU]
theorem mC(p:cL):(fm p).length=5:=rfl
def fK(l:List cL):Value:=ax fm l
theorem wR{w:Nat}(hw:8<=w)(n:Int){o:Int}(ho:o=1\/o=2):fL w n 4 o=some (if 0<=n/\n<4294967296 then(ag (aN n.toNat 4 o),true) else(ae 0 [],false)):=by
 rw[oM hw,if_pos (by rcases ho with rfl|rfl<;>rfl),show(4:Int).toNat=4 from rfl,GX]
 grind
theorem rA{w:Nat}(hw:8<=w)(n:Int){o:Int}(ho:o=1\/o=2):fL w n 2 o=some (if 0<=n/\n<65536 then(ag (aN n.toNat 2 o),true) else(ae 0 [],false)):=by
 rw[oM hw,if_pos (by rcases ho with rfl|rfl<;>rfl),show(2:Int).toNat=2 from rfl,show mD n 2 o=if 0<=n/\n<65536 then some (aN n.toNat 2 o) else none from rfl]
 grind
theorem A4(l:List UInt8)(hl:l.length<=100):(aF l.length&&(l.map aQ).length.beq (l.length*1))=true:=by
 rw[(show aF l.length=true from by simp;omega),List.length_map,Nat.mul_one,Nat.beq_refl];rfl
theorem A5(X:List Value)(l:List UInt8)(hX:X.length<=100)(hl:l.length<=100):(aF X.length&&(aF l.length&&(l.map aQ).length.beq (l.length*1)))=true:=by
 rw[(show aF X.length=true from by simp;omega),A4 l hl];rfl
theorem IK{w:Nat}(hw:8<=w)(p:cL){o:Int}(ho:o=1\/o=2):B7 w p.attr p.size p.at_ p.dQ p.dU o=some (if iH p=true then(ag (cT o p),true) else(ae 0 [],false)):=by
 unfold B7 xG iX
 simp only[ay]
 unfold iH
 rw[wR hw _ ho]
 by_cases h1:0<=p.attr/\p.attr<4294967296
 case neg=>
  rw[if_neg h1,if_neg (by simp only[decide_eq_true_eq];exactλq=>h1 q.1)]
  rfl
 rw[if_pos h1]
 simp only[ay,cond_false]
 rw[fV,fZ,A4 _ (by rw[db];omega),wR hw _ ho]
 by_cases h2:0<=p.size/\p.size<4294967296
 case neg=>
  rw[if_neg h2,if_neg (by simp only[decide_eq_true_eq];exactλq=>h2 q.2.1)]
  rfl
 rw[if_pos h2]
 simp only[ay,cond_false]
 rw[fV,fZ,A5 _ _ (by simp[db]) (by rw[db];omega),wR hw _ ho]
 by_cases h3:0<=p.at_/\p.at_<4294967296
 case neg=>
  rw[if_neg h3,if_neg (by simp only[decide_eq_true_eq];exactλq=>h3 q.2.2.1)]
  rfl
 rw[if_pos h3]
 simp only[ay,cond_false]
 rw[fV,fZ,A5 _ _ (by simp[db]) (by rw[db];omega),rA hw _ ho]
 by_cases h4:0<=p.dQ/\p.dQ<65536
 case neg=>
  rw[if_neg h4,if_neg (by simp only[decide_eq_true_eq];exactλq=>h4 q.2.2.2.1)]
  rfl
 rw[if_pos h4]
 simp only[ay,cond_false]
 rw[fV,fZ,A5 _ _ (by simp[db]) (by rw[db];omega),rA hw _ ho]
 by_cases h5:0<=p.dU/\p.dU<65536
 case neg=>
  rw[if_neg h5,if_neg (by simp only[decide_eq_true_eq];exactλq=>h5 q.2.2.2.2)]
  rfl
 rw[if_pos h5,if_pos (by rw[decide_eq_true_eq];exact⟨h1,h2,h3,h4,h5⟩)]
 simp only[ay,cond_false]
 rw[fV,fZ,A5 _ _ (by simp[db]) (by rw[db];omega)]
 congr 2
 rw[lk]
 unfold cT
 simp
theorem abg{w:Nat}(hw:100<w)(n:Nat)(hn:n<4294967296):B8 w 4 (ae 1 [Value.int IntKind.i64 (n:Int)])=some (4,1,ag (dA n 4),true):=by
 unfold B8 H9
 rw[uj,show kindOf 4=(4,4,1) from rfl]
 simp
 have h211:Cq w 4 (ae 1 [Value.int IntKind.i64 (n:Int)]) 4 4 1=some (4,1,true,(dA n 4).map aQ):=by
  unfold Cq
  have hl:∀K:Nat->Option (Int×Int×Bool×List Value),ak (ae 1 [Value.int IntKind.i64 (n:Int)]) K=K 1:=λ_=>rfl
  rw[hl,hl,dt _ _ (by omega),show aj 0 (Int.ofNat 1)=true from rfl,show(0:Int)=((0:Nat):Int) from rfl,bF,(show∀K:List Value->Option (Int×Int×Bool×List Value),aE 1 0 (ae 1 [Value.int IntKind.i64 (n:Int)]) K=K [Value.int IntKind.i64 (n:Int)] fromλ_=>rfl)]
  simp only[aX,bN]
  have h212:Cr w 4 4 1 (n:Int)=some (ag (dA n 4),true):=by
   unfold Cr Ic
   rw[wR (by omega) _ (.inr rfl),if_pos (by omega)]
   rfl
  rw[h212]
  simp only[ay]
  rw[fV,fZ,Nat.mul_one,mg,cond_true,dt _ _ (by omega),show ah IntKind.i64 (Int.add ((0:Nat):Int) 1)=1 from rfl,show aj 1 (Int.ofNat 1)=false from rfl,cond_false,List.nil_append,List.length_map,Nat.div_one,<-lk]
  rfl
 rw[h211]
 simp
 rw[lk]
def VS(view:List aD):Prop:=view.length<=9000/\∀t∈view,t.data.length<=9000
theorem adA{w:Nat}(W:cU w){o:Int}(ho:o=1\/o=2){view:List aD}(hv:VS view)(hr:cF 5 view=true)(h0:view.length≠0):lX w 10000 kX o (jn o view).cS:=by
 have hl:=hv.1
 refine J4 W Sz (abD (by have:=W.iE;omega)) (by decide) (λs hs=>?_) ho (by simp[jn]) (by simp[jn]) (λd hd'=>?_) (by simp[jn,iR,eB,ij]) (by simp[jn,gj,cJ,fS]) (Sk hr h0 (by omega))
 ·have:s=0:=by simp[kX] at hs;omega
  rw[this];decide
 ·simp[jn] at hd'
  subst hd'
  exact⟨by omega,by show 0<=_;omega,by show 0<=_;omega,λt ht=>by have:=hv.2 t ht;omega,trivial⟩
theorem acL{w:Nat}(W:cU w)(o:Int){view:List aD}(hv:VS view):Dc w o (au view)=some (match uU o view with| .ok b=>(ag b,0)| .error e=>(ae 0 [],e)):=by
 have hb:=W.iE
 have hl:=hv.1
 have hlen:∀K:Nat->Option (Value×Int),ak (au view) K=K view.length:=λK=>bV bR view K
 unfold Dc uU H6
 by_cases ho:o=1\/o=2
 case neg=>
  rw[if_pos (.inl ho)]
  rw[(show ai o 1=false from by rw[bT,decide_eq_false_iff_not];exactλq=>ho (.inl q)),(show ai o 2=false from by rw[bT,decide_eq_false_iff_not];exactλq=>ho (.inr q))]
  rfl
 have hrest:(ak (au view) λ(x2:Nat)=>bif ai (Int.ofNat x2) 0 then some (ae 0 [],1) else ob (lN w 5 (au view)) λ(x3:Bool)=>bif !x3 then some (ae 0 [],6) else ob (Ca w) λx4=>ob (rK w o (ae 1 (List.drop 0 [au view,ae 0 [],ae 0 []])) x4) λx5=>some (x5.fst,x5.snd))=some (match(if¬(o=1\/o=2)\/view.length=0 then .error 1 else if cF 5 view=false then .error 6 else if 65533<4+fq (jn o view) then .error 7 else .ok (fJ++dc (jn o view) kX):Except Int (List UInt8)) with| .ok b=>(ag b,0)| .error e=>(ae 0 [],e)):=by
  rw[hlen]
  by_cases h0:view.length=0
  ·rw[if_pos (.inr h0),h0]
   rfl
  have e1:ai (Int.ofNat view.length) 0=false:=by rw[bT,decide_eq_false_iff_not,bG];omega
  rw[if_neg (by intro q;rcases q with q|q;exact q ho;exact h0 q),e1,oN (by omega) 5 view (by omega) (λt ht=>by have:=hv.2 t ht;omega) (by omega)]
  cases hr:cF 5 view with
  |false=>rfl
  |true=>
   have T:=adA W ho hv hr h0
   have e2:Ca w=some (bP kX):=rfl
   rw[e2]
   simp only[ay,cond_false]
   have e3:ae 1 (List.drop 0 [au view,ae 0 [],ae 0 []])=cy (jn o view).cS:=by
    show _=ae 1 (cx (.mk view .nil [])++[])
    rfl
   rw[e3,(QL T),show(⟨o,(jn o view).cS⟩:jO)=jn o view from rfl]
   by_cases h7:65533<4+fq (jn o view)
   ·rw[if_pos h7,if_pos h7];rfl
   ·rw[if_neg h7,if_neg h7];rfl
 rcases ho with rfl|rfl<;>simp_all
end
section
set_option linter.unusedVariables false
set_option linter.unusedSimpArgs false
set_option linter.unusedSectionVars false
set_option linter.constructorNameAsVariable false
structure aS where
 az:cG
 bL:List UInt8
 core:List UInt8
 attr:Int
 dQ:Int
 dU:Int
 view:List aD
def cZ(p:aS):List Value:=[.int .i64 p.az.order,au p.az.bQ,au p.az.bm,au p.az.bD,au p.az.aZ,au p.az.first,ag p.az.bk,ag p.az.cm,ag p.bL,ag p.core,.int .i64 p.attr,.int .i64 p.dQ,.int .i64 p.dU,au p.view]
theorem jF(p:aS):(cZ p).length=14:=rfl
def ct(l:List aS):Value:=ax cZ l
theorem my(p:aS)(r:List Value):cZ p++r=.int .i64 p.az.order::au p.az.bQ::au p.az.bm::au p.az.bD::au p.az.aZ::au p.az.first::ag p.az.bk::ag p.az.cm::ag p.bL::ag p.core::.int .i64 p.attr::.int .i64 p.dQ::.int .i64 p.dU::au p.view::r:=rfl
def TS(l:List aD):Prop:=l.length<=60/\∀t∈l,t.data.length<=600
structure dH(p:aS):Prop where
 t0:TS p.az.bQ
 t2:TS p.az.bm
 t3:TS p.az.bD
 t4:TS p.az.aZ
 t1:TS p.az.first
 tv:TS p.view
 NK:p.az.bk.length<=2000
 th:p.az.cm.length<=2000
 ic:p.bL.length<=2000
 co:p.core.length<=2000
theorem dH.sS{p:aS}(h:dH p):hU p.az 9000:=by
 obtain⟨⟨a0,b0⟩,⟨a2,b2⟩,⟨a3,b3⟩,⟨a4,b4⟩,⟨a1,b1⟩,-,m1,m2,-,-⟩:=h
 exact⟨⟨by omega,by omega,by omega,by omega,by omega⟩,λt ht=>by have:=b0 t ht;omega,λt ht=>by have:=b2 t ht;omega,λt ht=>by have:=b3 t ht;omega,λt ht=>by have:=b4 t ht;omega,λt ht=>by have:=b1 t ht;omega,by omega,by omega⟩
theorem dH.vs{p:aS}(h:dH p):VS p.view:=⟨by have:=h.tv.1;omega,λt ht=>by have:=h.tv.2 t ht;omega⟩
def ib(p:aS):Bool:=match fY p.az with| .ok _=>false| .error _=>true
def vj(_:aS):Bool:=false
def lf(p:aS):Bool:=!ky p.core
def mc(p:aS):Bool:=!decide ((0<=p.attr/\p.attr<4294967296)/\(0<=p.dQ/\p.dQ<65536)/\(0<=p.dU/\p.dU<65536))
def mf(p:aS):Bool:=!cF 5 p.view
theorem KF{x:cG}{e:Int}(h:fY x=.error e):e≠0:=by
 unfold fY at h
 grind
theorem aa7{w:Nat}(W:cU w){p:aS}(h:dH p)(a b c:Int)(v x y:Value):BU w p.az.order (au p.az.bQ) (au p.az.bm) (au p.az.bD) (au p.az.aZ) (au p.az.first) (ag p.az.bk) (ag p.az.cm) x y a b c v=some (ib p):=by
 unfold BU ib
 rw[Ju W h.sS]
 cases he:fY p.az with
 |ok b=>rfl
 |error e=>
  have:=KF he
  simp_all
theorem aa8{w:Nat}(W:cU w){p:aS}(h:dH p)(o a b c:Int)(v x1 x2 x3 x4 x5 x6 x7 y:Value):BW w o x1 x2 x3 x4 x5 x6 x7 (ag p.bL) y a b c v=some (vj p):=by
 have hi:=h.ic
 unfold BW vj
 rw[cg,bG,Rj w _ (by omega)]
 simp only[ay,aO]
 have:sL p.bL.length<=1:=by unfold sL;omega
 rw[decide_eq_false (by omega)]
theorem aa9{w:Nat}(W:cU w){p:aS}(h:dH p)(o a b c:Int)(v x1 x2 x3 x4 x5 x6 x7 x8:Value):BX w o x1 x2 x3 x4 x5 x6 x7 x8 (ag p.core) a b c v=some (lf p):=by
 have hb:=W.iE
 have hi:=h.co
 unfold BX lf
 rw[JC _ (by omega) (by omega)]
 rfl
theorem aba{w:Nat}(W:cU w)(p:aS)(o:Int)(v x1 x2 x3 x4 x5 x6 x7 x8 x9:Value):BY w o x1 x2 x3 x4 x5 x6 x7 x8 x9 p.attr p.dQ p.dU v=some (mc p):=by
 have hb:=W.iE
 unfold BY mc
 rw[wR (by omega) _ (.inr rfl),rA (by omega) _ (.inr rfl),rA (by omega) _ (.inr rfl)]
 by_cases h1:0<=p.attr/\p.attr<4294967296
 ·by_cases h2:0<=p.dQ/\p.dQ<65536
  ·by_cases h3:0<=p.dU/\p.dU<65536
   ·simp_all
   ·simp[h3]
  ·simp[h2]
 ·simp[h1]
theorem abb{w:Nat}(W:cU w){p:aS}(h:dH p)(o a b c:Int)(x1 x2 x3 x4 x5 x6 x7 x8 x9:Value):BZ w o x1 x2 x3 x4 x5 x6 x7 x8 x9 a b c (au p.view)=some (mf p):=by
 have hb:=W.iE
 obtain⟨a1,b1⟩:=h.tv
 unfold BZ mf
 rw[oN (by omega) 5 p.view (by omega) (λt ht=>by have:=b1 t ht;omega) (by omega)]
 rfl
theorem abr{w:Nat}(W:cU w){l:List aS}(h:∀p∈l,dH p)(hl:l.length<=2000):IV w (ct l)=some (cC ib l):=by
 have hb:=W.iE
 refine jV l ib (ev:=λi (g:Value->Int->Int->Option Int)=>g (ax cZ l) l.length i) ?_ ?_ (by omega)
 ·intro i g hi
  simp_all
  rw[bn jF hi,my]
  simp
  rw[aa7 W (h _ (List.getElem_mem hi)),aJ (by omega) (by omega)]
  simp
 simp
theorem abt{w:Nat}(W:cU w){l:List aS}(h:∀p∈l,dH p)(hl:l.length<=2000):IW w (ct l)=some (cC vj l):=by
 have hb:=W.iE
 refine jV l vj (ev:=λi (g:Value->Int->Int->Option Int)=>g (ax cZ l) l.length i) ?_ ?_ (by omega)
 ·intro i g hi
  simp_all
  rw[bn jF hi,my]
  simp
  rw[aa8 W (h _ (List.getElem_mem hi)),aJ (by omega) (by omega)]
  simp
 simp
theorem abu{w:Nat}(W:cU w){l:List aS}(h:∀p∈l,dH p)(hl:l.length<=2000):IX w (ct l)=some (cC lf l):=by
 have hb:=W.iE
 refine jV l lf (ev:=λi (g:Value->Int->Int->Option Int)=>g (ax cZ l) l.length i) ?_ ?_ (by omega)
 ·intro i g hi
  simp_all
  rw[bn jF hi,my]
  simp
  rw[aa9 W (h _ (List.getElem_mem hi)),aJ (by omega) (by omega)]
  simp
 simp
theorem abv{w:Nat}(W:cU w){l:List aS}(h:∀p∈l,dH p)(hl:l.length<=2000):IY w (ct l)=some (cC mc l):=by
 have hb:=W.iE
 refine jV l mc (ev:=λi (g:Value->Int->Int->Option Int)=>g (ax cZ l) l.length i) ?_ ?_ (by omega)
 ·intro i g hi
  simp_all
  rw[bn jF hi,my]
  simp
  rw[aba W,aJ (by omega) (by omega)]
  simp
 simp
theorem abw{w:Nat}(W:cU w){l:List aS}(h:∀p∈l,dH p)(hl:l.length<=2000):IZ w (ct l)=some (cC mf l):=by
 have hb:=W.iE
 refine jV l mf (ev:=λi (g:Value->Int->Int->Option Int)=>g (ax cZ l) l.length i) ?_ ?_ (by omega)
 ·intro i g hi
  simp_all
  rw[bn jF hi,my]
  simp
  rw[abb W (h _ (List.getElem_mem hi)),aJ (by omega) (by omega)]
  simp
 simp
end
section
set_option linter.unusedVariables false
set_option linter.unusedSimpArgs false
set_option linter.unusedSectionVars false
set_option linter.constructorNameAsVariable false
end
section
set_option linter.unusedVariables false
set_option linter.unusedSimpArgs false
set_option linter.unusedSectionVars false
set_option linter.constructorNameAsVariable false
noncomputable def M7(w:Nat)(x0:Int)(x1 x3 x5 x7:Value):Option (Int×Value×Value×Bool):=
 ob (iL w 45058 7 x3 x5 x7) λ(x78:Value×Value×Value×Value)=>ob (iL w 45057 4 x78.snd.fst x78.snd.snd.fst x78.snd.snd.snd) λ(x79:Value×Value×Value×Value)=>ob (gW w x79.fst 0 4 2) λ(x80:Int×Bool)=>bif !x80.snd then some (0,ae 0 [],ae 0 [],false) else bif aj x80.fst 2 then some (0,ae 0 [],ae 0 [],false) else ak x78.fst λ(x81:Nat)=>bif !ai (Int.ofNat x81) (ah IntKind.i64 (Int.mul 16 x80.fst)) then some (0,ae 0 [],ae 0 [],false) else ob (iL w 45057 4 x79.snd.fst x79.snd.snd.fst x79.snd.snd.snd) λ(x82:Value×Value×Value×Value)=>ak x82.fst λ(x83:Nat)=>bif !ai (Int.ofNat x83) 4 then some (0,ae 0 [],ae 0 [],false) else ob (iL w 45056 7 x82.snd.fst x82.snd.snd.fst x82.snd.snd.snd) λ(x84:Value×Value×Value×Value)=>dC 1 x84.fst λ(x85:Nat)(x86:List Value)=>ob (mJ x86) λ(x87:List Int)=>bif !jP (mkStr x87).data.toList (ByteArray.mk #[48,49,48,48]).data.toList then some (0,ae 0 [],ae 0 [],false) else lp FC (vU w) w x78.fst 0 x0 x1 0 (ae 0 []) x0 (ae 0 []) [] []
theorem F7{w:Nat}(hw:5<=w)(b:List UInt8)(hb:b.length<2^50){o:Int}(ho:o=1\/o=2)(p s:Nat)(hs:s=2\/s=4)(hp:p+s<=b.length):gW w (ag b) (p:Int) (s:Int) o=some ((bK b p s o:Int),true):=by
 have:=sY (l:=b) (p:=p) (s:=s) (order:=o) (by omega) ho (by omega)
 unfold bK
 rw[xy hw b (by omega) _ _ _ (by omega),this]
 simp
theorem aa6{w:Nat}(hw:5<=w)(b:List UInt8)(hb:b.length<2^50){o:Int}(ho:o=1\/o=2)(p:Nat)(hp:p+16<=b.length):xz w (ag b) (p:Int) o=some ((kM b p o).attr,(kM b p o).size,(kM b p o).at_,(kM b p o).dQ,(kM b p o).dU):=by
 have n4:∀q:Nat,q+4<=b.length->gW w (ag b) (q:Int) 4 o=some ((bK b q 4 o:Int),true):=λq hq=>F7 hw b hb ho q 4 (.inr rfl) hq
 have n2:∀q:Nat,q+2<=b.length->gW w (ag b) (q:Int) 2 o=some ((bK b q 2 o:Int),true):=λq hq=>F7 hw b hb ho q 2 (.inl rfl) hq
 unfold xz xG iX
 simp only[ay,bO]
 rw[aJ (n:=(p:Int)+4) (by omega) (by omega),aJ (n:=(p:Int)+4+4) (by omega) (by omega),aJ (n:=(p:Int)+4+4+4) (by omega) (by omega),aJ (n:=(p:Int)+4+4+4+2) (by omega) (by omega)]
 rw[show(p:Int)+4+4+4+2=((p+14:Nat):Int) by omega,show(p:Int)+4+4+4=((p+12:Nat):Int) by omega,show(p:Int)+4+4=((p+8:Nat):Int) by omega,show(p:Int)+4=((p+4:Nat):Int) by omega]
 rw[n4 p (by omega),n4 (p+4) (by omega),n4 (p+8) (by omega),n2 (p+12) (by omega),n2 (p+14) (by omega)]
 simp only[ay]
 rfl
theorem GL(b:List UInt8)(o:Int):∀(n p:Nat),(placesOf b o p n).length=n
 |0,_=>rfl
 |n+1,p=>by show(placesOf b o (p+16) n).length+1=n+1;rw[GL]
theorem Pd(b:List UInt8)(o:Int):∀(n p i:Nat)(h:i<(placesOf b o p n).length),(placesOf b o p n)[i]=kM b (p+16*i) o
 |0,_,i,h=>absurd h (Nat.not_lt_zero _)
 |n+1,p,0,h=>rfl
 |n+1,p,i+1,h=>by
  show(placesOf b o (p+16) n)[i]'(by simpa[placesOf] using h)=_
  rw[Pd b o n (p+16) i]
  congr 1
  omega
def se:List aK->List aD->List aD
 |[],v=>v
 | .mk tags _ _::r,_=>se r tags
theorem U3{w:Nat}(ds:List aK)(hw:ds.length<w)(hl:ds.length<1000)(o x0:Int)(a:Value)(P:List cL)(c:List Value)(v:List aD):
 lp M9 zX w (ax cx ds) ds.length 0 x0 a o (au v) c (P.flatMap fm)=some (o,fK P,au (se ds v),true):=by
 refine kI (σ:=List aD) (ev:=λi s (k:yD)=>k (ax cx ds) ds.length i x0 a o (au s) c (P.flatMap fm)) (Inv:=λi s=>se (ds.drop i) s=se ds v) ds.length v ?_ ?_ ?_ hw
 ·rw[List.drop_zero]
 ·intro i g s hi hI
  rw[List.drop_eq_getElem_cons hi] at hI
  have e1:((i:Int)<(ds.length:Int)):=by omega
  obtain⟨⟨tags,subs,blob⟩,hd⟩:∃d,ds[i]=d:=⟨_,rfl⟩
  rw[hd] at hI
  refine⟨tags,hI,?_⟩
  unfold zX tU
  simp only[aO,e1,decide_true,cond_true,bF]
  rw[bn jf hi,hd,vu]
  simp only[aX,bO]
  rw[aJ (by omega) (by omega)]
  rfl
 ·intro g s hI
  rw[List.drop_length,se] at hI
  subst hI
  have e1:¬((ds.length:Int)<(ds.length:Int)):=by omega
  unfold zX tU
  simp only[aO,e1,decide_false,cond_false]
  rw[cK mC,Nat.mul_div_cancel _ (by decide)]
  rfl
theorem U4{w:Nat}{d:List UInt8}{n:Nat}(hd:d.length=16*n)(hn:n<10000){o:Int}(ho:o=1\/o=2)(D0:aK)(ds:List aK)(hl:ds.length<900)(hw:200000<w)(x0:Int)(a b:Value)(c:List Value)(v:List aD)(y:Int):
 ∃q:Unit,lp FC (vU w) w (ag d) 0 o (cy (D0::ds)) x0 a o (au v) c []=some (o,fK (placesOf d o 0 n),au (se ds v),true):=by
 refine⟨(),?_⟩
 refine gz (ev:=λi (k:yC)=>k (ag d) ((16*i:Nat):Int) o (cy (D0::ds)) x0 a o (au v) c (((placesOf d o 0 n).take i).flatMap fm)) n ?_ ?_ (by omega)
 ·intro i g hi
  have e1:(((16*i:Nat):Int)<(d.length:Int)):=by omega
  have hiP:i<(placesOf d o 0 n).length:=by rw[GL];exact hi
  unfold vU pV
  rw[cg]
  simp only[aO,bG,e1,decide_true,cond_true]
  rw[aa6 (by omega) d (by omega) ho (16*i) (by omega)]
  simp only[ay]
  have hr1:aF (((placesOf d o 0 n).take i).flatMap fm).length=true:=by
   rw[cK mC,List.length_take];simp;omega
  have hpc:fm (placesOf d o 0 n)[i]=[.int .i64 (kM d (16*i) o).attr,.int .i64 (kM d (16*i) o).size,.int .i64 (kM d (16*i) o).at_,.int .i64 (kM d (16*i) o).dQ,.int .i64 (kM d (16*i) o).dU]:=by
   rw[Pd,Nat.zero_add];rfl
  rw[hr1,bO,aJ (by omega) (by omega),show((16*i:Nat):Int)+16=((16*(i+1):Nat):Int) by omega,List.take_succ_eq_append_getElem hiP,List.flatMap_append,show[(placesOf d o 0 n)[i]].flatMap fm=fm (placesOf d o 0 n)[i] from by simp,hpc]
  rfl
 ·intro g
  have e1:¬(((16*n:Nat):Int)<(d.length:Int)):=by omega
  unfold vU pV
  rw[cg]
  simp only[aO,bG,e1,decide_false,cond_false]
  rw[show cy (D0::ds)=ax cx (D0::ds) from rfl,bV]
  have e2:1<=(D0::ds).length:=by rw[List.length_cons];omega
  simp only[eV,Nat.le_refl,e2,decide_true,Bool.and_self,cond_true]
  rw[qL jf _ (Nat.le_refl _),List.drop_succ_cons,List.drop_zero,List.take_of_length_le (by rw[List.length_cons];omega),bV,List.take_of_length_le (by rw[GL];omega)]
  exact U3 ds (by omega) (by omega) o x0 a _ c v
def fC(o:Int)(l:List cL):List aD:=[⟨45056,7,4,[48,49,48,48]⟩,⟨45057,4,1,dA l.length 4⟩,⟨45058,7,((16*l.length:Nat):Int),l.flatMap (cT o)⟩]
theorem M8{w:Nat}(hw:200000<w){o:Int}(ho:o=1\/o=2){l:List cL}(h2:2<=l.length)(hl:16*l.length<=65536)(hp:∀p∈l,iH p=true)(D0:aK)(ds:List aK)(hds:ds.length<900)(y z:Value):
 M7 w o (cy (D0::ds)) (au (fC o l)) y z=some (o,fK l,au (se ds []),true):=by
 have hlen:(l.flatMap (cT o)).length=16*l.length:=lG o l
 have hd:∀t∈fC o l,t.data.length<=1000000000:=by
  intro t ht
  simp only[fC,List.mem_cons,List.not_mem_nil,or_false] at ht
  rcases ht with rfl|rfl|rfl
  ·simp
  ·simp only[mg];omega
  ·simp only[hlen];omega
 have hr:ed (fC o l)=true:=by simp[fC,ed]
 have hL:(fC o l).length=3:=rfl
 have f1:=BR (w:=w) (fC o l) 45058 hr (by rw[hL];omega) (by rw[hL];omega) hd
 have f2:=BR (w:=w) (fC o l) 45057 hr (by rw[hL];omega) (by rw[hL];omega) hd
 have f3:=BR (w:=w) (fC o l) 45056 hr (by rw[hL];omega) (by rw[hL];omega) hd
 rw[show fU (fC o l) 45058=some ⟨45058,7,((16*l.length:Nat):Int),l.flatMap (cT o)⟩ from rfl] at f1
 rw[show fU (fC o l) 45057=some ⟨45057,4,1,dA l.length 4⟩ from rfl] at f2
 rw[show fU (fC o l) 45056=some ⟨45056,7,4,[48,49,48,48]⟩ from rfl] at f3
 have g1:∀a b:Value,iL w 45058 7 (au (fC o l)) a b=some (ag (l.flatMap (cT o)),au (fC o l),a,b):=by
  intro a b
  unfold iL
  rw[f1]
  rfl
 have g2:∀a b:Value,iL w 45057 4 (au (fC o l)) a b=some (ag (dA l.length 4),au (fC o l),a,b):=by
  intro a b
  unfold iL
  rw[f2]
  rfl
 have g3:∀a b:Value,iL w 45056 7 (au (fC o l)) a b=some (ag [48,49,48,48],au (fC o l),a,b):=by
  intro a b
  unfold iL
  rw[f3]
  rfl
 have hn:gW w (ag (dA l.length 4)) 0 4 2=some ((l.length:Int),true):=by
  have:=F7 (w:=w) (by omega) (dA l.length 4) (by rw[mg];omega) (.inr rfl) 0 4 (.inr rfl) (by rw[mg];omega)
  rw[kJ (b:=dA l.length 4) (pre:=[]) (post:=[]) (n:=l.length) (p:=0) (s:=4) (order:=2) (by simp[aN]) rfl (.inr (.inr rfl)) (.inr rfl) (by omega)] at this
  exact this
 obtain⟨-,h6⟩:=U4 (w:=w) (d:=l.flatMap (cT o)) (n:=l.length) hlen (by omega) ho D0 ds hds hw 0 (ae 0 []) (ae 0 []) [] [] 0
 have hpl:placesOf (l.flatMap (cT o)) o 0 l.length=l:=GK ho l [] [] 0 (by simp) rfl hp
 rw[hpl] at h6
 unfold M7
 rw[g1]
 simp only[ay]
 rw[g2]
 simp only[ay]
 rw[hn]
 simp only[ay,Bool.not_true,cond_false]
 rw[show aj (l.length:Int) 2=false by rw[aO,decide_eq_false_iff_not];omega,cond_false,cg,lu,aJ (by omega) (by omega),show ai (Int.ofNat (l.flatMap (cT o)).length) (16*(l.length:Int))=true by rw[bT,decide_eq_true_eq,bG,hlen];omega,Bool.not_true,cond_false,g2]
 simp only[ay]
 rw[cg,mg,show(!ai (Int.ofNat 4) 4)=false from rfl,cond_false,g3]
 simp only[ay]
 rw[fV,fZ,yv]
 simp only[ay]
 rw[Ai,show(!jP [48,49,48,48] (ByteArray.mk #[48,49,48,48]).data.toList)=false from rfl,cond_false]
 exact h6
theorem acF{w:Nat}(hw:200000<w){o:Int}(ho:o=1\/o=2){l:List cL}(h2:2<=l.length)(hl:16*l.length<=65536)(hp:∀p∈l,iH p=true){view:List aD}(hv:VS view)(hr:cF 5 view=true):
 xZ w o (cy (cH o l view).cS)=some (o,fK l,au view,true):=by
 have hvl:=hv.1
 have e0:∀(ds:List aK)(K:List Value->Option (Int×Value×Value×Bool)),aE 3 0 (cy (dO o l::ds)) K=K (cx (dO o l)++ds.flatMap cx):=λds K=>bn jf (l:=dO o l::ds) (m:=0) (by rw[List.length_cons];omega) K
 have e1:cx (dO o l)=[au (fC o l),ae 0 [],ae 0 []]:=by unfold dO;rw[sN];rfl
 have e2:∀(ds:List aK)(K:Nat->Option (Int×Value×Value×Bool)),ak (cy (dO o l::ds)) K=K (dO o l::ds).length:=λds K=>bV cx _ K
 have e3:∀(K:Nat->Option (Int×Value×Value×Bool)),ak (au (fC o l)) K=K 3:=λK=>bV bR _ K
 unfold cH
 by_cases h0:view.length=0
 ·rw[if_pos h0]
  have hve:view=[]:=List.length_eq_zero_iff.1 h0
  have ht:=M8 hw ho h2 hl hp (dO o l) [] (by show 0<900;omega) (ae 0 []) (ae 0 [])
  unfold xZ pV tU
  rw[e0,e1]
  simp only[List.cons_append,aX]
  rw[e3,show(!ai (Int.ofNat 3) 3)=false from rfl,cond_false,e2,show aj 1 (Int.ofNat [dO o l].length)=false from rfl,cond_false,hve]
  exact ht
 ·rw[if_neg h0]
  have ht:=M8 hw ho h2 hl hp (dO o l) [.mk view .nil []] (by show 1<900;omega) (ae 0 []) (ae 0 [])
  have x1:∀(K:List Value->Option (Int×Value×Value×Bool)),aE 3 1 (cy (dO o l::[.mk view .nil []])) K=K (cx (.mk view .nil [])++[]):=λK=>bn jf (l:=dO o l::[.mk view .nil []]) (m:=1) (by show 1<2;omega) K
  unfold xZ pV tU
  rw[e0,e1]
  simp only[List.cons_append,aX]
  rw[e3,show(!ai (Int.ofNat 3) 3)=false from rfl,cond_false,e2,show aj 1 (Int.ofNat [dO o l,.mk view .nil []].length)=true from rfl,cond_true,x1,sN]
  simp only[List.cons_append,List.drop_zero,aX]
  rw[oN (by omega) 5 view (by omega) (λt ht=>by have:=hv.2 t ht;omega) (by omega),hr]
  simp only[ay,Bool.not_true,cond_false]
  exact ht
theorem ab0{w:Nat}(W:cU w)(hw:800000<w){o:Int}{l:List cL}{view:List aD}{b:List UInt8}(h:fW o l view=.ok b)(hv:VS view)(hS:(eK (cH o l view)).length<100000000):CD w (ag b)=some (o,fK l,au view,0):=by
 have hvl:=hv.1
 have ho:(o=1\/o=2)/\2<=l.length/\16*l.length<=65536/\(∀p∈l,iH p=true)/\cF 5 view=true:=by
  unfold fW at h
  split at h
  ·cases h
  rename_i h1
  split at h
  ·cases h
  rename_i h2
  split at h
  ·cases h
  rename_i h3
  split at h
  ·cases h
  rename_i h4
  refine⟨by omega,by omega,by omega,λp hp=>List.all_eq_true.1 (by simpa using h2) p hp,by simpa using h3⟩
 obtain⟨r,hb,hr,hwk,-,hbl⟩:=MG h (by omega)
 have hp:fJ.isPrefixOf b=true:=by rw[hb,List.isPrefixOf_iff_prefix];exact List.prefix_append _ _
 have hl4:b.length=r.length+4:=by rw[hb,List.length_append];have:fJ.length=4:=rfl;omega
 have h117:=QD (w:=w) (b:=r) (sh:=eL) (by omega) (by omega) Ep (λs hs=>by
  have:s=0\/s=1:=by simp[eL] at hs;omega
  rcases this with rfl|rfl<;>decide) (by decide) (by decide) (QV (by omega)) (o:=o) (ds:=(cH o l view).cS) (S:=eK (cH o l view)) hS hwk
 have h62:C7 w (ag b) (bP eL)=some (o,cy (cH o l view).cS,ax bH (eK (cH o l view)),0):=by
  have e1:¬((65533:Int)<(b.length:Int)):=by omega
  have e2:¬((b.length:Int)<(4:Int)):=by omega
  have e3:4<=b.length:=by omega
  have h116:BQ w (ag b)=some true:=by
   unfold BQ Bu
   have:ae 4 (List.drop 0 [Value.int IntKind.u8 77,Value.int IntKind.u8 80,Value.int IntKind.u8 70,Value.int IntKind.u8 0])=ag fJ:=rfl
   rw[this,BI,hp]
   rfl
  unfold C7
  rw[cg]
  simp only[aO,bG,e1,decide_false,cond_false]
  rw[cg]
  simp only[e2,decide_false,cond_false]
  rw[h116]
  simp only[ay,Bool.not_true,cond_false]
  rw[cg]
  simp only[eV,Nat.le_refl,e3,decide_true,Bool.and_self,cond_true]
  rw[mh _ (Nat.le_refl _),List.take_of_length_le (by rw[List.length_drop];omega),show b.drop 4=r by rw[hb];rfl,h117]
  rfl
 unfold CD
 rw[show uF w=some (bP eL) from rfl]
 simp only[ay]
 rw[h62]
 simp only[ay]
 rw[show(!ai 0 0)=false from rfl,cond_false,acF (by omega) ho.1 ho.2.1 ho.2.2.1 ho.2.2.2.1 hv ho.2.2.2.2]
 rfl
end
section
set_option linter.unusedVariables false
set_option linter.unusedSimpArgs false
set_option linter.unusedSectionVars false
set_option linter.constructorNameAsVariable false
noncomputable def M5(w:Nat)(x0:Int)(x1 x2:Value):Option (Value×Int):=
 ak x1 λ(x48:Nat)=>bif aj (Int.ofNat x48) 2 then some (ae 0 [],1) else ak x1 λ(x49:Nat)=>lp nG (kF w) w x1 (Int.ofNat x49) 0 x0 x1 x2 []
theorem MK{w:Nat}(W:cU w){o:Int}(ho:o=1\/o=2){l:List cL}(h2:2<=l.length)(hl:l.length<=600){view:List aD}(hv:VS view)(hr:cF 5 view=true):lX w 10000 eL o (cH o l view).cS:=by
 have hvl:=hv.1
 have hdirs:∀d∈(cH o l view).cS,d=dO o l\/(d=.mk view .nil []/\view.length≠0):=by
  intro d hd
  rcases List.mem_cons.1 hd with rfl|hd
  ·exact .inl rfl
  ·split at hd
   ·cases hd
   ·rename_i h0;exact .inr ⟨List.mem_singleton.1 hd,h0⟩
 have hlen2:(cH o l view).cS.length<=2:=by
  unfold cH
  split<;>simp
 refine J4 W Ep (QV (by have:=W.iE;omega)) (by decide) (λs hs=>?_) ho (by simp[cH]) (by omega) (λd hd=>?_) ?_ ?_ (MJ ⟨by omega,by omega⟩ hr (by omega))
 ·have:s=0\/s=1:=by simp[eL] at hs;omega
  rcases this with rfl|rfl<;>decide
 ·rcases hdirs d hd with rfl|⟨rfl,_⟩
  ·refine⟨by show 3<=_;omega,by show 0<=_;omega,by show 0<=_;omega,λt ht=>?_,trivial⟩
   simp_all
   rcases ht with rfl|rfl|rfl
   ·simp
   ·simp only[mg];omega
   ·simp only[(lG o l)];omega
  ·exact⟨by omega,by show 0<=_;omega,by show 0<=_;omega,λt ht=>by have:=hv.2 t ht;omega,trivial⟩
 ·unfold cH dO
  split<;>simp[iR,eB,ij]
 ·unfold cH dO
  split<;>simp[gj,cJ,fS]
theorem U2{w:Nat}(W:cU w){o:Int}(ho:o=1\/o=2){l:List cL}(h2:2<=l.length)(hl:l.length<=600){view:List aD}(hv:VS view):
 lp nG (kF w) w (fK l) l.length 0 o (fK l) (au view) []=some (match fW o l view with| .ok b=>(ag b,0)| .error e=>(ae 0 [],e)):=by
 have hb:=W.iE
 have hvl:=hv.1
 have hlen:∀i,((l.take i).flatMap (cT o)).length=16*(l.take i).length:=λi=>lG o _
 have h1n:¬(¬(o=1\/o=2)\/l.length<2):=by
  rintro (q|q)
  ·exact q ho
  ·omega
 have hall:∀(k i v:Nat),i+k=l.length->k<v->l.all iH=true->lp nG (kF w) v (fK l) l.length i o (fK l) (au view) (((l.take i).flatMap (cT o)).map aQ)=some (match fW o l view with| .ok b=>(ag b,0)| .error e=>(ae 0 [],e)):=by
  intro k
  induction k with
  |zero=>
   intro i v hi hv2 ha
   have e1:¬((i:Int)<(l.length:Int)):=by omega
   have htk:l.take i=l:=List.take_of_length_le (by omega)
   have hpl:(l.flatMap (cT o)).length=16*l.length:=lG o l
   rw[dt nG (kF w) (by omega),htk]
   unfold kF rG rF rI
   simp only[aO,e1,decide_false,cond_false]
   rw[oN (by omega) 5 view (by omega) (λt ht=>by have:=hv.2 t ht;omega) (by omega)]
   simp only[ay]
   unfold fW
   rw[if_neg h1n,ha,if_neg (by decide:¬(true=false))]
   cases hr:cF 5 view with
   |false=>rfl
   |true=>
    have T:=MK W ho h2 hl hv hr
    have h150:=QL T
    rw[show(⟨o,(cH o l view).cS⟩:jO)=cH o l view from rfl] at h150
    rw[if_neg (by decide:¬(true=false)),if_neg (by omega:¬(65536<16*l.length))]
    simp only[Bool.not_true,cond_false,List.length_map,Nat.div_one,bG]
    have e2:¬((65536:Int)<((l.flatMap (cT o)).length:Int)):=by omega
    simp only[e2,decide_false,cond_false]
    rw[show fK l=ax fm l from rfl,bV]
    rw[show[Value.int IntKind.i64 (l.length:Int)].length=1 from rfl,abg (by omega) l.length (by omega)]
    simp only[ay]
    rw[show au view=ax bR view from rfl,bV,show uF w=some (bP eL) from rfl]
    simp only[ay]
    have hd0:ae 3 [Value.int IntKind.i64 45056,Value.int IntKind.i64 7,Value.int IntKind.i64 4,ae 4 (List.drop 0 [Value.int IntKind.u8 48,Value.int IntKind.u8 49,Value.int IntKind.u8 48,Value.int IntKind.u8 48]),Value.int IntKind.i64 45057,Value.int IntKind.i64 4,Value.int IntKind.i64 1,ag (dA l.length 4),Value.int IntKind.i64 45058,Value.int IntKind.i64 7,Value.int IntKind.i64 ((l.flatMap (cT o)).length:Int),ae (l.flatMap (cT o)).length ((l.flatMap (cT o)).map aQ)]=au (fC o l):=by
     unfold fC
     rw[<-lk,hpl]
     rfl
    rw[hd0]
    have hdc:cx (dO o l)=[au (fC o l),ae 0 [],ae 0 []]:=by unfold dO;rw[sN];rfl
    have fin:(ob (rK w o (cy (cH o l view).cS) (bP eL)) λ(x45:Value×Int)=>some (x45.fst,x45.snd))=some (match(if 65533<4+fq (cH o l view) then .error 7 else .ok (fJ++dc (cH o l view) eL):Except Int (List UInt8)) with| .ok b=>(ag b,0)| .error e=>(ae 0 [],e)):=by
     rw[h150]
     by_cases h7:65533<4+fq (cH o l view)
     ·rw[if_pos h7,if_pos h7];rfl
     ·rw[if_neg h7,if_neg h7];rfl
    by_cases h0:view.length=0
    ·have e3:¬((0:Int)<((view.length:Nat):Int)):=by omega
     simp only[e3,decide_false,cond_false]
     have hdd:ae 1 [au (fC o l),ae 0 [],ae 0 []]=cy (cH o l view).cS:=by
      unfold cH
      rw[if_pos h0]
      show _=ae 1 (cx (dO o l)++[])
      rw[hdc]
      rfl
     rw[hdd]
     exact fin
    ·have e3:((0:Int)<((view.length:Nat):Int)):=by omega
     simp only[e3,decide_true,cond_true]
     have hdd:ae ((List.take 3 (List.drop 0 [au (fC o l),ae 0 [],ae 0 []])++List.take 3 (List.drop 0 [ax bR view,ae 0 [],ae 0 []])).length/3) (List.take 3 (List.drop 0 [au (fC o l),ae 0 [],ae 0 []])++List.take 3 (List.drop 0 [ax bR view,ae 0 [],ae 0 []]))=cy (cH o l view).cS:=by
      unfold cH
      rw[if_neg h0]
      show _=ae 2 (cx (dO o l)++(cx (.mk view .nil [])++[]))
      rw[hdc,sN,show(List.take 3 (List.drop 0 [au (fC o l),ae 0 [],ae 0 []])++List.take 3 (List.drop 0 [ax bR view,ae 0 [],ae 0 []])).length=6 from rfl]
      rfl
     rw[hdd]
     exact fin
  |succ k ih=>
   intro i v hi hv2 ha
   have hiL:i<l.length:=by omega
   have e1:((i:Int)<(l.length:Int)):=by omega
   have hp:=List.all_eq_true.1 ha _ (List.getElem_mem hiL)
   have:=ih (i+1) (v -1) (by omega) (by omega) ha
   rw[dt nG (kF w) (by omega),<-this]
   generalize hg:lp nG (kF w) (v -1)=g
   have tg:∀(y:cL)(r:List Value),fm y++r=.int .i64 y.attr::.int .i64 y.size::.int .i64 y.at_::.int .i64 y.dQ::.int .i64 y.dU::r:=λ_ _=>rfl
   unfold kF rG rF rI
   simp only[aO,e1,decide_true,cond_true,bF]
   rw[show fK l=ax fm l from rfl,bn mC hiL,tg]
   simp only[aX,bN]
   rw[IK (by omega) l[i] ho,if_pos hp]
   simp only[ay,Bool.not_true,cond_false]
   rw[fV,fZ]
   have r1:aF (List.map aQ ((l.take i).flatMap (cT o))).length=true:=by
    rw[List.length_map,hlen,List.length_take];simp;omega
   rw[r1,A4 _ (by rw[AQ];omega),Bool.and_self,cond_true,bO,aJ (by omega) (by omega),List.take_succ_eq_append_getElem hiL,List.flatMap_append,List.map_append,show[l[i]].flatMap (cT o)=cT o l[i] by simp]
   rfl
 cases ha:l.all iH with
 |true=>exact hall l.length 0 w (by omega) (by omega) ha
 |false=>
  have hbad:∀(k i v:Nat),i+k=l.length->k<v->(l.drop i).all iH=false->lp nG (kF w) v (fK l) l.length i o (fK l) (au view) (((l.take i).flatMap (cT o)).map aQ)=some (ae 0 [],1):=by
   intro k
   induction k with
   |zero=>
    intro i v hi hv2 h
    rw[show l.drop i=[] from List.drop_of_length_le (by omega)] at h
    cases h
   |succ k ih=>
    intro i v hi hv2 h
    have hiL:i<l.length:=by omega
    have e1:((i:Int)<(l.length:Int)):=by omega
    rw[List.drop_eq_getElem_cons hiL,List.all_cons] at h
    have tg:∀(y:cL)(r:List Value),fm y++r=.int .i64 y.attr::.int .i64 y.size::.int .i64 y.at_::.int .i64 y.dQ::.int .i64 y.dU::r:=λ_ _=>rfl
    rw[dt nG (kF w) (by omega)]
    cases hp:iH l[i] with
    |false=>
     unfold kF rG rF rI
     simp only[aO,e1,decide_true,cond_true,bF]
     rw[show fK l=ax fm l from rfl,bn mC hiL,tg]
     simp only[aX,bN]
     rw[IK (by omega) l[i] ho,hp]
     rfl
    |true=>
     rw[hp,Bool.true_and] at h
     have:=ih (i+1) (v -1) (by omega) (by omega) h
     rw[<-this]
     generalize hg:lp nG (kF w) (v -1)=g
     unfold kF rG rF rI
     simp only[aO,e1,decide_true,cond_true,bF]
     rw[show fK l=ax fm l from rfl,bn mC hiL,tg]
     simp only[aX,bN]
     rw[IK (by omega) l[i] ho,if_pos hp]
     simp only[ay,Bool.not_true,cond_false]
     rw[fV,fZ]
     have r1:aF (List.map aQ ((l.take i).flatMap (cT o))).length=true:=by
      rw[List.length_map,hlen,List.length_take];simp;omega
     rw[r1,A4 _ (by rw[AQ];omega),Bool.and_self,cond_true,bO,aJ (by omega) (by omega),List.take_succ_eq_append_getElem hiL,List.flatMap_append,List.map_append,show[l[i]].flatMap (cT o)=cT o l[i] by simp]
     rfl
  have:=hbad l.length 0 w (by omega) (by omega) (by rw[List.drop_zero];exact ha)
  unfold fW
  rw[if_neg h1n,ha,if_pos rfl]
  exact this
theorem Ri{w:Nat}(W:cU w)(o:Int){l:List cL}(hl:l.length<=600){view:List aD}(hv:VS view):yb w o (fK l) (au view)=some (match fW o l view with| .ok b=>(ag b,0)| .error e=>(ae 0 [],e)):=by
 by_cases ho:o=1\/o=2
 case neg=>
  unfold yb fW rG rF rI
  rw[if_pos (.inl ho),(show ai o 1=false from by rw[bT,decide_eq_false_iff_not];exactλq=>ho (.inl q)),(show ai o 2=false from by rw[bT,decide_eq_false_iff_not];exactλq=>ho (.inr q))]
  rfl
 have hrest:M5 w o (fK l) (au view)=some (match fW o l view with| .ok b=>(ag b,0)| .error e=>(ae 0 [],e)):=by
  unfold M5
  rw[(show∀K:Nat->Option (Value×Int),ak (fK l) K=K l.length fromλK=>bV fm l K)]
  by_cases h2:l.length<2
  ·have e1:aj (Int.ofNat l.length) 2=true:=by rw[aO,decide_eq_true_eq,bG];omega
   unfold fW
   rw[if_pos (.inr h2),e1]
   rfl
  ·have e1:aj (Int.ofNat l.length) 2=false:=by rw[aO,decide_eq_false_iff_not,bG];omega
   rw[e1]
   exact U2 W ho (by omega) hl hv
 rcases ho with rfl|rfl<;>exact hrest
end
section
set_option linter.unusedVariables false
set_option linter.unusedSimpArgs false
set_option linter.unusedSectionVars false
set_option linter.constructorNameAsVariable false
def eR(ms:List aS):List cL:=ms.map λp=>⟨p.attr,0,0,p.dQ,p.dU⟩
def gB(ms:List aS)(i:Nat):Except Int (List UInt8):=
 match ms[i]? with
 |none=>.ok []
 |some p=>if i=0 then(if 1<ms.length then fW p.az.order (eR ms) p.view else .ok []) else if p.view.length=0 then .ok [] else uU p.az.order p.view
theorem aaB{w:Nat}(W:cU w){ms:List aS}(hl:ms.length<=600)(o:Int){view:List aD}(hv:VS view):
 lp Qh (Bi w) w (ct ms) ms.length 0 o (au view) []=some (match fW o (eR ms) view with| .ok b=>(ag b,0)| .error e=>(ae 0 [],e)):=by
 have hb:=W.iE
 refine gz (ev:=λi (k:yT)=>k (ct ms) ms.length i o (au view) ((eR (ms.take i)).flatMap fm)) ms.length ?_ ?_ (by omega)
 ·intro i g hi
  have e1:((i:Int)<(ms.length:Int)):=by omega
  have r1:aF ((eR (ms.take i)).flatMap fm).length=true:=by
   rw[cK mC];unfold eR;simp;omega
  unfold Bi Bx
  simp only[aO,e1,bF]
  rw[show ct ms=ax cZ ms from rfl,bn jF hi,r1,bO,aJ (by omega) (by omega)]
  have hp:(eR (ms.take (i+1))).flatMap fm=(eR (ms.take i)).flatMap fm++[Value.int IntKind.i64 ms[i].attr,Value.int IntKind.i64 0,Value.int IntKind.i64 0,Value.int IntKind.i64 ms[i].dQ,Value.int IntKind.i64 ms[i].dU]:=by
   unfold eR
   rw[List.take_succ_eq_append_getElem hi,List.map_append,List.flatMap_append]
   rfl
  rw[hp]
  rfl
 ·intro g
  unfold Bi Bx
  simp only[aO,(show¬((ms.length:Int)<(ms.length:Int)) from by omega)]
  rw[List.take_length,cK mC,Nat.mul_div_cancel _ (by decide)]
  have:=Ri W o (l:=eR ms) (by unfold eR;rw[List.length_map];exact hl) hv
  rw[show ae (eR ms).length ((eR ms).flatMap fm)=fK (eR ms) from rfl,this]
  rfl
theorem Rb{w:Nat}(W:cU w){ms:List aS}(h:∀p∈ms,dH p)(hl:ms.length<=600){i:Nat}(hi:i<ms.length):CZ w (ct ms) (i:Int)=some (match gB ms i with| .ok b=>(ag b,0)| .error e=>(ae 0 [],e)):=by
 have hm:=h _ (List.getElem_mem hi)
 have hlr:∀K:Nat->Option (Value×Int),ak (ct ms) K=K ms.length:=λK=>bV cZ ms K
 have hlv:∀K:Nat->Option (Value×Int),ak (au ms[i].view) K=K ms[i].view.length:=λK=>bV bR _ K
 unfold CZ gB Ib
 rw[List.getElem?_eq_getElem hi,bF,show ct ms=ax cZ ms from rfl,bn jF hi,my]
 simp only[aX,bN]
 rw[show ax cZ ms=ct ms from rfl]
 by_cases h0:i=0
 ·rw[if_pos h0,show ai (i:Int) 0=true by rw[bT,decide_eq_true_eq];omega,hlr]
  by_cases h1:1<ms.length
  ·rw[if_pos h1,show aj 1 (Int.ofNat ms.length)=true by rw[aO,decide_eq_true_eq,bG];omega,hlr]
   exact aaB W hl _ hm.vs
  ·rw[if_neg h1,show aj 1 (Int.ofNat ms.length)=false by rw[aO,decide_eq_false_iff_not,bG];omega]
   rfl
 ·rw[if_neg h0,show ai (i:Int) 0=false by rw[bT,decide_eq_false_iff_not];omega,hlv]
  by_cases h1:ms[i].view.length=0
  ·rw[h1]
   rfl
  ·rw[if_neg h1,show ai (Int.ofNat ms[i].view.length) 0=false by rw[bT,decide_eq_false_iff_not,bG];omega,acL W _ hm.vs]
   rfl
theorem HJ{ms:List aS}{i:Nat}{b:List UInt8}(h:gB ms i=.ok b)(hm:∀p∈ms,dH p)(hl:ms.length<=600):b.length=0\/(fJ.isPrefixOf b=true/\b.length<=65533):=by
 unfold gB at h
 split at h
 ·injection h with h;subst h;exact .inl rfl
 rename_i p hp
 have hmp:=hm p (List.mem_of_getElem? hp)
 split at h
 ·split at h
  ·right
   obtain⟨r,hb,-,-,-,hbl⟩:=MG h (by have:=hmp.tv.1;omega)
   exact⟨by rw[hb,List.isPrefixOf_iff_prefix];exact List.prefix_append _ _,hbl⟩
  ·injection h with h;subst h;exact .inl rfl
 ·split at h
  ·injection h with h;subst h;exact .inl rfl
  ·right
   rename_i h0
   unfold uU at h
   split at h
   ·cases h
   split at h
   ·cases h
   rename_i hr
   split at h
   ·cases h
   injection h with h
   have hlen:=uN (Sk (o:=p.az.order) (by simpa using hr) h0 (by have:=hmp.tv.1;omega))
   rw[<-h]
   refine⟨by rw[List.isPrefixOf_iff_prefix];exact List.prefix_append _ _,?_⟩
   rw[List.length_append]
   have:fJ.length=4:=rfl
   omega
def eC(p:aS)(bY:List UInt8):kS:=⟨p.az,p.bL,p.core,bY,0,0⟩
theorem Fs{ms:List aS}{i:Nat}(hi:i<ms.length){b aL:List UInt8}(h:gB ms i=.ok b)(hm:∀p∈ms,dH p)(hl:ms.length<=600)(ha:fY ms[i].az=.ok aL)(hc:ky ms[i].core=true):uX (eC ms[i] b) aL:=by
 have hmp:=hm _ (List.getElem_mem hi)
 refine⟨ha,?_,by have:=hmp.ic;show ms[i].bL.length<=_;omega,hc,HJ h hm hl⟩
 have:=hmp.sS.rows
 show nN ms[i].az 65000
 unfold nN at this⊢
 omega
def kZ(aL b:List UInt8):Int:=if b.length=0 then 0 else((aL.length+10:Nat):Int)
theorem Q8{w:Nat}(W:cU w)(hw:1000000<w){ms:List aS}{i:Nat}(hi:i<ms.length){b aL:List UInt8}(h:gB ms i=.ok b)(hm:∀p∈ms,dH p)(hl:ms.length<=600)(ha:fY ms[i].az=.ok aL)(hc:ky ms[i].core=true):
 rS w (ct ms) (i:Int)=some (ms[i].az.order,au ms[i].az.bQ,au ms[i].az.bm,au ms[i].az.bD,au ms[i].az.aZ,au ms[i].az.first,ag ms[i].az.bk,ag ms[i].az.cm,ag ms[i].bL,ag ms[i].core,ag b,kZ aL b,((dM (eC ms[i] b) aL).length:Int),true):=by
 have hmp:=hm _ (List.getElem_mem hi)
 have hok:=Fs hi h hm hl ha hc
 have hic:=hmp.ic
 have hco:=hmp.co
 have hbl:b.length<=65533:=by rcases HJ h hm hl with q|q;omega;exact q.2
 unfold rS
 rw[Rb W hm hl hi,h]
 simp only[ay]
 rw[bF,show ct ms=ax cZ ms from rfl,bn jF hi,my]
 simp
 rw[(show um w ms[i].az.order (au ms[i].az.bQ) (au ms[i].az.bm) (au ms[i].az.bD) (au ms[i].az.aZ) (au ms[i].az.first) (ag ms[i].az.bk) (ag ms[i].az.cm) (ag ms[i].bL) (ag ms[i].core) (ag b) 0 0=some (ag (dM (eC ms[i] b) aL),0) from(QX W hok hmp.sS (by omega) ⟨by show ms[i].core.length<=_;omega,by show ms[i].bL.length<=_;omega,hbl⟩ (by omega) 0 0))]
 simp
 rw[(abO W hok hmp.sS (by omega) ⟨by show ms[i].core.length<=_;omega,by show ms[i].bL.length<=_;omega,hbl⟩ (by omega))]
 rfl
theorem ack{w:Nat}(W:cU w){ms:List aS}{i:Nat}(hi:i<ms.length){e:Int}(h:gB ms i=.error e)(he:e≠0)(hm:∀p∈ms,dH p)(hl:ms.length<=600):
 rS w (ct ms) (i:Int)=some (0,ae 0 [],ae 0 [],ae 0 [],ae 0 [],ae 0 [],ae 0 [],ae 0 [],ae 0 [],ae 0 [],ae 0 [],0,0,false):=by
 unfold rS
 rw[Rb W hm hl hi]
 simp_all
theorem aaC{ms:List aS}{i:Nat}{e:Int}(h:gB ms i=.error e):e≠0:=by
 unfold gB at h
 split at h
 ·cases h
 split at h
 ·split at h
  ·unfold fW at h
   repeat' split at h
   all_goals(cases h<;>decide)
  ·cases h
 ·split at h
  ·cases h
  ·unfold uU at h
   repeat' split at h
   all_goals(cases h<;>decide)
def bM(l:List Int):List Value:=l.map λn:Int=>.int .i64 n
theorem I3{w:Nat}(n:Int)(st:List Int)(s:Int)(hn:1<=n/\n<=10000000)(hs:0<=s/\s<=4000000000)(hl:st.length<10000):rN w n (bM (st++[s]))=some (false,bM (st++[s]++[s+n])):=by
 have hdrop:List.drop (0+st.length*1) (bM (st++[s]))=[Value.int .i64 s]:=by
  unfold bM
  rw[List.map_append,List.drop_left' (by simp)]
  rfl
 unfold rN
 rw[(show(bM (st++[s])).length=st.length+1 from by unfold bM;simp),Nat.div_one,gS,bG,aJ (by omega) (by omega),show((st.length+1:Nat):Int) -1=(st.length:Int) by omega,bF,hdrop]
 simp
 rw[QQ,if_pos ⟨by unfold jH;rw[decide_eq_true_eq];omega,by unfold jH;rw[decide_eq_true_eq];omega,by unfold jH;rw[decide_eq_true_eq];omega⟩]
 have r1:aF (st.length+1)=true:=by simp;omega
 have hap:bM (st++[s])++[Value.int IntKind.i64 (s+n)]=bM (st++[s]++[s+n]):=by unfold bM;simp
 simp_all
theorem ac5{w:Nat}(L:List Int)(hL:∀n∈L,1<=n/\n<=3000000)(hl:L.length<=1000)(hw:2000<w):∃st:List Value,lp nT (eI w) w L.length 0 (bM L) (bM [0])=some (-1,bM L,st):=by
 have key:∀(k i v:Nat)(st:List Int)(s:Int),i+k=L.length->k<v->st.length=i->0<=s/\s<=3000000*i->∃st':List Value,lp nT (eI w) v L.length i (bM L) (bM (st++[s]))=some (-1,bM L,st'):=by
  intro k
  induction k with
  |zero=>
   intro i v st s hi hv _ _
   have e1:¬((i:Int)<(L.length:Int)):=by omega
   rw[dt nT (eI w) (by omega)]
   unfold eI
   simp only[aO,e1,decide_false,cond_false]
   exact⟨_,rfl⟩
  |succ k ih=>
   intro i v st s hi hv hst hs
   have hiL:i<L.length:=by omega
   have e1:((i:Int)<(L.length:Int)):=by omega
   have hn:=hL _ (List.getElem_mem hiL)
   obtain⟨st',hst'⟩:=ih (i+1) (v -1) (st++[s]) (s+L[i]) (by omega) (by omega) (by rw[List.length_append,hst];rfl) (by omega)
   refine⟨st',?_⟩
   rw[dt nT (eI w) (by omega),<-hst']
   have hlen:(bM L).length=L.length:=by unfold bM;rw[List.length_map]
   have hdrop:List.drop (0+i*1) (bM L)=.int .i64 L[i]::bM (L.drop (i+1)):=by
    unfold bM
    rw[Nat.zero_add,Nat.mul_one,<-List.map_drop,List.drop_eq_getElem_cons hiL,List.map_cons]
   have e2:i*1<L.length:=by omega
   unfold eI
   simp only[aO,e1,decide_true,cond_true,bF]
   rw[hlen]
   simp only[jQ,e2,decide_true,Bool.and_true,cond_true]
   rw[hdrop]
   simp only[aX,bN]
   rw[I3 _ st s ⟨hn.1,by omega⟩ ⟨hs.1,by omega⟩ (by omega)]
   simp only[ay,cond_false,bO]
   rw[aJ (by omega) (by omega)]
   rfl
 exact key L.length 0 w [] 0 (by omega) (by omega) rfl ⟨by omega,by omega⟩
theorem abd{w:Nat}(L:List Int)(hL:∀n∈L,1<=n/\n<=3000000)(hl:L.length<=1000)(hw:2000<w):∃st:List Value,qb w (bM L)=some (true,bM L,st):=by
 obtain⟨st,h⟩:=ac5 L hL hl hw
 refine⟨st,?_⟩
 have h2:uq w (bM L) [Value.int .i64 0]=some (-1,bM L,st):=by
  unfold uq
  rw[(show(bM L).length=L.length from by unfold bM;rw[List.length_map]),Nat.div_one]
  exact h
 unfold qb Cj
 simp_all
end
end Lt
end Go.Proofs.YtcfjfbeadhnknaaGreatDoor

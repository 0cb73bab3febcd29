import Derived.Test.YtcfjfbeadhnknaaGreatDoorCards
import Derived.Test.YtcfjfbeadhnknaaGreatDoorTie
import Derived.Deep.DeepHandedRow
import Derived.Deep.DeepWitnessRowRef
import Derived.Lib.LaidTab
import Derived.LaidMore
import Derived.MakeChecks
import Derived.Lib.SmallJoins
import Derived.Test.YtcfjfbeadhnknaaGreatDoorBI
namespace Go.Proofs.YtcfjfbeadhnknaaGreatDoor
set_option linter.unusedVariables false
set_option linter.unusedSimpArgs false
set_option linter.unusedSectionVars false
set_option linter.constructorNameAsVariable false
set_option maxRecDepth 100000
namespace Lt
theorem aaj{ms:List aU}(F:gu ms)(h1:1<=ms.length):(ct ms).flatten=gM ms 0++((ct ms).drop 1).flatten:=KO F (i:=0) (by omega)
theorem acy{w:Nat}(W:dD w)(hw:70000000<w){ms:List aU}(F:gu ms)(h1:1<=ms.length)(b:UInt8):
 (∃e:Int,e≠0/\lA w (aj (ct ms).flatten.dropLast)=some (ae 0 [],0,e))/\∃e:Int,e≠0/\lA w (aj ((ct ms).flatten++[b]))=some (ae 0 [],0,e):=by
 have h6:=F.le;have hall:=Ha F;have hle:=BW F ms.length (aL _);have hsp:=aaj F h1;have hlen:((ct ms).drop 1).flatten.length<=(ct ms).flatten.length:=by rw[hsp,aP];omega
 by_cases h:ms.length=1
 ·have hone:(ct ms).flatten=gM ms 0:=by
   rw[hsp,vP (by rw[rD];omega),List.flatten_nil,dQ]
  refine⟨⟨3,by decide,?_⟩,2,by decide,?_⟩
  ·rw[hone];exact aim W hw F (by omega)
  ·exact aio W hw F h (y:=[b]) (by rw[hone]) (show 1<2^25 by decide) (by simp)
 ·have h2:1<ms.length:=by omega
  have cu:((ct ms).drop 1).flatten≠[]:=by
   rw[cX (show 1<(ct ms).length by rw[rD];exact h2),List.flatten_cons];intro q;have q:=(List.append_eq_nil_iff.1 q).1;have e:(ct ms)[1]'(by rw[rD];exact h2)=gM ms 1:=by simp[ct]
   have l:=(mz F (i:=1) h2).1;rw[e] at q;have:=(qq F (i:=1) h2).2.2;rw[q] at this;simp at this;omega
  have hpos:0<(ct ms).flatten.length:=by have:=List.length_pos_iff.2 cu;omega
  refine⟨⟨4,by decide,?_⟩,4,by decide,?_⟩
  ·refine Wx W hw F h2 (y:=((ct ms).drop 1).flatten.dropLast) ?_ (by rw[List.length_dropLast];omega) (by rw[List.length_dropLast];omega)
   conv=>lhs;rw[hsp,List.dropLast_append_of_ne_nil cu]
  ·refine Wx W hw F h2 (y:=((ct ms).drop 1).flatten++[b]) ?_ (by rw[aP];simp only[rX];omega) (by rw[aP];simp only[rX];omega)
   conv=>lhs;rw[hsp,dO]
theorem aia{w:Nat}(W:dD w)(hw:70000000<w){ms:List aU}(B:Hr w ms)(x:Int)(hx:(Lit.int .u8 x).wf=true):MF w (cT ms) x=some true:=by
 have h28:=aij (w:=w) (by omega);obtain⟨b,hb⟩:∃b:UInt8,x=(b.toNat:Int):=by
  have q:0<=x/\x<=255:=by have h:(decide (IntKind.u8.min<=x)&&decide (x<=IntKind.u8.max))=true:=hx;rw[bq,bX,bX] at h;exact h
  exact⟨UInt8.ofNat x.toNat,by rw[UInt8.toNat_ofNat_of_lt' (show x.toNat<256 by omega)];omega⟩
 unfold MF;rw[aii (by omega) B,aB];cases hv:B7 ms with
 |true=>rw[aE,h28];rfl
 |false=>
 obtain⟨hl,hm⟩:=ak4 hv;have h20:=aif W (by omega) hm (.inl hl) (by omega);rw[aF,h20,aB];by_cases hc:jt ms=0
 case neg=>rw[ar hc,show(!ah (ae 0 [],jt ms).snd 0)=true by rw[bW,fH hc];rfl,aE];rw[show∀K:Nat->Option Bool,ak (ae 0 [],jt ms).fst K=K 0 fromλ_=>rfl,show ah (Int.ofNat 0) 0=true from rfl,aE,h28];rfl
 obtain⟨F,h1⟩:=C3 hm (.inl hl) hc;have hf:=(PM ms h1).1 hc;have hall:=Ha F;have hle:=BW F ms.length (aL _);have hpos:0<(ct ms).flatten.length:=by
  have l:=(mz F (i:=0) (by omega)).1;have:=BX ms (show 1<=ms.length from h1);have:dK ms 1=dk ms 0:=by show 0+dk ms 0=dk ms 0;omega
  omega
 obtain⟨⟨e1,n1,q1⟩,e2,n2,q2⟩:=acy W hw F h1 b;rw[az hc] at h20⊢;rw[show(!ah (aj (ct ms).flatten,(0:Int)).snd 0)=false from rfl,aF,ain W hw F h1 hc hf,aB,h20,aB];rw[show(!ah 0 0)=false from rfl,aF,aF,aF,aiq hm (by omega) (by omega),aB,bH,aF,aic _ (by omega) (by omega),aB,bH,aF];rw[cw,show ah (Int.ofNat (ct ms).flatten.length) 0=false by rw[bW,gE];show¬((_:Nat):Int)=0;omega,aF,cw,cw];rw[iT,show Int.ofNat (ct ms).flatten.length -1=(((ct ms).flatten.length -1:Nat):Int) by show((_:Nat):Int) -1=_;omega,aO (by omega) (by omega),bQ];rw[show(((ct ms).flatten.length -1).ble (ct ms).flatten.length&&Nat.ble 0 ((ct ms).flatten.length -1))=true by rw[bq,gW,gW];omega,aE];rw[lM _ (by omega),dX,Nat.sub_zero,<-List.dropLast_eq_take,q1,aB,air w _ hpos (by omega),aB];rw[show(aw ((ct ms).flatten.map aX).length&&(aw ([Value.int IntKind.u8 x].length/1)&&[Value.int IntKind.u8 x].length.beq ([Value.int IntKind.u8 x].length/1*1)))=true by
  have a:aw ((ct ms).flatten.map aX).length=true:=by rw[cZ];unfold aw;rw[gW];omega
  rw[a];simp[aw],aE]
 have hl2:ae (((ct ms).flatten.map aX++[Value.int IntKind.u8 x]).length/1) ((ct ms).flatten.map aX++[Value.int IntKind.u8 x])=aj ((ct ms).flatten++[b]):=by rw[ky,hb,<-PD,gV,aP,aP,cZ];rfl
 rw[hl2,q2,aB];rw[show(!ah e1 0)=true by rw[bW,fH n1];rfl,aE,show(!ah e2 0)=true by rw[bW,fH n2];rfl,aE,h28];rfl
noncomputable section
theorem acN(w:Nat):K 26 [.v,vI,vI] (.aH [.v,.b]) (E9 w):=fr Tryz.f26 pn w (lc 0 [(0,.v),(1,vI),(2,vI),(8,.gr 0 1),(9,vI),(13,.v),(14,vI),(15,vI)] [(0,.grow 1 3)] 1 ln)
theorem Ta(w:Nat):KH 207 ⟨3,⟨[(0,.ptr 0 0),(1,vI),(2,vI)],[(0,.cells [.gr 1 14,.v,vI,.gr 2 13,.v,.v,.v] 132),(1,.grow 14 30),(2,.grow 13 56)],3⟩,1,⟨[(0,vI)],[(0,.cells [.gr 1 14,.v,vI,.gr 2 13,.v,.v,.v] 132),(1,.grow 14 30),(2,.grow 13 56)],3⟩⟩ (vj w):=fh Tryz.f207 (pa pn (TP w)) w
theorem adi(w:Nat):KH 138 ⟨1,⟨[(0,.ptr 0 0)],[(0,.cells [.gr 1 14,.v,vI,.gr 2 13,.v,.v,.v] 132),(1,.grow 14 30),(2,.grow 13 56)],3⟩,1,⟨[(0,vI)],[(0,.cells [.gr 1 14,.v,vI,.gr 2 13,.v,.v,.v] 132),(1,.grow 14 30),(2,.grow 13 56)],3⟩⟩ (A3 w):=fh Tryz.f138 (ph pn (Ta w)) w
theorem adj(w:Nat):nE Tryz.prog 139 ⟨1,⟨[(0,.ptr 0 0)],[(0,.cells [.gr 1 14,.v,.i .i64,.gr 2 13,.v,.v,.v] 132),(1,.grow 14 30),(2,.grow 13 56)],3⟩,1,⟨[(0,.i .i64)],[(0,.cells [.gr 1 14,.v,.i .i64,.gr 2 13,.v,.v,.v] 132),(1,.grow 14 30),(2,.grow 13 56)],3⟩⟩ (show Fn (HT.ti ⟨1,⟨[(0,.ptr 0 0)],[(0,.cells [.gr 1 14,.v,.i .i64,.gr 2 13,.v,.v,.v] 132),(1,.grow 14 30),(2,.grow 13 56)],3⟩,1,⟨[(0,.i .i64)],[(0,.cells [.gr 1 14,.v,.i .i64,.gr 2 13,.v,.v,.v] 132),(1,.grow 14 30),(2,.grow 13 56)],3⟩⟩).ks (Option (bI (HT.to ⟨1,⟨[(0,.ptr 0 0)],[(0,.cells [.gr 1 14,.v,.i .i64,.gr 2 13,.v,.v,.v] 132),(1,.grow 14 30),(2,.grow 13 56)],3⟩,1,⟨[(0,.i .i64)],[(0,.cells [.gr 1 14,.v,.i .i64,.gr 2 13,.v,.v,.v] 132),(1,.grow 14 30),(2,.grow 13 56)],3⟩⟩).ks)) from(rN w)):=by
 have k:KH 139 ⟨1,⟨[(0,.ptr 0 0)],[(0,.cells [.gr 1 14,.v,vI,.gr 2 13,.v,.v,.v] 132),(1,.grow 14 30),(2,.grow 13 56)],3⟩,1,⟨[(0,vI)],[(0,.cells [.gr 1 14,.v,vI,.gr 2 13,.v,.v,.v] 132),(1,.grow 14 30),(2,.grow 13 56)],3⟩⟩ (xH lP w):=fh Tryz.f139 (pa (pa pn (TU w)) (acN w)) w ln (λn=>cond (Nat.beq n 200002) true (Nat.beq n 300003));have e:xH lP w=rN w:=by unfold rN xH;simp only[zo]
 rw[<-e];exact k
theorem adu(w:Nat):nE Tryz.prog 208 ⟨3,⟨[(0,.ptr 0 0),(1,.i .i64),(2,.v)],[(0,.cells [.gr 1 14,.v,.i .i64,.gr 2 13,.v,.v,.v] 132),(1,.grow 14 30),(2,.grow 13 56)],3⟩,1,⟨[(0,.aH [])],[(0,.cells [.gr 1 14,.v,.i .i64,.gr 2 13,.v,.v,.v] 132),(1,.grow 14 30),(2,.grow 13 56)],3⟩⟩ (show Fn (HT.ti ⟨3,⟨[(0,.ptr 0 0),(1,.i .i64),(2,.v)],[(0,.cells [.gr 1 14,.v,.i .i64,.gr 2 13,.v,.v,.v] 132),(1,.grow 14 30),(2,.grow 13 56)],3⟩,1,⟨[(0,.aH [])],[(0,.cells [.gr 1 14,.v,.i .i64,.gr 2 13,.v,.v,.v] 132),(1,.grow 14 30),(2,.grow 13 56)],3⟩⟩).ks (Option (bI (HT.to ⟨3,⟨[(0,.ptr 0 0),(1,.i .i64),(2,.v)],[(0,.cells [.gr 1 14,.v,.i .i64,.gr 2 13,.v,.v,.v] 132),(1,.grow 14 30),(2,.grow 13 56)],3⟩,1,⟨[(0,.aH [])],[(0,.cells [.gr 1 14,.v,.i .i64,.gr 2 13,.v,.v,.v] 132),(1,.grow 14 30),(2,.grow 13 56)],3⟩⟩).ks)) from(qD w)):=by
 have k:KH 208 ⟨3,⟨[(0,.ptr 0 0),(1,vI),(2,.v)],[(0,.cells [.gr 1 14,.v,vI,.gr 2 13,.v,.v,.v] 132),(1,.grow 14 30),(2,.grow 13 56)],3⟩,1,⟨[(0,.aH [])],[(0,.cells [.gr 1 14,.v,vI,.gr 2 13,.v,.v,.v] 132),(1,.grow 14 30),(2,.grow 13 56)],3⟩⟩ (A7 lP w):=fh Tryz.f208 pn w;have e:A7 lP w=qD w:=by unfold qD A7;simp only[zo]
 rw[<-e];exact k
theorem adv(w:Nat):K 209 [.v] (.aH [vI,.v,vI]) (Ft w):=fr Tryz.f209 (pa (pa (pa pn (Tv w)) (Uc w)) (wX w)) w
theorem adl(w:Nat):KH 140 ⟨1,⟨[(0,.ptr 0 0)],[(0,.cells [.gr 1 14,.v,vI,.gr 2 13,.v,.v,.v] 132),(1,.grow 14 30),(2,.grow 13 56)],3⟩,1,⟨[(0,vI)],[(0,.cells [.gr 1 14,.v,vI,.gr 2 13,.v,.v,.v] 132),(1,.grow 14 30),(2,.grow 13 56)],3⟩⟩ (Fm w):=fh Tryz.f140 (pa (ph (ph pn (adu w)) (Ta w)) (adv w)) w (lc 0 [(0,.ptr 0 0),(3,vI)] [(0,.cells [.gr 4 14,.v,vI,.gr 5 13,.v,.v,.v] 132),(4,.grow 14 30),(5,.grow 13 56)] 6 ln)
theorem adm(w:Nat):KH 141 ⟨1,⟨[(0,.ptr 0 0)],[(0,.cells [.gr 1 14,.v,vI,.gr 2 13,.v,.v,.v] 132),(1,.grow 14 30),(2,.grow 13 56)],3⟩,3,⟨[(0,vI)],[(0,.cells [.gr 1 14,.v,vI,.gr 2 13,.v,.v,.v] 132),(1,.grow 14 30),(2,.grow 13 56)],3⟩⟩ (Fo w):=fh Tryz.f141 (pa (pa pn (Uf w)) (Ke w)) w
theorem ac3(w:Nat):KH 74 ⟨1,⟨[(0,.v)],[],0⟩,0,⟨[(0,.aH [.ptr 0 0,vI])],[(0,.cells [.gr 1 14,.v,vI,.gr 2 13,.v,.v,.v] 132),(1,.grow 14 30),(2,.grow 13 56)],3⟩⟩ (vh w):=fh Tryz.f74 (ph (ph (ph (ph pn (adi w)) (adj w)) (adl w)) (adm w)) w ln (λn=>Nat.blt n 100000)
theorem Kc(w:Nat):K 29 [.v] (.aH [.agg [.v],vI,vI]) (lA w):=fr Tryz.f29 (ph pn (ac3 w)) w
theorem ac4(w:Nat):K 75 [.agg [vI,vI,vI,.v],.agg [vI,vI,vI,.v]] (.b) (WA w):=fr Tryz.f75 (pa pn (T8 w)) w
theorem agi(w:Nat):K 81 [.v,.v,.fn 75 []] (.b) (Oa w):=fr Tryz.f81 (pa pn (ac4 w)) w (lc 0 [(1,.v),(2,.fn 75 []),(15,.v),(16,vI),(17,vI)] [] 0 ln)
theorem ac6(w:Nat):KH 78 ⟨3,⟨[(0,.agg [vI,.v,.v,.v,.v,.v,.v,.v,.v,.v,vI,vI,vI,.v]),(1,.agg [vI,.v,.v,.v,.v,.v,.v,.v,.v,.v,vI,vI,vI,.v]),(2,.ptr 0 0)],[(0,.cells [.fn 75 []] 138)],1⟩,1,⟨[(0,.b)],[(0,.cells [.fn 75 []] 138)],1⟩⟩ (Fi w):=fh Tryz.f78 (pa (pa (pa pn (DU w)) (agf w)) (agi w)) w
theorem ac5(w:Nat):KH 77 ⟨3,⟨[(0,.v),(1,.v),(2,.fn 78 [.ptr 0 0])],[(0,.cells [.fn 75 []] 138)],1⟩,1,⟨[(0,.b)],[(0,.cells [.fn 75 []] 138)],1⟩⟩ (MJ w):=fh Tryz.f77 (ph pn (ac6 w)) w (lc 0 [(1,.v),(2,.fn 78 [.ptr 0 0]),(15,.v),(16,vI),(17,vI)] [(0,.cells [.fn 75 []] 138)] 1 ln)
theorem acQ(w:Nat):K 30 [.agg [.v],.agg [.v]] (.b) (Fb w):=fr Tryz.f30 (ph pn (ac5 w)) w
end
noncomputable section
theorem ad2(w:Nat):K 406 [vI,vI] (.b) (Xg w):=fr Tryz.f406 pn w
theorem ad9(w:Nat):K 460 [vI] (.aH [.v,vI]) (Nh w):=fr Tryz.f460 pn w
theorem aea(w:Nat):K 461 [vI] (.aH [.v,vI]) (Xn w):=fr Tryz.f461 pn w
theorem aeb(w:Nat):K 462 [vI,vI] (.aH [.v,vI]) (Xo w):=fr Tryz.f462 pn w
theorem ad3(w:Nat):K 407 [vI,vI] (.aH [.v,vI]) (Xh w):=fr Tryz.f407 (pa (pa (pa pn (ad9 w)) (aea w)) (aeb w)) w
theorem adR(w:Nat):K 345 [vI,.agg [vI,vI,vI,.v]] (.b) (WV w):=fr Tryz.f345 (pa (pa (pa pn (uP w)) (ad2 w)) (ad3 w)) w (lc 0 [(3,.ptr 0 0),(5,.v),(6,vI),(7,vI)] [(0,.cells [vI,vI,vI,.v] 136)] 1 ln)
theorem adS(w:Nat):K 346 [.v] (.b) (WW w):=fr Tryz.f346 pn w (lc 0 [(0,.v),(3,vI)] [] 0 ln)
theorem DG(w:Nat):K 273 [vI,.v] (.b) (rP w):=fr Tryz.f273 (pa (pa pn (adR w)) (adS w)) w (lc 0 [(0,vI),(1,.v),(5,vI)] [] 0 ln)
theorem aej(w:Nat):K 472 [.agg [vI,.v,.v,.v,.v,.v,.v,.v]] (vI) (Xv w):=fr Tryz.f472 (pa pn (DG w)) w
theorem SX(w:Nat):K 31 [.v] (.v) (MH w):=fr Tryz.f31 pn w
theorem Kp(w:Nat):K 468 [.agg [.v,.v,.v]] (.v) (FN w):=zw (λrec h=>fr Tryz.f468 (pa pn h) w (lc 0 [(1,.ptr 0 0),(3,.sl 1 0),(4,vI)] [(0,.cells [.v,.v,.v] 261),(1,.arr 261)] 2 ln)) w
theorem aee(w:Nat):K 465 [.agg [vI,.v]] (.v) (Xr w):=fr Tryz.f465 (pa pn (Kp w)) w (lc 0 [(1,.ptr 0 0),(3,.gr 1 3),(4,vI)] [(0,.cells [vI,.v] 217),(1,.grow 3 261)] 2 ln)
theorem DJ(w:Nat):K 415 [.agg [.v,.v,.v]] (vI) (xN w):=fr Tryz.f415 pn w
theorem DK(w:Nat):K 469 [.v] (vI) (FO w):=fr Tryz.f469 pn w
theorem Ts(w:Nat):K 487 [vI] (vI) (Xz w):=fr Tryz.f487 pn w
theorem Tt(w:Nat):K 496 [vI,vI] (vI) (Be w):=fr Tryz.f496 (pa pn (DW w)) w
theorem aep(w:Nat):K 488 [vI,vI] (vI) (XA w):=fr Tryz.f488 (pa pn (Tt w)) w
theorem ad6(w:Nat):K 417 [] (.v) (Xk w):=fr Tryz.f417 pn w
theorem Tq(w:Nat):K 485 [vI] (.b) (FR w):=fr Tryz.f485 pn w
theorem aen(w:Nat):K 484 [.v,vI] (.b) (Xx w):=fr Tryz.f484 (pa pn (Tq w)) w (lc 0 [(0,.v),(1,vI),(5,.ptr 0 0),(6,vI)] [(0,.cells [.v,vI,vI,vI] 293)] 1 ln)
theorem aec(w:Nat):K 463 [.v] (.b) (Xp w):=fr Tryz.f463 (pa pn (aen w)) w (lc 0 [(0,.v),(3,vI)] [] 0 ln)
theorem Kq(w:Nat):K 470 [.agg [.v,vI,vI,vI],vI] (vI) (FP w):=fr Tryz.f470 pn w (lc 0 [(1,vI),(2,.ptr 0 0),(5,vI)] [(0,.cells [.v,vI,vI,vI] 293)] 1 ln)
theorem aeo(w:Nat):K 486 [.agg [.v,vI,vI,vI],vI] (.b) (Xy w):=fr Tryz.f486 (pa pn (Kq w)) w
theorem aed(w:Nat):K 464 [.agg [.v,.v,.v],.v,vI] (.b) (Xq w):=zw (λrec h=>fr Tryz.f464 (pa (pa (pa (pa (pa (pa pn (DJ w)) (Tq w)) (uP w)) (aeo w)) (Kq w)) h) w (lc 0 [(1,.v),(3,.ptr 0 0),(7,.ptr 1 0),(9,vI)] [(0,.cells [.v,.v,.v] 261),(1,.cells [.v,vI,vI,vI] 293)] 2 (lc 2 [(1,.v),(3,.ptr 0 0),(7,.ptr 1 0),(11,vI)] [(0,.cells [.v,.v,.v] 261),(1,.cells [.v,vI,vI,vI] 293)] 2 ln))) w
theorem Ko(w:Nat):K 411 [.v,vI,.v] (.v) (vk w):=fr Tryz.f411 pn w
theorem Tm(w:Nat):K 412 [.v,vI,vI,vI,vI] (.v) (xM w):=fr Tryz.f412 (pa (pa pn (DI w)) (Ko w)) w
theorem aew(w:Nat):K 497 [vI,vI] (.b) (XG w):=fr Tryz.f497 (pa pn (Tt w)) w
theorem aey(w:Nat):K 499 [.v,vI,vI] (.v) (XI w):=fr Tryz.f499 (pa pn (Ag w)) w (lc 0 [(0,.v),(1,vI),(2,vI),(7,.gr 0 1),(8,vI)] [(0,.grow 1 5)] 1 ln)
theorem aes(w:Nat):K 490 [.agg [vI,vI,.v],vI] (.v) (XC w):=fr Tryz.f490 (pa (pa (pa pn (uP w)) (Ki w)) (aey w)) w
theorem aex(w:Nat):K 498 [.v,vI,vI,vI] (.aH [vI,.b]) (XH w):=fr Tryz.f498 (pa pn (Ag w)) w (lc 0 [(0,.v),(1,vI),(2,vI),(3,vI),(10,vI),(11,vI),(12,vI)] [] 0 ln)
theorem Tn(w:Nat):K 414 [.v,vI,vI,vI] (vI) (tz w):=fr Tryz.f414 pn w (lc 0 [(0,.v),(1,vI),(2,vI),(3,vI),(9,vI)] [] 0 ln)
theorem aeu(w:Nat):K 491 [.agg [vI,vI,vI,vI],vI] (.aH [.v,.b]) (XE w):=fr Tryz.f491 (pa pn (DI w)) w
theorem Ti(w:Nat):K 350 [vI] (vI) (Na w):=fr Tryz.f350 pn w
theorem Tp(w:Nat):K 419 [vI] (.b) (Ng w):=fr Tryz.f419 pn w
theorem adY(w:Nat):K 354 [vI] (.b) (Xa w):=fr Tryz.f354 (pa pn (Tp w)) w
theorem adZ(w:Nat):K 355 [.v] (vI) (Nb w):=fr Tryz.f355 (pa pn (Tp w)) w (lc 0 [(0,.v),(3,vI)] [] 0 ln)
theorem ad7(w:Nat):K 418 [vI] (.b) (Xl w):=fr Tryz.f418 pn w
theorem adX(w:Nat):K 353 [.v,.b] (.v) (W9 w):=fr Tryz.f353 (pa pn (ad7 w)) w (lc 0 [(0,.v),(1,.b),(5,.gr 0 3),(6,vI)] [(0,.grow 3 185)] 1 ln)
theorem ad8(w:Nat):K 459 [.agg [vI,.v,.v,.v,.v,.v,.v,.v,.v,.v,vI,vI,vI,.v]] (.b) (Xm w):=fr Tryz.f459 pn w
theorem adD(w:Nat):K 272 [.agg [vI,vI,vI,vI,vI],vI] (.aH [.v,.b]) (WN w):=fr Tryz.f272 (pa pn (DI w)) w (lc 0 [(1,vI),(6,.gr 2 1),(7,.sl 1 0),(8,vI)] [(1,.arr 3),(2,.grow 1 5)] 3 ln)
theorem adE(w:Nat):K 274 [vI,.v] (.agg [vI,vI,vI,.v]) (MZ w):=fr Tryz.f274 pn w
theorem aef(w:Nat):KH 466 ⟨5,⟨[(0,.gr 0 5),(1,vI),(2,vI),(3,vI),(4,vI)],[(0,.grow 5 307)],1⟩,0,⟨[(0,.gr 0 5)],[(0,.grow 5 307)],1⟩⟩ (Xs w):=fh Tryz.f466 (pa (pa pn (DK w)) (Ts w)) w
theorem aeg(w:Nat):KH 466 ⟨5,⟨[(0,.gr 0 5),(1,vI),(2,vI),(3,vI),(4,vI)],[(0,.grow 5 307)],1⟩,1,⟨[(0,.gr 1 5)],[(1,.grow 5 307)],2⟩⟩ (FM w):=fh Tryz.f466 (pa (pa pn (DK w)) (Ts w)) w
theorem aeh(w:Nat):KH 467 ⟨3,⟨[(0,.gr 0 5),(1,.agg [.v,.v,.v]),(2,vI)],[(0,.grow 5 307)],1⟩,1,⟨[(0,.gr 1 5)],[(1,.grow 5 307)],2⟩⟩ (Xt w):=Jd (λrec h=>fh Tryz.f467 (ph (ph (pa (pa (pa pn (DJ w)) (aep w)) (Kp w)) (aeg w)) h) w (lc 0 [(0,.gr 3 5),(2,vI),(4,.ptr 1 0),(7,vI)] [(3,.grow 5 307),(1,.cells [.v,.v,.v] 261)] 4 (lc 2 [(0,.gr 3 5),(2,vI),(4,.ptr 1 0),(9,vI),(10,vI)] [(3,.grow 5 307),(1,.cells [.v,.v,.v] 261)] 4 ln))) w
theorem Tl(w:Nat):K 409 [.agg [vI,.v]] (.aH [.v,.b]) (Nc w):=fr Tryz.f409 (ph (ph (pa (pa (pa (pa (pa pn (aee w)) (DJ w)) (uP w)) (Kp w)) (DK w)) (aef w)) (aeh w)) w (lc 0 [(1,.ptr 0 0),(4,.v),(5,vI)] [(0,.cells [vI,.v] 217)] 1 (lc 2 [(1,.ptr 0 0),(4,.v),(5,vI),(6,vI)] [(0,.cells [vI,.v] 217)] 1 (lc 4 [(1,.ptr 0 0),(7,.gr 1 5),(8,vI),(9,vI)] [(0,.cells [vI,.v] 217),(1,.grow 5 307)] 2 ln)))
theorem Km(w:Nat):K 410 [.agg [vI,.v]] (vI) (FK w):=fr Tryz.f410 (pa (pa pn (DK w)) (Tl w)) w
theorem ad4(w:Nat):K 408 [.agg [vI,.v],.v] (vI) (Xi w):=fr Tryz.f408 (pa (pa (pa pn (aec w)) (aed w)) (Km w)) w (lc 0 [(1,.v),(2,.ptr 0 0),(5,vI),(6,vI),(7,vI)] [(0,.cells [vI,.v] 217)] 1 ln)
theorem aez(w:Nat):KH 499 ⟨3,⟨[(0,.v),(1,vI),(2,vI)],[],0⟩,0,⟨[(0,.gr 0 1)],[(0,.grow 1 5)],1⟩⟩ (XJ w):=fh Tryz.f499 (pa pn (Ag w)) w (lc 0 [(0,.v),(1,vI),(2,vI),(7,.gr 0 1),(8,vI)] [(0,.grow 1 5)] 1 ln)
theorem aet(w:Nat):KH 490 ⟨2,⟨[(0,.agg [vI,vI,.v]),(1,vI)],[],0⟩,0,⟨[(0,.gr 0 1)],[(0,.grow 1 5)],1⟩⟩ (XD w):=fh Tryz.f490 (ph (pa (pa pn (uP w)) (Ki w)) (aez w)) w
theorem aeq(w:Nat):K 489 [vI,.agg [vI,vI,.v],vI] (.aH [.agg [vI,vI,vI,vI],.b]) (XB w):=fr Tryz.f489 (ph (pa (pa (pa pn (uP w)) (aew w)) (aex w)) (aet w)) w (lc 0 [(0,vI),(2,vI),(4,.ptr 0 0),(6,.ptr 1 0),(8,.gr 2 1)] [(0,.cells [vI,vI,.v] 134),(1,.cells [vI,vI,vI,vI] 385),(2,.grow 1 5)] 3 ln)
theorem aei(w:Nat):K 471 [.v,.v,.agg [.v,.v,.v],vI,.agg [.v,vI,vI,vI],.v,vI] (.v) (Xu w):=fr Tryz.f471 (pa (pa (pa (pa (pa (pa pn (Tn w)) (aes w)) (Ko w)) (Tm w)) (aeu w)) (aeq w)) w (lc 0 [(0,.v),(1,.v),(3,vI),(5,.v),(6,vI),(9,.ptr 0 0),(11,.ptr 1 0),(15,.gr 2 4),(16,vI)] [(0,.cells [.v,.v,.v] 261),(1,.cells [.v,vI,vI,vI] 293),(2,.grow 4 385)] 3 (lc 2 [(0,.v),(1,.v),(3,vI),(5,.v),(6,vI),(9,.ptr 0 0),(11,.ptr 1 0),(15,.gr 2 4),(20,vI)] [(0,.cells [.v,.v,.v] 261),(1,.cells [.v,vI,vI,vI] 293),(2,.grow 4 385)] 3 (lc 4 [(0,.v),(6,vI),(15,.gr 4 4),(22,vI),(23,vI)] [(4,.grow 4 385)] 5 (lc 6 [(0,.v),(6,vI),(15,.gr 4 4),(22,vI),(23,vI),(24,vI),(25,vI)] [(4,.grow 4 385)] 5 ln))))
theorem ad5(w:Nat):K 413 [.v,.v,.agg [.v,.v,.v],vI,.v,vI,vI] (.aH [.v,vI]) (Xj w):=zw (λrec h=>fr Tryz.f413 (pa (pa (pa pn (Kq w)) (aei w)) h) w (lc 0 [(0,.v),(1,.v),(3,vI),(4,.v),(5,vI),(6,vI),(9,.ptr 0 0),(16,vI),(17,.gr 1 1),(18,vI)] [(0,.cells [.v,.v,.v] 261),(1,.grow 1 3)] 2 ln)) w
theorem Th(w:Nat):K 347 [.agg [vI,.v],.v] (.aH [.v,vI]) (M9 w):=fr Tryz.f347 (pa (pa (pa (pa (pa (pa (pa (pa pn (ad4 w)) (Tl w)) (Km w)) (Ko w)) (Tm w)) (Tn w)) (DJ w)) (ad5 w)) w (lc 0 [(1,.v),(2,.ptr 0 0),(7,.v),(9,.v),(11,vI),(12,vI),(13,vI)] [(0,.cells [vI,.v] 217)] 4 ln)
theorem Td(w:Nat):K 275 [.agg [vI,.v],.v] (.aH [.v,vI]) (M4 w):=fr Tryz.f275 (pa pn (Th w)) w
theorem adV(w:Nat):K 351 [] (.v) (WZ w):=fr Tryz.f351 pn w
theorem adF(w:Nat):K 277 [.v] (.aH [.v,vI]) (WO w):=fr Tryz.f277 (pa (pa pn (Ti w)) (adV w)) w (lc 0 [(0,.v),(4,vI),(5,.gr 0 1),(6,vI)] [(0,.grow 1 26)] 1 ln)
theorem adG(w:Nat):K 279 [.v] (.b) (WQ w):=fr Tryz.f279 pn w
theorem acX(w:Nat):K 69 [.v] (.b) (rL w):=fr Tryz.f69 pn w (lc 0 [(0,.v),(3,vI)] [] 0 ln)
theorem acO(w:Nat):K 27 [.agg [.v]] (.b) (Fa w):=fr Tryz.f27 (pa pn (acX w)) w (lc 0 [(1,.ptr 0 0),(3,vI)] [(0,.cells [.v] 24)] 1 ln)
theorem ac0(w:Nat):K 71 [] (.agg [vI,.v,.v,.v,.v,.v,.v,.v,.v,.v,vI,vI,vI,.v]) (xF w):=fr Tryz.f71 (pa pn (TW w)) w
theorem adJ(w:Nat):K 282 [.agg [vI,vI,.v],.agg [vI,vI,.v]] (.b) (WR w):=fr Tryz.f282 (pa pn (DD w)) w
theorem S9(w:Nat):K 206 [.v,.v] (.b) (vi w):=fr Tryz.f206 (pa pn (adJ w)) w (lc 0 [(0,.v),(1,.v),(5,vI)] [] 0 ln)
theorem adt(w:Nat):K 205 [.agg [vI,.v,.v,.v,.v,.v,.v,.v],.agg [vI,.v,.v,.v,.v,.v,.v,.v]] (.b) (WJ w):=fr Tryz.f205 (pa (pa pn (DD w)) (S9 w)) w
theorem adh(w:Nat):K 137 [.agg [vI,.v,.v,.v,.v,.v,.v,.v,.v,.v,vI,vI,vI,.v],.agg [vI,.v,.v,.v,.v,.v,.v,.v,.v,.v,vI,vI,vI,.v]] (.b) (WC w):=fr Tryz.f137 (pa (pa (pa pn (DD w)) (adt w)) (S9 w)) w
theorem ac1(w:Nat):K 72 [.agg [.v],.agg [.v]] (.b) (Wz w):=fr Tryz.f72 (pa pn (adh w)) w (lc 0 [(2,.ptr 0 0),(3,.ptr 1 0),(5,vI)] [(0,.cells [.v] 24),(1,.cells [.v] 24)] 2 ln)
theorem SY(w:Nat):KH 31 ⟨1,⟨[(0,.v)],[],0⟩,0,⟨[(0,.gr 0 1)],[(0,.grow 1 5)],1⟩⟩ (xC w):=fh Tryz.f31 pn w
theorem ac2(w:Nat):K 73 [.v,vI,vI] (.b) (AZ w):=fr Tryz.f73 (pa pn (Kc w)) w
theorem Tf(w:Nat):K 280 [.v] (.aH [.v,vI,vI,vI]) (M6 w):=fr Tryz.f280 (pa (pa pn (adY w)) (adZ w)) w (lc 0 [(0,.v),(6,.gr 0 3),(7,vI)] [(0,.grow 3 185)] 1 ln) (λn=>cond (Nat.ble 400000 n) (Nat.blt n 500000) false)
theorem adW(w:Nat):K 352 [.v] (.aH [.v,vI]) (W8 w):=fr Tryz.f352 (pa pn (Tf w)) w (lc 0 [(0,.v),(4,.v),(5,vI),(8,vI),(9,vI)] [] 0 ln)
theorem Te(w:Nat):K 278 [.v] (.b) (M5 w):=fr Tryz.f278 (pa (pa pn (adX w)) (adW w)) w
theorem ad1(w:Nat):K 405 [vI,.v] (.aH [.v,vI]) (Xf w):=fr Tryz.f405 (pa (pa pn (DG w)) (Td w)) w
theorem adI(w:Nat):dF Tryz.prog 281 [.v] (.v) (FF w):=by
 have k:K 281 [.v] (.v) (FG lP w):=fr Tryz.f281 pn w (lc 0 [(0,.v),(3,.gr 0 1),(4,vI)] [(0,.grow 1 5)] 1 ln) (λn=>Nat.beq n 200010);have e:FG lP w=FF w:=by unfold FF FG;simp only[zo]
 rw[<-e];exact k
theorem S7(w:Nat):dF Tryz.prog 203 [.agg [.i .i64,.v,.v]] (.aH [.v,.i .i64]) (A6 w):=by
 have k:K 203 [.agg [vI,.v,.v]] (.aH [.v,vI]) (Fq lP w):=fr Tryz.f203 (pa (pa (pa (pa (pa pn (adD w)) (DG w)) (TW w)) (adE w)) (Td w)) w (lc 0 [(1,.ptr 0 0),(4,.gr 1 1),(5,vI)] [(0,.cells [vI,.v,.v] 103),(1,.grow 1 5)] 2 ln) (λn=>cond (Nat.beq n 200016) true (Nat.beq n 600016));have e:Fq lP w=A6 w:=by unfold A6 Fq;simp only[zo]
 rw[<-e];exact k
theorem Tg(w:Nat):K 344 [.agg [.v],vI] (.aH [.v,vI]) (M8 w):=fr Tryz.f344 (pa (pa pn (ad1 w)) (S7 w)) w (lc 0 [(2,.ptr 0 0),(7,.ptr 2 0),(8,vI)] [(0,.cells [.v] 24),(2,.cells [vI,.gr 3 5,.v] 103),(3,.grow 5 97)] 4 ln)
theorem adw(w:Nat):K 210 [.agg [vI,vI,.v]] (.agg [vI,vI,.v]) (WM w):=fr Tryz.f210 (pa pn (SX w)) w
theorem S0(w:Nat):K 148 [.v] (.v) (MQ w):=fr Tryz.f148 (pa pn (adw w)) w (lc 0 [(0,.v),(3,.gr 0 4),(4,vI)] [(0,.grow 4 136)] 1 ln)
theorem aek(w:Nat):K 473 [.v,.agg [vI,vI,vI,.v]] (.v) (Xw w):=fr Tryz.f473 (pa pn (S0 w)) w (lc 0 [(0,.v),(3,.ptr 0 0),(5,.gr 1 4),(6,vI)] [(0,.cells [vI,vI,vI,.v] 136),(1,.grow 4 136)] 2 (lc 2 [(0,.v),(3,.ptr 0 0),(5,.gr 3 4),(7,vI)] [(0,.cells [vI,vI,vI,.v] 136),(3,.grow 4 136)] 4 ln))
theorem aev(w:Nat):K 492 [.agg [.v,.v,.v]] (.agg [.v,.v,.v]) (XF w):=zw (λrec h=>fr Tryz.f492 (pa (pa (pa pn (S0 w)) (SX w)) h) w (lc 0 [(1,.ptr 0 0),(2,.ptr 1 0),(3,.ptr 2 0),(4,vI)] [(0,.cells [.v,.v,.v] 261),(1,.cells [.gr 3 4,.gr 4 4,.gr 5 1] 261),(2,.cells [.v,.gr 6 4,.v] 261),(3,.grow 4 136),(4,.grow 4 346),(5,.grow 1 5),(6,.grow 4 346)] 7 ln)) w
theorem ael(w:Nat):K 474 [.agg [vI,.v]] (.agg [vI,.v]) (xO w):=fr Tryz.f474 (pa pn (aev w)) w (lc 0 [(1,.ptr 0 0),(2,.ptr 1 0),(3,.ptr 2 0),(4,vI)] [(0,.cells [vI,.v] 217),(1,.cells [vI,.gr 3 3] 217),(2,.cells [vI,.gr 4 3] 217),(3,.grow 3 261),(4,.grow 3 261)] 5 ln)
theorem To(w:Nat):K 416 [.agg [vI,.v,.v,.v,.v,.v,.v,.v]] (.aH [.agg [vI,.v],vI]) (Nf w):=fr Tryz.f416 (pa (pa (pa pn (aej w)) (aek w)) (ael w)) w
theorem adT(w:Nat):K 348 [.agg [vI,.v,.v,.v,.v,.v,.v,.v]] (.aH [vI,vI]) (WX w):=fr Tryz.f348 (pa (pa pn (Km w)) (To w)) w
theorem adU(w:Nat):K 349 [.agg [vI,.v,.v,.v,.v,.v,.v,.v]] (.aH [.v,vI]) (WY w):=fr Tryz.f349 (pa (pa (pa pn (To w)) (ad6 w)) (Th w)) w
theorem DH(w:Nat):K 276 [.agg [vI,.v,.v,.v,.v,.v,.v,.v]] (.aH [.v,vI]) (Ba w):=fr Tryz.f276 (pa (pa pn (adT w)) (adU w)) w
theorem ad0(w:Nat):K 404 [.agg [vI,.v,.v,.v,.v,.v,.v,.v,.v,.v,vI,vI,vI,.v],vI] (.b) (Xe w):=fr Tryz.f404 (pa (pa (pa (pa (pa pn (Ti w)) (Te w)) (ad8 w)) (DG w)) (DH w)) w
theorem S8(w:Nat):K 204 [.agg [vI,.v,.v,.v,.v,.v,.v,.v,.v,.v,.v,vI,vI]] (.aH [.v,vI]) (Fs w):=fr Tryz.f204 (pa (pa (pa (pa (pa (pa pn (DH w)) (adF w)) (Te w)) (adG w)) (Tf w)) (adI w)) w (lc 0 [(6,.v),(7,.v),(11,.gr 4 3),(12,vI)] [(4,.grow 3 185)] 5 ln) (λn=>Nat.beq n 500014)
theorem Kh(w:Nat):K 271 [.agg [.v],vI] (.agg [vI,.v,.v,.v,.v,.v,.v,.v,.v,.v,.v,vI,vI]) (FB w):=fr Tryz.f271 (pa (pa (pa pn (Tg w)) (DH w)) (S8 w)) w
theorem adQ(w:Nat):K 343 [.agg [.v]] (.aH [vI,vI]) (WU w):=fr Tryz.f343 (pa (pa (pa pn (Tg w)) (ad0 w)) (Kh w)) w (lc 0 [(1,.ptr 0 0),(4,vI),(5,vI)] [(0,.cells [.v] 24)] 1 (lc 2 [(1,.ptr 0 0),(4,vI),(5,vI),(6,vI)] [(0,.cells [.v] 24)] 1 (lc 4 [(1,.ptr 0 0),(4,vI),(8,vI),(9,vI)] [(0,.cells [.v] 24)] 2 ln)))
theorem Kg(w:Nat):K 270 [.agg [.v]] (vI) (FA w):=fr Tryz.f270 (pa (pa pn (adQ w)) (DH w)) w
theorem adr(w:Nat):K 202 [.agg [.v]] (.v) (WH w):=fr Tryz.f202 (pa (pa pn (Kg w)) (Kh w)) w (lc 0 [(1,.ptr 0 0),(3,.gr 1 13),(4,vI)] [(0,.cells [.v] 24),(1,.grow 13 56)] 2 ln)
theorem adq(w:Nat):K 201 [.agg [.v]] (.aH [.v,vI]) (WG w):=fr Tryz.f201 (pa (pa pn (Kg w)) (adr w)) w (lc 0 [(1,.ptr 0 0),(5,.v),(6,.gr 1 5),(7,vI),(8,vI)] [(0,.cells [.v] 24),(1,.grow 5 97)] 2 ln)
theorem ads(w:Nat):KH 202 ⟨1,⟨[(0,.agg [.v])],[],0⟩,0,⟨[(0,.gr 0 13)],[(0,.grow 13 56)],1⟩⟩ (WI w):=fh Tryz.f202 (pa (pa pn (Kg w)) (Kh w)) w (lc 0 [(1,.ptr 0 0),(3,.gr 1 13),(4,vI)] [(0,.cells [.v] 24),(1,.grow 13 56)] 2 ln)
theorem adg(w:Nat):K 136 [.agg [.v]] (.aH [.v,vI]) (WB w):=fr Tryz.f136 (pa (ph (pa (pa pn (S7 w)) (adq w)) (ads w)) (S8 w)) w (lc 0 [(1,.ptr 0 0),(4,.v),(6,.gr 1 13),(7,.gr 2 1),(8,vI)] [(0,.cells [.v] 24),(1,.grow 13 56),(2,.grow 1 26)] 3 ln)
theorem acZ(w:Nat):K 70 [.agg [.v]] (.aH [.v,vI]) (MI w):=fr Tryz.f70 (pa pn (adg w)) w (lc 0 [(4,.v),(5,vI),(6,.gr 1 1),(7,vI)] [(1,.grow 1 5)] 2 ln)
theorem acP(w:Nat):K 28 [] (.b) (xA w):=fr Tryz.f28 (ph (pa (pa (pa (pa (pa pn (ac0 w)) (Kc w)) (ac1 w)) (ac2 w)) (acZ w)) (SY w)) w
theorem acI(w:Nat):K 5 [.agg [.v],.i .u8] (.b) (MF w):=fr Tryz.f5 (ph (pa (pa (pa (pa (pa (pa pn (acO w)) (acM w)) (Kc w)) (acQ w)) (DD w)) (acP w)) (SY w)) w
end
noncomputable section
end
section
open Go.ChangeShapes Go.WideShapes Go.ChangeAt Go.RowKit Go.Joins Go.Deep
open YtcfjfbeadhnknaaGreatDoor
theorem own:ownKnob Tryz.prog.godebug=none:=by kernel_rfl
theorem laidOut:laidOutB Tryz.prog=true:=by kernel_rfl
theorem wok:dD (maxLen+1):=⟨aa2 (by decide),by decide⟩
theorem Zs(ms:List aU)(hn:ms.length<=maxLen)(hr:∀p∈ms,yM p):Hr (maxLen+1) ms:=
 ⟨Nat.lt_succ_of_le hn,λp hp l hl=>⟨Nat.lt_succ_of_le (hr p hp l hl),Nat.lt_succ_of_le (hr p hp l hl)⟩⟩
end
section
open Go.ChangeShapes Go.WideShapes Go.ChangeAt Go.RowKit Go.Joins Go.Deep
open YtcfjfbeadhnknaaGreatDoor
theorem ZY(H:Type)(enc:TypeId×Value->H)(W:World)(base:Nat)(args:Array Value)(ds gs:List (DataW H))(before:List MemPlace)
 (hval:∀(j:Nat) t v,Tryz.f5.params[j]? =some t->args[j]? =some v->Value.okWide Tryz.prog W .any base t v)
 (hW:DataW.Whole enc Tryz.prog Tryz.f5.params.toList Rows.readBackSpec.vars false W args.toList ds gs before):
 Calls Tryz.prog 5 args W λe W'=>∃v,e=.returned v/\Rows.readBackSpec.post enc Tryz.prog Tryz.f5 false true false false W args v W':=by
 have hW':=hW;obtain⟨p,q,hA0,hV,rfl,hfz,hnd⟩:=hW;have hA:DataW.TrodAll enc Tryz.prog W 0 (λ_=>true) true Tryz.f5.params.toList args.toList ds p:=hA0;rw[Tryz.params5] at hA hval;obtain⟨v1,vs1,d1,ds1,p1,q1,hargs,rfl,rfl,h1,r1⟩:=trodAll_cons hA;obtain⟨v2,vs2,d2,ds2,p2,q2,rfl,rfl,rfl,h2,r2⟩:=trodAll_cons r1;obtain⟨rfl,rfl,rfl⟩:=trodAll_nil r2;obtain rfl:args=#[v1,v2]:=by cases args;simp_all
 obtain⟨rfl,rfl⟩:=trodVars_none hV;have k1:=h1;have lt1:∀x∈p1,x.block<W.heap.size:=by obtain⟨m,hm⟩:=k1;exact DataW.trod_lt m _ _ _ hm
 obtain⟨D1,rfl,_⟩:=okWide_struct Tryz.underlying24 (hval 0 24 v1 rfl rfl);obtain⟨fuel1,hf1⟩:=h1;obtain⟨J1,u1,e1,L1,hn1,hr1⟩:=ahf hf1;have hD1:D1=#[u1]:=by
  have:D1.toList=[u1]:=by simpa[Value.cells] using e1
  cases D1;simp_all
 subst hD1;obtain⟨n2,rfl,rfl,rfl,w2⟩:=open_int Tryz.underlying5 (hval 1 5 v2 rfl rfl) h2;clear hA0;refine(Pz (k:=true) (acI (maxLen+1) [.v (cT J1),.i n2] true (aia wok (by decide) (Zs J1 hn1 hr1) n2 w2) (λx hx=>by simp at hx;rcases hx with rfl<;>rfl) _ rfl) (m:=λb i=>fD W b i) (λ_ _ _ h=>h) (.cons (.Ka (.cons L1 .nil)) (.cons (.int _ _) .nil))).mono λe W' ⟨he,uf⟩=>?_
 subst he;exact⟨_,rfl,_,_,_,[],_,[],hW',trodAll_mk1 (shut_bool Tryz.underlying4 _),(trodAll_cons_mk (Below.trod laidOut (by kernel_rfl) (oo (by kernel_rfl)) k1 uf lt1) (trodAll_cons_mk (shut_int Tryz.underlying5 w2) trodAll_mk0)),rfl,Below.frame uf _,λh=>by cases h⟩
def Ig:Array Value:=#[.agg #[.slice none 0 0],.int .u8 0]
def laidB:List (String×DataW Unit):=Rows.readBackRow.laid
theorem aad(os:Os)(args:Array Value):laidMetH Tryz.prog laidB ((World.doorLaid Tryz.prog 400 os).forCall (λ_ _=>0) ⟨#[],args,[]⟩).memory:=
 laidMetH_of_parts3 (fuel:=8) (laidMet_of_run' 8 (by kernel_rfl) (by kernel_rfl)) (by kernel_rfl) (by kernel_rfl)
theorem ahj(os:Os){H:Type}(enc:TypeId×Value->H):∃places,DataW.whole enc Tryz.prog ((World.doorLaid Tryz.prog 400 os).forCall (λ_ _=>0) ⟨#[],Ig,[]⟩).memory Tryz.f5.params.toList Rows.readBackSpec.vars false Ig.toList 8=some ([.agg [.nil],.lit (.int .u8 0)],[],places):=
 ⟨[],by kernel_rfl⟩
theorem ab6(os:Os)(started:os.Started)(H:Type)(enc:TypeId×Value->H)(F:Stop.Interp):
 ReturnsInHanded {} Tryz.checked os 5 .any ((OpenSpec.ofChange Rows.readBackSpec).preRow enc Tryz.prog Tryz.f5 Rows.readBackRow.domain false Rows.readBackRow.laid) (((OpenSpec.ofChange Rows.readBackSpec).at F).post enc Tryz.prog Tryz.f5 false true false false):=by
 obtain⟨places,hx⟩:=ahj os enc;refine returnsInHanded_of_row (C:=Tryz.checked) (s:=OpenSpec.ofChange Rows.readBackSpec) own started (by kernel_rfl) Tryz.func5
  (witness_row_atRef (enc:=enc) (C:=Tryz.checked) false (World.doorLaid Tryz.prog 400 os) Ig rfl (by kernel_rfl) (by kernel_rfl) (by kernel_rfl)
   (OpenSpec.preRow_of_cond 8 hx (by kernel_rfl) (λk hk=>by cases hk) (by kernel_rfl) (aad os _))) ?_
 intro W base args ds gs before hval hW _ _ _ hL hsh _;exact ZY H enc W base args ds gs before hval hW
end
end Lt
end Go.Proofs.YtcfjfbeadhnknaaGreatDoor

import Derived.Deep.Slices
import Derived.Deep.Fields
import Derived.OpenShut
import Derived.ProofKit
import Derived.ChangeSame
import Derived.Test.YtcfjfbeadhnknaaGreatDoorCards
import Derived.Test.YtcfjfbeadhnknaaGreatDoorTie
import Derived.Deep.DeepHandedRow
import Derived.Deep.DeepWitnessRowRef
import Derived.Lib.LaidTab
import Derived.LaidMore
import Derived.MakeChecks
import Derived.Lib.SmallJoins
import Derived.Test.YtcfjfbeadhnknaaGreatDoorSH
namespace Go.Proofs.YtcfjfbeadhnknaaGreatDoor
set_option linter.unusedVariables false
set_option linter.unusedSimpArgs false
set_option linter.unusedSectionVars false
set_option linter.constructorNameAsVariable false
set_option maxRecDepth 100000
namespace Lt
section
set_option linter.unusedVariables false
set_option linter.unusedSimpArgs false
set_option linter.unusedSectionVars false
set_option linter.constructorNameAsVariable false
def EO(ms:List aS)(i:Nat):Bool:=match gB ms i with| .ok _=>false| .error _=>true
def nP(ms:List aS):Nat->Nat->Int
 |0,_=>-1
 |k+1,i=>if EO ms i=true then(i:Int) else nP ms k (i+1)
theorem MC(x:kS)(aL:List UInt8):1<=(dM x aL).length:=by
 unfold dM iv
 rw[iO,List.length_append]
 have:(cq ⟨216,[],[]⟩).length=2:=rfl
 omega
theorem KI{ms:List aS}(h:∀p∈ms,ib p=false){i:Nat}(hi:i<ms.length):∃aL,fY ms[i].az=.ok aL:=by
 have:=h _ (List.getElem_mem hi)
 unfold ib at this
 cases he:fY ms[i].az with
 |ok b=>simp
 |error e=>grind
theorem ME{ms:List aS}{i:Nat}(hi:i<ms.length){b aL:List UInt8}(h:gB ms i=.ok b)(hm:∀p∈ms,dH p)(hl:ms.length<=600)(ha:fY ms[i].az=.ok aL)(hc:ky ms[i].core=true):(dM (eC ms[i] b) aL).length<=3000000:=by
 have hmp:=hm _ (List.getElem_mem hi)
 have hok:=Fs hi h hm hl ha hc
 obtain⟨r,c1,c2,c3,c4,c5,c6⟩:=zk hok.core
 have h1:=MA (aL:=aL) c2 c4
 obtain⟨-,-,hl2,-⟩:=yX hok.app hok.rows
 have hbl:b.length<=65533:=by rcases HJ h hm hl with q|q;omega;exact q.2
 have hic:=hmp.ic
 have hco:=hmp.co
 have e1:(eC ms[i] b).bY.length=b.length:=rfl
 have e2:(eC ms[i] b).bL.length=ms[i].bL.length:=rfl
 have e3:(eC ms[i] b).core.length=ms[i].core.length:=rfl
 omega
theorem ac6{w:Nat}(L:List Int)(hL:∀n∈L,1<=n/\n<=3000000)(hl:L.length<=1000)(hw:2000<w):∃r:Int×List Value×List Value,lp nT (eI w) w (L++[0]).length 0 (bM (L++[0])) (bM [0])=some r:=by
 have hll:(L++[0]:List Int).length=L.length+1:=by simp
 have key:∀(k i v:Nat)(st:List Int)(s:Int),i+k=L.length->k+1<v->st.length=i->0<=s/\s<=3000000*i->∃r:Int×List Value×List Value,lp nT (eI w) v (L++[0]).length i (bM (L++[0])) (bM (st++[s]))=some r:=by
  intro k
  induction k with
  |zero=>
   intro i v st s hi hv hst hs
   have hiL:i<(L++[0]:List Int).length:=by omega
   have e1:((i:Int)<((L++[0]:List Int).length:Int)):=by omega
   have hget:(L++[0]:List Int)[i]=0:=by
    rw[List.getElem_append_right (by omega)]
    simp
   have hlen:(bM (L++[0])).length=(L++[0]).length:=by unfold bM;rw[List.length_map]
   have hdrop:List.drop (0+i*1) (bM (L++[0]))=.int .i64 0::bM ((L++[0]).drop (i+1)):=by
    unfold bM
    rw[Nat.zero_add,Nat.mul_one,<-List.map_drop,List.drop_eq_getElem_cons hiL,List.map_cons,hget]
   have e2:i*1<(L++[0]:List Int).length:=by omega
   rw[dt nT (eI w) (by omega)]
   unfold eI
   simp only[aO,e1,decide_true,cond_true,bF]
   rw[hlen]
   simp only[jQ,e2,decide_true,Bool.and_true,show Nat.beq 1 1=true from rfl,cond_true]
   rw[hdrop]
   simp only[aX,bN]
   have h190:∃x,rN w 0 (bM (st++[s]))=some (true,x):=by
    have hlen2:(bM (st++[s])).length=st.length+1:=by unfold bM;simp
    have hdrop2:List.drop (0+st.length*1) (bM (st++[s]))=[Value.int .i64 s]:=by
     unfold bM
     rw[List.map_append,Nat.zero_add,Nat.mul_one,List.drop_left' (by simp)]
     rfl
    unfold rN
    rw[hlen2,Nat.div_one,gS,bG,aJ (by omega) (by omega),show((st.length+1:Nat):Int) -1=(st.length:Int) by omega,bF]
    have e1:st.length*1<st.length+1:=by omega
    simp only[jQ,e1,decide_true,Bool.and_true,show Nat.beq 1 1=true from rfl,cond_true]
    rw[hdrop2]
    simp only[aX,bN]
    rw[QQ,if_pos ⟨by unfold jH;rw[decide_eq_true_eq];omega,by unfold jH;rw[decide_eq_true_eq];omega,by unfold jH;rw[decide_eq_true_eq];omega⟩]
    simp only[ay]
    have r1:aF (st.length+1)=true:=by simp;omega
    rw[r1]
    simp only[show aj 0 1=true from rfl,List.length_singleton,Nat.div_one,Nat.mul_one,Nat.beq_refl,show aF 1=true from rfl,Bool.and_self,cond_true,Bool.not_true,cond_false]
    exact⟨_,rfl⟩
   obtain⟨x,h190⟩:=h190
   rw[h190]
   exact⟨_,rfl⟩
  |succ k ih=>
   intro i v st s hi hv hst hs
   have hiL0:i<L.length:=by omega
   have hiL:i<(L++[0]:List Int).length:=by omega
   have e1:((i:Int)<((L++[0]:List Int).length:Int)):=by omega
   have hget:(L++[0]:List Int)[i]=L[i]:=List.getElem_append_left hiL0
   have hn:=hL _ (List.getElem_mem hiL0)
   obtain⟨r,hr⟩:=ih (i+1) (v -1) (st++[s]) (s+L[i]) (by omega) (by omega) (by rw[List.length_append,hst];rfl) (by omega)
   refine⟨r,?_⟩
   rw[dt nT (eI w) (by omega),<-hr]
   generalize hg:lp nT (eI w) (v -1)=g
   have hlen:(bM (L++[0])).length=(L++[0]).length:=by unfold bM;rw[List.length_map]
   have hdrop:List.drop (0+i*1) (bM (L++[0]))=.int .i64 L[i]::bM ((L++[0]).drop (i+1)):=by
    unfold bM
    rw[Nat.zero_add,Nat.mul_one,<-List.map_drop,List.drop_eq_getElem_cons hiL,List.map_cons,hget]
   have e2:i*1<(L++[0]:List Int).length:=by omega
   unfold eI
   simp only[aO,e1,decide_true,cond_true,bF]
   rw[hlen]
   simp only[jQ,e2,decide_true,Bool.and_true,show Nat.beq 1 1=true from rfl,cond_true]
   rw[hdrop]
   simp only[aX,bN]
   rw[I3 _ st s ⟨hn.1,by omega⟩ ⟨hs.1,by omega⟩ (by omega)]
   simp only[ay,cond_false,bO]
   rw[aJ (by omega) (by omega)]
   rfl
 exact key L.length 0 w [] 0 (by omega) (by omega) rfl ⟨by omega,by omega⟩
theorem abe{w:Nat}(L:List Int)(hL:∀n∈L,1<=n/\n<=3000000)(hl:L.length<=1000)(hw:2000<w):∃r:Bool×List Value×List Value,qb w (bM (L++[0]))=some r:=by
 obtain⟨r,h⟩:=ac6 L hL hl hw
 have h2:uq w (bM (L++[0])) [Value.int .i64 0]=some r:=by
  unfold uq
  rw[(show(bM (L++[0])).length=(L++[0]).length from by unfold bM;rw[List.length_map]),Nat.div_one]
  exact h
 unfold qb Cj
 simp_all
 cases(!aj r.fst 0)<;>grind
theorem Vy{w:Nat}(W:cU w)(hw:1000000<w){ms:List aS}(hm:∀p∈ms,dH p)(hl:ms.length<=600)(ha:∀p∈ms,ib p=false)(hc:∀p∈ms,lf p=false):
 ∃c:Value×List Value,Ci w (ct ms) (ct ms) []=some (nP ms ms.length 0,c):=by
 have key:∀(k i v:Nat)(L:List Int),i+k=ms.length->k<v->L.length=i->(∀n∈L,1<=n/\n<=3000000)->∃c:Value×List Value,lp wg (pG w) v (ct ms) ms.length i (ct ms) (bM L)=some (nP ms k i,c):=by
  intro k
  induction k with
  |zero=>
   intro i v L hi hv hL _
   have e1:¬((i:Int)<(ms.length:Int)):=by omega
   rw[dt wg (pG w) (by omega)]
   unfold pG
   simp only[aO,e1,decide_false,cond_false]
   exact⟨_,rfl⟩
  |succ k ih=>
   intro i v L hi hv hL hL2
   have hiL:i<ms.length:=by omega
   have e1:((i:Int)<(ms.length:Int)):=by omega
   have hlen:(bM L).length=i:=by unfold bM;rw[List.length_map,hL]
   have r1:aF i=true:=by simp;omega
   have rr:∀n:Int,(aF (bM L).length&&(aF ([Value.int IntKind.i64 n].length/1)&&[Value.int IntKind.i64 n].length.beq ([Value.int IntKind.i64 n].length/1*1)))=true:=by
    intro n
    rw[hlen,r1]
    simp
   rw[dt wg (pG w) (by omega)]
   unfold nP EO
   cases hs:gB ms i with
   |error e=>
    have h34:=ack W hiL hs (aaC hs) hm hl
    rw[if_pos rfl]
    have h131:∃r:Bool×List Value×List Value,qb w (bM L++[Value.int IntKind.i64 0])=some r:=by
     obtain⟨st,hst⟩:∃r,qb w (bM (L++[0]))=some r:=abe L hL2 (by omega) (by omega)
     refine⟨st,?_⟩
     rw[<-hst]
     unfold bM
     rw[List.map_append]
     rfl
    obtain⟨r,h131⟩:=h131
    unfold pG
    simp only[aO,e1,decide_true,cond_true,bF]
    rw[show ct ms=ax cZ ms from rfl,bn jF hiL,my]
    simp only[aX,bN]
    unfold B1
    rw[show ax cZ ms=ct ms from rfl,hlen,Nat.div_one,bG,h34]
    simp only[ay]
    rw[<-hlen,rr 0,cond_true,h131]
    exact⟨_,rfl⟩
   |ok b=>
    obtain⟨aL,hcam⟩:=KI ha hiL
    have hcore:ky ms[i].core=true:=by
     have:=hc _ (List.getElem_mem hiL)
     unfold lf at this
     simpa using this
    have h34:=Q8 W hw hiL hs hm hl hcam hcore
    have hsm:=ME hiL hs hm hl hcam hcore
    have hps:=MC (eC ms[i] b) aL
    have hL3:∀n∈L++[((dM (eC ms[i] b) aL).length:Int)],1<=n/\n<=3000000:=by
     intro n hn
     rcases List.mem_append.1 hn with hn|hn<;>grind
    obtain⟨st,h131⟩:=abd (w:=w) _ hL3 (by rw[List.length_append,List.length_singleton];omega) (by omega)
    have hap:bM L++[Value.int IntKind.i64 ((dM (eC ms[i] b) aL).length:Int)]=bM (L++[((dM (eC ms[i] b) aL).length:Int)]):=by unfold bM;simp
    obtain⟨c,hih⟩:=ih (i+1) (v -1) _ (by omega) (by omega) (by rw[List.length_append,List.length_singleton];omega) hL3
    rw[if_neg (λq=>by cases q)]
    refine⟨c,?_⟩
    rw[<-hih]
    generalize hg:lp wg (pG w) (v -1)=g
    unfold pG
    simp only[aO,e1,decide_true,cond_true,bF]
    rw[show ct ms=ax cZ ms from rfl,bn jF hiL,my]
    simp only[aX,bN]
    unfold B1
    rw[show ax cZ ms=ct ms from rfl,hlen,Nat.div_one,bG,h34]
    simp only[ay]
    have rr2:=rr ((dM (eC ms[i] b) aL).length:Int)
    rw[hlen] at rr2
    rw[rr2,cond_true,hap,h131]
    simp only[ay,Bool.not_true,cond_false,bO]
    rw[aJ (by omega) (by omega)]
    rfl
 obtain⟨c,h⟩:=key ms.length 0 w [] (by omega) (by omega) rfl (λn hn=>by cases hn)
 refine⟨c,?_⟩
 unfold Ci
 exact h
end
section
set_option linter.unusedVariables false
set_option linter.unusedSimpArgs false
set_option linter.unusedSectionVars false
set_option linter.constructorNameAsVariable false
def vk(ms:List aS):Bool:=match ms with
 |[p]=>!decide (p.attr=0/\p.dQ=0/\p.dU=0/\p.view.length=0)
 |_=>false
def gw(ms:List aS):Int×Int:=
 if ms.length<1\/1000<ms.length then(1,0)
 else if 0<=cC ib ms then(2,cC ib ms)
 else if 0<=cC lf ms then(4,cC lf ms)
 else if 0<=cC mc ms then(5,cC mc ms)
 else if 0<=cC mf ms then(6,cC mf ms)
 else if vk ms=true then(7,0)
 else if 0<=nP ms ms.length 0 then(8,nP ms ms.length 0)
 else(0,0)
theorem qY{α:Type}{p:α->Bool}{l:List α}(h:¬0<=cC p l):∀x∈l,p x=false:=by
 have h1:cC p l<0:=by omega
 rw[tb] at h1
 grind
theorem UE{α:Type}(l:List α):cC (λ_=>false) l=-1:=by
 unfold cC
 grind
theorem Fp{α:Type}{p:α->Bool}{l:List α}(h:0<=cC p l):∃i:Nat,∃hi:i<l.length,cC p l=(i:Int)/\p l[i]=true:=by
 unfold cC at h⊢
 cases hf:l.findIdx? p with
 |none=>grind
 |some i=>
  rw[List.findIdx?_eq_some_iff_getElem] at hf
  grind
theorem acG(w:Nat){ms:List aS}(hl:ms.length<=2000):C8 w (ct ms)=some (if ms.length<1\/1000<ms.length then 0 else-1):=by
 have hlr:∀K:Nat->Option Int,ak (ct ms) K=K ms.length:=λK=>bV cZ ms K
 unfold C8
 rw[hlr,hlr,BS,BS]
 simp only[ay,aO]
 grind
theorem acH(w:Nat){ms:List aS}(hl:ms.length<=2000)(h1:1<=ms.length):C9 w (ct ms)=some (if vk ms=true then 0 else-1):=by
 have hlr:∀K:Nat->Option Int,ak (ct ms) K=K ms.length:=λK=>bV cZ ms K
 cases ms with
 |nil=>simp at h1
 |cons p r=>
  unfold C9
  rw[(show∀K:List Value->Option Int,aE 14 0 (ct (p::r)) K=K (cZ p++r.flatMap cZ) fromλK=>bn jF (by rw[List.length_cons];omega) K),my]
  simp
  rw[hlr]
  cases r with
  |nil=>
   rw[(show∀K:Nat->Option Int,ak (au p.view) K=K p.view.length fromλK=>bV bR _ K),BS,BS]
   unfold vk
   by_cases a1:p.attr=0
   case neg=>simp[a1]
   by_cases a2:p.dQ=0
   case neg=>simp_all
   by_cases a3:p.dU=0
   case neg=>simp_all
   by_cases a4:p.view.length=0
   ·simp_all
   ·have:(0:Int)<(p.view.length:Int):=by omega
    simp_all
  |cons q r=>
   rfl
theorem acM{w:Nat}(W:cU w)(hw:1000000<w){ms:List aS}(hm:∀p∈ms,dH p)(hl:ms.length<=600\/1000<ms.length)(hl2:ms.length<=2000):Dd w (ct ms)=some (gw ms):=by
 unfold Dd gw Bp Bw
 rw[show Jo w=some () from rfl]
 rw[acG w hl2]
 simp only[ay]
 by_cases h1:ms.length<1\/1000<ms.length
 ·rw[if_pos h1,if_pos h1]
  rfl
 rw[if_neg h1,if_neg h1,show(!aj (-1) 0)=false from rfl]
 have hlt:ms.length<=600:=by omega
 unfold JI ID
 rw[abr W hm hl2]
 simp only[ay,aO]
 by_cases h2:0<=cC ib ms
 ·rw[if_pos h2,decide_eq_false (by omega)]
  rfl
 rw[if_neg h2,decide_eq_true (by omega:cC ib ms<0)]
 unfold JJ IE
 rw[abt W hm hl2]
 simp only[ay]
 rw[show cC vj ms=-1 from UE ms]
 simp only[show decide ((-1:Int)<0)=true from rfl,cond_false]
 unfold JK IF
 rw[abu W hm hl2]
 simp only[ay]
 by_cases h4:0<=cC lf ms
 ·rw[if_pos h4,decide_eq_false (by omega)]
  rfl
 rw[if_neg h4,decide_eq_true (by omega:cC lf ms<0)]
 unfold JL IG
 rw[abv W hm hl2]
 simp only[ay]
 by_cases h5:0<=cC mc ms
 ·rw[if_pos h5,decide_eq_false (by omega)]
  rfl
 rw[if_neg h5,decide_eq_true (by omega:cC mc ms<0)]
 unfold JN IH
 rw[abw W hm hl2]
 simp only[ay]
 by_cases h6:0<=cC mf ms
 ·rw[if_pos h6,decide_eq_false (by omega)]
  rfl
 rw[if_neg h6,decide_eq_true (by omega:cC mf ms<0)]
 rw[acH w hl2 (by omega)]
 simp only[ay]
 by_cases h7:vk ms=true
 ·rw[if_pos h7,if_pos h7]
  rfl
 rw[if_neg h7,if_neg h7]
 simp only[show decide ((-1:Int)<0)=true from rfl,cond_false]
 unfold JO IC
 obtain⟨c,h188⟩:=Vy W hw hm hlt (qY h2) (qY h4)
 rw[h188]
 simp only[ay]
 by_cases h8:0<=nP ms ms.length 0
 ·rw[if_pos h8,decide_eq_false (by omega)]
  rfl
 rw[if_neg h8,decide_eq_true (by omega:nP ms ms.length 0<0)]
 rfl
def gh(ms:List aS):Int:=
 if(gw ms).1 =0 then 0
 else if(gw ms).1 =1 then(if ms.length=0 then 1 else 7)
 else if(gw ms).1 =2 then(match ms[(gw ms).2.toNat]? with|some p=>(match fY p.az with| .ok _=>0| .error e=>e)|none=>0)
 else if(gw ms).1 =4 then 2
 else if(gw ms).1 =5 then 1
 else if(gw ms).1 =7 then 1
 else if(gw ms).1 =6 then 6
 else 7
theorem QE{w:Nat}(W:cU w)(hw:1000000<w){ms:List aS}(hm:∀p∈ms,dH p)(hl:ms.length<=600\/1000<ms.length)(hl2:ms.length<=2000):xw w (ct ms)=some (gh ms):=by
 have hlr:∀K:Nat->Option Int,ak (ct ms) K=K ms.length:=λK=>bV cZ ms K
 unfold xw gh
 rw[acM W hw hm hl hl2]
 simp only[ay,bT,mS]
 by_cases h0:(gw ms).1 =0
 ·rw[if_pos h0,if_pos h0]
 rw[if_neg h0,if_neg h0]
 by_cases h1:(gw ms).1 =1
 ·rw[if_pos h1,if_pos h1,hlr]
  by_cases hz:ms.length=0<;>grind
 rw[if_neg h1,if_neg h1]
 by_cases h2:(gw ms).1 =2
 ·rw[if_pos h2,if_pos h2]
  have hidx:0<=cC ib ms/\(gw ms).2 =cC ib ms:=by
   unfold gw at h2⊢
   split at h2
   ·exact absurd h2 (by decide)
   rename_i a
   rw[if_neg a]
   split at h2
   ·rename_i b;rw[if_pos b];exact⟨b,rfl⟩
   ·exfalso
    repeat' split at h2
    all_goals(simp only at h2;exact absurd h2 (show¬((_:Int)=2) by decide))
  obtain⟨i,hi,he,hb⟩:=Fp hidx.1
  rw[hidx.2,he,bF,show ct ms=ax cZ ms from rfl,bn jF hi,Int.toNat_natCast,List.getElem?_eq_getElem hi]
  have d0:∀r:List Value,List.drop 0 (cZ ms[i]++r)=cZ ms[i]++r:=λ_=>rfl
  rw[d0,my]
  simp
  rw[Ju W (hm _ (List.getElem_mem hi)).sS]
  cases fY ms[i].az<;>rfl
 rw[if_neg h2,if_neg h2]
 repeat' split
 all_goals rfl
end
section
set_option linter.unusedVariables false
set_option linter.unusedSimpArgs false
set_option linter.unusedSectionVars false
set_option linter.constructorNameAsVariable false
theorem adz{o:Int}{view:List aD}(hv:TS view)(hr:cF 5 view=true):fq (jn o view)<=40000:=by
 obtain⟨h1,h2⟩:=hv
 have hV:=vx view (aA 8+(6+12*bh (.mk view .nil []))) λt ht=>⟨(Ah (((tN hr).2) t ht)).2.2.2,h2 t ht⟩
 have hN:bh (.mk view .nil [])=view.length:=by
  show view.length+0+0=_
  simp
 have hE:fq (jn o view)=bJ (aA 8+(6+12*bh (.mk view .nil []))) view:=by
  show cV 8 [.mk view .nil []]=_
  simp[cV,bg,cW]
 have e8:aA 8=8:=rfl
 omega
theorem UK{o:Int}{l:List cL}(h2:2<=l.length)(hl:l.length<=6){view:List aD}(hv:TS view)(hr:cF 5 view=true):fq (cH o l view)<=40000:=by
 obtain⟨h1,h2'⟩:=hv
 have hm:=(tN hr).2
 have hlen:=lG o l
 have m3:cX 7 ((16*l.length:Nat):Int) (l.flatMap (cT o))=true:=by
  unfold cX
  have:(kindOf 7).1 =1:=rfl
  rw[hlen]
  simp_all
  omega
 obtain⟨e1,he1⟩:∃e1,bg 8 (dO o l)=e1:=⟨_,rfl⟩
 have hD:e1<=700:=by
  have hV:=vx (m:=100) [⟨45056,7,4,[48,49,48,48]⟩,⟨45057,4,1,dA l.length 4⟩,⟨45058,7,((16*l.length:Nat):Int),l.flatMap (cT o)⟩] (aA 8+(6+12*bh (dO o l))) λt ht=>by
   simp at ht
   rcases ht with rfl|rfl|rfl
   ·exact⟨(by decide),by simp⟩
   ·exact⟨SG,by simp only[mg];omega⟩
   ·exact⟨m3,by simp_all;omega⟩
  have hN:bh (dO o l)=3:=rfl
  have e8:aA 8=8:=rfl
  have:e1=bJ (aA 8+(6+12*bh (dO o l))) [⟨45056,7,4,[48,49,48,48]⟩,⟨45057,4,1,dA l.length 4⟩,⟨45058,7,((16*l.length:Nat):Int),l.flatMap (cT o)⟩]:=by
   rw[<-he1]
   simp[dO,bg,cW,if_true]
  simp_all
  omega
 have hT:fq (cH o l view)=cV e1 (if view.length=0 then[] else[.mk view .nil []]):=by
  rw[<-he1];rfl
 rw[hT]
 by_cases h0:view.length=0
 ·rw[if_pos h0]
  show e1<=_
  omega
 ·rw[if_neg h0]
  have hV:=vx view (aA e1+(6+12*bh (.mk view .nil []))) λt ht=>⟨(Ah (hm t ht)).2.2.2,h2' t ht⟩
  have hN:bh (.mk view .nil [])=view.length:=by
   show view.length+0+0=_
   omega
  have hE:cV e1 [.mk view .nil []]=bJ (aA e1+(6+12*bh (.mk view .nil []))) view:=by
   simp[cV,bg,cW,if_true]
  have e8:=qN e1
  omega
def sZ(p:aS):Bool:=!ib p&&(!lf p&&(!mc p&&!mf p))
theorem nB{p:aS}(h:sZ p=true):ib p=false/\lf p=false/\mc p=false/\mf p=false:=by
 unfold sZ at h
 grind
theorem Ml{p:aS}(h:ib p=false):p.az.order=1\/p.az.order=2:=by
 unfold ib at h
 cases he:fY p.az with
 |error e=>grind
 |ok b=>
  unfold fY at he
  split at he
  ·grind
  ·rename_i q
   exact(pc (Classical.not_not.1 q)).1
theorem Qj{ms:List aS}(hm:∀p∈ms,dH p)(hl:ms.length<=6)(hg:∀p∈ms,sZ p=true)(i:Nat):∃b,gB ms i=.ok b:=by
 unfold gB
 split
 ·exact⟨_,rfl⟩
 rename_i p hp
 have hpm:=List.mem_of_getElem? hp
 obtain⟨g1,g2,g3,g4⟩:=nB (hg p hpm)
 have ho:=Ml g1
 have hv:=(hm p hpm).tv
 have hr:cF 5 p.view=true:=by unfold mf at g4;simpa using g4
 split
 ·split
  ·rename_i h1
   have hpl:(eR ms).length=ms.length:=by unfold eR;rw[List.length_map]
   have hall:(eR ms).all iH=true:=by
    rw[List.all_eq_true]
    intro q hq
    obtain⟨y,hy,rfl⟩:=List.mem_map.1 hq
    have:=(nB (hg y hy)).2.2.1
    unfold mc at this
    unfold iH
    simp only[Bool.not_eq_false',decide_eq_true_eq] at this⊢
    obtain⟨a,b,c⟩:=this
    exact⟨a,by decide,by decide,b,c⟩
   have he:=UK (o:=p.az.order) (l:=eR ms) (by omega) (by omega) hv hr
   unfold fW
   rw[if_neg (by rintro (q|q);exact q ho;omega),hall,if_neg (by decide),hr,if_neg (by decide),if_neg (by omega),if_neg (by omega)]
   exact⟨_,rfl⟩
  ·exact⟨_,rfl⟩
 ·split
  ·exact⟨_,rfl⟩
  ·rename_i h0
   have he:=adz (o:=p.az.order) hv hr
   unfold uU
   rw[if_neg (by rintro (q|q);exact q ho;exact h0 q),hr,if_neg (by decide),if_neg (by omega)]
   exact⟨_,rfl⟩
theorem Qi{ms:List aS}(h:∀i,∃b,gB ms i=.ok b):∀k i,nP ms k i=-1
 |0,i=>rfl
 |k+1,i=>by
  obtain⟨b,hb⟩:=h i
  unfold nP EO
  rw[hb]
  exact Qi h k (i+1)
theorem zQ{α:Type}{p:α->Bool}{l:List α}:(¬0<=cC p l)↔∀x∈l,p x=false:=by
 constructor
 ·exact qY
 ·intro h q
  obtain⟨i,hi,_,hb⟩:=Fp q
  grind
theorem Uc{ms:List aS}(hm:∀p∈ms,dH p)(h1:1<=ms.length)(hl:ms.length<=6):(gw ms).1 =0↔(∀p∈ms,sZ p=true)/\vk ms=false:=by
 unfold gw
 rw[if_neg (by omega)]
 constructor
 ·intro h
  split at h
  ·exact absurd h (by simp)
  rename_i a1
  split at h
  ·exact absurd h (by simp)
  rename_i a2
  split at h
  ·exact absurd h (by simp)
  rename_i a3
  split at h
  ·exact absurd h (by simp)
  rename_i a4
  split at h
  ·exact absurd h (by simp)
  rename_i a5
  refine⟨λp hp=>?_,by simpa using a5⟩
  unfold sZ
  rw[qY a1 p hp,qY a2 p hp,qY a3 p hp,qY a4 p hp]
  rfl
 ·rintro ⟨hg,h1⟩
  rw[if_neg (zQ.2 λp hp=>(nB (hg p hp)).1),if_neg (zQ.2 λp hp=>(nB (hg p hp)).2.1),if_neg (zQ.2 λp hp=>(nB (hg p hp)).2.2.1),if_neg (zQ.2 λp hp=>(nB (hg p hp)).2.2.2),h1,if_neg (by decide),Qi (Qj hm hl hg),if_neg (by decide)]
theorem S9(ms:List aS)(h:1<=ms.length):gh ms=0↔(gw ms).1 =0:=by
 unfold gh
 constructor
 ·intro hc
  split at hc
  ·rename_i q;exact q
  split at hc
  ·rw[if_neg (by omega)] at hc
   cases hc
  split at hc
  ·rename_i h0 h1 h2
   exfalso
   have hidx:0<=cC ib ms/\(gw ms).2 =cC ib ms:=by
    unfold gw at h2⊢
    split at h2
    ·exact absurd h2 (by decide)
    rename_i a
    rw[if_neg a]
    split at h2
    ·rename_i b;rw[if_pos b];exact⟨b,rfl⟩
    ·exfalso
     repeat' split at h2
     all_goals(simp only at h2;exact absurd h2 (show¬((_:Int)=2) by decide))
   obtain⟨i,hi,he,hb⟩:=Fp hidx.1
   rw[hidx.2,he,Int.toNat_natCast,List.getElem?_eq_getElem hi] at hc
   unfold ib at hb
   simp only at hc
   cases ha:fY ms[i].az with
   |ok b=>rw[ha] at hb;cases hb
   |error e=>rw[ha] at hc;exact KF ha hc
  repeat' split at hc
  all_goals(exact absurd hc (by decide))
 ·intro h0
  rw[if_pos h0]
def zj:List UInt8:=[255,216,255,218,0,8,1,1,0,0,63,0,7,255,217]
def jk:aS:=⟨⟨2,[⟨274,3,1,[0,1]⟩],[],[],[],[],[],[]⟩,[],zj,0,0,0,[]⟩
theorem acd{w:Nat}(hw:10<=w):CM w 3 (ae 1 [Value.int IntKind.i64 1])=some (3,1,ag [0,1],true):=by
 obtain⟨k,rfl⟩:∃k,w=k+10:=⟨w -10,by omega⟩
 rfl
end
section
set_option linter.unusedVariables false
set_option linter.unusedSimpArgs false
set_option linter.unusedSectionVars false
set_option linter.constructorNameAsVariable false
theorem aa5{w:Nat}(hw:10<=w):Ix w=some (2,au [⟨274,3,1,[0,1]⟩],ae 0 [],ae 0 [],ae 0 [],ae 0 [],ae 0 [],ae 0 [],ae 0 [],ag zj,0,0,0,ae 0 []):=by
 unfold Ix
 rw[acd hw]
 rfl
structure oa where
 p:aS
 b:List UInt8
 aL:List UInt8
def Gv(x:Except Int (List UInt8)):List UInt8:=match x with| .ok b=>b| .error _=>[]
def aU(ms:List aS)(i:Nat):oa:=⟨(ms[i]?).getD jk,Gv (gB ms i),Gv (fY ((ms[i]?).getD jk).az)⟩
def fF(g:oa):List Value:=[.int .i64 g.p.az.order,au g.p.az.bQ,au g.p.az.bm,au g.p.az.bD,au g.p.az.aZ,au g.p.az.first,ag g.p.az.bk,ag g.p.az.cm,ag g.p.bL,ag g.p.core,ag g.b,.int .i64 (kZ g.aL g.b),.int .i64 ((dM (eC g.p g.b) g.aL).length:Int)]
theorem te(g:oa):(fF g).length=13:=rfl
def ej(ms:List aS):List oa:=(List.range ms.length).map (aU ms)
structure jq(ms:List aS):Prop where
 mem:∀p∈ms,dH p
 le:ms.length<=6
 vM:∀p∈ms,sZ p=true
theorem jq.MD{ms:List aS}(F:jq ms){i:Nat}(hi:i<ms.length):∃b aL,gB ms i=.ok b/\fY ms[i].az=.ok aL/\ky ms[i].core=true/\aU ms i=⟨ms[i],b,aL⟩:=by
 obtain⟨b,hb⟩:=Qj F.mem F.le F.vM i
 obtain⟨aL,hc⟩:=KI (λp hp=>(nB (F.vM p hp)).1) hi
 refine⟨b,aL,hb,hc,?_,?_⟩
 ·have:=(nB (F.vM _ (List.getElem_mem hi))).2.1
  unfold lf at this
  grind
 ·unfold aU
  rw[List.getElem?_eq_getElem hi,Option.getD_some,hb,hc]
  rfl
theorem vJ{ms:List aS}(hm:∀p∈ms,dH p)(hl:ms.length<=6\/1000<ms.length)(h:gh ms=0):jq ms/\1<=ms.length:=by
 by_cases h0:ms.length<1\/1000<ms.length
 ·exfalso
  unfold gh at h
  rw[(show(gw ms).1 =1 from by unfold gw;rw[if_pos h0])] at h
  omega
 ·have h1:1<=ms.length:=by omega
  have h6:ms.length<=6:=by omega
  have:=(S9 ms h1).1 h
  have:=(Uc hm h1 h6).1 this
  exact⟨⟨hm,h6,this.1⟩,h1⟩
theorem ZK(a d e:Int)(x:cG)(c:List UInt8)(hx:x=jk.az\/x=⟨1,[],[],[],[],[],[],[]⟩)(hc:c=zj\/c=[]):dH ⟨x,[],c,a,d,e,[]⟩:=by
 have t0:TS []:=⟨by decide,λt h=>by cases h⟩
 have hcl:c.length<=2000:=by rcases hc with rfl|rfl<;>decide
 rcases hx with rfl|rfl
 ·exact⟨(show TS [⟨274,3,1,[0,1]⟩] from⟨by decide,λt h=>by rw[List.mem_singleton.1 h];decide⟩),t0,t0,t0,t0,t0,(show 0<=2000 by decide),(show 0<=2000 by decide),(show 0<=2000 by decide),hcl⟩
 ·exact⟨t0,t0,t0,t0,t0,t0,(show 0<=2000 by decide),(show 0<=2000 by decide),(show 0<=2000 by decide),hcl⟩
theorem wx:dH jk:=ZK 0 0 0 _ _ (.inl rfl) (.inl rfl)
theorem Mb:gw []=(1,0)/\gh []=1:=by decide+kernel
end
section
set_option linter.unusedVariables false
set_option linter.unusedSimpArgs false
set_option linter.unusedSectionVars false
set_option linter.constructorNameAsVariable false
def ko(l:List aD):Bool:=l.any (λt=>decide (600<t.data.length))||decide (60<l.length)
theorem uy{w:Nat}(l:List aD)(hl:l.length<2^63)(hw:l.length<w):lO w (au l)=some (ko l):=by
 have hlr:∀K:Nat->Option Bool,ak (au l) K=K l.length:=λK=>bV bR l K
 have key:∀(k i v:Nat),i+k=l.length->k<v->∀(z:Value->Int->Option Bool)(F:(Value->Int->Option Bool)->Value->Int->Option Bool),
  (∀(x3:Value->Int->Option Bool)(x4:Value)(x5:Int),F x3 x4 x5=ak x4 λ(x6:Nat)=>bif aj x5 (Int.ofNat x6) then aB x5 λ(x7:Nat)=>aE 4 x7 x4 λx8=>af (List.drop 2 (List.drop 1 x8)) λ(x9:Value)(x10:List Value)=>ak x9 λ(x11:Nat)=>bif aj 600 (Int.ofNat x11) then some true else x3 x4 (ah IntKind.i64 (x5.add 1)) else ak x4 λ(x12:Nat)=>some (aj 60 (Int.ofNat x12)))->
  lp z F v (au l) i=some ((l.drop i).any (λt=>decide (600<t.data.length))||decide (60<l.length)):=by
  intro k
  induction k with
  |zero=>
   intro i v hi hv z F hF
   have e1:¬((i:Int)<(l.length:Int)):=by omega
   rw[dt z F (by omega),hF,hlr,show l.drop i=[] from List.drop_of_length_le (by omega)]
   simp only[aO,bG,e1,decide_false,cond_false]
   rw[hlr,List.any_nil,Bool.false_or]
   congr 1
   rw[Bool.eq_iff_iff,decide_eq_true_eq,decide_eq_true_eq]
   omega
  |succ k ih=>
   intro i v hi hv z F hF
   have hiL:i<l.length:=by omega
   have e1:((i:Int)<(l.length:Int)):=by omega
   have dd:∀(y:aD)(r:List Value),List.drop 2 (List.drop 1 (bR y++r))=ag y.data::r:=λ_ _=>rfl
   rw[dt z F (by omega),hF,hlr]
   simp only[aO,bG,e1,decide_true,cond_true,bF]
   rw[show au l=ax bR l from rfl,bn fE hiL,dd]
   simp only[aX]
   rw[cg,List.drop_eq_getElem_cons hiL,List.any_cons]
   by_cases h:600<l[i].data.length
   ·have e2:(600:Int)<(l[i].data.length:Int):=by omega
    simp_all
   ·have e2:¬((600:Int)<(l[i].data.length:Int)):=by omega
    simp only[h,e2,decide_false,cond_false]
    have:=ih (i+1) (v -1) (by omega) (by omega) z F hF
    rw[bO,aJ (by omega) (by omega)]
    exact this
 exact key l.length 0 w (by omega) hw _ _ (λ_ _ _=>rfl)
theorem uT{l:List aD}(h:ko l=false):TS l:=by
 unfold ko at h
 simp_all
 exact⟨by omega,λt ht=>by have:=h.1 t ht;omega⟩
def uS(p:aS):Bool:=ko p.az.bQ||(ko p.az.bm||(ko p.az.bD||(ko p.az.aZ||(ko p.az.first||(ko p.view||(decide (2000<p.az.bk.length)||(decide (2000<p.az.cm.length)||(decide (2000<p.bL.length)||decide (2000<p.core.length)))))))))
theorem adx{p:aS}(h:uS p=false):dH p:=by
 unfold uS at h
 simp_all
 obtain⟨a0,a2,a3,a4,a1,av,b1,b2,b3,b4⟩:=h
 exact⟨uT a0,uT a2,uT a3,uT a4,uT a1,uT av,by omega,by omega,by omega,by omega⟩
def sd(ms:List aS):Bool:=decide (6<ms.length/\ms.length<=1000)||(decide (1100<ms.length)||ms.any uS)
theorem Si{ms:List aS}(h:sd ms=false):(ms.length<=6\/1000<ms.length)/\ms.length<=1100/\∀p∈ms,dH p:=by
 unfold sd at h
 simp at h
 exact⟨by omega,by omega,λp hp=>adx (by simpa using h.2.2 p hp)⟩
structure sk(w:Nat)(ms:List aS):Prop where
 n:ms.length<2^63
 rows:∀p∈ms,∀l∈[p.az.bQ,p.az.bm,p.az.bD,p.az.aZ,p.az.first,p.view],l.length<2^63/\l.length<w
noncomputable def yw:DR:=(λ(x2 x3:Int)(x4:Value)=>none)
theorem Sg{w:Nat}{ms:List aS}(B:sk w ms)(hw:ms.length<w):lp yw (qp w) w ms.length 0 (ct ms)=some (ms.any uS):=by
 have key:∀(k i v:Nat),i+k=ms.length->k<v->lp yw (qp w) v ms.length i (ct ms)=some ((ms.drop i).any uS):=by
  intro k
  induction k with
  |zero=>
   intro i v hi hv
   have e1:¬((i:Int)<(ms.length:Int)):=by omega
   rw[dt yw (qp w) (by omega),show ms.drop i=[] from List.drop_of_length_le (by omega)]
   unfold qp
   simp only[aO,e1,decide_false,cond_false]
   rfl
  |succ k ih=>
   intro i v hi hv
   have hiL:i<ms.length:=by omega
   have e1:((i:Int)<(ms.length:Int)):=by omega
   have hb:=B.n
   have hB:=B.rows _ (List.getElem_mem hiL)
   have b0:=hB ms[i].az.bQ (by simp)
   have b2:=hB ms[i].az.bm (by simp)
   have b3:=hB ms[i].az.bD (by simp)
   have b4:=hB ms[i].az.aZ (by simp)
   have b1:=hB ms[i].az.first (by simp)
   have bv:=hB ms[i].view (by simp)
   have hih:=ih (i+1) (v -1) (by omega) (by omega)
   rw[dt yw (qp w) (by omega)]
   generalize hg:lp yw (qp w) (v -1)=g at hih⊢
   rw[List.drop_eq_getElem_cons hiL,List.any_cons]
   unfold qp
   simp only[aO,e1,decide_true,cond_true,bF]
   rw[show ct ms=ax cZ ms from rfl,bn jF hiL,my]
   simp only[aX,bN]
   rw[uy _ b0.1 b0.2,uy _ b2.1 b2.2,uy _ b3.1 b3.2,uy _ b4.1 b4.2,uy _ b1.1 b1.2,uy _ bv.1 bv.2]
   simp only[ay]
   unfold uS
   cases ko ms[i].az.bQ
   case true=>rfl
   cases ko ms[i].az.bm
   case true=>rfl
   cases ko ms[i].az.bD
   case true=>rfl
   cases ko ms[i].az.aZ
   case true=>rfl
   cases ko ms[i].az.first
   case true=>rfl
   cases ko ms[i].view
   case true=>rfl
   simp only[cond_false,Bool.false_or]
   rw[cg,cg,cg,cg,bG,bG,bG,bG]
   have dd:∀n:Nat,decide ((2000:Int)<(n:Int))=decide (2000<n):=by
    intro n
    rw[Bool.eq_iff_iff,decide_eq_true_eq,decide_eq_true_eq]
    omega
   rw[dd,dd,dd,dd]
   cases decide (2000<ms[i].az.bk.length)
   case true=>rfl
   cases decide (2000<ms[i].az.cm.length)
   case true=>rfl
   cases decide (2000<ms[i].bL.length)
   case true=>rfl
   cases decide (2000<ms[i].core.length)
   case true=>rfl
   rw[bO,aJ (by omega) (by omega)]
   exact hih
 exact key ms.length 0 w (by omega) hw
theorem acK{w:Nat}(hw:2000<w){ms:List aS}(B:sk w ms):JM w (ct ms)=some (sd ms):=by
 have hd:∀k:Nat,aj (k:Int) (Int.ofNat ms.length)=decide (k<ms.length):=by
  intro k
  rw[aO,bG,Bool.eq_iff_iff,decide_eq_true_eq,decide_eq_true_eq]
  omega
 have d6:aj 6 (Int.ofNat ms.length)=decide (6<ms.length):=hd 6
 have d11:aj 1100 (Int.ofNat ms.length)=decide (1100<ms.length):=hd 1100
 unfold JM sd
 rw[(show∀K:Nat->Option Bool,ak (ct ms) K=K ms.length fromλK=>bV cZ ms K),d6,(show aj 1000 (Int.ofNat ms.length)=decide (1000<ms.length) from hd 1000),d11]
 by_cases h1:6<ms.length
 ·rw[decide_eq_true h1]
  by_cases h2:1000<ms.length
  ·have h3:¬(6<ms.length/\ms.length<=1000):=by omega
   rw[decide_eq_true h2,decide_eq_false h3]
   by_cases h4:1100<ms.length
   ·rw[decide_eq_true h4]
    rfl
   ·rw[decide_eq_false h4]
    exact Sg B (by omega)
  ·have h3:(6<ms.length/\ms.length<=1000):=by omega
   rw[decide_eq_false h2,decide_eq_true h3]
   rfl
 ·have h3:¬(6<ms.length/\ms.length<=1000):=by omega
  have h4:¬(1100<ms.length):=by omega
  rw[decide_eq_false h1,decide_eq_false h3,decide_eq_false h4,cond_false]
  exact Sg B (by omega)
end
section
set_option linter.unusedVariables false
set_option linter.unusedSimpArgs false
set_option linter.unusedSectionVars false
set_option linter.constructorNameAsVariable false
theorem PS(l:List aD):rowOf (au l)=some (l.length,l.flatMap bR):=rfl
theorem QP(w:Nat)(a b:Int)(d:List UInt8)(hd:d.length<=1000000000):qd w a b (ag d)=some (a,b,ag d):=by
 unfold qd
 rw[oo w _ hd]
 rfl
theorem GB(w:Nat):∀l:List aD,(∀t∈l,t.data.length<=1000000000)->kL (qd w) (l.flatMap bR)=some (l.flatMap bR)
 |[],_=>rfl
 |t::l,h=>by
  have e:(t::l).flatMap bR=.int .i64 t.tag::.int .i64 t.ty::.int .i64 t.ar::ag t.data::l.flatMap bR:=rfl
  rw[e]
  unfold kL
  rw[show aV [ag t.data]=true from rfl,cond_true,QP w _ _ _ (h t (by simp)),ay,GB w l λx hx=>h x (by grind),ay]
theorem Nv:∀(l:List aD)(i:Nat)(p:aD->Bool),(∀x (h:x<l.length),x<i->p l[x]=true)->(∀x (h:x<l.length),i<=x->p l[x]=false)->l.filter p=l.take i
 |[],_,_,_,_=>by simp
 |a::l,0,p,h1,h2=>by
  rw[List.take_zero,List.filter_eq_nil_iff]
  intro x hx
  obtain⟨k,hk,rfl⟩:=List.mem_iff_getElem.1 hx
  simp_all
 |a::l,i+1,p,h1,h2=>by
  have h0:=h1 0 (by simp) (by simp)
  simp at h0
  rw[List.filter_cons,if_pos h0,List.take_succ_cons,Nv l i p (λx h q=>by have:=h1 (x+1) (by grind) (by omega);simpa using this) λx h q=>by have:=h2 (x+1) (by simp;omega) (by omega);simpa using this]
theorem Ff:∀(l:List aD)(i:Nat)(p:aD->Bool),(∀x (h:x<l.length),x<i->p l[x]=false)->(∀x (h:x<l.length),i<=x->p l[x]=true)->l.filter p=l.drop i
 |[],_,_,_,_=>by simp
 |a::l,0,p,h1,h2=>by
  rw[List.drop_zero,List.filter_eq_self]
  intro x hx
  obtain⟨k,hk,rfl⟩:=List.mem_iff_getElem.1 hx
  simp_all
 |a::l,i+1,p,h1,h2=>by
  have h0:=h1 0 (by simp) (by simp)
  simp at h0
  rw[List.filter_cons,if_neg (by simp[h0]),List.drop_succ_cons,Ff l i p (λx h q=>by have:=h1 (x+1) (by grind) (by omega);simpa using this) λx h q=>by have:=h2 (x+1) (by simp;omega) (by omega);simpa using this]
theorem TD{w:Nat}(l:List aD)(t:Int)(hr:ed l=true)(hl:l.length<2^20)(hw:l.length+2<w)(hd:∀t∈l,t.data.length<=1000000000):uv w (au l) t=some (au (mi l t)):=by
 obtain⟨i,a,b,c,h1,h2⟩:=IU l t hr (by omega) hw
 unfold uv sO
 rw[PS,ay,(cK fE l),Nat.beq_refl,show Nat.blt l.length 1000000000=true by simp;omega]
 rw[show(true&&true)=true from rfl,GB w l hd,ay,show ae l.length (l.flatMap bR)=au l from rfl,a,ay]
 cases hf:fU l t with
 |none=>
  have:mi l t=l:=by
   unfold mi
   rw[List.filter_eq_self]
   intro x hx
   have:=List.find?_eq_none.1 (hf) x hx
   simpa using this
  rw[this]
  rfl
 |some x=>
  obtain⟨hi,hx⟩:=c (by rw[hf];rfl)
  have ht:l[i].tag=t:=by
   have h0:=List.find?_some (hf)
   rw[hf] at hx
   rw[<-Option.some.inj hx]
   simpa using h0
  have e1:(decide ((0:Int)<=((i:Nat):Int))&&Nat.blt i l.length)=true:=by simp;omega
  have hdr:mi l t=l.take i++l.drop (i+1):=by
   unfold mi
   conv=>lhs;rw[<-List.take_append_drop i l,List.drop_eq_getElem_cons hi]
   rw[List.filter_append,List.filter_cons,if_neg (by simp[ht])]
   congr 1
   ·rw[List.filter_eq_self]
    intro x hx
    obtain⟨k,hk,rfl⟩:=List.mem_iff_getElem.1 hx
    simp at hk
    have:=h1 k (by omega) (by omega)
    simp;omega
   ·rw[List.filter_eq_self]
    intro x hx
    obtain⟨k,hk,rfl⟩:=List.mem_iff_getElem.1 hx
    simp at hk
    have:=rC hr (show i<i+1+k by omega) (show i+1+k<l.length by omega)
    simp;omega
  simp only[Option.isSome_some,cond_true,e1,Int.toNat_natCast]
  rw[mm fE,sW fE,sW fE,List.take_of_length_le (l:=l.drop (i+1)) (by simp),hdr,<-List.flatMap_append]
  unfold au ax
  rw[show(l.take i++l.drop (i+1)).length=l.length -1 by simp;omega]
theorem aaK{w:Nat}(l:List aD)(x:aD)(hr:ed l=true)(hl:l.length<2^20)(hw:l.length+2<w)(hd:∀t∈l,t.data.length<=1000000000)(hx:x.data.length<=1000000000):xK w (au l) x.tag x.ty x.ar (ag x.data)=some (au (iz l x)):=by
 obtain⟨i,a,b,c,h1,h2⟩:=IU l x.tag hr (by omega) hw
 unfold xK tX
 rw[PS,ay,(cK fE l),Nat.beq_refl,show Nat.blt l.length 1000000000=true by simp;omega,show aV [ag x.data]=true from rfl]
 rw[show(true&&true&&true)=true from rfl,cond_true,GB w l hd,QP w _ _ _ hx,ay,show ae l.length (l.flatMap bR)=au l from rfl,a]
 have hlt:l.filter (λy=>decide (y.tag<x.tag))=l.take i:=Nv l i _ (λk h q=>by have:=h1 k h q;simpa using this) λk h q=>by have:=h2 k h q;simp;omega
 cases hf:fU l x.tag with
 |none=>
  have cc:∀k (h:k<l.length),l[k].tag≠x.tag:=λk h=>by
   have:=List.find?_eq_none.1 (hf) l[k] (List.getElem_mem h)
   simpa using this
  simp_all
  rw[mm fE,sW fE]
  unfold iz au ax
  rw[hlt,(Ff l i _ (λk h q=>by have:=h1 k h q;simp;omega) λk h q=>by have:=h2 k h q;have:=cc k h;simp;omega),List.flatMap_append,show(l.take i++x::l.drop i).length=l.length+1 by simp;omega]
  rfl
 |some y=>
  obtain⟨hi,hy⟩:=c (by rw[hf];rfl)
  have ht:l[i].tag=x.tag:=by
   rw[hf] at hy
   rw[<-Option.some.inj hy]
   simpa using(List.find?_some (hf))
  have hgt:l.filter (λy=>decide (x.tag<y.tag))=l.drop (i+1):=Ff l (i+1) _ (λk h q=>by
   by_cases hk:k=i
   ·subst hk;simp;omega
   ·have:=h1 k h (by omega);simp;omega) λk h q=>by have:=rC hr (show i<k by omega) h;simp;omega
  simp_all
  rw[mm fE,sW fE]
  unfold iz au ax
  rw[hlt,hgt,List.flatMap_append,show(l.take i++x::l.drop (i+1)).length=l.length by simp;omega]
  rfl
end
section
set_option linter.unusedVariables false
set_option linter.unusedSimpArgs false
set_option linter.unusedSectionVars false
set_option linter.constructorNameAsVariable false
theorem En(l:List UInt8):aW (l.map λb=>(b.toNat:Int))=l.map aQ:=by
 unfold aW
 rw[List.map_map]
 rfl
theorem Ts{w:Nat}(b:List UInt8)(hb:b.length<=65519):xW w (ag b)=some (ax cf (eA b),0):=by
 unfold xW vr
 rw[o8,List.length_map,Rj w _ (by omega),ay]
 cases b with
 |nil=>rfl
 |cons a b=>
  rw[(show sL (a::b).length=1 from by unfold sL;simp_all;omega),show(ai ((1:Nat):Int) 1&&Nat.ble (a::b).length 65519)=true by rw[show Nat.ble (a::b).length 65519=true by rw[Nat.ble_eq];exact hb];rfl]
  have e:aW (jS++(a::b).map λb=>(b.toNat:Int))=(ef++1::1::(a::b)).map aQ:=by
   rw[<-En];rfl
  rw[e,(show eA (a::b)=[ef++1::1::(a::b)] from by unfold eA;rw[if_neg (by simp)])]
  unfold ax cf ag ax
  rw[List.flatMap_cons,(show∀l:List UInt8,l.flatMap mQ=l.map aQ fromλl=>by induction l with|nil=>rfl|cons x l ih=>rw[List.flatMap_cons,ih];rfl),(show(ef++1::1::(a::b)).length=14+(a::b).length from by simp[ef];omega)]
  rfl
theorem SS{w:Nat}(a b c d:List UInt8)(h0:0<a.length)(h:a.length+b.length+c.length+d.length<2^29):qa w (ag a) (ag b) (ag c) (d.map aQ)=some ((d++(a++(b++c))).map aQ):=by
 unfold qa
 rw[J7,ay,o8,o8,o8,<-List.map_append,<-List.map_append,<-List.map_append,En]
 have e:(Nat.blt 0 (d++(a++(b++c))).length&&Nat.ble (d++(a++(b++c))).length 1000000000)=true:=by
  simp;omega
 grind
end
section
set_option linter.unusedVariables false
set_option linter.unusedSimpArgs false
set_option linter.unusedSectionVars false
set_option linter.constructorNameAsVariable false
theorem Vk(t:Int):(kindOf t).1 <=8:=by
 unfold kindOf
 repeat' split
 all_goals decide
theorem VP{ty ar:Int}{l:List UInt8}(h:cX ty ar l=true):l.length<=524288:=by
 obtain⟨h0,h1,h2,h3⟩:=rk h
 have:ar*(kindOf ty).1 <=ar*8:=Int.mul_le_mul_of_nonneg_left (Vk ty) (by omega)
 omega
theorem VU{w:Nat}(l:List aD)(h:∀t∈l,cX t.ty t.ar t.data=true)(hl:l.length<=65535)(hw:65540<=w):kP w (au l)=some false:=by
 have key:Jx w (au l)=some (-1):=by
  refine gz (ev:=λi (g:Value->Int->Int->Option Int)=>g (au l) (l.length:Int) i) l.length ?_ ?_ (by omega)
  ·intro i g hi
   simp_all
   rw[show au l=ax bR l from rfl,bn fE hi,(show∀(y:aD)(r:List Value),bR y++r=Value.int .i64 y.tag::.int .i64 y.ty::.int .i64 y.ar::ag y.data::r fromλ_ _=>rfl)]
   simp
   have hm:=h l[i] (List.getElem_mem hi)
   unfold Jp
   rw[uo w _ _ _ (by have:=VP hm;omega),hm,aJ (by omega) (by omega)]
   rfl
  ·intro g
   simp
 unfold kP
 rw[key]
 rfl
theorem He(d:aK):(er (dT d)&&(er (dS d)&&er (dB d)))=true:=by cases d;rfl
theorem VO{w:Nat}(hw:65540<=w){sh:List aP}{s:Nat}{d:aK}(h:bX sh s d=true):jW (iM w) (kP w) (dT d) (dS d) (dB d)=true:=by
 unfold jW
 rw[He]
 obtain⟨tags,subs,blob⟩:=d
 unfold bX at h
 simp_all
 obtain⟨⟨h1,h2⟩,h3,_⟩:=h
 have hn:bh (.mk tags subs blob)=tags.length+bI subs+(if blob.length=0 then 0 else 2):=rfl
 have hT:∀t∈tags,cX t.ty t.ar t.data=true:=λt ht=>by
  unfold iB at h3
  simp_all
 rw[show dT (.mk tags subs blob)=au tags from rfl,show dS (.mk tags subs blob)=ae (bI subs) (fb subs) from rfl,show dB (.mk tags subs blob)=ag blob from rfl,Cp w tags subs blob (by omega),VU tags hT (by omega) hw]
 grind
mutual
theorem NB{w:Nat}(hw:65540<=w){sh:List aP}:∀(d:aK)(s f:Nat),bX sh s d=true->eB d<=f->jE (jW (iM w) (kP w)) f (dT d) (dS d) (dB d)=true
 | .mk tags subs blob,s,0,h,hf=>by simp[eB] at hf
 | .mk tags subs blob,s,f+1,h,hf=>by
  unfold jE
  rw[VO hw h]
  unfold bX at h
  simp at h
  obtain⟨⟨h1,h2⟩,_,_,_,h5⟩:=h
  have hn:bh (.mk tags subs blob)=tags.length+bI subs+(if blob.length=0 then 0 else 2):=rfl
  show(Nat.beq (fb subs).length (bI subs*4)&&Nat.blt (bI subs) 1000000000&&rj (jE (jW (iM w) (kP w)) f) (fb subs))=true
  rw[Rz,Nat.beq_refl,show Nat.blt (bI subs) 1000000000=true by simp;omega,ND hw subs _ f h5 (by simp only[eB] at hf;omega)]
  rfl
theorem ND{w:Nat}(hw:65540<=w){sh:List aP}:∀(s:bW)(S:aP)(f:Nat),gx sh S s=true->ij s<=f->rj (jE (jW (iM w) (kP w)) f) (fb s)=true
 | .nil,_,_,_,_=>rfl
 | .cons tag d r,S,f,h,hf=>by
  unfold gx at h
  simp_all
  unfold ij at hf
  rw[show fb (.cons tag d r)=.int .i64 tag::(cx d++fb r) from rfl,mU]
  show((er (dT d)&&(er (dS d)&&er (dB d)))&&jE (jW (iM w) (kP w)) f (dT d) (dS d) (dB d)&&rj (jE (jW (iM w) (kP w)) f) (fb r))=true
  rw[He,NB hw d _ f h.2.1 (by omega),ND hw r S f h.2.2 (by omega)]
  rfl
end
theorem VQ{w:Nat}(hw:65540<=w)(o:Int)(ds:List aK)(hn:ds.length<1000000000)(h:∀d∈ds,∃(sh:List aP)(s:Nat),bX sh s d=true)(hd:iR ds<=w):rP w o (cy ds)=some true:=by
 have hC:∀ds:List aK,(∀d∈ds,∃(sh:List aP)(s:Nat),bX sh s d=true)->iR ds<=w->oA (jE (jW (iM w) (kP w)) w) (ds.flatMap cx)=true:=by
  intro ds
  induction ds with
  |nil=>intro _ _;rfl
  |cons d ds ih=>
   intro h hd
   obtain⟨sh,s,h0⟩:=h d (by simp)
   unfold iR at hd
   rw[List.flatMap_cons,mU]
   show((er (dT d)&&(er (dS d)&&er (dB d)))&&jE (jW (iM w) (kP w)) w (dT d) (dS d) (dB d)&&oA (jE (jW (iM w) (kP w)) w) (ds.flatMap cx))=true
   rw[He,NB hw d s w h0 (by omega),ih (λx hx=>h x (by grind)) (by omega)]
   rfl
 show cond (Nat.beq (ds.flatMap cx).length (ds.length*3)&&(Nat.blt ds.length 1000000000&&oA (jE (jW (iM w) (kP w)) w) (ds.flatMap cx))) (some true) none=some true
 rw[(cK jf ds),Nat.beq_refl,show Nat.blt ds.length 1000000000=true by simp;omega,hC ds h hd]
 rfl
theorem Ux{w:Nat}(hw:65540<=w):Hand w:=
 ⟨λo ds hn h hd=>VQ hw o ds hn h hd,λl x h1 h2 h3 h4 h5=>aaK l x h1 h2 h3 h4 h5,λl t h1 h2 h3 h4=>TD l t h1 h2 h3 h4,λb h=>Ts b h,λa b c d h0 h=>SS a b c d h0 h⟩
end
section
set_option linter.unusedVariables false
set_option linter.unusedSimpArgs false
set_option linter.unusedSectionVars false
set_option linter.constructorNameAsVariable false
open Go.Shelf Go.RowKit Go.Lib Go.ChangeShapes Go.WideShapes Go.Deep
section
variable{H:Type} {enc:TypeId×Value->H} {P:Program} {w:World} {base:Nat} {spare:Nat->Bool} {held:Bool}
theorem SU{b i:Nat}{y:Value}(h:w.cell? ⟨b,i,none⟩=some y):dX w b i=some y:=by
 unfold dX
 split
 ·rename_i es c q
  unfold World.cell? at h
  simp only[q] at h
  cases h
 ·exact h
theorem SX{a:Addr}{y:Value}(h:w.cell? a=some y):a.spot=none:=by
 unfold World.cell? at h
 split at h
 ·split at h
  ·cases h
  ·rename_i q
   cases e:a.spot with
   |none=>rfl
   |some _=>rw[e] at q;exact absurd rfl q
 ·cases h
theorem OU{α:Type}{f:α->List Value}(h:∀x,aV (f x)=true):∀l:List α,aV (l.flatMap f)=true
 |[]=>rfl
 |x::l=>by rw[List.flatMap_cons];exact AG (h x) (OU h l)
theorem J6{α:Type}{t e:TypeId}{k:Nat}(f:α->List Value)(pf:∀p,aV (f p)=true)(ht:P.underlying t=some (.slice e))(hk:P.cellsOf e=k)(k0:0<k){fuel:Nat}{cs:List Value}{x:DataW H×List MemPlace}
 (each:∀fuel cs x,DataW.trod enc P w base spare held fuel e cs=some x->∃p:α,bC (λb i=>dX w b i) (f p) cs) (h:DataW.trod enc P w base spare held fuel t cs=some x):
 ∃(l:List α)(v:Value),cs=[v]/\aG (λb i=>dX w b i) (ax f l) v/\l.length<=maxLen:=by
 rcases open_slice ht h with⟨rfl,_⟩|⟨a,len,cap,m,n,D,Pl,rfl,hb,hl,hm,hmm,hx,hi⟩
 ·exact⟨[],_,rfl,.fo,Nat.zero_le _⟩
 have hlm:len<=m:=by rw[hmm];split<;>omega
 have key:∀j,j<=len->∃(l:List α)(ys:List Value),l.length=j/\bC (λb i=>dX w b i) (l.flatMap f) ys/\ys.length=j*k/\∀q y,ys[q]? =some y->w.cell? (a.add q)=some y:=by
  intro j
  induction j with
  |zero=>intro _;exact⟨[],[],rfl,.nil,by simp,λq y h=>by simp at h⟩
  |succ j ih=>
   intro hj
   obtain⟨l,ys,e1,e2,e3,e4⟩:=ih (by omega)
   obtain⟨cs',hc,htr⟩:=hi j (by omega)
   obtain⟨p,hp⟩:=each _ _ _ htr
   rw[hk] at hc
   obtain⟨_,hcl,hat⟩:=World.cells?_some hc
   refine⟨l++[p],ys++cs',by simp[e1],?_,by simp[e3,hcl,Nat.add_mul],λq y hq=>?_⟩
   ·rw[List.flatMap_append,List.flatMap_cons,List.flatMap_nil,List.append_nil]
    exact e2.join hp
   ·rcases Nat.lt_or_ge q ys.length with hlt|hge
    ·rw[List.getElem?_append_left hlt] at hq
     exact e4 q y hq
    ·rw[List.getElem?_append_right hge] at hq
     have hql:=(List.getElem?_eq_some_iff.1 hq).1
     have:=hat (q -ys.length) (by omega)
     rw[hq] at this
     rw[<-this,Go.Deep.add_add]
     congr 2
     omega
 obtain⟨l,ys,e1,e2,e3,e4⟩:=key len (Nat.le_refl _)
 refine⟨l,_,rfl,?_,by omega⟩
 by_cases h0:len=0
 ·have:l=[]:=List.eq_nil_of_length_eq_zero (by omega)
  subst this
  subst h0
  exact .fo
 ·obtain⟨y0,hy0⟩:∃y,ys[0]? =some y:=⟨_,List.getElem?_eq_getElem (by rw[e3];exact Nat.mul_pos (by omega) k0)⟩
  obtain⟨b,o,sp⟩:=a
  have hs:sp=none:=by
   have:=SX (e4 0 y0 hy0)
   unfold Addr.add at this
   first|exact this|(split at this<;>exact this)|simpa using this
  subst hs
  subst e1
  refine aG.row e2 (λi y hy=>SU ?_) rfl hl (OU pf l)
  have:=e4 i y hy
  rwa[Addr.add_lit] at this
end
end
section
set_option linter.unusedVariables false
set_option linter.unusedSimpArgs false
set_option linter.unusedSectionVars false
set_option linter.constructorNameAsVariable false
open Go.Shelf Go.RowKit Go.Lib Go.ChangeShapes Go.WideShapes Go.Deep
theorem KZ:Tryz.prog.cellsOf 136=4:=by kernel_rfl
theorem qI:Tryz.prog.cellsOf 3=1:=by kernel_rfl
theorem S5:Tryz.prog.cellsOf 5=1:=by kernel_rfl
theorem S6:Tryz.prog.cellsOf 134=3:=by kernel_rfl
theorem vo:Tryz.prog.cellsOf 26=1:=by kernel_rfl
theorem sJ:Tryz.prog.cellsOf 25=1:=by kernel_rfl
theorem SZ:Tryz.prog.cellsOf 28=8:=by kernel_rfl
theorem KY:Tryz.prog.cellsOf 30=14:=by kernel_rfl
theorem S0:Tryz.prog.cellsOf 22=1:=by kernel_rfl
theorem SY:Tryz.prog.cellsOf 24=1:=by kernel_rfl
section
variable{H:Type} {enc:TypeId×Value->H} {w:World} {base:Nat} {spare:Nat->Bool} {held:Bool}
theorem gQ{t:TypeId}{fs:Array Field}{fuel:Nat}{cs:List Value}{x:DataW H×List MemPlace}(ht:Tryz.prog.underlying t=some (.struct fs))(h:DataW.trod enc Tryz.prog w base spare held fuel t cs=some x)(i:Nat)(f:Field)(hf:fs[i]? =some f){k:Nat}(hk:Tryz.prog.cellsOf f.type=k):
 ∃n y,DataW.trod enc Tryz.prog w base spare held n f.type ((cs.drop f.offset).take k)=some y:=by
 obtain⟨xs,n,_,_,_,hl,hat⟩:=DataW.trod_struct ht h
 have hi:i<fs.size:=(Array.getElem?_eq_some_iff.1 hf).1
 subst hk
 exact⟨n,_,(hat i f hf).trans (List.getElem?_eq_getElem (by omega))⟩
theorem lenOf{t:TypeId}{fs:Array Field}{fuel:Nat}{cs:List Value}{x:DataW H×List MemPlace}(ht:Tryz.prog.underlying t=some (.struct fs))(h:DataW.trod enc Tryz.prog w base spare held fuel t cs=some x){k:Nat}(hk:Tryz.prog.cellsOf t=k):cs.length=k:=by
 obtain⟨_,_,_,_,hl,_⟩:=DataW.trod_struct ht h
 rw[hl,hk]
theorem rB{fuel:Nat}{cs:List Value}{x:DataW H×List MemPlace}(h:DataW.trod enc Tryz.prog w base spare held fuel 3 cs=some x):∃n,cs=[.int .i64 n]:=by
 obtain⟨n,e,_⟩:=DataW.trod_int Tryz.underlying3 h
 exact⟨n,e⟩
theorem ZU{fuel:Nat}{cs:List Value}{x:DataW H×List MemPlace}(h:DataW.trod enc Tryz.prog w base spare held fuel 5 cs=some x):∃b:UInt8,bC (λb i=>dX w b i) (mQ b) cs:=by
 obtain⟨n,rfl,_,q⟩:=DataW.trod_int Tryz.underlying5 h
 have hq:0<=n/\n<=255:=by
  unfold Lit.wf at q
  rw[Bool.and_eq_true] at q
  exact⟨of_decide_eq_true q.1,of_decide_eq_true q.2⟩
 refine⟨UInt8.ofNat n.toNat,?_⟩
 have e:mQ (UInt8.ofNat n.toNat)=[.int .u8 n]:=by
  unfold mQ aQ
  have:((UInt8.ofNat n.toNat).toNat:Int)=n:=by
   rw[UInt8.toNat_ofNat'];omega
  rw[this]
 rw[e]
 exact .cons (.int _ _) .nil
theorem wV{fuel:Nat}{cs:List Value}{x:DataW H×List MemPlace}(h:DataW.trod enc Tryz.prog w base spare held fuel 26 cs=some x):∃(l:List UInt8)(v:Value),cs=[v]/\aG (λb i=>dX w b i) (ag l) v/\l.length<=maxLen:=
 J6 mQ (λ_=>rfl) Tryz.underlying26 S5 (by decide) (λ_ _ _ h=>ZU h) h
theorem ZV{fuel:Nat}{cs:List Value}{x:DataW H×List MemPlace}(h:DataW.trod enc Tryz.prog w base spare held fuel 136 cs=some x):∃t:aD,bC (λb i=>dX w b i) (bR t) cs:=by
 have hl:=lenOf Tryz.underlying136 h KZ
 match cs,hl with
 |[a,b,c,d],_=>
  obtain⟨_,_,h0⟩:=gQ Tryz.underlying136 h 0 _ rfl qI
  obtain⟨_,_,h1⟩:=gQ Tryz.underlying136 h 1 _ rfl S6
  obtain⟨_,_,h2⟩:=gQ Tryz.underlying134 h1 0 _ rfl qI
  obtain⟨_,_,h3⟩:=gQ Tryz.underlying134 h1 1 _ rfl qI
  obtain⟨_,_,h4⟩:=gQ Tryz.underlying134 h1 2 _ rfl vo
  obtain⟨n0,e0⟩:=rB h0
  obtain⟨n1,e1⟩:=rB h2
  obtain⟨n2,e2⟩:=rB h3
  obtain⟨l,v,e3,L,_⟩:=wV h4
  have e0:[a]=[.int .i64 n0]:=e0
  have e1:[b]=[.int .i64 n1]:=e1
  have e2:[c]=[.int .i64 n2]:=e2
  have e3:[d]=[v]:=e3
  cases e0;cases e1;cases e2;cases e3
  exact⟨⟨n0,n1,n2,l⟩,.cons (.int _ _) (.cons (.int _ _) (.cons (.int _ _) (.cons L .nil)))⟩
theorem tJ{fuel:Nat}{cs:List Value}{x:DataW H×List MemPlace}(h:DataW.trod enc Tryz.prog w base spare held fuel 25 cs=some x):∃(l:List aD)(v:Value),cs=[v]/\aG (λb i=>dX w b i) (au l) v/\l.length<=maxLen:=
 J6 bR (λ_=>rfl) Tryz.underlying25 KZ (by decide) (λ_ _ _ h=>ZV h) h
def u0(p:aS):Prop:=∀l∈[p.az.bQ,p.az.bm,p.az.bD,p.az.aZ,p.az.first,p.view],l.length<=maxLen
theorem PC{fuel:Nat}{cs:List Value}{x:DataW H×List MemPlace}(h:DataW.trod enc Tryz.prog w base spare held fuel 30 cs=some x):∃p:{p:aS//u0 p},bC (λb i=>dX w b i) (cZ p.1) cs:=by
 have hl:=lenOf Tryz.underlying30 h KY
 match cs,hl with
 |[a0,a1,a2,a3,a4,a5,a6,a7,a8,a9,a10,a11,a12,a13],_=>
  obtain⟨_,_,hE⟩:=gQ Tryz.underlying30 h 0 _ rfl SZ
  obtain⟨_,_,h0⟩:=gQ Tryz.underlying28 hE 0 _ rfl qI
  obtain⟨_,_,h1⟩:=gQ Tryz.underlying28 hE 1 _ rfl sJ
  obtain⟨_,_,h2⟩:=gQ Tryz.underlying28 hE 2 _ rfl sJ
  obtain⟨_,_,h3⟩:=gQ Tryz.underlying28 hE 3 _ rfl sJ
  obtain⟨_,_,h4⟩:=gQ Tryz.underlying28 hE 4 _ rfl sJ
  obtain⟨_,_,h5⟩:=gQ Tryz.underlying28 hE 5 _ rfl sJ
  obtain⟨_,_,h6⟩:=gQ Tryz.underlying28 hE 6 _ rfl vo
  obtain⟨_,_,h7⟩:=gQ Tryz.underlying28 hE 7 _ rfl vo
  obtain⟨_,_,h8⟩:=gQ Tryz.underlying30 h 1 _ rfl vo
  obtain⟨_,_,h9⟩:=gQ Tryz.underlying30 h 2 _ rfl vo
  obtain⟨_,_,h10⟩:=gQ Tryz.underlying30 h 3 _ rfl qI
  obtain⟨_,_,h11⟩:=gQ Tryz.underlying30 h 4 _ rfl qI
  obtain⟨_,_,h12⟩:=gQ Tryz.underlying30 h 5 _ rfl qI
  obtain⟨_,_,h13⟩:=gQ Tryz.underlying30 h 6 _ rfl sJ
  obtain⟨n0,e0⟩:=rB h0
  obtain⟨l1,v1,e1,L1,m1⟩:=tJ h1
  obtain⟨l2,v2,e2,L2,m2⟩:=tJ h2
  obtain⟨l3,v3,e3,L3,m3⟩:=tJ h3
  obtain⟨l4,v4,e4,L4,m4⟩:=tJ h4
  obtain⟨l5,v5,e5,L5,m5⟩:=tJ h5
  obtain⟨l6,v6,e6,L6,_⟩:=wV h6
  obtain⟨l7,v7,e7,L7,_⟩:=wV h7
  obtain⟨l8,v8,e8,L8,_⟩:=wV h8
  obtain⟨l9,v9,e9,L9,_⟩:=wV h9
  obtain⟨n10,e10⟩:=rB h10
  obtain⟨n11,e11⟩:=rB h11
  obtain⟨n12,e12⟩:=rB h12
  obtain⟨l13,v13,e13,L13,m13⟩:=tJ h13
  have e0:[a0]=[.int .i64 n0]:=e0
  have e1:[a1]=[v1]:=e1
  have e2:[a2]=[v2]:=e2
  have e3:[a3]=[v3]:=e3
  have e4:[a4]=[v4]:=e4
  have e5:[a5]=[v5]:=e5
  have e6:[a6]=[v6]:=e6
  have e7:[a7]=[v7]:=e7
  have e8:[a8]=[v8]:=e8
  have e9:[a9]=[v9]:=e9
  have e10:[a10]=[.int .i64 n10]:=e10
  have e11:[a11]=[.int .i64 n11]:=e11
  have e12:[a12]=[.int .i64 n12]:=e12
  have e13:[a13]=[v13]:=e13
  cases e0;cases e1;cases e2;cases e3;cases e4;cases e5;cases e6;cases e7;cases e8;cases e9;cases e10;cases e11;cases e12;cases e13
  refine⟨⟨⟨⟨n0,l1,l2,l3,l4,l5,l6,l7⟩,l8,l9,n10,n11,n12,l13⟩,λl hl=>?_⟩,.cons (.int _ _) (.cons L1 (.cons L2 (.cons L3 (.cons L4 (.cons L5 (.cons L6 (.cons L7 (.cons L8 (.cons L9 (.cons (.int _ _) (.cons (.int _ _) (.cons (.int _ _) (.cons L13 .nil)))))))))))))⟩
  simp only[List.mem_cons,List.not_mem_nil,or_false] at hl
  rcases hl with rfl|rfl|rfl|rfl|rfl|rfl<;>assumption
theorem ZT{fuel:Nat}{cs:List Value}{x:DataW H×List MemPlace}(h:DataW.trod enc Tryz.prog w base spare held fuel 24 cs=some x):∃(ms:List aS)(v:Value),cs=[v]/\aG (λb i=>dX w b i) (ct ms) v/\ms.length<=maxLen/\∀p∈ms,u0 p:=by
 have hl:=lenOf Tryz.underlying24 h SY
 match cs,hl with
 |[a],_=>
  obtain⟨_,_,h0⟩:=gQ Tryz.underlying24 h 0 _ rfl S0
  obtain⟨l,v,e,L,hm⟩:=J6 (λp:{p:aS//u0 p}=>cZ p.1) (λ_=>rfl) Tryz.underlying22 KY (by decide) (λ_ _ _ h=>PC h) h0
  have e:[a]=[v]:=e
  cases e
  refine⟨l.map (·.1),a,rfl,?_,by simpa using hm,λp hp=>?_⟩
  ·have:ct (l.map (·.1))=ax (λp:{p:aS//u0 p}=>cZ p.1) l:=by
    unfold ct ax
    rw[List.length_map,List.flatMap_map]
   rw[this];exact L
  ·obtain⟨q,_,rfl⟩:=List.mem_map.1 hp
   exact q.2
end
end
section
set_option linter.unusedVariables false
set_option linter.unusedSimpArgs false
set_option linter.unusedSectionVars false
set_option linter.constructorNameAsVariable false
open Go.ChangeShapes Go.WideShapes Go.ChangeAt Go.RowKit Go.Joins Go.Deep
open YtcfjfbeadhnknaaGreatDoor
theorem own:ownKnob Tryz.prog.godebug=none:=by kernel_rfl
theorem laidOut:laidOutB Tryz.prog=true:=by kernel_rfl
theorem wok:cU (maxLen+1):=⟨Ux (by decide),by decide⟩
theorem KN(ms:List aS)(hn:ms.length<=maxLen)(hr:∀p∈ms,u0 p):sk (maxLen+1) ms:=
 ⟨Nat.lt_succ_of_le hn,λp hp l hl=>⟨Nat.lt_succ_of_le (hr p hp l hl),Nat.lt_succ_of_le (hr p hp l hl)⟩⟩
end
section
set_option linter.unusedVariables false
set_option linter.unusedSimpArgs false
set_option linter.unusedSectionVars false
set_option linter.constructorNameAsVariable false
def fH(ms:List aS)(i:Nat):Nat:=(dM (eC (aU ms i).p (aU ms i).b) (aU ms i).aL).length
def kj(ms:List aS):Nat->Nat
 |0=>0
 |i+1=>kj ms i+fH ms i
def mq(ms:List aS):Nat:=(aU ms 0).aL.length+14
def AR(ms:List aS)(i:Nat):cL:=⟨(aU ms i).p.attr,fH ms i,if i=0 then 0 else(kj ms i:Int) -mq ms,(aU ms i).p.dQ,(aU ms i).p.dU⟩
def jI(ms:List aS):List cL:=(List.range ms.length).map (AR ms)
def gK(ms:List aS)(i:Nat):List UInt8:=if i=0/\1<ms.length then Gv (fW (aU ms 0).p.az.order (jI ms) (aU ms 0).p.view) else(aU ms i).b
def gU(ms:List aS)(i:Nat):List UInt8:=dM (eC (aU ms i).p (gK ms i)) (aU ms i).aL
def ec(ms:List aS):List (List UInt8):=(List.range ms.length).map (gU ms)
theorem pR(ms:List aS):(jI ms).length=ms.length:=by unfold jI;rw[List.length_map,List.length_range]
theorem pQ(ms:List aS):(ec ms).length=ms.length:=by unfold ec;rw[List.length_map,List.length_range]
theorem jq.at_{ms:List aS}(F:jq ms){i:Nat}(hi:i<ms.length):(aU ms i).p=ms[i]/\gB ms i=.ok (aU ms i).b/\fY ms[i].az=.ok (aU ms i).aL/\ky ms[i].core=true:=by
 obtain⟨b,aL,k1,k2,k3,k4⟩:=F.MD hi
 rw[k4]
 exact⟨rfl,k1,k2,k3⟩
theorem re{ms:List aS}(F:jq ms){i:Nat}(hi:i<ms.length):1<=fH ms i/\fH ms i<=3000000:=by
 obtain⟨h1,h2,h3,h4⟩:=F.at_ hi
 have h6:=F.le
 unfold fH
 rw[h1]
 exact⟨MC _ _,ME hi h2 F.mem (by omega) h3 h4⟩
theorem RA{ms:List aS}(F:jq ms):∀i,i<=ms.length->kj ms i<=3000000*i
 |0,_=>Nat.le_refl _
 |i+1,h=>by
  have:=RA F i (by omega)
  have:=(re F (i:=i) (by omega)).2
  unfold kj
  omega
theorem RB(ms:List aS):∀{i j:Nat},i<=j->kj ms i<=kj ms j
 |i,0,h=>by rw[Nat.le_zero.1 h];exact Nat.le_refl _
 |i,j+1,h=>by
  rcases Nat.lt_or_ge i (j+1) with q|q
  ·have:=RB ms (show i<=j by omega)
   show kj ms i<=kj ms j+fH ms j
   omega
  ·rw[show i=j+1 by omega];exact Nat.le_refl _
theorem KX{x:kS}{aL:List UInt8}:aL.length+x.bY.length+6<=(dM x aL).length:=by
 unfold dM iv
 rw[iO,iO]
 have a1:(cq ⟨216,[],[]⟩).length=2:=rfl
 have a2:(cq ⟨225,aL,[]⟩).length=aL.length+4:=by
  rw[show cq ⟨225,aL,[]⟩=[255,UInt8.ofNat (225:Int).toNat,UInt8.ofNat ((aL.length+2)/256),UInt8.ofNat ((aL.length+2)%256)]++aL++[] from rfl]
  simp only[List.length_append,List.length_cons,List.length_nil]
  omega
 rw[List.length_append,List.length_append,a1,a2]
 split
 ·rename_i h;omega
 ·rw[List.singleton_append,iO,List.length_append]
  have a3:(cq ⟨226,x.bY,[]⟩).length=x.bY.length+4:=by
   rw[show cq ⟨226,x.bY,[]⟩=[255,UInt8.ofNat (226:Int).toNat,UInt8.ofNat ((x.bY.length+2)/256),UInt8.ofNat ((x.bY.length+2)%256)]++x.bY++[] from rfl]
   simp only[List.length_append,List.length_cons,List.length_nil]
   omega
  omega
theorem AS{ms:List aS}(F:jq ms)(h2:1<ms.length):
 ∃b,fW (aU ms 0).p.az.order (jI ms) (aU ms 0).p.view=.ok b/\b.length=(aU ms 0).b.length/\gK ms 0=b/\14<b.length:=by
 obtain⟨h1,k1,k2,k3⟩:=F.at_ (i:=0) (by omega)
 have h6:=F.le
 unfold gB at k1
 rw[List.getElem?_eq_getElem (by omega:0<ms.length)] at k1
 simp only[if_true] at k1
 rw[if_pos h2] at k1
 rw[h1]
 have hpl:(eR ms).length=ms.length:=by unfold eR;rw[List.length_map]
 have hwl:=pR ms
 have hn:2<=ms.length/\16*ms.length<=65536:=by omega
 obtain⟨N,hN⟩:=UF ms[0].az.order hn ms[0].view
 obtain⟨A,B,hAB⟩:=MH ms[0].az.order hn ms[0].view
 have hhead:mq ms<=fH ms 0:=by
  unfold mq fH
  have:=KX (x:=eC (aU ms 0).p (aU ms 0).b) (aL:=(aU ms 0).aL)
  have e:(eC (aU ms 0).p (aU ms 0).b).bY=(aU ms 0).b:=rfl
  rw[e] at this
  obtain⟨e1,_⟩:=Fv k1
  have e2:(aU ms 0).b.length=4+(dc (cH ms[0].az.order (eR ms) ms[0].view) eL).length:=by rw[e1,List.length_append];rfl
  have e3:8<=(dc (cH ms[0].az.order (eR ms) ms[0].view) eL).length:=by
   unfold dc
   simp only[List.length_append,db]
   split<;>(simp;omega)
  omega
 have hall:(jI ms).all iH=true:=by
  rw[List.all_eq_true]
  intro p hp
  unfold jI at hp
  obtain⟨i,hi,rfl⟩:=List.mem_map.1 hp
  have hi:=List.mem_range.1 hi
  obtain⟨g1,g2,g3,g4⟩:=F.at_ hi
  have:=nB (F.vM _ (List.getElem_mem hi))
  have bp:=this.2.2.1
  unfold mc at bp
  simp at bp
  have l1:=re F hi
  have s1:=RA F i (by omega)
  unfold iH AR
  rw[g1]
  rw[decide_eq_true_eq]
  refine⟨bp.1,⟨by show 0<=(fH ms i:Int);omega,by show(fH ms i:Int)<_;omega⟩,?_,bp.2.1,bp.2.2⟩
  show 0<=(if i=0 then(0:Int) else(kj ms i:Int) -mq ms)/\(if i=0 then(0:Int) else(kj ms i:Int) -mq ms)<4294967296
  by_cases hi0:i=0
  ·rw[if_pos hi0];omega
  ·rw[if_neg hi0]
   have:=RB ms (show 1<=i by omega)
   have e:kj ms 1=fH ms 0:=by show kj ms 0+fH ms 0=_;show 0+fH ms 0=_;omega
   omega
 have hb:=k1
 unfold fW at hb
 split at hb
 ·cases hb
 split at hb
 ·cases hb
 split at hb
 ·cases hb
 split at hb
 ·cases hb
 split at hb
 ·cases hb
 rename_i q1 q2 q3 q4 q5
 rw[hN _ hpl] at q5
 injection hb with hb
 refine⟨fJ++dc (cH ms[0].az.order (jI ms) ms[0].view) eL,?_,?_,?_,?_⟩
 ·unfold fW
  rw[if_neg (by rw[hwl];rw[hpl] at q1;exact q1),if_neg (by rw[hall];decide),if_neg q3,if_neg (by rw[hwl];omega),if_neg (by rw[hN _ hwl];exact q5)]
 ·rw[<-hb,hAB _ hwl,hAB _ hpl]
  simp only[List.length_append,lG,hwl,hpl]
 ·unfold gK
  rw[if_pos ⟨rfl,h2⟩,h1]
  unfold fW
  rw[if_neg (by rw[hwl];rw[hpl] at q1;exact q1),if_neg (by rw[hall];decide),if_neg q3,if_neg (by rw[hwl];omega),if_neg (by rw[hN _ hwl];exact q5)]
  rfl
 ·rw[hAB _ hwl]
  simp only[List.length_append,lG,hwl]
  have:fJ.length=4:=rfl
  omega
end
section
set_option linter.unusedVariables false
set_option linter.unusedSimpArgs false
set_option linter.unusedSectionVars false
set_option linter.constructorNameAsVariable false
def jd(L:List Int)(i:Nat):Int:=(L.take i).sum
def lQ(L:List Int):List Int:=(List.range (L.length+1)).map (jd L)
theorem yY{L:List Int}{i:Nat}(h:i<L.length):jd L (i+1)=jd L i+L[i]:=by
 unfold jd
 rw[List.take_succ_eq_append_getElem h,List.sum_append]
 simp
theorem ac8(L:List Int):(lQ L).length=L.length+1:=by unfold lQ;rw[List.length_map,List.length_range]
theorem ac7(L:List Int){i:Nat}(h:i<(lQ L).length):(lQ L)[i]=jd L i:=by simp[lQ]
theorem Ed{L:List Int}(hL:∀n∈L,1<=n/\n<=3000000):∀i,i<=L.length->(i:Int)<=jd L i/\jd L i<=3000000*i
 |0,_=>by unfold jd;simp
 |i+1,h=>by
  have:=Ed hL i (by omega)
  have:=hL _ (List.getElem_mem (show i<L.length by omega))
  rw[yY (by omega)]
  omega
theorem MU(L:List Int):L.flatMap eX=bM L:=by
 unfold bM
 induction L with
 |nil=>rfl
 |cons a l ih=>rw[List.flatMap_cons,List.map_cons,ih];rfl
theorem abJ{w:Nat}(L:List Int)(hL:∀n∈L,1<=n/\n<=3000000)(hl:L.length<=1000)(hw:2000<w):Cy w (ax eX L) [Value.int .i64 0]=some (-1,bM (lQ L)):=by
 unfold Cy
 rw[bV]
 refine gz (ev:=λi (g:Value->Int->Int->List Value->Option (Int×List Value))=>g (ax eX L) L.length i (bM ((List.range (i+1)).map (jd L)))) L.length ?_ ?_ (by omega)
 ·intro i g hi
  have e1:((i:Int)<(L.length:Int)):=by omega
  have hn:=hL _ (List.getElem_mem hi)
  have ha:=Ed hL i (by omega)
  simp only[aO,e1,decide_true,cond_true,bF]
  rw[bn vQ hi,show eX L[i]++(L.drop (i+1)).flatMap eX=.int .i64 L[i]::(L.drop (i+1)).flatMap eX from rfl]
  simp only[aX,bN]
  rw[List.range_succ,List.map_append,List.map_cons,List.map_nil,I3 _ _ _ ⟨hn.1,by omega⟩ ⟨by omega,by omega⟩ (by simp;omega)]
  simp only[ay,cond_false,bO]
  rw[aJ (by omega) (by omega),List.range_succ,List.map_append,List.map_cons,List.map_nil,List.range_succ,List.map_append,List.map_cons,List.map_nil,yY hi]
  rfl
 ·intro g
  have e1:¬((L.length:Int)<(L.length:Int)):=by omega
  simp only[aO,e1,decide_false,cond_false]
  rfl
theorem abc{w:Nat}(L:List Int)(hL:∀n∈L,1<=n/\n<=3000000)(hl:L.length<=1000)(hw:2000<w):B4 w (ax eX L)=some (ax eX (lQ L),true):=by
 unfold B4 I2
 rw[abJ L hL hl hw]
 simp only[ay,ax,MU]
 rw[show(bM (lQ L)).length=(lQ L).length by unfold bM;rw[List.length_map],Nat.div_one]
 rfl
theorem aa2(w:Nat)(P:List cL)(h0:0<P.length)(hl:P.length<=1000):BO w (fK P)=some (P.flatMap fm):=by
 unfold BO fK
 rw[bV,sX mC]
 have hn:=nextslicecap_le (need:=0+P.length) (old:=0) (by omega)
 have e4:(Builtin.nextslicecap (0+P.length) 0).ble 5000000000=true:=by rw[Nat.ble_eq];omega
 have e5:(P.flatMap fm).length.beq (P.length*5)=true:=by rw[cK mC];exact Nat.beq_refl _
 have e6:Nat.blt 0 P.length=true:=by simp;omega
 have e7:(0+P.length).ble 0=false:=by
  cases h:P.length with
  |zero=>omega
  |succ n=>rw[Nat.zero_add];rfl
 have e8:aF P.length=true:=by simp;omega
 rw[e6,e5,e7,e8,e4]
 rfl
def ng(L:List Int)(h:Int)(P:List cL):List cL:=(List.range P.length).map λi=>⟨(P[i]?.getD ⟨0,0,0,0,0⟩).attr,L[i]?.getD 0,if i=0 then 0 else jd L i -h,(P[i]?.getD ⟨0,0,0,0,0⟩).dQ,(P[i]?.getD ⟨0,0,0,0,0⟩).dU⟩
theorem wS(A B vs:List Value)(k:Nat):aM (A.length+k) vs (A++B)=A++aM k vs B:=by
 induction vs generalizing k B with
 |nil=>rfl
 |cons v vs ih=>
  rw[aM,aM,show A.length+k+1=A.length+(k+1) by omega,List.set_append_right (A.length+k) v (by omega),show A.length+k -A.length=k by omega,ih]
end
section
set_option linter.unusedVariables false
set_option linter.unusedSimpArgs false
set_option linter.unusedSectionVars false
set_option linter.constructorNameAsVariable false
theorem GJ(L:List Int)(h:Int)(P:List cL):(ng L h P).length=P.length:=by simp[ng]
theorem Pc(L:List Int)(h:Int)(P:List cL){i:Nat}(hi:i<P.length)(hL:i<L.length)(q:i<(ng L h P).length):(ng L h P)[i]=⟨P[i].attr,L[i],if i=0 then 0 else jd L i -h,P[i].dQ,P[i].dU⟩:=by simp[ng,hi,hL]
set_option maxHeartbeats 1000000 in
theorem aaX{w:Nat}(L:List Int)(hL:∀n∈L,1<=n/\n<=3000000)(hl:L.length<=1000)(hw:2000<w)(h:Int)(hh:0<=h/\h<=jd L 1)(P:List cL)(hP:P.length=L.length)(h0:0<P.length):
 BK w (ax eX L) h (fK P)=some (fK (ng L h P),true):=by
 unfold BK
 rw[abc L hL hl hw,aa2 w P h0 (by omega)]
 simp only[ay,Bool.not_true,cond_false]
 rw[show fK P=ax fm P from rfl,bV,bV,hP]
 have e0:aj h 0=false:=by rw[aO,decide_eq_false_iff_not];omega
 rw[show ai (Int.ofNat L.length) (Int.ofNat L.length)=true by rw[bT,decide_eq_true_eq],Bool.not_true,cond_false,e0,cond_false,cK mC,Nat.mul_div_cancel _ (by decide)]
 have hmono:∀i,1<=i->i<=L.length->jd L 1<=jd L i:=by
  intro i h1
  induction i with
  |zero=>omega
  |succ i ih=>
   intro h2
   rcases Nat.eq_zero_or_pos i with rfl|q
   ·exact Int.le_refl _
   ·have:=ih q (by omega)
    have:=hL _ (List.getElem_mem (show i<L.length by omega))
    rw[yY (i:=i) (by omega)]
    omega
 refine gz (ev:=λi (g:Value->Int->Value->Int->Int->List Value->Option (Value×Bool))=>g (ax eX L) h (ax eX (lQ L)) P.length i (((ng L h P).take i++P.drop i).flatMap fm)) P.length ?_ ?_ (by omega)
 ·intro i g hi
  have e1:((i:Int)<(P.length:Int)):=by omega
  have hiL:i<L.length:=by omega
  have hiS:i<(lQ L).length:=by rw[ac8];omega
  have hiQ:i<(ng L h P).length:=by rw[GJ];exact hi
  have hn:=hL _ (List.getElem_mem hiL)
  have ha:=Ed hL i (by omega)
  have tg:∀(p:cL)(r:List Value),fm p++r=.int .i64 p.attr::.int .i64 p.size::.int .i64 p.at_::.int .i64 p.dQ::.int .i64 p.dU::r:=λ_ _=>rfl
  rw[List.flatMap_append,List.drop_eq_getElem_cons hi,List.flatMap_cons,tg,List.take_succ_eq_append_getElem hiQ,List.append_assoc,List.flatMap_append,List.flatMap_append,List.flatMap_cons,List.flatMap_nil,List.append_nil,tg,Pc L h P hi hiL hiQ]
  have hA:(((ng L h P).take i).flatMap fm).length=i*5:=by rw[cK mC,List.length_take];congr 1;omega
  generalize((ng L h P).take i).flatMap fm=A at hA⊢
  generalize(P.drop (i+1)).flatMap fm=B
  have put1:∀(a s t v:Value)(B:List Value),aM (0+i*5+1) [v] (A++(a::s::t::B))=A++(a::v::t::B):=λa s t v B=>by rw[show 0+i*5+1=A.length+1 by omega,wS];rfl
  have rA:∀(a s t v:Value)(B:List Value),aM (0+i*5+2) [v] (A++(a::s::t::B))=A++(a::s::v::B):=λa s t v B=>by rw[show 0+i*5+2=A.length+2 by omega,wS];rfl
  have dr2:∀(a s t:Value)(B:List Value),List.drop (0+i*5+2) (A++(a::s::t::B))=t::B:=λa s t B=>by rw[show 0+i*5+2=A.length+2 by omega,List.drop_append];simp
  have b1:∀(a s t d e:Value),(i*5).blt (A++(a::s::t::d::e::B)).length=true:=λa s t d e=>by simp;omega
  have b2:∀(a s t d e:Value)(k:Nat),k<=5->(0+i*5+k).ble (A++(a::s::t::d::e::B)).length=true:=λa s t d e k hk=>by simp;omega
  have c1:∀z:Int,(SV.i IntKind.i64 z).cells.length.beq 1=true:=λ_=>rfl
  simp only[aO,e1,decide_true,cond_true,bF]
  rw[bn vQ hiL,show eX L[i]++(L.drop (i+1)).flatMap eX=.int .i64 L[i]::(L.drop (i+1)).flatMap eX from rfl]
  simp only[aX,bN]
  rw[b1,show Nat.beq 5 5=true from rfl,Bool.true_and,cond_true,c1,Bool.true_and,show 0+i*5+1+1=0+i*5+2 from rfl,b2 _ _ _ _ _ 2 (by omega),cond_true,put1,b1,Bool.true_and,cond_true,show Nat.beq 1 1=true from rfl,Bool.true_and,show 0+i*5+2+1=0+i*5+3 from rfl,b2 _ _ _ _ _ 3 (by omega),cond_true,rA]
  by_cases h1:i=0
  ·subst h1
   rw[show decide ((0:Int)<((0:Nat):Int))=false from rfl,cond_false,b1,Bool.true_and,cond_true,dr2]
   simp only[aX,bN]
   rw[bO,aJ (by omega) (by omega)]
   rfl
  ·have e2:((0:Int)<(i:Int)):=by omega
   have hm:=hmono i (by omega) (by omega)
   rw[decide_eq_true e2,cond_true,bn vQ hiS,show∀r,eX (lQ L)[i]++r=.int .i64 (lQ L)[i]::r fromλ_=>rfl,ac7]
   simp only[aX,bN]
   rw[b1,Bool.true_and,cond_true,gS,aJ (by omega) (by omega),c1,Bool.true_and,show 0+i*5+2+1=0+i*5+3 from rfl,b2 _ _ _ _ _ 3 (by omega),cond_true,rA,b1,Bool.true_and,cond_true,dr2]
   simp only[aX,bN]
   have e3:¬(jd L i -h<0):=by omega
   rw[decide_eq_false e3,cond_false,bO,aJ (by omega) (by omega),if_neg h1]
   rfl
 ·intro g
  have e1:¬((P.length:Int)<(P.length:Int)):=by omega
  simp only[aO,e1,decide_false,cond_false]
  rw[List.drop_of_length_le (Nat.le_refl _),List.append_nil,List.take_of_length_le (by rw[GJ];exact Nat.le_refl _),cK mC,Nat.mul_div_cancel _ (by decide)]
  rfl
end
section
set_option linter.unusedVariables false
set_option linter.unusedSimpArgs false
set_option linter.unusedSectionVars false
set_option linter.constructorNameAsVariable false
theorem UM{w:Nat}(W:cU w){o:Int}(ho:o=1\/o=2){l:List cL}(h2:2<=l.length)(hl:l.length<=600){view:List aD}(hv:VS view)(hr:cF 5 view=true):(eK (cH o l view)).length<100000000:=by
 have T:=MK W ho h2 hl hv hr
 have h:=Df (cH o l view).cS 0 8 T.hd
 have hc:gj (cH o l view).cS<=2:=by
  unfold cH dO
  simp only
  split<;>simp[gj,cJ,fS]
 have h2:gj (cH o l view).cS*(10000+2)<=2*(10000+2):=Nat.mul_le_mul_right _ hc
 have h3:(eK (cH o l view)).length=(gX 0 8 (cH o l view).cS).length+1:=rfl
 omega
def jh(x:oa×List UInt8):List Value:=[.int .i64 x.1.p.az.order,au x.1.p.az.bQ,au x.1.p.az.bm,au x.1.p.az.bD,au x.1.p.az.aZ,au x.1.p.az.first,ag x.1.p.az.bk,ag x.1.p.az.cm,ag x.1.p.bL,ag x.1.p.core,ag x.2,.int .i64 (kZ x.1.aL x.1.b),.int .i64 ((dM (eC x.1.p x.1.b) x.1.aL).length:Int)]
theorem Mu(x:oa×List UInt8):(jh x).length=13:=rfl
def gk(ms:List aS):List (oa×List UInt8):=(List.range ms.length).map λi=>(aU ms i,gK ms i)
theorem UA(ms:List aS):(gk ms).length=ms.length:=by unfold gk;rw[List.length_map,List.length_range]
theorem Fu(ms:List aS):(ej ms).length=ms.length:=by unfold ej;rw[List.length_map,List.length_range]
theorem Ft(ms:List aS){i:Nat}(h:i<(ej ms).length):(ej ms)[i]=aU ms i:=by simp[ej]
theorem Uz(ms:List aS){i:Nat}(h:i<(gk ms).length):(gk ms)[i]=(aU ms i,gK ms i):=by simp[gk]
def iG(ms:List aS):List Int:=(List.range ms.length).map λi=>(fH ms i:Int)
theorem FR(ms:List aS):(iG ms).length=ms.length:=by unfold iG;rw[List.length_map,List.length_range]
theorem FQ(ms:List aS){i:Nat}(h:i<(iG ms).length):(iG ms)[i]=fH ms i:=by simp[iG]
theorem Ee(ms:List aS):∀i,i<=ms.length->jd (iG ms) i=(kj ms i:Int)
 |0,_=>rfl
 |i+1,h=>by
  have hi:i<(iG ms).length:=by rw[FR];omega
  rw[yY hi,Ee ms i (by omega),FQ]
  show _=((kj ms i+fH ms i:Nat):Int)
  omega
theorem abh{w:Nat}(W:cU w)(hw:1000000<w){ms:List aS}(F:jq ms)(hc:gh ms=0):B9 w (ct ms)=some ((ej ms).flatMap fF):=by
 have hlr:∀K:Nat->Option (List Value),ak (ct ms) K=K ms.length:=λK=>bV cZ ms K
 have h6:=F.le
 have hm:=F.mem
 unfold B9
 rw[QE W hw hm (by omega) (by omega)]
 simp only[ay,bT]
 rw[decide_eq_true hc,Bool.not_true,cond_false,hlr]
 have hil:=Fu ms
 refine gz (ev:=λi (g:Int->Int->Value->List Value->Option (List Value))=>g ms.length i (ct ms) (((ej ms).take i).flatMap fF)) ms.length ?_ ?_ (by omega)
 ·intro i g hi
  obtain⟨b,aL,k1,k2,k3,k4⟩:=F.MD hi
  have e1:((i:Int)<(ms.length:Int)):=by omega
  have hiI:i<(ej ms).length:=by omega
  have hget:(ej ms)[i]=⟨ms[i],b,aL⟩:=by rw[Ft];exact k4
  simp only[aO,e1,decide_true,cond_true]
  rw[Q8 W hw hi k1 hm (by omega) k2 k3]
  have hr1:aF (((ej ms).take i).flatMap fF).length=true:=by
   rw[cK te];simp;omega
  rw[ay,hr1,bO,aJ (by omega) (by omega),List.take_succ_eq_append_getElem hiI,List.flatMap_append,hget]
  rfl
 ·intro g
  have e1:¬((ms.length:Int)<(ms.length:Int)):=by omega
  simp only[aO,e1,decide_false,cond_false]
  rw[List.take_of_length_le (by omega)]
theorem aa0{w:Nat}(hw:1000000<w)(ms:List aS)(h6:ms.length<=6):BM w ((ej ms).flatMap fF)=some ((ej ms).flatMap fF,bM (iG ms)):=by
 unfold BM
 have hil:=Fu ms
 have hll:=FR ms
 rw[cK te,Nat.mul_div_cancel _ (by decide)]
 refine gz (ev:=λi (g:Int->Int->List Value->List Value->Option (List Value×List Value))=>g (ej ms).length i ((ej ms).flatMap fF) (bM ((iG ms).take i))) ms.length ?_ ?_ (by omega)
 ·intro i g hi
  have e1:((i:Int)<((ej ms).length:Int)):=by omega
  have hiI:i<(ej ms).length:=by omega
  have hiL:i<(iG ms).length:=by omega
  have hlt:(i*13).blt ((ej ms).flatMap fF).length=true:=by rw[cK te];simp;omega
  have og:∀(y:oa)(r:List Value),fF y++r=.int .i64 y.p.az.order::au y.p.az.bQ::au y.p.az.bm::au y.p.az.bD::au y.p.az.aZ::au y.p.az.first::ag y.p.az.bk::ag y.p.az.cm::ag y.p.bL::ag y.p.core::ag y.b::.int .i64 (kZ y.aL y.b)::.int .i64 ((dM (eC y.p y.b) y.aL).length:Int)::r:=λ_ _=>rfl
  simp only[aO,e1,decide_true,cond_true,bF]
  rw[show Nat.beq 13 13=true from rfl,Bool.true_and,hlt,cond_true,Nat.zero_add,mm te,List.drop_eq_getElem_cons hiI,List.flatMap_cons,og]
  simp only[aX,bN]
  have hr:aF (bM ((iG ms).take i)).length=true:=by unfold bM;simp;omega
  rw[show∀a b c d e f g h i j k l m,Iy w a b c d e f g h i j k l m=some m fromλ_ _ _ _ _ _ _ _ _ _ _ _ _=>rfl,ay,hr,Ft,bO,aJ (by omega) (by omega),List.take_succ_eq_append_getElem hiL,FQ,show(i:Int)+1=((i+1:Nat):Int) by omega]
  rw[show∀z:Value,(true&&(aF ([z].length/1)&&[z].length.beq ([z].length/1*1)))=true fromλz=>by simp,cond_true]
  unfold bM fH
  rw[List.map_append]
  rfl
 ·intro g
  have e1:¬((ms.length:Int)<((ej ms).length:Int)):=by omega
  simp only[aO,e1,decide_false,cond_false]
  rw[List.take_of_length_le (by omega)]
def zb(ms:List aS):(Int×Int×Value×Value×List Value)⊕(Value×Int):=
 if gh ms=0 then .inl (if ms.length=1 then(0,0,ae 0 [],ae 0 [],(gk ms).flatMap jh) else(0,(aU ms 0).p.az.order,fK (jI ms),au (aU ms 0).p.view,(gk ms).flatMap jh)) else .inr (.pointer none,gh ms)
theorem UB{ms:List aS}(h:ms.length=1):(ej ms).flatMap fF=(gk ms).flatMap jh:=by
 unfold ej gk
 rw[h]
 have:gK ms 0=(aU ms 0).b:=by unfold gK;rw[if_neg (by omega)]
 show fF (aU ms 0)++[]=jh (aU ms 0,gK ms 0)++[]
 rw[this]
 rfl
theorem UC{ms:List aS}(h:1<ms.length):aM 10 [ag (gK ms 0)] ((ej ms).flatMap fF)=(gk ms).flatMap jh:=by
 obtain⟨n,hn⟩:∃n,ms.length=n+1:=⟨ms.length -1,by omega⟩
 unfold ej gk
 rw[hn,List.range_succ_eq_map,List.map_cons,List.map_cons,List.flatMap_cons,List.flatMap_cons]
 have e:((List.range n).map Nat.succ).map (aU ms)=((List.range n).map Nat.succ).map (aU ms):=rfl
 have k:∀l:List Nat,((l.map Nat.succ).map (aU ms)).flatMap fF=((l.map Nat.succ).map λi=>(aU ms i,gK ms i)).flatMap jh:=by
  intro l
  induction l with
  |nil=>rfl
  |cons a l ih=>
   rw[List.map_cons,List.map_cons,List.map_cons,List.flatMap_cons,List.flatMap_cons,ih]
   have:gK ms (Nat.succ a)=(aU ms (Nat.succ a)).b:=by unfold gK;rw[if_neg (λq=>Nat.succ_ne_zero a q.1)]
   rw[this]
   rfl
 rw[k]
 rfl
end
section
set_option linter.unusedVariables false
set_option linter.unusedSimpArgs false
set_option linter.unusedSectionVars false
set_option linter.constructorNameAsVariable false
theorem QB{w:Nat}(W:cU w)(hw:1000000<w){ms:List aS}(hm:∀p∈ms,dH p)(hl:ms.length<=6\/1000<ms.length)(hl2:ms.length<=2000):xr w (ct ms)=some (zb ms):=by
 unfold xr zb
 rw[QE W hw hm (by omega) hl2]
 simp only[ay,bT]
 by_cases hc:gh ms=0
 case neg=>rw[if_neg hc,decide_eq_false hc];rfl
 obtain⟨F,h1⟩:=vJ hm hl hc
 have h6:=F.le
 have hil:=Fu ms
 rw[if_pos hc,decide_eq_true hc,Bool.not_true,cond_false,abh W hw F hc]
 simp only[ay]
 rw[show((ej ms).flatMap fF).length/13=ms.length by rw[cK te,Nat.mul_div_cancel _ (by decide),hil]]
 by_cases hn:ms.length=1
 ·rw[if_pos hn,UB hn,hn]
  rfl
 have h2:1<ms.length:=by omega
 have e2:¬((Int.ofNat ms.length:Int)=1):=by show¬((ms.length:Int)=1);omega
 rw[if_neg hn,decide_eq_false e2,cond_false]
 obtain⟨g1,k1,k2,k3⟩:=F.at_ (i:=0) (by omega)
 have hmp:=hm _ (List.getElem_mem (show 0<ms.length by omega))
 have gd:=nB (F.vM _ (List.getElem_mem (show 0<ms.length by omega)))
 have ho:=Ml gd.1
 have hr:cF 5 ms[0].view=true:=by have:=gd.2.2.2;unfold mf at this;simpa using this
 have hpl:(eR ms).length=ms.length:=by unfold eR;rw[List.length_map]
 have hix:fW ms[0].az.order (eR ms) ms[0].view=.ok (aU ms 0).b:=by
  unfold gB at k1
  rw[List.getElem?_eq_getElem (by omega:0<ms.length)] at k1
  simp only[if_true] at k1
  rw[if_pos h2] at k1
  exact k1
 obtain⟨bw,j1,j2,j3,j4⟩:=AS F h2
 have h27:=ab0 W (by omega) hix hmp.vs (UM W ho (by omega) (by omega) hmp.vs hr)
 have hcons:(ej ms).flatMap fF=fF (aU ms 0)++((ej ms).drop 1).flatMap fF:=by
  have hi0:0<(ej ms).length:=by omega
  have:=List.drop_eq_getElem_cons hi0
  rw[List.drop_zero] at this
  rw[<-Ft ms hi0,<-List.flatMap_cons,<-this]
 have hlen:((ej ms).flatMap fF).length=ms.length*13:=by rw[cK te,hil]
 have hb0:Nat.blt 0 ((ej ms).flatMap fF).length=true:=by rw[hlen];simp;omega
 have hb11:Nat.ble 11 ((ej ms).flatMap fF).length=true:=by rw[hlen];simp;omega
 have d10:∀r:List Value,List.drop 10 (fF (aU ms 0)++r)=ag (aU ms 0).b::.int .i64 (kZ (aU ms 0).aL (aU ms 0).b)::.int .i64 ((dM (eC (aU ms 0).p (aU ms 0).b) (aU ms 0).aL).length:Int)::r:=λ_=>rfl
 have d11:∀r:List Value,List.drop 11 (fF (aU ms 0)++r)=.int .i64 (kZ (aU ms 0).aL (aU ms 0).b)::.int .i64 ((dM (eC (aU ms 0).p (aU ms 0).b) (aU ms 0).aL).length:Int)::r:=λ_=>rfl
 have t10:List.drop 10 ((ej ms).flatMap fF)=ag (aU ms 0).b::.int .i64 (kZ (aU ms 0).aL (aU ms 0).b)::.int .i64 ((dM (eC (aU ms 0).p (aU ms 0).b) (aU ms 0).aL).length:Int)::((ej ms).drop 1).flatMap fF:=by rw[hcons,d10]
 have t11:List.drop 11 ((ej ms).flatMap fF)=.int .i64 (kZ (aU ms 0).aL (aU ms 0).b)::.int .i64 ((dM (eC (aU ms 0).p (aU ms 0).b) (aU ms 0).aL).length:Int)::((ej ms).drop 1).flatMap fF:=by rw[hcons,d11]
 have hat:kZ (aU ms 0).aL (aU ms 0).b=(((aU ms 0).aL.length+10:Nat):Int):=by
  unfold kZ
  rw[if_neg (by omega)]
 have l0:=re F (i:=0) (by omega)
 have hcl:mq ms<=fH ms 0:=by
  unfold mq fH
  have:=KX (x:=eC (aU ms 0).p (aU ms 0).b) (aL:=(aU ms 0).aL)
  have e:(eC (aU ms 0).p (aU ms 0).b).bY=(aU ms 0).b:=rfl
  rw[e] at this
  omega
 have hcam:(aU ms 0).aL.length+14<=3000000:=by
  have:=hcl
  unfold mq at this
  omega
 have hLL:∀n∈iG ms,1<=n/\n<=3000000:=by
  intro n hn
  unfold iG at hn
  obtain⟨i,hi,rfl⟩:=List.mem_map.1 hn
  have:=re F (List.mem_range.1 hi)
  omega
 have hll:=FR ms
 have hat1:jd (iG ms) 1=fH ms 0:=by
  rw[Ee ms 1 (by omega)]
  show((kj ms 0+fH ms 0:Nat):Int)=_
  show((0+fH ms 0:Nat):Int)=_
  omega
 have h67:=aaX (w:=w) (iG ms) hLL (by omega) (by omega) (mq ms:Int) ⟨by omega,by omega⟩ (eR ms) (by omega) (by omega)
 have hplw:ng (iG ms) (mq ms:Int) (eR ms)=jI ms:=by
  refine List.ext_getElem (by rw[GJ,pR,hpl]) λi q1 q2=>?_
  have hi:i<ms.length:=by rw[pR] at q2;exact q2
  rw[Pc _ _ _ (by omega) (by omega),FQ,Ee ms i (by omega)]
  have e1:∀q,(eR ms)[i]'q=⟨ms[i].attr,0,0,ms[i].dQ,ms[i].dU⟩:=λq=>by simp only[eR,List.getElem_map]
  rw[e1]
  have e2:(jI ms)[i]=AR ms i:=by simp[jI]
  rw[e2]
  unfold AR
  rw[(F.at_ hi).1]
 rw[hplw] at h67
 have hrow:ae ((bM (iG ms)).length/1) (bM (iG ms))=ax eX (iG ms):=by
  unfold ax
  rw[MU,Nat.div_one]
  unfold bM
  rw[List.length_map]
 have h84:=Ri W ms[0].az.order (l:=jI ms) (by rw[pR];omega) hmp.vs
 rw[show Nat.beq 13 13=true from rfl,Bool.true_and,hb0,cond_true,t10]
 simp only[aX]
 rw[h27]
 simp only[ay]
 rw[aa0 hw ms h6]
 simp only[ay]
 rw[Bool.true_and,hb0,cond_true,t11]
 simp only[aX,bN]
 rw[hat,bO,aJ (by omega) (by omega),hrow,show(((aU ms 0).aL.length+10:Nat):Int)+4=(mq ms:Int) by unfold mq;omega,h67]
 simp only[ay]
 rw[h84,g1] at*
 rw[j1]
 simp only[ay]
 rw[cond_true,hb11,Bool.and_true]
 rw[<-j3,UC h2]
 rfl
theorem Qn(d:List UInt8):(cq ⟨226,d,[]⟩).length=d.length+4:=by
 rw[show cq ⟨226,d,[]⟩=[255,UInt8.ofNat (226:Int).toNat,UInt8.ofNat ((d.length+2)/256),UInt8.ofNat ((d.length+2)%256)]++d++[] from rfl]
 simp
theorem wu{ms:List aS}(F:jq ms){i:Nat}(hi:i<ms.length):uX (eC ms[i] (gK ms i)) (aU ms i).aL/\(gK ms i).length<=65533/\(gU ms i).length=fH ms i:=by
 obtain⟨g1,k1,k2,k3⟩:=F.at_ hi
 have h6:=F.le
 have I:=Fs hi k1 F.mem (by omega) k2 k3
 have hlen:(gK ms i).length=(aU ms i).b.length->(gU ms i).length=fH ms i:=λh=>by
  unfold gU fH dM
  have:∀(x y:kS)(aL:List UInt8),x.bL=y.bL->x.core=y.core->x.bY.length=y.bY.length->(cu (iv x aL)).length=(cu (iv y aL)).length:=by
   intro x y aL e1 e2 e3
   unfold iv
   rw[e1,e2,e3]
   by_cases h0:y.bY.length=0
   ·rw[if_pos h0,if_pos h0]
   ·rw[if_neg h0,if_neg h0]
    simp only[iO,List.singleton_append,List.length_append]
    rw[Qn,Qn,e3]
  exact this (eC (aU ms i).p (gK ms i)) (eC (aU ms i).p (aU ms i).b) _ rfl rfl h
 by_cases h0:i=0/\1<ms.length
 ·obtain⟨rfl,h2⟩:=h0
  obtain⟨bw,j1,j2,j3,j4⟩:=AS F h2
  obtain⟨e1,_⟩:=Fv j1
  have hb:=I.bY
  have q:(aU ms 0).b.length<=65533:=by
   rcases hb with q|q
   ·have:(aU ms 0).b.length=0:=q
    omega
   ·exact q.2
  rw[<-j3] at j2 j4
  refine⟨⟨I.app,I.rows,I.bL,I.core,.inr ⟨?_,?_⟩⟩,by omega,hlen j2⟩
  ·show fJ.isPrefixOf (gK ms 0)=true
   rw[j3,e1]
   exact List.isPrefixOf_iff_prefix.2 (List.prefix_append _ _)
  ·show(gK ms 0).length<=65533
   omega
 ·have e:gK ms i=(aU ms i).b:=by unfold gK;rw[if_neg h0]
  rw[e] at hlen⊢
  have hb:=I.bY
  refine⟨I,?_,hlen rfl⟩
  rcases hb with q|q
  ·have:(aU ms i).b.length=0:=q
   omega
  ·exact q.2
theorem QC{w:Nat}(W:cU w)(hw:1000000<w){ms:List aS}(F:jq ms):ub w (ax jh (gk ms))=some (ax cf (ec ms)):=by
 have h6:=F.le
 have hil:=UA ms
 have hpl:=pQ ms
 unfold ub
 rw[bV]
 refine gz (ev:=λi (g:Value->Int->Int->List Value->Option Value)=>g (ax jh (gk ms)) (gk ms).length i (((ec ms).take i).flatMap cf)) ms.length ?_ ?_ (by omega)
 ·intro i g hi
  have e1:((i:Int)<((gk ms).length:Int)):=by omega
  have hiI:i<(gk ms).length:=by omega
  have hiP:i<(ec ms).length:=by omega
  have hmp:=F.mem _ (List.getElem_mem hi)
  have hic:=hmp.ic
  have hco:=hmp.co
  obtain⟨I,q1,q2⟩:=wu F hi
  obtain⟨g1,_⟩:=F.at_ hi
  have og:∀(y:oa×List UInt8)(r:List Value),jh y++r=.int .i64 y.1.p.az.order::au y.1.p.az.bQ::au y.1.p.az.bm::au y.1.p.az.bD::au y.1.p.az.aZ::au y.1.p.az.first::ag y.1.p.az.bk::ag y.1.p.az.cm::ag y.1.p.bL::ag y.1.p.core::ag y.2 ::.int .i64 (kZ y.1.aL y.1.b)::.int .i64 ((dM (eC y.1.p y.1.b) y.1.aL).length:Int)::r:=λ_ _=>rfl
  have h24:=QX (m:=65533) W I hmp.sS (by omega) ⟨by show ms[i].core.length<=_;omega,by show ms[i].bL.length<=_;omega,q1⟩ (by omega) (kZ (aU ms i).aL (aU ms i).b) ((dM (eC (aU ms i).p (aU ms i).b) (aU ms i).aL).length:Int)
  simp only[aO,e1,decide_true,cond_true,bF]
  rw[bn Mu hiI,og,Uz]
  simp only[aX,bN]
  have hpw:(ec ms)[i]=gU ms i:=by simp[ec]
  have h59:BJ w (aU ms i).p.az.order (au (aU ms i).p.az.bQ) (au (aU ms i).p.az.bm) (au (aU ms i).p.az.bD) (au (aU ms i).p.az.aZ) (au (aU ms i).p.az.first) (ag (aU ms i).p.az.bk) (ag (aU ms i).p.az.cm) (ag (aU ms i).p.bL) (ag (aU ms i).p.core) (ag (gK ms i)) (kZ (aU ms i).aL (aU ms i).b) ((dM (eC (aU ms i).p (aU ms i).b) (aU ms i).aL).length:Int)=some (ag (gU ms i)):=by
   unfold BJ gU
   rw[g1] at h24⊢
   refine Eq.trans (congrArg (λz=>ob z _) h24) ?_
   rfl
  rw[h59,ay,show aF (((ec ms).take i).flatMap cf).length=true by rw[cK (k:=1) (λ_=>rfl)];simp;omega,List.take_succ_eq_append_getElem hiP,List.flatMap_append,hpw,bO,aJ (by omega) (by omega)]
  rfl
 ·intro g
  have e1:¬((ms.length:Int)<((gk ms).length:Int)):=by omega
  simp only[aO,e1,decide_false,cond_false]
  rw[List.take_of_length_le (by omega),cK (k:=1) (λ_=>rfl),Nat.mul_one,Nat.div_one]
  rfl
theorem Is{w:Nat}(W:cU w)(hw:1000000<w){ms:List aS}(hm:∀p∈ms,dH p)(hl:ms.length<=6\/1000<ms.length)(hl2:ms.length<=2000):pX w (ct ms)=some (if gh ms=0 then(ax cf (ec ms),0) else(ae 0 [],gh ms)):=by
 unfold pX
 rw[QB W hw hm hl hl2,ay]
 unfold zb
 by_cases hc:gh ms=0
 ·obtain⟨F,h1⟩:=vJ hm hl hc
  rw[if_pos hc,if_pos hc]
  have hrow:ae (((gk ms).flatMap jh).length/13) ((gk ms).flatMap jh)=ax jh (gk ms):=by
   unfold ax
   rw[cK Mu,Nat.mul_div_cancel _ (by decide)]
  split
  ·rw[fX]
   show(bif !ai 0 0 then _ else ob (ub w (ae (((gk ms).flatMap jh).length/13) ((gk ms).flatMap jh))) _)=_
   rw[hrow,QC W hw F]
   rfl
  ·rw[fX]
   show(bif !ai 0 0 then _ else ob (ub w (ae (((gk ms).flatMap jh).length/13) ((gk ms).flatMap jh))) _)=_
   rw[hrow,QC W hw F]
   rfl
 ·rw[if_neg hc,if_neg hc,yp,bT,decide_eq_false hc]
  rfl
def GM(ms:List aS):List cL:=if ms.length=1 then[] else jI ms
theorem aaT{w:Nat}(W:cU w)(hw:1000000<w){ms:List aS}(hm:∀p∈ms,dH p)(hl:ms.length<=6\/1000<ms.length)(hl2:ms.length<=2000):BH w (ct ms)=some (if gh ms=0 then(fK (GM ms),0) else(ae 0 [],gh ms)):=by
 unfold BH
 rw[QB W hw hm hl hl2,ay]
 unfold zb GM
 by_cases hc:gh ms=0
 ·rw[if_pos hc,if_pos hc]
  split<;>rfl
 ·rw[if_neg hc,if_neg hc,yp,bT,decide_eq_false hc]
  rfl
end
section
set_option linter.unusedVariables false
set_option linter.unusedSimpArgs false
set_option linter.unusedSectionVars false
set_option linter.constructorNameAsVariable false
theorem PV:∀ls:List (List UInt8),tP (ls.flatMap cf)=some (ls.map λl=>l.map λb=>(b.toNat:Int))
 |[]=>rfl
 |l::ls=>by
  rw[List.flatMap_cons,show cf l++ls.flatMap cf=ag l::ls.flatMap cf from rfl,tP,o8,PV ls]
  rfl
theorem SR(l:List UInt8):ae l.length (l.map aQ)=ag l:=by
 unfold ag ax
 rw[fZ]
theorem aa1(w:Nat)(ls:List (List UInt8))(h0:0<ls.length)(hl:ls.length<=1000)(ht:ls.flatten.length<=1000000000):BN w (ax cf ls)=some (ag ls.flatten):=by
 have hfl:(ls.flatMap cf).length=ls.length:=by rw[cK (k:=1) (λ_=>rfl),Nat.mul_one]
 show cond (Nat.blt 0 ls.length&&(Nat.beq ls.length (ls.flatMap cf).length&&Nat.ble ls.length 1000)) (ob (tP (ls.flatMap cf)) λls=>cond (Nat.ble ls.flatten.length 1000000000) (some (ae ls.flatten.length (aW ls.flatten))) none) none=_
 have e1:(Nat.blt 0 ls.length&&(Nat.beq ls.length (ls.flatMap cf).length&&Nat.ble ls.length 1000))=true:=by
  rw[hfl]
  simp
  omega
 rw[e1,cond_true,PV,ay]
 have e2:(ls.map λl=>l.map λb=>(b.toNat:Int)).flatten=ls.flatten.map λb=>(b.toNat:Int):=by rw[List.map_flatten]
 rw[e2,List.length_map,show Nat.ble ls.flatten.length 1000000000=true by rw[Nat.ble_eq];exact ht,cond_true,En,SR]
theorem ZC{ms:List aS}(F:jq ms):(ec ms).flatten.length<=18000000:=by
 have h6:=F.le
 have:∀l:List Nat,(∀i∈l,i<ms.length)->((l.map (gU ms)).flatten).length<=3000000*l.length:=by
  intro l
  induction l with
  |nil=>intro _;exact Nat.le_refl _
  |cons a l ih=>
   intro h
   have:=ih λi hi=>h i (List.mem_cons_of_mem _ hi)
   have q:=(wu F (h a (by simp))).2.2
   have q2:=(re F (h a (by simp))).2
   rw[List.map_cons,List.flatten_cons,List.length_append,List.length_cons]
   omega
 have:=this (List.range ms.length) λi hi=>List.mem_range.1 hi
 rw[List.length_range] at this
 show((List.range ms.length).map (gU ms)).flatten.length<=_
 omega
theorem Iu{w:Nat}(W:cU w)(hw:1000000<w){ms:List aS}(hm:∀p∈ms,dH p)(hl:ms.length<=6\/1000<ms.length)(hl2:ms.length<=2000):tZ w (ct ms)=some (if gh ms=0 then(ag (ec ms).flatten,0) else(ae 0 [],gh ms)):=by
 unfold tZ
 rw[Is W hw hm hl hl2,ay]
 by_cases hc:gh ms=0
 ·obtain⟨F,h1⟩:=vJ hm hl hc
  have h6:=F.le
  have:=ZC F
  rw[if_pos hc,if_pos hc]
  show(bif !ai 0 0 then _ else ob (BN w (ax cf (ec ms))) _)=_
  rw[aa1 w _ (by rw[pQ];omega) (by rw[pQ];omega) (by omega)]
  rfl
 ·rw[if_neg hc,if_neg hc,bT,decide_eq_false hc]
  rfl
theorem LU:gh [jk]=0/\(ec [jk]).flatten.length=51:=by decide+kernel
theorem zA:gh [jk,jk]=0/\(ec [jk,jk]).flatten.length=192/\jI [jk,jk]=[⟨0,141,0,0,0⟩,⟨0,51,95,0,0⟩]:=by decide+kernel
theorem aaV{w:Nat}(hw:10<=w):pZ w=some (2,au [⟨274,3,1,[0,1]⟩],ae 0 [],ae 0 [],ae 0 [],ae 0 [],ae 0 [],ae 0 [],ae 0 [],ag zj,0,0,0,ae 0 []):=(show pZ w=Ix w from rfl).trans (aa5 hw)
theorem QA{w:Nat}(W:cU w)(hw:1000000<w):iK w=some true:=by
 have hp1:∀p∈[jk],dH p:=λp h=>by rw[List.mem_singleton.1 h];exact wx
 have hp2:∀p∈[jk,jk],dH p:=λp h=>by
  simp at h
  rw[h];exact wx
 have q1:=Iu W hw hp1 (.inl (show 1<=6 by decide)) (show 1<=2000 by decide)
 have q2:=Iu W hw hp2 (.inl (show 2<=6 by decide)) (show 2<=2000 by decide)
 have q3:=aaT W hw hp2 (.inl (show 2<=6 by decide)) (show 2<=2000 by decide)
 have q4:=Iu W hw (ms:=[]) (λp h=>by cases h) (.inl (by decide)) (by decide)
 rw[if_pos LU.1] at q1
 rw[if_pos zA.1] at q2
 rw[if_pos zA.1] at q3
 rw[if_neg (by rw[Mb.2];decide),Mb.2] at q4
 unfold GM at q3
 rw[if_neg (show¬[jk,jk].length=1 by decide),zA.2.2] at q3
 unfold iK
 rw[aaV (by omega)]
 simp only[ay]
 refine Eq.trans (congrArg (λz=>ob z _) q1) ?_
 simp only[ay]
 refine Eq.trans (congrArg (λz=>ob z _) q2) ?_
 simp only[ay]
 refine Eq.trans (congrArg (λz=>ob z _) q3) ?_
 simp only[ay]
 refine Eq.trans (congrArg (λz=>ob z _) q4) ?_
 simp only[ay]
 rw[cg,LU.2,cg,zA.2.1]
 rfl
theorem Qz{w:Nat}(hw:2000<w){ms:List aS}(B:sk w ms):xn w (ct ms)=some (sd ms):=(show xn w (ct ms)=JM w (ct ms) from rfl).trans (acK hw B)
theorem aaQ{w:Nat}(l:List UInt8)(hl:l.length<2^40)(hw:l.length<w):tY w (ag l) (ag l)=some true:=by
 unfold tY
 rw[cg,cg,show ai (Int.ofNat l.length) (Int.ofNat l.length)=true by rw[bT,decide_eq_true_eq],Bool.not_true,cond_false]
 refine gz (ev:=λi (g:Value->Value->Int->Option Bool)=>g (ag l) (ag l) i) l.length ?_ ?_ hw
 ·intro i g hi
  have e1:((i:Int)<(l.length:Int)):=by omega
  rw[cg]
  simp only[aO,bG,e1,decide_true,cond_true,bF]
  rw[jT hi]
  simp only[aX,kY]
  rw[jT hi]
  simp only[aX,kY]
  rw[show ai (l[i].toNat:Int) (l[i].toNat:Int)=true by rw[bT,decide_eq_true_eq],Bool.not_true,cond_false,bO,aJ (by omega) (by omega)]
  rfl
 ·intro g
  have e1:¬((l.length:Int)<(l.length:Int)):=by omega
  rw[cg]
  simp only[aO,bG,e1,decide_false,cond_false]
end
section
set_option linter.unusedVariables false
set_option linter.unusedSimpArgs false
set_option linter.unusedSectionVars false
set_option linter.constructorNameAsVariable false
def fM(p m:aS):aS:={p with az:=m.az,bL:=m.bL,core:=m.core}
def eM(a b:List UInt8):Nat->Int×Int
 |0=>((a.length:Int),0)
 |n+1=>if a[n]? =b[n]? then eM a b n else(if(n:Int)<(eM a b n).1 then(n:Int) else(eM a b n).1,(n:Int))
theorem Md{a b A P Q B:List UInt8}{K:Nat}(ha:a=A++(P++B))(hb:b=A++(Q++B))(hP:P.length=K)(hQ:Q.length=K):∀n,n<=a.length->
 eM a b n=((a.length:Int),0)\/((A.length:Int)<=(eM a b n).1 /\(eM a b n).1 <=(eM a b n).2 /\(eM a b n).2 <A.length+K)
 |0,_=>.inl rfl
 |n+1,h=>by
  have ih:=Md ha hb hP hQ n (by omega)
  have hl:a.length=A.length+(K+B.length):=by rw[ha];simp[hP]
  unfold eM
  by_cases e:a[n]? =b[n]?
  ·rw[if_pos e];exact ih
  ·rw[if_neg e]
   have h1:A.length<=n:=by
    refine Nat.le_of_not_lt λq=>e ?_
    rw[ha,hb,List.getElem?_append_left q,List.getElem?_append_left q]
   have h2:n<A.length+K:=by
    refine Nat.lt_of_not_le λq=>e ?_
    rw[ha,hb,List.getElem?_append_right (by omega),List.getElem?_append_right (by omega),List.getElem?_append_right (by omega),List.getElem?_append_right (by omega),hP,hQ]
   right
   show _<=(if(n:Int)<(eM a b n).1 then(n:Int) else(eM a b n).1)/\(if(n:Int)<(eM a b n).1 then(n:Int) else(eM a b n).1)<=(n:Int)/\(n:Int)<_
   rcases ih with ih|ih
   ·rw[ih]
    show _<=(if(n:Int)<(a.length:Int) then(n:Int) else _)/\(if(n:Int)<(a.length:Int) then(n:Int) else _)<=(n:Int)/\(n:Int)<_
    rw[if_pos (by omega)]
    omega
   ·split<;>omega
theorem E6(a b:List UInt8):∀n,n<=a.length->0<=(eM a b n).1 /\(eM a b n).1 <=a.length/\0<=(eM a b n).2 /\(eM a b n).2 <=a.length
 |0,_=>⟨by show(0:Int)<=(a.length:Int);omega,Int.le_refl _,Int.le_refl _,by show(0:Int)<=(a.length:Int);omega⟩
 |n+1,h=>by
  have ih:=E6 a b n (by omega)
  unfold eM
  split
  ·exact ih
  ·show 0<=(if(n:Int)<(eM a b n).1 then(n:Int) else(eM a b n).1)/\(if(n:Int)<(eM a b n).1 then(n:Int) else(eM a b n).1)<=_/\0<=(n:Int)/\(n:Int)<=_
   split<;>omega
section
variable{ms:List aS} {i:Nat} {m:aS}
theorem rJ(hi:i<ms.length):(ms.set i (fM ms[i] m)).length=ms.length/\∀n,n≠i->(ms.set i (fM ms[i] m))[n]? =ms[n]? :=
 ⟨List.length_set ..,λn h=>List.getElem?_set_ne (Ne.symm h)⟩
theorem ZJ(hi:i<ms.length):eR (ms.set i (fM ms[i] m))=eR ms:=by
 unfold eR
 refine List.ext_getElem (by simp) λn h1 h2=>?_
 simp only[List.getElem_map]
 have h3:n<ms.length:=by simpa using h2
 by_cases h:i=n
 ·subst h
  rw[List.getElem_set_self]
  rfl
 ·rw[List.getElem_set_ne h]
theorem aaD(hi:i<ms.length){n:Nat}(h:n≠i):gB (ms.set i (fM ms[i] m)) n=gB ms n:=by
 unfold gB
 rw[(rJ (m:=m) hi).2 n h,(rJ (m:=m) hi).1,ZJ hi]
theorem Fh(hi:i<ms.length){n:Nat}(h:n≠i):aU (ms.set i (fM ms[i] m)) n=aU ms n:=by
 unfold aU
 rw[aaD hi h,(rJ (m:=m) hi).2 n h]
theorem Zz(hi:i<ms.length){n:Nat}(h:n≠i)(h0:n≠0):gU (ms.set i (fM ms[i] m)) n=gU ms n:=by
 unfold gU gK
 rw[if_neg λq=>h0 q.1,if_neg λq=>h0 q.1,Fh hi h]
theorem Ub(hi:i<ms.length)(h0:i≠0)(F:jq ms)(F':jq (ms.set i (fM ms[i] m))):
 ∃A B P Q:List UInt8,gU ms 0=A++(P++B)/\gU (ms.set i (fM ms[i] m)) 0=A++(Q++B)/\P.length=16*ms.length/\Q.length=16*ms.length:=by
 have h6:=F.le
 have hl:=(rJ (m:=m) hi).1
 have g0:=Fh (m:=m) hi (Ne.symm h0)
 obtain⟨b,j1,j2,j3,j4⟩:=AS F (by omega)
 obtain⟨b',k1,k2,k3,k4⟩:=AS F' (by omega)
 rw[g0] at k1
 obtain⟨A,B,H⟩:=UI (eC (aU ms 0).p b) (aU ms 0).aL (aU ms 0).p.az.order (n:=ms.length) (by omega) (aU ms 0).p.view
 refine⟨A,B,(jI ms).flatMap (cT (aU ms 0).p.az.order),(jI (ms.set i (fM ms[i] m))).flatMap (cT (aU ms 0).p.az.order),?_,?_,?_,?_⟩
 ·rw[<-H _ b (pR ms) j1]
  unfold gU
  rw[j3]
  rfl
 ·rw[<-H _ b' (by rw[pR];exact hl) k1]
  unfold gU
  rw[k3,g0]
  rfl
 ·rw[lG,pR]
 ·rw[lG,pR,hl]
theorem VW(hi:i<ms.length):ae (ms.length*14/14) (List.drop 0 (aM (0+i*14+9) [ag m.core] (aM (0+i*14+8) [ag m.bL] (aM (0+i*14+0) [Value.int .i64 m.az.order,au m.az.bQ,au m.az.bm,au m.az.bD,au m.az.aZ,au m.az.first,ag m.az.bk,ag m.az.cm] (ms.flatMap cZ)))))=ct (ms.set i (fM ms[i] m)):=by
 have e:ms=ms.take i++ms[i]::ms.drop (i+1):=by rw[<-List.drop_eq_getElem_cons hi,List.take_append_drop]
 have hA:((ms.take i).flatMap cZ).length=i*14:=by rw[cK jF,List.length_take];congr 1;omega
 rw[List.drop_zero,Nat.mul_div_cancel _ (by decide)]
 unfold ct ax
 rw[List.length_set,List.set_eq_take_append_cons_drop,if_pos hi,List.flatMap_append,List.flatMap_cons]
 congr 1
 have e2:ms.flatMap cZ=(ms.take i).flatMap cZ++(cZ ms[i]++(ms.drop (i+1)).flatMap cZ):=by
  rw[<-List.flatMap_cons,<-List.flatMap_append,<-e]
 rw[e2]
 generalize(ms.take i).flatMap cZ=A at hA⊢
 rw[show 0+i*14+0=A.length+0 by omega,show 0+i*14+8=A.length+8 by omega,show 0+i*14+9=A.length+9 by omega,wS,wS,wS]
 rfl
theorem T9(hi:i<ms.length)(hm:∀p∈ms,dH p)(h:dH m):∀p∈ms.set i (fM ms[i] m),dH p:=by
 intro p hp
 rcases List.mem_or_eq_of_mem_set hp with q|rfl
 ·exact hm p q
 ·have:=hm _ (List.getElem_mem hi)
  exact⟨h.t0,h.t2,h.t3,h.t4,h.t1,this.tv,h.NK,h.th,h.ic,h.co⟩
end
end
section
set_option linter.unusedVariables false
set_option linter.unusedSimpArgs false
set_option linter.unusedSectionVars false
set_option linter.constructorNameAsVariable false
theorem Ud{a b:List UInt8}{n:Nat}(h:n<a.length)(h2:n<b.length):eM a b (n+1)=if a[n]=b[n] then eM a b n else(if(n:Int)<(eM a b n).1 then(n:Int) else(eM a b n).1,(n:Int)):=by
 rw[eM,List.getElem?_eq_getElem h,List.getElem?_eq_getElem h2]
 by_cases e:a[n]=b[n]
 ·rw[if_pos e,if_pos (by rw[e])]
 ·rw[if_neg e,if_neg (by simpa using e)]
def Nr:Value->Value->Int->Int->Int->Option Bool:=λ_ _ _ _ _=>none
noncomputable def Ad(w:Nat):(Value->Value->Int->Int->Int->Option Bool)->(Value->Value->Int->Int->Int->Option Bool):=
 λ(x74:Value->Value->Int->Int->Int->Option Bool)(x75 x76:Value)(x77 x78 x79:Int)=>aE 1 0 x75 λ(x80:List Value)=>af x80 λ(x81:Value)(x82:List Value)=>ak x81 λ(x83:Nat)=>bif aj x79 (Int.ofNat x83) then aE 1 0 x75 λ(x84:List Value)=>af x84 λ(x85:Value)(x86:List Value)=>aB x79 λ(x87:Nat)=>aE 1 x87 x85 λ(x88:List Value)=>af x88 λ(x89:Value)(x90:List Value)=>aw IntKind.u8 x89 λ(x91:Int)=>aE 1 0 x76 λ(x92:List Value)=>af x92 λ(x93:Value)(x94:List Value)=>aB x79 λ(x95:Nat)=>aE 1 x95 x93 λ(x96:List Value)=>af x96 λ(x97:Value)(x98:List Value)=>aw IntKind.u8 x97 λ(x99:Int)=>bif !ai x91 x99 then x74 x75 x76 (bif bif false then aj x77 x79 else aj x79 x77 then x79 else x77) x79 (ah IntKind.i64 (x79.add 1)) else x74 x75 x76 x77 x78 (ah IntKind.i64 (x79.add 1)) else ak x75 λ(x100:Nat)=>bif aj (ah IntKind.i64 (x78.sub x77)) (ah IntKind.i64 (Int.mul 16 (Int.ofNat x100))) then ob (iK w) λ(x101:Bool)=>some x101 else some false
theorem VG{w:Nat}(h17:iK w=some true)(X Y:List (List UInt8))(hX:0<X.length/\X.length<=6)(hY:0<Y.length)(hl:X[0].length=Y[0].length)(hs:X[0].length<=3000000)(hw:3000000<w)
 (hd:(eM X[0] Y[0] X[0].length).2 -(eM X[0] Y[0] X[0].length).1 <16*X.length):lp Nr (Ad w) w (ax cf X) (ax cf Y) (X[0].length:Int) 0 0=some true:=by
 have x0:∀K:List Value->Option Bool,aE 1 0 (ax cf X) K=K (ag X[0]::(X.drop 1).flatMap cf):=λK=>bn (f:=cf) (λ_=>rfl) hX.1 K
 have y0:∀K:List Value->Option Bool,aE 1 0 (ax cf Y) K=K (ag Y[0]::(Y.drop 1).flatMap cf):=λK=>bn (f:=cf) (λ_=>rfl) hY K
 refine gz (ev:=λn (g:Value->Value->Int->Int->Int->Option Bool)=>g (ax cf X) (ax cf Y) (eM X[0] Y[0] n).1 (eM X[0] Y[0] n).2 n) X[0].length ?_ ?_ (by omega)
 ·intro n g hn
  have e1:((n:Int)<(X[0].length:Int)):=by omega
  have hn2:n<Y[0].length:=by omega
  have b1:=E6 X[0] Y[0] n (by omega)
  unfold Ad
  rw[x0]
  simp only[aX]
  rw[cg]
  simp only[aO,bG,e1,decide_true,cond_true,bF]
  rw[x0]
  simp only[aX]
  rw[jT hn]
  simp only[aX,kY]
  rw[y0]
  simp only[aX]
  rw[jT hn2]
  simp only[aX,kY]
  rw[bO,aJ (by omega) (by omega),Ud hn hn2,bT]
  by_cases e:X[0][n]=Y[0][n]
  ·rw[if_pos e,e,decide_eq_true rfl,Bool.not_true,cond_false]
   rfl
  ·have e3:¬((X[0][n].toNat:Int)=(Y[0][n].toNat:Int)):=λq=>e (UInt8.toNat_inj.1 (by omega))
   rw[if_neg e,decide_eq_false e3,Bool.not_false,cond_true,cond_false,mS]
   rfl
 ·intro g
  have e1:¬((X[0].length:Int)<(X[0].length:Int)):=by omega
  have b1:=E6 X[0] Y[0] X[0].length (by omega)
  unfold Ad
  rw[x0]
  simp only[aX]
  rw[cg]
  simp only[aO,bG,e1,decide_false,cond_false]
  rw[bV,gS,lu,aJ (by omega) (by omega),aJ (by omega) (by omega),decide_eq_true hd,cond_true,h17]
  rfl
def VE:Int->Value->Value->Int->Option Bool:=λ_ _ _ _=>none
noncomputable def FU(w:Nat):(Int->Value->Value->Int->Option Bool)->(Int->Value->Value->Int->Option Bool):=
 λ(x41:Int->Value->Value->Int->Option Bool)(x42:Int)(x43 x44:Value)(x45:Int)=>ak x43 λ(x46:Nat)=>bif aj x45 (Int.ofNat x46) then bif !ai x45 x42 then aB x45 λ(x47:Nat)=>aE 1 x47 x43 λ(x48:List Value)=>af x48 λ(x49:Value)(x50:List Value)=>aB x45 λ(x51:Nat)=>aE 1 x51 x44 λ(x52:List Value)=>af x52 λ(x53:Value)(x54:List Value)=>ob (tY w x49 x53) λ(x55:Bool)=>bif !x55 then some false else x41 x42 x43 x44 (ah IntKind.i64 (x45.add 1)) else x41 x42 x43 x44 (ah IntKind.i64 (x45.add 1)) else bif ai x42 0 then ob (iK w) λ(x56:Bool)=>some x56 else aE 1 0 x43 λ(x57:List Value)=>af x57 λ(x58:Value)(x59:List Value)=>ak x58 λ(x60:Nat)=>aE 1 0 x44 λ(x61:List Value)=>af x61 λ(x62:Value)(x63:List Value)=>ak x62 λ(x64:Nat)=>bif !ai (Int.ofNat x60) (Int.ofNat x64) then some false else aE 1 0 x43 λ(x65:List Value)=>af x65 λ(x66:Value)(x67:List Value)=>ak x66 λ(x68:Nat)=>lp Nr (Ad w) w x43 x44 (Int.ofNat x68) 0 0
theorem VF{w:Nat}(W:cU w)(hw:4000000<w){ms:List aS}{i:Nat}{m:aS}(hi:i<ms.length)(F:jq ms)(F':jq (ms.set i (fM ms[i] m))):
 lp VE (FU w) w (i:Int) (ax cf (ec ms)) (ax cf (ec (ms.set i (fM ms[i] m)))) 1=some true:=by
 have h17:=QA W (by omega)
 have h6:=F.le
 have hl1:=pQ ms
 have hl2:=pQ (ms.set i (fM ms[i] m))
 rw[(rJ (m:=m) hi).1] at hl2
 have hg1:∀n (h:n<(ec ms).length),(ec ms)[n]=gU ms n:=λn h=>by simp[ec]
 have hg2:∀n (h:n<(ec (ms.set i (fM ms[i] m))).length),(ec (ms.set i (fM ms[i] m)))[n]=gU (ms.set i (fM ms[i] m)) n:=λn h=>by simp[ec]
 refine gz (ev:=λk (g:Int->Value->Value->Int->Option Bool)=>g i (ax cf (ec ms)) (ax cf (ec (ms.set i (fM ms[i] m)))) ((k+1:Nat):Int)) (ms.length -1) ?_ ?_ (by omega)
 ·intro k g hk
  have e1:(((k+1:Nat):Int)<(ms.length:Int)):=by omega
  have q:=(wu F (show k+1<ms.length by omega)).2.2
  have q2:=(re F (show k+1<ms.length by omega)).2
  unfold FU
  rw[bV,hl1]
  simp only[aO,bG,e1,decide_true,cond_true,bF]
  rw[bO,aJ (by omega) (by omega),bT]
  by_cases hki:k+1=i
  ·rw[decide_eq_true (by omega),Bool.not_true,cond_false]
   rfl
  ·rw[decide_eq_false (by omega),Bool.not_false,cond_true,bn (f:=cf) (λ_=>rfl) (show k+1<(ec ms).length by omega),show∀(l:List UInt8) r,cf l++r=ag l::r fromλ_ _=>rfl]
   simp only[aX]
   rw[bn (f:=cf) (λ_=>rfl) (show k+1<(ec (ms.set i (fM ms[i] m))).length by omega),show∀(l:List UInt8) r,cf l++r=ag l::r fromλ_ _=>rfl]
   simp only[aX]
   rw[hg1,hg2,Zz hi hki (by omega),aaQ _ (by omega) (by omega)]
   simp only[ay,Bool.not_true,cond_false]
   rfl
 ·intro g
  have e0:ms.length -1+1=ms.length:=by omega
  have e1:¬(((ms.length -1+1:Nat):Int)<(ms.length:Int)):=by omega
  unfold FU
  rw[bV,hl1]
  simp only[aO,bG,e1,decide_false,cond_false]
  by_cases h0:i=0
  ·subst h0
   rw[show ai ((0:Nat):Int) 0=true from rfl,cond_true,h17]
   rfl
  ·have hm1:=(wu F (show 0<ms.length by omega)).2.2
   have hm2:=(wu F' (show 0<(ms.set i (fM ms[i] m)).length by rw[(rJ (m:=m) hi).1];omega)).2.2
   have hle:=(re F (show 0<ms.length by omega)).2
   have hsame:(gU ms 0).length=(gU (ms.set i (fM ms[i] m)) 0).length:=by
    rw[hm1,hm2]
    unfold fH
    rw[Fh hi (Ne.symm h0)]
   have x0:∀K:List Value->Option Bool,aE 1 0 (ax cf (ec ms)) K=K (ag (ec ms)[0]::((ec ms).drop 1).flatMap cf):=λK=>bn (f:=cf) (λ_=>rfl) (by omega) K
   have y0:∀K:List Value->Option Bool,aE 1 0 (ax cf (ec (ms.set i (fM ms[i] m)))) K=K (ag (ec (ms.set i (fM ms[i] m)))[0]::((ec (ms.set i (fM ms[i] m))).drop 1).flatMap cf):=λK=>bn (f:=cf) (λ_=>rfl) (by omega) K
   rw[show ai (i:Int) 0=false by rw[bT,decide_eq_false_iff_not];omega,cond_false,x0]
   simp only[aX]
   rw[cg,y0]
   simp only[aX]
   rw[cg,hg1,hg2,hsame,show∀n:Nat,ai (n:Int) (n:Int)=true fromλn=>by rw[bT,decide_eq_true_eq],Bool.not_true,cond_false,x0]
   simp only[aX]
   rw[cg]
   obtain⟨A,B,P,Q,p1,p2,p3,p4⟩:=Ub (m:=m) hi h0 F F'
   refine VG h17 _ _ ⟨by omega,by omega⟩ (by omega) (by rw[hg1,hg2];exact hsame) (by rw[hg1];omega) (by omega) ?_
   rw[hg1,hg2,hl1]
   have:=Md p1 p2 p3 p4 (gU ms 0).length (Nat.le_refl _)
   rcases this with h|h
   ·rw[h];show(0:Int) -_<_;omega
   ·omega
theorem aaP{w:Nat}(W:cU w)(hw:4000000<w){ms:List aS}(B:sk w ms)(z:Int){m:aS}(Bm:sk w [m]):
 Iq w (ct ms) z m.az.order (au m.az.bQ) (au m.az.bm) (au m.az.bD) (au m.az.aZ) (au m.az.first) (ag m.az.bk) (ag m.az.cm) (ag m.bL) (ag m.core) m.attr m.dQ m.dU (au m.view)=some true:=by
 have h17:=QA W (by omega)
 have h16:Ir w m.az.order (au m.az.bQ) (au m.az.bm) (au m.az.bD) (au m.az.aZ) (au m.az.first) (ag m.az.bk) (ag m.az.cm) (ag m.bL) (ag m.core) m.attr m.dQ m.dU (au m.view)=some (ct [m]):=rfl
 unfold Iq
 rw[Qz (by omega) B]
 simp only[ay]
 cases hv:sd ms with
 |true=>rw[cond_true,h17];rfl
 |false=>
 rw[cond_false,h16]
 simp only[ay]
 rw[Qz (by omega) Bm]
 simp only[ay]
 cases hv2:sd [m] with
 |true=>rw[cond_true,h17];rfl
 |false=>
 obtain⟨hl,hl2,hm⟩:=Si hv
 obtain⟨_,_,hm2⟩:=Si hv2
 have hmm:=hm2 m (by simp)
 rw[cond_false,aO]
 by_cases z0:z<0
 ·rw[decide_eq_true z0,cond_true,h17];rfl
 obtain⟨i,rfl⟩:∃i:Nat,z=(i:Int):=⟨z.toNat,by omega⟩
 rw[decide_eq_false z0,cond_false,show ct ms=ax cZ ms from rfl,bV,aO,bG]
 by_cases hi:i<ms.length
 case neg=>rw[decide_eq_false (by omega),Bool.not_false,cond_true,h17];rfl
 rw[decide_eq_true (by omega),Bool.not_true,cond_false,bV,aO,bG]
 by_cases h6:6<ms.length
 ·rw[decide_eq_true (by omega),cond_true,h17];rfl
 have hcl:(ms.flatMap cZ).length=ms.length*14:=cK jF ms
 have hn:=nextslicecap_le (need:=0+ms.length) (old:=0) (by omega)
 have k1:((ms.length*14).beq (ms.length*14)&&(Nat.ble 0 0&&Nat.beq 30 30))=true:=by simp
 have k2:(0+ms.length).ble 0=false:=by
  cases h:ms.length with
  |zero=>omega
  |succ n=>rw[Nat.zero_add];rfl
 have k3:(aF ms.length&&(aF 0&&(Builtin.nextslicecap (0+ms.length) 0).ble 5000000000))=true:=by
  have a:aF ms.length=true:=by simp;omega
  have b:(Builtin.nextslicecap (0+ms.length) 0).ble 5000000000=true:=by rw[Nat.ble_eq];omega
  rw[a,b];rfl
 have k4:(Nat.beq 14 14&&(i*14).blt (ms.length*14))=true:=by simp;omega
 have k5:∀(o:Int)(a b c d e f g h j:Value)(x y t:Int)(u:Value),((SV.agg (List.take 8 (List.drop 0 (SV.agg [SV.i IntKind.i64 o,SV.v a,SV.v b,SV.v c,SV.v d,SV.v e,SV.v f,SV.v g,SV.v h,SV.v j,SV.i IntKind.i64 x,SV.i IntKind.i64 y,SV.i IntKind.i64 t,SV.v u]).cells))).cells.length.beq 8&&(0+i*14+0+8).ble (ms.length*14))=true:=λo a b c d e f g h j x y t u=>by
  rw[show(0+i*14+0+8).ble (ms.length*14)=true by rw[Nat.ble_eq];omega]
  rfl
 have k6:∀(v:Value),((SV.v v).cells.length.beq 1&&(0+i*14+8+1).ble (ms.length*14))=true:=λv=>by
  rw[show(0+i*14+8+1).ble (ms.length*14)=true by rw[Nat.ble_eq];omega]
  rfl
 have k7:∀(v:Value),((SV.v v).cells.length.beq 1&&(0+i*14+9+1).ble (ms.length*14))=true:=λv=>by
  rw[show(0+i*14+9+1).ble (ms.length*14)=true by rw[Nat.ble_eq];omega]
  rfl
 have hbytes:ag m.core=ag m.core:=rfl
 rw[decide_eq_false (by omega),cond_false,sX jF]
 simp only[List.drop_nil,List.take_nil,List.nil_append,kb,hcl]
 rw[k1,cond_true,k2,cond_false,k3,cond_true]
 simp only[bF]
 rw[k4,cond_true,k5,cond_true,zz,zz,k6,cond_true,zz,k7,cond_true]
 have hm':=T9 (m:=m) hi hm hmm
 have hl':=(rJ (m:=m) hi).1
 have hp1:=Is W (by omega) hm (by omega) (by omega)
 have hp2:=Is W (by omega) hm' (by omega) (by omega)
 have hsw:=VW (m:=m) hi
 rw[List.drop_zero] at hsw
 rw[show ax cZ ms=ct ms from rfl,hp1]
 simp only[ay]
 rw[hsw,hp2]
 simp only[ay]
 by_cases hc:gh ms=0
 case neg=>rw[if_neg hc,bT,decide_eq_false hc,Bool.not_false,cond_true,h17];rfl
 rw[if_pos hc,show ai (ax cf (ec ms),(0:Int)).2 0=true from rfl,Bool.not_true,cond_false]
 by_cases hc2:gh (ms.set i (fM ms[i] m))=0
 case neg=>rw[if_neg hc2,bT,decide_eq_false hc2,Bool.not_false,cond_true,h17];rfl
 rw[if_pos hc2,show ai (ax cf (ec (ms.set i (fM ms[i] m))),(0:Int)).2 0=true from rfl,Bool.not_true,cond_false]
 simp only
 have q:∀n:Nat,ai (n:Int) (n:Int)=true:=λn=>by rw[bT,decide_eq_true_eq]
 rw[bV,bV,pQ,pQ,hl',bG,q,Bool.not_true,cond_false,bV,pQ,show ct ms=ax cZ ms from rfl,bV,bG,q,Bool.not_true,cond_false]
 exact VF W hw hi (vJ hm (by omega) hc).1 (vJ hm' (by omega) hc2).1
end
section
set_option linter.unusedVariables false
set_option linter.unusedSimpArgs false
set_option linter.unusedSectionVars false
set_option linter.constructorNameAsVariable false
open Go.ChangeShapes Go.WideShapes Go.ChangeAt Go.RowKit Go.Joins Go.Deep
open YtcfjfbeadhnknaaGreatDoor
theorem Tn(H:Type)(enc:TypeId×Value->H)(W:World)(base:Nat)(args:Array Value)(ds gs:List (DataW H))(before:List MemPlace)
 (hval:∀(j:Nat) t v,Tryz.f3.params[j]? =some t->args[j]? =some v->Value.okWide Tryz.prog W .any base t v)
 (hW:DataW.Whole enc Tryz.prog Tryz.f3.params.toList Rows.writeStaysSpec.vars false W args.toList ds gs before):
 Calls Tryz.prog 3 args W λe W'=>∃v,e=.returned v/\Rows.writeStaysSpec.post enc Tryz.prog Tryz.f3 false true false false W args v W':=by
 have hW':=hW
 obtain⟨p,q,hA0,hV,rfl,hfz,hnd⟩:=hW
 have hA:DataW.TrodAll enc Tryz.prog W 0 (λ_=>true) true Tryz.f3.params.toList args.toList ds p:=hA0
 rw[Tryz.params3] at hA hval
 obtain⟨v1,vs1,d1,ds1,p1,q1,hargs,rfl,rfl,h1,r1⟩:=trodAll_cons hA
 obtain⟨v2,vs2,d2,ds2,p2,q2,rfl,rfl,rfl,h2,r2⟩:=trodAll_cons r1
 obtain⟨v3,vs3,d3,ds3,p3,q3,rfl,rfl,rfl,h3,r3⟩:=trodAll_cons r2
 obtain⟨rfl,rfl,rfl⟩:=trodAll_nil r3
 obtain rfl:args=#[v1,v2,v3]:=by cases args;simp_all
 obtain⟨rfl,rfl⟩:=trodVars_none hV
 have k1:=h1
 have lt1:∀x∈p1,x.block<W.heap.size:=by obtain⟨m,hm⟩:=k1;exact DataW.trod_lt m _ _ _ hm
 obtain⟨D1,rfl,_⟩:=okWide_struct Tryz.underlying24 (hval 0 24 v1 rfl rfl)
 obtain⟨fuel1,hf1⟩:=h1
 obtain⟨wx,u1,e1,L1,hn1,hr1⟩:=ZT hf1
 have hD1:D1=#[u1]:=by
  have:D1.toList=[u1]:=by simpa[Value.cells] using e1
  cases D1;simp_all
 subst hD1
 obtain⟨n2,rfl,rfl,rfl,w2⟩:=open_int Tryz.underlying3 (hval 1 3 v2 rfl rfl) h2
 have k3:=h3
 have lt3:∀x∈p3,x.block<W.heap.size:=by obtain⟨m,hm⟩:=k3;exact DataW.trod_lt m _ _ _ hm
 obtain⟨D3,rfl,_⟩:=okWide_struct Tryz.underlying30 (hval 2 30 v3 rfl rfl)
 obtain⟨fuel3,hf3⟩:=h3
 obtain⟨⟨m3,hr3⟩,L3⟩:=PC hf3
 clear hA0
 refine(KS (k:=true) (We (maxLen+1) [.v (ct wx),.i n2,.i m3.az.order,.v (au m3.az.bQ),.v (au m3.az.bm),.v (au m3.az.bD),.v (au m3.az.aZ),.v (au m3.az.first),.v (ag m3.az.bk),.v (ag m3.az.cm),.v (ag m3.bL),.v (ag m3.core),.i m3.attr,.i m3.dQ,.i m3.dU,.v (au m3.view)] true (aaP wok (by decide) (KN wx hn1 hr1) n2 (KN [m3] (Nat.le_of_ble_eq_true rfl) (λp hp=>by rw[List.mem_singleton.1 hp];exact hr3))) (λx hx=>by simp at hx;rcases hx with rfl|rfl|rfl|rfl|rfl|rfl|rfl|rfl|rfl|rfl|rfl<;>rfl) _ rfl) (m:=λb i=>dX W b i) (λ_ _ _ h=>h) (.cons (.Aq (.cons L1 .nil)) (.cons (.int _ _) (.cons (show aG (λb i=>dX W b i) (.agg ⟨cZ m3⟩) (.agg D3) from by have q:=aG.Aq L3;cases D3;exact q) .nil)))).mono λe W' ⟨he,bel⟩=>?_
 subst he
 exact⟨_,rfl,_,_,_,[],_,[],hW',trodAll_mk1 (shut_bool Tryz.underlying4 _),(trodAll_cons_mk (Below.trod laidOut (by kernel_rfl) (of_decide_eq_true (by kernel_rfl)) k1 bel lt1) (trodAll_cons_mk (shut_int Tryz.underlying3 w2) (trodAll_cons_mk (Below.trod laidOut (by kernel_rfl) (of_decide_eq_true (by kernel_rfl)) k3 bel lt3) trodAll_mk0))),rfl,Below.frame bel _,λh=>by cases h⟩
def Ec:Array Value:=#[.agg #[.slice none 0 0],.int .i64 0,.agg #[.int .i64 0,.slice none 0 0,.slice none 0 0,.slice none 0 0,.slice none 0 0,.slice none 0 0,.slice none 0 0,.slice none 0 0,.slice none 0 0,.slice none 0 0,.int .i64 0,.int .i64 0,.int .i64 0,.slice none 0 0]]
def Vl:List (String×DataW Unit):=Rows.writeStaysRow.laid
theorem TB(os:Os)(args:Array Value):laidMetH Tryz.prog Vl ((World.doorLaid Tryz.prog 400 os).forCall (λ_ _=>0) ⟨#[],args,[]⟩).memory:=
 laidMetH_of_parts3 (fuel:=8) (laidMet_of_run' 8 (by kernel_rfl) (by kernel_rfl)) (by kernel_rfl) (by kernel_rfl)
theorem ZW(os:Os){H:Type}(enc:TypeId×Value->H):∃places,DataW.whole enc Tryz.prog ((World.doorLaid Tryz.prog 400 os).forCall (λ_ _=>0) ⟨#[],Ec,[]⟩).memory Tryz.f3.params.toList Rows.writeStaysSpec.vars false Ec.toList 8=some ([.agg [.nil],.lit (.int .i64 0),.agg [.agg [.lit (.int .i64 0),.nil,.nil,.nil,.nil,.nil,.nil,.nil],.nil,.nil,.lit (.int .i64 0),.lit (.int .i64 0),.lit (.int .i64 0),.nil]],[],places):=
 ⟨[],by kernel_rfl⟩
theorem Vz(os:Os)(started:os.Started)(H:Type)(enc:TypeId×Value->H)(F:Stop.Interp):
 ReturnsInHanded {} Tryz.checked os 3 .any ((OpenSpec.ofChange Rows.writeStaysSpec).preRow enc Tryz.prog Tryz.f3 Rows.writeStaysRow.domain false Rows.writeStaysRow.laid) (((OpenSpec.ofChange Rows.writeStaysSpec).at F).post enc Tryz.prog Tryz.f3 false true false false):=by
 obtain⟨places,hx⟩:=ZW os enc
 refine returnsInHanded_of_row (C:=Tryz.checked) (s:=OpenSpec.ofChange Rows.writeStaysSpec) own started (by kernel_rfl) Tryz.func3
  (witness_row_atRef (enc:=enc) (C:=Tryz.checked) false (World.doorLaid Tryz.prog 400 os) Ec rfl (by kernel_rfl) (by kernel_rfl) (by kernel_rfl)
   (OpenSpec.preRow_of_cond 8 hx (by kernel_rfl) (λk hk=>by cases hk) (by kernel_rfl) (TB os _))) ?_
 intro W base args ds gs before hval hW _ _ _ hL hsh _
 exact Tn H enc W base args ds gs before hval hW
end
end Lt
end Go.Proofs.YtcfjfbeadhnknaaGreatDoor

import Derived.Test.YtcfjfbeadhnknaaGreatDoorCards
import Derived.Test.YtcfjfbeadhnknaaGreatDoorTie
import Derived.Deep.DeepHandedRow
import Derived.Deep.DeepWitnessRowRef
import Derived.Lib.LaidTab
import Derived.LaidMore
import Derived.MakeChecks
import Derived.Lib.SmallJoins
import Derived.Test.YtcfjfbeadhnknaaGreatDoorDH
namespace Go.Proofs.YtcfjfbeadhnknaaGreatDoor
set_option linter.unusedVariables false
set_option linter.unusedSimpArgs false
set_option linter.unusedSectionVars false
set_option linter.constructorNameAsVariable false
set_option maxRecDepth 100000
namespace Lt
noncomputable section
def sI(w:Nat):H1->Hx (Bool):=λa=>lp (α:=H1->Int->Hx Bool) (λ_ _=>none) (λd e f=>aw e λg=>bif ak f (Int.ofNat g) then aF f λh=>aJ 4 h e λi=>af (List.drop 2 (List.drop 1 i)) λj k=>aw j λl=>bif ak 600 (Int.ofNat l) then some true else d e (ah .i64 (f.add 1)) else aw e λm=>some (ak 60 (Int.ofNat m))) w a 0
theorem adG(w:Nat):K 90 [.v] (.b) (sI w):=fr Tryz.f90 pn w (lc 0 [(0,.v),(3,vI)] [] 0 ln)
def Gr(w:Nat):H1->Hx (Bool):=λa=>lp (α:=Int->H1->Hx Bool) (λ_ _=>none) (λd e f=>aw f λg=>bif ak e (Int.ofNat g) then bif ak e 7 then aF e λh=>aJ 14 h f λi=>af i λj k=>au .i64 j λl=>af k λm n=>af n λo p=>af p λq r=>af r λs t=>af t λu v=>af v λy z=>af z λa0 a1=>af a1 λa2 a3=>af a3 λa4 a5=>af a5 λa6 a7=>au .i64 a6 λa8=>af a7 λa9 b0=>au .i64 a9 λb1=>af b0 λb2 b3=>au .i64 b2 λb4=>af b3 λb5 b6=>ob (sI w m) λb7=>bif b7 then some true else ob (sI w o) λb8=>bif b8 then some true else ob (sI w q) λb9=>bif b9 then some true else ob (sI w s) λc0=>bif c0 then some true else ob (sI w u) λc1=>bif c1 then some true else ob (sI w b5) λc2=>bif c2 then some true else aw y λc3=>bif ak 2000 (Int.ofNat c3) then some true else aw a0 λc4=>bif ak 2000 (Int.ofNat c4) then some true else aw a2 λc5=>bif ak 2000 (Int.ofNat c5) then some true else aw a4 λc6=>bif ak 2000 (Int.ofNat c6) then some true else d (ah .i64 (e.add 1)) f else aw f λc7=>some (ak 6 (Int.ofNat c7)) else aw f λc8=>some (ak 6 (Int.ofNat c8))) w 0 a
theorem adp(w:Nat):K 40 [.agg [.v]] (.b) (Gr w):=fr Tryz.f40 (pa pn (adG w)) w (lc 0 [(1,.ptr 0 0),(3,vI)] [(0,.cells [.v] 24)] 1 ln)
def B1(w:Nat):Hx (Int×H1×H1×H1×H1×H1×H1×H1×H1×H1×Int×Int×Int×H1):=ob (O1 w 3 (ae 1 [Value.int .i64 1])) λa=>some (2,ae 1 (List.drop 0 [Value.int .i64 274,Value.int .i64 a.1,Value.int .i64 a.2.1,a.2.2.1]),ae 0 [],ae 0 [],ae 0 [],ae 0 [],ae 0 [],ae 0 [],ae 0 [],ae 15 (List.drop 0 [Value.int .u8 255,Value.int .u8 216,Value.int .u8 255,Value.int .u8 218,Value.int .u8 0,Value.int .u8 8,Value.int .u8 1,Value.int .u8 1,Value.int .u8 0,Value.int .u8 0,Value.int .u8 63,Value.int .u8 0,Value.int .u8 7,Value.int .u8 255,Value.int .u8 217]),0,0,0,ae 0 [])
theorem adH(w:Nat):K 91 [] (.agg [vI,.v,.v,.v,.v,.v,.v,.v,.v,.v,vI,vI,vI,.v]) (B1 w):=fr Tryz.f91 (pa pn (UU w)) w
def N1(w:Nat):H1->Hx (H1):=λa=>aw a λb=>bif Nat.blt 0 b then dQ 1 a λc d=>bif d.length.beq (c*1)&&(Nat.ble 0 0&&Nat.beq 3 3) then bif(0+c).ble 0 then bif(0+d.length).ble 0 then some (ae (0+c) (List.drop 0 (aW 0 d []))) else none else bif aH c&&(aH 0&&(Builtin.nextslicecap (0+c) 0).ble 5000000000) then some (ae ((List.take 0 (List.drop 0 [])++d).length/1) (List.take 0 (List.drop 0 [])++d)) else none else none else none
theorem adC(w:Nat):K 87 [.v] (.v) (N1 w):=fr Tryz.f87 pn w
def ajg(w:Nat):Hx (H1):=some (ae 0 [])
theorem adE(w:Nat):K 87 [.em true] (.v) (ajg w):=fr Tryz.f87 pn w ln (λn=>Nat.blt n 100000)
def ajf(w:Nat):Hx (H1):=some (ae 0 (List.drop 0 (aW 0 [] [])))
theorem adD(w:Nat):K 87 [.em false] (.v) (ajf w):=fr Tryz.f87 pn w ln (λn=>Nat.blt n 100000)
def Gx(w:Nat):H1->Hx (H1):=λx=>aw x λn=>bif Nat.beq n 0 then some (ae 0 []) else N1 w x
theorem adF(w:Nat):cS Tryz.prog 87 [.v] .v (Gx w):=Ec (adC w) (show cS Tryz.prog 87 [.em false] .v (some (ae 0 [])) from adD w) (show cS Tryz.prog 87 [.em true] .v (some (ae 0 [])) from adE w)
def Gq(w:Nat):H1->Hx (H1×H1×Int):=λa=>ob (BZ w a) λb=>bif !aj b.1 0 then some (ae 0 [],ae 0 [],b.1) else ob (Gx w b.2.2.2.1) λc=>some (ae (List.length b.2.2.2.2.2.2.2 /13) b.2.2.2.2.2.2.2,c,0)
theorem ado(w:Nat):K 37 [.v] (.aG [.v,.v,vI]) (Gq w):=fr Tryz.f37 (pa (ph pn (Ul w)) (adF w)) w
def sH(w:Nat):H1->Hx (H1×Int):=Ak (Gq w)
theorem Uh(w:Nat):cS Tryz.prog 43 [.v] (.aG [.v,.i .i64]) (sH w):=aaq (ado w)
def GA(w:Nat):H1->Hx (Bool):=λa=>ob (sJ w a 0) λb=>bif !b.2 then some true else aw a λc=>some !aj b.1 (Int.ofNat c)
theorem adK(w:Nat):K 96 [.v] (.b) (GA w):=fr Tryz.f96 (pa pn (Um w)) w
def GK(w:Nat):H1->Hx (Int):=λa=>aw a λb=>lp (α:=H1->Int->Int->Hx Int) (λ_ _ _=>none) (λf g h i=>bif ak i h then aF i λj=>aJ 1 j g λk=>af k λl m=>ob (GA w l) λn=>bif n then some i else f g h (ah .i64 (i.add 1)) else some (-1)) w a (Int.ofNat b) 0
theorem ad0(w:Nat):K 150 [.v,.fn 96 []] (vI) (GK w):=fr Tryz.f150 (pa pn (adK w)) w (lc 0 [(0,.v),(1,.fn 96 []),(7,vI),(8,vI)] [] 0 ln)
def Gz(w:Nat):H1->Hx (Bool):=λa=>ob (GK w a) λb=>some !ak b 0
theorem adJ(w:Nat):K 95 [.v,.fn 96 []] (.b) (Gz w):=fr Tryz.f95 (pa pn (ad0 w)) w
def B4(w:Nat):H1->Hx (H1×Int):=λa=>ob (uc w a) λb=>some (a,b.2.2)
theorem adL(w:Nat):K 98 [.v] (.aG [.v,vI]) (B4 w):=fr Tryz.f98 (pa pn (EO w)) w
def oR(w:Nat):H1->Hx (H1×Int):=λa=>aw a λb=>bif aj (Int.ofNat b) 0 then some (ae 0 [],1) else ob (Gz w a) λc=>bif c then some (ae 0 [],2) else ob (B7 w a) λd=>aw a λe=>bif !ak 1 (Int.ofNat e) then ob (B4 w d) λf=>bif !aj f.2 0 then some (ae 0 [],f.2) else some (f.1,0) else ob (Gm w d) λg=>bif !aj g.2 0 then some (ae 0 [],g.2) else ob (B4 w g.1) λh=>bif !aj h.2 0 then some (ae 0 [],h.2) else some (h.1,0)
theorem Ui(w:Nat):K 44 [.v] (.aG [.v,vI]) (oR w):=fr Tryz.f44 (pa (pa (pa (pa pn (Un w)) (adJ w)) (adL w)) (adl w)) w ln (λn=>Nat.blt n 100000)
def Gy(w:Nat):Int->H1->H1->H1->H1->H1->H1->H1->H1->H1->Int->Int->Int->H1->Hx (H1×Int×Int×Int×H1):=λa b c d e f g h i j k l m n=>ob (yE w (ae 1 (List.drop 0 [Value.int .i64 a,b,c,d,e,f,g,h,i,j,Value.int .i64 0,Value.int .i64 0,Value.int .i64 0,ae 0 []]))) λo=>some (o.1,k,l,m,n)
theorem adI(w:Nat):K 92 [.agg [vI,.v,.v,.v,.v,.v,.v,.v,.v,.v,vI,vI,vI,.v]] (.agg [.v,vI,vI,vI,.v]) (Gy w):=fr Tryz.f92 (pa pn (Lu w)) w
def sF(w:Nat):H1->Hx (H1×Int):=λa=>ob (uc w a) λb=>bif !aj b.2.2 0 then some (ae 0 [],b.2.2) else aw b.1 λc=>lp (α:=H1->Int->Int->qr H1->Hx (H1×Int)) (λ_ _ _ _=>none) (λh i j k l=>bif ak k j then aF k λm=>aJ 14 m i λn=>af n λo p=>au .i64 o λq=>af p λr s=>af s λt u=>af u λv y=>af y λz a0=>af a0 λa1 a2=>af a2 λa3 a4=>af a4 λa5 a6=>af a6 λa7 a8=>af a8 λa9 b0=>af b0 λb1 b2=>au .i64 b1 λb3=>af b2 λb4 b5=>au .i64 b4 λb6=>af b5 λb7 b8=>au .i64 b7 λb9=>af b8 λc0 c1=>ob (Gy w q r t v z a1 a3 a5 a7 a9 b3 b6 b9 c0) λc2=>bif aH l.length&&(aH 1&&(List.take 5 (List.drop 0 [c2.1,Value.int .i64 c2.2.1,Value.int .i64 c2.2.2.1,Value.int .i64 c2.2.2.2.1,c2.2.2.2.2])).length.beq 5) then h i j (ah .i64 (k.add 1)) (l++List.take 5 (List.drop 0 [c2.1,Value.int .i64 c2.2.1,Value.int .i64 c2.2.2.1,Value.int .i64 c2.2.2.2.1,c2.2.2.2.2])) else none else some (ae (l.length/5) l,0)) w b.1 (Int.ofNat c) 0 []
theorem Ug(w:Nat):K 42 [.v] (.aG [.v,vI]) (sF w):=fr Tryz.f42 (pa (pa pn (EO w)) (adI w)) w (lc 0 [(7,.gr 1 5),(20,.v),(21,vI),(22,vI)] [(1,.grow 5 83)] 2 ln)
def B5(E:H1->H1->Hx (Int×qr H1)->Hx (Int×qr H1))(w:Nat):H1->Int->Int->Int->H1->qr H1->Hx (Int×qr H1):=λa b c d e f=>ob (uc w a) λg=>bif !aj g.2.2 0 then some (g.2.2,f) else aw g.1 λh=>bif !aj (Int.ofNat h) 1 then some (2,f) else aJ 14 0 g.1 λi=>af i λj k=>au .i64 j λl=>af k λm n=>af n λo p=>af p λq r=>af r λs t=>af t λu v=>af v λy z=>af z λa0 a1=>af a1 λa2 a3=>af a3 λa4 a5=>af a5 λa6 a7=>au .i64 a6 λa8=>af a7 λa9 b0=>au .i64 a9 λb1=>af b0 λb2 b3=>au .i64 b2 λb4=>af b3 λb5 b6=>E e e (bif aj d d then bif aj c c then E e e (bif aj d d then E e e (bif aH f.length&&(aH 1&&(List.take 14 (List.drop 0 [Value.int .i64 l,m,o,q,s,u,y,a0,a2,a4,Value.int .i64 b,Value.int .i64 c,Value.int .i64 d,e])).length.beq 14) then some (0,f++List.take 14 (List.drop 0 [Value.int .i64 l,m,o,q,s,u,y,a0,a2,a4,Value.int .i64 b,Value.int .i64 c,Value.int .i64 d,e])) else none) else none) else none else none)
def yL(w:Nat):H1->Int->Int->Int->H1->qr H1->Hx (Int×qr H1):=B5 (λ_ _ r=>r) w
theorem adM(w:Nat):nt Tryz.prog 99 ⟨2,⟨[(0,.ptr 0 0),(1,.agg [.v,.i .i64,.i .i64,.i .i64,.v])],[(0,.cells [.gr 1 14] 168),(1,.grow 14 30)],2⟩,1,⟨[(0,.i .i64)],[(0,.cells [.gr 1 14] 168),(1,.grow 14 30)],2⟩⟩ (yL w):=by
 have k:KH 99 ⟨2,⟨[(0,.ptr 0 0),(1,.agg [.v,vI,vI,vI,.v])],[(0,.cells [.gr 1 14] 168),(1,.grow 14 30)],2⟩,1,⟨[(0,vI)],[(0,.cells [.gr 1 14] 168),(1,.grow 14 30)],2⟩⟩ (B5 jA w):=fh Tryz.f99 (pa pn (EO w)) w;have e:B5 jA w=yL w:=by unfold yL B5;simp only[vk]
 rw[<-e];exact k
def rf(w:Nat):H1->Hx (H1×Int×Int):=λa=>aw a λb=>lp (α:=Int->H1->Int->Int->qr H1->Hx (H1×Int×Int)) (λ_ _ _ _ _=>none) (λh i j k l m=>bif ak l k then aF l λn=>aJ 5 n j λo=>af o λp q=>af q λr s=>au .i64 r λt=>af s λu v=>au .i64 u λy=>af v λz a0=>au .i64 z λa1=>af a0 λa2 a3=>ob (yL w p t y a1 a2 m) λa4=>bif !aj a4.1 0 then some (ae 0 [],l,a4.1) else h i j k (ah .i64 (l.add 1)) a4.2 else ob (yE w (ae (m.length/14) m)) λa5=>bif !aj a5.2 0 then none else some (a5.1,i,a5.2)) w 0 a (Int.ofNat b) 0 []
theorem Uj(w:Nat):K 45 [.v] (.aG [.v,vI,vI]) (rf w):=fr Tryz.f45 (ph (pa (pa pn (Lu w)) (LY w)) (adM w)) w (lc 0 [(3,vI),(5,.ptr 0 0),(9,.v),(10,vI),(11,vI)] [(0,.cells [.gr 1 14] 168),(1,.grow 14 30)] 2 ln)
def ud(w:Nat):Hx (Bool):=ob (B1 w) λa=>ob (yI w (ae 1 (List.drop 0 [Value.int .i64 a.1,a.2.1,a.2.2.1,a.2.2.2.1,a.2.2.2.2.1,a.2.2.2.2.2.1,a.2.2.2.2.2.2.1,a.2.2.2.2.2.2.2.1,a.2.2.2.2.2.2.2.2.1,a.2.2.2.2.2.2.2.2.2.1,Value.int .i64 a.2.2.2.2.2.2.2.2.2.2.1,Value.int .i64 a.2.2.2.2.2.2.2.2.2.2.2.1,Value.int .i64 a.2.2.2.2.2.2.2.2.2.2.2.2.1,a.2.2.2.2.2.2.2.2.2.2.2.2.2]))) λb=>ob (B1 w) λc=>ob (B1 w) λd=>ob (yI w (ae 2 (List.drop 0 [Value.int .i64 c.1,c.2.1,c.2.2.1,c.2.2.2.1,c.2.2.2.2.1,c.2.2.2.2.2.1,c.2.2.2.2.2.2.1,c.2.2.2.2.2.2.2.1,c.2.2.2.2.2.2.2.2.1,c.2.2.2.2.2.2.2.2.2.1,Value.int .i64 c.2.2.2.2.2.2.2.2.2.2.1,Value.int .i64 c.2.2.2.2.2.2.2.2.2.2.2.1,Value.int .i64 c.2.2.2.2.2.2.2.2.2.2.2.2.1,c.2.2.2.2.2.2.2.2.2.2.2.2.2,Value.int .i64 d.1,d.2.1,d.2.2.1,d.2.2.2.1,d.2.2.2.2.1,d.2.2.2.2.2.1,d.2.2.2.2.2.2.1,d.2.2.2.2.2.2.2.1,d.2.2.2.2.2.2.2.2.1,d.2.2.2.2.2.2.2.2.2.1,Value.int .i64 d.2.2.2.2.2.2.2.2.2.2.1,Value.int .i64 d.2.2.2.2.2.2.2.2.2.2.2.1,Value.int .i64 d.2.2.2.2.2.2.2.2.2.2.2.2.1,d.2.2.2.2.2.2.2.2.2.2.2.2.2]))) λe=>ob (sH w e.1) λf=>bif !aj f.2 0 then some false else aw f.1 λg=>bif !aj (Int.ofNat g) 2 then some false else aJ 1 0 f.1 λh=>af h λi j=>aw i λk=>bif !aj (Int.ofNat k) 141 then some false else aJ 1 1 f.1 λl=>af l λm n=>ob (mY w m b.1) λo=>bif !o then some false else ob (oR w f.1) λp=>aJ 1 1 f.1 λq=>af q λr s=>ob (oR w (ae 1 (List.drop 0 [r]))) λt=>ob (oR w (ae 0 [])) λu=>ob (sF w e.1) λv=>bif !aj p.2 0 then some false else bif !aj t.2 0 then some false else bif !aj u.2 1 then some false else bif !aj v.2 0 then some false else aw v.1 λy=>bif !aj (Int.ofNat y) 2 then some false else ob (mY w p.1 e.1) λz=>bif !z then some false else ob (mY w t.1 b.1) λa0=>bif !a0 then some false else ob (rf w v.1) λa1=>ob (rf w (ae 1 (List.drop 0 [e.1,Value.int .i64 0,Value.int .i64 0,Value.int .i64 0,ae 0 []]))) λa2=>aJ 5 0 v.1 λa3=>af (List.drop 0 a3) λa4 a5=>ob (mY w a4 b.1) λa6=>bif a6 then aJ 5 1 v.1 λa7=>af (List.drop 0 a7) λa8 a9=>ob (mY w a8 b.1) λb0=>bif b0 then ob (mY w a1.1 e.1) λb1=>bif b1 then bif aj a1.2.1 0 then bif aj a1.2.2 0 then bif aj a2.2.1 0 then some (aj a2.2.2 2) else some false else some false else some false else some false else some false else some false
theorem adq(w:Nat):K 41 [] (.b) (ud w):=fr Tryz.f41 (pa (pa (pa (pa (pa (pa (pa pn (VQ w).2) (Ue w)) (adH w)) (Uh w)) (Ui w)) (Ug w)) (Uj w)) w
def BX(w:Nat):Int->H1->H1->H1->H1->H1->H1->H1->H1->H1->Int->Int->Int->H1->Hx (H1):=λa b c d e f g h i j k l m n=>some (ae 1 (List.drop 0 [Value.int .i64 a,b,c,d,e,f,g,h,i,j,Value.int .i64 k,Value.int .i64 l,Value.int .i64 m,n]))
theorem ads(w:Nat):K 52 [.agg [vI,.v,.v,.v,.v,.v,.v,.v,.v,.v,vI,vI,vI,.v]] (.agg [.v]) (BX w):=fr Tryz.f52 pn w
def NW(w:Nat):H1->Hx (Bool):=λa=>ob (Gr w a) λb=>bif b then ob (ud w) λc=>some c else ob (yE w a) λd=>ob (sH w d.1) λe=>ob (sF w d.1) λf=>bif !aj d.2 0 then ob (ud w) λg=>some g else ob (oR w e.1) λh=>ob (rf w f.1) λi=>bif !aj e.2 0 then some false else bif !aj f.2 0 then some false else bif !aj h.2 0 then some false else bif !aj i.2.2 0 then some false else bif !aj i.2.1 0 then some false else aw e.1 λj=>aw a λk=>bif !aj (Int.ofNat j) (Int.ofNat k) then some false else aw f.1 λl=>aw e.1 λm=>bif !aj (Int.ofNat l) (Int.ofNat m) then some false else ob (mY w h.1 d.1) λn=>bif !n then some false else ob (mY w i.1 d.1) λo=>bif !o then some false else lp (α:=H1->Int->H1->Hx Bool) (λ_ _ _=>none) (λs t u v=>aw t λy=>bif ak u (Int.ofNat y) then aF u λz=>aJ 5 z t λa0=>af a0 λa1 a2=>af a2 λa3 a4=>au .i64 a3 λa5=>af a4 λa6 a7=>au .i64 a6 λa8=>af a7 λa9 b0=>au .i64 a9 λb1=>af b0 λb2 b3=>ob (uc w a1) λb4=>bif !aj b4.2.2 0 then some false else aw b4.1 λb5=>bif !aj (Int.ofNat b5) 1 then some false else aJ 14 0 b4.1 λb6=>af b6 λb7 b8=>au .i64 b7 λb9=>af b8 λc0 c1=>af c1 λc2 c3=>af c3 λc4 c5=>af c5 λc6 c7=>af c7 λc8 c9=>af c9 λd0 d1=>af d1 λd2 d3=>af d3 λd4 d5=>af d5 λd6 d7=>af d7 λd8 d9=>au .i64 d8 λe0=>af d9 λe1 e2=>au .i64 e1 λe3=>af e2 λe4 e5=>au .i64 e4 λe6=>af e5 λe7 e8=>bif !aj e0 0 then some false else bif !aj e3 0 then some false else bif !aj e6 0 then some false else aw e7 λe9=>bif !aj (Int.ofNat e9) 0 then some false else jA b2 b2 (bif aj b1 b1 then bif aj a8 a8 then jA b2 b2 (bif aj b1 b1 then jA b2 b2 (aF u λf0=>aJ 14 f0 v λf1=>af f1 λf2 f3=>au .i64 f2 λf4=>af f3 λf5 f6=>af f6 λf7 f8=>af f8 λf9 g0=>af g0 λg1 g2=>af g2 λg3 g4=>af g4 λg5 g6=>af g6 λg7 g8=>af g8 λg9 h0=>af h0 λh1 h2=>af h2 λh3 h4=>au .i64 h3 λh5=>af h4 λh6 h7=>au .i64 h6 λh8=>af h7 λh9 i0=>au .i64 h9 λi1=>af i0 λi2 i3=>ob (BX w b9 c0 c2 c4 c6 c8 d0 d2 d4 d6 a5 a8 b1 b2) λi4=>jA v v (ob (BX w f4 f5 f7 f9 g1 g3 g5 g7 g9 h1 h5 h8 i1 i2) λi5=>ob (Gp w i4 i5) λi6=>bif !i6 then some false else s t (ah .i64 (u.add 1)) v)) else none) else none else none) else ob (ud w) λi7=>some i7) w f.1 0 a
theorem adg(w:Nat):K 13 [.agg [.v]] (.b) (NW w):=fr Tryz.f13 (pa (pa (pa (pa (pa (pa (pa (pa (pa (pa (pa pn (adp w)) (adq w)) (Lu w)) (Uh w)) (Ug w)) (Ui w)) (Uj w)) (Ue w)) (EO w)) (ads w)) (adn w)) w (lc 0 [(1,.ptr 0 0),(7,.v),(14,vI)] [(0,.cells [.v] 24)] 1 ln) (λn=>Nat.beq n 200023)
end
section
open Go.ChangeShapes Go.WideShapes Go.ChangeAt Go.RowKit Go.Joins Go.Deep
open YtcfjfbeadhnknaaGreatDoor
theorem own:ownKnob Tryz.prog.godebug=none:=by kernel_rfl
theorem laidOut:laidOutB Tryz.prog=true:=by kernel_rfl
theorem wok:cX (maxLen+1):=⟨abn (by decide),by decide⟩
theorem ZH(ms:qr aS)(hn:ms.length<=maxLen)(hr:∀p∈ms,zP p):IU (maxLen+1) ms:=
 ⟨Nat.lt_succ_of_le hn,λp hp l hl=>⟨Nat.lt_succ_of_le (hr p hp l hl),Nat.lt_succ_of_le (hr p hp l hl)⟩⟩
end
theorem yK{w:Nat}(l:qr aL)(hl:l.length<2^63)(hw:l.length<w):sI w (ar l)=some (mB l):=(show sI w (ar l)=Yd w (ar l) from rfl).trans (akF l hl hw)
def ya(ms:qr aS)(j:Nat):Bool:=match ms[j]? with|some p=>!C4 p|none=>true
def C3(ms:qr aS):Bool:=!(List.range (min 7 ms.length)).all (ya ms)||decide (6<ms.length)
theorem ame{ms:qr aS}(h:C3 ms=false):ms.length<=6/\∀p∈ms,eD p:=by unfold C3 at h;rw[Bool.or_eq_false_iff,gJ,Bool.not_eq_false',iv] at h;obtain⟨h1,h2⟩:=h;refine⟨by omega,λp hp=>?_⟩;obtain⟨i,hi,rfl⟩:=List.mem_iff_getElem.1 hp;have:=h1 i (List.mem_range.2 (by omega));unfold ya at this;rw[cG hi] at this;exact amf (by simpa using this)
theorem ai1{w:Nat}(hw:10<=w){ms:qr aS}(B:IU w ms):Gr w (cx ms)=some (C3 ms):=by
 have hb:=B.n;have hlr:∀K:Nat->Hx Bool,aw (cx ms) K=K ms.length:=λK=>cd cN ms K;unfold Gr;refine(Tw (ev:=λi (g:Int->H1->Hx Bool)=>g i (cx ms)) (min 7 ms.length) (ya ms) (some true) (some (decide (6<ms.length))) ?_ ?_ (by omega)).trans ?_
 ·intro i g hi _;have hiL:i<ms.length:=by omega
  have e1:((i:Int)<(ms.length:Int)):=by omega
  have e2:((i:Int)<7):=by omega
  have hB:=B.rows _ (cA hiL);have b0:=hB ms[i].aC.cn (by simp);have b2:=hB ms[i].aC.bD (by simp);have b3:=hB ms[i].aC.bG (by simp);have b4:=hB ms[i].aC.bj (by simp);have b1:=hB ms[i].aC.first (by simp);have bv:=hB ms[i].view (by simp);have hok:ya ms i=!C4 ms[i]:=by unfold ya;rw[cG hiL]
  rw[hok];simp only[hlr,aU,bU,e1,e2,aY,aE,bP];rw[show cx ms=aB cN ms from rfl,bn iV hiL,lf];simp only[aX,bu];rw[yK _ b0.1 b0.2,yK _ b2.1 b2.2,yK _ b3.1 b3.2,yK _ b4.1 b4.2,yK _ b1.1 b1.2,yK _ bv.1 bv.2];simp only[aA];rw[cc,aP (by omega) (by omega)];unfold C4;cases mB ms[i].aC.cn
  case true=>rfl
  cases mB ms[i].aC.bD
  case true=>rfl
  cases mB ms[i].aC.bG
  case true=>rfl
  cases mB ms[i].aC.bj
  case true=>rfl
  cases mB ms[i].aC.first
  case true=>rfl
  cases mB ms[i].view
  case true=>rfl
  simp only[aD,zI];rw[cI,cI,cI,cI];have dd:∀n:Nat,decide ((2000:Int)<(n:Int))=decide (2000<n):=by intro n;rw[iH,cf,cf];omega
  rw[dd,dd,dd,dd];cases decide (2000<ms[i].aC.bC.length)
  case true=>rfl
  cases decide (2000<ms[i].aC.cF.length)
  case true=>rfl
  cases decide (2000<ms[i].bZ.length)
  case true=>rfl
  cases decide (2000<ms[i].core.length)
  case true=>rfl
  rfl
 ·intro g _;have dd:ak 6 (Int.ofNat ms.length)=decide (6<ms.length):=by
   rw[aU,iH,cf,cf,bU];omega
  simp only[hlr];rw[dd];by_cases h:ms.length<=7
  ·have e1:¬(((min 7 ms.length:Nat):Int)<(ms.length:Int)):=by omega
   simp only[aU,bU,e1,bL,aD]
  ·have e1:(((min 7 ms.length:Nat):Int)<(ms.length:Int)):=by omega
   have e2:¬(((min 7 ms.length:Nat):Int)<7):=by omega
   simp only[aU,bU,e1,e2,bL,aY,aD,aE]
 ·unfold C3;cases h:(List.range (min 7 ms.length)).all (ya ms) with
  |true=>rw[ay rfl];rfl
  |false=>rw[aq (by simp)];rfl
def fa(p:aS):aS:=⟨p.aC,p.bZ,p.core,0,0,0,[]⟩
def xC(p:aS):qr UInt8:=(bN [fa p]).flatten
def mr(p:aS):qr H1:=[ag (xC p),.int .i64 p.attr,.int .i64 p.dO,.int .i64 p.dP,ar p.view]
theorem Fm(p:aS):(mr p).length=5:=rfl
def oJ(ms:qr aS):H1:=aB mr ms
theorem Zu{p:aS}(h:eD p):eD (fa p):=⟨h.t0,h.t2,h.t3,h.t4,h.t1,⟨ib _,λt ht=>by cases ht⟩,h.TN,h.th,h.ic,h.co⟩
theorem Zt{p:aS}(h:oA p=true):oA (fa p)=true:=by obtain⟨h1,h2,_,_⟩:=oB h;show(!jL p&&(!nC p&&(!ou (fa p)&&!mJ (fa p))))=true;rw[h1,h2];rfl
theorem Qs{p:aS}(h:eD p)(g:oA p=true):fo [fa p]/\iz [fa p]=0/\(fW [fa p]).1 =0:=by
 have hm:∀q∈[fa p],eD q:=λq hq=>by rw[nj.1 hq];exact Zu h
 have hg:∀q∈[fa p],oA q=true:=λq hq=>by rw[nj.1 hq];exact Zt g
 have hf:(fW [fa p]).1 =0:=(Kp hm (aM 1) (by show 1<=6;decide)).2 ⟨hg,rfl⟩;exact⟨⟨hm,by show 1<=6;decide,hg⟩,(JG [fa p] (aM 1)).2 hf,hf⟩
theorem aji{w:Nat}(W:cX w)(hw:1000000<w){p:aS}(h:eD p)(g:oA p=true):Gy w p.aC.order (ar p.aC.cn) (ar p.aC.bD) (ar p.aC.bG) (ar p.aC.bj) (ar p.aC.first) (ag p.aC.bC) (ag p.aC.cF) (ag p.bZ) (ag p.core) p.attr p.dO p.dP (ar p.view)=some (ag (xC p),p.attr,p.dO,p.dP,ar p.view):=by obtain⟨F,hc,_⟩:=Qs h g;have q:=NY W hw F.mem (.inl F.le) (by show 1<=2000;decide);rw[ay hc] at q;unfold Gy;refine(bY (λz=>ob z _) q).trans ?_;rfl
theorem RG{w:Nat}(W:cX w)(hw:70000000<w){p:aS}(h:eD p)(g:oA p=true):uc w (ag (xC p))=some (cx [fa p],0,0):=by obtain⟨F,hc,hf⟩:=Qs h g;exact NZ W hw F (aM 1) hc hf
theorem acX(l:qr aS):ae ((l.flatMap cN).length/14) (l.flatMap cN)=cx l:=by unfold cx aB;rw[da iV,ja _ (by decide)]
theorem ag1(l:qr aS):ae ((l.flatMap mr).length/5) (l.flatMap mr)=oJ l:=by unfold oJ aB;rw[da Fm,ja _ (by decide)]
theorem YT{α:Type}{l:qr α}{i:Nat}(h:i<l.length)(f:α->qr H1):(l.take i).flatMap f++f l[i]=(l.take (i+1)).flatMap f:=by rw[iI h,fD,dN,lH,ea]
theorem WB{α:Type}{f:α->qr H1}{k:Nat}(hf:∀x,(f x).length=k)(l:qr α)(h:l.length*k<=1000000):aH (l.flatMap f).length=true:=by unfold aH;rw[da hf,iy];omega
theorem ai4{w:Nat}(W:cX w)(hw:70000000<w){ms:qr aS}(F:fo ms)(h1:1<=ms.length)(hc:iz ms=0)(hf:(fW ms).1 =0):sF w (ag (bN ms).flatten)=some (oJ ms,0):=by
 have h6:=F.le;unfold sF;rw[NZ W hw F h1 hc hf,aA];rw[show(!aj ((cx ms,(0:Int),(0:Int)).snd.snd) 0)=false from rfl,aD];rw[show∀K:Nat->Hx (H1×Int),aw (cx ms,(0:Int),(0:Int)).fst K=K ms.length fromλK=>cd cN ms K];refine gO (ev:=λi (g:H1->Int->Int->qr H1->Hx (H1×Int))=>g (cx ms) (Int.ofNat ms.length) i ((ms.take i).flatMap mr)) ms.length ?_ ?_ (by omega)
 ·intro i g hi;have e1:((i:Int)<(ms.length:Int)):=by omega
  have r:=WB Fm (ms.take i) (by rw[dE];omega);simp only[aU,bU,e1,aY,aE,bP];rw[show cx ms=aB cN ms from rfl,bn iV hi,lf];simp only[aX,bu];rw[aji W (by omega) (F.mem _ (cA hi)) (F.qQ _ (cA hi)),aA,r];refine Eq.trans (b:=g (aB cN ms) (ms.length:Int) (ah .i64 ((i:Int)+1)) ((ms.take i).flatMap mr++mr ms[i])) rfl ?_;rw[YT hi,aP (by omega) (by omega)];rfl
 ·intro g;have e1:¬((ms.length:Int)<(ms.length:Int)):=by omega
  simp only[aU,bU,e1,bL,aD];rw[oY,ag1]
theorem ajl{w:Nat}(W:cX w)(hw:70000000<w){p:aS}(h:eD p)(g:oA p=true)(acc:qr H1)(ha:aH acc.length=true):yL w (ag (xC p)) p.attr p.dO p.dP (ar p.view) acc=some (0,acc++cN p):=by unfold yL B5;rw[RG W hw h g,aA];rw[show(!aj ((cx [fa p],(0:Int),(0:Int)).snd.snd) 0)=false from rfl,aD];rw[show∀K:Nat->Hx (Int×qr H1),aw (cx [fa p],(0:Int),(0:Int)).fst K=K 1 fromλK=>rfl,show(!aj (Int.ofNat 1) 1)=false from rfl,aD];rw[show(cx [fa p],(0:Int),(0:Int)).fst=aB cN [fa p] from rfl,bn iV (l:=[fa p]) (m:=0) (by show 0<1;decide)];rw[show∀r,cN ([fa p][0])++r=cN (fa p)++r fromλ_=>rfl,lf];simp only[aX,bu,cj,aY,aE];rw[ha];rfl
theorem ai7{w:Nat}(W:cX w)(hw:70000000<w){ms:qr aS}(F:fo ms)(hc:iz ms=0):rf w (oJ ms)=some (ag (bN ms).flatten,0,0):=by
 have h6:=F.le;have q:=NY W (by omega) F.mem (.inl h6) (by omega);rw[ay hc] at q;unfold rf;rw[show∀K:Nat->Hx (H1×Int×Int),aw (oJ ms) K=K ms.length fromλK=>cd mr ms K];refine gO (ev:=λi (g:Int->H1->Int->Int->qr H1->Hx (H1×Int×Int))=>g 0 (oJ ms) (Int.ofNat ms.length) i ((ms.take i).flatMap cN)) ms.length ?_ ?_ (by omega)
 ·intro i g hi;have e1:((i:Int)<(ms.length:Int)):=by omega
  have r:=WB iV (ms.take i) (by rw[dE];omega);simp only[aU,bU,e1,aY,aE,bP];rw[show oJ ms=aB mr ms from rfl,bn Fm hi];rw[show∀r,mr ms[i]++r=ag (xC ms[i])::.int .i64 ms[i].attr::.int .i64 ms[i].dO::.int .i64 ms[i].dP::ar ms[i].view::r fromλ_=>rfl];rw[aX,aX,bu,aX,bu,aX,bu,aX,ajl W hw (F.mem _ (cA hi)) (F.qQ _ (cA hi)) _ r,aA];refine Eq.trans (b:=g 0 (aB mr ms) (ms.length:Int) (ah .i64 ((i:Int)+1)) ((ms.take i).flatMap cN++cN ms[i])) rfl ?_;rw[YT hi,aP (by omega) (by omega)];rfl
 ·intro g;have e1:¬((ms.length:Int)<(ms.length:Int)):=by omega
  simp only[aU,bU,e1,bL,aD];rw[oY,acX,q,aA];simp only[cj,aY,bH,aD]
theorem ajh{w:Nat}(L:qr Int)(h0:0<L.length)(hl:L.length<=1000):Gx w (aB cM L)=some (aB cM L):=by
 have hn:=nextslicecap_le (need:=0+L.length) (old:=0) (by omega);have hf:(L.flatMap cM).length=L.length:=by rw[da ma,gk]
 unfold Gx N1;rw[cd,show Nat.beq L.length 0=false by(cases h:Nat.beq L.length 0 with|false=>rfl|true=>have:=bX h;omega),aD,cd,show Nat.blt 0 L.length=true by simp;omega,aE,xG ma,hf]
 rw[show(L.length.beq (L.length*1)&&(Nat.ble 0 0&&Nat.beq 3 3))=true by simp,aE];rw[show(0+L.length).ble 0=false by cases h:(0+L.length).ble 0 with|false=>rfl|true=>have:=ed h;omega,aD]
 rw[show(aH L.length&&(aH 0&&(Builtin.nextslicecap (0+L.length) 0).ble 5000000000))=true by
  have a:aH L.length=true:=by simp;omega
  have b:(Builtin.nextslicecap (0+L.length) 0).ble 5000000000=true:=by rw[iy];omega
  rw[a,b];rfl,aE]
 show some (ae ((L.flatMap cM).length/1) (L.flatMap cM))=_;rw[hf,kB];rfl
theorem PE(ms:qr aS):(dL ms).length=ms.length+1:=by unfold dL;rw[cD,List.length_range]
theorem ai0{w:Nat}(W:cX w)(hw:70000000<w){ms:qr aS}(F:fo ms)(h1:1<=ms.length)(hc:iz ms=0)(hf:(fW ms).1 =0):∃V,Gq w (ag (bN ms).flatten)=some (V,aB cM (dL ms),0):=by have h6:=F.le;unfold Gq;rw[XE W hw F h1 hc hf];simp only[aA];rw[show(!aj (0:Int) 0)=false from rfl,aD,ajh _ (by rw[PE];omega) (by rw[PE];omega)];exact⟨_,rfl⟩
def vi:Nat->qr (qr UInt8)->qr Int
 |a,[]=>[(a:Int)]
 |a,p::P=>(a:Int)::vi (a+p.length) P
theorem aai:∀(P:qr (qr UInt8))(a:Nat),∃r,vi a P=(a:Int)::r
 |[],a=>⟨_,rfl⟩
 |_::_,a=>⟨_,rfl⟩
theorem QG(xs:qr Int):∀(P:qr (qr UInt8))(a:Nat),(∀p∈P,0<p.length)->xs.drop a=P.flatten.map (λb=>(b.toNat:Int))->u9 xs (vi a P)=some (P.map ag)
 |[],a,_,_=>rfl
 |p::P,a,hp,hx=>by
  have h0:=hp p (by simp);have hl:xs.length -a=p.length+P.flatten.length:=by have:=bY List.length hx;rw[er,cD,List.flatten_cons,aT] at this;exact this
  obtain⟨r,hr⟩:=aai P (a+p.length);have ih:=QG xs P (a+p.length) (λq hq=>hp q (mE _ hq)) (by
   rw[<-List.drop_drop,hx,List.flatten_cons,fS,List.drop_left' (by rw[cD])])
  unfold vi;rw[hr] at ih⊢;unfold u9;have e1:¬((a:Int)<0):=by omega
  have e2:((a:Int)<((a+p.length:Nat):Int)):=by omega
  have e3:¬((xs.length:Int)<((a+p.length:Nat):Int)):=by omega
  rw[aU,aU,aU,fI e1,eY e2,fI e3];rw[show(!false&&(true&&!false))=true from rfl,aE,ih,aA,show(((a+p.length:Nat):Int) -(a:Int)).toNat=p.length by omega,show((a:Int)).toNat=a from rfl,hx,List.flatten_cons,fS,List.take_left' (by rw[cD]),DD,JC];rfl
theorem YH{ms:qr aS}(F:fo ms):∀k i,i+k=ms.length->vi (cw ms i) ((bN ms).drop i)=((List.range (ms.length+1)).drop i).map λj=>(cw ms j:Int)
 |0,i,h=>by
  obtain rfl:i=ms.length:=by omega
  rw[uK (by rw[oI];exact aM _),dk (by rw[List.length_range];omega),List.getElem_range,uK (by rw[List.length_range];exact aM _)];rfl
 |k+1,i,h=>by
  have hp:i<(bN ms).length:=by rw[oI];omega
  have e:(bN ms)[i]=fQ ms i:=by simp[bN]
  have q:=(qW F (show i<ms.length by omega)).2.2;have ih:=YH F k (i+1) (by omega);rw[dk hp,e];show((cw ms i:Nat):Int)::vi (cw ms i+(fQ ms i).length) ((bN ms).drop (i+1))=_;rw[q,show cw ms i+cU ms i=cw ms (i+1) from rfl,ih,dk (show i<(List.range (ms.length+1)).length by rw[List.length_range];omega),List.getElem_range,iw]
theorem Sq:∀L:qr Int,qS (L.flatMap cM)=some L
 |[]=>rfl
 |a::L=>by rw[dN];show qS (.int .i64 a::L.flatMap cM)=_;unfold qS;rw[Sq L,aA]
theorem ah6(P:qr (qr UInt8)):ae (P.map ag).length (P.map ag)=aB eM P:=by
 unfold aB;rw[cD]
 congr 1
 induction P with
 |nil=>rfl
 |cons p P ih=>rw[iw,dN,ih];rfl
theorem ai5{w:Nat}(W:cX w)(hw:70000000<w){ms:qr aS}(F:fo ms)(h1:1<=ms.length)(hc:iz ms=0)(hf:(fW ms).1 =0):sH w (ag (bN ms).flatten)=some (aB eM (bN ms),0):=by
 have h6:=F.le;have tot:=yh F;obtain⟨V,hV⟩:=ai0 W hw F h1 hc hf;have hst:dL ms=vi 0 (bN ms):=(YH F ms.length 0 (by omega)).symm;have hb:=QG ((bN ms).flatten.map λb=>(b.toNat:Int)) (bN ms) 0 (λp hp=>by
  obtain⟨i,hi,rfl⟩:=List.mem_iff_getElem.1 hp;rw[oI] at hi;have e:(bN ms)[i]'(by rw[oI];exact hi)=fQ ms i:=by simp[bN]
  have:=(mg F hi).1;rw[e,(qW F hi).2.2];omega) rfl
 unfold sH Ak;rw[hV,aA];simp only;rw[show(!aj (0:Int) 0)=false from rfl,aD,rP,cD,show Nat.ble (bN ms).flatten.length 1000000000=true by rw[iy];omega,aE];rw[show rowOf (aB cM (dL ms))=some ((dL ms).length,(dL ms).flatMap cM) from rfl];simp only;rw[da ma,gk,PE,show(Nat.blt 1 (ms.length+1)&&(Nat.beq (ms.length+1) (ms.length+1)&&Nat.ble (ms.length+1) 1000000))=true by simp;omega,aE,Sq,aA,hst,hb,aA,ah6]
theorem ajk{w:Nat}(hw:70000000<w){ms:qr aS}(F:fo ms){i:Nat}(hi:i<ms.length):GA w (ag (fQ ms i))=some false:=by
 obtain⟨I,q1,q2⟩:=qW F hi;have l:=(mg F hi).2;have h:=Sw I [];rw[ea] at h;have hp:fQ ms i=eR (fF ms[i] (eS ms i)) (aK ms i).aO:=by unfold fQ;rw[(F.at_ hi).1]
 rw[<-hp] at h;have q:=XG (w:=w) (s:=fQ ms i) (a:=0) (ib _) (by omega) (by omega) (aM _) (by rw[ew];exact h);unfold GA;rw[show sJ w (ag (fQ ms i)) 0=sJ w (ag (fQ ms i)) ((0:Nat):Int) from rfl,q,aA];simp only[bH,aD,cI,fU,cj,bU,aY]
theorem ajj{w:Nat}(hw:70000000<w){ms:qr aS}(F:fo ms):Gz w (aB eM (bN ms))=some false:=by
 have h6:=F.le;have hl:=oI ms;have h50:GK w (aB eM (bN ms))=some (-1):=by
  unfold GK;rw[cd];refine gO (ev:=λi (g:H1->Int->Int->Hx Int)=>g (aB eM (bN ms)) (Int.ofNat (bN ms).length) i) (bN ms).length ?_ ?_ (by omega)
  ·intro i g hi;have e1:((i:Int)<((bN ms).length:Int)):=by omega
   have e:(bN ms)[i]=fQ ms i:=by simp[bN]
   simp only[aU,bU,e1,aY,aE,bP];rw[bn (k:=1) (λ_=>rfl) hi,e,show∀r,eM (fQ ms i)++r=ag (fQ ms i)::r fromλ_=>rfl,aX,ajk hw F (by omega),aA,aD,cc,aP (by omega) (by omega)];rfl
  ·intro g;have e1:¬(((bN ms).length:Int)<((bN ms).length:Int)):=by omega
   simp only[aU,bU,e1,bL,aD]
 unfold Gz;rw[h50];rfl
theorem ai6{w:Nat}(W:cX w)(hw:70000000<w){ms:qr aS}(F:fo ms)(h1:1<=ms.length)(hc:iz ms=0)(hf:(fW ms).1 =0):oR w (aB eM (bN ms))=some (ag (bN ms).flatten,0):=by
 have h6:=F.le;have hl:=oI ms;have tot:=yh F;have h98:B4 w (ag (bN ms).flatten)=some (ag (bN ms).flatten,0):=by unfold B4;rw[NZ W hw F h1 hc hf];rfl
 have n0:¬((ms.length:Int)=0):=by omega
 unfold oR;rw[cd,hl,cj,bU,fI n0,aD,ajj hw F,aA,aD,XH w _ (by omega) (by omega) (by omega),aA,cd,hl,aU,bU];by_cases h2:1<ms.length
 ·rw[eY (show(1:Int)<(ms.length:Int) by omega),bH,aD,aiV W hw F h2];simp only[aA];rw[show(!aj (0:Int) 0)=false from rfl,aD,h98];rfl
 ·rw[fI (show¬(1:Int)<(ms.length:Int) by omega),gj,aE,h98];rfl
section
def bl(l:qr Int):H1:=ae l.length (l.map (Value.int .u8))
abbrev em:H1:=ae 0 []
abbrev pv:qr H1:=[.int .i64 2,ae 1 [.int .i64 274,.int .i64 3,.int .i64 1,ae 2 [.int .u8 0,.int .u8 1]],ae 0 [],ae 0 [],ae 0 [],ae 0 [],ae 0 [],ae 0 [],ae 0 [],ae 15 [.int .u8 255,.int .u8 216,.int .u8 255,.int .u8 218,.int .u8 0,.int .u8 8,.int .u8 1,.int .u8 1,.int .u8 0,.int .u8 0,.int .u8 63,.int .u8 0,.int .u8 7,.int .u8 255,.int .u8 217],.int .i64 0,.int .i64 0,.int .i64 0,ae 0 []]
def Va:qr Int:=[255,216,255,225,0,34,69,120,105,102,0,0,77,77,0,42,0,0,0,8,0,1,1,18,0,3,0,0,0,1,0,1,0,0,0,0,0,0,255,218,0,8,1,1,0,0,63,0,7,255,217]
def QW:qr Int:=[255,216,255,225,0,34,69,120,105,102,0,0,77,77,0,42,0,0,0,8,0,1,1,18,0,3,0,0,0,1,0,1,0,0,0,0,0,0,255,226,0,88,77,80,70,0,77,77,0,42,0,0,0,8,0,3,176,0,0,7,0,0,0,4,48,49,48,48,176,1,0,4,0,0,0,1,0,0,0,2,176,2,0,7,0,0,0,32,0,0,0,50,0,0,0,0,0,0,0,0,0,0,0,141,0,0,0,0,0,0,0,0,0,0,0,0,0,0,0,51,0,0,0,95,0,0,0,0,255,218,0,8,1,1,0,0,63,0,7,255,217]
def sn:H1:=bl Va
def uG:H1:=bl (QW++Va)
def JD:H1:=bl QW
abbrev DK(c one:H1):H1:=ae 2 [c,one]
abbrev Bk(f:H1):qr H1:=[f,.int .i64 0,.int .i64 0,.int .i64 0,em]
abbrev yi(one:H1):H1:=ae 2 [one,.int .i64 0,.int .i64 0,.int .i64 0,em,one,.int .i64 0,.int .i64 0,.int .i64 0,em]
section
variable(k:Nat)
theorem agB:yI (k+1000) (ae 1 pv)=some (sn,0):=by kernel_rfl
theorem amb:yI (k+1000) (ae 2 (pv++pv))=some (uG,0):=by kernel_rfl
theorem Mn:B1 (k+1000)=some (2,ae 1 [.int .i64 274,.int .i64 3,.int .i64 1,ae 2 [.int .u8 0,.int .u8 1]],ae 0 [],ae 0 [],ae 0 [],ae 0 [],ae 0 [],ae 0 [],ae 0 [],ae 15 [.int .u8 255,.int .u8 216,.int .u8 255,.int .u8 218,.int .u8 0,.int .u8 8,.int .u8 1,.int .u8 1,.int .u8 0,.int .u8 0,.int .u8 63,.int .u8 0,.int .u8 7,.int .u8 255,.int .u8 217],0,0,0,ae 0 []):=by kernel_rfl
theorem aan:sH (k+1000) uG=some (DK JD sn,0):=by kernel_rfl
theorem agV:oR (k+1000) (DK JD sn)=some (uG,0):=by kernel_rfl
theorem agU:oR (k+1000) (ae 1 [sn])=some (sn,0):=by kernel_rfl
theorem agT:oR (k+1000) em=some (em,1):=by kernel_rfl
theorem Zy:sF (k+1000) uG=some (yi sn,0):=by kernel_rfl
theorem amj:rf (k+1000) (yi sn)=some (uG,0,0):=by kernel_rfl
theorem ami:rf (k+1000) (ae 1 (Bk uG))=some (em,0,2):=by kernel_rfl
theorem aiC:mY (k+1000) sn sn=some true:=by kernel_rfl
theorem aiD:mY (k+1000) uG uG=some true:=by kernel_rfl
end
theorem lk{α β:Type}{x:Hx α}{v:α}{K:α->Hx β}{r:Hx β}(h:x=some v)(h2:K v=r):ob x K=r:=by rw[h];exact h2
theorem qg{c:Bool}{x y r:Hx Bool}(h:c=false)(h2:y=r):cond c x y=r:=by rw[h];exact h2
theorem xx{c:Bool}{x y r:Hx Bool}(h:c=true)(h2:x=r):cond c x y=r:=by rw[h];exact h2
theorem C2{v:H1}{l:qr H1}{K:H1->qr H1->Hx Bool}{r:Hx Bool}(h:K v l=r):af (v::l) K=r:=h
theorem acD(K:Nat->Hx Bool):aw JD K=K 141:=rfl
theorem aaU(k:Nat){one two c:H1}(h1:yI (k+1000) (ae 1 pv)=some (one,0))(h2:yI (k+1000) (ae 2 (pv++pv))=some (two,0))(h3:sH (k+1000) two=some (DK c one,0))
 (h4:oR (k+1000) (DK c one)=some (two,0)) (h5:oR (k+1000) (ae 1 [one])=some (one,0)) (h6:oR (k+1000) em=some (em,1)) (h7:sF (k+1000) two=some (yi one,0)) (h8:rf (k+1000) (yi one)=some (two,0,0))
 (h9:rf (k+1000) (ae 1 (Bk two))=some (em,0,2)) (s1:mY (k+1000) one one=some true) (s2:mY (k+1000) two two=some true) (hl:∀K:Nat->Hx Bool,aw c K=K 141):ud (k+1000)=some true:=by
 have a1:∀(l:qr H1)(K:Nat->Hx Bool),aw (ae 2 l) K=K 2:=λ_ _=>rfl;have a4:∀K:qr H1->Hx Bool,aJ 1 0 (ae 2 [c,one]) K=K [c,one]:=λ_=>rfl;have a5:∀K:qr H1->Hx Bool,aJ 1 1 (ae 2 [c,one]) K=K [one]:=λ_=>rfl;have a6:∀K:qr H1->Hx Bool,aJ 5 0 (yi one) K=K (Bk one++Bk one):=λ_=>rfl;have a7:∀K:qr H1->Hx Bool,aJ 5 1 (yi one) K=K (Bk one):=λ_=>rfl;unfold ud;refine lk (Mn k) (lk h1 (lk (Mn k) (lk (Mn k) (lk h2 (lk h3 ?_)))));refine qg rfl ((a1 _ _).trans (qg rfl ((a4 _).trans (C2 ((hl _).trans (qg rfl ((a5 _).trans (C2 (lk s1 (qg rfl (lk h4 ((a5 _).trans (C2 (lk h5 (lk h6 (lk h7 ?_))))))))))))))));refine qg rfl (qg rfl (qg rfl (qg rfl ((a1 _ _).trans (qg rfl (lk s2 (qg rfl (lk s1 (qg rfl (lk h8 (lk h9 ?_)))))))))));exact(a6 _).trans (C2 (lk s1 (xx rfl ((a7 _).trans (C2 (lk s1 (xx rfl (lk s2 (xx rfl (xx rfl (xx rfl (xx rfl rfl))))))))))))
theorem ai3(k:Nat):ud (k+1000)=some true:=aaU k (agB k) (amb k) (aan k) (agV k) (agU k) (agT k) (Zy k) (amj k) (ami k) (aiC k) (aiD k) acD
theorem DL(k:Nat):(sH (k+1000) (ae 0 [])).isSome=true:=by kernel_rfl
theorem Zx(k:Nat):(sF (k+1000) (ae 0 [])).isSome=true:=by kernel_rfl
theorem ai2{w:Nat}(hw:1000<=w):ud w=some true:=by obtain⟨k,rfl⟩:∃k,w=k+1000:=⟨w -1000,by omega⟩;exact ai3 k
theorem ac6{w:Nat}(hw:1000<=w):(∃r,sH w (ae 0 [])=some r)/\∃r,sF w (ae 0 [])=some r:=by obtain⟨k,rfl⟩:∃k,w=k+1000:=⟨w -1000,by omega⟩;exact⟨Option.isSome_iff_exists.1 (DL k),Option.isSome_iff_exists.1 (Zx k)⟩
end
theorem ai8(w:Nat)(p:aS):BX w p.aC.order (ar p.aC.cn) (ar p.aC.bD) (ar p.aC.bG) (ar p.aC.bj) (ar p.aC.first) (ag p.aC.bC) (ag p.aC.cF) (ag p.bZ) (ag p.core) p.attr p.dO p.dP (ar p.view)=some (cx [p]):=rfl
theorem aiP{w:Nat}(W:cX w)(hw:70000000<w){ms:qr aS}(B:IU w ms):NW w (cx ms)=some true:=by
 have h41:=ai2 (w:=w) (by omega);obtain⟨⟨r43,h43⟩,r42,h42⟩:=ac6 (w:=w) (by omega);unfold NW;rw[ai1 (by omega) B,aA];cases hv:C3 ms with
 |true=>rw[aE,h41];rfl
 |false=>
 obtain⟨hl,hm⟩:=ame hv;have h20:=NY W (by omega) hm (.inl hl) (by omega);rw[aD,h20,aA];by_cases hc:iz ms=0
 case neg=>rw[aq hc];simp only;rw[h43,aA,h42,aA,show(!aj (iz ms) 0)=true by rw[cj,fI hc];rfl,aE,h41];rfl
 obtain⟨F,h1⟩:=D8 hm (.inl hl) hc;have hf:=(JG ms h1).1 hc;have tot:=yh F;have hpl:=oI ms;rw[ay hc];simp only;rw[ai5 W hw F h1 hc hf,aA,ai4 W hw F h1 hc hf,aA];simp only;rw[show(!aj (0:Int) 0)=false from rfl,aD,ai6 W hw F h1 hc hf,aA,ai7 W hw F hc,aA];simp only[aD];rw[cd,hpl,show∀K:Nat->Hx Bool,aw (cx ms) K=K ms.length fromλK=>cd cN ms K];rw[show∀K:Nat->Hx Bool,aw (oJ ms) K=K ms.length fromλK=>cd mr ms K,cd,hpl];rw[show(!aj (Int.ofNat ms.length) (Int.ofNat ms.length))=false by rw[cj,eY rfl];rfl,aD,aD,aiR _ (by omega) (by omega),aA,bH,aD,aA,bH,aD];refine gO (ev:=λi (g:H1->Int->H1->Hx Bool)=>g (oJ ms) i (cx ms)) ms.length ?_ ?_ (by omega)
 ·intro i g hi;have e1:((i:Int)<(ms.length:Int)):=by omega
  have hmi:=hm _ (cA hi);rw[show∀K:Nat->Hx Bool,aw (oJ ms) K=K ms.length fromλK=>cd mr ms K,aU,bU,eY e1,aE,bP];rw[show aJ 5 i (oJ ms)=aJ 5 i (aB mr ms) from rfl,bn Fm hi];rw[show∀r,mr ms[i]++r=ag (xC ms[i])::.int .i64 ms[i].attr::.int .i64 ms[i].dO::.int .i64 ms[i].dP::ar ms[i].view::r fromλ_=>rfl];rw[aX,aX,bu,aX,bu,aX,bu,aX,RG W hw hmi (F.qQ _ (cA hi)),aA];simp only;rw[show(!aj (0:Int) 0)=false from rfl,aD,show∀K:Nat->Hx Bool,aw (cx [fa ms[i]]) K=K 1 fromλK=>rfl,show(!aj (Int.ofNat 1) 1)=false from rfl,aD];rw[show aJ 14 0 (cx [fa ms[i]])=aJ 14 0 (aB cN [fa ms[i]]) from rfl,bn iV (l:=[fa ms[i]]) (m:=0) (by show 0<1;decide)];rw[show∀r,cN ([fa ms[i]][0])++r=cN (fa ms[i])++r fromλ_=>rfl,lf];simp only[aX,bu];rw[show(!aj (fa ms[i]).attr 0)=false from rfl,aD,show(!aj (fa ms[i]).dO 0)=false from rfl,aD,show(!aj (fa ms[i]).dP 0)=false from rfl,aD];rw[show∀K:Nat->Hx Bool,aw (ar (fa ms[i]).view) K=K 0 fromλK=>rfl,show(!aj (Int.ofNat 0) 0)=false from rfl,aD];rw[show aj ms[i].dP ms[i].dP=true by rw[cj,eY rfl],show aj ms[i].dO ms[i].dO=true by rw[cj,eY rfl]];simp only[vk,aE,bP];rw[show cx ms=aB cN ms from rfl,bn iV hi,lf];simp only[aX,bu];rw[show BX w (fa ms[i]).aC.order (ar (fa ms[i]).aC.cn) (ar (fa ms[i]).aC.bD) (ar (fa ms[i]).aC.bG) (ar (fa ms[i]).aC.bj) (ar (fa ms[i]).aC.first) (ag (fa ms[i]).aC.bC) (ag (fa ms[i]).aC.cF) (ag (fa ms[i]).bZ) (ag (fa ms[i]).core) ms[i].attr ms[i].dO ms[i].dP (ar ms[i].view)=some (cx [ms[i]]) from rfl,ai8];simp only[aA];rw[aiY (ms:=[ms[i]]) (λp hp=>by rw[nj.1 hp];exact hmi) (by show 1<=2000;decide) (by omega),aA];refine Eq.trans (b:=g (oJ ms) (ah .i64 ((i:Int)+1)) (aB cN ms)) rfl ?_;rw[aP (by omega) (by omega)];rfl
 ·intro g;have e1:¬((ms.length:Int)<(ms.length:Int)):=by omega
  rw[show∀K:Nat->Hx Bool,aw (oJ ms) K=K ms.length fromλK=>cd mr ms K,aU,bU,fI e1,aD,h41];rfl
section
open Go.ChangeShapes Go.WideShapes Go.ChangeAt Go.RowKit Go.Joins Go.Deep
open YtcfjfbeadhnknaaGreatDoor
theorem aae(H:Type)(enc:TypeId×H1->H)(W:jp)(base:Nat)(args:Array H1)(ds gs:qr (DataW H))(before:qr MemPlace)
 (hval:∀(j:Nat) t v,Tryz.f13.params[j]? =some t->args[j]? =some v->Value.okWide Tryz.prog W .any base t v)
 (hW:DataW.Whole enc Tryz.prog Tryz.f13.params.toList Rows.splitBackSpec.vars false W args.toList ds gs before):
 Calls Tryz.prog 13 args W λe W'=>∃v,e=.returned v/\Rows.splitBackSpec.post enc Tryz.prog Tryz.f13 false true false false W args v W':=by
 have hW':=hW;obtain⟨p,q,hA0,hV,rfl,hfz,hnd⟩:=hW;have hA:DataW.TrodAll enc Tryz.prog W 0 (λ_=>true) true Tryz.f13.params.toList args.toList ds p:=hA0;rw[Tryz.params13] at hA hval;obtain⟨v1,vs1,d1,ds1,p1,q1,hargs,rfl,rfl,h1,r1⟩:=trodAll_cons hA;obtain⟨rfl,rfl,rfl⟩:=trodAll_nil r1;obtain rfl:args=#[v1]:=by cases args;simp_all
 obtain⟨rfl,rfl⟩:=trodVars_none hV;have k1:=h1;have lt1:∀x∈p1,x.block<W.heap.size:=by obtain⟨m,hm⟩:=k1;exact DataW.trod_lt m _ _ _ hm
 obtain⟨D1,rfl,_⟩:=okWide_struct Tryz.underlying24 (hval 0 24 v1 rfl rfl);obtain⟨fuel1,hf1⟩:=h1;obtain⟨Li,u1,e1,L1,hn1,hr1⟩:=ahQ hf1;have hD1:D1=#[u1]:=by
  have:D1.toList=[u1]:=by simpa[Value.cells] using e1
  cases D1;simp_all
 subst hD1;clear hA0;refine(QD (k:=true) (adg (maxLen+1) [.v (cx Li)] true (aiP wok (by decide) (ZH Li hn1 hr1)) (λx hx=>by simp at hx;rcases hx with rfl<;>rfl) _ rfl) (m:=λb i=>fP W b i) (λ_ _ _ h=>h) (.cons (.Lr (.cons L1 .nil)) .nil)).mono λe W' ⟨he,gE⟩=>?_
 subst he;exact⟨_,rfl,_,_,_,[],_,[],hW',trodAll_mk1 (shut_bool Tryz.underlying4 _),(trodAll_cons_mk (Below.trod laidOut (by kernel_rfl) (oh (by kernel_rfl)) k1 gE lt1) trodAll_mk0),rfl,Below.frame gE _,λh=>by cases h⟩
def Jo:Array H1:=#[.agg #[.slice none 0 0]]
def acn:qr (String×DataW Unit):=Rows.splitBackRow.laid
theorem aax(os:Os)(args:Array H1):laidMetH Tryz.prog acn ((World.doorLaid Tryz.prog 400 os).forCall (λ_ _=>0) ⟨#[],args,[]⟩).memory:=
 laidMetH_of_parts3 (fuel:=8) (laidMet_of_run' 8 (by kernel_rfl) (by kernel_rfl)) (by kernel_rfl) (by kernel_rfl)
theorem ahU(os:Os){H:Type}(enc:TypeId×H1->H):∃places,DataW.whole enc Tryz.prog ((World.doorLaid Tryz.prog 400 os).forCall (λ_ _=>0) ⟨#[],Jo,[]⟩).memory Tryz.f13.params.toList Rows.splitBackSpec.vars false Jo.toList 8=some ([.agg [.nil]],[],places):=
 ⟨[],by kernel_rfl⟩
theorem acF(os:Os)(started:os.Started)(H:Type)(enc:TypeId×H1->H)(F:Stop.Interp):
 ReturnsInHanded {} Tryz.checked os 13 .any ((OpenSpec.ofChange Rows.splitBackSpec).preRow enc Tryz.prog Tryz.f13 Rows.splitBackRow.domain false Rows.splitBackRow.laid) (((OpenSpec.ofChange Rows.splitBackSpec).at F).post enc Tryz.prog Tryz.f13 false true false false):=by
 obtain⟨places,hx⟩:=ahU os enc;refine returnsInHanded_of_row (C:=Tryz.checked) (s:=OpenSpec.ofChange Rows.splitBackSpec) own started (by kernel_rfl) Tryz.func13
  (witness_row_atRef (enc:=enc) (C:=Tryz.checked) false (World.doorLaid Tryz.prog 400 os) Jo rfl (by kernel_rfl) (by kernel_rfl) (by kernel_rfl)
   (OpenSpec.preRow_of_cond 8 hx (by kernel_rfl) (λk hk=>by cases hk) (by kernel_rfl) (aax os _))) ?_
 intro W base args ds gs before hval hW _ _ _ hL hsh _;exact aae H enc W base args ds gs before hval hW
end
end Lt
end Go.Proofs.YtcfjfbeadhnknaaGreatDoor

import Derived.Maps.AppendAt
import Derived.RangeFuncBox
import Derived.Test.YtcfjfbeadhnknaaGreatDoorBE
namespace Go.Proofs.YtcfjfbeadhnknaaGreatDoor
set_option linter.unusedVariables false
set_option linter.unusedSimpArgs false
set_option linter.unusedSectionVars false
set_option linter.constructorNameAsVariable false
set_option maxRecDepth 100000
namespace Lt
noncomputable section
abbrev V:=Value
abbrev L:=List Value
abbrev Z:=Int
abbrev N:=Nat
abbrev B:=Bool
abbrev O:=Option
abbrev R0:=O (V×Z)
abbrev R1:=O (Z×B)
abbrev R2:=O (V×B)
abbrev R3:=O (Z×N×N×Z×V×V×Z×L)
abbrev R4:=O (Z×Z×L)
abbrev R5:=O (Z×Z×V×B)
abbrev R6:=O (V×Z×Z×Z)
abbrev R7:=O (Z×V×V×B)
abbrev R8:=O (N×N×L)
abbrev R9:=O (V×V×V)
abbrev Cp:=O (B×Z×V×V×V×V×V×V×V)
abbrev Cq:=O (Z×V×V×V×V×V×V×V×Z)
abbrev Cr:=O (V×B×V×Z×V×V×V×V×V×V×V×V×V×V×Z×Z)
abbrev Cs:=O (Z×Z×V×Z×V×N×N×Z×Z×L×L×L)
abbrev Ct:=O (Z×V×V×V×V×V×V×V×V×V×V×Z×Z×Z)
abbrev HG:=O ((V×V×V×Z×V×Z×V×N×N×Z×Z×L×L)⊕(Z×V×Z×V×N×N×Z×Z×L×L))
abbrev O1:=O (V×Z×V×V×V×V×V×V×V×V×V×V×Z×Z×L)
abbrev O2:=O (B×V×Z×V×V×V×V×V×V×V×V×V×V×Z×Z)
abbrev O3:=O ((V×Z×V×N×N×Z×Z×L×L)⊕(Z×V×Z×V×N×N×Z×Z×L×L))
abbrev O4:=O ((Z×V×Z×V×N×N×Z×Z×L×L)⊕(Z×V×Z×V×N×N×Z×Z×L×L))
abbrev O5:=O ((V×V×Z×V×N×N×Z×Z×L×L)⊕(Z×V×Z×V×N×N×Z×Z×L×L))
abbrev O6:=O ((Z×Z×Z×V×V×Z×V×N×N×Z×Z×L×L)⊕(Z×V×Z×V×N×N×Z×Z×L×L))
abbrev vI:VT:=.i .i64
def NC(w:Nat):Z->Z->O B:=λa b=>some (ah a b)
def Gh(w:Nat):V->Z->O Z:=λa b=>ak a λc=>lp (α:=V->L->Z->Z->O Z) (λ_ _ _ _=>none) (λh i j k l=>bif ai l k then ax l λm=>aC 1 m i λn=>af n λo p=>aq .i64 o λq=>af j λr s=>aq .i64 r λt=>nR s (ob (NC w q t) λu=>bif u then some l else h i j k (ag .i64 (l.add 1))) else some (-1)) w a [Value.int .i64 b] (Int.ofNat c) 0
def Nx(w:Nat):V->Z->O B:=λa b=>ob (Gh w a b) λc=>some !ai c 0
def qF(w:Nat):Z->Z->O B:=λa b=>ob (Nx w (ae 3 [Value.int .i64 1,Value.int .i64 2,Value.int .i64 4]) a) λc=>bif c then bif ah b 1 then some true else some (ah b 2) else some false
def xR(w:Nat):Z->O Z:=λa=>bif ai (ag .u64 (Int.mul 8 (ag .u64 a))) 0 then none else some (ag .i64 (Int.mul 1 (2^min (ag .u64 (Int.mul 8 (ag .u64 a))).toNat 64)))
def F0(w:Nat):N->N->L->O L:=λa b c=>lp (α:=N->N->Z->Z->L->O L) (λ_ _ _ _ _=>none) (λi j k l m n=>bif ai l m then ax m λo=>bif o.blt j then af (List.drop (0+o*1) n) λp q=>aq .u8 p λr=>ax l λs=>bif s.blt j then af (List.drop (0+s*1) n) λt u=>aq .u8 t λv=>ax l λy=>bif y.blt j then bif(SV.i IntKind.u8 r).cells.length.beq 1&&(0+y*1+1).ble n.length then ax m λz=>bif z.blt j then bif(SV.i IntKind.u8 v).cells.length.beq 1&&(0+z*1+1).ble (aQ (0+y*1) [Value.int .u8 r] n).length then i j k (ag .i64 (l.add 1)) (ag .i64 (m.sub 1)) (aQ (0+z*1) [Value.int .u8 v] (aQ (0+y*1) [Value.int .u8 r] n)) else none else none else none else none else none else none else some n) w a b 0 (ag .i64 ((Int.ofNat a).sub 1)) c
def ia(w:Nat):Z->Z->Z->R2:=λa b c=>ob (qF w b c) λd=>bif !d then some (ae 0 [],false) else bif ai a 0 then some (ae 0 [],false) else ob (xR w b) λe=>bif !ai a e then some (ae 0 [],false) else ax b λf=>ax b λg=>bif Nat.blt 0 1&&Nat.beq 1 1&&Nat.ble 1 10000&&(f.ble g&&g.ble 1000000000) then lp (α:=Z->Z->Z->N->N->Z->Z->L->R2) (λ_ _ _ _ _ _ _ _=>none) (λp q r s t u v y z=>bif ai y v then bif ai (ag .u64 (Int.mul 8 (ag .u64 y))) 0 then none else ax (ag .i64 ((ag .i64 (r.sub 1)).sub y)) λa0=>bif a0.blt t then bif(SV.i IntKind.u8 (ag .u8 (q.fdiv (2^min (ag .u64 (Int.mul 8 (ag .u64 y))).toNat 64)))).cells.length.beq 1&&(0+a0*1+1).ble z.length then p q r s t u v (ag .i64 (y.add 1)) (aQ (0+a0*1) [Value.int .u8 (ag .u8 (q.fdiv (2^min (ag .u64 (Int.mul 8 (ag .u64 y))).toNat 64)))] z) else none else none else bif ah s 1 then ob (F0 w t u z) λa1=>some (ae t (List.drop 0 a1),true) else some (ae t (List.drop 0 z),true)) w a b c f g (Int.ofNat f) 0 (rep g (Value.int .u8 0).cells.toList) else none
def yd(w:Nat):Z->O B:=λa=>ob (ia w a 2 2) λb=>some b.2
def Gn(w:Nat):V->Z->Z->O B:=λa b c=>bif ai b c then ak a λd=>some (ai c (Int.ofNat d)) else some false
def EI(w:Nat)(a:Z)(b:Z)(c:V->V->Z->Z->O B)(d:V)(e:V)(f:Z)(g:Z):O B:=bif ai a 1 then some false else bif !ai a b then some false else ob (yd w b) λh=>bif !h then some false else c d e f (ag .i64 (g.add 1))
def qG(w:Nat):V->O B:=λa=>ak a λb=>bif ai (Int.ofNat b) 1 then some false else ak a λc=>bif ai 16 (Int.ofNat c) then some false else ak a λd=>lp (α:=V->V->Z->Z->O B) (λ_ _ _ _=>none) (λi j k l m=>bif ai m l then ax m λn=>aC 4 n k λo=>af o λp q=>af q λr s=>aq .i64 r λt=>af s λu v=>aq .i64 u λy=>af v λz a0=>aq .i64 z λa1=>ak p λa2=>lp (α:=V->Z->V->Z->Z->V->Z->Z->V->Z->Z->Z->O B) (λ_ _ _ _ _ _ _ _ _ _ _ _=>none) (λb5 b6 b7 b8 b9 c0 c1 c2 c3 c4 c5 c6 c7=>bif ai c3 c2 then ax c3 λc8=>aC 2 c8 c1 λc9=>af c9 λd0 d1=>aq .i64 d0 λd2=>af d1 λd3 d4=>aq .i64 d3 λd5=>ob (yd w d2) λd6=>bif !d6 then some false else bif ai 0 c3 then ax (ag .i64 (c3.sub 1)) λd7=>aC 2 d7 c4 λd8=>af (List.drop 0 d8) λd9 e0=>aq .i64 d9 λe1=>bif !ai e1 d2 then some false else ob (Gn w b6 b7 d5) λe2=>bif !e2 then some false else bif ai 0 c5 then bif ah d2 c5 then some false else bif ah d2 c6 then some false else b5 b6 b7 b8 b9 c0 c1 c2 (ag .i64 (c3.add 1)) c4 c5 c6 c7 else b5 b6 b7 b8 b9 c0 c1 c2 (ag .i64 (c3.add 1)) c4 c5 c6 c7 else ob (Gn w b6 b7 d5) λe3=>bif !e3 then some false else bif ai 0 c5 then bif ah d2 c5 then some false else bif ah d2 c6 then some false else b5 b6 b7 b8 b9 c0 c1 c2 (ag .i64 (c3.add 1)) c4 c5 c6 c7 else b5 b6 b7 b8 b9 c0 c1 c2 (ag .i64 (c3.add 1)) c4 c5 c6 c7 else bif !ah c7 (-1) then ob (Gn w b6 b7 c7) λe4=>bif !e4 then some false else bif ah c5 0 then bif ah c6 0 then i b6 b8 b9 (ag .i64 (c0.add 1)) else EI w c5 c6 i b6 b8 b9 c0 else EI w c5 c6 i b6 b8 b9 c0 else bif ah c5 0 then bif ah c6 0 then i b6 b8 b9 (ag .i64 (c0.add 1)) else EI w c5 c6 i b6 b8 b9 c0 else EI w c5 c6 i b6 b8 b9 c0) w j m k l m p (Int.ofNat a2) 0 p t y a1 else some true) w a a (Int.ofNat d) 0
def ku(w:Nat):V->V->V->O Z:=λa b c=>ak a λd=>ak b λe=>ak c λf=>bif ai 0 (Int.ofNat f) then some (ag .i64 ((ag .i64 ((Int.ofNat d).add (Int.ofNat e))).add 2)) else some (ag .i64 ((Int.ofNat d).add (Int.ofNat e)))
def N7(w:Nat):Z->Z->Z->O B:=λa b c=>some (ah a c)
def NL(w:Nat):V->Z->O Z:=λa b=>ak a λc=>lp (α:=V->L->Z->Z->O Z) (λ_ _ _ _=>none) (λh i j k l=>bif ai l k then ax l λm=>aC 2 m i λn=>af n λo p=>aq .i64 o λq=>af p λr s=>aq .i64 r λt=>af j λu v=>aq .i64 u λy=>nR v (ob (N7 w q t y) λz=>bif z then some l else h i j k (ag .i64 (l.add 1))) else some (-1)) w a [Value.int .i64 b] (Int.ofNat c) 0
def Bu(w:Nat):V->Z->O B:=λa b=>ob (NL w a b) λc=>some !ai c 0
def By(w:Nat):V->Z->Z->Z->Z->O B:=λa b c d e=>bif ai 0 b then bif ah e b then some true else bif ah e c then some true else ob (Bu w a e) λf=>some f else ob (Bu w a e) λg=>some g
def X1(w:Nat):O (Z×Z×Z×Z×Z×Z×Z×Z×Z×Z×Z×Z×Z×Z×Z×Z×Z×Z×Z×Z×Z×Z×Z×Z×Z×Z×Z×Z×Z×Z×Z×Z×Z×Z×Z×Z×Z×Z×Z):=some (0,0,0,1,1,1,1,1,1,2,2,1,4,4,1,8,4,3,1,1,2,1,1,1,2,2,2,4,4,2,8,4,4,4,4,5,8,8,5)
def rS(w:Nat):Z->O (Z×Z×Z):=λa=>bif ai a 0 then some (0,0,0) else bif ai 12 a then some (0,0,0) else ob (X1 w) λb=>ax a λc=>bif c.blt 13 then af (List.drop (c*3) [Value.int .i64 b.1,Value.int .i64 b.2.1,Value.int .i64 b.2.2.1,Value.int .i64 b.2.2.2.1,Value.int .i64 b.2.2.2.2.1,Value.int .i64 b.2.2.2.2.2.1,Value.int .i64 b.2.2.2.2.2.2.1,Value.int .i64 b.2.2.2.2.2.2.2.1,Value.int .i64 b.2.2.2.2.2.2.2.2.1,Value.int .i64 b.2.2.2.2.2.2.2.2.2.1,Value.int .i64 b.2.2.2.2.2.2.2.2.2.2.1,Value.int .i64 b.2.2.2.2.2.2.2.2.2.2.2.1,Value.int .i64 b.2.2.2.2.2.2.2.2.2.2.2.2.1,Value.int .i64 b.2.2.2.2.2.2.2.2.2.2.2.2.2.1,Value.int .i64 b.2.2.2.2.2.2.2.2.2.2.2.2.2.2.1,Value.int .i64 b.2.2.2.2.2.2.2.2.2.2.2.2.2.2.2.1,Value.int .i64 b.2.2.2.2.2.2.2.2.2.2.2.2.2.2.2.2.1,Value.int .i64 b.2.2.2.2.2.2.2.2.2.2.2.2.2.2.2.2.2.1,Value.int .i64 b.2.2.2.2.2.2.2.2.2.2.2.2.2.2.2.2.2.2.1,Value.int .i64 b.2.2.2.2.2.2.2.2.2.2.2.2.2.2.2.2.2.2.2.1,Value.int .i64 b.2.2.2.2.2.2.2.2.2.2.2.2.2.2.2.2.2.2.2.2.1,Value.int .i64 b.2.2.2.2.2.2.2.2.2.2.2.2.2.2.2.2.2.2.2.2.2.1,Value.int .i64 b.2.2.2.2.2.2.2.2.2.2.2.2.2.2.2.2.2.2.2.2.2.2.1,Value.int .i64 b.2.2.2.2.2.2.2.2.2.2.2.2.2.2.2.2.2.2.2.2.2.2.2.1,Value.int .i64 b.2.2.2.2.2.2.2.2.2.2.2.2.2.2.2.2.2.2.2.2.2.2.2.2.1,Value.int .i64 b.2.2.2.2.2.2.2.2.2.2.2.2.2.2.2.2.2.2.2.2.2.2.2.2.2.1,Value.int .i64 b.2.2.2.2.2.2.2.2.2.2.2.2.2.2.2.2.2.2.2.2.2.2.2.2.2.2.1,Value.int .i64 b.2.2.2.2.2.2.2.2.2.2.2.2.2.2.2.2.2.2.2.2.2.2.2.2.2.2.2.1,Value.int .i64 b.2.2.2.2.2.2.2.2.2.2.2.2.2.2.2.2.2.2.2.2.2.2.2.2.2.2.2.2.1,Value.int .i64 b.2.2.2.2.2.2.2.2.2.2.2.2.2.2.2.2.2.2.2.2.2.2.2.2.2.2.2.2.2.1,Value.int .i64 b.2.2.2.2.2.2.2.2.2.2.2.2.2.2.2.2.2.2.2.2.2.2.2.2.2.2.2.2.2.2.1,Value.int .i64 b.2.2.2.2.2.2.2.2.2.2.2.2.2.2.2.2.2.2.2.2.2.2.2.2.2.2.2.2.2.2.2.1,Value.int .i64 b.2.2.2.2.2.2.2.2.2.2.2.2.2.2.2.2.2.2.2.2.2.2.2.2.2.2.2.2.2.2.2.2.1,Value.int .i64 b.2.2.2.2.2.2.2.2.2.2.2.2.2.2.2.2.2.2.2.2.2.2.2.2.2.2.2.2.2.2.2.2.2.1,Value.int .i64 b.2.2.2.2.2.2.2.2.2.2.2.2.2.2.2.2.2.2.2.2.2.2.2.2.2.2.2.2.2.2.2.2.2.2.1,Value.int .i64 b.2.2.2.2.2.2.2.2.2.2.2.2.2.2.2.2.2.2.2.2.2.2.2.2.2.2.2.2.2.2.2.2.2.2.2.1,Value.int .i64 b.2.2.2.2.2.2.2.2.2.2.2.2.2.2.2.2.2.2.2.2.2.2.2.2.2.2.2.2.2.2.2.2.2.2.2.2.1,Value.int .i64 b.2.2.2.2.2.2.2.2.2.2.2.2.2.2.2.2.2.2.2.2.2.2.2.2.2.2.2.2.2.2.2.2.2.2.2.2.2.1,Value.int .i64 b.2.2.2.2.2.2.2.2.2.2.2.2.2.2.2.2.2.2.2.2.2.2.2.2.2.2.2.2.2.2.2.2.2.2.2.2.2.2]) λd e=>aq .i64 d λf=>af e λg h=>aq .i64 g λi=>af h λj k=>aq .i64 j λl=>some (f,i,l) else none
def pR(w:Nat):Z->Z->V->O B:=λa b c=>ob (rS w a) λd=>bif ah d.1 0 then some false else bif ai b 1 then some false else bif ai 65536 b then some false else ak c λe=>bif !ah (Int.ofNat e) (ag .i64 (b.mul d.1)) then some false else bif !ah a 2 then some true else ob (Br w c 0) λf=>ak c λg=>some (ah f (ag .i64 ((Int.ofNat g).sub 1)))
def Gw(w:Nat):V->V->V->V->V->Z->Z->Z->O B:=λa b c d e f g h=>ak b λi=>lp (α:=V->Z->Z->V->V->V->V->Z->Z->Z->O B) (λ_ _ _ _ _ _ _ _ _ _=>none) (λt u v y z a0 a1 a2 a3 a4 a5=>bif ai y v then ax y λa6=>aC 4 a6 u λa7=>af a7 λa8 a9=>aq .i64 a8 λb0=>af a9 λb1 b2=>aq .i64 b1 λb3=>af b2 λb4 b5=>aq .i64 b4 λb6=>af b5 λb7 b8=>ob (yd w b0) λb9=>bif !b9 then some false else bif ai 0 y then ax (ag .i64 (y.sub 1)) λc0=>aC 4 c0 z λc1=>af (List.drop 0 c1) λc2 c3=>aq .i64 c2 λc4=>bif !ai c4 b0 then some false else ob (By w a2 a3 a4 a5 b0) λc5=>bif c5 then some false else ob (pR w b3 b6 b7) λc6=>bif !c6 then some false else t u v (ag .i64 (y.add 1)) z a0 a1 a2 a3 a4 a5 else ob (By w a2 a3 a4 a5 b0) λc7=>bif c7 then some false else ob (pR w b3 b6 b7) λc8=>bif !c8 then some false else t u v (ag .i64 (y.add 1)) z a0 a1 a2 a3 a4 a5 else some true) w b (Int.ofNat i) 0 b c d e f g h
def NZ(w:Nat):Z->Z->Z->V->V->V->O B:=λa b c d e f=>some (ah a c)
def NM(w:Nat):V->Z->V->V->V->O Z:=λa b c d e=>ak a λf=>lp (α:=V->L->Z->Z->O Z) (λ_ _ _ _=>none) (λk l m n o=>bif ai o n then ax o λp=>aC 2 p l λq=>af q λr s=>aq .i64 r λt=>af s λu v=>aq .i64 u λy=>af m λz a0=>aq .i64 z λa1=>af a0 λa2 a3=>af a3 λa4 a5=>af a5 λa6 a7=>nR a7 (ob (NZ w t y a1 a2 a4 a6) λa8=>bif a8 then some o else k l m n (ag .i64 (o.add 1))) else some (-1)) w a [Value.int .i64 b,c,d,e] (Int.ofNat f) 0
def Mc(w:Nat)(a:V)(rec:V->V->V->V->Z->O B)(b:V)(c:V)(d:V)(e:V)(f:Z)(g:Z)(h:Z):O B:=ak a λi=>lp (α:=V->Z->Z->V->V->V->V->V->Z->Z->Z->O B) (λ_ _ _ _ _ _ _ _ _ _ _=>none) (λu v y z a0 a1 a2 a3 a4 a5 a6 a7=>bif ai z y then ax z λa8=>aC 4 a8 v λa9=>af a9 λb0 b1=>aq .i64 b0 λb2=>af b1 λb3 b4=>af b4 λb5 b6=>af b6 λb7 b8=>ob (NM w a4 b2 b3 b5 b7) λb9=>bif ai b9 0 then some false else bif ai 0 z then ax (ag .i64 (z.sub 1)) λc0=>aC 4 c0 a2 λc1=>af (List.drop 0 c1) λc2 c3=>aq .i64 c2 λc4=>bif !ai c4 b2 then some false else ax b9 λc5=>aC 2 c5 a4 λc6=>af (List.drop 1 c6) λc7 c8=>aq .i64 c7 λc9=>ob (rec a0 b3 b5 b7 c9) λd0=>bif !d0 then some false else u v y (ag .i64 (z.add 1)) a0 a1 a2 a3 a4 a5 a6 a7 else ax b9 λd1=>aC 2 d1 a4 λd2=>af (List.drop 1 d2) λd3 d4=>aq .i64 d3 λd5=>ob (rec a0 b3 b5 b7 d5) λd6=>bif !d6 then some false else u v y (ag .i64 (z.add 1)) a0 a1 a2 a3 a4 a5 a6 a7 else some true) w a (Int.ofNat i) 0 b c a d e f g h
def G5(w:Nat)(rec:V->V->V->V->Z->O B):V->V->V->V->Z->O B:=λa b c d e=>ax e λf=>aC 4 f a λg=>af g λh i=>af i λj k=>aq .i64 j λl=>af k λm n=>aq .i64 m λo=>af n λp q=>aq .i64 p λr=>ob (ku w b c d) λs=>bif ai s 1 then some false else bif ai 65535 s then some false else ob (Gw w a b c d h l o r) λt=>bif !t then some false else ak d λu=>bif ai 0 (Int.ofNat u) then bif ah l 0 then some false else Mc w c rec a b d h l o r else Mc w c rec a b d h l o r
def NJ(w:Nat):V->V->V->V->Z->O B:=lQ (iN (VT.fa [.agg [.v],.agg [.v,.v,.v],vI])) (G5 w) w
def NX(w:Nat):Z->Z->Z->V->O B:=λa b c d=>ob (pR w b c d) λe=>some !e
def N5(w:Nat):V->O Z:=λa=>ak a λb=>lp (α:=V->Z->Z->O Z) (λ_ _ _=>none) (λf g h i=>bif ai i h then ax i λj=>aC 4 j g λk=>af k λl m=>aq .i64 l λn=>af m λo p=>aq .i64 o λq=>af p λr s=>aq .i64 r λt=>af s λu v=>ob (NX w n q t u) λy=>bif y then some i else f g h (ag .i64 (i.add 1)) else some (-1)) w a (Int.ofNat b) 0
def ny(w:Nat):V->O B:=λa=>ob (N5 w a) λb=>some !ai b 0
def vr(w:Nat):Z->V->O B:=Dr w (ku w) (ny w)
def GH(w:Nat):Z->O Z:=λa=>some (ag .i64 (a.add (ag .i64 ↑(BitVec.ofInt 64 a&&&BitVec.ofInt 64 1).toNat)))
def NY(w:Nat):Z->Z->Z->L->O (Z×Z×Z×L):=λa b c d=>ob (GH w b) λe=>some (e,ag .i64 (e.add a),c,d)
def vu(w:Nat):Z->Z->Z->Z->Z->Z->L->R4:=λa b c d e f g=>ob (NY w d e f g) λh=>bif aw (List.length h.2.2.2)&&(aw 1&&(List.take 5 (List.drop 0 [Value.int .i64 a,Value.int .i64 b,Value.int .i64 c,Value.int .i64 h.1,Value.int .i64 d])).length.beq 5) then some (h.2.1,h.2.2.1,h.2.2.2 ++List.take 5 (List.drop 0 [Value.int .i64 a,Value.int .i64 b,Value.int .i64 c,Value.int .i64 h.1,Value.int .i64 d])) else none
def Bv(w:Nat):Z->O Z:=λa=>ob (rS w a) λb=>some b.1
def BA(w:Nat):Z->Z->O Z:=λa b=>bif ai b 1 then some 0 else bif ai 65536 b then some 0 else ob (Bv w a) λc=>some (ag .i64 (b.mul c))
def Bw(w:Nat):Z->Z->O Z:=λa b=>ob (BA w a b) λc=>bif ai 4 c then some c else some 0
def Gv(w:Nat):V->V->V->Z->Z->Z->L->R4:=λa b c d e f g=>ak a λh=>lp (α:=Z->V->Z->Z->Z->Z->L->R4) (λ_ _ _ _ _ _ _=>none) (λp q r s t u v y=>bif ai t s then ax t λz=>aC 4 z r λa0=>af a0 λa1 a2=>aq .i64 a1 λa3=>af a2 λa4 a5=>aq .i64 a4 λa6=>af a5 λa7 a8=>aq .i64 a7 λa9=>af a8 λb0 b1=>ob (Bw w a6 a9) λb2=>bif ai 0 b2 then ob (vu w 3 q a3 b2 u v y) λb3=>p q r s (ag .i64 (t.add 1)) b3.1 b3.2.1 b3.2.2 else p q r s (ag .i64 (t.add 1)) u v y else some (u,v,y)) w d a (Int.ofNat h) 0 e f g
def G4(w:Nat)(rec:V->V->V->Z->Z->L->R4):V->V->V->Z->Z->L->R4:=λa b c d e f=>ob (ku w a b c) λg=>ob (vu w 2 e 0 (ag .i64 ((ag .i64 (Int.add 2 (ag .i64 (Int.mul 12 g)))).add 4)) d (ag .i64 (e.add 1)) f) λh=>ob (Gv w a b c e h.1 h.2.1 h.2.2) λi=>ak b λj=>lp (α:=Z->V->Z->Z->Z->Z->V->V->V->L->R4) (λ_ _ _ _ _ _ _ _ _ _=>none) (λu v y z a0 a1 a2 a3 a4 a5 a6=>bif ai a0 z then ax a0 λa7=>aC 4 a7 y λa8=>af a8 λa9 b0=>aq .i64 a9 λb1=>af b0 λb2 b3=>af b3 λb4 b5=>af b5 λb6 b7=>ob (rec b2 b4 b6 a1 a2 a6) λb8=>u v y z (ag .i64 (a0.add 1)) b8.1 b8.2.1 a3 a4 a5 b8.2.2 else ak a5 λb9=>bif ai 0 (Int.ofNat b9) then ak a5 λc0=>ob (vu w 4 v 0 (Int.ofNat c0) a1 a2 a6) λc1=>some (c1.1,c1.2.1,c1.2.2) else some (a1,a2,a6)) w e b (Int.ofNat j) 0 i.1 i.2.1 a b c i.2.2
def NI(w:Nat):V->V->V->Z->Z->L->R4:=lQ (iN (HT.ti ⟨2,⟨[(0,.ptr 0 0),(1,.agg [.v,.v,.v])],[(0,.cells [vI,vI,.gr 1 5] 307),(1,.grow 5 243)],2⟩,1,⟨[(0,.aH [])],[(0,.cells [vI,vI,.gr 1 5] 307),(1,.grow 5 243)],2⟩⟩).ks) (G4 w) w
def xU(w:Nat):Z->V->R2:=λa b=>ob (vr w a b) λc=>bif !c then some (ae 0 [],false) else ob (vu w 1 (-1) 0 8 0 0 []) λd=>ak b λe=>lp (α:=V->Z->Z->Z->Z->L->R2) (λ_ _ _ _ _ _=>none) (λl m n o p q r=>bif ai o n then ax o λs=>aC 3 s m λt=>af t λu v=>af v λy z=>af z λa0 a1=>ob (NI w u y a0 p q r) λa2=>l m n (ag .i64 (o.add 1)) a2.1 a2.2.1 a2.2.2 else bif ai 4294967295 p then some (ae 0 [],false) else some (ae (r.length/5) r,true)) w b (Int.ofNat e) 0 d.1 d.2.1 d.2.2
def rQ(w:Nat):Z->V->O Z:=λa b=>ob (xU w a b) λc=>bif !c.2 then some 0 else ak c.1 λd=>ax (ag .i64 ((Int.ofNat d).sub 1)) λe=>aC 5 e c.1 λf=>af f λg h=>aq .i64 g λi=>af h λj k=>aq .i64 j λl=>af k λm n=>aq .i64 m λo=>af n λp q=>aq .i64 p λr=>af q λs t=>aq .i64 s λu=>some (ag .i64 (r.add u))
def u9(w:Nat)(a:V)(b:L)(c:V)(d:Z):O Z:=ak a λe=>bif ai (Int.ofNat (b.length/1)) (Int.ofNat e) then some 1 else ak a λf=>lp (α:=V->V->Z->Z->Z->V->L->O Z) (λ_ _ _ _ _ _ _=>none) (λn o p q r s t u=>bif ai r q then ax r λv=>aC 3 v p λy=>af y λz a0=>af a0 λa1 a2=>af a2 λa3 a4=>ax r λa5=>bif Nat.beq 1 1&&(a5*1).blt u.length then af (List.drop (0+a5*1) u) λa6 a7=>aq .i64 a6 λa8=>ob (NJ w o z a1 a3 a8) λa9=>bif !a9 then some 6 else n o p q (ag .i64 (r.add 1)) s t u else none else ob (rQ w s t) λb0=>bif ah b0 0 then some 7 else some 0) w c a (Int.ofNat f) 0 d a b
def Mh(w:Nat)(a:V)(b:V)(c:Z):O Z:=ak a λd=>bif ah (Int.ofNat d) 0 then some 1 else lp (α:=V->Z->Z->V->L->O Z) (λ_ _ _ _ _=>none) (λj k l m n o=>bif !ai l 0 then ak n λp=>bif ai (Int.ofNat (o.length/1)) (Int.ofNat p) then bif aw o.length&&(aw ([Value.int .i64 l].length/1)&&[Value.int .i64 l].length.beq ([Value.int .i64 l].length/1*1)) then ax l λq=>aC 4 q k λr=>af (List.drop 3 r) λs t=>aq .i64 s λu=>j k u m n (o++[Value.int .i64 l]) else none else u9 w n o k m else u9 w n o k m) w b 0 c a []
def tC(w:Nat):Z->V->V->O Z:=λa b c=>ob (qG w c) λd=>bif !d then some 1 else bif !ah a 1 then bif !ah a 2 then some 1 else Mh w b c a else Mh w b c a
def rR(w:Nat):Z->Z->Z->N->N->Z->V->V->Z->L->O (N×N×Z×V×V×Z×L):=λa b c d e f g h i j=>ob (ia w b c f) λk=>ax a λl=>bif d.ble e&&l.ble d then cn 1 k.1 λm n=>bif n.length.beq (m*1)&&((bif e.beq l then 0 else 0+l*1)+m.min (d -l)*1).ble j.length then some (d,e,f,g,h,i,aQ (bif e.beq l then 0 else 0+l*1) (List.take (m.min (d -l)*1) n) j) else none else none
def tA(w:Nat):N->N->N->L->O L:=λa b c d=>lp (α:=N->N->N->Z->Z->L->O L) (λ_ _ _ _ _ _=>none) (λk l m n o p q=>bif ai o p then ax p λr=>bif r.blt m then af (List.drop (l+r*1) q) λs t=>aq .u8 s λu=>ax o λv=>bif v.blt m then af (List.drop (l+v*1) q) λy z=>aq .u8 y λa0=>ax o λa1=>bif a1.blt m then bif(SV.i IntKind.u8 u).cells.length.beq 1&&(l+a1*1+1).ble q.length then ax p λa2=>bif a2.blt m then bif(SV.i IntKind.u8 a0).cells.length.beq 1&&(l+a2*1+1).ble (aQ (l+a1*1) [Value.int .u8 u] q).length then k l m n (ag .i64 (o.add 1)) (ag .i64 (p.sub 1)) (aQ (l+a2*1) [Value.int .u8 a0] (aQ (l+a1*1) [Value.int .u8 u] q)) else none else none else none else none else none else none else some q) w a b c 0 (ag .i64 ((Int.ofNat b).sub 1)) d
def Mf(w:Nat)(a:V)(b:Z)(c:Z):R8:=ak a λd=>bif Nat.blt 0 1&&Nat.beq 1 1&&Nat.ble 1 10000&&(d.ble d&&d.ble 1000000000) then cn 1 a λe f=>bif f.length.beq (e*1)&&(0+e.min d*1).ble (rep d (Value.int .u8 0).cells.toList,5).1.length then lp (α:=Z->Z->N->N->Z->L->R8) (λ_ _ _ _ _ _=>none) (λm n o p q r s=>bif ah o 1 then bif !ai (Int.ofNat p) (ag .i64 (r.add n)) then ax (ag .i64 (r.add n)) λt=>ax r λu=>bif t.ble q&&u.ble t then ob (tA w (bif q.beq u then 0 else 0+u*1) (t -u) (q -u) s) λv=>m n o p q (ag .i64 (r.add n)) v else none else some (p,q,s) else some (p,q,s)) w b c d d 0 (aQ 0 (List.take (e.min d*1) f) (rep d (Value.int .u8 0).cells.toList,5).1) else none else none
def Bz(w:Nat):V->Z->Z->R8:=λa b c=>ob (qF w b c) λd=>bif !d then bif !ah b 8 then none else ob (qF w 1 c) λe=>bif !e then none else Mf w a b c else Mf w a b c
def Gy(w:Nat):Z->Z->V->Z->R8:=λa b c d=>ob (pR w a b c) λe=>bif !e then none else ob (rS w a) λf=>ob (Bz w c f.2.1 d) λg=>some (g.1,g.2.1,g.2.2)
def Ml(a:N)(b:V)(c:V->Z->Z->Z->Z->Z->Z->R1)(d:Z)(e:Z)(f:Z)(g:Z)(h:Z)(i:Z):R1:=aC 1 a b λj=>af j λk l=>aq .u8 k λm=>c b d e f (ag .i64 ↑(BitVec.ofInt 64 (ag .i64 (g.mul (2^8)))|||BitVec.ofInt 64 (ag .i64 m)).toNat) h (ag .i64 (i.add 1))
def jB(w:Nat):V->Z->Z->Z->R1:=λa b c d=>ob (qF w c d) λe=>bif !e then some (0,false) else bif ai b 0 then some (0,false) else ak a λf=>bif ai (ag .i64 ((Int.ofNat f).sub c)) b then some (0,false) else lp (α:=V->Z->Z->Z->Z->Z->Z->R1) (λ_ _ _ _ _ _ _=>none) (λn o p q r s t u=>bif ai u t then bif ah r 1 then ax (ag .i64 ((ag .i64 ((ag .i64 (p.add q)).sub 1)).sub u)) λv=>Ml v o n p q r s t u else ax (ag .i64 (p.add u)) λy=>Ml y o n p q r s t u else some (s,true)) w a b c d 0 c 0
def Gx(w:Nat):Z->Z->Z->V->Z->O (Z×Z×Z×Z×B):=λa b c d e=>ob (Gy w b c d e) λf=>ob (ia w a 2 e) λg=>bif !g.2 then some (0,0,0,0,false) else bif ah (Int.ofNat f.1) 0 then some (0,0,0,0,false) else bif ai 4 (Int.ofNat f.1) then some (0,0,0,0,false) else ax (ag .i64 (Int.sub 4 (Int.ofNat f.1))) λh=>bif h.ble 1000000000 then bif(rep h (Value.int .u8 0).cells.toList).length.beq (h*1)&&((0+f.1 *1).ble (f.2.2,5).1.length&&Nat.beq 5 5) then bif(f.1 +h).ble f.2.1 then bif(0+f.1 *1+(rep h (Value.int .u8 0).cells.toList).length).ble (f.2.2,5).1.length then ob (jB w (ae (f.1 +h) (List.drop 0 (aQ (0+f.1 *1) (rep h (Value.int .u8 0).cells.toList) (f.2.2,5).1))) 0 4 e) λi=>some (a,b,c,i.1,true) else none else bif aw h&&(aw f.1 &&(Builtin.nextslicecap (f.1 +h) f.2.1).ble 5000000000) then ob (jB w (ae ((List.take (f.1 *1) (List.drop 0 (f.2.2,5).1)++rep h (Value.int .u8 0).cells.toList).length/1) (List.take (f.1 *1) (List.drop 0 (f.2.2,5).1)++rep h (Value.int .u8 0).cells.toList)) 0 4 e) λj=>some (a,b,c,j.1,true) else none else none else none
def N1(w:Nat):Z->Z->Z->Z->Z->Z->Z->Z->O B:=λa b c d e f g h=>bif ah a f then bif ah b g then some (ah c h) else some false else some false
def N0(w:Nat):V->Z->Z->Z->O Z:=λa b c d=>ak a λe=>lp (α:=V->L->L->L->Z->Z->O Z) (λ_ _ _ _ _ _=>none) (λl m n o p q r=>bif ai r q then ax r λs=>aC 5 s m λt=>af t λu v=>aq .i64 u λy=>af v λz a0=>aq .i64 z λa1=>af a0 λa2 a3=>aq .i64 a2 λa4=>af a3 λa5 a6=>aq .i64 a5 λa7=>af a6 λa8 a9=>aq .i64 a8 λb0=>af n λb1 b2=>aq .i64 b1 λb3=>nR b2 (af o λb4 b5=>aq .i64 b4 λb6=>nR b5 (af p λb7 b8=>aq .i64 b7 λb9=>nR b8 (ob (N1 w y a1 a4 a7 b0 b3 b6 b9) λc0=>bif c0 then some r else l m n o p q (ag .i64 (r.add 1))))) else some (-1)) w a [Value.int .i64 b] [Value.int .i64 c] [Value.int .i64 d] (Int.ofNat e) 0
def tE(w:Nat):Z->Z->Z->N->N->Z->V->V->Z->L->R3:=λa b c d e f g h i j=>ob (N0 w g a b c) λk=>ax k λl=>aC 5 l g λm=>af (List.drop 3 m) λn o=>aq .i64 n λp=>some (p,d,e,f,g,h,i,j)
def Gz(w:Nat):Z->Z->V->Z->O V:=λa b c d=>ob (pR w a b c) λe=>bif !e then some (ae 0 []) else ob (rS w a) λf=>ob (Bz w c f.2.1 d) λg=>some (ae g.1 (List.drop 0 g.2.2))
def yb(w:Nat):Z->Z->Z->V->Z->N->N->Z->V->V->Z->L->O (Z×Z×Z×Z×N×N×Z×V×V×Z×L):=λa b c d e f g h i j k l=>ob (Gx w a b c d h) λm=>bif m.2.2.2.2 then some (m.1,m.2.1,m.2.2.1,m.2.2.2.1,f,g,h,i,j,k,l) else ob (tE w 3 e a f g h i j k l) λn=>ax n.1 λo=>bif Nat.ble n.2.1 n.2.2.1 &&o.ble n.2.1 then ob (Gz w b c d n.2.2.2.1) λp=>bif Nat.beq n.2.1 n.2.1 then bif Nat.beq n.2.2.1 n.2.2.1 then cn 1 p λq r=>bif r.length.beq (q*1)&&((bif Nat.beq n.2.2.1 o then 0 else 0+o*1)+q.min (n.2.1 -o)*1).ble (n.2.2.2.2.2.2.2,5).1.length then some (a,b,c,n.1,n.2.1,n.2.2.1,n.2.2.2.1,n.2.2.2.2.1,n.2.2.2.2.2.1,n.2.2.2.2.2.2.1,aQ (bif Nat.beq n.2.2.1 o then 0 else 0+o*1) (List.take (q.min (n.2.1 -o)*1) r) (n.2.2.2.2.2.2.2,5).1) else none else none else none else none
def Bo(w:Nat):L->L->O L:=λa b=>bif Nat.ble 4 a.length then bif aw b.length&&(aw 1&&(List.take 4 (List.drop 0 a)).length.beq 4) then some (b++List.take 4 (List.drop 0 a)) else none else none
def NQ(w:Nat):Z->Z->Z->V->V->V->O B:=λa b c d e f=>some (ah a c)
def NN(w:Nat):V->Z->V->V->V->O Z:=λa b c d e=>ak a λf=>lp (α:=V->L->Z->Z->O Z) (λ_ _ _ _=>none) (λk l m n o=>bif ai o n then ax o λp=>aC 2 p l λq=>af q λr s=>aq .i64 r λt=>af s λu v=>aq .i64 u λy=>af m λz a0=>aq .i64 z λa1=>af a0 λa2 a3=>af a3 λa4 a5=>af a5 λa6 a7=>nR a7 (ob (NQ w t y a1 a2 a4 a6) λa8=>bif a8 then some o else k l m n (ag .i64 (o.add 1))) else some (-1)) w a [Value.int .i64 b,c,d,e] (Int.ofNat f) 0
def tD(w:Nat):Z->Z->O (Z×Z×Z×Z):=λa b=>some (a,4,1,b)
def Bp(w:Nat):L->L->O L:=λa b=>bif Nat.ble 8 a.length then bif aw b.length&&(aw 2&&(List.take 8 (List.drop 0 a)).length.beq 8) then some (b++List.take 8 (List.drop 0 a)) else none else none
def Gm(w:Nat):Z->Z->Z->Z->Z->R2:=λa b c d e=>ob (ia w a 2 e) λf=>bif !f.2 then some (ae 0 [],false) else cn 1 f.1 λg h=>bif aw g&&h.length.beq (g*1) then ob (ia w b 2 e) λi=>bif !i.2 then some (ae 0 [],false) else cn 1 i.1 λj k=>bif aw h.length&&(aw j&&k.length.beq (j*1)) then ob (ia w c 4 e) λl=>bif !l.2 then some (ae 0 [],false) else cn 1 l.1 λm n=>bif aw (h++k).length&&(aw m&&n.length.beq (m*1)) then ob (ia w d 4 e) λo=>bif !o.2 then some (ae 0 [],false) else cn 1 o.1 λp q=>bif aw (h++k++n).length&&(aw p&&q.length.beq (p*1)) then some (ae ((h++k++n++q).length/1) (h++k++n++q),true) else none else none else none else none
def AO(w:Nat)(a:Z×N×N×Z×V×V×Z×L)(b:L):R3:=ob (rR w a.1 (Int.ofNat (b.length/4)) 2 a.2.1 a.2.2.1 a.2.2.2.1 a.2.2.2.2.1 a.2.2.2.2.2.1 a.2.2.2.2.2.2.1 a.2.2.2.2.2.2.2) λc=>lp (α:=Z->Z->Z->N->N->Z->V->V->Z->L->L->R3) (λ_ _ _ _ _ _ _ _ _ _ _=>none) (λo p q r s t u v y z a0 a1=>bif ai r q then ax r λa2=>bif Nat.beq 4 4&&(a2*4).blt a0.length then af (List.drop (0+a2*4) a0) λa3 a4=>aq .i64 a3 λa5=>af a4 λa6 a7=>aq .i64 a6 λa8=>af a7 λa9 b0=>aq .i64 a9 λb1=>af b0 λb2 b3=>aq .i64 b2 λb4=>ob (Gm w a5 a8 b1 b4 u) λb5=>ax (ag .i64 ((ag .i64 (p.add 2)).add (ag .i64 (Int.mul 12 r)))) λb6=>bif s.ble t&&b6.ble s then cn 1 b5.1 λb7 b8=>bif b8.length.beq (b7*1)&&((bif t.beq b6 then 0 else 0+b6*1)+b7.min (s -b6)*1).ble a1.length then o p q (ag .i64 (r.add 1)) s t u v y z a0 (aQ (bif t.beq b6 then 0 else 0+b6*1) (List.take (b7.min (s -b6)*1) b8) a1) else none else none else none else some (p,s,t,u,v,y,z,a1)) w a.1 (Int.ofNat (b.length/4)) 0 c.1 c.2.1 c.2.2.1 c.2.2.2.1 c.2.2.2.2.1 c.2.2.2.2.2.1 b c.2.2.2.2.2.2
def G2(w:Nat)(rec:V->V->V->Z->N->N->Z->V->V->Z->L->R3):V->V->V->Z->N->N->Z->V->V->Z->L->R3:=λa b c d e f g h i j k=>ax d λl=>aC 4 l i λm=>af m λn o=>af o λp q=>aq .i64 p λr=>af q λs t=>aq .i64 s λu=>af t λv y=>aq .i64 v λz=>ak a λa0=>lp (α:=Z->V->Z->Z->N->N->Z->V->V->Z->V->V->V->V->Z->Z->Z->L->L->R3) (λ_ _ _ _ _ _ _ _ _ _ _ _ _ _ _ _ _ _ _=>none) (λc0 c1 c2 c3 c4 c5 c6 c7 c8 c9 d0 d1 d2 d3 d4 d5 d6 d7 d8 d9=>bif ai c4 c3 then ax c4 λe0=>aC 4 e0 c2 λe1=>af e1 λe2 e3=>aq .i64 e2 λe4=>af e3 λe5 e6=>aq .i64 e5 λe7=>af e6 λe8 e9=>aq .i64 e8 λf0=>af e9 λf1 f2=>ob (yb w e4 e7 f0 f1 c1 c5 c6 c7 c8 c9 d0 d8) λf3=>ob (Bo w [Value.int .i64 f3.1,Value.int .i64 f3.2.1,Value.int .i64 f3.2.2.1,Value.int .i64 f3.2.2.2.1] d9) λf4=>c0 c1 c2 c3 (ag .i64 (c4.add 1)) f3.2.2.2.2.1 f3.2.2.2.2.2.1 f3.2.2.2.2.2.2.1 f3.2.2.2.2.2.2.2.1 f3.2.2.2.2.2.2.2.2.1 f3.2.2.2.2.2.2.2.2.2.1 d1 d2 d3 d4 d5 d6 d7 f3.2.2.2.2.2.2.2.2.2.2 f4 else ak d2 λf5=>lp (α:=Z->V->Z->Z->N->N->Z->V->V->Z->V->V->V->V->Z->Z->Z->L->L->R3) (λ_ _ _ _ _ _ _ _ _ _ _ _ _ _ _ _ _ _ _=>none) (λh5 h6 h7 h8 h9 i0 i1 i2 i3 i4 i5 i6 i7 i8 i9 j0 j1 j2 j3 j4=>bif ai h9 h8 then ax h9 λj5=>aC 4 j5 h7 λj6=>af j6 λj7 j8=>aq .i64 j7 λj9=>af j8 λk0 k1=>af k1 λk2 k3=>af k3 λk4 k5=>ob (NN w i9 j9 k0 k2 k4) λk6=>ax k6 λk7=>aC 2 k7 i9 λk8=>af (List.drop 1 k8) λk9 l0=>aq .i64 k9 λl1=>ob (rec k0 k2 k4 l1 i0 i1 i2 i3 i4 i5 j3) λl2=>bif ah j9 j9 then ob (tD w j9 l2.1) λl3=>ob (Bo w [Value.int .i64 l3.1,Value.int .i64 l3.2.1,Value.int .i64 l3.2.2.1,Value.int .i64 l3.2.2.2] j4) λl4=>h5 h6 h7 h8 (ag .i64 (h9.add 1)) l2.2.1 l2.2.2.1 l2.2.2.2.1 l2.2.2.2.2.1 l2.2.2.2.2.2.1 l2.2.2.2.2.2.2.1 i6 i7 i8 i9 j0 j1 j2 l2.2.2.2.2.2.2.2 l4 else none else ak i8 λl5=>bif ai 0 (Int.ofNat l5) then ob (tE w 4 h6 0 i0 i1 i2 i3 i4 i5 j3) λl6=>ax l6.1 λl7=>bif Nat.ble l6.2.1 l6.2.2.1 &&l7.ble l6.2.1 then cn 1 i8 λl8 l9=>bif l9.length.beq (l8*1)&&((bif Nat.beq l6.2.2.1 l7 then 0 else 0+l7*1)+l8.min (l6.2.1 -l7)*1).ble (l6.2.2.2.2.2.2.2,5).1.length then ob (tD w j0 l6.1) λm0=>ak i8 λm1=>ob (tD w j1 (Int.ofNat m1)) λm2=>ob (Bp w [Value.int .i64 m0.1,Value.int .i64 m0.2.1,Value.int .i64 m0.2.2.1,Value.int .i64 m0.2.2.2,Value.int .i64 m2.1,Value.int .i64 m2.2.1,Value.int .i64 m2.2.2.1,Value.int .i64 m2.2.2.2] j4) λm3=>ob (tF w m3) λm4=>ob (tE w 2 h6 0 l6.2.1 l6.2.2.1 l6.2.2.2.1 l6.2.2.2.2.1 l6.2.2.2.2.2.1 l6.2.2.2.2.2.2.1 (aQ (bif Nat.beq l6.2.2.1 l7 then 0 else 0+l7*1) (List.take (l8.min (l6.2.1 -l7)*1) l9) (l6.2.2.2.2.2.2.2,5).1)) λm5=>AO w m5 m4 else none else none else ob (tF w j4) λm6=>ob (tE w 2 h6 0 i0 i1 i2 i3 i4 i5 j3) λm7=>AO w m7 m6) w c1 d2 (Int.ofNat f5) 0 c5 c6 c7 c8 c9 d0 d1 d2 d3 d4 d5 d6 d7 d8 d9) w j a (Int.ofNat a0) 0 e f g h i (ag .i64 (j.add 1)) a b c n r u z k []
def F8(w:Nat):V->V->V->Z->N->N->Z->V->V->Z->L->R3:=lQ (iN (HT.ti ⟨3,⟨[(0,.ptr 0 0),(1,.agg [.v,.v,.v]),(2,vI)],[(0,.cells [.sl 1 0,vI,.v,.v,vI] 249),(1,.arr 5)],2⟩,1,⟨[(0,vI)],[(0,.cells [.sl 1 0,vI,.v,.v,vI] 249),(1,.arr 5)],2⟩⟩).ks) (G2 w) w
def EJ(a:N):=(List.take (Nat.min 2 a*1) (List.map (λ(b:UInt8)=>Value.int .u8 (Int.ofNat b.toNat)) (ByteArray.mk #[77,77]).data.toList))
def Mb(w:Nat)(a:V)(b:V)(c:N×N×Z×V×V×Z×L):R0:=ak a λd=>lp (α:=V->Z->Z->V->Z->Z->N->N->Z->V->V->Z->L->R0) (λ_ _ _ _ _ _ _ _ _ _ _ _ _=>none) (λr s t u v y z a0 a1 a2 a3 a4 a5 a6=>bif ai z y then ax z λa7=>aC 3 a7 v λa8=>af a8 λa9 b0=>af b0 λb1 b2=>af b2 λb3 b4=>ob (F8 w a9 b1 b3 t a0 a1 a2 a3 a4 a5 a6) λb5=>ob (rR w u b5.1 4 b5.2.1 b5.2.2.1 b5.2.2.2.1 b5.2.2.2.2.1 b5.2.2.2.2.2.1 b5.2.2.2.2.2.2.1 b5.2.2.2.2.2.2.2) λb6=>ob (ku w a9 b1 b3) λb7=>ax t λb8=>aC 4 b8 s λb9=>af (List.drop 3 b9) λc0 c1=>aq .i64 c0 λc2=>r s c2 (ag .i64 ((ag .i64 (Int.add b5.1 2)).add (ag .i64 (Int.mul 12 b7)))) v y (ag .i64 (z.add 1)) b6.1 b6.2.1 b6.2.2.1 b6.2.2.2.1 b6.2.2.2.2.1 b6.2.2.2.2.2.1 b6.2.2.2.2.2.2 else some (ae a0 (List.drop 0 a6),0)) w b 0 4 a (Int.ofNat d) 0 c.1 c.2.1 c.2.2.1 c.2.2.2.1 c.2.2.2.2.1 c.2.2.2.2.2.1 c.2.2.2.2.2.2
def Bc(w:Nat):Z->V->V->R0:=λa b c=>ob (tC w a b c) λd=>bif !ah d 0 then some (ae 0 [],d) else ob (rQ w a b) λe=>ax e λf=>ax e λg=>bif Nat.blt 0 1&&Nat.beq 1 1&&Nat.ble 1 10000&&(f.ble g&&g.ble 1000000000) then ob (xU w a b) λh=>bif Nat.beq 2 2&&(0+Nat.min 2 f*1).ble (rep g (Value.int .u8 0).cells.toList,5).1.length then bif ah a 1 then bif Nat.beq 2 2&&(0+Nat.min 2 f*1).ble (aQ 0 (EJ f) (rep g (Value.int .u8 0).cells.toList,5).1,5).1.length then ob (rR w 2 42 2 f g a h.1 c 0 (aQ 0 (List.take (Nat.min 2 f*1) (List.map (λ(b:UInt8)=>Value.int .u8 (Int.ofNat b.toNat)) (ByteArray.mk #[73,73]).data.toList)) (aQ 0 (EJ f) (rep g (Value.int .u8 0).cells.toList,5).1,5).1)) λi=>Mb w b c i else none else ob (rR w 2 42 2 f g a h.1 c 0 (aQ 0 (EJ f) (rep g (Value.int .u8 0).cells.toList,5).1)) λj=>Mb w b c j else none else none
def vl(w:Nat):Z->V->V->R0:=sR (Bc w)
def yq(w:Nat):Z->V->V->V->V->V->V->V->O (Z×V×Z×V×Z×V×Z×V×Z×V):=λa b c d e f g h=>some (0,b,2,c,3,d,4,e,1,f)
def Nq(w:Nat):O V:=some (xq [(0,256,[3,4],1),(0,257,[3,4],1),(0,259,[3],1),(0,274,[3],1),(0,296,[3],1),(0,531,[3],1),(0,270,[2],0),(0,271,[2],0),(0,272,[2],0),(0,305,[2],0),(0,315,[2],0),(0,33432,[2],0),(0,306,[2],20),(0,282,[5],1),(0,283,[5],1),(1,256,[3,4],1),(1,257,[3,4],1),(1,259,[3],1),(1,274,[3],1),(1,296,[3],1),(1,531,[3],1),(1,270,[2],0),(1,271,[2],0),(1,272,[2],0),(1,305,[2],0),(1,315,[2],0),(1,33432,[2],0),(1,306,[2],20),(1,282,[5],1),(1,283,[5],1),(2,33434,[5],1),(2,33437,[5],1),(2,37378,[5],1),(2,37386,[5],1),(2,34850,[3],1),(2,37383,[3],1),(2,37384,[3],1),(2,37385,[3],1),(2,40961,[3],1),(2,41986,[3],1),(2,36864,[7],4),(2,37121,[7],4),(2,40960,[7],4),(2,37377,[10],1),(2,37380,[10],1),(2,36867,[2],20),(2,36868,[2],20),(2,40962,[3,4],1),(2,40963,[3,4],1),(2,34855,[3],0),(2,37510,[7],0),(2,37520,[2],0),(2,41728,[7],1),(2,42016,[2],33),(2,42034,[5],4),(3,0,[1],4),(3,5,[1],1),(3,6,[5],1),(3,1,[2],2),(3,3,[2],2),(3,2,[5],3),(3,4,[5],3),(3,7,[5],3),(3,18,[2],0),(3,29,[2],11),(4,1,[2],4),(4,2,[7],4),(5,45056,[7],4),(5,45313,[4],1),(5,45569,[4],1),(5,45570,[4],1),(5,45572,[5],1),(5,45574,[5],1),(5,45573,[10],1),(5,45576,[10],1)])
def N4(w:Nat):V->Z->Z->O Z:=λa b c=>ak a λd=>lp (α:=V->Z->Z->Z->Z->O Z) (λ_ _ _ _ _=>none) (λj k l m n o=>bif ai m l then ax m λp=>aC 2 p k λq=>af q λr s=>aq .i64 r λt=>af s λu v=>aq .i64 u λy=>bif bif ah n t then bif ah o y then true else false else false then some m else j k l (ag .i64 (m.add 1)) n o else some (-1)) w a (Int.ofNat d) 0 b c
def NT(w:Nat):V->Z->Z->O B:=λa b c=>ob (N4 w a b c) λd=>some !ai d 0
def Gf(w:Nat):Z->Z->O B:=λa b=>ob (NT w (ae 8 (List.drop 0 [Value.int .i64 0,Value.int .i64 34665,Value.int .i64 0,Value.int .i64 34853,Value.int .i64 1,Value.int .i64 513,Value.int .i64 1,Value.int .i64 514,Value.int .i64 2,Value.int .i64 37500,Value.int .i64 2,Value.int .i64 40965,Value.int .i64 5,Value.int .i64 45057,Value.int .i64 5,Value.int .i64 45058])) a b) λc=>some c
def NU(w:Nat):V->Z->O Z:=λa b=>ak a λc=>lp (α:=V->Z->Z->Z->O Z) (λ_ _ _ _=>none) (λh i j k l=>bif ai l k then ax l λm=>aC 1 m i λn=>af n λo p=>aq .i64 o λq=>bif ah j q then some l else h i j k (ag .i64 (l.add 1)) else some (-1)) w a b (Int.ofNat c) 0
def Gg(w:Nat):V->Z->O B:=λa b=>ob (NU w a b) λc=>some !ai c 0
def Bi(w:Nat):V->Z->Z->Z->Z->V->O B:=λa b c d e f=>bif ai b 0 then some false else bif !ai b 6 then some false else bif ai c 0 then some false else bif ai 65535 c then some false else ob (Gf w b c) λg=>bif g then some false else ob (pR w d e f) λh=>bif !h then some false else zV pS.T 402 a (Value.agg (Array.mk [Value.int .i64 b,Value.int .i64 c])) #[Value.slice none 0 0,Value.int .i64 0].toList λi j=>af j λk l=>af l λm n=>aq .i64 m λo=>bif j.length.beq [SV.v k,SV.i IntKind.i64 o].length then bif !i then some true else ob (Gg w k d) λp=>bif p then bif ah o 0 then some true else some (ah o e) else some false else none
def nv(w:Nat):Z->V->O B:=λa b=>ob (Nq w) λc=>ak b λd=>lp (α:=Z->V->V->V->Z->Z->O B) (λ_ _ _ _ _ _=>none) (λk l m n o p q=>bif ai q p then ax q λr=>aC 4 r o λs=>af s λt u=>aq .i64 t λv=>af u λy z=>aq .i64 y λa0=>af z λa1 a2=>aq .i64 a1 λa3=>af a2 λa4 a5=>bif ai 0 q then ax (ag .i64 (q.sub 1)) λa6=>aC 4 a6 m λa7=>af (List.drop 0 a7) λa8 a9=>aq .i64 a8 λb0=>bif !ai b0 v then some false else ob (Bi w n l v a0 a3 a4) λb1=>bif !b1 then some false else k l m n o p (ag .i64 (q.add 1)) else ob (Bi w n l v a0 a3 a4) λb2=>bif !b2 then some false else k l m n o p (ag .i64 (q.add 1)) else bif !ai l 0 then some (ai l 6) else some false) w a b c b (Int.ofNat d) 0
def Gk(w:Nat):V->O Z:=λa=>ak a λb=>bif ai (Int.ofNat b) 1 then none else aC 1 0 a λc=>af c λd e=>aq .i64 d λf=>lp (α:=V->Z->Z->O Z) (λ_ _ _=>none) (λj k l m=>ak k λn=>bif ai m (Int.ofNat n) then ax m λo=>aC 1 o k λp=>af p λq r=>aq .i64 q λs=>j k (bif bif true then ai l s else ai s l then s else l) (ag .i64 (m.add 1)) else some l) w a f 1
def xT(w:Nat):V->O B:=λa=>ob (Gk w a) λb=>some (ai 0 b)
def Md(w:Nat)(a:Z)(b:V)(c:V)(d:V)(e:V)(f:V)(g:V)(h:V):O Z:=ob (yq w a b c d e f g h) λi=>ob (nv w i.1 i.2.1) λj=>bif !j then some 6 else ob (nv w i.2.2.1 i.2.2.2.1) λk=>bif !k then some 6 else ob (nv w i.2.2.2.2.1 i.2.2.2.2.2.1) λl=>bif !l then some 6 else ob (nv w i.2.2.2.2.2.2.1 i.2.2.2.2.2.2.2.1) λm=>bif !m then some 6 else ob (nv w i.2.2.2.2.2.2.2.2.1 i.2.2.2.2.2.2.2.2.2) λn=>bif !n then some 6 else ak g λo=>bif ai 65536 (Int.ofNat o) then some 6 else ak b λp=>ak c λq=>ak d λr=>ak e λs=>ak g λt=>ob (xT w (ae 5 (List.drop 0 [Value.int .i64 (Int.ofNat p),Value.int .i64 (Int.ofNat q),Value.int .i64 (Int.ofNat r),Value.int .i64 (Int.ofNat s),Value.int .i64 (Int.ofNat t)]))) λu=>bif !u then some 6 else some 0
def Bk(w:Nat):Z->V->V->V->V->V->V->V->O Z:=λa b c d e f g h=>bif !ah a 1 then bif !ah a 2 then some 1 else Md w a b c d e f g h else Md w a b c d e f g h
def Gj(w:Nat):V->O L:=λa=>ak a λb=>bif Nat.blt 0 b then cn 4 a λc d=>bif d.length.beq (c*4)&&(Nat.ble 0 0&&Nat.beq 73 73) then bif(0+c).ble 0 then bif(0+d.length).ble 0 then none else none else bif aw c&&(aw 0&&(Builtin.nextslicecap (0+c) 0).ble 5000000000) then some (List.take 0 (List.drop 0 [])++d) else none else none else none
def EG(a:V):O V:=ak a λb=>bif Nat.blt 0 b then cn 1 a λc d=>bif d.length.beq (c*1)&&(Nat.ble 0 0&&Nat.beq 5 5) then bif(0+c).ble 0 then bif(0+d.length).ble 0 then some (ae (0+c) (List.drop 0 (aQ 0 d []))) else none else bif aw c&&(aw 0&&(Builtin.nextslicecap (0+c) 0).ble 5000000000) then some (ae ((List.take 0 (List.drop 0 [])++d).length/1) (List.take 0 (List.drop 0 [])++d)) else none else none else none
def No(w:Nat):V->O V:=λa=>EG a
def aiS(w:Nat):O V:=some (ae 0 (List.drop 0 (aQ 0 [] [])))
def aiT(w:Nat):O V:=some (ae 0 [])
def nw(w:Nat):V->O V:=λx=>ak x λn=>bif Nat.beq n 0 then some (ae 0 []) else No w x
def NA(w:Nat):V->O V:=λa=>ob (Gj w a) λb=>lp (α:=Z->Z->L->O V) (λ_ _ _=>none) (λf g h i=>bif ai h g then ax h λj=>bif Nat.beq 4 4&&(j*4).blt i.length then af (List.drop (0+j*4+1+2) i) λk l=>ob (nw w k) λm=>ax h λn=>bif Nat.beq 4 4&&(n*4).blt i.length then bif(SV.v m).cells.length.beq 1&&(0+n*4+1+2+1).ble i.length then f g (ag .i64 (h.add 1)) (aQ (0+n*4+1+2) [m] i) else none else none else none else some (ae (i.length/4) i)) w (Int.ofNat (b.length/4)) 0 b
def aji(w:Nat):O V:=some (ae 0 (List.drop 0 (aQ 0 [] [])))
def ai6(w:Nat):O V:=some (ae 0 (List.drop 0 (aQ 0 [] [])))
def ajj(w:Nat):O V:=some (ae 0 [])
def ai7(w:Nat):O V:=some (ae 0 [])
def mc(w:Nat):V->O V:=λx=>ak x λn=>bif Nat.beq n 0 then some (ae 0 []) else NA w x
def Gl(w:Nat):V->O (Z×Z×Z×V):=λa=>ak a λb=>ob (nw w a) λc=>some (37500,7,Int.ofNat b,c)
def tB(w:Nat):Z->Z->V->O (Z×Z×V):=λa b c=>ob (nw w c) λd=>some (a,b,d)
def Gu(w:Nat):Z->O B:=λa=>some !ah a a
def NF(w:Nat):Z->Z->O Z:=λa b=>ob (Gu w a) λc=>ob (Gu w b) λd=>bif c then bif d then some 0 else some (-1) else bif d then some 1 else bif ai a b then some (-1) else bif ai b a then some 1 else some 0
def vq(w:Nat):Z->Z->Z->V->Z->O Z:=λa b c d e=>ob (NF w a e) λf=>some f
def EL(a:Z)(b:Z):=(ag .i64 ((ag .u64 (ag .i64 (a.add b))).fdiv (2^1)))
def ND(w:Nat):V->Z->R1:=λa b=>ak a λc=>lp (α:=V->Z->Z->Z->Z->R1) (λ_ _ _ _ _=>none) (λi j k l m n=>bif ai m n then ax (EL m n) λo=>aC 4 o j λp=>af p λq r=>aq .i64 q λs=>af r λt u=>aq .i64 t λv=>af u λy z=>aq .i64 y λa0=>af z λa1 a2=>ob (vq w s v a0 a1 k) λa3=>bif ai a3 0 then i j k l (ag .i64 ((EL m n).add 1)) n else i j k l m (EL m n) else bif ai m l then ax m λa4=>aC 4 a4 j λa5=>af a5 λa6 a7=>aq .i64 a6 λa8=>af a7 λa9 b0=>aq .i64 a9 λb1=>af b0 λb2 b3=>aq .i64 b2 λb4=>af b3 λb5 b6=>ob (vq w a8 b1 b4 b5 k) λb7=>some (m,ah b7 0) else some (m,false)) w a b (Int.ofNat c) 0 (Int.ofNat c)
def xS(w:Nat):V->Z->R1:=λa b=>ob (ND w a b) λc=>some (c.1,c.2)
def Bn(w:Nat):V->Z->Z->Z->V->O V:=xz (tB w) (xS w)
def Mk(w:Nat)(a:V)(b:V):R9:=ak a λc=>bif ai 0 (Int.ofNat c) then ob (mc w a) λd=>some (b,ae 1 (List.drop 0 [Value.int .i64 40965,d,ae 0 [],ae 0 []]),ae 0 []) else some (b,ae 0 [],ae 0 [])
def F7(w:Nat):Z->V->V->V->V->V->V->V->R9:=λa b c d e f g h=>ob (mc w c) λi=>ak g λj=>bif ai 0 (Int.ofNat j) then ob (Gl w g) λk=>ob (Bn w i k.1 k.2.1 k.2.2.1 k.2.2.2) λl=>Mk w e l else Mk w e i
def t8:ByteArray:=⟨⟨List.replicate 1 0++List.replicate 1 1++List.replicate 2 2++List.replicate 4 3++List.replicate 8 4++List.replicate 16 5++List.replicate 32 6++List.replicate 64 7++List.replicate 128 8⟩⟩
def X6(w:Nat):Z->O Z:=λa=>bif !ai a 4294967296 then bif !ai (a.fdiv (2^32)) 65536 then bif !ai ((a.fdiv (2^32)).fdiv (2^16)) 256 then ax (ag .u8 (((a.fdiv (2^32)).fdiv (2^16)).fdiv (2^8))) λb=>ob (qK t8 b) λc=>some (ag .i64 ((ag .i64 ((ag .i64 (Int.add 32 16)).add 8)).add (ag .i64 (Int.ofNat c.toNat)))) else ax (ag .u8 ((a.fdiv (2^32)).fdiv (2^16))) λd=>ob (qK t8 d) λe=>some (ag .i64 ((ag .i64 (Int.add 32 16)).add (ag .i64 (Int.ofNat e.toNat)))) else bif !ai (a.fdiv (2^32)) 256 then ax (ag .u8 ((a.fdiv (2^32)).fdiv (2^8))) λf=>ob (qK t8 f) λg=>some (ag .i64 ((ag .i64 (Int.add 32 8)).add (ag .i64 (Int.ofNat g.toNat)))) else ax (ag .u8 (a.fdiv (2^32))) λh=>ob (qK t8 h) λi=>some (ag .i64 (Int.add 32 (ag .i64 (Int.ofNat i.toNat)))) else bif !ai a 65536 then bif !ai (a.fdiv (2^16)) 256 then ax (ag .u8 ((a.fdiv (2^16)).fdiv (2^8))) λj=>ob (qK t8 j) λk=>some (ag .i64 ((ag .i64 ((ag .i64 (Int.add 0 16)).add 8)).add (ag .i64 (Int.ofNat k.toNat)))) else ax (ag .u8 (a.fdiv (2^16))) λl=>ob (qK t8 l) λm=>some (ag .i64 ((ag .i64 (Int.add 0 16)).add (ag .i64 (Int.ofNat m.toNat)))) else bif !ai a 256 then ax (ag .u8 (a.fdiv (2^8))) λn=>ob (qK t8 n) λo=>some (ag .i64 ((ag .i64 (Int.add 0 8)).add (ag .i64 (Int.ofNat o.toNat)))) else ax (ag .u8 a) λp=>ob (qK t8 p) λq=>some (ag .i64 (Int.add 0 (ag .i64 (Int.ofNat q.toNat))))
def XZ(w:Nat):Z->O Z:=λa=>ob (X6 w a) λb=>some b
def XR(w:Nat):Z->V->V->V->Z->V->V->V->O Z:=λa b c d e f g h=>some (ag .i64 (a.sub e))
def X5(w:Nat):V->Z->Z->O Unit:=λa b c=>lp (α:=V->Z->Z->Z->O PUnit) (λ_ _ _ _=>none) (λh i j k l=>bif ai l k then lp (α:=V->Z->Z->Z->Z->O PUnit) (λ_ _ _ _ _=>none) (λr s t u v y=>bif ai t y then ax y λz=>aC 4 z s λa0=>af a0 λa1 a2=>aq .i64 a1 λa3=>af a2 λa4 a5=>af a5 λa6 a7=>af a7 λa8 a9=>ax (ag .i64 (y.sub 1)) λb0=>aC 4 b0 s λb1=>af b1 λb2 b3=>aq .i64 b2 λb4=>af b3 λb5 b6=>af b6 λb7 b8=>af b8 λb9 c0=>ob (XR w a3 a4 a6 a8 b4 b5 b7 b9) λc1=>bif ai c1 0 then ax (ag .i64 (y.sub 1)) λc2=>aC 4 c2 s λc3=>af c3 λc4 c5=>aq .i64 c4 λc6=>af c5 λc7 c8=>af c8 λc9 d0=>af d0 λd1 d2=>ax y λd3=>aC 4 d3 s λd4=>af d4 λd5 d6=>aq .i64 d5 λd7=>af d6 λd8 d9=>af d9 λe0 e1=>af e1 λe2 e3=>ax y λe4=>aC 4 e4 s λe5=>none else h s t u (ag .i64 (v.add 1)) else h s t u (ag .i64 (v.add 1))) w i j k l l else some ()) w a b c (ag .i64 (b.add 1))
def XY(w:Nat):V->Z->Z->Z->O Unit:=λa b c d=>lp (α:=V->Z->Z->Z->B->B->O PUnit) (λ_ _ _ _ _ _=>none) (λk l m n o p q=>bif !ai 12 (ag .i64 (n.sub m)) then ob (X5 w l m n) λr=>some () else bif ah o 0 then none else bif !p then none else none) w a b c d true true
def oS(w:Nat):V->O Unit:=λa=>ak a λb=>ob (XZ w (ag .u64 (Int.ofNat b))) λc=>ob (XY w a 0 (Int.ofNat b) c) λd=>some ()
def AH(w:Nat)(a:N)(b:N):=(xT w (ae 2 (List.drop 0 [Value.int .i64 (Int.ofNat a),Value.int .i64 (Int.ofNat b)])))
def pN(a:V×V×V)(b:V):=(List.take 4 (List.drop 0 [Value.int .i64 34665,a.1,a.2.1,a.2.2])++List.take 4 (List.drop 0 [Value.int .i64 34853,b,ae 0 [],ae 0 []]))
def pO(a:V×V×V):=(List.take 4 (List.drop 0 [Value.int .i64 34665,a.1,a.2.1,a.2.2]))
def pP(a:V):=(List.take 4 (List.drop 0 [Value.int .i64 34853,a,ae 0 [],ae 0 []]))
def Bb(w:Nat):Z->V->V->V->V->V->V->V->O (Z×V×Z):=λa b c d e f g h=>ob (Bk w a b c d e f g h) λi=>bif !ah i 0 then some (0,ae 0 [],i) else ob (mc w b) λj=>ak c λk=>ak e λl=>ak g λm=>ob (xT w (ae 3 (List.drop 0 [Value.int .i64 (Int.ofNat k),Value.int .i64 (Int.ofNat l),Value.int .i64 (Int.ofNat m)]))) λn=>bif n then ob (F7 w a b c d e f g h) λo=>ak d λp=>bif ai 0 (Int.ofNat p) then ob (mc w d) λq=>ak f λr=>ak h λs=>ob (AH w r s) λt=>bif t then ob (mc w f) λu=>ob (nw w h) λv=>ob (oS w (ae ((pN o q).length/4) (pN o q))) λy=>some (a,ae ((List.take 3 (List.drop 0 [j,ae ((pN o q).length/4) (pN o q),ae 0 []])++List.take 3 (List.drop 0 [u,ae 0 [],v])).length/3) (List.take 3 (List.drop 0 [j,ae ((pN o q).length/4) (pN o q),ae 0 []])++List.take 3 (List.drop 0 [u,ae 0 [],v])),0) else ob (oS w (ae ((pN o q).length/4) (pN o q))) λz=>some (a,ae 1 [j,ae ((pN o q).length/4) (pN o q),ae 0 []],0) else ak f λa0=>ak h λa1=>ob (AH w a0 a1) λa2=>bif a2 then ob (mc w f) λa3=>ob (nw w h) λa4=>ob (oS w (ae ((pO o).length/4) (pO o))) λa5=>some (a,ae ((List.take 3 (List.drop 0 [j,ae ((pO o).length/4) (pO o),ae 0 []])++List.take 3 (List.drop 0 [a3,ae 0 [],a4])).length/3) (List.take 3 (List.drop 0 [j,ae ((pO o).length/4) (pO o),ae 0 []])++List.take 3 (List.drop 0 [a3,ae 0 [],a4])),0) else ob (oS w (ae ((pO o).length/4) (pO o))) λa6=>some (a,ae 1 [j,ae ((pO o).length/4) (pO o),ae 0 []],0) else ak d λa7=>bif ai 0 (Int.ofNat a7) then ob (mc w d) λa8=>ak f λa9=>ak h λb0=>ob (AH w a9 b0) λb1=>bif b1 then ob (mc w f) λb2=>ob (nw w h) λb3=>ob (oS w (ae ((pP a8).length/4) (pP a8))) λb4=>some (a,ae ((List.take 3 (List.drop 0 [j,ae ((pP a8).length/4) (pP a8),ae 0 []])++List.take 3 (List.drop 0 [b2,ae 0 [],b3])).length/3) (List.take 3 (List.drop 0 [j,ae ((pP a8).length/4) (pP a8),ae 0 []])++List.take 3 (List.drop 0 [b2,ae 0 [],b3])),0) else ob (oS w (ae ((pP a8).length/4) (pP a8))) λb5=>some (a,ae 1 [j,ae ((pP a8).length/4) (pP a8),ae 0 []],0) else ak f λb6=>ak h λb7=>ob (AH w b6 b7) λb8=>bif b8 then ob (mc w f) λb9=>ob (nw w h) λc0=>ob (oS w (ae 0 [])) λc1=>some (a,ae ((List.take 3 (List.drop 0 [j,ae 0 [],ae 0 []])++List.take 3 (List.drop 0 [b9,ae 0 [],c0])).length/3) (List.take 3 (List.drop 0 [j,ae 0 [],ae 0 []])++List.take 3 (List.drop 0 [b9,ae 0 [],c0])),0) else ob (oS w (ae 0 [])) λc2=>some (a,ae 1 (List.drop 0 [j,ae 0 [],ae 0 []]),0)
def Bd(w:Nat):O V:=some (ae 5 [ae 2 (List.drop 0 [Value.int .i64 34665,Value.int .i64 2,Value.int .i64 34853,Value.int .i64 3]),Value.int .i64 0,Value.int .i64 0,Value.int .i64 1,ae 0 [],Value.int .i64 513,Value.int .i64 514,Value.int .i64 (-1),ae 1 (List.drop 0 [Value.int .i64 40965,Value.int .i64 4]),Value.int .i64 0,Value.int .i64 0,Value.int .i64 (-1),ae 0 [],Value.int .i64 0,Value.int .i64 0,Value.int .i64 (-1),ae 0 [],Value.int .i64 0,Value.int .i64 0,Value.int .i64 (-1)])
def GX(w:Nat):Z->V->V->V->V->V->V->V->R0:=λa b c d e f g h=>ob (Bb w a b c d e f g h) λi=>bif !ah i.2.2 0 then some (ae 0 [],i.2.2) else ob (Bd w) λj=>ob (Bc w i.1 i.2.1 j) λk=>some (k.1,k.2)
def GW(w:Nat):Z->V->V->V->V->V->V->V->O (Z×Z):=λa b c d e f g h=>ob (Bb w a b c d e f g h) λi=>bif !ah i.2.2 0 then some (0,i.2.2) else ob (rQ w i.1 i.2.1) λj=>some (ag .i64 (Int.sub 65527 j),0)
def Bt(w:Nat):Z->V->V->V->V->V->V->V->R0:=yS (GW w) (GX w)
def A5(w:Nat):V->Z->R5:=λa b=>ob (xS w a b) λc=>bif !c.2 then some (0,0,ae 0 [],false) else ax c.1 λd=>aC 4 d a λe=>af (List.drop 1 e) λf g=>aq .i64 f λh=>af g λi j=>aq .i64 i λk=>af j λl m=>ob (tB w h k l) λn=>some (n.1,n.2.1,n.2.2,true)
def yc(w:Nat):V->Z->O V:=wB (tB w) (xS w)
abbrev Cn:=Value->Int->Int->Int->Value->Value->Value->Value->Value->Value->Value->Option (Bool×Int×Value×Value×Value×Value×Value×Value×Value)
abbrev Cj:=Value->Int->Int->Int->Value->Value->Value->Value->Value->Value->Value->Int->Value->Value->Value->Value->Value->Value->Value->Option (Int×Value×Value×Value×Value×Value×Value×Value×Int)
abbrev Ci:=Value->Int->Int->Int->Value->Int->Value->Value->Value->Value->Value->Value->Value->Int->Value->Value->Value->Value->Value->Value->Value->Option (Int×Value×Value×Value×Value×Value×Value×Value×Int)
def AJ(w:Nat)(a:Z)(b:Z)(c:V)(d:V->Z->Z->Z->V->V->V->V->V->V->V->Cp)(e:Z)(f:V)(g:V)(h:V)(i:V)(j:V)(k:V)(l:V):Cp:=bif ai a b then ax a λm=>aC 4 m c λn=>af n λo p=>aq .i64 o λq=>af p λr s=>af s λt u=>af u λv y=>ob (mc w r) λz=>d c b (ag .i64 (a.add 1)) e f g h z i j k else some (true,e,f,g,h,l,i,j,k)
def Ea(w:Nat):Cn->Cn:=(λa b c d e f g h i j k l=>AJ w d c b a e f g h j k l i)
def UE:Cn:=(λa b c d e f g h i j k=>none)
def Gc(w:Nat):V->V->V->Z->V->V->V->V->V->V->V->Cp:=λa b c d e f g h i j k=>ob (A5 w a 37500) λl=>bif l.2.2.2 then bif !ah l.1 7 then some (false,d,e,f,g,h,i,j,k) else ob (yc w a 37500) λm=>lP l.2.2.1 l.2.2.1 (ak b λn=>lp UE (Ea w) w b (Int.ofNat n) 0 d e m g h i l.2.2.1 k) else ob (yc w a 37500) λo=>lP l.2.2.1 l.2.2.1 (ak b λp=>lp (α:=V->Z->Z->Z->V->V->V->V->V->V->V->Cp) (λ_ _ _ _ _ _ _ _ _ _ _=>none) (λa3 a4 a5 a6 a7 a8 a9 b0 b1 b2 b3 b4=>AJ w a6 a5 a4 a3 a7 a8 a9 b0 b2 b3 b4 b1) w b (Int.ofNat p) 0 d e o g h i l.2.2.1 k)
def DB(w:Nat):Cj->Cj:=(λa b c d e f g h i j k l m n o p q r s t=>bif ai d c then ax d λu=>aC 3 u b λv=>af v λy z=>af z λa0 a1=>af a1 λa2 a3=>ob (mc w y) λa4=>ob (nw w a2) λa5=>a b c (ag .i64 (d.add 1)) e f g h i j k l m n o p q a4 s a5 else ob (Bk w m n o p q r s t) λa6=>bif !ah a6 0 then some (0,ae 0 [],ae 0 [],ae 0 [],ae 0 [],ae 0 [],ae 0 [],ae 0 [],6) else some (m,n,o,p,q,r,s,t,0))
def SL:Cj:=(λa b c d e f g h i j k l m n o p q r s=>none)
def DA(w:Nat):Ci->Ci:=(λa b c d e f g h i j k l m n o p q r s t u v=>bif ai d c then ax d λy=>aC 4 y b λz=>af z λa0 a1=>aq .i64 a0 λa2=>af a1 λa3 a4=>af a4 λa5 a6=>af a6 λa7 a8=>bif ah a2 34853 then ob (mc w a3) λa9=>a b c (ag .i64 (d.add 1)) e f g h i j k l m n o p q a9 s t u v else ob (Gc w a3 a5 a7 o p q r s t u v) λb0=>bif !b0.1 then some (0,ae 0 [],ae 0 [],ae 0 [],ae 0 [],ae 0 [],ae 0 [],ae 0 [],6) else a b c (ag .i64 (d.add 1)) e f g h i j k l m n b0.2.1 b0.2.2.1 b0.2.2.2.1 b0.2.2.2.2.1 b0.2.2.2.2.2.1 b0.2.2.2.2.2.2.1 b0.2.2.2.2.2.2.2.1 b0.2.2.2.2.2.2.2.2 else ak f λb1=>bif b1.ble b1&&Nat.ble 1 b1 then eJ 3 1 b1 f λb2=>ak b2 λb3=>lp SL (DB w) w b2 (Int.ofNat b3) 0 g h i j k l m n o p q r s t u v else none)
def SK:Ci:=(λa b c d e f g h i j k l m n o p q r s t u=>none)
def F1(w:Nat):Z->V->Cq:=λa b=>ob (Bd w) λc=>ob (tC w a b c) λd=>bif !ah d 0 then some (0,ae 0 [],ae 0 [],ae 0 [],ae 0 [],ae 0 [],ae 0 [],ae 0 [],1) else aC 3 0 b λe=>af (List.drop 0 e) λf g=>ob (mc w f) λh=>aC 3 0 b λi=>af (List.drop 1 i) λj k=>ak j λl=>lp SK (DA w) w j (Int.ofNat l) 0 a b 0 (ae 0 []) (ae 0 []) (ae 0 []) (ae 0 []) (ae 0 []) (ae 0 []) (ae 0 []) a h (ae 0 []) (ae 0 []) (ae 0 []) (ae 0 []) (ae 0 []) (ae 0 [])
def Bj(w:Nat):Z->Z->Z->Z->Z->O (Z×Z×Z×Z×Z):=λa b c d e=>some (a,b,c,d,e)
def kN(w:Nat):O (Z×Z×Z×Z×Z):=some (4,4,4,2,2)
def FQ(w:Nat):Z->Z->Z->Z->Z->Z->R2:=λa b c d e f=>ob (Bj w a b c d e) λg=>ob (kN w) λh=>ob (ia w g.1 h.1 f) λi=>bif !i.2 then some (ae 0 [],false) else cn 1 i.1 λj k=>bif aw j&&k.length.beq (j*1) then ob (kN w) λl=>ob (ia w g.2.1 l.2.1 f) λm=>bif !m.2 then some (ae 0 [],false) else cn 1 m.1 λn o=>bif aw k.length&&(aw n&&o.length.beq (n*1)) then ob (kN w) λp=>ob (ia w g.2.2.1 p.2.2.1 f) λq=>bif !q.2 then some (ae 0 [],false) else cn 1 q.1 λr s=>bif aw (k++o).length&&(aw r&&s.length.beq (r*1)) then ob (kN w) λt=>ob (ia w g.2.2.2.1 t.2.2.2.1 f) λu=>bif !u.2 then some (ae 0 [],false) else cn 1 u.1 λv y=>bif aw (k++o++s).length&&(aw v&&y.length.beq (v*1)) then ob (kN w) λz=>ob (ia w g.2.2.2.2 z.2.2.2.2 f) λa0=>bif !a0.2 then some (ae 0 [],false) else cn 1 a0.1 λa1 a2=>bif aw (k++o++s++y).length&&(aw a1&&a2.length.beq (a1*1)) then some (ae ((k++o++s++y++a2).length/1) (k++o++s++y++a2),true) else none else none else none else none else none
def X2(w:Nat):Z->Z->R1:=λa b=>ob (qF w b 2) λc=>bif !c then some (0,false) else ob (xR w b) λd=>bif ai a (ag .i64 ((ag .i64 (Int.sub 0 d)).tdiv 2)) then some (0,false) else ob (xR w b) λe=>bif !ai a (ag .i64 (e.tdiv 2)) then some (0,false) else bif ai a 0 then ob (xR w b) λf=>some (ag .i64 (a.add f),true) else some (a,true)
def Mq(w:Nat)(a:Z)(b:Z):R2:=ob (X2 w a b) λc=>bif !c.2 then some (ae 0 [],false) else ob (ia w c.1 b 2) λd=>some (d.1,d.2)
def Gb(w:Nat):Z->Z->Z->Z->R2:=λa b c d=>bif ah c 2 then Mq w d b else bif ah c 4 then Mq w d b else ob (ia w d b 2) λe=>some (e.1,e.2)
def Ga(w:Nat):Z->V->Z->Z->Z->O (Z×Z×B×L):=λa b c d e=>ak b λf=>ak b λg=>lp (α:=Z->Z->Z->V->Z->Z->Z->Z->Z->Z->L->L->O (Z×Z×B×L)) (λ_ _ _ _ _ _ _ _ _ _ _ _=>none) (λt u v y z a0 a1 a2 a3 a4 a5 a6 a7=>bif ai a1 a0 then ax a1 λa8=>aC 1 a8 z λa9=>af a9 λb0 b1=>aq .i64 b0 λb2=>ob (Gb w u v y b2) λb3=>bif !b3.2 then some (0,0,false,[]) else cn 1 b3.1 λb4 b5=>bif aw a7.length&&(aw b4&&b5.length.beq (b4*1)) then t u v y z a0 (ag .i64 (a1.add 1)) a2 a3 a4 a5 a6 (a7++b5) else none else ob (pR w a4 a5 (ae (a7.length/1) a7)) λb6=>bif !b6 then some (0,0,false,[]) else some (a4,a5,true,a7)) w c d e b (Int.ofNat g) 0 0 0 a (Int.ofNat f) [] []
def Mm(w:Nat)(a:Z)(b:V)(c:Z×Z×Z):R5:=ob (Ga w a b c.1 c.2.1 c.2.2) λd=>some (d.1,d.2.1,ae (List.length d.2.2.2 /1) d.2.2.2,d.2.2.1)
def FU(w:Nat):Z->V->R5:=λa b=>ob (rS w a) λc=>bif !ah c.2.2 1 then bif !ah c.2.2 2 then some (0,0,ae 0 [],false) else Mm w a b c else Mm w a b c
def yn(w:Nat):O V:=some (ae 2 (List.drop 0 [ae 0 [],Value.int .i64 0,Value.int .i64 0,Value.int .i64 1,ae 0 [],Value.int .i64 0,Value.int .i64 0,Value.int .i64 (-1)]))
abbrev Hu:=Value->Int->Int->Int->Value->Value->List Value->Option (Value×Int)
def vc:=(List.drop 0 [Value.int .u8 48,Value.int .u8 49,Value.int .u8 48,Value.int .u8 48])
def u5(a:Z×Z×V×B)(b:L)(c:V):=(List.take 3 (List.drop 0 [ae 3 [Value.int .i64 45056,Value.int .i64 7,Value.int .i64 4,ae 4 (vc),Value.int .i64 45057,Value.int .i64 a.1,Value.int .i64 a.2.1,a.2.2.1,Value.int .i64 45058,Value.int .i64 7,Value.int .i64 (Int.ofNat (b.length/1)),ae (b.length/1) b],ae 0 [],ae 0 []])++List.take 3 (List.drop 0 [c,ae 0 [],ae 0 []]))
def u7(w:Nat)(a:Z)(b:Z)(c:V)(d:Z)(e:L)(f:V->Z->Z->Z->V->V->L->R0)(g:V)(h:V):R0:=bif ai a b then ax a λi=>aC 5 i c λj=>af j λk l=>aq .i64 k λm=>af l λn o=>aq .i64 n λp=>af o λq r=>aq .i64 q λs=>af r λt u=>aq .i64 t λv=>af u λy z=>aq .i64 y λa0=>ob (FQ w m p s v a0 d) λa1=>bif !a1.2 then some (ae 0 [],1) else cn 1 a1.1 λa2 a3=>bif aw e.length&&(aw a2&&a3.length.beq (a2*1)) then f c b (ag .i64 (a.add 1)) d g h (e++a3) else none else ob (nv w 5 h) λa4=>bif !a4 then some (ae 0 [],6) else bif ai 65536 (Int.ofNat (e.length/1)) then some (ae 0 [],7) else ak g λa5=>ob (FU w 4 (ae ([Value.int .i64 (Int.ofNat a5)].length/1) [Value.int .i64 (Int.ofNat a5)])) λa6=>ak h λa7=>bif ai 0 (Int.ofNat a7) then ob (yn w) λa8=>ob (vl w d (ae ((u5 a6 e h).length/3) (u5 a6 e h)) a8) λa9=>some (a9.1,a9.2) else ob (yn w) λb0=>ob (vl w d (ae 1 [ae 3 [Value.int .i64 45056,Value.int .i64 7,Value.int .i64 4,ae 4 (vc),Value.int .i64 45057,Value.int .i64 a6.1,Value.int .i64 a6.2.1,a6.2.2.1,Value.int .i64 45058,Value.int .i64 7,Value.int .i64 (Int.ofNat (e.length/1)),ae (e.length/1) e],ae 0 [],ae 0 []]) b0) λb1=>some (b1.1,b1.2)
def mY(w:Nat):Hu->Hu:=(λa b c d e f g h=>u7 w d c b e h a f g)
def qn:Hu:=(λa b c d e f g=>none)
def BG(w:Nat):Z->V->V->R0:=λa b c=>bif !ah a 1 then bif !ah a 2 then some (ae 0 [],1) else ak b λd=>bif ai (Int.ofNat d) 2 then some (ae 0 [],1) else ak b λe=>lp (α:=V->Z->Z->Z->V->V->L->R0) (λ_ _ _ _ _ _ _=>none) (λm n o p q r s t=>u7 w p o n q t m r s) w b (Int.ofNat e) 0 a b c [] else ak b λu=>bif ai (Int.ofNat u) 2 then some (ae 0 [],1) else ak b λv=>lp qn (mY w) w b (Int.ofNat v) 0 a b c []
def xP(w:Nat):O V:=some (ae 1 (List.drop 0 [ae 0 [],Value.int .i64 0,Value.int .i64 0,Value.int .i64 (-1)]))
def Mj(w:Nat)(a:V)(b:Z):R0:=ak a λc=>bif ah (Int.ofNat c) 0 then some (ae 0 [],1) else ob (nv w 5 a) λd=>bif !d then some (ae 0 [],6) else ob (xP w) λe=>ob (vl w b (ae 1 (List.drop 0 [a,ae 0 [],ae 0 []])) e) λf=>some (f.1,f.2)
def GY(w:Nat):Z->V->R0:=λa b=>bif !ah a 1 then bif !ah a 2 then some (ae 0 [],1) else Mj w b a else Mj w b a
abbrev Cw:=Value->Int->Int->Int->Value->List Value->Option (Value×Int)
abbrev Hw:=Value->Int->Int->Value->List Value->Option (Int×Value×List Value)
abbrev HH:=Int->Int->List Value->List Value->Option (Int×List Value×List Value)
def EN(a:Z)(b:Z)(c:Z):=(List.drop 0 [Value.int .i64 a,Value.int .i64 0,Value.int .i64 0,Value.int .i64 b,Value.int .i64 c])
def EC(w:Nat):Cw->Cw:=(λa b c d e f g=>bif ai d c then ax d λh=>aC 14 h b λi=>af i λj k=>aq .i64 j λl=>af k λm n=>af n λo p=>af p λq r=>af r λs t=>af t λu v=>af v λy z=>af z λa0 a1=>af a1 λa2 a3=>af a3 λa4 a5=>af a5 λa6 a7=>aq .i64 a6 λa8=>af a7 λa9 b0=>aq .i64 a9 λb1=>af b0 λb2 b3=>aq .i64 b2 λb4=>af b3 λb5 b6=>bif aw g.length&&(aw 1&&(List.take 5 (EN a8 b1 b4)).length.beq 5) then a b c (ag .i64 (d.add 1)) e f (g++List.take 5 (EN a8 b1 b4)) else none else ob (BG w e (ae (g.length/5) g) f) λb7=>some (b7.1,b7.2))
def VI:Cw:=(λa b c d e f=>none)
def Mo(w:Nat)(a:Z)(b:V)(c:Z):R0:=bif ah a 0 then some (ae 0 [],0) else ak b λd=>bif ah (Int.ofNat d) 0 then some (ae 0 [],0) else ob (GY w c b) λe=>some (e.1,e.2)
def GJ(w:Nat):V->Z->R0:=λa b=>ax b λc=>aC 14 c a λd=>af d λe f=>aq .i64 e λg=>af f λh i=>af i λj k=>af k λl m=>af m λn o=>af o λp q=>af q λr s=>af s λt u=>af u λv y=>af y λz a0=>af a0 λa1 a2=>aq .i64 a1 λa3=>af a2 λa4 a5=>aq .i64 a4 λa6=>af a5 λa7 a8=>aq .i64 a7 λa9=>af a8 λb0 b1=>bif ah b 0 then ak a λb2=>bif ai 1 (Int.ofNat b2) then ak a λb3=>lp VI (EC w) w a (Int.ofNat b3) 0 g b0 [] else Mo w b b0 g else Mo w b b0 g
def BI(w:Nat):Z->O Z:=λa=>bif ai a 1 then some 0 else some (ag .i64 ((ag .i64 ((ag .i64 (a.sub 1)).tdiv 65519)).add 1))
def BC(w:Nat):V->R0:=ze (BI w)
def vm(w:Nat):Z->V->Z->O ((V×Z)⊕(Z×Z×V×Z)):=λa b c=>ak b λd=>bif ai (ag .i64 ((Int.ofNat d).sub c)) a then ak b λe=>some (Sum.inr (Int.ofNat e,3,b,c)) else some (Sum.inl (b,c))
def xG(w:Nat):Z->O B:=λa=>bif ah a 216 then some true else some (ah a 217)
def xW(w:Nat):Z->O B:=λa=>bif !ai a 208 then some (ai a 216) else some false
def Bf(w:Nat):Z->O B:=λa=>bif !ai a 192 then bif ai a 255 then ob (xG w a) λb=>bif !b then ob (xW w a) λc=>some !c else some false else some false else some false
def EO(a:Z)(b:V×Z):O ((Z×V×Z)⊕(Z×Z×V×Z)):=some (Sum.inl (ag .i64 a,b.1,ag .i64 (Int.add b.2 2)))
def tq(w:Nat):V->Z->O ((Z×V×Z)⊕(Z×Z×V×Z)):=λa b=>ob (vm w 1 a b) λc=>dr c (λd=>ax d.2 λe=>aC 1 e d.1 λf=>af f λg h=>aq .u8 g λi=>bif !ah i 255 then some (Sum.inr (d.2,2,d.1,d.2)) else ob (vm w 2 d.1 d.2) λj=>dr j (λk=>ax (ag .i64 (Int.add k.2 1)) λl=>aC 1 l k.1 λm=>af m λn o=>aq .u8 n λp=>bif !ah k.2 0==ah (ag .i64 p) 216 then some (Sum.inr (k.2,2,k.1,k.2)) else bif !ah (ag .i64 p) 217 then bif !ah k.2 0 then ob (Bf w (ag .i64 p)) λq=>bif !q then some (Sum.inr (k.2,2,k.1,k.2)) else EO p k else EO p k else EO p k) λr=>some (Sum.inr (r.1,r.2.1,r.2.2.1,r.2.2.2))) λs=>some (Sum.inr (s.1,s.2.1,s.2.2.1,s.2.2.2))
def Bm(w:Nat):V->O Z:=λa=>ak a λb=>bif ai 0 (Int.ofNat b) then ax (ag .i64 ((Int.ofNat b).sub 1)) λc=>aC 1 c a λd=>af d λe f=>aq .u8 e λg=>bif ah g 255 then some 1 else some 0 else some 0
def xQ(w:Nat):V->O Z:=λa=>lp (α:=V->Z->O Z) (λ_ _=>none) (λd e f=>ak e λg=>bif ai (ag .i64 (f.add 1)) (Int.ofNat g) then ax f λh=>aC 1 h e λi=>af i λj k=>aq .u8 j λl=>bif ah l 255 then ax (ag .i64 (f.add 1)) λm=>aC 1 m e λn=>af n λo p=>aq .u8 o λq=>bif !ah q 0 then ax (ag .i64 (f.add 1)) λr=>aC 1 r e λs=>af s λt u=>aq .u8 t λv=>ob (xW w (ag .i64 v)) λy=>bif !y then some f else d e (ag .i64 (f.add 1)) else d e (ag .i64 (f.add 1)) else d e (ag .i64 (f.add 1)) else ak e λz=>ob (Bm w e) λa0=>some (ag .i64 ((Int.ofNat z).sub a0))) w a 0
def tj(w:Nat):Z->V->Z->O ((Z×V×V×V×Z)⊕(Z×Z×V×Z)):=λa b c=>ob (xG w a) λd=>bif d then some (Sum.inl (a,ae 0 [],ae 0 [],b,c)) else ob (vm w 2 b c) λe=>dr e (λf=>ob (jB w f.1 f.2 2 2) λg=>bif ai g.1 2 then some (Sum.inr (f.2,2,f.1,f.2)) else ob (vm w g.1 f.1 f.2) λh=>dr h (λi=>ak i.1 λj=>ax (ag .i64 (Int.add i.2 g.1)) λk=>ax (ag .i64 (Int.add i.2 2)) λl=>bif k.ble j&&l.ble k then eJ 1 l k i.1 λm=>ob (nw w m) λn=>bif ah a 218 then ak i.1 λo=>ax (ag .i64 (Int.add i.2 g.1)) λp=>bif o.ble o&&p.ble o then eJ 1 p o i.1 λq=>ob (xQ w q) λr=>ak i.1 λs=>ax (ag .i64 ((ag .i64 (Int.add i.2 g.1)).add r)) λt=>ax (ag .i64 (Int.add i.2 g.1)) λu=>bif t.ble s&&u.ble t then eJ 1 u t i.1 λv=>ob (nw w v) λy=>some (Sum.inl (a,n,y,i.1,ag .i64 ((ag .i64 (Int.add i.2 g.1)).add r))) else none else none else some (Sum.inl (a,n,ae 0 [],i.1,ag .i64 (Int.add i.2 g.1))) else none) λz=>some (Sum.inr (z.1,z.2.1,z.2.2.1,z.2.2.2))) λa0=>some (Sum.inr (a0.1,a0.2.1,a0.2.2.1,a0.2.2.2))
def xv(a:Z×Z×V×Z):R6:=bif ah a.2.1 a.2.1 then bif ah a.1 a.1 then bif ah a.2.1 a.2.1 then bif ah a.1 a.1 then bif ah a.2.1 a.2.1 then some (ae 0 [],0,a.1,a.2.1) else none else none else none else none else none
def rI(w:Nat)(a:V)(b:Z)(c:L)(d:Z->Z->Z->V->Z->L->R6)(e:Z)(f:Z)(g:Z):R6:=ob (tq w a b) λh=>dr h (λi=>ob (tj w i.1 i.2.1 i.2.2) λj=>dr j (λk=>bif aw c.length&&(aw 1&&(List.take 3 (List.drop 0 [Value.int .i64 k.1,k.2.1,k.2.2.1])).length.beq 3) then d e f g k.2.2.2.1 k.2.2.2.2 (c++List.take 3 (List.drop 0 [Value.int .i64 k.1,k.2.1,k.2.2.1])) else none) λl=>xv l) λm=>xv m
def yh(w:Nat):V->R6:=λa=>lp (α:=Z->Z->Z->V->Z->L->R6) (λ_ _ _ _ _ _=>none) (λh i j k l m n=>bif ah (Int.ofNat (n.length/3)) 0 then rI w l m n h i j k else ax (ag .i64 ((Int.ofNat (n.length/3)).sub 1)) λo=>bif Nat.beq 3 3&&(o*3).blt n.length then af (List.drop (0+o*3+0) n) λp q=>aq .i64 p λr=>bif !ah r 217 then rI w l m n h i j k else bif ah m m then some (ae (n.length/3) n,m,0,0) else none else none) w 0 0 0 a 0 []
def FX(w:Nat):Z->V->V->O B:=λa b c=>some (ah a 218)
def Nj(w:Nat):V->O Z:=λa=>ak a λb=>lp (α:=V->Z->Z->O Z) (λ_ _ _=>none) (λf g h i=>bif ai i h then ax i λj=>aC 3 j g λk=>af k λl m=>aq .i64 l λn=>af m λo p=>af p λq r=>ob (FX w n o q) λs=>bif s then some i else f g h (ag .i64 (i.add 1)) else some (-1)) w a (Int.ofNat b) 0
def E6(w:Nat):V->O B:=λa=>ob (Nj w a) λb=>some !ai b 0
def ME(w:Nat):V->R0:=λa=>ob (yh w a) λb=>bif !ah b.2.2.2 0 then some (ae 0 [],b.2.2.2) else ak a λc=>bif ai b.2.1 (Int.ofNat c) then some (ae 0 [],2) else ob (E6 w b.1) λd=>bif !d then some (ae 0 [],2) else some (b.1,0)
def Nn(w:Nat):Z->O B:=λa=>bif !ai a 224 then some (ai a 240) else some false
def AW(w:Nat):Z->V->V->O B:=λa b c=>ob (Nn w a) λd=>some d
def Nk(w:Nat):V->O Z:=λa=>ak a λb=>lp (α:=V->Z->Z->O Z) (λ_ _ _=>none) (λf g h i=>bif ai i h then ax i λj=>aC 3 j g λk=>af k λl m=>aq .i64 l λn=>af m λo p=>af p λq r=>ob (AW w n o q) λs=>bif s then some i else f g h (ag .i64 (i.add 1)) else some (-1)) w a (Int.ofNat b) 0
def E8(w:Nat):V->O B:=λa=>ob (Nk w a) λb=>some !ai b 0
def yg(w:Nat):V->O B:=λa=>ob (ME w a) λb=>bif ah b.2 0 then ob (E8 w b.1) λc=>some !c else some false
def rU(w:Nat):V->V->O B:=λa b=>cn 1 a λc d=>ob (oV d) λe=>cn 1 b λf g=>ob (oV g) λh=>some (mq (mkStr e).data.toList (mkStr h).data.toList)
def xB(w:Nat):V->V->O B:=λa b=>ak a λc=>ak b λd=>bif !ai (Int.ofNat c) (Int.ofNat d) then ak b λe=>ak a λf=>bif e.ble f&&Nat.ble 0 e then eJ 1 0 e a λg=>ob (rU w g b) λh=>some h else none else some false
def AK(w:Nat)(a:V):O B:=ob (xB w a (ae 4 (List.drop 0 [Value.int .u8 77,Value.int .u8 80,Value.int .u8 70,Value.int .u8 0]))) λb=>some b
def BD(w:Nat):V->O B:=λa=>AK w a
def AM(a:Z)(b:V):=(List.drop 0 [Value.int .i64 a,b,ae 0 []])
def Od(w:Nat):Z->V->L->O L:=λa b c=>bif(List.take 3 (AM a b)).length.beq 3&&(Nat.ble 3 c.length&&Nat.beq 96 96) then some (List.take 3 (List.drop 0 c)++List.take 3 (AM a b)) else none
def yi(w:Nat):Z->V->L->O L:=λa b c=>bif aw c.length&&(aw 1&&(List.take 3 (AM a b)).length.beq 3) then some (c++List.take 3 (AM a b)) else none
def Bg(w:Nat):Z->V->V->Z->O B:=λa b c d=>bif ah a d then ak b λe=>ak c λf=>some (ah (ag .i64 ((Int.ofNat e).add (Int.ofNat f))) 0) else some false
def FZ(w:Nat):Z->V->V->O B:=λa b c=>ob (Bf w a) λd=>bif d then ak b λe=>bif !ai 65533 (Int.ofNat e) then ak c λf=>bif ah (Int.ofNat f) 0 then some true else bif ah a 218 then ob (xQ w c) λg=>ak c λh=>some (ah g (Int.ofNat h)) else some false else some false else some false
def FY(w:Nat):Z->V->V->O B:=λa b c=>ob (FZ w a b c) λd=>some !d
def Nl(w:Nat):V->O Z:=λa=>ak a λb=>lp (α:=V->Z->Z->O Z) (λ_ _ _=>none) (λf g h i=>bif ai i h then ax i λj=>aC 3 j g λk=>af k λl m=>aq .i64 l λn=>af m λo p=>af p λq r=>ob (FY w n o q) λs=>bif s then some i else f g h (ag .i64 (i.add 1)) else some (-1)) w a (Int.ofNat b) 0
def MG(w:Nat):V->O B:=λa=>ob (Nl w a) λb=>some !ai b 0
def Fh(w:Nat):V->O B:=λa=>ak a λb=>bif !ai (ag .i64 ((Int.ofNat b).sub 1)) 1 then aC 3 0 a λc=>af c λd e=>aq .i64 d λf=>af e λg h=>af h λi j=>ob (Bg w f g i 216) λk=>bif k then ax (ag .i64 ((Int.ofNat b).sub 1)) λl=>aC 3 l a λm=>af m λn o=>aq .i64 n λp=>af o λq r=>af r λs t=>ob (Bg w p q s 217) λu=>bif u then ak a λv=>ax (ag .i64 ((Int.ofNat b).sub 1)) λy=>bif y.ble v&&Nat.ble 1 y then eJ 3 1 y a λz=>ob (MG w z) λa0=>some !a0 else none else some false else some false else some false
def vy(w:Nat):V->R0:=λa=>ob (Fh w a) λb=>bif !b then some (ae 0 [],1) else ak a λc=>lp (α:=V->Z->Z->L->R0) (λ_ _ _ _=>none) (λh i j k l=>bif ai k j then ax k λm=>aC 3 m i λn=>af n λo p=>aq .i64 o λq=>af p λr s=>af s λt u=>bif aw l.length&&(aw 2&&(List.take 2 (List.drop 0 [Value.int .u8 255,Value.int .u8 (ag .u8 q)])).length.beq 2) then ob (xG w q) λv=>bif v then h i j (ag .i64 (k.add 1)) (l++List.take 2 (List.drop 0 [Value.int .u8 255,Value.int .u8 (ag .u8 q)])) else ak r λy=>ob (ia w (ag .i64 ((Int.ofNat y).add 2)) 2 2) λz=>ob (tr w z.1 r t (l++List.take 2 (List.drop 0 [Value.int .u8 255,Value.int .u8 (ag .u8 q)]))) λa0=>h i j (ag .i64 (k.add 1)) a0 else none else some (ae (l.length/1) l,0)) w a (Int.ofNat c) 0 []
def Ms(w:Nat)(a:V×Z)(b:V×Z×Z×Z)(c:L):R0:=ak a.1 λd=>lp (α:=V->V->Z->Z->L->R0) (λ_ _ _ _ _=>none) (λj k l m n o=>bif ai n m then ax n λp=>aC 1 p l λq=>af q λr s=>ob (yi w 226 r o) λt=>j k l m (ag .i64 (n.add 1)) t else ak k λu=>bif u.ble u&&Nat.ble 1 u then eJ 3 1 u k λv=>cn 3 v λy z=>bif aw o.length&&(aw y&&z.length.beq (y*3)) then ob (vy w (ae ((o++z).length/3) (o++z))) λa0=>some (a0.1,a0.2) else none else none) w b.1 a.1 (Int.ofNat d) 0 c
def Mi(w:Nat)(a:V)(b:V)(c:V×Z)(d:V×Z):R0:=ak a λe=>bif ai 65533 (Int.ofNat e) then some (ae 0 [],7) else ob (yh w b) λf=>aC 3 0 f.1 λg=>af g λh i=>aq .i64 h λj=>af i λk l=>af l λm n=>ob (Od w 225 c.1 [Value.int .i64 j,k,m]) λo=>ak a λp=>bif ai 0 (Int.ofNat p) then ob (yi w 226 a o) λq=>Ms w d f q else Ms w d f o
def xX(w:Nat):Z->V->V->V->V->V->V->V->V->V->V->Z->Z->R0:=λa b c d e f g h i j k l m=>ob (Bt w a b c d e f g h) λn=>bif !ah n.2 0 then some (ae 0 [],n.2) else ob (BC w i) λo=>bif !ah o.2 0 then some (ae 0 [],o.2) else ob (yg w j) λp=>bif !p then some (ae 0 [],2) else ak k λq=>bif ai 0 (Int.ofNat q) then ob (BD w k) λr=>bif !r then some (ae 0 [],1) else Mi w k j n o else Mi w k j n o
def BE(w:Nat):V->O B:=λa=>ob (xB w a (ae 6 (List.drop 0 [Value.int .u8 69,Value.int .u8 120,Value.int .u8 105,Value.int .u8 102,Value.int .u8 0,Value.int .u8 0]))) λb=>some b
def te(a:B)(b:V)(c:Z)(d:V)(e:V)(f:V)(g:V)(h:V)(i:V)(j:V)(k:V)(l:V)(m:V)(n:Z)(o:Z):Cr:=bif !a then some (ae 0 [],false,b,c,d,e,f,g,h,i,j,k,l,m,n,o) else aC 3 0 b λp=>af p λq r=>aq .i64 q λs=>af r λt u=>af u λv y=>ak b λz=>bif z.ble z&&Nat.ble 1 z then eJ 3 1 z b λa0=>some (t,true,a0,c,d,e,f,g,h,i,j,k,l,m,n,o) else none
def GQ(w:Nat):Z->V->Z->V->V->V->V->V->V->V->V->V->V->Z->Z->Cr:=λa b c d e f g h i j k l m n o=>ak b λp=>bif ah (Int.ofNat p) 0 then some (ae 0 [],false,b,c,d,e,f,g,h,i,j,k,l,m,n,o) else aC 3 0 b λq=>af (List.drop 0 q) λr s=>aq .i64 r λt=>bif !ah t a then some (ae 0 [],false,b,c,d,e,f,g,h,i,j,k,l,m,n,o) else aC 3 0 b λu=>af (List.drop 1 u) λv y=>ob (BE w v) λz=>te z b c d e f g h i j k l m n o
def yj(w:Nat):Z->V->Z->V->V->V->V->V->V->V->V->V->V->Z->Z->Cr:=λa b c d e f g h i j k l m n o=>ak b λp=>bif ah (Int.ofNat p) 0 then some (ae 0 [],false,b,c,d,e,f,g,h,i,j,k,l,m,n,o) else aC 3 0 b λq=>af (List.drop 0 q) λr s=>aq .i64 r λt=>bif !ah t a then some (ae 0 [],false,b,c,d,e,f,g,h,i,j,k,l,m,n,o) else aC 3 0 b λu=>af (List.drop 1 u) λv y=>ob (BD w v) λz=>te z b c d e f g h i j k l m n o
def Oe(w:Nat):V->O V:=λa=>EG a
def aj5(w:Nat):O V:=some (ae 0 (List.drop 0 (aQ 0 [] [])))
def aj6(w:Nat):O V:=some (ae 0 [])
def GR(w:Nat):V->O V:=λx=>ak x λn=>bif Nat.beq n 0 then some (ae 0 []) else Oe w x
def A1(w:Nat):V->O B:=λa=>ob (xB w a (ae 12 (List.drop 0 [Value.int .u8 73,Value.int .u8 67,Value.int .u8 67,Value.int .u8 95,Value.int .u8 80,Value.int .u8 82,Value.int .u8 79,Value.int .u8 70,Value.int .u8 73,Value.int .u8 76,Value.int .u8 69,Value.int .u8 0]))) λb=>some b
def tG(w:Nat):Z->V->Z->V->V->V->V->V->V->V->V->V->V->Z->Z->Cr:=λa b c d e f g h i j k l m n o=>ak b λp=>bif ah (Int.ofNat p) 0 then some (ae 0 [],false,b,c,d,e,f,g,h,i,j,k,l,m,n,o) else aC 3 0 b λq=>af (List.drop 0 q) λr s=>aq .i64 r λt=>bif !ah t a then some (ae 0 [],false,b,c,d,e,f,g,h,i,j,k,l,m,n,o) else aC 3 0 b λu=>af (List.drop 1 u) λv y=>ob (A1 w v) λz=>te z b c d e f g h i j k l m n o
def yk(w:Nat):V->Z->V->V->V->V->V->V->V->V->V->V->Z->Z->O1:=λa b c d e f g h i j k l m n=>ob (tG w 226 a b c d e f g h i j k l m n) λo=>lp (α:=V->B->V->Z->V->V->V->V->V->V->V->V->V->V->Z->Z->L->O1) (λ_ _ _ _ _ _ _ _ _ _ _ _ _ _ _ _ _=>none) (λa8 a9 b0 b1 b2 b3 b4 b5 b6 b7 b8 b9 c0 c1 c2 c3 c4 c5=>bif b0 then bif aw c5.length&&(aw 1&&(List.take 1 (List.drop 0 [a9])).length.beq 1) then ob (tG w 226 b1 b2 b3 b4 b5 b6 b7 b8 b9 c0 c1 c2 c3 c4) λc6=>a8 c6.1 c6.2.1 c6.2.2.1 c6.2.2.2.1 c6.2.2.2.2.1 c6.2.2.2.2.2.1 c6.2.2.2.2.2.2.1 c6.2.2.2.2.2.2.2.1 c6.2.2.2.2.2.2.2.2.1 c6.2.2.2.2.2.2.2.2.2.1 c6.2.2.2.2.2.2.2.2.2.2.1 c6.2.2.2.2.2.2.2.2.2.2.2.1 c6.2.2.2.2.2.2.2.2.2.2.2.2.1 c6.2.2.2.2.2.2.2.2.2.2.2.2.2.1 c6.2.2.2.2.2.2.2.2.2.2.2.2.2.2.1 c6.2.2.2.2.2.2.2.2.2.2.2.2.2.2.2 (c5++List.take 1 (List.drop 0 [a9])) else none else some (b1,b2,b3,b4,b5,b6,b7,b8,b9,c0,c1,c2,c3,c4,c5)) w o.1 o.2.1 o.2.2.1 o.2.2.2.1 o.2.2.2.2.1 o.2.2.2.2.2.1 o.2.2.2.2.2.2.1 o.2.2.2.2.2.2.2.1 o.2.2.2.2.2.2.2.2.1 o.2.2.2.2.2.2.2.2.2.1 o.2.2.2.2.2.2.2.2.2.2.1 o.2.2.2.2.2.2.2.2.2.2.2.1 o.2.2.2.2.2.2.2.2.2.2.2.2.1 o.2.2.2.2.2.2.2.2.2.2.2.2.2.1 o.2.2.2.2.2.2.2.2.2.2.2.2.2.2.1 o.2.2.2.2.2.2.2.2.2.2.2.2.2.2.2 []
def Of(w:Nat):V->Z->V->V->V->V->V->V->V->V->V->V->Z->Z->O2:=λa b c d e f g h i j k l m n=>ak a λo=>lp (α:=V->Z->Z->V->Z->V->V->V->V->V->V->V->V->V->V->Z->Z->O2) (λ_ _ _ _ _ _ _ _ _ _ _ _ _ _ _ _ _=>none) (λa8 a9 b0 b1 b2 b3 b4 b5 b6 b7 b8 b9 c0 c1 c2 c3 c4 c5=>bif ai b1 b0 then ax b1 λc6=>aC 3 c6 a9 λc7=>af c7 λc8 c9=>aq .i64 c8 λd0=>af c9 λd1 d2=>af d2 λd3 d4=>bif !ai d0 224 then bif !ai 239 d0 then some (true,b2,b3,b4,b5,b6,b7,b8,b9,c0,c1,c2,c3,c4,c5) else a8 a9 b0 (ag .i64 (b1.add 1)) b2 b3 b4 b5 b6 b7 b8 b9 c0 c1 c2 c3 c4 c5 else a8 a9 b0 (ag .i64 (b1.add 1)) b2 b3 b4 b5 b6 b7 b8 b9 c0 c1 c2 c3 c4 c5 else some (false,b2,b3,b4,b5,b6,b7,b8,b9,c0,c1,c2,c3,c4,c5)) w a (Int.ofNat o) 0 a b c d e f g h i j k l m n
def MN(w:Nat):V->O B:=λa=>ak a λb=>some !ai 65533 (Int.ofNat b)
def MO(w:Nat):V->O B:=λa=>ak a λb=>some !ai (Int.ofNat b) 6
def F2(w:Nat):V->V->O (V×Z×V×N×N×Z×Z×L×L):=λa b=>ak a λc=>ax (ag .i64 (((Int.ofNat c).fdiv (2^6)).add 1)) λd=>ax (ag .i64 (((Int.ofNat c).fdiv (2^6)).add 1)) λe=>bif Nat.blt 0 1&&Nat.beq 1 1&&Nat.ble 8 10000&&(d.ble e&&e.ble 1000000000) then some (a,0,b,d,e,0,0,rep e (Value.int .u64 0).cells.toList,[]) else none
def eR(w:Nat):B->Z->O ((Unit)⊕(Z)):=λa b=>bif !a then some (Sum.inr b) else some (Sum.inl ())
def mG(w:Nat):V->Z->Z->Z->O Z:=λa b c d=>ob (jB w a c d b) λe=>some e.1
def vv(w:Nat):Z->Z->Z->O B:=λa b c=>bif !ai a 0 then bif !ai b 0 then bif !ai c a then some !ai (ag .i64 (c.sub a)) b else some false else some false else some false
def xr(a:Z):=(ag .u64 ↑(BitVec.ofInt 64 (ag .u64 a)&&&BitVec.ofInt 64 63).toNat)
def GB(w:Nat):Z->V->Z->V->N->N->Z->Z->L->L->O (B×V×Z×V×N×N×Z×Z×L×L):=λa b c d e f g h i j=>ax (a.fdiv (2^6)) λk=>bif k.blt e then af (List.drop (0+k*1) i) λl m=>aq .u64 l λn=>bif ai (xr a) 0 then none else some (ah (ag .u64 ↑(BitVec.ofInt 64 (n.fdiv (2^min (xr a).toNat 64))&&&BitVec.ofInt 64 1).toNat) 1,b,c,d,e,f,g,h,i,j) else none
def Mr(a:Z)(b:Z):=(ag .u64 ↑(BitVec.ofInt 64 a|||BitVec.ofInt 64 (ag .u64 (Int.mul 1 (2^min (xr b).toNat 64)))).toNat)
def Mn(w:Nat)(a:PUnit⊕Z)(b:Z)(c:V)(d:Z)(e:V)(f:N)(g:N)(h:Z)(i:Z)(j:Z)(k:Z)(l:Z)(m:Z)(n:L)(o:L):O3:=dr a (λp=>lp (α:=Z->V->Z->V->N->N->Z->Z->Z->Z->Z->Z->Z->L->L->O (V×Z×V×N×N×Z×Z×L×L⊕Z×V×Z×V×N×N×Z×Z×L×L)) (λ_ _ _ _ _ _ _ _ _ _ _ _ _ _ _=>none) (λa7 a8 a9 b0 b1 b2 b3 b4 b5 b6 b7 b8 b9 c0 c1 c2=>bif ai a8 (ag .i64 (b9.add c0)) then ob (GB w a8 a9 b0 b1 b2 b3 b4 b5 c1 c2) λc3=>ob (eR w (!c3.1) 5) λc4=>dr c4 (λc5=>ax (a8.fdiv (2^6)) λc6=>bif c6.blt c3.2.2.2.2.1 then af (List.drop (0+c6*1) c3.2.2.2.2.2.2.2.2.1) λc7 c8=>aq .u64 c7 λc9=>bif ai (xr a8) 0 then none else ax (a8.fdiv (2^6)) λd0=>bif d0.blt c3.2.2.2.2.1 then bif(SV.i IntKind.u64 (Mr c9 a8)).cells.length.beq 1&&(0+d0*1+1).ble (List.length c3.2.2.2.2.2.2.2.2.1) then a7 (ag .i64 (a8.add 1)) c3.2.1 c3.2.2.1 c3.2.2.2.1 c3.2.2.2.2.1 c3.2.2.2.2.2.1 c3.2.2.2.2.2.2.1 c3.2.2.2.2.2.2.2.1 b6 b7 b8 b9 c0 (aQ (0+d0*1) [Value.int .u64 (Mr c9 a8)] c3.2.2.2.2.2.2.2.2.1) c3.2.2.2.2.2.2.2.2.2 else none else none else none) λd1=>some (Sum.inr (d1,c3.2.1,c3.2.2.1,c3.2.2.2.1,c3.2.2.2.2.1,c3.2.2.2.2.2.1,c3.2.2.2.2.2.2.1,c3.2.2.2.2.2.2.2.1,c3.2.2.2.2.2.2.2.2.1,c3.2.2.2.2.2.2.2.2.2)) else bif aw c2.length&&(aw 1&&(List.take 5 (List.drop 0 [Value.int .i64 b6,Value.int .i64 b7,Value.int .i64 b8,Value.int .i64 b9,Value.int .i64 c0])).length.beq 5) then some (Sum.inl (a9,b0,b1,b2,b3,b4,b5,c1,c2++List.take 5 (List.drop 0 [Value.int .i64 b6,Value.int .i64 b7,Value.int .i64 b8,Value.int .i64 b9,Value.int .i64 c0]))) else none) w b c d e f g h i j k l b m n o) λd2=>some (Sum.inr (d2,c,d,e,f,g,h,i,n,o))
def qH(w:Nat):Z->Z->Z->Z->Z->V->Z->V->N->N->Z->Z->L->L->O3:=λa b c d e f g h i j k l m n=>bif ah (d.tmod 2) 0 then ak f λo=>ob (vv w d e (Int.ofNat o)) λp=>ob (eR w p 4) λq=>Mn w q d f g h i j k l a b c e m n else ob (eR w false 4) λr=>Mn w r d f g h i j k l a b c e m n
def AN(w:Nat)(a:V×Z×V×N×N×Z×Z×L×L⊕Z×V×Z×V×N×N×Z×Z×L×L):O4:=dr a (λb=>ob (mG w b.1 b.2.1 4 4) λc=>some (Sum.inl (c,b.1,b.2.1,b.2.2.1,b.2.2.2.1,b.2.2.2.2.1,b.2.2.2.2.2.1,b.2.2.2.2.2.2.1,b.2.2.2.2.2.2.2.1,b.2.2.2.2.2.2.2.2))) λd=>some (Sum.inr (d.1,d.2.1,d.2.2.1,d.2.2.2.1,d.2.2.2.2.1,d.2.2.2.2.2.1,d.2.2.2.2.2.2.1,d.2.2.2.2.2.2.2.1,d.2.2.2.2.2.2.2.2.1,d.2.2.2.2.2.2.2.2.2))
def Gd(w:Nat):V->Z->V->N->N->Z->Z->L->L->O4:=λa b c d e f g h i=>ak a λj=>ob (eR w (!ai (Int.ofNat j) 8) 3) λk=>dr k (λl=>ak a λm=>bif Nat.ble 2 m&&Nat.ble 0 2 then eJ 1 0 2 a λn=>cn 1 n λo p=>ob (oV p) λq=>bif mq (mkStr q).data.toList (ByteArray.mk #[73,73]).data.toList then ob (mG w a 1 2 2) λr=>ob (eR w (ah r 42) 2) λs=>dr s (λt=>ob (qH w 1 (-1) 0 0 8 a 1 c d e f g h i) λu=>AN w u) λv=>some (Sum.inr (v,a,1,c,d,e,f,g,h,i)) else bif mq (mkStr q).data.toList (ByteArray.mk #[77,77]).data.toList then ob (mG w a 2 2 2) λy=>ob (eR w (ah y 42) 2) λz=>dr z (λa0=>ob (qH w 1 (-1) 0 0 8 a 2 c d e f g h i) λa1=>AN w a1) λa2=>some (Sum.inr (a2,a,2,c,d,e,f,g,h,i)) else bif ai 0 b then ob (mG w a b 2 2) λa3=>ob (eR w (ah a3 42) 2) λa4=>dr a4 (λa5=>ob (qH w 1 (-1) 0 0 8 a b c d e f g h i) λa6=>AN w a6) λa7=>some (Sum.inr (a7,a,b,c,d,e,f,g,h,i)) else ob (eR w false 2) λa8=>dr a8 (λa9=>ob (qH w 1 (-1) 0 0 8 a b c d e f g h i) λb0=>AN w b0) λb1=>some (Sum.inr (b1,a,b,c,d,e,f,g,h,i)) else none) λb2=>some (Sum.inr (b2,a,b,c,d,e,f,g,h,i))
def N8(w:Nat):V->Z->Z->Z->R1:=λa b c d=>ob (jB w a c d b) λe=>some (e.1,e.2)
def vx(w:Nat):Z->V->Z->Z->B->O (Z×V×Z×Z×B):=λa b c d e=>ob (N8 w b c d a) λf=>bif e then some (f.1,b,c,ag .i64 (d.add a),f.2) else some (f.1,b,c,ag .i64 (d.add a),false)
def GC(w:Nat):V->Z->Z->O (Z×Z×Z×Z×B):=λa b c=>ak a λd=>ob (vv w b 12 (Int.ofNat d)) λe=>bif !e then some (0,0,0,0,false) else ob (vx w 2 a c b true) λf=>ob (vx w 2 f.2.1 f.2.2.1 f.2.2.2.1 f.2.2.2.2) λg=>ob (vx w 4 g.2.1 g.2.2.1 g.2.2.2.1 g.2.2.2.2) λh=>ob (vx w 4 h.2.1 h.2.2.1 h.2.2.2.1 h.2.2.2.2) λi=>bif !i.2.2.2.2 then some (0,0,0,0,false) else some (f.1,g.1,h.1,i.1,true)
def AG(a:Z×Z×Z×Z×B):=(List.drop 0 [Value.int .i64 a.1,Value.int .i64 a.2.1,Value.int .i64 a.2.2.1,Value.int .i64 a.2.2.2.1])
def Mg(w:Nat)(a:PUnit⊕Z)(b:V)(c:Z)(d:Z)(e:Z)(f:V)(g:N)(h:N)(i:Z)(j:Z)(k:L)(l:L):O5:=dr a (λm=>ob (mG w b c d 2) λn=>ob (eR w (ai 0 n) 2) λo=>dr o (λp=>ob (qH w 2 e 0 d (ag .i64 (Int.add 6 (ag .i64 (Int.mul 12 n)))) b c f g h i j k l) λq=>dr q (λr=>lp (α:=Z->Z->Z->V->Z->V->N->N->Z->Z->L->L->L->O (V×V×Z×V×N×N×Z×Z×L×L⊕Z×V×Z×V×N×N×Z×Z×L×L)) (λ_ _ _ _ _ _ _ _ _ _ _ _ _=>none) (λa7 a8 a9 b0 b1 b2 b3 b4 b5 b6 b7 b8 b9 c0=>bif ai b0 a9 then ob (GC w b1 (ag .i64 ((ag .i64 (a8.add 2)).add (ag .i64 (Int.mul 12 b0)))) b2) λc1=>bif ah b0 0 then ob (eR w true 2) λc2=>dr c2 (λc3=>bif aw c0.length&&(aw 1&&(List.take 4 (AG c1)).length.beq 4) then a7 a8 a9 (ag .i64 (b0.add 1)) b1 b2 b3 b4 b5 b6 b7 b8 b9 (c0++List.take 4 (AG c1)) else none) λc4=>some (Sum.inr (c4,b1,b2,b3,b4,b5,b6,b7,b8,b9)) else ax (ag .i64 (b0.sub 1)) λc5=>bif Nat.beq 4 4&&(c5*4).blt c0.length then af (List.drop (0+c5*4+0) c0) λc6 c7=>aq .i64 c6 λc8=>ob (eR w (ai c8 c1.1) 2) λc9=>dr c9 (λd0=>bif aw c0.length&&(aw 1&&(List.take 4 (AG c1)).length.beq 4) then a7 a8 a9 (ag .i64 (b0.add 1)) b1 b2 b3 b4 b5 b6 b7 b8 b9 (c0++List.take 4 (AG c1)) else none) λd1=>some (Sum.inr (d1,b1,b2,b3,b4,b5,b6,b7,b8,b9)) else none else some (Sum.inl (ae (c0.length/4) c0,b1,b2,b3,b4,b5,b6,b7,b8,b9))) w d n 0 r.1 r.2.1 r.2.2.1 r.2.2.2.1 r.2.2.2.2.1 r.2.2.2.2.2.1 r.2.2.2.2.2.2.1 r.2.2.2.2.2.2.2.1 r.2.2.2.2.2.2.2.2 []) λd2=>some (Sum.inr (d2.1,d2.2.1,d2.2.2.1,d2.2.2.2.1,d2.2.2.2.2.1,d2.2.2.2.2.2.1,d2.2.2.2.2.2.2.1,d2.2.2.2.2.2.2.2.1,d2.2.2.2.2.2.2.2.2.1,d2.2.2.2.2.2.2.2.2.2))) λd3=>some (Sum.inr (d3,b,c,f,g,h,i,j,k,l))) λd4=>some (Sum.inr (d4,b,c,f,g,h,i,j,k,l))
def Gr(w:Nat):Z->Z->V->Z->V->N->N->Z->Z->L->L->O5:=λa b c d e f g h i j k=>bif ah (a.tmod 2) 0 then ak c λl=>ob (vv w a 2 (Int.ofNat l)) λm=>ob (eR w m 4) λn=>Mg w n c d a b e f g h i j k else ob (eR w false 4) λo=>Mg w o c d a b e f g h i j k
def N3(w:Nat):Z->Z->Z->Z->Z->Z->O B:=λa b c d e f=>some (ah a c)
def NO(w:Nat):V->Z->Z->Z->Z->O Z:=λa b c d e=>ak a λf=>lp (α:=V->L->Z->Z->O Z) (λ_ _ _ _=>none) (λk l m n o=>bif ai o n then ax o λp=>aC 2 p l λq=>af q λr s=>aq .i64 r λt=>af s λu v=>aq .i64 u λy=>af m λz a0=>aq .i64 z λa1=>af a0 λa2 a3=>aq .i64 a2 λa4=>af a3 λa5 a6=>aq .i64 a5 λa7=>af a6 λa8 a9=>aq .i64 a8 λb0=>nR a9 (ob (N3 w t y a1 a4 a7 b0) λb1=>bif b1 then some o else k l m n (ag .i64 (o.add 1))) else some (-1)) w a [Value.int .i64 b,Value.int .i64 c,Value.int .i64 d,Value.int .i64 e] (Int.ofNat f) 0
def GF(w:Nat):V->Z->Z->Z->Z->O B:=λa b c d e=>ob (NO w a b c d e) λf=>some !ai f 0
def u0(a:Z)(b:Z)(c:Z)(d:Z):=(List.drop 0 [Value.int .i64 a,Value.int .i64 b,Value.int .i64 c,Value.int .i64 d])
def xx(a:Z)(b:Z)(c:Z)(d:Z):=(aw 1&&(List.take 4 (u0 a b c d)).length.beq 4)
def Gs(w:Nat):V->V->Z->Z->Z->R9:=λa b c d e=>ak a λf=>lp (α:=V->Z->Z->V->Z->Z->Z->L->L->L->R9) (λ_ _ _ _ _ _ _ _ _ _=>none) (λq r s t u v y z a0 a1 a2=>bif ai t s then ax t λa3=>aC 4 a3 r λa4=>af a4 λa5 a6=>aq .i64 a5 λa7=>af a6 λa8 a9=>aq .i64 a8 λb0=>af a9 λb1 b2=>aq .i64 b1 λb3=>af b2 λb4 b5=>aq .i64 b4 λb6=>ob (GF w u a7 b0 b3 b6) λb7=>bif b7 then bif aw a0.length&&(xx a7 b0 b3 b6) then q r s (ag .i64 (t.add 1)) u v y z (a0++List.take 4 (u0 a7 b0 b3 b6)) a1 a2 else none else bif ai 0 v then bif ah a7 v then bif aw a1.length&&(xx a7 b0 b3 b6) then q r s (ag .i64 (t.add 1)) u v y z a0 (a1++List.take 4 (u0 a7 b0 b3 b6)) a2 else none else bif ah a7 y then bif aw a1.length&&(xx a7 b0 b3 b6) then q r s (ag .i64 (t.add 1)) u v y z a0 (a1++List.take 4 (u0 a7 b0 b3 b6)) a2 else none else bif aw a2.length&&(xx a7 b0 b3 b6) then q r s (ag .i64 (t.add 1)) u v y z a0 a1 (a2++List.take 4 (u0 a7 b0 b3 b6)) else none else bif aw a2.length&&(xx a7 b0 b3 b6) then q r s (ag .i64 (t.add 1)) u v y z a0 a1 (a2++List.take 4 (u0 a7 b0 b3 b6)) else none else some (ae (a0.length/4) a0,ae (a1.length/4) a1,ae (a2.length/4) a2)) w a (Int.ofNat f) 0 b c d e [] [] []
def Me(w:Nat)(a:V)(b:Z)(c:Z):O V:=ak a λd=>bif Nat.blt 0 1&&Nat.beq 1 1&&Nat.ble 1 10000&&(d.ble d&&d.ble 1000000000) then cn 1 a λe f=>bif f.length.beq (e*1)&&(0+e.min d*1).ble (rep d (Value.int .u8 0).cells.toList,5).1.length then lp (α:=Z->Z->N->N->Z->L->O V) (λ_ _ _ _ _ _=>none) (λm n o p q r s=>bif ah o 1 then bif !ai (Int.ofNat p) (ag .i64 (r.add n)) then ax (ag .i64 (r.add n)) λt=>ax r λu=>bif t.ble q&&u.ble t then ob (tA w (bif q.beq u then 0 else 0+u*1) (t -u) (q -u) s) λv=>m n o p q (ag .i64 (r.add n)) v else none else some (ae p (List.drop 0 s)) else some (ae p (List.drop 0 s))) w b c d d 0 (aQ 0 (List.take (e.min d*1) f) (rep d (Value.int .u8 0).cells.toList,5).1) else none else none
def GI(w:Nat):V->Z->Z->O V:=λa b c=>ob (qF w b c) λd=>bif !d then bif !ah b 8 then some (ae 0 []) else ob (qF w 1 c) λe=>bif !e then some (ae 0 []) else Me w a b c else Me w a b c
def Bx(w:Nat):Z->Z->V->Z->R5:=λa b c d=>ob (rS w a) λe=>bif ah e.1 0 then some (0,0,ae 0 [],false) else bif ai b 1 then some (0,0,ae 0 [],false) else bif ai 65536 b then some (0,0,ae 0 [],false) else ak c λf=>bif ai (Int.ofNat f) (ag .i64 (b.mul e.1)) then some (0,0,ae 0 [],false) else ak c λg=>ax (ag .i64 (b.mul e.1)) λh=>bif h.ble g&&Nat.ble 0 h then eJ 1 0 h c λi=>ob (GI w i e.2.1 d) λj=>ob (pR w a b j) λk=>bif !k then some (0,0,ae 0 [],false) else some (a,b,j,true) else none
def GL(w:Nat):Z->Z->O B:=λa b=>ob (BA w a b) λc=>bif ai 0 c then some !ai 4 c else some false
def N6(w:Nat):Z->O B:=λa=>some !ah a 0
def N9(w:Nat):V->O Z:=λa=>ak a λb=>lp (α:=V->Z->Z->O Z) (λ_ _ _=>none) (λf g h i=>bif ai i h then ax i λj=>aC 1 j g λk=>af k λl m=>aq .u8 l λn=>ob (N6 w n) λo=>bif o then some i else f g h (ag .i64 (i.add 1)) else some (-1)) w a (Int.ofNat b) 0
def GM(w:Nat):V->O B:=λa=>ob (N9 w a) λb=>some !ai b 0
def GG(w:Nat):Z->Z->Z->Z->Z->O (Z×Z×V×B×B):=λa b c d e=>ob (ia w d 4 e) λf=>bif !f.2 then some (0,0,ae 0 [],false,false) else ob (GL w b c) λg=>bif !g then some (0,0,ae 0 [],false,false) else ob (Bx w b c f.1 e) λh=>bif !h.2.2.2 then some (0,0,ae 0 [],false,false) else ak h.2.2.1 λi=>ak f.1 λj=>bif j.ble j&&i.ble j then eJ 1 i j f.1 λk=>ob (GM w k) λl=>some (h.1,h.2.1,h.2.2.1,!l,true) else none
def ED(w:Nat)(a:PUnit⊕Z)(b:Z)(c:Z)(d:Z)(e:Z)(f:Z)(g:V)(h:Z)(i:V)(j:N)(k:N)(l:Z)(m:Z)(n:L)(o:L):O6:=dr a (λp=>ob (Bw w b c) λq=>bif ai 0 q then ob (qH w 3 d e f q g h i j k l m n o) λr=>dr r (λs=>ak s.1 λt=>ax f λu=>bif t.ble t&&u.ble t then eJ 1 u t s.1 λv=>ob (Bx w b c v s.2.1) λy=>ob (eR w y.2.2.2 6) λz=>dr z (λa0=>some (Sum.inl (e,y.1,y.2.1,y.2.2.1,s.1,s.2.1,s.2.2.1,s.2.2.2.1,s.2.2.2.2.1,s.2.2.2.2.2.1,s.2.2.2.2.2.2.1,s.2.2.2.2.2.2.2.1,s.2.2.2.2.2.2.2.2))) λa1=>some (Sum.inr (a1,s.1,s.2.1,s.2.2.1,s.2.2.2.1,s.2.2.2.2.1,s.2.2.2.2.2.1,s.2.2.2.2.2.2.1,s.2.2.2.2.2.2.2.1,s.2.2.2.2.2.2.2.2)) else none) λa2=>some (Sum.inr (a2.1,a2.2.1,a2.2.2.1,a2.2.2.2.1,a2.2.2.2.2.1,a2.2.2.2.2.2.1,a2.2.2.2.2.2.2.1,a2.2.2.2.2.2.2.2.1,a2.2.2.2.2.2.2.2.2.1,a2.2.2.2.2.2.2.2.2.2)) else ob (GG w e b c f h) λa3=>ob (eR w a3.2.2.2.2 6) λa4=>dr a4 (λa5=>bif !a3.2.2.2.1 then some (Sum.inl (e,a3.1,a3.2.1,a3.2.2.1,g,h,i,j,k,l,ag .i64 (m.add 1),n,o)) else some (Sum.inl (e,a3.1,a3.2.1,a3.2.2.1,g,h,i,j,k,l,m,n,o))) λa6=>some (Sum.inr (a6,g,h,i,j,k,l,m,n,o))) λa7=>some (Sum.inr (a7,g,h,i,j,k,l,m,n,o))
def Gt(w:Nat):Z->Z->Z->Z->Z->V->Z->V->N->N->Z->Z->L->L->O6:=λa b c d e f g h i j k l m n=>ob (Bv w b) λo=>bif ai 0 o then bif !ai c 1 then ob (eR w (!ai 65536 c) 6) λp=>ED w p b c e a d f g h i j k l m n else ob (eR w false 6) λq=>ED w q b c e a d f g h i j k l m n else ob (eR w false 6) λr=>ED w r b c e a d f g h i j k l m n
def NS(w:Nat):Z->Z->Z->Z->Z->Z->O B:=λa b c d e f=>some (ah a c)
def NP(w:Nat):V->Z->Z->Z->Z->O Z:=λa b c d e=>ak a λf=>lp (α:=V->L->Z->Z->O Z) (λ_ _ _ _=>none) (λk l m n o=>bif ai o n then ax o λp=>aC 2 p l λq=>af q λr s=>aq .i64 r λt=>af s λu v=>aq .i64 u λy=>af m λz a0=>aq .i64 z λa1=>af a0 λa2 a3=>aq .i64 a2 λa4=>af a3 λa5 a6=>aq .i64 a5 λa7=>af a6 λa8 a9=>aq .i64 a8 λb0=>nR a9 (ob (NS w t y a1 a4 a7 b0) λb1=>bif b1 then some o else k l m n (ag .i64 (o.add 1))) else some (-1)) w a [Value.int .i64 b,Value.int .i64 c,Value.int .i64 d,Value.int .i64 e] (Int.ofNat f) 0
abbrev sd:=Option ((Value×Value×Value×Int×Value×Int×Value×Nat×Nat×Int×Int×List Value×List Value)⊕(Int×Value×Int×Value×Nat×Nat×Int×Int×List Value×List Value))
abbrev q8:=Int->Int->Value->Int->Value->Nat->Nat->Int->Int->List Value->List Value->sd
abbrev Ch:=Int->Int->Value->Value->Value->Int->Int->Value->Int->Value->Nat->Nat->Int->Int->Value->Value->Int->Int->Int->List Value->List Value->List Value->List Value->sd
abbrev Cx:=Int->Int->Value->Value->Value->Value->Value->Int->Int->Value->Int->Value->Nat->Nat->Int->Int->Value->Value->Int->Int->Int->List Value->List Value->List Value->List Value->sd
def uM(w:Nat)(rec:q8):Ch->Ch:=(λa b c d e f g h i j k l m n o p q r s t u v y z=>bif ai h g then ax h λa0=>aC 4 a0 f λa1=>af a1 λa2 a3=>aq .i64 a2 λa4=>af a3 λa5 a6=>aq .i64 a5 λa7=>af a6 λa8 a9=>aq .i64 a8 λb0=>af a9 λb1 b2=>aq .i64 b1 λb3=>ob (NP w q a4 a7 b0 b3) λb4=>ax b4 λb5=>aC 2 b5 q λb6=>af (List.drop 1 b6) λb7 b8=>aq .i64 b7 λb9=>ob (rec b3 b9 i j k l m n o u v) λc0=>dr c0 (λc1=>ob (eR w (ah c1.2.2.2.1 0) 2) λc2=>dr c2 (λc3=>bif aw z.length&&(aw 1&&(List.take 4 (List.drop 0 [Value.int .i64 a4,c1.1,c1.2.1,c1.2.2.1])).length.beq 4) then a b c d e f g (ag .i64 (h.add 1)) c1.2.2.2.2.1 c1.2.2.2.2.2.1 c1.2.2.2.2.2.2.1 c1.2.2.2.2.2.2.2.1 c1.2.2.2.2.2.2.2.2.1 c1.2.2.2.2.2.2.2.2.2.1 c1.2.2.2.2.2.2.2.2.2.2.1 p q r s t c1.2.2.2.2.2.2.2.2.2.2.2.1 c1.2.2.2.2.2.2.2.2.2.2.2.2 y (z++List.take 4 (List.drop 0 [Value.int .i64 a4,c1.1,c1.2.1,c1.2.2.1])) else none) λc4=>some (Sum.inr (c4,c1.2.2.2.2.1,c1.2.2.2.2.2.1,c1.2.2.2.2.2.2.1,c1.2.2.2.2.2.2.2.1,c1.2.2.2.2.2.2.2.2.1,c1.2.2.2.2.2.2.2.2.2.1,c1.2.2.2.2.2.2.2.2.2.2.1,c1.2.2.2.2.2.2.2.2.2.2.2.1,c1.2.2.2.2.2.2.2.2.2.2.2.2))) λc5=>none else ak e λc6=>bif ah (Int.ofNat c6) 2 then aC 4 0 e λc7=>af (List.drop 3 c7) λc8 c9=>aq .i64 c8 λd0=>aC 4 1 e λd1=>af (List.drop 3 d1) λd2 d3=>aq .i64 d2 λd4=>ob (eR w (ai 0 d4) 6) λd5=>dr d5 (λd6=>ob (qH w 4 c 0 d0 d4 i j k l m n o u v) λd7=>dr d7 (λd8=>ak d8.1 λd9=>ax (ag .i64 (d0.add d4)) λe0=>ax d0 λe1=>bif e0.ble d9&&e1.ble e0 then eJ 1 e1 e0 d8.1 λe2=>ob (nw w e2) λe3=>ak d λe4=>ob (mG w d8.1 d8.2.1 (ag .i64 ((ag .i64 (b.add 2)).add (ag .i64 (Int.mul 12 (Int.ofNat e4))))) 4) λe5=>some (Sum.inl (ae (y.length/4) y,ae (z.length/4) z,e3,e5,d8.1,d8.2.1,d8.2.2.1,d8.2.2.2.1,d8.2.2.2.2.1,d8.2.2.2.2.2.1,d8.2.2.2.2.2.2.1,d8.2.2.2.2.2.2.2.1,d8.2.2.2.2.2.2.2.2)) else none) λe6=>some (Sum.inr (e6.1,e6.2.1,e6.2.2.1,e6.2.2.2.1,e6.2.2.2.2.1,e6.2.2.2.2.2.1,e6.2.2.2.2.2.2.1,e6.2.2.2.2.2.2.2.1,e6.2.2.2.2.2.2.2.2.1,e6.2.2.2.2.2.2.2.2.2))) λe7=>some (Sum.inr (e7,i,j,k,l,m,n,o,u,v)) else ak d λe8=>ob (mG w i j (ag .i64 ((ag .i64 (b.add 2)).add (ag .i64 (Int.mul 12 (Int.ofNat e8))))) 4) λe9=>some (Sum.inl (ae (y.length/4) y,ae (z.length/4) z,p,e9,i,j,k,l,m,n,o,u,v)))
def zT:Ch:=(λa b c d e f g h i j k l m n o p q r s t u v y=>none)
def Sa(w:Nat)(rec:q8):Ch:=lp zT (uM w rec) w
def AL(a:Z×Z×Z×V×V×Z×V×N×N×Z×Z×L×L):=(List.drop 0 [Value.int .i64 a.1,Value.int .i64 a.2.1,Value.int .i64 a.2.2.1,a.2.2.2.1])
def rW(w:Nat)(rec:q8):Cx->Cx:=(λa b c d e f g h i j k l m n o p q r s t u v y z a0 a1=>bif ai j i then ax j λa2=>aC 4 a2 h λa3=>af a3 λa4 a5=>aq .i64 a4 λa6=>af a5 λa7 a8=>aq .i64 a7 λa9=>af a8 λb0 b1=>aq .i64 b0 λb2=>af b1 λb3 b4=>aq .i64 b3 λb5=>ak g λb6=>bif ai 0 (Int.ofNat b6) then aC 4 0 g λb7=>af b7 λb8 b9=>aq .i64 b8 λc0=>af b9 λc1 c2=>aq .i64 c1 λc3=>af c2 λc4 c5=>aq .i64 c4 λc6=>af c5 λc7 c8=>aq .i64 c7 λc9=>bif bif ah a6 c0 then bif ah a9 c3 then bif ah b2 c6 then bif ah b5 c9 then true else false else false else false else false then ob (Gt w a6 a9 b2 b5 c k l m n o p q y z) λd0=>dr d0 (λd1=>bif aw a0.length&&(aw 1&&(List.take 4 (AL d1)).length.beq 4) then ak g λd2=>bif d2.ble d2&&Nat.ble 1 d2 then eJ 4 1 d2 g λd3=>a b c d e f d3 h i (ag .i64 (j.add 1)) d1.2.2.2.2.1 d1.2.2.2.2.2.1 d1.2.2.2.2.2.2.1 d1.2.2.2.2.2.2.2.1 d1.2.2.2.2.2.2.2.2.1 d1.2.2.2.2.2.2.2.2.2.1 d1.2.2.2.2.2.2.2.2.2.2.1 r s t u v d1.2.2.2.2.2.2.2.2.2.2.2.1 d1.2.2.2.2.2.2.2.2.2.2.2.2 (a0++List.take 4 (AL d1)) a1 else none else none) λd4=>none else bif ah a9 4 then ob (eR w (ah b2 1) 6) λd5=>dr d5 (λd6=>a b c d e f g h i (ag .i64 (j.add 1)) k l m n o p q r s t u v y z a0 a1) λd7=>some (Sum.inr (d7,k,l,m,n,o,p,q,y,z)) else ob (eR w false 6) λd8=>dr d8 (λd9=>a b c d e f g h i (ag .i64 (j.add 1)) k l m n o p q r s t u v y z a0 a1) λe0=>some (Sum.inr (e0,k,l,m,n,o,p,q,y,z)) else bif ah a9 4 then ob (eR w (ah b2 1) 6) λe1=>dr e1 (λe2=>a b c d e f g h i (ag .i64 (j.add 1)) k l m n o p q r s t u v y z a0 a1) λe3=>some (Sum.inr (e3,k,l,m,n,o,p,q,y,z)) else ob (eR w false 6) λe4=>dr e4 (λe5=>a b c d e f g h i (ag .i64 (j.add 1)) k l m n o p q r s t u v y z a0 a1) λe6=>some (Sum.inr (e6,k,l,m,n,o,p,q,y,z)) else ak f λe7=>ob (eR w (!ah (Int.ofNat e7) 1) 6) λe8=>dr e8 (λe9=>ak e λf0=>Sa w rec b c d f e (Int.ofNat f0) 0 k l m n o p q r s t u v y z a0 a1) λf1=>some (Sum.inr (f1,k,l,m,n,o,p,q,y,z)))
def yx:Cx:=(λa b c d e f g h i j k l m n o p q r s t u v y z a0=>none)
def YI(w:Nat)(rec:q8):Cx:=lp yx (rW w rec) w
def G3(w:Nat)(rec:Z->Z->V->Z->V->N->N->Z->Z->L->L->HG):Z->Z->V->Z->V->N->N->Z->Z->L->L->HG:=λa b c d e f g h i j k=>ax b λl=>aC 4 l e λm=>af m λn o=>af o λp q=>aq .i64 p λr=>af q λs t=>aq .i64 s λu=>af t λv y=>aq .i64 v λz=>bif ah h h then ob (Gr w a h c d e f g (ag .i64 (h.add 1)) i j k) λa0=>dr a0 (λa1=>ob (Gs w a1.1 n r u z) λa2=>ak a1.1 λa3=>YI w rec a h a1.1 a2.1 a2.2.1 a2.2.2 a1.1 (Int.ofNat a3) 0 a1.2.1 a1.2.2.1 a1.2.2.2.1 a1.2.2.2.2.1 a1.2.2.2.2.2.1 a1.2.2.2.2.2.2.1 a1.2.2.2.2.2.2.2.1 (ae 0 []) n r u z a1.2.2.2.2.2.2.2.2.1 a1.2.2.2.2.2.2.2.2.2 [] []) λa4=>some (Sum.inr (a4.1,a4.2.1,a4.2.2.1,a4.2.2.2.1,a4.2.2.2.2.1,a4.2.2.2.2.2.1,a4.2.2.2.2.2.2.1,a4.2.2.2.2.2.2.2.1,a4.2.2.2.2.2.2.2.2.1,a4.2.2.2.2.2.2.2.2.2)) else none
def Ge(w:Nat):Z->Z->V->Z->V->N->N->Z->Z->L->L->HG:=lQ (iN (PT.ti ⟨3,⟨[(0,.ptr 0 0),(1,vI),(2,vI)],[(0,.cells [.v,vI,.v,.sl 1 0,.gr 2 5,vI,vI] 220),(1,.arr 362),(2,.grow 5 243)],3⟩,1,⟨[(0,.aH [.agg [.v,.v,.v],vI])],[(0,.cells [.v,vI,.v,.sl 1 0,.gr 2 5,vI,vI] 220),(1,.arr 362),(2,.grow 5 243)],3⟩,⟨[(0,.fC 277 (.agg [vI]))],[(0,.cells [.v,vI,.v,.sl 1 0,.gr 2 5,vI,vI] 220),(1,.arr 362),(2,.grow 5 243)],3⟩⟩).ks) (G3 w) w
abbrev Hs:=Int->Int->Value->Int->Value->Nat->Nat->Int->Int->Int->Int->List Value->List Value->List Value->Option (Int×Int×Value×Int×Value×Nat×Nat×Int×Int×List Value×List Value×List Value)
def AI(a:Z×V×Z×V×N×N×Z×Z×L×L):Cs:=bif ah a.1 a.1 then some (0,a.1,a.2.1,a.2.2.1,a.2.2.2.1,a.2.2.2.2.1,a.2.2.2.2.2.1,a.2.2.2.2.2.2.1,a.2.2.2.2.2.2.2.1,[],a.2.2.2.2.2.2.2.2.1,a.2.2.2.2.2.2.2.2.2) else none
def EE(w:Nat)(a:Z)(b:Z)(c:V)(d:Z)(e:V)(f:N)(g:N)(h:Z)(i:Z)(j:L)(k:L)(l:L)(m:Z->Z->V->Z->V->N->N->Z->Z->Z->Z->L->L->L->Cs)(n:Z)(o:Z):Cs:=ob (eR w (!ai a 0) 2) λp=>dr p (λq=>ob (Ge w b a c d e f g h i j k) λr=>dr r (λs=>bif aw l.length&&(aw 1&&(List.take 3 (List.drop 0 [s.1,s.2.1,s.2.2.1])).length.beq 3) then ax a λt=>aC 4 t s.2.2.2.2.2.2.1 λu=>af (List.drop 3 u) λv y=>aq .i64 v λz=>m s.2.2.2.1 z s.2.2.2.2.1 s.2.2.2.2.2.1 s.2.2.2.2.2.2.1 s.2.2.2.2.2.2.2.1 s.2.2.2.2.2.2.2.2.1 s.2.2.2.2.2.2.2.2.2.1 s.2.2.2.2.2.2.2.2.2.2.1 n o s.2.2.2.2.2.2.2.2.2.2.2.1 s.2.2.2.2.2.2.2.2.2.2.2.2 (l++List.take 3 (List.drop 0 [s.1,s.2.1,s.2.2.1])) else none) λa0=>AI a0) λa1=>bif ah a1 a1 then some (0,a1,c,d,e,f,g,h,i,[],j,k) else none
def wu(w:Nat):Hs->Hs:=(λa b c d e f g h i j k l m n o=>bif ai 0 b then EE w c b d e f g h i j m n o a k l else bif ah (Int.ofNat (o.length/3)) 0 then EE w c b d e f g h i j m n o a k l else some (k,0,d,e,f,g,h,i,j,o,m,n))
def CG:Hs:=(λa b c d e f g h i j k l m n=>none)
def F3(w:Nat):V->Z->V->N->N->Z->Z->L->L->Cs:=λa b c d e f g h i=>ob (qG w c) λj=>ob (eR w j 1) λk=>dr k (λl=>ob (Gd w a b c d e f g h i) λm=>dr m (λn=>lp CG (wu w) w n.1 0 n.2.1 n.2.2.1 n.2.2.2.1 n.2.2.2.2.1 n.2.2.2.2.2.1 n.2.2.2.2.2.2.1 n.2.2.2.2.2.2.2.1 n.2.2.1 0 n.2.2.2.2.2.2.2.2.1 n.2.2.2.2.2.2.2.2.2 []) λo=>AI o) λp=>bif ah p p then some (0,p,a,b,c,d,e,f,g,[],h,i) else none
def xJ(w:Nat):V->V->O (Z×V×V×Z):=λa b=>ob (F2 w a b) λc=>ob (F3 w c.1 c.2.1 c.2.2.1 c.2.2.2.1 c.2.2.2.2.1 c.2.2.2.2.2.1 c.2.2.2.2.2.2.1 c.2.2.2.2.2.2.2.1 c.2.2.2.2.2.2.2.2) λd=>bif !ah d.2.1 0 then some (0,ae 0 [],ae 0 [],d.2.1) else some (d.1,ae (List.length d.2.2.2.2.2.2.2.2.2.1 /3) d.2.2.2.2.2.2.2.2.2.1,ae (List.length d.2.2.2.2.2.2.2.2.2.2.2 /5) d.2.2.2.2.2.2.2.2.2.2.2,0)
def EK(a:Z×V×V×V×V×V×V×V×Z):Cq:=some (a.1,a.2.1,a.2.2.1,a.2.2.2.1,a.2.2.2.2.1,a.2.2.2.2.2.1,a.2.2.2.2.2.2.1,a.2.2.2.2.2.2.2.1,a.2.2.2.2.2.2.2.2)
def A4(w:Nat):V->Cq:=λa=>ob (Bd w) λb=>ob (xJ w a b) λc=>bif !ah c.2.2.2 0 then some (0,ae 0 [],ae 0 [],ae 0 [],ae 0 [],ae 0 [],ae 0 [],ae 0 [],c.2.2.2) else ob (F1 w c.1 c.2.1) λd=>EK d
def ym(w:Nat):V->Cq:=λa=>ob (MN w a) λb=>bif !b then some (0,ae 0 [],ae 0 [],ae 0 [],ae 0 [],ae 0 [],ae 0 [],ae 0 [],7) else ob (MO w a) λc=>bif !c then some (0,ae 0 [],ae 0 [],ae 0 [],ae 0 [],ae 0 [],ae 0 [],ae 0 [],3) else ob (BE w a) λd=>bif !d then some (0,ae 0 [],ae 0 [],ae 0 [],ae 0 [],ae 0 [],ae 0 [],ae 0 [],2) else ak a λe=>bif e.ble e&&Nat.ble 6 e then eJ 1 6 e a λf=>ob (A4 w f) λg=>EK g else none
def Fp(w:Nat):V->Z->Z->O B:=λa b c=>ak a λd=>ob (A1 w a) λe=>bif !e then some false else aC 1 12 a λf=>af f λg h=>aq .u8 g λi=>bif !ah (ag .i64 i) (ag .i64 (b.add 1)) then some false else aC 1 13 a λj=>af j λk l=>aq .u8 k λm=>bif !ah (ag .i64 m) c then some false else bif ah (ag .i64 ((Int.ofNat d).sub 14)) 65519 then some true else bif ah b (ag .i64 (c.sub 1)) then bif !ai (ag .i64 ((Int.ofNat d).sub 14)) 1 then some (ai (ag .i64 ((Int.ofNat d).sub 14)) 65519) else some false else some false
def GS(w:Nat):V->R0:=λa=>ak a λb=>bif ai 255 (Int.ofNat b) then some (ae 0 [],7) else ak a λc=>lp (α:=V->V->Z->Z->L->R0) (λ_ _ _ _ _=>none) (λi j k l m n=>bif ai m l then ax m λo=>aC 1 o k λp=>af p λq r=>ak q λs=>bif ai (Int.ofNat s) 14 then some (ae 0 [],3) else ak j λt=>ob (Fp w q m (Int.ofNat t)) λu=>bif !u then some (ae 0 [],2) else ak q λv=>bif v.ble v&&Nat.ble 14 v then eJ 1 14 v q λy=>cn 1 y λz a0=>bif aw n.length&&(aw z&&a0.length.beq (z*1)) then i j k l (ag .i64 (m.add 1)) (n++a0) else none else none else some (ae (n.length/1) n,0)) w a a (Int.ofNat c) 0 []
def xu:Ct:=some (0,ae 0 [],ae 0 [],ae 0 [],ae 0 [],ae 0 [],ae 0 [],ae 0 [],ae 0 [],ae 0 [],ae 0 [],0,0,2)
def EF(w:Nat)(a:V×Z)(b:Z×V×V×V×V×V×V×V×Z)(c:V×Z)(d:B×V×Z×V×V×V×V×V×V×V×V×V×V×Z×Z):Ct:=bif !ah a.2 0 then xu else ob (yg w a.1) λe=>bif !e then xu else some (b.1,b.2.1,b.2.2.1,b.2.2.2.1,b.2.2.2.2.1,b.2.2.2.2.2.1,b.2.2.2.2.2.2.1,b.2.2.2.2.2.2.2.1,c.1,a.1,d.2.2.2.2.2.2.2.2.2.2.2.2.1,d.2.2.2.2.2.2.2.2.2.2.2.2.2.1,d.2.2.2.2.2.2.2.2.2.2.2.2.2.2,0)
def AF(w:Nat)(a:V×Z×V×V×V×V×V×V×V×V×V×V×Z×Z×L)(b:V×B×V×Z×V×V×V×V×V×V×V×V×V×V×Z×Z):Ct:=ob (Of w a.1 a.2.1 a.2.2.1 a.2.2.2.1 a.2.2.2.2.1 a.2.2.2.2.2.1 a.2.2.2.2.2.2.1 a.2.2.2.2.2.2.2.1 a.2.2.2.2.2.2.2.2.1 a.2.2.2.2.2.2.2.2.2.1 a.2.2.2.2.2.2.2.2.2.2.1 a.2.2.2.2.2.2.2.2.2.2.2.1 a.2.2.2.2.2.2.2.2.2.2.2.2.1 a.2.2.2.2.2.2.2.2.2.2.2.2.2.1) λc=>bif c.1 then xu else ob (ym w b.1) λd=>bif !ah d.2.2.2.2.2.2.2.2 0 then some (0,ae 0 [],ae 0 [],ae 0 [],ae 0 [],ae 0 [],ae 0 [],ae 0 [],ae 0 [],ae 0 [],ae 0 [],0,0,d.2.2.2.2.2.2.2.2) else ob (GS w (ae (List.length a.2.2.2.2.2.2.2.2.2.2.2.2.2.2 /1) a.2.2.2.2.2.2.2.2.2.2.2.2.2.2)) λe=>bif !ah e.2 0 then some (0,ae 0 [],ae 0 [],ae 0 [],ae 0 [],ae 0 [],ae 0 [],ae 0 [],ae 0 [],ae 0 [],ae 0 [],0,0,e.2) else cn 3 c.2.1 λf g=>bif g.length.beq (f*3)&&(Nat.ble 3 3&&Nat.beq 96 96) then bif(1+f).ble 1 then bif(3+g.length).ble 3 then ob (vy w (ae (1+f) (List.drop 0 (aQ 3 g [Value.int .i64 216,ae 0 [],ae 0 []])))) λh=>EF w h d e c else none else bif aw f&&(aw 1&&(Builtin.nextslicecap (1+f) 1).ble 5000000000) then ob (vy w (ae ((List.take 3 (List.drop 0 [Value.int .i64 216,ae 0 [],ae 0 []])++g).length/3) (List.take 3 (List.drop 0 [Value.int .i64 216,ae 0 [],ae 0 []])++g))) λi=>EF w i d e c else none else none
def rT(w:Nat):V->Ct:=λa=>ob (yh w a) λb=>bif !ah b.2.2.2 0 then some (0,ae 0 [],ae 0 [],ae 0 [],ae 0 [],ae 0 [],ae 0 [],ae 0 [],ae 0 [],ae 0 [],ae 0 [],0,0,b.2.2.2) else ak b.1 λc=>bif c.ble c&&Nat.ble 1 c then eJ 3 1 c b.1 λd=>ob (GQ w 225 d 0 (ae 0 []) (ae 0 []) (ae 0 []) (ae 0 []) (ae 0 []) (ae 0 []) (ae 0 []) (ae 0 []) (ae 0 []) (ae 0 []) 0 b.2.1) λe=>bif !e.2.1 then xu else ob (yj w 226 e.2.2.1 e.2.2.2.1 e.2.2.2.2.1 e.2.2.2.2.2.1 e.2.2.2.2.2.2.1 e.2.2.2.2.2.2.2.1 e.2.2.2.2.2.2.2.2.1 e.2.2.2.2.2.2.2.2.2.1 e.2.2.2.2.2.2.2.2.2.2.1 e.2.2.2.2.2.2.2.2.2.2.2.1 e.2.2.2.2.2.2.2.2.2.2.2.2.1 e.2.2.2.2.2.2.2.2.2.2.2.2.2.1 e.2.2.2.2.2.2.2.2.2.2.2.2.2.2.1 e.2.2.2.2.2.2.2.2.2.2.2.2.2.2.2) λf=>bif f.2.1 then ob (GR w f.1) λg=>ak e.1 λh=>ob (yk w f.2.2.1 f.2.2.2.1 f.2.2.2.2.1 f.2.2.2.2.2.1 f.2.2.2.2.2.2.1 f.2.2.2.2.2.2.2.1 f.2.2.2.2.2.2.2.2.1 f.2.2.2.2.2.2.2.2.2.1 f.2.2.2.2.2.2.2.2.2.2.1 f.2.2.2.2.2.2.2.2.2.2.2.1 f.2.2.2.2.2.2.2.2.2.2.2.2.1 g (ag .i64 ((ag .i64 (Int.add 6 (Int.ofNat h))).add 4)) f.2.2.2.2.2.2.2.2.2.2.2.2.2.2.2) λi=>AF w i e else ob (yk w f.2.2.1 f.2.2.2.1 f.2.2.2.2.1 f.2.2.2.2.2.1 f.2.2.2.2.2.2.1 f.2.2.2.2.2.2.2.1 f.2.2.2.2.2.2.2.2.1 f.2.2.2.2.2.2.2.2.2.1 f.2.2.2.2.2.2.2.2.2.2.1 f.2.2.2.2.2.2.2.2.2.2.2.1 f.2.2.2.2.2.2.2.2.2.2.2.2.1 f.2.2.2.2.2.2.2.2.2.2.2.2.2.1 f.2.2.2.2.2.2.2.2.2.2.2.2.2.2.1 f.2.2.2.2.2.2.2.2.2.2.2.2.2.2.2) λj=>AF w j e else none
def vw(w:Nat):V->Z->O (Z×V×V×V×V×V×V×V×V×V×V×Z×Z×B):=λa b=>ob (GJ w a b) λc=>bif !ah c.2 0 then some (0,ae 0 [],ae 0 [],ae 0 [],ae 0 [],ae 0 [],ae 0 [],ae 0 [],ae 0 [],ae 0 [],ae 0 [],0,0,false) else ax b λd=>aC 14 d a λe=>af e λf g=>aq .i64 f λh=>af g λi j=>af j λk l=>af l λm n=>af n λo p=>af p λq r=>af r λs t=>af t λu v=>af v λy z=>af z λa0 a1=>af a1 λa2 a3=>aq .i64 a2 λa4=>af a3 λa5 a6=>aq .i64 a5 λa7=>af a6 λa8 a9=>aq .i64 a8 λb0=>af a9 λb1 b2=>ob (xX w h i k m o q s u y a0 c.1 0 0) λb3=>ob (rT w b3.1) λb4=>some (b4.1,b4.2.1,b4.2.2.1,b4.2.2.2.1,b4.2.2.2.2.1,b4.2.2.2.2.2.1,b4.2.2.2.2.2.2.1,b4.2.2.2.2.2.2.2.1,b4.2.2.2.2.2.2.2.2.1,b4.2.2.2.2.2.2.2.2.2.1,b4.2.2.2.2.2.2.2.2.2.2.1,b4.2.2.2.2.2.2.2.2.2.2.2.1,b4.2.2.2.2.2.2.2.2.2.2.2.2.1,true)
def ya(w:Nat):Z->O B:=λa=>bif !ai a 0 then some !ai 4294967295 a else some false
def F6(w:Nat):Z->Z->R1:=λa b=>ob (ya w a) λc=>bif !c then some (0,false) else ob (ya w b) λd=>bif !d then some (0,false) else ob (ya w (ag .i64 (a.add b))) λe=>bif !e then some (0,false) else some (ag .i64 (a.add b),true)
def vo(w:Nat):Z->L->O (B×L):=λa b=>ax (ag .i64 ((Int.ofNat (b.length/1)).sub 1)) λc=>bif Nat.beq 1 1&&(c*1).blt b.length then af (List.drop (0+c*1) b) λd e=>aq .i64 d λf=>ob (F6 w f a) λg=>bif aw b.length&&(aw ([Value.int .i64 g.1].length/1)&&[Value.int .i64 g.1].length.beq ([Value.int .i64 g.1].length/1*1)) then bif !g.2 then some (true,b++[Value.int .i64 g.1]) else some (ai a 1,b++[Value.int .i64 g.1]) else none else none
def fT(w:Nat):HH->HH:=(λa b c d e=>bif ai c b then ax c λf=>bif Nat.beq 1 1&&(f*1).blt d.length then af (List.drop (0+f*1) d) λg h=>aq .i64 g λi=>ob (vo w i e) λj=>bif j.1 then some (c,d,j.2) else a b (ag .i64 (c.add 1)) d j.2 else none else some (-1,d,e))
def qJ:HH:=(λa b c d=>none)
def xZ(w:Nat):L->L->O (Z×L×L):=λa b=>lp qJ (fT w) w (Int.ofNat (a.length/1)) 0 a b
def F5(w:Nat):L->L->O (B×L×L):=λa b=>ob (xZ w a b) λc=>some (!ai c.1 0,c.2.1,c.2.2)
def tu(w:Nat):L->O (B×L×L):=λa=>ob (F5 w a [Value.int .i64 0]) λb=>bif b.1 then some (false,b.2.1,[]) else some (true,b.2.1,b.2.2)
def FI(w:Nat):Z->V->V->V->V->V->V->V->V->V->Z->Z->Z->V->V->L->O (B×V×L):=λa b c d e f g h i j k l m n o p=>ob (vw w o (Int.ofNat (p.length/1))) λq=>bif aw p.length&&(aw ([Value.int .i64 q.2.2.2.2.2.2.2.2.2.2.2.2.1].length/1)&&[Value.int .i64 q.2.2.2.2.2.2.2.2.2.2.2.2.1].length.beq ([Value.int .i64 q.2.2.2.2.2.2.2.2.2.2.2.2.1].length/1*1)) then ob (tu w (p++[Value.int .i64 q.2.2.2.2.2.2.2.2.2.2.2.2.1])) λr=>bif !q.2.2.2.2.2.2.2.2.2.2.2.2.2 then some (true,o,r.2.1) else some (!r.1,o,r.2.1) else none
def sO(w:Nat):Hw->Hw:=(λa b c d e f=>bif ai d c then ax d λg=>aC 14 g b λh=>af h λi j=>aq .i64 i λk=>af j λl m=>af m λn o=>af o λp q=>af q λr s=>af s λt u=>af u λv y=>af y λz a0=>af a0 λa1 a2=>af a2 λa3 a4=>af a4 λa5 a6=>aq .i64 a5 λa7=>af a6 λa8 a9=>aq .i64 a8 λb0=>af a9 λb1 b2=>aq .i64 b1 λb3=>af b2 λb4 b5=>ob (FI w k l n p r t v z a1 a3 a7 b0 b3 b4 e f) λb6=>bif b6.1 then some (d,b6.2.1,b6.2.2) else a b c (ag .i64 (d.add 1)) b6.2.1 b6.2.2 else some (-1,e,f))
def zS:Hw:=(λa b c d e=>none)
def F4(w:Nat):V->V->L->O (Z×V×L):=λa b c=>ak a λd=>lp zS (sO w) w a (Int.ofNat d) 0 b c
def MS(w:Nat):V->V->L->O (Z×V×L):=λa b c=>ob (F4 w a b c) λd=>some (d.1,d.2.1,d.2.2)
def Om(w:Nat):V->O Z:=λa=>ob (MS w a a []) λb=>some b.1
def NV(w:Nat):O Unit:=some ()
def rO(w:Nat):B->O Z:=λa=>bif a then some 0 else some (-1)
def GU(w:Nat):V->O Z:=λa=>ak a λb=>bif ai (Int.ofNat b) 1 then ob (rO w true) λc=>some c else ak a λd=>ob (rO w (ai 1000 (Int.ofNat d))) λe=>some e
def Fw(w:Nat):Z->V->V->V->V->V->V->V->V->V->Z->Z->Z->V->O B:=λa b c d e f g h i j k l m n=>ob (Bt w a b c d e f g h) λo=>some !ah o.2 0
def Ns(w:Nat):V->O Z:=λa=>ak a λb=>lp (α:=V->Z->Z->O Z) (λ_ _ _=>none) (λf g h i=>bif ai i h then ax i λj=>aC 14 j g λk=>af k λl m=>aq .i64 l λn=>af m λo p=>af p λq r=>af r λs t=>af t λu v=>af v λy z=>af z λa0 a1=>af a1 λa2 a3=>af a3 λa4 a5=>af a5 λa6 a7=>af a7 λa8 a9=>aq .i64 a8 λb0=>af a9 λb1 b2=>aq .i64 b1 λb3=>af b2 λb4 b5=>aq .i64 b4 λb6=>af b5 λb7 b8=>ob (Fw w n o q s u y a0 a2 a4 a6 b0 b3 b6 b7) λb9=>bif b9 then some i else f g h (ag .i64 (i.add 1)) else some (-1)) w a (Int.ofNat b) 0
def MU(w:Nat):V->O Z:=λa=>ob (Ns w a) λb=>some b
def Og(w:Nat):V->O Z:=λa=>ob (MU w a) λb=>some b
def Fx(w:Nat):Z->V->V->V->V->V->V->V->V->V->Z->Z->Z->V->O B:=λa b c d e f g h i j k l m n=>ak i λo=>ob (BI w (Int.ofNat o)) λp=>some (ai 255 p)
def Nt(w:Nat):V->O Z:=λa=>ak a λb=>lp (α:=V->Z->Z->O Z) (λ_ _ _=>none) (λf g h i=>bif ai i h then ax i λj=>aC 14 j g λk=>af k λl m=>aq .i64 l λn=>af m λo p=>af p λq r=>af r λs t=>af t λu v=>af v λy z=>af z λa0 a1=>af a1 λa2 a3=>af a3 λa4 a5=>af a5 λa6 a7=>af a7 λa8 a9=>aq .i64 a8 λb0=>af a9 λb1 b2=>aq .i64 b1 λb3=>af b2 λb4 b5=>aq .i64 b4 λb6=>af b5 λb7 b8=>ob (Fx w n o q s u y a0 a2 a4 a6 b0 b3 b6 b7) λb9=>bif b9 then some i else f g h (ag .i64 (i.add 1)) else some (-1)) w a (Int.ofNat b) 0
def MV(w:Nat):V->O Z:=λa=>ob (Nt w a) λb=>some b
def Oh(w:Nat):V->O Z:=λa=>ob (MV w a) λb=>some b
def Fy(w:Nat):Z->V->V->V->V->V->V->V->V->V->Z->Z->Z->V->O B:=λa b c d e f g h i j k l m n=>ob (yg w j) λo=>some !o
def Nu(w:Nat):V->O Z:=λa=>ak a λb=>lp (α:=V->Z->Z->O Z) (λ_ _ _=>none) (λf g h i=>bif ai i h then ax i λj=>aC 14 j g λk=>af k λl m=>aq .i64 l λn=>af m λo p=>af p λq r=>af r λs t=>af t λu v=>af v λy z=>af z λa0 a1=>af a1 λa2 a3=>af a3 λa4 a5=>af a5 λa6 a7=>af a7 λa8 a9=>aq .i64 a8 λb0=>af a9 λb1 b2=>aq .i64 b1 λb3=>af b2 λb4 b5=>aq .i64 b4 λb6=>af b5 λb7 b8=>ob (Fy w n o q s u y a0 a2 a4 a6 b0 b3 b6 b7) λb9=>bif b9 then some i else f g h (ag .i64 (i.add 1)) else some (-1)) w a (Int.ofNat b) 0
def MW(w:Nat):V->O Z:=λa=>ob (Nu w a) λb=>some b
def Oi(w:Nat):V->O Z:=λa=>ob (MW w a) λb=>some b
def FC(w:Nat):Z->V->V->V->V->V->V->V->V->V->Z->Z->Z->V->O B:=λa b c d e f g h i j k l m n=>ob (ia w k 4 2) λo=>ob (ia w l 2 2) λp=>ob (ia w m 2 2) λq=>bif !o.2 then some true else bif !p.2 then some true else some !q.2
def Nv(w:Nat):V->O Z:=λa=>ak a λb=>lp (α:=V->Z->Z->O Z) (λ_ _ _=>none) (λf g h i=>bif ai i h then ax i λj=>aC 14 j g λk=>af k λl m=>aq .i64 l λn=>af m λo p=>af p λq r=>af r λs t=>af t λu v=>af v λy z=>af z λa0 a1=>af a1 λa2 a3=>af a3 λa4 a5=>af a5 λa6 a7=>af a7 λa8 a9=>aq .i64 a8 λb0=>af a9 λb1 b2=>aq .i64 b1 λb3=>af b2 λb4 b5=>aq .i64 b4 λb6=>af b5 λb7 b8=>ob (FC w n o q s u y a0 a2 a4 a6 b0 b3 b6 b7) λb9=>bif b9 then some i else f g h (ag .i64 (i.add 1)) else some (-1)) w a (Int.ofNat b) 0
def MX(w:Nat):V->O Z:=λa=>ob (Nv w a) λb=>some b
def Oj(w:Nat):V->O Z:=λa=>ob (MX w a) λb=>some b
def FH(w:Nat):Z->V->V->V->V->V->V->V->V->V->Z->Z->Z->V->O B:=λa b c d e f g h i j k l m n=>ob (nv w 5 n) λo=>some !o
def Nw(w:Nat):V->O Z:=λa=>ak a λb=>lp (α:=V->Z->Z->O Z) (λ_ _ _=>none) (λf g h i=>bif ai i h then ax i λj=>aC 14 j g λk=>af k λl m=>aq .i64 l λn=>af m λo p=>af p λq r=>af r λs t=>af t λu v=>af v λy z=>af z λa0 a1=>af a1 λa2 a3=>af a3 λa4 a5=>af a5 λa6 a7=>af a7 λa8 a9=>aq .i64 a8 λb0=>af a9 λb1 b2=>aq .i64 b1 λb3=>af b2 λb4 b5=>aq .i64 b4 λb6=>af b5 λb7 b8=>ob (FH w n o q s u y a0 a2 a4 a6 b0 b3 b6 b7) λb9=>bif b9 then some i else f g h (ag .i64 (i.add 1)) else some (-1)) w a (Int.ofNat b) 0
def MY(w:Nat):V->O Z:=λa=>ob (Nw w a) λb=>some b
def Ol(w:Nat):V->O Z:=λa=>ob (MY w a) λb=>some b
def GV(w:Nat):V->O Z:=λa=>aC 14 0 a λb=>af b λc d=>aq .i64 c λe=>af d λf g=>af g λh i=>af i λj k=>af k λl m=>af m λn o=>af o λp q=>af q λr s=>af s λt u=>af u λv y=>af y λz a0=>aq .i64 z λa1=>af a0 λa2 a3=>aq .i64 a2 λa4=>af a3 λa5 a6=>aq .i64 a5 λa7=>af a6 λa8 a9=>ak a λb0=>bif ah (Int.ofNat b0) 1 then bif !ah a1 0 then ob (rO w true) λb1=>some b1 else bif !ah a4 0 then ob (rO w true) λb2=>some b2 else bif !ah a7 0 then ob (rO w true) λb3=>some b3 else ak a8 λb4=>ob (rO w (ai 0 (Int.ofNat b4))) λb5=>some b5 else ob (rO w false) λb6=>some b6
def EH:=((ag .i64 ((ag .i64 ((ag .i64 (Int.add 0 1)).add 1)).add 1)).add 1)
def EM:=((ag .i64 ((ag .i64 (EH)).add 1)).add 1)
def BH(w:Nat):V->O (Z×Z):=λa=>ob (NV w) λb=>ob (GU w a) λc=>bif !ai c 0 then some (ag .i64 (Int.add 0 1),c) else ob (Og w a) λd=>bif !ai d 0 then some (ag .i64 ((ag .i64 (Int.add 0 1)).add 1),d) else ob (Oh w a) λe=>bif !ai e 0 then some (ag .i64 ((ag .i64 ((ag .i64 (Int.add 0 1)).add 1)).add 1),e) else ob (Oi w a) λf=>bif !ai f 0 then some (ag .i64 (EH),f) else ob (Oj w a) λg=>bif !ai g 0 then some (ag .i64 ((ag .i64 (EH)).add 1),g) else ob (Ol w a) λh=>bif !ai h 0 then some (ag .i64 (EM),h) else ob (GV w a) λi=>bif !ai i 0 then some (ag .i64 ((ag .i64 (EM)).add 1),i) else ob (Om w a) λj=>bif !ai j 0 then some (ag .i64 ((ag .i64 ((ag .i64 (EM)).add 1)).add 1),j) else some (0,0)
def xK(w:Nat):V->O Z:=λa=>ob (BH w a) λb=>bif ah b.1 0 then some 0 else bif ah b.1 1 then ak a λc=>bif ah (Int.ofNat c) 0 then some 1 else some 7 else bif ah b.1 2 then ax b.2 λd=>aC 14 d a λe=>af (List.drop 0 e) λf g=>aq .i64 f λh=>af g λi j=>af j λk l=>af l λm n=>af n λo p=>af p λq r=>af r λs t=>af t λu v=>ob (Bt w h i k m o q s u) λy=>some y.2 else bif ah b.1 4 then some 2 else bif ah b.1 5 then some 1 else bif ah b.1 7 then some 1 else bif ah b.1 6 then some 6 else some 7
def X4(w:Nat):V->O B:=λa=>lp (α:=V->Z->O B) (λ_ _=>none) (λd e f=>ak e λg=>bif ai f (Int.ofNat g) then ax f λh=>aC 4 h e λi=>af (List.drop 2 (List.drop 1 i)) λj k=>ak j λl=>bif ai 600 (Int.ofNat l) then some true else d e (ag .i64 (f.add 1)) else ak e λm=>some (ai 60 (Int.ofNat m))) w a 0
def yp(w:Nat):Z->O Z:=λa=>bif ah a 1 then some 1 else bif ah a 2 then some 1 else bif ah a 6 then some 1 else bif ah a 7 then some 1 else bif ah a 3 then some 2 else bif ah a 8 then some 2 else bif ah a 4 then some 4 else bif ah a 9 then some 4 else bif ah a 11 then some 4 else bif ah a 5 then some 8 else bif ah a 10 then some 8 else bif ah a 12 then some 8 else some 0
def WS(w:Nat):Z->O B:=λa=>bif ah a 6 then some true else bif ah a 8 then some true else bif ah a 9 then some true else some (ah a 10)
def xL(w:Nat):Z->O Z:=λa=>bif ah a 5 then some 4 else bif ah a 10 then some 4 else ob (yp w a) λb=>some b
def vp(w:Nat):Z->O Z:=λa=>bif ah a 1 then some 256 else bif ah a 2 then some 65536 else bif ah a 4 then some 4294967296 else some 0
def WT(w:Nat):Z->Z->R1:=λa b=>ob (vp w b) λc=>bif ai a (ag .i64 (Int.sub 0 (ag .i64 (c.tdiv 2)))) then some (0,false) else bif !ai a (ag .i64 (c.tdiv 2)) then some (0,false) else bif ai a 0 then ob (vp w b) λd=>some (ag .i64 (a.add d),true) else some (a,true)
def qE(w:Nat):Z->Z->Z->R2:=λa b c=>bif ai c 1 then some (ae 0 [],false) else bif ai 2 c then some (ae 0 [],false) else bif ai a 0 then some (ae 0 [],false) else ob (vp w b) λd=>bif !ai a d then some (ae 0 [],false) else lp (α:=Z->Z->Z->Z->L->R2) (λ_ _ _ _ _=>none) (λj k l m n o=>bif ai n l then bif ah m 1 then bif aw o.length&&(aw ([Value.int .u8 (ag .u8 (k.tmod 256))].length/1)&&[Value.int .u8 (ag .u8 (k.tmod 256))].length.beq ([Value.int .u8 (ag .u8 (k.tmod 256))].length/1*1)) then j (ag .i64 (k.tdiv 256)) l m (ag .i64 (n.add 1)) (o++[Value.int .u8 (ag .u8 (k.tmod 256))]) else none else bif aw [Value.int .u8 (ag .u8 (k.tmod 256))].length&&(aw (o.length/1)&&o.length.beq (o.length/1*1)) then j (ag .i64 (k.tdiv 256)) l m (ag .i64 (n.add 1)) ([Value.int .u8 (ag .u8 (k.tmod 256))]++o) else none else some (ae (o.length/1) o,true)) w a b c 0 []
def tw(w:Nat):Z->Z->V->O B:=λa b c=>ob (yp w a) λd=>bif ah d 0 then some false else bif ai b 1 then some false else bif ai 65536 b then some false else ak c λe=>ob (yp w a) λf=>bif !ah (Int.ofNat e) (ag .i64 (b.mul f)) then some false else lp (α:=Z->Z->Z->V->O B) (λ_ _ _ _=>none) (λk l m n o=>ak o λp=>bif ai l (Int.ofNat p) then bif ah m 2 then ax l λq=>aC 1 q o λr=>af r λs t=>aq .u8 s λu=>ak o λv=>bif !ah u 0==ah l (ag .i64 ((Int.ofNat v).sub 1)) then some false else k (ag .i64 (l.add 1)) m n o else some true else some true) w 0 a b c
def Yj(w:Nat):Z->V->Z->R5:=λa b c=>ak b λd=>bif ah c 0 then none else lp (α:=Z->V->Z->Z->Z->Z->Z->L->L->R5) (λ_ _ _ _ _ _ _ _ _=>none) (λn o p q r s t u v y=>ak p λz=>bif ai q (Int.ofNat z) then ax q λa0=>aC 1 a0 p λa1=>af a1 λa2 a3=>aq .i64 a2 λa4=>ob (WS w o) λa5=>bif a5 then ob (xL w o) λa6=>ob (WT w a4 a6) λa7=>bif !a7.2 then some (0,0,ae 0 [],false) else ob (xL w o) λa8=>ob (qE w a7.1 a8 2) λa9=>bif !a9.2 then some (0,0,ae 0 [],false) else cn 1 a9.1 λb0 b1=>bif aw y.length&&(aw b0&&b1.length.beq (b0*1)) then n o p (ag .i64 (q.add 1)) r s t u v (y++b1) else none else ob (xL w o) λb2=>ob (qE w a4 b2 2) λb3=>bif !b3.2 then some (0,0,ae 0 [],false) else cn 1 b3.1 λb4 b5=>bif aw y.length&&(aw b4&&b5.length.beq (b4*1)) then n o p (ag .i64 (q.add 1)) r s t u v (y++b5) else none else ob (tw w t u (ae (y.length/1) y)) λb6=>bif !b6 then some (0,0,ae 0 [],false) else some (t,u,ae (y.length/1) y,true)) w a b 0 0 0 a (ag .i64 ((Int.ofNat d).tdiv c)) [] []
def NW(w:Nat):Z->V->R5:=λa b=>ob (yp w a) λc=>bif ah c 0 then some (0,0,ae 0 [],false) else bif ah a 5 then some (0,0,ae 0 [],false) else bif !ai a 10 then some (0,0,ae 0 [],false) else ob (Yj w a b 1) λd=>some (d.1,d.2.1,d.2.2.1,d.2.2.2)
def GN(w:Nat):Z->Z->V->Z->Z->V->O B:=λa b c d e f=>bif ah a d then bif ah b e then ob (rU w c f) λg=>some g else some false else some false
def On(w:Nat):Z->Z->Z->V->Z->Z->Z->V->O B:=λa b c d e f g h=>bif ah a e then ob (GN w b c d f g h) λi=>some i else some false
def rV(w:Nat):V->V->O B:=λa b=>ak a λc=>ak b λd=>bif !ah (Int.ofNat c) (Int.ofNat d) then some false else ak a λe=>lp (α:=V->V->Z->Z->O B) (λ_ _ _ _=>none) (λj k l m n=>bif ai n m then ax n λo=>aC 4 o l λp=>af p λq r=>aq .i64 q λs=>af r λt u=>aq .i64 t λv=>af u λy z=>aq .i64 y λa0=>af z λa1 a2=>ax n λa3=>aC 4 a3 k λa4=>af a4 λa5 a6=>aq .i64 a5 λa7=>af a6 λa8 a9=>aq .i64 a8 λb0=>af a9 λb1 b2=>aq .i64 b1 λb3=>af b2 λb4 b5=>ob (On w s v a0 a1 a7 b0 b3 b4) λb6=>bif !b6 then some false else j k l m (ag .i64 (n.add 1)) else some true) w b a (Int.ofNat e) 0
def GO(w:Nat):Z->V->V->V->V->V->V->V->Z->V->V->V->V->V->V->V->O B:=λa b c d e f g h i j k l m n o p=>ob (yq w a b c d e f g h) λq=>ob (yq w i j k l m n o p) λr=>ob (rV w q.2.1 r.2.1) λs=>bif !s then some false else ob (rV w q.2.2.2.1 r.2.2.2.1) λt=>bif !t then some false else ob (rV w q.2.2.2.2.2.1 r.2.2.2.2.2.1) λu=>bif !u then some false else ob (rV w q.2.2.2.2.2.2.2.1 r.2.2.2.2.2.2.2.1) λv=>bif !v then some false else ob (rV w q.2.2.2.2.2.2.2.2.2 r.2.2.2.2.2.2.2.2.2) λy=>bif !y then some false else bif ah a i then ob (rU w g o) λz=>bif z then ob (rU w h p) λa0=>some a0 else some false else some false
def xI(w:Nat):V->O B:=λa=>AK w a
def vz(w:Nat):V->V->O (Z×V×V×Z):=λa b=>ak a λc=>bif ai 65533 (Int.ofNat c) then some (0,ae 0 [],ae 0 [],7) else ak a λd=>bif ai (Int.ofNat d) 4 then some (0,ae 0 [],ae 0 [],3) else ob (xI w a) λe=>bif !e then some (0,ae 0 [],ae 0 [],2) else ak a λf=>bif f.ble f&&Nat.ble 4 f then eJ 1 4 f a λg=>ob (xJ w g b) λh=>some (h.1,h.2.1,h.2.2.1,h.2.2.2) else none
def ko(w:Nat):Z->Z->V->V->V->O (V×V×V×V):=λa b c d e=>ob (A5 w c a) λf=>bif f.2.2.2 then bif ah f.1 b then some (f.2.2.1,c,d,e) else some (ae 0 [],c,d,e) else some (ae 0 [],c,d,e)
def A9(w:Nat):V->Z->Z->O (Z×Z×Z×Z×Z):=λa b c=>ob (Bj w 0 0 0 0 0) λd=>ob (kN w) λe=>ob (jB w a b e.1 c) λf=>ob (kN w) λg=>ob (kN w) λh=>ob (jB w a (ag .i64 (b.add g.1)) h.2.1 c) λi=>ob (kN w) λj=>ob (kN w) λk=>ob (jB w a (ag .i64 ((ag .i64 (b.add g.1)).add j.2.1)) k.2.2.1 c) λl=>ob (kN w) λm=>ob (kN w) λn=>ob (jB w a (ag .i64 ((ag .i64 ((ag .i64 (b.add g.1)).add j.2.1)).add m.2.2.1)) n.2.2.2.1 c) λo=>ob (kN w) λp=>ob (kN w) λq=>ob (jB w a (ag .i64 ((ag .i64 ((ag .i64 ((ag .i64 (b.add g.1)).add j.2.1)).add m.2.2.1)).add p.2.2.2.1)) q.2.2.2.2 c) λr=>ob (kN w) λs=>some (f.1,i.1,l.1,o.1,r.1)
abbrev Cg:=Value->Int->Int->Int->Value->Int->Value->List Value->List Value->Option (Int×Value×Value×Bool)
abbrev Cf:=Value->Int->Int->Value->Int->Value->Int->Value->List Value->List Value->Option (Int×Value×Value×Bool)
def xw(a:Z)(b:Z)(c:V)(d:V->Z->Z->Z->V->Z->V->L->L->R7)(e:Z)(f:V)(g:Z)(h:L)(i:L)(j:V):R7:=bif ai a b then ax a λk=>aC 3 k c λl=>af l λm n=>af n λo p=>af p λq r=>d c b (ag .i64 (a.add 1)) e f g m h i else some (g,ae (i.length/5) i,j,true)
def Dh:Cg->Cg:=(λa b c d e f g h i j=>xw d c b a e f g i j h)
def RG:Cg:=(λa b c d e f g h i=>none)
def tb(a:Z×Z×Z×Z×Z):=(List.drop 0 [Value.int .i64 a.1,Value.int .i64 a.2.1,Value.int .i64 a.2.2.1,Value.int .i64 a.2.2.2.1,Value.int .i64 a.2.2.2.2])
def zK(w:Nat):Cf->Cf:=(λa b c d e f g h i j k=>ak b λl=>bif ai c (Int.ofNat l) then ob (A9 w b c d) λm=>bif aw k.length&&(aw 1&&(List.take 5 (tb m)).length.beq 5) then a b (ag .i64 (c.add 16)) d e f g h i j (k++List.take 5 (tb m)) else none else ak e λn=>bif n.ble n&&Nat.ble 1 n then eJ 3 1 n e λo=>ak o λp=>lp RG Dh w o (Int.ofNat p) 0 f g h i j k else none)
def JI:Cf:=(λa b c d e f g h i j=>none)
def BF(w:Nat):Z->V->R7:=λa b=>aC 3 0 b λc=>af c λd e=>af e λf g=>af g λh i=>ak d λj=>bif !ah (Int.ofNat j) 3 then some (0,ae 0 [],ae 0 [],false) else ak b λk=>bif ai 1 (Int.ofNat k) then aC 3 1 b λl=>af (List.drop 0 l) λm n=>ob (nv w 5 m) λo=>bif !o then some (0,ae 0 [],ae 0 [],false) else ob (ko w 45058 7 d f h) λp=>ob (ko w 45057 4 p.2.1 p.2.2.1 p.2.2.2) λq=>ob (jB w q.1 0 4 2) λr=>bif !r.2 then some (0,ae 0 [],ae 0 [],false) else bif ai r.1 2 then some (0,ae 0 [],ae 0 [],false) else ak p.1 λs=>bif !ah (Int.ofNat s) (ag .i64 (Int.mul 16 r.1)) then some (0,ae 0 [],ae 0 [],false) else ob (ko w 45057 4 q.2.1 q.2.2.1 q.2.2.2) λt=>ak t.1 λu=>bif !ah (Int.ofNat u) 4 then some (0,ae 0 [],ae 0 [],false) else ob (ko w 45056 7 t.2.1 t.2.2.1 t.2.2.2) λv=>cn 1 v.1 λy z=>ob (oV z) λa0=>bif !mq (mkStr a0).data.toList (ByteArray.mk #[48,49,48,48]).data.toList then some (0,ae 0 [],ae 0 [],false) else lp (α:=V->Z->Z->V->Z->V->Z->V->L->L->R7) (λ_ _ _ _ _ _ _ _ _ _=>none) (λb1 b2 b3 b4 b5 b6 b7 b8 b9 c0 c1=>ak b2 λc2=>bif ai b3 (Int.ofNat c2) then ob (A9 w b2 b3 b4) λc3=>bif aw c1.length&&(aw 1&&(List.take 5 (tb c3)).length.beq 5) then b1 b2 (ag .i64 (b3.add 16)) b4 b5 b6 b7 b8 b9 c0 (c1++List.take 5 (tb c3)) else none else ak b5 λc4=>bif c4.ble c4&&Nat.ble 1 c4 then eJ 3 1 c4 b5 λc5=>ak c5 λc6=>lp (α:=V->Z->Z->Z->V->Z->V->L->L->R7) (λ_ _ _ _ _ _ _ _ _=>none) (λd6 d7 d8 d9 e0 e1 e2 e3 e4 e5=>xw d9 d8 d7 d6 e0 e1 e2 e4 e5 e3) w c5 (Int.ofNat c6) 0 b6 b7 b8 b9 c0 c1 else none) w p.1 0 a b 0 (ae 0 []) a (ae 0 []) [] [] else ob (ko w 45058 7 d f h) λe6=>ob (ko w 45057 4 e6.2.1 e6.2.2.1 e6.2.2.2) λe7=>ob (jB w e7.1 0 4 2) λe8=>bif !e8.2 then some (0,ae 0 [],ae 0 [],false) else bif ai e8.1 2 then some (0,ae 0 [],ae 0 [],false) else ak e6.1 λe9=>bif !ah (Int.ofNat e9) (ag .i64 (Int.mul 16 e8.1)) then some (0,ae 0 [],ae 0 [],false) else ob (ko w 45057 4 e7.2.1 e7.2.2.1 e7.2.2.2) λf0=>ak f0.1 λf1=>bif !ah (Int.ofNat f1) 4 then some (0,ae 0 [],ae 0 [],false) else ob (ko w 45056 7 f0.2.1 f0.2.2.1 f0.2.2.2) λf2=>cn 1 f2.1 λf3 f4=>ob (oV f4) λf5=>bif !mq (mkStr f5).data.toList (ByteArray.mk #[48,49,48,48]).data.toList then some (0,ae 0 [],ae 0 [],false) else lp JI (zK w) w e6.1 0 a b 0 (ae 0 []) a (ae 0 []) [] []
def Bq(w:Nat):V->O (Z×V×V×Z):=λa=>ob (yn w) λb=>ob (vz w a b) λc=>bif !ah c.2.2.2 0 then some (0,ae 0 [],ae 0 [],c.2.2.2) else ob (BF w c.1 c.2.1) λd=>bif !d.2.2.2 then some (0,ae 0 [],ae 0 [],6) else some (d.1,d.2.1,d.2.2.1,0)
end
noncomputable section
abbrev K(g:FuncId)(a:List VT)(r:VT)(S:Fn (VT.fa a) (Option (bI r.ks))):=dF Tryz.prog g a r S
abbrev KH(g:FuncId)(T:HT)(S:Fn T.ti.ks (Option (bI T.to.ks))):=nE Tryz.prog g T S
abbrev KP(g:FuncId)(T:PT)(S:Fn T.ti.ks (Option (bI T.to.ks⊕bI T.tp.ks))):=sa Tryz.prog g T S
abbrev ln:Nat->Option cH:=λ_=>none
abbrev lc(k:Nat)(a:List (Nat×VT))(b:List (Nat×OT))(c:Nat)(r:Nat->Option cH):Nat->Option cH:=λn=>cond (Nat.beq n k) (some ⟨a,b,c⟩) (r n)
abbrev ul:Nat->Bool:=λn=>Nat.blt n 100000
abbrev PO(pt:(β:Type)->FuncId->Option (cy β)):=jo Tryz.prog pt
theorem pn:PO (λ_ _=>none):=sZ
theorem pa{pt:(β:Type)->FuncId->Option (cy β)}(p:PO pt){g:FuncId}{a:List VT}{r:VT}{S:Fn (VT.fa a) (Option (bI r.ks))}(F:K g a r S):PO (K2 pt g a r S):=iB p F
theorem ph{pt:(β:Type)->FuncId->Option (cy β)}(p:PO pt){g:FuncId}{T:HT}{S:Fn T.ti.ks (Option (bI T.to.ks))}(F:KH g T S):PO (K3 pt g T S):=nT p F
theorem pp{pt:(β:Type)->FuncId->Option (cy β)}(p:PO pt){g:FuncId}{T:PT}{S:Fn T.ti.ks (Option (bI T.to.ks⊕bI T.tp.ks))}(F:KP g T S):PO (K4 pt g T S):=pK p F
theorem fh{g:FuncId}(fn:Func){T:HT}{pt:(β:Type)->FuncId->Option (cy β)}(p:PO pt)(w:Nat){S:Fn T.ti.ks (Option (bI T.to.ks))}(lv:Nat->Option cH:=λ_=>none)(un:Nat->Bool:=λ_=>false)
 (hF:pS.F.get g=some fn:=by kernel_rfl) (hb:fn.body=some (fn.body.getD .skip):=by kernel_rfl) (hS:S=Pw w pS pt fn T lv (λ_=>none) un:=by kernel_rfl):KH g T S:=
 Je (w:=w) (lv:=lv) (jv:=λ_=>none) (un:=un) qN mixed p (fn:=fn) hF hb hS
theorem fp{g:FuncId}(fn:Func){T:PT}{pt:(β:Type)->FuncId->Option (cy β)}(p:PO pt)(w:Nat){S:Fn T.ti.ks (Option (bI T.to.ks⊕bI T.tp.ks))}(lv:Nat->Option cH:=λ_=>none)(un:Nat->Bool:=λ_=>false)
 (hF:pS.F.get g=some fn:=by kernel_rfl) (hb:fn.body=some (fn.body.getD .skip):=by kernel_rfl) (hS:S=Py w pS pt fn T lv (λ_=>none) un:=by kernel_rfl):KP g T S:=
 QL (w:=w) (lv:=lv) (jv:=λ_=>none) (un:=un) qN mixed p (fn:=fn) hF hb hS
abbrev oy:List (Nat×OT):=[(0,.cells [.v,vI,.v,.sl 1 0,.gr 2 5,vI,vI] 368),(1,.arr 481),(2,.grow 5 307)]
abbrev se:List (Nat×OT):=[(0,.cells [.v,vI,.v,.v,.v,.v,.v,.v,.v,.v,.v,.v,vI,vI] 209)]
abbrev tY:List (Nat×OT):=[(0,.cells [vI,vI,.gr 1 5] 417),(1,.grow 5 307)]
abbrev tZ:List (Nat×OT):=[(0,.cells [.sl 1 0,vI,.v,.v,vI] 356),(1,.arr 5)]
abbrev ua:List (Nat×OT):=[(0,.cells [.v] 117),(1,.cells [.gr 2 1] 47),(2,.grow 1 3)]
abbrev Cz:List (Nat×OT):=[(0,.grow 1 3),(1,.cells [.gr 2 1] 47),(2,.grow 1 3)]
abbrev Pf:List (Nat×OT):=[(0,.cells [.v,vI,.v,.sl 6 0,.gr 7 5,vI,vI] 368),(3,.cells [.gr 8 4,.gr 9 4,.v] 261),(4,.cells [.v,vI,vI,vI] 293),(6,.arr 481),(7,.grow 5 307),(8,.grow 4 136),(9,.grow 4 346)]
abbrev ub:List (Nat×OT):=[(0,.cells [.v,vI] 275)]
abbrev yP:cH:=⟨[(0,.fC 440 (.agg [vI]))],oy,3⟩
abbrev Pg:List (Nat×OT):=[(0,.cells [.sl 1 0,vI,.v,.v,vI] 356),(2,.cells [.v,.v,.v] 261),(3,.cells [.v,vI,vI,vI] 293),(4,.cells [.gr 5 4] 425),(1,.arr 5),(5,.grow 4 385)]
abbrev O8:List (Nat×OT):=[(0,.cells [vI,vI,.gr 2 1] 134),(1,.cells [vI,vI,.gr 3 1] 134),(2,.grow 1 5),(3,.grow 1 5)]
abbrev HJ:cH:=⟨[(0,.fC 271 (.agg [vI,vI]))],ub,1⟩
abbrev HK:List (Nat×OT):=[(0,.cells [vI,.v,.v,.v,.v,.v,.v,.v] 437)]
abbrev yO:List (Nat×VT):=[(0,.ptr 0 0),(1,vI)]
abbrev HM:cH:=⟨[(0,.sl 0 0)],[(0,.arr 5)],1⟩
abbrev HS:List (Nat×OT):=[(0,.cells [.gr 1 3] 181),(1,.grow 3 185)]
abbrev O9:cH:=⟨[(0,.aH [])],[(0,.cells [.gr 1 4] 425),(1,.grow 4 385)],2⟩
abbrev HU:cH:=⟨[(0,.aH [.v,.b])],se,1⟩
abbrev Pb:cH:=⟨[(0,.ptr 0 0),(1,vI),(2,vI),(3,vI)],tZ,2⟩
abbrev HY:cH:=⟨[(0,.ptr 0 0)],oy,3⟩
abbrev Pc:cH:=⟨[(0,.gr 0 1),(1,.fn 197 [.ptr 1 0])],Cz,3⟩
abbrev HZ:cH:=⟨[(0,.aH [])],tY,2⟩
abbrev Pd:List (Nat×OT):=[(0,.cells [.gr 2 4] 425),(1,.arr 385),(2,.grow 4 385)]
abbrev Pe:cH:=⟨[(0,.ptr 0 0),(1,vI),(2,vI)],oy,3⟩
theorem fr{g:FuncId}(fn:Func){avt:List VT}{rvt:VT}{pt:(β:Type)->FuncId->Option (cy β)}(PT:jo Tryz.prog pt)(w:Nat){Sh:Fn (VT.fa avt) (Option (bI rvt.ks))}(lv:Nat->Option cH:=λ_=>none)(un:Nat->Bool:=λ_=>false)
 (hF:pS.F.get g=some fn:=by kernel_rfl) (hb:fn.body=some (fn.body.getD .skip):=by kernel_rfl) (hS:Sh=Px w pS pt fn avt rvt lv (λ_=>none) un:=by kernel_rfl):dF Tryz.prog g avt rvt Sh:=
 aaR (w:=w) (lv:=lv) (jv:=λ_=>none) (un:=un) qN mixed PT (fn:=fn) hF hb hS
theorem pi{pt pi:(β:Type)->FuncId->Option (cy β)}(p:PO pt)(q:PO pi){g:FuncId}(fn:Func)(w:Nat)(hF:pS.F.get g=some fn:=by kernel_rfl)(hb:fn.body=some (fn.body.getD .skip):=by kernel_rfl):PO (K5 pt pi g pS fn (λ_=>none) (λ_=>true) w):=ag8 qN mixed p q hF hb
theorem ae1(w:Nat):K 314 [vI,.lp [vI]] (.b) (NC w):=fr Tryz.f314 pn w
theorem Kw(w:Nat):K 268 [.v,.fn 314 [.lp [vI]]] vI (Gh w):=fr Tryz.f268 (pa pn (ae1 w)) w (lc 0 [(0,.v),(1,.fn 314 [.oL]),(7,vI),(8,vI)] [] 0 ln)
theorem Kv(w:Nat):K 196 [.v,.fn 314 [.lp [vI]]] (.b) (Nx w):=fr Tryz.f196 (pa pn (Kw w)) w
theorem Ae(w:Nat):K 245 [vI,vI] (.b) (qF w):=fr Tryz.f245 (pa pn (Kv w)) w
theorem TA(w:Nat):K 246 [vI] vI (xR w):=fr Tryz.f246 pn w
theorem aeI(w:Nat):KH 247 ⟨1,HM,1,⟨[(0,.aH [])],[(0,.arr 5)],1⟩⟩ (F0 w):=fh Tryz.f247 pn w (lc 0 [(0,.sl 0 0),(2,vI),(3,vI)] [(0,.arr 5)] 1 ln)
theorem rA(w:Nat):K 179 [vI,vI,vI] (.aH [.v,.b]) (ia w):=fr Tryz.f179 (ph (pa (pa pn (Ae w)) (TA w)) (aeI w)) w (lc 0 [(0,vI),(1,vI),(2,vI),(8,.sl 0 0),(27,vI),(28,vI)] [(0,.arr 5)] 1 ln)
theorem TV(w:Nat):K 388 [vI] (.b) (yd w):=fr Tryz.f388 (pa pn (rA w)) w
theorem afA(w:Nat):K 389 [.v,vI,vI] (.b) (Gn w):=fr Tryz.f389 pn w
theorem TN(w:Nat):K 324 [.v] (.b) (qG w):=fr Tryz.f324 (pa (pa pn (TV w)) (afA w)) w (lc 0 [(0,.v),(15,.v),(16,vI),(17,vI)] [] 0 (lc 2 [(0,.v),(3,vI),(4,.ptr 0 0),(15,.v),(16,vI),(17,vI),(23,.v),(24,vI),(25,vI)] [(0,.cells [.v,vI,vI,vI] 293)] 1 ln))
theorem DQ(w:Nat):K 258 [.agg [.v,.v,.v]] vI (ku w):=fr Tryz.f258 pn w
theorem agc(w:Nat):K 480 [.agg [vI,vI],.lp [vI]] (.b) (N7 w):=fr Tryz.f480 pn w
theorem DR(w:Nat):K 328 [.v,.fn 480 [.lp [vI]]] vI (NL w):=fr Tryz.f328 (pa pn (agc w)) w (lc 0 [(0,.v),(1,.fn 480 [.oL]),(7,vI),(8,vI)] [] 0 ln)
theorem TX(w:Nat):K 456 [.v,.fn 480 [.lp [vI]]] (.b) (Bu w):=fr Tryz.f456 (pa pn (DR w)) w
theorem af5(w:Nat):K 445 [.agg [.v,vI,vI,vI],vI] (.b) (By w):=fr Tryz.f445 (pa pn (TX w)) w
theorem afx(w:Nat):K 310 [] (.agg [vI,vI,vI,vI,vI,vI,vI,vI,vI,vI,vI,vI,vI,vI,vI,vI,vI,vI,vI,vI,vI,vI,vI,vI,vI,vI,vI,vI,vI,vI,vI,vI,vI,vI,vI,vI,vI,vI,vI]) (X1 w):=fr Tryz.f310 pn w
theorem wZ(w:Nat):K 231 [vI] (.agg [vI,vI,vI]) (rS w):=fr Tryz.f231 (pa pn (afx w)) w
theorem uQ(w:Nat):K 308 [.agg [vI,vI,.v]] (.b) (pR w):=fr Tryz.f308 (pa (pa pn (wZ w)) (afG w)) w
theorem afQ(w:Nat):K 390 [.agg [.v],.agg [.v,.v,.v],.agg [.v,vI,vI,vI]] (.b) (Gw w):=fr Tryz.f390 (pa (pa (pa pn (TV w)) (af5 w)) (uQ w)) w (lc 0 [(4,.ptr 1 0),(5,.ptr 2 0),(10,.v),(11,vI),(12,vI)] [(1,.cells [.v,.v,.v] 261),(2,.cells [.v,vI,vI,vI] 293)] 3 ln)
theorem afR(w:Nat):K 391 [.agg [vI,vI],.lp [vI,.v,.v,.v]] (.b) (NZ w):=fr Tryz.f391 pn w
theorem DS(w:Nat):K 328 [.v,.fn 391 [.lp [vI,.v,.v,.v]]] vI (NM w):=fr Tryz.f328 (pa pn (afR w)) w (lc 0 [(0,.v),(1,.fn 391 [.oL]),(7,vI),(8,vI)] [] 0 ln)
theorem afn(w:Nat):K 325 [.agg [.v],.agg [.v,.v,.v],vI] (.b) (NJ w):=zw (λrec h=>fr Tryz.f325 (iB (iB (iB (iB sZ (DQ w)) (afQ w)) (DS w)) h) w (lv:=λn=>(cond (Nat.beq n 0) (some ⟨[(3,.ptr 0 0),(4,.ptr 1 0),(7,.ptr 2 0),(44,.v),(45,vI),(46,vI)],[(0,.cells [.v] 422),(1,.cells [.v,.v,.v] 261),(2,.cells [.v,vI,vI,vI] 293)],3⟩) none))) w
theorem afN(w:Nat):K 385 [.agg [vI,vI,vI,.v]] (.b) (NX w):=fr Tryz.f385 (pa pn (uQ w)) w
theorem af3(w:Nat):K 442 [.v,.fn 385 []] vI (N5 w):=fr Tryz.f442 (pa pn (afN w)) w (lc 0 [(0,.v),(1,.fn 385 []),(7,vI),(8,vI)] [] 0 ln)
theorem afM(w:Nat):K 384 [.v,.fn 385 []] (.b) (ny w):=fr Tryz.f384 (pa pn (af3 w)) w
theorem afl(w:Nat):K 321 [.agg [vI,.v]] .b (vr w):=acm (DQ w) (afM w) w
theorem af4(w:Nat):K 443 [vI] vI (GH w):=fr Tryz.f443 pn w
theorem afO(w:Nat):KH 386 ⟨2,⟨yO,tY,2⟩,2,⟨[(0,vI)],tY,2⟩⟩ (NY w):=fh Tryz.f386 (pa pn (af4 w)) w
theorem Kx(w:Nat):KH 322 ⟨5,⟨[(0,.ptr 0 0),(1,vI),(2,vI),(3,vI),(4,vI)],tY,2⟩,1,HZ⟩ (vu w):=fh Tryz.f322 (ph pn (afO w)) w
theorem TY(w:Nat):K 458 [vI] vI (Bv w):=fr Tryz.f458 (pa pn (wZ w)) w
theorem T7(w:Nat):K 429 [vI,vI] vI (BA w):=fr Tryz.f429 (pa pn (TY w)) w
theorem TZ(w:Nat):K 444 [vI,vI] vI (Bw w):=fr Tryz.f444 (pa pn (T7 w)) w
theorem afP(w:Nat):KH 387 ⟨4,⟨[(0,.ptr 0 0),(1,.agg [.v,.v,.v]),(2,vI),(3,.fn 65858 [.ptr 0 0])],tY,2⟩,1,HZ⟩ (Gv w):=fh Tryz.f387 (ph (pa pn (TZ w)) (Kx w)) w (lc 0 [(2,vI),(3,.fn 65858 [.ptr 0 0]),(12,.v),(13,vI),(14,vI)] tY 3 ln)
theorem afm(w:Nat):KH 323 ⟨2,⟨[(0,.ptr 0 0),(1,.agg [.v,.v,.v])],tY,2⟩,1,HZ⟩ (NI w):=Jd (λrec h=>Je (w:=w) (lv:=λn=>(cond (Nat.beq n 0) (some ⟨[(0,.ptr 0 0),(3,.ptr 2 0),(4,vI),(33,.v),(34,vI),(35,vI)],[(0,.cells [vI,vI,.gr 6 5] 417),(2,.cells [.v,.v,.v] 261),(6,.grow 5 307)],7⟩) none)) (jv:=λ_=>none) (un:=λn=>false) qN mixed (nT (nT (nT (iB sZ (DQ w)) (Kx w)) (afP w)) h) (fn:=Tryz.f323) (by kernel_rfl) (by kernel_rfl) (by kernel_rfl)) w
theorem TJ(w:Nat):K 254 [.agg [vI,.v]] (.aH [.v,.b]) (xU w):=fr Tryz.f254 (ph (ph (pa pn (afl w)) (Kx w)) (afm w)) w (lc 0 [(4,.ptr 1 0),(15,.v),(16,vI),(17,vI)] [(1,.cells [vI,vI,.gr 3 5] 417),(3,.grow 5 307)] 4 ln)
theorem Kj(w:Nat):K 181 [.agg [vI,.v]] vI (rQ w):=fr Tryz.f181 (pa pn (TJ w)) w
theorem TK(w:Nat):K 255 [.agg [vI,.v],.v] vI (tC w):=fr Tryz.f255 (pa (pa (pa pn (TN w)) (afn w)) (Kj w)) w (lc 0 [(1,.v),(2,.ptr 0 0),(5,.gr 1 1),(6,vI)] [(0,.cells [vI,.v] 217),(1,.grow 1 3)] 2 (lc 2 [(1,.v),(2,.ptr 0 0),(5,.gr 1 1),(54,.v),(55,vI),(56,vI)] [(0,.cells [vI,.v] 217),(1,.grow 1 3)] 2 ln))
theorem TL(w:Nat):KH 256 ⟨4,Pb,2,⟨[(0,.aH [])],tZ,2⟩⟩ (rR w):=fh Tryz.f256 (pa pn (rA w)) w
theorem TB(w:Nat):KH 247 ⟨1,⟨[(0,.BJ 0)],[(0,.arr 5)],1⟩,1,⟨[(0,.aH [])],[(0,.arr 5)],1⟩⟩ (tA w):=fh Tryz.f247 pn w (lc 0 [(0,.BJ 0),(2,vI),(3,vI)] [(0,.arr 5)] 1 ln)
theorem T6(w:Nat):KH 430 ⟨3,⟨[(0,.v),(1,vI),(2,vI)],[],0⟩,0,HM⟩ (Bz w):=fh Tryz.f430 (ph (pa pn (Ae w)) (TB w)) w (lc 0 [(1,vI),(2,vI),(7,.sl 0 0),(8,vI)] [(0,.arr 5)] 1 ln)
theorem afT(w:Nat):KH 393 ⟨2,⟨[(0,.agg [vI,vI,.v]),(1,vI)],[],0⟩,0,HM⟩ (Gy w):=fh Tryz.f393 (ph (pa (pa pn (uQ w)) (wZ w)) (T6 w)) w
theorem wY(w:Nat):K 194 [.v,vI,vI,vI] (.aH [vI,.b]) (jB w):=fr Tryz.f194 (pa pn (Ae w)) w (lc 0 [(0,.v),(1,vI),(2,vI),(3,vI),(10,vI),(29,vI),(30,vI)] [] 0 ln)
theorem afS(w:Nat):K 392 [vI,.agg [vI,vI,.v],vI] (.aH [.agg [vI,vI,vI,vI],.b]) (Gx w):=fr Tryz.f392 (pa (ph (pa pn (rA w)) (afT w)) (wY w)) w
theorem afW(w:Nat):K 395 [.agg [vI,vI,vI,vI,vI],.lp [vI],.lp [vI],.lp [vI]] (.b) (N1 w):=fr Tryz.f395 pn w
theorem afV(w:Nat):K 394 [.v,.fn 395 [.lp [vI],.lp [vI],.lp [vI]]] vI (N0 w):=fr Tryz.f394 (pa pn (afW w)) w (lc 0 [(0,.v),(1,.fn 395 [.oL,.oL,.oL]),(7,vI),(8,vI)] [] 0 ln)
theorem TQ(w:Nat):KH 331 ⟨4,Pb,2,⟨[(0,vI)],tZ,2⟩⟩ (tE w):=fh Tryz.f331 (pa pn (afV w)) w
theorem afU(w:Nat):K 393 [.agg [vI,vI,.v],vI] (.v) (Gz w):=fr Tryz.f393 (ph (pa (pa pn (uQ w)) (wZ w)) (T6 w)) w
theorem afq(w:Nat):KH 327 ⟨3,⟨[(0,.ptr 0 0),(1,.agg [vI,vI,vI,.v]),(2,vI)],tZ,2⟩,1,⟨[(0,.agg [vI,vI,vI,vI])],tZ,2⟩⟩ (yb w):=fh Tryz.f327 (pa (ph (pa pn (afS w)) (TQ w)) (afU w)) w
theorem afo(w:Nat):KH 326 ⟨2,⟨[(0,.vA 1 0 1 1),(1,.ptr 0 0)],Pd,3⟩,1,O9⟩ (Bo w):=fh Tryz.f326 pn w
theorem aft(w:Nat):K 329 [.agg [vI,vI],.lp [vI,.v,.v,.v]] (.b) (NQ w):=fr Tryz.f329 pn w
theorem Ky(w:Nat):K 328 [.v,.fn 329 [.lp [vI,.v,.v,.v]]] vI (NN w):=fr Tryz.f328 (pa pn (aft w)) w (lc 0 [(0,.v),(1,.fn 329 [.oL]),(7,vI),(8,vI)] [] 0 ln)
theorem afu(w:Nat):K 330 [vI,vI] (.agg [vI,vI,vI,vI]) (tD w):=fr Tryz.f330 pn w
theorem afp(w:Nat):KH 326 ⟨2,⟨[(0,.vA 1 0 2 2),(1,.ptr 0 0)],Pd,3⟩,1,O9⟩ (Bp w):=fh Tryz.f326 pn w
theorem afw(w:Nat):K 334 [.agg [vI,vI,vI,vI],vI] (.aH [.v,.b]) (Gm w):=fr Tryz.f334 (pa pn (rA w)) w ln ul
theorem aeX(w:Nat):KH 257 ⟨3,⟨[(0,.ptr 0 0),(1,.agg [.v,.v,.v]),(2,vI)],tZ,2⟩,1,⟨[(0,vI)],tZ,2⟩⟩ (F8 w):=Jd (λrec h=>Je (w:=w) (lv:=λn=>(cond (Nat.beq n 0) (some ⟨[(0,.ptr 0 0),(4,.ptr 2 0),(7,vI),(8,.ptr 3 0),(9,.ptr 4 0),(10,.fn 326 [.ptr 4 0]),(42,.v),(43,vI),(44,vI)],Pg,6⟩) (cond (Nat.beq n 2) (some ⟨[(0,.ptr 0 0),(4,.ptr 2 0),(7,vI),(8,.ptr 3 0),(9,.ptr 4 0),(10,.fn 326 [.ptr 4 0]),(57,.v),(58,vI),(59,vI)],Pg,6⟩) (cond (Nat.beq n 4) (some ⟨[(0,.ptr 0 0),(17,vI),(126,.gr 10 4),(127,vI),(128,vI)],[(0,.cells [.sl 1 0,vI,.v,.v,vI] 356),(10,.grow 4 385),(1,.arr 5)],16⟩) none)))) (jv:=λ_=>none) (un:=λn=>false) qN mixed (nT (iB (nT (nT (nT (iB (nT (iB (nT (nT (iB (iB sZ (DS w)) (DR w)) (afq w)) (afo w)) (Ky w)) (TQ w)) (afu w)) (afp w)) (afv w)) (TL w)) (afw w)) h) (fn:=Tryz.f257) (by kernel_rfl) (by kernel_rfl) (by kernel_rfl)) w
theorem Kk(w:Nat):K 182 [.agg [vI,.v],.v] (.aH [.v,vI]) (Bc w):=fr Tryz.f182 (pa (ph (ph (pa (pa (pa pn (TK w)) (Kj w)) (TJ w)) (TL w)) (aeX w)) (DQ w)) w (lc 0 [(1,.v),(7,.ptr 2 0),(8,vI),(9,vI),(56,.v),(57,vI),(58,vI)] [(2,.cells [.sl 1 0,vI,.v,.v,vI] 356),(1,.arr 5)] 5 ln)
theorem Ug(w:Nat):K 142 [.agg [vI,.v,.v,.v,.v,.v,.v,.v]] (.agg [vI,.v,vI,.v,vI,.v,vI,.v,vI,.v]) (yq w):=fr Tryz.f142 pn w
theorem aeM(w:Nat):K 229 [] .v (Nq w):=have a:=pi pn pn (g:=303) Tryz.f303 w;fr Tryz.f229 (pi (pi (pi (pi (pi a a (g:=302) Tryz.f302 w) a (g:=304) Tryz.f304 w) a (g:=305) Tryz.f305 w) a (g:=306) Tryz.f306 w) pn (g:=301) Tryz.f301 w) w ln (λ_=>true)
theorem af2(w:Nat):K 431 [.v,.agg [vI,vI]] vI (N4 w):=fr Tryz.f431 pn w (lc 0 [(0,.v),(3,.ptr 0 0),(7,vI),(8,vI)] [(0,.cells [vI,vI] 402)] 1 ln)
theorem afF(w:Nat):K 368 [.v,.agg [vI,vI]] (.b) (NT w):=fr Tryz.f368 (pa pn (af2 w)) w
theorem ae5(w:Nat):K 307 [vI,vI] (.b) (Gf w):=fr Tryz.f307 (pa pn (afF w)) w
theorem afH(w:Nat):K 370 [.v,vI] vI (NU w):=fr Tryz.f370 pn w (lc 0 [(0,.v),(1,vI),(7,vI),(8,vI)] [] 0 ln)
theorem ae6(w:Nat):K 309 [.v,vI] (.b) (Gg w):=fr Tryz.f309 (pa pn (afH w)) w
theorem aeN(w:Nat):K 230 [.v,vI,.agg [vI,vI,vI,.v]] (.b) (Bi w):=fr Tryz.f230 (pa (pa (pa pn (uQ w)) (ae5 w)) (ae6 w)) w
theorem wX(w:Nat):K 164 [vI,.v] (.b) (nv w):=fr Tryz.f164 (pa (pa pn (aeM w)) (aeN w)) w (lc 0 [(0,vI),(1,.v),(5,.v),(9,.v),(10,vI),(11,vI)] [] 0 ln)
theorem afg(w:Nat):K 316 [.v] vI (Gk w):=fr Tryz.f316 pn w (lc 0 [(0,.v),(3,vI),(4,vI)] [] 0 ln)
theorem TI(w:Nat):K 250 [.v] (.b) (xT w):=fr Tryz.f250 (pa pn (afg w)) w
theorem TH(w:Nat):K 248 [.agg [vI,.v,.v,.v,.v,.v,.v,.v]] vI (Bk w):=fr Tryz.f248 (pa (pa (pa pn (Ug w)) (wX w)) (TI w)) w ln ul
theorem afd(w:Nat):KH 315 ⟨1,⟨[(0,.v)],[],0⟩,0,⟨[(0,.gr 0 4)],[(0,.grow 4 136)],1⟩⟩ (Gj w):=fh Tryz.f315 pn w
theorem aeE(w:Nat):K 239 [.v] (.v) (No w):=fr Tryz.f239 pn w
theorem sW(w:Nat):K 239 [.em false] (.v) (aiS w):=fr Tryz.f239 pn w ln ul
theorem sX(w:Nat):K 239 [.em true] (.v) (aiT w):=fr Tryz.f239 pn w ln ul
theorem rB(w:Nat):K 239 [.v] .v (nw w):=Jf (aeE w) (show dF Tryz.prog 239 [.em false] .v (some (ae 0 [])) from sW w) (show dF Tryz.prog 239 [.em true] .v (some (ae 0 [])) from sX w)
theorem aeT(w:Nat):K 249 [.v] (.v) (NA w):=fr Tryz.f249 (pa (ph pn (afd w)) (rB w)) w (lc 0 [(3,.gr 0 4),(8,vI),(9,vI)] [(0,.grow 4 136)] 1 ln)
theorem afe(w:Nat):K 315 [.em false] (.v) (aji w):=fr Tryz.f315 pn w ln ul
theorem DM(w:Nat):K 249 [.em false] (.v) (ai6 w):=fr Tryz.f249 (pa (pa (pa (pa pn (rB w)) (sX w)) (sW w)) (afe w)) w ln ul
theorem aff(w:Nat):K 315 [.em true] (.v) (ajj w):=fr Tryz.f315 pn w ln ul
theorem DN(w:Nat):K 249 [.em true] (.v) (ai7 w):=fr Tryz.f249 (pa (pa (pa (pa pn (rB w)) (sX w)) (sW w)) (aff w)) w ln ul
theorem DP(w:Nat):K 249 [.v] .v (mc w):=Jf (aeT w) (show dF Tryz.prog 249 [.em false] .v (some (ae 0 [])) from DM w) (show dF Tryz.prog 249 [.em true] .v (some (ae 0 [])) from DN w)
theorem afi(w:Nat):K 318 [.v] (.agg [vI,vI,vI,.v]) (Gl w):=fr Tryz.f318 (pa (pa (pa pn (rB w)) (sX w)) (sW w)) w
theorem Kt(w:Nat):K 267 [.agg [vI,vI,.v]] (.agg [vI,vI,.v]) (tB w):=fr Tryz.f267 (pa (pa (pa pn (rB w)) (sX w)) (sW w)) w
theorem afI(w:Nat):K 361 [vI] (.b) (Gu w):=fr Tryz.f361 pn w
theorem ae9(w:Nat):K 293 [vI,vI] vI (NF w):=fr Tryz.f293 (pa pn (afI w)) w
theorem ae8(w:Nat):K 342 [.agg [vI,vI,vI,.v],vI] vI (vq w):=fr Tryz.f342 (pa pn (ae9 w)) w
theorem ae7(w:Nat):K 341 [.v,vI,.fn 342 []] (.aH [vI,.b]) (ND w):=fr Tryz.f341 (pa pn (ae8 w)) w (lc 0 [(0,.v),(1,vI),(2,.fn 342 []),(8,vI),(9,vI),(10,vI)] [] 0 ln)
theorem Ks(w:Nat):K 266 [.v,vI] (.aH [vI,.b]) (xS w):=fr Tryz.f266 (pa pn (ae7 w)) w
theorem afh(w:Nat):K 317 [.v,.agg [vI,vI,vI,.v]] .v (Bn w):=ah7 (Kt w) (Ks w)
theorem aeU(w:Nat):K 251 [.agg [vI,.v,.v,.v,.v,.v,.v,.v]] (.agg [.v,.v,.v]) (F7 w):=fr Tryz.f251 (pa (pa (pa (pa (pa pn (DP w)) (DN w)) (DM w)) (afi w)) (afh w)) w
theorem afL(w:Nat):K 382 [.i .u64] vI (X6 w):=fr Tryz.f382 pn w
theorem afk(w:Nat):K 320 [.i .u64] vI (XZ w):=fr Tryz.f320 (pa pn (afL w)) w
theorem aeW(w:Nat):K 253 [.agg [vI,.v,.v,.v],.agg [vI,.v,.v,.v]] vI (XR w):=fr Tryz.f253 pn w
theorem afK(w:Nat):K 373 [.v,vI,vI,.fn 253 []] (.aH []) (X5 w):=fr Tryz.f373 (pa pn (aeW w)) w (lc 0 [(0,.v),(1,vI),(2,vI),(3,.fn 253 []),(8,vI)] [] 0 (lc 2 [(0,.v),(1,vI),(2,vI),(3,.fn 253 []),(8,vI),(9,vI)] [] 0 ln))
theorem afj(w:Nat):K 319 [.v,vI,vI,vI,.fn 253 []] (.aH []) (XY w):=fr Tryz.f319 (pa pn (afK w)) w (lc 0 [(0,.v),(1,vI),(2,vI),(3,vI),(4,.fn 253 []),(10,.b),(11,.b)] [] 0 ln)
theorem aeV(w:Nat):K 252 [.v,.fn 253 []] (.aH []) (oS w):=fr Tryz.f252 (pa (pa pn (afk w)) (afj w)) w
theorem Tj(w:Nat):K 180 [.agg [vI,.v,.v,.v,.v,.v,.v,.v]] (.aH [.agg [vI,.v],vI]) (Bb w):=fr Tryz.f180 (pa (pa (pa (pa (pa (pa pn (TH w)) (DP w)) (TI w)) (aeU w)) (rB w)) (aeV w)) w ln (λn=>Nat.beq n 100011)
theorem Kl(w:Nat):K 144 [] (.v) (Bd w):=fr Tryz.f144 pn w
theorem KF(w:Nat):K 117 [.agg [vI,.v,.v,.v,.v,.v,.v,.v]] (.aH [.v,vI]) (GX w):=fr Tryz.f117 (pa (pa (pa pn (Kk w)) (Tj w)) (Kl w)) w
theorem KE(w:Nat):K 116 [.agg [vI,.v,.v,.v,.v,.v,.v,.v]] (.aH [vI,vI]) (GW w):=fr Tryz.f116 (pa (pa pn (Tj w)) (Kj w)) w
theorem S6(w:Nat):K 193 [.v,vI] (.aH [.agg [vI,vI,.v],.b]) (A5 w):=fr Tryz.f193 (pa (pa pn (Ks w)) (Kt w)) w
theorem afz(w:Nat):K 397 [.v,vI] .v (yc w):=aai (Kt w) (Ks w)
theorem ae2(w:Nat):KH 336 ⟨2,⟨[(0,.ptr 0 0),(1,.agg [.v,.v,.v])],HK,1⟩,1,⟨[(0,.b)],HK,1⟩⟩ (Gc w):=fh Tryz.f336 (pa (pa (pa (pa (pa pn (DP w)) (DN w)) (DM w)) (S6 w)) (afz w)) w (lc 0 [(0,.ptr 0 0),(35,.v),(36,vI),(37,vI)] HK 3 ln)
theorem aeJ(w:Nat):K 263 [.agg [vI,.v]] (.aH [.agg [vI,.v,.v,.v,.v,.v,.v,.v],vI]) (F1 w):=fr Tryz.f263 (ph (pa (pa (pa (pa (pa (pa (pa (pa (pa pn (Kl w)) (TK w)) (DP w)) (DN w)) (DM w)) (rB w)) (sX w)) (sW w)) (TH w)) (ae2 w)) w (lc 0 [(1,.ptr 0 0),(2,.ptr 1 0),(4,.ptr 2 0),(29,.v),(30,vI),(31,vI)] [(0,.cells [vI,.v] 217),(1,.cells [vI,.v,.v,.v,.v,.v,.v,.v] 28),(2,.cells [vI,.v,.v,.v,.v,.v,.v,.v] 437)] 3 (lc 2 [(2,.ptr 1 0),(4,.ptr 2 0),(55,.v),(56,vI),(57,vI)] [(1,.cells [vI,.v,.v,.v,.v,.v,.v,.v] 28),(2,.cells [vI,.v,.v,.v,.v,.v,.v,.v] 437)] 3 ln))
theorem TC(w:Nat):KH 199 ⟨1,⟨[(0,.ptr 0 0)],[(0,.cells [vI,vI,vI,vI,vI] 97)],1⟩,1,⟨[(0,.agg [.ptr 0 0,.ptr 0 1,.ptr 0 2,.ptr 0 3,.ptr 0 4])],[(0,.cells [vI,vI,vI,vI,vI] 97)],1⟩⟩ (Bj w):=fh Tryz.f199 pn w
theorem TD(w:Nat):K 200 [] (.agg [vI,vI,vI,vI,vI]) (kN w):=fr Tryz.f200 pn w
theorem aem(w:Nat):K 134 [.agg [vI,vI,vI,vI,vI],vI] (.aH [.v,.b]) (FQ w):=fr Tryz.f134 (pa (ph (pa pn (rA w)) (TC w)) (TD w)) w ln ul
theorem afy(w:Nat):K 311 [vI,vI] (.aH [vI,.b]) (X2 w):=fr Tryz.f311 (pa (pa pn (Ae w)) (TA w)) w
theorem aeZ(w:Nat):K 233 [.agg [vI,vI,vI],vI] (.aH [.v,.b]) (Gb w):=fr Tryz.f233 (pa (pa pn (rA w)) (afy w)) w
theorem aeY(w:Nat):KH 232 ⟨3,⟨[(0,vI),(1,.v),(2,.fn 65769 [.agg [vI,vI,vI]])],[],0⟩,0,⟨[(0,.aH [.agg [vI,vI,.gr 0 1],.b])],[(0,.grow 1 5)],1⟩⟩ (Ga w):=fh Tryz.f232 (pa (pa pn (uQ w)) (aeZ w)) w (lc 0 [(2,.fn 65769 [.agg [vI,vI,vI]]),(6,.ptr 0 0),(8,.ptr 1 0),(17,.v),(18,vI),(19,vI)] O8 4 ln)
theorem aer(w:Nat):K 165 [vI,.v] (.aH [.agg [vI,vI,.v],.b]) (FU w):=fr Tryz.f165 (ph (pa pn (wZ w)) (aeY w)) w
theorem Ud(w:Nat):K 130 [] (.v) (yn w):=fr Tryz.f130 pn w
theorem Ue(w:Nat):K 108 [.agg [vI,.v,.v]] (.aH [.v,vI]) (BG w):=fr Tryz.f108 (pa (pa (pa (pa (pa pn (wX w)) (aem w)) (aer w)) (Ud w)) (Tu (Kk w))) w (lc 0 [(1,.ptr 0 0),(4,.gr 1 1),(28,.v),(29,vI),(30,vI)] [(0,.cells [vI,.v,.v] 103),(1,.grow 1 5)] 2 ln) (λn=>Nat.beq n 100020)
theorem Tv(w:Nat):K 262 [] (.v) (xP w):=fr Tryz.f262 pn w
theorem agH(w:Nat):K 185 [vI,.v] (.aH [.v,vI]) (GY w):=fr Tryz.f185 (pa (pa (pa pn (wX w)) (Tu (Kk w))) (Tv w)) w
theorem af7(w:Nat):K 122 [.agg [.v],vI] (.aH [.v,vI]) (GJ w):=fr Tryz.f122 (pa (pa pn (Ue w)) (agH w)) w (lc 0 [(7,.ptr 2 0),(33,.v),(34,vI),(35,vI)] [(2,.cells [vI,.gr 3 5,.v] 103),(3,.grow 5 97)] 4 ln)
theorem Uh(w:Nat):K 167 [vI] vI (BI w):=fr Tryz.f167 pn w
theorem agj(w:Nat):K 109 [.v] (.aH [.v,vI]) (BC w):=Z5 (Uh w)
theorem Tx(w:Nat):KP 238 ⟨2,⟨yO,ub,1⟩,1,⟨[(0,.aH [])],ub,1⟩,HJ⟩ (vm w):=fp Tryz.f238 pn w
theorem Kd(w:Nat):K 178 [vI] (.b) (xG w):=fr Tryz.f178 pn w
theorem TM(w:Nat):K 312 [vI] (.b) (xW w):=fr Tryz.f312 pn w
theorem Tz(w:Nat):K 241 [vI] (.b) (Bf w):=fr Tryz.f241 (pa (pa pn (Kd w)) (TM w)) w
theorem acV(w:Nat):KP 176 ⟨1,⟨[(0,.ptr 0 0)],ub,1⟩,1,⟨[(0,vI)],ub,1⟩,HJ⟩ (tq w):=fp Tryz.f176 (pa (pp pn (Tx w)) (Tz w)) w
theorem ae0(w:Nat):K 313 [.v] vI (Bm w):=fr Tryz.f313 pn w
theorem Ty(w:Nat):K 240 [.v] vI (xQ w):=fr Tryz.f240 (pa (pa pn (TM w)) (ae0 w)) w (lc 0 [(0,.v),(3,vI)] [] 0 ln)
theorem acR(w:Nat):KP 175 ⟨2,⟨yO,ub,1⟩,1,⟨[(0,.agg [vI,.v,.v])],ub,1⟩,HJ⟩ (tj w):=fp Tryz.f175 (pa (pp (pa (pa (pa (pa (pa pn (Kd w)) (wY w)) (rB w)) (sX w)) (sW w)) (Tx w)) (Ty w)) w
theorem KD(w:Nat):K 112 [.v] (.aH [.v,vI,vI,vI]) (yh w):=aaK (w:=w) (lv:=λn=>(cond (Nat.beq n 0) (some ⟨[(2,.ptr 0 0),(3,.ptr 1 0),(4,.ptr 2 0),(5,.ptr 3 0),(6,.ptr 4 0)],[(0,.cells [.gr 5 3] 181),(1,.cells [vI] 3),(2,.cells [vI] 3),(3,.cells [vI] 36),(4,.cells [.v,vI] 275),(5,.grow 3 185)],6⟩) none)) (jv:=λ_=>none) (un:=λn=>false) qN mixed (pK (pK sZ (acV w)) (acR w)) (fn:=Tryz.f112) (lvg:=λ_=>none) (jvg:=λ_=>none) (ung:=λ_=>false) (g:=174) (gn:=Tryz.f174) (by kernel_rfl) (by kernel_rfl) (by kernel_rfl) (by kernel_rfl) (by kernel_rfl)
theorem aeB(w:Nat):K 235 [.agg [vI,.v,.v]] (.b) (FX w):=fr Tryz.f235 pn w
theorem Kr(w:Nat):K 236 [.v,.fn 235 []] vI (Nj w):=fr Tryz.f236 (pa pn (aeB w)) w (lc 0 [(0,.v),(1,.fn 235 []),(7,vI),(8,vI)] [] 0 ln)
theorem SS(w:Nat):K 171 [.v,.fn 235 []] (.b) (E6 w):=fr Tryz.f171 (pa pn (Kr w)) w
theorem acH(w:Nat):K 170 [.v] (.aH [.v,vI]) (ME w):=fr Tryz.f170 (pa (pa pn (KD w)) (SS w)) w
theorem aeD(w:Nat):K 237 [vI] (.b) (Nn w):=fr Tryz.f237 pn w
theorem acL(w:Nat):K 172 [.agg [vI,.v,.v]] (.b) (AW w):=fr Tryz.f172 (pa pn (aeD w)) w
theorem Tw(w:Nat):K 236 [.v,.fn 172 []] vI (Nk w):=fr Tryz.f236 (pa pn (acL w)) w (lc 0 [(0,.v),(1,.fn 172 []),(7,vI),(8,vI)] [] 0 ln)
theorem SU(w:Nat):K 171 [.v,.fn 172 []] (.b) (E8 w):=fr Tryz.f171 (pa (pa pn (Kr w)) (Tw w)) w
theorem KC(w:Nat):K 110 [.v] (.b) (yg w):=fr Tryz.f110 (pa (pa pn (acH w)) (SU w)) w
theorem DU(w:Nat):K 80 [.v,.v] (.b) (rU w):=fr Tryz.f80 pn w
theorem DE(w:Nat):K 173 [.v,.v] (.b) (xB w):=fr Tryz.f173 (pa pn (DU w)) w
theorem T9(w:Nat):K 111 [.v] (.b) (BD w):=fr Tryz.f111 (pa pn (DE w)) w
theorem agk(w:Nat):KH 113 ⟨3,⟨[(0,vI),(1,.v),(2,.ptr 0 0)],[(0,.cells [.vA 1 0 1 1] 181),(1,.arr 185)],2⟩,1,⟨[(0,.aH [])],HS,2⟩⟩ (Od w):=fh Tryz.f113 pn w
theorem agl(w:Nat):KH 113 ⟨3,⟨[(0,vI),(1,.v),(2,.ptr 0 0)],HS,2⟩,1,⟨[(0,.aH [])],HS,2⟩⟩ (yi w):=fh Tryz.f113 pn w
theorem aeF(w:Nat):K 242 [.agg [vI,.v,.v],vI] (.b) (Bg w):=fr Tryz.f242 pn w
theorem aeH(w:Nat):K 244 [.agg [vI,.v,.v]] (.b) (FZ w):=fr Tryz.f244 (pa (pa pn (Tz w)) (Ty w)) w
theorem aeG(w:Nat):K 243 [.agg [vI,.v,.v]] (.b) (FY w):=fr Tryz.f243 (pa pn (aeH w)) w
theorem aeC(w:Nat):K 236 [.v,.fn 243 []] vI (Nl w):=fr Tryz.f236 (pa pn (aeG w)) w (lc 0 [(0,.v),(1,.fn 243 []),(7,vI),(8,vI)] [] 0 ln)
theorem acK(w:Nat):K 171 [.v,.fn 243 []] (.b) (MG w):=fr Tryz.f171 (pa (pa (pa pn (Tw w)) (Kr w)) (aeC w)) w
theorem acY(w:Nat):K 177 [.v] (.b) (Fh w):=fr Tryz.f177 (pa (pa (pa (pa pn (SU w)) (SS w)) (aeF w)) (acK w)) w
theorem Ua(w:Nat):K 114 [.v] (.aH [.v,vI]) (vy w):=fr Tryz.f114 (ph (pa (pa (pa pn (Kd w)) (rA w)) (acY w)) (ac7 w)) w (lc 0 [(4,.gr 0 1),(12,.v),(13,vI),(14,vI)] [(0,.grow 1 5)] 1 ln)
theorem TO(w:Nat):K 60 [.agg [vI,.v,.v,.v,.v,.v,.v,.v,.v,.v,.v,vI,vI]] (.aH [.v,vI]) (xX w):=fr Tryz.f60 (pa (ph (ph (pa (pa (pa (pa (pa pn (KA (KE w) (KF w))) (agj w)) (KC w)) (T9 w)) (KD w)) (agk w)) (agl w)) (Ua w)) w (lc 1 [(7,.v),(11,.ptr 2 0),(12,.fn 113 [.ptr 2 0]),(79,.v),(80,vI),(81,vI)] [(2,.cells [.gr 6 3] 181),(6,.grow 3 185)] 7 ln)
theorem Ub(w:Nat):K 124 [.v] (.b) (BE w):=fr Tryz.f124 (pa pn (DE w)) w
theorem agm(w:Nat):KH 123 ⟨3,⟨[(0,.ptr 0 0),(1,vI),(2,.fn 124 [])],se,1⟩,1,HU⟩ (GQ w):=fh Tryz.f123 (pa pn (Ub w)) w
theorem agn(w:Nat):KH 123 ⟨3,⟨[(0,.ptr 0 0),(1,vI),(2,.fn 111 [])],se,1⟩,1,HU⟩ (yj w):=fh Tryz.f123 (pa pn (T9 w)) w
theorem agp(w:Nat):K 94 [.v] (.v) (Oe w):=fr Tryz.f94 pn w
theorem agq(w:Nat):K 94 [.em false] (.v) (aj5 w):=fr Tryz.f94 pn w ln ul
theorem agr(w:Nat):K 94 [.em true] (.v) (aj6 w):=fr Tryz.f94 pn w ln ul
theorem ags(w:Nat):K 94 [.v] .v (GR w):=Jf (agp w) (show dF Tryz.prog 94 [.em false] .v (some (ae 0 [])) from agq w) (show dF Tryz.prog 94 [.em true] .v (some (ae 0 [])) from agr w)
theorem SZ(w:Nat):K 186 [.v] (.b) (A1 w):=fr Tryz.f186 (pa pn (DE w)) w
theorem ago(w:Nat):KH 123 ⟨3,⟨[(0,.ptr 0 0),(1,vI),(2,.fn 186 [])],se,1⟩,1,HU⟩ (tG w):=fh Tryz.f123 (pa pn (SZ w)) w
theorem agt(w:Nat):KH 125 ⟨1,⟨[(0,.ptr 0 0)],se,1⟩,1,⟨[(0,.gr 1 1)],[(0,.cells [.v,vI,.v,.v,.v,.v,.v,.v,.v,.v,.v,.v,vI,vI] 209),(1,.grow 1 26)],2⟩⟩ (yk w):=fh Tryz.f125 (ph pn (ago w)) w (lc 0 [(2,.gr 2 1),(3,.fn 65659 [.ptr 0 0]),(4,.v),(5,.b)] [(0,.cells [.v,vI,.v,.v,.v,.v,.v,.v,.v,.v,.v,.v,vI,vI] 209),(2,.grow 1 26)] 3 ln)
theorem agu(w:Nat):KH 126 ⟨1,⟨[(0,.ptr 0 0)],se,1⟩,1,⟨[(0,.b)],se,1⟩⟩ (Of w):=fh Tryz.f126 pn w (lc 0 [(9,.v),(10,vI),(11,vI)] se 1 ln)
theorem adb(w:Nat):K 187 [.v] (.b) (MN w):=fr Tryz.f187 pn w
theorem ade(w:Nat):K 188 [.v] (.b) (MO w):=fr Tryz.f188 pn w
theorem aeK(w:Nat):KH 264 ⟨2,⟨[(0,.v),(1,.v)],[],0⟩,0,HY⟩ (F2 w):=fh Tryz.f264 pn w
theorem w7(w:Nat):KP 338 ⟨2,⟨[(0,.b),(1,vI)],[],0⟩,0,⟨[(0,.aH [])],[],0⟩,⟨[(0,.fC 440 (.agg [vI]))],[],0⟩⟩ (eR w):=fp Tryz.f338 pn w
theorem Kz(w:Nat):K 398 [.agg [.v,vI],vI,vI] vI (mG w):=fr Tryz.f398 (pa pn (wY w)) w
theorem KB(w:Nat):K 362 [vI,vI,vI] (.b) (vv w):=fr Tryz.f362 pn w
theorem afX(w:Nat):KH 455 ⟨2,⟨yO,oy,3⟩,3,⟨[(0,.b)],oy,3⟩⟩ (GB w):=fh Tryz.f455 pn w
theorem DT(w:Nat):KP 399 ⟨2,⟨[(0,.ptr 0 0),(1,.agg [vI,vI,vI,vI,vI])],oy,3⟩,1,⟨[(0,.aH [])],oy,3⟩,yP⟩ (qH w):=fp Tryz.f399 (ph (pp (pa pn (KB w)) (w7 w)) (afX w)) w (lc 0 [(0,.ptr 0 0),(3,.ptr 3 0),(4,vI)] [(0,.cells [.v,vI,.v,.sl 1 0,.gr 2 5,vI,vI] 368),(3,.cells [vI,vI,vI,vI,vI] 307),(1,.arr 481),(2,.grow 5 307)] 4 ln)
theorem ae3(w:Nat):KP 339 ⟨1,HY,1,⟨[(0,vI)],oy,3⟩,yP⟩ (Gd w):=fp Tryz.f339 (pp (pa (pp pn (w7 w)) (Kz w)) (DT w)) w
theorem agd(w:Nat):K 428 [.agg [.v,vI],vI,vI] (.aH [vI,.b]) (N8 w):=fr Tryz.f428 (pa pn (wY w)) w
theorem af8(w:Nat):KH 363 ⟨2,⟨yO,[(0,.cells [.v,vI,vI,.b] 460)],1⟩,1,⟨[(0,vI)],[(0,.cells [.v,vI,vI,.b] 460)],1⟩⟩ (vx w):=fh Tryz.f363 (pa pn (agd w)) w
theorem afY(w:Nat):K 294 [.v,vI,vI] (.aH [.agg [vI,vI,vI,vI],.b]) (GC w):=fr Tryz.f294 (ph (pa pn (KB w)) (af8 w)) w
theorem afB(w:Nat):KP 400 ⟨3,Pe,1,⟨[(0,.v)],oy,3⟩,yP⟩ (Gr w):=fp Tryz.f400 (pa (pp (pp (pa (pa pn (KB w)) (Kz w)) (w7 w)) (DT w)) (afY w)) w (lc 0 [(0,.ptr 0 0),(1,vI),(8,.gr 6 4),(43,vI),(44,vI)] [(0,.cells [.v,vI,.v,.sl 4 0,.gr 5 5,vI,vI] 368),(4,.arr 481),(5,.grow 5 307),(6,.grow 4 385)] 7 ln)
theorem af0(w:Nat):K 457 [.agg [vI,vI],.lp [vI,vI,vI,vI]] (.b) (N3 w):=fr Tryz.f457 pn w
theorem afr(w:Nat):K 328 [.v,.fn 457 [.lp [vI,vI,vI,vI]]] vI (NO w):=fr Tryz.f328 (pa pn (af0 w)) w (lc 0 [(0,.v),(1,.fn 457 [.oL]),(7,vI),(8,vI)] [] 0 ln)
theorem afZ(w:Nat):K 456 [.v,.fn 457 [.lp [vI,vI,vI,vI]]] (.b) (GF w):=fr Tryz.f456 (pa (pa (pa (pa pn (Ky w)) (DS w)) (DR w)) (afr w)) w
theorem afC(w:Nat):K 401 [.v,.agg [.v,vI,vI,vI]] (.aH [.v,.v,.v]) (Gs w):=fr Tryz.f401 (pa (pa pn (TX w)) (afZ w)) w (lc 0 [(3,.ptr 0 0),(4,.gr 1 4),(5,.gr 2 4),(6,.gr 3 4),(9,.v),(10,vI),(11,vI)] [(0,.cells [.v,vI,vI,vI] 293),(1,.grow 4 385),(2,.grow 4 385),(3,.grow 4 385)] 4 ln)
theorem af6(w:Nat):K 430 [.v,vI,vI] (.v) (GI w):=fr Tryz.f430 (ph (pa pn (Ae w)) (TB w)) w (lc 0 [(1,vI),(2,vI),(7,.sl 0 0),(8,vI)] [(0,.arr 5)] 1 ln)
theorem T4(w:Nat):K 365 [vI,vI,.v,vI] (.aH [.agg [vI,vI,.v],.b]) (Bx w):=fr Tryz.f365 (pa (pa (pa pn (wZ w)) (uQ w)) (af6 w)) w
theorem af9(w:Nat):K 364 [vI,vI] (.b) (GL w):=fr Tryz.f364 (pa pn (T7 w)) w
theorem aga(w:Nat):K 366 [.i .u8] (.b) (N6 w):=fr Tryz.f366 pn w
theorem age(w:Nat):K 286 [.v,.fn 366 []] vI (N9 w):=fr Tryz.f286 (pa pn (aga w)) w (lc 0 [(0,.v),(1,.fn 366 []),(7,vI),(8,vI)] [] 0 ln)
theorem agb(w:Nat):K 367 [.v,.fn 366 []] (.b) (GM w):=fr Tryz.f367 (pa pn (age w)) w
theorem af1(w:Nat):K 295 [.agg [vI,vI,vI,vI],vI] (.aH [.agg [vI,vI,.v],.b,.b]) (GG w):=fr Tryz.f295 (pa (pa (pa (pa pn (rA w)) (T4 w)) (af9 w)) (agb w)) w
theorem afD(w:Nat):KP 402 ⟨3,⟨[(0,.ptr 0 0),(1,.agg [vI,vI,vI,vI]),(2,vI)],oy,3⟩,1,⟨[(0,.agg [vI,vI,vI,.v])],oy,3⟩,yP⟩ (Gt w):=fp Tryz.f402 (pa (pa (pp (pp (pa (pa pn (TY w)) (TZ w)) (w7 w)) (DT w)) (T4 w)) (af1 w)) w
theorem afE(w:Nat):K 403 [.agg [vI,vI],.lp [vI,vI,vI,vI]] (.b) (NS w):=fr Tryz.f403 pn w
theorem afs(w:Nat):K 328 [.v,.fn 403 [.lp [vI,vI,vI,vI]]] vI (NP w):=fr Tryz.f328 (pa pn (afE w)) w (lc 0 [(0,.v),(1,.fn 403 [.oL]),(7,vI),(8,vI)] [] 0 ln)
theorem ae4(w:Nat):KP 340 ⟨3,Pe,1,⟨[(0,.aH [.agg [.v,.v,.v],vI])],oy,3⟩,yP⟩ (Ge w):=aaO (λrec h=>QL (w:=w) (lv:=λn=>(cond (Nat.beq n 0) (some ⟨[(0,.ptr 0 0),(1,vI),(6,.ptr 3 0),(8,.ptr 4 0),(9,vI),(10,.v),(11,.v),(12,.v),(13,.v),(52,.v),(53,vI),(54,vI)],Pf,10⟩) (cond (Nat.beq n 2) (some ⟨[(0,.ptr 0 0),(1,vI),(6,.ptr 3 0),(8,.ptr 4 0),(9,vI),(10,.v),(12,.v),(93,.v),(94,vI),(95,vI)],Pf,10⟩) none))) (jv:=λ_=>none) (un:=λn=>false) qN mixed (pK (pK (iB (pK (pK (iB (pK (iB (iB (iB (iB (iB (iB (iB sZ (Ky w)) (DS w)) (DR w)) (rB w)) (sX w)) (sW w)) (Kz w)) (afB w)) (afC w)) (afD w)) (w7 w)) (afs w)) (DT w)) h) (fn:=Tryz.f340) (by kernel_rfl) (by kernel_rfl) (by kernel_rfl)) w
theorem aeL(w:Nat):KH 265 ⟨1,HY,1,⟨[(0,.aH [.agg [vI,.gr 1 3],vI])],[(0,.cells [.v,vI,.v,.sl 2 0,.gr 3 5,vI,vI] 368),(1,.grow 3 261),(2,.arr 481),(3,.grow 5 307)],4⟩⟩ (F3 w):=aaL (w:=w) (lv:=λn=>(cond (Nat.beq n 0) (some ⟨[(0,.ptr 0 0),(2,.ptr 3 0),(3,.ptr 4 0),(4,vI),(5,vI)],[(0,.cells [.v,vI,.v,.sl 6 0,.gr 7 5,vI,vI] 368),(3,.cells [vI,.gr 8 3] 217),(4,.cells [vI] 36),(6,.arr 481),(7,.grow 5 307),(8,.grow 3 261)],9⟩) none)) (jv:=λ_=>none) (un:=λn=>false) qN mixed (pK (pK (pK (iB sZ (TN w)) (w7 w)) (ae3 w)) (ae4 w)) (fn:=Tryz.f265) (lvg:=λ_=>none) (jvg:=λ_=>none) (ung:=λ_=>false) (g:=337) (gn:=Tryz.f337) (by kernel_rfl) (by kernel_rfl) (by kernel_rfl) (by kernel_rfl) (by kernel_rfl)
theorem S5(w:Nat):K 191 [.v,.v] (.aH [.agg [vI,.v],.v,vI]) (xJ w):=fr Tryz.f191 (ph (ph pn (aeK w)) (aeL w)) w
theorem adk(w:Nat):K 189 [.v] (.aH [.agg [vI,.v,.v,.v,.v,.v,.v,.v],vI]) (A4 w):=fr Tryz.f189 (pa (pa (pa pn (Kl w)) (aeJ w)) (S5 w)) w
theorem agv(w:Nat):K 127 [.v] (.aH [.agg [vI,.v,.v,.v,.v,.v,.v,.v],vI]) (ym w):=fr Tryz.f127 (pa (pa (pa (pa pn (adb w)) (ade w)) (Ub w)) (adk w)) w ln ul
theorem adn(w:Nat):K 190 [.v,vI,vI] (.b) (Fp w):=fr Tryz.f190 (pa pn (SZ w)) w
theorem agw(w:Nat):K 128 [.v] (.aH [.v,vI]) (GS w):=fr Tryz.f128 (pa pn (adn w)) w (lc 0 [(0,.v),(4,.gr 0 1),(10,.v),(11,vI),(12,vI)] [(0,.grow 1 5)] 1 ln)
theorem TP(w:Nat):K 65 [.v] (.aH [.agg [vI,.v,.v,.v,.v,.v,.v,.v,.v,.v,.v,vI,vI],vI]) (rT w):=fr Tryz.f65 (pa (pa (ph (ph (pa (ph (ph (pa (pa (pa pn (KD w)) (Ua w)) (KC w)) (agm w)) (agn w)) (ags w)) (agt w)) (agu w)) (agv w)) (agw w)) w
theorem T5(w:Nat):K 64 [.agg [.v],vI] (.aH [.agg [vI,.v,.v,.v,.v,.v,.v,.v,.v,.v,.v,vI,vI],.b]) (vw w):=fr Tryz.f64 (pa (pa (pa pn (af7 w)) (TO w)) (TP w)) w
theorem afc(w:Nat):K 269 [vI] (.b) (ya w):=fr Tryz.f269 pn w
theorem aeS(w:Nat):K 198 [vI,vI] (.aH [vI,.b]) (F6 w):=fr Tryz.f198 (pa pn (afc w)) w
theorem TG(w:Nat):KH 197 ⟨2,⟨[(0,vI),(1,.ptr 0 0)],[(0,.cells [.gr 1 1] 47),(1,.grow 1 3)],2⟩,1,⟨[(0,.b)],[(0,.cells [.gr 1 1] 47),(1,.grow 1 3)],2⟩⟩ (vo w):=fh Tryz.f197 (pa pn (aeS w)) w
theorem afa(w:Nat):KH 268 ⟨2,Pc,2,⟨[(0,vI)],Cz,3⟩⟩ (xZ w):=fh Tryz.f268 (ph pn (TG w)) w (lc 0 [(0,.gr 0 1),(1,.fn 197 [.ptr 1 0]),(7,vI),(8,vI)] Cz 3 ln)
theorem aeQ(w:Nat):KH 196 ⟨2,Pc,2,⟨[(0,.b)],Cz,3⟩⟩ (F5 w):=fh Tryz.f196 (ph (pa pn (Kw w)) (afa w)) w
theorem adM(w:Nat):KH 132 ⟨1,⟨[(0,.gr 0 1)],[(0,.grow 1 3)],1⟩,1,⟨[(0,.aH [.gr 1 1,.b])],[(0,.grow 1 3),(1,.grow 1 3)],2⟩⟩ (tu w):=fh Tryz.f132 (ph (pa pn (Kv w)) (aeQ w)) w
theorem adL(w:Nat):KH 223 ⟨3,⟨[(0,.agg [vI,.v,.v,.v,.v,.v,.v,.v,.v,.v,vI,vI,vI,.v]),(1,.ptr 0 0),(2,.ptr 1 0)],ua,3⟩,2,⟨[(0,.b)],ua,3⟩⟩ (FI w):=fh Tryz.f223 (ph (pa pn (T5 w)) (adM w)) w
theorem aeO(w:Nat):KH 299 ⟨2,⟨[(0,.v),(1,.fn 223 [.ptr 0 0,.ptr 1 0])],ua,3⟩,2,⟨[(0,vI)],ua,3⟩⟩ (F4 w):=fh Tryz.f299 (ph pn (adL w)) w (lc 0 [(0,.v),(1,.fn 223 [.ptr 0 0,.ptr 1 0]),(7,vI),(8,vI)] ua 3 ln)
theorem ady(w:Nat):KH 217 ⟨2,⟨[(0,.agg [.v]),(1,.fn 223 [.ptr 0 0,.ptr 1 0])],ua,3⟩,2,⟨[(0,vI)],ua,3⟩⟩ (MS w):=fh Tryz.f217 (ph pn (aeO w)) w
theorem agF(w:Nat):K 161 [.agg [.v]] vI (Om w):=fr Tryz.f161 (ph pn (ady w)) w
theorem afJ(w:Nat):KH 104 ⟨0,⟨[],[],0⟩,0,⟨[(0,.agg [.nf,.fn 154 [],.fn 155 [],.fn 156 [],.fn 157 [],.fn 158 [],.fn 159 [],.fn 160 [],.fn 161 []])],[],0⟩⟩ (NV w):=fh Tryz.f104 pn w
theorem Tb(w:Nat):K 216 [.b] vI (rO w):=fr Tryz.f216 pn w
theorem agy(w:Nat):K 154 [.agg [.v]] vI (GU w):=fr Tryz.f154 (pa pn (Tb w)) w
theorem adA(w:Nat):K 218 [.agg [vI,.v,.v,.v,.v,.v,.v,.v,.v,.v,vI,vI,vI,.v]] (.b) (Fw w):=fr Tryz.f218 (pa pn (KA (KE w) (KF w))) w
theorem Af(w:Nat):K 299 [.v,.fn 218 []] vI (Ns w):=fr Tryz.f299 (pa pn (adA w)) w (lc 0 [(0,.v),(1,.fn 218 []),(7,vI),(8,vI)] [] 0 ln)
theorem Ad(w:Nat):K 217 [.agg [.v],.fn 218 []] vI (MU w):=fr Tryz.f217 (pa pn (Af w)) w
theorem agz(w:Nat):K 155 [.agg [.v]] vI (Og w):=fr Tryz.f155 (pa pn (Ad w)) w
theorem adB(w:Nat):K 219 [.agg [vI,.v,.v,.v,.v,.v,.v,.v,.v,.v,vI,vI,vI,.v]] (.b) (Fx w):=fr Tryz.f219 (pa pn (Uh w)) w
theorem DL(w:Nat):K 299 [.v,.fn 219 []] vI (Nt w):=fr Tryz.f299 (pa pn (adB w)) w (lc 0 [(0,.v),(1,.fn 219 []),(7,vI),(8,vI)] [] 0 ln)
theorem DF(w:Nat):K 217 [.agg [.v],.fn 219 []] vI (MV w):=fr Tryz.f217 (pa (pa pn (Af w)) (DL w)) w
theorem agA(w:Nat):K 156 [.agg [.v]] vI (Oh w):=fr Tryz.f156 (pa (pa pn (Ad w)) (DF w)) w
theorem adC(w:Nat):K 220 [.agg [vI,.v,.v,.v,.v,.v,.v,.v,.v,.v,vI,vI,vI,.v]] (.b) (Fy w):=fr Tryz.f220 (pa pn (KC w)) w
theorem Ku(w:Nat):K 299 [.v,.fn 220 []] vI (Nu w):=fr Tryz.f299 (pa pn (adC w)) w (lc 0 [(0,.v),(1,.fn 220 []),(7,vI),(8,vI)] [] 0 ln)
theorem Kf(w:Nat):K 217 [.agg [.v],.fn 220 []] vI (MW w):=fr Tryz.f217 (pa (pa (pa pn (DL w)) (Af w)) (Ku w)) w
theorem agB(w:Nat):K 157 [.agg [.v]] vI (Oi w):=fr Tryz.f157 (pa (pa (pa pn (DF w)) (Ad w)) (Kf w)) w
theorem adH(w:Nat):K 221 [.agg [vI,.v,.v,.v,.v,.v,.v,.v,.v,.v,vI,vI,vI,.v]] (.b) (FC w):=fr Tryz.f221 (pa pn (rA w)) w
theorem TF(w:Nat):K 299 [.v,.fn 221 []] vI (Nv w):=fr Tryz.f299 (pa pn (adH w)) w (lc 0 [(0,.v),(1,.fn 221 []),(7,vI),(8,vI)] [] 0 ln)
theorem Tc(w:Nat):K 217 [.agg [.v],.fn 221 []] vI (MX w):=fr Tryz.f217 (pa (pa (pa (pa pn (Ku w)) (DL w)) (Af w)) (TF w)) w
theorem agC(w:Nat):K 158 [.agg [.v]] vI (Oj w):=fr Tryz.f158 (pa (pa (pa (pa pn (Kf w)) (DF w)) (Ad w)) (Tc w)) w
theorem adK(w:Nat):K 222 [.agg [vI,.v,.v,.v,.v,.v,.v,.v,.v,.v,vI,vI,vI,.v]] (.b) (FH w):=fr Tryz.f222 (pa pn (wX w)) w
theorem aeP(w:Nat):K 299 [.v,.fn 222 []] vI (Nw w):=fr Tryz.f299 (pa pn (adK w)) w (lc 0 [(0,.v),(1,.fn 222 []),(7,vI),(8,vI)] [] 0 ln)
theorem adz(w:Nat):K 217 [.agg [.v],.fn 222 []] vI (MY w):=fr Tryz.f217 (pa (pa (pa (pa (pa pn (TF w)) (Ku w)) (DL w)) (Af w)) (aeP w)) w
theorem agD(w:Nat):K 159 [.agg [.v]] vI (Ol w):=fr Tryz.f159 (pa (pa (pa (pa (pa pn (Tc w)) (Kf w)) (DF w)) (Ad w)) (adz w)) w
theorem agE(w:Nat):K 160 [.agg [.v]] vI (GV w):=fr Tryz.f160 (pa pn (Tb w)) w
theorem Uf(w:Nat):K 54 [.agg [.v]] (.aH [vI,vI]) (BH w):=fr Tryz.f54 (pa (pa (pa (pa (pa (pa (pa (pa (ph pn (afJ w)) (agy w)) (agz w)) (agA w)) (agB w)) (agC w)) (agD w)) (agE w)) (agF w)) w ln ul
theorem Ke(w:Nat):K 22 [.agg [.v]] vI (xK w):=fr Tryz.f22 (pa (pa pn (Uf w)) (KA (KE w) (KF w))) w
theorem DW(w:Nat):K 162 [vI] vI (yp w):=fr Tryz.f162 pn w
theorem adO(w:Nat):K 224 [vI] (.b) (WS w):=fr Tryz.f224 pn w
theorem Ki(w:Nat):K 226 [vI] vI (xL w):=fr Tryz.f226 (pa pn (DW w)) w
theorem Ag(w:Nat):K 300 [vI] vI (vp w):=fr Tryz.f300 pn w
theorem adP(w:Nat):K 225 [vI,vI] (.aH [vI,.b]) (WT w):=fr Tryz.f225 (pa pn (Ag w)) w
theorem DI(w:Nat):K 227 [vI,vI,vI] (.aH [.v,.b]) (qE w):=fr Tryz.f227 (pa pn (Ag w)) w (lc 0 [(0,vI),(1,vI),(2,vI),(8,.gr 0 1),(9,vI)] [(0,.grow 1 5)] 1 ln)
theorem uP(w:Nat):K 228 [.agg [vI,vI,.v]] (.b) (tw w):=fr Tryz.f228 (pa pn (DW w)) w (lc 0 [(1,.ptr 0 0),(3,vI)] [(0,.cells [vI,vI,.v] 134)] 1 ln)
theorem agG(w:Nat):K 163 [vI,.v,vI] (.aH [.agg [vI,vI,.v],.b]) (Yj w):=fr Tryz.f163 (pa (pa (pa (pa (pa pn (adO w)) (Ki w)) (adP w)) (DI w)) (uP w)) w (lc 0 [(0,vI),(1,.v),(6,.ptr 0 0),(8,.ptr 1 0),(9,vI)] O8 4 ln)
theorem TW(w:Nat):K 105 [vI,.v] (.aH [.agg [vI,vI,.v],.b]) (NW w):=fr Tryz.f105 (pa (pa pn (DW w)) (agG w)) w
theorem T8(w:Nat):K 76 [.agg [vI,vI,.v],.agg [vI,vI,.v]] (.b) (GN w):=fr Tryz.f76 (pa pn (DU w)) w
theorem agI(w:Nat):K 143 [.agg [vI,vI,vI,.v],.agg [vI,vI,vI,.v]] (.b) (On w):=fr Tryz.f143 (pa pn (T8 w)) w
theorem agh(w:Nat):K 81 [.v,.v,.fn 143 []] (.b) (rV w):=fr Tryz.f81 (pa pn (agI w)) w (lc 0 [(1,.v),(2,.fn 143 []),(15,.v),(16,vI),(17,vI)] [] 0 ln)
theorem agf(w:Nat):K 79 [.agg [vI,.v,.v,.v,.v,.v,.v,.v],.agg [vI,.v,.v,.v,.v,.v,.v,.v]] (.b) (GO w):=fr Tryz.f79 (pa (pa (pa pn (Ug w)) (DU w)) (agh w)) w ln ul
theorem ado(w:Nat):K 145 [.v] (.b) (xI w):=fr Tryz.f145 (pa pn (DE w)) w
theorem Uc(w:Nat):K 129 [.v,.v] (.aH [.agg [vI,.v],.v,vI]) (vz w):=fr Tryz.f129 (pa (pa pn (S5 w)) (ado w)) w
theorem adp(w:Nat):KH 192 ⟨3,⟨[(0,vI),(1,vI),(2,.ptr 0 0)],[(0,.cells [.v,.v,.v] 261)],1⟩,1,⟨[(0,.v)],[(0,.cells [.v,.v,.v] 261)],1⟩⟩ (ko w):=fh Tryz.f192 (pa pn (S6 w)) w
theorem adx(w:Nat):K 195 [.v,vI,vI] (.agg [vI,vI,vI,vI,vI]) (A9 w):=fr Tryz.f195 (ph (pa (pa pn (TD w)) (wY w)) (TC w)) w ln ul
theorem agx(w:Nat):K 131 [.agg [vI,.v]] (.aH [.agg [vI,.v,.v],.b]) (BF w):=fr Tryz.f131 (pa (ph (pa (pa pn (wX w)) (wY w)) (adp w)) (adx w)) w (lc 0 [(1,.ptr 0 0),(2,.ptr 1 0),(4,.ptr 2 0),(7,.v),(10,vI)] [(0,.cells [vI,.v] 217),(1,.cells [vI,.gr 8 5,.v] 103),(2,.cells [vI,.gr 9 5,.v] 103),(8,.grow 5 97),(9,.grow 5 97)] 10 (lc 2 [(2,.ptr 1 0),(4,.ptr 2 0),(93,.v),(94,vI),(95,vI)] [(1,.cells [vI,.gr 8 5,.v] 103),(2,.cells [vI,.gr 9 5,.v] 103),(8,.grow 5 97),(9,.grow 5 97)] 10 ln))
theorem TU(w:Nat):K 66 [.v] (.aH [.agg [vI,.v,.v],vI]) (Bq w):=fr Tryz.f66 (pa (pa (pa pn (Ud w)) (Uc w)) (agx w)) w
end
def xn:List Value->Option (List (List Int))
 |[]=>some []
 |v::l=>kE v λxs=>ob (xn l) λr=>some (xs::r)
def Iu(x:Value):Option Value:=match x with
 | .func (.via n _ 0 true) cs _=>cond (Nat.blt 0 n&&(Nat.beq n cs.toList.length&&Nat.ble n 1000)) (ob (xn cs.toList) λls=>cond (Nat.ble ls.flatten.length 1000000000) (some (ae ls.flatten.length (bm ls.flatten))) none) none
 |_=>none
def Fk(_w:Nat):Value->Option Value:=Iu
section
open Go.Shelf Go.RowKit Go.Lib
theorem Vm{m:Nat->Nat->Option Value}{w:World}(hm:Kn m w):∀{cs ys:List Value}{ls:List (List Int)},xn cs=some ls->bL m cs ys->
 ∃rows:List (Option Addr×Nat×Nat×List Value),ys=rows.map (λr=>.slice r.1 r.2.1 r.2.2.1)/\(∀r∈rows,Cv w r)/\jD rows=ls.flatten.length/\rb rows=bm ls.flatten
 |[],ys,ls,e,A=>by cases e;obtain rfl:=A.ew;exact⟨[],rfl,(λr h=>by cases h),rfl,rfl⟩
 |v::l,ys,ls,e,A=>by
  obtain⟨y,ys2,rfl,a0,A2⟩:=PW.inv A;obtain⟨xs,p,c,e1,rfl,t1⟩:=Es hm (show kE v _=some ls from e) a0;obtain⟨r,h1,e1⟩:=ay e1;cases e1;obtain⟨rows,rfl,h2,h3,h4⟩:=Vm hm h1 A2;refine⟨(p,xs.length,c,bm xs)::rows,rfl,λr hr=>?_,?_,?_⟩
  ·rcases cO.1 hr with rfl|hr
   ·exact t1
   ·exact h2 r hr
  ·unfold jD at h3⊢;simp[h3]
  ·unfold rb at h4⊢;simp[h4,bm]
theorem ada(w:Nat):dF Tryz.prog 61 [.v] .v (Fk w):=by
 refine .mk λls r e hl us hu=>?_;obtain⟨x,r1,us1,h1,h2,rfl⟩:=gL hu;obtain⟨rfl,rfl⟩:=oF h2;obtain rfl:=lO h1;replace e:Iu x=some r:=e;unfold Iu at e;split at e
 case h_2=>cases e
 rename_i n q cs z;obtain⟨c,e⟩:=bc e;obtain⟨ls,h3,e⟩:=ay e;obtain⟨c2,e⟩:=bc e;cases e;simp only[bq] at c;have n0:=eX c.1;have n1:=bT c.2.1;have n2:=dY c.2.2;have n3:=dY c2;have hone:bd [ae ls.flatten.length (bm ls.flatten)]=true:=rfl;refine⟨λz hz=>?_,_,rfl,λm args' w hm A=>?_⟩
 ·have hz:bo.v z∈[bo.v (ae ls.flatten.length (bm ls.flatten))]:=hz;rw[bo.v.inj (oY.1 hz)];exact hone
 ·obtain⟨al⟩:=args';replace A:bL m _ al:=A;obtain⟨y,_,rfl,a0,A2⟩:=PW.inv A;obtain rfl:=A2.ew;cases a0 with
  |gH=>exact absurd n0 (by decide)
  |lC r1 r2 hq hs hn ho=>
   rename_i c9 a ys;obtain⟨b,o,sp⟩:=a;have hs:sp=none:=hs;subst hs;have A:bL m cs.toList ys:=⟨r1,r2⟩;obtain⟨rows,rfl,k1,k2,k3⟩:=Vm hm h3 A;have hlen:rows.length=n:=by rw[n1,A.length,cZ]
   subst hlen;refine(PR w b o c9 rows hn (λi hi=>?_) k1 (by omega) n2).mono ?_
   ·have hy:(rows.map λr=>Value.slice r.1 r.2.1 r.2.2.1)[i]? =some (.slice rows[i].1 rows[i].2.1 rows[i].2.2.1):=by simp[hi]
    exact Dk rfl (hm _ _ _ (hq i _ hy))
   ·rintro e w' ⟨v,rfl,Bl,O⟩
    rw[k2,k3] at O;exact⟨v,rfl,Bl,KL (aL _) O⟩
end
noncomputable section
def FV(w:Nat):Value->Option (List Value):=λa=>ob (xK w a) λb=>bif !ah b 0 then some [] else ak a λc=>lp (α:=Int->Int->Value->List Value->Option (List Value)) (λ_ _ _ _=>none) (λh i j k l=>bif ai j i then ob (vw w k j) λm=>bif aw l.length&&(aw 1&&(List.take 13 (List.drop 0 [Value.int .i64 m.1,m.2.1,m.2.2.1,m.2.2.2.1,m.2.2.2.2.1,m.2.2.2.2.2.1,m.2.2.2.2.2.2.1,m.2.2.2.2.2.2.2.1,m.2.2.2.2.2.2.2.2.1,m.2.2.2.2.2.2.2.2.2.1,m.2.2.2.2.2.2.2.2.2.2.1,Value.int .i64 m.2.2.2.2.2.2.2.2.2.2.2.1,Value.int .i64 m.2.2.2.2.2.2.2.2.2.2.2.2.1])).length.beq 13) then h i (ag .i64 (j.add 1)) k (l++List.take 13 (List.drop 0 [Value.int .i64 m.1,m.2.1,m.2.2.1,m.2.2.2.1,m.2.2.2.2.1,m.2.2.2.2.2.1,m.2.2.2.2.2.2.1,m.2.2.2.2.2.2.2.1,m.2.2.2.2.2.2.2.2.1,m.2.2.2.2.2.2.2.2.2.1,m.2.2.2.2.2.2.2.2.2.2.1,Value.int .i64 m.2.2.2.2.2.2.2.2.2.2.2.1,Value.int .i64 m.2.2.2.2.2.2.2.2.2.2.2.2.1])) else none else some l) w (Int.ofNat c) 0 a []
def ML(w:Nat):Int->Value->Value->Value->Value->Value->Value->Value->Value->Value->Value->Int->Int->Option (Int):=λa b c d e f g h i j k l m=>some m
def Fj(w:Nat):List Value->Option (List Value×List Value):=λa=>lp (α:=Int->Int->List Value->List Value->Option (List Value×List Value)) (λ_ _ _ _=>none) (λf g h i j=>bif ai h g then ax h λk=>bif Nat.beq 13 13&&(k*13).blt i.length then af (List.drop (0+k*13) i) λl m=>aq .i64 l λn=>af m λo p=>af p λq r=>af r λs t=>af t λu v=>af v λy z=>af z λa0 a1=>af a1 λa2 a3=>af a3 λa4 a5=>af a5 λa6 a7=>af a7 λa8 a9=>af a9 λb0 b1=>aq .i64 b0 λb2=>af b1 λb3 b4=>aq .i64 b3 λb5=>ob (ML w n o q s u y a0 a2 a4 a6 a8 b2 b5) λb6=>bif aw j.length&&(aw ([Value.int .i64 b6].length/1)&&[Value.int .i64 b6].length.beq ([Value.int .i64 b6].length/1*1)) then f g (ag .i64 (h.add 1)) i (j++[Value.int .i64 b6]) else none else none else some (i,j)) w (Int.ofNat (a.length/13)) 0 a []
def Gi(w:Nat):Value->List Value->Option (Int×List Value):=λa b=>ak a λc=>lp (α:=Value->Int->Int->List Value->Option (Int×List Value)) (λ_ _ _ _=>none) (λh i j k l=>bif ai k j then ax k λm=>aC 1 m i λn=>af n λo p=>aq .i64 o λq=>ob (vo w q l) λr=>bif r.1 then some (k,r.2) else h i j (ag .i64 (k.add 1)) r.2 else some (-1,l)) w a (Int.ofNat c) 0 b
def Ny(w:Nat):Value->List Value->Option (Bool×List Value):=λa b=>ob (Gi w a b) λc=>some (!ai c.1 0,c.2)
def FJ(w:Nat):Value->Option (Value×Bool):=λa=>ob (Ny w a [Value.int .i64 0]) λb=>bif b.1 then some (ae 0 [],false) else some (ae (List.length b.2 /1) b.2,true)
def Fl(w:Nat):Value->Option (List Value):=λa=>ak a λb=>bif Nat.blt 0 b then cn 5 a λc d=>bif d.length.beq (c*5)&&(Nat.ble 0 0&&Nat.beq 97 97) then bif(0+c).ble 0 then bif(0+d.length).ble 0 then none else none else bif aw c&&(aw 0&&(Builtin.nextslicecap (0+c) 0).ble 5000000000) then some (List.take 0 (List.drop 0 [])++d) else none else none else none
def Ff(w:Nat):Value->Int->Value->Option (Value×Bool):=λa b c=>ob (FJ w a) λd=>bif !d.2 then some (ae 0 [],false) else ak c λe=>ak a λf=>bif !ah (Int.ofNat e) (Int.ofNat f) then some (ae 0 [],false) else bif ai b 0 then some (ae 0 [],false) else ob (Fl w c) λg=>lp (α:=Value->Int->Value->Int->Int->List Value->Option (Value×Bool)) (λ_ _ _ _ _ _=>none) (λn o p q r s t=>bif ai s r then ax s λu=>aC 1 u o λv=>af v λy z=>aq .i64 y λa0=>ax s λa1=>bif Nat.beq 5 5&&(a1*5).blt t.length then bif(SV.i IntKind.i64 a0).cells.length.beq 1&&(0+a1*5+1+1).ble t.length then ax s λa2=>bif Nat.beq 5 5&&(a2*5).blt (aQ (0+a1*5+1) [Value.int .i64 a0] t).length then bif Nat.beq 1 1&&(0+a2*5+2+1).ble (aQ (0+a1*5+1) [Value.int .i64 a0] t).length then bif ai 0 s then ax s λa3=>aC 1 a3 q λa4=>af a4 λa5 a6=>aq .i64 a5 λa7=>ax s λa8=>bif Nat.beq 5 5&&(a8*5).blt (aQ (0+a2*5+2) [Value.int .i64 0] (aQ (0+a1*5+1) [Value.int .i64 a0] t)).length then bif(SV.i IntKind.i64 (ag .i64 (a7.sub p))).cells.length.beq 1&&(0+a8*5+2+1).ble (aQ (0+a2*5+2) [Value.int .i64 0] (aQ (0+a1*5+1) [Value.int .i64 a0] t)).length then ax s λa9=>bif Nat.beq 5 5&&(a9*5).blt (aQ (0+a8*5+2) [Value.int .i64 (ag .i64 (a7.sub p))] (aQ (0+a2*5+2) [Value.int .i64 0] (aQ (0+a1*5+1) [Value.int .i64 a0] t))).length then af (List.drop (0+a9*5+2) (aQ (0+a8*5+2) [Value.int .i64 (ag .i64 (a7.sub p))] (aQ (0+a2*5+2) [Value.int .i64 0] (aQ (0+a1*5+1) [Value.int .i64 a0] t)))) λb0 b1=>aq .i64 b0 λb2=>bif ai b2 0 then some (ae 0 [],false) else n o p q r (ag .i64 (s.add 1)) (aQ (0+a8*5+2) [Value.int .i64 (ag .i64 (a7.sub p))] (aQ (0+a2*5+2) [Value.int .i64 0] (aQ (0+a1*5+1) [Value.int .i64 a0] t))) else none else none else none else ax s λb3=>bif Nat.beq 5 5&&(b3*5).blt (aQ (0+a2*5+2) [Value.int .i64 0] (aQ (0+a1*5+1) [Value.int .i64 a0] t)).length then af (List.drop (0+b3*5+2) (aQ (0+a2*5+2) [Value.int .i64 0] (aQ (0+a1*5+1) [Value.int .i64 a0] t))) λb4 b5=>aq .i64 b4 λb6=>bif ai b6 0 then some (ae 0 [],false) else n o p q r (ag .i64 (s.add 1)) (aQ (0+a2*5+2) [Value.int .i64 0] (aQ (0+a1*5+1) [Value.int .i64 a0] t)) else none else none else none else none else none else some (ae (t.length/5) t,true)) w a b d.1 (Int.ofNat (g.length/5)) 0 g
def Fc(w:Nat):Value->Option ((Int×Int×Value×Value×List Value)⊕(Value×Int)):=λa=>ob (xK w a) λb=>bif !ah b 0 then some (Sum.inr (Value.pointer none,b)) else ob (FV w a) λc=>bif ah (Int.ofNat (c.length/13)) 1 then some (Sum.inl (0,0,ae 0 [],ae 0 [],c)) else bif Nat.beq 13 13&&Nat.blt 0 c.length then af (List.drop 10 c) λd e=>ob (Bq w d) λf=>ob (Fj w c) λg=>bif Nat.beq 13 13&&Nat.blt 0 (List.length g.1) then af (List.drop 11 g.1) λh i=>aq .i64 h λj=>ob (Ff w (ae (List.length g.2 /1) g.2) (ag .i64 (j.add 4)) f.2.1) λk=>ob (BG w f.1 k.1 f.2.2.1) λl=>bif Nat.beq 13 13&&Nat.blt 0 (List.length g.1) then bif(SV.v l.1).cells.length.beq 1&&Nat.ble 11 (List.length g.1) then some (Sum.inl (0,f.1,k.1,f.2.2.1,aQ 10 [l.1] g.1)) else none else none else none else none
def Fe(w:Nat):Int->Value->Value->Value->Value->Value->Value->Value->Value->Value->Value->Int->Int->Option (Value):=λa b c d e f g h i j k l m=>ob (xX w a b c d e f g h i j k l m) λn=>some n.1
def xD(w:Nat):Value->Option (Value):=λa=>ak a λb=>lp (α:=Value->Int->Int->List Value->Option Value) (λ_ _ _ _=>none) (λg h i j k=>bif ai j i then ax j λl=>aC 13 l h λm=>af m λn o=>aq .i64 n λp=>af o λq r=>af r λs t=>af t λu v=>af v λy z=>af z λa0 a1=>af a1 λa2 a3=>af a3 λa4 a5=>af a5 λa6 a7=>af a7 λa8 a9=>af a9 λb0 b1=>af b1 λb2 b3=>aq .i64 b2 λb4=>af b3 λb5 b6=>aq .i64 b5 λb7=>ob (Fe w p q s u y a0 a2 a4 a6 a8 b0 b4 b7) λb8=>bif aw k.length&&(aw 1&&(List.take 1 (List.drop 0 [b8])).length.beq 1) then g h i (ag .i64 (j.add 1)) (k++List.take 1 (List.drop 0 [b8])) else none else some (ae (k.length/1) k)) w a (Int.ofNat b) 0 []
def E7(w:Nat):Value->Option (Value×Int):=λa=>ob (Fc w a) λb=>dr b (λc=>bif !ah c.1 0 then some (ae 0 [],c.1) else ob (xD w (ae (List.length c.2.2.2.2 /13) c.2.2.2.2)) λd=>some (d,0)) λe=>bif !ah e.2 0 then some (ae 0 [],e.2) else none
def rK(w:Nat):Value->Value->Option (Bool):=λa b=>ak a λc=>ak b λd=>bif !ah (Int.ofNat c) (Int.ofNat d) then some false else lp (α:=Value->Value->Int->Option Bool) (λ_ _ _=>none) (λh i j k=>ak i λl=>bif ai k (Int.ofNat l) then ax k λm=>aC 1 m i λn=>af n λo p=>aq .u8 o λq=>ax k λr=>aC 1 r j λs=>af s λt u=>aq .u8 t λv=>bif !ah q v then some false else h i j (ag .i64 (k.add 1)) else some true) w a b 0
def AX(w:Nat):Value->Option (Value×Int):=λa=>ob (E7 w a) λb=>bif !ah b.2 0 then some (ae 0 [],b.2) else ob (Fk w b.1) λc=>some (c,0)
end
noncomputable section
theorem aeA(w:Nat):KH 24 ⟨1,⟨[(0,.agg [.v])],[],0⟩,0,⟨[(0,.gr 0 13)],[(0,.grow 13 56)],1⟩⟩ (FV w):=fh Tryz.f24 (pa (pa pn (Ke w)) (T5 w)) w (lc 0 [(1,.ptr 0 0),(3,.gr 1 13),(12,vI),(13,vI)] [(0,.cells [.v] 24),(1,.grow 13 56)] 2 ln)
theorem ac9(w:Nat):K 107 [.agg [vI,.v,.v,.v,.v,.v,.v,.v,.v,.v,.v,vI,vI]] (vI) (ML w):=fr Tryz.f107 pn w
theorem ac8(w:Nat):KH 106 ⟨2,⟨[(0,.gr 0 13),(1,.fn 107 [])],[(0,.grow 13 56)],1⟩,1,⟨[(0,.gr 1 1)],[(0,.grow 13 56),(1,.grow 1 3)],2⟩⟩ (Fj w):=fh Tryz.f106 (pa pn (ac9 w)) w (lc 0 [(1,.fn 107 []),(5,.gr 1 1),(8,.gr 0 13),(9,vI),(10,vI)] [(0,.grow 13 56),(1,.grow 1 3)] 2 ln)
theorem afb(w:Nat):KH 268 ⟨2,⟨[(0,.v),(1,.fn 197 [.ptr 0 0])],[(0,.cells [.gr 1 1] 47),(1,.grow 1 3)],2⟩,1,⟨[(0,vI)],[(0,.cells [.gr 1 1] 47),(1,.grow 1 3)],2⟩⟩ (Gi w):=fh Tryz.f268 (ph pn (TG w)) w (lc 0 [(0,.v),(1,.fn 197 [.ptr 0 0]),(7,vI),(8,vI)] [(0,.cells [.gr 1 1] 47),(1,.grow 1 3)] 2 ln)
theorem aeR(w:Nat):KH 196 ⟨2,⟨[(0,.v),(1,.fn 197 [.ptr 0 0])],[(0,.cells [.gr 1 1] 47),(1,.grow 1 3)],2⟩,1,⟨[(0,.b)],[(0,.cells [.gr 1 1] 47),(1,.grow 1 3)],2⟩⟩ (Ny w):=fh Tryz.f196 (ph (pa pn (Kw w)) (afb w)) w
theorem adN(w:Nat):K 132 [.v] (.aH [.v,.b]) (FJ w):=fr Tryz.f132 (ph (pa pn (Kv w)) (aeR w)) w
theorem adf(w:Nat):KH 133 ⟨1,⟨[(0,.v)],[],0⟩,0,⟨[(0,.gr 0 5)],[(0,.grow 5 97)],1⟩⟩ (Fl w):=fh Tryz.f133 pn w
theorem acW(w:Nat):K 67 [.v,vI,.v] (.aH [.v,.b]) (Ff w):=fr Tryz.f67 (ph (pa pn (adN w)) (adf w)) w (lc 0 [(0,.v),(1,vI),(8,.v),(10,.gr 0 5),(33,vI),(34,vI)] [(0,.grow 5 97)] 1 ln)
theorem acS(w:Nat):Cc Tryz.prog 57 ⟨1,⟨[(0,.agg [.v])],[],0⟩,0,⟨[(0,.aH [.ptr 0 0,.i .i64])],[(0,.cells [.i .i64,.v,.v,.gr 1 13] 107),(1,.grow 13 56)],2⟩,⟨[(0,.aH [.v,.i .i64])],[],0⟩⟩ (Fc w):=aaQ (w:=w) (lv:=λn=>none) (jv:=λ_=>none) (un:=λn=>false) qN mixed (iB (nT (iB (nT (iB (iB sZ (Ke w)) (Ue w)) (aeA w)) (TU w)) (ac8 w)) (acW w)) (fn:=Tryz.f57) (by kernel_rfl) (by kernel_rfl) (by kernel_rfl)
theorem acU(w:Nat):K 59 [.agg [vI,.v,.v,.v,.v,.v,.v,.v,.v,.v,.v,vI,vI]] (.v) (Fe w):=fr Tryz.f59 (pa pn (TO w)) w
theorem acT(w:Nat):K 58 [.v,.fn 59 []] (.v) (xD w):=fr Tryz.f58 (pa pn (acU w)) w (lc 0 [(1,.fn 59 []),(5,.gr 0 1),(8,.v),(9,vI),(10,vI)] [(0,.grow 1 26)] 1 ln)
theorem acJ(w:Nat):K 18 [.agg [.v]] (.aH [.v,vI]) (E7 w):=fr Tryz.f18 (pa (ag7 pn (acS w)) (acT w)) w
theorem DD(w:Nat):K 19 [.v,.v] (.b) (rK w):=fr Tryz.f19 pn w (lc 0 [(0,.v),(1,.v),(5,vI)] [] 0 ln)
theorem acM(w:Nat):K 20 [.agg [.v]] (.aH [.v,vI]) (AX w):=fr Tryz.f20 (pa (pa pn (acJ w)) (ada w)) w
end
end Lt
section
open Go.Shelf Go.RowKit Go.Lib
attribute [local go_sem] Oper.semAt_some
end
namespace Lt
section
variable{β:Type}
@[simp] theorem aV(a b:Int):ai a b=decide (a<b):=qk a b
@[simp] theorem bW(a b:Int):ah a b=decide (a=b):=by rw[zG];rfl
@[simp] theorem mr(a b:Nat):Nat.blt a b=decide (a<b):=by rw[ig,bX,Nat.blt_eq]
@[simp] theorem fW(a b:Nat):Nat.ble a b=decide (a<=b):=by rw[ig,bX,gW]
@[simp] theorem yZ(a b:Nat):Nat.beq a b=decide (a=b):=by rw[ig,bX,Nat.beq_eq]
@[simp] theorem qe{α:Type}{p:Prop}[Decidable p](a b:α):cond (decide p) a b=if p then a else b:=by by_cases h:p<;>simp
theorem alk{α:Type}(c:Bool)(a b:α):cond c a b=if c=true then a else b:=by cases c<;>rfl
@[simp] theorem aB{α β:Type}(a:α)(f:α->Option β):ob (some a) f=f a:=rfl
@[simp] theorem aln{α β:Type}(f:α->Option β):ob none f=none:=rfl
@[simp] theorem iC{α γ δ:Type}(a:α)(f:α->δ)(g:γ->δ):dr (.inl a) f g=f a:=rfl
@[simp] theorem G9{α γ δ:Type}(a:γ)(f:α->δ)(g:γ->δ):dr (.inr a) f g=g a:=rfl
@[simp] theorem bh(x:Value)(r:List Value)(K:Value->List Value->Option β):af (x::r) K=K x r:=rfl
@[simp] theorem alp(K:Value->List Value->Option β):af [] K=none:=rfl
@[simp] theorem alm(r:Option β):nR [] r=r:=rfl
@[simp] theorem bP(k:IntKind)(n:Int)(K:Int->Option β):aq k (.int k n) K=K n:=by unfold aq;simp
@[simp] theorem alf(b:Bool)(K:Bool->Option β):yV (.bool b) K=K b:=rfl
@[simp] theorem alj(s:ByteArray)(K:ByteArray->Option β):yW (.string s) K=K s:=rfl
@[simp] theorem bQ(n:Nat)(K:Nat->Option β):ax (n:Int) K=K n:=rfl
@[simp] theorem alh(n:Nat)(K:Nat->Option β):ax (Int.ofNat n) K=K n:=rfl
@[simp] theorem ali(K:Nat->Option β):ax 0 K=K 0:=rfl
@[simp] theorem alg(n:Nat)(K:Nat->Option β):ax (no_index(OfNat.ofNat n)) K=K (OfNat.ofNat n):=rfl
theorem lK{n:Int}(h:0<=n)(K:Nat->Option β):ax n K=K n.toNat:=by obtain⟨m,rfl⟩:=Int.eq_ofNat_of_zero_le h;rfl
@[simp] theorem ab4(n:Nat)(c:List Value)(K:Nat->Option β):ak (ae n c) K=K n:=rfl
@[simp] theorem aaz[QF](x:Value)(r:Option β):lP x x r=r:=zo x r
theorem RD(sz m n:Nat)(c:List Value)(K:List Value->Option β):aC sz m (ae n c) K=if m<n then K (c.drop (m*sz)) else none:=by unfold aC ae;simp
theorem Z3(sz l h n:Nat)(c:List Value)(K:Value->Option β):eJ sz l h (ae n c) K=K (ae (h -l) ((c.drop (l*sz)).take ((h -l)*sz))):=rfl
theorem aaT(E n:Nat)(c:List Value)(K:Nat->List Value->Option β):cn E (ae n c) K=if n*E<=c.length then K n (c.take (n*E)) else none:=by unfold cn ae;simp
@[simp] theorem alo(n:Nat):aw n=decide (n<=1000000000):=by unfold aw;rw[fW]
theorem aO{n:Int}(h1:-9223372036854775808<=n)(h2:n<9223372036854775808):ag .i64 n=n:=by
 unfold ag;have:uG .i64 n=true:=by
  cases n with
  |ofNat m=>show Nat.blt m 9223372036854775808=true;simp_all;omega
  |negSucc m=>show Nat.blt m 9223372036854775808=true;rw[mr,bX];omega
 grind
theorem si{n:Int}(h1:0<=n)(h2:n<18446744073709551616):ag .u64 n=n:=by
 unfold ag;have:uG .u64 n=true:=by
  cases n with
  |ofNat m=>show Nat.blt m 18446744073709551616=true;simp_all;omega
  |negSucc m=>omega
 grind
@[simp] theorem iT(a b:Int):Int.sub a b=a -b:=rfl
@[simp] theorem cc(a b:Int):Int.add a b=a+b:=rfl
@[simp] theorem oI(a b:Int):Int.mul a b=a*b:=rfl
@[simp] theorem cf(n:Nat):Int.ofNat n=(n:Int):=rfl
theorem ace{α:Type}(z:α)(F:α->α)(n:Nat):lp z F (n+1)=F (lp z F n):=rfl
theorem eA{α:Type}(z:α)(F:α->α){n:Nat}(h:0<n):lp z F n=F (lp z F (n -1)):=by
 cases n with
 |zero=>omega
 |succ n=>rfl
theorem iL{α γ:Type}{z:α}{F:α->α}{r:γ}{w:Nat}(ev:Nat->α->γ)(m:Nat)(hs:∀i g,i<m->ev i (F g)=ev (i+1) g)(he:∀g,ev m (F g)=r)(h:m<w):ev 0 (lp z F w)=r:=by
 have:∀(d i v:Nat),i+d=m->d<v->ev i (lp z F v)=r:=by
  intro d;induction d with
  |zero=>intro i v hi hv;rw[eA z F (by omega),show i=m by omega,he]
  |succ d ih=>
   intro i v hi hv;rw[eA z F (by omega)]
   grind
 grind
def aD{α:Type}(f:α->List Value)(l:List α):Value:=ae l.length (l.flatMap f)
def aX(b:UInt8):Value:=.int .u8 (b.toNat:Int)
def pg(b:UInt8):List Value:=[aX b]
def aj(l:List UInt8):Value:=aD pg l
theorem dc{α:Type}{f:α->List Value}{k:Nat}(hf:∀x,(f x).length=k):∀l:List α,(l.flatMap f).length=l.length*k
 |[]=>by simp
 |x::l=>by rw[dL,aP,hf,dc hf l,cm,lG,Nat.one_mul,Nat.add_comm]
theorem mW{α:Type}{f:α->List Value}{k:Nat}(hf:∀x,(f x).length=k):∀(l:List α)(m:Nat),(l.flatMap f).drop (m*k)=(l.drop m).flatMap f
 |l,0=>by simp
 |[],m+1=>by simp
 |x::l,m+1=>by rw[dL,lG,Nat.one_mul,Nat.add_comm (m*k),<-List.drop_drop,List.drop_left' (hf x),mW hf l m];rfl
theorem wH{α:Type}{f:α->List Value}{k:Nat}(hf:∀x,(f x).length=k):∀(l:List α)(m:Nat),(l.flatMap f).take (m*k)=(l.take m).flatMap f
 |l,0=>by simp
 |[],m+1=>by simp
 |x::l,m+1=>by rw[dL,lG,Nat.one_mul,Nat.add_comm (m*k),List.take_append,fe (by rw[hf];omega),hf,Hq,wH hf l m];rfl
@[simp] theorem cI{α:Type}(f:α->List Value)(l:List α)(K:Nat->Option β):ak (aD f l) K=K l.length:=rfl
theorem bu{α:Type}{f:α->List Value}{k:Nat}(hf:∀x,(f x).length=k){l:List α}{m:Nat}(h:m<l.length)(K:List Value->Option β):aC k m (aD f l) K=K (f l[m]++(l.drop (m+1)).flatMap f):=by unfold aD;rw[RD,az h,mW hf,cX h,dL]
theorem um{α:Type}{f:α->List Value}{k:Nat}(hf:∀x,(f x).length=k)(l:List α){a b:Nat}(h:b<=l.length)(K:Value->Option β):eJ k a b (aD f l) K=K (aD f ((l.drop a).take (b -a))):=by
 unfold aD;rw[Z3,mW hf,wH hf]
 grind
theorem zy{α:Type}{f:α->List Value}{k:Nat}(hf:∀x,(f x).length=k)(l:List α)(K:Nat->List Value->Option β):cn k (aD f l) K=K l.length (l.flatMap f):=by unfold aD;rw[aaT,dc hf,az (aL _),fe (by rw[dc hf];exact aL _)]
theorem Iq(b:UInt8):(pg b).length=1:=rfl
@[simp] theorem cw(l:List UInt8)(K:Nat->Option β):ak (aj l) K=K l.length:=rfl
theorem nQ{l:List UInt8}{m:Nat}(h:m<l.length)(K:List Value->Option β):aC 1 m (aj l) K=K (aX l[m]::(l.drop (m+1)).flatMap pg):=bu Iq h K
theorem lM(l:List UInt8){a b:Nat}(h:b<=l.length)(K:Value->Option β):eJ 1 a b (aj l) K=K (aj ((l.drop a).take (b -a))):=um Iq l h K
theorem gY(l:List UInt8)(K:Nat->List Value->Option β):cn 1 (aj l) K=K l.length (l.flatMap pg):=zy Iq l K
theorem iv(l:List UInt8):l.flatMap pg=l.map aX:=by
 induction l with
 |nil=>rfl
 |cons x l ih=>rw[dL,ih];rfl
@[simp] theorem o9(b:UInt8)(K:Int->Option β):aq .u8 (aX b) K=K (b.toNat:Int):=bP _ _ _
theorem acd{α:Type}{z:α}{F:α->α}{G:Nat->α}(h:lp z F=G)(n:Nat):G (n+1)=F (G n):=by subst h;rfl
end
theorem vn{w:Nat}(h:4<=w)(a b:Int):qF w a b=some (fQ a b):=by
 obtain⟨v,rfl⟩:=vR h;have e:Gh (v+4) (ae 3 [Value.int IntKind.i64 1,Value.int IntKind.i64 2,Value.int IntKind.i64 4]) a=some (if a=1 then 0 else if a=2 then 1 else if a=4 then 2 else-1):=by
  unfold Gh NC;simp[ace,RD,aO,@eq_comm _ _ a]
  repeat' split
  all_goals rfl
 unfold qF Nx;rw[e];simp[fQ,BY];have hb:(if b=1 then some true else some (decide (b=2)))=some (b==1||b==2):=by by_cases hb:b=1<;>grind
 rw[hb];by_cases h1:a=1
 ·simp[h1]
 ·by_cases h2:a=2
  ·simp[h2]
  ·by_cases h4:a=4
   ·simp[h4]
   ·simp_all
theorem sS{s o:Int}(h:fQ s o=true):(s=1\/s=2\/s=4)/\(o=1\/o=2):=by
 unfold fQ BY at h
 grind
theorem agK{n b:Nat}(hn:n<2^40)(hb:b<256):(BitVec.ofInt 64 ((n:Int)*256)|||BitVec.ofInt 64 (b:Int)).toNat=n*256+b:=by
 rw[(show((n:Int)*256)=((n*256:Nat):Int) from by omega),BitVec.ofInt_natCast];have:=Nat.shiftLeft_add_eq_or_of_lt (i:=8) (by omega) n;rw[Nat.shiftLeft_eq] at this
 grind
theorem UG{l:List UInt8}{p s:Nat}{o:Int}(h:p+s<=l.length):(gG l p s o).length=s:=by
 unfold gG
 grind
theorem ag2{l:List UInt8}{p s i:Nat}{o:Int}(h:p+s<=l.length)(hi:i<s):(gG l p s o)[i]'(by rw[UG h];exact hi)=if o=1 then l[p+s -1 -i]'(by omega) else l[p+i]'(by omega):=by
 unfold gG
 grind
theorem A8{w:Nat}(hw:5<=w)(l:List UInt8)(hl:l.length<2^60)(p s o:Int)(hp:p<2^62):
 jB w (aj l) p s o=some (match oH l p s o with|some n=>(n,true)|none=>(0,false)):=by
 unfold jB oH Ml;rw[vn (by omega)];cases hm:fQ s o with
 |false=>simp
 |true=>
  obtain⟨hs,ho⟩:=sS hm;simp only[aB,bH,aF,aV,qe,cw];by_cases h0:p<0
  ·rw[az h0,ar (by omega)]
  rw[ar h0];rw[aO (by simp;omega) (by simp;omega)];by_cases h1:(Int.ofNat l.length).sub s<p
  ·rw[az h1,ar (by simp at h1;omega)]
  rw[ar h1,az ⟨trivial,by omega,by simp at h1;omega⟩];obtain⟨p,rfl⟩:=Int.eq_ofNat_of_zero_le (Int.not_lt.1 h0);obtain⟨s,rfl⟩:=Int.eq_ofNat_of_zero_le (a:=s) (by omega);have hps:p+s<=l.length:=by simp at h1;omega
  have hs4:s<=4:=by omega
  have hk:=UG (o:=o) hps;refine iL (ev:=λi (g:Value->Int->Int->Int->Int->Int->Int->Option (Int×Bool))=>g (aj l) p s o (gU ((gG l p s o).take i):Int) s i) s ?_ ?_ (by omega)
  ·intro i g hi;have hi':((i:Int)<(s:Int)):=by omega
   have hn:gU ((gG l p s o).take i)<2^40:=om (J8 _) (by
    rw[dJ,hk];exact fG (Nat.pow_le_pow_right (by decide) (show min i s<=4 by omega)) (by decide))
   have e1:(gG l p s o).take (i+1)=(gG l p s o).take i++[(gG l p s o)[i]'(by omega)]:=by rw[iO (by omega)]
   simp only[hi',dW,bW];have hb:=agK hn (gG l p s o)[i].toNat_lt;have hv:gU ((gG l p s o).take i)*256+(gG l p s o)[i].toNat<2^50:=by have:=(gG l p s o)[i].toNat_lt;omega
   rw[e1,Dz];rw[ag2 hps hi] at hb hv⊢;by_cases h2:o=1
   ·simp only[h2,aY,aE,dW] at hb hv⊢;simp(disch:=omega) only[iT,cc,aO,lK];rw[nQ (show(((p:Int)+s -1 -i).toNat<l.length) by omega)];have e2:((p:Int)+s -1 -i).toNat=p+s -1 -i:=by omega
    simp(disch:=omega) only[e2,bh,o9,oI,aO];rw[show((2:Int)^8)=256 from rfl];simp(disch:=omega) only[aO,hb];rfl
   ·simp only[h2,bN,aF,gK] at hb hv⊢;simp(disch:=omega) only[iT,cc,aO,lK];rw[nQ (show(((p:Int)+i).toNat<l.length) by omega)];have e2:((p:Int)+i).toNat=p+i:=by omega
    simp(disch:=omega) only[e2,bh,o9,oI,aO];rw[show((2:Int)^8)=256 from rfl];simp(disch:=omega) only[aO,hb];rfl
  ·intro g;simp[hk,fe]
end Lt
end Go.Proofs.YtcfjfbeadhnknaaGreatDoor

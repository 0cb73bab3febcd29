import Derived.Test.YtfdojmichbgpiaaGreatDoorRE
namespace Go.Proofs.YtfdojmichbgpiaaGreatDoor
set_option maxRecDepth 100000
namespace Lt
noncomputable section
abbrev V:=Value
abbrev L:=List Value
abbrev Z:=Int
abbrev N:=Nat
abbrev B:=Bool
abbrev O:=Option
abbrev R0:=O (V×Z)
abbrev R1:=O (Z×B)
abbrev R2:=O (V×B)
abbrev R3:=O (Z×N×N×Z×V×V×Z×L)
abbrev R4:=O (Z×Z×L)
abbrev R5:=O (Z×Z×V×B)
abbrev R6:=O (V×Z×Z×Z)
abbrev ajN:=O (Z×V×V×B)
abbrev R8:=O (N×N×L)
abbrev R9:=O (V×V×V)
abbrev Dy:=O (B×Z×V×V×V×V×V×V×V)
abbrev Dz:=O (Z×V×V×V×V×V×V×V×Z)
abbrev DA:=O (V×B×V×Z×V×V×V×V×V×V×V×V×V×V×Z×Z)
abbrev DB:=O (Z×Z×V×Z×V×N×N×Z×Z×L×L×L)
abbrev DC:=O (Z×V×V×V×V×V×V×V×V×V×V×Z×Z×Z)
abbrev IU:=O ((V×V×V×Z×V×Z×V×N×N×Z×Z×L×L)⊕(Z×V×Z×V×N×N×Z×Z×L×L))
abbrev Ps:=O (V×Z×V×V×V×V×V×V×V×V×V×V×Z×Z×L)
abbrev Pt:=O (B×V×Z×V×V×V×V×V×V×V×V×V×V×Z×Z)
abbrev Pu:=O ((V×Z×V×N×N×Z×Z×L×L)⊕(Z×V×Z×V×N×N×Z×Z×L×L))
abbrev Pv:=O ((Z×V×Z×V×N×N×Z×Z×L×L)⊕(Z×V×Z×V×N×N×Z×Z×L×L))
abbrev Pw:=O ((V×V×Z×V×N×N×Z×Z×L×L)⊕(Z×V×Z×V×N×N×Z×Z×L×L))
abbrev Px:=O ((Z×Z×Z×V×V×Z×V×N×N×Z×Z×L×L)⊕(Z×V×Z×V×N×N×Z×Z×L×L))
abbrev vI:VT:=.i .i64
def NK(_:Nat):Z->Z->O B:=λa b=>some (ak a b)
def Hf(w:Nat):V->Z->O Z:=λa b=>ax a λc=>lp (α:=V->L->Z->Z->O Z) (λ_ _ _ _=>none) (λh i j k l=>bif aq l k then aG l λm=>aQ 1 m i λn=>ag n λo _=>aw .i64 o λq=>ag j λr s=>aw .i64 r λt=>om s (ob (NK w q t) λu=>bif u then some l else h i j k (ah .i64 (l.add 1))) else some (-1)) w a [Value.int .i64 b] (Int.ofNat c) 0
def NH(w:Nat):V->Z->O B:=λa b=>ob (Hf w a b) λc=>some !aq c 0
def re(w:Nat):Z->Z->O B:=λa b=>ob (NH w (ae 3 [Value.int .i64 1,Value.int .i64 2,Value.int .i64 4]) a) λc=>bif c then bif ak b 1 then some true else some (ak b 2) else some false
def zy(_:Nat):Z->O Z:=λa=>bif aq (ah .u64 (Int.mul 8 (ah .u64 a))) 0 then none else some (ah .i64 (Int.mul 1 (2^min (ah .u64 (Int.mul 8 (ah .u64 a))).toNat 64)))
def GX(w:Nat):N->N->L->O L:=λa b c=>lp (α:=N->N->Z->Z->L->O L) (λ_ _ _ _ _=>none) (λi j k l m n=>bif aq l m then aG m λo=>bif o.blt j then ag (List.drop (0+o*1) n) λp _=>aw .u8 p λr=>aG l λs=>bif s.blt j then ag (List.drop (0+s*1) n) λt _=>aw .u8 t λv=>aG l λy=>bif y.blt j then bif(SV.i IntKind.u8 r).cells.length.beq 1&&(0+y*1+1).ble n.length then aG m λz=>bif z.blt j then bif(SV.i IntKind.u8 v).cells.length.beq 1&&(0+z*1+1).ble (aW (0+y*1) [Value.int .u8 r] n).length then i j k (ah .i64 (l.add 1)) (ah .i64 (m.sub 1)) (aW (0+z*1) [Value.int .u8 v] (aW (0+y*1) [Value.int .u8 r] n)) else none else none else none else none else none else none else some n) w a b 0 (ah .i64 ((Int.ofNat a).sub 1)) c
def gR(w:Nat):Z->Z->Z->R2:=λa b c=>ob (re w b c) λd=>bif !d then some (ae 0 [],false) else bif aq a 0 then some (ae 0 [],false) else ob (zy w b) λe=>bif !aq a e then some (ae 0 [],false) else aG b λf=>aG b λg=>bif Nat.blt 0 1&&Nat.beq 1 1&&Nat.ble 1 10000&&(f.ble g&&g.ble 1000000000) then lp (α:=Z->Z->Z->N->N->Z->Z->L->R2) (λ_ _ _ _ _ _ _ _=>none) (λp q r s t u v y z=>bif aq y v then bif aq (ah .u64 (Int.mul 8 (ah .u64 y))) 0 then none else aG (ah .i64 ((ah .i64 (r.sub 1)).sub y)) λa0=>bif a0.blt t then bif(SV.i IntKind.u8 (ah .u8 (q.fdiv (2^min (ah .u64 (Int.mul 8 (ah .u64 y))).toNat 64)))).cells.length.beq 1&&(0+a0*1+1).ble z.length then p q r s t u v (ah .i64 (y.add 1)) (aW (0+a0*1) [Value.int .u8 (ah .u8 (q.fdiv (2^min (ah .u64 (Int.mul 8 (ah .u64 y))).toNat 64)))] z) else none else none else bif ak s 1 then ob (GX w t u z) λa1=>some (ae t (List.drop 0 a1),true) else some (ae t (List.drop 0 z),true)) w a b c f g (Int.ofNat f) 0 (rep g (Value.int .u8 0).cells.toList) else none
def zO(w:Nat):Z->O B:=λa=>ob (gR w a 2 2) λb=>some b.2
def Hn(_:Nat):V->Z->Z->O B:=λa b c=>bif aq b c then ax a λd=>some (aq c (Int.ofNat d)) else some false
def Gp(w:Nat)(a:Z)(b:Z)(c:V->V->Z->Z->O B)(d:V)(e:V)(f:Z)(g:Z):O B:=bif aq a 1 then some false else bif !aq a b then some false else ob (zO w b) λh=>bif !h then some false else c d e f (ah .i64 (g.add 1))
def ri(w:Nat):V->O B:=λa=>ax a λb=>bif aq (Int.ofNat b) 1 then some false else ax a λc=>bif aq 16 (Int.ofNat c) then some false else ax a λd=>lp (α:=V->V->Z->Z->O B) (λ_ _ _ _=>none) (λi j k l m=>bif aq m l then aG m λn=>aQ 4 n k λo=>ag o λp q=>ag q λr s=>aw .i64 r λt=>ag s λu v=>aw .i64 u λy=>ag v λz _=>aw .i64 z λa1=>ax p λa2=>lp (α:=V->Z->V->Z->Z->V->Z->Z->V->Z->Z->Z->O B) (λ_ _ _ _ _ _ _ _ _ _ _ _=>none) (λb5 b6 b7 b8 b9 c0 c1 c2 c3 c4 c5 c6 c7=>bif aq c3 c2 then aG c3 λc8=>aQ 2 c8 c1 λc9=>ag c9 λd0 d1=>aw .i64 d0 λd2=>ag d1 λd3 _=>aw .i64 d3 λd5=>ob (zO w d2) λd6=>bif !d6 then some false else bif aq 0 c3 then aG (ah .i64 (c3.sub 1)) λd7=>aQ 2 d7 c4 λd8=>ag (List.drop 0 d8) λd9 _=>aw .i64 d9 λe1=>bif !aq e1 d2 then some false else ob (Hn w b6 b7 d5) λe2=>bif !e2 then some false else bif aq 0 c5 then bif ak d2 c5 then some false else bif ak d2 c6 then some false else b5 b6 b7 b8 b9 c0 c1 c2 (ah .i64 (c3.add 1)) c4 c5 c6 c7 else b5 b6 b7 b8 b9 c0 c1 c2 (ah .i64 (c3.add 1)) c4 c5 c6 c7 else ob (Hn w b6 b7 d5) λe3=>bif !e3 then some false else bif aq 0 c5 then bif ak d2 c5 then some false else bif ak d2 c6 then some false else b5 b6 b7 b8 b9 c0 c1 c2 (ah .i64 (c3.add 1)) c4 c5 c6 c7 else b5 b6 b7 b8 b9 c0 c1 c2 (ah .i64 (c3.add 1)) c4 c5 c6 c7 else bif !ak c7 (-1) then ob (Hn w b6 b7 c7) λe4=>bif !e4 then some false else bif ak c5 0 then bif ak c6 0 then i b6 b8 b9 (ah .i64 (c0.add 1)) else Gp w c5 c6 i b6 b8 b9 c0 else Gp w c5 c6 i b6 b8 b9 c0 else bif ak c5 0 then bif ak c6 0 then i b6 b8 b9 (ah .i64 (c0.add 1)) else Gp w c5 c6 i b6 b8 b9 c0 else Gp w c5 c6 i b6 b8 b9 c0) w j m k l m p (Int.ofNat a2) 0 p t y a1 else some true) w a a (Int.ofNat d) 0
def jT(_:Nat):V->V->V->O Z:=λa b c=>ax a λd=>ax b λe=>ax c λf=>bif aq 0 (Int.ofNat f) then some (ah .i64 ((ah .i64 ((Int.ofNat d).add (Int.ofNat e))).add 2)) else some (ah .i64 ((Int.ofNat d).add (Int.ofNat e)))
def Ol(_:Nat):Z->Z->Z->O B:=λa _ c=>some (ak a c)
def NS(w:Nat):V->Z->O Z:=λa b=>ax a λc=>lp (α:=V->L->Z->Z->O Z) (λ_ _ _ _=>none) (λh i j k l=>bif aq l k then aG l λm=>aQ 2 m i λn=>ag n λo p=>aw .i64 o λq=>ag p λr _=>aw .i64 r λt=>ag j λu v=>aw .i64 u λy=>om v (ob (Ol w q t y) λz=>bif z then some l else h i j k (ah .i64 (l.add 1))) else some (-1)) w a [Value.int .i64 b] (Int.ofNat c) 0
def CI(w:Nat):V->Z->O B:=λa b=>ob (NS w a b) λc=>some !aq c 0
def CN(w:Nat):V->Z->Z->Z->Z->O B:=λa b c _ e=>bif aq 0 b then bif ak e b then some true else bif ak e c then some true else ob (CI w a e) λf=>some f else ob (CI w a e) λg=>some g
def V2(_:Nat):O (Z×Z×Z×Z×Z×Z×Z×Z×Z×Z×Z×Z×Z×Z×Z×Z×Z×Z×Z×Z×Z×Z×Z×Z×Z×Z×Z×Z×Z×Z×Z×Z×Z×Z×Z×Z×Z×Z×Z):=some (0,0,0,1,1,1,1,1,1,2,2,1,4,4,1,8,4,3,1,1,2,1,1,1,2,2,2,4,4,2,8,4,4,4,4,5,8,8,5)
def sP(w:Nat):Z->O (Z×Z×Z):=λa=>bif aq a 0 then some (0,0,0) else bif aq 12 a then some (0,0,0) else ob (V2 w) λb=>aG a λc=>bif c.blt 13 then ag (List.drop (c*3) [Value.int .i64 b.1,Value.int .i64 b.2.1,Value.int .i64 b.2.2.1,Value.int .i64 b.2.2.2.1,Value.int .i64 b.2.2.2.2.1,Value.int .i64 b.2.2.2.2.2.1,Value.int .i64 b.2.2.2.2.2.2.1,Value.int .i64 b.2.2.2.2.2.2.2.1,Value.int .i64 b.2.2.2.2.2.2.2.2.1,Value.int .i64 b.2.2.2.2.2.2.2.2.2.1,Value.int .i64 b.2.2.2.2.2.2.2.2.2.2.1,Value.int .i64 b.2.2.2.2.2.2.2.2.2.2.2.1,Value.int .i64 b.2.2.2.2.2.2.2.2.2.2.2.2.1,Value.int .i64 b.2.2.2.2.2.2.2.2.2.2.2.2.2.1,Value.int .i64 b.2.2.2.2.2.2.2.2.2.2.2.2.2.2.1,Value.int .i64 b.2.2.2.2.2.2.2.2.2.2.2.2.2.2.2.1,Value.int .i64 b.2.2.2.2.2.2.2.2.2.2.2.2.2.2.2.2.1,Value.int .i64 b.2.2.2.2.2.2.2.2.2.2.2.2.2.2.2.2.2.1,Value.int .i64 b.2.2.2.2.2.2.2.2.2.2.2.2.2.2.2.2.2.2.1,Value.int .i64 b.2.2.2.2.2.2.2.2.2.2.2.2.2.2.2.2.2.2.2.1,Value.int .i64 b.2.2.2.2.2.2.2.2.2.2.2.2.2.2.2.2.2.2.2.2.1,Value.int .i64 b.2.2.2.2.2.2.2.2.2.2.2.2.2.2.2.2.2.2.2.2.2.1,Value.int .i64 b.2.2.2.2.2.2.2.2.2.2.2.2.2.2.2.2.2.2.2.2.2.2.1,Value.int .i64 b.2.2.2.2.2.2.2.2.2.2.2.2.2.2.2.2.2.2.2.2.2.2.2.1,Value.int .i64 b.2.2.2.2.2.2.2.2.2.2.2.2.2.2.2.2.2.2.2.2.2.2.2.2.1,Value.int .i64 b.2.2.2.2.2.2.2.2.2.2.2.2.2.2.2.2.2.2.2.2.2.2.2.2.2.1,Value.int .i64 b.2.2.2.2.2.2.2.2.2.2.2.2.2.2.2.2.2.2.2.2.2.2.2.2.2.2.1,Value.int .i64 b.2.2.2.2.2.2.2.2.2.2.2.2.2.2.2.2.2.2.2.2.2.2.2.2.2.2.2.1,Value.int .i64 b.2.2.2.2.2.2.2.2.2.2.2.2.2.2.2.2.2.2.2.2.2.2.2.2.2.2.2.2.1,Value.int .i64 b.2.2.2.2.2.2.2.2.2.2.2.2.2.2.2.2.2.2.2.2.2.2.2.2.2.2.2.2.2.1,Value.int .i64 b.2.2.2.2.2.2.2.2.2.2.2.2.2.2.2.2.2.2.2.2.2.2.2.2.2.2.2.2.2.2.1,Value.int .i64 b.2.2.2.2.2.2.2.2.2.2.2.2.2.2.2.2.2.2.2.2.2.2.2.2.2.2.2.2.2.2.2.1,Value.int .i64 b.2.2.2.2.2.2.2.2.2.2.2.2.2.2.2.2.2.2.2.2.2.2.2.2.2.2.2.2.2.2.2.2.1,Value.int .i64 b.2.2.2.2.2.2.2.2.2.2.2.2.2.2.2.2.2.2.2.2.2.2.2.2.2.2.2.2.2.2.2.2.2.1,Value.int .i64 b.2.2.2.2.2.2.2.2.2.2.2.2.2.2.2.2.2.2.2.2.2.2.2.2.2.2.2.2.2.2.2.2.2.2.1,Value.int .i64 b.2.2.2.2.2.2.2.2.2.2.2.2.2.2.2.2.2.2.2.2.2.2.2.2.2.2.2.2.2.2.2.2.2.2.2.1,Value.int .i64 b.2.2.2.2.2.2.2.2.2.2.2.2.2.2.2.2.2.2.2.2.2.2.2.2.2.2.2.2.2.2.2.2.2.2.2.2.1,Value.int .i64 b.2.2.2.2.2.2.2.2.2.2.2.2.2.2.2.2.2.2.2.2.2.2.2.2.2.2.2.2.2.2.2.2.2.2.2.2.2.1,Value.int .i64 b.2.2.2.2.2.2.2.2.2.2.2.2.2.2.2.2.2.2.2.2.2.2.2.2.2.2.2.2.2.2.2.2.2.2.2.2.2.2]) λd e=>aw .i64 d λf=>ag e λg h=>aw .i64 g λi=>ag h λj _=>aw .i64 j λl=>some (f,i,l) else none
def qi(w:Nat):Z->Z->V->O B:=λa b c=>ob (sP w a) λd=>bif ak d.1 0 then some false else bif aq b 1 then some false else bif aq 65536 b then some false else ax c λe=>bif !ak (Int.ofNat e) (ah .i64 (b.mul d.1)) then some false else bif !ak a 2 then some true else ob (CG w c 0) λf=>ax c λg=>some (ak f (ah .i64 ((Int.ofNat g).sub 1)))
def Hv(w:Nat):V->V->V->V->V->Z->Z->Z->O B:=λ_ b c d e f g h=>ax b λi=>lp (α:=V->Z->Z->V->V->V->V->Z->Z->Z->O B) (λ_ _ _ _ _ _ _ _ _ _=>none) (λt u v y z a0 a1 a2 a3 a4 a5=>bif aq y v then aG y λa6=>aQ 4 a6 u λa7=>ag a7 λa8 a9=>aw .i64 a8 λb0=>ag a9 λb1 b2=>aw .i64 b1 λb3=>ag b2 λb4 b5=>aw .i64 b4 λb6=>ag b5 λb7 _=>ob (zO w b0) λb9=>bif !b9 then some false else bif aq 0 y then aG (ah .i64 (y.sub 1)) λc0=>aQ 4 c0 z λc1=>ag (List.drop 0 c1) λc2 _=>aw .i64 c2 λc4=>bif !aq c4 b0 then some false else ob (CN w a2 a3 a4 a5 b0) λc5=>bif c5 then some false else ob (qi w b3 b6 b7) λc6=>bif !c6 then some false else t u v (ah .i64 (y.add 1)) z a0 a1 a2 a3 a4 a5 else ob (CN w a2 a3 a4 a5 b0) λc7=>bif c7 then some false else ob (qi w b3 b6 b7) λc8=>bif !c8 then some false else t u v (ah .i64 (y.add 1)) z a0 a1 a2 a3 a4 a5 else some true) w b (Int.ofNat i) 0 b c d e f g h
def Oc(_:Nat):Z->Z->Z->V->V->V->O B:=λa _ c _ _ _=>some (ak a c)
def NT(w:Nat):V->Z->V->V->V->O Z:=λa b c d e=>ax a λf=>lp (α:=V->L->Z->Z->O Z) (λ_ _ _ _=>none) (λk l m n o=>bif aq o n then aG o λp=>aQ 2 p l λq=>ag q λr s=>aw .i64 r λt=>ag s λu _=>aw .i64 u λy=>ag m λz a0=>aw .i64 z λa1=>ag a0 λa2 a3=>ag a3 λa4 a5=>ag a5 λa6 a7=>om a7 (ob (Oc w t y a1 a2 a4 a6) λa8=>bif a8 then some o else k l m n (ah .i64 (o.add 1))) else some (-1)) w a [Value.int .i64 b,c,d,e] (Int.ofNat f) 0
def MH(w:Nat)(a:V)(rec:V->V->V->V->Z->O B)(b:V)(c:V)(d:V)(e:V)(f:Z)(g:Z)(h:Z):O B:=ax a λi=>lp (α:=V->Z->Z->V->V->V->V->V->Z->Z->Z->O B) (λ_ _ _ _ _ _ _ _ _ _ _=>none) (λu v y z a0 a1 a2 a3 a4 a5 a6 a7=>bif aq z y then aG z λa8=>aQ 4 a8 v λa9=>ag a9 λb0 b1=>aw .i64 b0 λb2=>ag b1 λb3 b4=>ag b4 λb5 b6=>ag b6 λb7 _=>ob (NT w a4 b2 b3 b5 b7) λb9=>bif aq b9 0 then some false else bif aq 0 z then aG (ah .i64 (z.sub 1)) λc0=>aQ 4 c0 a2 λc1=>ag (List.drop 0 c1) λc2 _=>aw .i64 c2 λc4=>bif !aq c4 b2 then some false else aG b9 λc5=>aQ 2 c5 a4 λc6=>ag (List.drop 1 c6) λc7 _=>aw .i64 c7 λc9=>ob (rec a0 b3 b5 b7 c9) λd0=>bif !d0 then some false else u v y (ah .i64 (z.add 1)) a0 a1 a2 a3 a4 a5 a6 a7 else aG b9 λd1=>aQ 2 d1 a4 λd2=>ag (List.drop 1 d2) λd3 _=>aw .i64 d3 λd5=>ob (rec a0 b3 b5 b7 d5) λd6=>bif !d6 then some false else u v y (ah .i64 (z.add 1)) a0 a1 a2 a3 a4 a5 a6 a7 else some true) w a (Int.ofNat i) 0 b c a d e f g h
def Ir(w:Nat)(rec:V->V->V->V->Z->O B):V->V->V->V->Z->O B:=λa b c d e=>aG e λf=>aQ 4 f a λg=>ag g λh i=>ag i λj k=>aw .i64 j λl=>ag k λm n=>aw .i64 m λo=>ag n λp _=>aw .i64 p λr=>ob (jT w b c d) λs=>bif aq s 1 then some false else bif aq 65535 s then some false else ob (Hv w a b c d h l o r) λt=>bif !t then some false else ax d λu=>bif aq 0 (Int.ofNat u) then bif ak l 0 then some false else MH w c rec a b d h l o r else MH w c rec a b d h l o r
def NQ(w:Nat):V->V->V->V->Z->O B:=pU (jY (VT.fo [.agg [.v],.agg [.v,.v,.v],vI])) (Ir w) w
def Oa(w:Nat):Z->Z->Z->V->O B:=λ_ b c d=>ob (qi w b c d) λe=>some !e
def Oi(w:Nat):V->O Z:=λa=>ax a λb=>lp (α:=V->Z->Z->O Z) (λ_ _ _=>none) (λf g h i=>bif aq i h then aG i λj=>aQ 4 j g λk=>ag k λl m=>aw .i64 l λn=>ag m λo p=>aw .i64 o λq=>ag p λr s=>aw .i64 r λt=>ag s λu _=>ob (Oa w n q t u) λy=>bif y then some i else f g h (ah .i64 (i.add 1)) else some (-1)) w a (Int.ofNat b) 0
def nt(w:Nat):V->O B:=λa=>ob (Oi w a) λb=>some !aq b 0
def wU(w:Nat):Z->V->O B:=EV w (jT w) (nt w)
def HU(_:Nat):Z->O Z:=λa=>some (ah .i64 (a.add (ah .i64 ↑(BitVec.ofInt 64 a&&&BitVec.ofInt 64 1).toNat)))
def Ob(w:Nat):Z->Z->Z->L->O (Z×Z×Z×L):=λa b c d=>ob (HU w b) λe=>some (e,ah .i64 (e.add a),c,d)
def wV(w:Nat):Z->Z->Z->Z->Z->Z->L->R4:=λa b c d e f g=>ob (Ob w d e f g) λh=>bif aK (List.length h.2.2.2)&&(aK 1&&(List.take 5 (List.drop 0 [Value.int .i64 a,Value.int .i64 b,Value.int .i64 c,Value.int .i64 h.1,Value.int .i64 d])).length.beq 5) then some (h.2.1,h.2.2.1,h.2.2.2 ++List.take 5 (List.drop 0 [Value.int .i64 a,Value.int .i64 b,Value.int .i64 c,Value.int .i64 h.1,Value.int .i64 d])) else none
def CJ(w:Nat):Z->O Z:=λa=>ob (sP w a) λb=>some b.1
def CP(w:Nat):Z->Z->O Z:=λa b=>bif aq b 1 then some 0 else bif aq 65536 b then some 0 else ob (CJ w a) λc=>some (ah .i64 (b.mul c))
def CL(w:Nat):Z->Z->O Z:=λa b=>ob (CP w a b) λc=>bif aq 4 c then some c else some 0
def Hu(w:Nat):V->V->V->Z->Z->Z->L->R4:=λa _ _ d e f g=>ax a λh=>lp (α:=Z->V->Z->Z->Z->Z->L->R4) (λ_ _ _ _ _ _ _=>none) (λp q r s t u v y=>bif aq t s then aG t λz=>aQ 4 z r λa0=>ag a0 λa1 a2=>aw .i64 a1 λa3=>ag a2 λa4 a5=>aw .i64 a4 λa6=>ag a5 λa7 a8=>aw .i64 a7 λa9=>ag a8 λ_ _=>ob (CL w a6 a9) λb2=>bif aq 0 b2 then ob (wV w 3 q a3 b2 u v y) λb3=>p q r s (ah .i64 (t.add 1)) b3.1 b3.2.1 b3.2.2 else p q r s (ah .i64 (t.add 1)) u v y else some (u,v,y)) w d a (Int.ofNat h) 0 e f g
def Iq(w:Nat)(rec:V->V->V->Z->Z->L->R4):V->V->V->Z->Z->L->R4:=λa b c d e f=>ob (jT w a b c) λg=>ob (wV w 2 e 0 (ah .i64 ((ah .i64 (Int.add 2 (ah .i64 (Int.mul 12 g)))).add 4)) d (ah .i64 (e.add 1)) f) λh=>ob (Hu w a b c e h.1 h.2.1 h.2.2) λi=>ax b λj=>lp (α:=Z->V->Z->Z->Z->Z->V->V->V->L->R4) (λ_ _ _ _ _ _ _ _ _ _=>none) (λu v y z a0 a1 a2 a3 a4 a5 a6=>bif aq a0 z then aG a0 λa7=>aQ 4 a7 y λa8=>ag a8 λa9 b0=>aw .i64 a9 λ_=>ag b0 λb2 b3=>ag b3 λb4 b5=>ag b5 λb6 _=>ob (rec b2 b4 b6 a1 a2 a6) λb8=>u v y z (ah .i64 (a0.add 1)) b8.1 b8.2.1 a3 a4 a5 b8.2.2 else ax a5 λb9=>bif aq 0 (Int.ofNat b9) then ax a5 λc0=>ob (wV w 4 v 0 (Int.ofNat c0) a1 a2 a6) λc1=>some (c1.1,c1.2.1,c1.2.2) else some (a1,a2,a6)) w e b (Int.ofNat j) 0 i.1 i.2.1 a b c i.2.2
def NP(w:Nat):V->V->V->Z->Z->L->R4:=pU (jY (HT.ti ⟨2,⟨[(0,.ptr 0 0),(1,.agg [.v,.v,.v])],[(0,.cells [vI,vI,.gr 1 5] 307),(1,.grow 5 243)],2⟩,1,⟨[(0,.aH [])],[(0,.cells [vI,vI,.gr 1 5] 307),(1,.grow 5 243)],2⟩⟩).ks) (Iq w) w
def zF(w:Nat):Z->V->R2:=λa b=>ob (wU w a b) λc=>bif !c then some (ae 0 [],false) else ob (wV w 1 (-1) 0 8 0 0 []) λd=>ax b λe=>lp (α:=V->Z->Z->Z->Z->L->R2) (λ_ _ _ _ _ _=>none) (λl m n o p q r=>bif aq o n then aG o λs=>aQ 3 s m λt=>ag t λu v=>ag v λy z=>ag z λa0 _=>ob (NP w u y a0 p q r) λa2=>l m n (ah .i64 (o.add 1)) a2.1 a2.2.1 a2.2.2 else bif aq 4294967295 p then some (ae 0 [],false) else some (ae (r.length/5) r,true)) w b (Int.ofNat e) 0 d.1 d.2.1 d.2.2
def sN(w:Nat):Z->V->O Z:=λa b=>ob (zF w a b) λc=>bif !c.2 then some 0 else ax c.1 λd=>aG (ah .i64 ((Int.ofNat d).sub 1)) λe=>aQ 5 e c.1 λf=>ag f λg h=>aw .i64 g λ_=>ag h λj k=>aw .i64 j λ_=>ag k λm n=>aw .i64 m λ_=>ag n λp q=>aw .i64 p λr=>ag q λs _=>aw .i64 s λu=>some (ah .i64 (r.add u))
def wN(w:Nat)(a:V)(b:L)(c:V)(d:Z):O Z:=ax a λe=>bif aq (Int.ofNat (b.length/1)) (Int.ofNat e) then some 1 else ax a λf=>lp (α:=V->V->Z->Z->Z->V->L->O Z) (λ_ _ _ _ _ _ _=>none) (λn o p q r s t u=>bif aq r q then aG r λv=>aQ 3 v p λy=>ag y λz a0=>ag a0 λa1 a2=>ag a2 λa3 _=>aG r λa5=>bif Nat.beq 1 1&&(a5*1).blt u.length then ag (List.drop (0+a5*1) u) λa6 _=>aw .i64 a6 λa8=>ob (NQ w o z a1 a3 a8) λa9=>bif !a9 then some 6 else n o p q (ah .i64 (r.add 1)) s t u else none else ob (sN w s t) λb0=>bif ak b0 0 then some 7 else some 0) w c a (Int.ofNat f) 0 d a b
def MN(w:Nat)(a:V)(b:V)(c:Z):O Z:=ax a λd=>bif ak (Int.ofNat d) 0 then some 1 else lp (α:=V->Z->Z->V->L->O Z) (λ_ _ _ _ _=>none) (λj k l m n o=>bif !aq l 0 then ax n λp=>bif aq (Int.ofNat (o.length/1)) (Int.ofNat p) then bif aK o.length&&(aK ([Value.int .i64 l].length/1)&&[Value.int .i64 l].length.beq ([Value.int .i64 l].length/1*1)) then aG l λq=>aQ 4 q k λr=>ag (List.drop 3 r) λs _=>aw .i64 s λu=>j k u m n (o++[Value.int .i64 l]) else none else wN w n o k m else wN w n o k m) w b 0 c a []
def uK(w:Nat):Z->V->V->O Z:=λa b c=>ob (ri w c) λd=>bif !d then some 1 else bif !ak a 1 then bif !ak a 2 then some 1 else MN w b c a else MN w b c a
def sO(w:Nat):Z->Z->Z->N->N->Z->V->V->Z->L->O (N×N×Z×V×V×Z×L):=λa b c d e f g h i j=>ob (gR w b c f) λk=>aG a λl=>bif d.ble e&&l.ble d then eX 1 k.1 λm n=>bif n.length.beq (m*1)&&((bif e.beq l then 0 else 0+l*1)+m.min (d -l)*1).ble j.length then some (d,e,f,g,h,i,aW (bif e.beq l then 0 else 0+l*1) (List.take (m.min (d -l)*1) n) j) else none else none
def uI(w:Nat):N->N->N->L->O L:=λa b c d=>lp (α:=N->N->N->Z->Z->L->O L) (λ_ _ _ _ _ _=>none) (λk l m n o p q=>bif aq o p then aG p λr=>bif r.blt m then ag (List.drop (l+r*1) q) λs _=>aw .u8 s λu=>aG o λv=>bif v.blt m then ag (List.drop (l+v*1) q) λy _=>aw .u8 y λa0=>aG o λa1=>bif a1.blt m then bif(SV.i IntKind.u8 u).cells.length.beq 1&&(l+a1*1+1).ble q.length then aG p λa2=>bif a2.blt m then bif(SV.i IntKind.u8 a0).cells.length.beq 1&&(l+a2*1+1).ble (aW (l+a1*1) [Value.int .u8 u] q).length then k l m n (ah .i64 (o.add 1)) (ah .i64 (p.sub 1)) (aW (l+a2*1) [Value.int .u8 a0] (aW (l+a1*1) [Value.int .u8 u] q)) else none else none else none else none else none else none else some q) w a b c 0 (ah .i64 ((Int.ofNat b).sub 1)) d
def ML(w:Nat)(a:V)(b:Z)(c:Z):R8:=ax a λd=>bif Nat.blt 0 1&&Nat.beq 1 1&&Nat.ble 1 10000&&(d.ble d&&d.ble 1000000000) then eX 1 a λe f=>bif f.length.beq (e*1)&&(0+e.min d*1).ble (rep d (Value.int .u8 0).cells.toList,5).1.length then lp (α:=Z->Z->N->N->Z->L->R8) (λ_ _ _ _ _ _=>none) (λm n o p q r s=>bif ak o 1 then bif !aq (Int.ofNat p) (ah .i64 (r.add n)) then aG (ah .i64 (r.add n)) λt=>aG r λu=>bif t.ble q&&u.ble t then ob (uI w (bif q.beq u then 0 else 0+u*1) (t -u) (q -u) s) λv=>m n o p q (ah .i64 (r.add n)) v else none else some (p,q,s) else some (p,q,s)) w b c d d 0 (aW 0 (List.take (e.min d*1) f) (rep d (Value.int .u8 0).cells.toList,5).1) else none else none
def CO(w:Nat):V->Z->Z->R8:=λa b c=>ob (re w b c) λd=>bif !d then bif !ak b 8 then none else ob (re w 1 c) λe=>bif !e then none else ML w a b c else ML w a b c
def Hz(w:Nat):Z->Z->V->Z->R8:=λa b c d=>ob (qi w a b c) λe=>bif !e then none else ob (sP w a) λf=>ob (CO w c f.2.1 d) λg=>some (g.1,g.2.1,g.2.2)
def MS(a:N)(b:V)(c:V->Z->Z->Z->Z->Z->Z->R1)(d:Z)(e:Z)(f:Z)(g:Z)(h:Z)(i:Z):R1:=aQ 1 a b λj=>ag j λk _=>aw .u8 k λm=>c b d e f (ah .i64 ↑(BitVec.ofInt 64 (ah .i64 (g.mul (2^8)))|||BitVec.ofInt 64 (ah .i64 m)).toNat) h (ah .i64 (i.add 1))
def sL(w:Nat):V->Z->Z->Z->R1:=λa b c d=>ob (re w c d) λe=>bif !e then some (0,false) else bif aq b 0 then some (0,false) else ax a λf=>bif aq (ah .i64 ((Int.ofNat f).sub c)) b then some (0,false) else lp (α:=V->Z->Z->Z->Z->Z->Z->R1) (λ_ _ _ _ _ _ _=>none) (λn o p q r s t u=>bif aq u t then bif ak r 1 then aG (ah .i64 ((ah .i64 ((ah .i64 (p.add q)).sub 1)).sub u)) λv=>MS v o n p q r s t u else aG (ah .i64 (p.add u)) λy=>MS y o n p q r s t u else some (s,true)) w a b c d 0 c 0
def Hy(w:Nat):Z->Z->Z->V->Z->O (Z×Z×Z×Z×B):=λa b c d e=>ob (Hz w b c d e) λf=>ob (gR w a 2 e) λg=>bif !g.2 then some (0,0,0,0,false) else bif ak (Int.ofNat f.1) 0 then some (0,0,0,0,false) else bif aq 4 (Int.ofNat f.1) then some (0,0,0,0,false) else aG (ah .i64 (Int.sub 4 (Int.ofNat f.1))) λh=>bif h.ble 1000000000 then bif(rep h (Value.int .u8 0).cells.toList).length.beq (h*1)&&((0+f.1 *1).ble (f.2.2,5).1.length&&Nat.beq 5 5) then bif(f.1 +h).ble f.2.1 then bif(0+f.1 *1+(rep h (Value.int .u8 0).cells.toList).length).ble (f.2.2,5).1.length then ob (sL w (ae (f.1 +h) (List.drop 0 (aW (0+f.1 *1) (rep h (Value.int .u8 0).cells.toList) (f.2.2,5).1))) 0 4 e) λi=>some (a,b,c,i.1,true) else none else bif aK h&&(aK f.1 &&(Builtin.nextslicecap (f.1 +h) f.2.1).ble 5000000000) then ob (sL w (ae ((List.take (f.1 *1) (List.drop 0 (f.2.2,5).1)++rep h (Value.int .u8 0).cells.toList).length/1) (List.take (f.1 *1) (List.drop 0 (f.2.2,5).1)++rep h (Value.int .u8 0).cells.toList)) 0 4 e) λj=>some (a,b,c,j.1,true) else none else none else none
def Oe(_:Nat):Z->Z->Z->Z->Z->Z->Z->Z->O B:=λa b c _ _ f g h=>bif ak a f then bif ak b g then some (ak c h) else some false else some false
def Od(w:Nat):V->Z->Z->Z->O Z:=λa b c d=>ax a λe=>lp (α:=V->L->L->L->Z->Z->O Z) (λ_ _ _ _ _ _=>none) (λl m n o p q r=>bif aq r q then aG r λs=>aQ 5 s m λt=>ag t λu v=>aw .i64 u λy=>ag v λz a0=>aw .i64 z λa1=>ag a0 λa2 a3=>aw .i64 a2 λa4=>ag a3 λa5 a6=>aw .i64 a5 λa7=>ag a6 λa8 _=>aw .i64 a8 λb0=>ag n λb1 b2=>aw .i64 b1 λb3=>om b2 (ag o λb4 b5=>aw .i64 b4 λb6=>om b5 (ag p λb7 b8=>aw .i64 b7 λb9=>om b8 (ob (Oe w y a1 a4 a7 b0 b3 b6 b9) λc0=>bif c0 then some r else l m n o p q (ah .i64 (r.add 1))))) else some (-1)) w a [Value.int .i64 b] [Value.int .i64 c] [Value.int .i64 d] (Int.ofNat e) 0
def uM(w:Nat):Z->Z->Z->N->N->Z->V->V->Z->L->R3:=λa b c d e f g h i j=>ob (Od w g a b c) λk=>aG k λl=>aQ 5 l g λm=>ag (List.drop 3 m) λn _=>aw .i64 n λp=>some (p,d,e,f,g,h,i,j)
def HD(w:Nat):Z->Z->V->Z->O V:=λa b c d=>ob (qi w a b c) λe=>bif !e then some (ae 0 []) else ob (sP w a) λf=>ob (CO w c f.2.1 d) λg=>some (ae g.1 (List.drop 0 g.2.2))
def zL(w:Nat):Z->Z->Z->V->Z->N->N->Z->V->V->Z->L->O (Z×Z×Z×Z×N×N×Z×V×V×Z×L):=λa b c d e f g h i j k l=>ob (Hy w a b c d h) λm=>bif m.2.2.2.2 then some (m.1,m.2.1,m.2.2.1,m.2.2.2.1,f,g,h,i,j,k,l) else ob (uM w 3 e a f g h i j k l) λn=>aG n.1 λo=>bif Nat.ble n.2.1 n.2.2.1 &&o.ble n.2.1 then ob (HD w b c d n.2.2.2.1) λp=>bif Nat.beq n.2.1 n.2.1 then bif Nat.beq n.2.2.1 n.2.2.1 then eX 1 p λq r=>bif r.length.beq (q*1)&&((bif Nat.beq n.2.2.1 o then 0 else 0+o*1)+q.min (n.2.1 -o)*1).ble (n.2.2.2.2.2.2.2,5).1.length then some (a,b,c,n.1,n.2.1,n.2.2.1,n.2.2.2.1,n.2.2.2.2.1,n.2.2.2.2.2.1,n.2.2.2.2.2.2.1,aW (bif Nat.beq n.2.2.1 o then 0 else 0+o*1) (List.take (q.min (n.2.1 -o)*1) r) (n.2.2.2.2.2.2.2,5).1) else none else none else none else none
def CE(_:Nat):L->L->O L:=λa b=>bif Nat.ble 4 a.length then bif aK b.length&&(aK 1&&(List.take 4 (List.drop 0 a)).length.beq 4) then some (b++List.take 4 (List.drop 0 a)) else none else none
def NZ(_:Nat):Z->Z->Z->V->V->V->O B:=λa _ c _ _ _=>some (ak a c)
def NU(w:Nat):V->Z->V->V->V->O Z:=λa b c d e=>ax a λf=>lp (α:=V->L->Z->Z->O Z) (λ_ _ _ _=>none) (λk l m n o=>bif aq o n then aG o λp=>aQ 2 p l λq=>ag q λr s=>aw .i64 r λt=>ag s λu _=>aw .i64 u λy=>ag m λz a0=>aw .i64 z λa1=>ag a0 λa2 a3=>ag a3 λa4 a5=>ag a5 λa6 a7=>om a7 (ob (NZ w t y a1 a2 a4 a6) λa8=>bif a8 then some o else k l m n (ah .i64 (o.add 1))) else some (-1)) w a [Value.int .i64 b,c,d,e] (Int.ofNat f) 0
def uL(_:Nat):Z->Z->O (Z×Z×Z×Z):=λa b=>some (a,4,1,b)
def CF(_:Nat):L->L->O L:=λa b=>bif Nat.ble 8 a.length then bif aK b.length&&(aK 2&&(List.take 8 (List.drop 0 a)).length.beq 8) then some (b++List.take 8 (List.drop 0 a)) else none else none
def Hm(w:Nat):Z->Z->Z->Z->Z->R2:=λa b c d e=>ob (gR w a 2 e) λf=>bif !f.2 then some (ae 0 [],false) else eX 1 f.1 λg h=>bif aK g&&h.length.beq (g*1) then ob (gR w b 2 e) λi=>bif !i.2 then some (ae 0 [],false) else eX 1 i.1 λj k=>bif aK h.length&&(aK j&&k.length.beq (j*1)) then ob (gR w c 4 e) λl=>bif !l.2 then some (ae 0 [],false) else eX 1 l.1 λm n=>bif aK (h++k).length&&(aK m&&n.length.beq (m*1)) then ob (gR w d 4 e) λo=>bif !o.2 then some (ae 0 [],false) else eX 1 o.1 λp q=>bif aK (h++k++n).length&&(aK p&&q.length.beq (p*1)) then some (ae ((h++k++n++q).length/1) (h++k++n++q),true) else none else none else none else none
def Ck(w:Nat)(a:Z×N×N×Z×V×V×Z×L)(b:L):R3:=ob (sO w a.1 (Int.ofNat (b.length/4)) 2 a.2.1 a.2.2.1 a.2.2.2.1 a.2.2.2.2.1 a.2.2.2.2.2.1 a.2.2.2.2.2.2.1 a.2.2.2.2.2.2.2) λc=>lp (α:=Z->Z->Z->N->N->Z->V->V->Z->L->L->R3) (λ_ _ _ _ _ _ _ _ _ _ _=>none) (λo p q r s t u v y z a0 a1=>bif aq r q then aG r λa2=>bif Nat.beq 4 4&&(a2*4).blt a0.length then ag (List.drop (0+a2*4) a0) λa3 a4=>aw .i64 a3 λa5=>ag a4 λa6 a7=>aw .i64 a6 λa8=>ag a7 λa9 b0=>aw .i64 a9 λb1=>ag b0 λb2 _=>aw .i64 b2 λb4=>ob (Hm w a5 a8 b1 b4 u) λb5=>aG (ah .i64 ((ah .i64 (p.add 2)).add (ah .i64 (Int.mul 12 r)))) λb6=>bif s.ble t&&b6.ble s then eX 1 b5.1 λb7 b8=>bif b8.length.beq (b7*1)&&((bif t.beq b6 then 0 else 0+b6*1)+b7.min (s -b6)*1).ble a1.length then o p q (ah .i64 (r.add 1)) s t u v y z a0 (aW (bif t.beq b6 then 0 else 0+b6*1) (List.take (b7.min (s -b6)*1) b8) a1) else none else none else none else some (p,s,t,u,v,y,z,a1)) w a.1 (Int.ofNat (b.length/4)) 0 c.1 c.2.1 c.2.2.1 c.2.2.2.1 c.2.2.2.2.1 c.2.2.2.2.2.1 b c.2.2.2.2.2.2
def Io(w:Nat)(rec:V->V->V->Z->N->N->Z->V->V->Z->L->R3):V->V->V->Z->N->N->Z->V->V->Z->L->R3:=λa b c d e f g h i j k=>aG d λl=>aQ 4 l i λm=>ag m λn o=>ag o λp q=>aw .i64 p λr=>ag q λs t=>aw .i64 s λu=>ag t λv _=>aw .i64 v λz=>ax a λa0=>lp (α:=Z->V->Z->Z->N->N->Z->V->V->Z->V->V->V->V->Z->Z->Z->L->L->R3) (λ_ _ _ _ _ _ _ _ _ _ _ _ _ _ _ _ _ _ _=>none) (λc0 c1 c2 c3 c4 c5 c6 c7 c8 c9 d0 d1 d2 d3 d4 d5 d6 d7 d8 d9=>bif aq c4 c3 then aG c4 λe0=>aQ 4 e0 c2 λe1=>ag e1 λe2 e3=>aw .i64 e2 λe4=>ag e3 λe5 e6=>aw .i64 e5 λe7=>ag e6 λe8 e9=>aw .i64 e8 λf0=>ag e9 λf1 _=>ob (zL w e4 e7 f0 f1 c1 c5 c6 c7 c8 c9 d0 d8) λf3=>ob (CE w [Value.int .i64 f3.1,Value.int .i64 f3.2.1,Value.int .i64 f3.2.2.1,Value.int .i64 f3.2.2.2.1] d9) λf4=>c0 c1 c2 c3 (ah .i64 (c4.add 1)) f3.2.2.2.2.1 f3.2.2.2.2.2.1 f3.2.2.2.2.2.2.1 f3.2.2.2.2.2.2.2.1 f3.2.2.2.2.2.2.2.2.1 f3.2.2.2.2.2.2.2.2.2.1 d1 d2 d3 d4 d5 d6 d7 f3.2.2.2.2.2.2.2.2.2.2 f4 else ax d2 λf5=>lp (α:=Z->V->Z->Z->N->N->Z->V->V->Z->V->V->V->V->Z->Z->Z->L->L->R3) (λ_ _ _ _ _ _ _ _ _ _ _ _ _ _ _ _ _ _ _=>none) (λh5 h6 h7 h8 h9 i0 i1 i2 i3 i4 i5 i6 i7 i8 i9 j0 j1 j2 j3 j4=>bif aq h9 h8 then aG h9 λj5=>aQ 4 j5 h7 λj6=>ag j6 λj7 j8=>aw .i64 j7 λj9=>ag j8 λk0 k1=>ag k1 λk2 k3=>ag k3 λk4 _=>ob (NU w i9 j9 k0 k2 k4) λk6=>aG k6 λk7=>aQ 2 k7 i9 λk8=>ag (List.drop 1 k8) λk9 _=>aw .i64 k9 λl1=>ob (rec k0 k2 k4 l1 i0 i1 i2 i3 i4 i5 j3) λl2=>bif ak j9 j9 then ob (uL w j9 l2.1) λl3=>ob (CE w [Value.int .i64 l3.1,Value.int .i64 l3.2.1,Value.int .i64 l3.2.2.1,Value.int .i64 l3.2.2.2] j4) λl4=>h5 h6 h7 h8 (ah .i64 (h9.add 1)) l2.2.1 l2.2.2.1 l2.2.2.2.1 l2.2.2.2.2.1 l2.2.2.2.2.2.1 l2.2.2.2.2.2.2.1 i6 i7 i8 i9 j0 j1 j2 l2.2.2.2.2.2.2.2 l4 else none else ax i8 λl5=>bif aq 0 (Int.ofNat l5) then ob (uM w 4 h6 0 i0 i1 i2 i3 i4 i5 j3) λl6=>aG l6.1 λl7=>bif Nat.ble l6.2.1 l6.2.2.1 &&l7.ble l6.2.1 then eX 1 i8 λl8 l9=>bif l9.length.beq (l8*1)&&((bif Nat.beq l6.2.2.1 l7 then 0 else 0+l7*1)+l8.min (l6.2.1 -l7)*1).ble (l6.2.2.2.2.2.2.2,5).1.length then ob (uL w j0 l6.1) λm0=>ax i8 λm1=>ob (uL w j1 (Int.ofNat m1)) λm2=>ob (CF w [Value.int .i64 m0.1,Value.int .i64 m0.2.1,Value.int .i64 m0.2.2.1,Value.int .i64 m0.2.2.2,Value.int .i64 m2.1,Value.int .i64 m2.2.1,Value.int .i64 m2.2.2.1,Value.int .i64 m2.2.2.2] j4) λm3=>ob (uN w m3) λm4=>ob (uM w 2 h6 0 l6.2.1 l6.2.2.1 l6.2.2.2.1 l6.2.2.2.2.1 l6.2.2.2.2.2.1 l6.2.2.2.2.2.2.1 (aW (bif Nat.beq l6.2.2.1 l7 then 0 else 0+l7*1) (List.take (l8.min (l6.2.1 -l7)*1) l9) (l6.2.2.2.2.2.2.2,5).1)) λm5=>Ck w m5 m4 else none else none else ob (uN w j4) λm6=>ob (uM w 2 h6 0 i0 i1 i2 i3 i4 i5 j3) λm7=>Ck w m7 m6) w c1 d2 (Int.ofNat f5) 0 c5 c6 c7 c8 c9 d0 d1 d2 d3 d4 d5 d6 d7 d8 d9) w j a (Int.ofNat a0) 0 e f g h i (ah .i64 (j.add 1)) a b c n r u z k []
def G6(w:Nat):V->V->V->Z->N->N->Z->V->V->Z->L->R3:=pU (jY (HT.ti ⟨3,⟨[(0,.ptr 0 0),(1,.agg [.v,.v,.v]),(2,vI)],[(0,.cells [.sl 1 0,vI,.v,.v,vI] 249),(1,.arr 5)],2⟩,1,⟨[(0,vI)],[(0,.cells [.sl 1 0,vI,.v,.v,vI] 249),(1,.arr 5)],2⟩⟩).ks) (Io w) w
def Gq(a:N):=(List.take (Nat.min 2 a*1) (List.map (λ(b:UInt8)=>Value.int .u8 (Int.ofNat b.toNat)) (ByteArray.mk #[77,77]).data.toList))
def MG(w:Nat)(a:V)(b:V)(c:N×N×Z×V×V×Z×L):R0:=ax a λd=>lp (α:=V->Z->Z->V->Z->Z->N->N->Z->V->V->Z->L->R0) (λ_ _ _ _ _ _ _ _ _ _ _ _ _=>none) (λr s t u v y z a0 a1 a2 a3 a4 a5 a6=>bif aq z y then aG z λa7=>aQ 3 a7 v λa8=>ag a8 λa9 b0=>ag b0 λb1 b2=>ag b2 λb3 _=>ob (G6 w a9 b1 b3 t a0 a1 a2 a3 a4 a5 a6) λb5=>ob (sO w u b5.1 4 b5.2.1 b5.2.2.1 b5.2.2.2.1 b5.2.2.2.2.1 b5.2.2.2.2.2.1 b5.2.2.2.2.2.2.1 b5.2.2.2.2.2.2.2) λb6=>ob (jT w a9 b1 b3) λb7=>aG t λb8=>aQ 4 b8 s λb9=>ag (List.drop 3 b9) λc0 _=>aw .i64 c0 λc2=>r s c2 (ah .i64 ((ah .i64 (Int.add b5.1 2)).add (ah .i64 (Int.mul 12 b7)))) v y (ah .i64 (z.add 1)) b6.1 b6.2.1 b6.2.2.1 b6.2.2.2.1 b6.2.2.2.2.1 b6.2.2.2.2.2.1 b6.2.2.2.2.2.2 else some (ae a0 (List.drop 0 a6),0)) w b 0 4 a (Int.ofNat d) 0 c.1 c.2.1 c.2.2.1 c.2.2.2.1 c.2.2.2.2.1 c.2.2.2.2.2.1 c.2.2.2.2.2.2
def Cu(w:Nat):Z->V->V->R0:=λa b c=>ob (uK w a b c) λd=>bif !ak d 0 then some (ae 0 [],d) else ob (sN w a b) λe=>aG e λf=>aG e λg=>bif Nat.blt 0 1&&Nat.beq 1 1&&Nat.ble 1 10000&&(f.ble g&&g.ble 1000000000) then ob (zF w a b) λh=>bif Nat.beq 2 2&&(0+Nat.min 2 f*1).ble (rep g (Value.int .u8 0).cells.toList,5).1.length then bif ak a 1 then bif Nat.beq 2 2&&(0+Nat.min 2 f*1).ble (aW 0 (Gq f) (rep g (Value.int .u8 0).cells.toList,5).1,5).1.length then ob (sO w 2 42 2 f g a h.1 c 0 (aW 0 (List.take (Nat.min 2 f*1) (List.map (λ(b:UInt8)=>Value.int .u8 (Int.ofNat b.toNat)) (ByteArray.mk #[73,73]).data.toList)) (aW 0 (Gq f) (rep g (Value.int .u8 0).cells.toList,5).1,5).1)) λi=>MG w b c i else none else ob (sO w 2 42 2 f g a h.1 c 0 (aW 0 (Gq f) (rep g (Value.int .u8 0).cells.toList,5).1)) λj=>MG w b c j else none else none
def wP(w:Nat):Z->V->V->R0:=sa (Cu w)
def OD(_:Nat):Z->V->V->V->V->V->V->V->O (Z×V×Z×V×Z×V×Z×V×Z×V):=λ_ b c d e f _ _=>some (0,b,2,c,3,d,4,e,1,f)
def Ny(_:Nat):O V:=some (zi [(0,256,[3,4],1),(0,257,[3,4],1),(0,259,[3],1),(0,274,[3],1),(0,296,[3],1),(0,531,[3],1),(0,270,[2],0),(0,271,[2],0),(0,272,[2],0),(0,305,[2],0),(0,315,[2],0),(0,33432,[2],0),(0,306,[2],20),(0,282,[5],1),(0,283,[5],1),(1,256,[3,4],1),(1,257,[3,4],1),(1,259,[3],1),(1,274,[3],1),(1,296,[3],1),(1,531,[3],1),(1,270,[2],0),(1,271,[2],0),(1,272,[2],0),(1,305,[2],0),(1,315,[2],0),(1,33432,[2],0),(1,306,[2],20),(1,282,[5],1),(1,283,[5],1),(2,33434,[5],1),(2,33437,[5],1),(2,37378,[5],1),(2,37386,[5],1),(2,34850,[3],1),(2,37383,[3],1),(2,37384,[3],1),(2,37385,[3],1),(2,40961,[3],1),(2,41986,[3],1),(2,36864,[7],4),(2,37121,[7],4),(2,40960,[7],4),(2,37377,[10],1),(2,37380,[10],1),(2,36867,[2],20),(2,36868,[2],20),(2,40962,[3,4],1),(2,40963,[3,4],1),(2,34855,[3],0),(2,37510,[7],0),(2,37520,[2],0),(2,41728,[7],1),(2,42016,[2],33),(2,42034,[5],4),(3,0,[1],4),(3,5,[1],1),(3,6,[5],1),(3,1,[2],2),(3,3,[2],2),(3,2,[5],3),(3,4,[5],3),(3,7,[5],3),(3,18,[2],0),(3,29,[2],11),(4,1,[2],4),(4,2,[7],4),(5,45056,[7],4),(5,45313,[4],1),(5,45569,[4],1),(5,45570,[4],1),(5,45572,[5],1),(5,45574,[5],1),(5,45573,[10],1),(5,45576,[10],1)])
def Oh(w:Nat):V->Z->Z->O Z:=λa b c=>ax a λd=>lp (α:=V->Z->Z->Z->Z->O Z) (λ_ _ _ _ _=>none) (λj k l m n o=>bif aq m l then aG m λp=>aQ 2 p k λq=>ag q λr s=>aw .i64 r λt=>ag s λu _=>aw .i64 u λy=>bif bif ak n t then bif ak o y then true else false else false then some m else j k l (ah .i64 (m.add 1)) n o else some (-1)) w a (Int.ofNat d) 0 b c
def N5(w:Nat):V->Z->Z->O B:=λa b c=>ob (Oh w a b c) λd=>some !aq d 0
def Hd(w:Nat):Z->Z->O B:=λa b=>ob (N5 w (ae 8 (List.drop 0 [Value.int .i64 0,Value.int .i64 34665,Value.int .i64 0,Value.int .i64 34853,Value.int .i64 1,Value.int .i64 513,Value.int .i64 1,Value.int .i64 514,Value.int .i64 2,Value.int .i64 37500,Value.int .i64 2,Value.int .i64 40965,Value.int .i64 5,Value.int .i64 45057,Value.int .i64 5,Value.int .i64 45058])) a b) λc=>some c
def N6(w:Nat):V->Z->O Z:=λa b=>ax a λc=>lp (α:=V->Z->Z->Z->O Z) (λ_ _ _ _=>none) (λh i j k l=>bif aq l k then aG l λm=>aQ 1 m i λn=>ag n λo _=>aw .i64 o λq=>bif ak j q then some l else h i j k (ah .i64 (l.add 1)) else some (-1)) w a b (Int.ofNat c) 0
def He(w:Nat):V->Z->O B:=λa b=>ob (N6 w a b) λc=>some !aq c 0
def Cy(w:Nat):V->Z->Z->Z->Z->V->O B:=λa b c d e f=>bif aq b 0 then some false else bif !aq b 6 then some false else bif aq c 0 then some false else bif aq 65535 c then some false else ob (Hd w b c) λg=>bif g then some false else ob (qi w d e f) λh=>bif !h then some false else BI qj.T 292 a (Value.agg (Array.mk [Value.int .i64 b,Value.int .i64 c])) #[Value.slice none 0 0,Value.int .i64 0].toList λi j=>ag j λk l=>ag l λm _=>aw .i64 m λo=>bif j.length.beq [SV.v k,SV.i IntKind.i64 o].length then bif !i then some true else ob (He w k d) λp=>bif p then bif ak o 0 then some true else some (ak o e) else some false else none
def o7(w:Nat):Z->V->O B:=λa b=>ob (Ny w) λc=>ax b λd=>lp (α:=Z->V->V->V->Z->Z->O B) (λ_ _ _ _ _ _=>none) (λk l m n o p q=>bif aq q p then aG q λr=>aQ 4 r o λs=>ag s λt u=>aw .i64 t λv=>ag u λy z=>aw .i64 y λa0=>ag z λa1 a2=>aw .i64 a1 λa3=>ag a2 λa4 _=>bif aq 0 q then aG (ah .i64 (q.sub 1)) λa6=>aQ 4 a6 m λa7=>ag (List.drop 0 a7) λa8 _=>aw .i64 a8 λb0=>bif !aq b0 v then some false else ob (Cy w n l v a0 a3 a4) λb1=>bif !b1 then some false else k l m n o p (ah .i64 (q.add 1)) else ob (Cy w n l v a0 a3 a4) λb2=>bif !b2 then some false else k l m n o p (ah .i64 (q.add 1)) else bif !aq l 0 then some (aq l 6) else some false) w a b c b (Int.ofNat d) 0
def Hk(w:Nat):V->O Z:=λa=>ax a λb=>bif aq (Int.ofNat b) 1 then none else aQ 1 0 a λc=>ag c λd _=>aw .i64 d λf=>lp (α:=V->Z->Z->O Z) (λ_ _ _=>none) (λj k l m=>ax k λn=>bif aq m (Int.ofNat n) then aG m λo=>aQ 1 o k λp=>ag p λq _=>aw .i64 q λs=>j k (bif bif true then aq l s else aq s l then s else l) (ah .i64 (m.add 1)) else some l) w a f 1
def zC(w:Nat):V->O B:=λa=>ob (Hk w a) λb=>some (aq 0 b)
def MJ(w:Nat)(a:Z)(b:V)(c:V)(d:V)(e:V)(f:V)(g:V)(h:V):O Z:=ob (OD w a b c d e f g h) λi=>ob (o7 w i.1 i.2.1) λj=>bif !j then some 6 else ob (o7 w i.2.2.1 i.2.2.2.1) λk=>bif !k then some 6 else ob (o7 w i.2.2.2.2.1 i.2.2.2.2.2.1) λl=>bif !l then some 6 else ob (o7 w i.2.2.2.2.2.2.1 i.2.2.2.2.2.2.2.1) λm=>bif !m then some 6 else ob (o7 w i.2.2.2.2.2.2.2.2.1 i.2.2.2.2.2.2.2.2.2) λn=>bif !n then some 6 else ax g λo=>bif aq 65536 (Int.ofNat o) then some 6 else ax b λp=>ax c λq=>ax d λr=>ax e λs=>ax g λt=>ob (zC w (ae 5 (List.drop 0 [Value.int .i64 (Int.ofNat p),Value.int .i64 (Int.ofNat q),Value.int .i64 (Int.ofNat r),Value.int .i64 (Int.ofNat s),Value.int .i64 (Int.ofNat t)]))) λu=>bif !u then some 6 else some 0
def Cz(w:Nat):Z->V->V->V->V->V->V->V->O Z:=λa b c d e f g h=>bif !ak a 1 then bif !ak a 2 then some 1 else MJ w a b c d e f g h else MJ w a b c d e f g h
def Hj(_:Nat):V->O L:=λa=>ax a λb=>bif Nat.blt 0 b then eX 4 a λc d=>bif d.length.beq (c*4)&&(Nat.ble 0 0&&Nat.beq 73 73) then bif(0+c).ble 0 then bif(0+d.length).ble 0 then none else none else bif aK c&&(aK 0&&(Builtin.nextslicecap (0+c) 0).ble 5000000000) then some (List.take 0 (List.drop 0 [])++d) else none else none else none
def Gm(a:V):O V:=ax a λb=>bif Nat.blt 0 b then eX 1 a λc d=>bif d.length.beq (c*1)&&(Nat.ble 0 0&&Nat.beq 5 5) then bif(0+c).ble 0 then bif(0+d.length).ble 0 then some (ae (0+c) (List.drop 0 (aW 0 d []))) else none else bif aK c&&(aK 0&&(Builtin.nextslicecap (0+c) 0).ble 5000000000) then some (ae ((List.take 0 (List.drop 0 [])++d).length/1) (List.take 0 (List.drop 0 [])++d)) else none else none else none
def Nw(_:Nat):V->O V:=λa=>Gm a
def af5(_:Nat):O V:=some (ae 0 (List.drop 0 (aW 0 [] [])))
def af6(_:Nat):O V:=some (ae 0 [])
def nk(w:Nat):V->O V:=λx=>ax x λn=>bif Nat.beq n 0 then some (ae 0 []) else Nw w x
def NI(w:Nat):V->O V:=λa=>ob (Hj w a) λb=>lp (α:=Z->Z->L->O V) (λ_ _ _=>none) (λf g h i=>bif aq h g then aG h λj=>bif Nat.beq 4 4&&(j*4).blt i.length then ag (List.drop (0+j*4+1+2) i) λk _=>ob (nk w k) λm=>aG h λn=>bif Nat.beq 4 4&&(n*4).blt i.length then bif(SV.v m).cells.length.beq 1&&(0+n*4+1+2+1).ble i.length then f g (ah .i64 (h.add 1)) (aW (0+n*4+1+2) [m] i) else none else none else none else some (ae (i.length/4) i)) w (Int.ofNat (b.length/4)) 0 b
def agy(_:Nat):O V:=some (ae 0 (List.drop 0 (aW 0 [] [])))
def agk(_:Nat):O V:=some (ae 0 (List.drop 0 (aW 0 [] [])))
def agz(_:Nat):O V:=some (ae 0 [])
def agl(_:Nat):O V:=some (ae 0 [])
def lJ(w:Nat):V->O V:=λx=>ax x λn=>bif Nat.beq n 0 then some (ae 0 []) else NI w x
def Hl(w:Nat):V->O (Z×Z×Z×V):=λa=>ax a λb=>ob (nk w a) λc=>some (37500,7,Int.ofNat b,c)
def uJ(w:Nat):Z->Z->V->O (Z×Z×V):=λa b c=>ob (nk w c) λd=>some (a,b,d)
def Ht(_:Nat):Z->O B:=λa=>some !ak a a
def NM(w:Nat):Z->Z->O Z:=λa b=>ob (Ht w a) λc=>ob (Ht w b) λd=>bif c then bif d then some 0 else some (-1) else bif d then some 1 else bif aq a b then some (-1) else bif aq b a then some 1 else some 0
def wT(w:Nat):Z->Z->Z->V->Z->O Z:=λa _ _ _ e=>ob (NM w a e) λf=>some f
def Gs(a:Z)(b:Z):=(ah .i64 ((ah .u64 (ah .i64 (a.add b))).fdiv (2^1)))
def NL(w:Nat):V->Z->R1:=λa b=>ax a λc=>lp (α:=V->Z->Z->Z->Z->R1) (λ_ _ _ _ _=>none) (λi j k l m n=>bif aq m n then aG (Gs m n) λo=>aQ 4 o j λp=>ag p λq r=>aw .i64 q λs=>ag r λt u=>aw .i64 t λv=>ag u λy z=>aw .i64 y λa0=>ag z λa1 _=>ob (wT w s v a0 a1 k) λa3=>bif aq a3 0 then i j k l (ah .i64 ((Gs m n).add 1)) n else i j k l m (Gs m n) else bif aq m l then aG m λa4=>aQ 4 a4 j λa5=>ag a5 λa6 a7=>aw .i64 a6 λa8=>ag a7 λa9 b0=>aw .i64 a9 λb1=>ag b0 λb2 b3=>aw .i64 b2 λb4=>ag b3 λb5 _=>ob (wT w a8 b1 b4 b5 k) λb7=>some (m,ak b7 0) else some (m,false)) w a b (Int.ofNat c) 0 (Int.ofNat c)
def zz(w:Nat):V->Z->R1:=λa b=>ob (NL w a b) λc=>some (c.1,c.2)
def CD(w:Nat):V->Z->Z->Z->V->O V:=zr (uJ w) (zz w)
def MR(w:Nat)(a:V)(b:V):R9:=ax a λc=>bif aq 0 (Int.ofNat c) then ob (lJ w a) λd=>some (b,ae 1 (List.drop 0 [Value.int .i64 40965,d,ae 0 [],ae 0 []]),ae 0 []) else some (b,ae 0 [],ae 0 [])
def G5(w:Nat):Z->V->V->V->V->V->V->V->R9:=λ_ _ c _ e _ g _=>ob (lJ w c) λi=>ax g λj=>bif aq 0 (Int.ofNat j) then ob (Hl w g) λk=>ob (CD w i k.1 k.2.1 k.2.2.1 k.2.2.2) λl=>MR w e l else MR w e i
def t8:ByteArray:=⟨⟨List.replicate 1 0++List.replicate 1 1++List.replicate 2 2++List.replicate 4 3++List.replicate 8 4++List.replicate 16 5++List.replicate 32 6++List.replicate 64 7++List.replicate 128 8⟩⟩
def V5(_:Nat):Z->O Z:=λa=>bif !aq a 4294967296 then bif !aq (a.fdiv (2^32)) 65536 then bif !aq ((a.fdiv (2^32)).fdiv (2^16)) 256 then aG (ah .u8 (((a.fdiv (2^32)).fdiv (2^16)).fdiv (2^8))) λb=>ob (rp t8 b) λc=>some (ah .i64 ((ah .i64 ((ah .i64 (Int.add 32 16)).add 8)).add (ah .i64 (Int.ofNat c.toNat)))) else aG (ah .u8 ((a.fdiv (2^32)).fdiv (2^16))) λd=>ob (rp t8 d) λe=>some (ah .i64 ((ah .i64 (Int.add 32 16)).add (ah .i64 (Int.ofNat e.toNat)))) else bif !aq (a.fdiv (2^32)) 256 then aG (ah .u8 ((a.fdiv (2^32)).fdiv (2^8))) λf=>ob (rp t8 f) λg=>some (ah .i64 ((ah .i64 (Int.add 32 8)).add (ah .i64 (Int.ofNat g.toNat)))) else aG (ah .u8 (a.fdiv (2^32))) λh=>ob (rp t8 h) λi=>some (ah .i64 (Int.add 32 (ah .i64 (Int.ofNat i.toNat)))) else bif !aq a 65536 then bif !aq (a.fdiv (2^16)) 256 then aG (ah .u8 ((a.fdiv (2^16)).fdiv (2^8))) λj=>ob (rp t8 j) λk=>some (ah .i64 ((ah .i64 ((ah .i64 (Int.add 0 16)).add 8)).add (ah .i64 (Int.ofNat k.toNat)))) else aG (ah .u8 (a.fdiv (2^16))) λl=>ob (rp t8 l) λm=>some (ah .i64 ((ah .i64 (Int.add 0 16)).add (ah .i64 (Int.ofNat m.toNat)))) else bif !aq a 256 then aG (ah .u8 (a.fdiv (2^8))) λn=>ob (rp t8 n) λo=>some (ah .i64 ((ah .i64 (Int.add 0 8)).add (ah .i64 (Int.ofNat o.toNat)))) else aG (ah .u8 a) λp=>ob (rp t8 p) λq=>some (ah .i64 (Int.add 0 (ah .i64 (Int.ofNat q.toNat))))
def V1(w:Nat):Z->O Z:=λa=>ob (V5 w a) λb=>some b
def VW(_:Nat):Z->V->V->V->Z->V->V->V->O Z:=λa _ _ _ e _ _ _=>some (ah .i64 (a.sub e))
def V4(w:Nat):V->Z->Z->O Unit:=λa b c=>lp (α:=V->Z->Z->Z->O PUnit) (λ_ _ _ _=>none) (λh i j k l=>bif aq l k then lp (α:=V->Z->Z->Z->Z->O PUnit) (λ_ _ _ _ _=>none) (λ_ s t u v y=>bif aq t y then aG y λz=>aQ 4 z s λa0=>ag a0 λa1 a2=>aw .i64 a1 λa3=>ag a2 λa4 a5=>ag a5 λa6 a7=>ag a7 λa8 _=>aG (ah .i64 (y.sub 1)) λb0=>aQ 4 b0 s λb1=>ag b1 λb2 b3=>aw .i64 b2 λb4=>ag b3 λb5 b6=>ag b6 λb7 b8=>ag b8 λb9 _=>ob (VW w a3 a4 a6 a8 b4 b5 b7 b9) λc1=>bif aq c1 0 then aG (ah .i64 (y.sub 1)) λc2=>aQ 4 c2 s λc3=>ag c3 λc4 c5=>aw .i64 c4 λ_=>ag c5 λ_ c8=>ag c8 λ_ d0=>ag d0 λ_ _=>aG y λd3=>aQ 4 d3 s λd4=>ag d4 λd5 d6=>aw .i64 d5 λ_=>ag d6 λ_ d9=>ag d9 λ_ e1=>ag e1 λ_ _=>aG y λe4=>aQ 4 e4 s λ_=>none else h s t u (ah .i64 (v.add 1)) else h s t u (ah .i64 (v.add 1))) w i j k l l else some ()) w a b c (ah .i64 (b.add 1))
def V0(w:Nat):V->Z->Z->Z->O Unit:=λa b c d=>lp (α:=V->Z->Z->Z->B->B->O PUnit) (λ_ _ _ _ _ _=>none) (λ_ l m n o p _=>bif !aq 12 (ah .i64 (n.sub m)) then ob (V4 w l m n) λ_=>some () else bif ak o 0 then none else bif !p then none else none) w a b c d true true
def o8(w:Nat):V->O Unit:=λa=>ax a λb=>ob (V1 w (ah .u64 (Int.ofNat b))) λc=>ob (V0 w a 0 (Int.ofNat b) c) λ_=>some ()
def Ce(w:Nat)(a:N)(b:N):=(zC w (ae 2 (List.drop 0 [Value.int .i64 (Int.ofNat a),Value.int .i64 (Int.ofNat b)])))
def qe(a:V×V×V)(b:V):=(List.take 4 (List.drop 0 [Value.int .i64 34665,a.1,a.2.1,a.2.2])++List.take 4 (List.drop 0 [Value.int .i64 34853,b,ae 0 [],ae 0 []]))
def qf(a:V×V×V):=(List.take 4 (List.drop 0 [Value.int .i64 34665,a.1,a.2.1,a.2.2]))
def qg(a:V):=(List.take 4 (List.drop 0 [Value.int .i64 34853,a,ae 0 [],ae 0 []]))
def Ct(w:Nat):Z->V->V->V->V->V->V->V->O (Z×V×Z):=λa b c d e f g h=>ob (Cz w a b c d e f g h) λi=>bif !ak i 0 then some (0,ae 0 [],i) else ob (lJ w b) λj=>ax c λk=>ax e λl=>ax g λm=>ob (zC w (ae 3 (List.drop 0 [Value.int .i64 (Int.ofNat k),Value.int .i64 (Int.ofNat l),Value.int .i64 (Int.ofNat m)]))) λn=>bif n then ob (G5 w a b c d e f g h) λo=>ax d λp=>bif aq 0 (Int.ofNat p) then ob (lJ w d) λq=>ax f λr=>ax h λs=>ob (Ce w r s) λt=>bif t then ob (lJ w f) λu=>ob (nk w h) λv=>ob (o8 w (ae ((qe o q).length/4) (qe o q))) λ_=>some (a,ae ((List.take 3 (List.drop 0 [j,ae ((qe o q).length/4) (qe o q),ae 0 []])++List.take 3 (List.drop 0 [u,ae 0 [],v])).length/3) (List.take 3 (List.drop 0 [j,ae ((qe o q).length/4) (qe o q),ae 0 []])++List.take 3 (List.drop 0 [u,ae 0 [],v])),0) else ob (o8 w (ae ((qe o q).length/4) (qe o q))) λ_=>some (a,ae 1 [j,ae ((qe o q).length/4) (qe o q),ae 0 []],0) else ax f λa0=>ax h λa1=>ob (Ce w a0 a1) λa2=>bif a2 then ob (lJ w f) λa3=>ob (nk w h) λa4=>ob (o8 w (ae ((qf o).length/4) (qf o))) λ_=>some (a,ae ((List.take 3 (List.drop 0 [j,ae ((qf o).length/4) (qf o),ae 0 []])++List.take 3 (List.drop 0 [a3,ae 0 [],a4])).length/3) (List.take 3 (List.drop 0 [j,ae ((qf o).length/4) (qf o),ae 0 []])++List.take 3 (List.drop 0 [a3,ae 0 [],a4])),0) else ob (o8 w (ae ((qf o).length/4) (qf o))) λ_=>some (a,ae 1 [j,ae ((qf o).length/4) (qf o),ae 0 []],0) else ax d λa7=>bif aq 0 (Int.ofNat a7) then ob (lJ w d) λa8=>ax f λa9=>ax h λb0=>ob (Ce w a9 b0) λb1=>bif b1 then ob (lJ w f) λb2=>ob (nk w h) λb3=>ob (o8 w (ae ((qg a8).length/4) (qg a8))) λ_=>some (a,ae ((List.take 3 (List.drop 0 [j,ae ((qg a8).length/4) (qg a8),ae 0 []])++List.take 3 (List.drop 0 [b2,ae 0 [],b3])).length/3) (List.take 3 (List.drop 0 [j,ae ((qg a8).length/4) (qg a8),ae 0 []])++List.take 3 (List.drop 0 [b2,ae 0 [],b3])),0) else ob (o8 w (ae ((qg a8).length/4) (qg a8))) λ_=>some (a,ae 1 [j,ae ((qg a8).length/4) (qg a8),ae 0 []],0) else ax f λb6=>ax h λb7=>ob (Ce w b6 b7) λb8=>bif b8 then ob (lJ w f) λb9=>ob (nk w h) λc0=>ob (o8 w (ae 0 [])) λ_=>some (a,ae ((List.take 3 (List.drop 0 [j,ae 0 [],ae 0 []])++List.take 3 (List.drop 0 [b9,ae 0 [],c0])).length/3) (List.take 3 (List.drop 0 [j,ae 0 [],ae 0 []])++List.take 3 (List.drop 0 [b9,ae 0 [],c0])),0) else ob (o8 w (ae 0 [])) λ_=>some (a,ae 1 (List.drop 0 [j,ae 0 [],ae 0 []]),0)
def Cv(_:Nat):O V:=some (ae 5 [ae 2 (List.drop 0 [Value.int .i64 34665,Value.int .i64 2,Value.int .i64 34853,Value.int .i64 3]),Value.int .i64 0,Value.int .i64 0,Value.int .i64 1,ae 0 [],Value.int .i64 513,Value.int .i64 514,Value.int .i64 (-1),ae 1 (List.drop 0 [Value.int .i64 40965,Value.int .i64 4]),Value.int .i64 0,Value.int .i64 0,Value.int .i64 (-1),ae 0 [],Value.int .i64 0,Value.int .i64 0,Value.int .i64 (-1),ae 0 [],Value.int .i64 0,Value.int .i64 0,Value.int .i64 (-1)])
def Ii(w:Nat):Z->V->V->V->V->V->V->V->R0:=λa b c d e f g h=>ob (Ct w a b c d e f g h) λi=>bif !ak i.2.2 0 then some (ae 0 [],i.2.2) else ob (Cv w) λj=>ob (Cu w i.1 i.2.1 j) λk=>some (k.1,k.2)
def Ih(w:Nat):Z->V->V->V->V->V->V->V->O (Z×Z):=λa b c d e f g h=>ob (Ct w a b c d e f g h) λi=>bif !ak i.2.2 0 then some (0,i.2.2) else ob (sN w i.1 i.2.1) λj=>some (ah .i64 (Int.sub 65527 j),0)
def CH(w:Nat):Z->V->V->V->V->V->V->V->R0:=AO (Ih w) (Ii w)
def GF(w:Nat):V->Z->R5:=λa b=>ob (zz w a b) λc=>bif !c.2 then some (0,0,ae 0 [],false) else aG c.1 λd=>aQ 4 d a λe=>ag (List.drop 1 e) λf g=>aw .i64 f λh=>ag g λi j=>aw .i64 i λk=>ag j λl _=>ob (uJ w h k l) λn=>some (n.1,n.2.1,n.2.2,true)
def zM(w:Nat):V->Z->O V:=yi (uJ w) (zz w)
abbrev Dx:=Value->Int->Int->Int->Value->Value->Value->Value->Value->Value->Value->Option (Bool×Int×Value×Value×Value×Value×Value×Value×Value)
abbrev Du:=Value->Int->Int->Int->Value->Value->Value->Value->Value->Value->Value->Int->Value->Value->Value->Value->Value->Value->Value->Option (Int×Value×Value×Value×Value×Value×Value×Value×Int)
abbrev Dt:=Value->Int->Int->Int->Value->Int->Value->Value->Value->Value->Value->Value->Value->Int->Value->Value->Value->Value->Value->Value->Value->Option (Int×Value×Value×Value×Value×Value×Value×Value×Int)
def Cg(w:Nat)(a:Z)(b:Z)(c:V)(d:V->Z->Z->Z->V->V->V->V->V->V->V->Dy)(e:Z)(f:V)(g:V)(h:V)(i:V)(j:V)(k:V)(l:V):Dy:=bif aq a b then aG a λm=>aQ 4 m c λn=>ag n λo p=>aw .i64 o λ_=>ag p λr s=>ag s λ_ u=>ag u λ_ _=>ob (lJ w r) λz=>d c b (ah .i64 (a.add 1)) e f g h z i j k else some (true,e,f,g,h,l,i,j,k)
def FA(w:Nat):Dx->Dx:=(λa b c d e f g h i j k l=>Cg w d c b a e f g h j k l i)
def Um:Dx:=(λ_ _ _ _ _ _ _ _ _ _ _=>none)
def Ha(w:Nat):V->V->V->Z->V->V->V->V->V->V->V->Dy:=λa b _ d e f g h i j k=>ob (GF w a 37500) λl=>bif l.2.2.2 then bif !ak l.1 7 then some (false,d,e,f,g,h,i,j,k) else ob (zM w a 37500) λm=>tV l.2.2.1 l.2.2.1 (ax b λn=>lp Um (FA w) w b (Int.ofNat n) 0 d e m g h i l.2.2.1 k) else ob (zM w a 37500) λo=>tV l.2.2.1 l.2.2.1 (ax b λp=>lp (α:=V->Z->Z->Z->V->V->V->V->V->V->V->Dy) (λ_ _ _ _ _ _ _ _ _ _ _=>none) (λa3 a4 a5 a6 a7 a8 a9 b0 b1 b2 b3 b4=>Cg w a6 a5 a4 a3 a7 a8 a9 b0 b2 b3 b4 b1) w b (Int.ofNat p) 0 d e o g h i l.2.2.1 k)
def Fa(w:Nat):Du->Du:=(λa b c d e f g h i j k l m n o p q r s t=>bif aq d c then aG d λu=>aQ 3 u b λv=>ag v λy z=>ag z λ_ a1=>ag a1 λa2 _=>ob (lJ w y) λa4=>ob (nk w a2) λa5=>a b c (ah .i64 (d.add 1)) e f g h i j k l m n o p q a4 s a5 else ob (Cz w m n o p q r s t) λa6=>bif !ak a6 0 then some (0,ae 0 [],ae 0 [],ae 0 [],ae 0 [],ae 0 [],ae 0 [],ae 0 [],6) else some (m,n,o,p,q,r,s,t,0))
def Tf:Du:=(λ_ _ _ _ _ _ _ _ _ _ _ _ _ _ _ _ _ _ _=>none)
def E9(w:Nat):Dt->Dt:=(λa b c d e f g h i j k l m n o p q r s t u v=>bif aq d c then aG d λy=>aQ 4 y b λz=>ag z λa0 a1=>aw .i64 a0 λa2=>ag a1 λa3 a4=>ag a4 λa5 a6=>ag a6 λa7 _=>bif ak a2 34853 then ob (lJ w a3) λa9=>a b c (ah .i64 (d.add 1)) e f g h i j k l m n o p q a9 s t u v else ob (Ha w a3 a5 a7 o p q r s t u v) λb0=>bif !b0.1 then some (0,ae 0 [],ae 0 [],ae 0 [],ae 0 [],ae 0 [],ae 0 [],ae 0 [],6) else a b c (ah .i64 (d.add 1)) e f g h i j k l m n b0.2.1 b0.2.2.1 b0.2.2.2.1 b0.2.2.2.2.1 b0.2.2.2.2.2.1 b0.2.2.2.2.2.2.1 b0.2.2.2.2.2.2.2.1 b0.2.2.2.2.2.2.2.2 else ax f λb1=>bif b1.ble b1&&Nat.ble 1 b1 then ib 3 1 b1 f λb2=>ax b2 λb3=>lp Tf (Fa w) w b2 (Int.ofNat b3) 0 g h i j k l m n o p q r s t u v else none)
def Te:Dt:=(λ_ _ _ _ _ _ _ _ _ _ _ _ _ _ _ _ _ _ _ _ _=>none)
def GY(w:Nat):Z->V->Dz:=λa b=>ob (Cv w) λc=>ob (uK w a b c) λd=>bif !ak d 0 then some (0,ae 0 [],ae 0 [],ae 0 [],ae 0 [],ae 0 [],ae 0 [],ae 0 [],1) else aQ 3 0 b λe=>ag (List.drop 0 e) λf _=>ob (lJ w f) λh=>aQ 3 0 b λi=>ag (List.drop 1 i) λj _=>ax j λl=>lp Te (E9 w) w j (Int.ofNat l) 0 a b 0 (ae 0 []) (ae 0 []) (ae 0 []) (ae 0 []) (ae 0 []) (ae 0 []) (ae 0 []) a h (ae 0 []) (ae 0 []) (ae 0 []) (ae 0 []) (ae 0 []) (ae 0 [])
def NA(_:Nat):Z->Z->Z->Z->Z->O (Z×Z×Z×Z×Z):=λa b c d e=>some (a,b,c,d,e)
def wS(_:Nat):O (Z×Z×Z×Z×Z):=some (4,4,4,2,2)
def GQ(w:Nat):Z->Z->Z->Z->Z->Z->R2:=λa b c d e f=>ob (NA w a b c d e) λg=>ob (wS w) λh=>ob (gR w g.1 h.1 f) λi=>bif !i.2 then some (ae 0 [],false) else eX 1 i.1 λj k=>bif aK j&&k.length.beq (j*1) then ob (wS w) λl=>ob (gR w g.2.1 l.2.1 f) λm=>bif !m.2 then some (ae 0 [],false) else eX 1 m.1 λn o=>bif aK k.length&&(aK n&&o.length.beq (n*1)) then ob (wS w) λp=>ob (gR w g.2.2.1 p.2.2.1 f) λq=>bif !q.2 then some (ae 0 [],false) else eX 1 q.1 λr s=>bif aK (k++o).length&&(aK r&&s.length.beq (r*1)) then ob (wS w) λt=>ob (gR w g.2.2.2.1 t.2.2.2.1 f) λu=>bif !u.2 then some (ae 0 [],false) else eX 1 u.1 λv y=>bif aK (k++o++s).length&&(aK v&&y.length.beq (v*1)) then ob (wS w) λz=>ob (gR w g.2.2.2.2 z.2.2.2.2 f) λa0=>bif !a0.2 then some (ae 0 [],false) else eX 1 a0.1 λa1 a2=>bif aK (k++o++s++y).length&&(aK a1&&a2.length.beq (a1*1)) then some (ae ((k++o++s++y++a2).length/1) (k++o++s++y++a2),true) else none else none else none else none else none
def V3(w:Nat):Z->Z->R1:=λa b=>ob (re w b 2) λc=>bif !c then some (0,false) else ob (zy w b) λd=>bif aq a (ah .i64 ((ah .i64 (Int.sub 0 d)).tdiv 2)) then some (0,false) else ob (zy w b) λe=>bif !aq a (ah .i64 (e.tdiv 2)) then some (0,false) else bif aq a 0 then ob (zy w b) λf=>some (ah .i64 (a.add f),true) else some (a,true)
def MW(w:Nat)(a:Z)(b:Z):R2:=ob (V3 w a b) λc=>bif !c.2 then some (ae 0 [],false) else ob (gR w c.1 b 2) λd=>some (d.1,d.2)
def G9(w:Nat):Z->Z->Z->Z->R2:=λ_ b c d=>bif ak c 2 then MW w d b else bif ak c 4 then MW w d b else ob (gR w d b 2) λe=>some (e.1,e.2)
def G8(w:Nat):Z->V->Z->Z->Z->O (Z×Z×B×L):=λa b c d e=>ax b λf=>ax b λg=>lp (α:=Z->Z->Z->V->Z->Z->Z->Z->Z->Z->L->L->O (Z×Z×B×L)) (λ_ _ _ _ _ _ _ _ _ _ _ _=>none) (λt u v y z a0 a1 a2 a3 a4 a5 a6 a7=>bif aq a1 a0 then aG a1 λa8=>aQ 1 a8 z λa9=>ag a9 λb0 _=>aw .i64 b0 λb2=>ob (G9 w u v y b2) λb3=>bif !b3.2 then some (0,0,false,[]) else eX 1 b3.1 λb4 b5=>bif aK a7.length&&(aK b4&&b5.length.beq (b4*1)) then t u v y z a0 (ah .i64 (a1.add 1)) a2 a3 a4 a5 a6 (a7++b5) else none else ob (qi w a4 a5 (ae (a7.length/1) a7)) λb6=>bif !b6 then some (0,0,false,[]) else some (a4,a5,true,a7)) w c d e b (Int.ofNat g) 0 0 0 a (Int.ofNat f) [] []
def MT(w:Nat)(a:Z)(b:V)(c:Z×Z×Z):R5:=ob (G8 w a b c.1 c.2.1 c.2.2) λd=>some (d.1,d.2.1,ae (List.length d.2.2.2 /1) d.2.2.2,d.2.2.1)
def GR(w:Nat):Z->V->R5:=λa b=>ob (sP w a) λc=>bif !ak c.2.2 1 then bif !ak c.2.2 2 then some (0,0,ae 0 [],false) else MT w a b c else MT w a b c
def Ib(_:Nat):O V:=some (ae 2 (List.drop 0 [ae 0 [],Value.int .i64 0,Value.int .i64 0,Value.int .i64 1,ae 0 [],Value.int .i64 0,Value.int .i64 0,Value.int .i64 (-1)]))
abbrev IN:=Value->Int->Int->Int->Value->Value->List Value->Option (Value×Int)
def wO:=(List.drop 0 [Value.int .u8 48,Value.int .u8 49,Value.int .u8 48,Value.int .u8 48])
def wL(a:Z×Z×V×B)(b:L)(c:V):=(List.take 3 (List.drop 0 [ae 3 [Value.int .i64 45056,Value.int .i64 7,Value.int .i64 4,ae 4 (wO),Value.int .i64 45057,Value.int .i64 a.1,Value.int .i64 a.2.1,a.2.2.1,Value.int .i64 45058,Value.int .i64 7,Value.int .i64 (Int.ofNat (b.length/1)),ae (b.length/1) b],ae 0 [],ae 0 []])++List.take 3 (List.drop 0 [c,ae 0 [],ae 0 []]))
def wM(w:Nat)(a:Z)(b:Z)(c:V)(d:Z)(e:L)(f:V->Z->Z->Z->V->V->L->R0)(g:V)(h:V):R0:=bif aq a b then aG a λi=>aQ 5 i c λj=>ag j λk l=>aw .i64 k λm=>ag l λn o=>aw .i64 n λp=>ag o λq r=>aw .i64 q λs=>ag r λt u=>aw .i64 t λv=>ag u λy _=>aw .i64 y λa0=>ob (GQ w m p s v a0 d) λa1=>bif !a1.2 then some (ae 0 [],1) else eX 1 a1.1 λa2 a3=>bif aK e.length&&(aK a2&&a3.length.beq (a2*1)) then f c b (ah .i64 (a.add 1)) d g h (e++a3) else none else ob (o7 w 5 h) λa4=>bif !a4 then some (ae 0 [],6) else bif aq 65536 (Int.ofNat (e.length/1)) then some (ae 0 [],7) else ax g λa5=>ob (GR w 4 (ae ([Value.int .i64 (Int.ofNat a5)].length/1) [Value.int .i64 (Int.ofNat a5)])) λa6=>ax h λa7=>bif aq 0 (Int.ofNat a7) then ob (Ib w) λa8=>ob (wP w d (ae ((wL a6 e h).length/3) (wL a6 e h)) a8) λa9=>some (a9.1,a9.2) else ob (Ib w) λb0=>ob (wP w d (ae 1 [ae 3 [Value.int .i64 45056,Value.int .i64 7,Value.int .i64 4,ae 4 (wO),Value.int .i64 45057,Value.int .i64 a6.1,Value.int .i64 a6.2.1,a6.2.2.1,Value.int .i64 45058,Value.int .i64 7,Value.int .i64 (Int.ofNat (e.length/1)),ae (e.length/1) e],ae 0 [],ae 0 []]) b0) λb1=>some (b1.1,b1.2)
def mX(w:Nat):IN->IN:=(λa b c d e f g h=>wM w d c b e h a f g)
def qQ:IN:=(λ_ _ _ _ _ _ _=>none)
def Ij(w:Nat):Z->V->V->R0:=λa b c=>bif !ak a 1 then bif !ak a 2 then some (ae 0 [],1) else ax b λd=>bif aq (Int.ofNat d) 2 then some (ae 0 [],1) else ax b λe=>lp (α:=V->Z->Z->Z->V->V->L->R0) (λ_ _ _ _ _ _ _=>none) (λm n o p q r s t=>wM w p o n q t m r s) w b (Int.ofNat e) 0 a b c [] else ax b λu=>bif aq (Int.ofNat u) 2 then some (ae 0 [],1) else ax b λv=>lp qQ (mX w) w b (Int.ofNat v) 0 a b c []
def GS(_:Nat):O V:=some (ae 1 (List.drop 0 [ae 0 [],Value.int .i64 0,Value.int .i64 0,Value.int .i64 (-1)]))
def MQ(w:Nat)(a:V)(b:Z):R0:=ax a λc=>bif ak (Int.ofNat c) 0 then some (ae 0 [],1) else ob (o7 w 5 a) λd=>bif !d then some (ae 0 [],6) else ob (GS w) λe=>ob (wP w b (ae 1 (List.drop 0 [a,ae 0 [],ae 0 []])) e) λf=>some (f.1,f.2)
def Ik(w:Nat):Z->V->R0:=λa b=>bif !ak a 1 then bif !ak a 2 then some (ae 0 [],1) else MQ w b a else MQ w b a
abbrev DF:=Value->Int->Int->Int->Value->List Value->Option (Value×Int)
abbrev IP:=Value->Int->Int->Value->List Value->Option (Int×Value×List Value)
abbrev IV:=Int->Int->List Value->List Value->Option (Int×List Value×List Value)
def Gu(a:Z)(b:Z)(c:Z):=(List.drop 0 [Value.int .i64 a,Value.int .i64 0,Value.int .i64 0,Value.int .i64 b,Value.int .i64 c])
def Gi(w:Nat):DF->DF:=(λa b c d e f g=>bif aq d c then aG d λh=>aQ 14 h b λi=>ag i λj k=>aw .i64 j λ_=>ag k λ_ n=>ag n λ_ p=>ag p λ_ r=>ag r λ_ t=>ag t λ_ v=>ag v λ_ z=>ag z λ_ a1=>ag a1 λ_ a3=>ag a3 λ_ a5=>ag a5 λa6 a7=>aw .i64 a6 λa8=>ag a7 λa9 b0=>aw .i64 a9 λb1=>ag b0 λb2 b3=>aw .i64 b2 λb4=>ag b3 λ_ _=>bif aK g.length&&(aK 1&&(List.take 5 (Gu a8 b1 b4)).length.beq 5) then a b c (ah .i64 (d.add 1)) e f (g++List.take 5 (Gu a8 b1 b4)) else none else ob (Ij w e (ae (g.length/5) g) f) λb7=>some (b7.1,b7.2))
def Vp:DF:=(λ_ _ _ _ _ _=>none)
def MV(w:Nat)(a:Z)(b:V)(c:Z):R0:=bif ak a 0 then some (ae 0 [],0) else ax b λd=>bif ak (Int.ofNat d) 0 then some (ae 0 [],0) else ob (Ik w c b) λe=>some (e.1,e.2)
def HZ(w:Nat):V->Z->R0:=λa b=>aG b λc=>aQ 14 c a λd=>ag d λe f=>aw .i64 e λg=>ag f λ_ i=>ag i λ_ k=>ag k λ_ m=>ag m λ_ o=>ag o λ_ q=>ag q λ_ s=>ag s λ_ u=>ag u λ_ y=>ag y λ_ a0=>ag a0 λa1 a2=>aw .i64 a1 λ_=>ag a2 λa4 a5=>aw .i64 a4 λ_=>ag a5 λa7 a8=>aw .i64 a7 λ_=>ag a8 λb0 _=>bif ak b 0 then ax a λb2=>bif aq 1 (Int.ofNat b2) then ax a λb3=>lp Vp (Gi w) w a (Int.ofNat b3) 0 g b0 [] else MV w b b0 g else MV w b b0 g
def CU(_:Nat):Z->O Z:=λa=>bif aq a 1 then some 0 else some (ah .i64 ((ah .i64 ((ah .i64 (a.sub 1)).tdiv 65519)).add 1))
def CQ(w:Nat):V->R0:=yc (CU w)
def wQ(_:Nat):Z->V->Z->O ((V×Z)⊕(Z×Z×V×Z)):=λa b c=>ax b λd=>bif aq (ah .i64 ((Int.ofNat d).sub c)) a then ax b λe=>some (Sum.inr (Int.ofNat e,3,b,c)) else some (Sum.inl (b,c))
def zw(_:Nat):Z->O B:=λa=>bif ak a 216 then some true else some (ak a 217)
def zH(_:Nat):Z->O B:=λa=>bif !aq a 208 then some (aq a 216) else some false
def Cw(w:Nat):Z->O B:=λa=>bif !aq a 192 then bif aq a 255 then ob (zw w a) λb=>bif !b then ob (zH w a) λc=>some !c else some false else some false else some false
def Gv(a:Z)(b:V×Z):O ((Z×V×Z)⊕(Z×Z×V×Z)):=some (Sum.inl (ah .i64 a,b.1,ah .i64 (Int.add b.2 2)))
def uE(w:Nat):V->Z->O ((Z×V×Z)⊕(Z×Z×V×Z)):=λa b=>ob (wQ w 1 a b) λc=>dk c (λd=>aG d.2 λe=>aQ 1 e d.1 λf=>ag f λg _=>aw .u8 g λi=>bif !ak i 255 then some (Sum.inr (d.2,2,d.1,d.2)) else ob (wQ w 2 d.1 d.2) λj=>dk j (λk=>aG (ah .i64 (Int.add k.2 1)) λl=>aQ 1 l k.1 λm=>ag m λn _=>aw .u8 n λp=>bif !ak k.2 0==ak (ah .i64 p) 216 then some (Sum.inr (k.2,2,k.1,k.2)) else bif !ak (ah .i64 p) 217 then bif !ak k.2 0 then ob (Cw w (ah .i64 p)) λq=>bif !q then some (Sum.inr (k.2,2,k.1,k.2)) else Gv p k else Gv p k else Gv p k) λr=>some (Sum.inr (r.1,r.2.1,r.2.2.1,r.2.2.2))) λs=>some (Sum.inr (s.1,s.2.1,s.2.2.1,s.2.2.2))
def CA(_:Nat):V->O Z:=λa=>ax a λb=>bif aq 0 (Int.ofNat b) then aG (ah .i64 ((Int.ofNat b).sub 1)) λc=>aQ 1 c a λd=>ag d λe _=>aw .u8 e λg=>bif ak g 255 then some 1 else some 0 else some 0
def zx(w:Nat):V->O Z:=λa=>lp (α:=V->Z->O Z) (λ_ _=>none) (λd e f=>ax e λg=>bif aq (ah .i64 (f.add 1)) (Int.ofNat g) then aG f λh=>aQ 1 h e λi=>ag i λj _=>aw .u8 j λl=>bif ak l 255 then aG (ah .i64 (f.add 1)) λm=>aQ 1 m e λn=>ag n λo _=>aw .u8 o λq=>bif !ak q 0 then aG (ah .i64 (f.add 1)) λr=>aQ 1 r e λs=>ag s λt _=>aw .u8 t λv=>ob (zH w (ah .i64 v)) λy=>bif !y then some f else d e (ah .i64 (f.add 1)) else d e (ah .i64 (f.add 1)) else d e (ah .i64 (f.add 1)) else ax e λz=>ob (CA w e) λa0=>some (ah .i64 ((Int.ofNat z).sub a0))) w a 0
def uD(w:Nat):Z->V->Z->O ((Z×V×V×V×Z)⊕(Z×Z×V×Z)):=λa b c=>ob (zw w a) λd=>bif d then some (Sum.inl (a,ae 0 [],ae 0 [],b,c)) else ob (wQ w 2 b c) λe=>dk e (λf=>ob (sL w f.1 f.2 2 2) λg=>bif aq g.1 2 then some (Sum.inr (f.2,2,f.1,f.2)) else ob (wQ w g.1 f.1 f.2) λh=>dk h (λi=>ax i.1 λj=>aG (ah .i64 (Int.add i.2 g.1)) λk=>aG (ah .i64 (Int.add i.2 2)) λl=>bif k.ble j&&l.ble k then ib 1 l k i.1 λm=>ob (nk w m) λn=>bif ak a 218 then ax i.1 λo=>aG (ah .i64 (Int.add i.2 g.1)) λp=>bif o.ble o&&p.ble o then ib 1 p o i.1 λq=>ob (zx w q) λr=>ax i.1 λs=>aG (ah .i64 ((ah .i64 (Int.add i.2 g.1)).add r)) λt=>aG (ah .i64 (Int.add i.2 g.1)) λu=>bif t.ble s&&u.ble t then ib 1 u t i.1 λv=>ob (nk w v) λy=>some (Sum.inl (a,n,y,i.1,ah .i64 ((ah .i64 (Int.add i.2 g.1)).add r))) else none else none else some (Sum.inl (a,n,ae 0 [],i.1,ah .i64 (Int.add i.2 g.1))) else none) λz=>some (Sum.inr (z.1,z.2.1,z.2.2.1,z.2.2.2))) λa0=>some (Sum.inr (a0.1,a0.2.1,a0.2.2.1,a0.2.2.2))
def zn(a:Z×Z×V×Z):R6:=bif ak a.2.1 a.2.1 then bif ak a.1 a.1 then bif ak a.2.1 a.2.1 then bif ak a.1 a.1 then bif ak a.2.1 a.2.1 then some (ae 0 [],0,a.1,a.2.1) else none else none else none else none else none
def sF(w:Nat)(a:V)(b:Z)(c:L)(d:Z->Z->Z->V->Z->L->R6)(e:Z)(f:Z)(g:Z):R6:=ob (uE w a b) λh=>dk h (λi=>ob (uD w i.1 i.2.1 i.2.2) λj=>dk j (λk=>bif aK c.length&&(aK 1&&(List.take 3 (List.drop 0 [Value.int .i64 k.1,k.2.1,k.2.2.1])).length.beq 3) then d e f g k.2.2.2.1 k.2.2.2.2 (c++List.take 3 (List.drop 0 [Value.int .i64 k.1,k.2.1,k.2.2.1])) else none) λl=>zn l) λm=>zn m
def zS(w:Nat):V->R6:=λa=>lp (α:=Z->Z->Z->V->Z->L->R6) (λ_ _ _ _ _ _=>none) (λh i j k l m n=>bif ak (Int.ofNat (n.length/3)) 0 then sF w l m n h i j k else aG (ah .i64 ((Int.ofNat (n.length/3)).sub 1)) λo=>bif Nat.beq 3 3&&(o*3).blt n.length then ag (List.drop (0+o*3+0) n) λp _=>aw .i64 p λr=>bif !ak r 217 then sF w l m n h i j k else bif ak m m then some (ae (n.length/3) n,m,0,0) else none else none) w 0 0 0 a 0 []
def GU(_:Nat):Z->V->V->O B:=λa _ _=>some (ak a 218)
def Ns(w:Nat):V->O Z:=λa=>ax a λb=>lp (α:=V->Z->Z->O Z) (λ_ _ _=>none) (λf g h i=>bif aq i h then aG i λj=>aQ 3 j g λk=>ag k λl m=>aw .i64 l λn=>ag m λo p=>ag p λq _=>ob (GU w n o q) λs=>bif s then some i else f g h (ah .i64 (i.add 1)) else some (-1)) w a (Int.ofNat b) 0
def GA(w:Nat):V->O B:=λa=>ob (Ns w a) λb=>some !aq b 0
def M9(w:Nat):V->R0:=λa=>ob (zS w a) λb=>bif !ak b.2.2.2 0 then some (ae 0 [],b.2.2.2) else ax a λc=>bif aq b.2.1 (Int.ofNat c) then some (ae 0 [],2) else ob (GA w b.1) λd=>bif !d then some (ae 0 [],2) else some (b.1,0)
def Nv(_:Nat):Z->O B:=λa=>bif !aq a 224 then some (aq a 240) else some false
def Cp(w:Nat):Z->V->V->O B:=λa _ _=>ob (Nv w a) λd=>some d
def Nt(w:Nat):V->O Z:=λa=>ax a λb=>lp (α:=V->Z->Z->O Z) (λ_ _ _=>none) (λf g h i=>bif aq i h then aG i λj=>aQ 3 j g λk=>ag k λl m=>aw .i64 l λn=>ag m λo p=>ag p λq _=>ob (Cp w n o q) λs=>bif s then some i else f g h (ah .i64 (i.add 1)) else some (-1)) w a (Int.ofNat b) 0
def GB(w:Nat):V->O B:=λa=>ob (Nt w a) λb=>some !aq b 0
def zR(w:Nat):V->O B:=λa=>ob (M9 w a) λb=>bif ak b.2 0 then ob (GB w b.1) λc=>some !c else some false
def H7(_:Nat):V->V->O B:=λa b=>eX 1 a λ_ d=>ob (iN d) λe=>eX 1 b λ_ g=>ob (iN g) λh=>some (nS (mkStr e).data.toList (mkStr h).data.toList)
def zu(w:Nat):V->V->O B:=λa b=>ax a λc=>ax b λd=>bif !aq (Int.ofNat c) (Int.ofNat d) then ax b λe=>ax a λf=>bif e.ble f&&Nat.ble 0 e then ib 1 0 e a λg=>ob (H7 w g b) λh=>some h else none else some false
def Vs(w:Nat)(a:V):O B:=ob (zu w a (ae 4 (List.drop 0 [Value.int .u8 77,Value.int .u8 80,Value.int .u8 70,Value.int .u8 0]))) λb=>some b
def CR(w:Nat):V->O B:=λa=>Vs w a
def Ci(a:Z)(b:V):=(List.drop 0 [Value.int .i64 a,b,ae 0 []])
def Ou(_:Nat):Z->V->L->O L:=λa b c=>bif(List.take 3 (Ci a b)).length.beq 3&&(Nat.ble 3 c.length&&Nat.beq 96 96) then some (List.take 3 (List.drop 0 c)++List.take 3 (Ci a b)) else none
def zT(_:Nat):Z->V->L->O L:=λa b c=>bif aK c.length&&(aK 1&&(List.take 3 (Ci a b)).length.beq 3) then some (c++List.take 3 (Ci a b)) else none
def Cx(_:Nat):Z->V->V->Z->O B:=λa b c d=>bif ak a d then ax b λe=>ax c λf=>some (ak (ah .i64 ((Int.ofNat e).add (Int.ofNat f))) 0) else some false
def GW(w:Nat):Z->V->V->O B:=λa b c=>ob (Cw w a) λd=>bif d then ax b λe=>bif !aq 65533 (Int.ofNat e) then ax c λf=>bif ak (Int.ofNat f) 0 then some true else bif ak a 218 then ob (zx w c) λg=>ax c λh=>some (ak g (Int.ofNat h)) else some false else some false else some false
def GV(w:Nat):Z->V->V->O B:=λa b c=>ob (GW w a b c) λd=>some !d
def Nu(w:Nat):V->O Z:=λa=>ax a λb=>lp (α:=V->Z->Z->O Z) (λ_ _ _=>none) (λf g h i=>bif aq i h then aG i λj=>aQ 3 j g λk=>ag k λl m=>aw .i64 l λn=>ag m λo p=>ag p λq _=>ob (GV w n o q) λs=>bif s then some i else f g h (ah .i64 (i.add 1)) else some (-1)) w a (Int.ofNat b) 0
def Na(w:Nat):V->O B:=λa=>ob (Nu w a) λb=>some !aq b 0
def GC(w:Nat):V->O B:=λa=>ax a λb=>bif !aq (ah .i64 ((Int.ofNat b).sub 1)) 1 then aQ 3 0 a λc=>ag c λd e=>aw .i64 d λf=>ag e λg h=>ag h λi _=>ob (Cx w f g i 216) λk=>bif k then aG (ah .i64 ((Int.ofNat b).sub 1)) λl=>aQ 3 l a λm=>ag m λn o=>aw .i64 n λp=>ag o λq r=>ag r λs _=>ob (Cx w p q s 217) λu=>bif u then ax a λv=>aG (ah .i64 ((Int.ofNat b).sub 1)) λy=>bif y.ble v&&Nat.ble 1 y then ib 3 1 y a λz=>ob (Na w z) λa0=>some !a0 else none else some false else some false else some false
def wZ(w:Nat):V->R0:=λa=>ob (GC w a) λb=>bif !b then some (ae 0 [],1) else ax a λc=>lp (α:=V->Z->Z->L->R0) (λ_ _ _ _=>none) (λh i j k l=>bif aq k j then aG k λm=>aQ 3 m i λn=>ag n λo p=>aw .i64 o λq=>ag p λr s=>ag s λt _=>bif aK l.length&&(aK 2&&(List.take 2 (List.drop 0 [Value.int .u8 255,Value.int .u8 (ah .u8 q)])).length.beq 2) then ob (zw w q) λv=>bif v then h i j (ah .i64 (k.add 1)) (l++List.take 2 (List.drop 0 [Value.int .u8 255,Value.int .u8 (ah .u8 q)])) else ax r λy=>ob (gR w (ah .i64 ((Int.ofNat y).add 2)) 2 2) λz=>ob (uF w z.1 r t (l++List.take 2 (List.drop 0 [Value.int .u8 255,Value.int .u8 (ah .u8 q)]))) λa0=>h i j (ah .i64 (k.add 1)) a0 else none else some (ae (l.length/1) l,0)) w a (Int.ofNat c) 0 []
def MY(w:Nat)(a:V×Z)(b:V×Z×Z×Z)(c:L):R0:=ax a.1 λd=>lp (α:=V->V->Z->Z->L->R0) (λ_ _ _ _ _=>none) (λj k l m n o=>bif aq n m then aG n λp=>aQ 1 p l λq=>ag q λr _=>ob (zT w 226 r o) λt=>j k l m (ah .i64 (n.add 1)) t else ax k λu=>bif u.ble u&&Nat.ble 1 u then ib 3 1 u k λv=>eX 3 v λy z=>bif aK o.length&&(aK y&&z.length.beq (y*3)) then ob (wZ w (ae ((o++z).length/3) (o++z))) λa0=>some (a0.1,a0.2) else none else none) w b.1 a.1 (Int.ofNat d) 0 c
def MP(w:Nat)(a:V)(b:V)(c:V×Z)(d:V×Z):R0:=ax a λe=>bif aq 65533 (Int.ofNat e) then some (ae 0 [],7) else ob (zS w b) λf=>aQ 3 0 f.1 λg=>ag g λh i=>aw .i64 h λj=>ag i λk l=>ag l λm _=>ob (Ou w 225 c.1 [Value.int .i64 j,k,m]) λo=>ax a λp=>bif aq 0 (Int.ofNat p) then ob (zT w 226 a o) λq=>MY w d f q else MY w d f o
def CB(w:Nat):Z->V->V->V->V->V->V->V->V->V->V->Z->Z->R0:=λa b c d e f g h i j k _ _=>ob (CH w a b c d e f g h) λn=>bif !ak n.2 0 then some (ae 0 [],n.2) else ob (CQ w i) λo=>bif !ak o.2 0 then some (ae 0 [],o.2) else ob (zR w j) λp=>bif !p then some (ae 0 [],2) else ax k λq=>bif aq 0 (Int.ofNat q) then ob (CR w k) λr=>bif !r then some (ae 0 [],1) else MP w k j n o else MP w k j n o
def CS(w:Nat):V->O B:=λa=>ob (zu w a (ae 6 (List.drop 0 [Value.int .u8 69,Value.int .u8 120,Value.int .u8 105,Value.int .u8 102,Value.int .u8 0,Value.int .u8 0]))) λb=>some b
def uB(a:B)(b:V)(c:Z)(d:V)(e:V)(f:V)(g:V)(h:V)(i:V)(j:V)(k:V)(l:V)(m:V)(n:Z)(o:Z):DA:=bif !a then some (ae 0 [],false,b,c,d,e,f,g,h,i,j,k,l,m,n,o) else aQ 3 0 b λp=>ag p λq r=>aw .i64 q λ_=>ag r λt u=>ag u λ_ _=>ax b λz=>bif z.ble z&&Nat.ble 1 z then ib 3 1 z b λa0=>some (t,true,a0,c,d,e,f,g,h,i,j,k,l,m,n,o) else none
def H8(w:Nat):Z->V->Z->V->V->V->V->V->V->V->V->V->V->Z->Z->DA:=λa b c d e f g h i j k l m n o=>ax b λp=>bif ak (Int.ofNat p) 0 then some (ae 0 [],false,b,c,d,e,f,g,h,i,j,k,l,m,n,o) else aQ 3 0 b λq=>ag (List.drop 0 q) λr _=>aw .i64 r λt=>bif !ak t a then some (ae 0 [],false,b,c,d,e,f,g,h,i,j,k,l,m,n,o) else aQ 3 0 b λu=>ag (List.drop 1 u) λv _=>ob (CS w v) λz=>uB z b c d e f g h i j k l m n o
def zU(w:Nat):Z->V->Z->V->V->V->V->V->V->V->V->V->V->Z->Z->DA:=λa b c d e f g h i j k l m n o=>ax b λp=>bif ak (Int.ofNat p) 0 then some (ae 0 [],false,b,c,d,e,f,g,h,i,j,k,l,m,n,o) else aQ 3 0 b λq=>ag (List.drop 0 q) λr _=>aw .i64 r λt=>bif !ak t a then some (ae 0 [],false,b,c,d,e,f,g,h,i,j,k,l,m,n,o) else aQ 3 0 b λu=>ag (List.drop 1 u) λv _=>ob (CR w v) λz=>uB z b c d e f g h i j k l m n o
def Ov(_:Nat):V->O V:=λa=>Gm a
def ahj(_:Nat):O V:=some (ae 0 (List.drop 0 (aW 0 [] [])))
def ahk(_:Nat):O V:=some (ae 0 [])
def H9(w:Nat):V->O V:=λx=>ax x λn=>bif Nat.beq n 0 then some (ae 0 []) else Ov w x
def Cq(w:Nat):V->O B:=λa=>ob (zu w a (ae 12 (List.drop 0 [Value.int .u8 73,Value.int .u8 67,Value.int .u8 67,Value.int .u8 95,Value.int .u8 80,Value.int .u8 82,Value.int .u8 79,Value.int .u8 70,Value.int .u8 73,Value.int .u8 76,Value.int .u8 69,Value.int .u8 0]))) λb=>some b
def uO(w:Nat):Z->V->Z->V->V->V->V->V->V->V->V->V->V->Z->Z->DA:=λa b c d e f g h i j k l m n o=>ax b λp=>bif ak (Int.ofNat p) 0 then some (ae 0 [],false,b,c,d,e,f,g,h,i,j,k,l,m,n,o) else aQ 3 0 b λq=>ag (List.drop 0 q) λr _=>aw .i64 r λt=>bif !ak t a then some (ae 0 [],false,b,c,d,e,f,g,h,i,j,k,l,m,n,o) else aQ 3 0 b λu=>ag (List.drop 1 u) λv _=>ob (Cq w v) λz=>uB z b c d e f g h i j k l m n o
def zV(w:Nat):V->Z->V->V->V->V->V->V->V->V->V->V->Z->Z->Ps:=λa b c d e f g h i j k l m n=>ob (uO w 226 a b c d e f g h i j k l m n) λo=>lp (α:=V->B->V->Z->V->V->V->V->V->V->V->V->V->V->Z->Z->L->Ps) (λ_ _ _ _ _ _ _ _ _ _ _ _ _ _ _ _ _=>none) (λa8 a9 b0 b1 b2 b3 b4 b5 b6 b7 b8 b9 c0 c1 c2 c3 c4 c5=>bif b0 then bif aK c5.length&&(aK 1&&(List.take 1 (List.drop 0 [a9])).length.beq 1) then ob (uO w 226 b1 b2 b3 b4 b5 b6 b7 b8 b9 c0 c1 c2 c3 c4) λc6=>a8 c6.1 c6.2.1 c6.2.2.1 c6.2.2.2.1 c6.2.2.2.2.1 c6.2.2.2.2.2.1 c6.2.2.2.2.2.2.1 c6.2.2.2.2.2.2.2.1 c6.2.2.2.2.2.2.2.2.1 c6.2.2.2.2.2.2.2.2.2.1 c6.2.2.2.2.2.2.2.2.2.2.1 c6.2.2.2.2.2.2.2.2.2.2.2.1 c6.2.2.2.2.2.2.2.2.2.2.2.2.1 c6.2.2.2.2.2.2.2.2.2.2.2.2.2.1 c6.2.2.2.2.2.2.2.2.2.2.2.2.2.2.1 c6.2.2.2.2.2.2.2.2.2.2.2.2.2.2.2 (c5++List.take 1 (List.drop 0 [a9])) else none else some (b1,b2,b3,b4,b5,b6,b7,b8,b9,c0,c1,c2,c3,c4,c5)) w o.1 o.2.1 o.2.2.1 o.2.2.2.1 o.2.2.2.2.1 o.2.2.2.2.2.1 o.2.2.2.2.2.2.1 o.2.2.2.2.2.2.2.1 o.2.2.2.2.2.2.2.2.1 o.2.2.2.2.2.2.2.2.2.1 o.2.2.2.2.2.2.2.2.2.2.1 o.2.2.2.2.2.2.2.2.2.2.2.1 o.2.2.2.2.2.2.2.2.2.2.2.2.1 o.2.2.2.2.2.2.2.2.2.2.2.2.2.1 o.2.2.2.2.2.2.2.2.2.2.2.2.2.2.1 o.2.2.2.2.2.2.2.2.2.2.2.2.2.2.2 []
def Ow(w:Nat):V->Z->V->V->V->V->V->V->V->V->V->V->Z->Z->Pt:=λa b c d e f g h i j k l m n=>ax a λo=>lp (α:=V->Z->Z->V->Z->V->V->V->V->V->V->V->V->V->V->Z->Z->Pt) (λ_ _ _ _ _ _ _ _ _ _ _ _ _ _ _ _ _=>none) (λa8 a9 b0 b1 b2 b3 b4 b5 b6 b7 b8 b9 c0 c1 c2 c3 c4 c5=>bif aq b1 b0 then aG b1 λc6=>aQ 3 c6 a9 λc7=>ag c7 λc8 c9=>aw .i64 c8 λd0=>ag c9 λ_ d2=>ag d2 λ_ _=>bif !aq d0 224 then bif !aq 239 d0 then some (true,b2,b3,b4,b5,b6,b7,b8,b9,c0,c1,c2,c3,c4,c5) else a8 a9 b0 (ah .i64 (b1.add 1)) b2 b3 b4 b5 b6 b7 b8 b9 c0 c1 c2 c3 c4 c5 else a8 a9 b0 (ah .i64 (b1.add 1)) b2 b3 b4 b5 b6 b7 b8 b9 c0 c1 c2 c3 c4 c5 else some (false,b2,b3,b4,b5,b6,b7,b8,b9,c0,c1,c2,c3,c4,c5)) w a (Int.ofNat o) 0 a b c d e f g h i j k l m n
def Nf(_:Nat):V->O B:=λa=>ax a λb=>some !aq 65533 (Int.ofNat b)
def Ng(_:Nat):V->O B:=λa=>ax a λb=>some !aq (Int.ofNat b) 6
def GZ(_:Nat):V->V->O (V×Z×V×N×N×Z×Z×L×L):=λa b=>ax a λc=>aG (ah .i64 (((Int.ofNat c).fdiv (2^6)).add 1)) λd=>aG (ah .i64 (((Int.ofNat c).fdiv (2^6)).add 1)) λe=>bif Nat.blt 0 1&&Nat.beq 1 1&&Nat.ble 8 10000&&(d.ble e&&e.ble 1000000000) then some (a,0,b,d,e,0,0,rep e (Value.int .u64 0).cells.toList,[]) else none
def eG(_:Nat):B->Z->O ((Unit)⊕(Z)):=λa b=>bif !a then some (Sum.inr b) else some (Sum.inl ())
def mu(w:Nat):V->Z->Z->Z->O Z:=λa b c d=>ob (sL w a c d b) λe=>some e.1
def wW(_:Nat):Z->Z->Z->O B:=λa b c=>bif !aq a 0 then bif !aq b 0 then bif !aq c a then some !aq (ah .i64 (c.sub a)) b else some false else some false else some false
def zl(a:Z):=(ah .u64 ↑(BitVec.ofInt 64 (ah .u64 a)&&&BitVec.ofInt 64 63).toNat)
def HJ(_:Nat):Z->V->Z->V->N->N->Z->Z->L->L->O (B×V×Z×V×N×N×Z×Z×L×L):=λa b c d e f g h i j=>aG (a.fdiv (2^6)) λk=>bif k.blt e then ag (List.drop (0+k*1) i) λl _=>aw .u64 l λn=>bif aq (zl a) 0 then none else some (ak (ah .u64 ↑(BitVec.ofInt 64 (n.fdiv (2^min (zl a).toNat 64))&&&BitVec.ofInt 64 1).toNat) 1,b,c,d,e,f,g,h,i,j) else none
def MX(a:Z)(b:Z):=(ah .u64 ↑(BitVec.ofInt 64 a|||BitVec.ofInt 64 (ah .u64 (Int.mul 1 (2^min (zl b).toNat 64)))).toNat)
def MU(w:Nat)(a:PUnit⊕Z)(b:Z)(c:V)(d:Z)(e:V)(f:N)(g:N)(h:Z)(i:Z)(j:Z)(k:Z)(l:Z)(m:Z)(n:L)(o:L):Pu:=dk a (λ_=>lp (α:=Z->V->Z->V->N->N->Z->Z->Z->Z->Z->Z->Z->L->L->O (V×Z×V×N×N×Z×Z×L×L⊕Z×V×Z×V×N×N×Z×Z×L×L)) (λ_ _ _ _ _ _ _ _ _ _ _ _ _ _ _=>none) (λa7 a8 a9 b0 b1 b2 b3 b4 b5 b6 b7 b8 b9 c0 c1 c2=>bif aq a8 (ah .i64 (b9.add c0)) then ob (HJ w a8 a9 b0 b1 b2 b3 b4 b5 c1 c2) λc3=>ob (eG w (!c3.1) 5) λc4=>dk c4 (λ_=>aG (a8.fdiv (2^6)) λc6=>bif c6.blt c3.2.2.2.2.1 then ag (List.drop (0+c6*1) c3.2.2.2.2.2.2.2.2.1) λc7 _=>aw .u64 c7 λc9=>bif aq (zl a8) 0 then none else aG (a8.fdiv (2^6)) λd0=>bif d0.blt c3.2.2.2.2.1 then bif(SV.i IntKind.u64 (MX c9 a8)).cells.length.beq 1&&(0+d0*1+1).ble (List.length c3.2.2.2.2.2.2.2.2.1) then a7 (ah .i64 (a8.add 1)) c3.2.1 c3.2.2.1 c3.2.2.2.1 c3.2.2.2.2.1 c3.2.2.2.2.2.1 c3.2.2.2.2.2.2.1 c3.2.2.2.2.2.2.2.1 b6 b7 b8 b9 c0 (aW (0+d0*1) [Value.int .u64 (MX c9 a8)] c3.2.2.2.2.2.2.2.2.1) c3.2.2.2.2.2.2.2.2.2 else none else none else none) λd1=>some (Sum.inr (d1,c3.2.1,c3.2.2.1,c3.2.2.2.1,c3.2.2.2.2.1,c3.2.2.2.2.2.1,c3.2.2.2.2.2.2.1,c3.2.2.2.2.2.2.2.1,c3.2.2.2.2.2.2.2.2.1,c3.2.2.2.2.2.2.2.2.2)) else bif aK c2.length&&(aK 1&&(List.take 5 (List.drop 0 [Value.int .i64 b6,Value.int .i64 b7,Value.int .i64 b8,Value.int .i64 b9,Value.int .i64 c0])).length.beq 5) then some (Sum.inl (a9,b0,b1,b2,b3,b4,b5,c1,c2++List.take 5 (List.drop 0 [Value.int .i64 b6,Value.int .i64 b7,Value.int .i64 b8,Value.int .i64 b9,Value.int .i64 c0]))) else none) w b c d e f g h i j k l b m n o) λd2=>some (Sum.inr (d2,c,d,e,f,g,h,i,n,o))
def rj(w:Nat):Z->Z->Z->Z->Z->V->Z->V->N->N->Z->Z->L->L->Pu:=λa b c d e f g h i j k l m n=>bif ak (d.tmod 2) 0 then ax f λo=>ob (wW w d e (Int.ofNat o)) λp=>ob (eG w p 4) λq=>MU w q d f g h i j k l a b c e m n else ob (eG w false 4) λr=>MU w r d f g h i j k l a b c e m n
def Cj(w:Nat)(a:V×Z×V×N×N×Z×Z×L×L⊕Z×V×Z×V×N×N×Z×Z×L×L):Pv:=dk a (λb=>ob (mu w b.1 b.2.1 4 4) λc=>some (Sum.inl (c,b.1,b.2.1,b.2.2.1,b.2.2.2.1,b.2.2.2.2.1,b.2.2.2.2.2.1,b.2.2.2.2.2.2.1,b.2.2.2.2.2.2.2.1,b.2.2.2.2.2.2.2.2))) λd=>some (Sum.inr (d.1,d.2.1,d.2.2.1,d.2.2.2.1,d.2.2.2.2.1,d.2.2.2.2.2.1,d.2.2.2.2.2.2.1,d.2.2.2.2.2.2.2.1,d.2.2.2.2.2.2.2.2.1,d.2.2.2.2.2.2.2.2.2))
def Hb(w:Nat):V->Z->V->N->N->Z->Z->L->L->Pv:=λa b c d e f g h i=>ax a λj=>ob (eG w (!aq (Int.ofNat j) 8) 3) λk=>dk k (λ_=>ax a λm=>bif Nat.ble 2 m&&Nat.ble 0 2 then ib 1 0 2 a λn=>eX 1 n λ_ p=>ob (iN p) λq=>bif nS (mkStr q).data.toList (ByteArray.mk #[73,73]).data.toList then ob (mu w a 1 2 2) λr=>ob (eG w (ak r 42) 2) λs=>dk s (λ_=>ob (rj w 1 (-1) 0 0 8 a 1 c d e f g h i) λu=>Cj w u) λv=>some (Sum.inr (v,a,1,c,d,e,f,g,h,i)) else bif nS (mkStr q).data.toList (ByteArray.mk #[77,77]).data.toList then ob (mu w a 2 2 2) λy=>ob (eG w (ak y 42) 2) λz=>dk z (λ_=>ob (rj w 1 (-1) 0 0 8 a 2 c d e f g h i) λa1=>Cj w a1) λa2=>some (Sum.inr (a2,a,2,c,d,e,f,g,h,i)) else bif aq 0 b then ob (mu w a b 2 2) λa3=>ob (eG w (ak a3 42) 2) λa4=>dk a4 (λ_=>ob (rj w 1 (-1) 0 0 8 a b c d e f g h i) λa6=>Cj w a6) λa7=>some (Sum.inr (a7,a,b,c,d,e,f,g,h,i)) else ob (eG w false 2) λa8=>dk a8 (λ_=>ob (rj w 1 (-1) 0 0 8 a b c d e f g h i) λb0=>Cj w b0) λb1=>some (Sum.inr (b1,a,b,c,d,e,f,g,h,i)) else none) λb2=>some (Sum.inr (b2,a,b,c,d,e,f,g,h,i))
def Om(w:Nat):V->Z->Z->Z->R1:=λa b c d=>ob (sL w a c d b) λe=>some (e.1,e.2)
def wY(w:Nat):Z->V->Z->Z->B->O (Z×V×Z×Z×B):=λa b c d e=>ob (Om w b c d a) λf=>bif e then some (f.1,b,c,ah .i64 (d.add a),f.2) else some (f.1,b,c,ah .i64 (d.add a),false)
def HK(w:Nat):V->Z->Z->O (Z×Z×Z×Z×B):=λa b c=>ax a λd=>ob (wW w b 12 (Int.ofNat d)) λe=>bif !e then some (0,0,0,0,false) else ob (wY w 2 a c b true) λf=>ob (wY w 2 f.2.1 f.2.2.1 f.2.2.2.1 f.2.2.2.2) λg=>ob (wY w 4 g.2.1 g.2.2.1 g.2.2.2.1 g.2.2.2.2) λh=>ob (wY w 4 h.2.1 h.2.2.1 h.2.2.2.1 h.2.2.2.2) λi=>bif !i.2.2.2.2 then some (0,0,0,0,false) else some (f.1,g.1,h.1,i.1,true)
def Cd(a:Z×Z×Z×Z×B):=(List.drop 0 [Value.int .i64 a.1,Value.int .i64 a.2.1,Value.int .i64 a.2.2.1,Value.int .i64 a.2.2.2.1])
def MM(w:Nat)(a:PUnit⊕Z)(b:V)(c:Z)(d:Z)(e:Z)(f:V)(g:N)(h:N)(i:Z)(j:Z)(k:L)(l:L):Pw:=dk a (λ_=>ob (mu w b c d 2) λn=>ob (eG w (aq 0 n) 2) λo=>dk o (λ_=>ob (rj w 2 e 0 d (ah .i64 (Int.add 6 (ah .i64 (Int.mul 12 n)))) b c f g h i j k l) λq=>dk q (λr=>lp (α:=Z->Z->Z->V->Z->V->N->N->Z->Z->L->L->L->O (V×V×Z×V×N×N×Z×Z×L×L⊕Z×V×Z×V×N×N×Z×Z×L×L)) (λ_ _ _ _ _ _ _ _ _ _ _ _ _=>none) (λa7 a8 a9 b0 b1 b2 b3 b4 b5 b6 b7 b8 b9 c0=>bif aq b0 a9 then ob (HK w b1 (ah .i64 ((ah .i64 (a8.add 2)).add (ah .i64 (Int.mul 12 b0)))) b2) λc1=>bif ak b0 0 then ob (eG w true 2) λc2=>dk c2 (λ_=>bif aK c0.length&&(aK 1&&(List.take 4 (Cd c1)).length.beq 4) then a7 a8 a9 (ah .i64 (b0.add 1)) b1 b2 b3 b4 b5 b6 b7 b8 b9 (c0++List.take 4 (Cd c1)) else none) λc4=>some (Sum.inr (c4,b1,b2,b3,b4,b5,b6,b7,b8,b9)) else aG (ah .i64 (b0.sub 1)) λc5=>bif Nat.beq 4 4&&(c5*4).blt c0.length then ag (List.drop (0+c5*4+0) c0) λc6 _=>aw .i64 c6 λc8=>ob (eG w (aq c8 c1.1) 2) λc9=>dk c9 (λ_=>bif aK c0.length&&(aK 1&&(List.take 4 (Cd c1)).length.beq 4) then a7 a8 a9 (ah .i64 (b0.add 1)) b1 b2 b3 b4 b5 b6 b7 b8 b9 (c0++List.take 4 (Cd c1)) else none) λd1=>some (Sum.inr (d1,b1,b2,b3,b4,b5,b6,b7,b8,b9)) else none else some (Sum.inl (ae (c0.length/4) c0,b1,b2,b3,b4,b5,b6,b7,b8,b9))) w d n 0 r.1 r.2.1 r.2.2.1 r.2.2.2.1 r.2.2.2.2.1 r.2.2.2.2.2.1 r.2.2.2.2.2.2.1 r.2.2.2.2.2.2.2.1 r.2.2.2.2.2.2.2.2 []) λd2=>some (Sum.inr (d2.1,d2.2.1,d2.2.2.1,d2.2.2.2.1,d2.2.2.2.2.1,d2.2.2.2.2.2.1,d2.2.2.2.2.2.2.1,d2.2.2.2.2.2.2.2.1,d2.2.2.2.2.2.2.2.2.1,d2.2.2.2.2.2.2.2.2.2))) λd3=>some (Sum.inr (d3,b,c,f,g,h,i,j,k,l))) λd4=>some (Sum.inr (d4,b,c,f,g,h,i,j,k,l))
def Hq(w:Nat):Z->Z->V->Z->V->N->N->Z->Z->L->L->Pw:=λa b c d e f g h i j k=>bif ak (a.tmod 2) 0 then ax c λl=>ob (wW w a 2 (Int.ofNat l)) λm=>ob (eG w m 4) λn=>MM w n c d a b e f g h i j k else ob (eG w false 4) λo=>MM w o c d a b e f g h i j k
def Og(_:Nat):Z->Z->Z->Z->Z->Z->O B:=λa _ c _ _ _=>some (ak a c)
def NW(w:Nat):V->Z->Z->Z->Z->O Z:=λa b c d e=>ax a λf=>lp (α:=V->L->Z->Z->O Z) (λ_ _ _ _=>none) (λk l m n o=>bif aq o n then aG o λp=>aQ 2 p l λq=>ag q λr s=>aw .i64 r λt=>ag s λu _=>aw .i64 u λy=>ag m λz a0=>aw .i64 z λa1=>ag a0 λa2 a3=>aw .i64 a2 λa4=>ag a3 λa5 a6=>aw .i64 a5 λa7=>ag a6 λa8 a9=>aw .i64 a8 λb0=>om a9 (ob (Og w t y a1 a4 a7 b0) λb1=>bif b1 then some o else k l m n (ah .i64 (o.add 1))) else some (-1)) w a [Value.int .i64 b,Value.int .i64 c,Value.int .i64 d,Value.int .i64 e] (Int.ofNat f) 0
def HM(w:Nat):V->Z->Z->Z->Z->O B:=λa b c d e=>ob (NW w a b c d e) λf=>some !aq f 0
def wK(a:Z)(b:Z)(c:Z)(d:Z):=(List.drop 0 [Value.int .i64 a,Value.int .i64 b,Value.int .i64 c,Value.int .i64 d])
def zp(a:Z)(b:Z)(c:Z)(d:Z):=(aK 1&&(List.take 4 (wK a b c d)).length.beq 4)
def Hr(w:Nat):V->V->Z->Z->Z->R9:=λa b c d e=>ax a λf=>lp (α:=V->Z->Z->V->Z->Z->Z->L->L->L->R9) (λ_ _ _ _ _ _ _ _ _ _=>none) (λq r s t u v y z a0 a1 a2=>bif aq t s then aG t λa3=>aQ 4 a3 r λa4=>ag a4 λa5 a6=>aw .i64 a5 λa7=>ag a6 λa8 a9=>aw .i64 a8 λb0=>ag a9 λb1 b2=>aw .i64 b1 λb3=>ag b2 λb4 _=>aw .i64 b4 λb6=>ob (HM w u a7 b0 b3 b6) λb7=>bif b7 then bif aK a0.length&&(zp a7 b0 b3 b6) then q r s (ah .i64 (t.add 1)) u v y z (a0++List.take 4 (wK a7 b0 b3 b6)) a1 a2 else none else bif aq 0 v then bif ak a7 v then bif aK a1.length&&(zp a7 b0 b3 b6) then q r s (ah .i64 (t.add 1)) u v y z a0 (a1++List.take 4 (wK a7 b0 b3 b6)) a2 else none else bif ak a7 y then bif aK a1.length&&(zp a7 b0 b3 b6) then q r s (ah .i64 (t.add 1)) u v y z a0 (a1++List.take 4 (wK a7 b0 b3 b6)) a2 else none else bif aK a2.length&&(zp a7 b0 b3 b6) then q r s (ah .i64 (t.add 1)) u v y z a0 a1 (a2++List.take 4 (wK a7 b0 b3 b6)) else none else bif aK a2.length&&(zp a7 b0 b3 b6) then q r s (ah .i64 (t.add 1)) u v y z a0 a1 (a2++List.take 4 (wK a7 b0 b3 b6)) else none else some (ae (a0.length/4) a0,ae (a1.length/4) a1,ae (a2.length/4) a2)) w a (Int.ofNat f) 0 b c d e [] [] []
def MK(w:Nat)(a:V)(b:Z)(c:Z):O V:=ax a λd=>bif Nat.blt 0 1&&Nat.beq 1 1&&Nat.ble 1 10000&&(d.ble d&&d.ble 1000000000) then eX 1 a λe f=>bif f.length.beq (e*1)&&(0+e.min d*1).ble (rep d (Value.int .u8 0).cells.toList,5).1.length then lp (α:=Z->Z->N->N->Z->L->O V) (λ_ _ _ _ _ _=>none) (λm n o p q r s=>bif ak o 1 then bif !aq (Int.ofNat p) (ah .i64 (r.add n)) then aG (ah .i64 (r.add n)) λt=>aG r λu=>bif t.ble q&&u.ble t then ob (uI w (bif q.beq u then 0 else 0+u*1) (t -u) (q -u) s) λv=>m n o p q (ah .i64 (r.add n)) v else none else some (ae p (List.drop 0 s)) else some (ae p (List.drop 0 s))) w b c d d 0 (aW 0 (List.take (e.min d*1) f) (rep d (Value.int .u8 0).cells.toList,5).1) else none else none
def HY(w:Nat):V->Z->Z->O V:=λa b c=>ob (re w b c) λd=>bif !d then bif !ak b 8 then some (ae 0 []) else ob (re w 1 c) λe=>bif !e then some (ae 0 []) else MK w a b c else MK w a b c
def CM(w:Nat):Z->Z->V->Z->R5:=λa b c d=>ob (sP w a) λe=>bif ak e.1 0 then some (0,0,ae 0 [],false) else bif aq b 1 then some (0,0,ae 0 [],false) else bif aq 65536 b then some (0,0,ae 0 [],false) else ax c λf=>bif aq (Int.ofNat f) (ah .i64 (b.mul e.1)) then some (0,0,ae 0 [],false) else ax c λg=>aG (ah .i64 (b.mul e.1)) λh=>bif h.ble g&&Nat.ble 0 h then ib 1 0 h c λi=>ob (HY w i e.2.1 d) λj=>ob (qi w a b j) λk=>bif !k then some (0,0,ae 0 [],false) else some (a,b,j,true) else none
def H5(w:Nat):Z->Z->O B:=λa b=>ob (CP w a b) λc=>bif aq 0 c then some !aq 4 c else some false
def Oj(_:Nat):Z->O B:=λa=>some !ak a 0
def On(w:Nat):V->O Z:=λa=>ax a λb=>lp (α:=V->Z->Z->O Z) (λ_ _ _=>none) (λf g h i=>bif aq i h then aG i λj=>aQ 1 j g λk=>ag k λl _=>aw .u8 l λn=>ob (Oj w n) λo=>bif o then some i else f g h (ah .i64 (i.add 1)) else some (-1)) w a (Int.ofNat b) 0
def H6(w:Nat):V->O B:=λa=>ob (On w a) λb=>some !aq b 0
def HS(w:Nat):Z->Z->Z->Z->Z->O (Z×Z×V×B×B):=λ_ b c d e=>ob (gR w d 4 e) λf=>bif !f.2 then some (0,0,ae 0 [],false,false) else ob (H5 w b c) λg=>bif !g then some (0,0,ae 0 [],false,false) else ob (CM w b c f.1 e) λh=>bif !h.2.2.2 then some (0,0,ae 0 [],false,false) else ax h.2.2.1 λi=>ax f.1 λj=>bif j.ble j&&i.ble j then ib 1 i j f.1 λk=>ob (H6 w k) λl=>some (h.1,h.2.1,h.2.2.1,!l,true) else none
def Gj(w:Nat)(a:PUnit⊕Z)(b:Z)(c:Z)(d:Z)(e:Z)(f:Z)(g:V)(h:Z)(i:V)(j:N)(k:N)(l:Z)(m:Z)(n:L)(o:L):Px:=dk a (λ_=>ob (CL w b c) λq=>bif aq 0 q then ob (rj w 3 d e f q g h i j k l m n o) λr=>dk r (λs=>ax s.1 λt=>aG f λu=>bif t.ble t&&u.ble t then ib 1 u t s.1 λv=>ob (CM w b c v s.2.1) λy=>ob (eG w y.2.2.2 6) λz=>dk z (λ_=>some (Sum.inl (e,y.1,y.2.1,y.2.2.1,s.1,s.2.1,s.2.2.1,s.2.2.2.1,s.2.2.2.2.1,s.2.2.2.2.2.1,s.2.2.2.2.2.2.1,s.2.2.2.2.2.2.2.1,s.2.2.2.2.2.2.2.2))) λa1=>some (Sum.inr (a1,s.1,s.2.1,s.2.2.1,s.2.2.2.1,s.2.2.2.2.1,s.2.2.2.2.2.1,s.2.2.2.2.2.2.1,s.2.2.2.2.2.2.2.1,s.2.2.2.2.2.2.2.2)) else none) λa2=>some (Sum.inr (a2.1,a2.2.1,a2.2.2.1,a2.2.2.2.1,a2.2.2.2.2.1,a2.2.2.2.2.2.1,a2.2.2.2.2.2.2.1,a2.2.2.2.2.2.2.2.1,a2.2.2.2.2.2.2.2.2.1,a2.2.2.2.2.2.2.2.2.2)) else ob (HS w e b c f h) λa3=>ob (eG w a3.2.2.2.2 6) λa4=>dk a4 (λ_=>bif !a3.2.2.2.1 then some (Sum.inl (e,a3.1,a3.2.1,a3.2.2.1,g,h,i,j,k,l,ah .i64 (m.add 1),n,o)) else some (Sum.inl (e,a3.1,a3.2.1,a3.2.2.1,g,h,i,j,k,l,m,n,o))) λa6=>some (Sum.inr (a6,g,h,i,j,k,l,m,n,o))) λa7=>some (Sum.inr (a7,g,h,i,j,k,l,m,n,o))
def Hs(w:Nat):Z->Z->Z->Z->Z->V->Z->V->N->N->Z->Z->L->L->Px:=λa b c d e f g h i j k l m n=>ob (CJ w b) λo=>bif aq 0 o then bif !aq c 1 then ob (eG w (!aq 65536 c) 6) λp=>Gj w p b c e a d f g h i j k l m n else ob (eG w false 6) λq=>Gj w q b c e a d f g h i j k l m n else ob (eG w false 6) λr=>Gj w r b c e a d f g h i j k l m n
def N4(_:Nat):Z->Z->Z->Z->Z->Z->O B:=λa _ c _ _ _=>some (ak a c)
def NY(w:Nat):V->Z->Z->Z->Z->O Z:=λa b c d e=>ax a λf=>lp (α:=V->L->Z->Z->O Z) (λ_ _ _ _=>none) (λk l m n o=>bif aq o n then aG o λp=>aQ 2 p l λq=>ag q λr s=>aw .i64 r λt=>ag s λu _=>aw .i64 u λy=>ag m λz a0=>aw .i64 z λa1=>ag a0 λa2 a3=>aw .i64 a2 λa4=>ag a3 λa5 a6=>aw .i64 a5 λa7=>ag a6 λa8 a9=>aw .i64 a8 λb0=>om a9 (ob (N4 w t y a1 a4 a7 b0) λb1=>bif b1 then some o else k l m n (ah .i64 (o.add 1))) else some (-1)) w a [Value.int .i64 b,Value.int .i64 c,Value.int .i64 d,Value.int .i64 e] (Int.ofNat f) 0
abbrev tz:=Option ((Value×Value×Value×Int×Value×Int×Value×Nat×Nat×Int×Int×List Value×List Value)⊕(Int×Value×Int×Value×Nat×Nat×Int×Int×List Value×List Value))
abbrev rN:=Int->Int->Value->Int->Value->Nat->Nat->Int->Int->List Value->List Value->tz
abbrev Dq:=Int->Int->Value->Value->Value->Int->Int->Value->Int->Value->Nat->Nat->Int->Int->Value->Value->Int->Int->Int->List Value->List Value->List Value->List Value->tz
abbrev DG:=Int->Int->Value->Value->Value->Value->Value->Int->Int->Value->Int->Value->Nat->Nat->Int->Int->Value->Value->Int->Int->Int->List Value->List Value->List Value->List Value->tz
def wo(w:Nat)(rec:rN):Dq->Dq:=(λa b c d e f g h i j k l m n o p q r s t u v y z=>bif aq h g then aG h λa0=>aQ 4 a0 f λa1=>ag a1 λa2 a3=>aw .i64 a2 λa4=>ag a3 λa5 a6=>aw .i64 a5 λa7=>ag a6 λa8 a9=>aw .i64 a8 λb0=>ag a9 λb1 _=>aw .i64 b1 λb3=>ob (NY w q a4 a7 b0 b3) λb4=>aG b4 λb5=>aQ 2 b5 q λb6=>ag (List.drop 1 b6) λb7 _=>aw .i64 b7 λb9=>ob (rec b3 b9 i j k l m n o u v) λc0=>dk c0 (λc1=>ob (eG w (ak c1.2.2.2.1 0) 2) λc2=>dk c2 (λ_=>bif aK z.length&&(aK 1&&(List.take 4 (List.drop 0 [Value.int .i64 a4,c1.1,c1.2.1,c1.2.2.1])).length.beq 4) then a b c d e f g (ah .i64 (h.add 1)) c1.2.2.2.2.1 c1.2.2.2.2.2.1 c1.2.2.2.2.2.2.1 c1.2.2.2.2.2.2.2.1 c1.2.2.2.2.2.2.2.2.1 c1.2.2.2.2.2.2.2.2.2.1 c1.2.2.2.2.2.2.2.2.2.2.1 p q r s t c1.2.2.2.2.2.2.2.2.2.2.2.1 c1.2.2.2.2.2.2.2.2.2.2.2.2 y (z++List.take 4 (List.drop 0 [Value.int .i64 a4,c1.1,c1.2.1,c1.2.2.1])) else none) λc4=>some (Sum.inr (c4,c1.2.2.2.2.1,c1.2.2.2.2.2.1,c1.2.2.2.2.2.2.1,c1.2.2.2.2.2.2.2.1,c1.2.2.2.2.2.2.2.2.1,c1.2.2.2.2.2.2.2.2.2.1,c1.2.2.2.2.2.2.2.2.2.2.1,c1.2.2.2.2.2.2.2.2.2.2.2.1,c1.2.2.2.2.2.2.2.2.2.2.2.2))) λ_=>none else ax e λc6=>bif ak (Int.ofNat c6) 2 then aQ 4 0 e λc7=>ag (List.drop 3 c7) λc8 _=>aw .i64 c8 λd0=>aQ 4 1 e λd1=>ag (List.drop 3 d1) λd2 _=>aw .i64 d2 λd4=>ob (eG w (aq 0 d4) 6) λd5=>dk d5 (λ_=>ob (rj w 4 c 0 d0 d4 i j k l m n o u v) λd7=>dk d7 (λd8=>ax d8.1 λd9=>aG (ah .i64 (d0.add d4)) λe0=>aG d0 λe1=>bif e0.ble d9&&e1.ble e0 then ib 1 e1 e0 d8.1 λe2=>ob (nk w e2) λe3=>ax d λe4=>ob (mu w d8.1 d8.2.1 (ah .i64 ((ah .i64 (b.add 2)).add (ah .i64 (Int.mul 12 (Int.ofNat e4))))) 4) λe5=>some (Sum.inl (ae (y.length/4) y,ae (z.length/4) z,e3,e5,d8.1,d8.2.1,d8.2.2.1,d8.2.2.2.1,d8.2.2.2.2.1,d8.2.2.2.2.2.1,d8.2.2.2.2.2.2.1,d8.2.2.2.2.2.2.2.1,d8.2.2.2.2.2.2.2.2)) else none) λe6=>some (Sum.inr (e6.1,e6.2.1,e6.2.2.1,e6.2.2.2.1,e6.2.2.2.2.1,e6.2.2.2.2.2.1,e6.2.2.2.2.2.2.1,e6.2.2.2.2.2.2.2.1,e6.2.2.2.2.2.2.2.2.1,e6.2.2.2.2.2.2.2.2.2))) λe7=>some (Sum.inr (e7,i,j,k,l,m,n,o,u,v)) else ax d λe8=>ob (mu w i j (ah .i64 ((ah .i64 (b.add 2)).add (ah .i64 (Int.mul 12 (Int.ofNat e8))))) 4) λe9=>some (Sum.inl (ae (y.length/4) y,ae (z.length/4) z,p,e9,i,j,k,l,m,n,o,u,v)))
def BE:Dq:=(λ_ _ _ _ _ _ _ _ _ _ _ _ _ _ _ _ _ _ _ _ _ _ _=>none)
def SD(w:Nat)(rec:rN):Dq:=lp BE (wo w rec) w
def Ch(a:Z×Z×Z×V×V×Z×V×N×N×Z×Z×L×L):=(List.drop 0 [Value.int .i64 a.1,Value.int .i64 a.2.1,Value.int .i64 a.2.2.1,a.2.2.2.1])
def sV(w:Nat)(rec:rN):DG->DG:=(λa b c d e f g h i j k l m n o p q r s t u v y z a0 a1=>bif aq j i then aG j λa2=>aQ 4 a2 h λa3=>ag a3 λa4 a5=>aw .i64 a4 λa6=>ag a5 λa7 a8=>aw .i64 a7 λa9=>ag a8 λb0 b1=>aw .i64 b0 λb2=>ag b1 λb3 _=>aw .i64 b3 λb5=>ax g λb6=>bif aq 0 (Int.ofNat b6) then aQ 4 0 g λb7=>ag b7 λb8 b9=>aw .i64 b8 λc0=>ag b9 λc1 c2=>aw .i64 c1 λc3=>ag c2 λc4 c5=>aw .i64 c4 λc6=>ag c5 λc7 _=>aw .i64 c7 λc9=>bif bif ak a6 c0 then bif ak a9 c3 then bif ak b2 c6 then bif ak b5 c9 then true else false else false else false else false then ob (Hs w a6 a9 b2 b5 c k l m n o p q y z) λd0=>dk d0 (λd1=>bif aK a0.length&&(aK 1&&(List.take 4 (Ch d1)).length.beq 4) then ax g λd2=>bif d2.ble d2&&Nat.ble 1 d2 then ib 4 1 d2 g λd3=>a b c d e f d3 h i (ah .i64 (j.add 1)) d1.2.2.2.2.1 d1.2.2.2.2.2.1 d1.2.2.2.2.2.2.1 d1.2.2.2.2.2.2.2.1 d1.2.2.2.2.2.2.2.2.1 d1.2.2.2.2.2.2.2.2.2.1 d1.2.2.2.2.2.2.2.2.2.2.1 r s t u v d1.2.2.2.2.2.2.2.2.2.2.2.1 d1.2.2.2.2.2.2.2.2.2.2.2.2 (a0++List.take 4 (Ch d1)) a1 else none else none) λ_=>none else bif ak a9 4 then ob (eG w (ak b2 1) 6) λd5=>dk d5 (λ_=>a b c d e f g h i (ah .i64 (j.add 1)) k l m n o p q r s t u v y z a0 a1) λd7=>some (Sum.inr (d7,k,l,m,n,o,p,q,y,z)) else ob (eG w false 6) λd8=>dk d8 (λ_=>a b c d e f g h i (ah .i64 (j.add 1)) k l m n o p q r s t u v y z a0 a1) λe0=>some (Sum.inr (e0,k,l,m,n,o,p,q,y,z)) else bif ak a9 4 then ob (eG w (ak b2 1) 6) λe1=>dk e1 (λ_=>a b c d e f g h i (ah .i64 (j.add 1)) k l m n o p q r s t u v y z a0 a1) λe3=>some (Sum.inr (e3,k,l,m,n,o,p,q,y,z)) else ob (eG w false 6) λe4=>dk e4 (λ_=>a b c d e f g h i (ah .i64 (j.add 1)) k l m n o p q r s t u v y z a0 a1) λe6=>some (Sum.inr (e6,k,l,m,n,o,p,q,y,z)) else ax f λe7=>ob (eG w (!ak (Int.ofNat e7) 1) 6) λe8=>dk e8 (λ_=>ax e λf0=>SD w rec b c d f e (Int.ofNat f0) 0 k l m n o p q r s t u v y z a0 a1) λf1=>some (Sum.inr (f1,k,l,m,n,o,p,q,y,z)))
def Ad:DG:=(λ_ _ _ _ _ _ _ _ _ _ _ _ _ _ _ _ _ _ _ _ _ _ _ _ _=>none)
def WU(w:Nat)(rec:rN):DG:=lp Ad (sV w rec) w
def Ip(w:Nat)(rec:Z->Z->V->Z->V->N->N->Z->Z->L->L->IU):Z->Z->V->Z->V->N->N->Z->Z->L->L->IU:=λa b c d e f g h i j k=>aG b λl=>aQ 4 l e λm=>ag m λn o=>ag o λp q=>aw .i64 p λr=>ag q λs t=>aw .i64 s λu=>ag t λv _=>aw .i64 v λz=>bif ak h h then ob (Hq w a h c d e f g (ah .i64 (h.add 1)) i j k) λa0=>dk a0 (λa1=>ob (Hr w a1.1 n r u z) λa2=>ax a1.1 λa3=>WU w rec a h a1.1 a2.1 a2.2.1 a2.2.2 a1.1 (Int.ofNat a3) 0 a1.2.1 a1.2.2.1 a1.2.2.2.1 a1.2.2.2.2.1 a1.2.2.2.2.2.1 a1.2.2.2.2.2.2.1 a1.2.2.2.2.2.2.2.1 (ae 0 []) n r u z a1.2.2.2.2.2.2.2.2.1 a1.2.2.2.2.2.2.2.2.2 [] []) λa4=>some (Sum.inr (a4.1,a4.2.1,a4.2.2.1,a4.2.2.2.1,a4.2.2.2.2.1,a4.2.2.2.2.2.1,a4.2.2.2.2.2.2.1,a4.2.2.2.2.2.2.2.1,a4.2.2.2.2.2.2.2.2.1,a4.2.2.2.2.2.2.2.2.2)) else none
def Hc(w:Nat):Z->Z->V->Z->V->N->N->Z->Z->L->L->IU:=pU (jY (PT.ti ⟨3,⟨[(0,.ptr 0 0),(1,vI),(2,vI)],[(0,.cells [.v,vI,.v,.sl 1 0,.gr 2 5,vI,vI] 220),(1,.arr 362),(2,.grow 5 243)],3⟩,1,⟨[(0,.aH [.agg [.v,.v,.v],vI])],[(0,.cells [.v,vI,.v,.sl 1 0,.gr 2 5,vI,vI] 220),(1,.arr 362),(2,.grow 5 243)],3⟩,⟨[(0,.eR 277 (.agg [vI]))],[(0,.cells [.v,vI,.v,.sl 1 0,.gr 2 5,vI,vI] 220),(1,.arr 362),(2,.grow 5 243)],3⟩⟩).ks) (Ip w) w
abbrev IK:=Int->Int->Value->Int->Value->Nat->Nat->Int->Int->Int->Int->List Value->List Value->List Value->Option (Int×Int×Value×Int×Value×Nat×Nat×Int×Int×List Value×List Value×List Value)
def Cf(a:Z×V×Z×V×N×N×Z×Z×L×L):DB:=bif ak a.1 a.1 then some (0,a.1,a.2.1,a.2.2.1,a.2.2.2.1,a.2.2.2.2.1,a.2.2.2.2.2.1,a.2.2.2.2.2.2.1,a.2.2.2.2.2.2.2.1,[],a.2.2.2.2.2.2.2.2.1,a.2.2.2.2.2.2.2.2.2) else none
def Gk(w:Nat)(a:Z)(b:Z)(c:V)(d:Z)(e:V)(f:N)(g:N)(h:Z)(i:Z)(j:L)(k:L)(l:L)(m:Z->Z->V->Z->V->N->N->Z->Z->Z->Z->L->L->L->DB)(n:Z)(o:Z):DB:=ob (eG w (!aq a 0) 2) λp=>dk p (λ_=>ob (Hc w b a c d e f g h i j k) λr=>dk r (λs=>bif aK l.length&&(aK 1&&(List.take 3 (List.drop 0 [s.1,s.2.1,s.2.2.1])).length.beq 3) then aG a λt=>aQ 4 t s.2.2.2.2.2.2.1 λu=>ag (List.drop 3 u) λv _=>aw .i64 v λz=>m s.2.2.2.1 z s.2.2.2.2.1 s.2.2.2.2.2.1 s.2.2.2.2.2.2.1 s.2.2.2.2.2.2.2.1 s.2.2.2.2.2.2.2.2.1 s.2.2.2.2.2.2.2.2.2.1 s.2.2.2.2.2.2.2.2.2.2.1 n o s.2.2.2.2.2.2.2.2.2.2.2.1 s.2.2.2.2.2.2.2.2.2.2.2.2 (l++List.take 3 (List.drop 0 [s.1,s.2.1,s.2.2.1])) else none) λa0=>Cf a0) λa1=>bif ak a1 a1 then some (0,a1,c,d,e,f,g,h,i,[],j,k) else none
def xW(w:Nat):IK->IK:=(λa b c d e f g h i j k l m n o=>bif aq 0 b then Gk w c b d e f g h i j m n o a k l else bif ak (Int.ofNat (o.length/3)) 0 then Gk w c b d e f g h i j m n o a k l else some (k,0,d,e,f,g,h,i,j,o,m,n))
def D3:IK:=(λ_ _ _ _ _ _ _ _ _ _ _ _ _ _=>none)
def G0(w:Nat):V->Z->V->N->N->Z->Z->L->L->DB:=λa b c d e f g h i=>ob (ri w c) λj=>ob (eG w j 1) λk=>dk k (λ_=>ob (Hb w a b c d e f g h i) λm=>dk m (λn=>lp D3 (xW w) w n.1 0 n.2.1 n.2.2.1 n.2.2.2.1 n.2.2.2.2.1 n.2.2.2.2.2.1 n.2.2.2.2.2.2.1 n.2.2.2.2.2.2.2.1 n.2.2.1 0 n.2.2.2.2.2.2.2.2.1 n.2.2.2.2.2.2.2.2.2 []) λo=>Cf o) λp=>bif ak p p then some (0,p,a,b,c,d,e,f,g,[],h,i) else none
def Cs(w:Nat):V->V->O (Z×V×V×Z):=λa b=>ob (GZ w a b) λc=>ob (G0 w c.1 c.2.1 c.2.2.1 c.2.2.2.1 c.2.2.2.2.1 c.2.2.2.2.2.1 c.2.2.2.2.2.2.1 c.2.2.2.2.2.2.2.1 c.2.2.2.2.2.2.2.2) λd=>bif !ak d.2.1 0 then some (0,ae 0 [],ae 0 [],d.2.1) else some (d.1,ae (List.length d.2.2.2.2.2.2.2.2.2.1 /3) d.2.2.2.2.2.2.2.2.2.1,ae (List.length d.2.2.2.2.2.2.2.2.2.2.2 /5) d.2.2.2.2.2.2.2.2.2.2.2,0)
def Gr(a:Z×V×V×V×V×V×V×V×Z):Dz:=some (a.1,a.2.1,a.2.2.1,a.2.2.2.1,a.2.2.2.2.1,a.2.2.2.2.2.1,a.2.2.2.2.2.2.1,a.2.2.2.2.2.2.2.1,a.2.2.2.2.2.2.2.2)
def Cr(w:Nat):V->Dz:=λa=>ob (Cv w) λb=>ob (Cs w a b) λc=>bif !ak c.2.2.2 0 then some (0,ae 0 [],ae 0 [],ae 0 [],ae 0 [],ae 0 [],ae 0 [],ae 0 [],c.2.2.2) else ob (GY w c.1 c.2.1) λd=>Gr d
def zX(w:Nat):V->Dz:=λa=>ob (Nf w a) λb=>bif !b then some (0,ae 0 [],ae 0 [],ae 0 [],ae 0 [],ae 0 [],ae 0 [],ae 0 [],7) else ob (Ng w a) λc=>bif !c then some (0,ae 0 [],ae 0 [],ae 0 [],ae 0 [],ae 0 [],ae 0 [],ae 0 [],3) else ob (CS w a) λd=>bif !d then some (0,ae 0 [],ae 0 [],ae 0 [],ae 0 [],ae 0 [],ae 0 [],ae 0 [],2) else ax a λe=>bif e.ble e&&Nat.ble 6 e then ib 1 6 e a λf=>ob (Cr w f) λg=>Gr g else none
def GD(w:Nat):V->Z->Z->O B:=λa b c=>ax a λd=>ob (Cq w a) λe=>bif !e then some false else aQ 1 12 a λf=>ag f λg _=>aw .u8 g λi=>bif !ak (ah .i64 i) (ah .i64 (b.add 1)) then some false else aQ 1 13 a λj=>ag j λk _=>aw .u8 k λm=>bif !ak (ah .i64 m) c then some false else bif ak (ah .i64 ((Int.ofNat d).sub 14)) 65519 then some true else bif ak b (ah .i64 (c.sub 1)) then bif !aq (ah .i64 ((Int.ofNat d).sub 14)) 1 then some (aq (ah .i64 ((Int.ofNat d).sub 14)) 65519) else some false else some false
def Ia(w:Nat):V->R0:=λa=>ax a λb=>bif aq 255 (Int.ofNat b) then some (ae 0 [],7) else ax a λc=>lp (α:=V->V->Z->Z->L->R0) (λ_ _ _ _ _=>none) (λi j k l m n=>bif aq m l then aG m λo=>aQ 1 o k λp=>ag p λq _=>ax q λs=>bif aq (Int.ofNat s) 14 then some (ae 0 [],3) else ax j λt=>ob (GD w q m (Int.ofNat t)) λu=>bif !u then some (ae 0 [],2) else ax q λv=>bif v.ble v&&Nat.ble 14 v then ib 1 14 v q λy=>eX 1 y λz a0=>bif aK n.length&&(aK z&&a0.length.beq (z*1)) then i j k l (ah .i64 (m.add 1)) (n++a0) else none else none else some (ae (n.length/1) n,0)) w a a (Int.ofNat c) 0 []
def zm:DC:=some (0,ae 0 [],ae 0 [],ae 0 [],ae 0 [],ae 0 [],ae 0 [],ae 0 [],ae 0 [],ae 0 [],ae 0 [],0,0,2)
def Gl(w:Nat)(a:V×Z)(b:Z×V×V×V×V×V×V×V×Z)(c:V×Z)(d:B×V×Z×V×V×V×V×V×V×V×V×V×V×Z×Z):DC:=bif !ak a.2 0 then zm else ob (zR w a.1) λe=>bif !e then zm else some (b.1,b.2.1,b.2.2.1,b.2.2.2.1,b.2.2.2.2.1,b.2.2.2.2.2.1,b.2.2.2.2.2.2.1,b.2.2.2.2.2.2.2.1,c.1,a.1,d.2.2.2.2.2.2.2.2.2.2.2.2.1,d.2.2.2.2.2.2.2.2.2.2.2.2.2.1,d.2.2.2.2.2.2.2.2.2.2.2.2.2.2,0)
def Cc(w:Nat)(a:V×Z×V×V×V×V×V×V×V×V×V×V×Z×Z×L)(b:V×B×V×Z×V×V×V×V×V×V×V×V×V×V×Z×Z):DC:=ob (Ow w a.1 a.2.1 a.2.2.1 a.2.2.2.1 a.2.2.2.2.1 a.2.2.2.2.2.1 a.2.2.2.2.2.2.1 a.2.2.2.2.2.2.2.1 a.2.2.2.2.2.2.2.2.1 a.2.2.2.2.2.2.2.2.2.1 a.2.2.2.2.2.2.2.2.2.2.1 a.2.2.2.2.2.2.2.2.2.2.2.1 a.2.2.2.2.2.2.2.2.2.2.2.2.1 a.2.2.2.2.2.2.2.2.2.2.2.2.2.1) λc=>bif c.1 then zm else ob (zX w b.1) λd=>bif !ak d.2.2.2.2.2.2.2.2 0 then some (0,ae 0 [],ae 0 [],ae 0 [],ae 0 [],ae 0 [],ae 0 [],ae 0 [],ae 0 [],ae 0 [],ae 0 [],0,0,d.2.2.2.2.2.2.2.2) else ob (Ia w (ae (List.length a.2.2.2.2.2.2.2.2.2.2.2.2.2.2 /1) a.2.2.2.2.2.2.2.2.2.2.2.2.2.2)) λe=>bif !ak e.2 0 then some (0,ae 0 [],ae 0 [],ae 0 [],ae 0 [],ae 0 [],ae 0 [],ae 0 [],ae 0 [],ae 0 [],ae 0 [],0,0,e.2) else eX 3 c.2.1 λf g=>bif g.length.beq (f*3)&&(Nat.ble 3 3&&Nat.beq 96 96) then bif(1+f).ble 1 then bif(3+g.length).ble 3 then ob (wZ w (ae (1+f) (List.drop 0 (aW 3 g [Value.int .i64 216,ae 0 [],ae 0 []])))) λh=>Gl w h d e c else none else bif aK f&&(aK 1&&(Builtin.nextslicecap (1+f) 1).ble 5000000000) then ob (wZ w (ae ((List.take 3 (List.drop 0 [Value.int .i64 216,ae 0 [],ae 0 []])++g).length/3) (List.take 3 (List.drop 0 [Value.int .i64 216,ae 0 [],ae 0 []])++g))) λi=>Gl w i d e c else none else none
def Hg(w:Nat):V->DC:=λa=>ob (zS w a) λb=>bif !ak b.2.2.2 0 then some (0,ae 0 [],ae 0 [],ae 0 [],ae 0 [],ae 0 [],ae 0 [],ae 0 [],ae 0 [],ae 0 [],ae 0 [],0,0,b.2.2.2) else ax b.1 λc=>bif c.ble c&&Nat.ble 1 c then ib 3 1 c b.1 λd=>ob (H8 w 225 d 0 (ae 0 []) (ae 0 []) (ae 0 []) (ae 0 []) (ae 0 []) (ae 0 []) (ae 0 []) (ae 0 []) (ae 0 []) (ae 0 []) 0 b.2.1) λe=>bif !e.2.1 then zm else ob (zU w 226 e.2.2.1 e.2.2.2.1 e.2.2.2.2.1 e.2.2.2.2.2.1 e.2.2.2.2.2.2.1 e.2.2.2.2.2.2.2.1 e.2.2.2.2.2.2.2.2.1 e.2.2.2.2.2.2.2.2.2.1 e.2.2.2.2.2.2.2.2.2.2.1 e.2.2.2.2.2.2.2.2.2.2.2.1 e.2.2.2.2.2.2.2.2.2.2.2.2.1 e.2.2.2.2.2.2.2.2.2.2.2.2.2.1 e.2.2.2.2.2.2.2.2.2.2.2.2.2.2.1 e.2.2.2.2.2.2.2.2.2.2.2.2.2.2.2) λf=>bif f.2.1 then ob (H9 w f.1) λg=>ax e.1 λh=>ob (zV w f.2.2.1 f.2.2.2.1 f.2.2.2.2.1 f.2.2.2.2.2.1 f.2.2.2.2.2.2.1 f.2.2.2.2.2.2.2.1 f.2.2.2.2.2.2.2.2.1 f.2.2.2.2.2.2.2.2.2.1 f.2.2.2.2.2.2.2.2.2.2.1 f.2.2.2.2.2.2.2.2.2.2.2.1 f.2.2.2.2.2.2.2.2.2.2.2.2.1 g (ah .i64 ((ah .i64 (Int.add 6 (Int.ofNat h))).add 4)) f.2.2.2.2.2.2.2.2.2.2.2.2.2.2.2) λi=>Cc w i e else ob (zV w f.2.2.1 f.2.2.2.1 f.2.2.2.2.1 f.2.2.2.2.2.1 f.2.2.2.2.2.2.1 f.2.2.2.2.2.2.2.1 f.2.2.2.2.2.2.2.2.1 f.2.2.2.2.2.2.2.2.2.1 f.2.2.2.2.2.2.2.2.2.2.1 f.2.2.2.2.2.2.2.2.2.2.2.1 f.2.2.2.2.2.2.2.2.2.2.2.2.1 f.2.2.2.2.2.2.2.2.2.2.2.2.2.1 f.2.2.2.2.2.2.2.2.2.2.2.2.2.2.1 f.2.2.2.2.2.2.2.2.2.2.2.2.2.2.2) λj=>Cc w j e else none
def wX(w:Nat):V->Z->O (Z×V×V×V×V×V×V×V×V×V×V×Z×Z×B):=λa b=>ob (HZ w a b) λc=>bif !ak c.2 0 then some (0,ae 0 [],ae 0 [],ae 0 [],ae 0 [],ae 0 [],ae 0 [],ae 0 [],ae 0 [],ae 0 [],ae 0 [],0,0,false) else aG b λd=>aQ 14 d a λe=>ag e λf g=>aw .i64 f λh=>ag g λi j=>ag j λk l=>ag l λm n=>ag n λo p=>ag p λq r=>ag r λs t=>ag t λu v=>ag v λy z=>ag z λa0 a1=>ag a1 λa2 a3=>aw .i64 a2 λ_=>ag a3 λa5 a6=>aw .i64 a5 λ_=>ag a6 λa8 a9=>aw .i64 a8 λ_=>ag a9 λ_ _=>ob (CB w h i k m o q s u y a0 c.1 0 0) λb3=>ob (Hg w b3.1) λb4=>some (b4.1,b4.2.1,b4.2.2.1,b4.2.2.2.1,b4.2.2.2.2.1,b4.2.2.2.2.2.1,b4.2.2.2.2.2.2.1,b4.2.2.2.2.2.2.2.1,b4.2.2.2.2.2.2.2.2.1,b4.2.2.2.2.2.2.2.2.2.1,b4.2.2.2.2.2.2.2.2.2.2.1,b4.2.2.2.2.2.2.2.2.2.2.2.1,b4.2.2.2.2.2.2.2.2.2.2.2.2.1,true)
def zK(_:Nat):Z->O B:=λa=>bif !aq a 0 then some !aq 4294967295 a else some false
def G3(w:Nat):Z->Z->R1:=λa b=>ob (zK w a) λc=>bif !c then some (0,false) else ob (zK w b) λd=>bif !d then some (0,false) else ob (zK w (ah .i64 (a.add b))) λe=>bif !e then some (0,false) else some (ah .i64 (a.add b),true)
def zA(w:Nat):Z->L->O (B×L):=λa b=>aG (ah .i64 ((Int.ofNat (b.length/1)).sub 1)) λc=>bif Nat.beq 1 1&&(c*1).blt b.length then ag (List.drop (0+c*1) b) λd _=>aw .i64 d λf=>ob (G3 w f a) λg=>bif aK b.length&&(aK ([Value.int .i64 g.1].length/1)&&[Value.int .i64 g.1].length.beq ([Value.int .i64 g.1].length/1*1)) then bif !g.2 then some (true,b++[Value.int .i64 g.1]) else some (aq a 1,b++[Value.int .i64 g.1]) else none else none
def fa(w:Nat):IV->IV:=(λa b c d e=>bif aq c b then aG c λf=>bif Nat.beq 1 1&&(f*1).blt d.length then ag (List.drop (0+f*1) d) λg _=>aw .i64 g λi=>ob (zA w i e) λj=>bif j.1 then some (c,d,j.2) else a b (ah .i64 (c.add 1)) d j.2 else none else some (-1,d,e))
def rn:IV:=(λ_ _ _ _=>none)
def zJ(w:Nat):L->L->O (Z×L×L):=λa b=>lp rn (fa w) w (Int.ofNat (a.length/1)) 0 a b
def G2(w:Nat):L->L->O (B×L×L):=λa b=>ob (zJ w a b) λc=>some (!aq c.1 0,c.2.1,c.2.2)
def uH(w:Nat):L->O (B×L×L):=λa=>ob (G2 w a [Value.int .i64 0]) λb=>bif b.1 then some (false,b.2.1,[]) else some (true,b.2.1,b.2.2)
def GN(w:Nat):Z->V->V->V->V->V->V->V->V->V->Z->Z->Z->V->V->L->O (B×V×L):=λ_ _ _ _ _ _ _ _ _ _ _ _ _ _ o p=>ob (wX w o (Int.ofNat (p.length/1))) λq=>bif aK p.length&&(aK ([Value.int .i64 q.2.2.2.2.2.2.2.2.2.2.2.2.1].length/1)&&[Value.int .i64 q.2.2.2.2.2.2.2.2.2.2.2.2.1].length.beq ([Value.int .i64 q.2.2.2.2.2.2.2.2.2.2.2.2.1].length/1*1)) then ob (uH w (p++[Value.int .i64 q.2.2.2.2.2.2.2.2.2.2.2.2.1])) λr=>bif !q.2.2.2.2.2.2.2.2.2.2.2.2.2 then some (true,o,r.2.1) else some (!r.1,o,r.2.1) else none
def ud(w:Nat):IP->IP:=(λa b c d e f=>bif aq d c then aG d λg=>aQ 14 g b λh=>ag h λi j=>aw .i64 i λk=>ag j λl m=>ag m λn o=>ag o λp q=>ag q λr s=>ag s λt u=>ag u λv y=>ag y λz a0=>ag a0 λa1 a2=>ag a2 λa3 a4=>ag a4 λa5 a6=>aw .i64 a5 λa7=>ag a6 λa8 a9=>aw .i64 a8 λb0=>ag a9 λb1 b2=>aw .i64 b1 λb3=>ag b2 λb4 _=>ob (GN w k l n p r t v z a1 a3 a7 b0 b3 b4 e f) λb6=>bif b6.1 then some (d,b6.2.1,b6.2.2) else a b c (ah .i64 (d.add 1)) b6.2.1 b6.2.2 else some (-1,e,f))
def BC:IP:=(λ_ _ _ _ _=>none)
def G1(w:Nat):V->V->L->O (Z×V×L):=λa b c=>ax a λd=>lp BC (ud w) w a (Int.ofNat d) 0 b c
def Nh(w:Nat):V->V->L->O (Z×V×L):=λa b c=>ob (G1 w a b c) λd=>some (d.1,d.2.1,d.2.2)
def OC(w:Nat):V->O Z:=λa=>ob (Nh w a a []) λb=>some b.1
def N8(_:Nat):O Unit:=some ()
def sM(_:Nat):B->O Z:=λa=>bif a then some 0 else some (-1)
def Ic(w:Nat):V->O Z:=λa=>ax a λb=>bif aq (Int.ofNat b) 1 then ob (sM w true) λc=>some c else ax a λd=>ob (sM w (aq 1000 (Int.ofNat d))) λe=>some e
def GI(w:Nat):Z->V->V->V->V->V->V->V->V->V->Z->Z->Z->V->O B:=λa b c d e f g h _ _ _ _ _ _=>ob (CH w a b c d e f g h) λo=>some !ak o.2 0
def NB(w:Nat):V->O Z:=λa=>ax a λb=>lp (α:=V->Z->Z->O Z) (λ_ _ _=>none) (λf g h i=>bif aq i h then aG i λj=>aQ 14 j g λk=>ag k λl m=>aw .i64 l λn=>ag m λo p=>ag p λq r=>ag r λs t=>ag t λu v=>ag v λy z=>ag z λa0 a1=>ag a1 λa2 a3=>ag a3 λa4 a5=>ag a5 λa6 a7=>ag a7 λa8 a9=>aw .i64 a8 λb0=>ag a9 λb1 b2=>aw .i64 b1 λb3=>ag b2 λb4 b5=>aw .i64 b4 λb6=>ag b5 λb7 _=>ob (GI w n o q s u y a0 a2 a4 a6 b0 b3 b6 b7) λb9=>bif b9 then some i else f g h (ah .i64 (i.add 1)) else some (-1)) w a (Int.ofNat b) 0
def Ni(w:Nat):V->O Z:=λa=>ob (NB w a) λb=>some b
def Ox(w:Nat):V->O Z:=λa=>ob (Ni w a) λb=>some b
def GJ(w:Nat):Z->V->V->V->V->V->V->V->V->V->Z->Z->Z->V->O B:=λ_ _ _ _ _ _ _ _ i _ _ _ _ _=>ax i λo=>ob (CU w (Int.ofNat o)) λp=>some (aq 255 p)
def NC(w:Nat):V->O Z:=λa=>ax a λb=>lp (α:=V->Z->Z->O Z) (λ_ _ _=>none) (λf g h i=>bif aq i h then aG i λj=>aQ 14 j g λk=>ag k λl m=>aw .i64 l λn=>ag m λo p=>ag p λq r=>ag r λs t=>ag t λu v=>ag v λy z=>ag z λa0 a1=>ag a1 λa2 a3=>ag a3 λa4 a5=>ag a5 λa6 a7=>ag a7 λa8 a9=>aw .i64 a8 λb0=>ag a9 λb1 b2=>aw .i64 b1 λb3=>ag b2 λb4 b5=>aw .i64 b4 λb6=>ag b5 λb7 _=>ob (GJ w n o q s u y a0 a2 a4 a6 b0 b3 b6 b7) λb9=>bif b9 then some i else f g h (ah .i64 (i.add 1)) else some (-1)) w a (Int.ofNat b) 0
def Nj(w:Nat):V->O Z:=λa=>ob (NC w a) λb=>some b
def Oy(w:Nat):V->O Z:=λa=>ob (Nj w a) λb=>some b
def GK(w:Nat):Z->V->V->V->V->V->V->V->V->V->Z->Z->Z->V->O B:=λ_ _ _ _ _ _ _ _ _ j _ _ _ _=>ob (zR w j) λo=>some !o
def ND(w:Nat):V->O Z:=λa=>ax a λb=>lp (α:=V->Z->Z->O Z) (λ_ _ _=>none) (λf g h i=>bif aq i h then aG i λj=>aQ 14 j g λk=>ag k λl m=>aw .i64 l λn=>ag m λo p=>ag p λq r=>ag r λs t=>ag t λu v=>ag v λy z=>ag z λa0 a1=>ag a1 λa2 a3=>ag a3 λa4 a5=>ag a5 λa6 a7=>ag a7 λa8 a9=>aw .i64 a8 λb0=>ag a9 λb1 b2=>aw .i64 b1 λb3=>ag b2 λb4 b5=>aw .i64 b4 λb6=>ag b5 λb7 _=>ob (GK w n o q s u y a0 a2 a4 a6 b0 b3 b6 b7) λb9=>bif b9 then some i else f g h (ah .i64 (i.add 1)) else some (-1)) w a (Int.ofNat b) 0
def Nk(w:Nat):V->O Z:=λa=>ob (ND w a) λb=>some b
def Oz(w:Nat):V->O Z:=λa=>ob (Nk w a) λb=>some b
def GL(w:Nat):Z->V->V->V->V->V->V->V->V->V->Z->Z->Z->V->O B:=λ_ _ _ _ _ _ _ _ _ _ k l m _=>ob (gR w k 4 2) λo=>ob (gR w l 2 2) λp=>ob (gR w m 2 2) λq=>bif !o.2 then some true else bif !p.2 then some true else some !q.2
def NF(w:Nat):V->O Z:=λa=>ax a λb=>lp (α:=V->Z->Z->O Z) (λ_ _ _=>none) (λf g h i=>bif aq i h then aG i λj=>aQ 14 j g λk=>ag k λl m=>aw .i64 l λn=>ag m λo p=>ag p λq r=>ag r λs t=>ag t λu v=>ag v λy z=>ag z λa0 a1=>ag a1 λa2 a3=>ag a3 λa4 a5=>ag a5 λa6 a7=>ag a7 λa8 a9=>aw .i64 a8 λb0=>ag a9 λb1 b2=>aw .i64 b1 λb3=>ag b2 λb4 b5=>aw .i64 b4 λb6=>ag b5 λb7 _=>ob (GL w n o q s u y a0 a2 a4 a6 b0 b3 b6 b7) λb9=>bif b9 then some i else f g h (ah .i64 (i.add 1)) else some (-1)) w a (Int.ofNat b) 0
def Nl(w:Nat):V->O Z:=λa=>ob (NF w a) λb=>some b
def OA(w:Nat):V->O Z:=λa=>ob (Nl w a) λb=>some b
def GM(w:Nat):Z->V->V->V->V->V->V->V->V->V->Z->Z->Z->V->O B:=λ_ _ _ _ _ _ _ _ _ _ _ _ _ n=>ob (o7 w 5 n) λo=>some !o
def NG(w:Nat):V->O Z:=λa=>ax a λb=>lp (α:=V->Z->Z->O Z) (λ_ _ _=>none) (λf g h i=>bif aq i h then aG i λj=>aQ 14 j g λk=>ag k λl m=>aw .i64 l λn=>ag m λo p=>ag p λq r=>ag r λs t=>ag t λu v=>ag v λy z=>ag z λa0 a1=>ag a1 λa2 a3=>ag a3 λa4 a5=>ag a5 λa6 a7=>ag a7 λa8 a9=>aw .i64 a8 λb0=>ag a9 λb1 b2=>aw .i64 b1 λb3=>ag b2 λb4 b5=>aw .i64 b4 λb6=>ag b5 λb7 _=>ob (GM w n o q s u y a0 a2 a4 a6 b0 b3 b6 b7) λb9=>bif b9 then some i else f g h (ah .i64 (i.add 1)) else some (-1)) w a (Int.ofNat b) 0
def Nn(w:Nat):V->O Z:=λa=>ob (NG w a) λb=>some b
def OB(w:Nat):V->O Z:=λa=>ob (Nn w a) λb=>some b
def Ig(w:Nat):V->O Z:=λa=>aQ 14 0 a λb=>ag b λc d=>aw .i64 c λ_=>ag d λ_ g=>ag g λ_ i=>ag i λ_ k=>ag k λ_ m=>ag m λ_ o=>ag o λ_ q=>ag q λ_ s=>ag s λ_ u=>ag u λ_ y=>ag y λz a0=>aw .i64 z λa1=>ag a0 λa2 a3=>aw .i64 a2 λa4=>ag a3 λa5 a6=>aw .i64 a5 λa7=>ag a6 λa8 _=>ax a λb0=>bif ak (Int.ofNat b0) 1 then bif !ak a1 0 then ob (sM w true) λb1=>some b1 else bif !ak a4 0 then ob (sM w true) λb2=>some b2 else bif !ak a7 0 then ob (sM w true) λb3=>some b3 else ax a8 λb4=>ob (sM w (aq 0 (Int.ofNat b4))) λb5=>some b5 else ob (sM w false) λb6=>some b6
def Gn:=((ah .i64 ((ah .i64 ((ah .i64 (Int.add 0 1)).add 1)).add 1)).add 1)
def Gt:=((ah .i64 ((ah .i64 (Gn)).add 1)).add 1)
def nu(w:Nat):V->O (Z×Z):=λa=>ob (N8 w) λ_=>ob (Ic w a) λc=>bif !aq c 0 then some (ah .i64 (Int.add 0 1),c) else ob (Ox w a) λd=>bif !aq d 0 then some (ah .i64 ((ah .i64 (Int.add 0 1)).add 1),d) else ob (Oy w a) λe=>bif !aq e 0 then some (ah .i64 ((ah .i64 ((ah .i64 (Int.add 0 1)).add 1)).add 1),e) else ob (Oz w a) λf=>bif !aq f 0 then some (ah .i64 (Gn),f) else ob (OA w a) λg=>bif !aq g 0 then some (ah .i64 ((ah .i64 (Gn)).add 1),g) else ob (OB w a) λh=>bif !aq h 0 then some (ah .i64 (Gt),h) else ob (Ig w a) λi=>bif !aq i 0 then some (ah .i64 ((ah .i64 (Gt)).add 1),i) else ob (OC w a) λj=>bif !aq j 0 then some (ah .i64 ((ah .i64 ((ah .i64 (Gt)).add 1)).add 1),j) else some (0,0)
def sK(w:Nat):V->O Z:=λa=>ob (nu w a) λb=>bif ak b.1 0 then some 0 else bif ak b.1 1 then ax a λc=>bif ak (Int.ofNat c) 0 then some 1 else some 7 else bif ak b.1 2 then aG b.2 λd=>aQ 14 d a λe=>ag (List.drop 0 e) λf g=>aw .i64 f λh=>ag g λi j=>ag j λk l=>ag l λm n=>ag n λo p=>ag p λq r=>ag r λs t=>ag t λu _=>ob (CH w h i k m o q s u) λy=>some y.2 else bif ak b.1 4 then some 2 else bif ak b.1 5 then some 1 else bif ak b.1 7 then some 1 else bif ak b.1 6 then some 6 else some 7
def MO(a:Z×V×V×V×V×V×V×V×V×V×V×Z×Z×B):=(List.drop 0 [Value.int .i64 a.1,a.2.1,a.2.2.1,a.2.2.2.1,a.2.2.2.2.1,a.2.2.2.2.2.1,a.2.2.2.2.2.2.1,a.2.2.2.2.2.2.2.1,a.2.2.2.2.2.2.2.2.1,a.2.2.2.2.2.2.2.2.2.1,a.2.2.2.2.2.2.2.2.2.2.1,Value.int .i64 a.2.2.2.2.2.2.2.2.2.2.2.1,Value.int .i64 a.2.2.2.2.2.2.2.2.2.2.2.2.1])
def GP(w:Nat):V->O V:=λa=>ob (sK w a) λb=>bif !ak b 0 then some (ae 0 []) else ax a λc=>lp (α:=Z->Z->V->L->O V) (λ_ _ _ _=>none) (λh i j k l=>bif aq j i then ob (wX w k j) λm=>bif aK l.length&&(aK 1&&(List.take 13 (MO m)).length.beq 13) then h i (ah .i64 (j.add 1)) k (l++List.take 13 (MO m)) else none else some (ae (l.length/13) l)) w (Int.ofNat c) 0 a []
def aiS(w:Nat):V->Z->O V:=λa b=>bif aq b 0 then some (ae 0 []) else ax a λc=>bif !aq b (Int.ofNat c) then some (ae 0 []) else ob (sK w a) λd=>bif !ak d 0 then some (ae 0 []) else ob (HZ w a b) λe=>some e.1
def nr(w:Nat):V->O B:=λa=>lp (α:=V->Z->O B) (λ_ _=>none) (λd e f=>ax e λg=>bif aq f (Int.ofNat g) then aG f λh=>aQ 4 h e λi=>ag (List.drop 2 (List.drop 1 i)) λj _=>ax j λl=>bif aq 600 (Int.ofNat l) then some true else d e (ah .i64 (f.add 1)) else ax e λm=>some (aq 60 (Int.ofNat m))) w a 0
abbrev IX:=Int->Int->Value->Option Bool
def uR(w:Nat):IX->IX:=(λa b c d=>bif aq c b then aG c λe=>aQ 14 e d λf=>ag f λg h=>aw .i64 g λ_=>ag h λj k=>ag k λl m=>ag m λn o=>ag o λp q=>ag q λr s=>ag s λt u=>ag u λv y=>ag y λz a0=>ag a0 λa1 a2=>ag a2 λa3 a4=>aw .i64 a3 λ_=>ag a4 λa6 a7=>aw .i64 a6 λ_=>ag a7 λa9 b0=>aw .i64 a9 λ_=>ag b0 λb2 _=>ob (nr w j) λb4=>bif b4 then some true else ob (nr w l) λb5=>bif b5 then some true else ob (nr w n) λb6=>bif b6 then some true else ob (nr w p) λb7=>bif b7 then some true else ob (nr w r) λb8=>bif b8 then some true else ob (nr w b2) λb9=>bif b9 then some true else ax t λc0=>bif aq 2000 (Int.ofNat c0) then some true else ax v λc1=>bif aq 2000 (Int.ofNat c1) then some true else ax z λc2=>bif aq 2000 (Int.ofNat c2) then some true else ax a1 λc3=>bif aq 2000 (Int.ofNat c3) then some true else a b (ah .i64 (c.add 1)) d else some false)
def Ie(w:Nat):V->O B:=λa=>ax a λb=>bif aq 6 (Int.ofNat b) then bif !aq 1000 (Int.ofNat b) then some true else bif aq 1100 (Int.ofNat b) then some true else lp (λ(_ _:Z)(_:V)=>none) (uR w) w (Int.ofNat b) 0 a else bif aq 1100 (Int.ofNat b) then some true else lp (α:=Z->Z->V->O B) (λ_ _ _=>none) (λi j k l=>bif aq k j then aG k λm=>aQ 14 m l λn=>ag n λo p=>aw .i64 o λ_=>ag p λr s=>ag s λt u=>ag u λv y=>ag y λz a0=>ag a0 λa1 a2=>ag a2 λa3 a4=>ag a4 λa5 a6=>ag a6 λa7 a8=>ag a8 λa9 b0=>ag b0 λb1 b2=>aw .i64 b1 λ_=>ag b2 λb4 b5=>aw .i64 b4 λ_=>ag b5 λb7 b8=>aw .i64 b7 λ_=>ag b8 λc0 _=>ob (nr w r) λc2=>bif c2 then some true else ob (nr w t) λc3=>bif c3 then some true else ob (nr w v) λc4=>bif c4 then some true else ob (nr w z) λc5=>bif c5 then some true else ob (nr w a1) λc6=>bif c6 then some true else ob (nr w c0) λc7=>bif c7 then some true else ax a3 λc8=>bif aq 2000 (Int.ofNat c8) then some true else ax a5 λc9=>bif aq 2000 (Int.ofNat c9) then some true else ax a7 λd0=>bif aq 2000 (Int.ofNat d0) then some true else ax a9 λd1=>bif aq 2000 (Int.ofNat d1) then some true else i j (ah .i64 (k.add 1)) l else some false) w (Int.ofNat b) 0 a
def CT(_:Nat):Z->O Z:=λa=>bif ak a 1 then some 1 else bif ak a 2 then some 1 else bif ak a 6 then some 1 else bif ak a 7 then some 1 else bif ak a 3 then some 2 else bif ak a 8 then some 2 else bif ak a 4 then some 4 else bif ak a 9 then some 4 else bif ak a 11 then some 4 else bif ak a 5 then some 8 else bif ak a 10 then some 8 else bif ak a 12 then some 8 else some 0
def VH(_:Nat):Z->O B:=λa=>bif ak a 6 then some true else bif ak a 8 then some true else bif ak a 9 then some true else some (ak a 10)
def GO(w:Nat):Z->O Z:=λa=>bif ak a 5 then some 4 else bif ak a 10 then some 4 else ob (CT w a) λb=>some b
def G4(_:Nat):Z->O Z:=λa=>bif ak a 1 then some 256 else bif ak a 2 then some 65536 else bif ak a 4 then some 4294967296 else some 0
def VI(w:Nat):Z->Z->R1:=λa b=>ob (G4 w b) λc=>bif aq a (ah .i64 (Int.sub 0 (ah .i64 (c.tdiv 2)))) then some (0,false) else bif !aq a (ah .i64 (c.tdiv 2)) then some (0,false) else bif aq a 0 then ob (G4 w b) λd=>some (ah .i64 (a.add d),true) else some (a,true)
def Np(w:Nat):Z->Z->Z->R2:=λa b c=>bif aq c 1 then some (ae 0 [],false) else bif aq 2 c then some (ae 0 [],false) else bif aq a 0 then some (ae 0 [],false) else ob (G4 w b) λd=>bif !aq a d then some (ae 0 [],false) else lp (α:=Z->Z->Z->Z->L->R2) (λ_ _ _ _ _=>none) (λj k l m n o=>bif aq n l then bif ak m 1 then bif aK o.length&&(aK ([Value.int .u8 (ah .u8 (k.tmod 256))].length/1)&&[Value.int .u8 (ah .u8 (k.tmod 256))].length.beq ([Value.int .u8 (ah .u8 (k.tmod 256))].length/1*1)) then j (ah .i64 (k.tdiv 256)) l m (ah .i64 (n.add 1)) (o++[Value.int .u8 (ah .u8 (k.tmod 256))]) else none else bif aK [Value.int .u8 (ah .u8 (k.tmod 256))].length&&(aK (o.length/1)&&o.length.beq (o.length/1*1)) then j (ah .i64 (k.tdiv 256)) l m (ah .i64 (n.add 1)) ([Value.int .u8 (ah .u8 (k.tmod 256))]++o) else none else some (ae (o.length/1) o,true)) w a b c 0 []
def VJ(w:Nat):Z->Z->V->O B:=λa b c=>ob (CT w a) λd=>bif ak d 0 then some false else bif aq b 1 then some false else bif aq 65536 b then some false else ax c λe=>ob (CT w a) λf=>bif !ak (Int.ofNat e) (ah .i64 (b.mul f)) then some false else lp (α:=Z->Z->Z->V->O B) (λ_ _ _ _=>none) (λk l m n o=>ax o λp=>bif aq l (Int.ofNat p) then bif ak m 2 then aG l λq=>aQ 1 q o λr=>ag r λs _=>aw .u8 s λu=>ax o λv=>bif !ak u 0==ak l (ah .i64 ((Int.ofNat v).sub 1)) then some false else k (ah .i64 (l.add 1)) m n o else some true else some true) w 0 a b c
def Wj(w:Nat):Z->V->Z->R5:=λa b c=>ax b λd=>bif ak c 0 then none else lp (α:=Z->V->Z->Z->Z->Z->Z->L->L->R5) (λ_ _ _ _ _ _ _ _ _=>none) (λn o p q r s t u v y=>ax p λz=>bif aq q (Int.ofNat z) then aG q λa0=>aQ 1 a0 p λa1=>ag a1 λa2 _=>aw .i64 a2 λa4=>ob (VH w o) λa5=>bif a5 then ob (GO w o) λa6=>ob (VI w a4 a6) λa7=>bif !a7.2 then some (0,0,ae 0 [],false) else ob (GO w o) λa8=>ob (Np w a7.1 a8 2) λa9=>bif !a9.2 then some (0,0,ae 0 [],false) else eX 1 a9.1 λb0 b1=>bif aK y.length&&(aK b0&&b1.length.beq (b0*1)) then n o p (ah .i64 (q.add 1)) r s t u v (y++b1) else none else ob (GO w o) λb2=>ob (Np w a4 b2 2) λb3=>bif !b3.2 then some (0,0,ae 0 [],false) else eX 1 b3.1 λb4 b5=>bif aK y.length&&(aK b4&&b5.length.beq (b4*1)) then n o p (ah .i64 (q.add 1)) r s t u v (y++b5) else none else ob (VJ w t u (ae (y.length/1) y)) λb6=>bif !b6 then some (0,0,ae 0 [],false) else some (t,u,ae (y.length/1) y,true)) w a b 0 0 0 a (ah .i64 ((Int.ofNat d).tdiv c)) [] []
def N9(w:Nat):Z->V->R5:=λa b=>ob (CT w a) λc=>bif ak c 0 then some (0,0,ae 0 [],false) else bif ak a 5 then some (0,0,ae 0 [],false) else bif !aq a 10 then some (0,0,ae 0 [],false) else ob (Wj w a b 1) λd=>some (d.1,d.2.1,d.2.2.1,d.2.2.2)
def rb(w:Nat):O (Z×V×V×V×V×V×V×V×V×V×Z×Z×Z×V):=ob (N9 w 3 (ae 1 [Value.int .i64 1])) λa=>some (2,ae 1 (List.drop 0 [Value.int .i64 274,Value.int .i64 a.1,Value.int .i64 a.2.1,a.2.2.1]),ae 0 [],ae 0 [],ae 0 [],ae 0 [],ae 0 [],ae 0 [],ae 0 [],ae 15 (List.drop 0 [Value.int .u8 255,Value.int .u8 216,Value.int .u8 255,Value.int .u8 218,Value.int .u8 0,Value.int .u8 8,Value.int .u8 1,Value.int .u8 1,Value.int .u8 0,Value.int .u8 0,Value.int .u8 63,Value.int .u8 0,Value.int .u8 7,Value.int .u8 255,Value.int .u8 217]),0,0,0,ae 0 [])
def q9(_:Nat):V->O V:=λa=>some a
def sQ(w:Nat):V->Z->Z->O B:=λa b c=>ob (nu w a) λd=>bif ak d.1 b then bif ak d.2 c then ob (sK w a) λe=>some (ak e 0==ak b 0) else some false else some false
def MI(w:Nat)(a:Z×V×V×V×V×V×V×V×V×V×Z×Z×Z×V):=(q9 w (ae 2 (List.drop 0 [Value.int .i64 a.1,a.2.1,a.2.2.1,a.2.2.2.1,a.2.2.2.2.1,a.2.2.2.2.2.1,a.2.2.2.2.2.2.1,a.2.2.2.2.2.2.2.1,a.2.2.2.2.2.2.2.2.1,a.2.2.2.2.2.2.2.2.2.1,Value.int .i64 1,Value.int .i64 a.2.2.2.2.2.2.2.2.2.2.2.1,Value.int .i64 a.2.2.2.2.2.2.2.2.2.2.2.2.1,a.2.2.2.2.2.2.2.2.2.2.2.2.2,Value.int .i64 a.1,a.2.1,a.2.2.1,a.2.2.2.1,a.2.2.2.2.1,a.2.2.2.2.2.1,a.2.2.2.2.2.2.1,a.2.2.2.2.2.2.2.1,a.2.2.2.2.2.2.2.2.1,a.2.2.2.2.2.2.2.2.2.1,Value.int .i64 1,Value.int .i64 a.2.2.2.2.2.2.2.2.2.2.2.1,Value.int .i64 a.2.2.2.2.2.2.2.2.2.2.2.2.1,a.2.2.2.2.2.2.2.2.2.2.2.2.2])))
def mv(w:Nat):O B:=ob (rb w) λa=>ob (rb w) λb=>ob (rb w) λc=>ob (rb w) λd=>ob (q9 w (ae 0 [])) λe=>ob (sQ w e 1 0) λf=>bif f then ob (q9 w (ae 1 (List.drop 0 [Value.int .i64 1,ae 0 [],ae 0 [],ae 0 [],ae 0 [],ae 0 [],ae 0 [],ae 0 [],d.2.2.2.2.2.2.2.2.1,d.2.2.2.2.2.2.2.2.2.1,Value.int .i64 d.2.2.2.2.2.2.2.2.2.2.1,Value.int .i64 d.2.2.2.2.2.2.2.2.2.2.2.1,Value.int .i64 d.2.2.2.2.2.2.2.2.2.2.2.2.1,d.2.2.2.2.2.2.2.2.2.2.2.2.2]))) λg=>ob (sQ w g 2 0) λh=>bif h then ob (q9 w (ae 1 (List.drop 0 [Value.int .i64 a.1,a.2.1,a.2.2.1,a.2.2.2.1,a.2.2.2.2.1,a.2.2.2.2.2.1,a.2.2.2.2.2.2.1,a.2.2.2.2.2.2.2.1,a.2.2.2.2.2.2.2.2.1,a.2.2.2.2.2.2.2.2.2.1,Value.int .i64 1,Value.int .i64 a.2.2.2.2.2.2.2.2.2.2.2.1,Value.int .i64 a.2.2.2.2.2.2.2.2.2.2.2.2.1,a.2.2.2.2.2.2.2.2.2.2.2.2.2]))) λi=>ob (sQ w i 7 0) λj=>bif j then ob (MI w a) λk=>ob (sQ w k 0 0) λl=>bif l then ob (rb w) λm=>ob (q9 w (ae 1 (List.drop 0 [Value.int .i64 m.1,m.2.1,m.2.2.1,m.2.2.2.1,m.2.2.2.2.1,m.2.2.2.2.2.1,m.2.2.2.2.2.2.1,m.2.2.2.2.2.2.2.1,m.2.2.2.2.2.2.2.2.1,m.2.2.2.2.2.2.2.2.2.1,Value.int .i64 m.2.2.2.2.2.2.2.2.2.2.1,Value.int .i64 m.2.2.2.2.2.2.2.2.2.2.2.1,Value.int .i64 m.2.2.2.2.2.2.2.2.2.2.2.2.1,m.2.2.2.2.2.2.2.2.2.2.2.2.2]))) λn=>ob (sQ w n 0 0) λo=>bif o then ob (rb w) λp=>ob (q9 w (ae 3 (List.drop 0 [Value.int .i64 p.1,p.2.1,p.2.2.1,p.2.2.2.1,p.2.2.2.2.1,p.2.2.2.2.2.1,p.2.2.2.2.2.2.1,p.2.2.2.2.2.2.2.1,p.2.2.2.2.2.2.2.2.1,p.2.2.2.2.2.2.2.2.2.1,Value.int .i64 p.2.2.2.2.2.2.2.2.2.2.1,Value.int .i64 p.2.2.2.2.2.2.2.2.2.2.2.1,Value.int .i64 p.2.2.2.2.2.2.2.2.2.2.2.2.1,p.2.2.2.2.2.2.2.2.2.2.2.2.2,Value.int .i64 b.1,b.2.1,b.2.2.1,b.2.2.2.1,b.2.2.2.2.1,b.2.2.2.2.2.1,b.2.2.2.2.2.2.1,b.2.2.2.2.2.2.2.1,b.2.2.2.2.2.2.2.2.1,b.2.2.2.2.2.2.2.2.2.1,Value.int .i64 b.2.2.2.2.2.2.2.2.2.2.1,Value.int .i64 (-1),Value.int .i64 b.2.2.2.2.2.2.2.2.2.2.2.2.1,b.2.2.2.2.2.2.2.2.2.2.2.2.2,Value.int .i64 c.1,c.2.1,c.2.2.1,c.2.2.2.1,c.2.2.2.2.1,c.2.2.2.2.2.1,c.2.2.2.2.2.2.1,c.2.2.2.2.2.2.2.1,c.2.2.2.2.2.2.2.2.1,ae 0 [],Value.int .i64 c.2.2.2.2.2.2.2.2.2.2.1,Value.int .i64 c.2.2.2.2.2.2.2.2.2.2.2.1,Value.int .i64 c.2.2.2.2.2.2.2.2.2.2.2.2.1,c.2.2.2.2.2.2.2.2.2.2.2.2.2]))) λq=>ob (sQ w q 4 2) λr=>bif r then ob (MI w a) λs=>ob (GP w s) λt=>ax t λu=>some (ak (Int.ofNat u) 2) else some false else some false else some false else some false else some false else some false
def ajc(w:Nat):Z->Z->V->Z->Z->V->O B:=λa b c d e f=>bif ak a d then bif ak b e then ob (H7 w c f) λg=>some g else some false else some false
def ajd(w:Nat):Z->Z->Z->V->Z->Z->Z->V->O B:=λa b c d e f g h=>bif ak a e then ob (ajc w b c d f g h) λi=>some i else some false
def aiO(w:Nat):V->V->O B:=λa b=>ax a λc=>ax b λd=>bif !ak (Int.ofNat c) (Int.ofNat d) then some false else ax a λe=>lp (α:=V->V->Z->Z->O B) (λ_ _ _ _=>none) (λj k l m n=>bif aq n m then aG n λo=>aQ 4 o l λp=>ag p λq r=>aw .i64 q λs=>ag r λt u=>aw .i64 t λv=>ag u λy z=>aw .i64 y λa0=>ag z λa1 _=>aG n λa3=>aQ 4 a3 k λa4=>ag a4 λa5 a6=>aw .i64 a5 λa7=>ag a6 λa8 a9=>aw .i64 a8 λb0=>ag a9 λb1 b2=>aw .i64 b1 λb3=>ag b2 λb4 _=>ob (ajd w s v a0 a1 a7 b0 b3 b4) λb6=>bif !b6 then some false else j k l m (ah .i64 (n.add 1)) else some true) w b a (Int.ofNat e) 0
def ai6(w:Nat):Z->V->V->V->V->V->V->V->Z->V->V->V->V->V->V->V->O B:=λa b c d e f g h i j k l m n o p=>ob (OD w a b c d e f g h) λq=>ob (OD w i j k l m n o p) λr=>ob (aiO w q.2.1 r.2.1) λs=>bif !s then some false else ob (aiO w q.2.2.2.1 r.2.2.2.1) λt=>bif !t then some false else ob (aiO w q.2.2.2.2.2.1 r.2.2.2.2.2.1) λu=>bif !u then some false else ob (aiO w q.2.2.2.2.2.2.2.1 r.2.2.2.2.2.2.2.1) λv=>bif !v then some false else ob (aiO w q.2.2.2.2.2.2.2.2.2 r.2.2.2.2.2.2.2.2.2) λy=>bif !y then some false else bif ak a i then ob (H7 w g o) λz=>bif z then ob (H7 w h p) λa0=>some a0 else some false else some false
def ai4(w:Nat):Z->V->V->V->V->V->V->V->V->V->V->Z->Z->Z->V->V->V->V->V->V->V->V->V->V->Z->Z->O B:=λa b c d e f g h i j k _ _ n o p q r s t u v y z _ _=>ob (ai6 w a b c d e f g h n o p q r s t u) λa2=>bif a2 then ob (H7 w i v) λa3=>bif a3 then ob (H7 w j y) λa4=>bif a4 then ob (H7 w k z) λa5=>some a5 else some false else some false else some false
def ai3(w:Nat):V->O B:=λa=>Vs w a
def ai7(w:Nat):V->V->O (Z×V×V×Z):=λa b=>ax a λc=>bif aq 65533 (Int.ofNat c) then some (0,ae 0 [],ae 0 [],7) else ax a λd=>bif aq (Int.ofNat d) 4 then some (0,ae 0 [],ae 0 [],3) else ob (ai3 w a) λe=>bif !e then some (0,ae 0 [],ae 0 [],2) else ax a λf=>bif f.ble f&&Nat.ble 4 f then ib 1 4 f a λg=>ob (Cs w g b) λh=>some (h.1,h.2.1,h.2.2.1,h.2.2.2) else none
def aiM(w:Nat):Z->Z->V->V->V->O (V×V×V×V):=λa b c d e=>ob (GF w c a) λf=>bif f.2.2.2 then bif ak f.1 b then some (f.2.2.1,c,d,e) else some (ae 0 [],c,d,e) else some (ae 0 [],c,d,e)
def aiU(w:Nat):V->Z->Z->O (Z×Z×Z×Z×Z):=λa b c=>ob (NA w 0 0 0 0 0) λ_=>ob (wS w) λe=>ob (sL w a b e.1 c) λf=>ob (wS w) λg=>ob (wS w) λh=>ob (sL w a (ah .i64 (b.add g.1)) h.2.1 c) λi=>ob (wS w) λj=>ob (wS w) λk=>ob (sL w a (ah .i64 ((ah .i64 (b.add g.1)).add j.2.1)) k.2.2.1 c) λl=>ob (wS w) λm=>ob (wS w) λn=>ob (sL w a (ah .i64 ((ah .i64 ((ah .i64 (b.add g.1)).add j.2.1)).add m.2.2.1)) n.2.2.2.1 c) λo=>ob (wS w) λp=>ob (wS w) λq=>ob (sL w a (ah .i64 ((ah .i64 ((ah .i64 ((ah .i64 (b.add g.1)).add j.2.1)).add m.2.2.1)).add p.2.2.2.1)) q.2.2.2.2 c) λr=>ob (wS w) λ_=>some (f.1,i.1,l.1,o.1,r.1)
abbrev aiY:=Value->Int->Int->Int->Value->Int->Value->List Value->List Value->Option (Int×Value×Value×Bool)
abbrev aiX:=Value->Int->Int->Value->Int->Value->Int->Value->List Value->List Value->Option (Int×Value×Value×Bool)
def aiR(a:Z)(b:Z)(c:V)(d:V->Z->Z->Z->V->Z->V->L->L->ajN)(e:Z)(f:V)(g:Z)(h:L)(i:L)(j:V):ajN:=bif aq a b then aG a λk=>aQ 3 k c λl=>ag l λm n=>ag n λ_ p=>ag p λ_ _=>d c b (ah .i64 (a.add 1)) e f g m h i else some (g,ae (i.length/5) i,j,true)
def ai1:aiY->aiY:=(λa b c d e f g h i j=>aiR d c b a e f g i j h)
def ajg:aiY:=(λ_ _ _ _ _ _ _ _ _=>none)
def aiN(a:Z×Z×Z×Z×Z):=(List.drop 0 [Value.int .i64 a.1,Value.int .i64 a.2.1,Value.int .i64 a.2.2.1,Value.int .i64 a.2.2.2.1,Value.int .i64 a.2.2.2.2])
def ixF(w:Nat):aiX->aiX:=(λa b c d e f g h i j k=>ax b λl=>bif aq c (Int.ofNat l) then ob (aiU w b c d) λm=>bif aK k.length&&(aK 1&&(List.take 5 (aiN m)).length.beq 5) then a b (ah .i64 (c.add 16)) d e f g h i j (k++List.take 5 (aiN m)) else none else ax e λn=>bif n.ble n&&Nat.ble 1 n then ib 3 1 n e λo=>ax o λp=>lp ajg ai1 w o (Int.ofNat p) 0 f g h i j k else none)
def ixZ:aiX:=(λ_ _ _ _ _ _ _ _ _ _=>none)
def aiW(w:Nat):Z->V->ajN:=λa b=>aQ 3 0 b λc=>ag c λd e=>ag e λf g=>ag g λh _=>ax d λj=>bif !ak (Int.ofNat j) 3 then some (0,ae 0 [],ae 0 [],false) else ax b λk=>bif aq 1 (Int.ofNat k) then aQ 3 1 b λl=>ag (List.drop 0 l) λm _=>ob (o7 w 5 m) λo=>bif !o then some (0,ae 0 [],ae 0 [],false) else ob (aiM w 45058 7 d f h) λp=>ob (aiM w 45057 4 p.2.1 p.2.2.1 p.2.2.2) λq=>ob (sL w q.1 0 4 2) λr=>bif !r.2 then some (0,ae 0 [],ae 0 [],false) else bif aq r.1 2 then some (0,ae 0 [],ae 0 [],false) else ax p.1 λs=>bif !ak (Int.ofNat s) (ah .i64 (Int.mul 16 r.1)) then some (0,ae 0 [],ae 0 [],false) else ob (aiM w 45057 4 q.2.1 q.2.2.1 q.2.2.2) λt=>ax t.1 λu=>bif !ak (Int.ofNat u) 4 then some (0,ae 0 [],ae 0 [],false) else ob (aiM w 45056 7 t.2.1 t.2.2.1 t.2.2.2) λv=>eX 1 v.1 λ_ z=>ob (iN z) λa0=>bif !nS (mkStr a0).data.toList (ByteArray.mk #[48,49,48,48]).data.toList then some (0,ae 0 [],ae 0 [],false) else lp (α:=V->Z->Z->V->Z->V->Z->V->L->L->ajN) (λ_ _ _ _ _ _ _ _ _ _=>none) (λb1 b2 b3 b4 b5 b6 b7 b8 b9 c0 c1=>ax b2 λc2=>bif aq b3 (Int.ofNat c2) then ob (aiU w b2 b3 b4) λc3=>bif aK c1.length&&(aK 1&&(List.take 5 (aiN c3)).length.beq 5) then b1 b2 (ah .i64 (b3.add 16)) b4 b5 b6 b7 b8 b9 c0 (c1++List.take 5 (aiN c3)) else none else ax b5 λc4=>bif c4.ble c4&&Nat.ble 1 c4 then ib 3 1 c4 b5 λc5=>ax c5 λc6=>lp (α:=V->Z->Z->Z->V->Z->V->L->L->ajN) (λ_ _ _ _ _ _ _ _ _=>none) (λd6 d7 d8 d9 e0 e1 e2 e3 e4 e5=>aiR d9 d8 d7 d6 e0 e1 e2 e4 e5 e3) w c5 (Int.ofNat c6) 0 b6 b7 b8 b9 c0 c1 else none) w p.1 0 a b 0 (ae 0 []) a (ae 0 []) [] [] else ob (aiM w 45058 7 d f h) λe6=>ob (aiM w 45057 4 e6.2.1 e6.2.2.1 e6.2.2.2) λe7=>ob (sL w e7.1 0 4 2) λe8=>bif !e8.2 then some (0,ae 0 [],ae 0 [],false) else bif aq e8.1 2 then some (0,ae 0 [],ae 0 [],false) else ax e6.1 λe9=>bif !ak (Int.ofNat e9) (ah .i64 (Int.mul 16 e8.1)) then some (0,ae 0 [],ae 0 [],false) else ob (aiM w 45057 4 e7.2.1 e7.2.2.1 e7.2.2.2) λf0=>ax f0.1 λf1=>bif !ak (Int.ofNat f1) 4 then some (0,ae 0 [],ae 0 [],false) else ob (aiM w 45056 7 f0.2.1 f0.2.2.1 f0.2.2.2) λf2=>eX 1 f2.1 λ_ f4=>ob (iN f4) λf5=>bif !nS (mkStr f5).data.toList (ByteArray.mk #[48,49,48,48]).data.toList then some (0,ae 0 [],ae 0 [],false) else lp ixZ (ixF w) w e6.1 0 a b 0 (ae 0 []) a (ae 0 []) [] []
def ai5(w:Nat):V->O (Z×V×V×Z):=λa=>ob (Ib w) λb=>ob (ai7 w a b) λc=>bif !ak c.2.2.2 0 then some (0,ae 0 [],ae 0 [],c.2.2.2) else ob (aiW w c.1 c.2.1) λd=>bif !d.2.2.2 then some (0,ae 0 [],ae 0 [],6) else some (d.1,d.2.1,d.2.2.1,0)
abbrev ai0:=Value->Int->Value->Int->Value->Value->Option Bool
abbrev aiZ:=Value->Int->Value->Option Bool
def ai2(w:Nat):ai0->ai0:=(λa b c d e f g=>ax b λh=>bif aq c (Int.ofNat h) then aG c λi=>aQ 14 i d λj=>ag j λk l=>aw .i64 k λ_=>ag l λ_ o=>ag o λ_ q=>ag q λ_ s=>ag s λ_ u=>ag u λ_ y=>ag y λ_ a0=>ag a0 λ_ a2=>ag a2 λ_ a4=>ag a4 λ_ a6=>ag a6 λa7 a8=>aw .i64 a7 λa9=>ag a8 λb0 b1=>aw .i64 b0 λb2=>ag b1 λb3 b4=>aw .i64 b3 λb5=>ag b4 λb6 _=>aG c λb8=>aQ 5 b8 f λb9=>ag b9 λc0 c1=>aw .i64 c0 λc2=>ag c1 λc3 c4=>aw .i64 c3 λc5=>ag c4 λc6 c7=>aw .i64 c6 λc8=>ag c7 λc9 d0=>aw .i64 c9 λd1=>ag d0 λd2 _=>aw .i64 d2 λd4=>tV f f (bif !bif ak c2 a9 then bif ak c5 0 then bif ak c8 0 then bif ak d1 b2 then bif ak d4 b5 then true else false else false else false else false else false then some false else bif aq 0 c then aG c λd5=>aQ 13 d5 b λd6=>ag (List.drop 10 d6) λd7 _=>ax d7 λd9=>ax b6 λe0=>bif !aq 0 (Int.ofNat d9)==aq 0 (Int.ofNat e0) then some false else a b (ah .i64 (c.add 1)) d e f g else a b (ah .i64 (c.add 1)) d e f g) else ob (mv w) λe1=>some e1)
def ajh:ai0:=(λ_ _ _ _ _ _=>none)
def lmF(w:Nat):aiZ->aiZ:=(λa b c d=>ax b λe=>bif aq c (Int.ofNat e) then aG c λf=>aQ 13 f b λg=>ag g λh i=>aw .i64 h λj=>ag i λk l=>ag l λm n=>ag n λo p=>ag p λq r=>ag r λs t=>ag t λu v=>ag v λy z=>ag z λa0 a1=>ag a1 λa2 a3=>ag a3 λa4 a5=>ag a5 λa6 a7=>aw .i64 a6 λa8=>ag a7 λa9 _=>aw .i64 a9 λb1=>ob (CB w j k m o q s u y a0 a2 a4 a8 b1) λb2=>ob (Hg w b2.1) λb3=>bif !ak b2.2 0 then some false else bif !ak b3.2.2.2.2.2.2.2.2.2.2.2.2.2 0 then some false else ax b2.1 λb4=>aG c λb5=>aQ 13 b5 b λb6=>ag (List.drop 12 b6) λb7 _=>aw .i64 b7 λb9=>bif !ak (Int.ofNat b4) b9 then some false else aG c λc0=>aQ 13 c0 b λc1=>ag c1 λc2 c3=>aw .i64 c2 λc4=>ag c3 λc5 c6=>ag c6 λc7 c8=>ag c8 λc9 d0=>ag d0 λd1 d2=>ag d2 λd3 d4=>ag d4 λd5 d6=>ag d6 λd7 d8=>ag d8 λd9 e0=>ag e0 λe1 e2=>ag e2 λe3 e4=>ag e4 λe5 e6=>aw .i64 e5 λe7=>ag e6 λe8 _=>aw .i64 e8 λf0=>ob (ai4 w b3.1 b3.2.1 b3.2.2.1 b3.2.2.2.1 b3.2.2.2.2.1 b3.2.2.2.2.2.1 b3.2.2.2.2.2.2.1 b3.2.2.2.2.2.2.2.1 b3.2.2.2.2.2.2.2.2.1 b3.2.2.2.2.2.2.2.2.2.1 b3.2.2.2.2.2.2.2.2.2.2.1 b3.2.2.2.2.2.2.2.2.2.2.2.1 b3.2.2.2.2.2.2.2.2.2.2.2.2.1 c4 c5 c7 c9 d1 d3 d5 d7 d9 e1 e3 e7 f0) λf1=>bif !f1 then some false else aG c λf2=>aQ 13 f2 b λf3=>ag (List.drop 11 f3) λf4 _=>aw .i64 f4 λf6=>bif !ak b3.2.2.2.2.2.2.2.2.2.2.2.1 f6 then some false else ob (aiS w d c) λf7=>eX 1 f7 λ_ f9=>ob (iN f9) λg0=>aG c λg1=>aQ 13 g1 b λg2=>ag (List.drop 10 g2) λg3 _=>eX 1 g3 λ_ g6=>ob (iN g6) λg7=>bif !nS (mkStr g0).data.toList (mkStr g7).data.toList then some false else a b (ah .i64 (c.add 1)) d else ax b λg8=>bif ak (Int.ofNat g8) 1 then aQ 13 0 b λg9=>ag (List.drop 10 g9) λh0 _=>ax h0 λh2=>bif ak (Int.ofNat h2) 0 then ob (mv w) λh3=>some h3 else some false else aQ 13 0 b λh4=>ag (List.drop 10 h4) λh5 _=>ob (ai5 w h5) λh7=>bif !ak h7.2.2.2 0 then some false else ax h7.2.1 λh8=>ax b λh9=>bif !ak (Int.ofNat h8) (Int.ofNat h9) then some false else aQ 14 0 d λi0=>ag (List.drop 0 (List.drop 0 i0)) λi1 _=>aw .i64 i1 λi3=>bif !ak h7.1 i3 then some false else lp ajh (ai2 w) w b 0 d h7.1 h7.2.1 h7.2.2.1)
def lmZ:aiZ:=(λ_ _ _=>none)
def sh6(w:Nat):V->O B:=λa=>ob (Ie w a) λb=>bif b then ob (mv w) λc=>some c else ob (GP w a) λd=>ob (sK w a) λe=>bif !ak e 0 then ax d λf=>bif ak (Int.ofNat f) 0 then ob (aiS w a 0) λg=>ax g λh=>bif ak (Int.ofNat h) 0 then ob (mv w) λi=>some i else some false else some false else ax d λj=>ax a λk=>bif !ak (Int.ofNat j) (Int.ofNat k) then some false else lp lmZ (lmF w) w d 0 a
end
section
noncomputable section
abbrev K(g:FuncId)(a:List VT)(r:VT)(S:Fn (VT.fo a) (Option (cM r.ks))):=dI Tryz.prog g a r S
abbrev KH(g:FuncId)(T:HT)(S:Fn T.ti.ks (Option (cM T.to.ks))):=pq Tryz.prog g T S
abbrev KP(g:FuncId)(T:PT)(S:Fn T.ti.ks (Option (cM T.to.ks⊕cM T.tp.ks))):=tq Tryz.prog g T S
abbrev ln:Nat->Option cZ:=λ_=>none
abbrev lc(k:Nat)(a:List (Nat×VT))(b:List (Nat×OT))(c:Nat)(r:Nat->Option cZ):Nat->Option cZ:=λn=>cond (Nat.beq n k) (some ⟨a,b,c⟩) (r n)
abbrev ul:Nat->Bool:=λn=>Nat.blt n 100000
abbrev PO(pt:(β:Type)->FuncId->Option (dJ β)):=mJ Tryz.prog pt
theorem pn:PO (λ_ _=>none):=wE
variable{g:FuncId} {pt:(β:Type)->FuncId->Option (dJ β)}
theorem pa(p:PO pt){a:List VT}{r:VT}{S:Fn (VT.fo a) (Option (cM r.ks))}(F:K g a r S):PO (LG pt g a r S):=iZ p F
variable{T:HT} {S:Fn T.ti.ks (Option (cM T.to.ks))}
theorem ph(p:PO pt)(F:KH g T S):PO (LH pt g T S):=qa p F
theorem pp(p:PO pt){T:PT}{S:Fn T.ti.ks (Option (cM T.to.ks⊕cM T.tp.ks))}(F:KP g T S):PO (LI pt g T S):=qb p F
theorem fh(fn:Func)(p:PO pt)(w:Nat)(lv:Nat->Option cZ:=λ_=>none)(un:Nat->Bool:=λ_=>false)
 (hF:qj.F.get g=some fn:=by kernel_rfl) (hb:fn.body=some (fn.body.getD .skip):=by kernel_rfl) (hS:S=P5 w qj pt fn T lv (λ_=>none) un:=by kernel_rfl):KH g T S:=
 J4 (w:=w) (lv:=lv) (jv:=λ_=>none) (un:=un) sU mixed p (fn:=fn) hF hb hS
theorem fp(fn:Func){T:PT}(p:PO pt)(w:Nat){S:Fn T.ti.ks (Option (cM T.to.ks⊕cM T.tp.ks))}(lv:Nat->Option cZ:=λ_=>none)(un:Nat->Bool:=λ_=>false)
 (hF:qj.F.get g=some fn:=by kernel_rfl) (hb:fn.body=some (fn.body.getD .skip):=by kernel_rfl) (hS:S=P7 w qj pt fn T lv (λ_=>none) un:=by kernel_rfl):KP g T S:=
 Rr (w:=w) (lv:=lv) (jv:=λ_=>none) (un:=un) sU mixed p (fn:=fn) hF hb hS
abbrev oL:List (Nat×OT):=[(0,.cells [.v,vI,.v,.sl 1 0,.gr 2 5,vI,vI] 220),(1,.arr 362),(2,.grow 5 243)]
abbrev tA:List (Nat×OT):=[(0,.cells [.v,vI,.v,.v,.v,.v,.v,.v,.v,.v,.v,.v,vI,vI] 103)]
abbrev vl:List (Nat×OT):=[(0,.cells [vI,vI,.gr 1 5] 307),(1,.grow 5 243)]
abbrev vm:List (Nat×OT):=[(0,.cells [.sl 1 0,vI,.v,.v,vI] 249),(1,.arr 5)]
abbrev vn:List (Nat×OT):=[(0,.cells [.v] 66),(1,.cells [.gr 2 1] 71),(2,.grow 1 3)]
abbrev DJ:List (Nat×OT):=[(0,.grow 1 3),(1,.cells [.gr 2 1] 71),(2,.grow 1 3)]
abbrev PE:List (Nat×OT):=[(0,.cells [.v,vI,.v,.sl 6 0,.gr 7 5,vI,vI] 220),(3,.cells [.gr 8 4,.gr 9 4,.v] 179),(4,.cells [.v,vI,vI,vI] 176),(6,.arr 362),(7,.grow 5 243),(8,.grow 4 73),(9,.grow 4 237)]
abbrev vo:List (Nat×OT):=[(0,.cells [.v,vI] 163)]
abbrev AB:cZ:=⟨[(0,.eR 277 (.agg [vI]))],oL,3⟩
abbrev PF:List (Nat×OT):=[(0,.cells [.sl 1 0,vI,.v,.v,vI] 249),(2,.cells [.v,.v,.v] 179),(3,.cells [.v,vI,vI,vI] 176),(4,.cells [.gr 5 4] 314),(1,.arr 5),(5,.grow 4 317)]
abbrev Py:List (Nat×OT):=[(0,.cells [vI,vI,.gr 2 1] 68),(1,.cells [vI,vI,.gr 3 1] 68),(2,.grow 1 5),(3,.grow 1 5)]
abbrev IY:cZ:=⟨[(0,.eR 159 (.agg [vI,vI]))],vo,1⟩
abbrev IZ:List (Nat×OT):=[(0,.cells [vI,.v,.v,.v,.v,.v,.v,.v] 274)]
abbrev AA:List (Nat×VT):=[(0,.ptr 0 0),(1,vI)]
abbrev I3:cZ:=⟨[(0,.sl 0 0)],[(0,.arr 5)],1⟩
abbrev I4:List (Nat×OT):=[(0,.cells [.gr 1 3] 92),(1,.grow 3 96)]
abbrev Pz:cZ:=⟨[(0,.aH [])],[(0,.cells [.gr 1 4] 314),(1,.grow 4 317)],2⟩
abbrev I5:cZ:=⟨[(0,.aH [.v,.b])],tA,1⟩
abbrev PA:cZ:=⟨[(0,.ptr 0 0),(1,vI),(2,vI),(3,vI)],vm,2⟩
abbrev I6:cZ:=⟨[(0,.ptr 0 0)],oL,3⟩
abbrev PB:cZ:=⟨[(0,.gr 0 1),(1,.fn 190 [.ptr 1 0])],DJ,3⟩
abbrev I7:cZ:=⟨[(0,.aH [])],vl,2⟩
abbrev PC:List (Nat×OT):=[(0,.cells [.gr 2 4] 314),(1,.arr 317),(2,.grow 4 317)]
abbrev PD:cZ:=⟨[(0,.ptr 0 0),(1,vI),(2,vI)],oL,3⟩
theorem fr(fn:Func){avt:List VT}{rvt:VT}(PT:mJ Tryz.prog pt)(w:Nat){Sh:Fn (VT.fo avt) (Option (cM rvt.ks))}(lv:Nat->Option cZ:=λ_=>none)(un:Nat->Bool:=λ_=>false)
 (hF:qj.F.get g=some fn:=by kernel_rfl) (hb:fn.body=some (fn.body.getD .skip):=by kernel_rfl) (ht:si avt=true:=by kernel_rfl) (hS:Sh=P6 w qj pt fn avt rvt lv (λ_=>none) un:=by kernel_rfl):dI Tryz.prog g avt rvt Sh:=
 ZM (w:=w) (lv:=lv) (jv:=λ_=>none) (un:=un) sU mixed PT (fn:=fn) hF hb ht hS
theorem acC(w:Nat):K 229 [vI,.lp [vI]] (.b) (NK w):=fr Tryz.f229 pn w
theorem TO(w:Nat):K 248 [.v,.fn 229 [.lp [vI]]] vI (Hf w):=fr Tryz.f248 (pa pn (acC w)) w (lc 0 [(0,.v),(1,.fn 229 [.oV]),(7,vI),(8,vI)] [] 0 ln)
theorem TD(w:Nat):K 189 [.v,.fn 229 [.lp [vI]]] (.b) (NH w):=fr Tryz.f189 (pa pn (TO w)) w
theorem BO(w:Nat):K 175 [vI,vI] (.b) (re w):=fr Tryz.f175 (pa pn (TD w)) w
theorem TA(w:Nat):K 176 [vI] vI (zy w):=fr Tryz.f176 pn w
theorem acf(w:Nat):KH 177 ⟨1,I3,1,⟨[(0,.aH [])],[(0,.arr 5)],1⟩⟩ (GX w):=fh Tryz.f177 pn w (lc 0 [(0,.sl 0 0),(2,vI),(3,vI)] [(0,.arr 5)] 1 ln)
theorem su(w:Nat):K 109 [vI,vI,vI] (.aH [.v,.b]) (gR w):=fr Tryz.f109 (ph (pa (pa pn (BO w)) (TA w)) (acf w)) w (lc 0 [(0,vI),(1,vI),(2,vI),(8,.sl 0 0),(27,vI),(28,vI)] [(0,.arr 5)] 1 ln)
theorem TQ(w:Nat):K 286 [vI] (.b) (zO w):=fr Tryz.f286 (pa pn (su w)) w
theorem adf(w:Nat):K 287 [.v,vI,vI] (.b) (Hn w):=fr Tryz.f287 pn w
theorem TN(w:Nat):K 233 [.v] (.b) (ri w):=fr Tryz.f233 (pa (pa pn (TQ w)) (adf w)) w (lc 0 [(0,.v),(15,.v),(16,vI),(17,vI)] [] 0 (lc 2 [(0,.v),(3,vI),(4,.ptr 0 0),(15,.v),(16,vI),(17,vI),(23,.v),(24,vI),(25,vI)] [(0,.cells [.v,vI,vI,vI] 176)] 1 ln))
theorem Fl(w:Nat):K 203 [.agg [.v,.v,.v]] vI (jT w):=fr Tryz.f203 pn w
theorem adT(w:Nat):K 374 [.agg [vI,vI],.lp [vI]] (.b) (Ol w):=fr Tryz.f374 pn w
theorem Fm(w:Nat):K 262 [.v,.fn 374 [.lp [vI]]] vI (NS w):=fr Tryz.f262 (pa pn (adT w)) w (lc 0 [(0,.v),(1,.fn 374 [.oV]),(7,vI),(8,vI)] [] 0 ln)
theorem TU(w:Nat):K 334 [.v,.fn 374 [.lp [vI]]] (.b) (CI w):=fr Tryz.f334 (pa pn (Fm w)) w
theorem adM(w:Nat):K 353 [.agg [.v,vI,vI,vI],vI] (.b) (CN w):=fr Tryz.f353 (pa pn (TU w)) w
theorem ac9(w:Nat):K 271 [] (.agg [vI,vI,vI,vI,vI,vI,vI,vI,vI,vI,vI,vI,vI,vI,vI,vI,vI,vI,vI,vI,vI,vI,vI,vI,vI,vI,vI,vI,vI,vI,vI,vI,vI,vI,vI,vI,vI,vI,vI]) (V2 w):=fr Tryz.f271 pn w
theorem yT(w:Nat):K 210 [vI] (.agg [vI,vI,vI]) (sP w):=fr Tryz.f210 (pa pn (ac9 w)) w
theorem wx(w:Nat):K 243 [.agg [vI,vI,.v]] (.b) (qi w):=fr Tryz.f243 (pa (pa pn (yT w)) (adm w)) w
theorem adx(w:Nat):K 315 [.agg [.v],.agg [.v,.v,.v],.agg [.v,vI,vI,vI]] (.b) (Hv w):=fr Tryz.f315 (pa (pa (pa pn (TQ w)) (adM w)) (wx w)) w (lc 0 [(4,.ptr 1 0),(5,.ptr 2 0),(10,.v),(11,vI),(12,vI)] [(1,.cells [.v,.v,.v] 179),(2,.cells [.v,vI,vI,vI] 176)] 3 ln)
theorem ady(w:Nat):K 316 [.agg [vI,vI],.lp [vI,.v,.v,.v]] (.b) (Oc w):=fr Tryz.f316 pn w
theorem Fo(w:Nat):K 262 [.v,.fn 316 [.lp [vI,.v,.v,.v]]] vI (NT w):=fr Tryz.f262 (pa pn (ady w)) w (lc 0 [(0,.v),(1,.fn 316 [.oV]),(7,vI),(8,vI)] [] 0 ln)
theorem acZ(w:Nat):K 259 [.agg [.v],.agg [.v,.v,.v],vI] (.b) (NQ w):=ZG (λrec h=>fr Tryz.f259 (iZ (iZ (iZ (iZ wE (Fl w)) (adx w)) (Fo w)) h) w (lv:=λn=>(cond (Nat.beq n 0) (some ⟨[(3,.ptr 0 0),(4,.ptr 1 0),(7,.ptr 2 0),(44,.v),(45,vI),(46,vI)],[(0,.cells [.v] 311),(1,.cells [.v,.v,.v] 179),(2,.cells [.v,vI,vI,vI] 176)],3⟩) none))) w
theorem adu(w:Nat):K 312 [.agg [vI,vI,vI,.v]] (.b) (Oa w):=fr Tryz.f312 (pa pn (wx w)) w
theorem adK(w:Nat):K 351 [.v,.fn 312 []] vI (Oi w):=fr Tryz.f351 (pa pn (adu w)) w (lc 0 [(0,.v),(1,.fn 312 []),(7,vI),(8,vI)] [] 0 ln)
theorem adt(w:Nat):K 311 [.v,.fn 312 []] (.b) (nt w):=fr Tryz.f311 (pa pn (adK w)) w
theorem acX(w:Nat):K 256 [.agg [vI,.v]] .b (wU w):=abg (Fl w) (adt w) w
theorem adL(w:Nat):K 352 [vI] vI (HU w):=fr Tryz.f352 pn w
theorem adv(w:Nat):KH 313 ⟨2,⟨AA,vl,2⟩,2,⟨[(0,vI)],vl,2⟩⟩ (Ob w):=fh Tryz.f313 (pa pn (adL w)) w
theorem Ld(w:Nat):KH 257 ⟨5,⟨[(0,.ptr 0 0),(1,vI),(2,vI),(3,vI),(4,vI)],vl,2⟩,1,I7⟩ (wV w):=fh Tryz.f257 (ph pn (adv w)) w
theorem TV(w:Nat):K 336 [vI] vI (CJ w):=fr Tryz.f336 (pa pn (yT w)) w
theorem T3(w:Nat):K 368 [vI,vI] vI (CP w):=fr Tryz.f368 (pa pn (TV w)) w
theorem TW(w:Nat):K 337 [vI,vI] vI (CL w):=fr Tryz.f337 (pa pn (T3 w)) w
theorem adw(w:Nat):KH 314 ⟨4,⟨[(0,.ptr 0 0),(1,.agg [.v,.v,.v]),(2,vI),(3,.fn 65793 [.ptr 0 0])],vl,2⟩,1,I7⟩ (Hu w):=fh Tryz.f314 (ph (pa pn (TW w)) (Ld w)) w (lc 0 [(2,vI),(3,.fn 65793 [.ptr 0 0]),(12,.v),(13,vI),(14,vI)] vl 3 ln)
theorem acY(w:Nat):KH 258 ⟨2,⟨[(0,.ptr 0 0),(1,.agg [.v,.v,.v])],vl,2⟩,1,I7⟩ (NP w):=Rq (λrec h=>J4 (w:=w) (lv:=λn=>(cond (Nat.beq n 0) (some ⟨[(0,.ptr 0 0),(3,.ptr 2 0),(4,vI),(33,.v),(34,vI),(35,vI)],[(0,.cells [vI,vI,.gr 6 5] 307),(2,.cells [.v,.v,.v] 179),(6,.grow 5 243)],7⟩) none)) (jv:=λ_=>none) (un:=λn=>false) sU mixed (qa (qa (qa (iZ wE (Fl w)) (Ld w)) (adw w)) h) (fn:=Tryz.f258) (by kernel_rfl) (by kernel_rfl) (by kernel_rfl)) w
theorem TI(w:Nat):K 199 [.agg [vI,.v]] (.aH [.v,.b]) (zF w):=fr Tryz.f199 (ph (ph (pa pn (acX w)) (Ld w)) (acY w)) w (lc 0 [(4,.ptr 1 0),(15,.v),(16,vI),(17,vI)] [(1,.cells [vI,vI,.gr 3 5] 307),(3,.grow 5 243)] 4 ln)
theorem K4(w:Nat):K 138 [.agg [vI,.v]] vI (sN w):=fr Tryz.f138 (pa pn (TI w)) w
theorem TJ(w:Nat):K 200 [.agg [vI,.v],.v] vI (uK w):=fr Tryz.f200 (pa (pa (pa pn (TN w)) (acZ w)) (K4 w)) w (lc 0 [(1,.v),(2,.ptr 0 0),(5,.gr 1 1),(6,vI)] [(0,.cells [vI,.v] 113),(1,.grow 1 3)] 2 (lc 2 [(1,.v),(2,.ptr 0 0),(5,.gr 1 1),(54,.v),(55,vI),(56,vI)] [(0,.cells [vI,.v] 113),(1,.grow 1 3)] 2 ln))
theorem TK(w:Nat):KH 201 ⟨4,PA,2,⟨[(0,.aH [])],vm,2⟩⟩ (sO w):=fh Tryz.f201 (pa pn (su w)) w
theorem TB(w:Nat):KH 177 ⟨1,⟨[(0,.CZ 0)],[(0,.arr 5)],1⟩,1,⟨[(0,.aH [])],[(0,.arr 5)],1⟩⟩ (uI w):=fh Tryz.f177 pn w (lc 0 [(0,.CZ 0),(2,vI),(3,vI)] [(0,.arr 5)] 1 ln)
theorem TZ(w:Nat):KH 354 ⟨3,⟨[(0,.v),(1,vI),(2,vI)],[],0⟩,0,I3⟩ (CO w):=fh Tryz.f354 (ph (pa pn (BO w)) (TB w)) w (lc 0 [(1,vI),(2,vI),(7,.sl 0 0),(8,vI)] [(0,.arr 5)] 1 ln)
theorem adA(w:Nat):KH 318 ⟨2,⟨[(0,.agg [vI,vI,.v]),(1,vI)],[],0⟩,0,I3⟩ (Hz w):=fh Tryz.f318 (ph (pa (pa pn (wx w)) (yT w)) (TZ w)) w
theorem Fe(w:Nat):K 121 [.v,vI,vI,vI] (.aH [vI,.b]) (sL w):=fr Tryz.f121 (pa pn (BO w)) w (lc 0 [(0,.v),(1,vI),(2,vI),(3,vI),(10,vI),(29,vI),(30,vI)] [] 0 ln)
theorem adz(w:Nat):K 317 [vI,.agg [vI,vI,.v],vI] (.aH [.agg [vI,vI,vI,vI],.b]) (Hy w):=fr Tryz.f317 (pa (ph (pa pn (su w)) (adA w)) (Fe w)) w
theorem adD(w:Nat):K 320 [.agg [vI,vI,vI,vI,vI],.lp [vI],.lp [vI],.lp [vI]] (.b) (Oe w):=fr Tryz.f320 pn w
theorem adC(w:Nat):K 319 [.v,.fn 320 [.lp [vI],.lp [vI],.lp [vI]]] vI (Od w):=fr Tryz.f319 (pa pn (adD w)) w (lc 0 [(0,.v),(1,.fn 320 [.oV,.oV,.oV]),(7,vI),(8,vI)] [] 0 ln)
theorem TP(w:Nat):KH 265 ⟨4,PA,2,⟨[(0,vI)],vm,2⟩⟩ (uM w):=fh Tryz.f265 (pa pn (adC w)) w
theorem adB(w:Nat):K 318 [.agg [vI,vI,.v],vI] (.v) (HD w):=fr Tryz.f318 (ph (pa (pa pn (wx w)) (yT w)) (TZ w)) w
theorem ac2(w:Nat):KH 261 ⟨3,⟨[(0,.ptr 0 0),(1,.agg [vI,vI,vI,.v]),(2,vI)],vm,2⟩,1,⟨[(0,.agg [vI,vI,vI,vI])],vm,2⟩⟩ (zL w):=fh Tryz.f261 (pa (ph (pa pn (adz w)) (TP w)) (adB w)) w
theorem ac0(w:Nat):KH 260 ⟨2,⟨[(0,.w7 1 0 1 1),(1,.ptr 0 0)],PC,3⟩,1,Pz⟩ (CE w):=fh Tryz.f260 pn w
theorem ac5(w:Nat):K 263 [.agg [vI,vI],.lp [vI,.v,.v,.v]] (.b) (NZ w):=fr Tryz.f263 pn w
theorem Le(w:Nat):K 262 [.v,.fn 263 [.lp [vI,.v,.v,.v]]] vI (NU w):=fr Tryz.f262 (pa pn (ac5 w)) w (lc 0 [(0,.v),(1,.fn 263 [.oV]),(7,vI),(8,vI)] [] 0 ln)
theorem ac6(w:Nat):K 264 [vI,vI] (.agg [vI,vI,vI,vI]) (uL w):=fr Tryz.f264 pn w
theorem ac1(w:Nat):KH 260 ⟨2,⟨[(0,.w7 1 0 2 2),(1,.ptr 0 0)],PC,3⟩,1,Pz⟩ (CF w):=fh Tryz.f260 pn w
theorem ac8(w:Nat):K 268 [.agg [vI,vI,vI,vI],vI] (.aH [.v,.b]) (Hm w):=fr Tryz.f268 (pa pn (su w)) w ln ul
theorem acy(w:Nat):KH 202 ⟨3,⟨[(0,.ptr 0 0),(1,.agg [.v,.v,.v]),(2,vI)],vm,2⟩,1,⟨[(0,vI)],vm,2⟩⟩ (G6 w):=Rq (λrec h=>J4 (w:=w) (lv:=λn=>(cond (Nat.beq n 0) (some ⟨[(0,.ptr 0 0),(4,.ptr 2 0),(7,vI),(8,.ptr 3 0),(9,.ptr 4 0),(10,.fn 260 [.ptr 4 0]),(42,.v),(43,vI),(44,vI)],PF,6⟩) (cond (Nat.beq n 2) (some ⟨[(0,.ptr 0 0),(4,.ptr 2 0),(7,vI),(8,.ptr 3 0),(9,.ptr 4 0),(10,.fn 260 [.ptr 4 0]),(57,.v),(58,vI),(59,vI)],PF,6⟩) (cond (Nat.beq n 4) (some ⟨[(0,.ptr 0 0),(17,vI),(126,.gr 10 4),(127,vI),(128,vI)],[(0,.cells [.sl 1 0,vI,.v,.v,vI] 249),(10,.grow 4 317),(1,.arr 5)],16⟩) none)))) (jv:=λ_=>none) (un:=λn=>false) sU mixed (qa (iZ (qa (qa (qa (iZ (qa (iZ (qa (qa (iZ (iZ wE (Fo w)) (Fm w)) (ac2 w)) (ac0 w)) (Le w)) (TP w)) (ac6 w)) (ac1 w)) (ac7 w)) (TK w)) (ac8 w)) h) (fn:=Tryz.f202) (by kernel_rfl) (by kernel_rfl) (by kernel_rfl)) w
theorem K5(w:Nat):K 139 [.agg [vI,.v],.v] (.aH [.v,vI]) (Cu w):=fr Tryz.f139 (pa (ph (ph (pa (pa (pa pn (TJ w)) (K4 w)) (TI w)) (TK w)) (acy w)) (Fl w)) w (lc 0 [(1,.v),(7,.ptr 2 0),(8,vI),(9,vI),(56,.v),(57,vI),(58,vI)] [(2,.cells [.sl 1 0,vI,.v,.v,vI] 249),(1,.arr 5)] 5 ln)
theorem aen(w:Nat):K 95 [.agg [vI,.v,.v,.v,.v,.v,.v,.v]] (.agg [vI,.v,vI,.v,vI,.v,vI,.v,vI,.v]) (OD w):=fr Tryz.f95 pn w
theorem acj(w:Nat):K 182 [] .v (Ny w):=ZK sU (n:=200000) (by kernel_rfl) (by kernel_rfl)
theorem adJ(w:Nat):K 340 [.v,.agg [vI,vI]] vI (Oh w):=fr Tryz.f340 pn w (lc 0 [(0,.v),(3,.ptr 0 0),(7,vI),(8,vI)] [(0,.cells [vI,vI] 292)] 1 ln)
theorem adl(w:Nat):K 294 [.v,.agg [vI,vI]] (.b) (N5 w):=fr Tryz.f294 (pa pn (adJ w)) w
theorem acH(w:Nat):K 242 [vI,vI] (.b) (Hd w):=fr Tryz.f242 (pa pn (adl w)) w
theorem adn(w:Nat):K 296 [.v,vI] vI (N6 w):=fr Tryz.f296 pn w (lc 0 [(0,.v),(1,vI),(7,vI),(8,vI)] [] 0 ln)
theorem acI(w:Nat):K 244 [.v,vI] (.b) (He w):=fr Tryz.f244 (pa pn (adn w)) w
theorem ack(w:Nat):K 183 [.v,vI,.agg [vI,vI,vI,.v]] (.b) (Cy w):=fr Tryz.f183 (pa (pa (pa pn (wx w)) (acH w)) (acI w)) w
theorem Fc(w:Nat):K 118 [vI,.v] (.b) (o7 w):=fr Tryz.f118 (pa (pa pn (acj w)) (ack w)) w (lc 0 [(0,vI),(1,.v),(5,.v),(9,.v),(10,vI),(11,vI)] [] 0 ln)
theorem acS(w:Nat):K 251 [.v] vI (Hk w):=fr Tryz.f251 pn w (lc 0 [(0,.v),(3,vI),(4,vI)] [] 0 ln)
theorem TH(w:Nat):K 195 [.v] (.b) (zC w):=fr Tryz.f195 (pa pn (acS w)) w
theorem TG(w:Nat):K 193 [.agg [vI,.v,.v,.v,.v,.v,.v,.v]] vI (Cz w):=fr Tryz.f193 (pa (pa (pa pn (aen w)) (Fc w)) (TH w)) w ln ul
theorem acP(w:Nat):KH 250 ⟨1,⟨[(0,.v)],[],0⟩,0,⟨[(0,.gr 0 4)],[(0,.grow 4 73)],1⟩⟩ (Hj w):=fh Tryz.f250 pn w
theorem aca(w:Nat):K 169 [.v] (.v) (Nw w):=fr Tryz.f169 pn w
theorem uj(w:Nat):K 169 [.em false] (.v) (af5 w):=fr Tryz.f169 pn w ln ul
theorem uk(w:Nat):K 169 [.em true] (.v) (af6 w):=fr Tryz.f169 pn w ln ul
theorem sw(w:Nat):K 169 [.v] .v (nk w):=J5 (aca w) (show dI Tryz.prog 169 [.em false] .v (some (ae 0 [])) from uj w) (show dI Tryz.prog 169 [.em true] .v (some (ae 0 [])) from uk w)
theorem acu(w:Nat):K 194 [.v] (.v) (NI w):=fr Tryz.f194 (pa (ph pn (acP w)) (sw w)) w (lc 0 [(3,.gr 0 4),(8,vI),(9,vI)] [(0,.grow 4 73)] 1 ln)
theorem acQ(w:Nat):K 250 [.em false] (.v) (agy w):=fr Tryz.f250 pn w ln ul
theorem Fi(w:Nat):K 194 [.em false] (.v) (agk w):=fr Tryz.f194 (pa (pa (pa (pa pn (sw w)) (uk w)) (uj w)) (acQ w)) w ln ul
theorem acR(w:Nat):K 250 [.em true] (.v) (agz w):=fr Tryz.f250 pn w ln ul
theorem Fj(w:Nat):K 194 [.em true] (.v) (agl w):=fr Tryz.f194 (pa (pa (pa (pa pn (sw w)) (uk w)) (uj w)) (acR w)) w ln ul
theorem Fk(w:Nat):K 194 [.v] .v (lJ w):=J5 (acu w) (show dI Tryz.prog 194 [.em false] .v (some (ae 0 [])) from Fi w) (show dI Tryz.prog 194 [.em true] .v (some (ae 0 [])) from Fj w)
theorem acU(w:Nat):K 253 [.v] (.agg [vI,vI,vI,.v]) (Hl w):=fr Tryz.f253 (pa (pa (pa pn (sw w)) (uk w)) (uj w)) w
theorem K9(w:Nat):K 185 [.agg [vI,vI,.v]] (.agg [vI,vI,.v]) (uJ w):=fr Tryz.f185 (pa (pa (pa pn (sw w)) (uk w)) (uj w)) w
theorem ado(w:Nat):K 297 [vI] (.b) (Ht w):=fr Tryz.f297 pn w
theorem acL(w:Nat):K 247 [vI,vI] vI (NM w):=fr Tryz.f247 (pa pn (ado w)) w
theorem acK(w:Nat):K 246 [.agg [vI,vI,vI,.v],vI] vI (wT w):=fr Tryz.f246 (pa pn (acL w)) w
theorem acJ(w:Nat):K 245 [.v,vI,.fn 246 []] (.aH [vI,.b]) (NL w):=fr Tryz.f245 (pa pn (acK w)) w (lc 0 [(0,.v),(1,vI),(2,.fn 246 []),(8,vI),(9,vI),(10,vI)] [] 0 ln)
theorem K8(w:Nat):K 184 [.v,vI] (.aH [vI,.b]) (zz w):=fr Tryz.f184 (pa pn (acJ w)) w
theorem acT(w:Nat):K 252 [.v,.agg [vI,vI,vI,.v]] .v (CD w):=afH (K9 w) (K8 w)
theorem acv(w:Nat):K 196 [.agg [vI,.v,.v,.v,.v,.v,.v,.v]] (.agg [.v,.v,.v]) (G5 w):=fr Tryz.f196 (pa (pa (pa (pa (pa pn (Fk w)) (Fj w)) (Fi w)) (acU w)) (acT w)) w
theorem adr(w:Nat):K 309 [.i .u64] vI (V5 w):=fr Tryz.f309 pn w
theorem acW(w:Nat):K 255 [.i .u64] vI (V1 w):=fr Tryz.f255 (pa pn (adr w)) w
theorem acx(w:Nat):K 198 [.agg [vI,.v,.v,.v],.agg [vI,.v,.v,.v]] vI (VW w):=fr Tryz.f198 pn w
theorem adq(w:Nat):K 300 [.v,vI,vI,.fn 198 []] (.aH []) (V4 w):=fr Tryz.f300 (pa pn (acx w)) w (lc 0 [(0,.v),(1,vI),(2,vI),(3,.fn 198 []),(8,vI)] [] 0 (lc 2 [(0,.v),(1,vI),(2,vI),(3,.fn 198 []),(8,vI),(9,vI)] [] 0 ln))
theorem acV(w:Nat):K 254 [.v,vI,vI,vI,.fn 198 []] (.aH []) (V0 w):=fr Tryz.f254 (pa pn (adq w)) w (lc 0 [(0,.v),(1,vI),(2,vI),(3,vI),(4,.fn 198 []),(10,.b),(11,.b)] [] 0 ln)
theorem acw(w:Nat):K 197 [.v,.fn 198 []] (.aH []) (o8 w):=fr Tryz.f197 (pa (pa pn (acW w)) (acV w)) w
theorem Tu(w:Nat):K 137 [.agg [vI,.v,.v,.v,.v,.v,.v,.v]] (.aH [.agg [vI,.v],vI]) (Ct w):=fr Tryz.f137 (pa (pa (pa (pa (pa (pa pn (TG w)) (Fk w)) (TH w)) (acv w)) (sw w)) (acw w)) w ln (λn=>Nat.beq n 100011)
theorem K6(w:Nat):K 140 [] (.v) (Cv w):=fr Tryz.f140 pn w
theorem Lm(w:Nat):K 76 [.agg [vI,.v,.v,.v,.v,.v,.v,.v]] (.aH [.v,vI]) (Ii w):=fr Tryz.f76 (pa (pa (pa pn (K5 w)) (Tu w)) (K6 w)) w
theorem Ll(w:Nat):K 75 [.agg [vI,.v,.v,.v,.v,.v,.v,.v]] (.aH [vI,vI]) (Ih w):=fr Tryz.f75 (pa (pa pn (Tu w)) (K4 w)) w
theorem abO(w:Nat):K 120 [.v,vI] (.aH [.agg [vI,vI,.v],.b]) (GF w):=fr Tryz.f120 (pa (pa pn (K8 w)) (K9 w)) w
theorem ade(w:Nat):K 285 [.v,vI] .v (zM w):=Y6 (K9 w) (K8 w)
theorem acD(w:Nat):KH 230 ⟨2,⟨[(0,.ptr 0 0),(1,.agg [.v,.v,.v])],IZ,1⟩,1,⟨[(0,.b)],IZ,1⟩⟩ (Ha w):=fh Tryz.f230 (pa (pa (pa (pa (pa pn (Fk w)) (Fj w)) (Fi w)) (abO w)) (ade w)) w (lc 0 [(0,.ptr 0 0),(35,.v),(36,vI),(37,vI)] IZ 3 ln)
theorem acg(w:Nat):K 179 [.agg [vI,.v]] (.aH [.agg [vI,.v,.v,.v,.v,.v,.v,.v],vI]) (GY w):=fr Tryz.f179 (ph (pa (pa (pa (pa (pa (pa (pa (pa (pa pn (K6 w)) (TJ w)) (Fk w)) (Fj w)) (Fi w)) (sw w)) (uk w)) (uj w)) (TG w)) (acD w)) w (lc 0 [(1,.ptr 0 0),(2,.ptr 1 0),(4,.ptr 2 0),(29,.v),(30,vI),(31,vI)] [(0,.cells [vI,.v] 113),(1,.cells [vI,.v,.v,.v,.v,.v,.v,.v] 30),(2,.cells [vI,.v,.v,.v,.v,.v,.v,.v] 274)] 3 (lc 2 [(2,.ptr 1 0),(4,.ptr 2 0),(55,.v),(56,vI),(57,vI)] [(1,.cells [vI,.v,.v,.v,.v,.v,.v,.v] 30),(2,.cells [vI,.v,.v,.v,.v,.v,.v,.v] 274)] 3 ln))
theorem acm(w:Nat):KH 186 ⟨1,⟨[(0,.ptr 0 0)],[(0,.cells [vI,vI,vI,vI,vI] 59)],1⟩,1,⟨[(0,.agg [.ptr 0 0,.ptr 0 1,.ptr 0 2,.ptr 0 3,.ptr 0 4])],[(0,.cells [vI,vI,vI,vI,vI] 59)],1⟩⟩ (NA w):=fh Tryz.f186 pn w
theorem acn(w:Nat):K 187 [] (.agg [vI,vI,vI,vI,vI]) (wS w):=fr Tryz.f187 pn w
theorem ab4(w:Nat):K 148 [.agg [vI,vI,vI,vI,vI],vI] (.aH [.v,.b]) (GQ w):=fr Tryz.f148 (pa (ph (pa pn (su w)) (acm w)) (acn w)) w ln ul
theorem ada(w:Nat):K 272 [vI,vI] (.aH [vI,.b]) (V3 w):=fr Tryz.f272 (pa (pa pn (BO w)) (TA w)) w
theorem acA(w:Nat):K 212 [.agg [vI,vI,vI],vI] (.aH [.v,.b]) (G9 w):=fr Tryz.f212 (pa (pa pn (su w)) (ada w)) w
theorem acz(w:Nat):KH 211 ⟨3,⟨[(0,vI),(1,.v),(2,.fn 65748 [.agg [vI,vI,vI]])],[],0⟩,0,⟨[(0,.aH [.agg [vI,vI,.gr 0 1],.b])],[(0,.grow 1 5)],1⟩⟩ (G8 w):=fh Tryz.f211 (pa (pa pn (wx w)) (acA w)) w (lc 0 [(2,.fn 65748 [.agg [vI,vI,vI]]),(6,.ptr 0 0),(8,.ptr 1 0),(17,.v),(18,vI),(19,vI)] Py 4 ln)
theorem ab5(w:Nat):K 149 [vI,.v] (.aH [.agg [vI,vI,.v],.b]) (GR w):=fr Tryz.f149 (ph (pa pn (yT w)) (acz w)) w
theorem aeb(w:Nat):K 63 [] (.v) (Ib w):=fr Tryz.f63 pn w
theorem ael(w:Nat):K 84 [.agg [vI,.v,.v]] (.aH [.v,vI]) (Ij w):=fr Tryz.f84 (pa (pa (pa (pa (pa pn (Fc w)) (ab4 w)) (ab5 w)) (aeb w)) (Tv (K5 w))) w (lc 0 [(1,.ptr 0 0),(4,.gr 1 1),(28,.v),(29,vI),(30,vI)] [(0,.cells [vI,.v,.v] 55),(1,.grow 1 5)] 2 ln) (λn=>Nat.beq n 100020)
theorem ab6(w:Nat):K 151 [] (.v) (GS w):=fr Tryz.f151 pn w
theorem aem(w:Nat):K 85 [vI,.v] (.aH [.v,vI]) (Ik w):=fr Tryz.f85 (pa (pa (pa pn (Fc w)) (Tv (K5 w))) (ab6 w)) w
theorem adO(w:Nat):K 36 [.agg [.v],vI] (.aH [.v,vI]) (HZ w):=fr Tryz.f36 (pa (pa pn (ael w)) (aem w)) w (lc 0 [(7,.ptr 2 0),(33,.v),(34,vI),(35,vI)] [(2,.cells [vI,.gr 3 5,.v] 55),(3,.grow 5 59)] 4 ln)
theorem T7(w:Nat):K 97 [vI] vI (CU w):=fr Tryz.f97 pn w
theorem adX(w:Nat):K 49 [.v] (.aH [.v,vI]) (CQ w):=YT (T7 w)
theorem Tx(w:Nat):KP 168 ⟨2,⟨AA,vo,1⟩,1,⟨[(0,.aH [])],vo,1⟩,IY⟩ (wQ w):=fp Tryz.f168 pn w
theorem K1(w:Nat):K 108 [vI] (.b) (zw w):=fr Tryz.f108 pn w
theorem TL(w:Nat):K 227 [vI] (.b) (zH w):=fr Tryz.f227 pn w
theorem Tz(w:Nat):K 171 [vI] (.b) (Cw w):=fr Tryz.f171 (pa (pa pn (K1 w)) (TL w)) w
theorem abG(w:Nat):KP 106 ⟨1,⟨[(0,.ptr 0 0)],vo,1⟩,1,⟨[(0,vI)],vo,1⟩,IY⟩ (uE w):=fp Tryz.f106 (pa (pp pn (Tx w)) (Tz w)) w
theorem acB(w:Nat):K 228 [.v] vI (CA w):=fr Tryz.f228 pn w
theorem Ty(w:Nat):K 170 [.v] vI (zx w):=fr Tryz.f170 (pa (pa pn (TL w)) (acB w)) w (lc 0 [(0,.v),(3,vI)] [] 0 ln)
theorem abF(w:Nat):KP 105 ⟨2,⟨AA,vo,1⟩,1,⟨[(0,.agg [vI,.v,.v])],vo,1⟩,IY⟩ (uD w):=fp Tryz.f105 (pa (pp (pa (pa (pa (pa (pa pn (K1 w)) (Fe w)) (sw w)) (uk w)) (uj w)) (Tx w)) (Ty w)) w
theorem Lj(w:Nat):K 52 [.v] (.aH [.v,vI,vI,vI]) (zS w):=ZD (w:=w) (lv:=λn=>(cond (Nat.beq n 0) (some ⟨[(2,.ptr 0 0),(3,.ptr 1 0),(4,.ptr 2 0),(5,.ptr 3 0),(6,.ptr 4 0)],[(0,.cells [.gr 5 3] 92),(1,.cells [vI] 3),(2,.cells [vI] 3),(3,.cells [vI] 37),(4,.cells [.v,vI] 163),(5,.grow 3 96)],6⟩) none)) (jv:=λ_=>none) (un:=λn=>false) sU mixed (qb (qb wE (abG w)) (abF w)) (fn:=Tryz.f52) (lvg:=λ_=>none) (jvg:=λ_=>none) (ung:=λ_=>false) (g:=104) (gn:=Tryz.f104) (by kernel_rfl) (by kernel_rfl) (by kernel_rfl) (by kernel_rfl) (by kernel_rfl) (by kernel_rfl)
theorem ab7(w:Nat):K 165 [.agg [vI,.v,.v]] (.b) (GU w):=fr Tryz.f165 pn w
theorem K7(w:Nat):K 166 [.v,.fn 165 []] vI (Ns w):=fr Tryz.f166 (pa pn (ab7 w)) w (lc 0 [(0,.v),(1,.fn 165 []),(7,vI),(8,vI)] [] 0 ln)
theorem Tn(w:Nat):K 101 [.v,.fn 165 []] (.b) (GA w):=fr Tryz.f101 (pa pn (K7 w)) w
theorem abC(w:Nat):K 100 [.v] (.aH [.v,vI]) (M9 w):=fr Tryz.f100 (pa (pa pn (Lj w)) (Tn w)) w
theorem ab9(w:Nat):K 167 [vI] (.b) (Nv w):=fr Tryz.f167 pn w
theorem abE(w:Nat):K 102 [.agg [vI,.v,.v]] (.b) (Cp w):=fr Tryz.f102 (pa pn (ab9 w)) w
theorem Tw(w:Nat):K 166 [.v,.fn 102 []] vI (Nt w):=fr Tryz.f166 (pa pn (abE w)) w (lc 0 [(0,.v),(1,.fn 102 []),(7,vI),(8,vI)] [] 0 ln)
theorem To(w:Nat):K 101 [.v,.fn 102 []] (.b) (GB w):=fr Tryz.f101 (pa (pa pn (K7 w)) (Tw w)) w
theorem Li(w:Nat):K 50 [.v] (.b) (zR w):=fr Tryz.f50 (pa (pa pn (abC w)) (To w)) w
theorem adW(w:Nat):K 47 [.v,.v] (.b) (H7 w):=fr Tryz.f47 pn w
theorem K0(w:Nat):K 103 [.v,.v] (.b) (zu w):=fr Tryz.f103 (pa pn (adW w)) w
theorem T4(w:Nat):K 51 [.v] (.b) (CR w):=fr Tryz.f51 (pa pn (K0 w)) w
theorem adY(w:Nat):KH 53 ⟨3,⟨[(0,vI),(1,.v),(2,.ptr 0 0)],[(0,.cells [.w7 1 0 1 1] 92),(1,.arr 96)],2⟩,1,⟨[(0,.aH [])],I4,2⟩⟩ (Ou w):=fh Tryz.f53 pn w
theorem adZ(w:Nat):KH 53 ⟨3,⟨[(0,vI),(1,.v),(2,.ptr 0 0)],I4,2⟩,1,⟨[(0,.aH [])],I4,2⟩⟩ (zT w):=fh Tryz.f53 pn w
theorem acb(w:Nat):K 172 [.agg [vI,.v,.v],vI] (.b) (Cx w):=fr Tryz.f172 pn w
theorem ace(w:Nat):K 174 [.agg [vI,.v,.v]] (.b) (GW w):=fr Tryz.f174 (pa (pa pn (Tz w)) (Ty w)) w
theorem acd(w:Nat):K 173 [.agg [vI,.v,.v]] (.b) (GV w):=fr Tryz.f173 (pa pn (ace w)) w
theorem ab8(w:Nat):K 166 [.v,.fn 173 []] vI (Nu w):=fr Tryz.f166 (pa pn (acd w)) w (lc 0 [(0,.v),(1,.fn 173 []),(7,vI),(8,vI)] [] 0 ln)
theorem abD(w:Nat):K 101 [.v,.fn 173 []] (.b) (Na w):=fr Tryz.f101 (pa (pa (pa pn (Tw w)) (K7 w)) (ab8 w)) w
theorem abH(w:Nat):K 107 [.v] (.b) (GC w):=fr Tryz.f107 (pa (pa (pa (pa pn (To w)) (Tn w)) (acb w)) (abD w)) w
theorem T5(w:Nat):K 54 [.v] (.aH [.v,vI]) (wZ w):=fr Tryz.f54 (ph (pa (pa (pa pn (K1 w)) (su w)) (abH w)) (abI w)) w (lc 0 [(4,.gr 0 1),(12,.v),(13,vI),(14,vI)] [(0,.grow 1 5)] 1 ln)
theorem acG(w:Nat):K 24 [.agg [vI,.v,.v,.v,.v,.v,.v,.v,.v,.v,.v,vI,vI]] (.aH [.v,vI]) (CB w):=fr Tryz.f24 (pa (ph (ph (pa (pa (pa (pa (pa pn (Lg (Ll w) (Lm w))) (adX w)) (Li w)) (T4 w)) (Lj w)) (adY w)) (adZ w)) (T5 w)) w (lc 1 [(7,.v),(11,.ptr 2 0),(12,.fn 53 [.ptr 2 0]),(79,.v),(80,vI),(81,vI)] [(2,.cells [.gr 6 3] 92),(6,.grow 3 96)] 7 ln)
theorem T6(w:Nat):K 56 [.v] (.b) (CS w):=fr Tryz.f56 (pa pn (K0 w)) w
theorem ad0(w:Nat):KH 55 ⟨3,⟨[(0,.ptr 0 0),(1,vI),(2,.fn 56 [])],tA,1⟩,1,I5⟩ (H8 w):=fh Tryz.f55 (pa pn (T6 w)) w
theorem ad1(w:Nat):KH 55 ⟨3,⟨[(0,.ptr 0 0),(1,vI),(2,.fn 51 [])],tA,1⟩,1,I5⟩ (zU w):=fh Tryz.f55 (pa pn (T4 w)) w
theorem ad3(w:Nat):K 57 [.v] (.v) (Ov w):=fr Tryz.f57 pn w
theorem ad4(w:Nat):K 57 [.em false] (.v) (ahj w):=fr Tryz.f57 pn w ln ul
theorem ad5(w:Nat):K 57 [.em true] (.v) (ahk w):=fr Tryz.f57 pn w ln ul
theorem ad6(w:Nat):K 57 [.v] .v (H9 w):=J5 (ad3 w) (show dI Tryz.prog 57 [.em false] .v (some (ae 0 [])) from ad4 w) (show dI Tryz.prog 57 [.em true] .v (some (ae 0 [])) from ad5 w)
theorem Tq(w:Nat):K 111 [.v] (.b) (Cq w):=fr Tryz.f111 (pa pn (K0 w)) w
theorem ad2(w:Nat):KH 55 ⟨3,⟨[(0,.ptr 0 0),(1,vI),(2,.fn 111 [])],tA,1⟩,1,I5⟩ (uO w):=fh Tryz.f55 (pa pn (Tq w)) w
theorem ad7(w:Nat):KH 58 ⟨1,⟨[(0,.ptr 0 0)],tA,1⟩,1,⟨[(0,.gr 1 1)],[(0,.cells [.v,vI,.v,.v,.v,.v,.v,.v,.v,.v,.v,.v,vI,vI] 103),(1,.grow 1 28)],2⟩⟩ (zV w):=fh Tryz.f58 (ph pn (ad2 w)) w (lc 0 [(2,.gr 2 1),(3,.fn 65591 [.ptr 0 0]),(4,.v),(5,.b)] [(0,.cells [.v,vI,.v,.v,.v,.v,.v,.v,.v,.v,.v,.v,vI,vI] 103),(2,.grow 1 28)] 3 ln)
theorem ad8(w:Nat):KH 59 ⟨1,⟨[(0,.ptr 0 0)],tA,1⟩,1,⟨[(0,.b)],tA,1⟩⟩ (Ow w):=fh Tryz.f59 pn w (lc 0 [(9,.v),(10,vI),(11,vI)] tA 1 ln)
theorem abJ(w:Nat):K 112 [.v] (.b) (Nf w):=fr Tryz.f112 pn w
theorem abK(w:Nat):K 113 [.v] (.b) (Ng w):=fr Tryz.f113 pn w
theorem ach(w:Nat):KH 180 ⟨2,⟨[(0,.v),(1,.v)],[],0⟩,0,I6⟩ (GZ w):=fh Tryz.f180 pn w
theorem yU(w:Nat):KP 232 ⟨2,⟨[(0,.b),(1,vI)],[],0⟩,0,⟨[(0,.aH [])],[],0⟩,⟨[(0,.eR 277 (.agg [vI]))],[],0⟩⟩ (eG w):=fp Tryz.f232 pn w
theorem Lf(w:Nat):K 288 [.agg [.v,vI],vI,vI] vI (mu w):=fr Tryz.f288 (pa pn (Fe w)) w
theorem Lh(w:Nat):K 331 [vI,vI,vI] (.b) (wW w):=fr Tryz.f331 pn w
theorem adE(w:Nat):KH 332 ⟨2,⟨AA,oL,3⟩,3,⟨[(0,.b)],oL,3⟩⟩ (HJ w):=fh Tryz.f332 pn w
theorem Fp(w:Nat):KP 289 ⟨2,⟨[(0,.ptr 0 0),(1,.agg [vI,vI,vI,vI,vI])],oL,3⟩,1,⟨[(0,.aH [])],oL,3⟩,AB⟩ (rj w):=fp Tryz.f289 (ph (pp (pa pn (Lh w)) (yU w)) (adE w)) w (lc 0 [(0,.ptr 0 0),(3,.ptr 3 0),(4,vI)] [(0,.cells [.v,vI,.v,.sl 1 0,.gr 2 5,vI,vI] 220),(3,.cells [vI,vI,vI,vI,vI] 243),(1,.arr 362),(2,.grow 5 243)] 4 ln)
theorem acE(w:Nat):KP 234 ⟨1,I6,1,⟨[(0,vI)],oL,3⟩,AB⟩ (Hb w):=fp Tryz.f234 (pp (pa (pp pn (yU w)) (Lf w)) (Fp w)) w
theorem adU(w:Nat):K 378 [.agg [.v,vI],vI,vI] (.aH [vI,.b]) (Om w):=fr Tryz.f378 (pa pn (Fe w)) w
theorem adP(w:Nat):KH 367 ⟨2,⟨AA,[(0,.cells [.v,vI,vI,.b] 405)],1⟩,1,⟨[(0,vI)],[(0,.cells [.v,vI,vI,.b] 405)],1⟩⟩ (wY w):=fh Tryz.f367 (pa pn (adU w)) w
theorem adF(w:Nat):K 333 [.v,vI,vI] (.aH [.agg [vI,vI,vI,vI],.b]) (HK w):=fr Tryz.f333 (ph (pa pn (Lh w)) (adP w)) w
theorem adh(w:Nat):KP 290 ⟨3,PD,1,⟨[(0,.v)],oL,3⟩,AB⟩ (Hq w):=fp Tryz.f290 (pa (pp (pp (pa (pa pn (Lh w)) (Lf w)) (yU w)) (Fp w)) (adF w)) w (lc 0 [(0,.ptr 0 0),(1,vI),(8,.gr 6 4),(43,vI),(44,vI)] [(0,.cells [.v,vI,.v,.sl 4 0,.gr 5 5,vI,vI] 220),(4,.arr 362),(5,.grow 5 243),(6,.grow 4 317)] 7 ln)
theorem adH(w:Nat):K 335 [.agg [vI,vI],.lp [vI,vI,vI,vI]] (.b) (Og w):=fr Tryz.f335 pn w
theorem ac3(w:Nat):K 262 [.v,.fn 335 [.lp [vI,vI,vI,vI]]] vI (NW w):=fr Tryz.f262 (pa pn (adH w)) w (lc 0 [(0,.v),(1,.fn 335 [.oV]),(7,vI),(8,vI)] [] 0 ln)
theorem adG(w:Nat):K 334 [.v,.fn 335 [.lp [vI,vI,vI,vI]]] (.b) (HM w):=fr Tryz.f334 (pa (pa (pa (pa pn (Le w)) (Fo w)) (Fm w)) (ac3 w)) w
theorem adi(w:Nat):K 291 [.v,.agg [.v,vI,vI,vI]] (.aH [.v,.v,.v]) (Hr w):=fr Tryz.f291 (pa (pa pn (TU w)) (adG w)) w (lc 0 [(3,.ptr 0 0),(4,.gr 1 4),(5,.gr 2 4),(6,.gr 3 4),(9,.v),(10,vI),(11,vI)] [(0,.cells [.v,vI,vI,vI] 176),(1,.grow 4 317),(2,.grow 4 317),(3,.grow 4 317)] 4 ln)
theorem adN(w:Nat):K 354 [.v,vI,vI] (.v) (HY w):=fr Tryz.f354 (ph (pa pn (BO w)) (TB w)) w (lc 0 [(1,vI),(2,vI),(7,.sl 0 0),(8,vI)] [(0,.arr 5)] 1 ln)
theorem TX(w:Nat):K 338 [vI,vI,.v,vI] (.aH [.agg [vI,vI,.v],.b]) (CM w):=fr Tryz.f338 (pa (pa (pa pn (yT w)) (wx w)) (adN w)) w
theorem adQ(w:Nat):K 369 [vI,vI] (.b) (H5 w):=fr Tryz.f369 (pa pn (T3 w)) w
theorem adR(w:Nat):K 370 [.i .u8] (.b) (Oj w):=fr Tryz.f370 pn w
theorem adV(w:Nat):K 379 [.v,.fn 370 []] vI (On w):=fr Tryz.f379 (pa pn (adR w)) w (lc 0 [(0,.v),(1,.fn 370 []),(7,vI),(8,vI)] [] 0 ln)
theorem adS(w:Nat):K 371 [.v,.fn 370 []] (.b) (H6 w):=fr Tryz.f371 (pa pn (adV w)) w
theorem adI(w:Nat):K 339 [.agg [vI,vI,vI,vI],vI] (.aH [.agg [vI,vI,.v],.b,.b]) (HS w):=fr Tryz.f339 (pa (pa (pa (pa pn (su w)) (TX w)) (adQ w)) (adS w)) w
theorem adj(w:Nat):KP 292 ⟨3,⟨[(0,.ptr 0 0),(1,.agg [vI,vI,vI,vI]),(2,vI)],oL,3⟩,1,⟨[(0,.agg [vI,vI,vI,.v])],oL,3⟩,AB⟩ (Hs w):=fp Tryz.f292 (pa (pa (pp (pp (pa (pa pn (TV w)) (TW w)) (yU w)) (Fp w)) (TX w)) (adI w)) w
theorem adk(w:Nat):K 293 [.agg [vI,vI],.lp [vI,vI,vI,vI]] (.b) (N4 w):=fr Tryz.f293 pn w
theorem ac4(w:Nat):K 262 [.v,.fn 293 [.lp [vI,vI,vI,vI]]] vI (NY w):=fr Tryz.f262 (pa pn (adk w)) w (lc 0 [(0,.v),(1,.fn 293 [.oV]),(7,vI),(8,vI)] [] 0 ln)
theorem acF(w:Nat):KP 235 ⟨3,PD,1,⟨[(0,.aH [.agg [.v,.v,.v],vI])],oL,3⟩,AB⟩ (Hc w):=ZI (λrec h=>Rr (w:=w) (lv:=λn=>(cond (Nat.beq n 0) (some ⟨[(0,.ptr 0 0),(1,vI),(6,.ptr 3 0),(8,.ptr 4 0),(9,vI),(10,.v),(11,.v),(12,.v),(13,.v),(52,.v),(53,vI),(54,vI)],PE,10⟩) (cond (Nat.beq n 2) (some ⟨[(0,.ptr 0 0),(1,vI),(6,.ptr 3 0),(8,.ptr 4 0),(9,vI),(10,.v),(12,.v),(93,.v),(94,vI),(95,vI)],PE,10⟩) none))) (jv:=λ_=>none) (un:=λn=>false) sU mixed (qb (qb (iZ (qb (qb (iZ (qb (iZ (iZ (iZ (iZ (iZ (iZ (iZ wE (Le w)) (Fo w)) (Fm w)) (sw w)) (uk w)) (uj w)) (Lf w)) (adh w)) (adi w)) (adj w)) (yU w)) (ac4 w)) (Fp w)) h) (fn:=Tryz.f235) (by kernel_rfl) (by kernel_rfl) (by kernel_rfl)) w
theorem aci(w:Nat):KH 181 ⟨1,I6,1,⟨[(0,.aH [.agg [vI,.gr 1 3],vI])],[(0,.cells [.v,vI,.v,.sl 2 0,.gr 3 5,vI,vI] 220),(1,.grow 3 179),(2,.arr 362),(3,.grow 5 243)],4⟩⟩ (G0 w):=ZE (w:=w) (lv:=λn=>(cond (Nat.beq n 0) (some ⟨[(0,.ptr 0 0),(2,.ptr 3 0),(3,.ptr 4 0),(4,vI),(5,vI)],[(0,.cells [.v,vI,.v,.sl 6 0,.gr 7 5,vI,vI] 220),(3,.cells [vI,.gr 8 3] 113),(4,.cells [vI] 37),(6,.arr 362),(7,.grow 5 243),(8,.grow 3 179)],9⟩) none)) (jv:=λ_=>none) (un:=λn=>false) sU mixed (qb (qb (qb (iZ wE (TN w)) (yU w)) (acE w)) (acF w)) (fn:=Tryz.f181) (lvg:=λ_=>none) (jvg:=λ_=>none) (ung:=λ_=>false) (g:=231) (gn:=Tryz.f231) (by kernel_rfl) (by kernel_rfl) (by kernel_rfl) (by kernel_rfl) (by kernel_rfl)
theorem abN(w:Nat):K 117 [.v,.v] (.aH [.agg [vI,.v],.v,vI]) (Cs w):=fr Tryz.f117 (ph (ph pn (ach w)) (aci w)) w
theorem abL(w:Nat):K 114 [.v] (.aH [.agg [vI,.v,.v,.v,.v,.v,.v,.v],vI]) (Cr w):=fr Tryz.f114 (pa (pa (pa pn (K6 w)) (acg w)) (abN w)) w
theorem ad9(w:Nat):K 60 [.v] (.aH [.agg [vI,.v,.v,.v,.v,.v,.v,.v],vI]) (zX w):=fr Tryz.f60 (pa (pa (pa (pa pn (abJ w)) (abK w)) (T6 w)) (abL w)) w ln ul
theorem abM(w:Nat):K 115 [.v,vI,vI] (.b) (GD w):=fr Tryz.f115 (pa pn (Tq w)) w
theorem aea(w:Nat):K 61 [.v] (.aH [.v,vI]) (Ia w):=fr Tryz.f61 (pa pn (abM w)) w (lc 0 [(0,.v),(4,.gr 0 1),(10,.v),(11,vI),(12,vI)] [(0,.grow 1 5)] 1 ln)
theorem acO(w:Nat):K 25 [.v] (.aH [.agg [vI,.v,.v,.v,.v,.v,.v,.v,.v,.v,.v,vI,vI],vI]) (Hg w):=fr Tryz.f25 (pa (pa (ph (ph (pa (ph (ph (pa (pa (pa pn (Lj w)) (T5 w)) (Li w)) (ad0 w)) (ad1 w)) (ad6 w)) (ad7 w)) (ad8 w)) (ad9 w)) (aea w)) w
theorem TY(w:Nat):K 34 [.agg [.v],vI] (.aH [.agg [vI,.v,.v,.v,.v,.v,.v,.v,.v,.v,.v,vI,vI],.b]) (wX w):=fr Tryz.f34 (pa (pa (pa pn (adO w)) (acG w)) (acO w)) w
theorem acN(w:Nat):K 249 [vI] (.b) (zK w):=fr Tryz.f249 pn w
theorem acs(w:Nat):K 191 [vI,vI] (.aH [vI,.b]) (G3 w):=fr Tryz.f191 (pa pn (acN w)) w
theorem acr(w:Nat):KH 190 ⟨2,⟨[(0,vI),(1,.ptr 0 0)],[(0,.cells [.gr 1 1] 71),(1,.grow 1 3)],2⟩,1,⟨[(0,.b)],[(0,.cells [.gr 1 1] 71),(1,.grow 1 3)],2⟩⟩ (zA w):=fh Tryz.f190 (pa pn (acs w)) w
theorem acM(w:Nat):KH 248 ⟨2,PB,2,⟨[(0,vI)],DJ,3⟩⟩ (zJ w):=fh Tryz.f248 (ph pn (acr w)) w (lc 0 [(0,.gr 0 1),(1,.fn 190 [.ptr 1 0]),(7,vI),(8,vI)] DJ 3 ln)
theorem acq(w:Nat):KH 189 ⟨2,PB,2,⟨[(0,.b)],DJ,3⟩⟩ (G2 w):=fh Tryz.f189 (ph (pa pn (TO w)) (acM w)) w
theorem abX(w:Nat):KH 131 ⟨1,⟨[(0,.gr 0 1)],[(0,.grow 1 3)],1⟩,1,⟨[(0,.aH [.gr 1 1,.b])],[(0,.grow 1 3),(1,.grow 1 3)],2⟩⟩ (uH w):=fh Tryz.f131 (ph (pa pn (TD w)) (acq w)) w
theorem abW(w:Nat):KH 130 ⟨3,⟨[(0,.agg [vI,.v,.v,.v,.v,.v,.v,.v,.v,.v,vI,vI,vI,.v]),(1,.ptr 0 0),(2,.ptr 1 0)],vn,3⟩,2,⟨[(0,.b)],vn,3⟩⟩ (GN w):=fh Tryz.f130 (ph (pa pn (TY w)) (abX w)) w
theorem aco(w:Nat):KH 188 ⟨2,⟨[(0,.v),(1,.fn 130 [.ptr 0 0,.ptr 1 0])],vn,3⟩,2,⟨[(0,vI)],vn,3⟩⟩ (G1 w):=fh Tryz.f188 (ph pn (abW w)) w (lc 0 [(0,.v),(1,.fn 130 [.ptr 0 0,.ptr 1 0]),(7,vI),(8,vI)] vn 3 ln)
theorem abP(w:Nat):KH 124 ⟨2,⟨[(0,.agg [.v]),(1,.fn 130 [.ptr 0 0,.ptr 1 0])],vn,3⟩,2,⟨[(0,vI)],vn,3⟩⟩ (Nh w):=fh Tryz.f124 (ph pn (aco w)) w
theorem aej(w:Nat):K 72 [.agg [.v]] vI (OC w):=fr Tryz.f72 (ph pn (abP w)) w
theorem adp(w:Nat):KH 30 ⟨0,⟨[],[],0⟩,0,⟨[(0,.agg [.nf,.fn 65 [],.fn 66 [],.fn 67 [],.fn 68 [],.fn 69 [],.fn 70 [],.fn 71 [],.fn 72 []])],[],0⟩⟩ (N8 w):=fh Tryz.f30 pn w
theorem Ts(w:Nat):K 123 [.b] vI (sM w):=fr Tryz.f123 pn w
theorem aec(w:Nat):K 65 [.agg [.v]] vI (Ic w):=fr Tryz.f65 (pa pn (Ts w)) w
theorem abR(w:Nat):K 125 [.agg [vI,.v,.v,.v,.v,.v,.v,.v,.v,.v,vI,vI,vI,.v]] (.b) (GI w):=fr Tryz.f125 (pa pn (Lg (Ll w) (Lm w))) w
theorem BP(w:Nat):K 188 [.v,.fn 125 []] vI (NB w):=fr Tryz.f188 (pa pn (abR w)) w (lc 0 [(0,.v),(1,.fn 125 []),(7,vI),(8,vI)] [] 0 ln)
theorem BN(w:Nat):K 124 [.agg [.v],.fn 125 []] vI (Ni w):=fr Tryz.f124 (pa pn (BP w)) w
theorem aed(w:Nat):K 66 [.agg [.v]] vI (Ox w):=fr Tryz.f66 (pa pn (BN w)) w
theorem abS(w:Nat):K 126 [.agg [vI,.v,.v,.v,.v,.v,.v,.v,.v,.v,vI,vI,vI,.v]] (.b) (GJ w):=fr Tryz.f126 (pa pn (T7 w)) w
theorem Fh(w:Nat):K 188 [.v,.fn 126 []] vI (NC w):=fr Tryz.f188 (pa pn (abS w)) w (lc 0 [(0,.v),(1,.fn 126 []),(7,vI),(8,vI)] [] 0 ln)
theorem Ff(w:Nat):K 124 [.agg [.v],.fn 126 []] vI (Nj w):=fr Tryz.f124 (pa (pa pn (BP w)) (Fh w)) w
theorem aee(w:Nat):K 67 [.agg [.v]] vI (Oy w):=fr Tryz.f67 (pa (pa pn (BN w)) (Ff w)) w
theorem abT(w:Nat):K 127 [.agg [vI,.v,.v,.v,.v,.v,.v,.v,.v,.v,vI,vI,vI,.v]] (.b) (GK w):=fr Tryz.f127 (pa pn (Li w)) w
theorem Lc(w:Nat):K 188 [.v,.fn 127 []] vI (ND w):=fr Tryz.f188 (pa pn (abT w)) w (lc 0 [(0,.v),(1,.fn 127 []),(7,vI),(8,vI)] [] 0 ln)
theorem K3(w:Nat):K 124 [.agg [.v],.fn 127 []] vI (Nk w):=fr Tryz.f124 (pa (pa (pa pn (Fh w)) (BP w)) (Lc w)) w
theorem aef(w:Nat):K 68 [.agg [.v]] vI (Oz w):=fr Tryz.f68 (pa (pa (pa pn (Ff w)) (BN w)) (K3 w)) w
theorem abU(w:Nat):K 128 [.agg [vI,.v,.v,.v,.v,.v,.v,.v,.v,.v,vI,vI,vI,.v]] (.b) (GL w):=fr Tryz.f128 (pa pn (su w)) w
theorem TC(w:Nat):K 188 [.v,.fn 128 []] vI (NF w):=fr Tryz.f188 (pa pn (abU w)) w (lc 0 [(0,.v),(1,.fn 128 []),(7,vI),(8,vI)] [] 0 ln)
theorem Tt(w:Nat):K 124 [.agg [.v],.fn 128 []] vI (Nl w):=fr Tryz.f124 (pa (pa (pa (pa pn (Lc w)) (Fh w)) (BP w)) (TC w)) w
theorem aeg(w:Nat):K 69 [.agg [.v]] vI (OA w):=fr Tryz.f69 (pa (pa (pa (pa pn (K3 w)) (Ff w)) (BN w)) (Tt w)) w
theorem abV(w:Nat):K 129 [.agg [vI,.v,.v,.v,.v,.v,.v,.v,.v,.v,vI,vI,vI,.v]] (.b) (GM w):=fr Tryz.f129 (pa pn (Fc w)) w
theorem acp(w:Nat):K 188 [.v,.fn 129 []] vI (NG w):=fr Tryz.f188 (pa pn (abV w)) w (lc 0 [(0,.v),(1,.fn 129 []),(7,vI),(8,vI)] [] 0 ln)
theorem abQ(w:Nat):K 124 [.agg [.v],.fn 129 []] vI (Nn w):=fr Tryz.f124 (pa (pa (pa (pa (pa pn (TC w)) (Lc w)) (Fh w)) (BP w)) (acp w)) w
theorem aeh(w:Nat):K 70 [.agg [.v]] vI (OB w):=fr Tryz.f70 (pa (pa (pa (pa (pa pn (Tt w)) (K3 w)) (Ff w)) (BN w)) (abQ w)) w
theorem aei(w:Nat):K 71 [.agg [.v]] vI (Ig w):=fr Tryz.f71 (pa pn (Ts w)) w
theorem Ln(w:Nat):K 9 [.agg [.v]] (.aH [vI,vI]) (nu w):=fr Tryz.f9 (pa (pa (pa (pa (pa (pa (pa (pa (ph pn (adp w)) (aec w)) (aed w)) (aee w)) (aef w)) (aeg w)) (aeh w)) (aei w)) (aej w)) w ln ul
theorem K2(w:Nat):K 12 [.agg [.v]] vI (sK w):=fr Tryz.f12 (pa (pa pn (Ln w)) (Lg (Ll w) (Lm w))) w
theorem ab3(w:Nat):K 14 [.agg [.v]] (.v) (GP w):=fr Tryz.f14 (pa (pa pn (K2 w)) (TY w)) w (lc 0 [(1,.ptr 0 0),(3,.gr 1 13),(12,vI),(13,vI)] [(0,.cells [.v] 24),(1,.grow 13 46)] 2 ln)
theorem ajw(w:Nat):K 16 [.agg [.v],vI] (.v) (aiS w):=fr Tryz.f16 (pa (pa pn (K2 w)) (adO w)) w
theorem adb(w:Nat):K 28 [.v] (.b) (nr w):=fr Tryz.f28 pn w (lc 0 [(0,.v),(3,vI)] [] 0 ln)
theorem ok7(w:Nat):K 7 [.agg [.v]] (.b) (Ie w):=fr Tryz.f7 (pa pn (adb w)) w (lc 0 [(1,.ptr 0 0),(3,vI),(4,vI)] [(0,.cells [.v] 24)] 1 ln)
theorem Lk(w:Nat):K 73 [vI] vI (CT w):=fr Tryz.f73 pn w
theorem abY(w:Nat):K 132 [vI] (.b) (VH w):=fr Tryz.f132 pn w
theorem ab0(w:Nat):K 134 [vI] vI (GO w):=fr Tryz.f134 (pa pn (Lk w)) w
theorem TF(w:Nat):K 192 [vI] vI (G4 w):=fr Tryz.f192 pn w
theorem abZ(w:Nat):K 133 [vI,vI] (.aH [vI,.b]) (VI w):=fr Tryz.f133 (pa pn (TF w)) w
theorem ab1(w:Nat):K 135 [vI,vI,vI] (.aH [.v,.b]) (Np w):=fr Tryz.f135 (pa pn (TF w)) w (lc 0 [(0,vI),(1,vI),(2,vI),(8,.gr 0 1),(9,vI)] [(0,.grow 1 5)] 1 ln)
theorem ab2(w:Nat):K 136 [.agg [vI,vI,.v]] (.b) (VJ w):=fr Tryz.f136 (pa pn (Lk w)) w (lc 0 [(1,.ptr 0 0),(3,vI)] [(0,.cells [vI,vI,.v] 68)] 1 ln)
theorem aek(w:Nat):K 74 [vI,.v,vI] (.aH [.agg [vI,vI,.v],.b]) (Wj w):=fr Tryz.f74 (pa (pa (pa (pa (pa pn (abY w)) (ab0 w)) (abZ w)) (ab1 w)) (ab2 w)) w (lc 0 [(0,vI),(1,.v),(6,.ptr 0 0),(8,.ptr 1 0),(9,vI)] Py 4 ln)
theorem ads(w:Nat):K 31 [vI,.v] (.aH [.agg [vI,vI,.v],.b]) (N9 w):=fr Tryz.f31 (pa (pa pn (Lk w)) (aek w)) w
theorem Tp(w:Nat):K 11 [] (.agg [vI,.v,.v,.v,.v,.v,.v,.v,.v,.v,vI,vI,vI,.v]) (rb w):=fr Tryz.f11 (pa pn (ads w)) w
theorem Tl(w:Nat):K 10 [.v] (.agg [.v]) (q9 w):=fr Tryz.f10 pn w
theorem adg(w:Nat):K 29 [.agg [.v],vI,vI] (.b) (sQ w):=fr Tryz.f29 (pa (pa pn (Ln w)) (K2 w)) w
theorem ok8(w:Nat):K 8 [] (.b) (mv w):=fr Tryz.f8 (pa (pa (pa (pa pn (ab3 w)) (Tp w)) (Tl w)) (adg w)) w
theorem ajz(w:Nat):K 43 [.agg [vI,vI,.v],.agg [vI,vI,.v]] (.b) (ajc w):=fr Tryz.f43 (pa pn (adW w)) w
theorem ajE(w:Nat):K 96 [.agg [vI,vI,vI,.v],.agg [vI,vI,vI,.v]] (.b) (ajd w):=fr Tryz.f96 (pa pn (ajz w)) w
theorem ajB(w:Nat):K 48 [.v,.v,.fn 96 []] (.b) (aiO w):=fr Tryz.f48 (pa pn (ajE w)) w (lc 0 [(1,.v),(2,.fn 96 []),(15,.v),(16,vI),(17,vI)] [] 0 ln)
theorem ajA(w:Nat):K 46 [.agg [vI,.v,.v,.v,.v,.v,.v,.v],.agg [vI,.v,.v,.v,.v,.v,.v,.v]] (.b) (ai6 w):=fr Tryz.f46 (pa (pa (pa pn (aen w)) (adW w)) (ajB w)) w ln ul
theorem ajx(w:Nat):K 26 [.agg [vI,.v,.v,.v,.v,.v,.v,.v,.v,.v,.v,vI,vI],.agg [vI,.v,.v,.v,.v,.v,.v,.v,.v,.v,.v,vI,vI]] (.b) (ai4 w):=fr Tryz.f26 (pa (pa pn (adW w)) (ajA w)) w
theorem ajt(w:Nat):K 116 [.v] (.b) (ai3 w):=fr Tryz.f116 (pa pn (K0 w)) w
theorem ajC(w:Nat):K 62 [.v,.v] (.aH [.agg [vI,.v],.v,vI]) (ai7 w):=fr Tryz.f62 (pa (pa pn (abN w)) (ajt w)) w
theorem aju(w:Nat):KH 119 ⟨3,⟨[(0,vI),(1,vI),(2,.ptr 0 0)],[(0,.cells [.v,.v,.v] 179)],1⟩,1,⟨[(0,.v)],[(0,.cells [.v,.v,.v] 179)],1⟩⟩ (aiM w):=fh Tryz.f119 (pa pn (abO w)) w
theorem ajv(w:Nat):K 122 [.v,vI,vI] (.agg [vI,vI,vI,vI,vI]) (aiU w):=fr Tryz.f122 (ph (pa (pa pn (acn w)) (Fe w)) (acm w)) w ln ul
theorem ajD(w:Nat):K 64 [.agg [vI,.v]] (.aH [.agg [vI,.v,.v],.b]) (aiW w):=fr Tryz.f64 (pa (ph (pa (pa pn (Fc w)) (Fe w)) (aju w)) (ajv w)) w (lc 0 [(1,.ptr 0 0),(2,.ptr 1 0),(4,.ptr 2 0),(7,.v),(10,vI)] [(0,.cells [vI,.v] 113),(1,.cells [vI,.gr 8 5,.v] 55),(2,.cells [vI,.gr 9 5,.v] 55),(8,.grow 5 59),(9,.grow 5 59)] 10 (lc 2 [(2,.ptr 1 0),(4,.ptr 2 0),(93,.v),(94,vI),(95,vI)] [(1,.cells [vI,.gr 8 5,.v] 55),(2,.cells [vI,.gr 9 5,.v] 55),(8,.grow 5 59),(9,.grow 5 59)] 10 ln))
theorem ajy(w:Nat):K 27 [.v] (.aH [.agg [vI,.v,.v],vI]) (ai5 w):=fr Tryz.f27 (pa (pa (pa pn (aeb w)) (ajC w)) (ajD w)) w
theorem ok6(w:Nat):K 6 [.agg [.v]] (.b) (sh6 w):=fr Tryz.f6 (pa (pa (pa (pa (pa (pa (pa (pa (pa pn (ab3 w)) (K2 w)) (ajw w)) (acG w)) (acO w)) (ok7 w)) (ok8 w)) (ajx w)) (ajy w)) w (lc 0 [(1,.ptr 0 0),(3,.v),(4,vI)] [(0,.cells [.v] 24)] 1 (lc 2 [(1,.ptr 0 0),(3,.v),(9,.ptr 1 0),(11,vI)] [(0,.cells [.v] 24),(1,.cells [vI,.v,.v] 55)] 2 ln))
end
end
section
variable{β:Type}
@[simp] theorem bc(a b:Int):aq a b=decide (a<b):=yE a b
@[simp] theorem cD(a b:Int):ak a b=decide (a=b):=by rw[Ki];rfl
@[simp] theorem lU(a b:Nat):Nat.blt a b=decide (a<b):=by rw[fO,bV,Nat.blt_eq]
@[simp] theorem gu(a b:Nat):Nat.ble a b=decide (a<=b):=by rw[fO,bV,kW]
@[simp] theorem AZ(a b:Nat):Nat.beq a b=decide (a=b):=by rw[fO,bV,Nat.beq_eq]
@[simp] theorem qI{α:Type}{p:Prop}[Decidable p](a b:α):cond (decide p) a b=if p then a else b:=by by_cases h:p<;>simp
theorem aiH{α:Type}(c:Bool)(a b:α):cond c a b=if c=true then a else b:=by cases c<;>rfl
@[simp] theorem aA{α β:Type}(a:α)(f:α->Option β):ob (some a) f=f a:=rfl
@[simp] theorem aiJ{α β:Type}(f:α->Option β):ob none f=none:=rfl
@[simp] theorem iD{α γ δ:Type}(a:α)(f:α->δ)(g:γ->δ):dk (.inl a) f g=f a:=rfl
@[simp] theorem OY{α γ δ:Type}(a:γ)(f:α->δ)(g:γ->δ):dk (.inr a) f g=g a:=rfl
@[simp] theorem bN(x:Value)(r:List Value)(K:Value->List Value->Option β):ag (x::r) K=K x r:=rfl
@[simp] theorem aiL(K:Value->List Value->Option β):ag [] K=none:=rfl
@[simp] theorem aiI(r:Option β):om [] r=r:=rfl
@[simp] theorem cH(k:IntKind)(n:Int)(K:Int->Option β):aw k (.int k n) K=K n:=by unfold aw;simp
@[simp] theorem aiC(b:Bool)(K:Bool->Option β):AT (.bool b) K=K b:=rfl
@[simp] theorem aiG(s:ByteArray)(K:ByteArray->Option β):AU (.string s) K=K s:=rfl
@[simp] theorem ct(n:Nat)(K:Nat->Option β):aG (n:Int) K=K n:=rfl
@[simp] theorem aiE(n:Nat)(K:Nat->Option β):aG (Int.ofNat n) K=K n:=rfl
@[simp] theorem aiF(K:Nat->Option β):aG 0 K=K 0:=rfl
@[simp] theorem aiD(n:Nat)(K:Nat->Option β):aG (no_index(OfNat.ofNat n)) K=K (OfNat.ofNat n):=rfl
theorem lk{n:Int}(h:0<=n)(K:Nat->Option β):aG n K=K n.toNat:=by obtain⟨m,rfl⟩:=Int.eq_ofNat_of_zero_le h;rfl
@[simp] theorem aaQ(n:Nat)(c:List Value)(K:Nat->Option β):ax (ae n c) K=K n:=rfl
@[simp] theorem Zm[QF](x:Value)(r:Option β):tV x x r=r:=Zn x r
theorem Sl(sz m n:Nat)(c:List Value)(K:List Value->Option β):aQ sz m (ae n c) K=if m<n then K (c.drop (m*sz)) else none:=by unfold aQ ae;simp
theorem YR(sz l h n:Nat)(c:List Value)(K:Value->Option β):ib sz l h (ae n c) K=K (ae (h -l) ((c.drop (l*sz)).take ((h -l)*sz))):=rfl
theorem ZQ(E n:Nat)(c:List Value)(K:Nat->List Value->Option β):eX E (ae n c) K=if n*E<=c.length then K n (c.take (n*E)) else none:=by unfold eX ae;simp
@[simp] theorem aiK(n:Nat):aK n=decide (n<=1000000000):=by unfold aK;rw[gu]
theorem aN{n:Int}(h1:-9223372036854775808<=n)(h2:n<9223372036854775808):ah .i64 n=n:=by
 unfold ah;have:wj .i64 n=true:=by
  cases n with
  |ofNat m=>show Nat.blt m 9223372036854775808=true;simp_all;omega
  |negSucc m=>show Nat.blt m 9223372036854775808=true;rw[lU,bV];omega
 grind
theorem tD{n:Int}(h1:0<=n)(h2:n<18446744073709551616):ah .u64 n=n:=by
 unfold ah;have:wj .u64 n=true:=by
  cases n with
  |ofNat m=>show Nat.blt m 18446744073709551616=true;simp_all;omega
  |negSucc m=>omega
 grind
@[simp] theorem iV(a b:Int):Int.sub a b=a -b:=rfl
@[simp] theorem cR(a b:Int):Int.add a b=a+b:=rfl
@[simp] theorem pS(a b:Int):Int.mul a b=a*b:=rfl
@[simp] theorem cu(n:Nat):Int.ofNat n=(n:Int):=rfl
theorem aa4{α:Type}(z:α)(F:α->α)(n:Nat):lp z F (n+1)=F (lp z F n):=rfl
variable{α:Type}
theorem ef(z:α)(F:α->α){n:Nat}(h:0<n):lp z F n=F (lp z F (n -1)):=by
 cases n with
 |zero=>omega
 |succ n=>rfl
theorem lD{γ:Type}{z:α}{F:α->α}{r:γ}{w:Nat}(ev:Nat->α->γ)(m:Nat)(hs:∀i g,i<m->ev i (F g)=ev (i+1) g)(he:∀g,ev m (F g)=r)(h:m<w):ev 0 (lp z F w)=r:=by
 have:∀(d i v:Nat),i+d=m->d<v->ev i (lp z F v)=r:=by
  intro d;induction d with
  |zero=>intro i v hi hv;rw[ef z F (by omega),show i=m by omega,he]
  |succ d ih=>
   intro i v hi hv;rw[ef z F (by omega)]
   grind
 grind
def aC(f:α->List Value)(l:List α):Value:=ae l.length (l.flatMap f)
def aX(b:UInt8):Value:=.int .u8 (b.toNat:Int)
def pH(b:UInt8):List Value:=[aX b]
def aj(l:List UInt8):Value:=aC pH l
variable{k:Nat} {f:α->List Value}
theorem eJ(hf:∀x,(f x).length=k):∀l:List α,(l.flatMap f).length=l.length*k
 |[]=>by simp
 |x::l=>by rw[ff,aR,hf,eJ hf l,cQ,kb,Nat.one_mul,Nat.add_comm]
theorem pR(hf:∀x,(f x).length=k):∀(l:List α)(m:Nat),(l.flatMap f).drop (m*k)=(l.drop m).flatMap f
 |l,0=>by simp
 |[],m+1=>by simp
 |x::l,m+1=>by rw[ff,kb,Nat.one_mul,Nat.add_comm (m*k),<-List.drop_drop,List.drop_left' (hf x),pR hf l m];rfl
theorem yx(hf:∀x,(f x).length=k):∀(l:List α)(m:Nat),(l.flatMap f).take (m*k)=(l.take m).flatMap f
 |l,0=>by simp
 |[],m+1=>by simp
 |x::l,m+1=>by rw[ff,kb,Nat.one_mul,Nat.add_comm (m*k),List.take_append,gh (by rw[hf];omega),hf,Dj,yx hf l m];rfl
@[simp] theorem dw{α:Type}(f:α->List Value)(l:List α)(K:Nat->Option β):ax (aC f l) K=K l.length:=rfl
theorem bW{α:Type}{f:α->List Value}{k:Nat}(hf:∀x,(f x).length=k){l:List α}{m:Nat}(h:m<l.length)(K:List Value->Option β):aQ k m (aC f l) K=K (f l[m]++(l.drop (m+1)).flatMap f):=by unfold aC;rw[Sl,ar h,pR hf,dG h,ff]
variable{a b:Nat}
theorem yd(hf:∀x,(f x).length=k)(l:List α)(h:b<=l.length)(K:Value->Option β):ib k a b (aC f l) K=K (aC f ((l.drop a).take (b -a))):=by
 unfold aC;rw[YR,pR hf,yx hf]
 grind
theorem EB(hf:∀x,(f x).length=k)(l:List α)(K:Nat->List Value->Option β):eX k (aC f l) K=K l.length (l.flatMap f):=by unfold aC;rw[ZQ,eJ hf,ar (aB _),gh (by rw[eJ hf];exact aB _)]
theorem Jo(b:UInt8):(pH b).length=1:=rfl
@[simp] theorem dU(l:List UInt8)(K:Nat->Option β):ax (aj l) K=K l.length:=rfl
theorem pV{l:List UInt8}{m:Nat}(h:m<l.length)(K:List Value->Option β):aQ 1 m (aj l) K=K (aX l[m]::(l.drop (m+1)).flatMap pH):=bW Jo h K
theorem pL(l:List UInt8)(h:b<=l.length)(K:Value->Option β):ib 1 a b (aj l) K=K (aj ((l.drop a).take (b -a))):=yd Jo l h K
theorem ij(l:List UInt8)(K:Nat->List Value->Option β):eX 1 (aj l) K=K l.length (l.flatMap pH):=EB Jo l K
theorem iH(l:List UInt8):l.flatMap pH=l.map aX:=by
 induction l with
 |nil=>rfl
 |cons x l ih=>rw[ff,ih];rfl
@[simp] theorem rT(b:UInt8)(K:Int->Option β):aw .u8 (aX b) K=K (b.toNat:Int):=cH _ _ _
theorem aa3{α:Type}{z:α}{F:α->α}{G:Nat->α}(h:lp z F=G)(n:Nat):G (n+1)=F (G n):=by subst h;rfl
end
section
variable{w:Nat}
theorem wR(h:4<=w)(a b:Int):re w a b=some (fC a b):=by
 obtain⟨v,rfl⟩:=xv h;have e:Hf (v+4) (ae 3 [Value.int IntKind.i64 1,Value.int IntKind.i64 2,Value.int IntKind.i64 4]) a=some (if a=1 then 0 else if a=2 then 1 else if a=4 then 2 else-1):=by
  unfold Hf NK;simp[aa4,Sl,aN,@eq_comm _ _ a]
  repeat' split
  all_goals rfl
 unfold re NH;rw[e];simp[fC,Db];have hb:(if b=1 then some true else some (decide (b=2)))=some (b==1||b==2):=by by_cases hb:b=1<;>grind
 rw[hb];by_cases h1:a=1
 ·simp[h1]
 ·by_cases h2:a=2
  ·simp[h2]
  ·by_cases h4:a=4
   ·simp[h4]
   ·simp_all
variable{o:Int}
theorem ug{s:Int}(h:fC s o=true):(s=1\/s=2\/s=4)/\(o=1\/o=2):=by
 unfold fC Db at h
 grind
theorem aeq{n b:Nat}(hn:n<2^40)(hb:b<256):(BitVec.ofInt 64 ((n:Int)*256)|||BitVec.ofInt 64 (b:Int)).toNat=n*256+b:=by
 rw[(show((n:Int)*256)=((n*256:Nat):Int) from by omega),BitVec.ofInt_natCast];have:=Nat.shiftLeft_add_eq_or_of_lt (i:=8) (by omega) n;rw[Nat.shiftLeft_eq] at this
 grind
variable{l:List UInt8} {p s:Nat}
theorem Uo(h:p+s<=l.length):(gm l p s o).length=s:=by
 unfold gm
 grind
theorem aeJ{i:Nat}(h:p+s<=l.length)(hi:i<s):(gm l p s o)[i]'(by rw[Uo h];exact hi)=if o=1 then l[p+s -1 -i]'(by omega) else l[p+i]'(by omega):=by
 unfold gm
 grind
theorem GG(hw:5<=w)(l:List UInt8)(hl:l.length<2^60)(p s o:Int)(hp:p<2^62):
 sL w (aj l) p s o=some (match oR l p s o with|some n=>(n,true)|none=>(0,false)):=by
 unfold sL oR MS;rw[wR (by omega)];cases hm:fC s o with
 |false=>simp
 |true=>
  obtain⟨hs,ho⟩:=ug hm;simp only[aA,cL,aE,bc,qI,dU];by_cases h0:p<0
  ·rw[ar h0,ai (by omega)]
  rw[ai h0];rw[aN (by simp;omega) (by simp;omega)];by_cases h1:(Int.ofNat l.length).sub s<p
  ·rw[ar h1,ai (by simp at h1;omega)]
  rw[ai h1,ar ⟨trivial,by omega,by simp at h1;omega⟩];obtain⟨p,rfl⟩:=Int.eq_ofNat_of_zero_le (Int.not_lt.1 h0);obtain⟨s,rfl⟩:=Int.eq_ofNat_of_zero_le (a:=s) (by omega);have hps:p+s<=l.length:=by simp at h1;omega
  have hs4:s<=4:=by omega
  have hk:=Uo (o:=o) hps;refine lD (ev:=λi (g:Value->Int->Int->Int->Int->Int->Int->Option (Int×Bool))=>g (aj l) p s o (gF ((gm l p s o).take i):Int) s i) s ?_ ?_ (by omega)
  ·intro i g hi;have hi':((i:Int)<(s:Int)):=by omega
   have hn:gF ((gm l p s o).take i)<2^40:=tb (KY _) (by
    rw[dH,hk];exact eP (Nat.pow_le_pow_right (by decide) (show min i s<=4 by omega)) (by decide))
   have e1:(gm l p s o).take (i+1)=(gm l p s o).take i++[(gm l p s o)[i]'(by omega)]:=by rw[nB (by omega)]
   simp only[hi',gj,cD];have hb:=aeq hn (gm l p s o)[i].toNat_lt;have hv:gF ((gm l p s o).take i)*256+(gm l p s o)[i].toNat<2^50:=by have:=(gm l p s o)[i].toNat_lt;omega
   rw[e1,E8];rw[aeJ hps hi] at hb hv⊢;by_cases h2:o=1
   ·simp only[h2,bn,ay,gj] at hb hv⊢;simp(disch:=omega) only[iV,cR,aN,lk];rw[pV (show(((p:Int)+s -1 -i).toNat<l.length) by omega)];have e2:((p:Int)+s -1 -i).toNat=p+s -1 -i:=by omega
    simp(disch:=omega) only[e2,bN,rT,pS,aN];rw[show((2:Int)^8)=256 from rfl];simp(disch:=omega) only[aN,hb];rfl
   ·simp only[h2,cy,aE,gN] at hb hv⊢;simp(disch:=omega) only[cR,aN,lk];rw[pV (show(((p:Int)+i).toNat<l.length) by omega)];have e2:((p:Int)+i).toNat=p+i:=by omega
    simp(disch:=omega) only[e2,bN,rT,pS,aN];rw[show((2:Int)^8)=256 from rfl];simp(disch:=omega) only[aN,hb];rfl
  ·intro g;simp[hk,gh]
end
section
variable{β:Type}
@[simp] theorem FP(n:Nat)(v:Value)(c:List Value):aW n [v] c=c.set n v:=rfl
theorem FO:∀(vs old pre post:List Value),old.length=vs.length->aW pre.length vs (pre++(old++post))=pre++(vs++post)
 |[],old,pre,post,h=>by obtain rfl:=qu.1 h;rfl
 |v::vs,[],pre,post,h=>by grind
 |v::vs,o::old,pre,post,h=>by
  have:=FO vs old (pre++[v]) post (by grind);show aW (pre.length+1) vs ((pre++(o::old++post)).set pre.length v)=_
  grind
theorem Xr{c:List Value}{n:Nat}(h:n<c.length)(K:Value->List Value->Option β):ag (c.drop n) K=K c[n] (c.drop (n+1)):=by rw[dG h];rfl
def mq(l:List UInt8)(k:Nat):List UInt8:=(List.range l.length).map λj=>if j<k\/l.length -k<=j then(l[l.length -1 -j]?).getD 0 else(l[j]?).getD 0
@[simp] theorem UO(l:List UInt8)(k:Nat):(mq l k).length=l.length:=by simp[mq]
theorem ze(l:List UInt8)(k j:Nat)(h:j<l.length):(mq l k)[j]? =if j<k\/l.length -k<=j then l[l.length -1 -j]? else l[j]? :=by
 unfold mq
 grind
theorem ae1(l:List UInt8):mq l 0=l:=by
 apply s9;intro j;by_cases h:j<l.length
 ·rw[ze _ _ _ h,ai (by omega)]
 simp_all
variable{k:Nat}
theorem aeZ(l:List UInt8)(hk:l.length<=2*k+1):mq l k=l.reverse:=by
 apply s9;intro j;by_cases h:j<l.length
 ·rw[ze _ _ _ h]
  grind
 simp_all
theorem ae0(l:List UInt8)(hk:2*k+1<l.length):((mq l k).set k (l[l.length -1 -k]'(by omega))).set (l.length -1 -k) (l[k]'(by omega))=mq l (k+1):=by
 apply s9;intro j;by_cases h:j<l.length
 ·rw[ze _ _ _ h,List.getElem?_set,List.getElem?_set,ze _ _ _ h];simp
  grind
 simp_all
theorem SX{pre m post:List UInt8}{b:UInt8}(h:m[k]? =some b)(hk:pre.length+k<((pre++(m++post)).map aX).length):((pre++(m++post)).map aX)[pre.length+k]=aX b:=by grind
theorem KN(pre m post:List UInt8)(b:UInt8)(h:k<m.length):((pre++(m++post)).map aX).set (pre.length+k) (aX b)=(pre++(m.set k b++post)).map aX:=by simp_all
theorem Qa(b:UInt8):(SV.i IntKind.u8 (b.toNat:Int)).cells.length.beq 1=true:=rfl
variable{w:Nat}
theorem Nx(pre l post:List UInt8)(hl:l.length<2^60)(hw:l.length+1<w)(c:Nat):uI w pre.length l.length c ((pre++(l++post)).map aX)=some ((pre++(l.reverse++post)).map aX):=by
 unfold uI;rw[iV,cu,aN (by omega) (by omega),<-aeZ l (k:=l.length/2) (by omega)];rw[show(pre++(l++post))=pre++(mq l 0++post) by rw[ae1],show(l.length:Int) -1=(l.length:Int) -1 -((0:Nat):Int) by omega];refine lD (ev:=λi (g:Nat->Nat->Nat->Int->Int->List Value->Option (List Value))=>g pre.length l.length c i ((l.length:Int) -1 -i) ((pre++(mq l i++post)).map aX)) (l.length/2) ?_ ?_ (show l.length/2<w by omega)
 ·intro i g hi;have e1:((i:Int)<(l.length:Int) -1 -i):=by omega
  simp(disch:=omega) only[bc,e1,bn,ay,lk,mB,lU,gM];have e2:((l.length:Int) -1 -i).toNat=l.length -1 -i:=by omega
  rw[e2];have h1:l.length -1 -i<l.length:=by omega
  have h2:i<l.length:=by omega
  have h3:((pre++(mq l i++post)).map aX).length=pre.length+(l.length+post.length):=by simp
  have g1:((pre++(mq l i++post)).map aX)[pre.length+(l.length -1 -i)]'(by omega)=aX (l[l.length -1 -i]):=SX (by
   rw[ze _ _ _ h1,ai (by omega),dD h1]) _
  have g2:((pre++(mq l i++post)).map aX)[pre.length+i]'(by omega)=aX (l[i]):=SX (by
   rw[ze _ _ _ h2,ai (by omega),dD h2]) _
  simp only[h1,h2];rw[Xr (by omega),g1];simp only[rT];rw[Xr (by omega),g2];simp only[rT,Qa,gu,kq];have f1:pre.length+i+1<=((pre++(mq l i++post)).map aX).length:=by omega
  have f2:pre.length+(l.length -1 -i)+1<=((pre++(mq l i++post)).map aX).length:=by omega
  simp only[f1,f2,FP,iV,cR];rw[aN (by omega) (by omega),aN (by omega) (by omega)];rw[show Value.int IntKind.u8 (l[l.length -1 -i].toNat:Int)=aX l[l.length -1 -i] from rfl,show Value.int IntKind.u8 (l[i].toNat:Int)=aX l[i] from rfl];rw[KN _ _ _ _ (by rw[UO];exact h2),KN _ _ _ _ (by rw[List.length_set,UO];exact h1),ae0 l (by omega)];rw[show(l.length:Int) -1 -i -1=(l.length:Int) -1 -((i+1:Nat):Int) by omega];rfl
 ·intro g;have e1:¬(((l.length/2:Nat):Int)<(l.length:Int) -1 -((l.length/2:Nat):Int)):=by omega
  simp only[bc,e1,cy,aE]
theorem aa5{α α':Type}{z:α}{F:α->α}{z':α'}{F':α'->α'}(R:α->α'->Prop)(h0:R z z')(hs:∀g g',R g g'->R (F g) (F' g'))(w:Nat):R (lp z F w) (lp z' F' w):=by
 induction w with
 |zero=>exact h0
 |succ w ih=>exact hs _ _ ih
theorem aga(w a b:Nat)(c:List Value):GX w a b c=uI w 0 a b c:=by
 refine aa5 (R:=λ(g:Nat->Nat->Int->Int->List Value->Option (List Value))(g':Nat->Nat->Nat->Int->Int->List Value->Option (List Value))=>∀a b i j c,g a b i j c=g' 0 a b i j c) ?_ ?_ w _ _ _ _ _
 ·intros;rfl
 ·intro g g' h a b i j c;simp_all
theorem af9(l:List UInt8)(hl:l.length<2^60)(hw:l.length+1<w)(c:Nat):GX w l.length c (l.map aX)=some (l.reverse.map aX):=by
 rw[aga];have:=Nx [] l [] hl hw c
 grind
theorem P2:∀(i n:Nat),fj n (i+1)=UInt8.ofNat (n/256^i%256)::fj n i
 |0,n=>by simp[fj]
 |i+1,n=>by show fj (n/256) (i+1)++_=_;rw[P2 i (n/256)];show _=_::(fj (n/256) i++_);rw[jg,Nat.div_div_eq_div_mul,Nat.pow_succ,oF]
theorem af8{s:Int}(h:s=1\/s=2\/s=4)(w:Nat):zy w s=some ((256^s.toNat:Nat):Int):=by rcases h with rfl|rfl|rfl<;>rfl
theorem ail(i:Nat):(2:Int)^(8*i)=((256^i:Nat):Int):=by rw[<-(show(2:Nat)^(8*i)=256^i from by rw[Nat.pow_mul])];simp
theorem nV(l:List UInt8):aj l=ae l.length (l.map aX):=by unfold aj aC;rw[iH]
theorem uz:∀n:Nat,rep n (Value.int IntKind.u8 0).cells.toList=(List.replicate n (0:UInt8)).map aX
 |0=>rfl
 |n+1=>by show _=aX 0::_;rw[<-uz n];rfl
theorem sJ(hw:8<=w)(n s o:Int):gR w n s o=some (match(if fC s o=true then oZ n s.toNat o else none) with|some l=>(aj l,true)|none=>(ae 0 [],false)):=by
 unfold gR;rw[wR (by omega)];cases hm:fC s o with
 |false=>simp
 |true=>
  obtain⟨hs,ho⟩:=ug hm;unfold oZ;simp only[aA,cL,aE,bc,qI,gj];by_cases h0:n<0
  ·rw[ar h0,ai (by omega)]
  rw[ai h0,af8 hs];simp only[aA];by_cases h1:¬n<((256^s.toNat:Nat):Int)
  ·rw[ai (by omega)];simp only[h1,cy,fu,ay]
  replace h1:=qp.1 h1;rw[ar (by omega)];obtain⟨n,rfl⟩:=Int.eq_ofNat_of_zero_le (Int.not_lt.1 h0);obtain⟨s,rfl⟩:=Int.eq_ofNat_of_zero_le (a:=s) (by omega);have hs4:s<=4:=by omega
  have hr:Nat.ble s 1000000000=true:=by rw[kW];omega
  have hr2:Nat.ble s s=true:=by rw[kW];omega
  simp only[h1,bn,cL,aE];simp only[ct,hr,hr2,gY,uz,mB,oD];rw[show List.replicate s (0:UInt8)=List.replicate (s -0) 0++fj n 0 by simp[fj]];refine lD (ev:=λi (g:Int->Int->Int->Nat->Nat->Int->Int->List Value->Option (Value×Bool))=>g n s o s s s i ((List.replicate (s -i) (0:UInt8)++fj n i).map aX)) s ?_ ?_ (by omega)
  ·intro i g hi;have e1:((i:Int)<(s:Int)):=by omega
   simp only[e1,gj];have e2:(ah IntKind.u64 (Int.mul 8 (ah IntKind.u64 (i:Int))))=((8*i:Nat):Int):=by rw[pS,tD (n:=(i:Int)) (by omega) (by omega),tD (by omega) (by omega)];omega
   have e3:(n:Int).fdiv (2^min ((8*i:Nat):Int).toNat 64)=((n/256^i:Nat):Int):=by rw[mB,kE (by omega),ail,Int.fdiv_eq_ediv_of_nonneg _ (Int.natCast_nonneg _)];rfl
   have e4:ah IntKind.u8 ((n/256^i:Nat):Int)=((UInt8.ofNat (n/256^i%256)).toNat:Int):=by rw[xP,IntKind.wrap_u8];simp
   rw[e2,ai (by omega),e3,e4];simp(disch:=omega) only[iV,cR,aN,lk,Qa,fP,gu,lU];have e5:((s:Int) -1 -i).toNat=s -1 -i:=by omega
   have e6:s -1 -i<s:=by omega
   have e7:((List.replicate (s -i) (0:UInt8)++fj n i).map aX).length=s:=by simp[tK];omega
   have e8:0+(s -1 -i)*1+1<=s:=by omega
   simp only[e5,e6,e7,e8,bn,ay];rw[show 0+(s -1 -i)*1=s -1 -i by omega,FP,show Value.int IntKind.u8 ((UInt8.ofNat (n/256^i%256)).toNat:Int)=aX (UInt8.ofNat (n/256^i%256)) from rfl];have e9:(List.replicate (s -i) (0:UInt8)++fj n i)=List.replicate (s -1 -i) 0++([0]++fj n i):=by rw[<-dY,<-List.replicate_succ',show s -1 -i+1=s -i by omega]
   have e10:=KN (List.replicate (s -1 -i) 0) [0] (fj n i) (k:=0) (UInt8.ofNat (n/256^i%256)) (by simp);rw[uX,Nat.add_zero] at e10;rw[e9,e10,P2,show s -(i+1)=s -1 -i by omega];rfl
  ·intro g;simp;unfold aU;have hb:=tK s n;by_cases h2:o=1
   ·subst h2;have:=af9 (w:=w) (fj n s) (by omega) (by omega) s;rw[hb] at this;simp only[this,aA,gj];rw[nV,List.length_reverse,hb]
   ·simp_all;rw[nV,hb]
end
section
theorem Iw(l:List UInt8)(s m i:Nat)(h:i<l.length)(hs:0<s)(hm:m<=l.length)(hd:m%s=0):(gS l s m)[i]? =if i<m then l[i -i%s+(s -1 -i%s)]? else l[i]? :=by
 rw[Iv _ _ _ _ h];split
 ·next h1=>
  have:i -i%s+(s -1 -i%s)<l.length:=by
   have h3:=Nat.div_add_mod i s;have h4:=Nat.div_add_mod m s;have h5:i/s<m/s:=by apply Nat.lt_of_mul_lt_mul_left (a:=s);omega
   have h6:s*(i/s+1)<=s*(m/s):=Aq _ h5;rw[Nat.mul_add] at h6;omega
  grind
 ·rw[dD h];rfl
theorem Xf(l:List UInt8){s i:Nat}(hs:0<s)(h:i*s+s<=l.length):
 gS l s ((i+1)*s)=(gS l s (i*s)).take (i*s)++((((gS l s (i*s)).drop (i*s)).take s).reverse++(gS l s (i*s)).drop (i*s+s)):=by
 apply s9;intro j;have e1:(i+1)*s=i*s+s:=by rw[kb,Nat.one_mul]
 have d1:(i*s)%s=0:=Nat.mul_mod_left _ _;have d2:((i+1)*s)%s=0:=Nat.mul_mod_left _ _;have hlen:=qk l s (i*s);by_cases hj:j<l.length
 ·rw[Iw _ _ _ _ hj hs (by omega) d2];by_cases h1:j<i*s
  ·rw[ar (by omega),uU (by rw[dH];omega),List.getElem?_take_of_lt h1,Iw _ _ _ _ hj hs (by omega) d1,ar h1]
  ·by_cases h2:j<i*s+s
   ·have hm:j%s=j -i*s:=by
     have:=rI (show j -i*s<s by omega);rw[<-this]
     conv=>lhs;rw[show j=(j -i*s)+s*i by rw[oF s i];omega]
     rw[Nat.add_mul_mod_self_left]
    rw[ar (by omega),uV (by rw[dH];omega),dH,hlen,kE (by omega)];rw[uU (by rw[List.length_reverse,dH,dZ];omega)];rw[List.getElem?_reverse (by rw[dH,dZ];omega),dH,dZ,hlen,kE (by omega)];rw[List.getElem?_take_of_lt (by omega),List.getElem?_drop,Iw _ _ _ _ (by omega) hs (by omega) d1,ai (by omega),hm]
    congr 1
    omega
   ·rw[ai (by omega),uV (by rw[dH];omega),uV (by simp;omega)];simp;rw[Iw _ _ _ _ (by omega) hs (by omega) d1,ai (by omega)]
    congr 1
    omega
 ·rw[lN (by rw[qk];omega),lN (by simp;omega)]
theorem Xe(l:List UInt8)(s:Nat):gS l s 0=l:=by
 apply s9;intro i;by_cases h:i<l.length
 ·rw[Iv _ _ _ _ h,dD h];rfl
 ·rw[lN (by rw[qk];omega),lN (by omega)]
theorem HH(w:Nat){a b c:Int}(h:-2^62<c/\c<2^62)(ha:a<2^62):wW w a b c=some (decide (0<=a/\0<=b/\a<=c/\b<=c -a)):=by
 unfold wW;simp;by_cases h1:a<0
 ·simp[h1];omega
 by_cases h2:b<0
 ·simp_all;omega
 by_cases h3:c<a
 ·simp_all;omega
 rw[aN (by omega) (by omega)];by_cases h4:c -a<b<;>grind
theorem ag6(w:Nat){n:Nat}(h:n<2^60):HU w (n:Int)=some (aD n:Int):=by
 unfold HU aD;have e:(BitVec.ofInt 64 (n:Int)&&&BitVec.ofInt 64 1).toNat=n%2:=by simp
 rw[e,aN (n:=((n%2:Nat):Int)) (by omega) (by omega),cR,aN (by omega) (by omega)];rfl
variable{w:Nat}
theorem Xb(l:List UInt8)(hl:l.length<2^29)(hw:l.length+10<=w)(s:Nat)(o:Int)(hs:(s:Int)=1\/(s:Int)=2\/(s:Int)=4\/(s:Int)=8)(ho:o=1\/o=2):
 lp (λ(_ _:Int)(_ _:Nat)(_:Int)(_:List Value)=>(none:Option Value))
     (λ(x14:Int->Int->Nat->Nat->Int->List Value->Option Value)(x15 x16:Int)(x17 x18:Nat)(x19:Int)(x20:List Value)=>
      bif ak x16 1 then
       bif !aq (Int.ofNat x17) (ah IntKind.i64 (x19.add x15)) then
        aG (ah IntKind.i64 (x19.add x15)) λx21=>
         aG x19 λx22=>
          bif x21.ble x18&&x22.ble x21 then
           ob (uI w (bif x18.beq x22 then 0 else 0+x22*1) (x21 -x22) (x18 -x22) x20) λx23=>
            x14 x15 x16 x17 x18 (ah IntKind.i64 (x19.add x15)) x23
          else none
       else some (ae x17 (List.drop 0 x20))
      else some (ae x17 (List.drop 0 x20)))
     w (s:Int) o l.length l.length 0 (l.map aX)=some (if o=1 then aj (gS l s (l.length/s*s)) else aj l):=by
 have hs0:0<s:=by omega
 have hs8:s<=8:=by omega
 have hd2:l.length/s<=l.length:=Nat.div_le_self _ _;by_cases h1:o=1
 ·subst h1;have hd:s*(l.length/s)<=l.length:=Nat.mul_div_le _ _;have hd3:l.length<s*(l.length/s)+s:=Nat.lt_mul_div_succ _ hs0;rw[show l.map aX=(gS l s (s*0)).map aX by rw[Nat.mul_zero,Xe],ar rfl];refine lD (ev:=λi (g:Int->Int->Nat->Nat->Int->List Value->Option Value)=>g (s:Int) 1 l.length l.length ((s*i:Nat):Int) ((gS l s (s*i)).map aX)) (l.length/s) ?_ ?_ (by omega)
  ·intro i g hi;have hle:s*(i+1)<=s*(l.length/s):=Aq _ hi;have e1:s*(i+1)=s*i+s:=by rw[Nat.mul_add,gM]
   have e2:(((s*i:Nat):Int).add (s:Int))=((s*(i+1):Nat):Int):=by rw[cR,e1];omega
   simp only[e2,show ak 1 1=true from rfl,ay,bc,cu];rw[aN (by omega) (by omega)];have e3:¬((l.length:Int)<((s*(i+1):Nat):Int)):=by omega
   simp only[e3,cy,fu,ay,ct,gu,AZ];have e4:s*(i+1)<=l.length:=by omega
   have e5:s*i<=s*(i+1):=by omega
   have e6:¬(l.length=s*i):=by omega
   simp only[e4,e5,e6,bn,cy,gY,ay,aE];have hlen:=qk l s (s*i);have:=Nx (w:=w) ((gS l s (s*i)).take (s*i)) (((gS l s (s*i)).drop (s*i)).take s) ((gS l s (s*i)).drop (s*i+s)) (by simp;omega) (by simp;omega) (l.length -s*i);rw[<-oF i s,<-Xf l hs0 (by rw[oF];omega),oF i s,oF (i+1) s,<-List.drop_drop,mD,mD,dH,dH,dZ,hlen,kE (by omega),kE (by omega)] at this;rw[show 0+s*i*1=s*i by omega,show s*(i+1) -s*i=s by omega,this];rfl
  ·intro g;simp only[show ak 1 1=true from rfl,ay,bc,cu,cR];rw[aN (by omega) (by omega)];have e3:((l.length:Int)<((s*(l.length/s):Nat):Int)+(s:Int)):=by omega
   simp_all;rw[nV,qk,oF]
 ·rw[ai h1,ef _ _ (by omega)];simp only[cD,h1,cy,aE,eL,nV]
theorem ag8(l:List UInt8)(hl:l.length<2^29)(hw:l.length+10<=w)(s o:Int):
 HY w (aj l) s o=some (if fC s o=true\/(s=8/\fC 1 o=true) then(if o=1 then aj (gS l s.toNat (l.length/s.toNat*s.toNat)) else aj l) else ae 0 []):=by
 unfold HY MK;rw[wR (by omega)];have hr:Nat.ble l.length 1000000000=true:=by rw[kW];omega
 have hr2:Nat.ble l.length l.length=true:=by rw[kW];omega
 have hi:aW 0 (List.take (l.length*1) (l.map aX)) (List.map aX (List.replicate l.length 0))=l.map aX:=by have:=FO (l.map aX) (List.map aX (List.replicate l.length 0)) [] [] (by simp);simp only[List.length_nil,iF,eH] at this;rw[gM,gh (by simp),this]
 have hq:((l.map aX).length.beq (l.length*1)&&(0+l.length*1).ble (List.map aX (List.replicate l.length 0)).length)=true:=by simp
 by_cases hc:¬(fC s o=true\/(s=8/\fC 1 o=true))
 ·rw[ai hc];have hm:fC s o=false:=by cases h:fC s o<;>simp_all
  simp;by_cases h8:s=8
  ·have hm1:fC 1 o=false:=by cases h:fC 1 o<;>simp_all
   simp_all;rw[wR (by omega),hm1];rfl
  ·simp_all
 replace hc:=qp.1 hc;have hs:s=1\/s=2\/s=4\/s=8:=by
  rcases hc with h|h
  ·have:=(ug h).1;omega
  ·omega
 have ho:o=1\/o=2:=by
  rcases hc with h|h
  ·exact(ug h).2
  ·exact(ug h.2).2
 obtain⟨s,rfl⟩:=Int.eq_ofNat_of_zero_le (a:=s) (by omega);have hs0:0<s:=by omega
 have hs8:s<=8:=by omega
 rw[ar hc,mB];cases hm:fC s o;all_goals simp only[aA,cL,fu,ay,aE]
 ·have h8:(s:Int)=8:=by rcases hc with h|h;(rw[hm] at h;cases h);exact h.1
  have hm1:fC 1 o=true:=by rcases hc with h|h;(rw[hm] at h;cases h);exact h.2
  rw[wR (by omega),hm1,show ak (s:Int) 8=true by rw[h8];rfl];simp only[cL,aE,aA,dU,ij,hr,hr2,gY,uz,iH,Nat.min_self];rw[hq,ay,hi];exact Xb l hl hw s o hs ho
 ·simp only[dU,ij,hr,hr2,gY,uz,iH,Nat.min_self];rw[hq,ay,hi];exact Xb l hl hw s o hs ho
end
theorem zG(w:Nat)(t:Int):sP w t=some (kindOf t):=by
 by_cases o:t<1\/12<t
 ·rw[EN o];unfold sP;simp only[bc,qI];by_cases h:t<0
  ·rw[ar h]
  rw[ai h];by_cases h2:12<t
  ·rw[ar h2]
  rw[show t=0 by omega];rfl
 ·have hc:t=1\/t=2\/t=3\/t=4\/t=5\/t=6\/t=7\/t=8\/t=9\/t=10\/t=11\/t=12:=by omega
  rcases hc with rfl|rfl|rfl|rfl|rfl|rfl|rfl|rfl|rfl|rfl|rfl|rfl<;>rfl
theorem Bw(t:Int):0<=(kindOf t).1 /\(kindOf t).1 <=8:=by
 by_cases o:t<1\/12<t
 ·rw[EN o];exact⟨by decide,by decide⟩
 ·have hc:t=1\/t=2\/t=3\/t=4\/t=5\/t=6\/t=7\/t=8\/t=9\/t=10\/t=11\/t=12:=by omega
  rcases hc with rfl|rfl|rfl|rfl|rfl|rfl|rfl|rfl|rfl|rfl|rfl|rfl<;>exact⟨by decide,by decide⟩
theorem V7(w:Nat)(t:Int):CJ w t=some (kindOf t).1 :=by unfold CJ;rw[zG];rfl
theorem Pc:∀l:List UInt8,rF (l.map aX)=some (l.map λb=>(b.toNat:Int))
 |[]=>rfl
 |b::l=>by show ob (rF (l.map aX)) _=_;rw[Pc l];rfl
theorem vJ{β:Type}(l:List UInt8)(K:List Int->Option β):jQ (aj l) K=K (l.map λb=>(b.toNat:Int)):=by rw[nV];show cond (Nat.ble l.length (l.map aX).length) (ob (rF ((l.map aX).take l.length)) K) none=_;rw[gh (by simp),Pc,eD,show Nat.ble l.length l.length=true by rw[kW];exact aB _];rfl
theorem Yi(l:List UInt8):Lib.bytesOf (l.map λb=>(b.toNat:Int))=l:=by
 unfold Lib.bytesOf;rw[List.map_map]
 conv=>rhs;rw[<-List.map_id l]
 apply List.map_congr_left;simp
theorem QT(b:UInt8)(l:List UInt8):Bh (b::l)=(((b==0)==l.isEmpty)&&Bh l):=by
 unfold Bh;rw[cQ,xu,List.all_cons,List.all_map]
 grind
theorem RR:∀l:List UInt8,l≠[]->((Lib.indexByte l 0=(l.length:Int) -1)↔Bh l=true)
 |[],h=>absurd rfl h
 |[b],_=>by
  rw[QT];by_cases hb:b=0
  ·subst hb;decide
  ·simp[hb,Lib.indexByte]
 |b::c::l,_=>by
  rw[QT];have ih:=RR (c::l) (by simp);unfold Lib.indexByte;by_cases hb:b=0
  ·subst hb;simp;omega
  ·have hb':(b==0)=false:=by simpa using hb
   simp only[hb',List.isEmpty_cons,BEq.rfl,fP];rw[<-ih];by_cases h1:Lib.indexByte (c::l) 0=-1
   ·simp;omega
   ·have h1':(Lib.indexByte (c::l) 0==-1)=false:=by simpa using h1
    simp only[h1'];simp
theorem agR(w:Nat){l:List UInt8}(h:l≠[]):CG w (aj l) 0=some (Lib.indexByte l 0):=by
 unfold CG;rw[vJ,Yi];cases l with
 |nil=>grind
 |cons b l=>rfl
theorem zI(w:Nat)(ty au:Int)(l:List UInt8)(hl:l.length<2^40):qi w ty au (aj l)=some (dW ty au l):=by
 unfold qi dW;rw[zG];have hk:=Bw ty;simp;by_cases h1:(kindOf ty).1 =0
 ·simp[h1]
 by_cases h2:au<1
 ·rw[ar h2];have:¬(1<=au):=by omega
  simp[this]
 rw[ai h2];by_cases h3:65536<au
 ·rw[ar h3];have:¬(au<=65536):=by omega
  simp[this]
 rw[ai h3];have h5:au*(kindOf ty).1 <=65536*8:=Int.mul_le_mul (by omega) (by omega) (by omega) (by omega);have h6:0<=au*(kindOf ty).1 :=Int.mul_nonneg (by omega) (by omega);rw[aN (by omega) (by omega)];by_cases h4:(l.length:Int)=au*(kindOf ty).1
 ·have h1':(kindOf ty).1 ≠0:=h1;have h2':1<=au:=by omega
  have h3':au<=65536:=by omega
  have h0:l≠[]:=by
   rintro rfl
   have:1*1<=au*(kindOf ty).1 :=Int.mul_le_mul h2' (by omega) (by decide) (by omega);simp at h4;omega
  rw[agR w h0];simp only[h4,h1',h2',h3',bn,aA,fP];rw[<-h4,aN (by omega) (by omega)];have:=RR l h0;by_cases h7:ty=2
  ·subst h7;simp_all
  ·simp[h7]
 ·simp[h4]
theorem Sm(t:Int)(h:(kindOf t).1 ≠0):(kindOf t).2.1 =1\/(kindOf t).2.1 =2\/(kindOf t).2.1 =4\/(kindOf t).2.1 =8:=by obtain⟨s,m,e1,e2,e3⟩:=Ku t h;omega
theorem V9{w:Nat}(ty au:Int)(l:List UInt8)(hl:l.length<2^29)(hw:l.length+10<=w)(o:Int)(ho:o=1\/o=2):
 CM w ty au (aj l) o=some (match oW ty au l o with|some d=>(ty,au,aj d,true)|none=>(0,0,ae 0 [],false)):=by
 unfold CM oW;rw[zG];have hk:=Bw ty;simp only[aA,cD,bc,qI,dU,cu,pS];by_cases h1:(kindOf ty).1 =0
 ·simp[h1]
 rw[ai h1];by_cases h2:au<1
 ·rw[ar h2,ai (by omega)]
 rw[ai h2];by_cases h3:65536<au
 ·rw[ar h3,ai (by omega)]
 rw[ai h3];have h5:au*(kindOf ty).1 <=65536*8:=Int.mul_le_mul (by omega) (by omega) (by omega) (by omega);have h6:0<=au*(kindOf ty).1 :=Int.mul_nonneg (by omega) (by omega);rw[aN (by omega) (by omega)];by_cases h4:(l.length:Int)<au*(kindOf ty).1
 ·rw[ar h4,ai (by omega)]
 rw[ai h4];have h7:(au*(kindOf ty).1).toNat<=l.length:=by omega
 simp only[lk h6,gu,h7,gZ,bn];rw[pL l h7,eL,Nat.sub_zero];have hlen:(l.take (au*(kindOf ty).1).toNat).length=(au*(kindOf ty).1).toNat:=by rw[dH];omega
 rw[ag8 _ (by omega) (by omega)];have hc:fC (kindOf ty).2.1 o=true\/((kindOf ty).2.1 =8/\fC 1 o=true):=by rcases(Sm ty h1) with h|h|h|h<;>rcases ho with rfl|rfl<;>rw[h]<;>simp[fC,Db]
 rw[ar hc];obtain⟨s,m,e1,e2,e3⟩:=Ku ty h1;have hd:(l.take (au*(kindOf ty).1).toNat).length/(kindOf ty).2.1.toNat*(kindOf ty).2.1.toNat=(l.take (au*(kindOf ty).1).toNat).length:=by rw[hlen,e1,mB];apply Nat.div_mul_cancel;rw[e2];refine⟨au.toNat*m,?_⟩;obtain⟨c,rfl⟩:=Int.eq_ofNat_of_zero_le (a:=au) (by omega);rw[<-Int.natCast_mul,mB,mB,<-Nat.mul_assoc,oF]
 rw[hd];have ht:(if o=1 then aj (gS (l.take (au*(kindOf ty).1).toNat) (kindOf ty).2.1.toNat (l.take (au*(kindOf ty).1).toNat).length) else aj (l.take (au*(kindOf ty).1).toNat))=aj (iM (l.take (au*(kindOf ty).1).toNat) (kindOf ty).2.1.toNat o):=by unfold iM;split<;>rfl
 rw[ht];simp;rw[zI _ _ _ _ (by rw[xc];omega)];cases hm:dW ty au (iM (l.take (au*(kindOf ty).1).toNat) (kindOf ty).2.1.toNat o) with
 |true=>rw[ar ⟨h1,by omega,by omega,by omega,rfl⟩];rfl
 |false=>rw[ai (by simp)];rfl
end Lt
end Go.Proofs.YtfdojmichbgpiaaGreatDoor

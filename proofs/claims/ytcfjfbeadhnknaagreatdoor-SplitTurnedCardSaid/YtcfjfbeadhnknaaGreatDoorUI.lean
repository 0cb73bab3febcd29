import Derived.Test.YtcfjfbeadhnknaaGreatDoorCards
import Derived.Test.YtcfjfbeadhnknaaGreatDoorTie
import Derived.Deep.DeepHandedRow
import Derived.Deep.DeepWitnessRowRef
import Derived.Lib.LaidTab
import Derived.LaidMore
import Derived.MakeChecks
import Derived.Lib.SmallJoins
import Derived.Test.YtcfjfbeadhnknaaGreatDoorUH
namespace Go.Proofs.YtcfjfbeadhnknaaGreatDoor
set_option linter.unusedVariables false
set_option linter.unusedSimpArgs false
set_option linter.unusedSectionVars false
set_option linter.constructorNameAsVariable false
set_option maxRecDepth 100000
namespace Lt
noncomputable section
def sq(w:Nat):Value->Option (Bool):=λa=>lp (α:=Value->Int->Option Bool) (λ_ _=>none) (λd e f=>au e λg=>bif ak f (Int.ofNat g) then aA f λh=>aI 4 h e λi=>af (List.drop 2 (List.drop 1 i)) λj k=>au j λl=>bif ak 600 (Int.ofNat l) then some true else d e (ag .i64 (f.add 1)) else au e λm=>some (ak 60 (Int.ofNat m))) w a 0
theorem ady(w:Nat):K 90 [.v] (.b) (sq w):=fr Tryz.f90 pn w (lc 0 [(0,.v),(3,vI)] [] 0 ln)
def Gb(w:Nat):Value->Option (Bool):=λa=>lp (α:=Int->Value->Option Bool) (λ_ _=>none) (λd e f=>au f λg=>bif ak e (Int.ofNat g) then bif ak e 7 then aA e λh=>aI 14 h f λi=>af i λj k=>ar .i64 j λl=>af k λm n=>af n λo p=>af p λq r=>af r λs t=>af t λu v=>af v λy z=>af z λa0 a1=>af a1 λa2 a3=>af a3 λa4 a5=>af a5 λa6 a7=>ar .i64 a6 λa8=>af a7 λa9 b0=>ar .i64 a9 λb1=>af b0 λb2 b3=>ar .i64 b2 λb4=>af b3 λb5 b6=>ob (sq w m) λb7=>bif b7 then some true else ob (sq w o) λb8=>bif b8 then some true else ob (sq w q) λb9=>bif b9 then some true else ob (sq w s) λc0=>bif c0 then some true else ob (sq w u) λc1=>bif c1 then some true else ob (sq w b5) λc2=>bif c2 then some true else au y λc3=>bif ak 2000 (Int.ofNat c3) then some true else au a0 λc4=>bif ak 2000 (Int.ofNat c4) then some true else au a2 λc5=>bif ak 2000 (Int.ofNat c5) then some true else au a4 λc6=>bif ak 2000 (Int.ofNat c6) then some true else d (ag .i64 (e.add 1)) f else au f λc7=>some (ak 6 (Int.ofNat c7)) else au f λc8=>some (ak 6 (Int.ofNat c8))) w 0 a
theorem adi(w:Nat):K 40 [.agg [.v]] (.b) (Gb w):=fr Tryz.f40 (pa pn (ady w)) w (lc 0 [(1,.ptr 0 0),(3,vI)] [(0,.cells [.v] 24)] 1 ln)
def BI(w:Nat):Option (Int×Value×Value×Value×Value×Value×Value×Value×Value×Value×Int×Int×Int×Value):=ob (OJ w 3 (ae 1 [Value.int .i64 1])) λa=>some (2,ae 1 (List.drop 0 [Value.int .i64 274,Value.int .i64 a.1,Value.int .i64 a.2.1,a.2.2.1]),ae 0 [],ae 0 [],ae 0 [],ae 0 [],ae 0 [],ae 0 [],ae 0 [],ae 15 (List.drop 0 [Value.int .u8 255,Value.int .u8 216,Value.int .u8 255,Value.int .u8 218,Value.int .u8 0,Value.int .u8 8,Value.int .u8 1,Value.int .u8 1,Value.int .u8 0,Value.int .u8 0,Value.int .u8 63,Value.int .u8 0,Value.int .u8 7,Value.int .u8 255,Value.int .u8 217]),0,0,0,ae 0 [])
theorem adz(w:Nat):K 91 [] (.agg [vI,.v,.v,.v,.v,.v,.v,.v,.v,.v,vI,vI,vI,.v]) (BI w):=fr Tryz.f91 (pa pn (UF w)) w
def VG(w:Nat):RK 87 [.v] (.v):=rr Tryz.f87 pn w
def aiX(w:Nat):Value->Option (Value):=(VG w).1
def aiZ(w:Nat):Option (Value):=some (ae 0 [])
theorem adw(w:Nat):K 87 [.em true] (.v) (aiZ w):=fr Tryz.f87 pn w ln (λn=>Nat.blt n 100000)
def aiY(w:Nat):Option (Value):=some (ae 0 (List.drop 0 (bh 0 [] [])))
theorem adv(w:Nat):K 87 [.em false] (.v) (aiY w):=fr Tryz.f87 pn w ln (λn=>Nat.blt n 100000)
def ai0(w:Nat):Value->Option (Value):=λx=>au x λn=>bif Nat.beq n 0 then some (ae 0 []) else aiX w x
theorem adx(w:Nat):cL Tryz.prog 87 [.v] .v (ai0 w):=DW (VG w).2 (show cL Tryz.prog 87 [.em false] .v (some (ae 0 [])) from adv w) (show cL Tryz.prog 87 [.em true] .v (some (ae 0 [])) from adw w)
def VD(w:Nat):RK 37 [.v] (.aH [.v,.v,vI]):=rr Tryz.f37 (pa (ph pn (T4 w)) (adx w)) w
def aiM(w:Nat):Value->Option (Value×Value×Int):=(VD w).1
def BG(w:Nat):Value->Option (Value×Int):=Dz (aiM w)
theorem adk(w:Nat):cL Tryz.prog 43 [.v] (.aH [.v,.i .i64]) (BG w):=aap (VD w).2
def ag2(w:Nat):RK 96 [.v] (.b):=rr Tryz.f96 (pa pn (Mm w).2) w
def ag6(w:Nat):RK 150 [.v,.fn 96 []] (vI):=rr Tryz.f150 (pa pn (ag2 w).2) w (lc 0 [(0,.v),(1,.fn 96 []),(7,vI),(8,vI)] [] 0 ln)
def ag1(w:Nat):RK 95 [.v,.fn 96 []] (.b):=rr Tryz.f95 (pa pn (ag6 w).2) w
def ag3(w:Nat):RK 98 [.v] (.aH [.v,vI]):=rr Tryz.f98 (pa pn (Ez w)) w
def VE(w:Nat):RK 44 [.v] (.aH [.v,vI]):=rr Tryz.f44 (pa (pa (pa (pa pn (T5 w)) (ag1 w).2) (ag3 w).2) (agZ w).2) w ln (λn=>Nat.blt n 100000)
def sn(w:Nat):Value->Option (Value×Int):=(VE w).1
def Gi(w:Nat):Int->Value->Value->Value->Value->Value->Value->Value->Value->Value->Int->Int->Int->Value->Option (Value×Int×Int×Int×Value):=λa b c d e f g h i j k l m n=>ob (yi w (ae 1 (List.drop 0 [Value.int .i64 a,b,c,d,e,f,g,h,i,j,Value.int .i64 0,Value.int .i64 0,Value.int .i64 0,ae 0 []]))) λo=>some (o.1,k,l,m,n)
theorem adA(w:Nat):K 92 [.agg [vI,.v,.v,.v,.v,.v,.v,.v,.v,.v,vI,vI,vI,.v]] (.agg [.v,vI,vI,vI,.v]) (Gi w):=fr Tryz.f92 (pa pn (K4 w)) w
def tT(w:Nat):Value->Option (Value×Int):=λa=>ob (vK w a) λb=>bif !aj b.2.2 0 then some (ae 0 [],b.2.2) else au b.1 λc=>lp (α:=Value->Int->Int->List Value->Option (Value×Int)) (λ_ _ _ _=>none) (λh i j k l=>bif ak k j then aA k λm=>aI 14 m i λn=>af n λo p=>ar .i64 o λq=>af p λr s=>af s λt u=>af u λv y=>af y λz a0=>af a0 λa1 a2=>af a2 λa3 a4=>af a4 λa5 a6=>af a6 λa7 a8=>af a8 λa9 b0=>af b0 λb1 b2=>ar .i64 b1 λb3=>af b2 λb4 b5=>ar .i64 b4 λb6=>af b5 λb7 b8=>ar .i64 b7 λb9=>af b8 λc0 c1=>ob (Gi w q r t v z a1 a3 a5 a7 a9 b3 b6 b9 c0) λc2=>bif aE l.length&&(aE 1&&(List.take 5 (List.drop 0 [c2.1,Value.int .i64 c2.2.1,Value.int .i64 c2.2.2.1,Value.int .i64 c2.2.2.2.1,c2.2.2.2.2])).length.beq 5) then h i j (ag .i64 (k.add 1)) (l++List.take 5 (List.drop 0 [c2.1,Value.int .i64 c2.2.1,Value.int .i64 c2.2.2.1,Value.int .i64 c2.2.2.2.1,c2.2.2.2.2])) else none else some (ae (l.length/5) l,0)) w b.1 (Int.ofNat c) 0 []
theorem TX(w:Nat):K 42 [.v] (.aH [.v,vI]) (tT w):=fr Tryz.f42 (pa (pa pn (Ez w)) (adA w)) w (lc 0 [(7,.gr 1 5),(20,.v),(21,vI),(22,vI)] [(1,.grow 5 83)] 2 ln)
def BJ(E:Value->Value->Option (Int×List Value)->Option (Int×List Value))(w:Nat):Value->Int->Int->Int->Value->List Value->Option (Int×List Value):=λa b c d e f=>ob (vK w a) λg=>bif !aj g.2.2 0 then some (g.2.2,f) else au g.1 λh=>bif !aj (Int.ofNat h) 1 then some (2,f) else aI 14 0 g.1 λi=>af i λj k=>ar .i64 j λl=>af k λm n=>af n λo p=>af p λq r=>af r λs t=>af t λu v=>af v λy z=>af z λa0 a1=>af a1 λa2 a3=>af a3 λa4 a5=>af a5 λa6 a7=>ar .i64 a6 λa8=>af a7 λa9 b0=>ar .i64 a9 λb1=>af b0 λb2 b3=>ar .i64 b2 λb4=>af b3 λb5 b6=>E e e (bif aj d d then bif aj c c then E e e (bif aj d d then E e e (bif aE f.length&&(aE 1&&(List.take 14 (List.drop 0 [Value.int .i64 l,m,o,q,s,u,y,a0,a2,a4,Value.int .i64 b,Value.int .i64 c,Value.int .i64 d,e])).length.beq 14) then some (0,f++List.take 14 (List.drop 0 [Value.int .i64 l,m,o,q,s,u,y,a0,a2,a4,Value.int .i64 b,Value.int .i64 c,Value.int .i64 d,e])) else none) else none) else none else none)
def yq(w:Nat):Value->Int->Int->Int->Value->List Value->Option (Int×List Value):=BJ (λ_ _ r=>r) w
theorem adB(w:Nat):na Tryz.prog 99 ⟨2,⟨[(0,.ptr 0 0),(1,.agg [.v,.i .i64,.i .i64,.i .i64,.v])],[(0,.cells [.gr 1 14] 168),(1,.grow 14 30)],2⟩,1,⟨[(0,.i .i64)],[(0,.cells [.gr 1 14] 168),(1,.grow 14 30)],2⟩⟩ (yq w):=by
 have k:KH 99 ⟨2,⟨[(0,.ptr 0 0),(1,.agg [.v,vI,vI,vI,.v])],[(0,.cells [.gr 1 14] 168),(1,.grow 14 30)],2⟩,1,⟨[(0,vI)],[(0,.cells [.gr 1 14] 168),(1,.grow 14 30)],2⟩⟩ (BJ kU w):=fh Tryz.f99 (pa pn (Ez w)) w;have e:BJ kU w=yq w:=by unfold yq BJ;simp only[xf]
 rw[<-e];exact k
def qx(w:Nat):Value->Option (Value×Int×Int):=λa=>au a λb=>lp (α:=Int->Value->Int->Int->List Value->Option (Value×Int×Int)) (λ_ _ _ _ _=>none) (λh i j k l m=>bif ak l k then aA l λn=>aI 5 n j λo=>af o λp q=>af q λr s=>ar .i64 r λt=>af s λu v=>ar .i64 u λy=>af v λz a0=>ar .i64 z λa1=>af a0 λa2 a3=>ob (yq w p t y a1 a2 m) λa4=>bif !aj a4.1 0 then some (ae 0 [],l,a4.1) else h i j k (ag .i64 (l.add 1)) a4.2 else ob (yi w (ae (m.length/14) m)) λa5=>bif !aj a5.2 0 then none else some (a5.1,i,a5.2)) w 0 a (Int.ofNat b) 0 []
theorem TY(w:Nat):K 45 [.v] (.aH [.v,vI,vI]) (qx w):=fr Tryz.f45 (ph (pa (pa pn (K4 w)) (EP w)) (adB w)) w (lc 0 [(3,vI),(5,.ptr 0 0),(9,.v),(10,vI),(11,vI)] [(0,.cells [.gr 1 14] 168),(1,.grow 14 30)] 2 ln)
def qw(w:Nat):Option (Bool):=ob (BI w) λa=>ob (ym w (ae 1 (List.drop 0 [Value.int .i64 a.1,a.2.1,a.2.2.1,a.2.2.2.1,a.2.2.2.2.1,a.2.2.2.2.2.1,a.2.2.2.2.2.2.1,a.2.2.2.2.2.2.2.1,a.2.2.2.2.2.2.2.2.1,a.2.2.2.2.2.2.2.2.2.1,Value.int .i64 a.2.2.2.2.2.2.2.2.2.2.1,Value.int .i64 a.2.2.2.2.2.2.2.2.2.2.2.1,Value.int .i64 a.2.2.2.2.2.2.2.2.2.2.2.2.1,a.2.2.2.2.2.2.2.2.2.2.2.2.2]))) λb=>ob (BI w) λc=>ob (BI w) λd=>ob (ym w (ae 2 (List.drop 0 [Value.int .i64 c.1,c.2.1,c.2.2.1,c.2.2.2.1,c.2.2.2.2.1,c.2.2.2.2.2.1,c.2.2.2.2.2.2.1,c.2.2.2.2.2.2.2.1,c.2.2.2.2.2.2.2.2.1,c.2.2.2.2.2.2.2.2.2.1,Value.int .i64 c.2.2.2.2.2.2.2.2.2.2.1,Value.int .i64 c.2.2.2.2.2.2.2.2.2.2.2.1,Value.int .i64 c.2.2.2.2.2.2.2.2.2.2.2.2.1,c.2.2.2.2.2.2.2.2.2.2.2.2.2,Value.int .i64 d.1,d.2.1,d.2.2.1,d.2.2.2.1,d.2.2.2.2.1,d.2.2.2.2.2.1,d.2.2.2.2.2.2.1,d.2.2.2.2.2.2.2.1,d.2.2.2.2.2.2.2.2.1,d.2.2.2.2.2.2.2.2.2.1,Value.int .i64 d.2.2.2.2.2.2.2.2.2.2.1,Value.int .i64 d.2.2.2.2.2.2.2.2.2.2.2.1,Value.int .i64 d.2.2.2.2.2.2.2.2.2.2.2.2.1,d.2.2.2.2.2.2.2.2.2.2.2.2.2]))) λe=>ob (BG w e.1) λf=>bif !aj f.2 0 then some false else au f.1 λg=>bif !aj (Int.ofNat g) 2 then some false else aI 1 0 f.1 λh=>af h λi j=>au i λk=>bif !aj (Int.ofNat k) 141 then some false else aI 1 1 f.1 λl=>af l λm n=>ob (nO w m b.1) λo=>bif !o then some false else ob (sn w f.1) λp=>aI 1 1 f.1 λq=>af q λr s=>ob (sn w (ae 1 (List.drop 0 [r]))) λt=>ob (sn w (ae 0 [])) λu=>ob (tT w e.1) λv=>bif !aj p.2 0 then some false else bif !aj t.2 0 then some false else bif !aj u.2 1 then some false else bif !aj v.2 0 then some false else au v.1 λy=>bif !aj (Int.ofNat y) 2 then some false else ob (nO w p.1 e.1) λz=>bif !z then some false else ob (nO w t.1 b.1) λa0=>bif !a0 then some false else ob (qx w v.1) λa1=>ob (qx w (ae 1 (List.drop 0 [e.1,Value.int .i64 0,Value.int .i64 0,Value.int .i64 0,ae 0 []]))) λa2=>aI 5 0 v.1 λa3=>af (List.drop 0 a3) λa4 a5=>ob (nO w a4 b.1) λa6=>bif a6 then aI 5 1 v.1 λa7=>af (List.drop 0 a7) λa8 a9=>ob (nO w a8 b.1) λb0=>bif b0 then ob (nO w a1.1 e.1) λb1=>bif b1 then bif aj a1.2.1 0 then bif aj a1.2.2 0 then bif aj a2.2.1 0 then some (aj a2.2.2 2) else some false else some false else some false else some false else some false else some false
theorem adj(w:Nat):K 41 [] (.b) (qw w):=fr Tryz.f41 (pa (pa (pa (pa (pa (pa (pa pn (VF w).2) (TV w)) (adz w)) (adk w)) (VE w).2) (TX w)) (TY w)) w
def BH(w:Nat):Value->Int->Option (Value):=λa b=>lp (α:=Value->Int->Int->List Value->Option Value) (λ_ _ _ _=>none) (λg h i j k=>au h λl=>bif ak j (Int.ofNat l) then au h λm=>bif aj (Int.ofNat m) 0 then none else aA ((ag .i64 (j.add i)).tmod (Int.ofNat m)) λn=>aI 5 n h λo=>af o λp q=>af q λr s=>ar .i64 r λt=>af s λu v=>ar .i64 u λy=>af v λz a0=>ar .i64 z λa1=>af a0 λa2 a3=>bif aE k.length&&(aE 1&&(List.take 5 (List.drop 0 [p,Value.int .i64 t,Value.int .i64 y,Value.int .i64 a1,a2])).length.beq 5) then g h i (ag .i64 (j.add 1)) (k++List.take 5 (List.drop 0 [p,Value.int .i64 t,Value.int .i64 y,Value.int .i64 a1,a2])) else none else some (ae (k.length/5) k)) w a b 0 []
theorem adm(w:Nat):K 53 [.v,vI] (.v) (BH w):=fr Tryz.f53 pn w (lc 0 [(0,.v),(1,vI),(5,.gr 0 5),(6,vI)] [(0,.grow 5 83)] 1 ln)
def NF(w:Nat):Value->Int->Option (Bool):=λa b=>ob (Gb w a) λc=>bif c then ob (qw w) λd=>some d else bif ak b 0 then ob (qw w) λe=>some e else bif ak 6 b then ob (qw w) λf=>some f else ob (yi w a) λg=>bif !aj g.2 0 then ob (qw w) λh=>some h else ob (tT w g.1) λi=>au a λj=>bif !aj i.2 0 then some false else au i.1 λk=>bif !aj (Int.ofNat k) (Int.ofNat j) then some false else bif aj (Int.ofNat j) 0 then some false else lp (α:=Int->Value->Value->Int->Int->Value->List Value->Option Bool) (λ_ _ _ _ _ _ _=>none) (λs t u v y z a0 a1=>bif ak z y then bif aj y 0 then none else aA ((ag .i64 (z.add t)).tmod y) λa2=>aI 14 a2 a0 λa3=>af a3 λa4 a5=>ar .i64 a4 λa6=>af a5 λa7 a8=>af a8 λa9 b0=>af b0 λb1 b2=>af b2 λb3 b4=>af b4 λb5 b6=>af b6 λb7 b8=>af b8 λb9 c0=>af c0 λc1 c2=>af c2 λc3 c4=>af c4 λc5 c6=>ar .i64 c5 λc7=>af c6 λc8 c9=>ar .i64 c8 λd0=>af c9 λd1 d2=>ar .i64 d1 λd3=>af d2 λd4 d5=>bif aE a1.length&&(aE 1&&(List.take 14 (List.drop 0 [Value.int .i64 a6,a7,a9,b1,b3,b5,b7,b9,c1,c3,Value.int .i64 c7,Value.int .i64 d0,Value.int .i64 d3,d4])).length.beq 14) then s t u v y (ag .i64 (z.add 1)) a0 (a1++List.take 14 (List.drop 0 [Value.int .i64 a6,a7,a9,b1,b3,b5,b7,b9,c1,c3,Value.int .i64 c7,Value.int .i64 d0,Value.int .i64 d3,d4])) else none else ob (BH w v t) λd6=>ob (qx w d6) λd7=>bif !aj d7.2.2 0 then ob (yV w (ae (a1.length/14) a1)) λd8=>bif aj d7.2.2 7 then bif aj d8.1 8 then bif aj d7.2.1 d8.2 then au d7.1 λd9=>bif aj (Int.ofNat d9) 0 then ob (qw w) λe0=>some e0 else some false else some false else some false else some false else ob (vK w d7.1) λe1=>ob (tT w d7.1) λe2=>bif !aj d7.2.1 0 then some false else bif !aj e1.2.2 0 then some false else bif !aj e2.2 0 then some false else ob (Ga w e1.1 (ae (a1.length/14) a1)) λe3=>bif !e3 then some false else au e2.1 λe4=>bif !aj (Int.ofNat e4) y then some false else bif aj y 0 then none else ob (BH w e2.1 (ag .i64 (y.sub (t.tmod y)))) λe5=>ob (qx w e5) λe6=>bif aj e6.2.2 0 then ob (nO w e6.1 u) λe7=>bif e7 then ob (qw w) λe8=>some e8 else some false else some false) w b g.1 i.1 (Int.ofNat j) 0 a []
theorem ac9(w:Nat):K 14 [.agg [.v],vI] (.b) (NF w):=fr Tryz.f14 (pa (pa (pa (pa (pa (pa (pa (pa (pa (pa pn (adi w)) (adj w)) (K4 w)) (TX w)) (TY w)) (EP w)) (Ez w)) (adh w)) (TV w)) (adm w)) w (lc 0 [(1,vI),(2,.ptr 0 0),(5,.v),(7,.v),(9,vI),(10,.ptr 1 0),(11,vI)] [(0,.cells [.v] 24),(1,.cells [.gr 2 14] 24),(2,.grow 14 30)] 3 ln)
end
section
open Go.ChangeShapes Go.WideShapes Go.ChangeAt Go.RowKit Go.Joins Go.Deep
open YtcfjfbeadhnknaaGreatDoor
theorem own:ownKnob Tryz.prog.godebug=none:=by kernel_rfl
theorem laidOut:laidOutB Tryz.prog=true:=by kernel_rfl
theorem wok:dC (maxLen+1):=⟨abn (by decide),by decide⟩
theorem ZG(ms:List aQ)(hn:ms.length<=maxLen)(hr:∀p∈ms,zx p):Iy (maxLen+1) ms:=
 ⟨Nat.lt_succ_of_le hn,λp hp l hl=>⟨Nat.lt_succ_of_le (hr p hp l hl),Nat.lt_succ_of_le (hr p hp l hl)⟩⟩
end
theorem yp{w:Nat}(l:List aK)(hl:l.length<2^63)(hw:l.length<w):sq w (aw l)=some (mu l):=(show sq w (aw l)=Yb w (aw l) from rfl).trans (ako l hl hw)
def xJ(ms:List aQ)(j:Nat):Bool:=match ms[j]? with|some p=>!CR p|none=>true
def CQ(ms:List aQ):Bool:=!(List.range (min 7 ms.length)).all (xJ ms)||decide (6<ms.length)
theorem alZ{ms:List aQ}(h:CQ ms=false):ms.length<=6/\∀p∈ms,ee p:=by unfold CQ at h;rw[Bool.or_eq_false_iff,gM,Bool.not_eq_false',iu] at h;obtain⟨h1,h2⟩:=h;refine⟨by omega,λp hp=>?_⟩;obtain⟨i,hi,rfl⟩:=List.mem_iff_getElem.1 hp;have:=h1 i (List.mem_range.2 (by omega));unfold xJ at this;rw[cu hi] at this;exact al0 (by simpa using this)
theorem aiN{w:Nat}(hw:10<=w){ms:List aQ}(B:Iy w ms):Gb w (cx ms)=some (CQ ms):=by
 have hb:=B.n;have hlr:∀K:Nat->Option Bool,au (cx ms) K=K ms.length:=λK=>cw cD ms K;unfold Gb;refine(Te (ev:=λi (g:Int->Value->Option Bool)=>g i (cx ms)) (min 7 ms.length) (xJ ms) (some true) (some (decide (6<ms.length))) ?_ ?_ (by omega)).trans ?_
 ·intro i g hi _;have hiL:i<ms.length:=by omega
  have e1:((i:Int)<(ms.length:Int)):=by omega
  have e2:((i:Int)<7):=by omega
  have hB:=B.rows _ (cy hiL);have b0:=hB ms[i].aG.cn (by simp);have b2:=hB ms[i].aG.bD (by simp);have b3:=hB ms[i].aG.bM (by simp);have b4:=hB ms[i].aG.bm (by simp);have b1:=hB ms[i].aG.first (by simp);have bv:=hB ms[i].view (by simp);have hok:xJ ms i=!CR ms[i]:=by unfold xJ;rw[cu hiL]
  rw[hok];simp only[hlr,aV,bU,e1,e2,aW,aD,bR];rw[show cx ms=aC cD ms from rfl,bt iQ hiL,lL];simp only[aZ,bE];rw[yp _ b0.1 b0.2,yp _ b2.1 b2.2,yp _ b3.1 b3.2,yp _ b4.1 b4.2,yp _ b1.1 b1.2,yp _ bv.1 bv.2];simp only[aB];rw[cc,aN (by omega) (by omega)];unfold CR;cases mu ms[i].aG.cn
  case true=>rfl
  cases mu ms[i].aG.bD
  case true=>rfl
  cases mu ms[i].aG.bM
  case true=>rfl
  cases mu ms[i].aG.bm
  case true=>rfl
  cases mu ms[i].aG.first
  case true=>rfl
  cases mu ms[i].view
  case true=>rfl
  simp only[aF,zn];rw[cN,cN,cN,cN];have dd:∀n:Nat,decide ((2000:Int)<(n:Int))=decide (2000<n):=by intro n;rw[ir,bZ,bZ];omega
  rw[dd,dd,dd,dd];cases decide (2000<ms[i].aG.bC.length)
  case true=>rfl
  cases decide (2000<ms[i].aG.cH.length)
  case true=>rfl
  cases decide (2000<ms[i].cj.length)
  case true=>rfl
  cases decide (2000<ms[i].core.length)
  case true=>rfl
  rfl
 ·intro g _;have dd:ak 6 (Int.ofNat ms.length)=decide (6<ms.length):=by
   rw[aV,ir,bZ,bZ,bU];omega
  simp only[hlr];rw[dd];by_cases h:ms.length<=7
  ·have e1:¬(((min 7 ms.length:Nat):Int)<(ms.length:Int)):=by omega
   simp only[aV,bU,e1,bF,aF]
  ·have e1:(((min 7 ms.length:Nat):Int)<(ms.length:Int)):=by omega
   have e2:¬(((min 7 ms.length:Nat):Int)<7):=by omega
   simp only[aV,bU,e1,e2,bF,aW,aF,aD]
 ·unfold CQ;cases h:(List.range (min 7 ms.length)).all (xJ ms) with
  |true=>rw[ay rfl];rfl
  |false=>rw[aq (by simp)];rfl
def jR(p:aQ):aQ:=⟨p.aG,p.cj,p.core,0,0,0,[]⟩
def xg(p:aQ):List UInt8:=(dP [jR p]).flatten
def jK(p:aQ):List Value:=[ah (xg p),.int .i64 p.attr,.int .i64 p.dY,.int .i64 p.dZ,aw p.view]
theorem A4(p:aQ):(jK p).length=5:=rfl
def lN(ms:List aQ):Value:=aC jK ms
theorem Zu{p:aQ}(h:ee p):ee (jR p):=⟨h.t0,h.t2,h.t3,h.t4,h.t1,⟨ia _,λt ht=>by cases ht⟩,h.Tx,h.th,h.ic,h.co⟩
theorem Zt{p:aQ}(h:ou p=true):ou (jR p)=true:=by obtain⟨h1,h2,_,_⟩:=o7 h;show(!jF p&&(!nq p&&(!oi (jR p)&&!nr (jR p))))=true;rw[h1,h2];rfl
theorem Qe{p:aQ}(h:ee p)(g:ou p=true):gD [jR p]/\iN [jR p]=0/\(fK [jR p]).1 =0:=by
 have hm:∀q∈[jR p],ee q:=λq hq=>by rw[nV.1 hq];exact Zu h
 have hg:∀q∈[jR p],ou q=true:=λq hq=>by rw[nV.1 hq];exact Zt g
 have hf:(fK [jR p]).1 =0:=(Ah hm (aM 1) (by show 1<=6;decide)).2 ⟨hg,rfl⟩;exact⟨⟨hm,by show 1<=6;decide,hg⟩,(Dr [jR p] (aM 1)).2 hf,hf⟩
theorem ai1{w:Nat}(W:dC w)(hw:1000000<w){p:aQ}(h:ee p)(g:ou p=true):Gi w p.aG.order (aw p.aG.cn) (aw p.aG.bD) (aw p.aG.bM) (aw p.aG.bm) (aw p.aG.first) (ah p.aG.bC) (ah p.aG.cH) (ah p.cj) (ah p.core) p.attr p.dY p.dZ (aw p.view)=some (ah (xg p),p.attr,p.dY,p.dZ,aw p.view):=by obtain⟨F,hc,_⟩:=Qe h g;have q:=NH W hw F.mem (.inl F.le) (by show 1<=2000;decide);rw[ay hc] at q;unfold Gi;refine(bT (λz=>ob z _) q).trans ?_;rfl
theorem aaV{w:Nat}(W:dC w)(hw:70000000<w){p:aQ}(h:ee p)(g:ou p=true):vK w (ah (xg p))=some (cx [jR p],0,0):=by obtain⟨F,hc,hf⟩:=Qe h g;exact NI W hw F (aM 1) hc hf
theorem Tt(l:List aQ):ae ((l.flatMap cD).length/14) (l.flatMap cD)=cx l:=by unfold cx aC;rw[cS iQ,iW _ (by decide)]
theorem Vm(l:List aQ):ae ((l.flatMap jK).length/5) (l.flatMap jK)=lN l:=by unfold lN aC;rw[cS A4,iW _ (by decide)]
theorem Pv{α:Type}{l:List α}{i:Nat}(h:i<l.length)(f:α->List Value):(l.take i).flatMap f++f l[i]=(l.take (i+1)).flatMap f:=by rw[iI h,ft,dK,lu,dW]
theorem Fs{α:Type}{f:α->List Value}{k:Nat}(hf:∀x,(f x).length=k)(l:List α)(h:l.length*k<=1000000):aE (l.flatMap f).length=true:=by unfold aE;rw[cS hf,iV];omega
theorem Xu{w:Nat}(W:dC w)(hw:70000000<w){ms:List aQ}(F:gD ms)(h1:1<=ms.length)(hc:iN ms=0)(hf:(fK ms).1 =0):tT w (ah (dP ms).flatten)=some (lN ms,0):=by
 have h6:=F.le;unfold tT;rw[NI W hw F h1 hc hf,aB];rw[show(!aj ((cx ms,(0:Int),(0:Int)).snd.snd) 0)=false from rfl,aF];rw[show∀K:Nat->Option (Value×Int),au (cx ms,(0:Int),(0:Int)).fst K=K ms.length fromλK=>cw cD ms K];refine gS (ev:=λi (g:Value->Int->Int->List Value->Option (Value×Int))=>g (cx ms) (Int.ofNat ms.length) i ((ms.take i).flatMap jK)) ms.length ?_ ?_ (by omega)
 ·intro i g hi;have e1:((i:Int)<(ms.length:Int)):=by omega
  have r:=Fs A4 (ms.take i) (by rw[dk];omega);simp only[aV,bU,e1,aW,aD,bR];rw[show cx ms=aC cD ms from rfl,bt iQ hi,lL];simp only[aZ,bE];rw[ai1 W (by omega) (F.mem _ (cy hi)) (F.rQ _ (cy hi)),aB,r];refine Eq.trans (b:=g (aC cD ms) (ms.length:Int) (ag .i64 ((i:Int)+1)) ((ms.take i).flatMap jK++jK ms[i])) rfl ?_;rw[Pv hi,aN (by omega) (by omega)];rfl
 ·intro g;have e1:¬((ms.length:Int)<(ms.length:Int)):=by omega
  simp only[aV,bU,e1,bF,aF];rw[mW,Vm]
theorem ai3{w:Nat}(W:dC w)(hw:70000000<w){p:aQ}(h:ee p)(g:ou p=true)(acc:List Value)(ha:aE acc.length=true):yq w (ah (xg p)) p.attr p.dY p.dZ (aw p.view) acc=some (0,acc++cD p):=by unfold yq BJ;rw[aaV W hw h g,aB];rw[show(!aj ((cx [jR p],(0:Int),(0:Int)).snd.snd) 0)=false from rfl,aF];rw[show∀K:Nat->Option (Int×List Value),au (cx [jR p],(0:Int),(0:Int)).fst K=K 1 fromλK=>rfl,show(!aj (Int.ofNat 1) 1)=false from rfl,aF];rw[show(cx [jR p],(0:Int),(0:Int)).fst=aC cD [jR p] from rfl,bt iQ (l:=[jR p]) (m:=0) (by show 0<1;decide)];rw[show∀r,cD ([jR p][0])++r=cD (jR p)++r fromλ_=>rfl,lL];simp only[aZ,bE,cg,aW,aD];rw[ha];rfl
theorem Xv{w:Nat}(W:dC w)(hw:70000000<w){ms:List aQ}(F:gD ms)(hc:iN ms=0):qx w (lN ms)=some (ah (dP ms).flatten,0,0):=by
 have h6:=F.le;have q:=NH W (by omega) F.mem (.inl h6) (by omega);rw[ay hc] at q;unfold qx;rw[show∀K:Nat->Option (Value×Int×Int),au (lN ms) K=K ms.length fromλK=>cw jK ms K];refine gS (ev:=λi (g:Int->Value->Int->Int->List Value->Option (Value×Int×Int))=>g 0 (lN ms) (Int.ofNat ms.length) i ((ms.take i).flatMap cD)) ms.length ?_ ?_ (by omega)
 ·intro i g hi;have e1:((i:Int)<(ms.length:Int)):=by omega
  have r:=Fs iQ (ms.take i) (by rw[dk];omega);simp only[aV,bU,e1,aW,aD,bR];rw[show lN ms=aC jK ms from rfl,bt A4 hi];rw[show∀r,jK ms[i]++r=ah (xg ms[i])::.int .i64 ms[i].attr::.int .i64 ms[i].dY::.int .i64 ms[i].dZ::aw ms[i].view::r fromλ_=>rfl];rw[aZ,aZ,bE,aZ,bE,aZ,bE,aZ,ai3 W hw (F.mem _ (cy hi)) (F.rQ _ (cy hi)) _ r,aB];refine Eq.trans (b:=g 0 (aC jK ms) (ms.length:Int) (ag .i64 ((i:Int)+1)) ((ms.take i).flatMap cD++cD ms[i])) rfl ?_;rw[Pv hi,aN (by omega) (by omega)];rfl
 ·intro g;have e1:¬((ms.length:Int)<(ms.length:Int)):=by omega
  simp only[aV,bU,e1,bF,aF];rw[mW,Tt,q,aB];simp only[cg,aW,bJ,aF]
def fP(ms:List aQ)(b:Nat):List aQ:=(List.range ms.length).map λi=>(ms[(i+b)%ms.length]?).getD A5
theorem rn(ms:List aQ)(b:Nat):(fP ms b).length=ms.length:=by unfold fP;rw[cZ,List.length_range]
theorem CM{ms:List aQ}(b:Nat){i:Nat}(hi:i<(fP ms b).length):(fP ms b)[i]=ms[(i+b)%ms.length]'(Nat.mod_lt _ (by rw[rn] at hi;omega)):=by
 have h0:0<ms.length:=by rw[rn] at hi;omega
 simp only[fP,List.getElem_map,List.getElem_range,cu (Nat.mod_lt (i+b) h0),pS]
theorem YZ{ms:List aQ}(b:Nat){P:aQ->Prop}(h:∀p∈ms,P p):∀p∈fP ms b,P p:=by intro p hp;obtain⟨i,hi,rfl⟩:=List.mem_iff_getElem.1 hp;rw[CM];exact h _ (cy _)
theorem alR{ms:List aQ}(b:Nat):fP (fP ms b) (ms.length -b%ms.length)=ms:=by
 refine List.ext_getElem (by rw[rn,rn]) λi h1 h2=>?_;rw[CM,CM];have e:((i+(ms.length -b%ms.length))%(fP ms b).length+b)%ms.length=i:=by rw[rn,Nat.mod_add_mod];have q:=Nat.mod_add_div b ms.length;have l:=Nat.mod_lt b (show 0<ms.length by omega);rw[show i+(ms.length -b%ms.length)+b=i+ms.length*(1+b/ms.length) by rw[Nat.mul_add,gB];omega,Nat.add_mul_mod_self_left,pR h2]
 simp only[e]
theorem alS{ms:List aQ}(F:gD ms)(h1:1<=ms.length)(hf:(fK ms).1 =0)(b:Nat):gD (fP ms b)/\1<=(fP ms b).length/\iN (fP ms b)=0/\(fK (fP ms b)).1 =0:=by
 have hl:=rn ms b;have hm:=YZ b F.mem;have hg:=YZ b F.rQ;have h6:=F.le;have q:=(Ah F.mem h1 h6).1 hf;have hf2:(fK (fP ms b)).1 =0:=(Ah hm (by omega) (by omega)).2 ⟨hg,by
  by_cases h:ms.length=1
  ·match ms,h with
   |[p],_=>
    have e:fP [p] b=[p]:=List.ext_getElem (rn _ _) λi h1 h2=>by
     rw[CM];have:i=0:=by simp at h2;exact h2
     subst this;simp[Nat.mod_one]
    rw[e];exact q.2
  ·have h:(fP ms b).length≠1:=by omega
   match fP ms b,h with
   |[],_=>rfl
   |[p],h=>exact absurd rfl h
   |_::_::_,_=>rfl⟩
 exact⟨⟨hm,by omega,hg⟩,by omega,(Dr _ (by omega)).2 hf2,hf2⟩
theorem Tz{i b n:Nat}(h0:0<n):((i:Int)+(b:Int)).tmod (n:Int)=(((i+b)%n:Nat):Int):=by rw[<-Int.natCast_add,Int.ofNat_tmod]
theorem YS{ms:List aQ}{b i:Nat}(hi:i<ms.length){f:aQ->List Value}:((fP ms b).take i).flatMap f++f (ms[(i+b)%ms.length]'(Nat.mod_lt _ (by omega)))=((fP ms b).take (i+1)).flatMap f:=by
 have h:i<(fP ms b).length:=by rw[rn];exact hi
 rw[<-Pv h,CM]
theorem Xw{w:Nat}(hw:1000<w){ms:List aQ}(h6:ms.length<=6)(b:Nat)(hb:b<=1000):BH w (lN ms) b=some (lN (fP ms b)):=by
 have hl:=rn ms b;unfold BH;refine gS (ev:=λi (g:Value->Int->Int->List Value->Option Value)=>g (lN ms) b i (((fP ms b).take i).flatMap jK)) ms.length ?_ ?_ (by omega)
 ·intro i g hi;have e1:((i:Int)<(ms.length:Int)):=by omega
  have e2:¬((ms.length:Int)=0):=by omega
  have hm:(i+b)%ms.length<ms.length:=Nat.mod_lt _ (by omega);have r:=Fs A4 ((fP ms b).take i) (by rw[dk];omega);rw[show lN ms=aC jK ms from rfl];simp only[cw,aV,cg,bU,e1,e2,aW,bF,aD,aF,cc];rw[aN (by omega) (by omega),Tz (by omega),bR,bt A4 hm];rw[show∀p r,jK p++r=ah (xg p)::.int .i64 p.attr::.int .i64 p.dY::.int .i64 p.dZ::aw p.view::r fromλ_ _=>rfl];rw[aZ,aZ,bE,aZ,bE,aZ,bE,aZ];refine Eq.trans (b:=bif aE (((fP ms b).take i).flatMap jK).length&&true then g (aC jK ms) b (ag .i64 ((i:Int)+1)) (((fP ms b).take i).flatMap jK++jK (ms[(i+b)%ms.length])) else none) rfl ?_;rw[r,YS hi,aN (by omega) (by omega)];rfl
 ·intro g;have e1:¬((ms.length:Int)<(ms.length:Int)):=by omega
  rw[show lN ms=aC jK ms from rfl];simp only[cw,aV,bU,e1,bF,aF];rw[<-hl,mW,Vm]
section
def bl(l:List Int):Value:=ae l.length (l.map (Value.int .u8))
abbrev em:Value:=ae 0 []
abbrev pv:List Value:=[.int .i64 2,ae 1 [.int .i64 274,.int .i64 3,.int .i64 1,ae 2 [.int .u8 0,.int .u8 1]],ae 0 [],ae 0 [],ae 0 [],ae 0 [],ae 0 [],ae 0 [],ae 0 [],ae 15 [.int .u8 255,.int .u8 216,.int .u8 255,.int .u8 218,.int .u8 0,.int .u8 8,.int .u8 1,.int .u8 1,.int .u8 0,.int .u8 0,.int .u8 63,.int .u8 0,.int .u8 7,.int .u8 255,.int .u8 217],.int .i64 0,.int .i64 0,.int .i64 0,ae 0 []]
def UU:List Int:=[255,216,255,225,0,34,69,120,105,102,0,0,77,77,0,42,0,0,0,8,0,1,1,18,0,3,0,0,0,1,0,1,0,0,0,0,0,0,255,218,0,8,1,1,0,0,63,0,7,255,217]
def QG:List Int:=[255,216,255,225,0,34,69,120,105,102,0,0,77,77,0,42,0,0,0,8,0,1,1,18,0,3,0,0,0,1,0,1,0,0,0,0,0,0,255,226,0,88,77,80,70,0,77,77,0,42,0,0,0,8,0,3,176,0,0,7,0,0,0,4,48,49,48,48,176,1,0,4,0,0,0,1,0,0,0,2,176,2,0,7,0,0,0,32,0,0,0,50,0,0,0,0,0,0,0,0,0,0,0,141,0,0,0,0,0,0,0,0,0,0,0,0,0,0,0,51,0,0,0,95,0,0,0,0,255,218,0,8,1,1,0,0,63,0,7,255,217]
def r8:Value:=bl UU
def um:Value:=bl (QG++UU)
def Jj:Value:=bl QG
abbrev Dx(c one:Value):Value:=ae 2 [c,one]
abbrev A1(f:Value):List Value:=[f,.int .i64 0,.int .i64 0,.int .i64 0,em]
abbrev xR(one:Value):Value:=ae 2 [one,.int .i64 0,.int .i64 0,.int .i64 0,em,one,.int .i64 0,.int .i64 0,.int .i64 0,em]
section
variable(k:Nat)
theorem agr:ym (k+1000) (ae 1 pv)=some (r8,0):=by kernel_rfl
theorem alW:ym (k+1000) (ae 2 (pv++pv))=some (um,0):=by kernel_rfl
theorem LV:BI (k+1000)=some (2,ae 1 [.int .i64 274,.int .i64 3,.int .i64 1,ae 2 [.int .u8 0,.int .u8 1]],ae 0 [],ae 0 [],ae 0 [],ae 0 [],ae 0 [],ae 0 [],ae 0 [],ae 15 [.int .u8 255,.int .u8 216,.int .u8 255,.int .u8 218,.int .u8 0,.int .u8 8,.int .u8 1,.int .u8 1,.int .u8 0,.int .u8 0,.int .u8 63,.int .u8 0,.int .u8 7,.int .u8 255,.int .u8 217],0,0,0,ae 0 []):=by kernel_rfl
theorem aam:BG (k+1000) um=some (Dx Jj r8,0):=by kernel_rfl
theorem agK:sn (k+1000) (Dx Jj r8)=some (um,0):=by kernel_rfl
theorem agJ:sn (k+1000) (ae 1 [r8])=some (r8,0):=by kernel_rfl
theorem agI:sn (k+1000) em=some (em,1):=by kernel_rfl
theorem Zx:tT (k+1000) um=some (xR r8,0):=by kernel_rfl
theorem al4:qx (k+1000) (xR r8)=some (um,0,0):=by kernel_rfl
theorem al3:qx (k+1000) (ae 1 (A1 um))=some (em,0,2):=by kernel_rfl
theorem aip:nO (k+1000) r8 r8=some true:=by kernel_rfl
theorem aiq:nO (k+1000) um um=some true:=by kernel_rfl
end
theorem kW{α β:Type}{x:Option α}{v:α}{K:α->Option β}{r:Option β}(h:x=some v)(h2:K v=r):ob x K=r:=by rw[h];exact h2
theorem pZ{c:Bool}{x y r:Option Bool}(h:c=false)(h2:y=r):cond c x y=r:=by rw[h];exact h2
theorem xa{c:Bool}{x y r:Option Bool}(h:c=true)(h2:x=r):cond c x y=r:=by rw[h];exact h2
theorem CP{v:Value}{l:List Value}{K:Value->List Value->Option Bool}{r:Option Bool}(h:K v l=r):af (v::l) K=r:=h
theorem acz(K:Nat->Option Bool):au Jj K=K 141:=rfl
theorem aaT(k:Nat){one two c:Value}(h1:ym (k+1000) (ae 1 pv)=some (one,0))(h2:ym (k+1000) (ae 2 (pv++pv))=some (two,0))(h3:BG (k+1000) two=some (Dx c one,0))
 (h4:sn (k+1000) (Dx c one)=some (two,0)) (h5:sn (k+1000) (ae 1 [one])=some (one,0)) (h6:sn (k+1000) em=some (em,1)) (h7:tT (k+1000) two=some (xR one,0)) (h8:qx (k+1000) (xR one)=some (two,0,0))
 (h9:qx (k+1000) (ae 1 (A1 two))=some (em,0,2)) (s1:nO (k+1000) one one=some true) (s2:nO (k+1000) two two=some true) (hl:∀K:Nat->Option Bool,au c K=K 141):qw (k+1000)=some true:=by
 have a1:∀(l:List Value)(K:Nat->Option Bool),au (ae 2 l) K=K 2:=λ_ _=>rfl;have a4:∀K:List Value->Option Bool,aI 1 0 (ae 2 [c,one]) K=K [c,one]:=λ_=>rfl;have a5:∀K:List Value->Option Bool,aI 1 1 (ae 2 [c,one]) K=K [one]:=λ_=>rfl;have a6:∀K:List Value->Option Bool,aI 5 0 (xR one) K=K (A1 one++A1 one):=λ_=>rfl;have a7:∀K:List Value->Option Bool,aI 5 1 (xR one) K=K (A1 one):=λ_=>rfl;unfold qw;refine kW (LV k) (kW h1 (kW (LV k) (kW (LV k) (kW h2 (kW h3 ?_)))));refine pZ rfl ((a1 _ _).trans (pZ rfl ((a4 _).trans (CP ((hl _).trans (pZ rfl ((a5 _).trans (CP (kW s1 (pZ rfl (kW h4 ((a5 _).trans (CP (kW h5 (kW h6 (kW h7 ?_))))))))))))))));refine pZ rfl (pZ rfl (pZ rfl (pZ rfl ((a1 _ _).trans (pZ rfl (kW s2 (pZ rfl (kW s1 (pZ rfl (kW h8 (kW h9 ?_)))))))))));exact(a6 _).trans (CP (kW s1 (xa rfl ((a7 _).trans (CP (kW s1 (xa rfl (kW s2 (xa rfl (xa rfl (xa rfl (xa rfl rfl))))))))))))
theorem aiP(k:Nat):qw (k+1000)=some true:=aaT k (agr k) (alW k) (aam k) (agK k) (agJ k) (agI k) (Zx k) (al4 k) (al3 k) (aip k) (aiq k) acz
theorem Jr(k:Nat):(BG (k+1000) (ae 0 [])).isSome=true:=by kernel_rfl
theorem aiO{w:Nat}(hw:1000<=w):qw w=some true:=by obtain⟨k,rfl⟩:∃k,w=k+1000:=⟨w -1000,by omega⟩;exact aiP k
end
theorem aiC{w:Nat}(W:dC w)(hw:70000000<w){ms:List aQ}(B:Iy w ms)(z:Int):NF w (cx ms) z=some true:=by
 have h41:=aiO (w:=w) (by omega);unfold NF;rw[aiN (by omega) B,aB];cases hv:CQ ms with
 |true=>rw[aD,h41];rfl
 |false=>
 obtain⟨hl,hm⟩:=alZ hv;rw[aF];by_cases z0:z<0
 ·rw[aV,fC z0,aD,h41];rfl
 rw[aV,gk z0,aF];by_cases z6:6<z
 ·rw[aV,fC z6,aD,h41];rfl
 rw[aV,gk z6,aF];obtain⟨b,rfl⟩:∃b:Nat,z=(b:Int):=⟨z.toNat,by omega⟩;have h20:=NH W (by omega) hm (.inl hl) (by omega);rw[h20,aB];by_cases hc:iN ms=0
 case neg=>rw[aq hc,show(!aj (ae 0 [],iN ms).snd 0)=true by rw[cg,gk hc];rfl,aD,h41];rfl
 obtain⟨F,h1⟩:=DR hm (.inl hl) hc;have hf:=(Dr ms h1).1 hc;obtain⟨F2,h2,hc2,hf2⟩:=alS F h1 hf b;have l2:=rn ms b;have tot:=E6 F;rw[ay hc,show(!aj (ah (dP ms).flatten,(0:Int)).snd 0)=false from rfl,aF,Xu W hw F h1 hc hf,aB];rw[show∀K:Nat->Option Bool,au (cx ms) K=K ms.length fromλK=>cw cD ms K,show(!aj (lN ms,(0:Int)).snd 0)=false from rfl,aF];rw[show∀K:Nat->Option Bool,au (lN ms,(0:Int)).fst K=K ms.length fromλK=>cw jK ms K];have n0:¬((ms.length:Int)=0):=by omega
 simp only[cg,bU,n0,aW,bF,bJ,aF];refine gS (ev:=λi (g:Int->Value->Value->Int->Int->Value->List Value->Option Bool)=>g b (ah (dP ms).flatten) (lN ms) ms.length i (cx ms) (((fP ms b).take i).flatMap cD)) ms.length ?_ ?_ (by omega)
 ·intro i g hi;have e1:((i:Int)<(ms.length:Int)):=by omega
  have hmi:(i+b)%ms.length<ms.length:=Nat.mod_lt _ (by omega);have r:=Fs iQ ((fP ms b).take i) (by rw[dk];omega);simp only[aV,e1,n0,aW,bF,aD,aF,cc];rw[aN (by omega) (by omega),Tz (by omega),bR,show cx ms=aC cD ms from rfl,bt iQ hmi,lL];simp only[aZ,bE];refine Eq.trans (b:=bif aE (((fP ms b).take i).flatMap cD).length&&true then g b (ah (dP ms).flatten) (lN ms) ms.length (ag .i64 ((i:Int)+1)) (aC cD ms) (((fP ms b).take i).flatMap cD++cD (ms[(i+b)%ms.length])) else none) rfl ?_;rw[r,YS hi,aN (by omega) (by omega)];rfl
 ·intro g;have e1:¬((ms.length:Int)<(ms.length:Int)):=by omega
  simp only[aV,e1,bF,aF];rw[Xw (by omega) hl b (by omega),aB,Xv W hw F2 hc2,aB];rw[show((fP ms b).take ms.length)=fP ms b by rw[<-l2,mW],Tt];simp only[aW,bJ,aF];rw[NI W hw F2 h2 hc2 hf2,aB,Xu W hw F2 h2 hc2 hf2,aB];simp only[aW,bJ,aF];rw[aiK F2.mem (by omega) (by omega),aB,bJ,aF];rw[show∀K:Nat->Option Bool,au (lN (fP ms b)) K=K (fP ms b).length fromλK=>cw jK _ K,l2];simp only[n0,aW,bF,bJ,aF];have hb0:b%ms.length<ms.length:=Nat.mod_lt _ (by omega);rw[show ag IntKind.i64 ((ms.length:Int).sub ((b:Int).tmod (ms.length:Int)))=((ms.length -b%ms.length:Nat):Int) by rw[<-Int.ofNat_tmod,jd,aN (by omega) (by omega)];omega];rw[Xw (by omega) (by omega) _ (by omega),aB,alR,Xv W hw F hc,aB];simp only[aW,aD];rw[aiE _ (by omega) (by omega),aB,aD,h41];rfl
section
open Go.ChangeShapes Go.WideShapes Go.ChangeAt Go.RowKit Go.Joins Go.Deep
open YtcfjfbeadhnknaaGreatDoor
theorem aae(H:Type)(enc:TypeId×Value->H)(W:World)(base:Nat)(args:Array Value)(ds gs:List (DataW H))(before:List MemPlace)
 (hval:∀(j:Nat) t v,Tryz.f14.params[j]? =some t->args[j]? =some v->Value.okWide Tryz.prog W .any base t v)
 (hW:DataW.Whole enc Tryz.prog Tryz.f14.params.toList Rows.splitTurnedSpec.vars false W args.toList ds gs before):
 Calls Tryz.prog 14 args W λe W'=>∃v,e=.returned v/\Rows.splitTurnedSpec.post enc Tryz.prog Tryz.f14 false true false false W args v W':=by
 have hW':=hW;obtain⟨p,q,hA0,hV,rfl,hfz,hnd⟩:=hW;have hA:DataW.TrodAll enc Tryz.prog W 0 (λ_=>true) true Tryz.f14.params.toList args.toList ds p:=hA0;rw[Tryz.params14] at hA hval;obtain⟨v1,vs1,d1,ds1,p1,q1,hargs,rfl,rfl,h1,r1⟩:=trodAll_cons hA;obtain⟨v2,vs2,d2,ds2,p2,q2,rfl,rfl,rfl,h2,r2⟩:=trodAll_cons r1;obtain⟨rfl,rfl,rfl⟩:=trodAll_nil r2;obtain rfl:args=#[v1,v2]:=by cases args;simp_all
 obtain⟨rfl,rfl⟩:=trodVars_none hV;have k1:=h1;have lt1:∀x∈p1,x.block<W.heap.size:=by obtain⟨m,hm⟩:=k1;exact DataW.trod_lt m _ _ _ hm
 obtain⟨D1,rfl,_⟩:=okWide_struct Tryz.underlying24 (hval 0 24 v1 rfl rfl);obtain⟨fuel1,hf1⟩:=h1;obtain⟨KT,u1,e1,L1,hn1,hr1⟩:=ahE hf1;have hD1:D1=#[u1]:=by
  have:D1.toList=[u1]:=by simpa[Value.cells] using e1
  cases D1;simp_all
 subst hD1;obtain⟨n2,rfl,rfl,rfl,w2⟩:=open_int Tryz.underlying3 (hval 1 3 v2 rfl rfl) h2;clear hA0;refine(Qp (k:=true) (ac9 (maxLen+1) [.v (cx KT),.i n2] true (aiC wok (by decide) (ZG KT hn1 hr1) n2) (λx hx=>by simp at hx;rcases hx with rfl<;>rfl) _ rfl) (m:=λb i=>fG W b i) (λ_ _ _ h=>h) (.cons (.K2 (.cons L1 .nil)) (.cons (.int _ _) .nil))).mono λe W' ⟨he,gp⟩=>?_
 subst he;exact⟨_,rfl,_,_,_,[],_,[],hW',trodAll_mk1 (shut_bool Tryz.underlying4 _),(trodAll_cons_mk (Below.trod laidOut (by kernel_rfl) (nY (by kernel_rfl)) k1 gp lt1) (trodAll_cons_mk (shut_int Tryz.underlying3 w2) trodAll_mk0)),rfl,Below.frame gp _,λh=>by cases h⟩
def I4:Array Value:=#[.agg #[.slice none 0 0],.int .i64 0]
def aci:List (String×DataW Unit):=Rows.splitTurnedRow.laid
theorem aaw(os:Os)(args:Array Value):laidMetH Tryz.prog aci ((World.doorLaid Tryz.prog 400 os).forCall (λ_ _=>0) ⟨#[],args,[]⟩).memory:=
 laidMetH_of_parts3 (fuel:=8) (laidMet_of_run' 8 (by kernel_rfl) (by kernel_rfl)) (by kernel_rfl) (by kernel_rfl)
theorem ahI(os:Os){H:Type}(enc:TypeId×Value->H):∃places,DataW.whole enc Tryz.prog ((World.doorLaid Tryz.prog 400 os).forCall (λ_ _=>0) ⟨#[],I4,[]⟩).memory Tryz.f14.params.toList Rows.splitTurnedSpec.vars false I4.toList 8=some ([.agg [.nil],.lit (.int .i64 0)],[],places):=
 ⟨[],by kernel_rfl⟩
theorem acB(os:Os)(started:os.Started)(H:Type)(enc:TypeId×Value->H)(F:Stop.Interp):
 ReturnsInHanded {} Tryz.checked os 14 .any ((OpenSpec.ofChange Rows.splitTurnedSpec).preRow enc Tryz.prog Tryz.f14 Rows.splitTurnedRow.domain false Rows.splitTurnedRow.laid) (((OpenSpec.ofChange Rows.splitTurnedSpec).at F).post enc Tryz.prog Tryz.f14 false true false false):=by
 obtain⟨places,hx⟩:=ahI os enc;refine returnsInHanded_of_row (C:=Tryz.checked) (s:=OpenSpec.ofChange Rows.splitTurnedSpec) own started (by kernel_rfl) Tryz.func14
  (witness_row_atRef (enc:=enc) (C:=Tryz.checked) false (World.doorLaid Tryz.prog 400 os) I4 rfl (by kernel_rfl) (by kernel_rfl) (by kernel_rfl)
   (OpenSpec.preRow_of_cond 8 hx (by kernel_rfl) (λk hk=>by cases hk) (by kernel_rfl) (aaw os _))) ?_
 intro W base args ds gs before hval hW _ _ _ hL hsh _;exact aae H enc W base args ds gs before hval hW
end
end Lt
end Go.Proofs.YtcfjfbeadhnknaaGreatDoor

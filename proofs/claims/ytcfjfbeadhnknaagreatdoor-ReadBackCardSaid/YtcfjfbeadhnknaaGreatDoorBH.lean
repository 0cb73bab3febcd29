import Derived.Test.YtcfjfbeadhnknaaGreatDoorBG
namespace Go.Proofs.YtcfjfbeadhnknaaGreatDoor
set_option linter.unusedVariables false
set_option linter.unusedSimpArgs false
set_option linter.unusedSectionVars false
set_option linter.constructorNameAsVariable false
set_option maxRecDepth 100000
namespace Lt
noncomputable section
def Xg(w:Nat):Int->Int->Option (Bool):=λa b=>bif bif ah a 0 then bif ah b 34665 then true else false else false then some true else bif bif ah a 0 then bif ah b 34853 then true else false else false then some true else bif bif ah a 1 then bif ah b 513 then true else false else false then some true else bif bif ah a 1 then bif ah b 514 then true else false else false then some true else bif bif ah a 2 then bif ah b 37500 then true else false else false then some true else bif bif ah a 2 then bif ah b 40965 then true else false else false then some true else bif bif ah a 5 then bif ah b 45057 then true else false else false then some true else bif bif ah a 5 then bif ah b 45058 then true else false else false then some true else some false
def ES:Option (Value×Int):=some (ae 2 (List.drop 0 [Value.int .i64 3,Value.int .i64 4]),1)
def Nh(w:Nat):Int->Option (Value×Int):=λa=>bif ah a 256 then ES else bif ah a 257 then ES else bif ah a 259 then some (ae 1 [Value.int .i64 3],1) else bif ah a 274 then some (ae 1 [Value.int .i64 3],1) else bif ah a 296 then some (ae 1 [Value.int .i64 3],1) else bif ah a 531 then some (ae 1 [Value.int .i64 3],1) else bif ah a 270 then some (ae 1 [Value.int .i64 2],0) else bif ah a 271 then some (ae 1 [Value.int .i64 2],0) else bif ah a 272 then some (ae 1 [Value.int .i64 2],0) else bif ah a 305 then some (ae 1 [Value.int .i64 2],0) else bif ah a 315 then some (ae 1 [Value.int .i64 2],0) else bif ah a 33432 then some (ae 1 [Value.int .i64 2],0) else bif ah a 306 then some (ae 1 [Value.int .i64 2],20) else bif ah a 282 then some (ae 1 [Value.int .i64 5],1) else bif ah a 283 then some (ae 1 [Value.int .i64 5],1) else some (ae 0 [],-1)
def Xn(w:Nat):Int->Option (Value×Int):=λa=>bif ah a 33434 then some (ae 1 [Value.int .i64 5],1) else bif ah a 33437 then some (ae 1 [Value.int .i64 5],1) else bif ah a 37378 then some (ae 1 [Value.int .i64 5],1) else bif ah a 37386 then some (ae 1 [Value.int .i64 5],1) else bif ah a 34850 then some (ae 1 [Value.int .i64 3],1) else bif ah a 37383 then some (ae 1 [Value.int .i64 3],1) else bif ah a 37384 then some (ae 1 [Value.int .i64 3],1) else bif ah a 37385 then some (ae 1 [Value.int .i64 3],1) else bif ah a 40961 then some (ae 1 [Value.int .i64 3],1) else bif ah a 41986 then some (ae 1 [Value.int .i64 3],1) else bif ah a 36864 then some (ae 1 [Value.int .i64 7],4) else bif ah a 37121 then some (ae 1 [Value.int .i64 7],4) else bif ah a 40960 then some (ae 1 [Value.int .i64 7],4) else bif ah a 37377 then some (ae 1 [Value.int .i64 10],1) else bif ah a 37380 then some (ae 1 [Value.int .i64 10],1) else bif ah a 36867 then some (ae 1 [Value.int .i64 2],20) else bif ah a 36868 then some (ae 1 [Value.int .i64 2],20) else bif ah a 40962 then ES else bif ah a 40963 then ES else bif ah a 34855 then some (ae 1 [Value.int .i64 3],0) else bif ah a 37510 then some (ae 1 [Value.int .i64 7],0) else bif ah a 37520 then some (ae 1 [Value.int .i64 2],0) else bif ah a 41728 then some (ae 1 [Value.int .i64 7],1) else bif ah a 42016 then some (ae 1 [Value.int .i64 2],33) else bif ah a 42034 then some (ae 1 [Value.int .i64 5],4) else some (ae 0 [],-1)
def Xo(w:Nat):Int->Int->Option (Value×Int):=λa b=>bif bif ah a 3 then bif ah b 0 then true else false else false then some (ae 1 [Value.int .i64 1],4) else bif bif ah a 3 then bif ah b 5 then true else false else false then some (ae 1 [Value.int .i64 1],1) else bif bif ah a 3 then bif ah b 6 then true else false else false then some (ae 1 [Value.int .i64 5],1) else bif bif ah a 3 then bif ah b 1 then true else false else false then some (ae 1 [Value.int .i64 2],2) else bif bif ah a 3 then bif ah b 3 then true else false else false then some (ae 1 [Value.int .i64 2],2) else bif bif ah a 3 then bif ah b 2 then true else false else false then some (ae 1 [Value.int .i64 5],3) else bif bif ah a 3 then bif ah b 4 then true else false else false then some (ae 1 [Value.int .i64 5],3) else bif bif ah a 3 then bif ah b 7 then true else false else false then some (ae 1 [Value.int .i64 5],3) else bif bif ah a 3 then bif ah b 18 then true else false else false then some (ae 1 [Value.int .i64 2],0) else bif bif ah a 3 then bif ah b 29 then true else false else false then some (ae 1 [Value.int .i64 2],11) else bif bif ah a 4 then bif ah b 1 then true else false else false then some (ae 1 [Value.int .i64 2],4) else bif bif ah a 4 then bif ah b 2 then true else false else false then some (ae 1 [Value.int .i64 7],4) else bif bif ah a 5 then bif ah b 45056 then true else false else false then some (ae 1 [Value.int .i64 7],4) else bif bif ah a 5 then bif ah b 45313 then true else false else false then some (ae 1 [Value.int .i64 4],1) else bif bif ah a 5 then bif ah b 45569 then true else false else false then some (ae 1 [Value.int .i64 4],1) else bif bif ah a 5 then bif ah b 45570 then true else false else false then some (ae 1 [Value.int .i64 4],1) else bif bif ah a 5 then bif ah b 45572 then true else false else false then some (ae 1 [Value.int .i64 5],1) else bif bif ah a 5 then bif ah b 45574 then true else false else false then some (ae 1 [Value.int .i64 5],1) else bif bif ah a 5 then bif ah b 45573 then true else false else false then some (ae 1 [Value.int .i64 10],1) else bif bif ah a 5 then bif ah b 45576 then true else false else false then some (ae 1 [Value.int .i64 10],1) else some (ae 0 [],-1)
def Xh(w:Nat):Int->Int->Option (Value×Int):=λa b=>bif ah a 0 then ob (Nh w b) λc=>some (c.1,c.2) else bif ah a 1 then ob (Nh w b) λd=>some (d.1,d.2) else bif ah a 2 then ob (Xn w b) λe=>some (e.1,e.2) else ob (Xo w a b) λf=>some (f.1,f.2)
def WV(w:Nat):Int->Int->Int->Int->Value->Option (Bool):=λa b c d e=>bif ai a 0 then some false else bif ai 5 a then some false else bif ai b 0 then some false else bif ai 65535 b then some false else ob (Xg w a b) λf=>bif f then some false else ob (tw w c d e) λg=>bif !g then some false else ob (Xh w a b) λh=>bif ai h.2 0 then some true else lp (α:=Value->Int->Int->Int->Int->Int->Value->Option Bool) (λ_ _ _ _ _ _ _=>none) (λp q r s t u v y=>ak q λz=>bif ai s (Int.ofNat z) then ax s λa0=>aC 1 a0 q λa1=>af a1 λa2 a3=>aq .i64 a2 λa4=>bif ah a4 u then bif ah r 0 then some true else some (ah r v) else p q r (ag .i64 (s.add 1)) t u v y else some false) w h.1 h.2 0 b c d e
def WW(w:Nat):Value->Option (Bool):=λa=>lp (α:=Value->Int->Option Bool) (λ_ _=>none) (λd e f=>ak e λg=>bif ai f (Int.ofNat g) then ax f λh=>aC 4 h e λi=>af (List.drop 0 i) λj k=>aq .i64 j λl=>ax (ag .i64 (f.sub 1)) λm=>aC 4 m e λn=>af (List.drop 0 n) λo p=>aq .i64 o λq=>bif !ai q l then some false else d e (ag .i64 (f.add 1)) else some true) w a 1
def rP(w:Nat):Int->Value->Option (Bool):=λa b=>lp (α:=Int->Value->Int->Option Bool) (λ_ _ _=>none) (λf g h i=>ak h λj=>bif ai i (Int.ofNat j) then ax i λk=>aC 4 k h λl=>af l λm n=>aq .i64 m λo=>af n λp q=>aq .i64 p λr=>af q λs t=>aq .i64 s λu=>af t λv y=>ob (WV w g o r u v) λz=>bif !z then some false else f g h (ag .i64 (i.add 1)) else ob (WW w h) λa0=>bif a0 then bif !ai g 0 then some !ai 5 g else some false else some false) w a b 0
def vf(a:Nat)(b:Nat):=(ag .i64 ((Int.ofNat a).add (Int.ofNat b)))
def Xv(w:Nat):Int->Value->Value->Value->Value->Value->Value->Value->Option (Int):=λa b c d e f g h=>bif ai a 1 then some 1 else bif ai 2 a then some 1 else ob (rP w 0 b) λi=>bif !i then some 6 else ob (rP w 1 f) λj=>bif !j then some 6 else ob (rP w 2 c) λk=>bif !k then some 6 else ob (rP w 3 d) λl=>bif !l then some 6 else ob (rP w 4 e) λm=>bif !m then some 6 else ak g λn=>bif ai 65536 (Int.ofNat n) then some 6 else ak b λo=>ak c λp=>ak d λq=>ak e λr=>ak g λs=>bif ah (ag .i64 ((ag .i64 ((ag .i64 ((vf o p).add (Int.ofNat q))).add (Int.ofNat r))).add (Int.ofNat s))) 0 then some 6 else some 0
def MH(w:Nat):Value->Option (Value):=λa=>cn 1 a λb c=>bif c.length.beq (b*1)&&(Nat.ble 0 0&&Nat.beq 5 5) then bif(0+b).ble 0 then bif(0+c.length).ble 0 then some (ae (0+b) (List.drop 0 (aQ 0 c []))) else none else bif aw b&&(aw 0&&(Builtin.nextslicecap (0+b) 0).ble 5000000000) then some (ae ((List.take 0 (List.drop 0 [])++c).length/1) (List.take 0 (List.drop 0 [])++c)) else none else none
def akx(w:Nat)(rec:Value->Value->Value->Option (Value)):Value->Value->Value->Option (Value):=λa b c=>lp (α:=Nat->Nat->Int->Value->Value->Value->List Value->Option Value) (λ_ _ _ _ _ _ _=>none) (λk l m n o p q r=>ak p λs=>bif ai n (Int.ofNat s) then ax n λt=>aC 4 t p λu=>af (List.drop 1 u) λv y=>af y λz a0=>af a0 λa1 a2=>ob (rec v z a1) λa3=>cn 3 a3 λa4 a5=>bif a5.length.beq (a4*3)&&((0+l*3).ble r.length&&Nat.beq 261 261) then bif(l+a4).ble m then bif(0+l*3+a5.length).ble r.length then k (l+a4) m (ag .i64 (n.add 1)) o p q (aQ (0+l*3) a5 r) else none else bif aw a4&&(aw l&&(Builtin.nextslicecap (l+a4) m).ble 5000000000) then none else none else none else some (ae l (List.drop 0 r))) w 1 1 0 a b c [a,b,c]
def FN(w:Nat):Value->Value->Value->Option (Value):=lQ (iN (VT.fa [.agg [.v,.v,.v]])) (akx w) w
def Xr(w:Nat):Int->Value->Option (Value):=λa b=>lp (α:=Int->Int->Value->List Value->Option Value) (λ_ _ _ _=>none) (λg h i j k=>ak j λl=>bif ai h (Int.ofNat l) then ax h λm=>aC 3 m j λn=>af n λo p=>af p λq r=>af r λs t=>ob (FN w o q s) λu=>cn 3 u λv y=>bif aw k.length&&(aw v&&y.length.beq (v*3)) then g (ag .i64 (h.add 1)) i j (k++y) else none else some (ae (k.length/3) k)) w 0 a b []
def xN(w:Nat):Value->Value->Value->Option (Int):=λa b c=>ak c λd=>bif ai 0 (Int.ofNat d) then ak a λe=>ak b λf=>some (ag .i64 ((vf e f).add 2)) else ak a λg=>ak b λh=>some (vf g h)
def FO(w:Nat):Value->Option (Int):=λa=>ak a λb=>bif ah (Int.ofNat b) 0 then some 0 else ak a λc=>ax (ag .i64 ((Int.ofNat c).sub 1)) λd=>aC 5 d a λe=>af (List.drop 3 e) λf g=>aq .i64 f λh=>ak a λi=>ax (ag .i64 ((Int.ofNat i).sub 1)) λj=>aC 5 j a λk=>af (List.drop 4 k) λl m=>aq .i64 l λn=>some (ag .i64 (h.add n))
def Xz(w:Nat):Int->Option (Int):=λa=>bif !ah (a.tmod 2) 0 then some (ag .i64 (a.add 1)) else some a
def Be(w:Nat):Int->Int->Option (Int):=λa b=>bif ai b 1 then some 0 else bif ai 65536 b then some 0 else ob (yp w a) λc=>some (ag .i64 (b.mul c))
def XA(w:Nat):Int->Int->Option (Int):=λa b=>ob (Be w a b) λc=>bif ai 4 c then ob (Be w a b) λd=>some d else some 0
def Xk(w:Nat):Option (Value):=some (ae 5 [ae 2 (List.drop 0 [Value.int .i64 34665,Value.int .i64 2,Value.int .i64 34853,Value.int .i64 3]),Value.int .i64 0,Value.int .i64 0,Value.int .i64 1,ae 0 [],Value.int .i64 513,Value.int .i64 514,Value.int .i64 (-1),ae 1 (List.drop 0 [Value.int .i64 40965,Value.int .i64 4]),Value.int .i64 0,Value.int .i64 0,Value.int .i64 (-1),ae 0 [],Value.int .i64 0,Value.int .i64 0,Value.int .i64 (-1),ae 0 [],Value.int .i64 0,Value.int .i64 0,Value.int .i64 (-1)])
def FR(w:Nat):Int->Option (Bool):=λa=>bif !ai a 0 then some (ai a 65536) else some false
def Mw(w:Nat)(a:Value)(b:Int)(c:Value)(d:Int)(e:Int)(f:Int):Option (Bool):=lp (α:=Value->Int->Int->Value->Int->Int->Int->Option Bool) (λ_ _ _ _ _ _ _=>none) (λn o p q r s t u=>ak r λv=>bif ai q (Int.ofNat v) then ax q λy=>aC 2 y r λz=>af z λa0 a1=>aq .i64 a0 λa2=>af a1 λa3 a4=>aq .i64 a3 λa5=>ob (FR w a2) λa6=>bif !a6 then some false else bif !ai p a5 then some false else ak o λa7=>bif !ai a5 (Int.ofNat a7) then some false else bif ai 0 q then ax (ag .i64 (q.sub 1)) λa8=>aC 2 a8 r λa9=>af (List.drop 0 a9) λb0 b1=>aq .i64 b0 λb2=>bif !ai b2 a2 then some false else bif !ah s 0 then bif ah a2 s then some false else bif ah a2 t then some false else n o p (ag .i64 (q.add 1)) r s t u else n o p (ag .i64 (q.add 1)) r s t u else bif !ah s 0 then bif ah a2 s then some false else bif ah a2 t then some false else n o p (ag .i64 (q.add 1)) r s t u else n o p (ag .i64 (q.add 1)) r s t u else some true) w a b 0 c d e f
def ER(w:Nat)(a:Int)(b:Int)(c:Value)(d:Int)(e:Value)(f:Int):Option (Bool):=bif ai a 1 then some false else bif !ai a b then some false else ob (FR w b) λg=>bif !g then some false else Mw w c d e a b f
def Xx(w:Nat):Value->Int->Option (Bool):=λa b=>ax b λc=>aC 4 c a λd=>af d λe f=>af f λg h=>aq .i64 g λi=>af h λj k=>aq .i64 j λl=>af k λm n=>aq .i64 m λo=>bif !ah o (-1) then bif !ai b o then some false else ak a λp=>bif !ai o (Int.ofNat p) then some false else bif !ah i 0 then ER w i l a b e o else bif !ah l 0 then ER w i l a b e o else Mw w a b e i l o else bif !ah i 0 then ER w i l a b e o else bif !ah l 0 then ER w i l a b e o else Mw w a b e i l o
def Xp(w:Nat):Value->Option (Bool):=λa=>lp (α:=Value->Int->Option Bool) (λ_ _=>none) (λd e f=>ak e λg=>bif ai f (Int.ofNat g) then ob (Xx w e f) λh=>bif !h then some false else d e (ag .i64 (f.add 1)) else ak e λi=>bif !ai (Int.ofNat i) 1 then ak e λj=>some !ai 16 (Int.ofNat j) else some false) w a 0
def FP(w:Nat):Value->Int->Int->Int->Int->Option (Int):=λa b c d e=>lp (α:=Int->Int->Value->Int->Int->Int->Option Int) (λ_ _ _ _ _ _=>none) (λl m n o p q r=>ak o λs=>bif ai n (Int.ofNat s) then ax n λt=>aC 2 t o λu=>af (List.drop 0 u) λv y=>aq .i64 v λz=>bif ah z m then some n else l m (ag .i64 (n.add 1)) o p q r else some (-1)) w e 0 a b c d
def Xy(w:Nat):Value->Int->Int->Int->Int->Option (Bool):=λa b c d e=>ob (FP w a b c d e) λf=>bif !ai f 0 then some true else bif !ah b 0 then bif ah e b then some true else some (ah e c) else some false
def V1(a:Int)(b:Value)(c:Int)(d:Value)(rec:Value->Value->Value->Value->Int->Option (Bool))(e:Value)(f:Value->Int->Value->Value->Value->Value->Int->Int->Int->Option Bool)(g:Value)(h:Value)(i:Int)(j:Int)(k:Int):Option (Bool):=ax a λl=>aC 4 l b λm=>af (List.drop 1 m) λn o=>af o λp q=>af q λr s=>ax c λt=>aC 2 t d λu=>af (List.drop 1 u) λv y=>aq .i64 v λz=>ob (rec n p r e z) λa0=>bif !a0 then some false else f e (ag .i64 (a.add 1)) g b h d i j k
def VZ(w:Nat)(rec:Value->Value->Value->Value->Int->Option (Bool))(a:Value)(b:Value)(c:Value)(d:Value)(e:Value)(f:Int)(g:Int)(h:Int):Option (Bool):=lp (α:=Value->Int->Value->Value->Value->Value->Int->Int->Int->Option Bool) (λ_ _ _ _ _ _ _ _ _=>none) (λr s t u v y z a0 a1 a2=>ak u λa3=>bif ai t (Int.ofNat a3) then ax t λa4=>aC 4 a4 u λa5=>af a5 λa6 a7=>aq .i64 a6 λa8=>af a7 λa9 b0=>aq .i64 a9 λb1=>af b0 λb2 b3=>aq .i64 b2 λb4=>af b3 λb5 b6=>ob (FR w a8) λb7=>bif !b7 then some false else ob (Xy w z a0 a1 a2 a8) λb8=>bif b8 then some false else ob (tw w b1 b4 b5) λb9=>bif !b9 then some false else bif ai 0 t then ax (ag .i64 (t.sub 1)) λc0=>aC 4 c0 u λc1=>af (List.drop 0 c1) λc2 c3=>aq .i64 c2 λc4=>bif !ai c4 a8 then some false else r s (ag .i64 (t.add 1)) u v y z a0 a1 a2 else r s (ag .i64 (t.add 1)) u v y z a0 a1 a2 else lp (α:=Value->Int->Value->Value->Value->Value->Int->Int->Int->Option Bool) (λ_ _ _ _ _ _ _ _ _=>none) (λd4 d5 d6 d7 d8 d9 e0 e1 e2 e3=>ak d8 λe4=>bif ai d6 (Int.ofNat e4) then ax d6 λe5=>aC 4 e5 d8 λe6=>af (List.drop 0 e6) λe7 e8=>aq .i64 e7 λe9=>ob (FP w e0 e1 e2 e3 e9) λf0=>bif ai f0 0 then some false else bif ai 0 d6 then ax d6 λf1=>aC 4 f1 d8 λf2=>af (List.drop 0 f2) λf3 f4=>aq .i64 f3 λf5=>ax (ag .i64 (d6.sub 1)) λf6=>aC 4 f6 d8 λf7=>af (List.drop 0 f7) λf8 f9=>aq .i64 f8 λg0=>bif !ai g0 f5 then some false else V1 d6 d8 f0 e0 rec d5 d4 d7 d9 e1 e2 e3 else V1 d6 d8 f0 e0 rec d5 d4 d7 d9 e1 e2 e3 else some true) w s 0 u v y z a0 a1 a2) w a 0 b c d e f g h
def akv(w:Nat)(rec:Value->Value->Value->Value->Int->Option (Bool)):Value->Value->Value->Value->Int->Option (Bool):=λa b c d e=>ax e λf=>aC 4 f d λg=>af g λh i=>af i λj k=>aq .i64 j λl=>af k λm n=>aq .i64 m λo=>af n λp q=>aq .i64 p λr=>ob (xN w a b c) λs=>bif ai s 1 then some false else bif ai 65535 s then some false else ak c λt=>bif ai 0 (Int.ofNat t) then bif ah l 0 then some false else VZ w rec d a b c h l o r else VZ w rec d a b c h l o r
def Xq(w:Nat):Value->Value->Value->Value->Int->Option (Bool):=lQ (iN (VT.fa [.agg [.v,.v,.v],.v,.i .i64])) (akv w) w
def AT(a:Nat)(b:List Value)(c:List Value):=(List.drop 0 (aQ (0+(0+a)*1) b (aQ 0 c [],5).1,5).1)
def vg(a:List Value):=(List.drop 0 (aQ 0 a [],5).1)
def vk(w:Nat):Value->Int->Value->Option (Value):=λa b c=>ak a λd=>ax b λe=>bif e.ble d&&Nat.ble 0 e then eJ 1 0 e a λf=>cn 1 f λg h=>bif h.length.beq (g*1)&&(Nat.ble 0 0&&Nat.beq 5 5) then bif(0+g).ble 0 then bif(0+h.length).ble 0 then cn 1 c λi j=>bif j.length.beq (i*1)&&((0+(0+g)*1).ble (aQ 0 h [],5).1.length&&Nat.beq 5 5) then bif(0+g+i).ble 0 then bif(0+(0+g)*1+j.length).ble (aQ 0 h [],5).1.length then ak c λk=>ak a λl=>ax (ag .i64 (b.add (Int.ofNat k))) λm=>bif l.ble l&&m.ble l then eJ 1 m l a λn=>cn 1 n λo p=>bif p.length.beq (o*1)&&((0+(0+g+i)*1).ble (aQ (0+(0+g)*1) j (aQ 0 h [],5).1,5).1.length&&Nat.beq 5 5) then bif(0+g+i+o).ble 0 then bif(0+(0+g+i)*1+p.length).ble (aQ (0+(0+g)*1) j (aQ 0 h [],5).1,5).1.length then some (ae (0+g+i+o) (List.drop 0 (aQ (0+(0+g+i)*1) p (aQ (0+(0+g)*1) j (aQ 0 h [],5).1,5).1))) else none else bif aw o&&(aw (0+g+i)&&(Builtin.nextslicecap (0+g+i+o) 0).ble 5000000000) then some (ae ((List.take ((0+g+i)*1) (AT g j h)++p).length/1) (List.take ((0+g+i)*1) (AT g j h)++p)) else none else none else none else none else bif aw i&&(aw (0+g)&&(Builtin.nextslicecap (0+g+i) 0).ble 5000000000) then ak c λq=>ak a λr=>ax (ag .i64 (b.add (Int.ofNat q))) λs=>bif r.ble r&&s.ble r then eJ 1 s r a λt=>cn 1 t λu v=>bif aw (List.take ((0+g)*1) (vg h)++j).length&&(aw u&&v.length.beq (u*1)) then some (ae ((List.take ((0+g)*1) (vg h)++j++v).length/1) (List.take ((0+g)*1) (vg h)++j++v)) else none else none else none else none else none else bif aw g&&(aw 0&&(Builtin.nextslicecap (0+g) 0).ble 5000000000) then cn 1 c λy z=>bif aw (List.take 0 (List.drop 0 [])++h).length&&(aw y&&z.length.beq (y*1)) then ak c λa0=>ak a λa1=>ax (ag .i64 (b.add (Int.ofNat a0))) λa2=>bif a1.ble a1&&a2.ble a1 then eJ 1 a2 a1 a λa3=>cn 1 a3 λa4 a5=>bif aw (List.take 0 (List.drop 0 [])++h++z).length&&(aw a4&&a5.length.beq (a4*1)) then some (ae ((List.take 0 (List.drop 0 [])++h++z++a5).length/1) (List.take 0 (List.drop 0 [])++h++z++a5)) else none else none else none else none else none else none
def xM(w:Nat):Value->Int->Int->Int->Int->Option (Value):=λa b c d e=>ob (qE w c d e) λf=>ob (vk w a b f.1) λg=>some g
def XG(w:Nat):Int->Int->Option (Bool):=λa b=>ob (Be w a b) λc=>bif !ai c 1 then ob (Be w a b) λd=>some !ai 4 d else some false
def V9(a:Int)(b:Int):=(ag .i64 ((ag .i64 ((ag .i64 ((ag .i64 (a.sub (a.tmod b))).add b)).sub 1)).sub (a.tmod b)))
def VW(a:Int):=(aw ([Value.int .u8 a].length/1)&&[Value.int .u8 a].length.beq ([Value.int .u8 a].length/1*1))
def My(a:Nat)(b:Value)(c:List Value)(d:Value->Int->Int->Int->List Value->Option Value)(e:Int)(f:Int)(g:Int):Option (Value):=aC 1 a b λh=>af h λi j=>aq .u8 i λk=>bif aw c.length&&(VW k) then d b e f (ag .i64 (g.add 1)) (c++[Value.int .u8 k]) else none
def We(w:Nat)(a:Int)(b:Value)(c:Int):Option (Value):=bif ai a 1 then some (ae 0 []) else bif ai 2 a then some (ae 0 []) else lp (α:=Value->Int->Int->Int->List Value->Option Value) (λ_ _ _ _ _=>none) (λi j k l m n=>ak j λo=>bif ai m (Int.ofNat o) then bif ah l 1 then ak j λp=>ak j λq=>bif ah k 0 then none else bif ai m (ag .i64 ((Int.ofNat p).sub ((Int.ofNat q).tmod k))) then bif ah k 0 then none else bif ah k 0 then none else ax (V9 m k) λr=>My r j n i k l m else ax m λs=>My s j n i k l m else ax m λt=>My t j n i k l m else some (ae (n.length/1) n)) w b c a 0 []
def XI(w:Nat):Value->Int->Int->Option (Value):=λa b c=>ob (vp w b) λd=>bif ah d 0 then bif !ah b 8 then some (ae 0 []) else We w c a b else We w c a b
def XC(w:Nat):Int->Int->Value->Int->Option (Value):=λa b c d=>ob (tw w a b c) λe=>bif !e then some (ae 0 []) else ob (xL w a) λf=>ob (XI w c f d) λg=>some g
def V5(a:Nat)(b:Value)(c:Value->Int->Int->Int->Int->Int->Int->Option (Int×Bool))(d:Int)(e:Int)(f:Int)(g:Int)(h:Int)(i:Int):Option (Int×Bool):=aC 1 a b λj=>af j λk l=>aq .u8 k λm=>c b d e f (ag .i64 (g.add (ag .i64 (h.mul (ag .i64 m))))) (ag .i64 (Int.mul 256 h)) (ag .i64 (i.add 1))
def XH(w:Nat):Value->Int->Int->Int->Option (Int×Bool):=λa b c d=>ob (vp w c) λe=>bif ah e 0 then some (0,false) else bif ai d 1 then some (0,false) else bif ai 2 d then some (0,false) else bif ai b 0 then some (0,false) else ak a λf=>bif ai (Int.ofNat f) b then some (0,false) else ak a λg=>bif ai (ag .i64 ((Int.ofNat g).sub b)) c then some (0,false) else lp (α:=Value->Int->Int->Int->Int->Int->Int->Option (Int×Bool)) (λ_ _ _ _ _ _ _=>none) (λo p q r s t u v=>bif ai v r then bif ah s 2 then ax (ag .i64 ((ag .i64 ((ag .i64 (q.add r)).sub 1)).sub v)) λy=>V5 y p o q r s t u v else ax (ag .i64 (q.add v)) λz=>V5 z p o q r s t u v else some (t,true)) w a b c d 0 1 0
def tz(w:Nat):Value->Int->Int->Int->Option (Int):=λa b c d=>lp (α:=Value->Int->Int->Int->Int->Option Int) (λ_ _ _ _ _=>none) (λj k l m n o=>ak k λp=>bif ai o (Int.ofNat p) then ax o λq=>aC 5 q k λr=>af (List.drop 0 r) λs t=>aq .i64 s λu=>bif ah u l then ax o λv=>aC 5 v k λy=>af (List.drop 1 y) λz a0=>aq .i64 z λa1=>bif ah a1 m then ax o λa2=>aC 5 a2 k λa3=>af (List.drop 2 a3) λa4 a5=>aq .i64 a4 λa6=>bif ah a6 n then ax o λa7=>aC 5 a7 k λa8=>af (List.drop 3 a8) λa9 b0=>aq .i64 a9 λb1=>some b1 else j k l m n (ag .i64 (o.add 1)) else j k l m n (ag .i64 (o.add 1)) else j k l m n (ag .i64 (o.add 1)) else some 0) w a b c d 0
def XE(w:Nat):Int->Int->Int->Int->Int->Option (Value×Bool):=λa b c d e=>ob (qE w a 2 e) λf=>ob (qE w b 2 e) λg=>ob (qE w c 4 e) λh=>ob (qE w d 4 e) λi=>bif !f.2 then some (ae 0 [],false) else bif !g.2 then some (ae 0 [],false) else bif !h.2 then some (ae 0 [],false) else bif !i.2 then some (ae 0 [],false) else cn 1 f.1 λj k=>bif k.length.beq (j*1)&&(Nat.ble 0 0&&Nat.beq 5 5) then bif(0+j).ble 0 then bif(0+k.length).ble 0 then cn 1 g.1 λl m=>bif m.length.beq (l*1)&&((0+(0+j)*1).ble (aQ 0 k [],5).1.length&&Nat.beq 5 5) then bif(0+j+l).ble 0 then bif(0+(0+j)*1+m.length).ble (aQ 0 k [],5).1.length then cn 1 h.1 λn o=>bif o.length.beq (n*1)&&((0+(0+j+l)*1).ble (aQ (0+(0+j)*1) m (aQ 0 k [],5).1,5).1.length&&Nat.beq 5 5) then bif(0+j+l+n).ble 0 then bif(0+(0+j+l)*1+o.length).ble (aQ (0+(0+j)*1) m (aQ 0 k [],5).1,5).1.length then cn 1 i.1 λp q=>bif q.length.beq (p*1)&&((0+(0+j+l+n)*1).ble (aQ (0+(0+j+l)*1) o (aQ (0+(0+j)*1) m (aQ 0 k [],5).1,5).1,5).1.length&&Nat.beq 5 5) then bif(0+j+l+n+p).ble 0 then bif(0+(0+j+l+n)*1+q.length).ble (aQ (0+(0+j+l)*1) o (aQ (0+(0+j)*1) m (aQ 0 k [],5).1,5).1,5).1.length then some (ae (0+j+l+n+p) (List.drop 0 (aQ (0+(0+j+l+n)*1) q (aQ (0+(0+j+l)*1) o (aQ (0+(0+j)*1) m (aQ 0 k [],5).1,5).1,5).1)),true) else none else bif aw p&&(aw (0+j+l+n)&&(Builtin.nextslicecap (0+j+l+n+p) 0).ble 5000000000) then some (ae ((List.take ((0+j+l+n)*1) (List.drop 0 (aQ (0+(0+j+l)*1) o (aQ (0+(0+j)*1) m (aQ 0 k [],5).1,5).1,5).1)++q).length/1) (List.take ((0+j+l+n)*1) (List.drop 0 (aQ (0+(0+j+l)*1) o (aQ (0+(0+j)*1) m (aQ 0 k [],5).1,5).1,5).1)++q),true) else none else none else none else bif aw n&&(aw (0+j+l)&&(Builtin.nextslicecap (0+j+l+n) 0).ble 5000000000) then cn 1 i.1 λr s=>bif aw (List.take ((0+j+l)*1) (AT j m k)++o).length&&(aw r&&s.length.beq (r*1)) then some (ae ((List.take ((0+j+l)*1) (AT j m k)++o++s).length/1) (List.take ((0+j+l)*1) (AT j m k)++o++s),true) else none else none else none else none else bif aw l&&(aw (0+j)&&(Builtin.nextslicecap (0+j+l) 0).ble 5000000000) then cn 1 h.1 λt u=>bif aw (List.take ((0+j)*1) (vg k)++m).length&&(aw t&&u.length.beq (t*1)) then cn 1 i.1 λv y=>bif aw (List.take ((0+j)*1) (vg k)++m++u).length&&(aw v&&y.length.beq (v*1)) then some (ae ((List.take ((0+j)*1) (vg k)++m++u++y).length/1) (List.take ((0+j)*1) (vg k)++m++u++y),true) else none else none else none else none else none else bif aw j&&(aw 0&&(Builtin.nextslicecap (0+j) 0).ble 5000000000) then cn 1 g.1 λz a0=>bif aw (List.take 0 (List.drop 0 [])++k).length&&(aw z&&a0.length.beq (z*1)) then cn 1 h.1 λa1 a2=>bif aw (List.take 0 (List.drop 0 [])++k++a0).length&&(aw a1&&a2.length.beq (a1*1)) then cn 1 i.1 λa3 a4=>bif aw (List.take 0 (List.drop 0 [])++k++a0++a2).length&&(aw a3&&a4.length.beq (a3*1)) then some (ae ((List.take 0 (List.drop 0 [])++k++a0++a2++a4).length/1) (List.take 0 (List.drop 0 [])++k++a0++a2++a4),true) else none else none else none else none else none
def Na(w:Nat):Int->Option (Int):=λa=>bif ai a 1 then some 0 else bif !ah (a.tmod 65519) 0 then some (ag .i64 ((ag .i64 (a.tdiv 65519)).add 1)) else some (ag .i64 (a.tdiv 65519))
def Ng(w:Nat):Int->Option (Bool):=λa=>bif !ai a 208 then some !ai 215 a else some false
def Xa(w:Nat):Int->Option (Bool):=λa=>bif !ai a 192 then bif !ai 254 a then ob (Ng w a) λb=>bif !b then bif !ah a 216 then some !ah a 217 else some false else some false else some false else some false
def Nb(w:Nat):Value->Option (Int):=λa=>lp (α:=Value->Int->Option Int) (λ_ _=>none) (λd e f=>ak e λg=>bif ai f (Int.ofNat g) then ax f λh=>aC 1 h e λi=>af i λj k=>aq .u8 j λl=>bif !ah l 255 then d e (ag .i64 (f.add 1)) else ak e λm=>bif ah (ag .i64 (f.add 1)) (Int.ofNat m) then some f else ax (ag .i64 (f.add 1)) λn=>aC 1 n e λo=>af o λp q=>aq .u8 p λr=>bif !ah r 0 then ax (ag .i64 (f.add 1)) λs=>aC 1 s e λt=>af t λu v=>aq .u8 u λy=>ob (Ng w (ag .i64 y)) λz=>bif !z then some f else d e (ag .i64 (f.add 1)) else d e (ag .i64 (f.add 1)) else ak e λa0=>some (Int.ofNat a0)) w a 0
def Xl(w:Nat):Int->Option (Bool):=λa=>bif !ai a 224 then some !ai 239 a else some false
def W9(w:Nat):Value->Bool->Option (Value):=λa b=>lp (α:=Value->Bool->Int->List Value->Option Value) (λ_ _ _ _=>none) (λg h i j k=>ak h λl=>bif ai j (Int.ofNat l) then ax j λm=>aC 3 m h λn=>af (List.drop 0 n) λo p=>aq .i64 o λq=>ob (Xl w q) λr=>bif r==i then ax j λs=>aC 3 s h λt=>af t λu v=>aq .i64 u λy=>af v λz a0=>af a0 λa1 a2=>bif aw k.length&&(aw 1&&(List.take 3 (List.drop 0 [Value.int .i64 y,z,a1])).length.beq 3) then g h i (ag .i64 (j.add 1)) (k++List.take 3 (List.drop 0 [Value.int .i64 y,z,a1])) else none else g h i (ag .i64 (j.add 1)) k else some (ae (k.length/3) k)) w a b 0 []
def Xm(w:Nat):Int->Value->Value->Value->Value->Value->Value->Value->Value->Value->Int->Int->Int->Value->Option (Bool):=λa b c d e f g h i j k l m n=>bif !ai k 0 then bif !ai 4294967295 k then bif !ai l 0 then bif !ai 65535 l then bif !ai m 0 then some !ai 65535 m else some false else some false else some false else some false else some false
def WN(w:Nat):Int->Int->Int->Int->Int->Int->Option (Value×Bool):=λa b c d e f=>lp (α:=Int->Nat->Nat->Int->List Value->List Value->Option (Value×Bool)) (λ_ _ _ _ _ _=>none) (λm n o p q r s=>bif ai q 5 then bif ai 2 q then ax q λt=>bif t.blt o then af (List.drop (0+t*1) r) λu v=>aq .i64 u λy=>ob (qE w y 2 n) λz=>bif !z.2 then some (ae 0 [],false) else cn 1 z.1 λa0 a1=>bif aw s.length&&(aw a0&&a1.length.beq (a0*1)) then m n o p (ag .i64 (q.add 1)) r (s++a1) else none else none else ax q λa2=>bif a2.blt o then af (List.drop (0+a2*1) r) λa3 a4=>aq .i64 a3 λa5=>ob (qE w a5 4 n) λa6=>bif !a6.2 then some (ae 0 [],false) else cn 1 a6.1 λa7 a8=>bif aw s.length&&(aw a7&&a8.length.beq (a7*1)) then m n o p (ag .i64 (q.add 1)) r (s++a8) else none else none else some (ae (s.length/1) s,true)) w f 5 5 0 [Value.int .i64 a,Value.int .i64 b,Value.int .i64 c,Value.int .i64 d,Value.int .i64 e] []
def MZ(w:Nat):Int->Value->Option (Int×Int×Int×Value):=λa b=>ak b λc=>some (a,7,Int.ofNat c,b)
def V0(w:Nat)(a:List Value)(b:Int)(c:Int)(d:Int)(e:Int):Option (List Value):=ob (FO w (ae (a.length/5) a)) λf=>ob (Xz w f) λg=>bif aw a.length&&(aw 1&&(List.take 5 (List.drop 0 [Value.int .i64 b,Value.int .i64 c,Value.int .i64 d,Value.int .i64 g,Value.int .i64 e])).length.beq 5) then some (a++List.take 5 (List.drop 0 [Value.int .i64 b,Value.int .i64 c,Value.int .i64 d,Value.int .i64 g,Value.int .i64 e])) else none
def Xs(w:Nat):Int->Int->Int->Int->List Value->Option (List Value):=λa b c d e=>V0 w e a b c d
def FM(w:Nat):Int->Int->Int->Int->List Value->Option (List Value):=λa b c d e=>V0 w e a b c d
def akw(w:Nat)(rec:Value->Value->Value->Int->List Value->Option (List Value)):Value->Value->Value->Int->List Value->Option (List Value):=λa b c d e=>ob (xN w a b c) λf=>ob (FM w 2 d 0 (ag .i64 (Int.add 6 (ag .i64 (Int.mul 12 f)))) e) λg=>lp (α:=Int->Int->List Value->Value->Value->Value->Option (List Value)) (λ_ _ _ _ _ _=>none) (λn o p q r s t=>ak r λu=>bif ai p (Int.ofNat u) then ax p λv=>aC 4 v r λy=>af (List.drop 0 (List.drop 1 y)) λz a0=>aq .i64 z λa1=>ax p λa2=>aC 4 a2 r λa3=>af (List.drop 1 (List.drop 1 a3)) λa4 a5=>aq .i64 a4 λa6=>ob (XA w a1 a6) λa7=>bif ai 0 a7 then ax p λa8=>aC 4 a8 r λa9=>af (List.drop 0 a9) λb0 b1=>aq .i64 b0 λb2=>ob (FM w 3 o b2 a7 q) λb3=>n o (ag .i64 (p.add 1)) b3 r s t else n o (ag .i64 (p.add 1)) q r s t else lp (α:=Int->Int->Int->List Value->Value->Value->Value->Option (List Value)) (λ_ _ _ _ _ _ _=>none) (λc1 c2 c3 c4 c5 c6 c7 c8=>ak c7 λc9=>bif ai c4 (Int.ofNat c9) then ax c4 λd0=>aC 4 d0 c7 λd1=>af (List.drop 1 d1) λd2 d3=>af d3 λd4 d5=>af d5 λd6 d7=>ob (rec d2 d4 d6 c3 c5) λd8=>ax c4 λd9=>aC 4 d9 c7 λe0=>af (List.drop 1 e0) λe1 e2=>af e2 λe3 e4=>af e4 λe5 e6=>ob (FN w e1 e3 e5) λe7=>ak e7 λe8=>c1 c2 (ag .i64 (c3.add (Int.ofNat e8))) (ag .i64 (c4.add 1)) d8 c6 c7 c8 else ak c8 λe9=>bif ai 0 (Int.ofNat e9) then ak c8 λf0=>ob (FM w 4 c2 0 (Int.ofNat f0) c5) λf1=>some f1 else some c5) w o (ag .i64 (o.add 1)) 0 q r s t) w d 0 g a b c
def Xt(w:Nat):Value->Value->Value->Int->List Value->Option (List Value):=lQ (iN (HT.ti ⟨3,⟨[(0,.gr 0 5),(1,.agg [.v,.v,.v]),(2,.i .i64)],[(0,.grow 5 307)],1⟩,1,⟨[(0,.gr 1 5)],[(1,.grow 5 307)],2⟩⟩).ks) (akw w) w
def Nc(w:Nat):Int->Value->Option (Value×Bool):=λa b=>ob (Xr w a b) λc=>lp (α:=Value->Int->Int->Value->Option (Value×Bool)) (λ_ _ _ _=>none) (λh i j k l=>ak i λm=>bif ai j (Int.ofNat m) then ax j λn=>aC 3 n i λo=>af o λp q=>af q λr s=>af s λt u=>ob (xN w p r t) λv=>bif ai v 1 then some (ae 0 [],false) else ax j λy=>aC 3 y i λz=>af z λa0 a1=>af a1 λa2 a3=>af a3 λa4 a5=>ob (xN w a0 a2 a4) λa6=>bif ai 65535 a6 then some (ae 0 [],false) else lp (α:=Value->Int->Int->Int->Value->Option (Value×Bool)) (λ_ _ _ _ _=>none) (λb2 b3 b4 b5 b6 b7=>ax b4 λb8=>aC 3 b8 b3 λb9=>af (List.drop 0 b9) λc0 c1=>ak c0 λc2=>bif ai b5 (Int.ofNat c2) then ax b4 λc3=>aC 3 c3 b3 λc4=>af (List.drop 0 c4) λc5 c6=>ax b5 λc7=>aC 4 c7 c5 λc8=>af (List.drop 1 c8) λc9 d0=>aq .i64 c9 λd1=>af d0 λd2 d3=>aq .i64 d2 λd4=>af d3 λd5 d6=>ob (tw w d1 d4 d5) λd7=>bif !d7 then some (ae 0 [],false) else b2 b3 b4 (ag .i64 (b5.add 1)) b6 b7 else h b3 (ag .i64 (b4.add 1)) b6 b7) w i j 0 k l else ob (Xs w 1 (-1) 0 8 []) λd8=>lp (α:=Int->Int->Int->Value->List Value->Option (Value×Bool)) (λ_ _ _ _ _=>none) (λe4 e5 e6 e7 e8 e9=>ak e8 λf0=>bif ai e6 (Int.ofNat f0) then ax e6 λf1=>aC 3 f1 e8 λf2=>af f2 λf3 f4=>af f4 λf5 f6=>af f6 λf7 f8=>ob (Xt w f3 f5 f7 e5 e9) λf9=>ax e6 λg0=>aC 3 g0 e8 λg1=>af g1 λg2 g3=>af g3 λg4 g5=>af g5 λg6 g7=>ob (FN w g2 g4 g6) λg8=>ak g8 λg9=>e4 (ag .i64 (e5.add (Int.ofNat g9))) (ag .i64 (e6.add 1)) e7 e8 f9 else ob (FO w (ae (e9.length/5) e9)) λh0=>bif ai 4294967295 h0 then some (ae 0 [],false) else some (ae (e9.length/5) e9,true)) w 0 0 k l d8) w c 0 a b
def FK(w:Nat):Int->Value->Option (Int):=λa b=>ob (Nc w a b) λc=>ob (FO w c.1) λd=>some d
def Xi(w:Nat):Int->Value->Value->Option (Int):=λa b c=>ob (Xp w c) λd=>bif !d then some 1 else bif ai a 1 then some 1 else bif ai 2 a then some 1 else ak b λe=>bif ah (Int.ofNat e) 0 then some 1 else lp (α:=Value->Int->Int->Int->Int->Value->Option Int) (λ_ _ _ _ _ _=>none) (λl m n o p q r=>ak r λs=>bif ai p (Int.ofNat s) then bif ai n 0 then some 1 else ax p λt=>aC 3 t r λu=>af u λv y=>af y λz a0=>af a0 λa1 a2=>ob (Xq w v z a1 m n) λa3=>bif !a3 then ax n λa4=>aC 4 a4 m λa5=>af (List.drop 3 a5) λa6 a7=>aq .i64 a6 λa8=>l m a8 6 (ag .i64 (p.add 1)) q r else ax n λa9=>aC 4 a9 m λb0=>af (List.drop 3 b0) λb1 b2=>aq .i64 b1 λb3=>l m b3 o (ag .i64 (p.add 1)) q r else bif ah o 0 then ob (FK w q r) λb4=>bif ah b4 0 then some 7 else some o else some o) w c 0 0 0 a b
def Mz(a:Nat)(b:Value)(c:List Value)(d:Value->Int->Int->Int->List Value->Option (List Value))(e:Int)(f:Int)(g:Int):Option (List Value):=aC 1 a b λh=>af h λi j=>aq .u8 i λk=>bif aw c.length&&(VW k) then d b e f (ag .i64 (g.add 1)) (c++[Value.int .u8 k]) else none
def Wg(w:Nat)(a:Int)(b:Value)(c:Int):Option (List Value):=bif ai a 1 then some [] else bif ai 2 a then some [] else lp (α:=Value->Int->Int->Int->List Value->Option (List Value)) (λ_ _ _ _ _=>none) (λi j k l m n=>ak j λo=>bif ai m (Int.ofNat o) then bif ah l 1 then ak j λp=>ak j λq=>bif ah k 0 then none else bif ai m (ag .i64 ((Int.ofNat p).sub ((Int.ofNat q).tmod k))) then bif ah k 0 then none else bif ah k 0 then none else ax (V9 m k) λr=>Mz r j n i k l m else ax m λs=>Mz s j n i k l m else ax m λt=>Mz t j n i k l m else some n) w b c a 0 []
def XJ(w:Nat):Value->Int->Int->Option (List Value):=λa b c=>ob (vp w b) λd=>bif ah d 0 then bif !ah b 8 then some [] else Wg w c a b else Wg w c a b
def XD(w:Nat):Int->Int->Value->Int->Option (List Value):=λa b c d=>ob (tw w a b c) λe=>bif !e then some [] else ob (xL w a) λf=>ob (XJ w c f d) λg=>some g
def XB(w:Nat):Int->Int->Int->Value->Int->Option (Int×Int×Int×Int×Bool):=λa b c d e=>bif ai a 0 then some (0,0,0,0,false) else bif ai 65535 a then some (0,0,0,0,false) else bif ai e 1 then some (0,0,0,0,false) else bif ai 2 e then some (0,0,0,0,false) else ob (tw w b c d) λf=>bif !f then some (0,0,0,0,false) else ob (XG w b c) λg=>bif !g then some (0,0,0,0,false) else ob (XD w b c d e) λh=>lp (α:=Int->Int->Int->Int->Value->Int->Int->Int->Int->List Value->Option (Int×Int×Int×Int×Bool)) (λ_ _ _ _ _ _ _ _ _ _=>none) (λs t u v y z a0 a1 a2 a3 a4=>bif ai (Int.ofNat (a4.length/1)) 4 then bif aw a4.length&&(aw 1&&Nat.beq 1 1) then s t u v y z a0 a1 a2 a3 (a4++[Value.int .u8 0]) else none else ob (XH w (ae (a4.length/1) a4) 0 4 u) λa5=>some (t,v,y,a5.1,true)) w a e b c d 0 0 0 0 h
def V4(a:Int×Int×Int×Int×Bool):=(List.drop 0 [Value.int .i64 a.1,Value.int .i64 a.2.1,Value.int .i64 a.2.2.1,Value.int .i64 a.2.2.2.1])
def Wc(a:Int)(b:Int):=(List.drop 0 [Value.int .i64 a,Value.int .i64 4,Value.int .i64 1,Value.int .i64 b])
def Mx(a:Int)(b:Int)(c:Int)(d:Nat):=(List.drop 0 [Value.int .i64 a,Value.int .i64 4,Value.int .i64 1,Value.int .i64 b,Value.int .i64 c,Value.int .i64 4,Value.int .i64 1,Value.int .i64 (Int.ofNat d)])
def VO(w:Nat)(a:Int)(b:List Value)(c:Value->Int->Int->Int->List Value->Option Value)(d:Value)(e:Int)(f:Int):Option (Value):=bif ai a (Int.ofNat (b.length/4)) then lp (α:=Value->Int->Int->Int->Int->Int->List Value->Option Value) (λ_ _ _ _ _ _ _=>none) (λn o p q r s t u=>bif ai t (Int.ofNat (u.length/4)) then ax t λv=>bif Nat.beq 4 4&&(v*4).blt u.length then af (List.drop (0+v*4+0) u) λy z=>aq .i64 y λa0=>ax r λa1=>bif Nat.beq 4 4&&(a1*4).blt u.length then af (List.drop (0+a1*4+0) u) λa2 a3=>aq .i64 a2 λa4=>bif ai a0 a4 then n o p q r (ag .i64 (s.add 1)) (ag .i64 (t.add 1)) u else n o p q r s (ag .i64 (t.add 1)) u else none else none else ax r λa5=>bif Nat.beq 4 4&&(a5*4).blt u.length then af (List.drop (0+a5*4) u) λa6 a7=>aq .i64 a6 λa8=>af a7 λa9 b0=>aq .i64 a9 λb1=>af b0 λb2 b3=>aq .i64 b2 λb4=>af b3 λb5 b6=>aq .i64 b5 λb7=>ob (XE w a8 b1 b4 b7 p) λb8=>ob (vk w o (ag .i64 ((ag .i64 (q.add 2)).add (ag .i64 (Int.mul 12 s)))) b8.1) λb9=>c b9 p q (ag .i64 (r.add 1)) u else none) w d e f a 0 0 b else some d
def Xu(w:Nat):Value->Value->Value->Value->Value->Int->Value->Int->Int->Int->Value->Int->Option (Value):=λa b c d e f g h i j k l=>lp (α:=Value->Value->Int->Value->Int->Int->Value->Value->Value->Value->Int->Int->Int->List Value->Option Value) (λ_ _ _ _ _ _ _ _ _ _ _ _ _ _=>none) (λa2 a3 a4 a5 a6 a7 a8 a9 b0 b1 b2 b3 b4 b5 b6=>ak a9 λb7=>bif ai a8 (Int.ofNat b7) then ax a8 λb8=>aC 4 b8 a9 λb9=>af b9 λc0 c1=>aq .i64 c0 λc2=>af c1 λc3 c4=>aq .i64 c3 λc5=>af c4 λc6 c7=>aq .i64 c6 λc8=>af c7 λc9 d0=>ob (XB w c2 c5 c8 c9 a7) λd1=>bif !d1.2.2.2.2 then ob (tz w a4 3 a5 c2) λd2=>ob (XC w c5 c8 c9 a7) λd3=>bif ah d2 d2 then ob (vk w a3 d2 d3) λd4=>bif aw b6.length&&(aw 1&&(List.take 4 (List.drop 0 [Value.int .i64 c2,Value.int .i64 c5,Value.int .i64 c8,Value.int .i64 d2])).length.beq 4) then a2 d4 a4 a5 a6 a7 (ag .i64 (a8.add 1)) a9 b0 b1 b2 b3 b4 b5 (b6++List.take 4 (List.drop 0 [Value.int .i64 c2,Value.int .i64 c5,Value.int .i64 c8,Value.int .i64 d2])) else none else none else bif aw b6.length&&(aw 1&&(List.take 4 (V4 d1)).length.beq 4) then a2 a3 a4 a5 a6 a7 (ag .i64 (a8.add 1)) a9 b0 b1 b2 b3 b4 b5 (b6++List.take 4 (V4 d1)) else none else lp (α:=Value->Value->Int->Value->Int->Int->Value->Value->Value->Value->Int->Int->Int->List Value->Option Value) (λ_ _ _ _ _ _ _ _ _ _ _ _ _ _=>none) (λe9 f0 f1 f2 f3 f4 f5 f6 f7 f8 f9 g0 g1 g2 g3=>ak f7 λg4=>bif ai f5 (Int.ofNat g4) then ax f5 λg5=>aC 4 g5 f7 λg6=>af (List.drop 0 g6) λg7 g8=>aq .i64 g7 λg9=>ax f5 λh0=>aC 1 h0 f3 λh1=>af h1 λh2 h3=>aq .i64 h2 λh4=>ob (tz w f1 2 h4 0) λh5=>bif aw g3.length&&(aw 1&&(List.take 4 (Wc g9 h5)).length.beq 4) then e9 f0 f1 f2 f3 f4 (ag .i64 (f5.add 1)) f6 f7 f8 f9 g0 g1 g2 (g3++List.take 4 (Wc g9 h5)) else none else ak f8 λh6=>bif ai 0 (Int.ofNat h6) then ob (tz w f1 4 f2 0) λh7=>ob (vk w f0 h7 f8) λh8=>ak f8 λh9=>bif aw g3.length&&(aw 2&&(List.take 8 (Mx g0 h7 g1 h9)).length.beq 8) then ob (tz w f1 2 f2 0) λi0=>ob (xM w h8 i0 (Int.ofNat ((g3++List.take 8 (Mx g0 h7 g1 h9)).length/4)) 2 f4) λi1=>lp (α:=Value->Int->Int->Int->List Value->Option Value) (λ_ _ _ _ _=>none) (λi7 i8 i9 j0 j1 j2=>VO w j1 j2 i7 i8 i9 j0) w i1 f4 i0 0 (g3++List.take 8 (Mx g0 h7 g1 h9)) else none else ob (tz w f1 2 f2 0) λj3=>ob (xM w f0 j3 (Int.ofNat (g3.length/4)) 2 f4) λj4=>lp (α:=Value->Int->Int->Int->List Value->Option Value) (λ_ _ _ _ _=>none) (λk0 k1 k2 k3 k4 k5=>VO w k4 k5 k0 k1 k2 k3) w j4 f4 j3 0 g3) w a3 a4 a5 a6 a7 0 a9 b0 b1 b2 b3 b4 b5 b6) w a b f k l 0 c d e g h i j []
def aku(w:Nat)(rec:Value->Value->Value->Value->Value->Int->Value->Int->Int->Option (Value×Int)):Value->Value->Value->Value->Value->Int->Value->Int->Int->Option (Value×Int):=λa b c d e f g h i=>lp (α:=Value->Value->Int->Value->Int->Int->Int->Int->Value->Value->Value->List Value->Option (Value×Int)) (λ_ _ _ _ _ _ _ _ _ _ _ _=>none) (λv y z a0 a1 a2 a3 a4 a5 a6 a7 a8 a9=>ak a7 λb0=>bif ai a5 (Int.ofNat b0) then bif aw a9.length&&(aw ([Value.int .i64 a4].length/1)&&[Value.int .i64 a4].length.beq ([Value.int .i64 a4].length/1*1)) then ax a5 λb1=>aC 4 b1 a7 λb2=>af (List.drop 1 b2) λb3 b4=>af b4 λb5 b6=>af b6 λb7 b8=>ax a2 λb9=>aC 4 b9 a1 λc0=>af (List.drop 0 c0) λc1 c2=>ax a2 λc3=>aC 4 c3 a1 λc4=>af c4 λc5 c6=>af c6 λc7 c8=>aq .i64 c7 λc9=>af c8 λd0 d1=>aq .i64 d0 λd2=>af d1 λd3 d4=>aq .i64 d3 λd5=>ax a5 λd6=>aC 4 d6 a7 λd7=>af (List.drop 0 d7) λd8 d9=>aq .i64 d8 λe0=>ob (FP w c5 c9 d2 d5 e0) λe1=>ax e1 λe2=>aC 2 e2 c1 λe3=>af (List.drop 1 e3) λe4 e5=>aq .i64 e4 λe6=>ob (rec y z b3 b5 b7 a4 a1 e6 a3) λe7=>v e7.1 z a0 a1 a2 a3 e7.2 (ag .i64 (a5.add 1)) a6 a7 a8 (a9++[Value.int .i64 a4]) else none else ax a2 λe8=>aC 4 e8 a1 λe9=>af e9 λf0 f1=>af f1 λf2 f3=>aq .i64 f2 λf4=>af f3 λf5 f6=>aq .i64 f5 λf7=>af f6 λf8 f9=>aq .i64 f8 λg0=>ob (Xu w y z a6 a7 a8 a0 f0 f4 f7 g0 (ae (a9.length/1) a9) a3) λg1=>some (g1,a4)) w a b f g h i (ag .i64 (f.add 1)) 0 c d e []
def Xj(w:Nat):Value->Value->Value->Value->Value->Int->Value->Int->Int->Option (Value×Int):=lQ (iN (VT.fa [.v,.v,.agg [.v,.v,.v],.i .i64,.v,.i .i64,.i .i64])) (aku w) w
def Wh(w:Nat)(a:Value)(b:Int)(c:Value)(d:Value×Bool)(e:Value):Option (Value×Int):=ob (xM w a 2 42 2 b) λf=>ob (xM w f 4 8 4 b) λg=>lp (α:=Value->Value->Value->Int->Int->Int->Int->Value->Option (Value×Int)) (λ_ _ _ _ _ _ _ _=>none) (λp q r s t u v y z=>ak z λa0=>bif ai v (Int.ofNat a0) then ax v λa1=>aC 3 a1 z λa2=>af a2 λa3 a4=>af a4 λa5 a6=>af a6 λa7 a8=>ob (Xj w s r a3 a5 a7 t q u y) λa9=>ak z λb0=>bif ai (ag .i64 (v.add 1)) (Int.ofNat b0) then ob (tz w r 2 t 0) λb1=>ax v λb2=>aC 3 b2 z λb3=>af b3 λb4 b5=>af b5 λb6 b7=>af b7 λb8 b9=>ob (xN w b4 b6 b8) λc0=>ob (tz w r 2 a9.2 0) λc1=>ob (xM w a9.1 (ag .i64 ((ag .i64 (b1.add 2)).add (ag .i64 (Int.mul 12 c0)))) c1 4 y) λc2=>ax u λc3=>aC 4 c3 q λc4=>af (List.drop 3 c4) λc5 c6=>aq .i64 c5 λc7=>p q r c2 a9.2 c7 (ag .i64 (v.add 1)) y z else ax u λc8=>aC 4 c8 q λc9=>af (List.drop 3 c9) λd0 d1=>aq .i64 d0 λd2=>p q r a9.1 a9.2 d2 (ag .i64 (v.add 1)) y z else some (s,0)) w c d.1 g 0 0 0 b e
def M9(w:Nat):Int->Value->Value->Option (Value×Int):=λa b c=>ob (Xi w a b c) λd=>bif !ah d 0 then some (ae 0 [],d) else ob (Nc w a b) λe=>ob (FK w a b) λf=>ax f λg=>ax f λh=>bif Nat.blt 0 1&&Nat.beq 1 1&&Nat.ble 1 10000&&(g.ble h&&h.ble 1000000000) then bif ah a 2 then ob (vk w (ae g (List.drop 0 (rep h (Value.int .u8 0).cells.toList))) 0 (ae 2 (List.drop 0 [Value.int .u8 77,Value.int .u8 77]))) λi=>Wh w i a c e b else ob (vk w (ae g (List.drop 0 (rep h (Value.int .u8 0).cells.toList))) 0 (ae 2 (List.drop 0 [Value.int .u8 73,Value.int .u8 73]))) λj=>Wh w j a c e b else none
def V6:=(List.drop 0 [Value.int .u8 77,Value.int .u8 80,Value.int .u8 70,Value.int .u8 0])
def M4(w:Nat):Int->Value->Value->Option (Value×Int):=λa b c=>ob (M9 w a b c) λd=>bif !ah d.2 0 then some (ae 0 [],d.2) else ak d.1 λe=>bif ai 65533 (ag .i64 ((Int.ofNat e).add 4)) then some (ae 0 [],7) else cn 1 d.1 λf g=>bif g.length.beq (f*1)&&(Nat.ble 4 4&&Nat.beq 5 5) then bif(4+f).ble 4 then bif(4+g.length).ble 4 then some (ae (4+f) (List.drop 0 (aQ 4 g [Value.int .u8 77,Value.int .u8 80,Value.int .u8 70,Value.int .u8 0])),0) else none else bif aw f&&(aw 4&&(Builtin.nextslicecap (4+f) 4).ble 5000000000) then some (ae ((List.take 4 (V6)++g).length/1) (List.take 4 (V6)++g),0) else none else none
def WZ(w:Nat):Option (Value):=some (ae 12 (List.drop 0 [Value.int .u8 73,Value.int .u8 67,Value.int .u8 67,Value.int .u8 95,Value.int .u8 80,Value.int .u8 82,Value.int .u8 79,Value.int .u8 70,Value.int .u8 73,Value.int .u8 76,Value.int .u8 69,Value.int .u8 0]))
def WO(w:Nat):Value->Option (Value×Int):=λa=>ak a λb=>ob (Na w (Int.ofNat b)) λc=>bif ai 255 c then some (ae 0 [],7) else lp (α:=Value->Int->Int->List Value->Option (Value×Int)) (λ_ _ _ _=>none) (λh i j k l=>bif ai k j then ak i λm=>ob (WZ w) λn=>none else some (ae (l.length/1) l,0)) w a c 0 []
def WQ(w:Nat):Value->Option (Bool):=λa=>ak a λb=>bif !ai (Int.ofNat b) 4 then aC 1 0 a λc=>af c λd e=>aq .u8 d λf=>bif ah f 77 then aC 1 1 a λg=>af g λh i=>aq .u8 h λj=>bif ah j 80 then aC 1 2 a λk=>af k λl m=>aq .u8 l λn=>bif ah n 70 then aC 1 3 a λo=>af o λp q=>aq .u8 p λr=>some (ah r 0) else some false else some false else some false else some false
def xF(w:Nat):Option (Int×Value×Value×Value×Value×Value×Value×Value×Value×Value×Int×Int×Int×Value):=ob (NW w 3 (ae 1 [Value.int .i64 1])) λa=>some (2,ae 1 (List.drop 0 [Value.int .i64 274,Value.int .i64 a.1,Value.int .i64 a.2.1,a.2.2.1]),ae 0 [],ae 0 [],ae 0 [],ae 0 [],ae 0 [],ae 0 [],ae 0 [],ae 15 (List.drop 0 [Value.int .u8 255,Value.int .u8 216,Value.int .u8 255,Value.int .u8 218,Value.int .u8 0,Value.int .u8 8,Value.int .u8 1,Value.int .u8 1,Value.int .u8 0,Value.int .u8 0,Value.int .u8 63,Value.int .u8 0,Value.int .u8 7,Value.int .u8 255,Value.int .u8 217]),0,0,0,ae 0 [])
def WR(w:Nat):Int->Int->Value->Int->Int->Value->Option (Bool):=λa b c d e f=>bif ah a d then bif ah b e then ob (rK w c f) λg=>some g else some false else some false
def vi(w:Nat):Value->Value->Option (Bool):=λa b=>ak a λc=>ak b λd=>bif !ah (Int.ofNat c) (Int.ofNat d) then some false else lp (α:=Value->Value->Int->Option Bool) (λ_ _ _=>none) (λh i j k=>ak i λl=>bif ai k (Int.ofNat l) then ax k λm=>aC 4 m i λn=>af (List.drop 0 n) λo p=>aq .i64 o λq=>ax k λr=>aC 4 r j λs=>af (List.drop 0 s) λt u=>aq .i64 t λv=>bif !ah q v then some false else ax k λy=>aC 4 y i λz=>af (List.drop 1 z) λa0 a1=>aq .i64 a0 λa2=>af a1 λa3 a4=>aq .i64 a3 λa5=>af a4 λa6 a7=>ax k λa8=>aC 4 a8 j λa9=>af (List.drop 1 a9) λb0 b1=>aq .i64 b0 λb2=>af b1 λb3 b4=>aq .i64 b3 λb5=>af b4 λb6 b7=>ob (WR w a2 a5 a6 b2 b5 b6) λb8=>bif !b8 then some false else h i j (ag .i64 (k.add 1)) else some true) w a b 0
def WJ(w:Nat):Int->Value->Value->Value->Value->Value->Value->Value->Int->Value->Value->Value->Value->Value->Value->Value->Option (Bool):=λa b c d e f g h i j k l m n o p=>bif ah a i then ob (vi w b j) λq=>bif q then ob (vi w c k) λr=>bif r then ob (vi w d l) λs=>bif s then ob (vi w e m) λt=>bif t then ob (vi w f n) λu=>bif u then ob (rK w g o) λv=>bif v then ob (rK w h p) λy=>some y else some false else some false else some false else some false else some false else some false else some false
def WC(w:Nat):Int->Value->Value->Value->Value->Value->Value->Value->Value->Value->Int->Int->Int->Value->Int->Value->Value->Value->Value->Value->Value->Value->Value->Value->Int->Int->Int->Value->Option (Bool):=λa b c d e f g h i j k l m n o p q r s t u v y z a0 a1 a2 a3=>ob (WJ w a b c d e f g h o p q r s t u v) λa4=>bif a4 then ob (rK w i y) λa5=>bif a5 then ob (rK w j z) λa6=>bif a6 then bif ah k a0 then bif ah l a1 then bif ah m a2 then ob (vi w n a3) λa7=>some a7 else some false else some false else some false else some false else some false else some false
def Wz(w:Nat):Value->Value->Option (Bool):=λa b=>ak a λc=>ak b λd=>bif !ah (Int.ofNat c) (Int.ofNat d) then some false else lp (α:=Int->Value->Value->Option Bool) (λ_ _ _=>none) (λh i j k=>ak j λl=>bif ai i (Int.ofNat l) then ax i λm=>aC 14 m j λn=>af n λo p=>aq .i64 o λq=>af p λr s=>af s λt u=>af u λv y=>af y λz a0=>af a0 λa1 a2=>af a2 λa3 a4=>af a4 λa5 a6=>af a6 λa7 a8=>af a8 λa9 b0=>af b0 λb1 b2=>aq .i64 b1 λb3=>af b2 λb4 b5=>aq .i64 b4 λb6=>af b5 λb7 b8=>aq .i64 b7 λb9=>af b8 λc0 c1=>ax i λc2=>aC 14 c2 k λc3=>af c3 λc4 c5=>aq .i64 c4 λc6=>af c5 λc7 c8=>af c8 λc9 d0=>af d0 λd1 d2=>af d2 λd3 d4=>af d4 λd5 d6=>af d6 λd7 d8=>af d8 λd9 e0=>af e0 λe1 e2=>af e2 λe3 e4=>af e4 λe5 e6=>aq .i64 e5 λe7=>af e6 λe8 e9=>aq .i64 e8 λf0=>af e9 λf1 f2=>aq .i64 f1 λf3=>af f2 λf4 f5=>ob (WC w q r t v z a1 a3 a5 a7 a9 b3 b6 b9 c0 c6 c7 c9 d1 d3 d5 d7 d9 e1 e3 e7 f0 f3 f4) λf6=>bif !f6 then some false else h (ag .i64 (i.add 1)) j k else some true) w 0 a b
def AZ(w:Nat):Value->Int->Int->Option (Bool):=λa b c=>ob (lA w a) λd=>bif ah b d.2.2 then bif ah d.2.1 c then ak d.1 λe=>some (ah (Int.ofNat e) 0) else some false else some false
def EW(a:Value):Option (Value×Int×Int×Int):=ak a λb=>some (ae 0 [],0,Int.ofNat b,3)
def AS(a:Int):=(List.drop 0 [Value.int .i64 (ag .i64 a),ae 0 [],ae 0 []])
def ve(a:Int)(b:Int)(c:Int):=(ag .i64 ((ag .i64 (a.add 2)).add (ag .i64 ((ag .i64 (Int.mul 256 (ag .i64 b))).add (ag .i64 c)))))
def Mv(w:Nat)(a:Int)(b:List Value)(c:Int)(d:Value)(e:Value->Int->List Value->Option (Value×Int×Int×Int)):Option (Value×Int×Int×Int):=bif ah (ag .i64 a) 217 then bif aw b.length&&(aw 1&&(List.take 3 (AS a)).length.beq 3) then some (ae ((b++List.take 3 (AS a)).length/3) (b++List.take 3 (AS a)),ag .i64 (c.add 2),0,0) else none else bif !ah (ag .i64 a) 216 then ak d λf=>bif ai (Int.ofNat f) (ag .i64 ((ag .i64 (c.add 2)).add 2)) then EW d else ax (ag .i64 (c.add 2)) λg=>aC 1 g d λh=>af h λi j=>aq .u8 i λk=>ax (ag .i64 ((ag .i64 (c.add 2)).add 1)) λl=>aC 1 l d λm=>af m λn o=>aq .u8 n λp=>bif ai (ag .i64 ((ag .i64 (Int.mul 256 (ag .i64 k))).add (ag .i64 p))) 2 then some (ae 0 [],0,ag .i64 (c.add 2),2) else ak d λq=>bif ai (Int.ofNat q) (ve c k p) then EW d else ak d λr=>ax (ve c k p) λs=>ax (ag .i64 ((ag .i64 (c.add 2)).add 2)) λt=>bif s.ble r&&t.ble s then eJ 1 t s d λu=>cn 1 u λv y=>bif aw v&&y.length.beq (v*1) then bif ah (ag .i64 a) 218 then ak d λz=>ax (ve c k p) λa0=>bif z.ble z&&a0.ble z then eJ 1 a0 z d λa1=>ob (Nb w a1) λa2=>ak d λa3=>ax (ag .i64 ((ve c k p).add a2)) λa4=>ax (ve c k p) λa5=>bif a4.ble a3&&a5.ble a4 then eJ 1 a5 a4 d λa6=>cn 1 a6 λa7 a8=>bif aw a7&&a8.length.beq (a7*1) then bif aw b.length&&(aw 1&&(List.take 3 (List.drop 0 [Value.int .i64 (ag .i64 a),ae (y.length/1) y,ae (a8.length/1) a8])).length.beq 3) then e d (ag .i64 ((ve c k p).add a2)) (b++List.take 3 (List.drop 0 [Value.int .i64 (ag .i64 a),ae (y.length/1) y,ae (a8.length/1) a8])) else none else none else none else none else bif aw b.length&&(aw 1&&(List.take 3 (List.drop 0 [Value.int .i64 (ag .i64 a),ae (y.length/1) y,ae 0 []])).length.beq 3) then e d (ve c k p) (b++List.take 3 (List.drop 0 [Value.int .i64 (ag .i64 a),ae (y.length/1) y,ae 0 []])) else none else none else none else bif ah (ag .i64 a) 218 then ak d λa9=>ax (ag .i64 (c.add 2)) λb0=>bif a9.ble a9&&b0.ble a9 then eJ 1 b0 a9 d λb1=>ob (Nb w b1) λb2=>ak d λb3=>ax (ag .i64 ((ag .i64 (c.add 2)).add b2)) λb4=>ax (ag .i64 (c.add 2)) λb5=>bif b4.ble b3&&b5.ble b4 then eJ 1 b5 b4 d λb6=>cn 1 b6 λb7 b8=>bif aw b7&&b8.length.beq (b7*1) then bif aw b.length&&(aw 1&&(List.take 3 (List.drop 0 [Value.int .i64 (ag .i64 a),ae 0 [],ae (b8.length/1) b8])).length.beq 3) then e d (ag .i64 ((ag .i64 (c.add 2)).add b2)) (b++List.take 3 (List.drop 0 [Value.int .i64 (ag .i64 a),ae 0 [],ae (b8.length/1) b8])) else none else none else none else none else bif aw b.length&&(aw 1&&(List.take 3 (AS a)).length.beq 3) then e d (ag .i64 (c.add 2)) (b++List.take 3 (AS a)) else none
def M6(w:Nat):Value->Option (Value×Int×Int×Int):=λa=>lp (α:=Value->Int->List Value->Option (Value×Int×Int×Int)) (λ_ _ _=>none) (λe f g h=>ak f λi=>bif !ai g (Int.ofNat i) then EW f else ax g λj=>aC 1 j f λk=>af k λl m=>aq .u8 l λn=>bif !ah n 255 then some (ae 0 [],0,g,2) else ak f λo=>bif !ai (ag .i64 (g.add 1)) (Int.ofNat o) then EW f else ax (ag .i64 (g.add 1)) λp=>aC 1 p f λq=>af q λr s=>aq .u8 r λt=>bif !ah g 0==ah (ag .i64 t) 216 then some (ae 0 [],0,g,2) else bif !ah (ag .i64 t) 216 then bif !ah (ag .i64 t) 217 then ob (Xa w (ag .i64 t)) λu=>bif !u then some (ae 0 [],0,g,2) else Mv w t h g f e else Mv w t h g f e else Mv w t h g f e) w a 0 []
def W8(w:Nat):Value->Option (Value×Int):=λa=>ob (M6 w a) λb=>bif !ah b.2.2.2 0 then some (ae 0 [],b.2.2.2) else lp (α:=Value->Value->Int->Int->Int->Option (Value×Int)) (λ_ _ _ _ _=>none) (λh i j k l m=>ak j λn=>bif ai m (Int.ofNat n) then ax m λo=>aC 3 o j λp=>af (List.drop 0 p) λq r=>aq .i64 q λs=>bif ah s 218 then h i j k (ag .i64 (l.add 1)) (ag .i64 (m.add 1)) else h i j k l (ag .i64 (m.add 1)) else ak i λt=>bif ai k (Int.ofNat t) then some (ae 0 [],2) else bif ah l 0 then some (ae 0 [],2) else some (j,0)) w a b.1 b.2.1 0 0
def M5(w:Nat):Value->Option (Bool):=λa=>ob (W8 w a) λb=>bif ah b.2 0 then ob (W9 w b.1 true) λc=>ak c λd=>some (ah (Int.ofNat d) 0) else some false
def Xf(w:Nat):Int->Value->Option (Value×Int):=λa b=>bif ai a 1 then some (ae 0 [],1) else bif ai 2 a then some (ae 0 [],1) else ak b λc=>bif ah (Int.ofNat c) 0 then some (ae 0 [],1) else ob (rP w 5 b) λd=>bif !d then some (ae 0 [],6) else ob (M4 w a (ae 1 (List.drop 0 [b,ae 0 [],ae 0 []])) (ae 1 (List.drop 0 [ae 0 [],Value.int .i64 0,Value.int .i64 0,Value.int .i64 (-1)]))) λe=>some (e.1,e.2)
def FG(E:Value->Value->Option (Value)->Option (Value))(w:Nat):Value->Option (Value):=λa=>lp (α:=Value->Int->List Value->Option Value) (λ_ _ _=>none) (λe f g h=>ak f λi=>bif ai g (Int.ofNat i) then ax g λj=>aC 3 j f λk=>af k λl m=>aq .i64 l λn=>af m λo p=>af p λq r=>bif aw h.length&&(aw 2&&(List.take 2 (List.drop 0 [Value.int .u8 255,Value.int .u8 (ag .u8 n)])).length.beq 2) then bif ah g 0 then e f (ag .i64 (g.add 1)) (h++List.take 2 (List.drop 0 [Value.int .u8 255,Value.int .u8 (ag .u8 n)])) else ak f λs=>bif ah g (ag .i64 ((Int.ofNat s).sub 1)) then e f (ag .i64 (g.add 1)) (h++List.take 2 (List.drop 0 [Value.int .u8 255,Value.int .u8 (ag .u8 n)])) else ak o λt=>bif aw (h++List.take 2 (List.drop 0 [Value.int .u8 255,Value.int .u8 (ag .u8 n)])).length&&(aw 2&&(List.take 2 (List.drop 0 [Value.int .u8 (ag .u8 (ag .i64 ((ag .i64 ((Int.ofNat t).add 2)).tdiv 256))),Value.int .u8 (ag .u8 ((ag .i64 ((Int.ofNat t).add 2)).tmod 256))])).length.beq 2) then cn 1 o λu v=>bif aw (h++List.take 2 (List.drop 0 [Value.int .u8 255,Value.int .u8 (ag .u8 n)])++List.take 2 (List.drop 0 [Value.int .u8 (ag .u8 (ag .i64 ((ag .i64 ((Int.ofNat t).add 2)).tdiv 256))),Value.int .u8 (ag .u8 ((ag .i64 ((Int.ofNat t).add 2)).tmod 256))])).length&&(aw u&&v.length.beq (u*1)) then E q q (cn 1 q λy z=>bif aw (h++List.take 2 (List.drop 0 [Value.int .u8 255,Value.int .u8 (ag .u8 n)])++List.take 2 (List.drop 0 [Value.int .u8 (ag .u8 (ag .i64 ((ag .i64 ((Int.ofNat t).add 2)).tdiv 256))),Value.int .u8 (ag .u8 ((ag .i64 ((Int.ofNat t).add 2)).tmod 256))])++v).length&&(aw y&&z.length.beq (y*1)) then e f (ag .i64 (g.add 1)) (h++List.take 2 (List.drop 0 [Value.int .u8 255,Value.int .u8 (ag .u8 n)])++List.take 2 (List.drop 0 [Value.int .u8 (ag .u8 (ag .i64 ((ag .i64 ((Int.ofNat t).add 2)).tdiv 256))),Value.int .u8 (ag .u8 ((ag .i64 ((Int.ofNat t).add 2)).tmod 256))])++v++z) else none) else none else none else none else some (ae (h.length/1) h)) w a 0 []
def FF(w:Nat):Value->Option (Value):=FG (λ_ _ r=>r) w
def Fq(E:Value->Value->Option (Value×Int)->Option (Value×Int))(w:Nat):Int->Value->Value->Option (Value×Int):=λa b c=>bif ai a 1 then some (ae 0 [],1) else bif ai 2 a then some (ae 0 [],1) else ak b λd=>bif ai (Int.ofNat d) 2 then some (ae 0 [],1) else lp (α:=Int->Int->Value->Value->List Value->Option (Value×Int)) (λ_ _ _ _ _=>none) (λj k l m n o=>ak m λp=>bif ai k (Int.ofNat p) then ax k λq=>aC 5 q m λr=>af r λs t=>aq .i64 s λu=>af t λv y=>aq .i64 v λz=>af y λa0 a1=>aq .i64 a0 λa2=>af a1 λa3 a4=>aq .i64 a3 λa5=>af a4 λa6 a7=>aq .i64 a6 λa8=>ob (WN w u z a2 a5 a8 l) λa9=>bif !a9.2 then some (ae 0 [],1) else cn 1 a9.1 λb0 b1=>bif aw o.length&&(aw b0&&b1.length.beq (b0*1)) then j (ag .i64 (k.add 1)) l m n (o++b1) else none else ob (rP w 5 n) λb2=>bif !b2 then some (ae 0 [],6) else ak m λb3=>bif ai 4096 (Int.ofNat b3) then some (ae 0 [],7) else ak m λb4=>ob (NW w 4 (ae ([Value.int .i64 (Int.ofNat b4)].length/1) [Value.int .i64 (Int.ofNat b4)])) λb5=>ob (MZ w 45056 (ae 4 (List.drop 0 [Value.int .u8 48,Value.int .u8 49,Value.int .u8 48,Value.int .u8 48]))) λb6=>bif ah b5.1 b5.1 then bif ah b5.2.1 b5.2.1 then E b5.2.2.1 b5.2.2.1 (bif ah l l then ob (MZ w 45058 (ae (o.length/1) o)) λb7=>bif ah b5.1 b5.1 then bif ah b5.2.1 b5.2.1 then E b5.2.2.1 b5.2.2.1 (bif ah l l then ak n λb8=>bif ai 0 (Int.ofNat b8) then none else ob (M4 w l (ae 1 [ae 3 (List.drop 0 [Value.int .i64 b6.1,Value.int .i64 b6.2.1,Value.int .i64 b6.2.2.1,b6.2.2.2,Value.int .i64 45057,Value.int .i64 b5.1,Value.int .i64 b5.2.1,b5.2.2.1,Value.int .i64 b7.1,Value.int .i64 b7.2.1,Value.int .i64 b7.2.2.1,b7.2.2.2]),ae 0 [],ae 0 []]) (ae 2 (List.drop 0 [ae 0 [],Value.int .i64 0,Value.int .i64 0,Value.int .i64 1,ae 0 [],Value.int .i64 0,Value.int .i64 0,Value.int .i64 (-1)]))) λb9=>some (b9.1,b9.2) else none) else none else none else none) else none else none) w 0 a b c []
def A6(w:Nat):Int->Value->Value->Option (Value×Int):=Fq (λ_ _ r=>r) w
def Wb(a:Int)(b:Int)(c:Int):=(List.drop 0 [Value.int .i64 a,Value.int .i64 0,Value.int .i64 0,Value.int .i64 b,Value.int .i64 c])
def VP(w:Nat)(a:Int)(b:Int)(c:Value)(d:Value):Option (Value×Int):=bif ai 0 a then ob (Xf w b c) λe=>some (e.1,e.2) else lp (α:=Int->Value->Int->Value->List Value->Option (Value×Int)) (λ_ _ _ _ _=>none) (λk l m n o p=>ak m λq=>bif ai l (Int.ofNat q) then ax l λr=>aC 14 r m λs=>af (List.drop 10 s) λt u=>aq .i64 t λv=>ax l λy=>aC 14 y m λz=>af (List.drop 11 z) λa0 a1=>aq .i64 a0 λa2=>ax l λa3=>aC 14 a3 m λa4=>af (List.drop 12 a4) λa5 a6=>aq .i64 a5 λa7=>bif aw p.length&&(aw 1&&(List.take 5 (Wb v a2 a7)).length.beq 5) then k (ag .i64 (l.add 1)) m n o (p++List.take 5 (Wb v a2 a7)) else none else ob (A6 w n (ae (p.length/5) p) o) λa8=>some (a8.1,a8.2)) w 0 d b c []
def M8(w:Nat):Value->Int->Option (Value×Int):=λa b=>ax b λc=>aC 14 c a λd=>af d λe f=>aq .i64 e λg=>af f λh i=>af i λj k=>af k λl m=>af m λn o=>af o λp q=>af q λr s=>af s λt u=>af u λv y=>af y λz a0=>af a0 λa1 a2=>aq .i64 a1 λa3=>af a2 λa4 a5=>aq .i64 a4 λa6=>af a5 λa7 a8=>aq .i64 a7 λa9=>af a8 λb0 b1=>ak a λb2=>bif ah (Int.ofNat b2) 1 then some (ae 0 [],0) else bif ai 0 b then ak b0 λb3=>bif ah (Int.ofNat b3) 0 then some (ae 0 [],0) else VP w b g b0 a else VP w b g b0 a
def WM(w:Nat):Int->Int->Value->Option (Int×Int×Value):=λa b c=>ob (MH w c) λd=>some (a,b,d)
def Wd(a:Int)(b:Int×Int×Value):=(List.drop 0 [Value.int .i64 a,Value.int .i64 b.1,Value.int .i64 b.2.1,b.2.2])
def MQ(w:Nat):Value->Option (Value):=λa=>lp (α:=Value->Int->List Value->Option Value) (λ_ _ _=>none) (λe f g h=>ak f λi=>bif ai g (Int.ofNat i) then ax g λj=>aC 4 j f λk=>af (List.drop 0 k) λl m=>aq .i64 l λn=>ax g λo=>aC 4 o f λp=>af (List.drop 1 p) λq r=>aq .i64 q λs=>af r λt u=>aq .i64 t λv=>af u λy z=>ob (WM w s v y) λa0=>bif aw h.length&&(aw 1&&(List.take 4 (Wd n a0)).length.beq 4) then e f (ag .i64 (g.add 1)) (h++List.take 4 (Wd n a0)) else none else some (ae (h.length/4) h)) w a 0 []
def ET(a:Int)(b:Int)(c:Int)(d:Value):=(List.drop 0 [Value.int .i64 a,Value.int .i64 b,Value.int .i64 c,d])
def VY(a:Int)(b:Value)(c:List Value)(d:Value->Int->Int->Int->Int->Value->List Value->Option Value)(e:Int)(f:Int)(g:Int)(h:Value):Option (Value):=ax a λi=>aC 4 i b λj=>af j λk l=>aq .i64 k λm=>af l λn o=>aq .i64 n λp=>af o λq r=>aq .i64 q λs=>af r λt u=>bif aw c.length&&(aw 1&&(List.take 4 (ET m p s t)).length.beq 4) then d b (ag .i64 (a.add 1)) e f g h (c++List.take 4 (ET m p s t)) else none
def Wi(w:Nat)(a:List Value)(b:Int)(c:Int)(d:Int)(e:Value)(f:Value):Option (Value):=bif aw a.length&&(aw 1&&(List.take 4 (ET b c d e)).length.beq 4) then lp (α:=Value->Int->Int->Int->Int->Value->List Value->Option Value) (λ_ _ _ _ _ _ _=>none) (λn o p q r s t u=>ak o λv=>bif ai p (Int.ofNat v) then ax p λy=>aC 4 y o λz=>af (List.drop 0 z) λa0 a1=>aq .i64 a0 λa2=>bif ai q a2 then VY p o u n q r s t else n o (ag .i64 (p.add 1)) q r s t u else ob (MQ w (ae (u.length/4) u)) λa3=>some a3) w f 0 b c d e (a++List.take 4 (ET b c d e)) else none
def Xw(w:Nat):Value->Int->Int->Int->Value->Option (Value):=λa b c d e=>lp (α:=Value->Int->Int->Int->Int->Value->List Value->Option Value) (λ_ _ _ _ _ _ _=>none) (λm n o p q r s t=>ak n λu=>bif ai o (Int.ofNat u) then ax o λv=>aC 4 v n λy=>af (List.drop 0 y) λz a0=>aq .i64 z λa1=>bif ai a1 p then VY o n t m p q r s else Wi w t p q r s n else Wi w t p q r s n) w a 0 b c d e []
def aky(w:Nat)(rec:Value->Value->Value->Option (Value×Value×Value)):Value->Value->Value->Option (Value×Value×Value):=λa b c=>ob (MQ w a) λd=>ob (MH w c) λe=>lp (α:=Int->Value->Value->Value->Value->Value->List Value->List Value->List Value->List Value->Option (Value×Value×Value)) (λ_ _ _ _ _ _ _ _ _ _=>none) (λp q r s t u v y z a0 a1=>ak s λa2=>bif ai q (Int.ofNat a2) then ax q λa3=>aC 4 a3 s λa4=>af (List.drop 0 a4) λa5 a6=>aq .i64 a5 λa7=>ax q λa8=>aC 4 a8 s λa9=>af (List.drop 1 a9) λb0 b1=>af b1 λb2 b3=>af b3 λb4 b5=>ob (rec b0 b2 b4) λb6=>bif aw a1.length&&(aw 1&&(List.take 4 (List.drop 0 [Value.int .i64 a7,b6.1,b6.2.1,b6.2.2])).length.beq 4) then p (ag .i64 (q.add 1)) r s t u v y z a0 (a1++List.take 4 (List.drop 0 [Value.int .i64 a7,b6.1,b6.2.1,b6.2.2])) else none else some (u,ae (a1.length/4) a1,v)) w 0 a b c d e [] [] [] []
def XF(w:Nat):Value->Value->Value->Option (Value×Value×Value):=lQ (iN (VT.fa [.agg [.v,.v,.v]])) (aky w) w
def xO(w:Nat):Int->Value->Option (Int×Value):=λa b=>lp (α:=Int->Int->Value->Int->Int->List Value->List Value->Option (Int×Value)) (λ_ _ _ _ _ _ _=>none) (λj k l m n o p q=>ak m λr=>bif ai k (Int.ofNat r) then ax k λs=>aC 3 s m λt=>af t λu v=>af v λy z=>af z λa0 a1=>ob (XF w u y a0) λa2=>bif aw q.length&&(aw 1&&(List.take 3 (List.drop 0 [a2.1,a2.2.1,a2.2.2])).length.beq 3) then j (ag .i64 (k.add 1)) l m n o p (q++List.take 3 (List.drop 0 [a2.1,a2.2.1,a2.2.2])) else none else some (o,ae (q.length/3) q)) w 0 a b 0 a [] []
def EV(a:Value):=(List.drop 0 [Value.int .i64 34853,a,ae 0 [],ae 0 []])
def VR(w:Nat)(a:Value)(b:Value)(c:Value)(d:Int)(e:Value):Option (Int×Value×Int):=ak a λf=>bif ai 0 (Int.ofNat f) then ak b λg=>ak c λh=>bif ai 0 (vf g h) then none else ob (xO w d (ae 1 [e,ae ((List.take 4 (EV a)).length/4) (List.take 4 (EV a)),ae 0 []])) λi=>some (i.1,i.2,0) else ak b λj=>ak c λk=>bif ai 0 (vf j k) then ob (xO w d (ae ((List.take 3 (List.drop 0 [e,ae 0 [],ae 0 []])++List.take 3 (List.drop 0 [b,ae 0 [],c])).length/3) (List.take 3 (List.drop 0 [e,ae 0 [],ae 0 []])++List.take 3 (List.drop 0 [b,ae 0 [],c])))) λl=>some (l.1,l.2,0) else ob (xO w d (ae 1 (List.drop 0 [e,ae 0 [],ae 0 []]))) λm=>some (m.1,m.2,0)
def EU(a:Value):=(List.drop 0 [Value.int .i64 34665,a,ae 0 [],ae 0 []])
def V2(w:Nat)(a:Value)(b:Value)(c:Value)(d:Value)(e:Value)(f:Int)(g:Value):Option (Int×Value×Int):=ak a λh=>bif ai 0 (Int.ofNat h) then ak b λi=>bif ai 0 (ag .i64 ((Int.ofNat i).add (Int.ofNat 1))) then none else VR w c d e f g else ak b λj=>bif ai 0 (ag .i64 ((Int.ofNat j).add (Int.ofNat 0))) then ak c λk=>bif ai 0 (Int.ofNat k) then ak d λl=>ak e λm=>bif ai 0 (vf l m) then none else ob (xO w f (ae 1 [g,ae ((List.take 4 (EU b)++List.take 4 (EV c)).length/4) (List.take 4 (EU b)++List.take 4 (EV c)),ae 0 []])) λn=>some (n.1,n.2,0) else ak d λo=>ak e λp=>bif ai 0 (vf o p) then none else ob (xO w f (ae 1 [g,ae ((List.take 4 (EU b)).length/4) (List.take 4 (EU b)),ae 0 []])) λq=>some (q.1,q.2,0) else VR w c d e f g
def Nf(w:Nat):Int->Value->Value->Value->Value->Value->Value->Value->Option (Int×Value×Int):=λa b c d e f g h=>ob (Xv w a b c d e f g h) λi=>bif !ah i 0 then some (0,ae 0 [],i) else ak g λj=>bif ai 0 (Int.ofNat j) then ak g λk=>ob (Xw w c 37500 7 (Int.ofNat k) g) λl=>V2 w e l d f h a b else V2 w e c d f h a b
def WX(w:Nat):Int->Value->Value->Value->Value->Value->Value->Value->Option (Int×Int):=λa b c d e f g h=>ob (Nf w a b c d e f g h) λi=>bif !ah i.2.2 0 then some (0,i.2.2) else ob (FK w i.1 i.2.1) λj=>some (ag .i64 (Int.sub 65527 j),0)
def WY(w:Nat):Int->Value->Value->Value->Value->Value->Value->Value->Option (Value×Int):=λa b c d e f g h=>ob (Nf w a b c d e f g h) λi=>bif !ah i.2.2 0 then some (ae 0 [],i.2.2) else ob (Xk w) λj=>ob (M9 w i.1 i.2.1 j) λk=>some (k.1,k.2)
def V3:=(List.drop 0 [Value.int .u8 69,Value.int .u8 120,Value.int .u8 105,Value.int .u8 102,Value.int .u8 0,Value.int .u8 0])
def Ba(w:Nat):Int->Value->Value->Value->Value->Value->Value->Value->Option (Value×Int):=λa b c d e f g h=>ob (WX w a b c d e f g h) λi=>bif !ah i.2 0 then some (ae 0 [],i.2) else bif ai i.1 0 then some (ae 0 [],7) else ob (WY w a b c d e f g h) λj=>cn 1 j.1 λk l=>bif l.length.beq (k*1)&&(Nat.ble 6 6&&Nat.beq 5 5) then bif(6+k).ble 6 then bif(6+l.length).ble 6 then some (ae (6+k) (List.drop 0 (aQ 6 l [Value.int .u8 69,Value.int .u8 120,Value.int .u8 105,Value.int .u8 102,Value.int .u8 0,Value.int .u8 0])),0) else none else bif aw k&&(aw 6&&(Builtin.nextslicecap (6+k) 6).ble 5000000000) then some (ae ((List.take 6 (V3)++l).length/1) (List.take 6 (V3)++l),0) else none else none
def Xe(w:Nat):Int->Value->Value->Value->Value->Value->Value->Value->Value->Value->Int->Int->Int->Value->Int->Option (Bool):=λa b c d e f g h i j k l m n o=>bif ah o 2 then ob (Ba w a b c d e f g h) λp=>some !ah p.2 0 else bif ah o 3 then ak i λq=>ob (Na w (Int.ofNat q)) λr=>some (ai 255 r) else bif ah o 4 then ob (M5 w j) λs=>some !s else bif ah o 5 then ob (Xm w a b c d e f g h i j k l m n) λt=>some !t else bif ah o 6 then ob (rP w 5 n) λu=>some !u else some false
def VV(w:Nat)(a:Value)(b:Int)(c:List Value)(d:Value->Value->Int->List Value->Option (Value×Int))(e:Value):Option (Value×Int):=ak a λf=>bif ai b (Int.ofNat f) then ax b λg=>aC 1 g a λh=>af h λi j=>bif aw c.length&&(aw 1&&(List.take 3 (List.drop 0 [Value.int .i64 226,i,ae 0 []])).length.beq 3) then d a e (ag .i64 (b.add 1)) (c++List.take 3 (List.drop 0 [Value.int .i64 226,i,ae 0 []])) else none else ak e λk=>bif k.ble k&&Nat.ble 1 k then eJ 3 1 k e λl=>cn 3 l λm n=>bif aw c.length&&(aw m&&n.length.beq (m*3)) then ob (FF w (ae ((c++n).length/3) (c++n))) λo=>some (o,0) else none else none
def V8(w:Nat)(a:Value)(b:Value)(c:Value×Int)(d:Value×Int):Option (Value×Int):=ak a λe=>bif ai 65533 (Int.ofNat e) then some (ae 0 [],7) else ob (M6 w b) λf=>aC 3 0 f.1 λg=>af g λh i=>aq .i64 h λj=>af i λk l=>af l λm n=>ak a λo=>bif ai 0 (Int.ofNat o) then lp (α:=Value->Value->Int->List Value->Option (Value×Int)) (λ_ _ _ _=>none) (λt u v y z=>VV w u y z t v) w c.1 f.1 0 ([Value.int .i64 j,k,m,Value.int .i64 225,d.1,ae 0 []]++List.take 3 (List.drop 0 [Value.int .i64 226,a,ae 0 []])) else lp (α:=Value->Value->Int->List Value->Option (Value×Int)) (λ_ _ _ _=>none) (λa4 a5 a6 a7 a8=>VV w a5 a7 a8 a4 a6) w c.1 f.1 0 [Value.int .i64 j,k,m,Value.int .i64 225,d.1,ae 0 []]
def Fs(w:Nat):Int->Value->Value->Value->Value->Value->Value->Value->Value->Value->Value->Int->Int->Option (Value×Int):=λa b c d e f g h i j k l m=>ob (Ba w a b c d e f g h) λn=>bif !ah n.2 0 then some (ae 0 [],n.2) else ob (WO w i) λo=>bif !ah o.2 0 then some (ae 0 [],o.2) else ob (M5 w j) λp=>bif !p then some (ae 0 [],2) else ak k λq=>bif ai 0 (Int.ofNat q) then ob (WQ w k) λr=>bif !r then some (ae 0 [],1) else V8 w k j o n else V8 w k j o n
def FB(w:Nat):Value->Int->Option (Int×Value×Value×Value×Value×Value×Value×Value×Value×Value×Value×Int×Int):=λa b=>ax b λc=>aC 14 c a λd=>af d λe f=>aq .i64 e λg=>af f λh i=>af i λj k=>af k λl m=>af m λn o=>af o λp q=>af q λr s=>af s λt u=>af u λv y=>af y λz a0=>af a0 λa1 a2=>aq .i64 a1 λa3=>af a2 λa4 a5=>aq .i64 a4 λa6=>af a5 λa7 a8=>aq .i64 a7 λa9=>af a8 λb0 b1=>ob (M8 w a b) λb2=>ob (Fs w g h j l n p r t v z b2.1 0 0) λb3=>ak b3.1 λb4=>ak b2.1 λb5=>bif ai 0 (Int.ofNat b5) then ob (Ba w g h j l n p r t) λb6=>ak b6.1 λb7=>some (g,h,j,l,n,p,r,t,v,z,b2.1,ag .i64 (Int.add 10 (Int.ofNat b7)),Int.ofNat b4) else some (g,h,j,l,n,p,r,t,v,z,b2.1,0,Int.ofNat b4)
def VX(w:Nat)(a:Int)(b:Value):Option (Int×Int):=lp (α:=Int->Int->Int->Value->Option (Int×Int)) (λ_ _ _ _=>none) (λg h i j k=>bif ai j h then ob (M8 w k j) λl=>bif !ah l.2 0 then some (8,j) else ob (FB w k j) λm=>bif ai 4294967295 (ag .i64 (i.add m.2.2.2.2.2.2.2.2.2.2.2.2)) then some (8,j) else g h (ag .i64 (i.add m.2.2.2.2.2.2.2.2.2.2.2.2)) (ag .i64 (j.add 1)) k else some (0,0)) w a 0 0 b
def WU(w:Nat):Value->Option (Int×Int):=λa=>ak a λb=>bif ai (Int.ofNat b) 1 then some (1,0) else bif ai 1000 (Int.ofNat b) then some (1,0) else lp (α:=Int->Int->Value->Option (Int×Int)) (λ_ _ _=>none) (λf g h i=>bif !ai 6 h then lp (α:=Int->Int->Int->Value->Option (Int×Int)) (λ_ _ _ _=>none) (λn o p q r=>bif ai q o then ax q λs=>aC 14 s r λt=>af t λu v=>aq .i64 u λy=>af v λz a0=>af a0 λa1 a2=>af a2 λa3 a4=>af a4 λa5 a6=>af a6 λa7 a8=>af a8 λa9 b0=>af b0 λb1 b2=>af b2 λb3 b4=>af b4 λb5 b6=>af b6 λb7 b8=>aq .i64 b7 λb9=>af b8 λc0 c1=>aq .i64 c0 λc2=>af c1 λc3 c4=>aq .i64 c3 λc5=>af c4 λc6 c7=>ob (Xe w y z a1 a3 a5 a7 a9 b1 b3 b5 b9 c2 c5 c6 p) λc8=>bif c8 then some (p,q) else n o p (ag .i64 (q.add 1)) r else f o (ag .i64 (p.add 1)) r) w g h 0 i else aC 14 0 i λc9=>af c9 λd0 d1=>aq .i64 d0 λd2=>af d1 λd3 d4=>af d4 λd5 d6=>af d6 λd7 d8=>af d8 λd9 e0=>af e0 λe1 e2=>af e2 λe3 e4=>af e4 λe5 e6=>af e6 λe7 e8=>af e8 λe9 f0=>af f0 λf1 f2=>aq .i64 f1 λf3=>af f2 λf4 f5=>aq .i64 f4 λf6=>af f5 λf7 f8=>aq .i64 f7 λf9=>af f8 λg0 g1=>bif ah g 1 then bif !ah f3 0 then some (7,0) else bif !ah f6 0 then some (7,0) else bif !ah f9 0 then some (7,0) else ak g0 λg2=>bif !ah (Int.ofNat g2) 0 then some (7,0) else VX w g i else VX w g i) w (Int.ofNat b) 2 a
def VU(w:Nat)(a:Int×Int)(b:Value):Option (Int):=bif ah a.1 5 then some 1 else bif ah a.1 7 then some 1 else bif ah a.1 2 then ax a.2 λc=>aC 14 c b λd=>af (List.drop 0 d) λe f=>aq .i64 e λg=>af f λh i=>af i λj k=>af k λl m=>af m λn o=>af o λp q=>af q λr s=>af s λt u=>ob (Ba w g h j l n p r t) λv=>some v.2 else bif ah a.1 4 then some 2 else bif ah a.1 6 then some 6 else bif ah a.1 0 then some 0 else some 7
def FA(w:Nat):Value->Option (Int):=λa=>ob (WU w a) λb=>bif ah b.1 1 then ak a λc=>bif ah (Int.ofNat c) 0 then some 1 else VU w b a else VU w b a
def EX(a:Int×Value×Value×Value×Value×Value×Value×Value×Value×Value×Value×Int×Int):=(List.drop 0 [Value.int .i64 a.1,a.2.1,a.2.2.1,a.2.2.2.1,a.2.2.2.2.1,a.2.2.2.2.2.1,a.2.2.2.2.2.2.1,a.2.2.2.2.2.2.2.1,a.2.2.2.2.2.2.2.2.1,a.2.2.2.2.2.2.2.2.2.1,a.2.2.2.2.2.2.2.2.2.2.1,Value.int .i64 a.2.2.2.2.2.2.2.2.2.2.2.1,Value.int .i64 a.2.2.2.2.2.2.2.2.2.2.2.2])
def WH(w:Nat):Value->Option (Value):=λa=>ob (FA w a) λb=>bif !ah b 0 then some (ae 0 []) else lp (α:=Int->Value->List Value->Option Value) (λ_ _ _=>none) (λf g h i=>ak h λj=>bif ai g (Int.ofNat j) then ob (FB w h g) λk=>bif aw i.length&&(aw 1&&(List.take 13 (EX k)).length.beq 13) then f (ag .i64 (g.add 1)) h (i++List.take 13 (EX k)) else none else some (ae (i.length/13) i)) w 0 a []
def V7(a:Int)(b:Int)(c:Int)(d:Int)(e:Int)(f:Int):=(List.drop 0 [Value.int .i64 a,Value.int .i64 b,Value.int .i64 (ag .i64 ((ag .i64 (c.sub d)).sub 4)),Value.int .i64 e,Value.int .i64 f])
def WG(w:Nat):Value->Option (Value×Int):=λa=>ob (FA w a) λb=>bif !ah b 0 then some (ae 0 [],b) else ob (WH w a) λc=>lp (α:=Value->Int->Int->Value->List Value->Option (Value×Int)) (λ_ _ _ _ _=>none) (λi j k l m n=>ak j λo=>bif ai l (Int.ofNat o) then ak j λp=>bif ai 1 (Int.ofNat p) then ax l λq=>aC 14 q m λr=>af r λs t=>aq .i64 s λu=>af t λv y=>af y λz a0=>af a0 λa1 a2=>af a2 λa3 a4=>af a4 λa5 a6=>af a6 λa7 a8=>af a8 λa9 b0=>af b0 λb1 b2=>af b2 λb3 b4=>af b4 λb5 b6=>aq .i64 b5 λb7=>af b6 λb8 b9=>aq .i64 b8 λc0=>af b9 λc1 c2=>aq .i64 c1 λc3=>af c2 λc4 c5=>ax l λc6=>aC 13 c6 j λc7=>af (List.drop 12 c7) λc8 c9=>aq .i64 c8 λd0=>bif ai 0 l then aC 13 0 j λd1=>af (List.drop 11 d1) λd2 d3=>aq .i64 d2 λd4=>bif aw n.length&&(aw 1&&(List.take 5 (V7 b7 d0 k d4 c0 c3)).length.beq 5) then ax l λd5=>aC 13 d5 j λd6=>af (List.drop 12 d6) λd7 d8=>aq .i64 d7 λd9=>i j (ag .i64 (k.add d9)) (ag .i64 (l.add 1)) m (n++List.take 5 (V7 b7 d0 k d4 c0 c3)) else none else bif aw n.length&&(aw 1&&(List.take 5 (List.drop 0 [Value.int .i64 b7,Value.int .i64 d0,Value.int .i64 0,Value.int .i64 c0,Value.int .i64 c3])).length.beq 5) then ax l λe0=>aC 13 e0 j λe1=>af (List.drop 12 e1) λe2 e3=>aq .i64 e2 λe4=>i j (ag .i64 (k.add e4)) (ag .i64 (l.add 1)) m (n++List.take 5 (List.drop 0 [Value.int .i64 b7,Value.int .i64 d0,Value.int .i64 0,Value.int .i64 c0,Value.int .i64 c3])) else none else some (ae (n.length/5) n,0) else some (ae (n.length/5) n,0)) w c 0 0 a []
def WI(w:Nat):Value->Option (List Value):=λa=>ob (FA w a) λb=>bif !ah b 0 then some [] else lp (α:=Int->Value->List Value->Option (List Value)) (λ_ _ _=>none) (λf g h i=>ak h λj=>bif ai g (Int.ofNat j) then ob (FB w h g) λk=>bif aw i.length&&(aw 1&&(List.take 13 (EX k)).length.beq 13) then f (ag .i64 (g.add 1)) h (i++List.take 13 (EX k)) else none else some i) w 0 a []
def VQ(w:Nat)(a:Int)(b:List Value)(c:List Value)(d:Value->Int->Value->List Value->List Value->Option (Value×Int))(e:Value)(f:Value):Option (Value×Int):=ax a λg=>bif Nat.beq 13 13&&(g*13).blt b.length then af (List.drop (0+g*13) b) λh i=>aq .i64 h λj=>af i λk l=>af l λm n=>af n λo p=>af p λq r=>af r λs t=>af t λu v=>af v λy z=>af z λa0 a1=>af a1 λa2 a3=>af a3 λa4 a5=>af a5 λa6 a7=>aq .i64 a6 λa8=>af a7 λa9 b0=>aq .i64 a9 λb1=>ob (Fs w j k m o q s u y a0 a2 a4 a8 b1) λb2=>bif aw c.length&&(aw 1&&(List.take 1 (List.drop 0 [b2.1])).length.beq 1) then d e (ag .i64 (a.add 1)) f b (c++List.take 1 (List.drop 0 [b2.1])) else none else none
def WB(w:Nat):Value->Option (Value×Int):=λa=>ob (WG w a) λb=>bif !ah b.2 0 then some (ae 0 [],b.2) else ob (WI w a) λc=>lp (α:=Value->Int->Value->List Value->List Value->Option (Value×Int)) (λ_ _ _ _ _=>none) (λi j k l m n=>bif ai k (Int.ofNat (m.length/13)) then bif ah k 0 then bif ai 1 (Int.ofNat (m.length/13)) then aC 14 0 l λo=>af (List.drop 0 (List.drop 0 o)) λp q=>aq .i64 p λr=>aC 14 0 l λs=>af (List.drop 13 s) λt u=>ob (A6 w r j t) λv=>bif Nat.beq 13 13&&Nat.blt 0 m.length then bif(SV.v v.1).cells.length.beq 1&&Nat.ble 11 m.length then ax k λy=>bif Nat.beq 13 13&&(y*13).blt (aQ 10 [v.1] m).length then af (List.drop (0+y*13) (aQ 10 [v.1] m)) λz a0=>aq .i64 z λa1=>af a0 λa2 a3=>af a3 λa4 a5=>af a5 λa6 a7=>af a7 λa8 a9=>af a9 λb0 b1=>af b1 λb2 b3=>af b3 λb4 b5=>af b5 λb6 b7=>af b7 λb8 b9=>af b9 λc0 c1=>af c1 λc2 c3=>aq .i64 c2 λc4=>af c3 λc5 c6=>aq .i64 c5 λc7=>ob (Fs w a1 a2 a4 a6 a8 b0 b2 b4 b6 b8 c0 c4 c7) λc8=>bif aw n.length&&(aw 1&&(List.take 1 (List.drop 0 [c8.1])).length.beq 1) then i j (ag .i64 (k.add 1)) l (aQ 10 [v.1] m) (n++List.take 1 (List.drop 0 [c8.1])) else none else none else none else none else VQ w k m n i j l else VQ w k m n i j l else some (ae (n.length/1) n,0)) w b.1 0 a c []
def MI(w:Nat):Value->Option (Value×Int):=λa=>ob (WB w a) λb=>lp (α:=Value->Int->Int->List Value->Option (Value×Int)) (λ_ _ _ _=>none) (λg h i j k=>ak h λl=>bif ai j (Int.ofNat l) then ax j λm=>aC 1 m h λn=>af n λo p=>cn 1 o λq r=>bif aw k.length&&(aw q&&r.length.beq (q*1)) then g h i (ag .i64 (j.add 1)) (k++r) else none else some (ae (k.length/1) k,i)) w b.1 b.2 0 []
def rL(w:Nat):Value->Option (Bool):=λa=>lp (α:=Value->Int->Option Bool) (λ_ _=>none) (λd e f=>ak e λg=>bif ai f (Int.ofNat g) then ax f λh=>aC 4 h e λi=>af (List.drop 2 (List.drop 1 i)) λj k=>ak j λl=>bif ai 600 (Int.ofNat l) then some true else d e (ag .i64 (f.add 1)) else ak e λm=>some (ai 60 (Int.ofNat m))) w a 0
def Fa(w:Nat):Value->Option (Bool):=λa=>lp (α:=Int->Value->Option Bool) (λ_ _=>none) (λd e f=>ak f λg=>bif ai e (Int.ofNat g) then bif ai e 7 then ax e λh=>aC 14 h f λi=>af i λj k=>aq .i64 j λl=>af k λm n=>af n λo p=>af p λq r=>af r λs t=>af t λu v=>af v λy z=>af z λa0 a1=>af a1 λa2 a3=>af a3 λa4 a5=>af a5 λa6 a7=>aq .i64 a6 λa8=>af a7 λa9 b0=>aq .i64 a9 λb1=>af b0 λb2 b3=>aq .i64 b2 λb4=>af b3 λb5 b6=>ob (rL w m) λb7=>bif b7 then some true else ob (rL w o) λb8=>bif b8 then some true else ob (rL w q) λb9=>bif b9 then some true else ob (rL w s) λc0=>bif c0 then some true else ob (rL w u) λc1=>bif c1 then some true else ob (rL w b5) λc2=>bif c2 then some true else ak y λc3=>bif ai 2000 (Int.ofNat c3) then some true else ak a0 λc4=>bif ai 2000 (Int.ofNat c4) then some true else ak a2 λc5=>bif ai 2000 (Int.ofNat c5) then some true else ak a4 λc6=>bif ai 2000 (Int.ofNat c6) then some true else d (ag .i64 (e.add 1)) f else ak f λc7=>some (ai 6 (Int.ofNat c7)) else ak f λc8=>some (ai 6 (Int.ofNat c8))) w 0 a
def xC(w:Nat):Value->Option (List Value):=λa=>cn 1 a λb c=>bif c.length.beq (b*1)&&(Nat.ble 0 0&&Nat.beq 5 5) then bif(0+b).ble 0 then bif(0+c.length).ble 0 then none else none else bif aw b&&(aw 0&&(Builtin.nextslicecap (0+b) 0).ble 5000000000) then some (List.take 0 (List.drop 0 [])++c) else none else none
def xA(w:Nat):Option (Bool):=ob (xF w) λa=>ob (MI w (ae 1 (List.drop 0 [Value.int .i64 a.1,a.2.1,a.2.2.1,a.2.2.2.1,a.2.2.2.2.1,a.2.2.2.2.2.1,a.2.2.2.2.2.2.1,a.2.2.2.2.2.2.2.1,a.2.2.2.2.2.2.2.2.1,a.2.2.2.2.2.2.2.2.2.1,Value.int .i64 a.2.2.2.2.2.2.2.2.2.2.1,Value.int .i64 a.2.2.2.2.2.2.2.2.2.2.2.1,Value.int .i64 a.2.2.2.2.2.2.2.2.2.2.2.2.1,a.2.2.2.2.2.2.2.2.2.2.2.2.2]))) λb=>ob (xF w) λc=>ob (xF w) λd=>ob (MI w (ae 2 (List.drop 0 [Value.int .i64 c.1,c.2.1,c.2.2.1,c.2.2.2.1,c.2.2.2.2.1,c.2.2.2.2.2.1,c.2.2.2.2.2.2.1,c.2.2.2.2.2.2.2.1,c.2.2.2.2.2.2.2.2.1,c.2.2.2.2.2.2.2.2.2.1,Value.int .i64 c.2.2.2.2.2.2.2.2.2.2.1,Value.int .i64 c.2.2.2.2.2.2.2.2.2.2.2.1,Value.int .i64 c.2.2.2.2.2.2.2.2.2.2.2.2.1,c.2.2.2.2.2.2.2.2.2.2.2.2.2,Value.int .i64 d.1,d.2.1,d.2.2.1,d.2.2.2.1,d.2.2.2.2.1,d.2.2.2.2.2.1,d.2.2.2.2.2.2.1,d.2.2.2.2.2.2.2.1,d.2.2.2.2.2.2.2.2.1,d.2.2.2.2.2.2.2.2.2.1,Value.int .i64 d.2.2.2.2.2.2.2.2.2.2.1,Value.int .i64 d.2.2.2.2.2.2.2.2.2.2.2.1,Value.int .i64 d.2.2.2.2.2.2.2.2.2.2.2.2.1,d.2.2.2.2.2.2.2.2.2.2.2.2.2]))) λe=>ob (lA w e.1) λf=>ak b.1 λg=>bif !ah (Int.ofNat g) 51 then some false else ak e.1 λh=>bif !ah (Int.ofNat h) 192 then some false else bif !ah f.2.2 0 then some false else bif !ah f.2.1 0 then some false else ob (xF w) λi=>ob (xF w) λj=>ob (Wz w f.1 (ae 2 (List.drop 0 [Value.int .i64 i.1,i.2.1,i.2.2.1,i.2.2.2.1,i.2.2.2.2.1,i.2.2.2.2.2.1,i.2.2.2.2.2.2.1,i.2.2.2.2.2.2.2.1,i.2.2.2.2.2.2.2.2.1,i.2.2.2.2.2.2.2.2.2.1,Value.int .i64 i.2.2.2.2.2.2.2.2.2.2.1,Value.int .i64 i.2.2.2.2.2.2.2.2.2.2.2.1,Value.int .i64 i.2.2.2.2.2.2.2.2.2.2.2.2.1,i.2.2.2.2.2.2.2.2.2.2.2.2.2,Value.int .i64 j.1,j.2.1,j.2.2.1,j.2.2.2.1,j.2.2.2.2.1,j.2.2.2.2.2.1,j.2.2.2.2.2.2.1,j.2.2.2.2.2.2.2.1,j.2.2.2.2.2.2.2.2.1,j.2.2.2.2.2.2.2.2.2.1,Value.int .i64 j.2.2.2.2.2.2.2.2.2.2.1,Value.int .i64 j.2.2.2.2.2.2.2.2.2.2.2.1,Value.int .i64 j.2.2.2.2.2.2.2.2.2.2.2.2.1,j.2.2.2.2.2.2.2.2.2.2.2.2.2]))) λk=>bif !k then some false else ob (xC w e.1) λl=>bif Nat.beq 1 1&&Nat.blt 144 l.length then bif Nat.beq 1 1&&Nat.ble 145 l.length then ob (AZ w (ae 0 []) 3 0) λm=>bif m then ob (xC w b.1) λn=>bif aw n.length&&(aw 1&&Nat.beq 1 1) then ob (AZ w (ae ((n++[Value.int .u8 0]).length/1) (n++[Value.int .u8 0])) 2 0) λo=>bif o then ak e.1 λp=>bif Nat.ble 141 p&&Nat.ble 0 141 then eJ 1 0 141 e.1 λq=>ob (AZ w q 4 0) λr=>bif r then ob (AZ w (ae ((aQ 144 [Value.int .u8 227] l).length/1) (aQ 144 [Value.int .u8 227] l)) 2 1) λs=>some s else some false else none else some false else none else some false else none else none
def MF(w:Nat):Value->Int->Option (Bool):=λa b=>ob (Fa w a) λc=>bif c then ob (xA w) λd=>some d else ob (AX w a) λe=>bif !ah e.2 0 then ak e.1 λf=>bif ah (Int.ofNat f) 0 then ob (xA w) λg=>some g else some false else ob (lA w e.1) λh=>ob (AX w h.1) λi=>bif !ah h.2.2 0 then some false else bif !ah h.2.1 0 then some false else bif !ah i.2 0 then some false else ob (Fb w a h.1) λj=>bif !j then some false else ob (rK w e.1 i.1) λk=>bif !k then some false else ak e.1 λl=>bif ah (Int.ofNat l) 0 then some false else ak e.1 λm=>ak e.1 λn=>ax (ag .i64 ((Int.ofNat m).sub 1)) λo=>bif o.ble n&&Nat.ble 0 o then eJ 1 0 o e.1 λp=>ob (lA w p) λq=>ob (xC w e.1) λr=>bif aw r.length&&(aw ([Value.int .u8 b].length/1)&&[Value.int .u8 b].length.beq ([Value.int .u8 b].length/1*1)) then ob (lA w (ae ((r++[Value.int .u8 b]).length/1) (r++[Value.int .u8 b]))) λs=>bif !ah q.2.2 0 then bif !ah s.2.2 0 then ob (xA w) λt=>some t else some false else some false else none else none
end
noncomputable section
end
theorem agN{t:aJ}{m:Nat}(h:ec t.ty t.aA t.data=true)(hd:t.data.length<=m):bK t.ty t.aA<=m:=by
 have:=xd h
 grind
theorem zi{m:Nat}:∀(l:List aJ)(e:Nat),(∀t∈l,ec t.ty t.aA t.data=true/\t.data.length<=m)->bZ e l<=e+l.length*(m+1)
 |[],e,_=>by simp[bZ]
 |t::l,e,h=>by
  have h1:=h t (by simp);have ho:=agN h1.1 h1.2;have ih:=λe=>zi l e λt ht=>h t (by grind);have hev:=uq e;rw[cm,Qf]
  grind
theorem akr(no:Nat)(l:List aJ)(e:Nat):(cU no e l).length<=l.length:=Ox no l e
mutual
theorem Qc{sh:List aZ}{m B:Nat}(hB:24*m+40+m*(m+1)+m<=B):∀(d:aT)(s e:Nat),cD sh s d=true->iq m d->bt e d<=e+dw d*B
 | .mk tags subs blob,s,e,hh,hd=>by
  have hd:tags.length<=m/\bY subs<=m/\blob.length<=m/\(∀t∈tags,t.data.length<=m)/\ir m subs:=hd;simp[cD] at hh;obtain⟨⟨n1,n2⟩,ht,hbl,hr,hss⟩:=hh;have htg:∀t∈tags,ec t.ty t.aA t.data=true/\t.data.length<=m:=λt h=>by simp[jU] at ht;simp_all
  have hN:bE (.mk tags subs blob)<=2*m+2:=by
   show tags.length+bY subs+(if blob.length=0 then 0 else 2)<=2*m+2
   grind
  have h1:=zi tags (aI e+(6+12*bE (.mk tags subs blob))) htg;have h2:=Qe hB subs (aM sh s) (bZ (aI e+(6+12*bE (.mk tags subs blob))) tags) hss hd.2.2.2.2;have h3:=uq e;have h4:=uq (ea (bZ (aI e+(6+12*bE (.mk tags subs blob))) tags) subs);have h5:tags.length*(m+1)<=m*(m+1):=vT _ hd.1;rw[dw,lG,bt]
  grind
theorem Qe{sh:List aZ}{m B:Nat}(hB:24*m+40+m*(m+1)+m<=B):∀(r:cA)(S:aZ)(e:Nat),iS sh S r=true->ir m r->ea e r<=e+gX r*B
 | .nil,S,e,_,_=>by unfold ea;omega
 | .cons t d r,S,e,hh,hd=>by simp[iS] at hh;have h1:=Qc hB d _ e hh.2.1 hd.1;have h2:=Qe hB r S (bt e d) hh.2.2 hd.2;rw[ea,gX,lG];omega
end
mutual
theorem Ys{m:Nat}:∀(d:aT)(no e:Nat),iq m d->(fR no e d).length<=dw d*(m+2)
 | .mk tags subs blob,no,e,hd=>by
  have hd:tags.length<=m/\bY subs<=m/\blob.length<=m/\(∀t∈tags,t.data.length<=m)/\ir m subs:=hd;have h1:=akr no tags (aI e+(6+12*bE (.mk tags subs blob)));have h2:=Yu subs (no+1) (bZ (aI e+(6+12*bE (.mk tags subs blob))) tags) hd.2.2.2.2;rw[dw,fR]
  grind
theorem Yu{m:Nat}:∀(r:cA)(no e:Nat),ir m r->(kv no e r).length<=gX r*(m+2)
 | .nil,no,e,_=>by unfold kv;simp
 | .cons t d r,no,e,hd=>by have h1:=Ys d no e hd.1;have h2:=Yu r (no+dw d) (bt e d) hd.2;rw[kv,gX,lG,aP];omega
end
theorem Qb{sh:List aZ}{m B:Nat}(hB:24*m+40+m*(m+1)+m<=B):∀(ds:List aT)(s:Int)(e:Nat),fZ sh s ds=true->nG m ds->dZ e ds<=e+gP ds*B
 |[],s,e,_,_=>by simp[dZ]
 |d::ds,s,e,hh,hd=>by simp[fZ] at hh;have h1:=Qc hB d _ e hh.2.1 (hd d (by simp));have h2:=Qb hB ds _ (bt e d) hh.2.2 λd h=>hd d (by grind);rw[dZ,gP,lG];omega
theorem BN{m:Nat}:∀(ds:List aT)(no e:Nat),nG m ds->(ji no e ds).length<=gP ds*(m+2)
 |[],no,e,_=>by simp[ji]
 |d::ds,no,e,hd=>by have h1:=Ys d no e (hd d (by simp));have h2:=BN ds (no+dw d) (bt e d) λd h=>hd d (by grind);rw[ji,gP,lG,aP];omega
theorem Jt{sh:List aZ}:∀{ds:List aT}{s:Int},fZ sh s ds=true->∀d∈ds,∃s,cD sh s d=true
 |[],_,_,d,h=>by grind
 |a::ds,s,hh,d,h=>by
  simp[fZ] at hh;rcases cO.1 h with rfl|h
  ·grind
  ·exact Jt hh.2.2 d h
structure dD(w:Nat):Prop where
 hand:Hand w
 jZ:200000<=w
theorem OH{w:Nat}(W:dD w){sh:List aZ}{o:Int}{ds:List aT}(ok:iQ sh)(sM:qG w (cg sh)=some true)(s0:0<sh.length)(bJ:∀s,s<sh.length->(aM sh s).bJ.length<=10000)(ho:o=1\/o=2)(cu:ds≠[])(je:ds.length<=10000)(hd:nG 10000 ds)(jM:kF ds<=10)(hc:gP ds<=8)(hh:fZ sh 0 ds=true):ox w 10000 sh o ds:=by have hb:=W.jZ;have h1:=Qb (B:=100360040) (by simp) ds 0 8 hh hd;have h2:=BN ds 0 8 hd;have h5:(fb ⟨o,ds⟩).length=(ji 0 8 ds).length+1:=rfl;exact⟨(by simp),(by omega),(by omega),ok,sM,s0,bJ,ho,cu,je,hd,by omega,hh,by omega,by omega,by omega,by omega,(W.hand.may o ds (by omega) (λd hd=>by obtain⟨s,h⟩:=Jt hh d hd;exact⟨sh,s,h⟩) (by omega))⟩
theorem QB(s:Nat)(hs:s<cV.length):(aM cV s).bJ.length<=10000:=by
 have:s=0\/s=1\/s=2\/s=3\/s=4:=by simp[cV] at hs;omega
 rcases this with rfl|rfl|rfl|rfl|rfl<;>decide
theorem ah4{m:Nat}{l:List aJ}{x:aJ}(h:∀t∈l,t.data.length<=m)(hx:x.data.length<=m):∀t∈jS l x,t.data.length<=m:=by intro t ht;rcases Wu ht with rfl|ht<;>grind
theorem akS{x:db}{m:Nat}(h:jm x m)(h1:1<=m):iq (m+1) (jE x)/\dw (jE x)<=2/\fP (jE x)<=2:=by
 obtain⟨⟨r0,r2,r3,r4,r1⟩,d0,d2,d3,d4,d1,hmk,hth⟩:=h;unfold jE;have hl:=Wt x.bD (jz x.bC);have hsub:ir (m+1) (if x.bj.length=0 then .nil else .cons 40965 (.mk x.bj .nil []) .nil)/\bY (if x.bj.length=0 then .nil else .cons 40965 (.mk x.bj .nil []) .nil)<=1/\gX (if x.bj.length=0 then .nil else .cons 40965 (.mk x.bj .nil []) .nil)<=1/\jJ (if x.bj.length=0 then .nil else .cons 40965 (.mk x.bj .nil []) .nil)<=1:=by
  split
  ·exact⟨trivial,by decide,by decide,by decide⟩
  ·refine⟨⟨⟨by omega,by show 0<=_;omega,by show 0<=_;omega,λt ht=>by have:=d4 t ht;omega,trivial⟩,trivial⟩,by simp[bY],by simp[gX,dw],by simp[jJ,fP]⟩
 refine⟨⟨?_,by omega,by show 0<=_;omega,?_,hsub.1⟩,by rw[dw];omega,by rw[fP];omega⟩
 ·grind
 ·split
  ·grind
  ·exact ah4 (λt ht=>by have:=d2 t ht;omega) (by show x.bC.length<=_;omega)
theorem YO{x:db}{m:Nat}(h:jm x m)(h1:2<=m):nG (m+1) (eP x).dE/\gP (eP x).dE<=5/\kF (eP x).dE<=3/\(eP x).dE.length<=2:=by
 obtain⟨t1,t2,t3⟩:=akS h (by omega);obtain⟨⟨r0,r2,r3,r4,r1⟩,d0,d2,d3,d4,d1,hmk,hth⟩:=h;have hg:ir (m+1) (mX x)/\bY (mX x)<=1/\gX (mX x)<=1/\jJ (mX x)<=1:=by
  unfold mX;split
  ·exact⟨trivial,by decide,by decide,by decide⟩
  ·exact⟨⟨⟨by omega,by show 0<=_;omega,by show 0<=_;omega,λt ht=>by have:=d3 t ht;omega,trivial⟩,trivial⟩,by simp[bY],by simp[gX,dw],by simp[jJ,fP]⟩
 have hs:ir (m+1) (jC x)/\bY (jC x)<=2/\gX (jC x)<=3/\jJ (jC x)<=2:=by
  unfold jC;split
  ·exact⟨hg.1,by omega,by omega,by omega⟩
  ·refine⟨⟨t1,hg.1⟩,by rw[bY];omega,by rw[gX];omega,by rw[jJ];omega⟩
 have h0:iq (m+1) (.mk x.cj (jC x) []):=⟨by omega,by omega,by show 0<=_;omega,λt ht=>by have:=d0 t ht;omega,hs.1⟩;unfold eP;by_cases c:x.first.length=0/\x.cC.length=0
 ·simp only[az c];refine⟨λd hd=>?_,by simp only[gP,dw];omega,by simp only[kF,fP];omega,by simp⟩;rw[oY.1 hd];exact h0
 ·simp only[ar c];refine⟨λd hd=>?_,by simp only[gP,dw,gX];omega,by simp only[kF,fP,jJ];omega,by simp⟩;simp_all;rcases hd with rfl|rfl
  ·exact h0
  ·exact(⟨by omega,by show 0<=_;omega,by omega,λt ht=>by have:=d1 t ht;omega,trivial⟩)
theorem iq.mono{m m':Nat}(h:m<=m'):∀{d:aT},iq m d->iq m' d:=by
 have key:(∀d:aT,iq m d->iq m' d)/\∀r:cA,ir m r->ir m' r:=by
  refine⟨λd=>?_,λr=>?_⟩
  ·exact aT.rec (motive_2:=λr=>ir m r->ir m' r) (λtags subs blob ih hd=>by have hd:tags.length<=m/\bY subs<=m/\blob.length<=m/\(∀t∈tags,t.data.length<=m)/\ir m subs:=hd;exact⟨by omega,by omega,by omega,λt ht=>by have:=hd.2.2.2.1 t ht;omega,ih hd.2.2.2.2⟩) (λ_=>trivial) (λt d r i1 i2 hd=>⟨i1 hd.1,i2 hd.2⟩) d
  ·exact cA.rec (motive_1:=λd=>iq m d->iq m' d) (λtags subs blob ih hd=>by have hd:tags.length<=m/\bY subs<=m/\blob.length<=m/\(∀t∈tags,t.data.length<=m)/\ir m subs:=hd;exact⟨by omega,by omega,by omega,λt ht=>by have:=hd.2.2.2.1 t ht;omega,ih hd.2.2.2.2⟩) (λ_=>trivial) (λt d r i1 i2 hd=>⟨i1 hd.1,i2 hd.2⟩) r
 grind
theorem C0{w:Nat}(W:dD w){x:db}(h:jm x 9000)(hc:iI x=0):ox w 10000 cV x.order (eP x).dE:=by obtain⟨a,b,c,d⟩:=YO h (by simp);have hr:=h.rows;refine OH W I5 (ajc (by have:=W.jZ;omega)) (by decide) QB (sB hc).1 (by simp[eP]) (by omega) (λd hd=>(a d hd).mono (by simp)) (by omega) (by omega) (YP hc ?_);unfold qz at hr⊢;omega
theorem akX(x:db):(⟨x.order,(eP x).dE⟩:mn)=eP x:=rfl
theorem Nd(w:Nat):Bd w=some (cg cV):=rfl
theorem akf{w:Nat}(W:dD w){x:db}(h:jm x 9000):GX w x.order (au x.cj) (au x.bD) (au x.bG) (au x.bj) (au x.first) (aj x.bC) (aj x.cC)=some (if iI x=0 then(aj (er (eP x) cV),0) else(ae 0 [],iI x)):=by
 have hb:=W.jZ;unfold GX;rw[Xb W.hand h (by simp) (by omega)];by_cases hc:iI x=0
 ·rw[az hc,az hc];rw[Nd];simp;rw[Xd (C0 W h hc)];rfl
 simp_all
theorem ake{w:Nat}(W:dD w){x:db}(h:jm x 9000):GW w x.order (au x.cj) (au x.bD) (au x.bG) (au x.bj) (au x.first) (aj x.bC) (aj x.cC)=some (if iI x=0 then(65527 -(gJ (eP x):Int),0) else(0,iI x)):=by
 have hb:=W.jZ;unfold GW;rw[Xb W.hand h (by simp) (by omega)];simp;by_cases hc:iI x=0
 ·rw[az hc,az hc];have T:=C0 W h hc;have:=T.he;rw[T.cx];simp;rw[aO (by omega) (by omega)];rfl
 grind
theorem PH(a:List Int)(b:List UInt8)(h:a=b.map λc=>(c.toNat:Int)):bm a=b.map aX:=by subst h;unfold bm;rw[List.map_map];rfl
theorem N2{w:Nat}(W:dD w){x:db}(h:jm x 9000):Bt w x.order (au x.cj) (au x.bD) (au x.bG) (au x.bj) (au x.first) (aj x.bC) (aj x.cC)=some (match iH x with| .ok b=>(aj b,0)| .error e=>(ae 0 [],e)):=by
 unfold Bt yS iH;rw[ake W h,akf W h];by_cases hc:iI x=0
 case neg=>simp_all
 rw[az hc,az hc,ar (by omega)];simp only[aB,aV];by_cases h2:65533<6+gJ (eP x)
 ·have:(65527:Int) -(gJ (eP x):Int)<0:=by omega
  simp_all
 ·have h3:¬((65527:Int) -(gJ (eP x):Int)<0):=by omega
  simp only[h3,bN,ar h2];unfold ue;have hl:=vH (C0 W h hc).hh;have hpos:8<=gJ (eP x):=pA _ _;simp only[show ah 0 0=true from rfl];rw[sw];have r2:((er (eP x) cV).map λb=>(b.toNat:Int)).isEmpty=false:=by
   cases q:er (eP x) cV with
   |nil=>rw[q] at hl;simp at hl;omega
   |cons _ _=>rfl
  simp only[(show aw ((er (eP x) cV).map λb=>(b.toNat:Int)).length=true from by simp;omega),r2,aE,aF];rw[PH _ (mV++er (eP x) cV) (by rw[gV];rfl),uh _ _ (by simp[mV];omega)]
theorem XK{w:Nat}{sh:List aZ}{o:Int}{ds:List aT}(T:ox w 10000 sh o ds):vl w o (cQ ds) (cg sh)=some (if 65533<4+gJ ⟨o,ds⟩ then(ae 0 [],7) else(aj (gh++er ⟨o,ds⟩ sh),0)):=by
 unfold vl sR;rw[Xd T];have hl:(er ⟨o,ds⟩ sh).length=gJ ⟨o,ds⟩:=vH T.hh;have he:gJ ⟨o,ds⟩<=1000000000:=T.he;have hpos:8<=gJ ⟨o,ds⟩:=pA _ _;simp only[aB,show ah 0 0=true from rfl];rw[sw];have r2:((er ⟨o,ds⟩ sh).map λb=>(b.toNat:Int)).isEmpty=false:=by
  cases q:er ⟨o,ds⟩ sh with
  |nil=>grind
  |cons _ _=>rfl
 simp only[cZ,hl,(show aw (gJ ⟨o,ds⟩)=true from by simp;omega),r2,aE,aF,mr,qe];split
 ·rfl
 ·rw[PH _ (gh++er ⟨o,ds⟩ sh) (by rw[gV];rfl),uh _ _ (by simp[gh];omega)]
theorem MK(w:Nat)(m:Int):xG w m=some (iG m):=by
 unfold xG iG;simp
 grind
theorem XT(w:Nat)(m:Int):xW w m=some (nt m):=by
 unfold xW nt;by_cases h1:m<208
 ·have:¬(208<=m/\m<=215):=by omega
  simp_all
 ·by_cases h2:m<216
  ·have:(208<=m/\m<=215):=by omega
   simp_all
  ·have:¬(208<=m/\m<=215):=by omega
   simp[h2,this]
theorem XM(w:Nat)(m:Int):Bf w m=some (jy m):=by
 unfold Bf jy;rw[MK,XT];simp
 grind
theorem H4{b:UInt8}:ag IntKind.i64 (b.toNat:Int)=(b.toNat:Int):=by have:=b.toNat_lt;exact aO (by simp) (by omega)
theorem akW{w:Nat}(l:List UInt8)(hl:l.length<2^60):Bm w (aj l)=some (match l.getLast? with|some b=>if b=255 then 1 else 0|none=>0):=by
 unfold Bm;by_cases h:l.length=0
 ·rw[my h];rfl
 ·have e1:((0:Int)<(l.length:Int)):=by omega
  simp_all;rw[aO (by omega) (by omega),lK (by omega),show((l.length:Int) -1).toNat=l.length -1 by omega,nQ (show l.length -1<l.length by omega)];simp;have hg:l.getLast? =some l[l.length -1]:=by rw[List.getLast?_eq_getElem?,cN (by omega)]
  rw[hg];simp only;by_cases h5:l[l.length -1]=255
  ·rw[az h5,az (by rw[h5];rfl)]
  ·rw[ar h5,ar (by intro q;exact h5 (nC.1 (by have:(255:UInt8).toNat=255:=rfl;omega)))]
theorem XL{w:Nat}(l:List UInt8)(hl:l.length<2^60)(hw:l.length<w):xQ w (aj l)=some (ej l:Int):=by
 have key:∀(z:Value->Int->Option Int)(F:(Value->Int->Option Int)->Value->Int->Option Int)(hF:F=λ(x3:Value->Int->Option Int)(x4:Value)(x5:Int)=>ak x4 λ(x6:Nat)=>bif ai (ag IntKind.i64 (x5.add 1)) (Int.ofNat x6) then ax x5 λ(x7:Nat)=>aC 1 x7 x4 λ(x8:List Value)=>af x8 λ(x9:Value)(x10:List Value)=>aq IntKind.u8 x9 λ(x11:Int)=>bif ah x11 255 then ax (ag IntKind.i64 (x5.add 1)) λ(x12:Nat)=>aC 1 x12 x4 λ(x13:List Value)=>af x13 λ(x14:Value)(x15:List Value)=>aq IntKind.u8 x14 λ(x16:Int)=>bif !ah x16 0 then ax (ag IntKind.i64 (x5.add 1)) λ(x17:Nat)=>aC 1 x17 x4 λ(x18:List Value)=>af x18 λ(x19:Value)(x20:List Value)=>aq IntKind.u8 x19 λ(x21:Int)=>ob (xW w (ag IntKind.i64 x21)) λ(x22:Bool)=>bif !x22 then some x5 else x3 x4 (ag IntKind.i64 (x5.add 1)) else x3 x4 (ag IntKind.i64 (x5.add 1)) else x3 x4 (ag IntKind.i64 (x5.add 1)) else ak x4 λ(x23:Nat)=>ob (Bm w x4) λ(x24:Int)=>some (ag IntKind.i64 ((Int.ofNat x23).sub x24))),
  ∀(d i v:Nat),i+d+1=l.length->d<v->lp z F v (aj l) (i:Int)=some ((i+ej (l.drop i):Nat):Int):=by
  intro z F hF d;induction d with
  |zero=>
   intro i v hi hv;rw[eA z F (by omega),hF];simp only[cw,cc];rw[aO (by omega) (by omega)];have e1:¬((i:Int)+1<(l.length:Int)):=by omega
   have hlt:i<l.length:=by omega
   have hll:l.drop i=[l[i]]:=by rw[cX hlt,vO (by omega)]
   have hg:l.getLast? =some l[i]:=by rw[List.getLast?_eq_getElem?,show l.length -1=i by omega,cN hlt]
   simp only[aV,cf,e1,bN,aF];rw[akW l hl,hll,hg];simp only[aB,iT];by_cases h5:l[i]=255
   ·rw[az h5,h5,ahZ,aO (by omega) (by omega)]
    congr 1;omega
   ·rw[ar h5,AP h5,aO (by omega) (by omega)]
    congr 1
    show(l.length:Int) -0=((i+(0+1):Nat):Int);omega
  |succ d ih=>
   intro i v hi hv;have hlt:i<l.length:=by omega
   have hlt2:i+1<l.length:=by omega
   have hll:l.drop i=l[i]::l[i+1]::l.drop (i+2):=by rw[cX hlt,cX hlt2]
   have hll2:l.drop (i+1)=l[i+1]::l.drop (i+2):=cX hlt2;have ih:=ih (i+1) (v -1) (by omega) (by omega);rw[hll2] at ih;rw[hll,eA z F (by omega)];generalize lp z F (v -1)=g at ih⊢;rw[hF];have e1:((i:Int)+1<(l.length:Int)):=by omega
   simp only[cw,cc];rw[aO (by omega) (by omega)];simp only[aV,cf,e1,aY,aE,bQ];rw[show(i:Int)+1=((i+1:Nat):Int) by omega];simp only[bQ];rw[nQ hlt,nQ hlt2];simp only[bh,o9,bW,XT,H4,aB];by_cases h5:l[i]=255
   ·have e5:((l[i].toNat:Int)=255):=by rw[h5];rfl
    rw[h5,Mt] at*;simp only[show(((255:UInt8).toNat:Int)=255) from rfl,aY,aE];by_cases h6:l[i+1]=0
    ·have e6:((l[i+1].toNat:Int)=0):=by rw[h6];rfl
     have:¬(l[i+1]≠0/\nt (l[i+1].toNat:Int)=false):=λq=>q.1 h6;rw[ar this];simp only[e6,aY,bH,aF];rw[ih]
     congr 2;omega
    ·have e6:¬((l[i+1].toNat:Int)=0):=by
      intro q;exact h6 (nC.1 (by have:(0:UInt8).toNat=0:=rfl;omega))
     simp only[e6,bN,ft,aE];rw[nQ hlt2];simp only[bh,o9,H4];cases hr:nt (l[i+1].toNat:Int) with
     |true=>
      have:¬(l[i+1]≠0/\true=false):=λq=>by cases q.2
      rw[ar this];simp only[bH,aF];rw[ih]
      congr 2;omega
     |false=>rw[az ⟨h6,rfl⟩];rfl
   ·have e5:¬((l[i].toNat:Int)=255):=by
     intro q;exact h5 (nC.1 (by have:(255:UInt8).toNat=255:=rfl;omega))
    rw[AP h5];simp only[e5,bN,aF];rw[ih]
    congr 2;omega
 by_cases h0:l.length=0
 ·rw[my h0];unfold xQ;rw[eA _ _ (by omega)];rfl
 ·unfold xQ;refine Eq.trans (key _ _ rfl (l.length -1) 0 w (by omega) (by omega)) ?_;rw[dX,gm]
def cK(s:bB):List Value:=[.int .i64 s.bR,aj s.data,aj s.scan]
theorem jA(s:bB):(cK s).length=3:=rfl
def dI(l:List bB):Value:=aD cK l
theorem Dv(w:Nat)(n:Int)(b:List UInt8)(p:Nat)(hb:b.length<2^60)(hp:p<=b.length):vm w n (aj b) (p:Int)=some (if((b.length -p:Nat):Int)<n then .inr ((b.length:Int),3,aj b,(p:Int)) else .inl (aj b,(p:Int))):=by
 unfold vm;simp only[cw,iT,cf];rw[aO (by omega) (by omega)];simp
 grind
theorem aiv(w:Nat)(b:List UInt8)(p:Nat)(hb:b.length<2^60)(hp:p<=b.length):tq w (aj b) (p:Int)=some (match b.drop p with
 |[]=>.inr ((b.length:Int),3,aj b,(p:Int))
 |[x]=>if x=255 then .inr ((b.length:Int),3,aj b,(p:Int)) else .inr ((p:Int),2,aj b,(p:Int))
 |x::m::_=>if x≠255 then .inr ((p:Int),2,aj b,(p:Int)) else if((decide (p=0)!=decide (m=216))||!(iG m.toNat||jy m.toNat))=true then .inr ((p:Int),2,aj b,(p:Int)) else .inl ((m.toNat:Int),aj b,((p+2:Nat):Int))):=by
 unfold tq EO;rw[Dv w 1 b p hb hp];simp only[aB];by_cases h1:p<b.length
 case neg=>rw[az (by omega),vO (by omega)];rfl
 rw[ar (by omega),cX h1];simp only[iC,bQ];rw[nQ h1];simp only[bh,o9,bW];by_cases h2:b[p]=255
 case neg=>
  have e2:¬((b[p].toNat:Int)=255):=by intro q;exact h2 (nC.1 (by have:(255:UInt8).toNat=255:=rfl;omega))
  simp only[e2,bN,ft,aE];generalize b.drop (p+1)=r;cases r with
  |nil=>simp only;rw[ar h2]
  |cons m r=>simp only;rw[az h2]
 have e2:((b[p].toNat:Int)=255):=by rw[h2];rfl
 simp only[e2,aY,aF];rw[Dv w 2 b p hb hp];simp only[aB];by_cases h3:p+1<b.length
 case neg=>rw[az (by omega),vO (show b.length<=p+1 by omega),h2];simp
 rw[ar (by omega),cX h3,h2];simp only[iC,cc,ne_eq,gK];rw[aO (by omega) (by omega),show(p:Int)+1=((p+1:Nat):Int) by omega];simp only[bQ];rw[nQ h3];simp only[bh,o9,H4,XM];generalize b[p+1]=m;have hp0:decide ((p:Int)=0)=decide (p=0):=by rw[ig,bX,bX];omega
 have h216:decide ((m.toNat:Int)=216)=decide (m=216):=by
  rw[ig,bX,bX];constructor
  ·intro q;exact nC.1 (by have:(216:UInt8).toNat=216:=rfl;omega)
  ·rintro rfl;rfl
 have h217:decide ((m.toNat:Int)=217)=decide (m=217):=by
  rw[ig,bX,bX];constructor
  ·intro q;exact nC.1 (by have:(217:UInt8).toNat=217:=rfl;omega)
  ·rintro rfl;rfl
 have hal:iG (m.toNat:Int)=(decide (m=216)||decide (m=217)):=by rw[<-h216,<-h217];unfold iG;simp
 rw[hp0,h216,h217,hal,aO (by omega) (by omega)];by_cases c0:p=0
 ·by_cases c1:m=216
  ·subst c1;simp[c0]
  ·simp[c0,c1]
 ·by_cases c1:m=216
  ·subst c1;simp[c0]
  ·by_cases c2:m=217
   ·subst c2;simp[c0]
   ·cases jy (m.toNat:Int)<;>simp[c0,c1,c2]
theorem acB(b:List UInt8)(p:Nat)(h:p+1<b.length):oH b p 2 2=some ((b[p].toNat*256+b[p+1].toNat:Nat):Int):=by
 have:=wI (l:=b) (p:=p) (.inr (.inl rfl)) (.inr rfl) (by omega);rw[show((2:Nat):Int)=2 from rfl] at this;rw[this];have:gG b p 2 2=[b[p],b[p+1]]:=by unfold gG;rw[cX (by omega),cX (show p+1<b.length by omega)];rfl
 rw[this];unfold gU;simp
theorem ait{w:Nat}(m:Int)(b:List UInt8)(p:Nat)(hb:b.length<2^29)(hp:p<=b.length)(hw:b.length+10<w):tj w m (aj b) (p:Int)=some (if iG m=true then .inl (m,aj [],aj [],aj b,(p:Int)) else match b.drop p with
 |x::y::t=>if x.toNat*256+y.toNat<2 then .inr ((p:Int),2,aj b,(p:Int)) else if b.length -p<x.toNat*256+y.toNat then .inr ((b.length:Int),3,aj b,(p:Int)) else
  .inl (m,aj ((b.drop (p+2)).take (x.toNat*256+y.toNat -2)),aj ((b.drop (p+(x.toNat*256+y.toNat))).take (if m=218 then ej (b.drop (p+(x.toNat*256+y.toNat))) else 0)),aj b,((p+(x.toNat*256+y.toNat)+(if m=218 then ej (b.drop (p+(x.toNat*256+y.toNat))) else 0):Nat):Int))
 |_=>.inr ((b.length:Int),3,aj b,(p:Int))):=by
 unfold tj;rw[MK];simp only[aB];cases ha:iG m with
 |true=>rfl
 |false=>
 simp only[aF,kx,gK];rw[Dv w 2 b p (by omega) hp];simp only[aB];by_cases h3:p+1<b.length
 case neg=>
  rw[az (by omega)];have hl:(b.drop p).length<=1:=by rw[eS];omega
  split
  ·rename_i q;rw[q] at hl;simp at hl
  ·rfl
 rw[ar (by omega),cX (show p<b.length by omega),cX h3];simp only[iC];rw[A8 (by omega) b (by omega) _ _ _ (by omega),acB b p h3];simp only[aB,aV];have hx:=b[p].toNat_lt;have hy:=b[p+1].toNat_lt;generalize hn:b[p].toNat*256+b[p+1].toNat=n;by_cases c1:n<2
 ·have:((n:Int)<2):=by omega
  simp_all
 have e4:¬((n:Int)<2):=by omega
 simp only[e4,bN,aF,ar c1];rw[Dv w (n:Int) b p (by omega) hp];simp only[aB];by_cases c2:b.length -p<n
 ·have:((b.length -p:Nat):Int)<(n:Int):=by omega
  rw[az this,az c2];rfl
 rw[ar (by omega),ar c2];simp only[iC,cc,cw];rw[aO (n:=(p:Int)+(n:Int)) (by omega) (by omega),aO (n:=(p:Int)+2) (by omega) (by omega),show(p:Int)+(n:Int)=((p+n:Nat):Int) by omega,show(p:Int)+2=((p+2:Nat):Int) by omega];have e6:p+n<=b.length:=by omega
 have e7:p+2<=p+n:=by omega
 simp only[bQ,fW,e6,e7,aL,aY,jj,aE];rw[lM b e6,show p+n -(p+2)=n -2 by omega,re w _ (by rw[dJ,eS];omega)];simp only[aB,bW];by_cases c3:m=218
 ·simp only[c3,aY,aE,dW];rw[lM b (aL _),fe (by rw[eS];omega),XL _ (by rw[eS];omega) (by rw[eS];omega)];simp only[aB];have hs:=AR (b.drop (p+n));rw[eS] at hs;rw[aO (by omega) (by omega),show((p+n:Nat):Int)+(ej (b.drop (p+n)):Int)=((p+n+ej (b.drop (p+n)):Nat):Int) by omega];have e8:p+n+ej (b.drop (p+n))<=b.length:=by omega
  have e9:p+n<=p+n+ej (b.drop (p+n)):=by omega
  simp only[bQ,e8,e9,aY,jj,aE];rw[lM b e8,Hq,re w _ (by rw[dJ,eS];omega)];simp only[aB]
 ·simp_all;rfl
theorem step_eq{β:Type}{w:Nat}(b:List UInt8)(p:Nat)(hb:b.length<2^29)(hp:p<=b.length)(hw:b.length+10<w)(G:Int×Value×Value×Value×Int->Option β)(E:Int×Int×Value×Int->Option β):
 match jR (decide (p=0)) (b.drop p) with
 | .short=>∃q,(ob (tq w (aj b) (p:Int)) λx14=>dr x14 (λx15=>ob (tj w x15.fst x15.snd.fst x15.snd.snd) λx16=>dr x16 G E) E)=E ((b.length:Int),3,aj b,q)
 | .form k=>∃q,(ob (tq w (aj b) (p:Int)) λx14=>dr x14 (λx15=>ob (tj w x15.fst x15.snd.fst x15.snd.snd) λx16=>dr x16 G E) E)=E (((p+k:Nat):Int),2,aj b,q)
 | .last s t=>∃q:Nat,(ob (tq w (aj b) (p:Int)) λx14=>dr x14 (λx15=>ob (tj w x15.fst x15.snd.fst x15.snd.snd) λx16=>dr x16 G E) E)=G (s.bR,aj s.data,aj s.scan,aj b,(q:Int))/\b.drop q=t/\p+2<=q/\q<=b.length/\s.bR=217
 | .more s t=>∃q:Nat,(ob (tq w (aj b) (p:Int)) λx14=>dr x14 (λx15=>ob (tj w x15.fst x15.snd.fst x15.snd.snd) λx16=>dr x16 G E) E)=G (s.bR,aj s.data,aj s.scan,aj b,(q:Int))/\b.drop q=t/\p+2<=q/\q<=b.length/\s.bR≠217:=by
 rw[aiv w b p (by omega) hp];have hlen:(b.drop p).length=b.length -p:=eS;have hd2:b.drop (p+2)=(b.drop p).drop 2:=by rw[List.drop_drop]
 generalize hr:b.drop p=r at hlen hd2;cases r with
 |nil=>exact⟨_,rfl⟩
 |cons x r=>
  cases r with
  |nil=>
   dsimp only[jR];by_cases h1:x=255
   ·simp_all;exact⟨_,rfl⟩
   ·simp_all;exact⟨_,rfl⟩
  |cons m t=>
   have h2:p+2<=b.length:=by simp at hlen;omega
   dsimp only[jR];by_cases h1:x=255
   case neg=>have h1':x≠255:=h1;simp_all;exact⟨_,rfl⟩
   have h1':¬(x≠255):=λq=>q h1;simp only[ar h1'];by_cases h3:((decide (p=0)!=decide (m=216))||!(iG m.toNat||jy m.toNat))=true
   ·simp_all;exact⟨_,rfl⟩
   simp only[ar h3,aB,iC];have hdt:b.drop (p+2)=t:=hd2;by_cases h4:m=217
   ·subst h4;have:iG ((217:UInt8).toNat:Int)=true:=rfl;exact⟨p+2,rfl,hdt,aL _,h2,by first|rfl|trivial⟩
   simp only[ar h4];by_cases h5:m=216
   ·subst h5;have:iG ((216:UInt8).toNat:Int)=true:=rfl;exact⟨p+2,rfl,hdt,aL _,h2,by decide⟩
   simp only[ar h5];have hal:iG (m.toNat:Int)=false:=by
    unfold iG;rw[fH]
    rintro (e|e)
    ·exact h5 (nC.1 (by have:(216:UInt8).toNat=216:=rfl;omega))
    ·exact h4 (nC.1 (by have:(217:UInt8).toNat=217:=rfl;omega))
   have h218:((m.toNat:Int)=218)=(m=218):=by
    apply propext;constructor
    ·intro q;exact nC.1 (by have:(218:UInt8).toNat=218:=rfl;omega)
    ·rintro rfl;rfl
   have hm217:(m.toNat:Int)≠217:=by intro q;exact h4 (nC.1 (by have:(217:UInt8).toNat=217:=rfl;omega))
   rw[ait _ b (p+2) hb h2 hw,hdt];simp only[hal,kx,gK,h218,aB];have htl:t.length=b.length -(p+2):=by rw[<-hdt,eS]
   cases t with
   |nil=>simp only[G9];exact⟨_,rfl⟩
   |cons a t=>
    cases t with
    |nil=>simp only[G9];exact⟨_,rfl⟩
    |cons c t=>
     simp only;generalize a.toNat*256+c.toNat=n;by_cases c1:n<2
     ·simp only[az c1,G9];exact⟨_,rfl⟩
     simp only[ar c1];by_cases c2:(a::c::t).length<n
     ·have c2':b.length -(p+2)<n:=by omega
      simp_all;exact⟨_,rfl⟩
     have c2':¬(b.length -(p+2)<n):=by omega
     simp only[ar c2,ar c2',iC];have e1:b.drop (p+2+n)=(a::c::t).drop n:=by rw[<-hdt,List.drop_drop]
     have e2:b.drop (p+2+2)=(a::c::t).drop 2:=by rw[<-hdt,List.drop_drop]
     rw[e1,e2];have hk:(if m=218 then ej ((a::c::t).drop n) else 0)<=b.length -(p+2+n):=by have:=AR ((a::c::t).drop n);rw[<-e1,eS] at this;rw[<-e1];split<;>omega
     refine⟨_,rfl,?_,by omega,by omega,hm217⟩;rw[<-List.drop_drop,e1]
theorem GP{w:Nat}(b:List UInt8)(hb:b.length<2^28)(hw:b.length+10<w):yh w (aj b)=some (match ofM b with| .ok l e=>(dI l,(e:Int),0,0)| .bad a e=>(ae 0 [],0,(a:Int),e)):=by
 have key:∀(f:Nat)(l:List bB)(p v:Nat),(b.drop p).length<f->p<=b.length->f+1<v->(p=0↔l=[])->(∀s,l.getLast? =some s->s.bR≠217)->l.length<=p->
  ∀(z:Int->Int->Int->Value->Int->List Value->R6)(F:(Int->Int->Int->Value->Int->List Value->R6)->Int->Int->Int->Value->Int->List Value->R6),(∀g a c d e k x,F g a c d e k x=(bif ah (Int.ofNat (x.length/3)) 0 then rI w e k x g a c d else ax (ag .i64 ((Int.ofNat (x.length/3)).sub 1)) λo=>bif Nat.beq 3 3&&(o*3).blt x.length then af (List.drop (0+o*3+0) x) λp q=>aq .i64 p λr=>bif !ah r 217 then rI w e k x g a c d else bif ah k k then some (ae (x.length/3) x,k,0,0) else none else none))->
  lp z F v 0 0 0 (aj b) (p:Int) (l.flatMap cK)=some (match kg b.length f (decide (p=0)) (b.drop p) with| .ok l' e=>(dI (l++l'),(e:Int),0,0)| .bad a e=>(ae 0 [],0,(a:Int),e)):=by
  intro f;induction f with
  |zero=>intro l p v h;omega
  |succ f ih=>
   intro l p v h hp hv h0 hlast hlp z F hF;have je:(b.drop p).length=b.length -p:=eS;have hfl:(l.flatMap cK).length=l.length*3:=dc jA l;have hr:aw (l.length*3)=true:=by simp;omega
   have hrefl:∀n:Int,ah n n=true:=λn=>by simp
   rw[eA z F (by omega),hF];have hst:=step_eq (w:=w) b p (by omega) hp hw (λk=>bif aw (l.flatMap cK).length&&(aw 1&&(List.take 3 (List.drop 0 [Value.int .i64 k.1,k.2.1,k.2.2.1])).length.beq 3) then lp z F (v -1) 0 0 0 k.2.2.2.1 k.2.2.2.2 (l.flatMap cK++List.take 3 (List.drop 0 [Value.int .i64 k.1,k.2.1,k.2.2.1])) else none) xv;have red:(bif ah (Int.ofNat ((l.flatMap cK).length/3)) 0 then rI w (aj b) p (l.flatMap cK) (lp z F (v -1)) 0 0 0 else ax (ag .i64 ((Int.ofNat ((l.flatMap cK).length/3)).sub 1)) λo=>bif Nat.beq 3 3&&(o*3).blt (l.flatMap cK).length then af (List.drop (0+o*3+0) (l.flatMap cK)) λs q=>aq .i64 s λr=>bif !ah r 217 then rI w (aj b) p (l.flatMap cK) (lp z F (v -1)) 0 0 0 else bif ah p p then some (ae ((l.flatMap cK).length/3) (l.flatMap cK),p,0,0) else none else none)=rI w (aj b) p (l.flatMap cK) (lp z F (v -1)) 0 0 0:=by
    rw[hfl,jk _ (show 0<3 by decide)];by_cases q:l=[]
    ·subst q;rfl
    ·have hpos:0<l.length:=List.length_pos_iff.2 q;have e1:ah (Int.ofNat l.length) 0=false:=by simp;omega
     rw[e1,aF,iT,cf,aO (by omega) (by omega),lK (by omega),show((l.length:Int) -1).toNat=l.length -1 by omega];have e2:(Nat.beq 3 3&&((l.length -1)*3).blt (l.length*3))=true:=by simp;omega
     rw[e2,aE,show 0+(l.length -1)*3+0=(l.length -1)*3 by omega,mW jA,cX (show l.length -1<l.length by omega),dL];have tg:∀(s:bB)(r:List Value),cK s++r=.int .i64 s.bR::aj s.data::aj s.scan::r:=λ_ _=>rfl;simp only[tg,bh,bP];have hm:l[l.length -1].bR≠217:=hlast _ (by rw[List.getLast?_eq_getElem?,cN (by omega)]);have e3:(!ah l[l.length -1].bR 217)=true:=by simp[hm]
     rw[e3,aE]
   refine Eq.trans red ?_;clear red;unfold rI;unfold kg;generalize hs:jR (decide (p=0)) (b.drop p)=sr at hst;cases sr with
   |short=>obtain⟨q,e⟩:=hst;rw[e];unfold xv;simp only[hrefl,aE]
   |form k=>obtain⟨q,e⟩:=hst;rw[e];unfold xv;simp only[hrefl,aE];rw[je,show b.length -(b.length -p)+k=p+k by omega]
   |last s t=>
    obtain⟨q,e,e1,e2,e3,e4⟩:=hst;rw[e];rw[hfl] at*;simp only[hr,show aw 1=true from rfl,dX,oi,pZ,cm,List.length_nil,eD];rw[show Nat.beq (0+1+1+1) 3=true from rfl,aE,eA z F (by omega),hF];have hfl2:(l.flatMap cK++[Value.int .i64 s.bR,aj s.data,aj s.scan])=(l++[s]).flatMap cK:=by rw[fu,dL];rfl
    rw[hfl2];have hfl3:((l++[s]).flatMap cK).length=(l.length+1)*3:=by rw[dc jA,aP];rfl
    rw[hfl3,jk _ (show 0<3 by decide)];have e5:ah (Int.ofNat (l.length+1)) 0=false:=by simp;omega
    rw[e5,aF,iT,cf,aO (by omega) (by omega),lK (by omega),show(((l.length+1:Nat):Int) -1).toNat=l.length by omega];have e6:(Nat.beq 3 3&&(l.length*3).blt ((l.length+1)*3))=true:=by simp
    rw[e6,aE,show 0+l.length*3+0=l.length*3 by omega,mW jA,List.drop_left];have tg:∀(s:bB)(r:List Value),cK s++r=.int .i64 s.bR::aj s.data::aj s.scan::r:=λ_ _=>rfl;simp only[dL,tg,bh,bP,e4];rw[show(!ah 217 217)=false from rfl,aF,hrefl,aE];have e7:b.length -t.length=q:=by rw[<-e1,eS];omega
    rw[e7]
    congr 1
    unfold dI aD;rw[aP];rfl
   |more s t=>
    obtain⟨q,e,e1,e2,e3,e4⟩:=hst;rw[e];rw[hfl] at*;simp only[hr,show aw 1=true from rfl,dX,oi,pZ,cm,List.length_nil,eD];rw[show Nat.beq (0+1+1+1) 3=true from rfl,aE];have hfl2:(l.flatMap cK++[Value.int .i64 s.bR,aj s.data,aj s.scan])=(l++[s]).flatMap cK:=by rw[fu,dL];rfl
    have hdq:(b.drop q).length=b.length -q:=eS;have:=ih (l++[s]) q (v -1) (by omega) e3 (by omega) (by constructor;intro;omega;intro q;simp at q) (λs' h'=>by simp at h';rw[<-h'];exact e4) (by rw[aP];simp;omega) z F hF;rw[hfl2,this,e1];have hq0:decide (q=0)=false:=by simp;omega
    rw[hq0];cases kg b.length f false t with
    |ok l' e=>simp
    |bad a e=>rfl
 unfold yh ofM rI xv;refine Eq.trans (key (b.length+1) [] 0 w (by simp) (by omega) (by omega) (by simp) (λs h=>by simp at h) (by simp) _ _ (λ_ _ _ _ _ _ _=>rfl)) ?_;rfl
theorem MA{w:Nat}(l:List bB)(p:bB->Bool)(P:Int->Value->Value->Option Bool)(hP:∀s∈l,P s.bR (aj s.data) (aj s.scan)=some (p s))(hl:l.length<2^40)(hw:l.length<w):
 (ak (dI l) λx1=>lp (λx2 (x3 x4:Int)=>none) (λx5 (x6:Value) (x7 x8:Int)=>bif ai x8 x7 then ax x8 λx9=>aC 3 x9 x6 λx10=>af x10 λx11 (x12:List Value)=>aq .i64 x11 λx13=>af x12 λx14 (x15:List Value)=>af x15 λx16 (x17:List Value)=>ob (P x13 x14 x16) λx18=>bif x18 then some x8 else x5 x6 x7 (ag .i64 (x8.add 1)) else some (-1)) w (dI l) (Int.ofNat x1) 0)=some (cW p l):=by
 refine mB l p (ev:=λi (g:Value->Int->Int->Option Int)=>g (aD cK l) l.length i) ?_ ?_ hw
 ·intro i g h;simp_all;rw[bu jA h];simp[(show∀(s:bB)(r:List Value),cK s++r=.int .i64 s.bR::aj s.data::aj s.scan::r fromλ_ _=>rfl)];rw[hP _ (cG h),aO (by omega) (by omega)];simp
 simp
theorem Jx{α:Type}(p:α->Bool)(l:List α):(!decide (cW p l<0))=l.any p:=by
 have:=wN p l;cases h:l.any p with
 |true=>grind
 |false=>grind
theorem aie{w:Nat}(l:List bB)(hl:l.length<2^40)(hw:l.length<w):E6 w (dI l)=some (l.any λs=>s.bR==218):=by unfold E6 Nj;rw[MA l (λs=>s.bR==218) (FX w) (λs _=>by unfold FX;rw[bW];rfl) hl hw];simp[Jx]
theorem aip(w:Nat)(m:Int)(a b:Value):AW w m a b=some (o8 m):=by
 unfold AW Nn o8;by_cases h1:m<224
 ·have:¬(224<=m/\m<=239):=by omega
  simp_all
 ·by_cases h2:m<240
  ·have:(224<=m/\m<=239):=by omega
   simp[h1,h2,this]
  ·have:¬(224<=m/\m<=239):=by omega
   simp[h2,this]
theorem aid{w:Nat}(l:List bB)(hl:l.length<2^40)(hw:l.length<w):E8 w (dI l)=some (l.any λs=>o8 s.bR):=by unfold E8 Nk;rw[MA l (λs=>o8 s.bR) (AW w) (λs _=>aip w _ _ _) hl hw];simp[Jx]
theorem DC(L:Nat):∀(f:Nat)(first:Bool)(r:List UInt8)(l:List bB)(e:Nat),kg L f first r=.ok l e->l.length<=f
 |0,_,_,_,_,h=>by cases h
 |f+1,first,r,l,e,h=>by
  unfold kg at h;split at h
  ·grind
  ·grind
  ·grind
  ·split at h
   ·rename_i q;cases h;have:=DC L f _ _ _ _ q;simp_all
   grind
theorem Ob{w:Nat}(b:List UInt8)(hb:b.length<2^28)(hw:b.length+10<w):yg w (aj b)=some (mT b):=by
 unfold yg ME mT;rw[GP b hb hw];cases h:ofM b with
 |bad a e=>
  have he:e≠0:=by
   have:∀(L f:Nat)(first:Bool)(r:List UInt8)(a:Nat)(e:Int),r.length<f->kg L f first r=.bad a e->e≠0:=by
    intro L f;induction f with
    |zero=>omega
    |succ f ih=>
     intro first r a e hr h
     unfold kg at h;split at h
     ·cases h;decide
     ·cases h;decide
     ·cases h
     ·rename_i s t hs;split at h
      ·cases h
      ·refine ih false t a e ?_ h;cases first with
       |true=>
        obtain⟨h1,h2⟩:=Wn hs;have hs2:2<=(cP s).length:=by unfold cP;split<;>simp<;>omega
        have:=bU List.length h2;rw[aP] at this;omega
       |false=>
        obtain⟨h1,h2⟩:=Wo hs;have hs2:2<=(cP s).length:=by unfold cP;split<;>simp<;>omega
        have:=bU List.length h2;rw[aP] at this;omega
   exact this _ _ _ _ _ _ (by omega) h
  simp_all
 |ok l e=>
  have hl:=DC _ _ _ _ _ _ h;have he:=(SQ h).2.1;simp only[aB,aF,cw,aV,cf];by_cases h1:e=b.length
  ·have e1:¬((b.length:Int)<(b.length:Int)):=by omega
   simp_all;rw[aie l (by omega) (by omega)];cases l.any (λs=>s.bR==218) with
   |false=>rfl
   |true=>
    simp;rw[aid l (by omega) (by omega)];simp only[aB]
    congr 1
    rw[List.not_any_eq_all_not]
  ·have e1:((e:Int)<(b.length:Int)):=by omega
   simp only[e1,aY,aE,h1,aB];rfl
theorem B5:∀l:List UInt8,oV (l.map aX)=some (l.map λb=>(b.toNat:Int))
 |[]=>rfl
 |b::l=>by show ob (oV (l.map aX)) _=_;rw[B5 l];rfl
theorem Dt(l:List UInt8):(mkStr (l.map λb=>(b.toNat:Int))).data.toList=l:=by
 unfold mkStr;simp
 conv=>rhs;rw[<-List.map_id l]
 apply List.map_congr_left;simp
theorem ye(w:Nat)(a b:List UInt8):rU w (aj a) (aj b)=some (decide (a=b)):=by
 unfold rU;rw[gY,iv,B5];simp;rw[gY,iv,B5];simp;rw[Dt,Dt,CC]
 grind
theorem AY(w:Nat)(a p:List UInt8):xB w (aj a) (aj p)=some (p.isPrefixOf a):=by
 unfold xB;simp only[cw,aV,cf];by_cases h:p.length<=a.length
 ·have e1:¬((a.length:Int)<(p.length:Int)):=by omega
  simp only[e1,aE,fW,h];rw[lM a h,ye];simp
  congr 1
  rw[ig,bX,pX];constructor
  ·intro q;rw[<-q];exact List.take_prefix _ _
  ·intro q;exact(List.prefix_iff_eq_take.1 q).symm
 ·have e1:((a.length:Int)<(p.length:Int)):=by omega
  simp only[e1,aY,bH,aF]
  congr 1
  rw[eq_comm,Bool.eq_false_iff];intro q;exact h (List.IsPrefix.length_le (pX.1 q))
theorem Oc(w:Nat)(a:List UInt8):BD w (aj a)=some (gh.isPrefixOf a):=by unfold BD AK;have:ae 4 (List.drop 0 [Value.int IntKind.u8 77,Value.int IntKind.u8 80,Value.int IntKind.u8 70,Value.int IntKind.u8 0])=aj gh:=rfl;rw[this,AY];rfl
theorem aiU{w:Nat}(s:bB)(h1:s.scan.length<2^60)(hw:s.scan.length<w):FZ w s.bR (aj s.data) (aj s.scan)=some (lu s):=by
 unfold FZ lu;rw[XM,XL _ h1 hw];simp only[aB,cw,aV,cf,bW];cases jy s.bR with
 |false=>rfl
 |true=>
  by_cases c1:s.data.length<=65533
  ·have e1:¬((65533:Int)<(s.data.length:Int)):=by omega
   simp only[e1,bN,ft,aE,c1];by_cases c2:s.scan.length=0
   ·have e2:((s.scan.length:Int)=0):=by omega
    rw[my c2];rfl
   ·have e2:¬((s.scan.length:Int)=0):=by omega
    have e3:s.scan.isEmpty=false:=by
     cases q:s.scan with
     |nil=>rw[q] at c2;exact absurd rfl c2
     |cons _ _=>rfl
    simp only[e2,bN,aF,e3,yG];by_cases c3:s.bR=218
    ·simp only[c3,aY,aE,eD]
     congr 1
     rw[ig,bX,bX];omega
    ·simp_all
  ·have e1:((65533:Int)<(s.data.length:Int)):=by omega
   simp[e1,aY,bH,aF,c1,bN]
theorem XN(w:Nat)(s:bB)(m:Int)(h1:s.data.length+s.scan.length<2^60):Bg w s.bR (aj s.data) (aj s.scan) m=some (kC s m):=by
 unfold Bg kC;simp_all;rw[aO (by omega) (by omega)];by_cases c1:s.bR=m
 ·simp_all
  congr 1
  rw[ig,bX,bq,List.isEmpty_iff,List.isEmpty_iff];constructor
  ·intro q;exact⟨my (by omega),my (by omega)⟩
  grind
 grind
theorem JX:∀(t:List bB),iz t=true↔∃(h:t≠[]),kC (t.getLast h) 217=true/\∀s∈t.dropLast,lu s=true
 |[]=>by simp[iz]
 |[s]=>by simp[iz]
 |s::s'::t=>by
  simp only[iz,bq,(JX (s'::t))]
  grind
def wc(l:List bB)(m:Nat):Prop:=∀s∈l,s.data.length+s.scan.length<=m
theorem aiy{w m:Nat}(l:List bB)(hm:m<2^59)(hs:wc l m)(hl:l.length<2^40)(hw:l.length<w/\m<w)(h:kK l=true):Fh w (dI l)=some true:=by
 cases l with
 |nil=>cases h
 |cons s t=>
  simp[kK] at h;obtain⟨h1,h2⟩:=h;obtain⟨cu,h3,h4⟩:=(JX t).1 h2;have hpos:=List.length_pos_iff.2 cu;have hlr:∀K:Nat->Option Bool,ak (dI (s::t)) K=K (t.length+1):=λK=>cI cK (s::t) K;have tg:∀(s:bB)(r:List Value),cK s++r=.int .i64 s.bR::aj s.data::aj s.scan::r:=λ_ _=>rfl;unfold Fh;simp at hl hw;simp only[hlr,iT,cf];rw[aO (by omega) (by omega)];have e1:¬((t.length:Int)<1):=by omega
  simp[e1];unfold dI;rw[bu jA (show 0<(s::t).length by simp)];simp_all;have b1:=hs s (by simp);rw[XN w s 216 (by omega)];rw[bu jA (show t.length<(s::t).length by simp)];have e2:(s::t)[t.length]=t.getLast cu:=by rw[List.getLast_eq_getElem];simp only[List.getElem_cons];rw[dif_neg (by omega)]
  simp_all;have b2:=hs (t.getLast cu) (by simp);rw[XN w _ 217 (by omega)];have e4:1<=t.length:=hpos;simp_all;rw[um jA (s::t) (show t.length<=(s::t).length by simp)];have e5:((s::t).drop 1).take (t.length -1)=t.dropLast:=by rw[List.drop_one,List.tail_cons,List.dropLast_eq_take]
  rw[e5];unfold MG Nl;have:=MA (w:=w) t.dropLast (λs=>!lu s) (FY w) (λx hx=>by unfold FY;have b3:=hs x (by simp[(λx hx=>List.dropLast_subset t hx) x hx]);rw[aiU x (by omega) (by omega)];rfl) (by rw[List.length_dropLast];omega) (by rw[List.length_dropLast];omega);unfold dI at this;rw[this];simp only[aB,aV,Jx];have:(t.dropLast.any λs=>!lu s)=false:=by rw[List.any_eq_false];intro x hx;rw[h4 x hx];simp
  rw[this];rfl
theorem OS{l:List bB}(h:kK l=true){s:bB}(hs:s∈l):0<=s.bR/\s.bR<256/\(iG s.bR=true->s.data=[]/\s.scan=[])/\s.data.length<=65533:=by
 cases l with
 |nil=>grind
 |cons a t=>
  simp[kK] at h;obtain⟨h1,h2⟩:=h;obtain⟨cu,h3,h4⟩:=(JX t).1 h2;have bare:∀(x:bB)(m:Int),kC x m=true->x.bR=m/\x.data=[]/\x.scan=[]:=λx m q=>by unfold kC at q;simp_all
  rcases cO.1 hs with rfl|hs
  ·grind
  ·have:=List.dropLast_concat_getLast cu;rw[<-this] at hs;rcases fF.1 hs with hs|hs
   ·have q:=h4 s hs;unfold lu jy at q
    grind
   grind
theorem agM(n:Nat):aW n 2 2=[UInt8.ofNat (n/256%256),UInt8.ofNat (n%256)]:=rfl
theorem Yh{w m:Nat}(A:Hand w)(l:List bB)(hm:m<2^27)(hs:wc l m)(hl:l.length<2^27)(hw:l.length<w/\m<w/\20<=w)(h:kK l=true)(hb:(cJ l).length<2^28):vy w (dI l)=some (aj (cJ l),0):=by
 unfold vy;rw[aiy l (by omega) hs (by omega) ⟨hw.1,hw.2.1⟩ h];have hlr:∀K:Nat->Option (Value×Int),ak (dI l) K=K l.length:=λK=>cI cK l K;rw[hlr];unfold dI;refine nb (σ:=List UInt8) (ev:=λi s (g:Value->Int->Int->List Value->Option (Value×Int))=>g (aD cK l) l.length i (s.map aX)) (Inv:=λi s=>s++cJ (l.drop i)=cJ l) l.length [] ?_ ?_ ?_ (by omega)
 ·rfl
 ·rintro i g s hi hI
  rw[cX hi,kR] at hI;refine⟨s++cP l[i],by rw[<-hI,dO],?_⟩;have hmem:=cG hi;obtain⟨m1,m2,m3,m4⟩:=OS h hmem;have hsz:=hs _ hmem;have e1:((i:Int)<(l.length:Int)):=by omega
  have hlen:=bU List.length hI;simp only[aP] at hlen;simp only[aV,e1,aY,aE,bQ];rw[bu jA hi];have tg:∀(s:bB)(r:List Value),cK s++r=.int .i64 s.bR::aj s.data::aj s.scan::r:=λ_ _=>rfl;simp only[tg,bh,bP];have hw8:ag IntKind.u8 l[i].bR=((UInt8.ofNat l[i].bR.toNat).toNat:Int):=by rw[oz,IntKind.wrap_u8,qW];omega
  have e2:Value.int IntKind.u8 255=aX 255:=rfl;have e3:Value.int IntKind.u8 ((UInt8.ofNat l[i].bR.toNat).toNat:Int)=aX (UInt8.ofNat l[i].bR.toNat):=rfl;have r1:aw s.length=true:=by simp;omega
  simp only[hw8,e2,e3,cZ,r1,show aw 2=true from rfl,dX,oi,pZ,cm,List.length_nil,eD];rw[show Nat.beq (0+1+1) 2=true from rfl,aE,MK];simp only[aB,cw,cc,cf];rw[aO (n:=(i:Int)+1) (by omega) (by omega)];cases ha:iG l[i].bR with
  |true=>
   simp only[aE];have:cP l[i]=[255,UInt8.ofNat l[i].bR.toNat]:=by unfold cP;rw[az ha]
   rw[this,gV];rfl
  |false=>
   simp only[aF];have hsb:cP l[i]=[255,UInt8.ofNat l[i].bR.toNat]++(aW (l[i].data.length+2) 2 2++(l[i].data++l[i].scan)):=by unfold cP;rw[ha,agM,qa (show(l[i].data.length+2)/256<256 by omega)];simp
   rw[aO (n:=(l[i].data.length:Int)+2) (by omega) (by omega),rM (by omega),az (show fQ 2 2=true from rfl)];have hp:oP ((l[i].data.length:Int)+2) (2:Int).toNat 2=some (aW (l[i].data.length+2) 2 2):=by
    unfold oP;rw[az ⟨by omega,by show _<((256^2:Nat):Int);omega⟩]
    congr 1
   rw[hp];simp only[aB];have hc:=A.cat (aW (l[i].data.length+2) 2 2) l[i].data l[i].scan (s++[255,UInt8.ofNat l[i].bR.toNat]) (by rw[ef];omega) (by rw[ef,aP];simp only[cm,List.length_nil];omega);rw[gV] at hc;have hc:tr w (aj (aW (l[i].data.length+2) 2 2)) (aj l[i].data) (aj l[i].scan) (s.map aX++[aX 255,aX (UInt8.ofNat l[i].bR.toNat)])=_:=hc;rw[hc];simp only[aB];rw[hsb];simp only[dO];rfl
 ·rintro g s hI
  rw[qT] at hI;simp only[cJ,lD,dQ] at hI;subst hI;have e1:¬((l.length:Int)<(l.length:Int)):=by omega
  simp only[aV,e1,bN,aF];rw[uh _ _ (by rw[ky,cZ])];rfl
noncomputable def SB(w:Nat)(rest ch:Value)(cs:List Value):Option (Value×Int):=
 ak ch λ(x31:Nat)=>lp (λ(x32 x33:Value)(x34 x35:Int)(x36:List Value)=>none) (λ(x37:Value->Value->Int->Int->List Value->Option (Value×Int))(x38 x39:Value)(x40 x41:Int)(x42:List Value)=>bif ai x41 x40 then ax x41 λ(x43:Nat)=>aC 1 x43 x39 λ(x44:List Value)=>af x44 λ(x45:Value)(x46:List Value)=>ob (yi w 226 x45 x42) λ(x47:List Value)=>x37 x38 x39 x40 (ag .i64 (x41.add 1)) x47 else ak x38 λ(x48:Nat)=>bif x48.ble x48&&Nat.ble 1 x48 then eJ 3 1 x48 x38 λ(x49:Value)=>cn 3 x49 λ(x50:Nat)(x51:List Value)=>bif aw x42.length&&(aw x50&&x51.length.beq (x50*3)) then ob (vy w (ae ((x42++x51).length/3) (x42++x51))) λ(x52:Value×Int)=>some (x52.fst,x52.snd) else none else none) w rest ch (Int.ofNat x31) 0 cs
theorem Zz(l:List UInt8):(fo l).length=1:=rfl
theorem Wp(l:List bB):ae ((l.flatMap cK).length/3) (l.flatMap cK)=dI l:=by unfold dI aD;rw[dc jA,jk _ (show 0<3 by decide)]
theorem Yg(w:Nat)(m:Int)(d:List UInt8)(P:List bB)(h:P.length<300000000):yi w m (aj d) (P.flatMap cK)=some ((P++([⟨m,d,[]⟩]:List bB)).flatMap cK):=by unfold yi AM;simp only[(dc jA P),(show aw (P.length*3)=true from by simp;omega)];rw[fu];rfl
theorem acs{w m:Nat}(A:Hand w)(s0:bB)(r P:List bB)(ch:List (List UInt8))(L:List bB)(hL:L=P++(ch.map (λc=>⟨226,c,[]⟩)++r))(hm:m<2^27)(hs:wc L m)(hl:L.length<2^27)(hw:L.length<w/\m<w/\20<=w)(h:kK L=true)(hb:(cJ L).length<2^28):SB w (dI (s0::r)) (aD fo ch) (P.flatMap cK)=some (aj (cJ L),0):=by
 have hLl:L.length=P.length+(ch.length+r.length):=by rw[hL];simp
 unfold SB;refine nb (σ:=List bB) (ev:=λi s (g:Value->Value->Int->Int->List Value->Option (Value×Int))=>g (dI (s0::r)) (aD fo ch) ch.length i (s.flatMap cK)) (Inv:=λi s=>s++((ch.drop i).map (λc=>⟨226,c,[]⟩)++r)=L) ch.length P ?_ ?_ ?_ (by omega)
 ·rw[dX,<-hL]
 ·rintro i g s hi hI
  rw[cX hi,iD] at hI;refine⟨s++[⟨226,ch[i],[]⟩],by rw[<-hI];simp,?_⟩;have hlen:=bU List.length hI;simp at hlen;have e1:((i:Int)<(ch.length:Int)):=by omega
  simp only[aV,e1,aE,bQ];rw[bu Zz hi];have tg:∀(b:List UInt8)(r:List Value),fo b++r=aj b::r:=λ_ _=>rfl;simp only[tg,bh];rw[Yg w 226 ch[i] s (by omega)];simp only[cc];rw[aO (by omega) (by omega)];rfl
 ·rintro g s hI
  simp at hI;have hlen:=bU List.length hI;simp at hlen;have e1:¬((ch.length:Int)<(ch.length:Int)):=by omega
  simp only[aV,e1,aF];have hlr:∀K:Nat->Option (Value×Int),ak (dI (s0::r)) K=K (r.length+1):=λK=>cI cK (s0::r) K;simp only[hlr,fW,(by omega),aL,aY,jj,aE];unfold dI;rw[um jA (s0::r) (show r.length+1<=(s0::r).length by simp)];have e3:((s0::r).drop 1).take (r.length+1 -1)=r:=by simp
  rw[e3,zy jA];have hf2:(r.flatMap cK).length=r.length*3:=dc jA r;have r1:aw (s.length*3)=true:=by simp;omega
  have r2:aw r.length=true:=by simp;omega
  rw[(dc jA s),hf2,r1,r2,mL];rw[<-fu,hI,Wp,Yh A L hm hs hl hw h hb];rfl
theorem MB:∀{r:List bB}{s:bB},s∈r->(cP s).length<=(cJ r).length
 |[],s,h=>by grind
 |a::r,s,h=>by
  rw[kR,aP];rcases cO.1 h with rfl|h
  ·simp
  ·have:=MB h;omega
theorem XX{w m:Nat}(W:dD w){x:ou}{aS:List UInt8}(h:yJ x aS)(hx:jm x.aG 9000)(hm:m<2^24)(hc:x.core.length<=m/\x.cd.length<=m/\x.cF.length<=m)(hw:2*m+200000<w)(a b:Int):
 xX w x.aG.order (au x.aG.cj) (au x.aG.bD) (au x.aG.bG) (au x.aG.bj) (au x.aG.first) (aj x.aG.bC) (aj x.aG.cC) (aj x.cd) (aj x.core) (aj x.cF) a b=some (aj (eY x aS),0):=by
 have hb:=W.jZ;have hA:=W.hand;obtain⟨-,hp1,hp2,hp3,-⟩:=yU h.app h.rows;obtain⟨r,c1,c2,c3,c4,c5,c6⟩:=CM h.core;have hmayL:=Jy h.core hp2 h.cd (by rcases h.cF with q|q;omega;exact q.2);have hcl:(⟨216,[],[]⟩::r:List bB).length<=x.core.length+1:=DC _ _ _ _ _ _ c1;have hrl:r.length<=x.core.length:=by simpa using hcl
 have hchl:(fY x.cd).length<=1:=by unfold fY;split<;>simp
 have hLdef:jO x aS=[⟨216,[],[]⟩,⟨225,aS,[]⟩]++((if x.cF.length=0 then[] else[⟨226,x.cF,[]⟩])++((fY x.cd).map (λc=>⟨226,c,[]⟩)++r)):=by unfold jO;rw[c2];rfl
 have hLl:(jO x aS).length<=x.core.length+4:=by rw[hLdef];simp only[aP,cZ,cm,List.length_nil];split<;>simp<;>omega
 have hwr:∀s∈r,(cP s).length<=x.core.length:=by intro s hs;have:=bU List.length c4;rw[kR,aP] at this;have hle:=MB hs;omega
 have hmayC:kK (⟨216,[],[]⟩::r)=true:=by show(true&&iz r)=true;rw[c3];rfl
 have hsegs:wc (jO x aS) (m+70000):=by
  intro s hs;rw[hLdef] at hs;rcases fF.1 hs with hs|hs
  ·simp only[cO,mK,mN] at hs;rcases hs with rfl|rfl
   ·simp
   ·simp only[List.length_nil];omega
  ·rcases fF.1 hs with hs|hs
   ·split at hs
    ·cases hs
    ·rw[oY.1 hs];simp only[List.length_nil];omega
   ·rcases fF.1 hs with hs|hs
    ·obtain⟨c,hc',rfl⟩:=List.mem_map.1 hs;have:=PV h.cd hc';simp only[List.length_nil];omega
    ·have h1:=hwr s hs;by_cases ha:iG s.bR=true
     ·obtain⟨-,-,q,-⟩:=OS hmayC (mJ _ hs);obtain⟨q1,q2⟩:=q ha;rw[q1,q2];simp
     ·unfold cP at h1;rw[ar ha] at h1;simp at h1;omega
 have hwl:(cJ (jO x aS)).length<2^28:=by
  have e:cJ (jO x aS)=cP ⟨216,[],[]⟩++(cP ⟨225,aS,[]⟩++(cJ (if x.cF.length=0 then[] else[⟨226,x.cF,[]⟩])++(cJ ((fY x.cd).map (λc=>⟨226,c,[]⟩))++cJ r))):=by rw[hLdef];simp[cJ]
  have k1:(cP ⟨216,[],[]⟩).length=2:=rfl;have k2:(cP ⟨225,aS,[]⟩).length<=aS.length+4:=by unfold cP;split<;>simp<;>omega
  have k3:(cJ (if x.cF.length=0 then[] else[⟨226,x.cF,[]⟩])).length<=x.cF.length+4:=by
   split
   ·simp[cJ]
   ·simp only[cJ,dL,lD,dQ];unfold cP;split<;>simp<;>omega
  have k4:(cJ ((fY x.cd).map (λc=>⟨226,c,[]⟩))).length<=x.cd.length+30:=by
   unfold fY;split
   ·simp[cJ]
   ·simp[cJ];unfold cP;split<;>simp[fJ]<;>omega
  have k5:(cJ r).length<=x.core.length:=by have:=bU List.length c4;rw[kR,aP] at this;omega
  rw[e];simp only[aP,k1];omega
 have hcut:=hA.cut x.cd h.cd;have h32:=N2 W hx;rw[h.app] at h32;have hmb:x.core.length<2^28:=by omega
 have h50:=Ob (w:=w) x.core hmb (by omega);rw[h.core] at h50;have h52:=GP (w:=w) x.core hmb (by omega);rw[c1] at h52;have ix0:∀(K:List Value->Option (Value×Int)),aC 3 0 (dI (⟨216,[],[]⟩::r)) K=K (.int .i64 216::aj []::aj []::r.flatMap cK):=by intro K;unfold dI;rw[bu jA (show 0<(⟨216,[],[]⟩::r:List bB).length by simp)];rfl
 have h53:Od w 225 (aj aS) [Value.int .i64 216,aj [],aj []]=some ([⟨216,[],[]⟩,⟨225,aS,[]⟩].flatMap cK):=rfl;have fin:=λP hL=>acs (m:=m+70000) hA ⟨216,[],[]⟩ r P (fY x.cd) (jO x aS) hL (by omega) hsegs (by omega) ⟨by omega,by omega,by omega⟩ hmayL hwl;unfold xX Mi Ms;rw[h32];simp only[aB,show ah 0 0=true from rfl,bH,aF];rw[hcut];simp only[aB,show ah 0 0=true from rfl,bH,aF];rw[h50];simp only[aB,bH,aF,cw];by_cases hmp:x.cF.length=0
 ·have e1:ai 0 (Int.ofNat x.cF.length)=false:=by rw[hmp];rfl
  have e2:ai 65533 (Int.ofNat x.cF.length)=false:=by rw[hmp];rfl
  simp only[e1,e2,aF];rw[h52];simp only[aB,ix0,bh,bP];rw[h53];simp only[aB];exact fin _ (by rw[hLdef,az hmp];rfl)
 ·have e1:ai 0 (Int.ofNat x.cF.length)=true:=by simp;omega
  obtain⟨m1,m2⟩:=h.cF.resolve_left hmp;have e2:ai 65533 (Int.ofNat x.cF.length)=false:=by simp;omega
  simp only[e1,aE];rw[Oc,m1];simp only[aB,bH,aF,e2];rw[h52];simp only[aB,ix0,bh,bP];rw[h53];simp only[aB];rw[Yg w 226 x.cF _ (by simp)];simp only[aB];exact fin _ (by rw[hLdef,ar hmp];simp)
def eu(T:List Nat):List Value:=T.map λn:Nat=>.int .u64 (n:Int)
theorem Za{T:List Nat}{i:Nat}(h:i<T.length):(eu T).drop i=.int .u64 (T[i]:Int)::eu (T.drop (i+1)):=by unfold eu;rw[<-List.map_drop,cX h,iD]
def CE(T:List Nat)(p:Nat):Bool:=((T[p/64]?).getD 0).testBit (p%64)
def ga(S:List bn)(p:Nat):Bool:=S.any λs=>decide (s.at_<=p/\p<s.at_+s.cx)
structure Tk(T:List Nat)(L:Nat)(P:Nat->Bool):Prop where
 len:T.length=L/64+1
 lt:∀n∈T,n<2^64
 bit:∀p,p<L->CE T p=P p
theorem Sk(p:Nat)(hp:p<2^60):ag IntKind.u64 (((BitVec.ofInt 64 (ag IntKind.u64 (p:Int))&&&BitVec.ofInt 64 63).toNat:Nat):Int)=((p%64:Nat):Int):=by
 rw[si (n:=(p:Int)) (by simp) (by omega)];have e:(BitVec.ofInt 64 (p:Int)&&&BitVec.ofInt 64 63).toNat=p%64:=by rw[BitVec.ofInt_natCast,BitVec.toNat_and,BitVec.toNat_ofNat,qa (by omega)];exact Nat.and_two_pow_sub_one_eq_mod p 6
 rw[e];exact si (by omega) (by omega)
theorem Zt(n k:Nat)(hn:n<2^64)(hk:k<64):ah (((BitVec.ofInt 64 ((n:Int).fdiv (2^min ((k:Int)).toNat 64))&&&BitVec.ofInt 64 1).toNat:Nat):Int) 1=n.testBit k:=by
 rw[mI,kU (by omega)];have e:(n:Int).fdiv (2^k)=((n/2^k:Nat):Int):=by grind
 rw[e,BitVec.ofInt_natCast,bW]
 grind
theorem or_eq(n k:Nat)(hn:n<2^64)(hk:k<64):ag IntKind.u64 (((BitVec.ofInt 64 (n:Int)|||BitVec.ofInt 64 (ag IntKind.u64 (Int.mul 1 (2^min ((k:Int)).toNat 64)))).toNat:Nat):Int)=((n|||2^k:Nat):Int)/\n|||2^k<2^64:=by have hk2:2^k<2^64:=Nat.pow_lt_pow_right (by simp) hk;have hor:=Nat.or_lt_two_pow hn hk2;refine⟨?_,hor⟩;rw[mI,kU (by omega),oI,Int.one_mul,(show(2:Int)^k=((2^k:Nat):Int) from(Int.natCast_pow 2 k).symm),si (n:=((2^k:Nat):Int)) (Int.natCast_nonneg _) (by grind),BitVec.ofInt_natCast,BitVec.ofInt_natCast,BitVec.toNat_or,BitVec.toNat_ofNat,BitVec.toNat_ofNat,qa hn,qa hk2];exact si (by simp) (by omega)
theorem IE(p:Nat)(hp:p<2^60):(p:Int).fdiv (2^6)=((p/64:Nat):Int):=by grind
theorem ajL(w:Nat){T:List Nat}{L:Nat}{P:Nat->Bool}(H:Tk T L P)(hL:L<2^50)(p:Nat)(hp:p<L)(b:Value)(o:Int)(sh:Value)(c:Nat)(no so:Int)(S:List Value):
 GB w (p:Int) b o sh T.length c no so (eu T) S=some (P p,b,o,sh,T.length,c,no,so,eu T,S):=by
 have hlt:p/64<T.length:=by rw[H.len];omega
 have hb:=H.bit p hp;unfold CE at hb;rw[cN hlt,qb] at hb;unfold GB xr;rw[IE p (by omega)];simp only[bQ,mr,hlt,aY,aE,gD,gm];rw[Za hlt];simp only[bh,bP];rw[(Sk p (by omega))];simp only[aV,(show¬(((p%64:Nat):Int)<0) from by omega),bN,aF];have hx:=Zt T[p/64] (p%64) (H.lt _ (cG hlt)) (by omega);rw[hb] at hx;have hle:(BitVec.ofInt 64 ((T[p/64]:Int).fdiv (2^min (((p%64:Nat):Int)).toNat 64))&&&BitVec.ofInt 64 1).toNat<=1:=by rw[BitVec.toNat_and];have:(BitVec.ofInt 64 1).toNat=1:=rfl;rw[this,Nat.and_one_is_mod];omega
 rw[(λz hz=>si (by omega) (by omega)) _ hle,hx]
theorem ah3{T:List Nat}{L:Nat}{P:Nat->Bool}(H:Tk T L P){p:Nat}(hp:p<L):Tk (T.set (p/64) ((T[p/64]?).getD 0|||2^(p%64))) L (λq=>P q||decide (q=p)):=by
 have hlt:p/64<T.length:=by rw[H.len];omega
 have hw:(T[p/64]?).getD 0<2^64:=by rw[cN hlt];exact H.lt _ (cG hlt)
 refine⟨by rw[List.length_set,H.len],λn hn=>?_,λq hq=>?_⟩
 ·rcases List.mem_or_eq_of_mem_set hn with h|h
  ·exact H.lt n h
  ·rw[h];exact Nat.or_lt_two_pow hw (Nat.pow_lt_pow_right (by simp) (by omega))
 ·have hb:=H.bit q hq;unfold CE at hb⊢
  grind
theorem Gq{w:Nat}{T:List Nat}{L:Nat}{S S':List bn}{x:bn}(H:Tk T L (ga S))(hL:L<2^50)(hw:L+2<w)(ht:kP L S x=.ok S')(hS:S.length<100000000)(b:List UInt8)(hb:b.length=L)(o:Int)(sh:Value)(c:Nat)(no so:Int):
 S'=S++[x]/\∃T',Tk T' L (ga S')/\T'.length=T.length/\qH w x.nz x.dir x.tag (x.at_:Int) (x.cx:Int) (aj b) o sh T.length c no so (eu T) (S.flatMap bV)=some (.inl (aj b,o,sh,T.length,c,no,so,eu T',S'.flatMap bV)):=by
 unfold kP at ht;split at ht
 case isFalse=>cases ht
 rename_i h1;split at ht
 ·cases ht
 rename_i h2;injection ht with ht;subst ht;refine⟨rfl,?_⟩;obtain⟨he,hr⟩:=h1;have hcl:∀q,x.at_<=q->q<x.at_+x.cx->ga S q=false:=by intro q q1 q2;unfold ga;rw[List.any_eq_false];intro s hs;simp only[bX];intro hq;apply h2;unfold CI;rw[List.any_eq_true];exact⟨s,hs,by simp only[bX];omega⟩
 have hfin:∀q,(ga (S++[x]) q)=(ga S q||decide (x.at_<=q/\q<x.at_+x.cx)):=by intro q;unfold ga;rw[List.any_append];simp
 have H0:Tk T L (λq=>ga S q||decide (x.at_<=q/\q<x.at_+0)):=by
  refine⟨H.len,H.lt,λq hq=>?_⟩;rw[H.bit q hq];have:decide (x.at_<=q/\q<x.at_+0)=false:=by simp
  rw[this,Bool.or_false]
 unfold qH Mn Mr xr;have hmod:(x.at_:Int).tmod 2=0:=by rw[Int.tmod_eq_emod_of_nonneg (by omega)];omega
 rw[hmod];simp only[show ah 0 0=true from rfl,aE,cw];rw[GA w ⟨by simp only[oe];omega,by simp only[oe];omega⟩ (by omega)];have hroom:(0<=(x.at_:Int)/\0<=(x.cx:Int)/\(x.at_:Int)<=Int.ofNat b.length/\(x.cx:Int)<=Int.ofNat b.length -(x.at_:Int)):=by simp only[oe];omega
 simp only[aB,hroom,and_self,aY];have h232:eR w true 4=some (.inl ()):=rfl;rw[h232];simp only[aB,iC];generalize hG:lp _ _=G;have hF:=acd hG;clear hG;have key:∀(d k v:Nat)(T:List Nat),k+d=x.cx->d<v->Tk T L (λq=>ga S q||decide (x.at_<=q/\q<x.at_+k))->
  ∃T',Tk T' L (ga (S++[x]))/\T'.length=T.length/\G v ((x.at_+k:Nat):Int) (aj b) o sh T.length c no so x.nz x.dir x.tag (x.at_:Int) (x.cx:Int) (eu T) (S.flatMap bV)=some (.inl (aj b,o,sh,T.length,c,no,so,eu T',(S++[x]).flatMap bV)):=by
  intro d;induction d with
  |zero=>
   intro k v T hk hv HT;obtain⟨u,rfl⟩:∃u,v=u+1:=⟨v -1,by omega⟩;refine⟨T,⟨HT.len,HT.lt,λq hq=>?_⟩,rfl,?_⟩
   ·rw[HT.bit q hq,hfin,show k=x.cx by omega]
   ·simp only[hF];rw[cc,aO (by omega) (by omega)];have e1:¬(((x.at_+k:Nat):Int)<(x.at_:Int)+(x.cx:Int)):=by omega
    have hr1:aw (S.length*5)=true:=by simp;omega
    simp only[aV,e1,bN,aF,vC,hr1,show aw 1=true from rfl,dX,oi,pZ,cm,List.length_nil,eD];rw[show Nat.beq (0+1+1+1+1+1) 5=true from rfl,aE,fu];rfl
  |succ d ih=>
   intro k v T hk hv HT;obtain⟨u,rfl⟩:∃u,v=u+1:=⟨v -1,by omega⟩;have hpL:x.at_+k<L:=by omega
   have hlt:(x.at_+k)/64<T.length:=by rw[HT.len];omega
   have H2:=ah3 HT hpL;have H3:Tk (T.set ((x.at_+k)/64) ((T[(x.at_+k)/64]?).getD 0|||2^((x.at_+k)%64))) L (λq=>ga S q||decide (x.at_<=q/\q<x.at_+(k+1))):=by
    refine⟨H2.len,H2.lt,λq hq=>?_⟩;rw[H2.bit q hq,Bool.or_assoc]
    congr 1
    rw[ig,qS,bX,bX,bX];omega
   obtain⟨T',t1,t2,t3⟩:=ih (k+1) u _ (by omega) (by omega) H3;refine⟨T',t1,by rw[t2,List.length_set],?_⟩;simp only[hF];rw[cc,aO (n:=(x.at_:Int)+(x.cx:Int)) (by omega) (by omega)];have e1:(((x.at_+k:Nat):Int)<(x.at_:Int)+(x.cx:Int)):=by omega
   simp only[aV,e1,aY,aE];have hno:(ga S (x.at_+k)||decide (x.at_<=x.at_+k/\x.at_+k<x.at_+k))=false:=by rw[hcl _ (by omega) (by omega)];simp
   rw[ajL w HT hL (x.at_+k) hpL,hno];simp only[aB];have h232:eR w (!false) 5=some (.inl ()):=rfl;rw[h232];simp only[aB,iC];rw[IE _ (by omega)];simp only[bQ,mr,hlt,aY,aE,gD,gm];rw[Za hlt];simp only[bh,bP];rw[Sk _ (by omega)];have e2:¬((((x.at_+k)%64:Nat):Int)<0):=by omega
   simp only[e2,bN,aF];obtain⟨o1,o2⟩:=or_eq T[(x.at_+k)/64] ((x.at_+k)%64) (HT.lt _ (cG hlt)) (by omega);rw[o1];have e3:(x.at_+k)/64+1<=(eu T).length:=by unfold eu;rw[cZ];omega
   simp only[show∀n:Int,(SV.i IntKind.u64 n).cells.length.beq 1=true fromλ_=>rfl,eD,fW,e3,aY,aE,Ef,cc];rw[aO (by omega) (by omega),show((x.at_+k:Nat):Int)+1=((x.at_+(k+1):Nat):Int) by omega];have hset:(eu T).set ((x.at_+k)/64) (Value.int IntKind.u64 ((T[(x.at_+k)/64]|||2^((x.at_+k)%64):Nat):Int))=eu (T.set ((x.at_+k)/64) ((T[(x.at_+k)/64]?).getD 0|||2^((x.at_+k)%64))):=by unfold eu;rw[cN hlt,qb,<-List.map_set]
   rw[hset];rw[List.length_set] at t3;exact t3
 exact key x.cx 0 w T (by omega) (by omega) H0
theorem Gp{w:Nat}(hw:5<=w)(b:List UInt8)(hb:b.length<2^50){o:Int}(ho:o=1\/o=2)(p s:Nat)(hs:s=2\/s=4)(hp:p+s<=b.length):mG w (aj b) o (p:Int) (s:Int)=some (ca b p s o:Int):=by have:=wI (s:=s) (by omega) ho (by omega);unfold mG ca;rw[A8 hw b (by omega) _ _ _ (by omega),this];simp
structure qc(w L:Nat)(b:List UInt8)(o:Int):Prop where
 len:b.length=L
 small:L<2^29
 wide:L+200000<w
 ord:o=1\/o=2
theorem oT{L:Nat}{S S':List bn}{x:bn}(h:kP L S x=.ok S'):S'=S++[x]/\x.at_%2=0/\x.at_+x.cx<=L:=by
 unfold kP at h
 grind
theorem ajD{w L:Nat}{b:List UInt8}{o:Int}(R:qc w L b o){T:List Nat}{S S':List bn}{x:bk}{t:aJ}{dir:Nat}(H:Tk T L (ga S))(h:rG b o dir S x=.ok (t,S'))(hs:x.slot<4294967296)(hS:S'.length<100000000)(sh:Value)(c:Nat)(no so:Int):
 (∃u,S'=S++u)/\∃T' so',Tk T' L (ga S')/\T'.length=T.length/\
  Gt w x.tag x.ty x.aA (x.slot:Int) (dir:Int) (aj b) o sh T.length c no so (eu T) (S.flatMap bV)=some (.inl (t.tag,t.ty,t.aA,aj t.data,aj b,o,sh,T.length,c,no,so',eu T',S'.flatMap bV)):=by
 have hsm:=R.small;have hlen:=R.len;have hw:=R.wide;have h232:eR w true 6=some (.inl ()):=rfl;unfold rG at h;split at h
 ·cases h
 rename_i h1;have hk:=zL x.ty;have e1:0<(kindOf x.ty).1 :=by omega
 have e2:¬(x.aA<1):=by omega
 have e3:¬(65536<x.aA):=by omega
 unfold Gt ED;rw[X8];simp only[aB,aV,e1,e2,e3,aY,bN,ft,aE];rw[h232];rw[X9];simp only[aB];split at h
 ·rename_i h0;have e4:¬(0<((bK x.ty x.aA:Nat):Int)):=by omega
  simp only[e4,bN,aF];rw[ajP (by omega) _ _ _ _ _ R.ord];have hl:0<iU x.ty x.aA/\iU x.ty x.aA<=4:=by
   unfold bK at h0;have hpos:0<iU x.ty x.aA:=by unfold iU;rw[ar (by omega)];exact Int.mul_pos (by omega) e1
   split at h0<;>omega
  have hv:Hf x.ty x.aA (x.slot:Int) o=(oO x.ty x.aA (aW x.slot 4 o) o).map λd=>(d,((aW x.slot 4 o).drop d.length).all (·==0)):=by unfold Hf;rw[az ⟨by omega,by omega,hl.1,hl.2⟩,mI]
  rw[hv];split at h
  case h_2=>cases h
  rename_i d hd;injection h with h;cases h;rw[hd];simp only[qV,aB];rw[h232];refine⟨⟨[],(dQ _).symm⟩,?_⟩;cases((aW x.slot 4 o).drop d.length).all (·==0)<;>exact⟨T,_,H,rfl,rfl⟩
 ·rename_i h0;have e4:(0<((bK x.ty x.aA:Nat):Int)):=by omega
  simp only[e4,aY,aE];split at h
  ·cases h
  rename_i S2 ht;split at h
  case h_2=>cases h
  rename_i d hd;injection h with h;cases h;obtain⟨a1,a2,a3⟩:=oT ht;obtain⟨_,T',t1,t2,t3⟩:=Gq (w:=w) H (by omega) (by omega) (by rw[<-hlen];exact ht) (by rw[a1,aP] at hS;omega) b hlen o sh c no so;refine⟨⟨_,a1⟩,T',so,t1,t2,?_⟩;dsimp only at t3 a3;rw[t3];simp only[aB,iC,cw,bQ,fW,aL,aY,eD];have e5:x.slot<=b.length:=by omega
  simp[e5];rw[lM _ (aL _),fe (by rw[eS];omega),Ya _ _ _ (by rw[eS];omega) (by rw[eS];omega) _ R.ord,hd];simp;rw[h232];simp
theorem ajd{w L:Nat}{b:List UInt8}{o:Int}(R:qc w L b o)(hL:8<=L)(ho:ll b=o)(h42:ca b 2 2 o=42){T:List Nat}(H:Tk T L (ga []))(sh:Value)(c:Nat)(no so:Int):
 ∃T',Tk T' L (ga [⟨1,-1,0,0,8⟩])/\T'.length=T.length/\
  Gd w (aj b) 0 sh T.length c no so (eu T) []=some (.inl ((ca b 4 4 o:Int),aj b,o,sh,T.length,c,no,so,eu T',[⟨1,-1,0,0,8⟩].flatMap bV)):=by
 have hsm:=R.small;have hlen:=R.len;have hw:=R.wide;have ht:kP L [] ⟨1,-1,0,0,8⟩=.ok [⟨1,-1,0,0,8⟩]:=by unfold kP;rw[az ⟨rfl,by show 0+8<=L;omega⟩];rfl
 obtain⟨_,T',t1,t2,t3⟩:=Gq (w:=w) H (by omega) (by omega) ht (by decide) b hlen o sh c no so;refine⟨T',t1,t2,?_⟩;have h288:=Gp (w:=w) (by omega) b (by omega) R.ord 2 2 (.inl rfl) (by omega);have h4:=Gp (w:=w) (by omega) b (by omega) R.ord 4 4 (.inr rfl) (by omega);have e1:¬(Int.ofNat b.length<8):=by simp;omega
 have e2:2<=b.length:=by omega
 have h232:∀n,eR w true n=some (.inl ()):=λ_=>rfl;unfold Gd AN;simp only[cw,aV,e1,bN,ft,h232,aB,iC,fW,e2,aY,eD,aE];rw[show decide (0<=2)=true from rfl,lM _ e2,gY,iv,B5];simp only[aB];rw[Dt,dX];have hor:(b.take 2=[73,73]/\o=1)\/(b.take 2=[77,77]/\o=2):=by
  unfold ll at ho;split at ho
  ·rename_i q;exact .inl ⟨q,ho.symm⟩
  ·split at ho
   ·rename_i q;exact .inr ⟨q,ho.symm⟩
   ·have:=R.ord;omega
 have h42b:ah ((ca b 2 2 o:Nat):Int) 42=true:=by rw[h42];rfl
 rcases hor with⟨q,rfl⟩|⟨q,rfl⟩
 ·rw[q,show mq [73,73] (ByteArray.mk #[73,73]).data.toList=true from rfl];rw[show(2:Int)=((2:Nat):Int) from rfl,h288];simp only[aB];rw[h42b,h232];simp;refine Eq.trans (bU (λz=>ob z _) t3) ?_;simp;rw[show(4:Int)=((4:Nat):Int) from rfl,h4];rfl
 ·rw[q,show mq [77,77] (ByteArray.mk #[73,73]).data.toList=false from rfl,show mq [77,77] (ByteArray.mk #[77,77]).data.toList=true from rfl,aE];rw[(show mG w (aj b) 2 2 2=some (ca b 2 2 2:Int) from h288)];simp only[aB];rw[h42b,h232];simp;refine Eq.trans (bU (λz=>ob z _) t3) ?_;simp;rw[(show mG w (aj b) 2 4 4=some (ca b 4 4 2:Int) from h4)];rfl
theorem IS(b:List UInt8)(o:Int):∀(n p:Nat),(jL b o p n).length=n
 |0,_=>rfl
 |n+1,p=>by show(jL b o (p+12) n).length+1=n+1;rw[IS]
theorem Qp(b:List UInt8)(o:Int):∀(n p i:Nat)(h:i<(jL b o p n).length),(jL b o p n)[i]=zl b (p+12*i) o
 |0,_,i,h=>absurd h (Nat.not_lt_zero _)
 |n+1,p,0,h=>rfl
 |n+1,p,i+1,h=>by
  show(jL b o (p+12) n)[i]'(by simpa[jL] using h)=_
  rw[Qp b o n (p+12) i]
  grind
theorem Ve:∀{l:List bk},eM l=true->∀{i:Nat}(h:i+1<l.length),l[i].tag<l[i+1].tag
 |[],_,i,h=>by grind
 |[_],_,i,h=>by grind
 |a::b::l,hr,i,h=>by
  simp[eM] at hr;cases i with
  |zero=>grind
  |succ i=>exact Ve hr.2 (by grind)
theorem CY(l:List bk){c:List Value}(h:c=l.flatMap bM):ae (c.length/4) c=aD bM l:=by rw[h,dc kI,jk _ (by simp)];rfl
theorem aax{l:List bk}{i:Nat}(h:i<l.length):(l.take (i+1)).flatMap bM=(l.take i).flatMap bM++bM l[i]:=by rw[iO h,fu];simp
theorem SH(b:List UInt8)(p s:Nat)(o:Int):ca b p s o<256^s:=by
 unfold ca oH;split
 ·rw[qb];have hl:(gG b p s o).length<=s:=by
   unfold gG;split<;>simp<;>omega
  exact om (J8 (gG b p s o)) (Nat.pow_le_pow_right (by simp) hl)
 grind
theorem SI(b:List UInt8)(p:Nat){o:Int}(h:o=1\/o=2):ca b p 2 o<65536:=SH b p 2 o
theorem Dy(b:List UInt8)(p:Nat)(o:Int):ca b p 4 o<4294967296:=SH b p 4 o
theorem ajB{w L:Nat}{b:List UInt8}{o:Int}(R:qc w L b o){T:List Nat}{S S':List bn}{at_ dir:Nat}(H:Tk T L (ga S))(h0:at_%2=0)(h1:at_+2<=L)(hn:ca b at_ 2 o≠0)(ht:kP L S ⟨2,dir,0,at_,6+12*ca b at_ 2 o⟩=.ok S')
 (hr:eM (jL b o (at_+2) (ca b at_ 2 o))=true) (hS:S.length<100000000) (hd:dir<2^40) (sh:Value) (c:Nat) (no so:Int):
 ∃T',Tk T' L (ga S')/\T'.length=T.length/\
  Gr w (at_:Int) (dir:Int) (aj b) o sh T.length c no so (eu T) (S.flatMap bV)=some (.inl (aD bM (jL b o (at_+2) (ca b at_ 2 o)),aj b,o,sh,T.length,c,no,so,eu T',S'.flatMap bV)):=by
 have hsm:=R.small;have hlen:=R.len;have hw:=R.wide;obtain⟨a1,a2,a3⟩:=oT ht;obtain⟨n,hnn⟩:∃n,ca b at_ 2 o=n:=⟨_,rfl⟩;have hn2:n<65536:=by rw[<-hnn];exact SI b at_ R.ord
 obtain⟨_,T',t1,t2,t3⟩:=Gq (w:=w) H (by omega) (by omega) ht hS b hlen o sh c no so;refine⟨T',t1,t2,?_⟩;have h288:=Gp (w:=w) (by omega) b (by omega) R.ord at_ 2 (.inl rfl) (by omega);have h232:∀k,eR w true k=some (.inl ()):=λ_=>rfl;have hmod:(at_:Int).tmod 2=0:=by rw[Int.tmod_eq_emod_of_nonneg (by omega)];omega
 rw[hnn] at hn t3 h288 hr a3⊢;dsimp only at t3 a3;unfold Gr Mg AG;rw[hmod,show ah 0 0=true from rfl,aE,cw,GA w ⟨by simp only[oe];omega,by simp only[oe];omega⟩ (by omega)];have hroom:(0<=(at_:Int)/\(0:Int)<=2/\(at_:Int)<=Int.ofNat b.length/\(2:Int)<=Int.ofNat b.length -(at_:Int)):=by simp only[oe];omega
 rw[gp hroom];simp only[aB];rw[h232];simp only[aB,iC];have h288':mG w (aj b) o (at_:Int) 2=some (n:Int):=h288;rw[h288'];simp only[aB];rw[show ai 0 (n:Int)=true by rw[aV,bX];omega,h232];simp only[aB,iC];rw[oI,aO (n:=(12:Int)*(n:Int)) (by omega) (by omega),cc,aO (n:=(6:Int)+12*(n:Int)) (by omega) (by omega),show(6:Int)+12*(n:Int)=((6+12*n:Nat):Int) by omega,t3];simp only[aB,iC];obtain⟨E,hE⟩:∃E,E=jL b o (at_+2) n:=⟨_,rfl⟩;rw[<-hE] at hr⊢;have hat:at_+6+12*n<=L:=by omega
 have h232:eR w true 2=some (.inl ()):=rfl;generalize eu T'=U;generalize S'.flatMap bV=V;generalize T.length=tl;have hEl:E.length=n:=by rw[hE,IS]
 refine iL (ev:=λi (g:Int->Int->Int->Value->Int->Value->Nat->Nat->Int->Int->List Value->List Value->List Value->Option (Value×Value×Int×Value×Nat×Nat×Int×Int×List Value×List Value⊕Int×Value×Int×Value×Nat×Nat×Int×Int×List Value×List Value))=>g at_ n i (aj b) o sh tl c no so U V ((E.take i).flatMap bM)) n ?_ ?_ (by omega)
 ·intro i g hi;have e1:((i:Int)<(n:Int)):=by omega
  simp only[aV,e1,aY,aE,cc,oI];have hat2:at_<2^30:=by omega
  rw[aO (n:=(at_:Int)+2) (by omega) (by omega),aO (n:=(12:Int)*(i:Int)) (by omega) (by omega),aO (n:=(at_:Int)+2+12*(i:Int)) (by omega) (by omega),show(at_:Int)+2+12*(i:Int)=((at_+2+12*i:Nat):Int) by omega,ajM (by omega) b (by omega) _ o R.ord,az (by omega)];simp only[aB];have hgi:E[i]'(by omega)=zl b (at_+2+12*i) o:=by subst hE;exact Qp b o n (at_+2) i _
  have hiE:i<E.length:=by omega
  have hci:bM E[i]=[.int .i64 (ca b (at_+2+12*i) 2 o:Int),.int .i64 (ca b (at_+2+12*i+2) 2 o:Int),.int .i64 (ca b (at_+2+12*i+4) 4 o:Int),.int .i64 (ca b (at_+2+12*i+8) 4 o:Int)]:=by rw[hgi];rfl
  have hcl:((E.take i).flatMap bM).length=i*4:=by rw[dc kI,dJ,kU (by omega)]
  have hr1:aw (i*4)=true:=by simp;omega
  have hfin:∀(A:Option (Value×Value×Int×Value×Nat×Nat×Int×Int×List Value×List Value⊕Int×Value×Int×Value×Nat×Nat×Int×Int×List Value×List Value)),(bif aw ((E.take i).flatMap bM).length&&(aw 1&&(List.take 4 (List.drop 0 [Value.int IntKind.i64 (ca b (at_+2+12*i) 2 o:Int),Value.int IntKind.i64 (ca b (at_+2+12*i+2) 2 o:Int),Value.int IntKind.i64 (ca b (at_+2+12*i+4) 4 o:Int),Value.int IntKind.i64 (ca b (at_+2+12*i+8) 4 o:Int)])).length.beq 4) then g at_ n (ag IntKind.i64 ((i:Int)+1)) (aj b) o sh tl c no so U V ((E.take i).flatMap bM++List.take 4 (List.drop 0 [Value.int IntKind.i64 (ca b (at_+2+12*i) 2 o:Int),Value.int IntKind.i64 (ca b (at_+2+12*i+2) 2 o:Int),Value.int IntKind.i64 (ca b (at_+2+12*i+4) 4 o:Int),Value.int IntKind.i64 (ca b (at_+2+12*i+8) 4 o:Int)])) else A)=g at_ n ((i+1:Nat):Int) (aj b) o sh tl c no so U V ((E.take (i+1)).flatMap bM):=by intro A;rw[hcl,hr1,show aw 1=true from rfl,aax hiE,hci,aO (by omega) (by omega)];rfl
  rcases i with _|i
  ·have e0:ah ((0:Nat):Int) 0=true:=rfl;rw[e0,aE];exact hfin none
  ·have e0:ah ((i+1:Nat):Int) 0=false:=by rw[bW,gE];omega
   rw[e0,aF,iT,aO (by omega) (by omega),show((i+1:Nat):Int) -1=(i:Int) by omega,bQ,hcl];have e2:i*4<(i+1)*4:=by omega
   have hpi:i<E.length:=by omega
   have htk:List.drop (0+i*4+0) ((E.take (i+1)).flatMap bM)=bM E[i]:=by rw[show 0+i*4+0=i*4 by omega,mW kI,List.drop_take,show i+1 -i=1 by omega,cX hpi,oi,pZ];simp
   have hlt:=Ve hr (i:=i) (by omega);have hg1:(E[i+1]'(by omega)).tag=(ca b (at_+2+12*(i+1)) 2 o:Int):=by rw[hgi];rfl
   rw[hg1] at hlt;simp only[mr,e2,aY,jW,show Nat.beq 4 4=true from rfl,aE];rw[htk];unfold bM;simp only[bh,bP,hlt,aY];rw[h232];simp only[aB,iC];rw[hcl] at hfin;exact hfin none
 ·intro g;have e1:¬((n:Int)<(n:Int)):=by omega
  simp only[aV,e1,bN,aF];rw[fe (by omega),CY E rfl]
theorem aju{w:Nat}(l:List im)(n a b c:Int)(hl:l.length<2^40)(hw:l.length<w):NO w (gx l) n a b c=some (cW (λx=>x.tag==n) l):=by
 refine mB l (λx=>x.tag==n) (ev:=λi (g:Value->List Value->Int->Int->Option Int)=>g (aD lU l) [.int .i64 n,.int .i64 a,.int .i64 b,.int .i64 c] l.length i) ?_ ?_ hw
 ·intro i g h;simp_all;rw[bu sP h];unfold lU N3;simp only[eV,bh,bP,aB,bW];rw[aO (by omega) (by omega)];by_cases e2:l[i].tag=n<;>grind
 ·intro g;simp
theorem ajv{w:Nat}(l:List im)(n a b c:Int)(hl:l.length<2^40)(hw:l.length<w):NP w (gx l) n a b c=some (cW (λx=>x.tag==n) l):=by
 refine mB l (λx=>x.tag==n) (ev:=λi (g:Value->List Value->Int->Int->Option Int)=>g (aD lU l) [.int .i64 n,.int .i64 a,.int .i64 b,.int .i64 c] l.length i) ?_ ?_ hw
 ·intro i g h;simp_all;rw[bu sP h];unfold lU NS;simp only[eV,bh,bP,aB,bW];rw[aO (by omega) (by omega)];by_cases e2:l[i].tag=n<;>grind
 ·intro g;simp
theorem ajN{w:Nat}(l:List im)(n a b c:Int)(hl:l.length<2^40)(hw:l.length<w):GF w (gx l) n a b c=some (l.any λx=>x.tag==n):=by
 unfold GF;rw[aju l n a b c hl hw];simp;have:=wN (λx:im=>x.tag==n) l
 grind
theorem I8{α:Type}(p:α->Bool){l:List α}{i:Nat}(h:i<l.length):(l.take (i+1)).filter p=(l.take i).filter p++(if p l[i]=true then[l[i]] else[]):=by
 rw[iO h]
 grind
theorem aaC{α:Type}(p:α->Bool)(l:List α)(i:Nat):((l.take i).filter p).length<=l.length:=by grind
theorem ajC{w:Nat}(E:List bk)(S:aZ)(hS:tW S)(hl:S.bJ.length<2^40)(hw:S.bJ.length<w)(hE:E.length<100000000)(hEw:E.length<w):
 Gs w (aD bM E) (gx S.bJ) S.at_ S.cx S.next=some (aD bM (E.filter λx=>fj S x.tag),aD bM (E.filter λx=>fq S x.tag),aD bM (E.filter λx=>!eB S x.tag)):=by
 unfold Gs xx u0;rw[cI];refine iL (ev:=λi (g:Value->Int->Int->Value->Int->Int->Int->List Value->List Value->List Value->Option (Value×Value×Value))=>g (aD bM E) E.length i (gx S.bJ) S.at_ S.cx S.next (((E.take i).filter λx=>fj S x.tag).flatMap bM) (((E.take i).filter λx=>fq S x.tag).flatMap bM) (((E.take i).filter λx=>!eB S x.tag).flatMap bM)) E.length ?_ ?_ hEw
 ·intro i g hi;have e1:((i:Int)<(E.length:Int)):=by omega
  simp only[aV,e1,aY,aE,bQ];rw[bu kI hi];unfold bM;simp only[eV,bh,bP];rw[ajN S.bJ _ _ _ _ hl hw];simp only[aB];have hlk:(S.bJ.any λx=>x.tag==E[i].tag)=fj S E[i].tag:=rfl;rw[hlk,I8 _ hi,I8 _ hi,I8 _ hi];have hr1:∀p:bk->Bool,aw (List.flatMap bM ((E.take i).filter p)).length=true:=by intro p;have:=aaC p E i;rw[dc kI];simp;omega
  have hr1':∀p:bk->Bool,aw (List.flatMap (λx:bk=>[Value.int .i64 x.tag,Value.int .i64 x.ty,Value.int .i64 x.aA,Value.int .i64 (x.slot:Int)]) ((E.take i).filter p)).length=true:=hr1;simp only[hr1',show aw 1=true from rfl,eD,dX,oi,pZ,cm,List.length_nil,aE,cc];rw[aO (by omega) (by omega)];have hp:=hS.pair;cases hk:fj S E[i].tag with
  |true=>
   have hnp:fq S E[i].tag=false:=by unfold fj at hk;rw[List.any_eq_true] at hk;obtain⟨x,hx,he⟩:=hk;rw[<-eq_of_beq he];exact(hS.bJ x hx).2.2
   have hno:eB S E[i].tag=true:=by unfold eB;rw[hk];rfl
   simp[hnp,hno]
  |false=>
   have hno:eB S E[i].tag=fq S E[i].tag:=by unfold eB;rw[hk];rfl
   rw[hno];by_cases h1:(0:Int)<S.at_
   ·have hb:fq S E[i].tag=(decide (E[i].tag=S.at_)||decide (E[i].tag=S.cx)):=by
     unfold fq;rw[gp (by omega:S.at_≠0)];rfl
    rw[hb];simp only[bW];by_cases h2:E[i].tag=S.at_
    ·simp[h1,h2]
    ·by_cases h3:E[i].tag=S.cx
     ·simp[h1,h2,h3]
     ·simp[h1,h2,h3]
   ·have hb:fq S E[i].tag=false:=by
     unfold fq;have:¬(S.at_≠0):=λq=>by have:=hp q;omega
     rw[fH this];rfl
    rw[hb];simp[h1]
 ·intro g;have e1:¬((E.length:Int)<(E.length:Int)):=by omega
  simp only[aV,e1,bN,aF,oZ];rw[CY _ rfl,CY _ rfl,CY _ rfl]
def vX(sh:List aZ)(b:List UInt8)(o:Int)(L:Nat)(f:Nat)(rec:q8):Prop:=
 ∀(at_ s no:Nat)(Sp:List bn)(d:aT)(next no':Nat)(S':List bn)(T:List Nat)(so:Int)(c:Nat),
  kj b o sh f at_ s no Sp=.ok (d,next,no',S')->s<sh.length->at_<4294967296->S'.length<100000000->no'<2^40->Tk T L (ga Sp)->
  ∃T' so',Tk T' L (ga S')/\T'.length=T.length/\
   rec at_ s (aj b) o (cg sh) T.length c no so (eu T) (Sp.flatMap bV)=some (.inl (dT d,dS d,dB d,(next:Int),aj b,o,cg sh,T.length,c,(no':Int),so',eu T',S'.flatMap bV))
theorem ahe{b:List UInt8}{o:Int}{no:Nat}{S S':List bn}{x:bk}{t:aJ}(h:rG b o no S x=.ok (t,S')):∃u,S'=S++u:=by
 unfold rG at h;split at h
 ·grind
 split at h
 ·split at h
  ·simp_all
  grind
 ·split at h
  ·grind
  rename_i S2 ht;split at h
  ·cases h;exact⟨_,(oT ht).1⟩
  grind
theorem xf{own:Int->Bool}{b:List UInt8}{o:Int}{no:Nat}:∀{E:List bk}{S S':List bn}{ts:List aJ},jQ own b o no E S=.ok (ts,S')->∃u,S'=S++u
 |[],S,S',ts,h=>by rw[jQ] at h;cases h;exact⟨[],(dQ _).symm⟩
 |x::E,S,S',ts,h=>by
  rw[jQ] at h;split at h
  ·split at h
   ·exact xf h
   grind
  split at h
  ·grind
  rename_i hv;split at h
  ·grind
  rename_i ht;injection h with h;cases h;obtain⟨u,rfl⟩:=ahe hv;obtain⟨v,rfl⟩:=xf ht;simp
theorem Aw{rd:Nat->Nat->Nat->List bn->Except Int (aT×Nat×Nat×List bn)}(hrd:∀a s no S d n no' S',rd a s no S=.ok (d,n,no',S')->no<=no'/\∃u,S'=S++u){Sh:aZ}:∀{K:List bk}{no no':Nat}{S S':List bn}{r:cA},lZ rd Sh K no S=.ok (r,no',S')->no<=no'/\∃u,S'=S++u
 |[],no,no',S,S',r,h=>by rw[lZ] at h;cases h;exact⟨aL _,[],(dQ _).symm⟩
 |x::K,no,no',S,S',r,h=>by
  rw[lZ] at h;split at h
  ·grind
  split at h
  ·grind
  split at h
  ·grind
  rename_i hr;injection h with h;cases h;obtain⟨a2,v,rfl⟩:=Aw hrd hr
  grind
theorem Av{b:List UInt8}{o:Int}{sh:List aZ}:∀(f a s no:Nat)(S:List bn)(d:aT)(n no':Nat)(S':List bn),kj b o sh f a s no S=.ok (d,n,no',S')->no<=no'/\∃u,S'=S++u
 |0,a,s,no,S,d,n,no',S',h=>by rw[kj] at h;cases h
 |f+1,a,s,no,S,d,n,no',S',h=>by
  rw[kj] at h;split at h
  case isFalse=>cases h
  split at h
  ·cases h
  split at h
  ·cases h
  rename_i S1 h1;split at h
  case isFalse=>cases h
  split at h
  ·cases h
  rename_i h2;split at h
  ·cases h
  split at h
  ·cases h
  rename_i S3 h3;obtain⟨u1,e1⟩:∃u,S1=S++u:=⟨_,(oT h1).1⟩;obtain⟨u2,e2⟩:=xf h2;obtain⟨k,u3,e3⟩:=Aw (Av f) h3;split at h
  ·split at h
   ·cases h
   split at h
   ·cases h
   rename_i h4;injection h with h;cases h;obtain⟨u4,e4⟩:∃u,S'=S3++u:=⟨_,(oT h4).1⟩;refine⟨by omega,u1++u2++u3++u4,?_⟩;rw[e4,e3,e2,e1];simp
  ·injection h with h;cases h;refine⟨by omega,u1++u2++u3,?_⟩;rw[e3,e2,e1];simp
theorem akM(l:List (Int×aT))(r:cA)(h:l=aN r):ae ((l.flatMap fU).length/4) (l.flatMap fU)=ae (bY r) (gA r):=by rw[h,dc tI,jk _ (by simp),tK,OB]
theorem ab9{w L:Nat}{b:List UInt8}{o:Int}(R:qc w L b o){sh:List aZ}(hsh:iQ sh){s:Nat}(hs:s<sh.length)(hlk:(aM sh s).bJ.length<100000){f:Nat}{rec:q8}(hrec:vX sh b o L f rec){at_ dir no no':Nat}{E P K:List bk}{S S3 S4:List bn}{subs:cA}{blob:List UInt8}{T:List Nat}
 (hK:∀x∈K,fj (aM sh s) x.tag=true/\x.slot<4294967296) (hKl:K.length<70000) (hat:at_+6+12*E.length<=L)
 (h3:lZ (kj b o sh f) (aM sh s) K no S=.ok (subs,no',S3))
 (hfin:(∃p q,P=[p,q]/\q.slot≠0/\p.slot<4294967296/\q.slot<4294967296/\kP L S3 ⟨4,dir,0,p.slot,q.slot⟩=.ok S4/\blob=(b.drop p.slot).take q.slot)\/(P.length≠2/\S4=S3/\blob=[]))
 (hS:S4.length<100000000) (hno:no'<2^40) (H:Tk T L (ga S)) (so:Int) (c:Nat) (tc:List Value):
 ∃T' so',Tk T' L (ga S4)/\T'.length=T.length/\
  Sa w rec at_ dir (aD bM E) (aD bM P) (aD bM K) K.length 0 (aj b) o (cg sh) T.length c no so (ae 0 []) (gx (aM sh s).bJ) (aM sh s).at_ (aM sh s).cx (aM sh s).next (eu T) (S.flatMap bV) tc []=
   some (.inl (ae (tc.length/4) tc,ae (bY subs) (gA subs),aj blob,(ca b (at_+2+12*E.length) 4 o:Int),aj b,o,cg sh,T.length,c,(no':Int),so',eu T',S4.flatMap bV)):=by
 have hsm:=R.small;have hlen:=R.len;have hw:=R.wide;have h232:∀n,eR w true n=some (.inl ()):=λ_=>rfl;have hS34:S3.length<=S4.length:=by
  rcases hfin with⟨p,q,_,_,_,_,ht,_⟩|⟨_,e,_⟩
  ·rw[(oT ht).1,aP];omega
  ·rw[e];exact aL _
 obtain⟨tl,htl⟩:∃tl,T.length=tl:=⟨_,rfl⟩;rw[htl];have key:∀(k i v no:Nat)(S:List bn)(T:List Nat)(so:Int)(r:cA)(D:List (Int×aT)),i+k=K.length->k<v->D.length=i->lZ (kj b o sh f) (aM sh s) (K.drop i) no S=.ok (r,no',S3)->D++aN r=aN subs->Tk T L (ga S)->T.length=tl->
  ∃T' so',Tk T' L (ga S4)/\T'.length=tl/\
   lp zT (uM w rec) v at_ dir (aD bM E) (aD bM P) (aD bM K) K.length i (aj b) o (cg sh) tl c no so (ae 0 []) (gx (aM sh s).bJ) (aM sh s).at_ (aM sh s).cx (aM sh s).next (eu T) (S.flatMap bV) tc (D.flatMap fU)=
    some (.inl (ae (tc.length/4) tc,ae (bY subs) (gA subs),aj blob,(ca b (at_+2+12*E.length) 4 o:Int),aj b,o,cg sh,tl,c,(no':Int),so',eu T',S4.flatMap bV)):=by
  intro k;induction k with
  |zero=>
   intro i v no S T so r D hi hv hD hr hDr HT hTl;rw[show K.drop i=[] from vP (by omega),lZ] at hr;injection hr with hr;cases hr;rw[show aN cA.nil=[] from rfl,dQ] at hDr;have e1:¬((i:Int)<(K.length:Int)):=by omega
   have hD2:=akM D subs hDr;rw[eA zT (uM w rec) (by omega)];unfold uM;simp only[aV,e1,bN,aF];rw[cI];have hnx:=Gp (w:=w) (by omega) b (by omega) R.ord (at_+2+12*E.length) 4 (.inr rfl) (by omega);have haw:ag IntKind.i64 ((ag IntKind.i64 ((at_:Int).add 2)).add (ag IntKind.i64 (Int.mul 12 (Int.ofNat E.length))))=((at_+2+12*E.length:Nat):Int):=by rw[cc,cc,oI,cf,aO (n:=(at_:Int)+2) (by omega) (by omega),aO (n:=(12:Int)*(E.length:Int)) (by omega) (by omega),aO (by omega) (by omega)];omega
   rcases hfin with⟨p,q,rfl,hq,hp4,hq4,ht,rfl⟩|⟨hP,rfl,rfl⟩
   ·rw[show ah (Int.ofNat [p,q].length) 2=true from rfl,aE];have x0:∀(K:List Value->sd),aC 4 0 (aD bM [p,q]) K=K (bM p++([q].flatMap bM)):=λK=>bu kI (by show 0<2;omega) K;have x1:∀(K:List Value->sd),aC 4 1 (aD bM [p,q]) K=K (bM q++([].flatMap bM)):=λK=>bu kI (by show 1<2;omega) K;have d0:∀(y:bk)(r:List Value),List.drop 3 (bM y++r)=Value.int .i64 (y.slot:Int)::r:=λ_ _=>rfl;rw[x0,d0];simp only[bh,bP];rw[x1,d0];simp only[bh,bP];rw[gp (show(0:Int)<(q.slot:Int) by omega),h232];simp only[aB,iC];obtain⟨a1,a2,a3⟩:=oT ht;obtain⟨_,T',t1,t2,t3⟩:=Gq (w:=w) HT (by omega) (by omega) ht (by rw[a1,aP] at hS;omega) b hlen o (cg sh) c (no':Int) so;dsimp only at t3 a3;refine⟨T',so,t1,by rw[t2,hTl],?_⟩;rw[hTl] at t3;rw[t3];simp only[aB,iC,cw];rw[cc,aO (n:=(p.slot:Int)+(q.slot:Int)) (by omega) (by omega),show(p.slot:Int)+(q.slot:Int)=((p.slot+q.slot:Nat):Int) by omega,bQ,bQ];have e3:p.slot+q.slot<=b.length:=by omega
    have e4:p.slot<=p.slot+q.slot:=by omega
    simp only[fW,e3,e4,aY,jj,aE];rw[lM _ e3,show p.slot+q.slot -p.slot=q.slot by omega,re w _ (by rw[dJ,eS];omega)];simp only[aB];rw[cI,haw];have hnx':mG w (aj b) o ((at_+2+12*E.length:Nat):Int) 4=some (ca b (at_+2+12*E.length) 4 o:Int):=hnx;rw[hnx'];simp only[aB];rw[hD2]
   ·have e2:ah (Int.ofNat P.length) 2=false:=by rw[bW,gE,cf];omega
    rw[e2,aF,cI,haw];have hnx':mG w (aj b) o ((at_+2+12*E.length:Nat):Int) 4=some (ca b (at_+2+12*E.length) 4 o:Int):=hnx;rw[hnx'];simp only[aB];rw[hD2];exact⟨T,so,HT,hTl,rfl⟩
  |succ k ih=>
   intro i v no S T so r D hi hv hD hr hDr HT hTl;have hiK:i<K.length:=by omega
   have hmem:=cG hiK;obtain⟨k1,k2⟩:=hK _ hmem;rw[cX hiK,lZ] at hr;split at hr
   ·cases hr
   rename_i d next no1 S1 hd
   split at hr
   ·cases hr
   rename_i hnx;split at hr
   ·cases hr
   rename_i r2 no2 S2 hr2;injection hr with hr;cases hr;have hnx:next=0:=pU.1 hnx
   subst hnx;obtain⟨m1,u,m2⟩:=Aw (Av f) hr2;have e1:((i:Int)<(K.length:Int)):=by omega
   rw[eA zT (uM w rec) (by omega)];rcases JR (aM sh s) K[i].tag with⟨_,q⟩|⟨j,hj,q1,_,q3⟩
   ·rw[k1] at q;cases q
   have hsx:=hsh.bJ s hs _ (cG hj);rw[q3] at hd;have hsn:(((aM sh s).bJ[j].shape.toNat:Nat):Int)=(aM sh s).bJ[j].shape:=mj (by omega);obtain⟨T1,so1,t1,t2,t3⟩:=hrec K[i].slot _ no S d 0 no1 S1 T so c hd (by omega) k2 (by have:=bU List.length m2;rw[aP] at this;omega) (by omega) HT;rw[hTl] at t2 t3;obtain⟨T',so',v1,v2,v3⟩:=ih (i+1) (v -1) no1 S1 T1 so1 r2 (D++[(K[i].tag,d)]) (by omega) (by omega) (by rw[aP,hD];rfl) hr2 (by rw[<-hDr];simp[aN]) t1 t2;refine⟨T',so',v1,v2,?_⟩;rw[<-v3];generalize hg:lp zT (uM w rec) (v -1)=g;unfold uM;simp only[aV,e1,aY,aE,bQ];rw[bu kI hiK];have tg:∀(y:bk)(r:List Value),bM y++r=Value.int .i64 y.tag::.int .i64 y.ty::.int .i64 y.aA::.int .i64 (y.slot:Int)::r:=λ_ _=>rfl;rw[tg];simp only[bh,bP];rw[ajv _ _ _ _ _ (by omega) (by omega),q1];simp only[aB,bQ];rw[show gx (aM sh s).bJ=aD lU (aM sh s).bJ from rfl,bu sP hj];have dl:∀(y:im)(r:List Value),List.drop 1 (lU y++r)=Value.int .i64 y.shape::r:=λ_ _=>rfl;rw[dl];simp only[bh,bP];rw[<-hsn,t3];simp only[aB,iC];rw[show ah ((0:Nat):Int) 0=true from rfl,h232];simp only[aB,iC];have hr1:aw (D.flatMap fU).length=true:=by rw[dc tI];simp;omega
   rw[hr1,cc,aO (by omega) (by omega),show(i:Int)+1=((i+1:Nat):Int) by omega,fu];have hsc:[(K[i].tag,d)].flatMap fU=[Value.int .i64 K[i].tag,dT d,dS d,dB d]:=by show fU (K[i].tag,d)++[]=_;unfold fU;rw[py];rfl
   rw[hsc];rfl
 exact key K.length 0 w no S T so subs [] (by omega) (by omega) rfl (by rw[dX];exact h3) rfl H htl
theorem akQ{w L:Nat}{b:List UInt8}{o:Int}(R:qc w L b o){sh:List aZ}(hsh:iQ sh){s:Nat}(hs:s<sh.length)(hlk:(aM sh s).bJ.length<100000){f:Nat}{rec:q8}(hrec:vX sh b o L f rec){at_ dir no no':Nat}{E:List bk}{S S2 S3 S4:List bn}{tags:List aJ}{subs:cA}{blob:List UInt8}{T:List Nat}
 (hE:∀x∈E,x.slot<4294967296) (hEl:E.length<65536) (hat:at_+6+12*E.length<=L)
 (h2:jQ (eB (aM sh s)) b o dir E S=.ok (tags,S2))
 (hP1:(E.filter λx=>fq (aM sh s) x.tag).length≠1)
 (h3:lZ (kj b o sh f) (aM sh s) (E.filter λx=>fj (aM sh s) x.tag) no S2=.ok (subs,no',S3))
 (hfin:(∃p q,(E.filter λx=>fq (aM sh s) x.tag)=[p,q]/\q.slot≠0/\p.slot<4294967296/\q.slot<4294967296/\kP L S3 ⟨4,dir,0,p.slot,q.slot⟩=.ok S4/\blob=(b.drop p.slot).take q.slot)\/((E.filter λx=>fq (aM sh s) x.tag).length≠2/\S4=S3/\blob=[]))
 (hS:S4.length<100000000) (hno:no'<2^40) (hdir:dir<2^40) (H:Tk T L (ga S)) (so:Int) (c:Nat):
 ∃T' so',Tk T' L (ga S4)/\T'.length=T.length/\
  YI w rec at_ dir (aD bM E) (aD bM (E.filter λx=>fj (aM sh s) x.tag)) (aD bM (E.filter λx=>fq (aM sh s) x.tag)) (aD bM (E.filter λx=>!eB (aM sh s) x.tag)) (aD bM E) E.length 0 (aj b) o (cg sh) T.length c no so (ae 0 []) (gx (aM sh s).bJ) (aM sh s).at_ (aM sh s).cx (aM sh s).next (eu T) (S.flatMap bV) [] []=
   some (.inl (au tags,ae (bY subs) (gA subs),aj blob,(ca b (at_+2+12*E.length) 4 o:Int),aj b,o,cg sh,T.length,c,(no':Int),so',eu T',S4.flatMap bV)):=by
 have hsm:=R.small;have hlen:=R.len;have hw:=R.wide;have h232:∀n,eR w true n=some (.inl ()):=λ_=>rfl;obtain⟨tl,htl⟩:∃tl,T.length=tl:=⟨_,rfl⟩;rw[htl];have hS24:S2.length<=S4.length:=by
  obtain⟨_,u,e⟩:=Aw (Av f) h3;have e:=bU List.length e;rw[aP] at e;rcases hfin with⟨p,q,_,_,_,_,ht,_⟩|⟨_,e',_⟩
  ·rw[(oT ht).1,aP];omega
  ·rw[e'];omega
 have key:∀(k i v:Nat)(S:List bn)(T:List Nat)(so:Int)(ts D:List aJ),i+k=E.length->k<v->D.length<=i->jQ (eB (aM sh s)) b o dir (E.drop i) S=.ok (ts,S2)->D++ts=tags->Tk T L (ga S)->T.length=tl->
  ∃T' so',Tk T' L (ga S4)/\T'.length=tl/\
   lp yx (rW w rec) v at_ dir (aD bM E) (aD bM (E.filter λx=>fj (aM sh s) x.tag)) (aD bM (E.filter λx=>fq (aM sh s) x.tag)) (aD bM ((E.drop i).filter λx=>!eB (aM sh s) x.tag)) (aD bM E) E.length i (aj b) o (cg sh) tl c no so (ae 0 []) (gx (aM sh s).bJ) (aM sh s).at_ (aM sh s).cx (aM sh s).next (eu T) (S.flatMap bV) (D.flatMap cq) []=
    some (.inl (au tags,ae (bY subs) (gA subs),aj blob,(ca b (at_+2+12*E.length) 4 o:Int),aj b,o,cg sh,tl,c,(no':Int),so',eu T',S4.flatMap bV)):=by
  intro k;induction k with
  |zero=>
   intro i v S T so ts D hi hv hD hr hDr HT hTl;rw[show E.drop i=[] from vP (by omega),jQ] at hr;injection hr with hr;cases hr;rw[dQ] at hDr;subst hDr;have e1:¬((i:Int)<(E.length:Int)):=by omega
   rw[eA yx (rW w rec) (by omega)];unfold rW AL;simp only[aV,e1,bN,aF];rw[cI];have e2:ah (Int.ofNat (E.filter λx=>fq (aM sh s) x.tag).length) 1=false:=by rw[bW,gE,cf];omega
   rw[e2,show(!false)=true from rfl,h232];simp only[aB,iC];rw[cI];have hKl:=List.length_filter_le (λx:bk=>fj (aM sh s) x.tag) E;obtain⟨T',so',t1,t2,t3⟩:=ab9 R hsh hs hlk hrec (at_:=at_) (dir:=dir) (E:=E) (P:=E.filter λx=>fq (aM sh s) x.tag) (K:=E.filter λx=>fj (aM sh s) x.tag) (T:=T)
    (λx hx=>⟨(oh.1 hx).2,hE x (oh.1 hx).1⟩) (by omega) hat h3 hfin hS hno HT so c (D.flatMap cq)
   rw[hTl] at t2 t3;refine⟨T',so',t1,t2,?_⟩;have htg:ae ((D.flatMap cq).length/4) (D.flatMap cq)=au D:=by rw[dc gI,jk _ (by decide)];rfl
   rw[htg] at t3;exact t3
  |succ k ih=>
   intro i v S T so ts D hi hv hD hr hDr HT hTl;have hiE:i<E.length:=by omega
   have hmem:=cG hiE;have e1:((i:Int)<(E.length:Int)):=by omega
   have tg:∀(y:bk)(r:List Value),bM y++r=Value.int .i64 y.tag::.int .i64 y.ty::.int .i64 y.aA::.int .i64 (y.slot:Int)::r:=λ_ _=>rfl;rw[cX hiE,jQ] at hr;rw[eA yx (rW w rec) (by omega)];by_cases ho:eB (aM sh s) E[i].tag=true
   ·rw[az ho] at hr;split at hr
    case isFalse=>cases hr
    rename_i h41;obtain⟨T',so',v1,v2,v3⟩:=ih (i+1) (v -1) S T so ts D (by omega) (by omega) (by omega) hr hDr HT hTl;refine⟨T',so',v1,v2,?_⟩;rw[<-v3];generalize hg:lp yx (rW w rec) (v -1)=g;have hfl:(E.drop i).filter (λx=>!eB (aM sh s) x.tag)=(E.drop (i+1)).filter (λx=>!eB (aM sh s) x.tag):=by rw[cX hiE,jX,ho];rfl
    rw[hfl];generalize hX:(E.drop (i+1)).filter (λx=>!eB (aM sh s) x.tag)=X;unfold rW AL;simp only[aV,e1,aY,aE,bQ];rw[bu kI hiE,tg];simp only[bh,bP];rw[cI,h41.1,h41.2];have hnx:ag IntKind.i64 ((i:Int).add 1)=((i+1:Nat):Int):=by rw[cc,aO (by omega) (by omega)];rfl
    have hend:(bif ah 4 4 then ob (eR w (ah 1 1) 6) λ(x112:PUnit⊕Int)=>dr x112 (λ(x113:PUnit)=>g (at_:Int) (dir:Int) (aD bM E) (aD bM (E.filter λx=>fj (aM sh s) x.tag)) (aD bM (E.filter λx=>fq (aM sh s) x.tag)) (aD bM X) (aD bM E) (E.length:Int) (ag IntKind.i64 ((i:Int).add 1)) (aj b) o (cg sh) tl c no so (ae 0 []) (gx (aM sh s).bJ) (aM sh s).at_ (aM sh s).cx (aM sh s).next (eu T) (S.flatMap bV) (D.flatMap cq) []) λ(x114:Int)=>some (Sum.inr (x114,aj b,o,cg sh,tl,c,(no:Int),so,eu T,S.flatMap bV)) else(none:sd))=g (at_:Int) (dir:Int) (aD bM E) (aD bM (E.filter λx=>fj (aM sh s) x.tag)) (aD bM (E.filter λx=>fq (aM sh s) x.tag)) (aD bM X) (aD bM E) (E.length:Int) ((i+1:Nat):Int) (aj b) o (cg sh) tl c no so (ae 0 []) (gx (aM sh s).bJ) (aM sh s).at_ (aM sh s).cx (aM sh s).next (eu T) (S.flatMap bV) (D.flatMap cq) []:=by rw[hnx];rfl
    rcases X with _|⟨y,X⟩
    ·have e5:decide ((0:Int)<Int.ofNat ([]:List bk).length)=false:=rfl;rw[e5,aF];exact hend
    ·have e5:decide ((0:Int)<Int.ofNat (y::X).length)=true:=by rw[bX,cf,cm];omega
     have hy:eB (aM sh s) y.tag=false:=by have:=(oh.1 (show y∈(E.drop (i+1)).filter (λx=>!eB (aM sh s) x.tag) by rw[hX];exact nA)).2;simpa using this
     have cu:¬(E[i].tag=y.tag):=λq=>by rw[q,hy] at ho;cases ho
     have x0:∀(K:List Value->sd),aC 4 0 (aD bM (y::X)) K=K (bM y++(X.flatMap bM)):=λK=>bu kI (l:=y::X) (m:=0) (by rw[cm];omega) K;rw[e5,aE,x0,tg];simp only[bh,bP,bW,cu,bN,aF];have hend2:=hend;simp only[bW] at hend2;exact hend2
   ·rw[ar ho] at hr;split at hr
    ·cases hr
    rename_i t S1 hv1;split at hr
    ·cases hr
    rename_i ts2 S2' ht;injection hr with hr;cases hr;obtain⟨u,hu⟩:=xf ht;obtain⟨_,T1,so1,t1,t2,t3⟩:=ajD (w:=w) (dir:=dir) R HT hv1 (hE _ hmem) (by have:=bU List.length hu;rw[aP] at this;omega) (cg sh) c (no:Int) so;rw[hTl] at t2 t3;obtain⟨T',so',v1,v2,v3⟩:=ih (i+1) (v -1) S1 T1 so1 ts2 (D++[t]) (by omega) (by omega) (by rw[aP,rX];omega) ht (by rw[<-hDr];simp) t1 t2;refine⟨T',so',v1,v2,?_⟩;rw[<-v3];generalize hg:lp yx (rW w rec) (v -1)=g;have ho':eB (aM sh s) E[i].tag=false:=by simpa using ho
    have hfl:(E.drop i).filter (λx=>!eB (aM sh s) x.tag)=E[i]::(E.drop (i+1)).filter (λx=>!eB (aM sh s) x.tag):=by rw[cX hiE,jX,ho'];rfl
    rw[hfl];generalize hX:(E.drop (i+1)).filter (λx=>!eB (aM sh s) x.tag)=X;unfold rW AL;simp only[aV,e1,aY,aE,bQ];rw[bu kI hiE,tg];simp only[bh,bP];rw[cI];have e5:decide ((0:Int)<Int.ofNat (E[i]::X).length)=true:=by rw[bX,cf,cm];omega
    have x0:∀(K:List Value->sd),aC 4 0 (aD bM (E[i]::X)) K=K (bM E[i]++(X.flatMap bM)):=λK=>bu kI (l:=E[i]::X) (m:=0) (by rw[cm];omega) K;rw[e5,aE,x0,tg];simp only[bh,bP,bW,aY,aE];rw[t3];simp only[aB,iC];have hr1:aw (D.flatMap cq).length=true:=by rw[dc gI];simp;omega
    rw[hr1,cI];have e6:1<=(E[i]::X).length:=by rw[cm];omega
    simp only[show aw 1=true from rfl,eD,dX,oi,pZ,cm,List.length_nil,fW,aL,aY,show Nat.beq (0+1+1+1+1) 4=true from rfl,aE,cc];have e7:1<=X.length+1:=by omega
    have e8:decide (1<=X.length+1)=true:=gp e7;rw[e8,aE,um kI (E[i]::X) (a:=1) (b:=X.length+1) (by rw[cm];omega),show X.length+1 -1=X.length by omega,List.drop_succ_cons,dX,fe (aL _),aO (n:=(i:Int)+1) (by omega) (by omega),show(i:Int)+1=((i+1:Nat):Int) by omega,fu];have htc:[t].flatMap cq=[Value.int .i64 t.tag,.int .i64 t.ty,.int .i64 t.aA,aj t.data]:=rfl;rw[htc]
 have hfin0:=key E.length 0 w S T so tags [] (by omega) (by omega) (aL _) (by rw[dX];exact h2) rfl H htl;rw[dX] at hfin0;exact hfin0
theorem Qq(b:List UInt8)(o:Int):∀(n p:Nat),∀x∈jL b o p n,x.slot<4294967296
 |0,_,x,h=>by cases h
 |n+1,p,x,h=>by
  rcases cO.1 (h) with rfl|h
  ·exact Dy b (p+8) o
  ·exact Qq b o n (p+12) x h
theorem akA{w L:Nat}{b:List UInt8}{o:Int}(R:qc w L b o){sh:List aZ}(hsh:iQ sh)(hlk:∀s,s<sh.length->(aM sh s).bJ.length<100000){f:Nat}{rec:q8}(hrec:vX sh b o L f rec):vX sh b o L (f+1) (G3 w rec):=by
 have hsm:=R.small;have hlen:=R.len;have hw:=R.wide;intro at_ s no Sp d next no' S' T so c h hs hat hS hno HT
 rw[kj] at h;split at h
 case isFalse=>cases h
 rename_i h0;split at h
 ·cases h
 rename_i hn;split at h
 ·cases h
 rename_i S1 h1;split at h
 case isFalse=>cases h
 rename_i hr;split at h
 ·cases h
 rename_i tags S2 h2;split at h
 ·cases h
 rename_i hP1;split at h
 ·cases h
 rename_i subs no2 S3 h3;rw[hlen] at h0 h1;obtain⟨a1,_,a3⟩:=oT h1;obtain⟨u2,e2⟩:=xf h2;obtain⟨k,u3,e3⟩:=Aw (Av f) h3;obtain⟨n,hnn⟩:∃n,ca b at_ 2 o=n:=⟨_,rfl⟩;have hn2:n<65536:=by rw[<-hnn];exact SI b at_ R.ord
 obtain⟨E,hE⟩:∃E,jL b o (at_+2) n=E:=⟨_,rfl⟩;have hEl:E.length=n:=by rw[<-hE,IS]
 have hEs:∀x∈E,x.slot<4294967296:=by rw[<-hE];exact Qq b o n _
 rw[hnn,hE] at h;dsimp only at a3;have hS13:Sp.length<=S3.length:=by rw[e3,e2,a1];simp only[aP];omega
 have hend:∃S4 blob,((∃p q,(E.filter λx=>fq (aM sh s) x.tag)=[p,q]/\q.slot≠0/\p.slot<4294967296/\q.slot<4294967296/\kP L S3 ⟨4,(no:Int),0,p.slot,q.slot⟩=.ok S4/\blob=(b.drop p.slot).take q.slot)\/((E.filter λx=>fq (aM sh s) x.tag).length≠2/\S4=S3/\blob=[]))/\
  d=.mk tags subs blob/\next=ca b (at_+2+12*n) 4 o/\no'=no2/\S'=S4:=by
  split at h
  ·rename_i p q hpq;split at h
   ·cases h
   rename_i hq;split at h
   ·cases h
   rename_i S4 ht;injection h with h;cases h;refine⟨_,_,.inl ⟨p,q,hpq,hq,?_,?_,by rw[<-hlen];exact ht,rfl⟩,rfl,rfl,rfl,rfl⟩
   ·exact hEs p (oh.1 (show p∈E.filter λx=>fq (aM sh s) x.tag by rw[hpq];simp)).1
   ·exact hEs q (oh.1 (show q∈E.filter λx=>fq (aM sh s) x.tag by rw[hpq];simp)).1
  ·rename_i hno2;injection h with h;cases h;refine⟨_,_,.inr ⟨λq=>?_,rfl,rfl⟩,rfl,rfl,rfl,rfl⟩
   rcases hF:(E.filter λx=>fq (aM sh s) x.tag) with _|⟨x,_|⟨y,_|⟨z,l⟩⟩⟩<;>grind
 obtain⟨S4,blob,hfin,rfl,rfl,rfl,rfl⟩:=hend;have hS34:S3.length<=S'.length:=by
  rcases hfin with⟨p,q,_,_,_,_,ht,_⟩|⟨_,e',_⟩
  ·rw[(oT ht).1,aP];omega
  ·rw[e'];omega
 obtain⟨T1,t1,t2,t3⟩:=ajB R HT h0.1 h0.2 hn h1 hr (by omega) (by omega) (cg sh) c (ag .i64 ((no:Int).add 1)) so;rw[hnn] at t3 hn h1 hr h2 hP1 h3;rw[hE] at t3 h2 hP1 h3;have haw:ag IntKind.i64 ((no:Int).add 1)=((no+1:Nat):Int):=by rw[cc,aO (by omega) (by omega)];rfl
 rw[haw] at t3;obtain⟨T',so',v1,v2,v3⟩:=akQ R hsh hs (hlk s hs) hrec (at_:=at_) (dir:=no) hEs (by omega) (by omega) h2 hP1 h3 hfin hS hno (by omega) t1 so c;rw[t2] at v2 v3;refine⟨T',so',v1,v2,?_⟩;unfold G3;rw[bQ,show cg sh=aD jh sh from rfl,bu yr hs];have hsg:sh[s]=aM sh s:=by unfold aM;rw[cN hs];rfl
 have tg:∀(S:aZ)(r:List Value),jh S++r=gx S.bJ::.int .i64 S.at_::.int .i64 S.cx::.int .i64 S.next::r:=λ_ _=>rfl;rw[hsg,tg];simp only[bh,bP];rw[show ah (no:Int) (no:Int)=true by rw[bW,bX],aE,haw,show aD jh sh=cg sh from rfl,t3];simp only[aB,iC];rw[ajC E _ (hsh.ok s) (by have:=hlk s hs;omega) (by have:=hlk s hs;omega) (by omega) (by omega)];simp only[aB];rw[cI];rw[hEl] at v3;rw[hEl];exact v3
theorem P4{w L:Nat}{b:List UInt8}{o:Int}(R:qc w L b o){sh:List aZ}(hsh:iQ sh)(hlk:∀s,s<sh.length->(aM sh s).bJ.length<100000)(z:q8):
 ∀(f n:Nat),f<=n->vX sh b o L f (lQ z (G3 w) n)
 |0,n,_=>by
  intro at_ s no Sp d next no' S' T so c h
  cases h
 |f+1,n+1,h=>by exact akA R hsh hlk (P4 R hsh hlk z f n (by omega))
theorem aje{w L:Nat}{b:List UInt8}{o:Int}(R:qc w L b o){sh:List aZ}(hsh:iQ sh)(hlk:∀s,s<sh.length->(aM sh s).bJ.length<100000){f:Nat}(hf:f<=w):vX sh b o L f (Ge w):=P4 R hsh hlk _ f w hf
theorem U0{rd:Nat->Nat->Nat->List bn->Except Int (aT×Nat×Nat×List bn)}(hrd:∀a s no S d n no' S',rd a s no S=.ok (d,n,no',S')->no'+S.length<=no+S'.length){Sh:aZ}:∀{K:List bk}{no no':Nat}{S S':List bn}{r:cA},lZ rd Sh K no S=.ok (r,no',S')->no'+S.length<=no+S'.length
 |[],no,no',S,S',r,h=>by rw[lZ] at h;cases h;exact aL _
 |x::K,no,no',S,S',r,h=>by
  rw[lZ] at h;split at h
  ·grind
  rename_i hd;split at h
  ·grind
  split at h
  ·grind
  rename_i hr;injection h with h;cases h;have a1:=hrd _ _ _ _ _ _ _ _ hd;have a2:=U0 hrd hr;omega
theorem UZ{b:List UInt8}{o:Int}{sh:List aZ}:∀(f a s no:Nat)(S:List bn)(d:aT)(n no':Nat)(S':List bn),kj b o sh f a s no S=.ok (d,n,no',S')->no'+S.length<=no+S'.length
 |0,a,s,no,S,d,n,no',S',h=>by rw[kj] at h;cases h
 |f+1,a,s,no,S,d,n,no',S',h=>by
  rw[kj] at h;split at h
  case isFalse=>cases h
  split at h
  ·cases h
  split at h
  ·cases h
  rename_i S1 h1;split at h
  case isFalse=>cases h
  split at h
  ·cases h
  rename_i h2;split at h
  ·cases h
  split at h
  ·cases h
  rename_i S3 h3;have e1:=bU List.length (oT h1).1;rw[aP,rX] at e1;obtain⟨u2,e2⟩:=xf h2;have e2:=bU List.length e2;rw[aP] at e2;have e3:=U0 (UZ f) h3;split at h
  ·split at h
   ·cases h
   split at h
   ·cases h
   rename_i h4;injection h with h;cases h;have e4:=bU List.length (oT h4).1;rw[aP] at e4;omega
  ·injection h with h;cases h;omega
theorem ahd{b:List UInt8}{o:Int}{sh:List aZ}:∀(f a s no:Nat)(S:List bn)(d:aT)(n no':Nat)(S':List bn),kj b o sh f a s no S=.ok (d,n,no',S')->n<4294967296
 |0,a,s,no,S,d,n,no',S',h=>by rw[kj] at h;cases h
 |f+1,a,s,no,S,d,n,no',S',h=>by
  rw[kj] at h;split at h
  case isFalse=>cases h
  split at h
  ·cases h
  split at h
  ·cases h
  split at h
  case isFalse=>cases h
  split at h
  ·cases h
  split at h
  ·cases h
  split at h
  ·cases h
  split at h
  ·split at h
   ·cases h
   split at h
   ·cases h
   injection h with h;cases h;exact Dy _ _ _
  ·injection h with h;cases h;exact Dy _ _ _
theorem UY{b:List UInt8}{o:Int}{sh:List aZ}:∀(f:Nat)(first:Bool)(a:Nat)(s:Int)(no:Nat)(S:List bn)(ds:List aT)(S':List bn),nU b o sh f first a s no S=.ok (ds,S')->∃u,S'=S++u
 |0,first,a,s,no,S,ds,S',h=>by rw[nU] at h;cases h
 |f+1,first,a,s,no,S,ds,S',h=>by
  rw[nU] at h;split at h
  ·simp_all
  split at h
  ·grind
  split at h
  ·grind
  rename_i hd;split at h
  ·grind
  rename_i hc;injection h with h;cases h;obtain⟨_,u,rfl⟩:=Av _ _ _ _ _ _ _ _ _ hd;obtain⟨v,rfl⟩:=UY f _ _ _ _ _ _ _ hc;simp
theorem PJ{w L:Nat}{b:List UInt8}{o:Int}(R:qc w L b o){sh:List aZ}(hsh:iQ sh)(hlk:∀s,s<sh.length->(aM sh s).bJ.length<100000)(hl:sh.length<100000){S':List bn}(hS:S'.length<100000000)(c:Nat)(tl:Nat):
 ∀(f v at_:Nat)(s:Int)(no:Nat)(Sp:List bn)(D ds:List aT)(T:List Nat)(so:Int),f<v->D.length+f<=sh.length+2->nU b o sh f D.isEmpty at_ s no Sp=.ok (ds,S')->at_<4294967296->s<sh.length->no<=Sp.length->Tk T L (ga Sp)->T.length=tl->
  ∃T' so' no',lp CG (wu w) v (at_:Int) s (aj b) o (cg sh) tl c (no:Int) so o 0 (eu T) (Sp.flatMap bV) (D.flatMap cS)=some (o,0,aj b,o,cg sh,tl,c,no',so',(D++ds).flatMap cS,eu T',S'.flatMap bV)
 |0,v,at_,s,no,Sp,D,ds,T,so,_,_,h,_,_,_,_,_=>by rw[nU] at h;cases h
 |f+1,v,at_,s,no,Sp,D,ds,T,so,hv,hD,h,hat,hs,hno,HT,hTl=>by
  have hw:=R.wide;have h232:∀n,eR w true n=some (.inl ()):=λ_=>rfl;rw[nU] at h;rw[eA CG (wu w) (by omega)];split at h
  ·rename_i h0;injection h with h;cases h;rw[h0.1];have hDe:D.length≠0:=by
    intro q;have:D=[]:=oX.1 q;rw[this] at h0;exact absurd h0.2 (by decide)
   refine⟨T,so,(no:Int),?_⟩;unfold wu EE AI;have e1:ai 0 ((0:Nat):Int)=false:=rfl;have e2:ah (Int.ofNat ((D.flatMap cS).length/3)) 0=false:=by rw[dc kH,bW,gE,cf];omega
   simp_all
  ·rename_i h0;split at h
   ·cases h
   rename_i hs0;split at h
   ·cases h
   rename_i d next no1 S1 hd
   split at h
   ·cases h
   rename_i ds2 S2 hc;injection h with h;cases h;have hst:(s.toNat:Int)=s:=mj (by omega);have hsl:s.toNat<sh.length:=by omega
   obtain⟨u,hu⟩:=UY _ _ _ _ _ _ _ _ hc;have hu:=bU List.length hu;rw[aP] at hu;have hcn:=UZ _ _ _ _ _ _ _ _ _ hd;obtain⟨T1,so1,t1,t2,t3⟩:=aje R hsh hlk (f:=sh.length) (by omega) at_ s.toNat no Sp d next no1 S1 T so c hd hsl hat (by omega) (by omega) HT
   rw[hTl] at t2 t3;rw[hst] at t3;have hnx:=hsh.next s.toNat hsl;obtain⟨T',so',no',v3⟩:=PJ R hsh hlk hl hS c tl f (v -1) next (aM sh s.toNat).next no1 S1 (D++[d]) ds2 T1 so1 (by omega) (by rw[aP,rX];omega) (by
    have:(D++[d]).isEmpty=false:=by cases D<;>rfl
    rw[this];exact hc) (ahd _ _ _ _ _ _ _ _ _ hd) (by omega) (by omega) t1 t2
   refine⟨T',so',no',?_⟩;rw[dO] at v3;rw[show D++d::ds2=D++([d]++ds2) from rfl,<-v3];generalize hg:lp CG (wu w) (v -1)=g;have hsn:(!ai s 0)=true:=by rw[aV,fH (by omega:¬s<0)];rfl
   have hr1:aw (D.flatMap cS).length=true:=by rw[dc kH];simp;omega
   have hsg:sh[s.toNat]=aM sh s.toNat:=by unfold aM;rw[cN hsl];rfl
   have tg:∀(S:aZ)(r:List Value),(jh S++r).drop 3=.int .i64 S.next::r:=λ_ _=>rfl;have hdc:List.take 3 (List.drop 0 [dT d,dS d,dB d])=[d].flatMap cS:=by rw[dL,lD,dQ,py];rfl
   have x0:∀(K:List Value->Option (Int×Int×Value×Int×Value×Nat×Nat×Int×Int×List Value×List Value×List Value)),ax s (λx58=>aC 4 x58 (cg sh) K)=K (jh (aM sh s.toNat)++(sh.drop (s.toNat+1)).flatMap jh):=by intro K;rw[<-hst,bQ,show cg sh=aD jh sh from rfl,mI,bu yr hsl,hsg]
   unfold wu EE AI;have fin:∀(A:Int->Option (Int×Int×Value×Int×Value×Nat×Nat×Int×Int×List Value×List Value×List Value))(B:Int×Value×Int×Value×Nat×Nat×Int×Int×List Value×List Value->Option (Int×Int×Value×Int×Value×Nat×Nat×Int×Int×List Value×List Value×List Value)),
    (ob (eR w (!ai s 0) 2) λ(x43:PUnit⊕Int)=>dr x43 (λ(x44:PUnit)=>ob (Ge w (at_:Int) s (aj b) o (cg sh) tl c (no:Int) so (eu T) (Sp.flatMap bV)) λx45=>dr x45 (λ(x46:Value×Value×Value×Int×Value×Int×Value×Nat×Nat×Int×Int×List Value×List Value)=>bif aw (D.flatMap cS).length&&(aw 1&&(List.take 3 (List.drop 0 [x46.fst,x46.snd.fst,x46.snd.snd.fst])).length.beq 3) then ax s λ(x47:Nat)=>aC 4 x47 x46.snd.snd.snd.snd.snd.snd.fst λ(x48:List Value)=>af (List.drop 3 x48) λ(x49:Value)(x50:List Value)=>aq IntKind.i64 x49 λ(x51:Int)=>g x46.snd.snd.snd.fst x51 x46.snd.snd.snd.snd.fst x46.snd.snd.snd.snd.snd.fst x46.snd.snd.snd.snd.snd.snd.fst x46.snd.snd.snd.snd.snd.snd.snd.fst x46.snd.snd.snd.snd.snd.snd.snd.snd.fst x46.snd.snd.snd.snd.snd.snd.snd.snd.snd.fst x46.snd.snd.snd.snd.snd.snd.snd.snd.snd.snd.fst o 0 x46.snd.snd.snd.snd.snd.snd.snd.snd.snd.snd.snd.fst x46.snd.snd.snd.snd.snd.snd.snd.snd.snd.snd.snd.snd (D.flatMap cS++List.take 3 (List.drop 0 [x46.fst,x46.snd.fst,x46.snd.snd.fst])) else none) B) A)=g (next:Int) (aM sh s.toNat).next (aj b) o (cg sh) tl c (no1:Int) so1 o 0 (eu T1) (S1.flatMap bV) ((D++[d]).flatMap cS):=by
    intro A B;rw[hsn,h232];simp only[aB,iC];rw[t3];simp only[aB,iC];rw[hr1,hdc,x0,tg];simp only[bh,bP];rw[fu,show[d].flatMap cS=cS d++[] from rfl,dQ,kH];rfl
   by_cases hp:0<at_
   ·have e1:ai 0 (at_:Int)=true:=by rw[aV,bX];omega
    rw[e1,aE];exact fin _ _
   ·have e1:ai 0 (at_:Int)=false:=by rw[aV,gE];omega
    have hDe:D=[]:=by
     cases D with
     |nil=>rfl
     |cons a l=>exact absurd ⟨by omega,rfl⟩ h0
    have e2:ah (Int.ofNat ((D.flatMap cS).length/3)) 0=true:=by rw[hDe];rfl
    rw[e1,aF,e2,aE];exact fin _ _
theorem U9:∀n:Nat,rep n (Value.int IntKind.u64 0).cells.toList=eu (List.replicate n 0)
 |0=>rfl
 |n+1=>by show _++rep n _=_;rw[U9 n];rfl
theorem ald(L:Nat):Tk (List.replicate (L/64+1) 0) L (ga []):=by
 refine⟨tO,λn hn=>(by grind),λp hp=>?_⟩
 ·unfold CE ga
  grind
theorem MR{w:Nat}{b:List UInt8}{sh:List aZ}(hb:b.length<2^29)(hw:b.length+200000<w)(hsh:iQ sh)(hlk:∀s,s<sh.length->(aM sh s).bJ.length<100000)(hl:sh.length<100000)(h0:0<sh.length)(sM:qG w (cg sh)=some true){o:Int}{ds:List aT}{S:List bn}(hS:S.length<100000000)(h:tM b sh=.ok (⟨o,ds⟩,S)):
 xJ w (aj b) (cg sh)=some (o,cQ ds,aD bV S,0):=by
 unfold tM at h;split at h
 ·cases h
 split at h
 ·cases h
 rename_i h42;split at h
 ·cases h
 rename_i ds1 Sx hc;injection h with h;injection h with h1 h2;injection h1 with h1 h3;subst h1 h2 h3;have ho:ll b=1\/ll b=2:=by
  have:ll b≠0:=λq=>h42 (.inl q);unfold ll at this⊢;split
  ·exact .inl rfl
  ·split
   ·exact .inr rfl
   ·rename_i a c;rw[ar a,ar c] at this;exact absurd rfl this
 have R:qc w b.length b (ll b):=⟨rfl,hb,hw,ho⟩;obtain⟨T1,t1,t2,t3⟩:=ajd R (by omega) rfl (pU.1 λq=>h42 (.inr q)) (ald b.length) (cg sh) (b.length/64+1) 0 0;rw[tO] at t2 t3;obtain⟨T2,so2,no2,v3⟩:=PJ R hsh hlk hl hS (b.length/64+1) (b.length/64+1) (sh.length+2) w (ca b 4 4 (ll b)) 0 0 [⟨1,-1,0,0,8⟩] [] ds1 T1 0 (by omega) (by simp) hc (Dy _ _ _) (by omega) (by omega) t1 t2;have h180:F2 w (aj b) (cg sh)=some (aj b,0,cg sh,b.length/64+1,b.length/64+1,0,0,eu (List.replicate (b.length/64+1) 0),[]):=by
  unfold F2;rw[cw,cf,IE _ (by omega),cc,aO (by omega) (by omega),show((b.length/64:Nat):Int)+1=((b.length/64+1:Nat):Int) by omega];simp only[bQ];have e1:b.length/64+1<=1000000000:=by omega
  simp only[fW,aL,e1,aY,jj,jW];rw[U9];rfl
 have h181:F3 w (aj b) 0 (cg sh) (b.length/64+1) (b.length/64+1) 0 0 (eu (List.replicate (b.length/64+1) 0)) []=some (ll b,0,aj b,ll b,cg sh,b.length/64+1,b.length/64+1,no2,so2,ds1.flatMap cS,eu T2,Sx.flatMap bV):=by unfold F3 AI;rw[sM];rw[t3];exact v3
 unfold xJ;rw[h180];simp;rw[h181];simp only[aB];rw[Yx Sx _ rfl,dc kH,jk _ (by decide)];rfl
end Lt
end Go.Proofs.YtcfjfbeadhnknaaGreatDoor

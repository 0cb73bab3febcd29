import Derived.Maps.AppendAt
import Derived.RangeFuncBox
import Derived.Laws.Append
import Derived.Test.YtcfjfbeadhnknaaGreatDoorTF
namespace Go.Proofs.YtcfjfbeadhnknaaGreatDoor
set_option linter.unusedVariables false
set_option linter.unusedSimpArgs false
set_option linter.unusedSectionVars false
set_option linter.constructorNameAsVariable false
set_option maxRecDepth 100000
set_option maxHeartbeats 8000000
namespace Lt
section
set_option linter.unusedVariables false
set_option linter.unusedSimpArgs false
set_option linter.unusedSectionVars false
set_option linter.constructorNameAsVariable false
noncomputable section
def Fm(w:Nat):Value->Option (List Value):=
 λ(x0:Value)=>ob (vk w x0) λ(x1:Int)=>bif !aj x1 0 then some [] else aq x0 λ(x2:Nat)=>lp (λ(x3 x4:Int)(x5:Value)(x6:List Value)=>none) (λ(x7:Int->Int->Value->List Value->Option (List Value))(x8 x9:Int)(x10:Value)(x11:List Value)=>bif ak x9 x8 then ob (tG w x10 x9) λ(x12:Int×Value×Value×Value×Value×Value×Value×Value×Value×Value×Value×Int×Int×Bool)=>bif aG x11.length&&(aG 1&&(List.take 13 (List.drop 0 [Value.int IntKind.i64 x12.fst,x12.snd.fst,x12.snd.snd.fst,x12.snd.snd.snd.fst,x12.snd.snd.snd.snd.fst,x12.snd.snd.snd.snd.snd.fst,x12.snd.snd.snd.snd.snd.snd.fst,x12.snd.snd.snd.snd.snd.snd.snd.fst,x12.snd.snd.snd.snd.snd.snd.snd.snd.fst,x12.snd.snd.snd.snd.snd.snd.snd.snd.snd.fst,x12.snd.snd.snd.snd.snd.snd.snd.snd.snd.snd.fst,Value.int IntKind.i64 x12.snd.snd.snd.snd.snd.snd.snd.snd.snd.snd.snd.fst,Value.int IntKind.i64 x12.snd.snd.snd.snd.snd.snd.snd.snd.snd.snd.snd.snd.fst])).length.beq 13) then x7 x8 (ah IntKind.i64 (x9.add 1)) x10 (x11++List.take 13 (List.drop 0 [Value.int IntKind.i64 x12.fst,x12.snd.fst,x12.snd.snd.fst,x12.snd.snd.snd.fst,x12.snd.snd.snd.snd.fst,x12.snd.snd.snd.snd.snd.fst,x12.snd.snd.snd.snd.snd.snd.fst,x12.snd.snd.snd.snd.snd.snd.snd.fst,x12.snd.snd.snd.snd.snd.snd.snd.snd.fst,x12.snd.snd.snd.snd.snd.snd.snd.snd.snd.fst,x12.snd.snd.snd.snd.snd.snd.snd.snd.snd.snd.fst,Value.int IntKind.i64 x12.snd.snd.snd.snd.snd.snd.snd.snd.snd.snd.snd.fst,Value.int IntKind.i64 x12.snd.snd.snd.snd.snd.snd.snd.snd.snd.snd.snd.snd.fst])) else none else some x11) w (Int.ofNat x2) 0 x0 []
def LY(w:Nat):Int->Value->Value->Value->Value->Value->Value->Value->Value->Value->Value->Int->Int->Option (Int):=
 λ(x0:Int)(x1 x2 x3 x4 x5 x6 x7 x8 x9 x10:Value)(x11 x12:Int)=>some x12
def EX(w:Nat):List Value->Option (List Value×List Value):=
 λ(x0:List Value)=>lp (λ(x1 x2:Int)(x3 x4:List Value)=>none) (λ(x5:Int->Int->List Value->List Value->Option (List Value×List Value))(x6 x7:Int)(x8 x9:List Value)=>bif ak x7 x6 then aD x7 λ(x10:Nat)=>bif Nat.beq 13 13&&(x10*13).blt x8.length then af (List.drop (0+x10*13) x8) λ(x11:Value)(x12:List Value)=>ax IntKind.i64 x11 λ(x13:Int)=>af x12 λ(x14:Value)(x15:List Value)=>af x15 λ(x16:Value)(x17:List Value)=>af x17 λ(x18:Value)(x19:List Value)=>af x19 λ(x20:Value)(x21:List Value)=>af x21 λ(x22:Value)(x23:List Value)=>af x23 λ(x24:Value)(x25:List Value)=>af x25 λ(x26:Value)(x27:List Value)=>af x27 λ(x28:Value)(x29:List Value)=>af x29 λ(x30:Value)(x31:List Value)=>af x31 λ(x32:Value)(x33:List Value)=>af x33 λ(x34:Value)(x35:List Value)=>ax IntKind.i64 x34 λ(x36:Int)=>af x35 λ(x37:Value)(x38:List Value)=>ax IntKind.i64 x37 λ(x39:Int)=>ob (LY w x13 x14 x16 x18 x20 x22 x24 x26 x28 x30 x32 x36 x39) λ(x40:Int)=>bif aG x9.length&&(aG ([Value.int IntKind.i64 x40].length/1)&&[Value.int IntKind.i64 x40].length.beq ([Value.int IntKind.i64 x40].length/1*1)) then x5 x6 (ah IntKind.i64 (x7.add 1)) x8 (x9++[Value.int IntKind.i64 x40]) else none else none else some (x8,x9)) w (Int.ofNat (x0.length/13)) 0 x0 []
def FQ(w:Nat):Value->List Value->Option (Int×List Value):=
 λ(x0:Value)(x1:List Value)=>aq x0 λ(x2:Nat)=>lp (λ(x3:Value)(x4 x5:Int)(x6:List Value)=>none) (λ(x7:Value->Int->Int->List Value->Option (Int×List Value))(x8:Value)(x9 x10:Int)(x11:List Value)=>bif ak x10 x9 then aD x10 λ(x12:Nat)=>aO 1 x12 x8 λ(x13:List Value)=>af x13 λ(x14:Value)(x15:List Value)=>ax IntKind.i64 x14 λ(x16:Int)=>ob (vo w x16 x11) λ(x17:Bool×List Value)=>bif x17.fst then some (x10,x17.snd) else x7 x8 x9 (ah IntKind.i64 (x10.add 1)) x17.snd else some (-1,x11)) w x0 (Int.ofNat x2) 0 x1
def MA(w:Nat):Value->List Value->Option (Bool×List Value):=
 λ(x0:Value)(x1:List Value)=>ob (FQ w x0 x1) λ(x2:Int×List Value)=>some (!ak x2.fst 0,x2.snd)
def Fh(w:Nat):Value->Option (Value×Bool):=
 λ(x0:Value)=>ob (MA w x0 [Value.int IntKind.i64 0]) λ(x1:Bool×List Value)=>bif x1.fst then some (ae 0 [],false) else some (ae (List.length x1.snd/1) x1.snd,true)
def EZ(w:Nat):Value->Option (List Value):=
 λ(x0:Value)=>aq x0 λ(x1:Nat)=>bif Nat.blt 0 x1 then dN 5 x0 λ(x2:Nat)(x3:List Value)=>bif x3.length.beq (x2*5)&&(Nat.ble 0 0&&Nat.beq 97 97) then bif(0+x2).ble 0 then bif(0+x3.length).ble 0 then none else none else bif aG x2&&(aG 0&&(Builtin.nextslicecap (0+x2) 0).ble 5000000000) then some (List.take 0 (List.drop 0 [])++x3) else none else none else none
def A5(w:Nat):Value->Int->Value->Option (Value×Bool):=
 λ(x0:Value)(x1:Int)(x2:Value)=>ob (Fh w x0) λ(x3:Value×Bool)=>bif !x3.snd then some (ae 0 [],false) else aq x2 λ(x4:Nat)=>aq x0 λ(x5:Nat)=>bif !aj (Int.ofNat x4) (Int.ofNat x5) then some (ae 0 [],false) else bif ak x1 0 then some (ae 0 [],false) else ob (EZ w x2) λ(x6:List Value)=>lp (λ(x7:Value)(x8:Int)(x9:Value)(x10 x11:Int)(x12:List Value)=>none) (λ(x13:Value->Int->Value->Int->Int->List Value->Option (Value×Bool))(x14:Value)(x15:Int)(x16:Value)(x17 x18:Int)(x19:List Value)=>bif ak x18 x17 then aD x18 λ(x20:Nat)=>aO 1 x20 x14 λ(x21:List Value)=>af x21 λ(x22:Value)(x23:List Value)=>ax IntKind.i64 x22 λ(x24:Int)=>aD x18 λ(x25:Nat)=>bif Nat.beq 5 5&&(x25*5).blt x19.length then bif(SV.i IntKind.i64 x24).cells.length.beq 1&&(0+x25*5+1+1).ble x19.length then aD x18 λ(x26:Nat)=>bif Nat.beq 5 5&&(x26*5).blt (aU (0+x25*5+1) [Value.int IntKind.i64 x24] x19).length then bif Nat.beq 1 1&&(0+x26*5+2+1).ble (aU (0+x25*5+1) [Value.int IntKind.i64 x24] x19).length then bif ak 0 x18 then aD x18 λ(x27:Nat)=>aO 1 x27 x16 λ(x28:List Value)=>af x28 λ(x29:Value)(x30:List Value)=>ax IntKind.i64 x29 λ(x31:Int)=>aD x18 λ(x32:Nat)=>bif Nat.beq 5 5&&(x32*5).blt (aU (0+x26*5+2) [Value.int IntKind.i64 0] (aU (0+x25*5+1) [Value.int IntKind.i64 x24] x19)).length then bif(SV.i IntKind.i64 (ah IntKind.i64 (x31.sub x15))).cells.length.beq 1&&(0+x32*5+2+1).ble (aU (0+x26*5+2) [Value.int IntKind.i64 0] (aU (0+x25*5+1) [Value.int IntKind.i64 x24] x19)).length then aD x18 λ(x33:Nat)=>bif Nat.beq 5 5&&(x33*5).blt (aU (0+x32*5+2) [Value.int IntKind.i64 (ah IntKind.i64 (x31.sub x15))] (aU (0+x26*5+2) [Value.int IntKind.i64 0] (aU (0+x25*5+1) [Value.int IntKind.i64 x24] x19))).length then af (List.drop (0+x33*5+2) (aU (0+x32*5+2) [Value.int IntKind.i64 (ah IntKind.i64 (x31.sub x15))] (aU (0+x26*5+2) [Value.int IntKind.i64 0] (aU (0+x25*5+1) [Value.int IntKind.i64 x24] x19)))) λ(x34:Value)(x35:List Value)=>ax IntKind.i64 x34 λ(x36:Int)=>bif ak x36 0 then some (ae 0 [],false) else x13 x14 x15 x16 x17 (ah IntKind.i64 (x18.add 1)) (aU (0+x32*5+2) [Value.int IntKind.i64 (ah IntKind.i64 (x31.sub x15))] (aU (0+x26*5+2) [Value.int IntKind.i64 0] (aU (0+x25*5+1) [Value.int IntKind.i64 x24] x19))) else none else none else none else aD x18 λ(x37:Nat)=>bif Nat.beq 5 5&&(x37*5).blt (aU (0+x26*5+2) [Value.int IntKind.i64 0] (aU (0+x25*5+1) [Value.int IntKind.i64 x24] x19)).length then af (List.drop (0+x37*5+2) (aU (0+x26*5+2) [Value.int IntKind.i64 0] (aU (0+x25*5+1) [Value.int IntKind.i64 x24] x19))) λ(x38:Value)(x39:List Value)=>ax IntKind.i64 x38 λ(x40:Int)=>bif ak x40 0 then some (ae 0 [],false) else x13 x14 x15 x16 x17 (ah IntKind.i64 (x18.add 1)) (aU (0+x26*5+2) [Value.int IntKind.i64 0] (aU (0+x25*5+1) [Value.int IntKind.i64 x24] x19)) else none else none else none else none else none else some (ae (x19.length/5) x19,true)) w x0 x1 x3.fst (Int.ofNat (x6.length/5)) 0 x6
def A4(w:Nat):Value->Option ((Int×Int×Value×Value×List Value)⊕(Value×Int)):=
 λ(x0:Value)=>ob (vk w x0) λ(x1:Int)=>bif !aj x1 0 then some (Sum.inr (Value.pointer none,x1)) else ob (Fm w x0) λ(x2:List Value)=>bif aj (Int.ofNat (x2.length/13)) 1 then some (Sum.inl (0,0,ae 0 [],ae 0 [],x2)) else bif Nat.beq 13 13&&Nat.blt 0 x2.length then af (List.drop 10 x2) λ(x3:Value)(x4:List Value)=>ob (vv w x3) λ(x5:Int×Value×Value×Int)=>ob (EX w x2) λ(x6:List Value×List Value)=>bif Nat.beq 13 13&&Nat.blt 0 (List.length x6.fst) then af (List.drop 11 x6.fst) λ(x7:Value)(x8:List Value)=>ax IntKind.i64 x7 λ(x9:Int)=>ob (A5 w (ae (List.length x6.snd/1) x6.snd) (ah IntKind.i64 (x9.add 4)) x5.snd.fst) λ(x10:Value×Bool)=>ob (BG w x5.fst x10.fst x5.snd.snd.fst) λ(x11:Value×Int)=>bif Nat.beq 13 13&&Nat.blt 0 (List.length x6.fst) then bif(SV.v x11.fst).cells.length.beq 1&&Nat.ble 11 (List.length x6.fst) then some (Sum.inl (0,x5.fst,x10.fst,x5.snd.snd.fst,aU 10 [x11.fst] x6.fst)) else none else none else none else none
def EU(w:Nat):Int->Value->Value->Value->Value->Value->Value->Value->Value->Value->Value->Int->Int->Option (Value):=
 λ(x0:Int)(x1 x2 x3 x4 x5 x6 x7 x8 x9 x10:Value)(x11 x12:Int)=>ob (xP w x0 x1 x2 x3 x4 x5 x6 x7 x8 x9 x10 x11 x12) λ(x13:Value×Int)=>some x13.fst
def xD(w:Nat):Value->Option (Value):=
 λ(x0:Value)=>aq x0 λ(x1:Nat)=>lp (λ(x2:Value)(x3 x4:Int)(x5:List Value)=>none) (λ(x6:Value->Int->Int->List Value->Option Value)(x7:Value)(x8 x9:Int)(x10:List Value)=>bif ak x9 x8 then aD x9 λ(x11:Nat)=>aO 13 x11 x7 λ(x12:List Value)=>af x12 λ(x13:Value)(x14:List Value)=>ax IntKind.i64 x13 λ(x15:Int)=>af x14 λ(x16:Value)(x17:List Value)=>af x17 λ(x18:Value)(x19:List Value)=>af x19 λ(x20:Value)(x21:List Value)=>af x21 λ(x22:Value)(x23:List Value)=>af x23 λ(x24:Value)(x25:List Value)=>af x25 λ(x26:Value)(x27:List Value)=>af x27 λ(x28:Value)(x29:List Value)=>af x29 λ(x30:Value)(x31:List Value)=>af x31 λ(x32:Value)(x33:List Value)=>af x33 λ(x34:Value)(x35:List Value)=>af x35 λ(x36:Value)(x37:List Value)=>ax IntKind.i64 x36 λ(x38:Int)=>af x37 λ(x39:Value)(x40:List Value)=>ax IntKind.i64 x39 λ(x41:Int)=>ob (EU w x15 x16 x18 x20 x22 x24 x26 x28 x30 x32 x34 x38 x41) λ(x42:Value)=>bif aG x10.length&&(aG 1&&(List.take 1 (List.drop 0 [x42])).length.beq 1) then x6 x7 x8 (ah IntKind.i64 (x9.add 1)) (x10++List.take 1 (List.drop 0 [x42])) else none else some (ae (x10.length/1) x10)) w x0 (Int.ofNat x1) 0 []
def AW(w:Nat):Value->Option (Value×Int):=
 λ(x0:Value)=>ob (A4 w x0) λ(x1:Int×Int×Value×Value×List Value⊕Value×Int)=>dc x1 (λ(x2:Int×Int×Value×Value×List Value)=>bif !aj x2.fst 0 then some (ae 0 [],x2.fst) else ob (xD w (ae (List.length x2.snd.snd.snd.snd/13) x2.snd.snd.snd.snd)) λ(x3:Value)=>some (x3,0)) λ(x4:Value×Int)=>bif !aj x4.snd 0 then some (ae 0 [],x4.snd) else none
def AZ(w:Nat):Value->Option (Value×Int):=
 λ(x0:Value)=>ob (A4 w x0) λ(x1:Int×Int×Value×Value×List Value⊕Value×Int)=>dc x1 (λ(x2:Int×Int×Value×Value×List Value)=>bif !aj x2.fst 0 then some (ae 0 [],x2.fst) else some (x2.snd.snd.fst,0)) λ(x3:Value×Int)=>bif !aj x3.snd 0 then some (ae 0 [],x3.snd) else none
def oo(w:Nat):Value->Option (Bool):=
 λ(x0:Value)=>lp (λ(x1:Value)(x2:Int)=>none) (λ(x3:Value->Int->Option Bool)(x4:Value)(x5:Int)=>aq x4 λ(x6:Nat)=>bif ak x5 (Int.ofNat x6) then aD x5 λ(x7:Nat)=>aO 4 x7 x4 λ(x8:List Value)=>af (List.drop 2 (List.drop 1 x8)) λ(x9:Value)(x10:List Value)=>aq x9 λ(x11:Nat)=>bif ak 600 (Int.ofNat x11) then some true else x3 x4 (ah IntKind.i64 (x5.add 1)) else aq x4 λ(x12:Nat)=>some (ak 60 (Int.ofNat x12))) w x0 0
def EO(w:Nat):Value->Option (Bool):=
 λ(x0:Value)=>aq x0 λ(x1:Nat)=>bif ak 6 (Int.ofNat x1) then bif !ak 1000 (Int.ofNat x1) then some true else bif ak 1100 (Int.ofNat x1) then some true else lp (λ(x2 x3:Int)(x4:Value)=>none) (λ(x5:Int->Int->Value->Option Bool)(x6 x7:Int)(x8:Value)=>bif ak x7 x6 then aD x7 λ(x9:Nat)=>aO 14 x9 x8 λ(x10:List Value)=>af x10 λ(x11:Value)(x12:List Value)=>ax IntKind.i64 x11 λ(x13:Int)=>af x12 λ(x14:Value)(x15:List Value)=>af x15 λ(x16:Value)(x17:List Value)=>af x17 λ(x18:Value)(x19:List Value)=>af x19 λ(x20:Value)(x21:List Value)=>af x21 λ(x22:Value)(x23:List Value)=>af x23 λ(x24:Value)(x25:List Value)=>af x25 λ(x26:Value)(x27:List Value)=>af x27 λ(x28:Value)(x29:List Value)=>af x29 λ(x30:Value)(x31:List Value)=>af x31 λ(x32:Value)(x33:List Value)=>ax IntKind.i64 x32 λ(x34:Int)=>af x33 λ(x35:Value)(x36:List Value)=>ax IntKind.i64 x35 λ(x37:Int)=>af x36 λ(x38:Value)(x39:List Value)=>ax IntKind.i64 x38 λ(x40:Int)=>af x39 λ(x41:Value)(x42:List Value)=>ob (oo w x14) λ(x43:Bool)=>bif x43 then some true else ob (oo w x16) λ(x44:Bool)=>bif x44 then some true else ob (oo w x18) λ(x45:Bool)=>bif x45 then some true else ob (oo w x20) λ(x46:Bool)=>bif x46 then some true else ob (oo w x22) λ(x47:Bool)=>bif x47 then some true else ob (oo w x41) λ(x48:Bool)=>bif x48 then some true else aq x24 λ(x49:Nat)=>bif ak 2000 (Int.ofNat x49) then some true else aq x26 λ(x50:Nat)=>bif ak 2000 (Int.ofNat x50) then some true else aq x28 λ(x51:Nat)=>bif ak 2000 (Int.ofNat x51) then some true else aq x30 λ(x52:Nat)=>bif ak 2000 (Int.ofNat x52) then some true else x5 x6 (ah IntKind.i64 (x7.add 1)) x8 else some false) w (Int.ofNat x1) 0 x0 else bif ak 1100 (Int.ofNat x1) then some true else lp (λ(x53 x54:Int)(x55:Value)=>none) (λ(x56:Int->Int->Value->Option Bool)(x57 x58:Int)(x59:Value)=>bif ak x58 x57 then aD x58 λ(x60:Nat)=>aO 14 x60 x59 λ(x61:List Value)=>af x61 λ(x62:Value)(x63:List Value)=>ax IntKind.i64 x62 λ(x64:Int)=>af x63 λ(x65:Value)(x66:List Value)=>af x66 λ(x67:Value)(x68:List Value)=>af x68 λ(x69:Value)(x70:List Value)=>af x70 λ(x71:Value)(x72:List Value)=>af x72 λ(x73:Value)(x74:List Value)=>af x74 λ(x75:Value)(x76:List Value)=>af x76 λ(x77:Value)(x78:List Value)=>af x78 λ(x79:Value)(x80:List Value)=>af x80 λ(x81:Value)(x82:List Value)=>af x82 λ(x83:Value)(x84:List Value)=>ax IntKind.i64 x83 λ(x85:Int)=>af x84 λ(x86:Value)(x87:List Value)=>ax IntKind.i64 x86 λ(x88:Int)=>af x87 λ(x89:Value)(x90:List Value)=>ax IntKind.i64 x89 λ(x91:Int)=>af x90 λ(x92:Value)(x93:List Value)=>ob (oo w x65) λ(x94:Bool)=>bif x94 then some true else ob (oo w x67) λ(x95:Bool)=>bif x95 then some true else ob (oo w x69) λ(x96:Bool)=>bif x96 then some true else ob (oo w x71) λ(x97:Bool)=>bif x97 then some true else ob (oo w x73) λ(x98:Bool)=>bif x98 then some true else ob (oo w x92) λ(x99:Bool)=>bif x99 then some true else aq x75 λ(x100:Nat)=>bif ak 2000 (Int.ofNat x100) then some true else aq x77 λ(x101:Nat)=>bif ak 2000 (Int.ofNat x101) then some true else aq x79 λ(x102:Nat)=>bif ak 2000 (Int.ofNat x102) then some true else aq x81 λ(x103:Nat)=>bif ak 2000 (Int.ofNat x103) then some true else x56 x57 (ah IntKind.i64 (x58.add 1)) x59 else some false) w (Int.ofNat x1) 0 x0
def tr(w:Nat):Option (Int×Value×Value×Value×Value×Value×Value×Value×Value×Value×Int×Int×Int×Value):=
 ob (F6 w 3 (ae 1 [Value.int IntKind.i64 1])) λ(x0:Int×Int×Value×Bool)=>some (2,ae 1 (List.drop 0 [Value.int IntKind.i64 274,Value.int IntKind.i64 x0.fst,Value.int IntKind.i64 x0.snd.fst,x0.snd.snd.fst]),ae 0 [],ae 0 [],ae 0 [],ae 0 [],ae 0 [],ae 0 [],ae 0 [],ae 15 (List.drop 0 [Value.int IntKind.u8 255,Value.int IntKind.u8 216,Value.int IntKind.u8 255,Value.int IntKind.u8 218,Value.int IntKind.u8 0,Value.int IntKind.u8 8,Value.int IntKind.u8 1,Value.int IntKind.u8 1,Value.int IntKind.u8 0,Value.int IntKind.u8 0,Value.int IntKind.u8 63,Value.int IntKind.u8 0,Value.int IntKind.u8 7,Value.int IntKind.u8 255,Value.int IntKind.u8 217]),0,0,0,ae 0 [])
def AX(w:Nat):Value->Value->Option (Bool):=
 λ(x0 x1:Value)=>aq x0 λ(x2:Nat)=>aq x1 λ(x3:Nat)=>bif !aj (Int.ofNat x2) (Int.ofNat x3) then some false else lp (λ(x4 x5:Value)(x6:Int)=>none) (λ(x7:Value->Value->Int->Option Bool)(x8 x9:Value)(x10:Int)=>aq x8 λ(x11:Nat)=>bif ak x10 (Int.ofNat x11) then aD x10 λ(x12:Nat)=>aO 1 x12 x8 λ(x13:List Value)=>af x13 λ(x14:Value)(x15:List Value)=>ax IntKind.u8 x14 λ(x16:Int)=>aD x10 λ(x17:Nat)=>aO 1 x17 x9 λ(x18:List Value)=>af x18 λ(x19:Value)(x20:List Value)=>ax IntKind.u8 x19 λ(x21:Int)=>bif !aj x16 x21 then some false else x7 x8 x9 (ah IntKind.i64 (x10.add 1)) else some true) w x0 x1 0
def vj(w:Nat):Value->Option (Value×Int):=
 λ(x0:Value)=>ob (AW w x0) λ(x1:Value×Int)=>bif !aj x1.snd 0 then some (ae 0 [],x1.snd) else ob (EY w x1.fst) λ(x2:Value)=>some (x2,0)
def vi(w:Nat):Option (Bool):=
 ob (tr w) λ(x0:Int×Value×Value×Value×Value×Value×Value×Value×Value×Value×Int×Int×Int×Value)=>ob (vj w (ae 1 (List.drop 0 [Value.int IntKind.i64 x0.fst,x0.snd.fst,x0.snd.snd.fst,x0.snd.snd.snd.fst,x0.snd.snd.snd.snd.fst,x0.snd.snd.snd.snd.snd.fst,x0.snd.snd.snd.snd.snd.snd.fst,x0.snd.snd.snd.snd.snd.snd.snd.fst,x0.snd.snd.snd.snd.snd.snd.snd.snd.fst,x0.snd.snd.snd.snd.snd.snd.snd.snd.snd.fst,Value.int IntKind.i64 x0.snd.snd.snd.snd.snd.snd.snd.snd.snd.snd.fst,Value.int IntKind.i64 x0.snd.snd.snd.snd.snd.snd.snd.snd.snd.snd.snd.fst,Value.int IntKind.i64 x0.snd.snd.snd.snd.snd.snd.snd.snd.snd.snd.snd.snd.fst,x0.snd.snd.snd.snd.snd.snd.snd.snd.snd.snd.snd.snd.snd]))) λ(x1:Value×Int)=>ob (tr w) λ(x2:Int×Value×Value×Value×Value×Value×Value×Value×Value×Value×Int×Int×Int×Value)=>ob (tr w) λ(x3:Int×Value×Value×Value×Value×Value×Value×Value×Value×Value×Int×Int×Int×Value)=>ob (vj w (ae 2 (List.drop 0 [Value.int IntKind.i64 x2.fst,x2.snd.fst,x2.snd.snd.fst,x2.snd.snd.snd.fst,x2.snd.snd.snd.snd.fst,x2.snd.snd.snd.snd.snd.fst,x2.snd.snd.snd.snd.snd.snd.fst,x2.snd.snd.snd.snd.snd.snd.snd.fst,x2.snd.snd.snd.snd.snd.snd.snd.snd.fst,x2.snd.snd.snd.snd.snd.snd.snd.snd.snd.fst,Value.int IntKind.i64 x2.snd.snd.snd.snd.snd.snd.snd.snd.snd.snd.fst,Value.int IntKind.i64 x2.snd.snd.snd.snd.snd.snd.snd.snd.snd.snd.snd.fst,Value.int IntKind.i64 x2.snd.snd.snd.snd.snd.snd.snd.snd.snd.snd.snd.snd.fst,x2.snd.snd.snd.snd.snd.snd.snd.snd.snd.snd.snd.snd.snd,Value.int IntKind.i64 x3.fst,x3.snd.fst,x3.snd.snd.fst,x3.snd.snd.snd.fst,x3.snd.snd.snd.snd.fst,x3.snd.snd.snd.snd.snd.fst,x3.snd.snd.snd.snd.snd.snd.fst,x3.snd.snd.snd.snd.snd.snd.snd.fst,x3.snd.snd.snd.snd.snd.snd.snd.snd.fst,x3.snd.snd.snd.snd.snd.snd.snd.snd.snd.fst,Value.int IntKind.i64 x3.snd.snd.snd.snd.snd.snd.snd.snd.snd.snd.fst,Value.int IntKind.i64 x3.snd.snd.snd.snd.snd.snd.snd.snd.snd.snd.snd.fst,Value.int IntKind.i64 x3.snd.snd.snd.snd.snd.snd.snd.snd.snd.snd.snd.snd.fst,x3.snd.snd.snd.snd.snd.snd.snd.snd.snd.snd.snd.snd.snd]))) λ(x4:Value×Int)=>ob (tr w) λ(x5:Int×Value×Value×Value×Value×Value×Value×Value×Value×Value×Int×Int×Int×Value)=>ob (tr w) λ(x6:Int×Value×Value×Value×Value×Value×Value×Value×Value×Value×Int×Int×Int×Value)=>ob (AZ w (ae 2 (List.drop 0 [Value.int IntKind.i64 x5.fst,x5.snd.fst,x5.snd.snd.fst,x5.snd.snd.snd.fst,x5.snd.snd.snd.snd.fst,x5.snd.snd.snd.snd.snd.fst,x5.snd.snd.snd.snd.snd.snd.fst,x5.snd.snd.snd.snd.snd.snd.snd.fst,x5.snd.snd.snd.snd.snd.snd.snd.snd.fst,x5.snd.snd.snd.snd.snd.snd.snd.snd.snd.fst,Value.int IntKind.i64 x5.snd.snd.snd.snd.snd.snd.snd.snd.snd.snd.fst,Value.int IntKind.i64 x5.snd.snd.snd.snd.snd.snd.snd.snd.snd.snd.snd.fst,Value.int IntKind.i64 x5.snd.snd.snd.snd.snd.snd.snd.snd.snd.snd.snd.snd.fst,x5.snd.snd.snd.snd.snd.snd.snd.snd.snd.snd.snd.snd.snd,Value.int IntKind.i64 x6.fst,x6.snd.fst,x6.snd.snd.fst,x6.snd.snd.snd.fst,x6.snd.snd.snd.snd.fst,x6.snd.snd.snd.snd.snd.fst,x6.snd.snd.snd.snd.snd.snd.fst,x6.snd.snd.snd.snd.snd.snd.snd.fst,x6.snd.snd.snd.snd.snd.snd.snd.snd.fst,x6.snd.snd.snd.snd.snd.snd.snd.snd.snd.fst,Value.int IntKind.i64 x6.snd.snd.snd.snd.snd.snd.snd.snd.snd.snd.fst,Value.int IntKind.i64 x6.snd.snd.snd.snd.snd.snd.snd.snd.snd.snd.snd.fst,Value.int IntKind.i64 x6.snd.snd.snd.snd.snd.snd.snd.snd.snd.snd.snd.snd.fst,x6.snd.snd.snd.snd.snd.snd.snd.snd.snd.snd.snd.snd.snd]))) λ(x7:Value×Int)=>ob (vj w (ae 0 [])) λ(x8:Value×Int)=>bif aj x1.snd 0 then aq x1.fst λ(x9:Nat)=>bif aj (Int.ofNat x9) 51 then bif aj x4.snd 0 then aq x4.fst λ(x10:Nat)=>bif aj (Int.ofNat x10) 192 then bif aj x7.snd 0 then aq x7.fst λ(x11:Nat)=>bif aj (Int.ofNat x11) 2 then aO 5 0 x7.fst λ(x12:List Value)=>af x12 λ(x13:Value)(x14:List Value)=>ax IntKind.i64 x13 λ(x15:Int)=>af x14 λ(x16:Value)(x17:List Value)=>ax IntKind.i64 x16 λ(x18:Int)=>af x17 λ(x19:Value)(x20:List Value)=>ax IntKind.i64 x19 λ(x21:Int)=>af x20 λ(x22:Value)(x23:List Value)=>ax IntKind.i64 x22 λ(x24:Int)=>af x23 λ(x25:Value)(x26:List Value)=>ax IntKind.i64 x25 λ(x27:Int)=>bif bif aj x15 0 then bif aj x18 141 then bif aj x21 0 then bif aj x24 0 then bif aj x27 0 then true else false else false else false else false else false then aO 5 1 x7.fst λ(x28:List Value)=>af x28 λ(x29:Value)(x30:List Value)=>ax IntKind.i64 x29 λ(x31:Int)=>af x30 λ(x32:Value)(x33:List Value)=>ax IntKind.i64 x32 λ(x34:Int)=>af x33 λ(x35:Value)(x36:List Value)=>ax IntKind.i64 x35 λ(x37:Int)=>af x36 λ(x38:Value)(x39:List Value)=>ax IntKind.i64 x38 λ(x40:Int)=>af x39 λ(x41:Value)(x42:List Value)=>ax IntKind.i64 x41 λ(x43:Int)=>bif bif aj x31 0 then bif aj x34 51 then bif aj x37 95 then bif aj x40 0 then bif aj x43 0 then true else false else false else false else false else false then some (aj x8.snd 1) else some false else some false else some false else some false else some false else some false else some false else some false
end
end
section
set_option linter.unusedVariables false
set_option linter.unusedSimpArgs false
set_option linter.unusedSectionVars false
set_option linter.constructorNameAsVariable false
noncomputable section
theorem aaU(w:Nat):lI Tryz.prog 24 ⟨1,⟨[(0,.agg [.v])],[],0⟩,0,⟨[(0,.gr 0 13)],[(0,.grow 13 56)],1⟩⟩ (Fm w):=sM (w:=w) (lv:=λn=>(cond (Nat.beq n 0) (some ⟨[(1,.ptr 0 0),(3,.gr 1 13),(12,.i .i64),(13,.i .i64)],[(0,.cells [.v] 24),(1,.grow 13 56)],2⟩) none)) (jv:=λ_=>none) (un:=λn=>false) fJ mixed (cG (cG ga (DF w)) (JV w)) (fn:=Tryz.f24) (by kernel_rfl) (by kernel_rfl) (by kernel_rfl)
theorem aas(w:Nat):cg Tryz.prog 107 [.agg [.i .i64,.v,.v,.v,.v,.v,.v,.v,.v,.v,.v,.i .i64,.i .i64]] (.i .i64) (LY w):=jP (w:=w) (lv:=λn=>none) (jv:=λ_=>none) (un:=λn=>false) fJ mixed ga (fn:=Tryz.f107) (by kernel_rfl) (by kernel_rfl) (by kernel_rfl)
theorem aar(w:Nat):lI Tryz.prog 106 ⟨2,⟨[(0,.gr 0 13),(1,.fn 107 [])],[(0,.grow 13 56)],1⟩,1,⟨[(0,.gr 1 1)],[(0,.grow 13 56),(1,.grow 1 3)],2⟩⟩ (EX w):=sM (w:=w) (lv:=λn=>(cond (Nat.beq n 0) (some ⟨[(1,.fn 107 []),(5,.gr 1 1),(8,.gr 0 13),(9,.i .i64),(10,.i .i64)],[(0,.grow 13 56),(1,.grow 1 3)],2⟩) none)) (jv:=λ_=>none) (un:=λn=>false) fJ mixed (cG ga (aas w)) (fn:=Tryz.f106) (by kernel_rfl) (by kernel_rfl) (by kernel_rfl)
theorem abx(w:Nat):lI Tryz.prog 268 ⟨2,⟨[(0,.v),(1,.fn 197 [.ptr 0 0])],[(0,.cells [.gr 1 1] 47),(1,.grow 1 3)],2⟩,1,⟨[(0,.i .i64)],[(0,.cells [.gr 1 1] 47),(1,.grow 1 3)],2⟩⟩ (FQ w):=sM (w:=w) (lv:=λn=>(cond (Nat.beq n 0) (some ⟨[(0,.v),(1,.fn 197 [.ptr 0 0]),(7,.i .i64),(8,.i .i64)],[(0,.cells [.gr 1 1] 47),(1,.grow 1 3)],2⟩) none)) (jv:=λ_=>none) (un:=λn=>false) fJ mixed (lA ga (Si w)) (fn:=Tryz.f268) (by kernel_rfl) (by kernel_rfl) (by kernel_rfl)
theorem abc(w:Nat):lI Tryz.prog 196 ⟨2,⟨[(0,.v),(1,.fn 197 [.ptr 0 0])],[(0,.cells [.gr 1 1] 47),(1,.grow 1 3)],2⟩,1,⟨[(0,.b)],[(0,.cells [.gr 1 1] 47),(1,.grow 1 3)],2⟩⟩ (MA w):=sM (w:=w) (lv:=λn=>none) (jv:=λ_=>none) (un:=λn=>false) fJ mixed (lA (cG ga (JP w)) (abx w)) (fn:=Tryz.f196) (by kernel_rfl) (by kernel_rfl) (by kernel_rfl)
theorem aaM(w:Nat):cg Tryz.prog 132 [.v] (.aH [.v,.b]) (Fh w):=jP (w:=w) (lv:=λn=>none) (jv:=λ_=>none) (un:=λn=>false) fJ mixed (lA (cG ga (JO w)) (abc w)) (fn:=Tryz.f132) (by kernel_rfl) (by kernel_rfl) (by kernel_rfl)
theorem aaw(w:Nat):lI Tryz.prog 133 ⟨1,⟨[(0,.v)],[],0⟩,0,⟨[(0,.gr 0 5)],[(0,.grow 5 97)],1⟩⟩ (EZ w):=sM (w:=w) (lv:=λn=>none) (jv:=λ_=>none) (un:=λn=>false) fJ mixed ga (fn:=Tryz.f133) (by kernel_rfl) (by kernel_rfl) (by kernel_rfl)
theorem RP(w:Nat):cg Tryz.prog 67 [.v,.i .i64,.v] (.aH [.v,.b]) (A5 w):=jP (w:=w) (lv:=λn=>(cond (Nat.beq n 0) (some ⟨[(0,.v),(1,.i .i64),(8,.v),(10,.gr 0 5),(33,.i .i64),(34,.i .i64)],[(0,.grow 5 97)],1⟩) none)) (jv:=λ_=>none) (un:=λn=>false) fJ mixed (lA (cG ga (aaM w)) (aaw w)) (fn:=Tryz.f67) (by kernel_rfl) (by kernel_rfl) (by kernel_rfl)
theorem RN(w:Nat):B7 Tryz.prog 57 ⟨1,⟨[(0,.agg [.v])],[],0⟩,0,⟨[(0,.aH [.ptr 0 0,.i .i64])],[(0,.cells [.i .i64,.v,.v,.gr 1 13] 107),(1,.grow 13 56)],2⟩,⟨[(0,.aH [.v,.i .i64])],[],0⟩⟩ (A4 w):=Ye (w:=w) (lv:=λn=>none) (jv:=λ_=>none) (un:=λn=>false) fJ mixed (cG (lA (cG (lA (cG (cG ga (DF w)) (SJ w)) (aaU w)) (DP w)) (aar w)) (RP w)) (fn:=Tryz.f57) (by kernel_rfl) (by kernel_rfl) (by kernel_rfl)
theorem aal(w:Nat):cg Tryz.prog 59 [.agg [.i .i64,.v,.v,.v,.v,.v,.v,.v,.v,.v,.v,.i .i64,.i .i64]] (.v) (EU w):=jP (w:=w) (lv:=λn=>none) (jv:=λ_=>none) (un:=λn=>false) fJ mixed (cG ga (Su w)) (fn:=Tryz.f59) (by kernel_rfl) (by kernel_rfl) (by kernel_rfl)
theorem aak(w:Nat):cg Tryz.prog 58 [.v,.fn 59 []] (.v) (xD w):=jP (w:=w) (lv:=λn=>(cond (Nat.beq n 0) (some ⟨[(1,.fn 59 []),(5,.gr 0 1),(8,.v),(9,.i .i64),(10,.i .i64)],[(0,.grow 1 26)],1⟩) none)) (jv:=λ_=>none) (un:=λn=>false) fJ mixed (cG ga (aal w)) (fn:=Tryz.f58) (by kernel_rfl) (by kernel_rfl) (by kernel_rfl)
theorem RH(w:Nat):cg Tryz.prog 18 [.agg [.v]] (.aH [.v,.i .i64]) (AW w):=jP (w:=w) (lv:=λn=>none) (jv:=λ_=>none) (un:=λn=>false) fJ mixed (cG (To ga (RN w)) (aak w)) (fn:=Tryz.f18) (by kernel_rfl) (by kernel_rfl) (by kernel_rfl)
theorem RL(w:Nat):cg Tryz.prog 21 [.agg [.v]] (.aH [.v,.i .i64]) (AZ w):=jP (w:=w) (lv:=λn=>none) (jv:=λ_=>none) (un:=λn=>false) fJ mixed (To ga (RN w)) (fn:=Tryz.f21) (by kernel_rfl) (by kernel_rfl) (by kernel_rfl)
theorem aai(w:Nat):cg Tryz.prog 55 [.v] (.b) (oo w):=jP (w:=w) (lv:=λn=>(cond (Nat.beq n 0) (some ⟨[(0,.v),(3,.i .i64)],[],0⟩) none)) (jv:=λ_=>none) (un:=λn=>false) fJ mixed ga (fn:=Tryz.f55) (by kernel_rfl) (by kernel_rfl) (by kernel_rfl)
theorem aaa(w:Nat):cg Tryz.prog 15 [.agg [.v]] (.b) (EO w):=jP (w:=w) (lv:=λn=>(cond (Nat.beq n 0) (some ⟨[(1,.ptr 0 0),(3,.i .i64),(4,.i .i64)],[(0,.cells [.v] 24)],1⟩) none)) (jv:=λ_=>none) (un:=λn=>false) fJ mixed (cG ga (aai w)) (fn:=Tryz.f15) (by kernel_rfl) (by kernel_rfl) (by kernel_rfl)
theorem aaj(w:Nat):cg Tryz.prog 56 [] (.agg [.i .i64,.v,.v,.v,.v,.v,.v,.v,.v,.v,.i .i64,.i .i64,.i .i64,.v]) (tr w):=jP (w:=w) (lv:=λn=>none) (jv:=λ_=>none) (un:=λn=>false) fJ mixed (cG ga (ab8 w)) (fn:=Tryz.f56) (by kernel_rfl) (by kernel_rfl) (by kernel_rfl)
theorem aac(w:Nat):cg Tryz.prog 19 [.v,.v] (.b) (AX w):=jP (w:=w) (lv:=λn=>(cond (Nat.beq n 0) (some ⟨[(0,.v),(1,.v),(5,.i .i64)],[],0⟩) none)) (jv:=λ_=>none) (un:=λn=>false) fJ mixed ga (fn:=Tryz.f19) (by kernel_rfl) (by kernel_rfl) (by kernel_rfl)
theorem RJ(w:Nat):cg Tryz.prog 20 [.agg [.v]] (.aH [.v,.i .i64]) (vj w):=jP (w:=w) (lv:=λn=>none) (jv:=λ_=>none) (un:=λn=>false) fJ mixed (cG (cG ga (RH w)) (aat w)) (fn:=Tryz.f20) (by kernel_rfl) (by kernel_rfl) (by kernel_rfl)
theorem aab(w:Nat):cg Tryz.prog 17 [] (.b) (vi w):=jP (w:=w) (lv:=λn=>none) (jv:=λ_=>none) (un:=λn=>false) fJ mixed (cG (cG (cG ga (aaj w)) (RJ w)) (RL w)) (fn:=Tryz.f17) (by kernel_rfl) (by kernel_rfl) (by kernel_rfl)
end
end
section
set_option linter.unusedVariables false
set_option linter.unusedSimpArgs false
set_option linter.unusedSectionVars false
set_option linter.constructorNameAsVariable false
def rh(A:Value->Int->Option (Int×Bool))(x:Value)(n:Nat):Nat->Int->List Int->Option (List Int)
 |0,_,_=>none
 |f+1,at_,acc=>cond (ak at_ n) (ob (A x at_) λr=>cond ((r.2 &&ak at_ r.1)&&Nat.blt acc.length 1000000) (rh A x n f r.1 (acc++[at_])) none) (some acc)
def findF(w:Nat)(A:Value->Int->Option (Int×Bool))(x:Value):Option (Value×Int):=match rowOf x with
 |some (n,_)=>cond (Nat.ble n 1000000000) (ob (rh A x n w 0 []) λl=>cond (Nat.blt 0 l.length&&Nat.ble l.length 1000000) (some (ae (l.length+1) ((l++[(n:Int)]).map (Value.int .i64)),0)) none) none
 |none=>none
end
end Lt
section
set_option linter.unusedVariables false
set_option linter.unusedSimpArgs false
set_option linter.unusedSectionVars false
set_option linter.constructorNameAsVariable false
open Go.Shelf Go.RowKit Go.Lib
attribute [local go_sem] Oper.semAt_some
theorem YD(a:Option Addr)(n c:Nat)(w:World):Calls Tryz.prog 63 #[.slice a n c] w λe w'=>e=.returned (.func (.func 121) #[] #[.pointer (some ⟨w.heap.size,0,none⟩)])/\w'=w.alloc (.cells #[.slice a n c] 26):=by
 go_enter Tryz.func63,Tryz.ntmps63
 go_wp2_with fail
 go_ret
 exact⟨rfl,rfl⟩
theorem YE(X l:Nat){A:Lt.qk}(HA:Lt.cg Tryz.prog 97 [.v,.i .i64] (.aH [.i .i64,.b]) A){m:Nat->Nat->Option Value}{x:Value}(hx:Lt.gu x/\Lt.bc [x]=true){p:Option Addr}{n c:Nat}(hn:n<1000000001)(L:Lt.aJ m x (.slice p n c))
 (J:List Int->World->Prop) (hJk:∀acc W,J acc W->Lt.Kn m W/\W.cell? ⟨X,0,none⟩=some (.slice p n c)) (hJb:∀acc W W',J acc W->RowKit.Below W.heap.size W W'->J acc W')
 (hy:∀acc (a e:Int) W,J acc W->acc.length<1000000->a<e->YieldAt Fence.wide 0 Tryz.prog l #[.int .i64 a,.int .i64 e] W λe W'=>e=.returned (.bool true)/\J (acc++[a]) W')
 {f:Nat} {R:List Int} (hf:Lt.rh A x n f 0 []=some R) (W:World) (hj:J [] W):
 CallsIn Fence.wide 0 Tryz.prog 121 #[.func (.yield l) #[] #[],.pointer (some ⟨X,0,none⟩)] W λe W'=>(∃v,e=.returned v)/\J R W':=by
 refine callsIn_of_wp Tryz.func121 rfl trivial ?_ rfl
 simp only[Tryz.ntmps121,r8,bY,List.length_nil,Nat.reduceAdd,Nat.reduceSub,rU,rV,rZ,rX,fU,fo]
 gi_wp2
 gi_loopw [3] (λp wr=>∃(a:Int)(acc:List Int)(f:Nat),p=.int .i64 a/\Lt.rh A x n f a acc=some R/\J acc wr)
  (λp wr=>((n:Int) -Lib.intOf p).toNat)
 case atStart=>exact⟨0,[],f,rfl,hf,hj⟩
 case round=>
  obtain⟨a,acc,f,rfl,h,jr⟩:=hrel
  cases f with
  |zero=>cases h
  |succ f=>
  obtain⟨kr,cr⟩:=hJk _ _ jr
  unfold Lt.rh at h
  by_cases ha:a<n
  ·rw[show Lt.ak a n=true by rw[Lt.nT];exact ff ha] at h
   replace h:=Lt.ar (show Lt.ob _ _=some R from h)
   obtain⟨r,hr,h⟩:=h
   obtain⟨hq,h⟩:=Lt.aY h
   simp only[bt] at hq
   obtain⟨⟨q1,q2⟩,q3⟩:=hq
   have q2:a<r.1 :=by rw[Lt.nT] at q2;exact nF q2
   have q3:=Lt.eQ q3
   have C:=Lt.Hz HA hr hx kr L
   obtain⟨e1,b1⟩:=r
   obtain rfl:b1=true:=q1
   gi_wp2
   refine⟨trivial,rfl,(callsIn_wide.2 C).mono ?_⟩
   rintro e W3 ⟨rfl,b3⟩
   have j3:=hJb _ _ _ jr b3
   obtain⟨fn,tmps,assign,body,hyv,hR⟩:=hy acc a e1 W3 j3 q3 q2
   gi_wp2
   refine⟨rfl,hR.mono ?_⟩
   rintro e W4 ⟨rfl,j4⟩
   gi_wp2
   exact⟨⟨e1,_,f,rfl,h,j4⟩,by simp only[Lib.intOf];omega⟩
  ·rw[show Lt.ak a n=false by rw[Lt.nT];exact fe ha] at h
   obtain rfl:acc=R:=kG h
   gi_wp2
   go_end0
   exact⟨⟨_,rfl⟩,jr⟩
end
section
set_option linter.unusedVariables false
set_option linter.unusedSimpArgs false
set_option linter.unusedSectionVars false
set_option linter.constructorNameAsVariable false
open Go.Shelf Go.RowKit Go.Lib
attribute [local go_sem] Oper.semAt_some
theorem cell_of{W:World}{b:Nat}{v:Value}{t:TypeId}(h:W.heap[b]? =some (.cells #[v] t (0,0))):W.cell? ⟨b,0,none⟩=some v/\W.frozen? ⟨b,0,none⟩=false:=by
 constructor
 ·unfold World.cell?;simp only[h];rfl
 ·unfold World.frozen?;simp only[h];rfl
theorem Wq(W:World)(o:Obj)(q:Nat):(W.alloc o).heap[q]? =if q=W.heap.size then some o else W.heap[q]? :=by
 split
 ·rename_i h;subst h;exact World.alloc_heap_new W o
 ·rcases ir q W.heap.size with h|h
  ·exact Below.heap_alloc _ _ _ h
  ·rw[Array.getElem?_eq_none (by rw[lG];omega),Array.getElem?_eq_none h]
theorem An{W W':World}{B k:Nat}{v:Value}{xs:List Value}(h:W.ownsRow B 3 1 v k xs)(e:∀g,B<=g->g<W.heap.size->W'.heap[g]? =W.heap[g]?):W'.ownsRow B 3 1 v k xs:=by
 obtain⟨l,h|⟨g,cap,cur,e1,e2,e3,r⟩⟩:=h
 ·exact⟨l,.inl h⟩
 ·exact⟨l,.inr ⟨g,cap,cur,e1,e2,(e g e2 (iE.1 e3).1).trans e3,r⟩⟩
theorem Qt:(Tryz.prog.info? 3).map (λi=>(i.zero,i.size,i.bytes))=some (some (.int .i64 0),1,8):=by kernel_rfl
namespace Lt
theorem De{m:Nat->Nat->Option Value}:∀l:List Int,bG m (l.map (Value.int .i64)) (l.map (Value.int .i64))/\bc (l.map (Value.int .i64))=true
 |[]=>⟨.nil,rfl⟩
 |_::l=>⟨.cons (.int _ _) (De l).1,(De (m:=m) l).2⟩
end Lt
structure wc(w:World)(z q:Nat)(R0:Loop)(p:Option Addr)(n c:Nat)(acc:List Int)(W:World):Prop where
 kW:RowKit.Below z w W
 b0:∃v,W.heap[z]? =some (.cells #[v] 47 (0,0))
 b1:∃v,W.heap[z+1]? =some (.cells #[v] 36 (0,0))
 b2:∃v,W.heap[z+1+1]? =some (.cells #[v] 47 (0,0))/\W.ownsRow (q+2) 3 1 v acc.length (acc.map (Value.int .i64))
 b3:W.heap[z+1+1+1]? =some (.cells #[.slice p n c] 26 (0,0))
 b4:W.heap[q]? =some (.deferred (some []))
 b5:W.heap[q+1]? =some (.loop R0)
theorem wc.zH{w:World}{z q:Nat}{R0:Loop}{p:Option Addr}{n c:Nat}{acc:List Int}{W W':World}(h:wc w z q R0 p n c acc W)(hz:z<=w.heap.size)(b:RowKit.Below W.heap.size W W'):wc w z q R0 p n c acc W':=by
 have k:∀{q o},W.heap[q]? =some o->W'.heap[q]? =some o:=λ{q o} e=>(b.block q (iE.1 e).1).trans e
 obtain⟨a,⟨v0,h0⟩,⟨v1,h1⟩,⟨v2,h2,r2⟩,h3,h4,h5⟩:=h
 exact⟨a.trans (b.mono (fy hz a.size)),⟨v0,k h0⟩,⟨v1,k h1⟩,⟨v2,k h2,An r2 λg _ hg=>b.block g hg⟩,k h3,k h4,k h5⟩
theorem XZ{m:Nat->Nat->Option Value}{w:World}(hk:Lt.Kn m w){A:Lt.qk}(HA:Lt.cg Tryz.prog 97 [.v,.i .i64] (.aH [.i .i64,.b]) A){x:Value}(hx:Lt.gu x/\Lt.bc [x]=true){p:Option Addr}{n c:Nat}(hn:n<1000000001)(L:Lt.aJ m x (.slice p n c))
 {f:Nat} {R:List Int} (hf:Lt.rh A x n f 0 []=some R) (h0:0<R.length) (h1:R.length<=1000000):
 Calls Tryz.prog 23 #[.slice p n c] w λe w'=>∃v,e=.returned (.tuple #[v,.int .i64 0])/\RowKit.Below w.heap.size w w'/\Lt.aJ (Lt.cN m w w') (Lt.ae (R.length+1) ((R++[(n:Int)]).map (Value.int .i64))) v:=by
 refine(callsIn_wide (n:=0)).1 ?_
 refine callsIn_of_wp_marks Tryz.func23 rfl trivial ?_ rfl
 simp only[Tryz.ntmps23,r8,bY,List.length_nil,Nat.reduceAdd,Nat.reduceSub,rU,rV,rZ,rX,fU,fo]
 gi_wp2
 refine⟨trivial,rfl,(callsIn_wide.2 (YD _ _ _ _)).mono ?_⟩
 rintro e w2 ⟨rfl,rfl⟩
 gi_wp2
 obtain⟨z,hz⟩:∃z,z=w.heap.size:=⟨_,rfl⟩
 obtain⟨w2,hw2⟩:∃w2,w2=(((w.alloc (.cells #[.slice none 0 0] 47)).alloc (.cells #[.int .i64 0] 36)).alloc (.cells #[.slice none 0 0] 47)).alloc (.cells #[.slice p n c] 26):=⟨_,rfl⟩
 have J0:RowKit.Below z w w2/\w2.heap.size=z+4/\w2.heap[z]? =some (.cells #[.slice none 0 0] 47 (0,0))/\w2.heap[z+1]? =some (.cells #[.int .i64 0] 36 (0,0))/\w2.heap[z+1+1]? =some (.cells #[.slice none 0 0] 47 (0,0))/\w2.heap[z+1+1+1]? =some (.cells #[.slice p n c] 26 (0,0)):=by
  rw[hw2,hz]
  refine⟨((((fb _ w).alloc (aK _) _).alloc (by simp) _).alloc (by simp;omega) _).alloc (by simp;omega) _,by simp,?_,?_,?_,?_⟩
  all_goals
   simp only[Wq,lG,dL]
   repeat rw[ai (by omega)]
 rw[<-hw2,<-hz]
 clear hw2
 obtain⟨J1,J2,J3,J4,J5,J6⟩:=J0
 refine D9 (gf:=121) (lb:=#[.pointer (some ⟨z+1+1+1,0,none⟩)]) rfl (enters_of Tryz.func121 (by kernel_rfl) rfl) ?_
 intro fn W1 hW1
 refine(callsIn_wide (n:=0)).1 ?_
 generalize hR0:jz fn _ _ _ _ _ .ready=R0 at hW1⊢
 obtain⟨q,hq⟩:∃q,q=w2.heap.size:=⟨_,rfl⟩
 have j0:wc w z q R0 p n c [] W1:=by
  have bl:RowKit.Below w2.heap.size w2 W1:=by rw[hW1];exact((fb _ w2).alloc (aK _) _).alloc (by simp) _
  have k:∀{q o},w2.heap[q]? =some o->W1.heap[q]? =some o:=λ{q o} e=>(bl.block q (iE.1 e).1).trans e
  refine⟨J1.trans (bl.mono (by omega)),⟨_,k J3⟩,⟨_,k J4⟩,⟨_,k J5,World.ownsRow_nil _ _ _ _⟩,k J6,?_,?_⟩
  ·rw[hW1,hq];exact(Below.heap_alloc _ _ _ (by simp)).trans (World.alloc_heap_new w2 _)
  ·have:=World.alloc_heap_new (w2.alloc (.deferred (some []))) (.loop R0)
   rw[lG] at this
   rw[hW1,hq];exact this
 rw[<-hq]
 have zq4:z+4<=q:=by omega
 have z1:z<=w.heap.size:=by omega
 have z2:w.heap.size<=z:=by omega
 clear hq hW1 J1 J2 J3 J4 J5 J6 hz
 refine(YE (z+1+1+1) (q+1) HA hx (by omega) L (wc w z q R0 p n c) (λacc W h=>⟨?_,(cell_of h.b3).1⟩) (λacc W W' h b=>h.zH (by omega) b) ?hy hf W1 j0).mono ?_
 ·exactλb i v e=>(Lt.rn (h.kW.block b (by have:=Lt.mz (hk b i v e);omega))).trans (hk b i v e)
 case hy=>
  intro acc a e W hj hl hlt
  obtain⟨kW,⟨v0,c0⟩,⟨v1,c1⟩,⟨v2,c2,r2⟩,c3,d1,d2⟩:=hj
  rw[<-hR0] at d2
  refine(KQ (n:=0) (R:=wc w z q R0 p n c (acc++[a])) d2 rfl ?_).mono λe' W' h=>h
  rw[hR0] at d2⊢
  generalize jz fn _ _ _ _ _ .busy=R1
  have D2:=Lib.hid d2
  clear d2
  gi_wp2
  refine⟨D2.out,?_⟩
  obtain⟨W2,hW2⟩:∃W2,W2=W.putObj (q+1) (.loop R1):=⟨_,rfl⟩
  have zq:q+1<W.heap.size:=(iE.1 D2.out).1
  have sz:W.heap.size<=W2.heap.size:=by rw[hW2];simp
  have sz2:W2.heap.size<=W.heap.size:=by rw[hW2];simp
  have kl:W2.heap[q+1]? =some (.loop R1):=by rw[hW2];exact World.putObj_heap_same zq
  have pk:∀k,k≠q+1->W2.heap[k]? =W.heap[k]? :=λk hk=>by rw[hW2];exact World.putObj_heap_other hk
  have os2:W2.os=W.os/\W2.tape=W.tape/\W2.output=W.output:=by rw[hW2];exact⟨rfl,rfl,rfl⟩
  rw[<-hW2]
  clear hW2
  have k2:=(pk _ (by omega)).trans c2
  have r2:=An r2 λg hg _=>pk g (by omega)
  have nb:∀k,k<q+2->some k≠v2.ownBlock:=λk hk e=>by have:=(r2.lt k e.symm).1;omega
  obtain⟨q1,q2⟩:=cell_of k2
  have ne:¬a=e:=by omega
  obtain⟨i0,hi,hz0,hz1,hz2⟩:=info_parts Qt
  gi_wp2_with (gi_at_builtin;refine wpListIn_append_own _ rfl _ _ 47 rfl (q+2) 3 i0 (.int .i64 0) 1 8 Tryz.underlying47 hi hz0 hz1 hz2 rfl (by decide) _ _ _ rfl (r2.alloc _) ⟨W2.heap.size,0,none⟩ 1 1 [.int .i64 a] rfl rfl (cell_one_new _ _ _) (by simp[Value.oneCell']) (by show _<=9223372036854775807;omega) (by omega) (by simp;omega) ?_;intro v' w1 hown hgrow hnil;obtain⟨g',cap',rfl⟩:=ownsRow_succ hown;have hb1:w1.heap[z+1+1]? =some (.cells #[v2] 47 (0,0)):=(hgrow.block (z+1+1) (by simp;omega) (nb _ (by omega))).trans ((Below.heap_alloc _ _ _ (by omega)).trans k2);obtain⟨hc1,hf1⟩:=cell_of hb1)
  have z3:=hgrow.size
  rw[lG] at z3
  have e1:∀k (v:Value),k<q+2->k≠z+1+1->(w1.setCell ⟨z+1+1,0,none⟩ v).heap[k]? =W2.heap[k]? :=λk v hk cF=>(Below.heap_setCell _ _ _ k cF).trans ((hgrow.block k (by rw[lG];omega) (nb k hk)).trans (Below.heap_alloc _ _ _ (by omega)))
  have po:∀(Wf:World) k,k≠q+1->(Wf.putObj (q+1) (.loop R0)).heap[k]? =Wf.heap[k]? :=λWf k h=>World.putObj_heap_other h
  have al:∀(k:Nat)(v:Value){o},k<q+2->k≠z+1+1->k≠q+1->W.heap[k]? =some o->((w1.setCell ⟨z+1+1,0,none⟩ v).putObj (q+1) (.loop R0)).heap[k]? =some o:=λk v o h1 h2 h3 h=>(po _ k h3).trans ((e1 k v h1 h2).trans ((pk k h3).trans h))
  refine⟨(e1 (q+1) _ (by omega) (by omega)).trans kl,⟨⟨?_,?_,?_,?_,λk hk=>?_⟩,⟨v0,al _ _ (by omega) (by omega) (by omega) c0⟩,⟨v1,al _ _ (by omega) (by omega) (by omega) c1⟩,⟨_,(po _ _ (by omega)).trans (Boxed.set _ hb1),?_⟩,al _ _ (by omega) (by omega) (by omega) c3,al _ _ (by omega) (by omega) (by omega) d1,World.putObj_heap_same (by simp;omega)⟩⟩
  ·exact hgrow.os.trans (os2.1.trans kW.os)
  ·exact hgrow.tape.trans (os2.2.1.trans kW.tape)
  ·exact hgrow.output.trans (os2.2.2.trans kW.output)
  ·have:=kW.size
   simp;omega
  ·exact(po _ k (by omega)).trans ((e1 k _ (by omega) (by omega)).trans ((pk k (by omega)).trans (kW.block k hk)))
  ·rw[aR,gq]
   exact An hown λg hg _=>(po _ g (by omega)).trans (Below.heap_setCell _ _ _ g (by show g≠z+1+1;omega))
 rintro e W2 ⟨⟨v,rfl⟩,j⟩
 refine⟨⟨_,rfl⟩,j.b5,?_⟩
 generalize jz fn _ _ _ _ _ .exhausted=R9
 obtain⟨kW,⟨v0,c0⟩,⟨v1,c1⟩,⟨v2,c2,r2⟩,c3,d1,d2⟩:=j
 obtain⟨W3,hW3⟩:∃W3,W3=W2.putObj (q+1) (.loop R9):=⟨_,rfl⟩
 have pk:∀k,k≠q+1->W3.heap[k]? =W2.heap[k]? :=λk hk=>by rw[hW3];exact World.putObj_heap_other hk
 have zq:q+1<W2.heap.size:=(iE.1 d2).1
 have sz:W2.heap.size<=W3.heap.size:=by rw[hW3];simp
 have bel3:RowKit.Below z w W3:=by
  refine kW.trans ?_
  rw[hW3]
  exact⟨rfl,rfl,rfl,by simp,λk hk=>World.putObj_heap_other (by omega)⟩
 rw[<-hW3]
 clear hW3
 replace c0:=(pk _ (by omega)).trans c0
 replace c1:=(pk _ (by omega)).trans c1
 replace c2:=(pk _ (by omega)).trans c2
 replace d1:=(pk _ (by omega)).trans d1
 replace r2:=An r2 λg hg _=>pk g (by omega)
 obtain⟨k,hk1⟩:∃k,R.length=k+1:=⟨R.length -1,by omega⟩
 rw[hk1] at r2
 obtain⟨g1,cp1,rfl⟩:=ownsRow_succ r2
 have nb:∀k,k<q+2->some k≠(Value.slice (some ⟨g1,0,none⟩) (R.length) cp1).ownBlock:=λk hk e=>by
  cases e
  have:q+2<=g1:=(r2.lt g1 rfl).1
  have hk:g1<q+2:=hk
  omega
 obtain⟨p0,f0⟩:=cell_of c0
 obtain⟨p1,f1⟩:=cell_of c1
 obtain⟨p2,f2⟩:=cell_of c2
 obtain⟨i0,hi,hz0,hz1,hz2⟩:=info_parts Qt
 have ne:¬(((k+1:Nat):Int)=0):=by omega
 clear pk
 gi_wp2_with (gi_at_builtin;refine wpListIn_append_own _ rfl _ _ 47 rfl (q+2) 3 i0 (.int .i64 0) 1 8 Tryz.underlying47 hi hz0 hz1 hz2 rfl (by decide) _ _ _ rfl (r2.alloc _) ⟨W3.heap.size,0,none⟩ 1 1 [.int .i64 n] rfl rfl (cell_one_new _ _ _) (by simp[Value.oneCell']) (by show _<=9223372036854775807;omega) (by omega) (by simp;omega) ?_;intro v' w1 hown hgrow hnil;obtain⟨g',cap',rfl⟩:=ownsRow_succ hown;have hb0:w1.heap[z]? =some (.cells #[v0] 47 (0,0)):=(hgrow.block z (by simp;omega) (nb _ (by omega))).trans ((Below.heap_alloc _ _ _ (by omega)).trans c0);have hb1:w1.heap[z+1]? =some (.cells #[v1] 36 (0,0)):=(hgrow.block (z+1) (by simp;omega) (nb _ (by omega))).trans ((Below.heap_alloc _ _ _ (by omega)).trans c1);obtain⟨hc0,hf0⟩:=cell_of hb0;obtain⟨hc1,hf1⟩:=cell_of hb1)
 have e1:∀k (x y:Value),k≠z->k≠z+1->k≠q->(((w1.setCell ⟨z,0,none⟩ x).setCell ⟨z+1,0,none⟩ y).putObj q (.deferred none)).heap[k]? =w1.heap[k]? :=λk x y h1 h2 h3=>(World.putObj_heap_other h3).trans ((Below.heap_setCell _ _ _ k h2).trans (Below.heap_setCell _ _ _ k h1))
 have dq:∀(x y:Value),((w1.setCell ⟨z,0,none⟩ x).setCell ⟨z+1,0,none⟩ y).heap[q]? =some (.deferred (some [])):=λx y=>(Below.heap_setCell _ _ _ q (by show q≠z+1;omega)).trans ((Below.heap_setCell _ _ _ q (by show q≠z;omega)).trans ((hgrow.block q (by rw[lG];omega) (nb _ (by omega))).trans ((Below.heap_alloc _ _ _ (by omega)).trans d1)))
 refine⟨by simp,.inl ⟨_,_,rfl,run_takeDeferred (dq _ _),?_⟩⟩
 have g0:∀(x y:Value),(((w1.setCell ⟨z,0,none⟩ x).setCell ⟨z+1,0,none⟩ y).putObj q (.deferred none)).cell? ⟨z,0,none⟩=some x:=λx y=>(cell_of ((World.putObj_heap_other (by omega)).trans ((Below.heap_setCell _ _ _ z (by show z≠z+1;omega)).trans (Boxed.set x hb0)))).1
 have g1:∀(x y:Value),(((w1.setCell ⟨z,0,none⟩ x).setCell ⟨z+1,0,none⟩ y).putObj q (.deferred none)).cell? ⟨z+1,0,none⟩=some y:=λx y=>(cell_of ((World.putObj_heap_other (by omega)).trans (Boxed.set y (show Boxed _ (z+1) _ v1 from(Below.heap_setCell _ _ _ (z+1) (by show z+1≠z;omega)).trans hb1)))).1
 have z3:=hgrow.size
 rw[lG] at z3
 refine⟨.tuple #[.slice (some ⟨g',0,none⟩) (k+1+1) cap',.int .i64 0],by simp[results,Tryz.f23,cX,go_sem,g0,g1],_,rfl,⟨?_,?_,?_,?_,λi hi=>?_⟩,?_⟩
 ·exact hgrow.os.trans bel3.os
 ·exact hgrow.tape.trans bel3.tape
 ·exact hgrow.output.trans bel3.output
 ·have:=bel3.size
  simp;omega
 ·exact(e1 i _ _ (by omega) (by omega) (by omega)).trans ((hgrow.block i (by rw[lG];have:=bel3.size;omega) (nb _ (by omega))).trans ((Below.heap_alloc _ _ _ (by have:=bel3.size;omega)).trans (bel3.block i (by omega))))
 ·have hl:(List.map (Value.int .i64) R++[Value.int .i64 (n:Int)]).length=k+1+1:=by rw[aR,cH,hk1];rfl
  have e:List.map (Value.int .i64) R++[Value.int .i64 (n:Int)]=(R++[(n:Int)]).map (Value.int .i64):=by rw[gq];rfl
  have ow:=An hown (W':=((w1.setCell ⟨z,0,none⟩ (.slice (some ⟨g',0,none⟩) (k+1+1) cap')).setCell ⟨z+1,0,none⟩ (.int .i64 0)).putObj q (.deferred none)) λg hg _=>e1 g _ _ (by omega) (by omega) (by omega)
  rw[<-hl] at ow⊢
  exact Lt.S7 (by omega) ow (by rw[e];exact(Lt.De _).1) (by rw[e];exact(Lt.De (m:=m) _).2)
namespace Lt
theorem XX(w:Nat){A:qk}(HA:cg Tryz.prog 97 [.v,.i .i64] (.aH [.i .i64,.b]) A):cg Tryz.prog 23 [.v] nI (findF w A):=by
 refine .mk λls r e hl us hu=>?_
 obtain⟨x,r1,us1,h1,h2,rfl⟩:=gK hu
 obtain⟨rfl,rfl⟩:=nQ h2
 obtain rfl:=kY h1
 have hx:bc [x]=true:=hl x (by simp)
 replace e:findF w A x=some r:=e
 unfold findF at e
 split at e
 case h_2=>cases e
 rename_i n cs hr
 obtain⟨hn,e⟩:=aY e
 obtain⟨R,hR,e⟩:=ar e
 obtain⟨hq,e⟩:=aY e
 rw[bt] at hq
 have e:=(kG e).symm
 refine⟨Dj (by rw[e];show bc [ae _ _]=true;rfl),_,rfl,GR λm args' w hm A=>?_⟩
 subst e
 obtain⟨al⟩:=args'
 replace A:bG m _ al:=A
 obtain⟨_,_,rfl,a0,A⟩:=PW.inv A
 obtain rfl:=A.eA
 obtain⟨a,c,rfl,_⟩:=KS hr a0
 exact XZ hm HA ⟨hx,hx⟩ (by have:=dY hn;omega) a0 hR (eQ hq.1) (dY hq.2)
end Lt
end
namespace Lt
section
set_option linter.unusedVariables false
set_option linter.unusedSimpArgs false
set_option linter.unusedSectionVars false
set_option linter.constructorNameAsVariable false
variable{β:Type}
@[simp] theorem aT(a b:Int):ak a b=decide (a<b):=nT a b
@[simp] theorem cu(a b:Int):aj a b=decide (a=b):=by
 rw[zy];rfl
@[simp] theorem mn(a b:Nat):Nat.blt a b=decide (a<b):=by
 rw[im,bZ,Nat.blt_eq]
@[simp] theorem gC(a b:Nat):Nat.ble a b=decide (a<=b):=by
 rw[im,bZ,iO]
@[simp] theorem yT(a b:Nat):Nat.beq a b=decide (a=b):=by
 rw[im,bZ,Nat.beq_eq]
@[simp] theorem qn{α:Type}{p:Prop}[Decidable p](a b:α):cond (decide p) a b=if p then a else b:=by by_cases h:p<;>simp
theorem ahx{α:Type}(c:Bool)(a b:α):cond c a b=if c=true then a else b:=by cases c<;>rfl
@[simp] theorem az{α β:Type}(a:α)(f:α->Option β):ob (some a) f=f a:=rfl
@[simp] theorem ahz{α β:Type}(f:α->Option β):ob none f=none:=rfl
@[simp] theorem iD{α γ δ:Type}(a:α)(f:α->δ)(g:γ->δ):dc (.inl a) f g=f a:=rfl
@[simp] theorem BR{α γ δ:Type}(a:γ)(f:α->δ)(g:γ->δ):dc (.inr a) f g=g a:=rfl
@[simp] theorem bh(x:Value)(r:List Value)(K:Value->List Value->Option β):af (x::r) K=K x r:=rfl
@[simp] theorem ahB(K:Value->List Value->Option β):af [] K=none:=rfl
@[simp] theorem ahy(r:Option β):nZ [] r=r:=rfl
@[simp] theorem bQ(k:IntKind)(n:Int)(K:Int->Option β):ax k (.int k n) K=K n:=by unfold ax;simp
@[simp] theorem ahs(b:Bool)(K:Bool->Option β):yN (.bool b) K=K b:=rfl
@[simp] theorem ahw(s:ByteArray)(K:ByteArray->Option β):yO (.string s) K=K s:=rfl
@[simp] theorem bP(n:Nat)(K:Nat->Option β):aD (n:Int) K=K n:=rfl
@[simp] theorem ahu(n:Nat)(K:Nat->Option β):aD (Int.ofNat n) K=K n:=rfl
@[simp] theorem ahv(K:Nat->Option β):aD 0 K=K 0:=rfl
@[simp] theorem aht(n:Nat)(K:Nat->Option β):aD (no_index(OfNat.ofNat n)) K=K (OfNat.ofNat n):=rfl
theorem lK{n:Int}(h:0<=n)(K:Nat->Option β):aD n K=K n.toNat:=by
 obtain⟨m,rfl⟩:=Int.eq_ofNat_of_zero_le h
 rfl
@[simp] theorem Zx(n:Nat)(c:List Value)(K:Nat->Option β):aq (ae n c) K=K n:=rfl
@[simp] theorem XQ[QF](x:Value)(r:Option β):sK x x r=r:=XR x r
theorem QD(sz m n:Nat)(c:List Value)(K:List Value->Option β):aO sz m (ae n c) K=if m<n then K (c.drop (m*sz)) else none:=by
 unfold aO ae
 simp
theorem Xl(sz l h n:Nat)(c:List Value)(K:Value->Option β):gD sz l h (ae n c) K=K (ae (h -l) ((c.drop (l*sz)).take ((h -l)*sz))):=rfl
theorem Yg(E n:Nat)(c:List Value)(K:Nat->List Value->Option β):dN E (ae n c) K=if n*E<=c.length then K n (c.take (n*E)) else none:=by
 unfold dN ae
 simp
@[simp] theorem ahA(n:Nat):aG n=decide (n<=1000000000):=by unfold aG;rw[gC]
theorem aM{n:Int}(h1:-9223372036854775808<=n)(h2:n<9223372036854775808):ah .i64 n=n:=by
 unfold ah
 have:uJ .i64 n=true:=by
  cases n with
  |ofNat m=>
   show Nat.blt m 9223372036854775808=true
   simp_all
   omega
  |negSucc m=>
   show Nat.blt m 9223372036854775808=true
   rw[mn,bZ]
   omega
 grind
theorem sn{n:Int}(h1:0<=n)(h2:n<18446744073709551616):ah .u64 n=n:=by
 unfold ah
 have:uJ .u64 n=true:=by
  cases n with
  |ofNat m=>
   show Nat.blt m 18446744073709551616=true
   simp_all
   omega
  |negSucc m=>omega
 grind
@[simp] theorem jg(a b:Int):Int.sub a b=a -b:=rfl
@[simp] theorem bT(a b:Int):Int.add a b=a+b:=rfl
@[simp] theorem nU(a b:Int):Int.mul a b=a*b:=rfl
@[simp] theorem cm(n:Nat):Int.ofNat n=(n:Int):=rfl
theorem ZH{α:Type}(z:α)(F:α->α)(n:Nat):lp z F (n+1)=F (lp z F n):=rfl
theorem dQ{α:Type}(z:α)(F:α->α){n:Nat}(h:0<n):lp z F n=F (lp z F (n -1)):=by
 cases n with
 |zero=>omega
 |succ n=>rfl
theorem ia{α γ:Type}{z:α}{F:α->α}{r:γ}{w:Nat}(ev:Nat->α->γ)(m:Nat)(hs:∀i g,i<m->ev i (F g)=ev (i+1) g)(he:∀g,ev m (F g)=r)(h:m<w):ev 0 (lp z F w)=r:=by
 have:∀(d i v:Nat),i+d=m->d<v->ev i (lp z F v)=r:=by
  intro d
  induction d with
  |zero=>
   intro i v hi hv
   rw[dQ z F (by omega),show i=m by omega,he]
  |succ d ih=>
   intro i v hi hv
   rw[dQ z F (by omega)]
   grind
 grind
def aA{α:Type}(f:α->List Value)(l:List α):Value:=ae l.length (l.flatMap f)
def aV(b:UInt8):Value:=.int .u8 (b.toNat:Int)
def mr(b:UInt8):List Value:=[aV b]
def ag(l:List UInt8):Value:=aA mr l
theorem dH{α:Type}{f:α->List Value}{k:Nat}(hf:∀x,(f x).length=k):∀l:List α,(l.flatMap f).length=l.length*k
 |[]=>by simp
 |x::l=>by rw[dV,aR,hf,dH hf l,bY,lE,Nat.one_mul,Nat.add_comm]
theorem oO{α:Type}{f:α->List Value}{k:Nat}(hf:∀x,(f x).length=k):∀(l:List α)(m:Nat),(l.flatMap f).drop (m*k)=(l.drop m).flatMap f
 |l,0=>by simp
 |[],m+1=>by simp
 |x::l,m+1=>by
  rw[dV,lE,Nat.one_mul,Nat.add_comm (m*k),<-List.drop_drop,List.drop_left' (hf x),oO hf l m]
  rfl
theorem wL{α:Type}{f:α->List Value}{k:Nat}(hf:∀x,(f x).length=k):∀(l:List α)(m:Nat),(l.flatMap f).take (m*k)=(l.take m).flatMap f
 |l,0=>by simp
 |[],m+1=>by simp
 |x::l,m+1=>by
  rw[dV,lE,Nat.one_mul,Nat.add_comm (m*k),List.take_append,eE (by rw[hf];omega),hf,G3,wL hf l m]
  rfl
@[simp] theorem cd{α:Type}(f:α->List Value)(l:List α)(K:Nat->Option β):aq (aA f l) K=K l.length:=rfl
theorem bu{α:Type}{f:α->List Value}{k:Nat}(hf:∀x,(f x).length=k){l:List α}{m:Nat}(h:m<l.length)(K:List Value->Option β):aO k m (aA f l) K=K (f l[m]++(l.drop (m+1)).flatMap f):=by
 unfold aA
 rw[QD,au h,oO hf,dk h,dV]
theorem sE{α:Type}{f:α->List Value}{k:Nat}(hf:∀x,(f x).length=k)(l:List α){a b:Nat}(h:b<=l.length)(K:Value->Option β):gD k a b (aA f l) K=K (aA f ((l.drop a).take (b -a))):=by
 unfold aA
 rw[Xl,oO hf,wL hf]
 grind
theorem zr{α:Type}{f:α->List Value}{k:Nat}(hf:∀x,(f x).length=k)(l:List α)(K:Nat->List Value->Option β):dN k (aA f l) K=K l.length (l.flatMap f):=by
 unfold aA
 rw[Yg,dH hf,au (aK _),eE (by rw[dH hf];exact aK _)]
theorem HK(b:UInt8):(mr b).length=1:=rfl
@[simp] theorem cJ(l:List UInt8)(K:Nat->Option β):aq (ag l) K=K l.length:=rfl
theorem nX{l:List UInt8}{m:Nat}(h:m<l.length)(K:List Value->Option β):aO 1 m (ag l) K=K (aV l[m]::(l.drop (m+1)).flatMap mr):=bu HK h K
theorem mu(l:List UInt8){a b:Nat}(h:b<=l.length)(K:Value->Option β):gD 1 a b (ag l) K=K (ag ((l.drop a).take (b -a))):=sE HK l h K
theorem gV(l:List UInt8)(K:Nat->List Value->Option β):dN 1 (ag l) K=K l.length (l.flatMap mr):=zr HK l K
theorem gR(l:List UInt8):l.flatMap mr=l.map aV:=by
 induction l with
 |nil=>rfl
 |cons x l ih=>rw[dV,ih];rfl
@[simp] theorem pF(b:UInt8)(K:Int->Option β):ax .u8 (aV b) K=K (b.toNat:Int):=bQ _ _ _
theorem ZG{α:Type}{z:α}{F:α->α}{G:Nat->α}(h:lp z F=G)(n:Nat):G (n+1)=F (G n):=by subst h;rfl
end
section
set_option linter.unusedVariables false
set_option linter.unusedSimpArgs false
set_option linter.unusedSectionVars false
set_option linter.constructorNameAsVariable false
theorem vn{w:Nat}(h:4<=w)(a b:Int):qF w a b=some (fZ a b):=by
 obtain⟨v,rfl⟩:=vU h
 have e:FP (v+4) (ae 3 [Value.int IntKind.i64 1,Value.int IntKind.i64 2,Value.int IntKind.i64 4]) a=some (if a=1 then 0 else if a=2 then 1 else if a=4 then 2 else-1):=by
  unfold FP ME
  simp[ZH,QD,aM,@eq_comm _ _ a]
  repeat' split
  all_goals rfl
 unfold qF Mz
 rw[e]
 simp[fZ,BS]
 have hb:(if b=1 then some true else some (decide (b=2)))=some (b==1||b==2):=by
  by_cases hb:b=1<;>grind
 rw[hb]
 by_cases h1:a=1
 ·simp[h1]
 ·by_cases h2:a=2
  ·simp[h2]
  ·by_cases h4:a=4
   ·simp[h4]
   ·simp_all
theorem sV{s o:Int}(h:fZ s o=true):(s=1\/s=2\/s=4)/\(o=1\/o=2):=by
 unfold fZ BS at h
 grind
theorem ac7{n b:Nat}(hn:n<2^40)(hb:b<256):(BitVec.ofInt 64 ((n:Int)*256)|||BitVec.ofInt 64 (b:Int)).toNat=n*256+b:=by
 rw[(show((n:Int)*256)=((n*256:Nat):Int) from by omega),BitVec.ofInt_natCast]
 have:=Nat.shiftLeft_add_eq_or_of_lt (i:=8) (by omega) n
 rw[Nat.shiftLeft_eq] at this
 grind
theorem Tg{l:List UInt8}{p s:Nat}{o:Int}(h:p+s<=l.length):(gN l p s o).length=s:=by
 unfold gN
 grind
theorem ads{l:List UInt8}{p s i:Nat}{o:Int}(h:p+s<=l.length)(hi:i<s):(gN l p s o)[i]'(by rw[Tg h];exact hi)=if o=1 then l[p+s -1 -i]'(by omega) else l[p+i]'(by omega):=by
 unfold gN
 grind
theorem A9{w:Nat}(hw:5<=w)(l:List UInt8)(hl:l.length<2^60)(p s o:Int)(hp:p<2^62):
 jB w (ag l) p s o=some (match oP l p s o with|some n=>(n,true)|none=>(0,false)):=by
 unfold jB oP LC
 rw[vn (by omega)]
 cases hm:fZ s o with
 |false=>simp
 |true=>
  obtain⟨hs,ho⟩:=sV hm
  simp only[az,bO,aC,aT,qn,cJ]
  by_cases h0:p<0
  ·rw[au h0,ai (by omega)]
  rw[ai h0]
  rw[aM (by simp;omega) (by simp;omega)]
  by_cases h1:(Int.ofNat l.length).sub s<p
  ·rw[au h1,ai (by simp at h1;omega)]
  rw[ai h1,au ⟨trivial,by omega,by simp at h1;omega⟩]
  obtain⟨p,rfl⟩:=Int.eq_ofNat_of_zero_le (Int.not_lt.1 h0)
  obtain⟨s,rfl⟩:=Int.eq_ofNat_of_zero_le (a:=s) (by omega)
  have hps:p+s<=l.length:=by simp at h1;omega
  have hs4:s<=4:=by omega
  have hk:=Tg (o:=o) hps
  refine ia (ev:=λi (g:Value->Int->Int->Int->Int->Int->Int->Option (Int×Bool))=>g (ag l) p s o (gX ((gN l p s o).take i):Int) s i) s ?_ ?_ (by omega)
  ·intro i g hi
   have hi':((i:Int)<(s:Int)):=by omega
   have hn:gX ((gN l p s o).take i)<2^40:=oD (JB _) (by
    rw[dI,hk]
    exact fy (Nat.pow_le_pow_right (by decide) (show min i s<=4 by omega)) (by decide))
   have e1:(gN l p s o).take (i+1)=(gN l p s o).take i++[(gN l p s o)[i]'(by omega)]:=by
    rw[iN (by omega)]
   simp only[hi',dL,cu]
   have hb:=ac7 hn (gN l p s o)[i].toNat_lt
   have hv:gX ((gN l p s o).take i)*256+(gN l p s o)[i].toNat<2^50:=by
    have:=(gN l p s o)[i].toNat_lt
    omega
   rw[e1,DA]
   rw[ads hps hi] at hb hv⊢
   by_cases h2:o=1
   ·simp only[h2,bd,aB,dL] at hb hv⊢
    simp(disch:=omega) only[jg,bT,aM,lK]
    rw[nX (show(((p:Int)+s -1 -i).toNat<l.length) by omega)]
    have e2:((p:Int)+s -1 -i).toNat=p+s -1 -i:=by omega
    simp(disch:=omega) only[e2,bh,pF,nU,aM]
    rw[show((2:Int)^8)=256 from rfl]
    simp(disch:=omega) only[aM,hb]
    rfl
   ·simp only[h2,bM,aC,gQ] at hb hv⊢
    simp(disch:=omega) only[jg,bT,aM,lK]
    rw[nX (show(((p:Int)+i).toNat<l.length) by omega)]
    have e2:((p:Int)+i).toNat=p+i:=by omega
    simp(disch:=omega) only[e2,bh,pF,nU,aM]
    rw[show((2:Int)^8)=256 from rfl]
    simp(disch:=omega) only[aM,hb]
    rfl
  ·intro g
   simp[hk,eE]
end
section
set_option linter.unusedVariables false
set_option linter.unusedSimpArgs false
set_option linter.unusedSectionVars false
set_option linter.constructorNameAsVariable false
variable{β:Type}
@[simp] theorem D8(n:Nat)(v:Value)(c:List Value):aU n [v] c=c.set n v:=rfl
theorem Ax:∀(vs old pre post:List Value),old.length=vs.length->aU pre.length vs (pre++(old++post))=pre++(vs++post)
 |[],old,pre,post,h=>by
  obtain rfl:=qS.1 h
  rfl
 |v::vs,[],pre,post,h=>by grind
 |v::vs,o::old,pre,post,h=>by
  have:=Ax vs old (pre++[v]) post (by grind)
  show aU (pre.length+1) vs ((pre++(o::old++post)).set pre.length v)=_
  grind
theorem Wb{c:List Value}{n:Nat}(h:n<c.length)(K:Value->List Value->Option β):af (c.drop n) K=K c[n] (c.drop (n+1)):=by
 rw[dk h];rfl
def mH(l:List UInt8)(k:Nat):List UInt8:=(List.range l.length).map λj=>if j<k\/l.length -k<=j then(l[l.length -1 -j]?).getD 0 else(l[j]?).getD 0
@[simp] theorem TO(l:List UInt8)(k:Nat):(mH l k).length=l.length:=by simp[mH]
theorem xm(l:List UInt8)(k j:Nat)(h:j<l.length):(mH l k)[j]? =if j<k\/l.length -k<=j then l[l.length -1 -j]? else l[j]? :=by
 unfold mH
 grind
theorem adM(l:List UInt8):mH l 0=l:=by
 apply qR
 intro j
 by_cases h:j<l.length
 ·rw[xm _ _ _ h,ai (by omega)]
 simp_all
theorem adK(l:List UInt8){k:Nat}(hk:l.length<=2*k+1):mH l k=l.reverse:=by
 apply qR
 intro j
 by_cases h:j<l.length
 ·rw[xm _ _ _ h]
  grind
 simp_all
theorem adL(l:List UInt8){k:Nat}(hk:2*k+1<l.length):((mH l k).set k (l[l.length -1 -k]'(by omega))).set (l.length -1 -k) (l[k]'(by omega))=mH l (k+1):=by
 apply qR
 intro j
 by_cases h:j<l.length
 ·rw[xm _ _ _ h,List.getElem?_set,List.getElem?_set,xm _ _ _ h]
  simp
  grind
 simp_all
theorem Rj{pre m post:List UInt8}{k:Nat}{b:UInt8}(h:m[k]? =some b)(hk:pre.length+k<((pre++(m++post)).map aV).length):((pre++(m++post)).map aV)[pre.length+k]=aV b:=by grind
theorem Ju(pre m post:List UInt8){k:Nat}(b:UInt8)(h:k<m.length):((pre++(m++post)).map aV).set (pre.length+k) (aV b)=(pre++(m.set k b++post)).map aV:=by
 simp_all
theorem OC(b:UInt8):(SV.i IntKind.u8 (b.toNat:Int)).cells.length.beq 1=true:=rfl
theorem Mr{w:Nat}(pre l post:List UInt8)(hl:l.length<2^60)(hw:l.length+1<w)(c:Nat):tA w pre.length l.length c ((pre++(l++post)).map aV)=some ((pre++(l.reverse++post)).map aV):=by
 unfold tA
 rw[jg,cm,aM (by omega) (by omega),<-adK l (k:=l.length/2) (by omega)]
 rw[show(pre++(l++post))=pre++(mH l 0++post) by rw[adM],show(l.length:Int) -1=(l.length:Int) -1 -((0:Nat):Int) by omega]
 refine ia (ev:=λi (g:Nat->Nat->Nat->Int->Int->List Value->Option (List Value))=>g pre.length l.length c i ((l.length:Int) -1 -i) ((pre++(mH l i++post)).map aV)) (l.length/2) ?_ ?_ (show l.length/2<w by omega)
 ·intro i g hi
  have e1:((i:Int)<(l.length:Int) -1 -i):=by omega
  simp(disch:=omega) only[aT,e1,bd,aB,lK,mM,mn,gA]
  have e2:((l.length:Int) -1 -i).toNat=l.length -1 -i:=by omega
  rw[e2]
  have h1:l.length -1 -i<l.length:=by omega
  have h2:i<l.length:=by omega
  have h3:((pre++(mH l i++post)).map aV).length=pre.length+(l.length+post.length):=by simp
  have g1:((pre++(mH l i++post)).map aV)[pre.length+(l.length -1 -i)]'(by omega)=aV (l[l.length -1 -i]):=Rj (by
   rw[xm _ _ _ h1,ai (by omega),cW h1]) _
  have g2:((pre++(mH l i++post)).map aV)[pre.length+i]'(by omega)=aV (l[i]):=Rj (by
   rw[xm _ _ _ h2,ai (by omega),cW h2]) _
  simp only[h1,h2,aB]
  rw[Wb (by omega),g1]
  simp only[pF]
  rw[Wb (by omega),g2]
  simp only[pF,OC,gC,nw]
  have f1:pre.length+i+1<=((pre++(mH l i++post)).map aV).length:=by omega
  have f2:pre.length+(l.length -1 -i)+1<=((pre++(mH l i++post)).map aV).length:=by omega
  simp only[f1,f2,aB,D8,jg,bT]
  rw[aM (by omega) (by omega),aM (by omega) (by omega)]
  rw[show Value.int IntKind.u8 (l[l.length -1 -i].toNat:Int)=aV l[l.length -1 -i] from rfl,show Value.int IntKind.u8 (l[i].toNat:Int)=aV l[i] from rfl]
  rw[Ju _ _ _ _ (by rw[TO];exact h2),Ju _ _ _ _ (by rw[List.length_set,TO];exact h1),adL l (by omega)]
  rw[show(l.length:Int) -1 -i -1=(l.length:Int) -1 -((i+1:Nat):Int) by omega]
  rfl
 ·intro g
  have e1:¬(((l.length/2:Nat):Int)<(l.length:Int) -1 -((l.length/2:Nat):Int)):=by omega
  simp only[aT,e1,bM,aC]
theorem ZI{α α':Type}{z:α}{F:α->α}{z':α'}{F':α'->α'}(R:α->α'->Prop)(h0:R z z')(hs:∀g g',R g g'->R (F g) (F' g'))(w:Nat):R (lp z F w) (lp z' F' w):=by
 induction w with
 |zero=>exact h0
 |succ w ih=>exact hs _ _ ih
theorem afb(w a b:Nat)(c:List Value):Ft w a b c=tA w 0 a b c:=by
 refine ZI (R:=λ(g:Nat->Nat->Int->Int->List Value->Option (List Value))(g':Nat->Nat->Nat->Int->Int->List Value->Option (List Value))=>∀a b i j c,g a b i j c=g' 0 a b i j c) ?_ ?_ w _ _ _ _ _
 ·intros;rfl
 ·intro g g' h a b i j c
  simp_all
theorem afa{w:Nat}(l:List UInt8)(hl:l.length<2^60)(hw:l.length+1<w)(c:Nat):Ft w l.length c (l.map aV)=some (l.reverse.map aV):=by
 rw[afb]
 have:=Mr [] l [] hl hw c
 grind
theorem Ov:∀(i n:Nat),ee n (i+1)=UInt8.ofNat (n/256^i%256)::ee n i
 |0,n=>by simp[ee]
 |i+1,n=>by
  show ee (n/256) (i+1)++_=_
  rw[Ov i (n/256)]
  show _=_::(ee (n/256) i++_)
  rw[fo,Nat.div_div_eq_div_mul,Nat.pow_succ,mR]
theorem ae9{s:Int}(h:s=1\/s=2\/s=4)(w:Nat):xJ w s=some ((256^s.toNat:Nat):Int):=by
 rcases h with rfl|rfl|rfl<;>rfl
theorem ahc(i:Nat):(2:Int)^(8*i)=((256^i:Nat):Int):=by
 rw[<-(show(2:Nat)^(8*i)=256^i from by rw[Nat.pow_mul])]
 simp
theorem nP(l:List UInt8):ag l=ae l.length (l.map aV):=by
 unfold ag aA
 rw[gR]
theorem rJ:∀n:Nat,rep n (Value.int IntKind.u8 0).cells.toList=(List.replicate n (0:UInt8)).map aV
 |0=>rfl
 |n+1=>by
  show _=aV 0::_
  rw[<-rJ n]
  rfl
theorem rN{w:Nat}(hw:8<=w)(n s o:Int):ig w n s o=some (match(if fZ s o=true then o7 n s.toNat o else none) with|some l=>(ag l,true)|none=>(ae 0 [],false)):=by
 unfold ig
 rw[vn (by omega)]
 cases hm:fZ s o with
 |false=>simp
 |true=>
  obtain⟨hs,ho⟩:=sV hm
  unfold o7
  simp only[az,bO,aC,aT,qn,dL]
  by_cases h0:n<0
  ·rw[au h0,ai (by omega)]
  rw[ai h0,ae9 hs]
  simp only[az]
  by_cases h1:¬n<((256^s.toNat:Nat):Int)
  ·rw[ai (by omega)]
   simp only[h1,bM,gp,aB]
  replace h1:=qb.1 h1
  rw[au (by omega)]
  obtain⟨n,rfl⟩:=Int.eq_ofNat_of_zero_le (Int.not_lt.1 h0)
  obtain⟨s,rfl⟩:=Int.eq_ofNat_of_zero_le (a:=s) (by omega)
  have hs4:s<=4:=by omega
  have hr:Nat.ble s 1000000000=true:=by rw[iO];omega
  have hr2:Nat.ble s s=true:=by rw[iO];omega
  simp only[h1,bd,bO,aC]
  simp only[bP,hr,hr2,jZ,rJ,mM,oz]
  rw[show List.replicate s (0:UInt8)=List.replicate (s -0) 0++ee n 0 by simp[ee]]
  refine ia (ev:=λi (g:Int->Int->Int->Nat->Nat->Int->Int->List Value->Option (Value×Bool))=>g n s o s s s i ((List.replicate (s -i) (0:UInt8)++ee n i).map aV)) s ?_ ?_ (by omega)
  ·intro i g hi
   have e1:((i:Int)<(s:Int)):=by omega
   simp only[e1,dL]
   have e2:(ah IntKind.u64 (Int.mul 8 (ah IntKind.u64 (i:Int))))=((8*i:Nat):Int):=by
    rw[nU,sn (n:=(i:Int)) (by omega) (by omega),sn (by omega) (by omega)]
    omega
   have e3:(n:Int).fdiv (2^min ((8*i:Nat):Int).toNat 64)=((n/256^i:Nat):Int):=by
    rw[mM,kc (by omega),ahc,Int.fdiv_eq_ediv_of_nonneg _ (Int.natCast_nonneg _)]
    rfl
   have e4:ah IntKind.u8 ((n/256^i:Nat):Int)=((UInt8.ofNat (n/256^i%256)).toNat:Int):=by
    rw[oH,IntKind.wrap_u8]
    simp
   rw[e2,ai (by omega),e3,e4]
   simp(disch:=omega) only[jg,bT,aM,lK,OC,eD,gC,mn]
   have e5:((s:Int) -1 -i).toNat=s -1 -i:=by omega
   have e6:s -1 -i<s:=by omega
   have e7:((List.replicate (s -i) (0:UInt8)++ee n i).map aV).length=s:=by simp[oK];omega
   have e8:0+(s -1 -i)*1+1<=s:=by omega
   simp only[e5,e6,e7,e8,bd,aB]
   rw[show 0+(s -1 -i)*1=s -1 -i by omega,D8,show Value.int IntKind.u8 ((UInt8.ofNat (n/256^i%256)).toNat:Int)=aV (UInt8.ofNat (n/256^i%256)) from rfl]
   have e9:(List.replicate (s -i) (0:UInt8)++ee n i)=List.replicate (s -1 -i) 0++([0]++ee n i):=by
    rw[<-dD,<-List.replicate_succ',show s -1 -i+1=s -i by omega]
   have e10:=Ju (List.replicate (s -1 -i) 0) [0] (ee n i) (k:=0) (UInt8.ofNat (n/256^i%256)) (by simp)
   rw[tT,Nat.add_zero] at e10
   rw[e9,e10,Ov,show s -(i+1)=s -1 -i by omega]
   rfl
  ·intro g
   simp
   unfold aW
   have hb:=oK s n
   by_cases h2:o=1
   ·subst h2
    have:=afa (w:=w) (ee n s) (by omega) (by omega) s
    rw[hb] at this
    simp only[show aj 1 1=true from rfl,aB,this,az,eS,dL]
    rw[nP,List.length_reverse,hb]
   ·simp_all
    rw[nP,hb]
end
section
set_option linter.unusedVariables false
set_option linter.unusedSimpArgs false
set_option linter.unusedSectionVars false
set_option linter.constructorNameAsVariable false
theorem GO(l:List UInt8)(s m i:Nat)(h:i<l.length)(hs:0<s)(hm:m<=l.length)(hd:m%s=0):(ij l s m)[i]? =if i<m then l[i -i%s+(s -1 -i%s)]? else l[i]? :=by
 rw[BX _ _ _ _ h]
 split
 ·next h1=>
  have:i -i%s+(s -1 -i%s)<l.length:=by
   have h3:=Nat.div_add_mod i s
   have h4:=Nat.div_add_mod m s
   have h5:i/s<m/s:=by
    apply Nat.lt_of_mul_lt_mul_left (a:=s)
    omega
   have h6:s*(i/s+1)<=s*(m/s):=Nat.mul_le_mul_left _ h5
   rw[Nat.mul_add] at h6
   omega
  grind
 ·rw[cW h];rfl
theorem VY(l:List UInt8){s i:Nat}(hs:0<s)(h:i*s+s<=l.length):
 ij l s ((i+1)*s)=(ij l s (i*s)).take (i*s)++((((ij l s (i*s)).drop (i*s)).take s).reverse++(ij l s (i*s)).drop (i*s+s)):=by
 apply qR
 intro j
 have e1:(i+1)*s=i*s+s:=by rw[lE,Nat.one_mul]
 have d1:(i*s)%s=0:=Nat.mul_mod_left _ _
 have d2:((i+1)*s)%s=0:=Nat.mul_mod_left _ _
 have hlen:=pj l s (i*s)
 by_cases hj:j<l.length
 ·rw[GO _ _ _ _ hj hs (by omega) d2]
  by_cases h1:j<i*s
  ·rw[au (by omega),List.getElem?_append_left (by rw[dI];omega),List.getElem?_take_of_lt h1,GO _ _ _ _ hj hs (by omega) d1,au h1]
  ·by_cases h2:j<i*s+s
   ·have hm:j%s=j -i*s:=by
     have:=qh (show j -i*s<s by omega)
     rw[<-this]
     conv=>lhs;rw[show j=(j -i*s)+s*i by rw[mR s i];omega]
     rw[Nat.add_mul_mod_self_left]
    rw[au (by omega),List.getElem?_append_right (by rw[dI];omega),dI,hlen,kc (by omega)]
    rw[List.getElem?_append_left (by rw[List.length_reverse,dI,eu];omega)]
    rw[List.getElem?_reverse (by rw[dI,eu];omega),dI,eu,hlen,kc (by omega)]
    rw[List.getElem?_take_of_lt (by omega),List.getElem?_drop,GO _ _ _ _ (by omega) hs (by omega) d1,ai (by omega),hm]
    congr 1
    omega
   ·rw[ai (by omega),List.getElem?_append_right (by rw[dI];omega),List.getElem?_append_right (by simp;omega)]
    simp
    rw[GO _ _ _ _ (by omega) hs (by omega) d1,ai (by omega)]
    congr 1
    omega
 ·rw[kS (by rw[pj];omega),kS (by simp;omega)]
theorem VX(l:List UInt8)(s:Nat):ij l s 0=l:=by
 apply qR
 intro i
 by_cases h:i<l.length
 ·rw[BX _ _ _ _ h,cW h];rfl
 ·rw[kS (by rw[pj];omega),kS (by omega)]
theorem Gc(w:Nat){a b c:Int}(h:-2^62<c/\c<2^62)(ha:a<2^62):vw w a b c=some (decide (0<=a/\0<=b/\a<=c/\b<=c -a)):=by
 unfold vw
 simp
 by_cases h1:a<0
 ·simp[h1];omega
 by_cases h2:b<0
 ·simp_all;omega
 by_cases h3:c<a
 ·simp_all;omega
 rw[aM (by omega) (by omega)]
 by_cases h4:c -a<b<;>grind
theorem af6(w:Nat){n:Nat}(h:n<2^60):Gh w (n:Int)=some (aE n:Int):=by
 unfold Gh aE
 have e:(BitVec.ofInt 64 (n:Int)&&&BitVec.ofInt 64 1).toNat=n%2:=by
  simp
 rw[e,aM (n:=((n%2:Nat):Int)) (by omega) (by omega),bT,aM (by omega) (by omega)]
 rfl
theorem VV{w:Nat}(l:List UInt8)(hl:l.length<2^29)(hw:l.length+10<=w)(s:Nat)(o:Int)(hs:(s:Int)=1\/(s:Int)=2\/(s:Int)=4\/(s:Int)=8)(ho:o=1\/o=2):
 lp (λ(x8 x9:Int)(x10 x11:Nat)(x12:Int)(x13:List Value)=>(none:Option Value))
     (λ(x14:Int->Int->Nat->Nat->Int->List Value->Option Value)(x15 x16:Int)(x17 x18:Nat)(x19:Int)(x20:List Value)=>
      bif aj x16 1 then
       bif !ak (Int.ofNat x17) (ah IntKind.i64 (x19.add x15)) then
        aD (ah IntKind.i64 (x19.add x15)) λx21=>
         aD x19 λx22=>
          bif x21.ble x18&&x22.ble x21 then
           ob (tA w (bif x18.beq x22 then 0 else 0+x22*1) (x21 -x22) (x18 -x22) x20) λx23=>
            x14 x15 x16 x17 x18 (ah IntKind.i64 (x19.add x15)) x23
          else none
       else some (ae x17 (List.drop 0 x20))
      else some (ae x17 (List.drop 0 x20)))
     w (s:Int) o l.length l.length 0 (l.map aV)=some (if o=1 then ag (ij l s (l.length/s*s)) else ag l):=by
 have hs0:0<s:=by omega
 have hs8:s<=8:=by omega
 have hd2:l.length/s<=l.length:=Nat.div_le_self _ _
 by_cases h1:o=1
 ·subst h1
  have hd:s*(l.length/s)<=l.length:=Nat.mul_div_le _ _
  have hd3:l.length<s*(l.length/s)+s:=Nat.lt_mul_div_succ _ hs0
  rw[show l.map aV=(ij l s (s*0)).map aV by rw[Nat.mul_zero,VX],au rfl]
  refine ia (ev:=λi (g:Int->Int->Nat->Nat->Int->List Value->Option Value)=>g (s:Int) 1 l.length l.length ((s*i:Nat):Int) ((ij l s (s*i)).map aV)) (l.length/s) ?_ ?_ (by omega)
  ·intro i g hi
   have hle:s*(i+1)<=s*(l.length/s):=Nat.mul_le_mul_left _ hi
   have e1:s*(i+1)=s*i+s:=by rw[Nat.mul_add,gA]
   have e2:(((s*i:Nat):Int).add (s:Int))=((s*(i+1):Nat):Int):=by rw[bT,e1];omega
   simp only[e2,show aj 1 1=true from rfl,aB,aT,cm]
   rw[aM (by omega) (by omega)]
   have e3:¬((l.length:Int)<((s*(i+1):Nat):Int)):=by omega
   simp only[e3,bM,gp,aB,bP,gC,yT]
   have e4:s*(i+1)<=l.length:=by omega
   have e5:s*i<=s*(i+1):=by omega
   have e6:¬(l.length=s*i):=by omega
   simp only[e4,e5,e6,bd,bM,jZ,aB,aC]
   have hlen:=pj l s (s*i)
   have:=Mr (w:=w) ((ij l s (s*i)).take (s*i)) (((ij l s (s*i)).drop (s*i)).take s) ((ij l s (s*i)).drop (s*i+s)) (by simp;omega) (by simp;omega) (l.length -s*i)
   rw[<-mR i s,<-VY l hs0 (by rw[mR];omega),mR i s,mR (i+1) s,<-List.drop_drop,kT,kT,dI,dI,eu,hlen,kc (by omega),kc (by omega)] at this
   rw[show 0+s*i*1=s*i by omega,show s*(i+1) -s*i=s by omega,this]
   rfl
  ·intro g
   simp only[show aj 1 1=true from rfl,aB,aT,cm,bT]
   rw[aM (by omega) (by omega)]
   have e3:((l.length:Int)<((s*(l.length/s):Nat):Int)+(s:Int)):=by omega
   simp_all
   rw[nP,pj,mR]
 ·rw[ai h1,dQ _ _ (by omega)]
  simp only[cu,h1,bM,aC,eS,nP]
theorem af8{w:Nat}(l:List UInt8)(hl:l.length<2^29)(hw:l.length+10<=w)(s o:Int):
 Gi w (ag l) s o=some (if fZ s o=true\/(s=8/\fZ 1 o=true) then(if o=1 then ag (ij l s.toNat (l.length/s.toNat*s.toNat)) else ag l) else ae 0 []):=by
 unfold Gi Ls
 rw[vn (by omega)]
 have hr:Nat.ble l.length 1000000000=true:=by rw[iO];omega
 have hr2:Nat.ble l.length l.length=true:=by rw[iO];omega
 have hi:aU 0 (List.take (l.length*1) (l.map aV)) (List.map aV (List.replicate l.length 0))=l.map aV:=by
  have:=Ax (l.map aV) (List.map aV (List.replicate l.length 0)) [] [] (by simp)
  simp only[List.length_nil,fU,dX] at this
  rw[gA,eE (by simp),this]
 have hq:((l.map aV).length.beq (l.length*1)&&(0+l.length*1).ble (List.map aV (List.replicate l.length 0)).length)=true:=by
  simp
 by_cases hc:¬(fZ s o=true\/(s=8/\fZ 1 o=true))
 ·rw[ai hc]
  have hm:fZ s o=false:=by cases h:fZ s o<;>simp_all
  simp[aB]
  by_cases h8:s=8
  ·have hm1:fZ 1 o=false:=by cases h:fZ 1 o<;>simp_all
   simp_all
   rw[vn (by omega),hm1]
   rfl
  ·simp_all
 replace hc:=qb.1 hc
 have hs:s=1\/s=2\/s=4\/s=8:=by
  rcases hc with h|h
  ·have:=(sV h).1;omega
  ·omega
 have ho:o=1\/o=2:=by
  rcases hc with h|h
  ·exact(sV h).2
  ·exact(sV h.2).2
 obtain⟨s,rfl⟩:=Int.eq_ofNat_of_zero_le (a:=s) (by omega)
 have hs0:0<s:=by omega
 have hs8:s<=8:=by omega
 rw[au hc,mM]
 cases hm:fZ s o
 all_goals simp only[az,bO,gp,aB,aC]
 ·have h8:(s:Int)=8:=by rcases hc with h|h;(rw[hm] at h;cases h);exact h.1
  have hm1:fZ 1 o=true:=by rcases hc with h|h;(rw[hm] at h;cases h);exact h.2
  rw[vn (by omega),hm1,show aj (s:Int) 8=true by rw[h8];rfl]
  simp only[bO,aC,az,cJ,gV,hr,hr2,jZ,aB,rJ,gR,Nat.min_self]
  rw[hq,aB,hi]
  exact VV l hl hw s o hs ho
 ·simp only[cJ,gV,hr,hr2,jZ,aB,rJ,gR,Nat.min_self]
  rw[hq,aB,hi]
  exact VV l hl hw s o hs ho
end
section
set_option linter.unusedVariables false
set_option linter.unusedSimpArgs false
set_option linter.unusedSectionVars false
set_option linter.constructorNameAsVariable false
theorem xN(w:Nat)(t:Int):rS w t=some (kindOf t):=by
 by_cases o:t<1\/12<t
 ·rw[Di o]
  unfold rS
  simp only[aT,qn]
  by_cases h:t<0
  ·rw[au h]
  rw[ai h]
  by_cases h2:12<t
  ·rw[au h2]
  rw[show t=0 by omega]
  rfl
 ·have hc:t=1\/t=2\/t=3\/t=4\/t=5\/t=6\/t=7\/t=8\/t=9\/t=10\/t=11\/t=12:=by omega
  rcases hc with rfl|rfl|rfl|rfl|rfl|rfl|rfl|rfl|rfl|rfl|rfl|rfl<;>rfl
theorem zI(t:Int):0<=(kindOf t).1 /\(kindOf t).1 <=8:=by
 by_cases o:t<1\/12<t
 ·rw[Di o];exact⟨by decide,by decide⟩
 ·have hc:t=1\/t=2\/t=3\/t=4\/t=5\/t=6\/t=7\/t=8\/t=9\/t=10\/t=11\/t=12:=by omega
  rcases hc with rfl|rfl|rfl|rfl|rfl|rfl|rfl|rfl|rfl|rfl|rfl|rfl<;>exact⟨by decide,by decide⟩
theorem Vf(w:Nat)(t:Int):Bu w t=some (kindOf t).1 :=by
 unfold Bu
 rw[xN]
 rfl
theorem NQ:∀l:List UInt8,qO (l.map aV)=some (l.map λb=>(b.toNat:Int))
 |[]=>rfl
 |b::l=>by
  show ob (qO (l.map aV)) _=_
  rw[NQ l]
  rfl
theorem sB{β:Type}(l:List UInt8)(K:List Int->Option β):kI (ag l) K=K (l.map λb=>(b.toNat:Int)):=by
 rw[nP]
 show cond (Nat.ble l.length (l.map aV).length) (ob (qO ((l.map aV).take l.length)) K) none=_
 rw[eE (by simp),NQ,cH,show Nat.ble l.length l.length=true by rw[iO];exact aK _]
 rfl
theorem WK(l:List UInt8):Lib.bytesOf (l.map λb=>(b.toNat:Int))=l:=by
 unfold Lib.bytesOf
 rw[List.map_map]
 conv=>rhs;rw[<-List.map_id l]
 apply List.map_congr_left
 simp
theorem Pd(b:UInt8)(l:List UInt8):ze (b::l)=(((b==0)==l.isEmpty)&&ze l):=by
 unfold ze
 rw[bY,tV,List.all_cons,List.all_map]
 grind
theorem Qh:∀l:List UInt8,l≠[]->((Lib.indexByte l 0=(l.length:Int) -1)↔ze l=true)
 |[],h=>absurd rfl h
 |[b],_=>by
  rw[Pd]
  by_cases hb:b=0
  ·subst hb;decide
  ·simp[hb,Lib.indexByte]
 |b::c::l,_=>by
  rw[Pd]
  have ih:=Qh (c::l) (by simp)
  unfold Lib.indexByte
  by_cases hb:b=0
  ·subst hb
   simp
   omega
  ·have hb':(b==0)=false:=by simpa using hb
   simp only[hb',gQ,List.isEmpty_cons,BEq.rfl,eD]
   rw[<-ih]
   by_cases h1:Lib.indexByte (c::l) 0=-1
   ·simp
    omega
   ·have h1':(Lib.indexByte (c::l) 0==-1)=false:=by simpa using h1
    simp only[h1',gQ]
    simp
theorem afR(w:Nat){l:List UInt8}(h:l≠[]):Bq w (ag l) 0=some (Lib.indexByte l 0):=by
 unfold Bq
 rw[sB,WK]
 cases l with
 |nil=>grind
 |cons b l=>rfl
theorem xQ(w:Nat)(ty aw:Int)(l:List UInt8)(hl:l.length<2^40):pZ w ty aw (ag l)=some (ej ty aw l):=by
 unfold pZ ej
 rw[xN]
 have hk:=zI ty
 simp
 by_cases h1:(kindOf ty).1 =0
 ·simp[h1]
 by_cases h2:aw<1
 ·rw[au h2]
  have:¬(1<=aw):=by omega
  simp[this]
 rw[ai h2]
 by_cases h3:65536<aw
 ·rw[au h3]
  have:¬(aw<=65536):=by omega
  simp[this]
 rw[ai h3]
 have h5:aw*(kindOf ty).1 <=65536*8:=Int.mul_le_mul (by omega) (by omega) (by omega) (by omega)
 have h6:0<=aw*(kindOf ty).1 :=Int.mul_nonneg (by omega) (by omega)
 rw[aM (by omega) (by omega)]
 by_cases h4:(l.length:Int)=aw*(kindOf ty).1
 ·have h1':(kindOf ty).1 ≠0:=h1
  have h2':1<=aw:=by omega
  have h3':aw<=65536:=by omega
  have h0:l≠[]:=by
   rintro rfl
   have:1*1<=aw*(kindOf ty).1 :=Int.mul_le_mul h2' (by omega) (by decide) (by omega)
   simp at h4
   omega
  rw[afR w h0]
  simp only[h4,h1',h2',h3',bd,bO,aC,az,ne_eq,and_self,eD]
  rw[<-h4,aM (by omega) (by omega)]
  have:=Qh l h0
  by_cases h7:ty=2
  ·subst h7
   simp_all
  ·simp[h7]
 ·simp[h4]
theorem QK(t:Int)(h:(kindOf t).1 ≠0):(kindOf t).2.1 =1\/(kindOf t).2.1 =2\/(kindOf t).2.1 =4\/(kindOf t).2.1 =8:=by
 obtain⟨s,m,e1,e2,e3⟩:=Jk t h
 omega
theorem Vh{w:Nat}(ty aw:Int)(l:List UInt8)(hl:l.length<2^29)(hw:l.length+10<=w)(o:Int)(ho:o=1\/o=2):
 Bw w ty aw (ag l) o=some (match oZ ty aw l o with|some d=>(ty,aw,ag d,true)|none=>(0,0,ae 0 [],false)):=by
 unfold Bw oZ
 rw[xN]
 have hk:=zI ty
 simp only[az,cu,aT,qn,cJ,cm,nU]
 by_cases h1:(kindOf ty).1 =0
 ·simp[h1]
 rw[ai h1]
 by_cases h2:aw<1
 ·rw[au h2,ai (by omega)]
 rw[ai h2]
 by_cases h3:65536<aw
 ·rw[au h3,ai (by omega)]
 rw[ai h3]
 have h5:aw*(kindOf ty).1 <=65536*8:=Int.mul_le_mul (by omega) (by omega) (by omega) (by omega)
 have h6:0<=aw*(kindOf ty).1 :=Int.mul_nonneg (by omega) (by omega)
 rw[aM (by omega) (by omega)]
 by_cases h4:(l.length:Int)<aw*(kindOf ty).1
 ·rw[au h4,ai (by omega)]
 rw[ai h4]
 have h7:(aw*(kindOf ty).1).toNat<=l.length:=by omega
 simp only[lK h6,gC,h7,iu,bd,aB]
 rw[mu l h7,eS,Nat.sub_zero]
 have hlen:(l.take (aw*(kindOf ty).1).toNat).length=(aw*(kindOf ty).1).toNat:=by rw[dI];omega
 rw[af8 _ (by omega) (by omega)]
 have hc:fZ (kindOf ty).2.1 o=true\/((kindOf ty).2.1 =8/\fZ 1 o=true):=by
  rcases(QK ty h1) with h|h|h|h<;>rcases ho with rfl|rfl<;>rw[h]<;>simp[fZ,BS]
 rw[au hc]
 obtain⟨s,m,e1,e2,e3⟩:=Jk ty h1
 have hd:(l.take (aw*(kindOf ty).1).toNat).length/(kindOf ty).2.1.toNat*(kindOf ty).2.1.toNat=(l.take (aw*(kindOf ty).1).toNat).length:=by
  rw[hlen,e1,mM]
  apply Nat.div_mul_cancel
  rw[e2]
  refine⟨aw.toNat*m,?_⟩
  obtain⟨c,rfl⟩:=Int.eq_ofNat_of_zero_le (a:=aw) (by omega)
  rw[<-Int.natCast_mul,mM,mM,<-Nat.mul_assoc,mR]
 rw[hd]
 have ht:(if o=1 then ag (ij (l.take (aw*(kindOf ty).1).toNat) (kindOf ty).2.1.toNat (l.take (aw*(kindOf ty).1).toNat).length) else ag (l.take (aw*(kindOf ty).1).toNat))=ag (iM (l.take (aw*(kindOf ty).1).toNat) (kindOf ty).2.1.toNat o):=by
  unfold iM
  split<;>rfl
 rw[ht]
 simp
 rw[xQ _ _ _ _ (by rw[vK];omega)]
 cases hm:ej ty aw (iM (l.take (aw*(kindOf ty).1).toNat) (kindOf ty).2.1.toNat o) with
 |true=>rw[au ⟨h1,by omega,by omega,by omega,rfl⟩];rfl
 |false=>rw[ai (by simp)];rfl
end
section
set_option linter.unusedVariables false
set_option linter.unusedSimpArgs false
set_option linter.unusedSectionVars false
set_option linter.constructorNameAsVariable false
theorem Q0(ty aw:Int):0<=iW ty aw/\iW ty aw<=65536*8:=by
 unfold iW
 have hk:=zI ty
 split
 ·simp
 ·exact⟨Int.mul_nonneg (by omega) (by omega),Int.mul_le_mul (by omega) (by omega) (by omega) (by simp)⟩
theorem Vj(w:Nat)(ty aw:Int):Bz w ty aw=some (iW ty aw):=by
 have hs:=Q0 ty aw
 unfold Bz
 unfold iW at hs⊢
 simp
 by_cases h1:aw<1
 ·rw[au h1,au (.inl h1)]
 rw[ai h1]
 by_cases h2:65536<aw
 ·rw[au h2,au (.inr h2)]
 rw[ai h2,ai (by omega),Vf]
 simp
 rw[aM (by omega) (by omega)]
theorem Vg(w:Nat)(ty aw:Int):Bv w ty aw=some (bF ty aw:Int):=by
 unfold Bv bF
 rw[Vj]
 simp
 grind
theorem af9(w:Nat)(ty aw:Int):Gl w ty aw=some (decide (0<iW ty aw/\iW ty aw<=4)):=by
 unfold Gl
 rw[Vj]
 simp
 by_cases h:0<iW ty aw
 ·rw[au h]
  by_cases h2:4<iW ty aw
  ·grind
  grind
 grind
def db{α:Type}(p:α->Bool)(l:List α):Int:=match l.findIdx? p with
 |some i=>(i:Int)
 |none=>-1
theorem wR{α:Type}(p:α->Bool)(l:List α):db p l<0↔l.all (λx=>!p x)=true:=by
 unfold db
 cases h:l.findIdx? p with
 |none=>grind
 |some i=>
  obtain⟨hi,h1,-⟩:=List.findIdx?_eq_some_iff_getElem.1 h
  grind
theorem mB{α δ:Type}{z:δ}{F:δ->δ}{w:Nat}(l:List α)(p:α->Bool)(ev:Nat->δ->Option Int)(hs:∀i g (h:i<l.length),ev i (F g)=if p l[i]=true then some (i:Int) else ev (i+1) g)(he:∀g,ev l.length (F g)=some (-1))(hw:l.length<w):
 ev 0 (lp z F w)=some (db p l):=by
 have key:∀(d i v:Nat),i+d=l.length->d<v->ev i (lp z F v)=some (match(l.drop i).findIdx? p with|some j=>((i+j:Nat):Int)|none=>-1):=by
  intro d
  induction d with
  |zero=>
   intro i v hi hv
   obtain rfl:i=l.length:=by omega
   rw[dQ z F (by omega),he,qQ]
   rfl
  |succ d ih=>
   intro i v hi hv
   have hlt:i<l.length:=by omega
   rw[dQ z F (by omega),hs i _ hlt,dk hlt,List.findIdx?_cons]
   by_cases hp:p l[i]=true
   ·rw[au hp,au hp];rfl
   ·grind
 have:=key l.length 0 w (by omega) hw
 rw[this,eS]
 unfold db
 cases l.findIdx? p<;>simp
theorem agb{w:Nat}(l:List UInt8)(hl:l.length<2^40)(hw:l.length<w):Nh w (ag l)=some (db (λb=>b !=0) l):=by
 refine mB l (λb=>b !=0) (ev:=λi (g:Value->Int->Int->Option Int)=>g (ag l) l.length i) ?_ ?_ hw
 ·intro i g h
  have e1:((i:Int)<(l.length:Int)):=by omega
  simp only[aT,e1,aB,bP]
  rw[nX h]
  simp only[bh,pF]
  unfold Nd
  simp only[cu,bT]
  rw[aM (by omega) (by omega)]
  have e2:(decide ((l[i].toNat:Int)=0))=!(l[i]!=0):=by
   rw[im]
   simp[<-nE]
  rw[e2]
  cases l[i]!=0<;>simp
 ·intro g
  simp
theorem aga{w:Nat}(l:List UInt8)(hl:l.length<2^40)(hw:l.length<w):Gm w (ag l)=some (!l.all (·==0)):=by
 unfold Gm
 rw[agb l hl hw]
 simp
 have:=wR (λb:UInt8=>b !=0) l
 grind
theorem KA(n:Int)(o:Int):o7 n 4 o=if 0<=n/\n<4294967296 then some (aW n.toNat 4 o) else none:=rfl
def GP(ty aw slot order:Int):Option (List UInt8×Bool):=
 if 0<=slot/\slot<4294967296/\0<iW ty aw/\iW ty aw<=4 then
  (oZ ty aw (aW slot.toNat 4 order) order).map λd=>(d,((aW slot.toNat 4 order).drop d.length).all (·==0))
 else none
theorem Z7{ty aw:Int}{b d:List UInt8}{o:Int}(h:oZ ty aw b o=some d):d.length<=b.length:=by
 unfold oZ at h
 split at h
 ·cases h
  rw[vK,dI]
  omega
 grind
theorem af3{w:Nat}(hw:100<=w)(tag ty aw slot o:Int)(ho:o=1\/o=2):
 Gg w tag ty aw slot o=some (match GP ty aw slot o with|some (d,c)=>(ty,aw,ag d,c,true)|none=>(0,0,ae 0 [],false,false)):=by
 unfold Gg GP
 rw[rN (by omega),au (by rcases ho with rfl|rfl<;>rfl),show(4:Int).toNat=4 from rfl,KA,af9]
 by_cases h1:¬(0<=slot/\slot<4294967296)
 ·rw[ai h1,ai (by omega)];rfl
 replace h1:=qb.1 h1
 rw[au h1]
 by_cases h2:¬(0<iW ty aw/\iW ty aw<=4)
 ·rw[ai (by omega)]
  simp[h2]
 simp_all
 have hl:(aW slot.toNat 4 o).length=4:=er _ _ _
 rw[Vh ty aw _ (by omega) (by omega) o ho]
 cases hv:oZ ty aw (aW slot.toNat 4 o) o with
 |none=>rfl
 |some d=>
  simp[(Z7 hv)]
  rw[mu _ (aK _),eE (by rw[eu];omega),aga _ (by rw[eu];omega) (by rw[eu];omega)]
  simp
theorem Gk{w:Nat}(hw:5<=w)(l:List UInt8)(hl:l.length<2^60)(s o p:Int)(ok:Bool)(hp:0<=p/\p<2^60)(hs:0<=s/\s<=8):
 vx w s (ag l) o p ok=some ((oP l p s o).getD 0,ag l,o,p+s,ok&&(oP l p s o).isSome):=by
 unfold vx Ng
 rw[A9 hw l hl p s o (by omega)]
 simp
 rw[aM (by omega) (by omega)]
 grind
theorem af0{w:Nat}(hw:5<=w)(l:List UInt8)(hl:l.length<2^50)(p:Nat)(o:Int)(ho:o=1\/o=2):
 Ge w (ag l) p o=some (if p+12<=l.length then((cc l p 2 o:Int),(cc l (p+2) 2 o:Int),(cc l (p+4) 4 o:Int),(cc l (p+8) 4 o:Int),true) else(0,0,0,0,false)):=by
 unfold Ge
 rw[cJ]
 by_cases hp:¬(p+12<=l.length)
 ·by_cases hb:(p:Int)<2^62
  ·rw[Gc w ⟨by simp;omega,by simp only[oz];omega⟩ hb]
   have:¬(0<=(p:Int)/\(0:Int)<=12/\(p:Int)<=Int.ofNat l.length/\(12:Int)<=Int.ofNat l.length -p):=by
    simp;omega
   simp only[az,this,bM,gp,aB]
   rw[ai hp]
  ·unfold vw
   have e1:¬((p:Int)<0):=by omega
   have e2:Int.ofNat l.length<(p:Int):=by simp;omega
   simp only[aT,e1,e2,bM,bd,gp,bO,aB,aC,show decide ((12:Int)<0)=false from rfl,az]
   rw[ai hp]
 replace hp:=qb.1 hp
 rw[au hp,Gc w ⟨by simp;omega,by simp only[oz];omega⟩ (by omega)]
 have:(0<=(p:Int)/\(0:Int)<=12/\(p:Int)<=Int.ofNat l.length/\(12:Int)<=Int.ofNat l.length -p):=by
  simp;omega
 simp_all
 have g:∀(k s:Nat),(s=2\/s=4)->k+s<=12->(oP l ((p:Int)+k) s o).isSome=true/\(oP l ((p:Int)+k) s o).getD 0=(cc l (p+k) s o:Int):=by
  intro k s hs hk
  have:=wM (l:=l) (p:=p+k) (s:=s) (by omega) ho (by omega)
  rw[show((p+k:Nat):Int)=(p:Int)+k by omega] at this
  unfold cc
  rw[show((p+k:Nat):Int)=(p:Int)+k by omega,this]
  exact⟨rfl,by simp⟩
 rw[Gk hw l (by omega) 2 o p true (by omega) (by omega)]
 simp
 rw[Gk hw l (by omega) 2 o _ _ (by omega) (by omega)]
 simp
 rw[Gk hw l (by omega) 4 o _ _ (by omega) (by omega)]
 simp
 rw[Gk hw l (by omega) 4 o _ _ (by omega) (by omega)]
 have g0:=g 0 2 (.inl rfl) (by decide)
 have g1:=g 2 2 (.inl rfl) (by decide)
 have g2:=g 4 4 (.inr rfl) (by decide)
 have g3:=g 8 4 (.inr rfl) (by decide)
 rw[show(p:Int)+((0:Nat):Int)=p by omega] at g0
 rw[show(p:Int)+2+2=(p:Int)+4 by omega,show(p:Int)+4+4=(p:Int)+8 by omega]
 simp at g0 g1 g2 g3
 rw[g0.1,g1.1,g2.1,g3.1,g0.2,g1.2,g2.2,g3.2]
 rfl
end
section
set_option linter.unusedVariables false
set_option linter.unusedSimpArgs false
set_option linter.unusedSectionVars false
set_option linter.constructorNameAsVariable false
def cq(t:aI):List Value:=[.int .i64 t.tag,.int .i64 t.ty,.int .i64 t.aw,ag t.data]
theorem gY(t:aI):(cq t).length=4:=rfl
def ay(l:List aI):Value:=aA cq l
def lP(x:iv):List Value:=[.int .i64 x.tag,.int .i64 x.shape]
theorem sR(x:iv):(lP x).length=2:=rfl
def gE(l:List iv):Value:=aA lP l
def jj(s:aX):List Value:=[gE s.bJ,.int .i64 s.at_,.int .i64 s.cw,.int .i64 s.next]
theorem yc(s:aX):(jj s).length=4:=rfl
def cf(l:List aX):Value:=aA jj l
mutual
def cZ:aS->List Value
 | .mk tags subs blob=>[ay tags,ae (bX subs) (gG subs),ag blob]
def gG:cA->List Value
 | .nil=>[]
 | .cons tag d r=>.int .i64 tag::(cZ d++gG r)
end
theorem kX(d:aS):(cZ d).length=3:=by cases d;rfl
theorem VH:∀s:cA,(gG s).length=bX s*4
 | .nil=>rfl
 | .cons tag d r=>by
  show(cZ d++gG r).length+1=(bX r+1)*4
  rw[aR,kX,VH r]
  omega
theorem Q1{δ:Type}{z:δ}{F:δ->δ}{w:Nat}(m:Nat)(ok:Nat->Bool)(ev:Nat->δ->Option Bool)(hs:∀i g,i<m->ev i (F g)=if ok i=true then ev (i+1) g else some false)(he:∀g,ev m (F g)=some true)(hw:m<w):
 ev 0 (lp z F w)=some ((List.range m).all ok):=by
 have key:∀(d i v:Nat),i+d=m->d<v->ev i (lp z F v)=some ((List.range d).all λj=>ok (i+j)):=by
  intro d
  induction d with
  |zero=>
   intro i v hi hv
   rw[dQ z F (by omega),show i=m by omega,he]
   rfl
  |succ d ih=>
   intro i v hi hv
   rw[dQ z F (by omega),hs i _ (by omega),tV]
   by_cases h:ok i=true
   ·rw[ih (i+1) (v -1) (by omega) (by omega)]
    simp[h]
    congr 2
    funext j
    congr 1;omega
   ·rw[ai h]
    simp[h]
 have:=key m 0 w (by omega) hw
 simpa using this
theorem afN{w:Nat}(hw:8<=w)(n:Int):xV w n=some (mK n):=by
 unfold xV
 rw[rN hw]
 have hm:fZ 2 2=true:=rfl
 rw[au hm]
 unfold o7 mK
 by_cases h:0<=n/\n<65536<;>simp[h]
theorem FG(w:Nat)(tags:List aI)(subs:cA)(blob:List UInt8)(h:tags.length+bX subs<2^60):kx w (ay tags) (ae (bX subs) (gG subs)) (ag blob)=some (bB (.mk tags subs blob):Int):=by
 unfold kx ay bB
 simp only[cd,Zx,cJ,aT,qn,cm,bT]
 rw[aM (n:=(tags.length:Int)+(bX subs:Int)) (by omega) (by omega)]
 by_cases hb:blob.length=0
 ·rw[ai (by omega),au hb];rfl
 ·rw[au (by omega),ai hb,aM (by omega) (by omega)];rfl
end
section
set_option linter.unusedVariables false
set_option linter.unusedSimpArgs false
set_option linter.unusedSectionVars false
set_option linter.constructorNameAsVariable false
theorem afK{w:Nat}(l:List iv)(n:Int)(hl:l.length<2^40)(hw:l.length<w):MN w (gE l) n=some (db (λx=>x.tag==n) l):=by
 refine mB l (λx=>x.tag==n) (ev:=λi (g:Value->List Value->Int->Int->Option Int)=>g (aA lP l) [.int .i64 n] l.length i) ?_ ?_ hw
 ·intro i g h
  simp_all
  rw[bu sR h]
  unfold lP Nf
  simp only[fo,bh,bQ,az,cu,bT]
  rw[aM (by omega) (by omega)]
  by_cases e2:l[i].tag=n<;>grind
 ·intro g
  simp
theorem af2{w:Nat}(l:List iv)(n:Int)(hl:l.length<2^40)(hw:l.length<w):Bt w (gE l) n=some (l.any λx=>x.tag==n):=by
 unfold Bt
 rw[afK l n hl hw]
 simp
 have:=wR (λx:iv=>x.tag==n) l
 grind
def Hc(S:aX):Prop:=0<=S.at_
theorem af7{w:Nat}(S:aX)(n:Int)(hs:Hc S)(hl:S.bJ.length<2^40)(hw:S.bJ.length<w):Bx w (gE S.bJ) S.at_ S.cw S.next n=some (eC S n):=by
 have hs:0<=S.at_:=hs
 unfold Bx eC ft fj
 rw[af2 S.bJ n hl hw]
 simp
 by_cases h0:0<S.at_
 ·have h1:S.at_≠0:=by omega
  grind
 grind
theorem adO(l:List aI):fI l=(List.range l.length).all λi=>decide (i=0)||decide ((l[i -1]?.getD ⟨0,0,0,[]⟩).tag<(l[i]?.getD ⟨0,0,0,[]⟩).tag):=by
 induction l with
 |nil=>rfl
 |cons a l ih=>
  cases l with
  |nil=>rfl
  |cons b l=>
   show(decide (a.tag<b.tag)&&fI (b::l))=_
   rw[ih,bY (a:=a),tV,bY,tV]
   simp
   congr 1
theorem ag2(S:aX)(l:List aI):jY S l=(List.range l.length).all λi=>(decide (i=0)||decide ((l[i -1]?.getD ⟨0,0,0,[]⟩).tag<(l[i]?.getD ⟨0,0,0,[]⟩).tag))&&(mK (l[i]?.getD ⟨0,0,0,[]⟩).tag&&(!eC S (l[i]?.getD ⟨0,0,0,[]⟩).tag&&ej (l[i]?.getD ⟨0,0,0,[]⟩).ty (l[i]?.getD ⟨0,0,0,[]⟩).aw (l[i]?.getD ⟨0,0,0,[]⟩).data)):=by
 unfold jY
 rw[adO,im]
 simp
 constructor
 ·grind
 ·intro h
  refine⟨λi hi=>(h i hi).1,λx hx=>?_⟩
  obtain⟨i,hi,rfl⟩:=List.getElem_of_mem hx
  grind
theorem afU{w:Nat}(S:aX)(l:List aI)(X Y Z:Value)(hs:Hc S)(hS:S.bJ.length<2^40)(hl:l.length<2^40)(hd:∀t∈l,t.data.length<2^40)(hw:S.bJ.length+l.length+10<=w):
 F8 w X (ay l) Y Z (gE S.bJ) S.at_ S.cw S.next=some (jY S l):=by
 unfold F8 ay
 rw[cd,ag2]
 refine Q1 l.length _ (ev:=λi (g:Value->Int->Int->Value->Value->Value->Value->Int->Int->Int->Option Bool)=>g (aA cq l) l.length i (aA cq l) Y Z (gE S.bJ) S.at_ S.cw S.next) ?_ ?_ (by omega)
 ·intro i g h
  have e1:((i:Int)<(l.length:Int)):=by omega
  simp only[aT,e1,bd,aB,bP]
  rw[bu gY h,cW h]
  have hdi:=hd _ (cM h)
  have tg:∀(t:aI)(r:List Value),cq t++r=.int .i64 t.tag::.int .i64 t.ty::.int .i64 t.aw::ag t.data::r:=λ_ _=>rfl
  simp only[tg,bh,bQ,bT,jg,qj]
  rw[afN (by omega),aM (n:=(i:Int)+1) (by omega) (by omega)]
  simp only[az]
  rw[af7 S _ hs hS (by omega),xQ w _ _ _ hdi]
  simp only[az]
  have fin:∀a b:Bool,(cond a (some false) (cond (!b) (some false) (g (aA cq l) (l.length:Int) ((i:Int)+1) (aA cq l) Y Z (gE S.bJ) S.at_ S.cw S.next)))=if(!a&&b)=true then g (aA cq l) (l.length:Int) ((i+1:Nat):Int) (aA cq l) Y Z (gE S.bJ) S.at_ S.cw S.next else some false:=by
   intro a b
   cases a<;>cases b<;>rfl
  rcases Bool.eq_false_or_eq_true (mK l[i].tag) with ht|ht
  ·simp only[ht,bO,aC,eD]
   by_cases h0:i=0
   ·have e2:¬((0:Int)<(i:Int)):=by omega
    have e3:decide (i=0)=true:=by simp[h0]
    simp only[e2,bM,aC,fin,e3,Bool.true_or,eD]
   ·have e2:((0:Int)<(i:Int)):=by omega
    rw[aM (n:=(i:Int) -1) (by omega) (by omega),lK (by omega),show((i:Int) -1).toNat=i -1 by omega]
    rw[bu gY (show i -1<l.length by omega)]
    simp_all
    by_cases h3:l[i -1].tag<l[i].tag<;>grind
  ·simp_all
 ·intro g
  have e1:¬((l.length:Int)<(l.length:Int)):=by omega
  simp
end
section
set_option linter.unusedVariables false
set_option linter.unusedSimpArgs false
set_option linter.unusedSectionVars false
set_option linter.constructorNameAsVariable false
def aP:cA->List (Int×aS)
 | .nil=>[]
 | .cons tag d r=>(tag,d)::aP r
def dT:aS->Value
 | .mk tags _ _=>ay tags
def dS:aS->Value
 | .mk _ subs _=>ae (bX subs) (gG subs)
def dB:aS->Value
 | .mk _ _ blob=>ag blob
theorem pJ(d:aS):cZ d=[dT d,dS d,dB d]:=by cases d;rfl
def gm(p:Int×aS):List Value:=.int .i64 p.1 ::cZ p.2
theorem tL(p:Int×aS):(gm p).length=4:=by unfold gm;rw[bY,kX]
theorem tN:∀s:cA,(aP s).length=bX s
 | .nil=>rfl
 | .cons _ _ r=>by show(aP r).length+1=bX r+1;rw[tN r]
theorem NH:∀s:cA,gG s=(aP s).flatMap gm
 | .nil=>rfl
 | .cons t d r=>by
  show Value.int .i64 t::(cZ d++gG r)=(Value.int .i64 t::cZ d)++(aP r).flatMap gm
  rw[NH r];rfl
theorem BQ(s:cA):ae (bX s) (gG s)=aA gm (aP s):=by
 unfold aA
 rw[tN,NH]
mutual
def iw(m:Nat):aS->Prop
 | .mk tags subs blob=>tags.length<=m/\bX subs<=m/\blob.length<=m/\(∀t∈tags,t.data.length<=m)/\iy m subs
def iy(m:Nat):cA->Prop
 | .nil=>True
 | .cons _ d r=>iw m d/\iy m r
end
theorem wj{m:Nat}:∀{s:cA},iy m s->∀p∈aP s,iw m p.2
 | .nil,_,p,h=>by cases h
 | .cons t d r,h,p,hp=>by
  rcases cQ.1 hp with rfl|hp
  ·exact h.1
  ·exact wj h.2 p hp
theorem CN:∀{s:cA},∀p∈aP s,fX p.2 <=jM s
 | .nil,p,h=>by cases h
 | .cons t d r,p,hp=>by
  rcases cQ.1 hp with rfl|hp
  ·exact Nat.le_max_left _ _
  ·exact fy (CN p hp) (Nat.le_max_right _ _)
theorem afG{w:Nat}(l:List iv)(n:Int)(a b c:Value)(hl:l.length<2^40)(hw:l.length<w):MO w (gE l) n a b c=some (db (λx=>x.tag==n) l):=by
 refine mB l (λx=>x.tag==n) (ev:=λi (g:Value->List Value->Int->Int->Option Int)=>g (aA lP l) [.int .i64 n,a,b,c] l.length i) ?_ ?_ hw
 ·intro i g h
  simp_all
  rw[bu sR h]
  unfold lP M5
  rw[aM (by omega) (by omega)]
  simp
 simp
theorem Jo(S:aX)(n:Int):(db (λx:iv=>x.tag==n) S.bJ<0/\fj S n=false)\/
 ∃k,∃h:k<S.bJ.length,db (λx:iv=>x.tag==n) S.bJ=(k:Int)/\fj S n=true/\(lk S n).getD 0=(S.bJ[k]).shape.toNat:=by
 unfold fj lk db
 cases h:S.bJ.findIdx? (λx=>x.tag==n) with
 |none=>
  left
  refine⟨by decide,?_⟩
  rw[List.findIdx?_eq_none_iff] at h
  rw[Bool.eq_false_iff]
  intro q
  obtain⟨x,hx,e⟩:=List.any_eq_true.1 q
  rw[h x hx] at e;cases e
 |some k=>
  right
  obtain⟨hk,h1,h2⟩:=List.findIdx?_eq_some_iff_getElem.1 h
  refine⟨k,hk,rfl,List.any_eq_true.2 ⟨_,cM hk,h1⟩,?_⟩
  have:S.bJ.find? (λx=>x.tag==n)=some S.bJ[k]:=by
   rw[List.find?_eq_some_iff_getElem]
   exact⟨h1,k,hk,rfl,λj hj=>by have:=h2 j hj;simpa using this⟩
  rw[this]
  rfl
theorem adN(l:List Int):ny l=(List.range l.length).all λi=>decide (i=0)||decide ((l[i -1]?.getD 0)<(l[i]?.getD 0)):=by
 induction l with
 |nil=>rfl
 |cons a l ih=>
  cases l with
  |nil=>rfl
  |cons b l=>
   show(decide (a<b)&&ny (b::l))=_
   rw[ih,bY (a:=a),tV,bY,tV]
   simp
   congr 1
theorem VG:∀s:cA,kO s=(aP s).map Prod.fst
 | .nil=>rfl
 | .cons t d r=>by show t::kO r=t::(aP r).map Prod.fst;rw[VG r]
theorem P4(sh:List aX)(S:aX):∀s:cA,iV sh S s=(aP s).all λp=>fj S p.1 &&cD sh ((lk S p.1).getD 0) p.2
 | .nil=>by simp[iV,aP]
 | .cons t d r=>by
  simp only[iV,aP,List.all_cons]
  rw[P4 sh S r,Bool.and_assoc]
def wZ:Int×aS:=(0,.mk [] .nil [])
theorem Yq(sh:List aX)(S:aX)(s:cA):(ny (kO s)&&iV sh S s)=(List.range (aP s).length).all λi=>
 (decide (i=0)||decide (((aP s)[i -1]?.getD wZ).1 <((aP s)[i]?.getD wZ).1))&&(fj S ((aP s)[i]?.getD wZ).1 &&cD sh ((lk S ((aP s)[i]?.getD wZ).1).getD 0) ((aP s)[i]?.getD wZ).2):=by
 rw[adN,P4,VG,cH,im]
 simp only[bt,iq,List.mem_range]
 have hf:∀i:Nat,((List.map Prod.fst (aP s))[i]?).getD 0=((aP s)[i]?.getD wZ).1 :=by
  intro i
  rw[List.getElem?_map]
  cases(aP s)[i]? <;>rfl
 simp only[hf]
 constructor
 ·grind
 ·intro h
  refine⟨λi hi=>(h i hi).1,λx hx=>?_⟩
  obtain⟨i,hi,rfl⟩:=List.getElem_of_mem hx
  grind
theorem agO{w m:Nat}(hm:m<2^38)(hw:2*m+100<=w)(sh:List aX)(hsh:iQ sh)(hl:∀s,s<sh.length->(aN sh s).bJ.length<=m)(rec:Value->Value->Value->Value->Int->Option Bool)
 (d:aS) (s:Nat) (hs:s<sh.length) (hd:iw m d) (hrec:∀p∈aP (match d with| .mk _ subs _=>subs),∀k:Nat,k<sh.length->rec (cf sh) (dT p.2) (dS p.2) (dB p.2) (k:Int)=some (cD sh k p.2)):
 GH w rec (cf sh) (dT d) (dS d) (dB d) (s:Int)=some (cD sh s d):=by
 obtain⟨tags,subs,blob⟩:=d
 have hd:tags.length<=m/\bX subs<=m/\blob.length<=m/\(∀t∈tags,t.data.length<=m)/\iy m subs:=hd
 have hS:sh[s]=aN sh s:=by unfold aN;rw[cW hs];rfl
 have hp:Hc (aN sh s):=by
  have:=(hsh.ok s).pair
  show 0<=(aN sh s).at_
  by_cases q:(aN sh s).at_=0
  ·omega
  ·have:=this q;omega
 have hln:=hl s hs
 unfold GH cf cD Lq
 simp only[dT,dS,dB,bP]
 rw[bu yc hs,hS]
 have tg:∀(S:aX)(r:List Value),jj S++r=gE S.bJ::.int .i64 S.at_::.int .i64 S.cw::.int .i64 S.next::r:=λ_ _=>rfl
 simp only[tg,bh,bQ]
 rw[FG w tags subs blob (by omega),afU (aN sh s) tags _ _ _ hp (by omega) (by omega) (λt ht=>by have:=hd.2.2.2.1 t ht;omega) (by omega)]
 simp only[az,aT,qn,cu]
 generalize hE:bB (.mk tags subs blob)=E
 by_cases h1:(E:Int)<1
 ·rw[au h1]
  have:¬(1<=E/\E<=65535):=by omega
  simp[this]
 rw[ai h1]
 by_cases h2:65535<(E:Int)
 ·rw[au h2]
  have:¬(1<=E/\E<=65535):=by omega
  simp[this]
 rw[ai h2]
 have h3:(1<=E/\E<=65535):=by omega
 simp only[h3,and_self,bd,eD]
 rcases Bool.eq_false_or_eq_true (jY (aN sh s) tags) with ht|ht
 ·simp only[ht,bO,aC,eD]
  rw[cJ]
  have sg:∀(p:Int×aS)(r:List Value),gm p++r=.int .i64 p.1 ::dT p.2 ::dS p.2 ::dB p.2 ::r:=by
   intro p r
   unfold gm
   rw[pJ]
   rfl
  have hsl:=tN subs
  have fin:∀(b:Bool)(x y:Option Bool),(cond (!b) x y)=if b=true then y else x:=by intro b x y;cases b<;>rfl
  by_cases hb:blob.length=0
  case' pos=>
   rw[ai (by simp only[oz];omega)]
   simp only[hb,bd,Bool.true_or,eD]
  case' neg=>
   rw[au (by simp only[oz];omega)]
   by_cases ha:(aN sh s).at_=0
   case pos=>rw[au ha];simp[hb,ha]
   rw[ai ha]
   simp only[hb,ha,bM,ne_eq,not_false_eq_true,bd,Bool.or_true,eD]
  all_goals
   rw[BQ,cd,Yq]
   refine Q1 (aP subs).length _ (ev:=λi (g:Value->Int->Int->Value->Value->Value->Value->Value->Int->Int->Int->Option Bool)=>g (aA gm (aP subs)) (aP subs).length i (aA jj sh) (ay tags) (aA gm (aP subs)) (ag blob) (gE (aN sh s).bJ) (aN sh s).at_ (aN sh s).cw (aN sh s).next) ?_ ?_ (by omega)
   ·intro i g h
    have e1:((i:Int)<((aP subs).length:Int)):=by omega
    simp only[e1,dL,bP]
    rw[bu tL h,cW h]
    simp only[sg,bh,bQ,bT,jg,qj]
    rw[afG _ _ _ _ _ (by omega) (by omega)]
    simp only[az]
    rcases Jo (aN sh s) (aP subs)[i].1 with⟨hn,hb0⟩|⟨k,hk,e,hb1,e2⟩
    ·rw[au hn]
     simp only[hb0,Bool.false_and,Bool.and_false,kC,gQ]
    ·rw[e,ai (by omega)]
     have hmem:=cM (l:=(aN sh s).bJ) hk
     have hlk:=hsh.bJ s hs _ hmem
     have hr:=hrec _ (cM h) ((aN sh s).bJ[k]).shape.toNat (by omega)
     rw[mf (by omega)] at hr
     have lg:∀(x:iv)(r:List Value),(lP x++r).drop 1=.int .i64 x.shape::r:=λ_ _=>rfl
     rw[aM (n:=(i:Int)+1) (by omega) (by omega)]
     unfold gE
     simp only[bP]
     rw[bu sR hk]
     simp only[lg,bh,bQ]
     unfold cf at hr
     rw[hr]
     simp only[az,fin,hb1,eD,e2]
     by_cases h0:i=0
     ·have e3:decide (i=0)=true:=by simp[h0]
      rw[ai (by omega)]
      simp only[e3,Bool.true_or,eD]
      rfl
     ·rw[au (by omega),aM (n:=(i:Int) -1) (by omega) (by omega),lK (by omega),show((i:Int) -1).toNat=i -1 by omega]
      rw[bu tL (show i -1<(aP subs).length by omega),cW (show i -1<(aP subs).length by omega)]
      simp only[eS,sg,bh,bQ,qj]
      by_cases h3:(aP subs)[i -1].1 <(aP subs)[i].1
      ·simp only[h3,bd,dL,Bool.or_true,eD]
       rfl
      ·simp only[h3,bM,h0,Bool.or_self,Bool.false_and,kC,gQ]
   ·intro g
    have e1:¬(((aP subs).length:Int)<((aP subs).length:Int)):=by omega
    simp only[e1,gQ]
 ·simp only[ht,gp,aB,Bool.false_and]
theorem P5{w m:Nat}(hm:m<2^38)(hw:2*m+100<=w)(sh:List aX)(hsh:iQ sh)(hl:∀s,s<sh.length->(aN sh s).bJ.length<=m)(z:Value->Value->Value->Value->Int->Option Bool):
 ∀(n:Nat)(d:aS)(s:Nat),fX d<=n->s<sh.length->iw m d->pM z (GH w) n (cf sh) (dT d) (dS d) (dB d) (s:Int)=some (cD sh s d)
 |0,d,s,h,_,_=>by
  obtain⟨tags,subs,blob⟩:=d
  unfold fX at h
  omega
 |n+1,d,s,h,hs,hd=>by
  refine agO hm hw sh hsh hl _ d s hs hd ?_
  obtain⟨tags,subs,blob⟩:=d
  intro p hp k hk
  have hp:p∈aP subs:=hp
  have:=CN p hp
  unfold fX at h
  exact P5 hm hw sh hsh hl z n p.2 k (by omega) hk (wj hd.2.2.2.2 p hp)
theorem afA{w m:Nat}(hm:m<2^38)(hw:2*m+100<=w)(sh:List aX)(hsh:iQ sh)(hl:∀s,s<sh.length->(aN sh s).bJ.length<=m)(d:aS)(s:Nat)(hs:s<sh.length)(hd:iw m d)(jQ:fX d<=w):
 ML w (cf sh) (dT d) (dS d) (dB d) (s:Int)=some (cD sh s d):=P5 hm hw sh hsh hl _ w d s jQ hs hd
end
section
set_option linter.unusedVariables false
set_option linter.unusedSimpArgs false
set_option linter.unusedSectionVars false
set_option linter.constructorNameAsVariable false
def bR(x:bk):List Value:=[.int .i64 x.nB,.int .i64 x.dir,.int .i64 x.tag,.int .i64 x.at_,.int .i64 x.cw]
theorem tK(x:bk):(bR x).length=5:=rfl
theorem uu(n:Nat):aE n<=n+1:=by unfold aE;omega
theorem S5(ty aw:Int):bF ty aw<=524288:=by
 have:=Q0 ty aw
 unfold bF
 grind
theorem MJ(w:Nat)(nB dir tag no:Int){n e:Nat}(hn:n<2^50)(he:e<2^50)(c:List Value)(hc:c.length<=1000000000):
 vu w nB dir tag n e no c=some (((aE e+n:Nat):Int),no,c++bR ⟨nB,dir,tag,aE e,n⟩):=by
 have hv:=uu e
 unfold vu M4
 rw[af6 w (by omega)]
 simp
 rw[aM (by omega) (by omega)]
 simp_all
 rfl
theorem Il(t:aI):∀(l:List aI)(e:Nat),ca e (l++[t])=if bF t.ty t.aw=0 then ca e l else aE (ca e l)+bF t.ty t.aw
 |[],e=>rfl
 |a::l,e=>by
  show(if bF a.ty a.aw=0 then ca e (l++[t]) else ca (aE e+bF a.ty a.aw) (l++[t]))=_
  rw[Il t l e,Il t l (aE e+bF a.ty a.aw)]
  by_cases h:bF a.ty a.aw=0<;>simp[ca,h]
theorem Vy(no:Nat)(t:aI):∀(l:List aI)(e:Nat),cS no e (l++[t])=cS no e l++(if bF t.ty t.aw=0 then[] else[⟨3,no,t.tag,aE (ca e l),bF t.ty t.aw⟩])
 |[],e=>by simp[cS,ca]
 |a::l,e=>by
  by_cases h:bF a.ty a.aw=0<;>simp[cS,ca,h,Vy no t l]
theorem Ik{K:Nat}(hK:524289<=K):∀(l:List aI)(e:Nat),ca e l<=e+l.length*K
 |[],e=>Nat.le_add_right _ _
 |a::l,e=>by
  have h1:=Ik hK l e
  have h2:=Ik hK l (aE e+bF a.ty a.aw)
  have h3:=uu e
  have h4:=S5 a.ty a.aw
  have h5:(a::l).length*K=l.length*K+K:=by rw[bY,Nat.succ_mul]
  unfold ca
  grind
theorem XF(l:List aI)(e:Nat):ca e l<=e+l.length*600000:=Ik (by simp) l e
theorem NC(no:Nat):∀(l:List aI)(e:Nat),(cS no e l).length<=l.length
 |[],e=>by simp[cS]
 |a::l,e=>by
  have h1:=NC no l e
  have h2:=NC no l (aE e+bF a.ty a.aw)
  unfold cS
  grind
theorem agJ(no:Nat)(l:List aI)(e i:Nat):(cS no e (l.take i)).length<=(cS no e l).length:=by
 have:∀(a b:List aI)(e:Nat),cS no e (a++b)=cS no e a++cS no (ca e a) b:=by
  intro a
  induction a with
  |nil=>intro b e;rfl
  |cons p a ih=>
   intro b e
   by_cases h:bF p.ty p.aw=0<;>simp[cS,ca,h,ih]
 rw[<-kT i l,this]
 simp
theorem vD(l:List bk):(l.flatMap bR).length=l.length*5:=dH tK l
theorem afT{w:Nat}(l:List aI)(X Y:Value)(no:Nat)(k:Int){e:Nat}(c:List Value)(he:e+l.length*600000<2^50)(hc:c.length+(cS no e l).length*5<=1000000000)(hw:l.length<w):
 F7 w (ay l) X Y no e k c=some ((ca e l:Int),k,c++(cS no e l).flatMap bR):=by
 unfold F7 ay
 rw[cd]
 have s0:c=c++(cS no e (l.take 0)).flatMap bR:=by simp[cS]
 conv=>lhs;rw[s0]
 refine ia (ev:=λi (g:Int->Value->Int->Int->Int->Int->List Value->Option (Int×Int×List Value))=>g no (aA cq l) l.length i (ca e (l.take i):Nat) k (c++(cS no e (l.take i)).flatMap bR)) l.length ?_ ?_ hw
 ·intro i g h
  have e1:((i:Int)<(l.length:Int)):=by omega
  simp[e1]
  rw[bu gY h]
  have tg:∀(t:aI)(r:List Value),cq t++r=.int .i64 t.tag::.int .i64 t.ty::.int .i64 t.aw::ag t.data::r:=λ_ _=>rfl
  simp[tg]
  rw[Vg,aM (n:=(i:Int)+1) (by omega) (by omega)]
  simp only[az]
  rw[iN h,Il,Vy]
  have hlt:(l.take i).length<=l.length:=by rw[dI];omega
  have b1:=XF (l.take i) e
  have b2:=agJ no l e i
  have b3:=S5 l[i].ty l[i].aw
  by_cases h0:bF l[i].ty l[i].aw=0
  ·simp only[h0,aC,dL,dX]
   rfl
  ·have e2:((0:Int)<((bF l[i].ty l[i].aw:Nat):Int)):=by omega
   simp only[e2,bd,aB,h0,gQ]
   rw[MJ w 3 no l[i].tag k (by omega) (by omega) _ (by rw[aR,vD];omega)]
   simp only[az,fw,dV,mN,dX,dD]
   rfl
 ·intro g
  simp
end
section
set_option linter.unusedVariables false
set_option linter.unusedSimpArgs false
set_option linter.unusedSectionVars false
set_option linter.constructorNameAsVariable false
def gU(e:Nat):List (Int×aS)->Nat
 |[]=>e
 |p::l=>gU (bq e p.2) l
def fV:List (Int×aS)->Nat
 |[]=>0
 |p::l=>dE p.2 +fV l
def gj(no e:Nat):List (Int×aS)->List bk
 |[]=>[]
 |p::l=>fS no e p.2 ++gj (no+dE p.2) (bq e p.2) l
theorem Ij:∀(s:cA)(e:Nat),dZ e s=gU e (aP s)
 | .nil,e=>by simp[dZ,aP,gU]
 | .cons t d r,e=>by simp[dZ,aP,gU,Ij r]
theorem H5:∀(s:cA),iA s=fV (aP s)
 | .nil=>by simp[iA,aP,fV]
 | .cons t d r=>by simp[iA,aP,fV,H5 r]
theorem GB:∀(s:cA)(no e:Nat),ky no e s=gj no e (aP s)
 | .nil,no,e=>by simp[ky,aP,gj]
 | .cons t d r,no,e=>by simp[ky,aP,gj,GB r]
theorem O9(p:Int×aS):∀(l:List (Int×aS))(e:Nat),gU e (l++[p])=bq (gU e l) p.2
 |[],e=>rfl
 |a::l,e=>O9 p l (bq e a.2)
theorem OO(p:Int×aS):∀(l:List (Int×aS)),fV (l++[p])=fV l+dE p.2
 |[]=>by simp[fV]
 |a::l=>by simp[fV,OO p l,qg]
theorem Vw(p:Int×aS):∀(l:List (Int×aS))(no e:Nat),gj no e (l++[p])=gj no e l++fS (no+fV l) (gU e l) p.2
 |[],no,e=>by simp[gj,fV,gU]
 |a::l,no,e=>by simp[gj,fV,gU,Vw p l,qg]
theorem CS:∀(l:List (Int×aS))(e:Nat),e<=gU e l
 |[],_=>aK _
 |p::l,e=>fy (zc p.2 e) (CS l (bq e p.2))
theorem XE(l:List (Int×aS))(e i:Nat):gU e (l.take i)<=gU e l:=by
 have:∀(a b:List (Int×aS))(e:Nat),gU e (a++b)=gU (gU e a) b:=by
  intro a
  induction a with
  |nil=>intro b e;rfl
  |cons p a ih=>intro b e;exact ih b (bq e p.2)
 conv=>rhs;rw[<-kT i l,this]
 exact CS _ _
theorem Xf(l:List (Int×aS))(i:Nat):fV (l.take i)<=fV l:=by
 have:∀(a b:List (Int×aS)),fV (a++b)=fV a+fV b:=by
  intro a
  induction a with
  |nil=>simp[fV]
  |cons p a ih=>intro b;simp[fV,ih b,qg]
 rw[<-kT i l,this]
 simp
theorem agG(l:List (Int×aS))(no e i:Nat):(gj no e (l.take i)).length<=(gj no e l).length:=by
 have:∀(a b:List (Int×aS))(no e:Nat),gj no e (a++b)=gj no e a++gj (no+fV a) (gU e a) b:=by
  intro a
  induction a with
  |nil=>simp[gj,fV,gU]
  |cons p a ih=>intro b no e;simp[gj,fV,gU,ih b,qg]
 rw[<-kT i l,this]
 simp
theorem agN{w m:Nat}(hm:m<2^28)(hw:2*m+100<=w)(rec:Value->Value->Value->Int->Int->List Value->Option (Int×Int×List Value))(d:aS)(no e:Nat)(c:List Value)(he:bq e d<2^49)(hno:no+dE d<2^50)
 (hc:c.length+(fS no e d).length*5<=1000000000) (hd:iw m d)
 (hrec:∀p∈aP (match d with| .mk _ subs _=>subs),∀(no' e':Nat)(c':List Value),bq e' p.2 <2^49->no'+dE p.2 <2^50->c'.length+(fS no' e' p.2).length*5<=1000000000->rec (dT p.2) (dS p.2) (dB p.2) e' no' c'=some ((bq e' p.2 :Int),((no'+dE p.2 :Nat):Int),c'++(fS no' e' p.2).flatMap bR)):
 GG w rec (dT d) (dS d) (dB d) e no c=some ((bq e d:Int),((no+dE d:Nat):Int),c++(fS no e d).flatMap bR):=by
 obtain⟨tags,subs,blob⟩:=d
 have hd:tags.length<=m/\bX subs<=m/\blob.length<=m/\(∀t∈tags,t.data.length<=m)/\iy m subs:=hd
 have hE:bB (.mk tags subs blob)<=2*m+2:=by
  show tags.length+bX subs+(if blob.length=0 then 0 else 2)<=2*m+2
  split<;>omega
 unfold dE at hno⊢
 rw[H5] at hno⊢
 unfold bq at he⊢
 unfold fS at hc⊢
 simp only[GB] at hc⊢
 simp only[Ij] at he hc⊢
 unfold GG
 simp only[dT,dS,dB]
 rw[FG w tags subs blob (by omega)]
 simp only[az,nU,bT]
 generalize bB (.mk tags subs blob)=E at he hc hE⊢
 rw[aM (n:=12*(E:Int)) (by omega) (by omega),aM (n:=2+12*(E:Int)) (by omega) (by omega),aM (n:=2+12*(E:Int)+4) (by omega) (by omega),aM (n:=(no:Int)+1) (by omega) (by omega)]
 rw[show(2:Int)+12*(E:Int)+4=((6+12*E:Nat):Int) by omega,show(no:Int)+1=((no+1:Nat):Int) by omega]
 have v1:=uu e
 have v0:e<=aE e:=by unfold aE;omega
 have g1:=qo tags (aE e+(6+12*E))
 have g2:=CS (aP subs) (ca (aE e+(6+12*E)) tags)
 have g3:gU (ca (aE e+(6+12*E)) tags) (aP subs)<2^49:=by
  by_cases q:blob.length=0
  ·rw[au q] at he;exact he
  ·rw[ai q] at he
   have:∀n:Nat,n<=aE n:=λn=>by unfold aE;omega
   have:=this (gU (ca (aE e+(6+12*E)) tags) (aP subs))
   omega
 rw[MJ w 2 no 0 _ (by omega) (by omega) c (by omega)]
 simp only[az]
 simp only[bY,aR] at hc
 rw[afT tags _ _ no _ _ (by omega) (by rw[aR,tK];omega) (by omega)]
 simp only[az]
 rw[BQ,cd]
 have sg:∀(p:Int×aS)(r:List Value),gm p++r=.int .i64 p.1 ::dT p.2 ::dS p.2 ::dB p.2 ::r:=by
  intro p r
  unfold gm
  rw[pJ]
  rfl
 have hsl:=tN subs
 generalize hE2:ca (aE e+(6+12*E)) tags=E2 at*
 generalize hC:c++bR ⟨2,no,0,aE e,6+12*E⟩++(cS no (aE e+(6+12*E)) tags).flatMap bR=C
 have hCl:C.length=c.length+5+(cS no (aE e+(6+12*E)) tags).length*5:=by
  rw[<-hC,aR,aR,vD];rfl
 have s0:C=C++(gj (no+1) E2 ((aP subs).take 0)).flatMap bR:=by simp[gj]
 conv=>lhs;rw[s0]
 refine ia (ev:=λi (g:Int->Value->Int->Int->Int->Int->Value->Value->Value->List Value->Option (Int×Int×List Value))=>g no (aA gm (aP subs)) (aP subs).length i (gU E2 ((aP subs).take i):Nat) ((no+1+fV ((aP subs).take i):Nat):Int) (ay tags) (aA gm (aP subs)) (ag blob) (C++(gj (no+1) E2 ((aP subs).take i)).flatMap bR)) (aP subs).length ?_ ?_ (by omega)
 ·intro i g h
  have e1:((i:Int)<((aP subs).length:Int)):=by omega
  simp only[aT,e1,bd,aB,bP]
  rw[bu tL h]
  simp only[sg,bh,bQ]
  have k1:=XE (aP subs) E2 (i+1)
  have k2:=Xf (aP subs) (i+1)
  have k3:=agG (aP subs) (no+1) E2 (i+1)
  rw[iN h] at k1 k2 k3⊢
  rw[O9] at k1⊢
  rw[OO] at k2⊢
  rw[Vw] at k3⊢
  rw[aR] at k3
  rw[hrec _ (cM h) (no+1+fV ((aP subs).take i)) (gU E2 ((aP subs).take i)) _ (by omega) (by omega) (by rw[aR,vD];omega)]
  simp only[az]
  rw[aM (n:=(i:Int)+1) (by omega) (by omega),fw,<-dD,qg (no+1)]
  rfl
 ·intro g
  have e1:¬(((aP subs).length:Int)<((aP subs).length:Int)):=by omega
  simp only[aT,e1,bM,aC,qT,cJ,cm]
  have hcs:c++(⟨2,no,0,aE e,6+12*E⟩::(cS no (aE e+(6+12*E)) tags++(gj (no+1) E2 (aP subs)++(if blob.length=0 then[] else[⟨4,no,0,aE (gU E2 (aP subs)),blob.length⟩]:List bk)))).flatMap bR=C++(gj (no+1) E2 (aP subs)).flatMap bR++(if blob.length=0 then[] else[⟨4,no,0,aE (gU E2 (aP subs)),blob.length⟩]:List bk).flatMap bR:=by
   rw[<-hC]
   simp[dV,fw,dD]
  rw[hcs]
  by_cases hb:blob.length=0
  ·simp only[hb,show decide ((0:Int)<((0:Nat):Int))=false from rfl,aC,dL,mN,dX,qg]
   rw[Nat.add_comm 1]
  ·have e2:((0:Int)<(blob.length:Int)):=by omega
   simp only[e2,bd,aB,hb,gQ]
   simp only[hb,gQ,bY,List.length_nil] at hc
   rw[MJ w 4 no 0 _ (by omega) (by omega) _ (by rw[aR,vD];omega)]
   simp only[az,dV,mN,dX,qg]
   rw[Nat.add_comm 1]
theorem O2{w m:Nat}(hm:m<2^28)(hw:2*m+100<=w)(z:Value->Value->Value->Int->Int->List Value->Option (Int×Int×List Value)):
 ∀(n:Nat)(d:aS)(no e:Nat)(c:List Value),fX d<=n->bq e d<2^49->no+dE d<2^50->c.length+(fS no e d).length*5<=1000000000->iw m d->
  pM z (GG w) n (dT d) (dS d) (dB d) e no c=some ((bq e d:Int),((no+dE d:Nat):Int),c++(fS no e d).flatMap bR)
 |0,d,no,e,c,h,_,_,_,_=>by
  obtain⟨tags,subs,blob⟩:=d
  unfold fX at h
  omega
 |n+1,d,no,e,c,h,he,hno,hc,hd=>by
  refine agN hm hw _ d no e c he hno hc hd ?_
  obtain⟨tags,subs,blob⟩:=d
  intro p hp no' e' c' h1 h2 h3
  have hp:p∈aP subs:=hp
  have:=CN p hp
  unfold fX at h
  exact O2 hm hw z n p.2 no' e' c' (by omega) h1 h2 h3 (wj hd.2.2.2.2 p hp)
theorem afz{w m:Nat}(hm:m<2^28)(hw:2*m+100<=w)(d:aS)(no e:Nat)(c:List Value)(jQ:fX d<=w)(he:bq e d<2^49)(hno:no+dE d<2^50)(hc:c.length+(fS no e d).length*5<=1000000000)(hd:iw m d):
 MK w (dT d) (dS d) (dB d) e no c=some ((bq e d:Int),((no+dE d:Nat):Int),c++(fS no e d).flatMap bR):=O2 hm hw _ w d no e c jQ he hno hc hd
end
section
set_option linter.unusedVariables false
set_option linter.unusedSimpArgs false
set_option linter.unusedSectionVars false
set_option linter.constructorNameAsVariable false
theorem adz(n:Int)(o:Int):o7 n 2 o=if 0<=n/\n<65536 then some (aW n.toNat 2 o) else none:=rfl
theorem afM{w:Nat}(hw:8<=w)(a b c d o:Int)(ho:o=1\/o=2):FX w a b c d o=some (if(0<=a/\a<65536)/\(0<=b/\b<65536)/\(0<=c/\c<4294967296)/\(0<=d/\d<4294967296) then(ag (aW a.toNat 2 o++(aW b.toNat 2 o++(aW c.toNat 4 o++aW d.toNat 4 o))),true) else(ae 0 [],false)):=by
 have m4:fZ 4 o=true:=by rcases ho with rfl|rfl<;>rfl
 have p2:∀n:Int,ig w n 2 o=some (if 0<=n/\n<65536 then(ag (aW n.toNat 2 o),true) else(ae 0 [],false)):=by
  intro n
  rw[rN hw,au (by rcases ho with rfl|rfl<;>rfl),show(2:Int).toNat=2 from rfl,adz]
  by_cases h:0<=n/\n<65536<;>grind
 have p4:∀n:Int,ig w n 4 o=some (if 0<=n/\n<4294967296 then(ag (aW n.toNat 4 o),true) else(ae 0 [],false)):=by
  intro n
  rw[rN hw,au m4,show(4:Int).toNat=4 from rfl,KA]
  by_cases h:0<=n/\n<4294967296<;>grind
 have fl:∀(l:List UInt8),(l.flatMap mr).length=l.length:=λl=>by rw[gR,cH]
 have l2:∀n:Int,(aW n.toNat 2 o).length=2:=λn=>er _ _ _
 have l4:∀n:Int,(aW n.toNat 4 o).length=4:=λn=>er _ _ _
 unfold FX
 rw[p2 a]
 by_cases ha:0<=a/\a<65536
 case neg=>rw[ai ha,ai (λq=>ha q.1)];rfl
 rw[au ha]
 simp only[az,bO,aC,gV,fl,l2,l4,show aG 2=true from rfl,show aG 4=true from rfl,jZ,aB]
 rw[p2 b]
 by_cases hb:0<=b/\b<65536
 case neg=>rw[ai hb,ai (λq=>hb q.2.1)];rfl
 rw[au hb]
 simp only[az,bO,aC,gV,fl,l2,l4,show aG 2=true from rfl,show aG 4=true from rfl,jZ,aB]
 rw[p4 c]
 by_cases hc:0<=c/\c<4294967296
 case neg=>rw[ai hc,ai (λq=>hc q.2.2.1)];rfl
 rw[au hc]
 simp only[az,bO,aC,gV,fl,l2,l4,aR,show aG 2=true from rfl,show aG (2+2)=true from rfl,show aG 4=true from rfl,jZ,aB]
 rw[p4 d]
 by_cases hd:0<=d/\d<4294967296
 case neg=>rw[ai hd,ai (λq=>hd q.2.2.2)];rfl
 rw[au hd]
 simp only[az,bO,aC,gV,fl,l2,l4,aR,show aG (2+2)=true from rfl,show aG (2+2+4)=true from rfl,show aG 4=true from rfl,jZ,aB]
 unfold ag aA
 simp_all
end
section
set_option linter.unusedVariables false
set_option linter.unusedSimpArgs false
set_option linter.unusedSectionVars false
set_option linter.constructorNameAsVariable false
theorem VW{w:Nat}(l:List UInt8)(hl:l.length<2^29)(hw:l.length+10<=w)(s:Nat)(o:Int)(hs:(s:Int)=1\/(s:Int)=2\/(s:Int)=4\/(s:Int)=8)(ho:o=1\/o=2):
 lp (λ(x8 x9:Int)(x10 x11:Nat)(x12:Int)(x13:List Value)=>(none:Option (Nat×Nat×List Value)))
     (λx14 (x15 x16:Int) (x17 x18:Nat) (x19:Int) (x20:List Value)=>
      bif aj x16 1 then
       bif !ak (Int.ofNat x17) (ah IntKind.i64 (x19.add x15)) then
        aD (ah IntKind.i64 (x19.add x15)) λx21=>
         aD x19 λx22=>
          bif x21.ble x18&&x22.ble x21 then
           ob (tA w (bif x18.beq x22 then 0 else 0+x22*1) (x21 -x22) (x18 -x22) x20) λx23=>
            x14 x15 x16 x17 x18 (ah IntKind.i64 (x19.add x15)) x23
          else none
       else some (x17,x18,x20)
      else some (x17,x18,x20))
     w (s:Int) o l.length l.length 0 (l.map aV)=some (l.length,l.length,(if o=1 then ij l s (l.length/s*s) else l).map aV):=by
 have hs0:0<s:=by omega
 have hs8:s<=8:=by omega
 have hd2:l.length/s<=l.length:=Nat.div_le_self _ _
 by_cases h1:o=1
 ·subst h1
  have hd:s*(l.length/s)<=l.length:=Nat.mul_div_le _ _
  have hd3:l.length<s*(l.length/s)+s:=Nat.lt_mul_div_succ _ hs0
  rw[show l.map aV=(ij l s (s*0)).map aV by rw[Nat.mul_zero,VX],au rfl]
  refine ia (ev:=λi (g:Int->Int->Nat->Nat->Int->List Value->Option (Nat×Nat×List Value))=>g (s:Int) 1 l.length l.length ((s*i:Nat):Int) ((ij l s (s*i)).map aV)) (l.length/s) ?_ ?_ (by omega)
  ·intro i g hi
   have hle:s*(i+1)<=s*(l.length/s):=Nat.mul_le_mul_left _ hi
   have e1:s*(i+1)=s*i+s:=by rw[Nat.mul_add,gA]
   have e2:(((s*i:Nat):Int).add (s:Int))=((s*(i+1):Nat):Int):=by rw[bT,e1];omega
   simp only[e2,show aj 1 1=true from rfl,aB,aT,cm]
   rw[aM (by omega) (by omega)]
   have e3:¬((l.length:Int)<((s*(i+1):Nat):Int)):=by omega
   simp only[e3,bM,gp,aB,bP,gC,yT]
   have e4:s*(i+1)<=l.length:=by omega
   have e5:s*i<=s*(i+1):=by omega
   have e6:¬(l.length=s*i):=by omega
   simp only[e4,e5,e6,bd,bM,jZ,aB,aC]
   have hlen:=pj l s (s*i)
   have:=Mr (w:=w) ((ij l s (s*i)).take (s*i)) (((ij l s (s*i)).drop (s*i)).take s) ((ij l s (s*i)).drop (s*i+s)) (by simp;omega) (by simp;omega) (l.length -s*i)
   rw[<-mR i s,<-VY l hs0 (by rw[mR];omega),mR i s,mR (i+1) s,<-List.drop_drop,kT,kT,dI,dI,eu,hlen,kc (by omega),kc (by omega)] at this
   rw[show 0+s*i*1=s*i by omega,show s*(i+1) -s*i=s by omega,this]
   rfl
  ·intro g
   simp only[show aj 1 1=true from rfl,aB,aT,cm,bT]
   rw[aM (by omega) (by omega)]
   have e3:((l.length:Int)<((s*(l.length/s):Nat):Int)+(s:Int)):=by omega
   simp only[e3,bd,bO,aC]
   rw[mR]
 ·rw[ai h1,dQ _ _ (by omega)]
  simp only[cu,h1,bM,aC,gQ]
theorem Vi{w:Nat}(l:List UInt8)(hl:l.length<2^29)(hw:l.length+10<=w)(s o:Int)(hc:fZ s o=true\/(s=8/\fZ 1 o=true)):
 By w (ag l) s o=some (l.length,l.length,(if o=1 then ij l s.toNat (l.length/s.toNat*s.toNat) else l).map aV):=by
 unfold By Lu
 rw[vn (by omega)]
 have hr:Nat.ble l.length 1000000000=true:=by rw[iO];omega
 have hr2:Nat.ble l.length l.length=true:=by rw[iO];omega
 have hi:aU 0 (List.take (l.length*1) (l.map aV)) (List.map aV (List.replicate l.length 0))=l.map aV:=by
  have:=Ax (l.map aV) (List.map aV (List.replicate l.length 0)) [] [] (by simp)
  simp only[List.length_nil,fU,dX] at this
  rw[eE (by simp),this]
 have hq:((l.map aV).length.beq (l.length*1)&&(0+l.length*1).ble (List.map aV (List.replicate l.length 0)).length)=true:=by
  simp
 have hs:s=1\/s=2\/s=4\/s=8:=by
  rcases hc with h|h
  ·have:=(sV h).1;omega
  ·omega
 have ho:o=1\/o=2:=by
  rcases hc with h|h
  ·exact(sV h).2
  ·exact(sV h.2).2
 obtain⟨s,rfl⟩:=Int.eq_ofNat_of_zero_le (a:=s) (by omega)
 cases hm:fZ s o
 all_goals simp only[az,bO,aB,aC]
 ·have h8:(s:Int)=8:=by rcases hc with h|h;(rw[hm] at h;cases h);exact h.1
  rw[vn (by omega),(show fZ 1 o=true from by rcases hc with h|h;(rw[hm] at h;cases h);exact h.2),show aj (s:Int) 8=true by rw[h8];rfl]
  simp only[bO,aC,az,cJ,gV,hr,hr2,jZ,aB,rJ,gR,Nat.min_self]
  rw[hq,hi]
  exact VW l hl hw s o hs ho
 ·simp only[cJ,gV,hr,hr2,jZ,aB,rJ,gR,Nat.min_self]
  rw[hq,hi]
  exact VW l hl hw s o hs ho
end
section
set_option linter.unusedVariables false
set_option linter.unusedSimpArgs false
set_option linter.unusedSectionVars false
set_option linter.constructorNameAsVariable false
def lW(n:Int):Bool:=decide (0<=n/\n<=4294967295)
theorem MI(w:Nat)(n:Int):xS w n=some (lW n):=by
 unfold xS lW
 by_cases h1:n<0
 ·have:¬(0<=n/\n<=4294967295):=by omega
  simp_all
 ·by_cases h2:4294967295<n
  ·simp_all
  ·have:(0<=n/\n<=4294967295):=by omega
   simp[h2,this]
theorem U0(w:Nat)(a b:Int):FA w a b=some (if lW a=true/\lW b=true/\lW (a+b)=true then(a+b,true) else(0,false)):=by
 unfold FA
 rw[MI,MI]
 by_cases ha:lW a=true
 case neg=>simp[ha]
 by_cases hb:lW b=true
 case neg=>simp_all
 have a1:0<=a/\a<=4294967295:=by simpa[lW] using ha
 have b1:0<=b/\b<=4294967295:=by simpa[lW] using hb
 simp_all
 rw[aM (by omega) (by omega),MI]
 cases hc:lW (a+b)<;>simp
theorem E7(w:Nat)(b:Bool):rP w b=some (if b=true then 0 else-1):=by cases b<;>rfl
def wC(n:Nat):Nat:=(n+65518)/65519
theorem Vq(w n:Nat)(h:n<2^60):BH w (n:Int)=some (wC n:Int):=by
 unfold BH wC
 simp only[aT,qn,jg,bT]
 by_cases h1:(n:Int)<1
 ·rw[show n=0 by omega];rfl
 rw[ai h1,aM (n:=(n:Int) -1) (by omega) (by omega),show(n:Int) -1=((n -1:Nat):Int) by omega]
 have e:(((n -1:Nat):Int)).tdiv 65519=(((n -1)/65519:Nat):Int):=rfl
 rw[e]
 have:(n+65518)/65519=(n -1)/65519+1:=by omega
 rw[this,aM (n:=(((n -1)/65519:Nat):Int)) (by omega) (by omega),aM (by omega) (by omega)]
 rfl
end
section
set_option linter.unusedVariables false
set_option linter.unusedSimpArgs false
set_option linter.unusedSectionVars false
set_option linter.constructorNameAsVariable false
theorem S9{ty aw:Int}{l:List UInt8}{o:Int}(h:ej ty aw l=true)(ho:o=1\/o=2):
 (fZ (kindOf ty).2.1 o=true\/((kindOf ty).2.1 =8/\fZ 1 o=true))/\l.length/(kindOf ty).2.1.toNat*(kindOf ty).2.1.toNat=l.length:=by
 refine⟨?_,?_⟩
 ·rcases(QK ty ((uR h).1)) with h|h|h|h<;>rcases ho with rfl|rfl<;>rw[h]<;>simp[fZ,BS]
 ·obtain⟨s,q,e1,e2,e3⟩:=Rh h
  grind
theorem afW{w:Nat}{ty aw:Int}{l:List UInt8}(hm:ej ty aw l=true)(hl:l.length<2^29)(hw:l.length+10<=w){o:Int}(ho:o=1\/o=2):
 Ga w ty aw (ag l) o=some (l.length,l.length,(iM l (kindOf ty).2.1.toNat o).map aV):=by
 obtain⟨h1,h2⟩:=S9 hm ho
 unfold Ga
 rw[xQ w ty aw l (by omega),hm,xN]
 simp
 rw[Vi l hl hw _ _ h1,h2]
 rfl
theorem afV{w:Nat}{ty aw:Int}{l:List UInt8}(hm:ej ty aw l=true)(hl:l.length<2^29)(hw:l.length+10<=w){o:Int}(ho:o=1\/o=2):
 Gb w ty aw (ag l) o=some (ag (iM l (kindOf ty).2.1.toNat o)):=by
 obtain⟨h1,h2⟩:=S9 hm ho
 unfold Gb
 rw[xQ w ty aw l (by omega),hm,xN]
 simp
 rw[Vi l hl hw _ _ h1,h2,nP,vK]
 rfl
theorem uk(l:List UInt8)(n:Nat)(h:n=l.length):ae n (l.map aV)=ag l:=by rw[nP,h]
theorem Ve{w:Nat}(hw:100<=w)(t:aI)(hm:ej t.ty t.aw t.data=true)(hl:t.data.length<2^29)(hw2:t.data.length+10<=w){o:Int}(ho:o=1\/o=2)(ht:mK t.tag=true):
 F9 w t.tag t.ty t.aw (ag t.data) o=some (if bF t.ty t.aw=0 then(t.tag,t.ty,t.aw,(oQ o t:Int),true) else(0,0,0,0,false)):=by
 unfold F9
 rw[afW hm hl hw2 ho,rN (by omega)]
 have m2:fZ 2 o=true:=by rcases ho with rfl|rfl<;>rfl
 have htr:0<=t.tag/\t.tag<65536:=by unfold mK at ht;simpa using ht
 have hp:o7 t.tag (2:Int).toNat o=some (aW t.tag.toNat 2 o):=by
  unfold o7
  rw[au ⟨htr.1,by show t.tag<((256^2:Nat):Int);omega⟩]
  rfl
 rw[au m2,hp]
 have hout:=xf hm
 obtain⟨k1,k2,k3,k4⟩:=uR hm
 have hk:=zI t.ty
 have hpos:t.data.length≠0:=by
  intro q
  have:1*1<=t.aw*(kindOf t.ty).1 :=Int.mul_le_mul k2 (by omega) (by decide) (by omega)
  omega
 simp only[az,bO,aC,cu,aT,cm]
 have e1:¬((t.data.length:Int)=0):=by omega
 simp only[e1,bM,aC]
 by_cases h4:t.data.length<=4
 ·have e2:¬((4:Int)<(t.data.length:Int)):=by omega
  simp only[e2,bM,aC]
  rw[au h4] at hout
  rw[au hout,jg,aM (by omega) (by omega),lK (by omega)]
  have e3:((4:Int) -(t.data.length:Int)).toNat=4 -t.data.length:=by omega
  have hv:(iM t.data (kindOf t.ty).2.1.toNat o).length=t.data.length:=vK _ _ _
  have hget:∀b:List UInt8,b=iM t.data (kindOf t.ty).2.1.toNat o++List.replicate (4 -t.data.length) 0->jB w (ag b) 0 4 o=some ((oQ o t:Int),true):=by
   intro b hb
   have hbl:b.length=4:=by rw[hb,aR,hv,tT];omega
   rw[A9 (by omega) b (by omega) 0 4 o (by omega)]
   have:=wM (l:=b) (p:=0) (s:=4) (order:=o) (.inr (.inr rfl)) ho (by omega)
   rw[show((0:Nat):Int)=0 from rfl,show((4:Nat):Int)=4 from rfl] at this
   rw[this]
   unfold oQ kQ
   rw[hb]
  rw[e3]
  have r1:(4 -t.data.length).ble 1000000000=true:=by rw[iO];omega
  simp only[r1,rJ,cH,tT,gA,gI,hv,aB,yT,gC,eS,aK,bd,jF,show Nat.beq 5 5=true from rfl]
  by_cases h5:t.data.length=4
  ·have e4:t.data.length+(4 -t.data.length)<=t.data.length:=by omega
   simp only[e4,bd,aB]
   have:4 -t.data.length=0:=by omega
   rw[this]
   simp only[List.replicate_zero,List.map_nil,aU]
   rw[uk _ _ (by rw[hv];omega),hget _ (by rw[this];simp)]
   rfl
  ·have e4:¬(4<=t.data.length):=by omega
   have e5:t.data.length+(4 -t.data.length)=4:=by omega
   have hn:=nextslicecap_le (need:=4) (old:=t.data.length) (by omega)
   have r3:aG (4 -t.data.length)=true:=by simp;omega
   have r4:aG t.data.length=true:=by simp;omega
   have r5:Builtin.nextslicecap 4 t.data.length<=5000000000:=by omega
   simp only[e4,bM,aC,e5,r3,r4,r5,bd,jF,aB]
   have h6:List.take t.data.length ((iM t.data (kindOf t.ty).2.1.toNat o).map aV)++(List.replicate (4 -t.data.length) (0:UInt8)).map aV=(iM t.data (kindOf t.ty).2.1.toNat o++List.replicate (4 -t.data.length) 0).map aV:=by
    rw[eE (by rw[cH,hv];exact aK _),gq]
   rw[h6]
   rw[uk _ _ (by rw[kE,cH]),hget _ rfl]
   rfl
 ·have e2:((4:Int)<(t.data.length:Int)):=by omega
  simp only[e2,bd,aB]
  rw[ai h4] at hout
  rw[ai (by omega)]
end
section
set_option linter.unusedVariables false
set_option linter.unusedSimpArgs false
set_option linter.unusedSectionVars false
set_option linter.constructorNameAsVariable false
theorem np{α γ σ:Type}{z:α}{F:α->α}{r:γ}{w:Nat}(ev:Nat->σ->α->γ)(Inv:Nat->σ->Prop)(m:Nat)(s0:σ)(h0:Inv 0 s0)(hs:∀i g s,i<m->Inv i s->∃s',Inv (i+1) s'/\ev i s (F g)=ev (i+1) s' g)(he:∀g s,Inv m s->ev m s (F g)=r)(h:m<w):ev 0 s0 (lp z F w)=r:=by
 have:∀(d i v:Nat)(s:σ),i+d=m->d<v->Inv i s->ev i s (lp z F v)=r:=by
  intro d
  induction d with
  |zero=>
   intro i v s hi hv hI
   rw[dQ z F (by omega)]
   simp_all
  |succ d ih=>
   intro i v s hi hv hI
   obtain⟨s',h1,h2⟩:=hs i (lp z F (v -1)) s (by omega) hI
   rw[dQ z F (by omega)]
   grind
 grind
def cU(l:List aS):Value:=aA cZ l
theorem za(d:aS)(r:List Value):cZ d++r=dT d::dS d::dB d::r:=by rw[pJ];rfl
def kJ:List aS->Nat
 |[]=>0
 |d::ds=>max (fX d) (kJ ds)
theorem CM:∀{ds:List aS}{d:aS},d∈ds->fX d<=kJ ds
 |[],d,h=>by grind
 |a::ds,d,h=>by
  rcases cQ.1 h with rfl|h
  ·exact Nat.le_max_left _ _
  ·exact fy (CM h) (Nat.le_max_right _ _)
def nJ(m:Nat)(ds:List aS):Prop:=∀d∈ds,iw m d
theorem VA(l:List bk)(c:List Value)(h:c=l.flatMap bR):ae (c.length/5) c=aA bR l:=by
 subst h
 unfold aA
 rw[vD,jG _ (by simp)]
theorem U3{w m:Nat}(hm:m<2^28)(hw:2*m+100<=w)(o:Int)(ds:List aS)(wQ:vr w o (cU ds)=some true)(jQ:kJ ds<=w)(hl:ds.length<=m)(he:ef 8 ds<2^49)(hc:(eY ⟨o,ds⟩).length*5<=1000000000)(hn:iK ds<2^50)(hd:nJ m ds):
 xM w o (cU ds)=some (if ef 8 ds<=4294967295 then(aA bR (eY ⟨o,ds⟩),true) else(ae 0 [],false)):=by
 unfold xM
 rw[wQ]
 simp
 unfold cU
 refine np (σ:=Nat×Nat×List bk) (ev:=λi s (g:Value->Int->Int->Int->Int->List Value->Option (Value×Bool))=>g (aA cZ ds) ds.length i (s.1 :Nat) (s.2.1 :Nat) (s.2.2.flatMap bR))
  (Inv:=λi s=>ef s.1 (ds.drop i)=ef 8 ds/\s.2.1 +iK (ds.drop i)=iK ds/\s.2.2 ++jk s.2.1 s.1 (ds.drop i)=eY ⟨o,ds⟩) ds.length (8,0,[⟨1,-1,0,0,8⟩]) ?_ ?_ ?_ (by omega)
 ·exact⟨rfl,by simp,rfl⟩
 ·rintro i g ⟨e,no,sp⟩ hi ⟨h1,h2,h3⟩
  simp only at h1 h2 h3
  rw[dk hi] at h1 h2 h3
  rw[ef] at h1
  rw[iK] at h2
  rw[jk] at h3
  refine⟨(bq e ds[i],no+dE ds[i],sp++fS no e ds[i]),⟨h1,by simp only;omega,by simp only;rw[<-h3,dD]⟩,?_⟩
  have e1:((i:Int)<(ds.length:Int)):=by omega
  simp only[aT,e1,aB,bP]
  rw[bu kX hi]
  simp only[za,bh]
  have hmem:=cM hi
  have g1:=pK (ds.drop (i+1)) (bq e ds[i])
  have g2:(sp++fS no e ds[i]).length<=(eY ⟨o,ds⟩).length:=by
   rw[<-h3];simp only[aR];omega
  rw[aR] at g2
  have h4:=CM hmem
  rw[afz hm hw ds[i] no e _ (by omega) (by omega) (by omega) (by rw[vD];omega) (hd _ hmem)]
  simp only[az]
  rw[aM (by omega) (by omega),fw]
  rfl
 ·rintro g ⟨e,no,sp⟩ ⟨h1,h2,h3⟩
  simp[qQ,ef,jk,dX] at h1 h3
  have e1:¬((ds.length:Int)<(ds.length:Int)):=by omega
  rw[VA _ _ rfl,h3]
  by_cases q:ef 8 ds<=4294967295
  ·have:¬((4294967295:Int)<((ef 8 ds:Nat):Int)):=by omega
   simp_all
  ·have:((4294967295:Int)<((ef 8 ds:Nat):Int)):=by omega
   simp_all
def pN(l:List bk)(e:Nat):Nat:=match l.getLast? with
 |some x=>x.at_+x.cw
 |none=>e
theorem zJ(a b:List bk)(e:Nat):pN (a++b) e=pN b (pN a e):=by
 unfold pN
 grind
theorem Jm(x:bk)(b:List bk)(e:Nat):pN (x::b) e=pN b (x.at_+x.cw):=zJ [x] b e
theorem Jl(no:Nat):∀(l:List aI)(e:Nat),pN (cS no e l) e=ca e l
 |[],_=>rfl
 |t::l,e=>by
  unfold cS ca
  split
  ·exact Jl no l e
  ·rw[Jm]
   exact Jl no l _
mutual
theorem QN:∀(d:aS)(no e:Nat),pN (fS no e d) e=bq e d
 | .mk tags subs blob,no,e=>by
  unfold fS bq
  rw[Jm,zJ,zJ,Jl,QO]
  split<;>rfl
theorem QO:∀(r:cA)(no e:Nat),pN (ky no e r) e=dZ e r
 | .nil,no,e=>rfl
 | .cons _ d r,no,e=>by
  unfold ky dZ
  rw[zJ,QN,QO]
end
theorem QM:∀(ds:List aS)(no e:Nat),pN (jk no e ds) e=ef e ds
 |[],no,e=>rfl
 |d::ds,no,e=>by
  unfold jk ef
  rw[zJ,QN,QM]
theorem Zm(o:Int)(ds:List aS):∃x l,eY ⟨o,ds⟩=l++[x]/\x.at_+x.cw=ef 8 ds:=by
 have e:pN (eY ⟨o,ds⟩) 0=ef 8 ds:=by
  unfold eY
  rw[Jm]
  exact(QM ds 0 8)
 have cF:eY ⟨o,ds⟩≠[]:=by unfold eY;simp
 exact⟨(eY ⟨o,ds⟩).getLast cF,(eY ⟨o,ds⟩).dropLast,(List.dropLast_concat_getLast cF).symm,(e)⟩
theorem ae2{w m:Nat}(hm:m<2^28)(hw:2*m+100<=w)(o:Int)(ds:List aS)(wQ:vr w o (cU ds)=some true)(jQ:kJ ds<=w)(hl:ds.length<=m)(he:ef 8 ds<=4294967295)(hc:(eY ⟨o,ds⟩).length*5<=1000000000)(hn:iK ds<2^50)(hd:nJ m ds):
 rQ w o (cU ds)=some (ef 8 ds:Int):=by
 unfold rQ
 rw[U3 hm hw o ds wQ jQ hl (by omega) hc hn hd,au he]
 obtain⟨x,l,h1,h2⟩:=Zm o ds
 have hlen:(eY ⟨o,ds⟩).length=l.length+1:=by rw[h1];simp
 simp
 rw[aM (by omega) (by omega),lK (by omega),show(((eY ⟨o,ds⟩).length:Int) -1).toNat=l.length by omega,bu tK (show l.length<(eY ⟨o,ds⟩).length by omega)]
 have tg:∀(x:bk)(r:List Value),bR x++r=.int .i64 x.nB::.int .i64 x.dir::.int .i64 x.tag::.int .i64 x.at_::.int .i64 x.cw::r:=λ_ _=>rfl
 simp_all
 rw[aM (by omega) (by omega),<-h2]
 rfl
theorem afr{w:Nat}(hw:20<=w):qG w (cf da)=some true:=by
 obtain⟨v,rfl⟩:=vU hw
 rfl
theorem MF{w:Nat}(hw:20<=w):qG w (cf fq)=some true:=by
 obtain⟨v,rfl⟩:=vU hw
 rfl
theorem afq{w:Nat}(hw:20<=w):qG w (cf nL)=some true:=by
 obtain⟨v,rfl⟩:=vU hw
 rfl
end
section
set_option linter.unusedVariables false
set_option linter.unusedSimpArgs false
set_option linter.unusedSectionVars false
set_option linter.constructorNameAsVariable false
noncomputable def CE(w:Nat)(sv:Value)(a o:Int)(dv:Value)(cs:List Value):Option Int:=
 vg w dv cs sv o
def dw(n:Int):List Value:=[.int .i64 n]
theorem oR(n:Int):(dw n).length=1:=rfl
def nV(l:List Int):List Value:=l.map (Value.int .i64)
theorem YU{l:List Int}{i:Nat}(h:i<l.length):(nV l).drop i=Value.int .i64 l[i]::nV (l.drop (i+1)):=by
 unfold nV
 rw[<-List.map_drop,dk h,iF]
theorem WX{w m:Nat}(hm:m<2^28)(hw:2*m+100<=w)(sh:List aX)(hsh:iQ sh)(hl:∀s,s<sh.length->(aN sh s).bJ.length<=m)(a o:Int)(ds:List aS)(l:List Int)(hlen:l.length=ds.length)(je:ds.length<=m)(hd:nJ m ds)(jQ:kJ ds<=w)
 (hh:∀j (h:j<ds.length),0<=l[j]/\l[j]<sh.length/\cD sh l[j].toNat ds[j]=true) {n:Nat} (hn:0<n) (h138:rQ w o (cU ds)=some (n:Int)):CE w (cf sh) a o (cU ds) (nV l)=some 0:=by
 unfold CE vg cU
 have hcl:(nV l).length=ds.length:=by unfold nV;rw[cH,hlen]
 simp only[cd,kE,hcl,aT,cm]
 have e0:¬((ds.length:Int)<(ds.length:Int)):=by omega
 simp only[e0,bM,aC]
 refine ia (ev:=λi (g:Value->Value->Int->Int->Int->Value->List Value->Option Int)=>g (cf sh) (aA cZ ds) ds.length i o (aA cZ ds) (nV l)) ds.length ?_ ?_ (by omega)
 ·intro i g hi
  have e1:((i:Int)<(ds.length:Int)):=by omega
  simp only[e1,bd,aB,bP]
  rw[bu kX hi]
  simp only[za,bh,hcl,gA,gI,mn,hi,bd,show Nat.beq 1 1=true from rfl,jF,aB]
  rw[YU (by omega)]
  obtain⟨h1,h2,h3⟩:=hh i hi
  have hs:(l[i].toNat:Int)=l[i]:=mf h1
  have hmem:=cM hi
  have h4:=CM hmem
  simp only[bh,bQ]
  have:=afA (w:=w) (m:=m) (by omega) hw sh hsh hl ds[i] l[i].toNat (by omega) (hd _ hmem) (by omega)
  rw[hs,h3] at this
  rw[this]
  simp only[az,bO,aC,bT]
  rw[aM (by omega) (by omega)]
  rfl
 ·intro g
  simp only[e0,bM,aC]
  unfold cU at h138
  rw[h138]
  have:¬((n:Int)=0):=by omega
  simp_all
theorem afn{w m:Nat}(hm:m<2^28)(hw:2*m+100<=w)(sh:List aX)(hsh:iQ sh)(sO:qG w (cf sh)=some true)(hs0:0<sh.length)(hl:∀s,s<sh.length->(aN sh s).bJ.length<=m){o:Int}(ho:o=1\/o=2)(ds:List aS)(cF:ds≠[])(je:ds.length<=m)(hd:nJ m ds)(jQ:kJ ds<=w)
 (hh:gw sh 0 ds=true) {n:Nat} (hn:0<n) (h138:rQ w o (cU ds)=some (n:Int)):tC w o (cU ds) (cf sh)=some 0:=by
 have hpos:0<ds.length:=List.length_pos_iff.2 cF
 unfold tC Lw vg
 rw[sO]
 simp only[az,bO,aC,cu]
 have e0:¬((Int.ofNat ds.length:Int)=0):=by simp only[cm];omega
 rcases ho with rfl|rfl
 case' inl=>simp only[bd,bO,aC]
 case' inr=>simp only[show decide ((2:Int)=1)=false from rfl,show decide ((2:Int)=2)=true from rfl,gp,bO,aB,aC]
 all_goals
  unfold cU
  rw[cd]
  simp only[e0,bM,aC]
  refine np (σ:=Int×List Int) (ev:=λi s (g:Value->Int->Int->Value->List Value->Option Int)=>g (cf sh) s.1 _ (aA cZ ds) (nV s.2))
   (Inv:=λi s=>s.2.length=i/\s.1 <sh.length/\gw sh s.1 (ds.drop i)=true/\∀j (h:j<i) (h2:j<s.2.length) (h3:j<ds.length),0<=s.2[j]/\s.2[j]<sh.length/\cD sh s.2[j].toNat ds[j]=true) ds.length (0,[]) ?_ ?_ ?_ (by omega)
  ·exact⟨rfl,by omega,hh,λj h=>by omega⟩
  ·rintro i g ⟨a,l⟩ hi ⟨h1,h2,h3,h4⟩
   simp only at h1 h2 h3 h4
   rw[dk hi] at h3
   simp only[gw,bt,bZ] at h3
   obtain⟨h5,h6,h7⟩:=h3
   have hs:(a.toNat:Int)=a:=mf h5
   have hat:a.toNat<sh.length:=by omega
   have hnx:=hsh.next a.toNat hat
   refine⟨((aN sh a.toNat).next,l++[a]),⟨by simp[h1],by simp only;omega,h7,?_⟩,?_⟩
   ·intro j hj hj2 hj3
    simp only at hj2⊢
    by_cases q:j<i
    ·rw[List.getElem_append_left (by omega)]
     exact h4 j q (by omega) hj3
    ·have:j=i:=by omega
     subst this
     have e:(l++[a])[j]'hj2=a:=by rw[List.getElem_append_right (by omega)];simp
     rw[e]
     exact⟨h5,by omega,h6⟩
   ·have hcl:(nV l).length=i:=by unfold nV;rw[cH,h1]
    have e1:¬(a<0):=by omega
    have e2:((i:Int)<(ds.length:Int)):=by omega
    have r1:aG i=true:=by simp;omega
    simp only[aT,e1,bM,gp,aB,cd,kE,hcl,cm,e2,bd,r1,bY,List.length_nil,gI,gA,show aG 1=true from rfl,mQ,jF,lK h5]
    have hS:sh[a.toNat]=aN sh a.toNat:=by unfold aN;rw[cW hat];rfl
    have tg:∀(S:aX)(r:List Value),(jj S++r).drop 3=.int .i64 S.next::r:=λ_ _=>rfl
    unfold cf
    rw[bu yc hat,hS]
    simp only[tg,bh,bQ]
    unfold nV
    rw[gq]
    rfl
  ·rintro g ⟨a,l⟩ ⟨h1,h2,h3,h4⟩
   simp only at h1 h2 h3 h4
   have hcl:(nV l).length=ds.length:=by unfold nV;rw[cH,h1]
   have hr:=λo=>WX hm hw sh hsh hl a o ds l h1 je hd jQ (λj h=>h4 j h (by omega) h) hn
   by_cases q:a<0
   ·simp only[aT,q,bd,bO,aC]
    have:=hr _ h138
    unfold CE vg cU at this
    simpa only[aT,cu] using this
   ·have e2:¬((ds.length:Int)<(ds.length:Int)):=by omega
    simp only[aT,q,bM,gp,aB]
    have:=hr _ h138
    unfold CE vg cU at this
    simp only[cd,kE,hcl,cm,aT,cu,e2,bM,aC] at this⊢
    exact this
end
section
set_option linter.unusedVariables false
set_option linter.unusedSimpArgs false
set_option linter.unusedSectionVars false
set_option linter.constructorNameAsVariable false
theorem KC(pre v old post:List UInt8)(h:old.length=v.length)(p:Nat)(hp:p=pre.length):aU p (v.map aV) ((pre++(old++post)).map aV)=(pre++(v++post)).map aV:=by
 have:=Ax (v.map aV) (old.map aV) (pre.map aV) (post.map aV) (by grind)
 grind
theorem MD{w:Nat}(hw:8<=w)(pre old post:List UInt8)(n s:Nat)(hs:s=2\/s=4)(hn:n<256^s){o:Int}(ho:o=1\/o=2)(X Y:Value)(no:Int)(hold:old.length=s)(L:Nat)(hL:L=(pre++(old++post)).length)(hlt:L<2^60)(p:Int)(hp:p=(pre.length:Int))(k:Int)(hk:k=(s:Int))(q:Int)(hq:q=(n:Int)):
 rR w p q k L L o X Y no ((pre++(old++post)).map aV)=some (L,L,o,X,Y,no,(pre++(aW n s o++post)).map aV):=by
 subst hp hk hq
 unfold rR
 rw[rN hw]
 have hpf:o7 (n:Int) (s:Int).toNat o=some (aW n s o):=by
  unfold o7
  rw[au ⟨by omega,by rw[mM];exact_mod_cast hn⟩]
  simp
 rw[au (by rcases hs with rfl|rfl<;>rcases ho with rfl|rfl<;>rfl),hpf]
 have hlen:L=pre.length+(s+post.length):=by simp_all
 have cF:¬(L=pre.length):=by omega
 have e1:pre.length<=L:=by omega
 have ev:(aW n s o).length=s:=er _ _ _
 simp only[az,bP,gC,e1,aK,aB,gV,gR,cH,ev,gA,yT,cF,bM,aC,gI]
 rw[show s.min (L -pre.length)=s from(show min s (L -pre.length)=s from by omega)]
 have e3:pre.length+s<=(pre++(old++post)).length:=by omega
 simp only[e3]
 rw[eE (by rw[cH,ev];exact aK _),KC _ _ _ _ (by rw[hold,ev]) _ rfl]
 rfl
def ma(nB dir tag:Int)(x:bk):Bool:=x.nB==nB&&(x.dir==dir&&x.tag==tag)
theorem afX{w:Nat}(l:List bk)(a b c:Int)(hl:l.length<2^40)(hw:l.length<w):M6 w (aA bR l) a b c=some (db (ma a b c) l):=by
 refine mB l (ma a b c) (ev:=λi (g:Value->List Value->List Value->List Value->Int->Int->Option Int)=>g (aA bR l) [.int .i64 a] [.int .i64 b] [.int .i64 c] l.length i) ?_ ?_ hw
 ·intro i g h
  simp_all
  rw[bu tK h]
  have tg:∀(x:bk)(r:List Value),bR x++r=.int .i64 x.nB::.int .i64 x.dir::.int .i64 x.tag::.int .i64 x.at_::.int .i64 x.cw::r:=λ_ _=>rfl
  unfold M7 ma
  simp_all
  rw[aM (by omega) (by omega)]
  by_cases q1:l[i].nB=a
  ·by_cases q2:l[i].dir=b
   ·by_cases q3:l[i].tag=c
    ·simp_all
    ·simp_all
   ·simp_all
  ·simp[q1]
 ·intro g
  simp
theorem MU{w:Nat}{A B:List bk}{x:bk}(hl:(A++x::B).length<2^40)(hw:(A++x::B).length<w)(a b c:Int)(hA:∀y∈A,ma a b c y=false)(hx:ma a b c x=true)(L c2:Nat)(o:Int)(Y:Value)(no:Int)(cs:List Value):
 tE w a b c L c2 o (aA bR (A++x::B)) Y no cs=some ((x.at_:Int),L,c2,o,aA bR (A++x::B),Y,no,cs):=by
 have hi:db (ma a b c) (A++x::B)=(A.length:Int):=by
  unfold db
  grind
 unfold tE
 rw[afX _ a b c hl hw,hi]
 simp
 rw[bu tK (show A.length<(A++x::B).length by simp)]
 have tg:∀(x:bk)(r:List Value),(bR x++r).drop 3=.int .i64 x.at_::.int .i64 x.cw::r:=λ_ _=>rfl
 simp_all
theorem H6(pre v old post:List UInt8)(hold:old.length=v.length){L:Nat}(hL:L=(pre++(old++post)).length){β:Type}(K:List Value->Option β):
 (bif Nat.ble L L&&pre.length.ble L then dN 1 (ag v) λn (c:List Value)=>bif c.length.beq (n*1)&&((bif Nat.beq L pre.length then 0 else 0+pre.length*1)+n.min (L -pre.length)*1).ble ((pre++(old++post)).map aV,5).fst.length then
  K (aU (bif Nat.beq L pre.length then 0 else 0+pre.length*1) (List.take (n.min (L -pre.length)*1) c) ((pre++(old++post)).map aV,5).fst) else none else none)=K ((pre++(v++post)).map aV):=by
 have hlen:L=pre.length+(v.length+post.length):=by simp_all
 have e1:pre.length<=L:=by omega
 simp only[gC,e1,aK,bd,gV,gR,cH,gA,mQ,eD,gI]
 rw[(show v.length.min (L -pre.length)=v.length from by show min _ _=_;omega)]
 by_cases h0:L=pre.length
 ·have hv:v=[]:=kR (by omega)
  subst hv
  have ho:=kR hold
  subst ho
  simp[h0,aU]
 ·have e3:pre.length+v.length<=(pre++(old++post)).length:=by rw[<-hL];omega
  simp only[yT,h0,bM,aC,e3,bd,aB]
  rw[eE (by rw[cH];exact aK _),KC _ _ _ _ hold _ rfl]
theorem afE{w:Nat}(hw:100<=w)(t:aI)(hm:ej t.ty t.aw t.data=true)(hl:t.data.length<2^29)(hw2:t.data.length+10<=w){o:Int}(ho:o=1\/o=2)(ht:mK t.tag=true)(h0:bF t.ty t.aw=0)(dir:Int)(L c2:Nat)(X Y:Value)(no:Int)(cs:List Value):
 xT w t.tag t.ty t.aw (ag t.data) dir L c2 o X Y no cs=some (t.tag,t.ty,t.aw,(oQ o t:Int),L,c2,o,X,Y,no,cs):=by
 unfold xT
 rw[Ve hw t hm hl hw2 ho ht,au h0]
 rfl
theorem afF{w:Nat}(hw:100<=w)(t:aI)(hm:ej t.ty t.aw t.data=true)(hl:t.data.length<2^29)(hw2:t.data.length+10<=w){o:Int}(ho:o=1\/o=2)(ht:mK t.tag=true)(h0:bF t.ty t.aw≠0)(dir:Int){A B:List bk}{x:bk}(hsl:(A++x::B).length<2^40)(hsw:(A++x::B).length<w)
 (hA:∀y∈A,ma 3 dir t.tag y=false) (hx:ma 3 dir t.tag x=true) (pre old post:List UInt8) (hold:old.length=t.data.length) (hat:x.at_=pre.length) {L:Nat} (hL:L=(pre++(old++post)).length) (Y:Value) (no:Int):
 xT w t.tag t.ty t.aw (ag t.data) dir L L o (aA bR (A++x::B)) Y no ((pre++(old++post)).map aV)=some (t.tag,t.ty,t.aw,(pre.length:Int),L,L,o,aA bR (A++x::B),Y,no,(pre++(kQ o t++post)).map aV):=by
 unfold xT
 rw[Ve hw t hm hl hw2 ho ht,ai h0,MU hsl hsw 3 dir t.tag hA hx]
 simp only[az,hat]
 rw[afV hm hl hw2 ho]
 simp only[mQ]
 exact H6 pre (kQ o t) old post (by rw[yp];exact hold) hL λcs=>some (t.tag,t.ty,t.aw,(pre.length:Int),L,L,o,aA bR (A++x::B),Y,no,cs)
theorem MM(w:Nat)(e:bj)(c:List Value)(hc:c.length<=1000000000):Bo w [.int .i64 e.tag,.int .i64 e.ty,.int .i64 e.aw,.int .i64 e.slot] c=some (c++[.int .i64 e.tag,.int .i64 e.ty,.int .i64 e.aw,.int .i64 e.slot]):=by
 unfold Bo
 have:aG c.length=true:=by simp;omega
 simp only[this,show aG 1=true from rfl,bY,List.length_nil,eS,oC,pA]
 rfl
end
section
set_option linter.unusedVariables false
set_option linter.unusedSimpArgs false
set_option linter.unusedSectionVars false
set_option linter.constructorNameAsVariable false
open Go.Sort
def e4(x:bj):E4:=(x.tag,x.ty,x.aw,(x.slot:Int))
def qN(x:E4):bj:=⟨x.1,x.2.1,x.2.2.1,x.2.2.2.toNat⟩
theorem V2(x:bj):qN (e4 x)=x:=by
 obtain⟨a,b,c,d⟩:=x
 show bj.mk a b c ((d:Int)).toNat=_
 simp
def bK(x:bj):List Value:=[.int .i64 x.tag,.int .i64 x.ty,.int .i64 x.aw,.int .i64 x.slot]
theorem kK(x:bj):(bK x).length=4:=rfl
theorem Pe(l:List bj):l.flatMap bK=(l.map e4).flatMap fD:=by
 induction l with
 |nil=>rfl
 |cons x l ih=>rw[dV,ih];rfl
theorem V5:∀l:List E4,vL (l.flatMap fD)=some l
 |[]=>rfl
 |(a,b,c,d)::l=>by
  show vL (.int .i64 a::.int .i64 b::.int .i64 c::.int .i64 d::l.flatMap fD)=_
  unfold vL
  rw[V5 l]
  rfl
theorem TU:∀{a b:List bj},eL a=true->eL b=true->(∀x,x∈a↔x∈b)->a=b
 |[],[],_,_,_=>rfl
 |[],y::b,_,_,h=>by have:=(h y).2 (by simp);cases this
 |x::a,[],_,_,h=>by have:=(h x).1 (by simp);cases this
 |x::a,y::b,ha,hb,h=>by
  have ha':eL a=true/\∀z∈a,x.tag<z.tag:=by
   have:=KM ha
   omega
  have hb':=KM hb
  have hxy:x=y:=by grind
  congr 1
  refine TU ha'.1 hb'.1 λz=>?_
  grind
where
 KM:∀{x:bj}{a:List bj},eL (x::a)=true->eL a=true/\∀z∈a,x.tag<z.tag
  |x,[],_=>⟨rfl,λz h=>by cases h⟩
  |x,b::a,h=>by
   simp[eL] at h
   obtain⟨_,h2⟩:=KM h.2
   grind
theorem TW:∀{l:List bj},l.Pairwise (λa b=>a.tag<b.tag)->eL l=true
 |[],_=>rfl
 |[x],_=>rfl
 |x::y::l,h=>by
  rw[List.pairwise_cons] at h
  simp[eL]
  exact⟨h.1 y (by simp),TW h.2⟩
theorem Hv:∀{l:List bj},nG l->(l.map bj.tag).Nodup
 |[],_=>by simp
 |x::l,h=>by
  rw[iF,List.nodup_cons]
  refine⟨λq=>?_,Hv h.2⟩
  obtain⟨y,hy,e⟩:=mg.1 q
  exact h.1 y hy e
theorem agy{l:List bj}(h:nG l):jX (l.map e4)=(fY l).map e4:=by
 obtain⟨h1,h2,h3⟩:=Vu (l.map e4)
 generalize jX (l.map e4)=p at h1 h2 h3
 have hk:(p.map qN).Perm l:=by
  have:=h2.map qN
  rw[List.map_map] at this
  rw[(show(qN∘e4)=id from by funext x;exact V2 x),List.map_id] at this
  exact this
 have hp:(p.map qN).map e4=p:=by
  rw[List.map_map]
  conv=>rhs;rw[<-List.map_id p]
  apply List.map_congr_left
  intro x hx
  obtain⟨y,-,hy⟩:=mg.1 (h2.mem_iff.1 hx)
  simp
  rw[<-hy,V2]
 have hr:eL (p.map qN)=true:=by
  apply TW
  rw[List.pairwise_iff_getElem]
  intro i j hi hj hij
  have cF:(p.map qN)[i].tag≠(p.map qN)[j].tag:=by
   intro q
   have:=(List.nodup_iff_pairwise_ne.1 ((hk.map bj.tag).nodup_iff.2 (Hv h)))
   rw[List.pairwise_iff_getElem] at this
   have:=this i j (by simpa using hi) (by simpa using hj) hij
   apply this
   simp at q⊢
   exact q
  simp at hi hj
  have hs:=h3 i j (iu _) hij (by rw[<-h1];exact hj)
  rw[Dq] at hs
  simp_all
  have a1:(qN p[i]).tag=p[i].1 :=rfl
  have a2:(qN p[j]).tag=p[j].1 :=rfl
  omega
 rw[<-(TU hr (Jg h) λx=>by rw[hk.mem_iff,wT]),hp]
theorem afL(w:Nat){l:List bj}(h:nG l)(cF:l≠[])(hl:l.length<=1000000000):tF w (l.flatMap bK)=some ((fY l).flatMap bK):=by
 unfold tF
 rw[Pe,V5]
 simp only[az,(show(l.map e4).isEmpty=false from by simp_all),(show aG (l.map e4).length=true from by simp;omega),bO,Bool.or_self,aC]
 rw[agy h,<-Pe]
noncomputable def CJ(w:Nat)(mine:Int)(L c:Nat)(o:Int)(X Y:Value)(no:Int)(bs es:List Value):Option (Int×Nat×Nat×Int×Value×Value×Int×List Value):=
 ob (tF w es) λa=>ob (tE w 2 mine 0 L c o X Y no bs) λb=>AR w b a
def bg(n:Nat):List UInt8:=List.replicate n 0
theorem iZ(n:Nat):(bg n).length=n:=tT
theorem py(a b:Nat):bg (a+b)=bg a++bg b:=by
 unfold bg
 simp
theorem XN{l:List bj}{i:Nat}(h:i<l.length)(o:Int):(l.take (i+1)).flatMap (iT o)=(l.take i).flatMap (iT o)++iT o l[i]:=by
 rw[iN h,fw]
 simp
theorem Xp{w:Nat}(hw:100<=w){E:List bj}(hE:nG E)(cF:E≠[])(hEo:∀x∈E,Go.Proofs.YtcfjfbeadhnknaaGreatDoor.mh x)(hEn:E.length<=65535)(hEw:E.length<w){A B:List bk}{x:bk}(hsl:(A++x::B).length<2^40)(hsw:(A++x::B).length<w)(mine:Int)
 (hA:∀y∈A,ma 2 mine 0 y=false) (hx:ma 2 mine 0 x=true) (pre post:List UInt8) (hat:x.at_=pre.length) {L:Nat} (hL:L=(pre++(bg (6+12*E.length)++post)).length) (hlt:L<2^40) {o:Int} (ho:o=1\/o=2) (Y:Value) (no:Int):
 CJ w mine L L o (aA bR (A++x::B)) Y no ((pre++(bg (6+12*E.length)++post)).map aV) (E.flatMap bK)=some ((pre.length:Int),L,L,o,aA bR (A++x::B),Y,no,(pre++(kj o (fY E) 0++post)).map aV):=by
 unfold CJ AR
 rw[afL w hE cF (by omega)]
 simp only[az]
 rw[MU hsl hsw 2 mine 0 hA hx]
 simp only[az,hat]
 have hn:(fY E).length=E.length:=wS E
 have hsE:∀y∈fY E,Go.Proofs.YtcfjfbeadhnknaaGreatDoor.mh y:=λy hy=>hEo y (wT.1 hy)
 generalize fY E=F at hn hsE⊢
 have hfl:(F.flatMap bK).length/4=F.length:=by
  rw[dH kK];omega
 rw[hfl]
 rw[<-hn] at hL hEn hEw⊢
 have hz:bg (6+12*F.length)=bg 2++bg (12*F.length+4):=by rw[<-py];congr 1;omega
 rw[hz,dD]
 have hlenL:L=pre.length+(6+12*F.length+post.length):=by rw[hL];simp[iZ]
 rw[MD (by omega) pre (bg 2) (bg (12*F.length+4)++post) F.length 2 (.inl rfl) (by omega) ho _ Y no (iZ 2) L (by rw[hL,hz,dD]) (by omega) (pre.length:Int) rfl (2:Int) rfl (Int.ofNat F.length) rfl]
 simp only[az]
 have hlast:aW 0 4 o=bg 4:=by rcases ho with rfl|rfl<;>rfl
 refine np (σ:=List UInt8) (ev:=λi s (g:Int->Int->Int->Nat->Nat->Int->Value->Value->Int->List Value->List Value->Option (Int×Nat×Nat×Int×Value×Value×Int×List Value))=>g pre.length (F.length:Int) i L L o (aA bR (A++x::B)) Y no (F.flatMap bK) (s.map aV))
  (Inv:=λi s=>s=pre++(aW F.length 2 o++((F.take i).flatMap (iT o)++(bg (12*(F.length -i)+4)++post)))) F.length _ ?_ ?_ ?_ (by omega)
 ·simp
 ·rintro i g s hi rfl
  refine⟨pre++(aW F.length 2 o++((F.take (i+1)).flatMap (iT o)++(bg (12*(F.length -(i+1))+4)++post))),rfl,?_⟩
  have e1:((i:Int)<(F.length:Int)):=by omega
  have e2:i*4<(F.flatMap bK).length:=by omega
  simp only[aT,e1,bd,aB,bP,show Nat.beq 4 4=true from rfl,eD,mn,e2]
  rw[show 0+i*4=i*4 from gI _,oO kK,dk hi,dV]
  have tg:∀(x:bj)(r:List Value),bK x++r=.int .i64 x.tag::.int .i64 x.ty::.int .i64 x.aw::.int .i64 x.slot::r:=λ_ _=>rfl
  simp only[tg,bh,bQ]
  have hok:=hsE _ (cM hi)
  have b1:=hok.tag
  have b2:=hok.ty
  have b3:=hok.aw
  have b4:=hok.slot
  rw[afM (by omega) _ _ _ _ o ho,au ⟨⟨b1.1,b1.2⟩,⟨b2.1,b2.2⟩,⟨b3.1,b3.2⟩,by omega,by omega⟩]
  simp only[az,bT,nU]
  rw[aM (n:=12*(i:Int)) (by omega) (by omega),aM (n:=(pre.length:Int)+2) (by omega) (by omega),aM (n:=(pre.length:Int)+2+12*(i:Int)) (by omega) (by omega),aM (n:=(i:Int)+1) (by omega) (by omega),lK (by omega)]
  have ek:((pre.length:Int)+2+12*(i:Int)).toNat=(pre++(aW F.length 2 o++(F.take i).flatMap (iT o))).length:=by
   rw[aR,aR,er,wI,dI];omega
  rw[ek]
  have eb:aW F[i].tag.toNat 2 o++(aW F[i].ty.toNat 2 o++(aW F[i].aw.toNat 4 o++aW ((F[i].slot:Int)).toNat 4 o))=iT o F[i]:=by
   unfold iT;simp
  rw[eb]
  have ez:bg (12*(F.length -i)+4)=bg 12++bg (12*(F.length -(i+1))+4):=by rw[<-py];congr 1;omega
  have ebs:pre++(aW F.length 2 o++((F.take i).flatMap (iT o)++(bg (12*(F.length -i)+4)++post)))=(pre++(aW F.length 2 o++(F.take i).flatMap (iT o)))++(bg 12++(bg (12*(F.length -(i+1))+4)++post)):=by
   rw[ez];simp
  rw[ebs]
  have:=H6 (pre++(aW F.length 2 o++(F.take i).flatMap (iT o))) (iT o F[i]) (bg 12) (bg (12*(F.length -(i+1))+4)++post) (by rw[iZ,Im]) (L:=L) (by
   rw[hlenL];simp only[aR,iZ,er,wI,dI];omega)
   (λcs=>g (pre.length:Int) (F.length:Int) ((i:Int)+1) L L o (aA bR (A++x::B)) Y no (F.flatMap bK) cs)
  refine this.trans ?_
  rw[XN hi]
  simp only[dD]
  rfl
 ·rintro g s rfl
  have e1:¬((F.length:Int)<(F.length:Int)):=by omega
  simp only[aT,e1,bM,aC]
  rw[qT,Nat.sub_self,Nat.mul_zero,gI]
  unfold kj
  rw[hlast]
  simp only[dD]
end
section
set_option linter.unusedVariables false
set_option linter.unusedSimpArgs false
set_option linter.unusedSectionVars false
set_option linter.constructorNameAsVariable false
theorem Kf(e:Nat):dF e=bg (aE e -e):=by
 unfold dF aE
 by_cases h:e%2=0
 ·rw[au h,show e+e%2 -e=0 by omega];rfl
 ·rw[ai h,show e+e%2 -e=1 by omega];rfl
theorem BM{no:Nat}{y:bk}:∀{l:List aI}{e:Nat},y∈cS no e l->y.nB=3/\y.dir=(no:Int)/\∃t∈l,y.tag=t.tag
 |[],_,h=>by cases h
 |t::l,e,h=>by
  unfold cS at h
  split at h
  ·obtain⟨a,b,t',c,d⟩:=BM h
   grind
  ·rcases cQ.1 h with rfl|h
   ·simp
   ·obtain⟨a,b,t',c,d⟩:=BM h
    grind
theorem Xe(d:aS):1<=dE d:=by cases d;unfold dE;omega
mutual
theorem NA{y:bk}:∀{d:aS}{no e:Nat},y∈fS no e d->(no:Int)<=y.dir/\y.dir<(no:Int)+dE d
 | .mk tags subs blob,no,e,h=>by
  unfold dE
  rcases cQ.1 h with rfl|h
  ·exact⟨Int.le_refl _,by simp only;omega⟩
  ·rcases fK.1 h with h|h
   ·have:=(BM h).2.1;omega
   ·rcases fK.1 h with h|h
    ·have:=NB h;omega
    grind
theorem NB{y:bk}:∀{r:cA}{no e:Nat},y∈ky no e r->(no:Int)<=y.dir/\y.dir<(no:Int)+iA r
 | .nil,no,e,h=>by unfold ky at h;cases h
 | .cons t d r,no,e,h=>by
  unfold iA
  rcases fK.1 h with h|h
  ·have:=NA h;omega
  ·have:=NB h;omega
end
def mq(o:Int)(sh:List aX)(S:aX)(e:Nat):List (Int×aS)->List UInt8
 |[]=>[]
 |p::l=>iS o sh ((lk S p.1).getD 0) 0 e p.2 ++mq o sh S (bq e p.2) l
theorem OD(o:Int)(sh:List aX)(S:aX):∀(s:cA)(e:Nat),jq o sh S e s=mq o sh S e (aP s)
 | .nil,e=>by simp[jq,aP,mq]
 | .cons t d r,e=>by simp[jq,aP,mq,OD o sh S r]
def nR(e:Nat):List (Int×aS)->List bj
 |[]=>[]
 |p::l=>⟨p.1,4,1,aE e⟩::nR (bq e p.2) l
theorem Pj:∀(s:cA)(e:Nat),hM e s=nR e (aP s)
 | .nil,e=>by simp[hM,aP,nR]
 | .cons t d r,e=>by simp[hM,aP,nR,Pj r]
theorem I3{sh:List aX}{S:aX}:∀{s:cA},iV sh S s=true->∀p∈aP s,fj S p.1 =true/\cD sh ((lk S p.1).getD 0) p.2 =true
 | .nil,_,p,h=>by cases h
 | .cons t d r,h,p,hp=>by
  simp[iV] at h
  rcases cQ.1 hp with rfl|hp
  ·grind
  ·exact I3 h.2.2 p hp
theorem afH{w:Nat}(l:List iv)(n:Int)(a b c:Value)(hl:l.length<2^40)(hw:l.length<w):MP w (gE l) n a b c=some (db (λx=>x.tag==n) l):=by
 refine mB l (λx=>x.tag==n) (ev:=λi (g:Value->List Value->Int->Int->Option Int)=>g (aA lP l) [.int .i64 n,a,b,c] l.length i) ?_ ?_ hw
 ·intro i g h
  simp_all
  rw[bu sR h]
  unfold lP MS
  rw[aM (by omega) (by omega)]
  simp
 simp
theorem afD(w:Nat)(x y:bj)(c:List Value)(hc:c.length<=1000000000):Bp w [.int .i64 x.tag,.int .i64 x.ty,.int .i64 x.aw,.int .i64 x.slot,.int .i64 y.tag,.int .i64 y.ty,.int .i64 y.aw,.int .i64 y.slot] c=some (c++(bK x++bK y)):=by
 unfold Bp
 simp_all
 rfl
theorem u7{l:List aI}(h:fI l=true){i j:Nat}(hij:i<j)(hj:j<l.length):l[i].tag<l[j].tag:=by
 induction l generalizing i j with
 |nil=>grind
 |cons a l ih=>
  obtain⟨h1,h2⟩:=Ed h
  cases j with
  |zero=>omega
  |succ j=>
   cases i with
   |zero=>grind
   |succ i=>grind
structure yF(w m:Nat)(sh:List aX)(o:Int)(L:Nat)(Sp:List bk):Prop where
 hm:m<2^28
 hw:2*m+1000<=w
 ok:iQ sh
 bJ:∀s,s<sh.length->(aN sh s).bJ.length<=m
 ho:o=1\/o=2
 hL:L<4294967296
 zw:Sp.length<2^40
 uG:Sp.length<w
 zx:70000<=w
def yA(sh:List aX)(o:Int)(L:Nat)(Sp:List bk)(rec:Value->Value->Value->Int->Nat->Nat->Int->Value->Value->Int->List Value->Option (Int×Nat×Nat×Int×Value×Value×Int×List Value))(d:aS)(s:Nat):Prop:=
 ∀(no e:Nat)(A B:List bk)(pre post:List UInt8),(∀y∈A,y.dir<(no:Int))->pre.length=e->Sp=A++(fS no e d++B)->L=(pre++(bg (bq e d -e)++post)).length->no+dE d<2^40->
  rec (dT d) (dS d) (dB d) (s:Int) L L o (aA bR Sp) (cf sh) (no:Int) ((pre++(bg (bq e d -e)++post)).map aV)=
   some ((aE e:Int),L,L,o,aA bR Sp,cf sh,((no+dE d:Nat):Int),(pre++(iS o sh s 0 e d++post)).map aV)
theorem Pc(e:Nat)(t:aI)(ts:List aI):ca e (t::ts)=if bF t.ty t.aw=0 then ca e ts else ca (aE e+bF t.ty t.aw) ts:=rfl
theorem ahe(o:Int)(e:Nat)(t:aI)(ts:List aI):gz o e (t::ts)=if bF t.ty t.aw=0 then gz o e ts else dF e++(kQ o t++gz o (aE e+bF t.ty t.aw) ts):=rfl
theorem XM(o:Int)(e:Nat)(t:aI)(ts:List aI):dW o e (t::ts)=if bF t.ty t.aw=0 then⟨t.tag,t.ty,t.aw,oQ o t⟩::dW o e ts else⟨t.tag,t.ty,t.aw,aE e⟩::dW o (aE e+bF t.ty t.aw) ts:=rfl
theorem agH(no e:Nat)(t:aI)(ts:List aI):cS no e (t::ts)=if bF t.ty t.aw=0 then cS no e ts else⟨3,no,t.tag,aE e,bF t.ty t.aw⟩::cS no (aE e+bF t.ty t.aw) ts:=rfl
theorem Qp(x:bj):∀l:List bj,(jS x l).Perm (x::l)
 |[]=>List.Perm.refl _
 |y::l=>by
  unfold jS
  split
  ·simp
  ·exact((Qp x l).cons y).trans (List.Perm.swap x y l)
theorem QA:∀l:List bj,(fY l).Perm l
 |[]=>List.Perm.refl _
 |x::l=>by
  exact(Qp x _).trans ((QA l).cons x)
theorem Rt:∀{l:List bj},(l.map bj.tag).Nodup->nG l
 |[],_=>trivial
 |x::l,h=>by
  rw[iF,List.nodup_cons] at h
  refine⟨λy hy e=>h.1 ?_,Rt h.2⟩
  simp_all
theorem Wt{l:List bj}(h:eL (fY l)=true):nG l:=
 Rt (((QA l).map bj.tag).nodup_iff.1 (Hv (yJ h)))
theorem agL{w m:Nat}{sh:List aX}{o:Int}{L:Nat}{Sp:List bk}(H:yF w m sh o L Sp)(rec:Value->Value->Value->Int->Nat->Nat->Int->Value->Value->Int->List Value->Option (Int×Nat×Nat×Int×Value×Value×Int×List Value))(d:aS)(s:Nat)(hs:s<sh.length)(hd:iw m d)(hh:cD sh s d=true)
 (hrec:∀p∈aP (match d with| .mk _ subs _=>subs),∀k:Nat,k<sh.length->cD sh k p.2 =true->yA sh o L Sp rec p.2 k):yA sh o L Sp (GC w rec) d s:=by
 obtain⟨hm,hw,hsh,hl,ho,hLt,zw,uG,zx⟩:=H
 obtain⟨tags,subs,blob⟩:=d
 intro no e A B pre post hA hp hSp hL sP
 have hd:tags.length<=m/\bX subs<=m/\blob.length<=m/\(∀t∈tags,t.data.length<=m)/\iy m subs:=hd
 replace hrec:∀p∈aP subs,∀k:Nat,k<sh.length->cD sh k p.2 =true->yA sh o L Sp rec p.2 k:=hrec
 have hlenB:=sy o sh (.mk tags subs blob) s 0 e hh
 have hh0:=hh
 simp only[cD,bt,rW,bZ] at hh
 obtain⟨⟨n1,n2⟩,ht,hbl,hr,hss⟩:=hh
 have htg:∀t∈tags,mK t.tag=true/\ej t.ty t.aw t.data=true:=λt h=>by
  simp only[jY,bt,iq] at ht
  exact⟨(ht.2 t h).1,(ht.2 t h).2.2⟩
 have htr:fI tags=true:=by
  simp only[jY,bt] at ht
  exact ht.1
 obtain⟨N,hN⟩:∃N,bB (.mk tags subs blob)=N:=⟨_,rfl⟩
 rw[hN] at n1 n2
 have hNt:tags.length+bX subs<=N:=by
  rw[<-hN]
  show _<=tags.length+bX subs+_
  omega
 obtain⟨e1,he1⟩:∃e1,aE e+(6+12*N)=e1:=⟨_,rfl⟩
 obtain⟨e2,he2⟩:∃e2,ca e1 tags=e2:=⟨_,rfl⟩
 obtain⟨e3,he3⟩:∃e3,dZ e2 subs=e3:=⟨_,rfl⟩
 obtain⟨S,hS⟩:∃S,aN sh s=S:=⟨_,rfl⟩
 have hSo:=hsh.ok s
 have hSlk:=hsh.bJ s hs
 have hln:=hl s hs
 rw[hS] at hSo ht hbl hss hSlk hln
 have hSg:sh[s]=S:=by rw[<-hS];unfold aN;rw[cW hs];rfl
 have g1:=na e
 have g2:=qo tags e1
 have g3:=sI subs e2
 have g4:=na e3
 rw[he2] at g2
 rw[he3] at g3
 obtain⟨D,hD⟩:∃D,bq e (.mk tags subs blob)=D:=⟨_,rfl⟩
 have hend:D=if blob.length=0 then e3 else aE e3+blob.length:=by rw[<-hD,bq,hN,he1,he2,he3]
 rw[hD] at hL hlenB⊢
 have hDe:e3<=D:=by rw[hend];split<;>omega
 have hlenL:L=D+post.length:=by
  rw[hL,aR,aR,iZ]
  omega
 obtain⟨E,hE⟩:∃E,dW o e1 tags++(hM e2 subs++gS S e3 blob)=E:=⟨_,rfl⟩
 have c1:=(ON (order:=o) (e1:=e1) (e2:=e2) (e3:=e3) hSo ht hbl hr hss rfl).1
 rw[hE] at c1
 have hEap:nG E:=Wt c1
 have hEn:E.length=N:=by
  rw[<-hE,aR,aR,re,zh,CT,<-hN]
  show _=tags.length+bX subs+(if blob.length=0 then 0 else 2)
  omega
 have hEne:E≠[]:=by
  intro q
  rw[q] at hEn
  simp at hEn
  omega
 have hEo:∀x∈E,Go.Proofs.YtcfjfbeadhnknaaGreatDoor.mh x:=by
  intro x hx
  rw[<-hE] at hx
  rcases fK.1 hx with hx|hx
  ·exact CU (S:=S) htg (by rw[he2];omega) x hx
  ·rcases fK.1 hx with hx|hx
   ·exact Ip hSo (C6 hss) (by rw[he3];omega) x hx
   ·unfold gS at hx
    split at hx
    ·cases hx
    ·rename_i hb0
     rw[ai hb0] at hend
     have hat:=hSo.pair (hbl.resolve_left hb0)
     simp only[cQ,mP,mS] at hx
     rcases hx with rfl|rfl
     ·exact⟨by simp only;omega,by simp only;omega,by simp only;omega,by simp only;omega⟩
     ·exact⟨by simp only;omega,by simp only;omega,by simp only;omega,by simp only;omega⟩
 obtain⟨bS,hbS⟩:∃bS:List bk,(if blob.length=0 then[] else[⟨4,no,0,aE e3,blob.length⟩])=bS:=⟨_,rfl⟩
 have hSp1:Sp=A++(⟨2,no,0,aE e,6+12*N⟩::(cS no e1 tags++(gj (no+1) e2 (aP subs)++(bS++B)))):=by
  rw[hSp,fS,hN,he1,he2,he3,hbS,GB]
  simp only[fo,dD]
 have hcN:dE (.mk tags subs blob)=fV (aP subs)+1:=by rw[dE,H5]
 rw[hcN] at sP⊢
 have hvl:=GQ o tags e1 λt h=>(htg t h).2
 rw[he2] at hvl
 unfold GC cf AR
 simp only[dT,dS,dB,bP]
 rw[bu yc hs,hSg]
 have tg:∀(S:aX)(r:List Value),jj S++r=gE S.bJ::.int .i64 S.at_::.int .i64 S.cw::.int .i64 S.next::r:=λ_ _=>rfl
 simp only[tg,bh,bQ,bT]
 unfold ay
 rw[cd,aM (n:=(no:Int)+1) (by omega) (by omega)]
 have hz1:bg (D -e)=bg (e1 -e)++([]++bg (D -e1)):=by rw[fU,<-py];congr 1;omega
 rw[hz1]
 simp only[dD]
 refine np (σ:=Nat×List UInt8×List bj×List bk) (ev:=λi s (g:Int->Value->Int->Int->Nat->Nat->Int->Value->Value->Int->Value->Value->Value->Value->Int->Int->Int->List Value->List Value->Option (Int×Nat×Nat×Int×Value×Value×Int×List Value))=>g no (aA cq tags) tags.length i L L o (aA bR Sp) (aA jj sh) ((no:Int)+1) (aA cq tags) (ae (bX subs) (gG subs)) (ag blob) (gE S.bJ) S.at_ S.cw S.next ((pre++(bg (e1 -e)++(s.2.1 ++(bg (D -s.1)++post)))).map aV) (s.2.2.1.flatMap bK))
  (Inv:=λi s=>ca s.1 (tags.drop i)=e2/\e1+s.2.1.length=s.1 /\s.2.1 ++gz o s.1 (tags.drop i)=gz o e1 tags/\s.2.2.1 ++dW o s.1 (tags.drop i)=dW o e1 tags/\s.2.2.2 ++cS no s.1 (tags.drop i)=cS no e1 tags/\∀y∈s.2.2.2,y.nB=3/\y.dir=(no:Int)/\∃t∈tags.take i,y.tag=t.tag) tags.length (e1,[],[],[]) ?_ ?_ ?_ (by omega)
 ·exact⟨by simpa using he2,by simp,by simp,by simp,by simp,λy hy=>by cases hy⟩
 ·rintro i g ⟨ei,X,es,Q⟩ hi ⟨h1,h2,h3,h4,h5,h6⟩
  simp only at h1 h2 h3 h4 h5 h6
  have hmem:=cM hi
  obtain⟨ht1,ht2⟩:=htg _ hmem
  have je:=hd.2.2.2.1 _ hmem
  have hel:(es.flatMap bK).length<=1000000000:=by
   rw[dH kK]
   have:es.length<=tags.length:=by
    have:=bV List.length h4
    rw[aR,re,re] at this
    omega
   omega
  rw[dk hi] at h1 h3 h4 h5
  rw[Pc] at h1
  rw[ahe] at h3
  rw[XM] at h4
  rw[agH] at h5
  have e0:((i:Int)<(tags.length:Int)):=by omega
  have tt:∀(t:aI)(r:List Value),cq t++r=.int .i64 t.tag::.int .i64 t.ty::.int .i64 t.aw::ag t.data::r:=λ_ _=>rfl
  by_cases h0:bF tags[i].ty tags[i].aw=0
  ·rw[au h0] at h1 h3 h4 h5
   refine⟨(ei,X,es++[⟨tags[i].tag,tags[i].ty,tags[i].aw,oQ o tags[i]⟩],Q),⟨h1,h2,h3,by rw[<-h4];simp,h5,λy hy=>?_⟩,?_⟩
   ·obtain⟨a,b,t,c,q⟩:=h6 y hy
    exact⟨a,b,t,by rw[iN hi];exact fK.2 (.inl c),q⟩
   ·simp only[aT,e0,bd,aB,bP]
    rw[bu gY hi]
    simp only[tt,bh,bQ]
    rw[afE (by omega) tags[i] ht2 (by omega) (by omega) ho ht1 h0]
    simp only[az]
    rw[MM w ⟨tags[i].tag,tags[i].ty,tags[i].aw,oQ o tags[i]⟩ _ hel]
    simp only[az]
    rw[aM (by omega) (by omega),fw]
    simp only[dV,mN,dX]
    rfl
  ·rw[ai h0] at h1 h3 h4 h5
   have hout:=xf ht2
   have hoL:bF tags[i].ty tags[i].aw=tags[i].data.length:=by rw[hout] at h0⊢;split<;>simp_all
   have hge:=qo (tags.drop (i+1)) (aE ei+bF tags[i].ty tags[i].aw)
   rw[h1] at hge
   have hev:=na ei
   have hpd:=pQ ei
   have hvB:(kQ o tags[i]).length=bF tags[i].ty tags[i].aw:=by rw[yp,hoL]
   refine⟨(aE ei+bF tags[i].ty tags[i].aw,X++(dF ei++kQ o tags[i]),es++[⟨tags[i].tag,tags[i].ty,tags[i].aw,aE ei⟩],Q++[⟨3,no,tags[i].tag,aE ei,bF tags[i].ty tags[i].aw⟩]),⟨h1,?_,by rw[<-h3];simp,by rw[<-h4];simp,by rw[<-h5];simp,λy hy=>?_⟩,?_⟩
   ·simp only[aR,hvB]
    omega
   ·rcases fK.1 hy with hy|hy
    ·obtain⟨a,b,t,c,q⟩:=h6 y hy
     exact⟨a,b,t,by rw[iN hi];exact fK.2 (.inl c),q⟩
    ·rw[oB.1 hy]
     exact⟨rfl,rfl,tags[i],by rw[iN hi];exact fK.2 (.inr (by simp)),rfl⟩
   ·simp only[aT,e0,bd,aB,bP]
    rw[bu gY hi]
    simp only[tt,bh,bQ]
    have hSpi:Sp=(A++(⟨2,no,0,aE e,6+12*N⟩::Q))++⟨3,no,tags[i].tag,aE ei,bF tags[i].ty tags[i].aw⟩::(cS no (aE ei+bF tags[i].ty tags[i].aw) (tags.drop (i+1))++(gj (no+1) e2 (aP subs)++(bS++B))):=by
     rw[hSp1,<-h5];simp
    have hbuf:pre++(bg (e1 -e)++(X++(bg (D -ei)++post)))=(pre++(bg (e1 -e)++(X++dF ei)))++(bg (bF tags[i].ty tags[i].aw)++(bg (D -(aE ei+bF tags[i].ty tags[i].aw))++post)):=by
     have:bg (D -ei)=dF ei++(bg (bF tags[i].ty tags[i].aw)++bg (D -(aE ei+bF tags[i].ty tags[i].aw))):=by
      rw[Kf,<-py,<-py];congr 1;omega
     rw[this];simp
    have hpl:(pre++(bg (e1 -e)++(X++dF ei))).length=aE ei:=by
     simp only[aR,iZ];omega
    have hq:=afF (w:=w) (by omega) tags[i] ht2 (by omega) (by omega) ho ht1 h0 (no:Int) (A:=A++(⟨2,no,0,aE e,6+12*N⟩::Q)) (B:=cS no (aE ei+bF tags[i].ty tags[i].aw) (tags.drop (i+1))++(gj (no+1) e2 (aP subs)++(bS++B))) (x:=⟨3,no,tags[i].tag,aE ei,bF tags[i].ty tags[i].aw⟩) (by rw[<-hSpi];exact zw) (by rw[<-hSpi];exact uG) (λy hy=>by
     unfold ma
     rcases fK.1 hy with hy|hy
     ·have:=hA y hy
      have:(y.dir==(no:Int))=false:=by simp;omega
      rw[this];simp
     ·rcases cQ.1 hy with rfl|hy
      ·rfl
      ·obtain⟨-,-,t,c,q⟩:=h6 y hy
       obtain⟨j,hj,rfl⟩:=List.getElem_of_mem c
       rw[dI] at hj
       rw[List.getElem_take] at q
       have:=u7 htr (show j<i by omega) hi
       have:(y.tag==tags[i].tag)=false:=by simp;omega
       rw[this];simp) (by simp[ma]) (pre++(bg (e1 -e)++(X++dF ei))) (bg (bF tags[i].ty tags[i].aw)) (bg (D -(aE ei+bF tags[i].ty tags[i].aw))++post) (by rw[iZ,hoL]) hpl.symm (L:=L) (by rw[hlenL];simp only[aR,iZ];omega) (aA jj sh) ((no:Int)+1)
    rw[<-hSpi,<-hbuf] at hq
    rw[hq]
    simp only[az]
    rw[hpl]
    rw[MM w ⟨tags[i].tag,tags[i].ty,tags[i].aw,aE ei⟩ _ hel]
    simp only[az]
    rw[aM (by omega) (by omega),fw]
    simp only[dV,mN,dX,dD]
    rfl
 ·rintro g ⟨ei,X,es,Q⟩ ⟨h1,h2,h3,h4,h5,h6⟩
  simp only[qQ,ca,gz,dW,cS,dX] at h1 h2 h3 h4 h5 h6
  subst h1 h3 h4
  have e0:ak (tags.length:Int) (tags.length:Int)=false:=by simp
  simp only[e0,aC]
  rw[BQ,cd]
  have hsl:=tN subs
  have sg:∀(p:Int×aS)(r:List Value),gm p++r=.int .i64 p.1 ::dT p.2 ::dS p.2 ::dB p.2 ::r:=by
   intro p r
   unfold gm
   rw[pJ]
   rfl
  have hvlen:(gz o e1 tags).length=ei -e1:=by omega
  generalize hV:gz o e1 tags=V at*
  rw[show(no:Int)+1=((no+1:Nat):Int) by omega]
  refine np (σ:=Nat×Nat×List UInt8×List bj×List bk) (ev:=λi s (g:Int->Value->Int->Int->Nat->Nat->Int->Value->Value->Int->Value->Value->Value->Value->Int->Int->Int->List Value->List Value->Option (Int×Nat×Nat×Int×Value×Value×Int×List Value))=>g no (aA gm (aP subs)) (aP subs).length i L L o (aA bR Sp) (aA jj sh) (s.2.1 :Nat) (aA cq tags) (aA gm (aP subs)) (ag blob) (gE S.bJ) S.at_ S.cw S.next ((pre++(bg (e1 -e)++(s.2.2.1 ++(bg (D -s.1)++post)))).map aV) (s.2.2.2.1.flatMap bK))
   (Inv:=λi s=>gU s.1 ((aP subs).drop i)=e3/\s.2.1 +fV ((aP subs).drop i)=no+1+fV (aP subs)/\e1+s.2.2.1.length=s.1 /\s.2.2.1 ++mq o sh S s.1 ((aP subs).drop i)=V++mq o sh S ei (aP subs)/\s.2.2.2.1 ++nR s.1 ((aP subs).drop i)=dW o e1 tags++nR ei (aP subs)/\s.2.2.2.2 ++gj s.2.1 s.1 ((aP subs).drop i)=gj (no+1) ei (aP subs)/\no+1<=s.2.1 /\s.2.2.2.1.length=tags.length+i/\∀y∈s.2.2.2.2,y.dir<(s.2.1 :Int)) (aP subs).length (ei,no+1,V,dW o e1 tags,[]) ?_ ?_ ?_ ?_
  ·exact⟨by rw[eS,<-Ij];exact he3,by simp,by simp only;omega,by simp,by simp,by simp,aK _,by simp[re],λy hy=>by cases hy⟩
  ·rintro i g ⟨fi,ni,X,es,R⟩ hi ⟨k1,k2,k3,k4,k5,k6,k7,k8,k9⟩
   simp only at k1 k2 k3 k4 k5 k6 k7 k8 k9
   have hmem:=cM hi
   rw[dk hi] at k1 k2 k4 k5 k6
   rw[gU] at k1
   rw[fV] at k2
   rw[mq] at k4
   rw[nR] at k5
   rw[gj] at k6
   obtain⟨p1,p2⟩:=I3 hss _ hmem
   have hge:=CS ((aP subs).drop (i+1)) (bq fi (aP subs)[i].2)
   have hge2:=zc (aP subs)[i].2 fi
   have hbl2:=sy o sh (aP subs)[i].2 ((lk S (aP subs)[i].1).getD 0) 0 fi p2
   rw[k1] at hge
   have e5:((i:Int)<((aP subs).length:Int)):=by omega
   rcases Jo S (aP subs)[i].1 with⟨-,hb0⟩|⟨k,hk,ek,-,e2⟩
   ·rw[p1] at hb0;cases hb0
   have hlk:=hSlk _ (cM hk)
   have hsh2:((S.bJ[k].shape.toNat:Nat):Int)=S.bJ[k].shape:=mf (by omega)
   rw[e2] at p2 k4 hbl2
   refine⟨(bq fi (aP subs)[i].2,ni+dE (aP subs)[i].2,X++iS o sh S.bJ[k].shape.toNat 0 fi (aP subs)[i].2,es++[⟨(aP subs)[i].1,4,1,aE fi⟩],R++fS ni fi (aP subs)[i].2),⟨k1,by simp only;omega,by simp only[aR];omega,by rw[<-k4];simp,by rw[<-k5];simp,by rw[<-k6];simp,by simp only;omega,by simp only[aR,vT];omega,λy hy=>?_⟩,?_⟩
   ·rcases fK.1 hy with hy|hy
    ·have:=k9 y hy;simp only;omega
    ·have:=NA hy;simp only;omega
   ·simp only[aT,e5,bd,aB,bP]
    rw[bu tL hi]
    simp only[sg,bh,bQ]
    rw[afH _ _ _ _ _ (by omega) (by omega),ek]
    simp only[az,bP]
    unfold gE
    rw[bu sR hk]
    have lg:∀(x:iv)(r:List Value),(lP x++r).drop 1=.int .i64 x.shape::r:=λ_ _=>rfl
    simp only[lg,bh,bQ]
    have hSpi:Sp=(A++(⟨2,no,0,aE e,6+12*N⟩::(cS no e1 tags++R)))++(fS ni fi (aP subs)[i].2 ++(gj (ni+dE (aP subs)[i].2) (bq fi (aP subs)[i].2) ((aP subs).drop (i+1))++(bS++B))):=by
     rw[hSp1,<-k6];simp
    have hzz:bg (D -fi)=bg (bq fi (aP subs)[i].2 -fi)++bg (D -bq fi (aP subs)[i].2):=by rw[<-py];congr 1;omega
    have hbuf:pre++(bg (e1 -e)++(X++(bg (D -fi)++post)))=(pre++(bg (e1 -e)++X))++(bg (bq fi (aP subs)[i].2 -fi)++(bg (D -bq fi (aP subs)[i].2)++post)):=by
     rw[hzz];simp
    have hpl:(pre++(bg (e1 -e)++X)).length=fi:=by
     simp only[aR,iZ];omega
    have hr:=hrec _ hmem S.bJ[k].shape.toNat (by omega) p2 ni fi (A++(⟨2,no,0,aE e,6+12*N⟩::(cS no e1 tags++R))) (gj (ni+dE (aP subs)[i].2) (bq fi (aP subs)[i].2) ((aP subs).drop (i+1))++(bS++B)) (pre++(bg (e1 -e)++X)) (bg (D -bq fi (aP subs)[i].2)++post) (λy hy=>by
     rcases fK.1 hy with hy|hy
     ·have:=hA y hy;omega
     ·rcases cQ.1 hy with rfl|hy
      ·simp only;omega
      ·rcases fK.1 hy with hy|hy
       ·have:=(BM hy).2.1;omega
       ·exact k9 y hy) hpl hSpi (by rw[hlenL];simp only[aR,iZ];omega) (by omega)
    rw[hsh2] at hr
    unfold cf at hr
    rw[<-hbuf] at hr
    rw[hr]
    simp only[az,cu,bd,aB]
    unfold tD
    simp only[az]
    rw[MM w ⟨(aP subs)[i].1,4,1,aE fi⟩ _ (by rw[dH kK];omega)]
    simp only[az,bT]
    rw[aM (by omega) (by omega)]
    simp only[fw,dV,mN,dX,dD]
    rfl
  ·rintro g ⟨fi,ni,X,es,R⟩ ⟨k1,k2,k3,k4,k5,k6,k7,k8,k9⟩
   simp only[qQ,gU,fV,mq,nR,gj,dX,Nat.add_zero] at k1 k2 k3 k4 k5 k6 k7 k8 k9
   subst k1 k2 k4 k5
   have e6:ak ((aP subs).length:Int) ((aP subs).length:Int)=false:=by simp
   simp only[e6,aC]
   rw[cJ]
   have hE2:dW o e1 tags++nR ei (aP subs)++gS S fi blob=E:=by rw[<-hE,Pj];simp
   have hbD:iS o sh s 0 e (.mk tags subs blob)=dF e++(kj o (fY E) 0++(V++(mq o sh S ei (aP subs)++(if blob.length=0 then[] else dF fi++blob)))):=by
    rw[iS,hN,he1,he2,he3,hS,hE,OD,hV]
   have hpl:(pre++dF e).length=aE e:=by
    have:=pQ e
    rw[aR];omega
   have hz2:bg (e1 -e)=dF e++bg (6+12*E.length):=by
    rw[Kf,<-py];congr 1;omega
   have hfin:∀post':List UInt8,L=(pre++(bg (e1 -e)++post')).length->CJ w no L L o (aA bR Sp) (aA jj sh) ((no+1+fV (aP subs):Nat):Int) ((pre++(bg (e1 -e)++post')).map aV) (E.flatMap bK)=
    some ((aE e:Int),L,L,o,aA bR Sp,aA jj sh,((no+1+fV (aP subs):Nat):Int),(pre++(dF e++(kj o (fY E) 0++post'))).map aV):=by
    intro post' hLp
    have hb:pre++(bg (e1 -e)++post')=(pre++dF e)++(bg (6+12*E.length)++post'):=by rw[hz2];simp
    have:=Xp (w:=w) (by omega) hEap hEne hEo (by omega) (by omega) (A:=A) (B:=cS no e1 tags++(gj (no+1) ei (aP subs)++(bS++B))) (x:=⟨2,no,0,aE e,6+12*N⟩) (by rw[<-hSp1];exact zw) (by rw[<-hSp1];exact uG) (no:Int) (λy hy=>by
     have:=hA y hy
     unfold ma
     have:(y.dir==(no:Int))=false:=by simp;omega
     rw[this];simp) (by simp[ma]) (pre++dF e) post' hpl.symm (L:=L) (by rw[<-hb];exact hLp) (by omega) ho (aA jj sh) ((no+1+fV (aP subs):Nat):Int)
    rw[<-hSp1,<-hb,hpl] at this
    rw[this]
    simp
   by_cases hb0:blob.length=0
   ·rw[au hb0] at hend hbS
    have hB0:gS S fi blob=[]:=by unfold gS;rw[au hb0]
    rw[hB0,dX] at hE2
    have e7:ak 0 (Int.ofNat blob.length)=false:=by rw[hb0];rfl
    simp only[e7,aC]
    rw[hE2,hbD,au hb0]
    refine(hfin _ (by rw[hlenL];simp only[aR,iZ] at*;omega)).trans ?_
    rw[show D -fi=0 by omega]
    simp only[bg,List.replicate_zero,fU,dX,dD]
    congr 9
    omega
   ·rw[ai hb0] at hend hbS
    have hB0:gS S fi blob=[⟨S.at_,4,1,aE fi⟩,⟨S.cw,4,1,blob.length⟩]:=by unfold gS;rw[ai hb0]
    have e7:ak 0 (Int.ofNat blob.length)=true:=by simp;omega
    have hpf:=pQ fi
    simp only[e7,aB]
    have hSpi:Sp=(A++(⟨2,no,0,aE e,6+12*N⟩::(cS no e1 tags++gj (no+1) ei (aP subs))))++⟨4,no,0,aE fi,blob.length⟩::B:=by
     rw[hSp1,<-hbS];simp
    have hq:=MU (w:=w) (A:=A++(⟨2,no,0,aE e,6+12*N⟩::(cS no e1 tags++gj (no+1) ei (aP subs)))) (B:=B) (x:=⟨4,no,0,aE fi,blob.length⟩) (by rw[<-hSpi];exact zw) (by rw[<-hSpi];exact uG) 4 (no:Int) 0 (λy hy=>by
     unfold ma
     rcases fK.1 hy with hy|hy
     ·have:=hA y hy
      have:(y.dir==(no:Int))=false:=by simp;omega
      rw[this];simp
     ·rcases cQ.1 hy with rfl|hy
      ·rfl
      ·rcases fK.1 hy with hy|hy
       ·rw[(BM hy).1];rfl
       ·rw[<-GB] at hy
        have:=(NB hy).1
        have:(y.dir==(no:Int))=false:=by simp;omega
        rw[this];simp) (by simp[ma])
    rw[<-hSpi] at hq
    rw[hq]
    simp only[az,bP]
    have hbuf:pre++(bg (e1 -e)++(V++mq o sh S ei (aP subs)++(bg (D -fi)++post)))=(pre++(bg (e1 -e)++(V++mq o sh S ei (aP subs)++dF fi)))++(bg blob.length++post):=by
     have:bg (D -fi)=dF fi++bg blob.length:=by rw[Kf,<-py];congr 1;omega
     rw[this];simp
    have hpl2:(pre++(bg (e1 -e)++(V++mq o sh S ei (aP subs)++dF fi))).length=aE fi:=by
     simp only[aR,iZ] at*;omega
    rw[hbuf]
    have hcp:=H6 (pre++(bg (e1 -e)++(V++mq o sh S ei (aP subs)++dF fi))) blob (bg blob.length) post (iZ _) (L:=L) (by rw[hlenL];simp only[aR,iZ] at*;omega) (λcs=>ob (tD w S.at_ (aE fi:Int)) λ(x144:Int×Int×Int×Int)=>aq (ag blob) λ(x145:Nat)=>ob (tD w S.cw (Int.ofNat x145)) λ(x146:Int×Int×Int×Int)=>
     ob (Bp w [Value.int IntKind.i64 x144.fst,Value.int IntKind.i64 x144.snd.fst,Value.int IntKind.i64 x144.snd.snd.fst,Value.int IntKind.i64 x144.snd.snd.snd,Value.int IntKind.i64 x146.fst,Value.int IntKind.i64 x146.snd.fst,Value.int IntKind.i64 x146.snd.snd.fst,Value.int IntKind.i64 x146.snd.snd.snd] ((dW o e1 tags++nR ei (aP subs)).flatMap bK)) λ(x147:List Value)=>CJ w no L L o (aA bR Sp) (aA jj sh) ((no+1+fV (aP subs):Nat):Int) cs x147)
    rw[hpl2] at hcp
    refine Eq.trans hcp ?_
    unfold tD
    simp only[az,cJ]
    have hlen2:(dW o e1 tags++nR ei (aP subs)).length<=70000:=by
     have:=bV List.length hE2
     rw[aR] at this
     omega
    have h260:=afD w ⟨S.at_,4,1,aE fi⟩ ⟨S.cw,4,1,blob.length⟩ ((dW o e1 tags++nR ei (aP subs)).flatMap bK) (by rw[dH kK];omega)
    simp only[cm] at h260⊢
    rw[h260]
    simp only[az]
    have hEc:(dW o e1 tags++nR ei (aP subs)).flatMap bK++(bK ⟨S.at_,4,1,aE fi⟩++bK ⟨S.cw,4,1,blob.length⟩)=E.flatMap bK:=by
     rw[<-hE2,hB0]
     simp[fw]
    rw[hEc]
    have hbuf2:(pre++(bg (e1 -e)++(V++mq o sh S ei (aP subs)++dF fi)))++(blob++post)=pre++(bg (e1 -e)++(V++(mq o sh S ei (aP subs)++(dF fi++(blob++post))))):=by simp
    rw[hbuf2,hbD,ai hb0]
    refine(hfin _ (by rw[hlenL];simp only[aR,iZ] at*;omega)).trans ?_
    simp only[dD]
    congr 9
    omega
  ·omega
end
section
set_option linter.unusedVariables false
set_option linter.unusedSimpArgs false
set_option linter.unusedSectionVars false
set_option linter.constructorNameAsVariable false
theorem O1{w m:Nat}{sh:List aX}{o:Int}{L:Nat}{Sp:List bk}(H:yF w m sh o L Sp)(z:Value->Value->Value->Int->Nat->Nat->Int->Value->Value->Int->List Value->Option (Int×Nat×Nat×Int×Value×Value×Int×List Value)):
 ∀(n:Nat)(d:aS)(s:Nat),fX d<=n->s<sh.length->iw m d->cD sh s d=true->yA sh o L Sp (pM z (GC w) n) d s
 |0,d,s,h,_,_,_=>by
  obtain⟨tags,subs,blob⟩:=d
  unfold fX at h
  omega
 |n+1,d,s,h,hs,hd,hh=>by
  refine agL H _ d s hs hd hh ?_
  obtain⟨tags,subs,blob⟩:=d
  intro p hp k hk hpk
  have hp:p∈aP subs:=hp
  have:=CN p hp
  unfold fX at h
  exact O1 H z n p.2 k (by omega) hk (wj hd.2.2.2.2 p hp) hpk
theorem afo{w m:Nat}{sh:List aX}{o:Int}{L:Nat}{Sp:List bk}(H:yF w m sh o L Sp)(d:aS)(s:Nat)(hs:s<sh.length)(hd:iw m d)(hh:cD sh s d=true)(jQ:fX d<=w):yA sh o L Sp (FF w) d s:=O1 H _ w d s jQ hs hd hh
theorem WJ(o:Int)(sh:List aX)(s next e:Nat)(d:aS)(hh:cD sh s d=true):∃a b,iS o sh s next e d=a++(aW next 4 o++b)/\e+a.length=aE e+(2+12*bB d)/\∀n,iS o sh s n e d=a++(aW n 4 o++b):=by
 obtain⟨tags,subs,blob⟩:=d
 have hl:∀E,E=fY (dW o (aE e+(6+12*bB (.mk tags subs blob))) tags++(hM (ca (aE e+(6+12*bB (.mk tags subs blob))) tags) subs++gS (aN sh s) (dZ (ca (aE e+(6+12*bB (.mk tags subs blob))) tags) subs) blob))->E.length=bB (.mk tags subs blob):=by
  rintro E rfl
  rw[wS,aR,aR,re,zh,CT]
  show _=tags.length+bX subs+(if blob.length=0 then 0 else 2)
  omega
 obtain⟨E,hE⟩:∃E,fY (dW o (aE e+(6+12*bB (.mk tags subs blob))) tags++(hM (ca (aE e+(6+12*bB (.mk tags subs blob))) tags) subs++gS (aN sh s) (dZ (ca (aE e+(6+12*bB (.mk tags subs blob))) tags) subs) blob))=E:=⟨_,rfl⟩
 refine⟨dF e++(aW E.length 2 o++E.flatMap (iT o)),gz o (aE e+(6+12*bB (.mk tags subs blob))) tags++(jq o sh (aN sh s) (ca (aE e+(6+12*bB (.mk tags subs blob))) tags) subs++(if blob.length=0 then[] else dF (dZ (ca (aE e+(6+12*bB (.mk tags subs blob))) tags) subs)++blob)),by rw[iS,hE];unfold kj;simp,?_,?_⟩
 ·have:=pQ e
  simp only[aR,er,wI,(hl E hE.symm)]
  omega
 ·intro n
  rw[iS,hE];unfold kj;simp
theorem Wk{o:Int}(ho:o=1\/o=2):aW 0 4 o=bg 4:=by rcases ho with rfl|rfl<;>rfl
theorem XD:∀{ds:List aS}{e:Nat},ds≠[]->aE e+6<=ef e ds
 |[],_,h=>by grind
 |d::ds,e,_=>by
  rw[ef]
  have:=Kr (d:=d) (e:=e)
  have:=pK ds (bq e d)
  omega
noncomputable def NT(w:Nat):Value->Int->Int->Value->Int->Int->Nat->Nat->Int->Value->Value->Int->List Value->Option (Value×Int):=
 lp (λ(x55:Value)(x56 x57:Int)(x58:Value)(x59 x60:Int)(x61 x62:Nat)(x63:Int)(x64 x65:Value)(x66:Int)(x67:List Value)=>none) (λ(x68:Value->Int->Int->Value->Int->Int->Nat->Nat->Int->Value->Value->Int->List Value->Option (Value×Int))(x69:Value)(x70 x71:Int)(x72:Value)(x73 x74:Int)(x75 x76:Nat)(x77:Int)(x78 x79:Value)(x80:Int)(x81:List Value)=>bif ak x74 x73 then aD x74 λ(x82:Nat)=>aO 3 x82 x72 λ(x83:List Value)=>af x83 λ(x84:Value)(x85:List Value)=>af x85 λ(x86:Value)(x87:List Value)=>af x87 λ(x88:Value)(x89:List Value)=>ob (FF w x84 x86 x88 x70 x75 x76 x77 x78 x79 x80 x81) λ(x90:Int×Nat×Nat×Int×Value×Value×Int×List Value)=>ob (rR w x71 x90.fst 4 x90.snd.fst x90.snd.snd.fst x90.snd.snd.snd.fst x90.snd.snd.snd.snd.fst x90.snd.snd.snd.snd.snd.fst x90.snd.snd.snd.snd.snd.snd.fst x90.snd.snd.snd.snd.snd.snd.snd) λ(x91:Nat×Nat×Int×Value×Value×Int×List Value)=>ob (kx w x84 x86 x88) λ(x92:Int)=>aD x70 λ(x93:Nat)=>aO 4 x93 x69 λ(x94:List Value)=>af (List.drop 3 x94) λ(x95:Value)(x96:List Value)=>ax IntKind.i64 x95 λ(x97:Int)=>x68 x69 x97 (ah IntKind.i64 ((ah IntKind.i64 (Int.add x90.fst 2)).add (ah IntKind.i64 (Int.mul 12 x92)))) x72 x73 (ah IntKind.i64 (x74.add 1)) x91.fst x91.snd.fst x91.snd.snd.fst x91.snd.snd.snd.fst x91.snd.snd.snd.snd.fst x91.snd.snd.snd.snd.snd.fst x91.snd.snd.snd.snd.snd.snd else some (ae x75 (List.drop 0 x81),0)) w
theorem ahm{w m:Nat}{sh:List aX}{o:Int}{L:Nat}{Sp:List bk}(H:yF w m sh o L Sp)(ds:List aS)(je:ds.length<=m)(hd:nJ m ds)(jQ:kJ ds<=w)(hh:gw sh 0 ds=true)(hs0:0<sh.length)(hds:ds≠[])(hSp:Sp=eY ⟨o,ds⟩)(sP:iK ds<2^39)(hLe:L=ef 8 ds)(pre0:List UInt8)(hp0:pre0.length=4):
 NT w (cf sh) 0 (pre0.length:Int) (cU ds) ds.length 0 L L o (aA bR Sp) (cf sh) 0 ((pre0++(bg 4++([]++bg (L -8)))).map aV)=some (ag (pre0++(aW 8 4 o++kh o sh 0 8 ds)),0):=by
 have H0:=H
 obtain⟨hm,hw,hsh,hl,ho,hLt,zw,uG,zx⟩:=H
 have h8:=pK ds 8
 unfold NT cU
 have key:∀(e:Nat)(rest:List aS),(if rest.isEmpty then 0 else aE e)<4294967296\/True:=λ_ _=>.inr trivial
 refine np (σ:=Nat×Nat×Int×List UInt8×List UInt8×List bk) (ev:=λi s (g:Value->Int->Int->Value->Int->Int->Nat->Nat->Int->Value->Value->Int->List Value->Option (Value×Int))=>g (cf sh) s.2.2.1 (s.2.2.2.1.length:Int) (aA cZ ds) ds.length i L L o (aA bR Sp) (cf sh) (s.2.1 :Nat) ((s.2.2.2.1 ++(bg 4++(s.2.2.2.2.1 ++bg (L -s.1)))).map aV))
  (Inv:=λi s=>ef s.1 (ds.drop i)=L/\s.2.1 +iK (ds.drop i)=iK ds/\gw sh s.2.2.1 (ds.drop i)=true/\s.2.2.1 <sh.length/\s.2.2.2.1.length+4+s.2.2.2.2.1.length=s.1 /\s.2.2.2.2.2 ++jk s.2.1 s.1 (ds.drop i)=Sp/\(∀y∈s.2.2.2.2.2,y.dir<(s.2.1 :Int))/\
   s.2.2.2.1 ++(aW (if(ds.drop i).isEmpty then 0 else aE s.1) 4 o++(s.2.2.2.2.1 ++kh o sh s.2.2.1 s.1 (ds.drop i)))=pre0++(aW 8 4 o++kh o sh 0 8 ds)) ds.length (8,0,0,pre0,[],[⟨1,-1,0,0,8⟩]) ?_ ?_ ?_ (by omega)
 ·refine⟨hLe.symm,by simp,hh,by simp only;omega,by simp only[hp0,List.length_nil],by rw[hSp];rfl,λy hy=>by rw[oB.1 hy];show(-1:Int)<((0:Nat):Int);decide,?_⟩
  rw[eS]
  have:ds.isEmpty=false:=by cases ds with
   |nil=>exact absurd rfl hds
   |cons _ _=>rfl
  simp only[this,kC,gQ,fU]
  rfl
 ·rintro i g ⟨e,no,s,P,M,R⟩ hi ⟨h1,h2,h3,h4,h5,h6,h7,h9⟩
  simp only at h1 h2 h3 h4 h5 h6 h7 h9
  have hmem:=cM hi
  rw[dk hi] at h1 h2 h3 h6 h9
  rw[ef] at h1
  rw[iK] at h2
  rw[jk] at h6
  rw[kh] at h9
  simp only[gw,bt,bZ] at h3
  obtain⟨k1,k2,k3⟩:=h3
  have hs:(s.toNat:Int)=s:=mf k1
  have hst:s.toNat<sh.length:=by omega
  have hnx:=hsh.next s.toNat hst
  have hge:=pK (ds.drop (i+1)) (bq e ds[i])
  have hge2:=zc ds[i] e
  have hpos:=Kr (d:=ds[i]) (e:=e)
  have hev:=na e
  have hbl:=sy o sh ds[i] s.toNat 0 e k2
  obtain⟨a,b,q1,q2,q3⟩:=WJ o sh s.toNat 0 e ds[i] k2
  have hcp:=Xe ds[i]
  have h10:=CM hmem
  have e1:((i:Int)<(ds.length:Int)):=by omega
  refine⟨(bq e ds[i],no+dE ds[i],(aN sh s.toNat).next,P++(aW (aE e) 4 o++(M++a)),b,R++fS no e ds[i]),⟨h1,by simp only;omega,k3,by simp only;omega,?_,by rw[<-h6];simp,λy hy=>?_,?_⟩,?_⟩
  ·simp only[aR,er]
   have:=bV List.length q1
   simp only[aR,er] at this
   omega
  ·rcases fK.1 hy with hy|hy
   ·have:=h7 y hy;simp only;omega
   ·have:=NA hy;simp only;omega
  ·rw[<-h9]
   have:oX e ds[i] (ds.drop (i+1))=if(ds.drop (i+1)).isEmpty then 0 else aE (bq e ds[i]):=rfl
   rw[q3,this]
   simp only[List.isEmpty_cons,kC,gQ,dD]
  ·simp only[aT,e1,bd,aB,bP]
   rw[bu kX hi]
   simp only[za,bh]
   have hzz:bg (L -e)=bg (bq e ds[i] -e)++bg (L -bq e ds[i]):=by rw[<-py];congr 1;omega
   have hLl:L=((P++(bg 4++M))++(bg (bq e ds[i] -e)++bg (L -bq e ds[i]))).length:=by
    simp only[aR,iZ];omega
   have hW:=afo H0 ds[i] s.toNat hst (hd _ hmem) k2 (by omega) no e R (jk (no+dE ds[i]) (bq e ds[i]) (ds.drop (i+1))) (P++(bg 4++M)) (bg (L -bq e ds[i])) h7 (by simp only[aR,iZ];omega) h6.symm hLl (by omega)
   have hb1:P++(bg 4++(M++bg (L -e)))=(P++(bg 4++M))++(bg (bq e ds[i] -e)++bg (L -bq e ds[i])):=by rw[hzz];simp
   rw[hs] at hW
   rw[hb1,hW]
   simp only[az]
   have hb2:(P++(bg 4++M))++(iS o sh s.toNat 0 e ds[i]++bg (L -bq e ds[i]))=P++(bg 4++(M++(iS o sh s.toNat 0 e ds[i]++bg (L -bq e ds[i])))):=by simp
   rw[hb2,MD (by omega) P (bg 4) (M++(iS o sh s.toNat 0 e ds[i]++bg (L -bq e ds[i]))) (aE e) 4 (.inr rfl) (by omega) ho _ _ _ (iZ 4) L (by simp only[aR,iZ];omega) (by omega) (P.length:Int) rfl (4:Int) rfl ((aE e:Nat):Int) rfl]
   simp only[az]
   have h203:kx w (dT ds[i]) (dS ds[i]) (dB ds[i])=some (bB ds[i]:Int):=by
    have hsm:=hd _ hmem
    generalize ds[i]=d at hsm⊢
    obtain⟨tags,subs,blob⟩:=d
    have hsm:tags.length<=m/\bX subs<=m/\blob.length<=m/\(∀t∈tags,t.data.length<=m)/\iy m subs:=hsm
    exact FG w tags subs blob (by omega)
   rw[h203]
   simp only[az,bT,nU]
   rw[lK k1]
   have hS:sh[s.toNat]=aN sh s.toNat:=by unfold aN;rw[cW hst];rfl
   have tg:∀(S:aX)(r:List Value),(jj S++r).drop 3=.int .i64 S.next::r:=λ_ _=>rfl
   have hsv:cf sh=aA jj sh:=rfl
   rw[hsv,bu yc hst,hS]
   simp only[tg,bh,bQ]
   have hen:bB ds[i]<=65535:=by
    generalize ds[i]=d at k2
    obtain⟨tags,subs,blob⟩:=d
    simp only[cD,bt,bZ] at k2
    exact k2.1.2
   rw[aM (n:=12*(bB ds[i]:Int)) (by omega) (by omega),aM (n:=((aE e:Nat):Int)+2) (by omega) (by omega),aM (n:=((aE e:Nat):Int)+2+12*(bB ds[i]:Int)) (by omega) (by omega),aM (n:=(i:Int)+1) (by omega) (by omega)]
   have ek:((aE e:Nat):Int)+2+12*(bB ds[i]:Int)=(((P++(aW (aE e) 4 o++(M++a))).length:Nat):Int):=by
    simp only[aR,er];omega
   rw[ek,q1,Wk ho]
   simp only[dD]
   rfl
 ·rintro g ⟨e,no,s,P,M,R⟩ ⟨h1,h2,h3,h4,h5,h6,h7,h9⟩
  simp only[qQ,ef,kh,dX,List.isEmpty_nil,dL] at h1 h5 h9
  have e1:¬((ds.length:Int)<(ds.length:Int)):=by omega
  simp only[aT,e1,bM,aC,eS]
  rw[<-h9,Wk ho,show L -e=0 by omega]
  simp only[bg,List.replicate_zero,dX]
  rw[uk _ _ (by simp only[aR,tT];omega)]
end
section
set_option linter.unusedVariables false
set_option linter.unusedSimpArgs false
set_option linter.unusedSectionVars false
set_option linter.constructorNameAsVariable false
structure oF(w m:Nat)(sh:List aX)(o:Int)(ds:List aS):Prop where
 hm:m<2^28
 hw:2*m+1000<=w
 zx:70000<=w
 ok:iQ sh
 sO:qG w (cf sh)=some true
 s0:0<sh.length
 bJ:∀s,s<sh.length->(aN sh s).bJ.length<=m
 ho:o=1\/o=2
 cF:ds≠[]
 je:ds.length<=m
 hd:nJ m ds
 jQ:kJ ds<=w
 hh:gw sh 0 ds=true
 he:ef 8 ds<=1000000000
 uG:(eY ⟨o,ds⟩).length<w
 I1:(eY ⟨o,ds⟩).length*5<=1000000000
 sP:iK ds<2^39
 wQ:vr w o (cU ds)=some true
theorem oF.cw{w m:Nat}{sh:List aX}{o:Int}{ds:List aS}(T:oF w m sh o ds):rQ w o (cU ds)=some (ef 8 ds:Int):=by
 have:=T.he
 have:=T.sP
 have:=T.hw
 exact ae2 T.hm (by omega) o ds T.wQ T.jQ T.je (by omega) T.I1 (by omega) T.hd
theorem oF.laid{w m:Nat}{sh:List aX}{o:Int}{ds:List aS}(T:oF w m sh o ds):xM w o (cU ds)=some (aA bR (eY ⟨o,ds⟩),true):=by
 have:=T.he
 have:=T.sP
 have:=T.hw
 rw[U3 T.hm (by omega) o ds T.wQ T.jQ T.je (by omega) T.I1 (by omega) T.hd,au (by omega)]
theorem oF.check{w m:Nat}{sh:List aX}{o:Int}{ds:List aS}(T:oF w m sh o ds):tC w o (cU ds) (cf sh)=some 0:=by
 have:=T.hw
 have:=pK ds 8
 exact afn T.hm (by omega) sh T.ok T.sO T.s0 T.bJ T.ho ds T.cF T.je T.hd T.jQ T.hh (by omega) T.cw
theorem Tw(v:List UInt8)(n:Nat)(pre:List UInt8)(hv:v.length=2)(hp:pre.length=2){L:Nat}(hL:L=2+n):aU 0 (List.take (Nat.min 2 L*1) (v.map aV)) ((pre++bg n).map aV)=(v++bg n).map aV:=by
 rw[eE (by grind)]
 have:=KC [] v pre (bg n) (by omega) 0 rfl
 grind
theorem UT{w m:Nat}{sh:List aX}{o:Int}{ds:List aS}(T:oF w m sh o ds):Bc w o (cU ds) (cf sh)=some (ag (ed ⟨o,ds⟩ sh),0):=by
 have t1:=T.he
 have t2:=T.uG
 have t3:=T.I1
 have t4:=T.zx
 have hpos:=XD (e:=8) T.cF
 have hev:aE 8=8:=rfl
 unfold Bc EC Lp
 rw[T.check,T.cw,T.laid]
 simp only[az,show aj 0 0=true from rfl,bO,aC,bP]
 obtain⟨L,hL⟩:∃L,ef 8 ds=L:=⟨_,rfl⟩
 rw[hL] at t1 hpos⊢
 have r1:L.ble L=true:=by rw[iO];exact aK _
 have r2:L.ble 1000000000=true:=by rw[iO];exact t1
 have e2:Nat.min 2 L=2:=by show min _ _=_;omega
 have hrep:rep L (Value.int IntKind.u8 0).cells.toList=(bg L).map aV:=rJ L
 have hz:bg L=bg 2++bg (L -2):=by rw[<-py];congr 1;omega
 have r3:∀v:List UInt8,v.length=L->(0+Nat.min 2 L*1).ble (v.map aV).length=true:=by
  intro v hv
  rw[e2,cH,hv,iO];omega
 simp only[r1,r2,jF,aB,hrep,mQ,eD]
 rw[r3 _ (iZ L),aB]
 have m1:List.map (λ(b:UInt8)=>Value.int IntKind.u8 (Int.ofNat b.toNat)) (ByteArray.mk #[77,77]).data.toList=[(77:UInt8),77].map aV:=rfl
 have m2:List.map (λ(b:UInt8)=>Value.int IntKind.u8 (Int.ofNat b.toNat)) (ByteArray.mk #[73,73]).data.toList=[(73:UInt8),73].map aV:=rfl
 rw[m1,m2,hz,Tw [77,77] (L -2) (bg 2) rfl rfl (by omega)]
 have hz2:bg (L -2)=bg 2++bg (L -4):=by rw[<-py];congr 1;omega
 have hz3:bg (L -4)=bg 4++([]++bg (L -8)):=by rw[fU,<-py];congr 1;omega
 have W:yF w m sh o L (eY ⟨o,ds⟩):=⟨T.hm,T.hw,T.ok,T.bJ,T.ho,by omega,by omega,t2,t4⟩
 have fin:∀sg:List UInt8,sg.length=2->(ob (rR w 2 42 2 L L o (aA bR (eY ⟨o,ds⟩)) (cf sh) 0 ((sg++bg (L -2)).map aV)) λ(x53:Nat×Nat×Int×Value×Value×Int×List Value)=>aq (cU ds) λ(x54:Nat)=>NT w (cf sh) 0 4 (cU ds) (Int.ofNat x54) 0 x53.fst x53.snd.fst x53.snd.snd.fst x53.snd.snd.snd.fst x53.snd.snd.snd.snd.fst x53.snd.snd.snd.snd.snd.fst x53.snd.snd.snd.snd.snd.snd)=some (ag (sg++(aW 42 2 o++(aW 8 4 o++kh o sh 0 8 ds))),0):=by
  intro sg hsg
  rw[hz2,MD (by omega) sg (bg 2) (bg (L -4)) 42 2 (.inl rfl) (by decide) T.ho _ _ 0 (iZ 2) L (by simp only[aR,iZ];omega) (by omega) (2:Int) (by omega) (2:Int) rfl (42:Int) rfl]
  simp only[az]
  unfold cU
  rw[cd]
  have:=ahm W ds T.je T.hd T.jQ T.hh T.s0 T.cF rfl T.sP hL.symm (sg++aW 42 2 o) (by rw[aR,er,hsg])
  have e4:(((sg++aW 42 2 o).length:Nat):Int)=4:=by rw[aR,er,hsg];rfl
  rw[e4] at this
  unfold cU at this
  rw[hz3]
  simp at this⊢
  exact this
 rcases T.ho with ho|ho
 ·have hb:=Tw [73,73] (L -2) [77,77] rfl rfl (L:=L) (by omega)
  simp only[ho,show aj 1 1=true from rfl,aB]
  have r4:(0+Nat.min 2 L*1).ble (([77,77]++bg (L -2)).map aV).length=true:=r3 _ (by simp[iZ];omega)
  have f:=fin [73,73] rfl
  rw[ho] at f
  simp only[r4,hb,aB]
  refine Eq.trans ?_ (f.trans ?_)
  ·rfl
  ·unfold ed;rfl
 ·simp only[ho,show aj 2 1=false from rfl,aC]
  have f:=fin [77,77] rfl
  rw[ho] at f
  refine Eq.trans ?_ (f.trans ?_)
  ·rfl
  ·unfold ed;rfl
end
end Lt
end Go.Proofs.YtcfjfbeadhnknaaGreatDoor

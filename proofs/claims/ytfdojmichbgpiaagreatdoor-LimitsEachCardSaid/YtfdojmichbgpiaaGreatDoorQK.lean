import Derived.Laws.Append
import Derived.Test.YtfdojmichbgpiaaGreatDoorQJ
namespace Go.Proofs.YtfdojmichbgpiaaGreatDoor
namespace Lt
section
set_option maxRecDepth 100000
noncomputable section
abbrev K(g:FuncId)(a:List VT)(r:VT)(S:Fn (VT.fo a) (Option (cM r.ks))):=dI Tryz.prog g a r S
abbrev KH(g:FuncId)(T:HT)(S:Fn T.ti.ks (Option (cM T.to.ks))):=pq Tryz.prog g T S
abbrev KP(g:FuncId)(T:PT)(S:Fn T.ti.ks (Option (cM T.to.ks⊕cM T.tp.ks))):=tq Tryz.prog g T S
abbrev ln:Nat->Option cZ:=λ_=>none
abbrev lc(k:Nat)(a:List (Nat×VT))(b:List (Nat×OT))(c:Nat)(r:Nat->Option cZ):Nat->Option cZ:=λn=>cond (Nat.beq n k) (some ⟨a,b,c⟩) (r n)
abbrev ul:Nat->Bool:=λn=>Nat.blt n 100000
abbrev PO(pt:(β:Type)->FuncId->Option (dJ β)):=mJ Tryz.prog pt
theorem pn:PO (λ_ _=>none):=wE
variable{g:FuncId} {pt:(β:Type)->FuncId->Option (dJ β)}
theorem pa(p:PO pt){a:List VT}{r:VT}{S:Fn (VT.fo a) (Option (cM r.ks))}(F:K g a r S):PO (LG pt g a r S):=iZ p F
variable{T:HT} {S:Fn T.ti.ks (Option (cM T.to.ks))}
theorem ph(p:PO pt)(F:KH g T S):PO (LH pt g T S):=qa p F
theorem pp(p:PO pt){T:PT}{S:Fn T.ti.ks (Option (cM T.to.ks⊕cM T.tp.ks))}(F:KP g T S):PO (LI pt g T S):=qb p F
theorem fh(fn:Func)(p:PO pt)(w:Nat)(lv:Nat->Option cZ:=λ_=>none)(un:Nat->Bool:=λ_=>false)
 (hF:qj.F.get g=some fn:=by kernel_rfl) (hb:fn.body=some (fn.body.getD .skip):=by kernel_rfl) (hS:S=P5 w qj pt fn T lv (λ_=>none) un:=by kernel_rfl):KH g T S:=
 J4 (w:=w) (lv:=lv) (jv:=λ_=>none) (un:=un) sU mixed p (fn:=fn) hF hb hS
theorem fp(fn:Func){T:PT}(p:PO pt)(w:Nat){S:Fn T.ti.ks (Option (cM T.to.ks⊕cM T.tp.ks))}(lv:Nat->Option cZ:=λ_=>none)(un:Nat->Bool:=λ_=>false)
 (hF:qj.F.get g=some fn:=by kernel_rfl) (hb:fn.body=some (fn.body.getD .skip):=by kernel_rfl) (hS:S=P7 w qj pt fn T lv (λ_=>none) un:=by kernel_rfl):KP g T S:=
 Rr (w:=w) (lv:=lv) (jv:=λ_=>none) (un:=un) sU mixed p (fn:=fn) hF hb hS
abbrev oL:List (Nat×OT):=[(0,.cells [.v,vI,.v,.sl 1 0,.gr 2 5,vI,vI] 220),(1,.arr 362),(2,.grow 5 243)]
abbrev tA:List (Nat×OT):=[(0,.cells [.v,vI,.v,.v,.v,.v,.v,.v,.v,.v,.v,.v,vI,vI] 103)]
abbrev vl:List (Nat×OT):=[(0,.cells [vI,vI,.gr 1 5] 307),(1,.grow 5 243)]
abbrev vm:List (Nat×OT):=[(0,.cells [.sl 1 0,vI,.v,.v,vI] 249),(1,.arr 5)]
abbrev vn:List (Nat×OT):=[(0,.cells [.v] 66),(1,.cells [.gr 2 1] 71),(2,.grow 1 3)]
abbrev DJ:List (Nat×OT):=[(0,.grow 1 3),(1,.cells [.gr 2 1] 71),(2,.grow 1 3)]
abbrev PE:List (Nat×OT):=[(0,.cells [.v,vI,.v,.sl 6 0,.gr 7 5,vI,vI] 220),(3,.cells [.gr 8 4,.gr 9 4,.v] 179),(4,.cells [.v,vI,vI,vI] 176),(6,.arr 362),(7,.grow 5 243),(8,.grow 4 73),(9,.grow 4 237)]
abbrev vo:List (Nat×OT):=[(0,.cells [.v,vI] 163)]
abbrev AB:cZ:=⟨[(0,.eR 277 (.agg [vI]))],oL,3⟩
abbrev PF:List (Nat×OT):=[(0,.cells [.sl 1 0,vI,.v,.v,vI] 249),(2,.cells [.v,.v,.v] 179),(3,.cells [.v,vI,vI,vI] 176),(4,.cells [.gr 5 4] 314),(1,.arr 5),(5,.grow 4 317)]
abbrev Py:List (Nat×OT):=[(0,.cells [vI,vI,.gr 2 1] 68),(1,.cells [vI,vI,.gr 3 1] 68),(2,.grow 1 5),(3,.grow 1 5)]
abbrev IY:cZ:=⟨[(0,.eR 159 (.agg [vI,vI]))],vo,1⟩
abbrev IZ:List (Nat×OT):=[(0,.cells [vI,.v,.v,.v,.v,.v,.v,.v] 274)]
abbrev AA:List (Nat×VT):=[(0,.ptr 0 0),(1,vI)]
abbrev I3:cZ:=⟨[(0,.sl 0 0)],[(0,.arr 5)],1⟩
abbrev I4:List (Nat×OT):=[(0,.cells [.gr 1 3] 92),(1,.grow 3 96)]
abbrev Pz:cZ:=⟨[(0,.aH [])],[(0,.cells [.gr 1 4] 314),(1,.grow 4 317)],2⟩
abbrev I5:cZ:=⟨[(0,.aH [.v,.b])],tA,1⟩
abbrev PA:cZ:=⟨[(0,.ptr 0 0),(1,vI),(2,vI),(3,vI)],vm,2⟩
abbrev I6:cZ:=⟨[(0,.ptr 0 0)],oL,3⟩
abbrev PB:cZ:=⟨[(0,.gr 0 1),(1,.fn 190 [.ptr 1 0])],DJ,3⟩
abbrev I7:cZ:=⟨[(0,.aH [])],vl,2⟩
abbrev PC:List (Nat×OT):=[(0,.cells [.gr 2 4] 314),(1,.arr 317),(2,.grow 4 317)]
abbrev PD:cZ:=⟨[(0,.ptr 0 0),(1,vI),(2,vI)],oL,3⟩
theorem fr(fn:Func){avt:List VT}{rvt:VT}(PT:mJ Tryz.prog pt)(w:Nat){Sh:Fn (VT.fo avt) (Option (cM rvt.ks))}(lv:Nat->Option cZ:=λ_=>none)(un:Nat->Bool:=λ_=>false)
 (hF:qj.F.get g=some fn:=by kernel_rfl) (hb:fn.body=some (fn.body.getD .skip):=by kernel_rfl) (ht:si avt=true:=by kernel_rfl) (hS:Sh=P6 w qj pt fn avt rvt lv (λ_=>none) un:=by kernel_rfl):dI Tryz.prog g avt rvt Sh:=
 ZM (w:=w) (lv:=lv) (jv:=λ_=>none) (un:=un) sU mixed PT (fn:=fn) hF hb ht hS
theorem acC(w:Nat):K 229 [vI,.lp [vI]] (.b) (NK w):=fr Tryz.f229 pn w
theorem TO(w:Nat):K 248 [.v,.fn 229 [.lp [vI]]] vI (Hf w):=fr Tryz.f248 (pa pn (acC w)) w (lc 0 [(0,.v),(1,.fn 229 [.oV]),(7,vI),(8,vI)] [] 0 ln)
theorem TD(w:Nat):K 189 [.v,.fn 229 [.lp [vI]]] (.b) (NH w):=fr Tryz.f189 (pa pn (TO w)) w
theorem BO(w:Nat):K 175 [vI,vI] (.b) (re w):=fr Tryz.f175 (pa pn (TD w)) w
theorem TA(w:Nat):K 176 [vI] vI (zy w):=fr Tryz.f176 pn w
theorem acf(w:Nat):KH 177 ⟨1,I3,1,⟨[(0,.aH [])],[(0,.arr 5)],1⟩⟩ (GX w):=fh Tryz.f177 pn w (lc 0 [(0,.sl 0 0),(2,vI),(3,vI)] [(0,.arr 5)] 1 ln)
theorem su(w:Nat):K 109 [vI,vI,vI] (.aH [.v,.b]) (gR w):=fr Tryz.f109 (ph (pa (pa pn (BO w)) (TA w)) (acf w)) w (lc 0 [(0,vI),(1,vI),(2,vI),(8,.sl 0 0),(27,vI),(28,vI)] [(0,.arr 5)] 1 ln)
theorem TQ(w:Nat):K 286 [vI] (.b) (zO w):=fr Tryz.f286 (pa pn (su w)) w
theorem adf(w:Nat):K 287 [.v,vI,vI] (.b) (Hn w):=fr Tryz.f287 pn w
theorem TN(w:Nat):K 233 [.v] (.b) (ri w):=fr Tryz.f233 (pa (pa pn (TQ w)) (adf w)) w (lc 0 [(0,.v),(15,.v),(16,vI),(17,vI)] [] 0 (lc 2 [(0,.v),(3,vI),(4,.ptr 0 0),(15,.v),(16,vI),(17,vI),(23,.v),(24,vI),(25,vI)] [(0,.cells [.v,vI,vI,vI] 176)] 1 ln))
theorem Fl(w:Nat):K 203 [.agg [.v,.v,.v]] vI (jT w):=fr Tryz.f203 pn w
theorem adT(w:Nat):K 374 [.agg [vI,vI],.lp [vI]] (.b) (Ol w):=fr Tryz.f374 pn w
theorem Fm(w:Nat):K 262 [.v,.fn 374 [.lp [vI]]] vI (NS w):=fr Tryz.f262 (pa pn (adT w)) w (lc 0 [(0,.v),(1,.fn 374 [.oV]),(7,vI),(8,vI)] [] 0 ln)
theorem TU(w:Nat):K 334 [.v,.fn 374 [.lp [vI]]] (.b) (CI w):=fr Tryz.f334 (pa pn (Fm w)) w
theorem adM(w:Nat):K 353 [.agg [.v,vI,vI,vI],vI] (.b) (CN w):=fr Tryz.f353 (pa pn (TU w)) w
theorem ac9(w:Nat):K 271 [] (.agg [vI,vI,vI,vI,vI,vI,vI,vI,vI,vI,vI,vI,vI,vI,vI,vI,vI,vI,vI,vI,vI,vI,vI,vI,vI,vI,vI,vI,vI,vI,vI,vI,vI,vI,vI,vI,vI,vI,vI]) (V2 w):=fr Tryz.f271 pn w
theorem yT(w:Nat):K 210 [vI] (.agg [vI,vI,vI]) (sP w):=fr Tryz.f210 (pa pn (ac9 w)) w
theorem wx(w:Nat):K 243 [.agg [vI,vI,.v]] (.b) (qi w):=fr Tryz.f243 (pa (pa pn (yT w)) (adm w)) w
theorem adx(w:Nat):K 315 [.agg [.v],.agg [.v,.v,.v],.agg [.v,vI,vI,vI]] (.b) (Hv w):=fr Tryz.f315 (pa (pa (pa pn (TQ w)) (adM w)) (wx w)) w (lc 0 [(4,.ptr 1 0),(5,.ptr 2 0),(10,.v),(11,vI),(12,vI)] [(1,.cells [.v,.v,.v] 179),(2,.cells [.v,vI,vI,vI] 176)] 3 ln)
theorem ady(w:Nat):K 316 [.agg [vI,vI],.lp [vI,.v,.v,.v]] (.b) (Oc w):=fr Tryz.f316 pn w
theorem Fo(w:Nat):K 262 [.v,.fn 316 [.lp [vI,.v,.v,.v]]] vI (NT w):=fr Tryz.f262 (pa pn (ady w)) w (lc 0 [(0,.v),(1,.fn 316 [.oV]),(7,vI),(8,vI)] [] 0 ln)
theorem acZ(w:Nat):K 259 [.agg [.v],.agg [.v,.v,.v],vI] (.b) (NQ w):=ZG (λrec h=>fr Tryz.f259 (iZ (iZ (iZ (iZ wE (Fl w)) (adx w)) (Fo w)) h) w (lv:=λn=>(cond (Nat.beq n 0) (some ⟨[(3,.ptr 0 0),(4,.ptr 1 0),(7,.ptr 2 0),(44,.v),(45,vI),(46,vI)],[(0,.cells [.v] 311),(1,.cells [.v,.v,.v] 179),(2,.cells [.v,vI,vI,vI] 176)],3⟩) none))) w
theorem adu(w:Nat):K 312 [.agg [vI,vI,vI,.v]] (.b) (Oa w):=fr Tryz.f312 (pa pn (wx w)) w
theorem adK(w:Nat):K 351 [.v,.fn 312 []] vI (Oi w):=fr Tryz.f351 (pa pn (adu w)) w (lc 0 [(0,.v),(1,.fn 312 []),(7,vI),(8,vI)] [] 0 ln)
theorem adt(w:Nat):K 311 [.v,.fn 312 []] (.b) (nt w):=fr Tryz.f311 (pa pn (adK w)) w
theorem acX(w:Nat):K 256 [.agg [vI,.v]] .b (wU w):=abg (Fl w) (adt w) w
theorem adL(w:Nat):K 352 [vI] vI (HU w):=fr Tryz.f352 pn w
theorem adv(w:Nat):KH 313 ⟨2,⟨AA,vl,2⟩,2,⟨[(0,vI)],vl,2⟩⟩ (Ob w):=fh Tryz.f313 (pa pn (adL w)) w
theorem Ld(w:Nat):KH 257 ⟨5,⟨[(0,.ptr 0 0),(1,vI),(2,vI),(3,vI),(4,vI)],vl,2⟩,1,I7⟩ (wV w):=fh Tryz.f257 (ph pn (adv w)) w
theorem TV(w:Nat):K 336 [vI] vI (CJ w):=fr Tryz.f336 (pa pn (yT w)) w
theorem T3(w:Nat):K 368 [vI,vI] vI (CP w):=fr Tryz.f368 (pa pn (TV w)) w
theorem TW(w:Nat):K 337 [vI,vI] vI (CL w):=fr Tryz.f337 (pa pn (T3 w)) w
theorem adw(w:Nat):KH 314 ⟨4,⟨[(0,.ptr 0 0),(1,.agg [.v,.v,.v]),(2,vI),(3,.fn 65793 [.ptr 0 0])],vl,2⟩,1,I7⟩ (Hu w):=fh Tryz.f314 (ph (pa pn (TW w)) (Ld w)) w (lc 0 [(2,vI),(3,.fn 65793 [.ptr 0 0]),(12,.v),(13,vI),(14,vI)] vl 3 ln)
theorem acY(w:Nat):KH 258 ⟨2,⟨[(0,.ptr 0 0),(1,.agg [.v,.v,.v])],vl,2⟩,1,I7⟩ (NP w):=Rq (λrec h=>J4 (w:=w) (lv:=λn=>(cond (Nat.beq n 0) (some ⟨[(0,.ptr 0 0),(3,.ptr 2 0),(4,vI),(33,.v),(34,vI),(35,vI)],[(0,.cells [vI,vI,.gr 6 5] 307),(2,.cells [.v,.v,.v] 179),(6,.grow 5 243)],7⟩) none)) (jv:=λ_=>none) (un:=λn=>false) sU mixed (qa (qa (qa (iZ wE (Fl w)) (Ld w)) (adw w)) h) (fn:=Tryz.f258) (by kernel_rfl) (by kernel_rfl) (by kernel_rfl)) w
theorem TI(w:Nat):K 199 [.agg [vI,.v]] (.aH [.v,.b]) (zF w):=fr Tryz.f199 (ph (ph (pa pn (acX w)) (Ld w)) (acY w)) w (lc 0 [(4,.ptr 1 0),(15,.v),(16,vI),(17,vI)] [(1,.cells [vI,vI,.gr 3 5] 307),(3,.grow 5 243)] 4 ln)
theorem K4(w:Nat):K 138 [.agg [vI,.v]] vI (sN w):=fr Tryz.f138 (pa pn (TI w)) w
theorem TJ(w:Nat):K 200 [.agg [vI,.v],.v] vI (uK w):=fr Tryz.f200 (pa (pa (pa pn (TN w)) (acZ w)) (K4 w)) w (lc 0 [(1,.v),(2,.ptr 0 0),(5,.gr 1 1),(6,vI)] [(0,.cells [vI,.v] 113),(1,.grow 1 3)] 2 (lc 2 [(1,.v),(2,.ptr 0 0),(5,.gr 1 1),(54,.v),(55,vI),(56,vI)] [(0,.cells [vI,.v] 113),(1,.grow 1 3)] 2 ln))
theorem TK(w:Nat):KH 201 ⟨4,PA,2,⟨[(0,.aH [])],vm,2⟩⟩ (sO w):=fh Tryz.f201 (pa pn (su w)) w
theorem TB(w:Nat):KH 177 ⟨1,⟨[(0,.CZ 0)],[(0,.arr 5)],1⟩,1,⟨[(0,.aH [])],[(0,.arr 5)],1⟩⟩ (uI w):=fh Tryz.f177 pn w (lc 0 [(0,.CZ 0),(2,vI),(3,vI)] [(0,.arr 5)] 1 ln)
theorem TZ(w:Nat):KH 354 ⟨3,⟨[(0,.v),(1,vI),(2,vI)],[],0⟩,0,I3⟩ (CO w):=fh Tryz.f354 (ph (pa pn (BO w)) (TB w)) w (lc 0 [(1,vI),(2,vI),(7,.sl 0 0),(8,vI)] [(0,.arr 5)] 1 ln)
theorem adA(w:Nat):KH 318 ⟨2,⟨[(0,.agg [vI,vI,.v]),(1,vI)],[],0⟩,0,I3⟩ (Hz w):=fh Tryz.f318 (ph (pa (pa pn (wx w)) (yT w)) (TZ w)) w
theorem Fe(w:Nat):K 121 [.v,vI,vI,vI] (.aH [vI,.b]) (sL w):=fr Tryz.f121 (pa pn (BO w)) w (lc 0 [(0,.v),(1,vI),(2,vI),(3,vI),(10,vI),(29,vI),(30,vI)] [] 0 ln)
theorem adz(w:Nat):K 317 [vI,.agg [vI,vI,.v],vI] (.aH [.agg [vI,vI,vI,vI],.b]) (Hy w):=fr Tryz.f317 (pa (ph (pa pn (su w)) (adA w)) (Fe w)) w
theorem adD(w:Nat):K 320 [.agg [vI,vI,vI,vI,vI],.lp [vI],.lp [vI],.lp [vI]] (.b) (Oe w):=fr Tryz.f320 pn w
theorem adC(w:Nat):K 319 [.v,.fn 320 [.lp [vI],.lp [vI],.lp [vI]]] vI (Od w):=fr Tryz.f319 (pa pn (adD w)) w (lc 0 [(0,.v),(1,.fn 320 [.oV,.oV,.oV]),(7,vI),(8,vI)] [] 0 ln)
theorem TP(w:Nat):KH 265 ⟨4,PA,2,⟨[(0,vI)],vm,2⟩⟩ (uM w):=fh Tryz.f265 (pa pn (adC w)) w
theorem adB(w:Nat):K 318 [.agg [vI,vI,.v],vI] (.v) (HD w):=fr Tryz.f318 (ph (pa (pa pn (wx w)) (yT w)) (TZ w)) w
theorem ac2(w:Nat):KH 261 ⟨3,⟨[(0,.ptr 0 0),(1,.agg [vI,vI,vI,.v]),(2,vI)],vm,2⟩,1,⟨[(0,.agg [vI,vI,vI,vI])],vm,2⟩⟩ (zL w):=fh Tryz.f261 (pa (ph (pa pn (adz w)) (TP w)) (adB w)) w
theorem ac0(w:Nat):KH 260 ⟨2,⟨[(0,.w7 1 0 1 1),(1,.ptr 0 0)],PC,3⟩,1,Pz⟩ (CE w):=fh Tryz.f260 pn w
theorem ac5(w:Nat):K 263 [.agg [vI,vI],.lp [vI,.v,.v,.v]] (.b) (NZ w):=fr Tryz.f263 pn w
theorem Le(w:Nat):K 262 [.v,.fn 263 [.lp [vI,.v,.v,.v]]] vI (NU w):=fr Tryz.f262 (pa pn (ac5 w)) w (lc 0 [(0,.v),(1,.fn 263 [.oV]),(7,vI),(8,vI)] [] 0 ln)
theorem ac6(w:Nat):K 264 [vI,vI] (.agg [vI,vI,vI,vI]) (uL w):=fr Tryz.f264 pn w
theorem ac1(w:Nat):KH 260 ⟨2,⟨[(0,.w7 1 0 2 2),(1,.ptr 0 0)],PC,3⟩,1,Pz⟩ (CF w):=fh Tryz.f260 pn w
theorem ac8(w:Nat):K 268 [.agg [vI,vI,vI,vI],vI] (.aH [.v,.b]) (Hm w):=fr Tryz.f268 (pa pn (su w)) w ln ul
theorem acy(w:Nat):KH 202 ⟨3,⟨[(0,.ptr 0 0),(1,.agg [.v,.v,.v]),(2,vI)],vm,2⟩,1,⟨[(0,vI)],vm,2⟩⟩ (G6 w):=Rq (λrec h=>J4 (w:=w) (lv:=λn=>(cond (Nat.beq n 0) (some ⟨[(0,.ptr 0 0),(4,.ptr 2 0),(7,vI),(8,.ptr 3 0),(9,.ptr 4 0),(10,.fn 260 [.ptr 4 0]),(42,.v),(43,vI),(44,vI)],PF,6⟩) (cond (Nat.beq n 2) (some ⟨[(0,.ptr 0 0),(4,.ptr 2 0),(7,vI),(8,.ptr 3 0),(9,.ptr 4 0),(10,.fn 260 [.ptr 4 0]),(57,.v),(58,vI),(59,vI)],PF,6⟩) (cond (Nat.beq n 4) (some ⟨[(0,.ptr 0 0),(17,vI),(126,.gr 10 4),(127,vI),(128,vI)],[(0,.cells [.sl 1 0,vI,.v,.v,vI] 249),(10,.grow 4 317),(1,.arr 5)],16⟩) none)))) (jv:=λ_=>none) (un:=λn=>false) sU mixed (qa (iZ (qa (qa (qa (iZ (qa (iZ (qa (qa (iZ (iZ wE (Fo w)) (Fm w)) (ac2 w)) (ac0 w)) (Le w)) (TP w)) (ac6 w)) (ac1 w)) (ac7 w)) (TK w)) (ac8 w)) h) (fn:=Tryz.f202) (by kernel_rfl) (by kernel_rfl) (by kernel_rfl)) w
theorem K5(w:Nat):K 139 [.agg [vI,.v],.v] (.aH [.v,vI]) (Cu w):=fr Tryz.f139 (pa (ph (ph (pa (pa (pa pn (TJ w)) (K4 w)) (TI w)) (TK w)) (acy w)) (Fl w)) w (lc 0 [(1,.v),(7,.ptr 2 0),(8,vI),(9,vI),(56,.v),(57,vI),(58,vI)] [(2,.cells [.sl 1 0,vI,.v,.v,vI] 249),(1,.arr 5)] 5 ln)
theorem aen(w:Nat):K 95 [.agg [vI,.v,.v,.v,.v,.v,.v,.v]] (.agg [vI,.v,vI,.v,vI,.v,vI,.v,vI,.v]) (OD w):=fr Tryz.f95 pn w
theorem acj(w:Nat):K 182 [] .v (Ny w):=ZK sU (n:=200000) (by kernel_rfl) (by kernel_rfl)
theorem adJ(w:Nat):K 340 [.v,.agg [vI,vI]] vI (Oh w):=fr Tryz.f340 pn w (lc 0 [(0,.v),(3,.ptr 0 0),(7,vI),(8,vI)] [(0,.cells [vI,vI] 292)] 1 ln)
theorem adl(w:Nat):K 294 [.v,.agg [vI,vI]] (.b) (N5 w):=fr Tryz.f294 (pa pn (adJ w)) w
theorem acH(w:Nat):K 242 [vI,vI] (.b) (Hd w):=fr Tryz.f242 (pa pn (adl w)) w
theorem adn(w:Nat):K 296 [.v,vI] vI (N6 w):=fr Tryz.f296 pn w (lc 0 [(0,.v),(1,vI),(7,vI),(8,vI)] [] 0 ln)
theorem acI(w:Nat):K 244 [.v,vI] (.b) (He w):=fr Tryz.f244 (pa pn (adn w)) w
theorem ack(w:Nat):K 183 [.v,vI,.agg [vI,vI,vI,.v]] (.b) (Cy w):=fr Tryz.f183 (pa (pa (pa pn (wx w)) (acH w)) (acI w)) w
theorem Fc(w:Nat):K 118 [vI,.v] (.b) (o7 w):=fr Tryz.f118 (pa (pa pn (acj w)) (ack w)) w (lc 0 [(0,vI),(1,.v),(5,.v),(9,.v),(10,vI),(11,vI)] [] 0 ln)
theorem acS(w:Nat):K 251 [.v] vI (Hk w):=fr Tryz.f251 pn w (lc 0 [(0,.v),(3,vI),(4,vI)] [] 0 ln)
theorem TH(w:Nat):K 195 [.v] (.b) (zC w):=fr Tryz.f195 (pa pn (acS w)) w
theorem TG(w:Nat):K 193 [.agg [vI,.v,.v,.v,.v,.v,.v,.v]] vI (Cz w):=fr Tryz.f193 (pa (pa (pa pn (aen w)) (Fc w)) (TH w)) w ln ul
theorem acP(w:Nat):KH 250 ⟨1,⟨[(0,.v)],[],0⟩,0,⟨[(0,.gr 0 4)],[(0,.grow 4 73)],1⟩⟩ (Hj w):=fh Tryz.f250 pn w
theorem aca(w:Nat):K 169 [.v] (.v) (Nw w):=fr Tryz.f169 pn w
theorem uj(w:Nat):K 169 [.em false] (.v) (af5 w):=fr Tryz.f169 pn w ln ul
theorem uk(w:Nat):K 169 [.em true] (.v) (af6 w):=fr Tryz.f169 pn w ln ul
theorem sw(w:Nat):K 169 [.v] .v (nk w):=J5 (aca w) (show dI Tryz.prog 169 [.em false] .v (some (ae 0 [])) from uj w) (show dI Tryz.prog 169 [.em true] .v (some (ae 0 [])) from uk w)
theorem acu(w:Nat):K 194 [.v] (.v) (NI w):=fr Tryz.f194 (pa (ph pn (acP w)) (sw w)) w (lc 0 [(3,.gr 0 4),(8,vI),(9,vI)] [(0,.grow 4 73)] 1 ln)
theorem acQ(w:Nat):K 250 [.em false] (.v) (agy w):=fr Tryz.f250 pn w ln ul
theorem Fi(w:Nat):K 194 [.em false] (.v) (agk w):=fr Tryz.f194 (pa (pa (pa (pa pn (sw w)) (uk w)) (uj w)) (acQ w)) w ln ul
theorem acR(w:Nat):K 250 [.em true] (.v) (agz w):=fr Tryz.f250 pn w ln ul
theorem Fj(w:Nat):K 194 [.em true] (.v) (agl w):=fr Tryz.f194 (pa (pa (pa (pa pn (sw w)) (uk w)) (uj w)) (acR w)) w ln ul
theorem Fk(w:Nat):K 194 [.v] .v (lJ w):=J5 (acu w) (show dI Tryz.prog 194 [.em false] .v (some (ae 0 [])) from Fi w) (show dI Tryz.prog 194 [.em true] .v (some (ae 0 [])) from Fj w)
theorem acU(w:Nat):K 253 [.v] (.agg [vI,vI,vI,.v]) (Hl w):=fr Tryz.f253 (pa (pa (pa pn (sw w)) (uk w)) (uj w)) w
theorem K9(w:Nat):K 185 [.agg [vI,vI,.v]] (.agg [vI,vI,.v]) (uJ w):=fr Tryz.f185 (pa (pa (pa pn (sw w)) (uk w)) (uj w)) w
theorem ado(w:Nat):K 297 [vI] (.b) (Ht w):=fr Tryz.f297 pn w
theorem acL(w:Nat):K 247 [vI,vI] vI (NM w):=fr Tryz.f247 (pa pn (ado w)) w
theorem acK(w:Nat):K 246 [.agg [vI,vI,vI,.v],vI] vI (wT w):=fr Tryz.f246 (pa pn (acL w)) w
theorem acJ(w:Nat):K 245 [.v,vI,.fn 246 []] (.aH [vI,.b]) (NL w):=fr Tryz.f245 (pa pn (acK w)) w (lc 0 [(0,.v),(1,vI),(2,.fn 246 []),(8,vI),(9,vI),(10,vI)] [] 0 ln)
theorem K8(w:Nat):K 184 [.v,vI] (.aH [vI,.b]) (zz w):=fr Tryz.f184 (pa pn (acJ w)) w
theorem acT(w:Nat):K 252 [.v,.agg [vI,vI,vI,.v]] .v (CD w):=afH (K9 w) (K8 w)
theorem acv(w:Nat):K 196 [.agg [vI,.v,.v,.v,.v,.v,.v,.v]] (.agg [.v,.v,.v]) (G5 w):=fr Tryz.f196 (pa (pa (pa (pa (pa pn (Fk w)) (Fj w)) (Fi w)) (acU w)) (acT w)) w
theorem adr(w:Nat):K 309 [.i .u64] vI (V5 w):=fr Tryz.f309 pn w
theorem acW(w:Nat):K 255 [.i .u64] vI (V1 w):=fr Tryz.f255 (pa pn (adr w)) w
theorem acx(w:Nat):K 198 [.agg [vI,.v,.v,.v],.agg [vI,.v,.v,.v]] vI (VW w):=fr Tryz.f198 pn w
theorem adq(w:Nat):K 300 [.v,vI,vI,.fn 198 []] (.aH []) (V4 w):=fr Tryz.f300 (pa pn (acx w)) w (lc 0 [(0,.v),(1,vI),(2,vI),(3,.fn 198 []),(8,vI)] [] 0 (lc 2 [(0,.v),(1,vI),(2,vI),(3,.fn 198 []),(8,vI),(9,vI)] [] 0 ln))
theorem acV(w:Nat):K 254 [.v,vI,vI,vI,.fn 198 []] (.aH []) (V0 w):=fr Tryz.f254 (pa pn (adq w)) w (lc 0 [(0,.v),(1,vI),(2,vI),(3,vI),(4,.fn 198 []),(10,.b),(11,.b)] [] 0 ln)
theorem acw(w:Nat):K 197 [.v,.fn 198 []] (.aH []) (o8 w):=fr Tryz.f197 (pa (pa pn (acW w)) (acV w)) w
theorem Tu(w:Nat):K 137 [.agg [vI,.v,.v,.v,.v,.v,.v,.v]] (.aH [.agg [vI,.v],vI]) (Ct w):=fr Tryz.f137 (pa (pa (pa (pa (pa (pa pn (TG w)) (Fk w)) (TH w)) (acv w)) (sw w)) (acw w)) w ln (λn=>Nat.beq n 100011)
theorem K6(w:Nat):K 140 [] (.v) (Cv w):=fr Tryz.f140 pn w
theorem Lm(w:Nat):K 76 [.agg [vI,.v,.v,.v,.v,.v,.v,.v]] (.aH [.v,vI]) (Ii w):=fr Tryz.f76 (pa (pa (pa pn (K5 w)) (Tu w)) (K6 w)) w
theorem Ll(w:Nat):K 75 [.agg [vI,.v,.v,.v,.v,.v,.v,.v]] (.aH [vI,vI]) (Ih w):=fr Tryz.f75 (pa (pa pn (Tu w)) (K4 w)) w
theorem abO(w:Nat):K 120 [.v,vI] (.aH [.agg [vI,vI,.v],.b]) (GF w):=fr Tryz.f120 (pa (pa pn (K8 w)) (K9 w)) w
theorem ade(w:Nat):K 285 [.v,vI] .v (zM w):=Y6 (K9 w) (K8 w)
theorem acD(w:Nat):KH 230 ⟨2,⟨[(0,.ptr 0 0),(1,.agg [.v,.v,.v])],IZ,1⟩,1,⟨[(0,.b)],IZ,1⟩⟩ (Ha w):=fh Tryz.f230 (pa (pa (pa (pa (pa pn (Fk w)) (Fj w)) (Fi w)) (abO w)) (ade w)) w (lc 0 [(0,.ptr 0 0),(35,.v),(36,vI),(37,vI)] IZ 3 ln)
theorem acg(w:Nat):K 179 [.agg [vI,.v]] (.aH [.agg [vI,.v,.v,.v,.v,.v,.v,.v],vI]) (GY w):=fr Tryz.f179 (ph (pa (pa (pa (pa (pa (pa (pa (pa (pa pn (K6 w)) (TJ w)) (Fk w)) (Fj w)) (Fi w)) (sw w)) (uk w)) (uj w)) (TG w)) (acD w)) w (lc 0 [(1,.ptr 0 0),(2,.ptr 1 0),(4,.ptr 2 0),(29,.v),(30,vI),(31,vI)] [(0,.cells [vI,.v] 113),(1,.cells [vI,.v,.v,.v,.v,.v,.v,.v] 30),(2,.cells [vI,.v,.v,.v,.v,.v,.v,.v] 274)] 3 (lc 2 [(2,.ptr 1 0),(4,.ptr 2 0),(55,.v),(56,vI),(57,vI)] [(1,.cells [vI,.v,.v,.v,.v,.v,.v,.v] 30),(2,.cells [vI,.v,.v,.v,.v,.v,.v,.v] 274)] 3 ln))
theorem acm(w:Nat):KH 186 ⟨1,⟨[(0,.ptr 0 0)],[(0,.cells [vI,vI,vI,vI,vI] 59)],1⟩,1,⟨[(0,.agg [.ptr 0 0,.ptr 0 1,.ptr 0 2,.ptr 0 3,.ptr 0 4])],[(0,.cells [vI,vI,vI,vI,vI] 59)],1⟩⟩ (NA w):=fh Tryz.f186 pn w
theorem acn(w:Nat):K 187 [] (.agg [vI,vI,vI,vI,vI]) (wS w):=fr Tryz.f187 pn w
theorem ab4(w:Nat):K 148 [.agg [vI,vI,vI,vI,vI],vI] (.aH [.v,.b]) (GQ w):=fr Tryz.f148 (pa (ph (pa pn (su w)) (acm w)) (acn w)) w ln ul
theorem ada(w:Nat):K 272 [vI,vI] (.aH [vI,.b]) (V3 w):=fr Tryz.f272 (pa (pa pn (BO w)) (TA w)) w
theorem acA(w:Nat):K 212 [.agg [vI,vI,vI],vI] (.aH [.v,.b]) (G9 w):=fr Tryz.f212 (pa (pa pn (su w)) (ada w)) w
theorem acz(w:Nat):KH 211 ⟨3,⟨[(0,vI),(1,.v),(2,.fn 65748 [.agg [vI,vI,vI]])],[],0⟩,0,⟨[(0,.aH [.agg [vI,vI,.gr 0 1],.b])],[(0,.grow 1 5)],1⟩⟩ (G8 w):=fh Tryz.f211 (pa (pa pn (wx w)) (acA w)) w (lc 0 [(2,.fn 65748 [.agg [vI,vI,vI]]),(6,.ptr 0 0),(8,.ptr 1 0),(17,.v),(18,vI),(19,vI)] Py 4 ln)
theorem ab5(w:Nat):K 149 [vI,.v] (.aH [.agg [vI,vI,.v],.b]) (GR w):=fr Tryz.f149 (ph (pa pn (yT w)) (acz w)) w
theorem aeb(w:Nat):K 63 [] (.v) (Ib w):=fr Tryz.f63 pn w
theorem ael(w:Nat):K 84 [.agg [vI,.v,.v]] (.aH [.v,vI]) (Ij w):=fr Tryz.f84 (pa (pa (pa (pa (pa pn (Fc w)) (ab4 w)) (ab5 w)) (aeb w)) (Tv (K5 w))) w (lc 0 [(1,.ptr 0 0),(4,.gr 1 1),(28,.v),(29,vI),(30,vI)] [(0,.cells [vI,.v,.v] 55),(1,.grow 1 5)] 2 ln) (λn=>Nat.beq n 100020)
theorem ab6(w:Nat):K 151 [] (.v) (GS w):=fr Tryz.f151 pn w
theorem aem(w:Nat):K 85 [vI,.v] (.aH [.v,vI]) (Ik w):=fr Tryz.f85 (pa (pa (pa pn (Fc w)) (Tv (K5 w))) (ab6 w)) w
theorem adO(w:Nat):K 36 [.agg [.v],vI] (.aH [.v,vI]) (HZ w):=fr Tryz.f36 (pa (pa pn (ael w)) (aem w)) w (lc 0 [(7,.ptr 2 0),(33,.v),(34,vI),(35,vI)] [(2,.cells [vI,.gr 3 5,.v] 55),(3,.grow 5 59)] 4 ln)
theorem T7(w:Nat):K 97 [vI] vI (CU w):=fr Tryz.f97 pn w
theorem adX(w:Nat):K 49 [.v] (.aH [.v,vI]) (CQ w):=YT (T7 w)
theorem Tx(w:Nat):KP 168 ⟨2,⟨AA,vo,1⟩,1,⟨[(0,.aH [])],vo,1⟩,IY⟩ (wQ w):=fp Tryz.f168 pn w
theorem K1(w:Nat):K 108 [vI] (.b) (zw w):=fr Tryz.f108 pn w
theorem TL(w:Nat):K 227 [vI] (.b) (zH w):=fr Tryz.f227 pn w
theorem Tz(w:Nat):K 171 [vI] (.b) (Cw w):=fr Tryz.f171 (pa (pa pn (K1 w)) (TL w)) w
theorem abG(w:Nat):KP 106 ⟨1,⟨[(0,.ptr 0 0)],vo,1⟩,1,⟨[(0,vI)],vo,1⟩,IY⟩ (uE w):=fp Tryz.f106 (pa (pp pn (Tx w)) (Tz w)) w
theorem acB(w:Nat):K 228 [.v] vI (CA w):=fr Tryz.f228 pn w
theorem Ty(w:Nat):K 170 [.v] vI (zx w):=fr Tryz.f170 (pa (pa pn (TL w)) (acB w)) w (lc 0 [(0,.v),(3,vI)] [] 0 ln)
theorem abF(w:Nat):KP 105 ⟨2,⟨AA,vo,1⟩,1,⟨[(0,.agg [vI,.v,.v])],vo,1⟩,IY⟩ (uD w):=fp Tryz.f105 (pa (pp (pa (pa (pa (pa (pa pn (K1 w)) (Fe w)) (sw w)) (uk w)) (uj w)) (Tx w)) (Ty w)) w
theorem Lj(w:Nat):K 52 [.v] (.aH [.v,vI,vI,vI]) (zS w):=ZD (w:=w) (lv:=λn=>(cond (Nat.beq n 0) (some ⟨[(2,.ptr 0 0),(3,.ptr 1 0),(4,.ptr 2 0),(5,.ptr 3 0),(6,.ptr 4 0)],[(0,.cells [.gr 5 3] 92),(1,.cells [vI] 3),(2,.cells [vI] 3),(3,.cells [vI] 37),(4,.cells [.v,vI] 163),(5,.grow 3 96)],6⟩) none)) (jv:=λ_=>none) (un:=λn=>false) sU mixed (qb (qb wE (abG w)) (abF w)) (fn:=Tryz.f52) (lvg:=λ_=>none) (jvg:=λ_=>none) (ung:=λ_=>false) (g:=104) (gn:=Tryz.f104) (by kernel_rfl) (by kernel_rfl) (by kernel_rfl) (by kernel_rfl) (by kernel_rfl) (by kernel_rfl)
theorem ab7(w:Nat):K 165 [.agg [vI,.v,.v]] (.b) (GU w):=fr Tryz.f165 pn w
theorem K7(w:Nat):K 166 [.v,.fn 165 []] vI (Ns w):=fr Tryz.f166 (pa pn (ab7 w)) w (lc 0 [(0,.v),(1,.fn 165 []),(7,vI),(8,vI)] [] 0 ln)
theorem Tn(w:Nat):K 101 [.v,.fn 165 []] (.b) (GA w):=fr Tryz.f101 (pa pn (K7 w)) w
theorem abC(w:Nat):K 100 [.v] (.aH [.v,vI]) (M9 w):=fr Tryz.f100 (pa (pa pn (Lj w)) (Tn w)) w
theorem ab9(w:Nat):K 167 [vI] (.b) (Nv w):=fr Tryz.f167 pn w
theorem abE(w:Nat):K 102 [.agg [vI,.v,.v]] (.b) (Cp w):=fr Tryz.f102 (pa pn (ab9 w)) w
theorem Tw(w:Nat):K 166 [.v,.fn 102 []] vI (Nt w):=fr Tryz.f166 (pa pn (abE w)) w (lc 0 [(0,.v),(1,.fn 102 []),(7,vI),(8,vI)] [] 0 ln)
theorem To(w:Nat):K 101 [.v,.fn 102 []] (.b) (GB w):=fr Tryz.f101 (pa (pa pn (K7 w)) (Tw w)) w
theorem Li(w:Nat):K 50 [.v] (.b) (zR w):=fr Tryz.f50 (pa (pa pn (abC w)) (To w)) w
theorem adW(w:Nat):K 47 [.v,.v] (.b) (H7 w):=fr Tryz.f47 pn w
theorem K0(w:Nat):K 103 [.v,.v] (.b) (zu w):=fr Tryz.f103 (pa pn (adW w)) w
theorem T4(w:Nat):K 51 [.v] (.b) (CR w):=fr Tryz.f51 (pa pn (K0 w)) w
theorem adY(w:Nat):KH 53 ⟨3,⟨[(0,vI),(1,.v),(2,.ptr 0 0)],[(0,.cells [.w7 1 0 1 1] 92),(1,.arr 96)],2⟩,1,⟨[(0,.aH [])],I4,2⟩⟩ (Ou w):=fh Tryz.f53 pn w
theorem adZ(w:Nat):KH 53 ⟨3,⟨[(0,vI),(1,.v),(2,.ptr 0 0)],I4,2⟩,1,⟨[(0,.aH [])],I4,2⟩⟩ (zT w):=fh Tryz.f53 pn w
theorem acb(w:Nat):K 172 [.agg [vI,.v,.v],vI] (.b) (Cx w):=fr Tryz.f172 pn w
theorem ace(w:Nat):K 174 [.agg [vI,.v,.v]] (.b) (GW w):=fr Tryz.f174 (pa (pa pn (Tz w)) (Ty w)) w
theorem acd(w:Nat):K 173 [.agg [vI,.v,.v]] (.b) (GV w):=fr Tryz.f173 (pa pn (ace w)) w
theorem ab8(w:Nat):K 166 [.v,.fn 173 []] vI (Nu w):=fr Tryz.f166 (pa pn (acd w)) w (lc 0 [(0,.v),(1,.fn 173 []),(7,vI),(8,vI)] [] 0 ln)
theorem abD(w:Nat):K 101 [.v,.fn 173 []] (.b) (Na w):=fr Tryz.f101 (pa (pa (pa pn (Tw w)) (K7 w)) (ab8 w)) w
theorem abH(w:Nat):K 107 [.v] (.b) (GC w):=fr Tryz.f107 (pa (pa (pa (pa pn (To w)) (Tn w)) (acb w)) (abD w)) w
theorem T5(w:Nat):K 54 [.v] (.aH [.v,vI]) (wZ w):=fr Tryz.f54 (ph (pa (pa (pa pn (K1 w)) (su w)) (abH w)) (abI w)) w (lc 0 [(4,.gr 0 1),(12,.v),(13,vI),(14,vI)] [(0,.grow 1 5)] 1 ln)
theorem acG(w:Nat):K 24 [.agg [vI,.v,.v,.v,.v,.v,.v,.v,.v,.v,.v,vI,vI]] (.aH [.v,vI]) (CB w):=fr Tryz.f24 (pa (ph (ph (pa (pa (pa (pa (pa pn (Lg (Ll w) (Lm w))) (adX w)) (Li w)) (T4 w)) (Lj w)) (adY w)) (adZ w)) (T5 w)) w (lc 1 [(7,.v),(11,.ptr 2 0),(12,.fn 53 [.ptr 2 0]),(79,.v),(80,vI),(81,vI)] [(2,.cells [.gr 6 3] 92),(6,.grow 3 96)] 7 ln)
theorem T6(w:Nat):K 56 [.v] (.b) (CS w):=fr Tryz.f56 (pa pn (K0 w)) w
theorem ad0(w:Nat):KH 55 ⟨3,⟨[(0,.ptr 0 0),(1,vI),(2,.fn 56 [])],tA,1⟩,1,I5⟩ (H8 w):=fh Tryz.f55 (pa pn (T6 w)) w
theorem ad1(w:Nat):KH 55 ⟨3,⟨[(0,.ptr 0 0),(1,vI),(2,.fn 51 [])],tA,1⟩,1,I5⟩ (zU w):=fh Tryz.f55 (pa pn (T4 w)) w
theorem ad3(w:Nat):K 57 [.v] (.v) (Ov w):=fr Tryz.f57 pn w
theorem ad4(w:Nat):K 57 [.em false] (.v) (ahj w):=fr Tryz.f57 pn w ln ul
theorem ad5(w:Nat):K 57 [.em true] (.v) (ahk w):=fr Tryz.f57 pn w ln ul
theorem ad6(w:Nat):K 57 [.v] .v (H9 w):=J5 (ad3 w) (show dI Tryz.prog 57 [.em false] .v (some (ae 0 [])) from ad4 w) (show dI Tryz.prog 57 [.em true] .v (some (ae 0 [])) from ad5 w)
theorem Tq(w:Nat):K 111 [.v] (.b) (Cq w):=fr Tryz.f111 (pa pn (K0 w)) w
theorem ad2(w:Nat):KH 55 ⟨3,⟨[(0,.ptr 0 0),(1,vI),(2,.fn 111 [])],tA,1⟩,1,I5⟩ (uO w):=fh Tryz.f55 (pa pn (Tq w)) w
theorem ad7(w:Nat):KH 58 ⟨1,⟨[(0,.ptr 0 0)],tA,1⟩,1,⟨[(0,.gr 1 1)],[(0,.cells [.v,vI,.v,.v,.v,.v,.v,.v,.v,.v,.v,.v,vI,vI] 103),(1,.grow 1 28)],2⟩⟩ (zV w):=fh Tryz.f58 (ph pn (ad2 w)) w (lc 0 [(2,.gr 2 1),(3,.fn 65591 [.ptr 0 0]),(4,.v),(5,.b)] [(0,.cells [.v,vI,.v,.v,.v,.v,.v,.v,.v,.v,.v,.v,vI,vI] 103),(2,.grow 1 28)] 3 ln)
theorem ad8(w:Nat):KH 59 ⟨1,⟨[(0,.ptr 0 0)],tA,1⟩,1,⟨[(0,.b)],tA,1⟩⟩ (Ow w):=fh Tryz.f59 pn w (lc 0 [(9,.v),(10,vI),(11,vI)] tA 1 ln)
theorem abJ(w:Nat):K 112 [.v] (.b) (Nf w):=fr Tryz.f112 pn w
theorem abK(w:Nat):K 113 [.v] (.b) (Ng w):=fr Tryz.f113 pn w
theorem ach(w:Nat):KH 180 ⟨2,⟨[(0,.v),(1,.v)],[],0⟩,0,I6⟩ (GZ w):=fh Tryz.f180 pn w
theorem yU(w:Nat):KP 232 ⟨2,⟨[(0,.b),(1,vI)],[],0⟩,0,⟨[(0,.aH [])],[],0⟩,⟨[(0,.eR 277 (.agg [vI]))],[],0⟩⟩ (eG w):=fp Tryz.f232 pn w
theorem Lf(w:Nat):K 288 [.agg [.v,vI],vI,vI] vI (mu w):=fr Tryz.f288 (pa pn (Fe w)) w
theorem Lh(w:Nat):K 331 [vI,vI,vI] (.b) (wW w):=fr Tryz.f331 pn w
theorem adE(w:Nat):KH 332 ⟨2,⟨AA,oL,3⟩,3,⟨[(0,.b)],oL,3⟩⟩ (HJ w):=fh Tryz.f332 pn w
theorem Fp(w:Nat):KP 289 ⟨2,⟨[(0,.ptr 0 0),(1,.agg [vI,vI,vI,vI,vI])],oL,3⟩,1,⟨[(0,.aH [])],oL,3⟩,AB⟩ (rj w):=fp Tryz.f289 (ph (pp (pa pn (Lh w)) (yU w)) (adE w)) w (lc 0 [(0,.ptr 0 0),(3,.ptr 3 0),(4,vI)] [(0,.cells [.v,vI,.v,.sl 1 0,.gr 2 5,vI,vI] 220),(3,.cells [vI,vI,vI,vI,vI] 243),(1,.arr 362),(2,.grow 5 243)] 4 ln)
theorem acE(w:Nat):KP 234 ⟨1,I6,1,⟨[(0,vI)],oL,3⟩,AB⟩ (Hb w):=fp Tryz.f234 (pp (pa (pp pn (yU w)) (Lf w)) (Fp w)) w
theorem adU(w:Nat):K 378 [.agg [.v,vI],vI,vI] (.aH [vI,.b]) (Om w):=fr Tryz.f378 (pa pn (Fe w)) w
theorem adP(w:Nat):KH 367 ⟨2,⟨AA,[(0,.cells [.v,vI,vI,.b] 405)],1⟩,1,⟨[(0,vI)],[(0,.cells [.v,vI,vI,.b] 405)],1⟩⟩ (wY w):=fh Tryz.f367 (pa pn (adU w)) w
theorem adF(w:Nat):K 333 [.v,vI,vI] (.aH [.agg [vI,vI,vI,vI],.b]) (HK w):=fr Tryz.f333 (ph (pa pn (Lh w)) (adP w)) w
theorem adh(w:Nat):KP 290 ⟨3,PD,1,⟨[(0,.v)],oL,3⟩,AB⟩ (Hq w):=fp Tryz.f290 (pa (pp (pp (pa (pa pn (Lh w)) (Lf w)) (yU w)) (Fp w)) (adF w)) w (lc 0 [(0,.ptr 0 0),(1,vI),(8,.gr 6 4),(43,vI),(44,vI)] [(0,.cells [.v,vI,.v,.sl 4 0,.gr 5 5,vI,vI] 220),(4,.arr 362),(5,.grow 5 243),(6,.grow 4 317)] 7 ln)
theorem adH(w:Nat):K 335 [.agg [vI,vI],.lp [vI,vI,vI,vI]] (.b) (Og w):=fr Tryz.f335 pn w
theorem ac3(w:Nat):K 262 [.v,.fn 335 [.lp [vI,vI,vI,vI]]] vI (NW w):=fr Tryz.f262 (pa pn (adH w)) w (lc 0 [(0,.v),(1,.fn 335 [.oV]),(7,vI),(8,vI)] [] 0 ln)
theorem adG(w:Nat):K 334 [.v,.fn 335 [.lp [vI,vI,vI,vI]]] (.b) (HM w):=fr Tryz.f334 (pa (pa (pa (pa pn (Le w)) (Fo w)) (Fm w)) (ac3 w)) w
theorem adi(w:Nat):K 291 [.v,.agg [.v,vI,vI,vI]] (.aH [.v,.v,.v]) (Hr w):=fr Tryz.f291 (pa (pa pn (TU w)) (adG w)) w (lc 0 [(3,.ptr 0 0),(4,.gr 1 4),(5,.gr 2 4),(6,.gr 3 4),(9,.v),(10,vI),(11,vI)] [(0,.cells [.v,vI,vI,vI] 176),(1,.grow 4 317),(2,.grow 4 317),(3,.grow 4 317)] 4 ln)
theorem adN(w:Nat):K 354 [.v,vI,vI] (.v) (HY w):=fr Tryz.f354 (ph (pa pn (BO w)) (TB w)) w (lc 0 [(1,vI),(2,vI),(7,.sl 0 0),(8,vI)] [(0,.arr 5)] 1 ln)
theorem TX(w:Nat):K 338 [vI,vI,.v,vI] (.aH [.agg [vI,vI,.v],.b]) (CM w):=fr Tryz.f338 (pa (pa (pa pn (yT w)) (wx w)) (adN w)) w
theorem adQ(w:Nat):K 369 [vI,vI] (.b) (H5 w):=fr Tryz.f369 (pa pn (T3 w)) w
theorem adR(w:Nat):K 370 [.i .u8] (.b) (Oj w):=fr Tryz.f370 pn w
theorem adV(w:Nat):K 379 [.v,.fn 370 []] vI (On w):=fr Tryz.f379 (pa pn (adR w)) w (lc 0 [(0,.v),(1,.fn 370 []),(7,vI),(8,vI)] [] 0 ln)
theorem adS(w:Nat):K 371 [.v,.fn 370 []] (.b) (H6 w):=fr Tryz.f371 (pa pn (adV w)) w
theorem adI(w:Nat):K 339 [.agg [vI,vI,vI,vI],vI] (.aH [.agg [vI,vI,.v],.b,.b]) (HS w):=fr Tryz.f339 (pa (pa (pa (pa pn (su w)) (TX w)) (adQ w)) (adS w)) w
theorem adj(w:Nat):KP 292 ⟨3,⟨[(0,.ptr 0 0),(1,.agg [vI,vI,vI,vI]),(2,vI)],oL,3⟩,1,⟨[(0,.agg [vI,vI,vI,.v])],oL,3⟩,AB⟩ (Hs w):=fp Tryz.f292 (pa (pa (pp (pp (pa (pa pn (TV w)) (TW w)) (yU w)) (Fp w)) (TX w)) (adI w)) w
theorem adk(w:Nat):K 293 [.agg [vI,vI],.lp [vI,vI,vI,vI]] (.b) (N4 w):=fr Tryz.f293 pn w
theorem ac4(w:Nat):K 262 [.v,.fn 293 [.lp [vI,vI,vI,vI]]] vI (NY w):=fr Tryz.f262 (pa pn (adk w)) w (lc 0 [(0,.v),(1,.fn 293 [.oV]),(7,vI),(8,vI)] [] 0 ln)
theorem acF(w:Nat):KP 235 ⟨3,PD,1,⟨[(0,.aH [.agg [.v,.v,.v],vI])],oL,3⟩,AB⟩ (Hc w):=ZI (λrec h=>Rr (w:=w) (lv:=λn=>(cond (Nat.beq n 0) (some ⟨[(0,.ptr 0 0),(1,vI),(6,.ptr 3 0),(8,.ptr 4 0),(9,vI),(10,.v),(11,.v),(12,.v),(13,.v),(52,.v),(53,vI),(54,vI)],PE,10⟩) (cond (Nat.beq n 2) (some ⟨[(0,.ptr 0 0),(1,vI),(6,.ptr 3 0),(8,.ptr 4 0),(9,vI),(10,.v),(12,.v),(93,.v),(94,vI),(95,vI)],PE,10⟩) none))) (jv:=λ_=>none) (un:=λn=>false) sU mixed (qb (qb (iZ (qb (qb (iZ (qb (iZ (iZ (iZ (iZ (iZ (iZ (iZ wE (Le w)) (Fo w)) (Fm w)) (sw w)) (uk w)) (uj w)) (Lf w)) (adh w)) (adi w)) (adj w)) (yU w)) (ac4 w)) (Fp w)) h) (fn:=Tryz.f235) (by kernel_rfl) (by kernel_rfl) (by kernel_rfl)) w
theorem aci(w:Nat):KH 181 ⟨1,I6,1,⟨[(0,.aH [.agg [vI,.gr 1 3],vI])],[(0,.cells [.v,vI,.v,.sl 2 0,.gr 3 5,vI,vI] 220),(1,.grow 3 179),(2,.arr 362),(3,.grow 5 243)],4⟩⟩ (G0 w):=ZE (w:=w) (lv:=λn=>(cond (Nat.beq n 0) (some ⟨[(0,.ptr 0 0),(2,.ptr 3 0),(3,.ptr 4 0),(4,vI),(5,vI)],[(0,.cells [.v,vI,.v,.sl 6 0,.gr 7 5,vI,vI] 220),(3,.cells [vI,.gr 8 3] 113),(4,.cells [vI] 37),(6,.arr 362),(7,.grow 5 243),(8,.grow 3 179)],9⟩) none)) (jv:=λ_=>none) (un:=λn=>false) sU mixed (qb (qb (qb (iZ wE (TN w)) (yU w)) (acE w)) (acF w)) (fn:=Tryz.f181) (lvg:=λ_=>none) (jvg:=λ_=>none) (ung:=λ_=>false) (g:=231) (gn:=Tryz.f231) (by kernel_rfl) (by kernel_rfl) (by kernel_rfl) (by kernel_rfl) (by kernel_rfl)
theorem abN(w:Nat):K 117 [.v,.v] (.aH [.agg [vI,.v],.v,vI]) (Cs w):=fr Tryz.f117 (ph (ph pn (ach w)) (aci w)) w
theorem abL(w:Nat):K 114 [.v] (.aH [.agg [vI,.v,.v,.v,.v,.v,.v,.v],vI]) (Cr w):=fr Tryz.f114 (pa (pa (pa pn (K6 w)) (acg w)) (abN w)) w
theorem ad9(w:Nat):K 60 [.v] (.aH [.agg [vI,.v,.v,.v,.v,.v,.v,.v],vI]) (zX w):=fr Tryz.f60 (pa (pa (pa (pa pn (abJ w)) (abK w)) (T6 w)) (abL w)) w ln ul
theorem abM(w:Nat):K 115 [.v,vI,vI] (.b) (GD w):=fr Tryz.f115 (pa pn (Tq w)) w
theorem aea(w:Nat):K 61 [.v] (.aH [.v,vI]) (Ia w):=fr Tryz.f61 (pa pn (abM w)) w (lc 0 [(0,.v),(4,.gr 0 1),(10,.v),(11,vI),(12,vI)] [(0,.grow 1 5)] 1 ln)
theorem acO(w:Nat):K 25 [.v] (.aH [.agg [vI,.v,.v,.v,.v,.v,.v,.v,.v,.v,.v,vI,vI],vI]) (Hg w):=fr Tryz.f25 (pa (pa (ph (ph (pa (ph (ph (pa (pa (pa pn (Lj w)) (T5 w)) (Li w)) (ad0 w)) (ad1 w)) (ad6 w)) (ad7 w)) (ad8 w)) (ad9 w)) (aea w)) w
theorem TY(w:Nat):K 34 [.agg [.v],vI] (.aH [.agg [vI,.v,.v,.v,.v,.v,.v,.v,.v,.v,.v,vI,vI],.b]) (wX w):=fr Tryz.f34 (pa (pa (pa pn (adO w)) (acG w)) (acO w)) w
theorem acN(w:Nat):K 249 [vI] (.b) (zK w):=fr Tryz.f249 pn w
theorem acs(w:Nat):K 191 [vI,vI] (.aH [vI,.b]) (G3 w):=fr Tryz.f191 (pa pn (acN w)) w
theorem acr(w:Nat):KH 190 ⟨2,⟨[(0,vI),(1,.ptr 0 0)],[(0,.cells [.gr 1 1] 71),(1,.grow 1 3)],2⟩,1,⟨[(0,.b)],[(0,.cells [.gr 1 1] 71),(1,.grow 1 3)],2⟩⟩ (zA w):=fh Tryz.f190 (pa pn (acs w)) w
theorem acM(w:Nat):KH 248 ⟨2,PB,2,⟨[(0,vI)],DJ,3⟩⟩ (zJ w):=fh Tryz.f248 (ph pn (acr w)) w (lc 0 [(0,.gr 0 1),(1,.fn 190 [.ptr 1 0]),(7,vI),(8,vI)] DJ 3 ln)
theorem acq(w:Nat):KH 189 ⟨2,PB,2,⟨[(0,.b)],DJ,3⟩⟩ (G2 w):=fh Tryz.f189 (ph (pa pn (TO w)) (acM w)) w
theorem abX(w:Nat):KH 131 ⟨1,⟨[(0,.gr 0 1)],[(0,.grow 1 3)],1⟩,1,⟨[(0,.aH [.gr 1 1,.b])],[(0,.grow 1 3),(1,.grow 1 3)],2⟩⟩ (uH w):=fh Tryz.f131 (ph (pa pn (TD w)) (acq w)) w
theorem abW(w:Nat):KH 130 ⟨3,⟨[(0,.agg [vI,.v,.v,.v,.v,.v,.v,.v,.v,.v,vI,vI,vI,.v]),(1,.ptr 0 0),(2,.ptr 1 0)],vn,3⟩,2,⟨[(0,.b)],vn,3⟩⟩ (GN w):=fh Tryz.f130 (ph (pa pn (TY w)) (abX w)) w
theorem aco(w:Nat):KH 188 ⟨2,⟨[(0,.v),(1,.fn 130 [.ptr 0 0,.ptr 1 0])],vn,3⟩,2,⟨[(0,vI)],vn,3⟩⟩ (G1 w):=fh Tryz.f188 (ph pn (abW w)) w (lc 0 [(0,.v),(1,.fn 130 [.ptr 0 0,.ptr 1 0]),(7,vI),(8,vI)] vn 3 ln)
theorem abP(w:Nat):KH 124 ⟨2,⟨[(0,.agg [.v]),(1,.fn 130 [.ptr 0 0,.ptr 1 0])],vn,3⟩,2,⟨[(0,vI)],vn,3⟩⟩ (Nh w):=fh Tryz.f124 (ph pn (aco w)) w
theorem aej(w:Nat):K 72 [.agg [.v]] vI (OC w):=fr Tryz.f72 (ph pn (abP w)) w
theorem adp(w:Nat):KH 30 ⟨0,⟨[],[],0⟩,0,⟨[(0,.agg [.nf,.fn 65 [],.fn 66 [],.fn 67 [],.fn 68 [],.fn 69 [],.fn 70 [],.fn 71 [],.fn 72 []])],[],0⟩⟩ (N8 w):=fh Tryz.f30 pn w
theorem Ts(w:Nat):K 123 [.b] vI (sM w):=fr Tryz.f123 pn w
theorem aec(w:Nat):K 65 [.agg [.v]] vI (Ic w):=fr Tryz.f65 (pa pn (Ts w)) w
theorem abR(w:Nat):K 125 [.agg [vI,.v,.v,.v,.v,.v,.v,.v,.v,.v,vI,vI,vI,.v]] (.b) (GI w):=fr Tryz.f125 (pa pn (Lg (Ll w) (Lm w))) w
theorem BP(w:Nat):K 188 [.v,.fn 125 []] vI (NB w):=fr Tryz.f188 (pa pn (abR w)) w (lc 0 [(0,.v),(1,.fn 125 []),(7,vI),(8,vI)] [] 0 ln)
theorem BN(w:Nat):K 124 [.agg [.v],.fn 125 []] vI (Ni w):=fr Tryz.f124 (pa pn (BP w)) w
theorem aed(w:Nat):K 66 [.agg [.v]] vI (Ox w):=fr Tryz.f66 (pa pn (BN w)) w
theorem abS(w:Nat):K 126 [.agg [vI,.v,.v,.v,.v,.v,.v,.v,.v,.v,vI,vI,vI,.v]] (.b) (GJ w):=fr Tryz.f126 (pa pn (T7 w)) w
theorem Fh(w:Nat):K 188 [.v,.fn 126 []] vI (NC w):=fr Tryz.f188 (pa pn (abS w)) w (lc 0 [(0,.v),(1,.fn 126 []),(7,vI),(8,vI)] [] 0 ln)
theorem Ff(w:Nat):K 124 [.agg [.v],.fn 126 []] vI (Nj w):=fr Tryz.f124 (pa (pa pn (BP w)) (Fh w)) w
theorem aee(w:Nat):K 67 [.agg [.v]] vI (Oy w):=fr Tryz.f67 (pa (pa pn (BN w)) (Ff w)) w
theorem abT(w:Nat):K 127 [.agg [vI,.v,.v,.v,.v,.v,.v,.v,.v,.v,vI,vI,vI,.v]] (.b) (GK w):=fr Tryz.f127 (pa pn (Li w)) w
theorem Lc(w:Nat):K 188 [.v,.fn 127 []] vI (ND w):=fr Tryz.f188 (pa pn (abT w)) w (lc 0 [(0,.v),(1,.fn 127 []),(7,vI),(8,vI)] [] 0 ln)
theorem K3(w:Nat):K 124 [.agg [.v],.fn 127 []] vI (Nk w):=fr Tryz.f124 (pa (pa (pa pn (Fh w)) (BP w)) (Lc w)) w
theorem aef(w:Nat):K 68 [.agg [.v]] vI (Oz w):=fr Tryz.f68 (pa (pa (pa pn (Ff w)) (BN w)) (K3 w)) w
theorem abU(w:Nat):K 128 [.agg [vI,.v,.v,.v,.v,.v,.v,.v,.v,.v,vI,vI,vI,.v]] (.b) (GL w):=fr Tryz.f128 (pa pn (su w)) w
theorem TC(w:Nat):K 188 [.v,.fn 128 []] vI (NF w):=fr Tryz.f188 (pa pn (abU w)) w (lc 0 [(0,.v),(1,.fn 128 []),(7,vI),(8,vI)] [] 0 ln)
theorem Tt(w:Nat):K 124 [.agg [.v],.fn 128 []] vI (Nl w):=fr Tryz.f124 (pa (pa (pa (pa pn (Lc w)) (Fh w)) (BP w)) (TC w)) w
theorem aeg(w:Nat):K 69 [.agg [.v]] vI (OA w):=fr Tryz.f69 (pa (pa (pa (pa pn (K3 w)) (Ff w)) (BN w)) (Tt w)) w
theorem abV(w:Nat):K 129 [.agg [vI,.v,.v,.v,.v,.v,.v,.v,.v,.v,vI,vI,vI,.v]] (.b) (GM w):=fr Tryz.f129 (pa pn (Fc w)) w
theorem acp(w:Nat):K 188 [.v,.fn 129 []] vI (NG w):=fr Tryz.f188 (pa pn (abV w)) w (lc 0 [(0,.v),(1,.fn 129 []),(7,vI),(8,vI)] [] 0 ln)
theorem abQ(w:Nat):K 124 [.agg [.v],.fn 129 []] vI (Nn w):=fr Tryz.f124 (pa (pa (pa (pa (pa pn (TC w)) (Lc w)) (Fh w)) (BP w)) (acp w)) w
theorem aeh(w:Nat):K 70 [.agg [.v]] vI (OB w):=fr Tryz.f70 (pa (pa (pa (pa (pa pn (Tt w)) (K3 w)) (Ff w)) (BN w)) (abQ w)) w
theorem aei(w:Nat):K 71 [.agg [.v]] vI (Ig w):=fr Tryz.f71 (pa pn (Ts w)) w
theorem Ln(w:Nat):K 9 [.agg [.v]] (.aH [vI,vI]) (nu w):=fr Tryz.f9 (pa (pa (pa (pa (pa (pa (pa (pa (ph pn (adp w)) (aec w)) (aed w)) (aee w)) (aef w)) (aeg w)) (aeh w)) (aei w)) (aej w)) w ln ul
theorem K2(w:Nat):K 12 [.agg [.v]] vI (sK w):=fr Tryz.f12 (pa (pa pn (Ln w)) (Lg (Ll w) (Lm w))) w
theorem ab3(w:Nat):K 14 [.agg [.v]] (.v) (GP w):=fr Tryz.f14 (pa (pa pn (K2 w)) (TY w)) w (lc 0 [(1,.ptr 0 0),(3,.gr 1 13),(12,vI),(13,vI)] [(0,.cells [.v] 24),(1,.grow 13 46)] 2 ln)
theorem adb(w:Nat):K 28 [.v] (.b) (nr w):=fr Tryz.f28 pn w (lc 0 [(0,.v),(3,vI)] [] 0 ln)
theorem ok7(w:Nat):K 7 [.agg [.v]] (.b) (Ie w):=fr Tryz.f7 (pa pn (adb w)) w (lc 0 [(1,.ptr 0 0),(3,vI),(4,vI)] [(0,.cells [.v] 24)] 1 ln)
theorem Lk(w:Nat):K 73 [vI] vI (CT w):=fr Tryz.f73 pn w
theorem abY(w:Nat):K 132 [vI] (.b) (VH w):=fr Tryz.f132 pn w
theorem ab0(w:Nat):K 134 [vI] vI (GO w):=fr Tryz.f134 (pa pn (Lk w)) w
theorem TF(w:Nat):K 192 [vI] vI (G4 w):=fr Tryz.f192 pn w
theorem abZ(w:Nat):K 133 [vI,vI] (.aH [vI,.b]) (VI w):=fr Tryz.f133 (pa pn (TF w)) w
theorem ab1(w:Nat):K 135 [vI,vI,vI] (.aH [.v,.b]) (Np w):=fr Tryz.f135 (pa pn (TF w)) w (lc 0 [(0,vI),(1,vI),(2,vI),(8,.gr 0 1),(9,vI)] [(0,.grow 1 5)] 1 ln)
theorem ab2(w:Nat):K 136 [.agg [vI,vI,.v]] (.b) (VJ w):=fr Tryz.f136 (pa pn (Lk w)) w (lc 0 [(1,.ptr 0 0),(3,vI)] [(0,.cells [vI,vI,.v] 68)] 1 ln)
theorem aek(w:Nat):K 74 [vI,.v,vI] (.aH [.agg [vI,vI,.v],.b]) (Wj w):=fr Tryz.f74 (pa (pa (pa (pa (pa pn (abY w)) (ab0 w)) (abZ w)) (ab1 w)) (ab2 w)) w (lc 0 [(0,vI),(1,.v),(6,.ptr 0 0),(8,.ptr 1 0),(9,vI)] Py 4 ln)
theorem ads(w:Nat):K 31 [vI,.v] (.aH [.agg [vI,vI,.v],.b]) (N9 w):=fr Tryz.f31 (pa (pa pn (Lk w)) (aek w)) w
theorem Tp(w:Nat):K 11 [] (.agg [vI,.v,.v,.v,.v,.v,.v,.v,.v,.v,vI,vI,vI,.v]) (rb w):=fr Tryz.f11 (pa pn (ads w)) w
theorem Tl(w:Nat):K 10 [.v] (.agg [.v]) (q9 w):=fr Tryz.f10 pn w
theorem adg(w:Nat):K 29 [.agg [.v],vI,vI] (.b) (sQ w):=fr Tryz.f29 (pa (pa pn (Ln w)) (K2 w)) w
theorem ok8(w:Nat):K 8 [] (.b) (mv w):=fr Tryz.f8 (pa (pa (pa (pa pn (ab3 w)) (Tp w)) (Tl w)) (adg w)) w
theorem ok3(w:Nat):K 3 [.agg [.v]] (.b) (N7 w):=fr Tryz.f3 (pa (pa (pa (pa (pa (pa pn (ok7 w)) (ok8 w)) (Tp w)) (Tl w)) (Ln w)) (K2 w)) w (lc 0 [(1,.ptr 0 0),(3,vI),(4,.b),(5,.ptr 1 0),(6,vI)] [(0,.cells [.v] 24),(1,.cells [.gr 2 14] 24),(2,.grow 14 32)] 3 ln)
end
end
section
variable{β:Type}
@[simp] theorem bc(a b:Int):aq a b=decide (a<b):=yE a b
@[simp] theorem cD(a b:Int):ak a b=decide (a=b):=by rw[Ki];rfl
@[simp] theorem lU(a b:Nat):Nat.blt a b=decide (a<b):=by rw[fO,bV,Nat.blt_eq]
@[simp] theorem gu(a b:Nat):Nat.ble a b=decide (a<=b):=by rw[fO,bV,kW]
@[simp] theorem AZ(a b:Nat):Nat.beq a b=decide (a=b):=by rw[fO,bV,Nat.beq_eq]
@[simp] theorem qI{α:Type}{p:Prop}[Decidable p](a b:α):cond (decide p) a b=if p then a else b:=by by_cases h:p<;>simp
theorem aiH{α:Type}(c:Bool)(a b:α):cond c a b=if c=true then a else b:=by cases c<;>rfl
@[simp] theorem aA{α β:Type}(a:α)(f:α->Option β):ob (some a) f=f a:=rfl
@[simp] theorem aiJ{α β:Type}(f:α->Option β):ob none f=none:=rfl
@[simp] theorem iD{α γ δ:Type}(a:α)(f:α->δ)(g:γ->δ):dk (.inl a) f g=f a:=rfl
@[simp] theorem OY{α γ δ:Type}(a:γ)(f:α->δ)(g:γ->δ):dk (.inr a) f g=g a:=rfl
@[simp] theorem bN(x:Value)(r:List Value)(K:Value->List Value->Option β):ag (x::r) K=K x r:=rfl
@[simp] theorem aiL(K:Value->List Value->Option β):ag [] K=none:=rfl
@[simp] theorem aiI(r:Option β):om [] r=r:=rfl
@[simp] theorem cH(k:IntKind)(n:Int)(K:Int->Option β):aw k (.int k n) K=K n:=by unfold aw;simp
@[simp] theorem aiC(b:Bool)(K:Bool->Option β):AT (.bool b) K=K b:=rfl
@[simp] theorem aiG(s:ByteArray)(K:ByteArray->Option β):AU (.string s) K=K s:=rfl
@[simp] theorem ct(n:Nat)(K:Nat->Option β):aG (n:Int) K=K n:=rfl
@[simp] theorem aiE(n:Nat)(K:Nat->Option β):aG (Int.ofNat n) K=K n:=rfl
@[simp] theorem aiF(K:Nat->Option β):aG 0 K=K 0:=rfl
@[simp] theorem aiD(n:Nat)(K:Nat->Option β):aG (no_index(OfNat.ofNat n)) K=K (OfNat.ofNat n):=rfl
theorem lk{n:Int}(h:0<=n)(K:Nat->Option β):aG n K=K n.toNat:=by obtain⟨m,rfl⟩:=Int.eq_ofNat_of_zero_le h;rfl
@[simp] theorem aaQ(n:Nat)(c:List Value)(K:Nat->Option β):ax (ae n c) K=K n:=rfl
@[simp] theorem Zm[QF](x:Value)(r:Option β):tV x x r=r:=Zn x r
theorem Sl(sz m n:Nat)(c:List Value)(K:List Value->Option β):aQ sz m (ae n c) K=if m<n then K (c.drop (m*sz)) else none:=by unfold aQ ae;simp
theorem YR(sz l h n:Nat)(c:List Value)(K:Value->Option β):ib sz l h (ae n c) K=K (ae (h -l) ((c.drop (l*sz)).take ((h -l)*sz))):=rfl
theorem ZQ(E n:Nat)(c:List Value)(K:Nat->List Value->Option β):eX E (ae n c) K=if n*E<=c.length then K n (c.take (n*E)) else none:=by unfold eX ae;simp
@[simp] theorem aiK(n:Nat):aK n=decide (n<=1000000000):=by unfold aK;rw[gu]
theorem aN{n:Int}(h1:-9223372036854775808<=n)(h2:n<9223372036854775808):ah .i64 n=n:=by
 unfold ah;have:wj .i64 n=true:=by
  cases n with
  |ofNat m=>show Nat.blt m 9223372036854775808=true;simp_all;omega
  |negSucc m=>show Nat.blt m 9223372036854775808=true;rw[lU,bV];omega
 grind
theorem tD{n:Int}(h1:0<=n)(h2:n<18446744073709551616):ah .u64 n=n:=by
 unfold ah;have:wj .u64 n=true:=by
  cases n with
  |ofNat m=>show Nat.blt m 18446744073709551616=true;simp_all;omega
  |negSucc m=>omega
 grind
@[simp] theorem iV(a b:Int):Int.sub a b=a -b:=rfl
@[simp] theorem cR(a b:Int):Int.add a b=a+b:=rfl
@[simp] theorem pS(a b:Int):Int.mul a b=a*b:=rfl
@[simp] theorem cu(n:Nat):Int.ofNat n=(n:Int):=rfl
theorem aa4{α:Type}(z:α)(F:α->α)(n:Nat):lp z F (n+1)=F (lp z F n):=rfl
variable{α:Type}
theorem ef(z:α)(F:α->α){n:Nat}(h:0<n):lp z F n=F (lp z F (n -1)):=by
 cases n with
 |zero=>omega
 |succ n=>rfl
theorem lD{γ:Type}{z:α}{F:α->α}{r:γ}{w:Nat}(ev:Nat->α->γ)(m:Nat)(hs:∀i g,i<m->ev i (F g)=ev (i+1) g)(he:∀g,ev m (F g)=r)(h:m<w):ev 0 (lp z F w)=r:=by
 have:∀(d i v:Nat),i+d=m->d<v->ev i (lp z F v)=r:=by
  intro d;induction d with
  |zero=>intro i v hi hv;rw[ef z F (by omega),show i=m by omega,he]
  |succ d ih=>
   intro i v hi hv;rw[ef z F (by omega)]
   grind
 grind
def aC(f:α->List Value)(l:List α):Value:=ae l.length (l.flatMap f)
def aX(b:UInt8):Value:=.int .u8 (b.toNat:Int)
def pH(b:UInt8):List Value:=[aX b]
def aj(l:List UInt8):Value:=aC pH l
variable{k:Nat} {f:α->List Value}
theorem eJ(hf:∀x,(f x).length=k):∀l:List α,(l.flatMap f).length=l.length*k
 |[]=>by simp
 |x::l=>by rw[ff,aR,hf,eJ hf l,cQ,kb,Nat.one_mul,Nat.add_comm]
theorem pR(hf:∀x,(f x).length=k):∀(l:List α)(m:Nat),(l.flatMap f).drop (m*k)=(l.drop m).flatMap f
 |l,0=>by simp
 |[],m+1=>by simp
 |x::l,m+1=>by rw[ff,kb,Nat.one_mul,Nat.add_comm (m*k),<-List.drop_drop,List.drop_left' (hf x),pR hf l m];rfl
theorem yx(hf:∀x,(f x).length=k):∀(l:List α)(m:Nat),(l.flatMap f).take (m*k)=(l.take m).flatMap f
 |l,0=>by simp
 |[],m+1=>by simp
 |x::l,m+1=>by rw[ff,kb,Nat.one_mul,Nat.add_comm (m*k),List.take_append,gh (by rw[hf];omega),hf,Dj,yx hf l m];rfl
@[simp] theorem dw{α:Type}(f:α->List Value)(l:List α)(K:Nat->Option β):ax (aC f l) K=K l.length:=rfl
theorem bW{α:Type}{f:α->List Value}{k:Nat}(hf:∀x,(f x).length=k){l:List α}{m:Nat}(h:m<l.length)(K:List Value->Option β):aQ k m (aC f l) K=K (f l[m]++(l.drop (m+1)).flatMap f):=by unfold aC;rw[Sl,ar h,pR hf,dG h,ff]
variable{a b:Nat}
theorem yd(hf:∀x,(f x).length=k)(l:List α)(h:b<=l.length)(K:Value->Option β):ib k a b (aC f l) K=K (aC f ((l.drop a).take (b -a))):=by
 unfold aC;rw[YR,pR hf,yx hf]
 grind
theorem EB(hf:∀x,(f x).length=k)(l:List α)(K:Nat->List Value->Option β):eX k (aC f l) K=K l.length (l.flatMap f):=by unfold aC;rw[ZQ,eJ hf,ar (aB _),gh (by rw[eJ hf];exact aB _)]
theorem Jo(b:UInt8):(pH b).length=1:=rfl
@[simp] theorem dU(l:List UInt8)(K:Nat->Option β):ax (aj l) K=K l.length:=rfl
theorem pV{l:List UInt8}{m:Nat}(h:m<l.length)(K:List Value->Option β):aQ 1 m (aj l) K=K (aX l[m]::(l.drop (m+1)).flatMap pH):=bW Jo h K
theorem pL(l:List UInt8)(h:b<=l.length)(K:Value->Option β):ib 1 a b (aj l) K=K (aj ((l.drop a).take (b -a))):=yd Jo l h K
theorem ij(l:List UInt8)(K:Nat->List Value->Option β):eX 1 (aj l) K=K l.length (l.flatMap pH):=EB Jo l K
theorem iH(l:List UInt8):l.flatMap pH=l.map aX:=by
 induction l with
 |nil=>rfl
 |cons x l ih=>rw[ff,ih];rfl
@[simp] theorem rT(b:UInt8)(K:Int->Option β):aw .u8 (aX b) K=K (b.toNat:Int):=cH _ _ _
theorem aa3{α:Type}{z:α}{F:α->α}{G:Nat->α}(h:lp z F=G)(n:Nat):G (n+1)=F (G n):=by subst h;rfl
end
section
set_option maxRecDepth 100000
variable{w:Nat}
theorem wR(h:4<=w)(a b:Int):re w a b=some (fC a b):=by
 obtain⟨v,rfl⟩:=xv h;have e:Hf (v+4) (ae 3 [Value.int IntKind.i64 1,Value.int IntKind.i64 2,Value.int IntKind.i64 4]) a=some (if a=1 then 0 else if a=2 then 1 else if a=4 then 2 else-1):=by
  unfold Hf NK;simp[aa4,Sl,aN,@eq_comm _ _ a]
  repeat' split
  all_goals rfl
 unfold re NH;rw[e];simp[fC,Db];have hb:(if b=1 then some true else some (decide (b=2)))=some (b==1||b==2):=by by_cases hb:b=1<;>grind
 rw[hb];by_cases h1:a=1
 ·simp[h1]
 ·by_cases h2:a=2
  ·simp[h2]
  ·by_cases h4:a=4
   ·simp[h4]
   ·simp_all
variable{o:Int}
theorem ug{s:Int}(h:fC s o=true):(s=1\/s=2\/s=4)/\(o=1\/o=2):=by
 unfold fC Db at h
 grind
theorem aeq{n b:Nat}(hn:n<2^40)(hb:b<256):(BitVec.ofInt 64 ((n:Int)*256)|||BitVec.ofInt 64 (b:Int)).toNat=n*256+b:=by
 rw[(show((n:Int)*256)=((n*256:Nat):Int) from by omega),BitVec.ofInt_natCast];have:=Nat.shiftLeft_add_eq_or_of_lt (i:=8) (by omega) n;rw[Nat.shiftLeft_eq] at this
 grind
variable{l:List UInt8} {p s:Nat}
theorem Uo(h:p+s<=l.length):(gm l p s o).length=s:=by
 unfold gm
 grind
theorem aeJ{i:Nat}(h:p+s<=l.length)(hi:i<s):(gm l p s o)[i]'(by rw[Uo h];exact hi)=if o=1 then l[p+s -1 -i]'(by omega) else l[p+i]'(by omega):=by
 unfold gm
 grind
theorem GG(hw:5<=w)(l:List UInt8)(hl:l.length<2^60)(p s o:Int)(hp:p<2^62):
 sL w (aj l) p s o=some (match oR l p s o with|some n=>(n,true)|none=>(0,false)):=by
 unfold sL oR MS;rw[wR (by omega)];cases hm:fC s o with
 |false=>simp
 |true=>
  obtain⟨hs,ho⟩:=ug hm;simp only[aA,cL,aE,bc,qI,dU];by_cases h0:p<0
  ·rw[ar h0,ai (by omega)]
  rw[ai h0];rw[aN (by simp;omega) (by simp;omega)];by_cases h1:(Int.ofNat l.length).sub s<p
  ·rw[ar h1,ai (by simp at h1;omega)]
  rw[ai h1,ar ⟨trivial,by omega,by simp at h1;omega⟩];obtain⟨p,rfl⟩:=Int.eq_ofNat_of_zero_le (Int.not_lt.1 h0);obtain⟨s,rfl⟩:=Int.eq_ofNat_of_zero_le (a:=s) (by omega);have hps:p+s<=l.length:=by simp at h1;omega
  have hs4:s<=4:=by omega
  have hk:=Uo (o:=o) hps;refine lD (ev:=λi (g:Value->Int->Int->Int->Int->Int->Int->Option (Int×Bool))=>g (aj l) p s o (gF ((gm l p s o).take i):Int) s i) s ?_ ?_ (by omega)
  ·intro i g hi;have hi':((i:Int)<(s:Int)):=by omega
   have hn:gF ((gm l p s o).take i)<2^40:=tb (KY _) (by
    rw[dH,hk];exact eP (Nat.pow_le_pow_right (by decide) (show min i s<=4 by omega)) (by decide))
   have e1:(gm l p s o).take (i+1)=(gm l p s o).take i++[(gm l p s o)[i]'(by omega)]:=by rw[nB (by omega)]
   simp only[hi',gj,cD];have hb:=aeq hn (gm l p s o)[i].toNat_lt;have hv:gF ((gm l p s o).take i)*256+(gm l p s o)[i].toNat<2^50:=by have:=(gm l p s o)[i].toNat_lt;omega
   rw[e1,E8];rw[aeJ hps hi] at hb hv⊢;by_cases h2:o=1
   ·simp only[h2,bn,ay,gj] at hb hv⊢;simp(disch:=omega) only[iV,cR,aN,lk];rw[pV (show(((p:Int)+s -1 -i).toNat<l.length) by omega)];have e2:((p:Int)+s -1 -i).toNat=p+s -1 -i:=by omega
    simp(disch:=omega) only[e2,bN,rT,pS,aN];rw[show((2:Int)^8)=256 from rfl];simp(disch:=omega) only[aN,hb];rfl
   ·simp only[h2,cy,aE,gN] at hb hv⊢;simp(disch:=omega) only[cR,aN,lk];rw[pV (show(((p:Int)+i).toNat<l.length) by omega)];have e2:((p:Int)+i).toNat=p+i:=by omega
    simp(disch:=omega) only[e2,bN,rT,pS,aN];rw[show((2:Int)^8)=256 from rfl];simp(disch:=omega) only[aN,hb];rfl
  ·intro g;simp[hk,gh]
end
section
set_option maxRecDepth 100000
variable{β:Type}
@[simp] theorem FP(n:Nat)(v:Value)(c:List Value):aW n [v] c=c.set n v:=rfl
theorem FO:∀(vs old pre post:List Value),old.length=vs.length->aW pre.length vs (pre++(old++post))=pre++(vs++post)
 |[],old,pre,post,h=>by obtain rfl:=qu.1 h;rfl
 |v::vs,[],pre,post,h=>by grind
 |v::vs,o::old,pre,post,h=>by
  have:=FO vs old (pre++[v]) post (by grind);show aW (pre.length+1) vs ((pre++(o::old++post)).set pre.length v)=_
  grind
theorem Xr{c:List Value}{n:Nat}(h:n<c.length)(K:Value->List Value->Option β):ag (c.drop n) K=K c[n] (c.drop (n+1)):=by rw[dG h];rfl
def mq(l:List UInt8)(k:Nat):List UInt8:=(List.range l.length).map λj=>if j<k\/l.length -k<=j then(l[l.length -1 -j]?).getD 0 else(l[j]?).getD 0
@[simp] theorem UO(l:List UInt8)(k:Nat):(mq l k).length=l.length:=by simp[mq]
theorem ze(l:List UInt8)(k j:Nat)(h:j<l.length):(mq l k)[j]? =if j<k\/l.length -k<=j then l[l.length -1 -j]? else l[j]? :=by
 unfold mq
 grind
theorem ae1(l:List UInt8):mq l 0=l:=by
 apply s9;intro j;by_cases h:j<l.length
 ·rw[ze _ _ _ h,ai (by omega)]
 simp_all
variable{k:Nat}
theorem aeZ(l:List UInt8)(hk:l.length<=2*k+1):mq l k=l.reverse:=by
 apply s9;intro j;by_cases h:j<l.length
 ·rw[ze _ _ _ h]
  grind
 simp_all
theorem ae0(l:List UInt8)(hk:2*k+1<l.length):((mq l k).set k (l[l.length -1 -k]'(by omega))).set (l.length -1 -k) (l[k]'(by omega))=mq l (k+1):=by
 apply s9;intro j;by_cases h:j<l.length
 ·rw[ze _ _ _ h,List.getElem?_set,List.getElem?_set,ze _ _ _ h];simp
  grind
 simp_all
theorem SX{pre m post:List UInt8}{b:UInt8}(h:m[k]? =some b)(hk:pre.length+k<((pre++(m++post)).map aX).length):((pre++(m++post)).map aX)[pre.length+k]=aX b:=by grind
theorem KN(pre m post:List UInt8)(b:UInt8)(h:k<m.length):((pre++(m++post)).map aX).set (pre.length+k) (aX b)=(pre++(m.set k b++post)).map aX:=by simp_all
theorem Qa(b:UInt8):(SV.i IntKind.u8 (b.toNat:Int)).cells.length.beq 1=true:=rfl
variable{w:Nat}
theorem Nx(pre l post:List UInt8)(hl:l.length<2^60)(hw:l.length+1<w)(c:Nat):uI w pre.length l.length c ((pre++(l++post)).map aX)=some ((pre++(l.reverse++post)).map aX):=by
 unfold uI;rw[iV,cu,aN (by omega) (by omega),<-aeZ l (k:=l.length/2) (by omega)];rw[show(pre++(l++post))=pre++(mq l 0++post) by rw[ae1],show(l.length:Int) -1=(l.length:Int) -1 -((0:Nat):Int) by omega];refine lD (ev:=λi (g:Nat->Nat->Nat->Int->Int->List Value->Option (List Value))=>g pre.length l.length c i ((l.length:Int) -1 -i) ((pre++(mq l i++post)).map aX)) (l.length/2) ?_ ?_ (show l.length/2<w by omega)
 ·intro i g hi;have e1:((i:Int)<(l.length:Int) -1 -i):=by omega
  simp(disch:=omega) only[bc,e1,bn,ay,lk,mB,lU,gM];have e2:((l.length:Int) -1 -i).toNat=l.length -1 -i:=by omega
  rw[e2];have h1:l.length -1 -i<l.length:=by omega
  have h2:i<l.length:=by omega
  have h3:((pre++(mq l i++post)).map aX).length=pre.length+(l.length+post.length):=by simp
  have g1:((pre++(mq l i++post)).map aX)[pre.length+(l.length -1 -i)]'(by omega)=aX (l[l.length -1 -i]):=SX (by
   rw[ze _ _ _ h1,ai (by omega),dD h1]) _
  have g2:((pre++(mq l i++post)).map aX)[pre.length+i]'(by omega)=aX (l[i]):=SX (by
   rw[ze _ _ _ h2,ai (by omega),dD h2]) _
  simp only[h1,h2];rw[Xr (by omega),g1];simp only[rT];rw[Xr (by omega),g2];simp only[rT,Qa,gu,kq];have f1:pre.length+i+1<=((pre++(mq l i++post)).map aX).length:=by omega
  have f2:pre.length+(l.length -1 -i)+1<=((pre++(mq l i++post)).map aX).length:=by omega
  simp only[f1,f2,FP,iV,cR];rw[aN (by omega) (by omega),aN (by omega) (by omega)];rw[show Value.int IntKind.u8 (l[l.length -1 -i].toNat:Int)=aX l[l.length -1 -i] from rfl,show Value.int IntKind.u8 (l[i].toNat:Int)=aX l[i] from rfl];rw[KN _ _ _ _ (by rw[UO];exact h2),KN _ _ _ _ (by rw[List.length_set,UO];exact h1),ae0 l (by omega)];rw[show(l.length:Int) -1 -i -1=(l.length:Int) -1 -((i+1:Nat):Int) by omega];rfl
 ·intro g;have e1:¬(((l.length/2:Nat):Int)<(l.length:Int) -1 -((l.length/2:Nat):Int)):=by omega
  simp only[bc,e1,cy,aE]
theorem aa5{α α':Type}{z:α}{F:α->α}{z':α'}{F':α'->α'}(R:α->α'->Prop)(h0:R z z')(hs:∀g g',R g g'->R (F g) (F' g'))(w:Nat):R (lp z F w) (lp z' F' w):=by
 induction w with
 |zero=>exact h0
 |succ w ih=>exact hs _ _ ih
theorem aga(w a b:Nat)(c:List Value):GX w a b c=uI w 0 a b c:=by
 refine aa5 (R:=λ(g:Nat->Nat->Int->Int->List Value->Option (List Value))(g':Nat->Nat->Nat->Int->Int->List Value->Option (List Value))=>∀a b i j c,g a b i j c=g' 0 a b i j c) ?_ ?_ w _ _ _ _ _
 ·intros;rfl
 ·intro g g' h a b i j c;simp_all
theorem af9(l:List UInt8)(hl:l.length<2^60)(hw:l.length+1<w)(c:Nat):GX w l.length c (l.map aX)=some (l.reverse.map aX):=by
 rw[aga];have:=Nx [] l [] hl hw c
 grind
theorem P2:∀(i n:Nat),fj n (i+1)=UInt8.ofNat (n/256^i%256)::fj n i
 |0,n=>by simp[fj]
 |i+1,n=>by show fj (n/256) (i+1)++_=_;rw[P2 i (n/256)];show _=_::(fj (n/256) i++_);rw[jg,Nat.div_div_eq_div_mul,Nat.pow_succ,oF]
theorem af8{s:Int}(h:s=1\/s=2\/s=4)(w:Nat):zy w s=some ((256^s.toNat:Nat):Int):=by rcases h with rfl|rfl|rfl<;>rfl
theorem ail(i:Nat):(2:Int)^(8*i)=((256^i:Nat):Int):=by rw[<-(show(2:Nat)^(8*i)=256^i from by rw[Nat.pow_mul])];simp
theorem nV(l:List UInt8):aj l=ae l.length (l.map aX):=by unfold aj aC;rw[iH]
theorem uz:∀n:Nat,rep n (Value.int IntKind.u8 0).cells.toList=(List.replicate n (0:UInt8)).map aX
 |0=>rfl
 |n+1=>by show _=aX 0::_;rw[<-uz n];rfl
theorem sJ(hw:8<=w)(n s o:Int):gR w n s o=some (match(if fC s o=true then oZ n s.toNat o else none) with|some l=>(aj l,true)|none=>(ae 0 [],false)):=by
 unfold gR;rw[wR (by omega)];cases hm:fC s o with
 |false=>simp
 |true=>
  obtain⟨hs,ho⟩:=ug hm;unfold oZ;simp only[aA,cL,aE,bc,qI,gj];by_cases h0:n<0
  ·rw[ar h0,ai (by omega)]
  rw[ai h0,af8 hs];simp only[aA];by_cases h1:¬n<((256^s.toNat:Nat):Int)
  ·rw[ai (by omega)];simp only[h1,cy,fu,ay]
  replace h1:=qp.1 h1;rw[ar (by omega)];obtain⟨n,rfl⟩:=Int.eq_ofNat_of_zero_le (Int.not_lt.1 h0);obtain⟨s,rfl⟩:=Int.eq_ofNat_of_zero_le (a:=s) (by omega);have hs4:s<=4:=by omega
  have hr:Nat.ble s 1000000000=true:=by rw[kW];omega
  have hr2:Nat.ble s s=true:=by rw[kW];omega
  simp only[h1,bn,cL,aE];simp only[ct,hr,hr2,gY,uz,mB,oD];rw[show List.replicate s (0:UInt8)=List.replicate (s -0) 0++fj n 0 by simp[fj]];refine lD (ev:=λi (g:Int->Int->Int->Nat->Nat->Int->Int->List Value->Option (Value×Bool))=>g n s o s s s i ((List.replicate (s -i) (0:UInt8)++fj n i).map aX)) s ?_ ?_ (by omega)
  ·intro i g hi;have e1:((i:Int)<(s:Int)):=by omega
   simp only[e1,gj];have e2:(ah IntKind.u64 (Int.mul 8 (ah IntKind.u64 (i:Int))))=((8*i:Nat):Int):=by rw[pS,tD (n:=(i:Int)) (by omega) (by omega),tD (by omega) (by omega)];omega
   have e3:(n:Int).fdiv (2^min ((8*i:Nat):Int).toNat 64)=((n/256^i:Nat):Int):=by rw[mB,kE (by omega),ail,Int.fdiv_eq_ediv_of_nonneg _ (Int.natCast_nonneg _)];rfl
   have e4:ah IntKind.u8 ((n/256^i:Nat):Int)=((UInt8.ofNat (n/256^i%256)).toNat:Int):=by rw[xP,IntKind.wrap_u8];simp
   rw[e2,ai (by omega),e3,e4];simp(disch:=omega) only[iV,cR,aN,lk,Qa,fP,gu,lU];have e5:((s:Int) -1 -i).toNat=s -1 -i:=by omega
   have e6:s -1 -i<s:=by omega
   have e7:((List.replicate (s -i) (0:UInt8)++fj n i).map aX).length=s:=by simp[tK];omega
   have e8:0+(s -1 -i)*1+1<=s:=by omega
   simp only[e5,e6,e7,e8,bn,ay];rw[show 0+(s -1 -i)*1=s -1 -i by omega,FP,show Value.int IntKind.u8 ((UInt8.ofNat (n/256^i%256)).toNat:Int)=aX (UInt8.ofNat (n/256^i%256)) from rfl];have e9:(List.replicate (s -i) (0:UInt8)++fj n i)=List.replicate (s -1 -i) 0++([0]++fj n i):=by rw[<-dY,<-List.replicate_succ',show s -1 -i+1=s -i by omega]
   have e10:=KN (List.replicate (s -1 -i) 0) [0] (fj n i) (k:=0) (UInt8.ofNat (n/256^i%256)) (by simp);rw[uX,Nat.add_zero] at e10;rw[e9,e10,P2,show s -(i+1)=s -1 -i by omega];rfl
  ·intro g;simp;unfold aU;have hb:=tK s n;by_cases h2:o=1
   ·subst h2;have:=af9 (w:=w) (fj n s) (by omega) (by omega) s;rw[hb] at this;simp only[this,aA,gj];rw[nV,List.length_reverse,hb]
   ·simp_all;rw[nV,hb]
end
section
set_option maxRecDepth 100000
theorem Iw(l:List UInt8)(s m i:Nat)(h:i<l.length)(hs:0<s)(hm:m<=l.length)(hd:m%s=0):(gS l s m)[i]? =if i<m then l[i -i%s+(s -1 -i%s)]? else l[i]? :=by
 rw[Iv _ _ _ _ h];split
 ·next h1=>
  have:i -i%s+(s -1 -i%s)<l.length:=by
   have h3:=Nat.div_add_mod i s;have h4:=Nat.div_add_mod m s;have h5:i/s<m/s:=by apply Nat.lt_of_mul_lt_mul_left (a:=s);omega
   have h6:s*(i/s+1)<=s*(m/s):=Aq _ h5;rw[Nat.mul_add] at h6;omega
  grind
 ·rw[dD h];rfl
theorem Xf(l:List UInt8){s i:Nat}(hs:0<s)(h:i*s+s<=l.length):
 gS l s ((i+1)*s)=(gS l s (i*s)).take (i*s)++((((gS l s (i*s)).drop (i*s)).take s).reverse++(gS l s (i*s)).drop (i*s+s)):=by
 apply s9;intro j;have e1:(i+1)*s=i*s+s:=by rw[kb,Nat.one_mul]
 have d1:(i*s)%s=0:=Nat.mul_mod_left _ _;have d2:((i+1)*s)%s=0:=Nat.mul_mod_left _ _;have hlen:=qk l s (i*s);by_cases hj:j<l.length
 ·rw[Iw _ _ _ _ hj hs (by omega) d2];by_cases h1:j<i*s
  ·rw[ar (by omega),uU (by rw[dH];omega),List.getElem?_take_of_lt h1,Iw _ _ _ _ hj hs (by omega) d1,ar h1]
  ·by_cases h2:j<i*s+s
   ·have hm:j%s=j -i*s:=by
     have:=rI (show j -i*s<s by omega);rw[<-this]
     conv=>lhs;rw[show j=(j -i*s)+s*i by rw[oF s i];omega]
     rw[Nat.add_mul_mod_self_left]
    rw[ar (by omega),uV (by rw[dH];omega),dH,hlen,kE (by omega)];rw[uU (by rw[List.length_reverse,dH,dZ];omega)];rw[List.getElem?_reverse (by rw[dH,dZ];omega),dH,dZ,hlen,kE (by omega)];rw[List.getElem?_take_of_lt (by omega),List.getElem?_drop,Iw _ _ _ _ (by omega) hs (by omega) d1,ai (by omega),hm]
    congr 1
    omega
   ·rw[ai (by omega),uV (by rw[dH];omega),uV (by simp;omega)];simp;rw[Iw _ _ _ _ (by omega) hs (by omega) d1,ai (by omega)]
    congr 1
    omega
 ·rw[lN (by rw[qk];omega),lN (by simp;omega)]
theorem Xe(l:List UInt8)(s:Nat):gS l s 0=l:=by
 apply s9;intro i;by_cases h:i<l.length
 ·rw[Iv _ _ _ _ h,dD h];rfl
 ·rw[lN (by rw[qk];omega),lN (by omega)]
theorem HH(w:Nat){a b c:Int}(h:-2^62<c/\c<2^62)(ha:a<2^62):wW w a b c=some (decide (0<=a/\0<=b/\a<=c/\b<=c -a)):=by
 unfold wW;simp;by_cases h1:a<0
 ·simp[h1];omega
 by_cases h2:b<0
 ·simp_all;omega
 by_cases h3:c<a
 ·simp_all;omega
 rw[aN (by omega) (by omega)];by_cases h4:c -a<b<;>grind
theorem ag6(w:Nat){n:Nat}(h:n<2^60):HU w (n:Int)=some (aD n:Int):=by
 unfold HU aD;have e:(BitVec.ofInt 64 (n:Int)&&&BitVec.ofInt 64 1).toNat=n%2:=by simp
 rw[e,aN (n:=((n%2:Nat):Int)) (by omega) (by omega),cR,aN (by omega) (by omega)];rfl
variable{w:Nat}
theorem Xb(l:List UInt8)(hl:l.length<2^29)(hw:l.length+10<=w)(s:Nat)(o:Int)(hs:(s:Int)=1\/(s:Int)=2\/(s:Int)=4\/(s:Int)=8)(ho:o=1\/o=2):
 lp (λ(_ _:Int)(_ _:Nat)(_:Int)(_:List Value)=>(none:Option Value))
     (λ(x14:Int->Int->Nat->Nat->Int->List Value->Option Value)(x15 x16:Int)(x17 x18:Nat)(x19:Int)(x20:List Value)=>
      bif ak x16 1 then
       bif !aq (Int.ofNat x17) (ah IntKind.i64 (x19.add x15)) then
        aG (ah IntKind.i64 (x19.add x15)) λx21=>
         aG x19 λx22=>
          bif x21.ble x18&&x22.ble x21 then
           ob (uI w (bif x18.beq x22 then 0 else 0+x22*1) (x21 -x22) (x18 -x22) x20) λx23=>
            x14 x15 x16 x17 x18 (ah IntKind.i64 (x19.add x15)) x23
          else none
       else some (ae x17 (List.drop 0 x20))
      else some (ae x17 (List.drop 0 x20)))
     w (s:Int) o l.length l.length 0 (l.map aX)=some (if o=1 then aj (gS l s (l.length/s*s)) else aj l):=by
 have hs0:0<s:=by omega
 have hs8:s<=8:=by omega
 have hd2:l.length/s<=l.length:=Nat.div_le_self _ _;by_cases h1:o=1
 ·subst h1;have hd:s*(l.length/s)<=l.length:=Nat.mul_div_le _ _;have hd3:l.length<s*(l.length/s)+s:=Nat.lt_mul_div_succ _ hs0;rw[show l.map aX=(gS l s (s*0)).map aX by rw[Nat.mul_zero,Xe],ar rfl];refine lD (ev:=λi (g:Int->Int->Nat->Nat->Int->List Value->Option Value)=>g (s:Int) 1 l.length l.length ((s*i:Nat):Int) ((gS l s (s*i)).map aX)) (l.length/s) ?_ ?_ (by omega)
  ·intro i g hi;have hle:s*(i+1)<=s*(l.length/s):=Aq _ hi;have e1:s*(i+1)=s*i+s:=by rw[Nat.mul_add,gM]
   have e2:(((s*i:Nat):Int).add (s:Int))=((s*(i+1):Nat):Int):=by rw[cR,e1];omega
   simp only[e2,show ak 1 1=true from rfl,ay,bc,cu];rw[aN (by omega) (by omega)];have e3:¬((l.length:Int)<((s*(i+1):Nat):Int)):=by omega
   simp only[e3,cy,fu,ay,ct,gu,AZ];have e4:s*(i+1)<=l.length:=by omega
   have e5:s*i<=s*(i+1):=by omega
   have e6:¬(l.length=s*i):=by omega
   simp only[e4,e5,e6,bn,cy,gY,ay,aE];have hlen:=qk l s (s*i);have:=Nx (w:=w) ((gS l s (s*i)).take (s*i)) (((gS l s (s*i)).drop (s*i)).take s) ((gS l s (s*i)).drop (s*i+s)) (by simp;omega) (by simp;omega) (l.length -s*i);rw[<-oF i s,<-Xf l hs0 (by rw[oF];omega),oF i s,oF (i+1) s,<-List.drop_drop,mD,mD,dH,dH,dZ,hlen,kE (by omega),kE (by omega)] at this;rw[show 0+s*i*1=s*i by omega,show s*(i+1) -s*i=s by omega,this];rfl
  ·intro g;simp only[show ak 1 1=true from rfl,ay,bc,cu,cR];rw[aN (by omega) (by omega)];have e3:((l.length:Int)<((s*(l.length/s):Nat):Int)+(s:Int)):=by omega
   simp_all;rw[nV,qk,oF]
 ·rw[ai h1,ef _ _ (by omega)];simp only[cD,h1,cy,aE,eL,nV]
theorem ag8(l:List UInt8)(hl:l.length<2^29)(hw:l.length+10<=w)(s o:Int):
 HY w (aj l) s o=some (if fC s o=true\/(s=8/\fC 1 o=true) then(if o=1 then aj (gS l s.toNat (l.length/s.toNat*s.toNat)) else aj l) else ae 0 []):=by
 unfold HY MK;rw[wR (by omega)];have hr:Nat.ble l.length 1000000000=true:=by rw[kW];omega
 have hr2:Nat.ble l.length l.length=true:=by rw[kW];omega
 have hi:aW 0 (List.take (l.length*1) (l.map aX)) (List.map aX (List.replicate l.length 0))=l.map aX:=by have:=FO (l.map aX) (List.map aX (List.replicate l.length 0)) [] [] (by simp);simp only[List.length_nil,iF,eH] at this;rw[gM,gh (by simp),this]
 have hq:((l.map aX).length.beq (l.length*1)&&(0+l.length*1).ble (List.map aX (List.replicate l.length 0)).length)=true:=by simp
 by_cases hc:¬(fC s o=true\/(s=8/\fC 1 o=true))
 ·rw[ai hc];have hm:fC s o=false:=by cases h:fC s o<;>simp_all
  simp;by_cases h8:s=8
  ·have hm1:fC 1 o=false:=by cases h:fC 1 o<;>simp_all
   simp_all;rw[wR (by omega),hm1];rfl
  ·simp_all
 replace hc:=qp.1 hc;have hs:s=1\/s=2\/s=4\/s=8:=by
  rcases hc with h|h
  ·have:=(ug h).1;omega
  ·omega
 have ho:o=1\/o=2:=by
  rcases hc with h|h
  ·exact(ug h).2
  ·exact(ug h.2).2
 obtain⟨s,rfl⟩:=Int.eq_ofNat_of_zero_le (a:=s) (by omega);have hs0:0<s:=by omega
 have hs8:s<=8:=by omega
 rw[ar hc,mB];cases hm:fC s o;all_goals simp only[aA,cL,fu,ay,aE]
 ·have h8:(s:Int)=8:=by rcases hc with h|h;(rw[hm] at h;cases h);exact h.1
  have hm1:fC 1 o=true:=by rcases hc with h|h;(rw[hm] at h;cases h);exact h.2
  rw[wR (by omega),hm1,show ak (s:Int) 8=true by rw[h8];rfl];simp only[cL,aE,aA,dU,ij,hr,hr2,gY,uz,iH,Nat.min_self];rw[hq,ay,hi];exact Xb l hl hw s o hs ho
 ·simp only[dU,ij,hr,hr2,gY,uz,iH,Nat.min_self];rw[hq,ay,hi];exact Xb l hl hw s o hs ho
end
section
set_option maxRecDepth 100000
theorem zG(w:Nat)(t:Int):sP w t=some (kindOf t):=by
 by_cases o:t<1\/12<t
 ·rw[EN o];unfold sP;simp only[bc,qI];by_cases h:t<0
  ·rw[ar h]
  rw[ai h];by_cases h2:12<t
  ·rw[ar h2]
  rw[show t=0 by omega];rfl
 ·have hc:t=1\/t=2\/t=3\/t=4\/t=5\/t=6\/t=7\/t=8\/t=9\/t=10\/t=11\/t=12:=by omega
  rcases hc with rfl|rfl|rfl|rfl|rfl|rfl|rfl|rfl|rfl|rfl|rfl|rfl<;>rfl
theorem Bw(t:Int):0<=(kindOf t).1 /\(kindOf t).1 <=8:=by
 by_cases o:t<1\/12<t
 ·rw[EN o];exact⟨by decide,by decide⟩
 ·have hc:t=1\/t=2\/t=3\/t=4\/t=5\/t=6\/t=7\/t=8\/t=9\/t=10\/t=11\/t=12:=by omega
  rcases hc with rfl|rfl|rfl|rfl|rfl|rfl|rfl|rfl|rfl|rfl|rfl|rfl<;>exact⟨by decide,by decide⟩
theorem V7(w:Nat)(t:Int):CJ w t=some (kindOf t).1 :=by unfold CJ;rw[zG];rfl
theorem Pc:∀l:List UInt8,rF (l.map aX)=some (l.map λb=>(b.toNat:Int))
 |[]=>rfl
 |b::l=>by show ob (rF (l.map aX)) _=_;rw[Pc l];rfl
theorem vJ{β:Type}(l:List UInt8)(K:List Int->Option β):jQ (aj l) K=K (l.map λb=>(b.toNat:Int)):=by rw[nV];show cond (Nat.ble l.length (l.map aX).length) (ob (rF ((l.map aX).take l.length)) K) none=_;rw[gh (by simp),Pc,eD,show Nat.ble l.length l.length=true by rw[kW];exact aB _];rfl
theorem Yi(l:List UInt8):Lib.bytesOf (l.map λb=>(b.toNat:Int))=l:=by
 unfold Lib.bytesOf;rw[List.map_map]
 conv=>rhs;rw[<-List.map_id l]
 apply List.map_congr_left;simp
theorem QT(b:UInt8)(l:List UInt8):Bh (b::l)=(((b==0)==l.isEmpty)&&Bh l):=by
 unfold Bh;rw[cQ,xu,List.all_cons,List.all_map]
 grind
theorem RR:∀l:List UInt8,l≠[]->((Lib.indexByte l 0=(l.length:Int) -1)↔Bh l=true)
 |[],h=>absurd rfl h
 |[b],_=>by
  rw[QT];by_cases hb:b=0
  ·subst hb;decide
  ·simp[hb,Lib.indexByte]
 |b::c::l,_=>by
  rw[QT];have ih:=RR (c::l) (by simp);unfold Lib.indexByte;by_cases hb:b=0
  ·subst hb;simp;omega
  ·have hb':(b==0)=false:=by simpa using hb
   simp only[hb',List.isEmpty_cons,BEq.rfl,fP];rw[<-ih];by_cases h1:Lib.indexByte (c::l) 0=-1
   ·simp;omega
   ·have h1':(Lib.indexByte (c::l) 0==-1)=false:=by simpa using h1
    simp only[h1'];simp
theorem agR(w:Nat){l:List UInt8}(h:l≠[]):CG w (aj l) 0=some (Lib.indexByte l 0):=by
 unfold CG;rw[vJ,Yi];cases l with
 |nil=>grind
 |cons b l=>rfl
theorem zI(w:Nat)(ty au:Int)(l:List UInt8)(hl:l.length<2^40):qi w ty au (aj l)=some (dW ty au l):=by
 unfold qi dW;rw[zG];have hk:=Bw ty;simp;by_cases h1:(kindOf ty).1 =0
 ·simp[h1]
 by_cases h2:au<1
 ·rw[ar h2];have:¬(1<=au):=by omega
  simp[this]
 rw[ai h2];by_cases h3:65536<au
 ·rw[ar h3];have:¬(au<=65536):=by omega
  simp[this]
 rw[ai h3];have h5:au*(kindOf ty).1 <=65536*8:=Int.mul_le_mul (by omega) (by omega) (by omega) (by omega);have h6:0<=au*(kindOf ty).1 :=Int.mul_nonneg (by omega) (by omega);rw[aN (by omega) (by omega)];by_cases h4:(l.length:Int)=au*(kindOf ty).1
 ·have h1':(kindOf ty).1 ≠0:=h1;have h2':1<=au:=by omega
  have h3':au<=65536:=by omega
  have h0:l≠[]:=by
   rintro rfl
   have:1*1<=au*(kindOf ty).1 :=Int.mul_le_mul h2' (by omega) (by decide) (by omega);simp at h4;omega
  rw[agR w h0];simp only[h4,h1',h2',h3',bn,aA,fP];rw[<-h4,aN (by omega) (by omega)];have:=RR l h0;by_cases h7:ty=2
  ·subst h7;simp_all
  ·simp[h7]
 ·simp[h4]
theorem Sm(t:Int)(h:(kindOf t).1 ≠0):(kindOf t).2.1 =1\/(kindOf t).2.1 =2\/(kindOf t).2.1 =4\/(kindOf t).2.1 =8:=by obtain⟨s,m,e1,e2,e3⟩:=Ku t h;omega
theorem V9{w:Nat}(ty au:Int)(l:List UInt8)(hl:l.length<2^29)(hw:l.length+10<=w)(o:Int)(ho:o=1\/o=2):
 CM w ty au (aj l) o=some (match oW ty au l o with|some d=>(ty,au,aj d,true)|none=>(0,0,ae 0 [],false)):=by
 unfold CM oW;rw[zG];have hk:=Bw ty;simp only[aA,cD,bc,qI,dU,cu,pS];by_cases h1:(kindOf ty).1 =0
 ·simp[h1]
 rw[ai h1];by_cases h2:au<1
 ·rw[ar h2,ai (by omega)]
 rw[ai h2];by_cases h3:65536<au
 ·rw[ar h3,ai (by omega)]
 rw[ai h3];have h5:au*(kindOf ty).1 <=65536*8:=Int.mul_le_mul (by omega) (by omega) (by omega) (by omega);have h6:0<=au*(kindOf ty).1 :=Int.mul_nonneg (by omega) (by omega);rw[aN (by omega) (by omega)];by_cases h4:(l.length:Int)<au*(kindOf ty).1
 ·rw[ar h4,ai (by omega)]
 rw[ai h4];have h7:(au*(kindOf ty).1).toNat<=l.length:=by omega
 simp only[lk h6,gu,h7,gZ,bn];rw[pL l h7,eL,Nat.sub_zero];have hlen:(l.take (au*(kindOf ty).1).toNat).length=(au*(kindOf ty).1).toNat:=by rw[dH];omega
 rw[ag8 _ (by omega) (by omega)];have hc:fC (kindOf ty).2.1 o=true\/((kindOf ty).2.1 =8/\fC 1 o=true):=by rcases(Sm ty h1) with h|h|h|h<;>rcases ho with rfl|rfl<;>rw[h]<;>simp[fC,Db]
 rw[ar hc];obtain⟨s,m,e1,e2,e3⟩:=Ku ty h1;have hd:(l.take (au*(kindOf ty).1).toNat).length/(kindOf ty).2.1.toNat*(kindOf ty).2.1.toNat=(l.take (au*(kindOf ty).1).toNat).length:=by rw[hlen,e1,mB];apply Nat.div_mul_cancel;rw[e2];refine⟨au.toNat*m,?_⟩;obtain⟨c,rfl⟩:=Int.eq_ofNat_of_zero_le (a:=au) (by omega);rw[<-Int.natCast_mul,mB,mB,<-Nat.mul_assoc,oF]
 rw[hd];have ht:(if o=1 then aj (gS (l.take (au*(kindOf ty).1).toNat) (kindOf ty).2.1.toNat (l.take (au*(kindOf ty).1).toNat).length) else aj (l.take (au*(kindOf ty).1).toNat))=aj (iM (l.take (au*(kindOf ty).1).toNat) (kindOf ty).2.1.toNat o):=by unfold iM;split<;>rfl
 rw[ht];simp;rw[zI _ _ _ _ (by rw[xc];omega)];cases hm:dW ty au (iM (l.take (au*(kindOf ty).1).toNat) (kindOf ty).2.1.toNat o) with
 |true=>rw[ar ⟨h1,by omega,by omega,by omega,rfl⟩];rfl
 |false=>rw[ai (by simp)];rfl
end
section
set_option maxRecDepth 100000
theorem SF(ty au:Int):0<=iW ty au/\iW ty au<=65536*8:=by
 unfold iW;have hk:=Bw ty;split
 ·simp
 ·exact⟨Int.mul_nonneg (by omega) (by omega),Int.mul_le_mul (by omega) (by omega) (by omega) (by simp)⟩
theorem Wd(w:Nat)(ty au:Int):CP w ty au=some (iW ty au):=by
 have hs:=SF ty au;unfold CP;unfold iW at hs⊢;simp;by_cases h1:au<1
 ·rw[ar h1,ar (.inl h1)]
 rw[ai h1];by_cases h2:65536<au
 ·rw[ar h2,ar (.inr h2)]
 rw[ai h2,ai (by omega),V7];simp;rw[aN (by omega) (by omega)]
theorem V8(w:Nat)(ty au:Int):CL w ty au=some (bY ty au:Int):=by
 unfold CL bY;rw[Wd];simp
 grind
theorem ag9(w:Nat)(ty au:Int):H5 w ty au=some (decide (0<iW ty au/\iW ty au<=4)):=by
 unfold H5;rw[Wd];simp;by_cases h:0<iW ty au
 ·rw[ar h];by_cases h2:4<iW ty au
  ·grind
  grind
 grind
variable{α:Type}
def db(p:α->Bool)(l:List α):Int:=match l.findIdx? p with
 |some i=>(i:Int)
 |none=>-1
theorem yF(p:α->Bool)(l:List α):db p l<0↔l.all (λx=>!p x)=true:=by
 unfold db;cases h:l.findIdx? p with
 |none=>grind
 |some i=>
  obtain⟨hi,h1,-⟩:=List.findIdx?_eq_some_iff_getElem.1 h
  grind
variable{w:Nat}
theorem mg{δ:Type}{z:δ}{F:δ->δ}(l:List α)(p:α->Bool)(ev:Nat->δ->Option Int)(hs:∀i g (h:i<l.length),ev i (F g)=if p l[i]=true then some (i:Int) else ev (i+1) g)(he:∀g,ev l.length (F g)=some (-1))(hw:l.length<w):
 ev 0 (lp z F w)=some (db p l):=by
 have key:∀(d i v:Nat),i+d=l.length->d<v->ev i (lp z F v)=some (match(l.drop i).findIdx? p with|some j=>((i+j:Nat):Int)|none=>-1):=by
  intro d;induction d with
  |zero=>
   intro i v hi hv;obtain rfl:i=l.length:=by omega
   rw[ef z F (by omega),he,s8];rfl
  |succ d ih=>
   intro i v hi hv;have hlt:i<l.length:=by omega
   rw[ef z F (by omega),hs i _ hlt,dG hlt,List.findIdx?_cons];by_cases hp:p l[i]=true
   ·rw[ar hp,ar hp];rfl
   ·grind
 have:=key l.length 0 w (by omega) hw;rw[this,eL];unfold db;cases l.findIdx? p<;>simp
theorem ahb(l:List UInt8)(hl:l.length<2^40)(hw:l.length<w):On w (aj l)=some (db (λb=>b !=0) l):=by
 refine mg l (λb=>b !=0) (ev:=λi (g:Value->Int->Int->Option Int)=>g (aj l) l.length i) ?_ ?_ hw
 ·intro i g h;have e1:((i:Int)<(l.length:Int)):=by omega
  simp only[bc,e1,ct];rw[pV h];simp only[bN,rT];unfold Oj;simp only[cD,cR];rw[aN (by omega) (by omega)];have e2:(decide ((l[i].toNat:Int)=0))=!(l[i]!=0):=by rw[fO];simp[<-nC]
  rw[e2];cases l[i]!=0<;>simp
 ·intro g;simp
theorem aha(l:List UInt8)(hl:l.length<2^40)(hw:l.length<w):H6 w (aj l)=some (!l.all (·==0)):=by
 unfold H6;rw[ahb l hl hw];simp;have:=yF (λb:UInt8=>b !=0) l
 grind
theorem LN(n:Int)(o:Int):oZ n 4 o=if 0<=n/\n<4294967296 then some (aU n.toNat 4 o) else none:=rfl
def Iy(ty au slot order:Int):Option (List UInt8×Bool):=
 if 0<=slot/\slot<4294967296/\0<iW ty au/\iW ty au<=4 then
  (oW ty au (aU slot.toNat 4 order) order).map λd=>(d,((aU slot.toNat 4 order).drop d.length).all (·==0))
 else none
theorem abA{ty au:Int}{b d:List UInt8}{o:Int}(h:oW ty au b o=some d):d.length<=b.length:=by
 unfold oW at h;split at h
 ·cases h;rw[xc,dH];omega
 grind
theorem ag3(hw:100<=w)(tag ty au slot o:Int)(ho:o=1\/o=2):
 HS w tag ty au slot o=some (match Iy ty au slot o with|some (d,c)=>(ty,au,aj d,c,true)|none=>(0,0,ae 0 [],false,false)):=by
 unfold HS Iy;rw[sJ (by omega),ar (by rcases ho with rfl|rfl<;>rfl),show(4:Int).toNat=4 from rfl,LN,ag9];by_cases h1:¬(0<=slot/\slot<4294967296)
 ·rw[ai h1,ai (by omega)];rfl
 replace h1:=qp.1 h1;rw[ar h1];by_cases h2:¬(0<iW ty au/\iW ty au<=4)
 ·rw[ai (by omega)];simp[h2]
 simp_all;have hl:(aU slot.toNat 4 o).length=4:=eh _ _ _;rw[V9 ty au _ (by omega) (by omega) o ho];cases hv:oW ty au (aU slot.toNat 4 o) o with
 |none=>rfl
 |some d=>simp[(abA hv)];rw[pL _ (aB _),gh (by rw[dZ];omega),aha _ (by rw[dZ];omega) (by rw[dZ];omega)];simp
theorem H4(hw:5<=w)(l:List UInt8)(hl:l.length<2^60)(s o p:Int)(ok:Bool)(hp:0<=p/\p<2^60)(hs:0<=s/\s<=8):
 wY w s (aj l) o p ok=some ((oR l p s o).getD 0,aj l,o,p+s,ok&&(oR l p s o).isSome):=by
 unfold wY Om;rw[GG hw l hl p s o (by omega)];simp;rw[aN (by omega) (by omega)]
 grind
theorem ag0(hw:5<=w)(l:List UInt8)(hl:l.length<2^50)(p:Nat)(o:Int)(ho:o=1\/o=2):
 HK w (aj l) p o=some (if p+12<=l.length then((cn l p 2 o:Int),(cn l (p+2) 2 o:Int),(cn l (p+4) 4 o:Int),(cn l (p+8) 4 o:Int),true) else(0,0,0,0,false)):=by
 unfold HK;rw[dU];by_cases hp:¬(p+12<=l.length)
 ·by_cases hb:(p:Int)<2^62
  ·rw[HH w ⟨by simp;omega,by simp only[oD];omega⟩ hb];have:¬(0<=(p:Int)/\(0:Int)<=12/\(p:Int)<=Int.ofNat l.length/\(12:Int)<=Int.ofNat l.length -p):=by
    simp;omega
   simp only[aA,this,cy,fu,ay];rw[ai hp]
  ·unfold wW;have e1:¬((p:Int)<0):=by omega
   have e2:Int.ofNat l.length<(p:Int):=by simp;omega
   simp only[bc,e1,e2,cy,bn,fu,cL,ay,aE,show decide ((12:Int)<0)=false from rfl,aA];rw[ai hp]
 replace hp:=qp.1 hp;rw[ar hp,HH w ⟨by simp;omega,by simp only[oD];omega⟩ (by omega)];have:(0<=(p:Int)/\(0:Int)<=12/\(p:Int)<=Int.ofNat l.length/\(12:Int)<=Int.ofNat l.length -p):=by simp;omega
 simp_all;have g:∀(k s:Nat),(s=2\/s=4)->k+s<=12->(oR l ((p:Int)+k) s o).isSome=true/\(oR l ((p:Int)+k) s o).getD 0=(cn l (p+k) s o:Int):=by intro k s hs hk;have:=Bq (l:=l) (p:=p+k) (s:=s) (by omega) ho (by omega);rw[show((p+k:Nat):Int)=(p:Int)+k by omega] at this;unfold cn;rw[show((p+k:Nat):Int)=(p:Int)+k by omega,this];exact⟨rfl,by simp⟩
 rw[H4 hw l (by omega) 2 o p true (by omega) (by omega)];simp;rw[H4 hw l (by omega) 2 o _ _ (by omega) (by omega)];simp;rw[H4 hw l (by omega) 4 o _ _ (by omega) (by omega)];simp;rw[H4 hw l (by omega) 4 o _ _ (by omega) (by omega)];have g0:=g 0 2 (.inl rfl) (by decide);have g1:=g 2 2 (.inl rfl) (by decide);have g2:=g 4 4 (.inr rfl) (by decide);have g3:=g 8 4 (.inr rfl) (by decide);rw[show(p:Int)+((0:Nat):Int)=p by omega] at g0;rw[show(p:Int)+2+2=(p:Int)+4 by omega,show(p:Int)+4+4=(p:Int)+8 by omega];simp at g0 g1 g2 g3;rw[g0.1,g1.1,g2.1,g3.1,g0.2,g1.2,g2.2,g3.2];rfl
end
section
set_option maxRecDepth 100000
def cx(t:aI):List Value:=[.int .i64 t.tag,.int .i64 t.ty,.int .i64 t.au,aj t.data]
theorem gI(t:aI):(cx t).length=4:=rfl
def az(l:List aI):Value:=aC cx l
def lC(x:gU):List Value:=[.int .i64 x.tag,.int .i64 x.shape]
theorem ue(x:gU):(lC x).length=2:=rfl
def fY(l:List gU):Value:=aC lC l
def iL(s:aV):List Value:=[fY s.bG,.int .i64 s.at_,.int .i64 s.cA,.int .i64 s.next]
theorem zZ(s:aV):(iL s).length=4:=rfl
def cw(l:List aV):Value:=aC iL l
mutual
def dK:aO->List Value
 | .mk tags subs blob=>[az tags,ae (cm subs) (gd subs),aj blob]
def gd:cF->List Value
 | .nil=>[]
 | .cons tag d r=>.int .i64 tag::(dK d++gd r)
end
theorem nX(d:aO):(dK d).length=3:=by cases d;rfl
theorem WQ:∀s:cF,(gd s).length=cm s*4
 | .nil=>rfl
 | .cons tag d r=>by show(dK d++gd r).length+1=(cm r+1)*4;rw[aR,nX,WQ r];omega
variable{w:Nat}
theorem SG{δ:Type}{z:δ}{F:δ->δ}(m:Nat)(ok:Nat->Bool)(ev:Nat->δ->Option Bool)(hs:∀i g,i<m->ev i (F g)=if ok i=true then ev (i+1) g else some false)(he:∀g,ev m (F g)=some true)(hw:m<w):
 ev 0 (lp z F w)=some ((List.range m).all ok):=by
 have key:∀(d i v:Nat),i+d=m->d<v->ev i (lp z F v)=some ((List.range d).all λj=>ok (i+j)):=by
  intro d;induction d with
  |zero=>intro i v hi hv;rw[ef z F (by omega),show i=m by omega,he];rfl
  |succ d ih=>
   intro i v hi hv;rw[ef z F (by omega),hs i _ (by omega),xu];by_cases h:ok i=true
   ·rw[ih (i+1) (v -1) (by omega) (by omega)];simp[h]
    congr 2
    funext j
    congr 1;omega
   ·rw[ai h];simp[h]
 have:=key m 0 w (by omega) hw;simpa using this
theorem agN(hw:8<=w)(n:Int):zO w n=some (my n):=by unfold zO;rw[sJ hw];have hm:fC 2 2=true:=rfl;rw[ar hm];unfold oZ my;by_cases h:0<=n/\n<65536<;>simp[h]
theorem G7(w:Nat)(tags:List aI)(subs:cF)(blob:List UInt8)(h:tags.length+cm subs<2^60):jT w (az tags) (ae (cm subs) (gd subs)) (aj blob)=some (bF (.mk tags subs blob):Int):=by
 unfold jT az bF;simp only[dw,aaQ,dU,bc,qI,cu,cR];rw[aN (n:=(tags.length:Int)+(cm subs:Int)) (by omega) (by omega)];by_cases hb:blob.length=0
 ·rw[ai (by omega),ar hb];rfl
 ·rw[ar (by omega),ai hb,aN (by omega) (by omega)];rfl
end
section
set_option maxRecDepth 100000
variable{w:Nat}
theorem agK(l:List gU)(n:Int)(hl:l.length<2^40)(hw:l.length<w):NS w (fY l) n=some (db (λx=>x.tag==n) l):=by
 refine mg l (λx=>x.tag==n) (ev:=λi (g:Value->List Value->Int->Int->Option Int)=>g (aC lC l) [.int .i64 n] l.length i) ?_ ?_ hw
 ·intro i g h;simp_all;rw[bW ue h];unfold lC Ol;simp only[jg,bN,cH,aA,cD];rw[aN (by omega) (by omega)];by_cases e2:l[i].tag=n<;>grind
 ·intro g;simp
theorem ag2(l:List gU)(n:Int)(hl:l.length<2^40)(hw:l.length<w):CI w (fY l) n=some (l.any λx=>x.tag==n):=by
 unfold CI;rw[agK l n hl hw];simp;have:=yF (λx:gU=>x.tag==n) l
 grind
def IS(S:aV):Prop:=0<=S.at_
theorem ag7(S:aV)(n:Int)(hs:IS S)(hl:S.bG.length<2^40)(hw:S.bG.length<w):CN w (fY S.bG) S.at_ S.cA S.next n=some (ej S n):=by
 have hs:0<=S.at_:=hs;unfold CN ej eZ eS;rw[ag2 S.bG n hl hw];simp;by_cases h0:0<S.at_
 ·have h1:S.at_≠0:=by omega
  grind
 grind
theorem ae3(l:List aI):fD l=(List.range l.length).all λi=>decide (i=0)||decide ((l[i -1]?.getD ⟨0,0,0,[]⟩).tag<(l[i]?.getD ⟨0,0,0,[]⟩).tag):=by
 induction l with
 |nil=>rfl
 |cons a l ih=>
  cases l with
  |nil=>rfl
  |cons b l=>
   show(decide (a.tag<b.tag)&&fD (b::l))=_;rw[ih,cQ (a:=a),xu,cQ,xu];simp
   congr 1
theorem ah9(S:aV)(l:List aI):jI S l=(List.range l.length).all λi=>(decide (i=0)||decide ((l[i -1]?.getD ⟨0,0,0,[]⟩).tag<(l[i]?.getD ⟨0,0,0,[]⟩).tag))&&(my (l[i]?.getD ⟨0,0,0,[]⟩).tag&&(!ej S (l[i]?.getD ⟨0,0,0,[]⟩).tag&&dW (l[i]?.getD ⟨0,0,0,[]⟩).ty (l[i]?.getD ⟨0,0,0,[]⟩).au (l[i]?.getD ⟨0,0,0,[]⟩).data)):=by
 unfold jI;rw[ae3,fO];simp;constructor
 ·grind
 ·intro h;refine⟨λi hi=>(h i hi).1,λx hx=>?_⟩;obtain⟨i,hi,rfl⟩:=List.getElem_of_mem hx
  grind
theorem agU(S:aV)(l:List aI)(X Y Z:Value)(hs:IS S)(hS:S.bG.length<2^40)(hl:l.length<2^40)(hd:∀t∈l,t.data.length<2^40)(hw:S.bG.length+l.length+10<=w):
 Hv w X (az l) Y Z (fY S.bG) S.at_ S.cA S.next=some (jI S l):=by
 unfold Hv az;rw[dw,ah9];refine SG l.length _ (ev:=λi (g:Value->Int->Int->Value->Value->Value->Value->Int->Int->Int->Option Bool)=>g (aC cx l) l.length i (aC cx l) Y Z (fY S.bG) S.at_ S.cA S.next) ?_ ?_ (by omega)
 ·intro i g h;have e1:((i:Int)<(l.length:Int)):=by omega
  simp only[bc,e1,bn,ay,ct];rw[bW gI h,dD h];have hdi:=hd _ (dL h);have tg:∀(t:aI)(r:List Value),cx t++r=.int .i64 t.tag::.int .i64 t.ty::.int .i64 t.au::aj t.data::r:=λ_ _=>rfl;simp only[tg,bN,cH,cR,iV,te];rw[agN (by omega),aN (n:=(i:Int)+1) (by omega) (by omega)];simp only[aA];rw[ag7 S _ hs hS (by omega),zI w _ _ _ hdi];simp only[aA];have fin:∀a b:Bool,(cond a (some false) (cond (!b) (some false) (g (aC cx l) (l.length:Int) ((i:Int)+1) (aC cx l) Y Z (fY S.bG) S.at_ S.cA S.next)))=if(!a&&b)=true then g (aC cx l) (l.length:Int) ((i+1:Nat):Int) (aC cx l) Y Z (fY S.bG) S.at_ S.cA S.next else some false:=by intro a b;cases a<;>cases b<;>rfl
  rcases Bool.eq_false_or_eq_true (my l[i].tag) with ht|ht
  ·simp only[ht,cL,aE,fP];by_cases h0:i=0
   ·have e2:¬((0:Int)<(i:Int)):=by omega
    have e3:decide (i=0)=true:=by simp[h0]
    simp only[e2,cy,aE,fin,e3,Bool.true_or,fP]
   ·have e2:((0:Int)<(i:Int)):=by omega
    rw[aN (n:=(i:Int) -1) (by omega) (by omega),lk (by omega),show((i:Int) -1).toNat=i -1 by omega];rw[bW gI (show i -1<l.length by omega)];simp_all;by_cases h3:l[i -1].tag<l[i].tag<;>grind
  ·simp_all
 ·intro g;have e1:¬((l.length:Int)<(l.length:Int)):=by omega
  simp
end
section
set_option maxRecDepth 100000
def aL:cF->List (Int×aO)
 | .nil=>[]
 | .cons tag d r=>(tag,d)::aL r
def dT:aO->Value
 | .mk tags _ _=>az tags
def dS:aO->Value
 | .mk _ subs _=>ae (cm subs) (gd subs)
def dB:aO->Value
 | .mk _ _ blob=>aj blob
theorem pM(d:aO):dK d=[dT d,dS d,dB d]:=by cases d;rfl
def fH(p:Int×aO):List Value:=.int .i64 p.1 ::dK p.2
theorem uP(p:Int×aO):(fH p).length=4:=by unfold fH;rw[cQ,nX]
theorem uQ:∀s:cF,(aL s).length=cm s
 | .nil=>rfl
 | .cons _ _ r=>by show(aL r).length+1=cm r+1;rw[uQ r]
theorem OX:∀s:cF,gd s=(aL s).flatMap fH
 | .nil=>rfl
 | .cons t d r=>by show Value.int .i64 t::(dK d++gd r)=(Value.int .i64 t::dK d)++(aL r).flatMap fH;rw[OX r];rfl
theorem Da(s:cF):ae (cm s) (gd s)=aC fH (aL s):=by unfold aC;rw[uQ,OX]
mutual
def gV(m:Nat):aO->Prop
 | .mk tags subs blob=>tags.length<=m/\cm subs<=m/\blob.length<=m/\(∀t∈tags,t.data.length<=m)/\gW m subs
def gW(m:Nat):cF->Prop
 | .nil=>True
 | .cons _ d r=>gV m d/\gW m r
end
variable{m:Nat}
theorem xG:∀{s:cF},gW m s->∀p∈aL s,gV m p.2
 | .nil,_,p,h=>by cases h
 | .cons t d r,h,p,hp=>by
  rcases cj.1 hp with rfl|hp
  ·exact h.1
  ·exact xG h.2 p hp
theorem Ed:∀{s:cF},∀p∈aL s,fA p.2 <=jw s
 | .nil,p,h=>by cases h
 | .cons t d r,p,hp=>by
  rcases cj.1 hp with rfl|hp
  ·exact Nat.le_max_left _ _
  ·exact eP (Ed p hp) (Nat.le_max_right _ _)
variable{w:Nat}
theorem agG(l:List gU)(n:Int)(a b c:Value)(hl:l.length<2^40)(hw:l.length<w):NT w (fY l) n a b c=some (db (λx=>x.tag==n) l):=by
 refine mg l (λx=>x.tag==n) (ev:=λi (g:Value->List Value->Int->Int->Option Int)=>g (aC lC l) [.int .i64 n,a,b,c] l.length i) ?_ ?_ hw
 ·intro i g h;simp_all;rw[bW ue h];unfold lC Oc;rw[aN (by omega) (by omega)];simp
 simp
theorem KB(S:aV)(n:Int):(db (λx:gU=>x.tag==n) S.bG<0/\eS S n=false)\/
 ∃k,∃h:k<S.bG.length,db (λx:gU=>x.tag==n) S.bG=(k:Int)/\eS S n=true/\(kM S n).getD 0=(S.bG[k]).shape.toNat:=by
 unfold eS kM db;cases h:S.bG.findIdx? (λx=>x.tag==n) with
 |none=>left;refine⟨by decide,?_⟩;rw[List.findIdx?_eq_none_iff] at h;rw[Bool.eq_false_iff];intro q;obtain⟨x,hx,e⟩:=List.any_eq_true.1 q;rw[h x hx] at e;cases e
 |some k=>
  right;obtain⟨hk,h1,h2⟩:=List.findIdx?_eq_some_iff_getElem.1 h;refine⟨k,hk,rfl,List.any_eq_true.2 ⟨_,dL hk,h1⟩,?_⟩;have:S.bG.find? (λx=>x.tag==n)=some S.bG[k]:=by rw[List.find?_eq_some_iff_getElem];exact⟨h1,k,hk,rfl,λj hj=>by have:=h2 j hj;simpa using this⟩
  rw[this];rfl
theorem ae2(l:List Int):nh l=(List.range l.length).all λi=>decide (i=0)||decide ((l[i -1]?.getD 0)<(l[i]?.getD 0)):=by
 induction l with
 |nil=>rfl
 |cons a l ih=>
  cases l with
  |nil=>rfl
  |cons b l=>
   show(decide (a<b)&&nh (b::l))=_;rw[ih,cQ (a:=a),xu,cQ,xu];simp
   congr 1
theorem WO:∀s:cF,kx s=(aL s).map Prod.fst
 | .nil=>rfl
 | .cons t d r=>by show t::kx r=t::(aL r).map Prod.fst;rw[WO r]
theorem RD(sh:List aV)(S:aV):∀s:cF,iB sh S s=(aL s).all λp=>eS S p.1 &&cK sh ((kM S p.1).getD 0) p.2
 | .nil=>by simp[iB,aL]
 | .cons t d r=>by simp only[iB,aL,List.all_cons];rw[RD sh S r,Bool.and_assoc]
def yQ:Int×aO:=(0,.mk [] .nil [])
theorem Z3(sh:List aV)(S:aV)(s:cF):(nh (kx s)&&iB sh S s)=(List.range (aL s).length).all λi=>
 (decide (i=0)||decide (((aL s)[i -1]?.getD yQ).1 <((aL s)[i]?.getD yQ).1))&&(eS S ((aL s)[i]?.getD yQ).1 &&cK sh ((kM S ((aL s)[i]?.getD yQ).1).getD 0) ((aL s)[i]?.getD yQ).2):=by
 rw[ae2,RD,WO,eD,fO];simp only[bg,jf,List.mem_range];have hf:∀i:Nat,((List.map Prod.fst (aL s))[i]?).getD 0=((aL s)[i]?.getD yQ).1 :=by intro i;rw[List.getElem?_map];cases(aL s)[i]? <;>rfl
 simp only[hf];constructor
 ·grind
 ·intro h;refine⟨λi hi=>(h i hi).1,λx hx=>?_⟩;obtain⟨i,hi,rfl⟩:=List.getElem_of_mem hx
  grind
theorem ahS(hm:m<2^38)(hw:2*m+100<=w)(sh:List aV)(hsh:iu sh)(hl:∀s,s<sh.length->(aJ sh s).bG.length<=m)(rec:Value->Value->Value->Value->Int->Option Bool)
 (d:aO) (s:Nat) (hs:s<sh.length) (hd:gV m d) (hrec:∀p∈aL (match d with| .mk _ subs _=>subs),∀k:Nat,k<sh.length->rec (cw sh) (dT p.2) (dS p.2) (dB p.2) (k:Int)=some (cK sh k p.2)):
 Ir w rec (cw sh) (dT d) (dS d) (dB d) (s:Int)=some (cK sh s d):=by
 obtain⟨tags,subs,blob⟩:=d;have hd:tags.length<=m/\cm subs<=m/\blob.length<=m/\(∀t∈tags,t.data.length<=m)/\gW m subs:=hd;have hS:sh[s]=aJ sh s:=by unfold aJ;rw[dD hs];rfl
 have hp:IS (aJ sh s):=by
  have:=(hsh.ok s).pair;show 0<=(aJ sh s).at_;by_cases q:(aJ sh s).at_=0
  ·omega
  ·have:=this q;omega
 have hln:=hl s hs;unfold Ir cw cK MH;simp only[dT,dS,dB,ct];rw[bW zZ hs,hS];have tg:∀(S:aV)(r:List Value),iL S++r=fY S.bG::.int .i64 S.at_::.int .i64 S.cA::.int .i64 S.next::r:=λ_ _=>rfl;simp only[tg,bN,cH];rw[G7 w tags subs blob (by omega),agU (aJ sh s) tags _ _ _ hp (by omega) (by omega) (λt ht=>by have:=hd.2.2.2.1 t ht;omega) (by omega)];simp only[aA,bc,qI,cD];generalize hE:bF (.mk tags subs blob)=E;by_cases h1:(E:Int)<1
 ·rw[ar h1];have:¬(1<=E/\E<=65535):=by omega
  simp[this]
 rw[ai h1];by_cases h2:65535<(E:Int)
 ·rw[ar h2];have:¬(1<=E/\E<=65535):=by omega
  simp[this]
 rw[ai h2];have h3:(1<=E/\E<=65535):=by omega
 simp only[h3,and_self,bn,fP];rcases Bool.eq_false_or_eq_true (jI (aJ sh s) tags) with ht|ht
 ·simp only[ht,cL,aE,fP];rw[dU];have sg:∀(p:Int×aO)(r:List Value),fH p++r=.int .i64 p.1 ::dT p.2 ::dS p.2 ::dB p.2 ::r:=by
   intro p r;unfold fH;rw[pM];rfl
  have hsl:=uQ subs;have fin:∀(b:Bool)(x y:Option Bool),(cond (!b) x y)=if b=true then y else x:=by intro b x y;cases b<;>rfl
  by_cases hb:blob.length=0
  case' pos=>rw[ai (by simp only[oD];omega)];simp only[hb,bn,Bool.true_or,fP]
  case' neg=>
   rw[ar (by simp only[oD];omega)];by_cases ha:(aJ sh s).at_=0
   case pos=>rw[ar ha];simp[hb,ha]
   rw[ai ha];simp only[hb,ha,cy,ne_eq,not_false_eq_true,bn,Bool.or_true,fP]
  all_goals
   rw[Da,dw,Z3];refine SG (aL subs).length _ (ev:=λi (g:Value->Int->Int->Value->Value->Value->Value->Value->Int->Int->Int->Option Bool)=>g (aC fH (aL subs)) (aL subs).length i (aC iL sh) (az tags) (aC fH (aL subs)) (aj blob) (fY (aJ sh s).bG) (aJ sh s).at_ (aJ sh s).cA (aJ sh s).next) ?_ ?_ (by omega)
   ·intro i g h;have e1:((i:Int)<((aL subs).length:Int)):=by omega
    simp only[e1,gj,ct];rw[bW uP h,dD h];simp only[sg,bN,cH,cR,iV,te];rw[agG _ _ _ _ _ (by omega) (by omega)];simp only[aA];rcases KB (aJ sh s) (aL subs)[i].1 with⟨hn,hb0⟩|⟨k,hk,e,hb1,e2⟩
    ·rw[ar hn];simp only[hb0,uT,Bool.and_false,mA,gN]
    ·rw[e,ai (by omega)];have hmem:=dL (l:=(aJ sh s).bG) hk;have hlk:=hsh.bG s hs _ hmem;have hr:=hrec _ (dL h) ((aJ sh s).bG[k]).shape.toNat (by omega);rw[lM (by omega)] at hr;have lg:∀(x:gU)(r:List Value),(lC x++r).drop 1=.int .i64 x.shape::r:=λ_ _=>rfl;rw[aN (n:=(i:Int)+1) (by omega) (by omega)];unfold fY;simp only[ct];rw[bW ue hk];simp only[lg,bN,cH];unfold cw at hr;rw[hr];simp only[aA,fin,hb1,fP,e2];by_cases h0:i=0
     ·have e3:decide (i=0)=true:=by simp[h0]
      rw[ai (by omega)];simp only[e3,Bool.true_or,fP];rfl
     ·rw[ar (by omega),aN (n:=(i:Int) -1) (by omega) (by omega),lk (by omega),show((i:Int) -1).toNat=i -1 by omega];rw[bW uP (show i -1<(aL subs).length by omega),dD (show i -1<(aL subs).length by omega)];simp only[eL,sg,bN,cH,te];by_cases h3:(aL subs)[i -1].1 <(aL subs)[i].1
      ·simp only[h3,bn,gj,Bool.or_true,fP];rfl
      ·simp only[h3,cy,h0,Bool.or_self,uT,mA,gN]
   ·intro g;have e1:¬(((aL subs).length:Int)<((aL subs).length:Int)):=by omega
    simp only[e1,gN]
 ·simp only[ht,fu,ay,uT]
theorem RE(hm:m<2^38)(hw:2*m+100<=w)(sh:List aV)(hsh:iu sh)(hl:∀s,s<sh.length->(aJ sh s).bG.length<=m)(z:Value->Value->Value->Value->Int->Option Bool):
 ∀(n:Nat)(d:aO)(s:Nat),fA d<=n->s<sh.length->gV m d->pU z (Ir w) n (cw sh) (dT d) (dS d) (dB d) (s:Int)=some (cK sh s d)
 |0,d,s,h,_,_=>by obtain⟨tags,subs,blob⟩:=d;unfold fA at h;omega
 |n+1,d,s,h,hs,hd=>by refine ahS hm hw sh hsh hl _ d s hs hd ?_;obtain⟨tags,subs,blob⟩:=d;intro p hp k hk;have hp:p∈aL subs:=hp;have:=Ed p hp;unfold fA at h;exact RE hm hw sh hsh hl z n p.2 k (by omega) hk (xG hd.2.2.2.2 p hp)
theorem agB(hm:m<2^38)(hw:2*m+100<=w)(sh:List aV)(hsh:iu sh)(hl:∀s,s<sh.length->(aJ sh s).bG.length<=m)(d:aO)(s:Nat)(hs:s<sh.length)(hd:gV m d)(jA:fA d<=w):
 NQ w (cw sh) (dT d) (dS d) (dB d) (s:Int)=some (cK sh s d):=RE hm hw sh hsh hl _ w d s jA hs hd
end
section
set_option maxRecDepth 100000
def cd(x:bm):List Value:=[.int .i64 x.ny,.int .i64 x.dir,.int .i64 x.tag,.int .i64 x.at_,.int .i64 x.cA]
theorem C7(x:bm):(cd x).length=5:=rfl
theorem vR(n:Nat):aD n<=n+1:=by unfold aD;omega
theorem Ue(ty au:Int):bY ty au<=524288:=by
 have:=SF ty au;unfold bY
 grind
variable{e:Nat}
theorem NO(w:Nat)(ny dir tag no:Int){n:Nat}(hn:n<2^50)(he:e<2^50)(c:List Value)(hc:c.length<=1000000000):
 wV w ny dir tag n e no c=some (((aD e+n:Nat):Int),no,c++cd ⟨ny,dir,tag,aD e,n⟩):=by
 have hv:=vR e;unfold wV Ob;rw[ag6 w (by omega)];simp;rw[aN (by omega) (by omega)];simp_all;rfl
theorem JD(t:aI):∀(l:List aI)(e:Nat),ck e (l++[t])=if bY t.ty t.au=0 then ck e l else aD (ck e l)+bY t.ty t.au
 |[],e=>rfl
 |a::l,e=>by show(if bY a.ty a.au=0 then ck e (l++[t]) else ck (aD e+bY a.ty a.au) (l++[t]))=_;rw[JD t l e,JD t l (aD e+bY a.ty a.au)];by_cases h:bY a.ty a.au=0<;>simp[ck,h]
theorem WC(no:Nat)(t:aI):∀(l:List aI)(e:Nat),cX no e (l++[t])=cX no e l++(if bY t.ty t.au=0 then[] else[⟨3,no,t.tag,aD (ck e l),bY t.ty t.au⟩])
 |[],e=>by simp[cX,ck]
 |a::l,e=>by by_cases h:bY a.ty a.au=0<;>simp[cX,ck,h,WC no t l]
theorem JC{K:Nat}(hK:524289<=K):∀(l:List aI)(e:Nat),ck e l<=e+l.length*K
 |[],e=>Nat.le_add_right _ _
 |a::l,e=>by
  have h1:=JC hK l e;have h2:=JC hK l (aD e+bY a.ty a.au);have h3:=vR e;have h4:=Ue a.ty a.au;have h5:(a::l).length*K=l.length*K+K:=by rw[cQ,Nat.succ_mul]
  unfold ck
  grind
theorem Zc(l:List aI)(e:Nat):ck e l<=e+l.length*600000:=JC (by simp) l e
theorem OP(no:Nat):∀(l:List aI)(e:Nat),(cX no e l).length<=l.length
 |[],e=>by simp[cX]
 |a::l,e=>by
  have h1:=OP no l e;have h2:=OP no l (aD e+bY a.ty a.au);unfold cX
  grind
theorem ahN(no:Nat)(l:List aI)(e i:Nat):(cX no e (l.take i)).length<=(cX no e l).length:=by
 have:∀(a b:List aI)(e:Nat),cX no e (a++b)=cX no e a++cX no (ck e a) b:=by
  intro a;induction a with
  |nil=>intro b e;rfl
  |cons p a ih=>intro b e;by_cases h:bY p.ty p.au=0<;>simp[cX,ck,h,ih]
 rw[<-mD i l,this];simp
theorem w9(l:List bm):(l.flatMap cd).length=l.length*5:=eJ C7 l
theorem agT{w:Nat}(l:List aI)(X Y:Value)(no:Nat)(k:Int)(c:List Value)(he:e+l.length*600000<2^50)(hc:c.length+(cX no e l).length*5<=1000000000)(hw:l.length<w):
 Hu w (az l) X Y no e k c=some ((ck e l:Int),k,c++(cX no e l).flatMap cd):=by
 unfold Hu az;rw[dw];have s0:c=c++(cX no e (l.take 0)).flatMap cd:=by simp[cX]
 conv=>lhs;rw[s0]
 refine lD (ev:=λi (g:Int->Value->Int->Int->Int->Int->List Value->Option (Int×Int×List Value))=>g no (aC cx l) l.length i (ck e (l.take i):Nat) k (c++(cX no e (l.take i)).flatMap cd)) l.length ?_ ?_ hw
 ·intro i g h;have e1:((i:Int)<(l.length:Int)):=by omega
  simp[e1];rw[bW gI h];have tg:∀(t:aI)(r:List Value),cx t++r=.int .i64 t.tag::.int .i64 t.ty::.int .i64 t.au::aj t.data::r:=λ_ _=>rfl;simp[tg];rw[V8,aN (n:=(i:Int)+1) (by omega) (by omega)];simp only[aA];rw[nB h,JD,WC];have hlt:(l.take i).length<=l.length:=by rw[dH];omega
  have b1:=Zc (l.take i) e;have b2:=ahN no l e i;have b3:=Ue l[i].ty l[i].au;by_cases h0:bY l[i].ty l[i].au=0
  ·simp only[h0,gj,eH];rfl
  ·have e2:((0:Int)<((bY l[i].ty l[i].au:Nat):Int)):=by omega
   simp only[e2,h0,gN];rw[NO w 3 no l[i].tag k (by omega) (by omega) _ (by rw[aR,w9];omega)];simp only[aA,gq,ff,nz,eH,dY];rfl
 ·intro g;simp
end
section
set_option maxRecDepth 100000
def gE(e:Nat):List (Int×aO)->Nat
 |[]=>e
 |p::l=>gE (bq e p.2) l
def fy:List (Int×aO)->Nat
 |[]=>0
 |p::l=>dt p.2 +fy l
def fG(no e:Nat):List (Int×aO)->List bm
 |[]=>[]
 |p::l=>fF no e p.2 ++fG (no+dt p.2) (bq e p.2) l
theorem JB:∀(s:cF)(e:Nat),eu e s=gE e (aL s)
 | .nil,e=>by simp[eu,aL,gE]
 | .cons t d r,e=>by simp[eu,aL,gE,JB r]
theorem Js:∀(s:cF),ia s=fy (aL s)
 | .nil=>by simp[ia,aL,fy]
 | .cons t d r=>by simp[ia,aL,fy,Js r]
theorem Im:∀(s:cF)(no e:Nat),jU no e s=fG no e (aL s)
 | .nil,no,e=>by simp[jU,aL,fG]
 | .cons t d r,no,e=>by simp[jU,aL,fG,Im r]
theorem QQ(p:Int×aO):∀(l:List (Int×aO))(e:Nat),gE e (l++[p])=bq (gE e l) p.2
 |[],_=>rfl
 |a::l,e=>QQ p l (bq e a.2)
theorem Qv(p:Int×aO):∀(l:List (Int×aO)),fy (l++[p])=fy l+dt p.2
 |[]=>by simp[fy]
 |a::l=>by simp[fy,Qv p l,lO]
theorem WA(p:Int×aO):∀(l:List (Int×aO))(no e:Nat),fG no e (l++[p])=fG no e l++fF (no+fy l) (gE e l) p.2
 |[],no,e=>by simp[fG,fy,gE]
 |a::l,no,e=>by simp[fG,fy,gE,WA p l,lO]
theorem Ej:∀(l:List (Int×aO))(e:Nat),e<=gE e l
 |[],_=>aB _
 |p::l,e=>eP (Bf p.2 e) (Ej l (bq e p.2))
theorem Zb(l:List (Int×aO))(e i:Nat):gE e (l.take i)<=gE e l:=by
 have:∀(a b:List (Int×aO))(e:Nat),gE e (a++b)=gE (gE e a) b:=by
  intro a;induction a with
  |nil=>intro b e;rfl
  |cons p a ih=>intro b e;exact ih b (bq e p.2)
 conv=>rhs;rw[<-mD i l,this]
 exact Ej _ _
theorem YH(l:List (Int×aO))(i:Nat):fy (l.take i)<=fy l:=by
 have:∀(a b:List (Int×aO)),fy (a++b)=fy a+fy b:=by
  intro a;induction a with
  |nil=>simp[fy]
  |cons p a ih=>intro b;simp[fy,ih b,lO]
 rw[<-mD i l,this];simp
theorem ahK(l:List (Int×aO))(no e i:Nat):(fG no e (l.take i)).length<=(fG no e l).length:=by
 have:∀(a b:List (Int×aO))(no e:Nat),fG no e (a++b)=fG no e a++fG (no+fy a) (gE e a) b:=by
  intro a;induction a with
  |nil=>simp[fG,fy,gE]
  |cons p a ih=>intro b no e;simp[fG,fy,gE,ih b,lO]
 rw[<-mD i l,this];simp
variable{m w:Nat}
theorem ahR(hm:m<2^28)(hw:2*m+100<=w)(rec:Value->Value->Value->Int->Int->List Value->Option (Int×Int×List Value))(d:aO)(no e:Nat)(c:List Value)(he:bq e d<2^49)(hno:no+dt d<2^50)
 (hc:c.length+(fF no e d).length*5<=1000000000) (hd:gV m d)
 (hrec:∀p∈aL (match d with| .mk _ subs _=>subs),∀(no' e':Nat)(c':List Value),bq e' p.2 <2^49->no'+dt p.2 <2^50->c'.length+(fF no' e' p.2).length*5<=1000000000->rec (dT p.2) (dS p.2) (dB p.2) e' no' c'=some ((bq e' p.2 :Int),((no'+dt p.2 :Nat):Int),c'++(fF no' e' p.2).flatMap cd)):
 Iq w rec (dT d) (dS d) (dB d) e no c=some ((bq e d:Int),((no+dt d:Nat):Int),c++(fF no e d).flatMap cd):=by
 obtain⟨tags,subs,blob⟩:=d;have hd:tags.length<=m/\cm subs<=m/\blob.length<=m/\(∀t∈tags,t.data.length<=m)/\gW m subs:=hd;have hE:bF (.mk tags subs blob)<=2*m+2:=by show tags.length+cm subs+(if blob.length=0 then 0 else 2)<=2*m+2;split<;>omega
 unfold dt at hno⊢;rw[Js] at hno⊢;unfold bq at he⊢;unfold fF at hc⊢;simp only[Im] at hc⊢;simp only[JB] at he hc⊢;unfold Iq;simp only[dT,dS,dB];rw[G7 w tags subs blob (by omega)];simp only[aA,pS,cR];generalize bF (.mk tags subs blob)=E at he hc hE⊢;rw[aN (n:=12*(E:Int)) (by omega) (by omega),aN (n:=2+12*(E:Int)) (by omega) (by omega),aN (n:=2+12*(E:Int)+4) (by omega) (by omega),aN (n:=(no:Int)+1) (by omega) (by omega)];rw[show(2:Int)+12*(E:Int)+4=((6+12*E:Nat):Int) by omega,show(no:Int)+1=((no+1:Nat):Int) by omega];have v1:=vR e;have v0:e<=aD e:=by unfold aD;omega
 have g1:=qJ tags (aD e+(6+12*E));have g2:=Ej (aL subs) (ck (aD e+(6+12*E)) tags);have g3:gE (ck (aD e+(6+12*E)) tags) (aL subs)<2^49:=by
  by_cases q:blob.length=0
  ·rw[ar q] at he;exact he
  ·rw[ai q] at he;have:∀n:Nat,n<=aD n:=λn=>by unfold aD;omega
   have:=this (gE (ck (aD e+(6+12*E)) tags) (aL subs));omega
 rw[NO w 2 no 0 _ (by omega) (by omega) c (by omega)];simp only[aA];simp only[cQ,aR] at hc;rw[agT tags _ _ no _ _ (by omega) (by rw[aR,C7];omega) (by omega)];simp only[aA];rw[Da,dw];have sg:∀(p:Int×aO)(r:List Value),fH p++r=.int .i64 p.1 ::dT p.2 ::dS p.2 ::dB p.2 ::r:=by intro p r;unfold fH;rw[pM];rfl
 have hsl:=uQ subs;generalize hE2:ck (aD e+(6+12*E)) tags=E2 at*;generalize hC:c++cd ⟨2,no,0,aD e,6+12*E⟩++(cX no (aD e+(6+12*E)) tags).flatMap cd=C;have hCl:C.length=c.length+5+(cX no (aD e+(6+12*E)) tags).length*5:=by rw[<-hC,aR,aR,w9];rfl
 have s0:C=C++(fG (no+1) E2 ((aL subs).take 0)).flatMap cd:=by simp[fG]
 conv=>lhs;rw[s0]
 refine lD (ev:=λi (g:Int->Value->Int->Int->Int->Int->Value->Value->Value->List Value->Option (Int×Int×List Value))=>g no (aC fH (aL subs)) (aL subs).length i (gE E2 ((aL subs).take i):Nat) ((no+1+fy ((aL subs).take i):Nat):Int) (az tags) (aC fH (aL subs)) (aj blob) (C++(fG (no+1) E2 ((aL subs).take i)).flatMap cd)) (aL subs).length ?_ ?_ (by omega)
 ·intro i g h;have e1:((i:Int)<((aL subs).length:Int)):=by omega
  simp only[bc,e1,bn,ay,ct];rw[bW uP h];simp only[sg,bN,cH];have k1:=Zb (aL subs) E2 (i+1);have k2:=YH (aL subs) (i+1);have k3:=ahK (aL subs) (no+1) E2 (i+1);rw[nB h] at k1 k2 k3⊢;rw[QQ] at k1⊢;rw[Qv] at k2⊢;rw[WA] at k3⊢;rw[aR] at k3;rw[hrec _ (dL h) (no+1+fy ((aL subs).take i)) (gE E2 ((aL subs).take i)) _ (by omega) (by omega) (by rw[aR,w9];omega)];simp only[aA];rw[aN (n:=(i:Int)+1) (by omega) (by omega),gq,<-dY,lO (no+1)];rfl
 ·intro g;have e1:¬(((aL subs).length:Int)<((aL subs).length:Int)):=by omega
  simp only[bc,e1,cy,aE,rG,dU,cu];have hcs:c++(⟨2,no,0,aD e,6+12*E⟩::(cX no (aD e+(6+12*E)) tags++(fG (no+1) E2 (aL subs)++(if blob.length=0 then[] else[⟨4,no,0,aD (gE E2 (aL subs)),blob.length⟩]:List bm)))).flatMap cd=C++(fG (no+1) E2 (aL subs)).flatMap cd++(if blob.length=0 then[] else[⟨4,no,0,aD (gE E2 (aL subs)),blob.length⟩]:List bm).flatMap cd:=by rw[<-hC];simp
  rw[hcs];by_cases hb:blob.length=0
  ·simp only[hb,show decide ((0:Int)<((0:Nat):Int))=false from rfl,aE,gj,nz,eH,lO];rw[Nat.add_comm 1]
  ·have e2:((0:Int)<(blob.length:Int)):=by omega
   simp only[e2,bn,ay,hb,gN];simp only[hb,gN,cQ,List.length_nil] at hc;rw[NO w 4 no 0 _ (by omega) (by omega) _ (by rw[aR,w9];omega)];simp only[aA,ff,nz,eH,lO];rw[Nat.add_comm 1]
theorem QL(hm:m<2^28)(hw:2*m+100<=w)(z:Value->Value->Value->Int->Int->List Value->Option (Int×Int×List Value)):
 ∀(n:Nat)(d:aO)(no e:Nat)(c:List Value),fA d<=n->bq e d<2^49->no+dt d<2^50->c.length+(fF no e d).length*5<=1000000000->gV m d->
  pU z (Iq w) n (dT d) (dS d) (dB d) e no c=some ((bq e d:Int),((no+dt d:Nat):Int),c++(fF no e d).flatMap cd)
 |0,d,no,e,c,h,_,_,_,_=>by obtain⟨tags,subs,blob⟩:=d;unfold fA at h;omega
 |n+1,d,no,e,c,h,he,hno,hc,hd=>by refine ahR hm hw _ d no e c he hno hc hd ?_;obtain⟨tags,subs,blob⟩:=d;intro p hp no' e' c' h1 h2 h3;have hp:p∈aL subs:=hp;have:=Ed p hp;unfold fA at h;exact QL hm hw z n p.2 no' e' c' (by omega) h1 h2 h3 (xG hd.2.2.2.2 p hp)
theorem agA(hm:m<2^28)(hw:2*m+100<=w)(d:aO)(no e:Nat)(c:List Value)(jA:fA d<=w)(he:bq e d<2^49)(hno:no+dt d<2^50)(hc:c.length+(fF no e d).length*5<=1000000000)(hd:gV m d):
 NP w (dT d) (dS d) (dB d) e no c=some ((bq e d:Int),((no+dt d:Nat):Int),c++(fF no e d).flatMap cd):=QL hm hw _ w d no e c jA he hno hc hd
end
section
set_option maxRecDepth 100000
theorem aeM(n:Int)(o:Int):oZ n 2 o=if 0<=n/\n<65536 then some (aU n.toNat 2 o) else none:=rfl
theorem agM{w:Nat}(hw:8<=w)(a b c d o:Int)(ho:o=1\/o=2):Hm w a b c d o=some (if(0<=a/\a<65536)/\(0<=b/\b<65536)/\(0<=c/\c<4294967296)/\(0<=d/\d<4294967296) then(aj (aU a.toNat 2 o++(aU b.toNat 2 o++(aU c.toNat 4 o++aU d.toNat 4 o))),true) else(ae 0 [],false)):=by
 have m4:fC 4 o=true:=by rcases ho with rfl|rfl<;>rfl
 have p2:∀n:Int,gR w n 2 o=some (if 0<=n/\n<65536 then(aj (aU n.toNat 2 o),true) else(ae 0 [],false)):=by intro n;rw[sJ hw,ar (by rcases ho with rfl|rfl<;>rfl),show(2:Int).toNat=2 from rfl,aeM];by_cases h:0<=n/\n<65536<;>grind
 have p4:∀n:Int,gR w n 4 o=some (if 0<=n/\n<4294967296 then(aj (aU n.toNat 4 o),true) else(ae 0 [],false)):=by intro n;rw[sJ hw,ar m4,show(4:Int).toNat=4 from rfl,LN];by_cases h:0<=n/\n<4294967296<;>grind
 have fl:∀(l:List UInt8),(l.flatMap pH).length=l.length:=λl=>by rw[iH,eD]
 have l2:∀n:Int,(aU n.toNat 2 o).length=2:=λn=>eh _ _ _;have l4:∀n:Int,(aU n.toNat 4 o).length=4:=λn=>eh _ _ _;unfold Hm;rw[p2 a];by_cases ha:0<=a/\a<65536
 case neg=>rw[ai ha,ai (λq=>ha q.1)];rfl
 rw[ar ha];simp only[aA,cL,aE,ij,fl,l2,show aK 2=true from rfl];rw[p2 b];by_cases hb:0<=b/\b<65536
 case neg=>rw[ai hb,ai (λq=>hb q.2.1)];rfl
 rw[ar hb];simp only[aA,cL,aE,ij,fl,l2,show aK 2=true from rfl];rw[p4 c];by_cases hc:0<=c/\c<4294967296
 case neg=>rw[ai hc,ai (λq=>hc q.2.2.1)];rfl
 rw[ar hc];simp only[aA,cL,aE,ij,fl,l2,l4,aR,show aK (2+2)=true from rfl];rw[p4 d];by_cases hd:0<=d/\d<4294967296
 case neg=>rw[ai hd,ai (λq=>hd q.2.2.2)];rfl
 rw[ar hd];simp only[aA,cL,aE,ij,fl,l4,show aK (2+2)=true from rfl,show aK (2+2+4)=true from rfl];unfold aj aC;simp_all
end
section
set_option maxRecDepth 100000
variable{w:Nat}
theorem Xd(l:List UInt8)(hl:l.length<2^29)(hw:l.length+10<=w)(s:Nat)(o:Int)(hs:(s:Int)=1\/(s:Int)=2\/(s:Int)=4\/(s:Int)=8)(ho:o=1\/o=2):
 lp (λ(_ _:Int)(_ _:Nat)(_:Int)(_:List Value)=>(none:Option (Nat×Nat×List Value)))
     (λx14 (x15 x16:Int) (x17 x18:Nat) (x19:Int) (x20:List Value)=>
      bif ak x16 1 then
       bif !aq (Int.ofNat x17) (ah IntKind.i64 (x19.add x15)) then
        aG (ah IntKind.i64 (x19.add x15)) λx21=>
         aG x19 λx22=>
          bif x21.ble x18&&x22.ble x21 then
           ob (uI w (bif x18.beq x22 then 0 else 0+x22*1) (x21 -x22) (x18 -x22) x20) λx23=>
            x14 x15 x16 x17 x18 (ah IntKind.i64 (x19.add x15)) x23
          else none
       else some (x17,x18,x20)
      else some (x17,x18,x20))
     w (s:Int) o l.length l.length 0 (l.map aX)=some (l.length,l.length,(if o=1 then gS l s (l.length/s*s) else l).map aX):=by
 have hs0:0<s:=by omega
 have hs8:s<=8:=by omega
 have hd2:l.length/s<=l.length:=Nat.div_le_self _ _;by_cases h1:o=1
 ·subst h1;have hd:s*(l.length/s)<=l.length:=Nat.mul_div_le _ _;have hd3:l.length<s*(l.length/s)+s:=Nat.lt_mul_div_succ _ hs0;rw[show l.map aX=(gS l s (s*0)).map aX by rw[Nat.mul_zero,Xe],ar rfl];refine lD (ev:=λi (g:Int->Int->Nat->Nat->Int->List Value->Option (Nat×Nat×List Value))=>g (s:Int) 1 l.length l.length ((s*i:Nat):Int) ((gS l s (s*i)).map aX)) (l.length/s) ?_ ?_ (by omega)
  ·intro i g hi;have hle:s*(i+1)<=s*(l.length/s):=Aq _ hi;have e1:s*(i+1)=s*i+s:=by rw[Nat.mul_add,gM]
   have e2:(((s*i:Nat):Int).add (s:Int))=((s*(i+1):Nat):Int):=by rw[cR,e1];omega
   simp only[e2,show ak 1 1=true from rfl,ay,bc,cu];rw[aN (by omega) (by omega)];have e3:¬((l.length:Int)<((s*(i+1):Nat):Int)):=by omega
   simp only[e3,cy,fu,ay,ct,gu,AZ];have e4:s*(i+1)<=l.length:=by omega
   have e5:s*i<=s*(i+1):=by omega
   have e6:¬(l.length=s*i):=by omega
   simp only[e4,e5,e6,bn,cy,gY,ay,aE];have hlen:=qk l s (s*i);have:=Nx (w:=w) ((gS l s (s*i)).take (s*i)) (((gS l s (s*i)).drop (s*i)).take s) ((gS l s (s*i)).drop (s*i+s)) (by simp;omega) (by simp;omega) (l.length -s*i);rw[<-oF i s,<-Xf l hs0 (by rw[oF];omega),oF i s,oF (i+1) s,<-List.drop_drop,mD,mD,dH,dH,dZ,hlen,kE (by omega),kE (by omega)] at this;rw[show 0+s*i*1=s*i by omega,show s*(i+1) -s*i=s by omega,this];rfl
  ·intro g;simp only[show ak 1 1=true from rfl,ay,bc,cu,cR];rw[aN (by omega) (by omega)];have e3:((l.length:Int)<((s*(l.length/s):Nat):Int)+(s:Int)):=by omega
   simp only[e3,bn,cL,aE];rw[oF]
 ·rw[ai h1,ef _ _ (by omega)];simp only[cD,h1,cy,aE]
theorem Wc(l:List UInt8)(hl:l.length<2^29)(hw:l.length+10<=w)(s o:Int)(hc:fC s o=true\/(s=8/\fC 1 o=true)):
 CO w (aj l) s o=some (l.length,l.length,(if o=1 then gS l s.toNat (l.length/s.toNat*s.toNat) else l).map aX):=by
 unfold CO ML;rw[wR (by omega)];have hr:Nat.ble l.length 1000000000=true:=by rw[kW];omega
 have hr2:Nat.ble l.length l.length=true:=by rw[kW];omega
 have hi:aW 0 (List.take (l.length*1) (l.map aX)) (List.map aX (List.replicate l.length 0))=l.map aX:=by have:=FO (l.map aX) (List.map aX (List.replicate l.length 0)) [] [] (by simp);simp only[List.length_nil,iF,eH] at this;rw[gh (by simp),this]
 have hq:((l.map aX).length.beq (l.length*1)&&(0+l.length*1).ble (List.map aX (List.replicate l.length 0)).length)=true:=by simp
 have hs:s=1\/s=2\/s=4\/s=8:=by
  rcases hc with h|h
  ·have:=(ug h).1;omega
  ·omega
 have ho:o=1\/o=2:=by
  rcases hc with h|h
  ·exact(ug h).2
  ·exact(ug h.2).2
 obtain⟨s,rfl⟩:=Int.eq_ofNat_of_zero_le (a:=s) (by omega);cases hm:fC s o;all_goals simp only[aA,cL,aE]
 ·have h8:(s:Int)=8:=by rcases hc with h|h;(rw[hm] at h;cases h);exact h.1
  rw[wR (by omega),(show fC 1 o=true from by rcases hc with h|h;(rw[hm] at h;cases h);exact h.2),show ak (s:Int) 8=true by rw[h8];rfl];simp only[cL,aE,aA,dU,ij,hr,hr2,gY,uz,iH,Nat.min_self];rw[hq,hi];exact Xd l hl hw s o hs ho
 ·simp only[dU,ij,hr,hr2,gY,uz,iH,Nat.min_self];rw[hq,hi];exact Xd l hl hw s o hs ho
end
section
set_option maxRecDepth 100000
variable{au o ty:Int} {l:List UInt8}
theorem Uh(h:dW ty au l=true)(ho:o=1\/o=2):
 (fC (kindOf ty).2.1 o=true\/((kindOf ty).2.1 =8/\fC 1 o=true))/\l.length/(kindOf ty).2.1.toNat*(kindOf ty).2.1.toNat=l.length:=by
 refine⟨?_,?_⟩
 ·rcases(Sm ty ((wu h).1)) with h|h|h|h<;>rcases ho with rfl|rfl<;>rw[h]<;>simp[fC,Db]
 ·obtain⟨s,q,e1,e2,e3⟩:=SS h
  grind
variable{w:Nat}
theorem agW(hm:dW ty au l=true)(hl:l.length<2^29)(hw:l.length+10<=w)(ho:o=1\/o=2):
 Hz w ty au (aj l) o=some (l.length,l.length,(iM l (kindOf ty).2.1.toNat o).map aX):=by
 obtain⟨h1,h2⟩:=Uh hm ho;unfold Hz;rw[zI w ty au l (by omega),hm,zG];simp;rw[Wc l hl hw _ _ h1,h2];rfl
theorem agV(hm:dW ty au l=true)(hl:l.length<2^29)(hw:l.length+10<=w)(ho:o=1\/o=2):
 HD w ty au (aj l) o=some (aj (iM l (kindOf ty).2.1.toNat o)):=by
 obtain⟨h1,h2⟩:=Uh hm ho;unfold HD;rw[zI w ty au l (by omega),hm,zG];simp;rw[Wc l hl hw _ _ h1,h2,nV,xc];rfl
theorem vK(l:List UInt8)(n:Nat)(h:n=l.length):ae n (l.map aX)=aj l:=by rw[nV,h]
theorem V6(hw:100<=w)(t:aI)(hm:dW t.ty t.au t.data=true)(hl:t.data.length<2^29)(hw2:t.data.length+10<=w)(ho:o=1\/o=2)(ht:my t.tag=true):
 Hy w t.tag t.ty t.au (aj t.data) o=some (if bY t.ty t.au=0 then(t.tag,t.ty,t.au,(oT o t:Int),true) else(0,0,0,0,false)):=by
 unfold Hy;rw[agW hm hl hw2 ho,sJ (by omega)];have m2:fC 2 o=true:=by rcases ho with rfl|rfl<;>rfl
 have htr:0<=t.tag/\t.tag<65536:=by unfold my at ht;simpa using ht
 have hp:oZ t.tag (2:Int).toNat o=some (aU t.tag.toNat 2 o):=by unfold oZ;rw[ar ⟨htr.1,by show t.tag<((256^2:Nat):Int);omega⟩];rfl
 rw[ar m2,hp];have hout:=yX hm;obtain⟨k1,k2,k3,k4⟩:=wu hm;have hk:=Bw t.ty;have hpos:t.data.length≠0:=by intro q;have:1*1<=t.au*(kindOf t.ty).1 :=Int.mul_le_mul k2 (by omega) (by decide) (by omega);omega
 simp only[aA,cL,aE,cD,bc,cu];have e1:¬((t.data.length:Int)=0):=by omega
 simp only[e1,cy,aE];by_cases h4:t.data.length<=4
 ·have e2:¬((4:Int)<(t.data.length:Int)):=by omega
  simp only[e2,cy,aE];rw[ar h4] at hout;rw[ar hout,iV,aN (by omega) (by omega),lk (by omega)];have e3:((4:Int) -(t.data.length:Int)).toNat=4 -t.data.length:=by omega
  have hv:(iM t.data (kindOf t.ty).2.1.toNat o).length=t.data.length:=xc _ _ _;have hget:∀b:List UInt8,b=iM t.data (kindOf t.ty).2.1.toNat o++List.replicate (4 -t.data.length) 0->sL w (aj b) 0 4 o=some ((oT o t:Int),true):=by
   intro b hb;have hbl:b.length=4:=by rw[hb,aR,hv,uX];omega
   rw[GG (by omega) b (by omega) 0 4 o (by omega)];have:=Bq (l:=b) (p:=0) (s:=4) (order:=o) (.inr (.inr rfl)) ho (by omega);rw[show((0:Nat):Int)=0 from rfl,show((4:Nat):Int)=4 from rfl] at this;rw[this];unfold oT kA;rw[hb]
  rw[e3];have r1:(4 -t.data.length).ble 1000000000=true:=by rw[kW];omega
  simp only[r1,uz,eD,uX,gM,fg,hv,ay,AZ,gu,eL,aB,bn,kU];by_cases h5:t.data.length=4
  ·have e4:t.data.length+(4 -t.data.length)<=t.data.length:=by omega
   simp only[e4,bn,ay];have:4 -t.data.length=0:=by omega
   rw[this];simp only[List.replicate_zero,List.map_nil,aW];rw[vK _ _ (by rw[hv];omega),hget _ (by rw[this];simp)];rfl
  ·have e4:¬(4<=t.data.length):=by omega
   have e5:t.data.length+(4 -t.data.length)=4:=by omega
   have hn:=nextslicecap_le (need:=4) (old:=t.data.length) (by omega);have r3:aK (4 -t.data.length)=true:=by simp;omega
   have r4:aK t.data.length=true:=by simp;omega
   have r5:Builtin.nextslicecap 4 t.data.length<=5000000000:=by omega
   simp only[e4,cy,aE,e5,r3,r4,r5,bn,kU,ay];have h6:List.take t.data.length ((iM t.data (kindOf t.ty).2.1.toNat o).map aX)++(List.replicate (4 -t.data.length) (0:UInt8)).map aX=(iM t.data (kindOf t.ty).2.1.toNat o++List.replicate (4 -t.data.length) 0).map aX:=by rw[gh (by rw[eD,hv];exact aB _),jZ]
   rw[h6];rw[vK _ _ (by rw[mE,eD]),hget _ rfl];rfl
 ·have e2:((4:Int)<(t.data.length:Int)):=by omega
  simp only[e2,bn,ay];rw[ai h4] at hout;rw[ai (by omega)]
end
section
set_option maxRecDepth 100000
variable{w:Nat}
theorem oh{α γ σ:Type}{z:α}{F:α->α}{r:γ}(ev:Nat->σ->α->γ)(Inv:Nat->σ->Prop)(m:Nat)(s0:σ)(h0:Inv 0 s0)(hs:∀i g s,i<m->Inv i s->∃s',Inv (i+1) s'/\ev i s (F g)=ev (i+1) s' g)(he:∀g s,Inv m s->ev m s (F g)=r)(h:m<w):ev 0 s0 (lp z F w)=r:=by
 have:∀(d i v:Nat)(s:σ),i+d=m->d<v->Inv i s->ev i s (lp z F v)=r:=by
  intro d;induction d with
  |zero=>intro i v s hi hv hI;rw[ef z F (by omega)];simp_all
  |succ d ih=>
   intro i v s hi hv hI;obtain⟨s',h1,h2⟩:=hs i (lp z F (v -1)) s (by omega) hI;rw[ef z F (by omega)]
   grind
 grind
def dM(l:List aO):Value:=aC dK l
theorem Eg(d:aO)(r:List Value):dK d++r=dT d::dS d::dB d::r:=by rw[pM];rfl
def kj:List aO->Nat
 |[]=>0
 |d::ds=>max (fA d) (kj ds)
theorem Ec:∀{ds:List aO}{d:aO},d∈ds->fA d<=kj ds
 |[],d,h=>by grind
 |a::ds,d,h=>by
  rcases cj.1 h with rfl|h
  ·exact Nat.le_max_left _ _
  ·exact eP (Ec h) (Nat.le_max_right _ _)
def nK(m:Nat)(ds:List aO):Prop:=∀d∈ds,gV m d
theorem WE(l:List bm)(c:List Value)(h:c=l.flatMap cd):ae (c.length/5) c=aC cd l:=by subst h;unfold aC;rw[w9,lP _ (by simp)]
variable{m:Nat}
theorem VX(hm:m<2^28)(hw:2*m+100<=w)(o:Int)(ds:List aO)(yD:wU w o (dM ds)=some true)(jA:kj ds<=w)(hl:ds.length<=m)(he:ee 8 ds<2^49)(hc:(gK ⟨o,ds⟩).length*5<=1000000000)(hn:iT ds<2^50)(hd:nK m ds):
 zF w o (dM ds)=some (if ee 8 ds<=4294967295 then(aC cd (gK ⟨o,ds⟩),true) else(ae 0 [],false)):=by
 unfold zF;rw[yD];simp;unfold dM;refine oh (σ:=Nat×Nat×List bm) (ev:=λi s (g:Value->Int->Int->Int->Int->List Value->Option (Value×Bool))=>g (aC dK ds) ds.length i (s.1 :Nat) (s.2.1 :Nat) (s.2.2.flatMap cd))
  (Inv:=λi s=>ee s.1 (ds.drop i)=ee 8 ds/\s.2.1 +iT (ds.drop i)=iT ds/\s.2.2 ++jH s.2.1 s.1 (ds.drop i)=gK ⟨o,ds⟩) ds.length (8,0,[⟨1,-1,0,0,8⟩]) ?_ ?_ ?_ (by omega)
 ·exact⟨rfl,by simp,rfl⟩
 ·rintro i g ⟨e,no,sp⟩ hi ⟨h1,h2,h3⟩
  simp only at h1 h2 h3;rw[dG hi] at h1 h2 h3;rw[ee] at h1;rw[iT] at h2;rw[jH] at h3;refine⟨(bq e ds[i],no+dt ds[i],sp++fF no e ds[i]),⟨h1,by simp only;omega,by simp only;rw[<-h3,dY]⟩,?_⟩;have e1:((i:Int)<(ds.length:Int)):=by omega
  simp only[e1,ct];rw[bW nX hi];simp only[Eg,bN];have hmem:=dL hi;have g1:=pO (ds.drop (i+1)) (bq e ds[i]);have g2:(sp++fF no e ds[i]).length<=(gK ⟨o,ds⟩).length:=by rw[<-h3];simp only[aR];omega
  rw[aR] at g2;have h4:=Ec hmem;rw[agA hm hw ds[i] no e _ (by omega) (by omega) (by omega) (by rw[w9];omega) (hd _ hmem)];simp only[aA];rw[aN (by omega) (by omega),gq];rfl
 ·rintro g ⟨e,no,sp⟩ ⟨h1,h2,h3⟩
  simp[ee,jH] at h1 h3;have e1:¬((ds.length:Int)<(ds.length:Int)):=by omega
  rw[WE _ _ rfl,h3];by_cases q:ee 8 ds<=4294967295
  ·have:¬((4294967295:Int)<((ee 8 ds:Nat):Int)):=by omega
   simp_all
  ·have:((4294967295:Int)<((ee 8 ds:Nat):Int)):=by omega
   simp_all
def pW(l:List bm)(e:Nat):Nat:=match l.getLast? with
 |some x=>x.at_+x.cA
 |none=>e
theorem By(a b:List bm)(e:Nat):pW (a++b) e=pW b (pW a e):=by
 unfold pW
 grind
theorem Kx(x:bm)(b:List bm)(e:Nat):pW (x::b) e=pW b (x.at_+x.cA):=By [x] b e
theorem Kw(no:Nat):∀(l:List aI)(e:Nat),pW (cX no e l) e=ck e l
 |[],_=>rfl
 |t::l,e=>by
  unfold cX ck;split
  ·exact Kw no l e
  ·rw[Kx];exact Kw no l _
mutual
theorem Sr:∀(d:aO)(no e:Nat),pW (fF no e d) e=bq e d
 | .mk tags subs blob,no,e=>by unfold fF bq;rw[Kx,By,By,Kw,Ss];split<;>rfl
theorem Ss:∀(r:cF)(no e:Nat),pW (jU no e r) e=eu e r
 | .nil,no,e=>rfl
 | .cons _ d r,no,e=>by unfold jU eu;rw[By,Sr,Ss]
end
theorem Sq:∀(ds:List aO)(no e:Nat),pW (jH no e ds) e=ee e ds
 |[],no,e=>rfl
 |d::ds,no,e=>by unfold jH ee;rw[By,Sr,Sq]
theorem aaH(o:Int)(ds:List aO):∃x l,gK ⟨o,ds⟩=l++[x]/\x.at_+x.cA=ee 8 ds:=by
 have e:pW (gK ⟨o,ds⟩) 0=ee 8 ds:=by unfold gK;rw[Kx];exact(Sq ds 0 8)
 have ca:gK ⟨o,ds⟩≠[]:=by unfold gK;simp
 exact⟨(gK ⟨o,ds⟩).getLast ca,(gK ⟨o,ds⟩).dropLast,(List.dropLast_concat_getLast ca).symm,(e)⟩
theorem af2(hm:m<2^28)(hw:2*m+100<=w)(o:Int)(ds:List aO)(yD:wU w o (dM ds)=some true)(jA:kj ds<=w)(hl:ds.length<=m)(he:ee 8 ds<=4294967295)(hc:(gK ⟨o,ds⟩).length*5<=1000000000)(hn:iT ds<2^50)(hd:nK m ds):
 sN w o (dM ds)=some (ee 8 ds:Int):=by
 unfold sN;rw[VX hm hw o ds yD jA hl (by omega) hc hn hd,ar he];obtain⟨x,l,h1,h2⟩:=aaH o ds;have hlen:(gK ⟨o,ds⟩).length=l.length+1:=by rw[h1];simp
 simp;rw[aN (by omega) (by omega),lk (by omega),show(((gK ⟨o,ds⟩).length:Int) -1).toNat=l.length by omega,bW C7 (show l.length<(gK ⟨o,ds⟩).length by omega)];have tg:∀(x:bm)(r:List Value),cd x++r=.int .i64 x.ny::.int .i64 x.dir::.int .i64 x.tag::.int .i64 x.at_::.int .i64 x.cA::r:=λ_ _=>rfl;simp_all;rw[aN (by omega) (by omega),<-h2];rfl
theorem ags(hw:20<=w):ri w (cw da)=some true:=by obtain⟨v,rfl⟩:=xv hw;rfl
theorem agr(hw:20<=w):ri w (cw ju)=some true:=by obtain⟨v,rfl⟩:=xv hw;rfl
theorem agq(hw:20<=w):ri w (cw nQ)=some true:=by obtain⟨v,rfl⟩:=xv hw;rfl
end
section
set_option maxRecDepth 100000
noncomputable def D4(w:Nat)(sv:Value)(_ o:Int)(dv:Value)(cs:List Value):Option Int:=
 wN w dv cs sv o
def mU(n:Int):List Value:=[.int .i64 n]
theorem RZ(n:Int):(mU n).length=1:=rfl
def oa(l:List Int):List Value:=l.map (Value.int .i64)
theorem aaq{l:List Int}{i:Nat}(h:i<l.length):(oa l).drop i=Value.int .i64 l[i]::oa (l.drop (i+1)):=by unfold oa;rw[<-List.map_drop,dG h,List.map_cons]
variable{m n w:Nat}
theorem Yy(hm:m<2^28)(hw:2*m+100<=w)(sh:List aV)(hsh:iu sh)(hl:∀s,s<sh.length->(aJ sh s).bG.length<=m)(a o:Int)(ds:List aO)(l:List Int)(hlen:l.length=ds.length)(ik:ds.length<=m)(hd:nK m ds)(jA:kj ds<=w)
 (hh:∀j (h:j<ds.length),0<=l[j]/\l[j]<sh.length/\cK sh l[j].toNat ds[j]=true) (hn:0<n) (h138:sN w o (dM ds)=some (n:Int)):D4 w (cw sh) a o (dM ds) (oa l)=some 0:=by
 unfold D4 wN dM;have hcl:(oa l).length=ds.length:=by unfold oa;rw[eD,hlen]
 simp only[dw,mE,hcl,bc,cu];have e0:¬((ds.length:Int)<(ds.length:Int)):=by omega
 simp only[e0,cy,aE];refine lD (ev:=λi (g:Value->Value->Int->Int->Int->Value->List Value->Option Int)=>g (cw sh) (aC dK ds) ds.length i o (aC dK ds) (oa l)) ds.length ?_ ?_ (by omega)
 ·intro i g hi;have e1:((i:Int)<(ds.length:Int)):=by omega
  simp only[e1,bn,ay,ct];rw[bW nX hi];simp only[Eg,bN,hcl,gM,fg,lU,hi,bn,show Nat.beq 1 1=true from rfl,kU,ay];rw[aaq (by omega)];obtain⟨h1,h2,h3⟩:=hh i hi;have hs:(l[i].toNat:Int)=l[i]:=lM h1;have hmem:=dL hi;have h4:=Ec hmem;simp only[bN,cH];have:=agB (w:=w) (m:=m) (by omega) hw sh hsh hl ds[i] l[i].toNat (by omega) (hd _ hmem) (by omega);rw[hs,h3] at this;rw[this];simp only[aA,cL,aE,cR];rw[aN (by omega) (by omega)];rfl
 ·intro g;simp only[e0,cy,aE];unfold dM at h138;rw[h138];have:¬((n:Int)=0):=by omega
  simp_all
theorem agn(hm:m<2^28)(hw:2*m+100<=w)(sh:List aV)(hsh:iu sh)(tZ:ri w (cw sh)=some true)(hs0:0<sh.length)(hl:∀s,s<sh.length->(aJ sh s).bG.length<=m){o:Int}(ho:o=1\/o=2)(ds:List aO)(ca:ds≠[])(ik:ds.length<=m)(hd:nK m ds)(jA:kj ds<=w)
 (hh:fK sh 0 ds=true) (hn:0<n) (h138:sN w o (dM ds)=some (n:Int)):uK w o (dM ds) (cw sh)=some 0:=by
 have hpos:0<ds.length:=List.length_pos_iff.2 ca;unfold uK MN wN;rw[tZ];simp only[aA,cL,aE,cD];have e0:¬((Int.ofNat ds.length:Int)=0):=by simp only[cu];omega
 rcases ho with rfl|rfl
 case' inl=>simp only[bn,cL,aE]
 case' inr=>simp only[show decide ((2:Int)=1)=false from rfl,fu,ay]
 all_goals
  unfold dM;rw[dw];simp only[e0,cy,aE];refine oh (σ:=Int×List Int) (ev:=λi s (g:Value->Int->Int->Value->List Value->Option Int)=>g (cw sh) s.1 _ (aC dK ds) (oa s.2))
   (Inv:=λi s=>s.2.length=i/\s.1 <sh.length/\fK sh s.1 (ds.drop i)=true/\∀j (h:j<i) (h2:j<s.2.length) (h3:j<ds.length),0<=s.2[j]/\s.2[j]<sh.length/\cK sh s.2[j].toNat ds[j]=true) ds.length (0,[]) ?_ ?_ ?_ (by omega)
  ·exact⟨rfl,by omega,hh,λj h=>by omega⟩
  ·rintro i g ⟨a,l⟩ hi ⟨h1,h2,h3,h4⟩
   simp only at h1 h2 h3 h4;rw[dG hi] at h3;simp only[fK,bg,bV] at h3;obtain⟨h5,h6,h7⟩:=h3;have hs:(a.toNat:Int)=a:=lM h5;have hat:a.toNat<sh.length:=by omega
   have hnx:=hsh.next a.toNat hat;refine⟨((aJ sh a.toNat).next,l++[a]),⟨by simp[h1],by simp only;omega,h7,?_⟩,?_⟩
   ·intro j hj hj2 hj3;simp only at hj2⊢;by_cases q:j<i
    ·rw[List.getElem_append_left (by omega)];exact h4 j q (by omega) hj3
    ·have:j=i:=by omega
     subst this;have e:(l++[a])[j]'hj2=a:=by rw[List.getElem_append_right (by omega)];simp
     rw[e];exact⟨h5,by omega,h6⟩
   ·have hcl:(oa l).length=i:=by unfold oa;rw[eD,h1]
    have e1:¬(a<0):=by omega
    have e2:((i:Int)<(ds.length:Int)):=by omega
    have r1:aK i=true:=by simp;omega
    simp only[bc,e1,cy,fu,ay,dw,mE,hcl,cu,e2,bn,r1,cQ,List.length_nil,fg,gM,show aK 1=true from rfl,kV,kU,lk h5];have hS:sh[a.toNat]=aJ sh a.toNat:=by unfold aJ;rw[dD hat];rfl
    have tg:∀(S:aV)(r:List Value),(iL S++r).drop 3=.int .i64 S.next::r:=λ_ _=>rfl;unfold cw;rw[bW zZ hat,hS];simp only[tg,bN,cH];unfold oa;rw[jZ];rfl
  ·rintro g ⟨a,l⟩ ⟨h1,h2,h3,h4⟩
   simp only at h1 h2 h3 h4;have hcl:(oa l).length=ds.length:=by unfold oa;rw[eD,h1]
   have hr:=λo=>Yy hm hw sh hsh hl a o ds l h1 ik hd jA (λj h=>h4 j h (by omega) h) hn;by_cases q:a<0
   ·simp only[bc,q,bn,cL,aE];have:=hr _ h138;unfold D4 wN dM at this;simpa only[bc,cD] using this
   ·have e2:¬((ds.length:Int)<(ds.length:Int)):=by omega
    simp only[bc,q,cy,fu,ay];have:=hr _ h138;unfold D4 wN dM at this;simp only[dw,mE,hcl,cu,bc,cD,e2,cy,aE] at this⊢;exact this
end
end Lt
end Go.Proofs.YtfdojmichbgpiaaGreatDoor

import Derived.Laws.BytesString
import Derived.AtR
import Derived.Scope
import Derived.Recover
import Derived.Defers
import Derived.RangeFuncIn
import Derived.Test.YtfdojmichbgpiaaGreatDoorQA
namespace Go.Proofs.YtfdojmichbgpiaaGreatDoor
namespace Lt
section
def iN:List Value->Option (List Int)
 |[]=>some []
 | .int .u8 n::xs=>ob (iN xs) λr=>some (n::r)
 |_=>none
variable{ρ:Ren}
theorem Pb:∀(xs xs':List Value)(ns:List Int),bk ρ xs xs'->iN xs=some ns->xs'=ns.map (Value.int .u8)
 |[],_,ns,r,h=>by cases r;cases h;rfl
 |x::xs,_,ns,r,h=>by
  cases r with
  |cons r t=>
   unfold iN at h;split at h
   ·grind
   ·rename_i n rest hh;cases hh;cases r;obtain⟨m,h1,h2⟩:=af h;cases h2;rw[Pb xs _ m t h1];rfl
   grind
def mkStr(ns:List Int):ByteArray:=⟨⟨ns.map λn=>UInt8.ofNat n.toNat⟩⟩
theorem KO:∀(ns:List Int)(s:ByteArray),ns.foldl (λr n=>r.push (UInt8.ofNat n.toNat)) s=⟨⟨s.data.toList++ns.map λn=>UInt8.ofNat n.toNat⟩⟩
 |[],s=>by simp
 |n::ns,s=>by simp only[List.foldl_cons,KO ns];simp
def oc:TypeDesc->Bool
 | .int .u8=>true
 |_=>false
theorem EL{d:TypeDesc}(h:oc d=true):d=.int .u8:=by
 unfold oc at h
 grind
def rS(T:TT)(h:Heap)(s d:TypeId)(x:Value):Option Value:=
 ob (T.get s) λi=>ob (T.get d) λj=>match i.desc,j.desc,x with
  | .slice e,.string,.slice none 0 0=>ob (T.get e) λk=>cond (oc k.desc) (some (.string ⟨⟨[]⟩⟩)) none
  | .slice e,.string,.slice (some ⟨o,off,none⟩) n cap=>ob (T.get e) λk=>cond (oc k.desc)
   (cond (Nat.beq n 0) (some (.string ⟨⟨[]⟩⟩)) (cond (Nat.beq cap bt) none (ob (h.get o) λob'=>match ob' with
    | .cells c _ _=>cond (Nat.ble (off+n) c.length) (ob (iN ((c.drop off).take n)) λns=>some (.string (mkStr ns))) none
    |_=>none))) none
  | .slice e,.string,.func (.via n _ _ true) cs _=>ob (T.get e) λk=>cond (oc k.desc) (cond (Nat.ble n cs.toList.length) (ob (iN (cs.toList.take n)) λns=>some (.string (mkStr ns))) none) none
  |_,_,_=>none
variable{P:Program} {T:TT} {d s:TypeId} {h:Heap} {v x x':Value} {w:World}
theorem O4(HT:eE P T)(H:bh ρ h w)(hx:aF ρ x x')(e:rS T h s d x=some v):
 ∃v',(convert s d x').run P w=.ok v' w/\aF ρ v v':=by
 replace e:=af e;obtain⟨i,hi,e⟩:=e;replace e:=af e;obtain⟨j,hj,e⟩:=e;have hs:=HT.under s i hi;have hd:=HT.under d j hj;split at e
 ·rename_i el h1 h2;cases hx;obtain⟨k,hk,e⟩:=af e;cases hu:oc k.desc with
  |false=>simp_all
  |true=>simp[hu] at e;subst e;have he:=HT.under el k hk;rw[EL hu] at he;rw[h1] at hs;rw[h2] at hd;rw[run_convert_bytes_string w s d el none 0 0 hs he hd];exact⟨.string .empty,by unfold Conv.bytesToString;rfl,.str _⟩
 ·rename_i el o off n cap h1 h2;obtain⟨k,hk,e⟩:=af e;cases hu:oc k.desc with
  |false=>simp_all
  |true=>
   have he:=HT.under el k hk;rw[EL hu] at he;rw[h1] at hs;rw[h2] at hd;have empty:∀(a:Addr)(c:Nat),(convert s d (.slice (some a) 0 c)).run P w=.ok (.string ⟨⟨[]⟩⟩) w:=by intro a c;rw[run_convert_bytes_string w s d el (some a) 0 c hs he hd];exact run_bytesToString w a 0 c [] (by simp[loadCells,loadCellsFrom])
   cases h0:Nat.beq n 0 with
   |true=>simp_all;subst e;cases hx<;>exact⟨_,empty _ _,.str _⟩
   |false=>
    simp_all;cases hcap:Nat.beq cap bt with
    |true=>simp_all
    |false=>
     simp_all;obtain⟨obj,ho,e⟩:=af e;split at e
     ·rename_i c _ opn;cases hb:Nat.ble (off+n) c.length with
      |false=>simp_all
      |true=>
       simp[hb] at e;obtain⟨ns,hn,e⟩:=af e;cases e;have go:∀(L:Loc)(c':Nat),ρ o=some L->∃v',(convert s d (.slice (some ⟨L.block,L.base+off,none⟩) n c')).run P w=.ok v' w/\aF ρ (.string (mkStr ns)) v':=by intro L c' hL;obtain⟨vs,a,b⟩:=H.load P ho hL (cI hb);have:=Pb _ _ _ b hn;rw[run_convert_bytes_string w s d el _ n c' hs he hd];refine⟨_,run_bytesToString w _ n c' ns (by rw[a,(show vs=(ns.map (Value.int .u8)).toArray from by rw[<-this])]),?_⟩;rw[KO];exact .str _
       cases hx with
       |gG hL _ _=>exact go _ _ hL
       |gz hL _ _ _=>exact go _ _ hL
       |jb=>simp at h0
     ·cases e
 ·rename_i el n _ _ cs _ h1 h2;obtain⟨k,hk,e⟩:=af e;cases hu:oc k.desc with
  |false=>simp_all
  |true=>
   simp only[hu] at e;have he:=HT.under el k hk;rw[EL hu] at he;rw[h1] at hs;rw[h2] at hd;cases hb:Nat.ble n cs.toList.length with
   |false=>rw[hb] at e;cases e
   |true=>
    rw[hb] at e;replace e:=af e;obtain⟨ns,hn,e⟩:=e;cases e;cases hx with
    |func a _ _=>exact a.elim
    |lit hl=>
     cases hl with
     |gH r hm hs2 hn2=>rename_i c a ys;obtain⟨vs,a1,b1⟩:=KD P H r hm hs2 (cI hb);have:=Pb _ _ _ b1 hn;rw[run_convert_bytes_string w s d el _ n c hs he hd];refine⟨_,run_bytesToString w _ n c ns (by rw[a1,(show vs=(ns.map (Value.int .u8)).toArray from by rw[<-this])]),?_⟩;rw[KO];exact .str _
     |fN=>
      rename_i c a;have:ns=[]:=by simpa[iN] using hn.symm
      subst this;cases a with
      |none=>rw[run_convert_bytes_string w s d el none 0 c hs he hd];exact⟨.string .empty,by unfold Conv.bytesToString;rfl,.str _⟩
      |some a=>rw[run_convert_bytes_string w s d el (some a) 0 c hs he hd];exact⟨_,run_bytesToString w a 0 c [] (by simp[loadCells,loadCellsFrom]),.str _⟩
     |qm=>
      rename_i c a;have:ns=[]:=by simpa[iN] using hn.symm
      subst this;rw[run_convert_bytes_string w s d el (some a) 0 c hs he hd];exact⟨_,run_bytesToString w a 0 c [] (by simp[loadCells,loadCellsFrom]),.str _⟩
     |pZ=>
      rename_i c;have:ns=[]:=by simpa[iN] using hn.symm
      subst this;rw[run_convert_bytes_string w s d el none 0 c hs he hd];exact⟨.string .empty,by unfold Conv.bytesToString;rfl,.str _⟩
 ·cases e
variable{o:Nat} {ob':eV} {w':World}
theorem bP.O6{nx:Nat}{L:Loc}(ho:h.get o=some ob')(hρ:ρ o=some L)
 (h1:w'.os=w.os) (h2:w'.tape=w.tape) (h3:w'.output=w.output) (h4:w'.heap.size=w.heap.size)
 (he:∀b,b≠L.block->w'.heap[b]? =w.heap[b]?):bP ρ h nx w ρ h nx w' where
 os:=h1
 tape:=h2
 output:=h3
 size:=ta h4.symm
 block b _ hb:=he b λe=>hb ⟨o,ob',L,ho,hρ,e.symm⟩
 owned _ _ hb:=hb
 le:=aB _
 cq _ _:=rfl
 lit _ _ _ h:=h
 eU _ _ _ h:=.inl h
theorem bh.O6(H:bh ρ h w){L:Loc}(ho:h.get o=some ob')(hρ:ρ o=some L)
 (he:∀b,b≠L.block->w'.heap[b]? =w.heap[b]?) (hO:lh ρ w' L ob'):bh ρ h w':=
 (H.put ho hρ he hO).sub λp x hp=>by
  rw[Tr.bD]
  grind
def AI(T:TT)(h:Heap)(s d:TypeId)(x:Value):Option Value:=
 match x with
 | .slice (some ⟨o,off,none⟩) n cap=>cond (Nat.beq s d) (ob (T.get s) λi=>match i.desc with
  | .slice e=>ob (T.get e) λk=>cond (oc k.desc&&!Nat.beq cap bt) (ob (h.get o) λob'=>match ob' with
   | .cells _ _ _=>some (.slice (some ⟨o,off,none⟩) n cap)
   |_=>none) none
  |_=>none) none
 |_=>none
theorem aeQ(HT:eE P T)(H:bh ρ h w)(nx:Nat)(hx:aF ρ x x')(e:AI T h s d x=some v):
 Good ρ h nx w v h nx ((convert s d x').run P w):=by
 unfold AI at e;split at e
 ·rename_i o off n cap;cases hsd:Nat.beq s d with
  |false=>simp[hsd] at e
  |true=>
   obtain rfl:=bJ hsd;simp_all;obtain⟨i,hi,e⟩:=af e;split at e
   ·rename_i el hd;obtain⟨k,hk,e⟩:=af e;cases hu:(oc k.desc&&!Nat.beq cap bt) with
    |false=>rw[hu] at e;cases e
    |true=>
     rw[hu] at e;simp_all;obtain⟨obj,ho,e⟩:=af e;split at e
     ·rename_i c el' opn;cases e;have go:∀(L:Loc)(c':Nat),ρ o=some L->∃w',(convert s s (.slice (some ⟨L.block,L.base+off,none⟩) n c')).run P w=.ok (.slice (some ⟨L.block,L.base+off,none⟩) n c') w'/\bh ρ h w'/\bP ρ h nx w ρ h nx w':=by
       intro L c' hL;obtain⟨M,m1,cs,fz,m2,m3,m4⟩:=H.obj o _ ho;have hsh:w.shape? M.block=some (el',cs.size):=by unfold World.shape?;rw[m2]
       refine⟨w.freeze ⟨M.block,cs.size,none⟩ 1,?_,?_,?_⟩
       ·unfold convert;have q1:=ga w HT hi;have q2:=ga w HT hk;rw[EL hu.1] at q2;simp_all;simp[markStringish,hsh]
       ·have hb:(w.freeze ⟨M.block,cs.size,none⟩ 1).heap[M.block]? =some (.cells cs el' (if fz.1 ==fz.2 then(cs.size,cs.size+1) else(min fz.1 cs.size,max fz.2 (cs.size+1)))):=by
         unfold World.freeze;simp[Array.getElem?_modify,m2]
        refine H.O6 ho m1 ?_ ⟨cs,_,hb,?_,m4⟩
        ·intro b ca;unfold World.freeze;simp[Array.getElem?_modify,Ne.symm ca]
        ·rcases m3 with rfl|m3
         ·exact .inr (by simp)
         ·right;split<;>grind
       ·refine bP.O6 ho m1 ?_ ?_ ?_ ?_ ?_
        ·unfold World.freeze;simp
        ·unfold World.freeze;simp
        ·unfold World.freeze;simp
        ·unfold World.freeze;simp
        ·intro b ca;unfold World.freeze;simp[Array.getElem?_modify,Ne.symm ca]
      cases hx with
      |gG hL hc hn=>obtain⟨w',a,b,d⟩:=go _ _ hL;exact⟨ρ,_,w',a,.gG hL hc hn,b,d⟩
      |gz hL hE hc hn=>obtain⟨w',a,b,d⟩:=go _ _ hL;exact⟨ρ,_,w',a,.gz hL hE hc hn,b,d⟩
      |jb=>have:=hu.2;simp at this
     ·cases e
   ·cases e
 ·cases e
end
section
def kg(h:Heap)(size n:Nat)(x:Value):Option (List Value):=
 match x with
 | .slice none 0 0=>cond (Nat.beq n 0) (some []) none
 | .slice (some ⟨o,off,none⟩) _ cap=>cond (Nat.beq (n*size) 0) (some []) (cond (Nat.beq cap bt) none (ob (h.get o) λob'=>match ob' with
  | .cells c _ _=>cond (Nat.ble (off+n*size) c.length) (some ((c.drop off).take (n*size))) none
  |_=>none))
 | .string s=>some ((s.data.toList.take n).map λb=>.int .u8 (Int.ofNat b.toNat))
 | .func (.via _ _ _ true) cs _=>cond (Nat.ble (n*size) cs.toList.length) (some (cs.toList.take (n*size))) none
 |_=>none
theorem BF(P:Program)(a:Addr)(w:World):(loadCells a 0).run P w=.ok #[] w:=by simp[loadCells,loadCellsFrom]
variable{P:Program} {h:Heap} {n:Nat} {w:World} {x x':Value} {ρ:Ren}
theorem Rk(H:bh ρ h w){size:Nat}(hx:aF ρ x x'){cs:List Value}(e:kg h size n x=some cs):
 ∃vs,(Builtin.firstCells size n x').run P w=.ok vs w/\bk ρ cs vs.toList:=by
 unfold kg at e;split at e
 ·cases hx;cases h0:Nat.beq n 0 with
  |false=>simp_all
  |true=>simp_all;exact⟨#[],rfl,.nil⟩
 ·rename_i o off len cap;cases h0:Nat.beq (n*size) 0 with
  |true=>simp_all;refine⟨#[],?_,.nil⟩;cases hx<;>(unfold Builtin.firstCells;simp_all;exact BF P _ w)
  |false=>
   simp_all;cases hcap:Nat.beq cap bt with
   |true=>simp_all
   |false=>
    simp_all;obtain⟨obj,ho,e⟩:=af e;split at e
    ·rename_i c el opn;cases hb:Nat.ble (off+n*size) c.length with
     |false=>simp_all
     |true=>
      simp[hb] at e;subst e;have hle:=cI hb;cases hx with
      |gG hL _ _=>exact H.load P ho hL hle
      |gz hL _ _ _=>exact H.load P ho hL hle
      |jb=>simp at hcap
    ·cases e
 ·rename_i s;cases hx;cases e;refine⟨(s.extract 0 n).data.map λb=>.int .u8 b.toNat,rfl,?_⟩;have:((s.extract 0 n).data.map λb=>Value.int .u8 (b.toNat:Int)).toList=(s.data.toList.take n).map λb=>Value.int .u8 (Int.ofNat b.toNat):=by
   simp
  rw[this];have key:∀(l:List UInt8),bk ρ (l.map λb=>Value.int .u8 (Int.ofNat b.toNat)) (l.map λb=>Value.int .u8 (Int.ofNat b.toNat)):=by
   intro l;induction l with
   |nil=>exact .nil
   |cons b l ih=>exact .cons (.int _ _) ih
  exact key _
 ·rename_i cs _;cases hb:Nat.ble (n*size) cs.toList.length with
  |false=>rw[hb] at e;cases e
  |true=>
   rw[hb] at e;cases e;cases hx with
   |func a _ _=>exact a.elim
   |lit hl=>
    cases hl with
    |gH r hm hs hn=>exact KD P H r hm hs (cI hb)
    |fN=>
     rename_i c a;rw[(show((#[]:Array Value).toList.take (n*size))=[] from by simp)];refine⟨#[],?_,.nil⟩;cases a with
     |none=>rfl
     |some a=>unfold Builtin.firstCells;simp_all;exact BF P _ w
    |qm=>rw[(show((#[]:Array Value).toList.take (n*size))=[] from by simp)];refine⟨#[],?_,.nil⟩;unfold Builtin.firstCells;simp_all;exact BF P _ w
    |pZ=>rw[(show((#[]:Array Value).toList.take (n*size))=[] from by simp)];exact⟨#[],rfl,.nil⟩
 ·cases e
def vw(x:Value):Option Nat:=
 match x with
 | .slice _ n _=>some n
 | .func (.via n _ _ true) _ _=>some n
 | .string s=>some s.data.toList.length
 |_=>none
theorem Sy(hx:aF ρ x x')(e:vw x=some n)(w:World):(Builtin.lenOf x').run P w=.ok n w:=by
 unfold vw at e;split at e
 ·cases e;cases hx<;>rfl
 ·cases e;cases hx with
  |func a _ _=>exact a.elim
  |lit hl=>cases hl<;>rfl
 ·cases hx;cases e;rfl
 grind
def xO(x:Value):Option Nat:=
 match x with
 | .slice _ n _=>some n
 |_=>none
theorem ahz(hx:aF ρ x x')(e:xO x=some n):∃b c,x'=.slice b n c:=by
 unfold xO at e;split at e
 ·cases e;cases hx<;>exact⟨_,_,rfl⟩
 grind
def C8(b:Option Addr)(l:List Value):Sem Unit:=
 match b with
 |some a=>storeCells a l
 |none=>pure ()
def xI(T:TT)(h:Heap)(t:TypeId)(dst src:Value):Option (Value×Heap):=
 ob (T.get t) λi=>match i.desc with
  | .slice e=>ob (T.get e) λj=>ob (vw src) λl=>ob (xO dst) λd=>
   ob (kg h j.size (Nat.min l d) src) λcs=>
    cond (Nat.beq cs.length 0) (some (.int .i64 (Int.ofNat (Nat.min l d)),h))
     (match dst with
      | .slice (some ⟨o,off,none⟩) _ cap=>cond (Nat.beq cap bt) none (ob (h.get o) λob'=>match ob' with
       | .cells c el opn=>cond (Nat.ble (off+cs.length) c.length&&bB cs) (some (.int .i64 (Int.ofNat (Nat.min l d)),h.set o (.cells (aW off cs c) el opn))) none
       |_=>none)
      |_=>none)
  |_=>none
variable{T:TT} {h':Heap} {rt t:TypeId} {ts:Array TypeId} {xs':Array Value}
theorem YN(HT:eE P T)(H:bh ρ h w)(nx:Nat)(ht:ts[0]? =some t){y y':Value}(hx':xs'[0]? =some x')(hy':xs'[1]? =some y')
 (hx:aF ρ x x') (hy:aF ρ y y') {v:Value} (e:xI T h t x y=some (v,h')):Good ρ h nx w v h' nx ((Builtin.copy_ ts rt xs').run P w):=by
 replace e:=af e;obtain⟨i,hi,e⟩:=e;split at e
 ·rename_i el hd;replace e:=af e;obtain⟨j,hj,e⟩:=e;replace e:=af e;obtain⟨l,hl,e⟩:=e;replace e:=af e;obtain⟨d,ik,e⟩:=e;replace e:=af e;obtain⟨cs,hcs,e⟩:=e;obtain⟨vs,p1,p2⟩:=Rk (P:=P) H hy hcs;have hlen:=p2.length;have q1:=Sy (P:=P) hy hl w;obtain⟨b,c',hb⟩:=ahz hx ik;have pre:∀(r:Result Unit),(C8 b vs.toList).run P w=r->∀w',r=.ok () w'->(Builtin.copy_ ts rt xs').run P w=.ok (.int .i64 (Int.ofNat (Nat.min l d))) w':=by
   intro r hr w' hw;subst hr;simp[Builtin.copy_,ht,hx',hy',hb,ga w HT hi,hd,q1,run_sizeOf w HT hj,p1];cases b with
   |none=>have hw:Result.ok () w=Result.ok () w':=hw;simp_all;rfl
   |some a=>have hw:(storeCells a vs.toList).run P w=.ok () w':=hw;simp_all;rfl
  cases h0:Nat.beq cs.length 0 with
  |true=>
   simp[h0] at e;obtain⟨rfl,rfl⟩:=e;have hz:=bJ h0;refine⟨ρ,_,w,pre _ rfl w ?_,.int _ _,H,bP.refl _ _ _ _⟩;unfold C8;cases b with
   |none=>rfl
   |some a=>simp[(show vs.toList=[] from qu.1 (by omega)),storeCells]
  |false=>
   simp[h0] at e;split at e
   ·rename_i o off n cap;cases hcap:Nat.beq cap bt with
    |true=>simp_all
    |false=>
     simp[hcap] at e;obtain⟨obj,ho,e⟩:=af e;split at e
     ·rename_i c el' opn;cases hc:(Nat.ble (off+cs.length) c.length&&bB cs) with
      |false=>simp[hc] at e
      |true=>
       simp[hc] at e;obtain⟨rfl,rfl⟩:=e;simp only[bg] at hc;have go:∀L,ρ o=some L->b=some ⟨L.block,L.base+off,none⟩->Good ρ h nx w (.int .i64 (Int.ofNat (Nat.min l d))) (h.set o (.cells (aW off cs c) el' opn)) nx ((Builtin.copy_ ts rt xs').run P w):=by intro L hL hbb;obtain⟨w',a1,a2,a3⟩:=H.store P ho hL p2 (yV _ hc.2 p2) (cI hc.1) nx;exact⟨ρ,_,w',pre _ rfl w' (by rw[hbb];exact a1),.int _ _,a2,a3⟩
       subst hb;cases hx with
       |gG hL _ _=>exact go _ hL rfl
       |gz hL _ _ _=>exact go _ hL rfl
       |jb=>simp at hcap
     ·cases e
   ·cases e
 ·cases e
def PH(T:TT)(h:Heap)(t:TypeId)(x:Value):Option Heap:=
 ob (T.get t) λi=>match i.desc,x with
  | .slice _,.slice none 0 0=>some h
  | .slice _,.slice (some _) 0 _=>some h
  | .slice e,.slice (some ⟨o,off,none⟩) n cap=>ob (T.get e) λj=>ob (j.zero) λz=>cond (Nat.beq cap bt) none (ob (h.get o) λob'=>match ob' with
   | .cells c el opn=>cond (Nat.blt 0 z.cells.size&&Nat.ble (off+n*z.cells.size) c.length&&bB z.cells.toList) (some (h.set o (.cells (aW off (rep n z.cells.toList) c) el opn))) none
   |_=>none)
  |_,_=>none
theorem qV:∀(a b:List Value),bB a=true->bB b=true->bB (a++b)=true
 |[],_,_,h=>h
 |x::a,b,h,h2=>by
  cases x<;>first
   |(simp[bB] at h;done)
   |exact qV a b h h2
theorem T9(l:List Value)(h:bB l=true):∀n,bB (rep n l)=true
 |0=>rfl
 |n+1=>qV _ _ h (T9 l h n)
theorem Yz(HT:eE P T)(H:bh ρ h w)(nx:Nat)(ht:ts[0]? =some t)(hx':xs'[0]? =some x')
 (hx:aF ρ x x') (e:PH T h t x=some h'):Good ρ h nx w (.tuple #[]) h' nx ((Builtin.clear_ ts rt xs').run P w):=by
 replace e:=af e;obtain⟨i,hi,e⟩:=e;have empty:∀y:Value,aF ρ (.tuple #[]) (.tuple #[]):=λ_=>.tuple .nil;split at e
 ·rename_i el hd;cases hx;cases e;refine⟨ρ,.tuple #[],w,?_,empty .nilFunc,H,bP.refl _ _ _ _⟩;unfold Builtin.clear_;simp only[ht,hx',dO,ga w HT hi];rfl
 ·rename_i el a cap hd;cases e;refine⟨ρ,.tuple #[],w,?_,empty .nilFunc,H,bP.refl _ _ _ _⟩;simp[Builtin.clear_,ht,hx',ga w HT hi,hd];cases hx<;>rfl
 ·rename_i el o off n cap ca hd;obtain⟨j,hj,e⟩:=af e;obtain⟨z,hz,e⟩:=af e;cases hcap:Nat.beq cap bt with
  |true=>simp_all
  |false=>
   simp[hcap] at e;obtain⟨obj,ho,e⟩:=af e;split at e
   ·rename_i c el' opn;cases hc:(Nat.blt 0 z.cells.size&&Nat.ble (off+n*z.cells.size) c.length&&bB z.cells.toList) with
    |false=>rw[hc] at e;cases e
    |true=>
     rw[hc] at e;cases e;simp only[bg] at hc;have hr:=FZ (Ba (xi HT hj hz) (ρ:=ρ)) n;have hs:z.cells.toList.length=z.cells.size:=rfl;have go:∀(L:Loc)(c':Nat),ρ o=some L->x'=.slice (some ⟨L.block,L.base+off,none⟩) n c'->Good ρ h nx w (.tuple #[]) (h.set o (.cells (aW off (rep n z.cells.toList) c) el' opn)) nx ((Builtin.clear_ ts rt xs').run P w):=by
      intro L c' hL hxx;obtain⟨w',a1,a2,a3⟩:=H.store P ho hL hr (yV _ (T9 _ hc.2 n) hr) (by have:=cI hc.1.2;rw[(LX z.cells.toList n),hs];exact this) nx;refine⟨ρ,.tuple #[],w',?_,empty .nilFunc,a2,a3⟩;have hzz:(Builtin.zeroCells z.cells n).toList=rep n z.cells.toList:=LU z.cells (cT hc.1.1) n;unfold Builtin.clear_;simp only[ht,hx',hxx,dO,ga w HT hi,hd,gA];cases n with
      |zero=>exact False.elim (by first|exact ca ⟨o,off,none⟩|exact ca rfl)
      |succ n=>simp only[uA w HT hj hz,gA,hzz,a1];rfl
     cases hx with
     |gG hL _ _=>exact go _ _ hL rfl
     |gz hL _ _ _=>exact go _ _ hL rfl
     |jb=>simp at hcap
   ·cases e
 ·cases e
end
section
def me:TypeDesc->Bool
 | .int _=>true
 |_=>false
def qD(h:Heap)(j ix:gC)(x:Value):Option (Nat×List Value):=
 cond (me ix.desc)
  (match x with
   | .int _ (.ofNat m)=>cond (Nat.blt m 9223372036854775808&&Nat.ble (m*j.bytes) 281474976710656) (ob (mN j m) λzs=>some (m,zs)) none
   |_=>none)
  (ob (vw x) λn=>ob (kg h j.size n x) λcs=>some (n,cs))
def pB(z:Bool)(size n:Nat)(e:TypeId)(x:Value):Sem (Array Value):=
 if !z then Builtin.firstCells size n x
 else if n*size=0 then pure #[]
 else do pure (Builtin.zeroCells (<-zeroValue e).cells n)
variable{P:Program} {e:TypeId} {n:Nat} {w:World} {x:Value}
theorem XP{T:TT}(HT:eE P T){ρ:Ren}{h:Heap}(H:bh ρ h w){j ix:gC}(hj:T.get e=some j){x':Value}(hx:aF ρ x x'){cs:List Value}(en:qD h j ix x=some (n,cs)):
 ∃vs,(pB (me ix.desc) j.size n e x').run P w=.ok vs w/\bk ρ cs vs.toList:=by
 unfold qD at en;unfold pB;cases hz:me ix.desc with
 |false=>
  simp_all;obtain⟨n',h1,en⟩:=af en;obtain⟨cs',h2,en⟩:=af en;obtain⟨rfl,rfl⟩:n'=n/\cs'=cs:=by simpa using bu en
  simpa using Rk H hx h2
 |true=>
  simp_all;split at en
  ·rename_i k m;cases hc:(Nat.blt m 9223372036854775808&&Nat.ble (m*j.bytes) 281474976710656) with
   |false=>grind
   |true=>
    simp_all;obtain⟨zs,h2,en⟩:=af en;obtain⟨rfl,rfl⟩:m=n/\zs=cs:=by simpa using bu en
    unfold mN at h2;rw[oP] at h2;by_cases h0:m*j.size=0
    ·rw[ar h0] at h2;cases h2;exact⟨#[],by simp[h0],.nil⟩
    ·rw[ai h0] at h2;obtain⟨z,hz1,h2⟩:=af h2;rw[oP] at h2;by_cases hs:z.cells.size=j.size
     ·rw[ar hs] at h2;cases h2;refine⟨Builtin.zeroCells z.cells m,by simp[h0,uA w HT hj hz1],?_⟩
      ·have hp:0<z.cells.size:=by
        grind
       have:=LU z.cells hp m;unfold Builtin.zeroCells;rw[this];exact FZ (Ba (xi HT hj hz1)) m
     grind
  grind
structure uY(P:Program)(w:World)(ts:Array TypeId)(xs:Array Value)(st xt e:TypeId)(dx:TypeDesc)(inf:TypeInfo)(b:Option Addr)(len c:Nat)(x:Value)(n:Nat):Prop where
 h0:ts[0]? =some st
 h1:ts[1]? =some xt
 x0:xs[0]? =some (.slice b len c)
 x1:xs[1]? =some x
 us:P.underlying st=some (.slice e)
 ux:P.underlying xt=some dx
 ie:P.info? e=some inf
 num:(me dx=false/\(Builtin.lenOf x).run P w=.ok n w)\/(me dx=true/\(∃k,x=.int k (Int.ofNat n))/\n<9223372036854775808/\n*inf.bytes<=281474976710656)
variable{b:Option Addr} {c len:Nat} {dx:TypeDesc} {inf:TypeInfo} {rt st xt:TypeId} {ts:Array TypeId} {vs xs:Array Value}
theorem AR
 (A:uY P w ts xs st xt e dx inf b len c x n) (hle:len+n<=c) (ha:(pB (me dx) inf.size n e x).run P w=.ok vs w) {w':World}
 (hs:(C8 (b.map (·.add (len*inf.size))) vs.toList).run P w=.ok () w'):
 (Builtin.append_ ts rt xs).run P w=.ok (.slice b (len+n) c) w':=by
 obtain⟨h0,h1,x0,x1,us,ux,ie,num⟩:=A;unfold Builtin.append_;have q1:(underlying st).run P w=.ok (.slice e) w:=by simp[underlying,us]
 have q2:(underlying xt).run P w=.ok dx w:=by simp[underlying,ux]
 have q3:(typeInfo e).run P w=.ok inf w:=by simp[typeInfo,ie]
 have q4:(sizeOf e).run P w=.ok inf.size w:=by simp[sizeOf,q3]
 have fin:((match b with|some a=>(storeCells (a.add (len*inf.size)) vs.toList)|none=>pure ()):Sem Unit).run P w=.ok () w':=by cases b<;>exact hs
 rcases num with⟨hz,hn⟩|⟨hz,⟨k,rfl⟩,hlt,hby⟩
 ·simp only[pB,hz,fu,gj] at ha;cases dx<;>first
   |(cases hz;done)
   |(cases b with
    |none=>simp only[fQ] at fin;cases fin;simp only[h0,h1,x0,x1,dO,q1,q4,q2,gA,fQ,mA,gN,hn,ar hle,fu,gj,ha]
    |some a=>simp only[h0,h1,x0,x1,dO,q1,q4,q2,gA,fQ,mA,gN,hn,ar hle,fu,gj,ha,fin])
 ·simp only[pB,hz,cL,mA,gN] at ha;have e1:=IF hlt;have c1:¬(Int.ofNat n<0):=by simp
  have c2:¬(Int.ofNat n*(inf.bytes:Int)>2^48):=by
   have:((n*inf.bytes:Nat):Int)<=281474976710656:=by omega
   simp only[oD,Int.natCast_mul] at this⊢;omega
  have e2:(Int.ofNat n).toNat=n:=rfl;cases dx<;>first
   |(cases hz;done)
   |(cases b with
    |none=>simp only[fQ] at fin;cases fin;simp only[h0,h1,x0,x1,dO,q1,q4,q2,q3,gA,fQ,gj,asInt,asIntOf,e1,ai c1,ai c2,e2,ar hle,cL,mA,gN,ha]
    |some a=>simp only[h0,h1,x0,x1,dO,q1,q4,q2,q3,gA,fQ,gj,asInt,asIntOf,e1,ai c1,ai c2,e2,ar hle,cL,mA,gN,ha,fin])
def jx(w:World):World:={w with drawn:=w.drawn+1}
theorem PS
 (A:uY P w ts xs st xt e dx inf b len c x n) (hgt:c<len+n) (hneed:len+n<9223372036854775808) (hcap:Builtin.nextslicecap (len+n) c*inf.bytes<=281474976710656)
 {old:Array Value} {z:Value} (hold:(Builtin.firstCells inf.size len (.slice b len c)).run P (jx w)=.ok old (jx w)) (ha:(pB (me dx) inf.size n e x).run P (jx w)=.ok vs (jx w)) (hz:inf.zero=some z):
 ∃cap,len+n<=cap/\(Builtin.append_ ts rt xs).run P w=.ok (.slice (some ⟨w.heap.size,0,none⟩) (len+n) cap) {jx w with heap:=w.heap.push (.cells (old++vs++Builtin.zeroCells z.cells (cap -(len+n))) e)}:=by
 obtain⟨h0,h1,x0,x1,us,ux,ie,num⟩:=A;refine⟨Question.cut (.appendCap (len+n) c e) (w.tape w.drawn (.appendCap (len+n) c e)),by simp[Question.cut],?_⟩;generalize hk:Question.cut (.appendCap (len+n) c e) (w.tape w.drawn (.appendCap (len+n) c e))=cap;unfold Builtin.append_;have q1:(underlying st).run P w=.ok (.slice e) w:=by simp[underlying,us]
 have q2:(underlying xt).run P w=.ok dx w:=by simp[underlying,ux]
 have q3:∀w,(typeInfo e).run P w=.ok inf w:=λw=>by simp[typeInfo,ie]
 have q4:(sizeOf e).run P w=.ok inf.size w:=by simp[sizeOf,q3]
 have q5:∀w,(zeroValue e).run P w=.ok z w:=λw=>by simp[zeroValue,q3,hz]
 have q6:(choose (.appendCap (len+n) c e)).run P w=.ok cap (jx w):=by rw[run_choose];simp[Question.forced,hk,jx]
 have g1:¬(len+n<=c):=by omega
 have g2:∀p:Prop,¬(((len+n:Nat):Int)>IntKind.i64.max/\p):=λp=>by have:IntKind.i64.max=9223372036854775807:=rfl;rw[this];omega
 have g3:¬(Builtin.nextslicecap (len+n) c*inf.bytes>2^48):=by omega
 have q7:∀cs,(newRow e cs).run P (jx w)=.ok ⟨w.heap.size,0,none⟩ {jx w with heap:=w.heap.push (.cells cs e)}:=λcs=>by unfold newRow;simp[jx];try rfl
 rcases num with⟨hzz,hn⟩|⟨hzz,⟨k,rfl⟩,hlt,hby⟩
 ·simp only[pB,hzz,fu,gj] at ha;cases dx<;>first
   |(cases hzz;done)
   |(simp only[h0,h1,x0,x1,dO,q1,q4,q2,q3,gA,fQ,mA,gN,hn,ai g1,ai (g2 _),ai g3,q6,run_askRoom,hold,fu,gj,ha,q5,q7])
 ·simp only[pB,hzz,cL,mA,gN] at ha;have e1:=IF hlt;have c1:¬(Int.ofNat n<0):=by simp
  have c2:¬(Int.ofNat n*(inf.bytes:Int)>2^48):=by
   have:((n*inf.bytes:Nat):Int)<=281474976710656:=by omega
   simp only[oD,Int.natCast_mul] at this⊢;omega
  have e2:(Int.ofNat n).toNat=n:=rfl;cases dx<;>first
   |(cases hzz;done)
   |(simp only[h0,h1,x0,x1,dO,q1,q4,q2,q3,gA,fQ,gj,asInt,asIntOf,e1,ai c1,ai c2,e2,ai g1,ai (g2 _),ai g3,q6,run_askRoom,hold,cL,mA,gN,ha,q5,q7])
end
section
variable{h h':Heap} {n n':Nat} {w w':World} {ρ ρ':Ren}
theorem bP.sub{h'':Heap}(M:bP ρ h n w ρ' h' n' w')(s:∀o ob,h''.get o=some ob->h'.get o≠none):bP ρ h n w ρ' h'' n' w' where
 os:=M.os
 tape:=M.tape
 output:=M.output
 size:=M.size
 block:=M.block
 owned b hb ho:=by
  obtain⟨o,ob',L,h1,h2,h3⟩:=ho;cases hg:h'.get o with
  |none=>grind
  |some x=>exact M.owned b hb ⟨o,x,L,hg,h2,h3⟩
 le:=M.le
 cq:=M.cq
 lit:=M.lit
 eU:=M.eU
variable{L':Loc} {nx o:Nat} {ob':eV}
theorem bh.move(H:bh ρ h w)(hn:ρ nx=none){ob:eV}{L:Loc}(ho:h.get o=some ob)(hρ:ρ o=some L)(hb:L'.block=L.block)
 (he:∀b,b≠L.block->w'.heap[b]? =w.heap[b]?) (hO:lh (ρ.with nx L') w' L' ob'):bh (ρ.with nx L') ((h.del o).set nx ob') w' where
 obj p x hp:=by
  rw[Tr.bD] at hp;by_cases e:p=nx
  ·rw[ar e] at hp;subst e;cases hp;exact⟨L',Ren.iO _ _ _,hO⟩
  ·rw[ai e,Tr.kK] at hp;by_cases e2:p=o
   ·grind
   ·rw[ai e2] at hp;obtain⟨M,h1,h2⟩:=H.obj p x hp;exact⟨M,(Ren.sX hn).cq _ _ h1,(h2.mono (Ren.sX hn)).block (he _ λhbb=>e2 (H.inj p o M L x ob hp ho h1 hρ hbb))⟩
 inj p q M M' x y hp hq r1 r2 hbb:=by
  rw[Tr.bD] at hp hq;have key:∀(q:Nat)(y:eV)(M':Loc),q≠nx->(h.del o).get q=some y->ρ.with nx L' q=some M'->L'.block=M'.block->False:=by
   intro q y M' e hq r2 hbb;rw[Tr.kK] at hq;by_cases e2:q=o
   ·grind
   ·rw[ai e2] at hq;rw[Ren.jX e] at r2;exact e2 (H.inj q o M' L y ob hq ho r2 hρ (by grind))
  by_cases e:p=nx
  ·by_cases e':q=nx
   ·grind
   ·rw[ai e'] at hq;rw[e,Ren.iO] at r1
    grind
  ·rw[ai e] at hp;by_cases e':q=nx
   ·rw[e',Ren.iO] at r2
    grind
   ·rw[ai e'] at hq;rw[Tr.kK] at hp hq;by_cases e2:p=o
    ·grind
    ·by_cases e3:q=o
     ·grind
     ·rw[ai e2] at hp;rw[ai e3] at hq;rw[Ren.jX e] at r1;rw[Ren.jX e'] at r2;exact H.inj p q M M' x y hp hq r1 r2 hbb
 lit b i v hv:=by rw[oe (he b (Ne.symm (H.free b i v hv o ob L ho hρ)))];exact H.lit b i v hv
 free b i v hv p x M hp hM:=by
  rw[Tr.bD] at hp;by_cases e:p=nx
  ·rw[e,Ren.iO] at hM;cases hM;rw[hb];exact H.free b i v hv o ob L ho hρ
  ·rw[ai e,Tr.kK] at hp;rw[Ren.jX e] at hM;by_cases e2:p=o
   ·grind
   ·rw[ai e2] at hp;exact H.free b i v hv p x M hp hM
theorem bP.move(_:ρ nx=none){ob:eV}{L:Loc}(ho:h.get o=some ob)(hρ:ρ o=some L)(hb:L'.block=L.block)
 (h1:w'.os=w.os) (h2:w'.tape=w.tape) (h3:w'.output=w.output) (h4:w'.heap.size=w.heap.size) (he:∀b,b≠L.block->w'.heap[b]? =w.heap[b]?):
 bP ρ h nx w (ρ.with nx L') ((h.del o).set nx ob') (nx+1) w' where
 os:=h1
 tape:=h2
 output:=h3
 size:=ta h4.symm
 block b _ hbb:=he b λe=>hbb ⟨o,ob,L,ho,hρ,e.symm⟩
 owned b _ hbb:=by
  obtain⟨p,x,M,a1,a2,a3⟩:=hbb;rw[Tr.bD] at a1;by_cases e:p=nx
  ·rw[e,Ren.iO] at a2;cases a2;exact⟨o,ob,L,ho,hρ,by rw[<-hb];exact a3⟩
  ·rw[ai e,Tr.kK] at a1;by_cases e2:p=o
   ·grind
   ·rw[ai e2] at a1;rw[Ren.jX e] at a2;exact⟨p,x,M,a1,a2,a3⟩
 le:=kc _
 cq p hp:=Ren.jX (by omega)
 lit _ _ _ h:=h
 eU _ _ _ h:=.inl h
theorem Rz(newLen:Nat):∀(r c:Nat),Builtin.growBy newLen r c<=max c (newLen+(newLen+768)/4)
 |0,c=>by simp only[Builtin.growBy];omega
 |r+1,c=>by
  unfold Builtin.growBy;split
  ·omega
  ·have:=Rz newLen r (c+(c+768)/4);omega
variable{c:Nat}
theorem KT{need:Nat}(h:c<need):Builtin.nextslicecap need c<=2*need+768:=by
 unfold Builtin.nextslicecap;split
 ·omega
 ·split
  ·omega
  ·have:=Rz need 4 c;omega
def xK(h:Heap)(nx:Nat)(e:TypeId)(j:gC)(need:Nat)(bound:Nat)(cells:List Value):Option (Value×Heap×Nat):=
 ob j.zero λz=>cond (Nat.blt need 9223372036854775808&&Nat.blt 0 j.size&&Nat.beq z.cells.size j.size&&Nat.ble (bound*j.bytes) 281474976710656&&Nat.beq cells.length (need*j.size))
  (some (.slice (some ⟨nx,0,none⟩) need (bt+j.size),h.set nx (.cells cells e true),nx+1)) none
variable{P:Program} {T:TT} {b:Option Addr} {e rt st xt:TypeId} {inf:TypeInfo} {j:gC} {len nx':Nat} {ts:Array TypeId} {v x:Value} {xs:Array Value}
theorem Kc(HT:eE P T)(H:bh ρ h w)(hn:nx<nx'->ρ nx=none)(hj:T.get e=some j)(hie:P.info? e=some inf)
 {dx:TypeDesc} (A:uY P w ts xs st xt e dx inf b len c x n) (hgt:c<len+n) {bound:Nat} (hbd:Builtin.nextslicecap (len+n) c<=bound)
 {oldc newc:List Value} (hold:∃old,(Builtin.firstCells inf.size len (.slice b len c)).run P (jx w)=.ok old (jx w)/\bk ρ oldc old.toList)
 (hnew:∃vs,(pB (me dx) inf.size n e x).run P (jx w)=.ok vs (jx w)/\bk ρ newc vs.toList) (eg:xK h nx e j (len+n) bound (oldc++newc)=some (v,h',nx')):
 nx'=nx+1/\Good ρ h nx w v h' nx' ((Builtin.append_ ts rt xs).run P w):=by
 obtain⟨z,hz,eg⟩:=af eg;cases hc:(Nat.blt (len+n) 9223372036854775808&&Nat.blt 0 j.size&&Nat.beq z.cells.size j.size&&Nat.ble (bound*j.bytes) 281474976710656&&Nat.beq (oldc++newc).length ((len+n)*j.size)) with
 |false=>rw[hc] at eg;cases eg
 |true=>
  rw[hc] at eg;obtain⟨rfl,rfl,rfl⟩:=eg;have hn:=hn (pj _);simp only[bg] at hc;obtain⟨⟨⟨⟨c1,c2⟩,c3⟩,c4⟩,c5⟩:=hc;have c4:=cI c4;obtain⟨inf',i1,i2,i3,i4⟩:=HT.info e j hj;obtain rfl:=bu (i1.symm.trans hie);refine⟨rfl,?_⟩;obtain⟨old,o1,o2⟩:=hold;obtain⟨vs,v1,v2⟩:=hnew;have hb2:Builtin.nextslicecap (len+n) c*inf'.bytes<=281474976710656:=by rw[i3];exact eP (Nat.mul_le_mul_right _ hbd) c4
  obtain⟨cap,k1,k2⟩:=PS A hgt (cT c1) hb2 o1 v1 (i4 z hz).1;have r:=o2.append v2;have hl:=r.length;have hzc:(Builtin.zeroCells z.cells (cap -(len+n))).size=(cap -(len+n))*z.cells.size:=by unfold Builtin.zeroCells;simp
  have hsize:(old++vs++Builtin.zeroCells z.cells (cap -(len+n))).size=cap*j.size:=by
   simp_all;have:cap*j.size=(len+n)*j.size+(cap -(len+n))*j.size:=by rw[<-kb];congr 1;omega
   omega
  refine⟨ρ.with nx ⟨w.heap.size,0,(old++vs++Builtin.zeroCells z.cells (cap -(len+n))).size⟩,_,_,k2,?_,?_,?_⟩
  ·refine .gz (Ren.iO ρ nx _) (cT c2) ?_ k1;rw[hsize];simp
  ·refine H.fresh hn rfl (λb hb=>?_) ⟨old++vs++Builtin.zeroCells z.cells (cap -(len+n)),(0,0),?_,KU _,?_⟩
   ·show(w.heap.push _)[b]? =_;rw[Array.getElem?_push,ai (by omega)]
   ·show(w.heap.push _)[w.heap.size]? =_;rw[Array.getElem?_push,ar rfl]
   ·refine mF.mono (Ren.sX hn) ⟨rfl,?_,λh=>(by cases h),λi u hu=>?_⟩
    ·simp;simp_all;omega
    ·obtain⟨u',a1,a2⟩:=r.get hu;refine⟨u',?_,a2⟩;rw[fg,<-kB,sY,sY];have hi:i<(old.toList++vs.toList).length:=by
      rcases dg i (old.toList++vs.toList).length with h|h<;>grind
     rw[uU hi];exact a1
  ·exact bP.fresh rfl rfl rfl rfl (by simp) (λb hb=>by rw[Array.getElem?_push,ai (by omega)])
def nN(T:TT)(h:Heap)(nx:Nat)(ts:List TypeId)(s x:Value):Option (Value×Heap×Nat):=
 match ts with
 |st::xt::_=>ob (T.get st) λi=>ob (T.get xt) λix=>match i.desc with
  | .slice e=>ob (T.get e) λj=>ob (qD h j ix x) λ(n,new)=>
   match s with
   | .slice none 0 0=>cond (Nat.beq n 0) (some (s,h,nx)) (xK h nx e j (0+n) n ([]++new))
   | .slice (some ⟨o,off,none⟩) len cap=>cond (Nat.beq n 0) (some (s,h,nx)) (cond (Nat.beq cap bt) none (ob (h.get o) λob'=>match ob' with
    | .cells c el opn=>
     cond (Nat.ble (off+len*j.size+new.length) c.length&&Nat.beq new.length (n*j.size)&&bB new&&(cond (Nat.blt cap bt) (Nat.ble (len+n) cap) (Nat.beq cap (bt+j.size))))
      (some (.slice (some ⟨o,off,none⟩) (len+n) cap,h.set o (.cells (aW (off+len*j.size) new c) el opn),nx))
      (cond (Nat.blt cap bt)
       (cond (Nat.blt cap (len+n)&&Nat.ble (off+len*j.size) c.length) (xK h nx e j (len+n) (Builtin.nextslicecap (len+n) cap) ((c.drop off).take (len*j.size)++new)) none)
       (cond (Nat.beq cap (bt+j.size)&&opn&&Nat.beq el e&&Nat.beq (off+len*j.size) c.length&&bB new&&Nat.beq new.length (n*j.size))
        (xK (h.del o) nx e j (len+n) (2*(len+n)+768) (c.drop off++new)) none))
    |_=>none))
   |_=>none
  |_=>none
 |_=>none
theorem bP.ZO{hb:Heap}(M:bP ρ h n w ρ' h' n' w')(s:∀o ob,h.get o=some ob->hb.get o=some ob):bP ρ hb n w ρ' h' n' w' where
 os:=M.os
 tape:=M.tape
 output:=M.output
 size:=M.size
 block b hb' ho:=M.block b hb' λ⟨o,x,L,h1,h2,h3⟩=>ho ⟨o,x,L,s _ _ h1,h2,h3⟩
 owned b hb' ho:=by obtain⟨o,x,L,h1,h2,h3⟩:=M.owned b hb' ho;exact⟨o,x,L,s _ _ h1,h2,h3⟩
 le:=M.le
 cq:=M.cq
 lit:=M.lit
 eU b i v hv:=by
  rcases M.eU b i v hv with h|h|⟨o,x,L,h1,h2,h3⟩
  ·grind
  ·grind
  ·exact .inr (.inr ⟨o,x,L,s _ _ h1,h2,h3⟩)
variable{ix:gC} {new:List Value} {x':Value}
theorem XV(HT:eE P T){i:gC}(ht0:ts[0]? =some st)(ht1:ts[1]? =some xt)(hi:T.get st=some i)(hix:T.get xt=some ix)(hd:i.desc=.slice e)(hj:T.get e=some j)
 (hie:P.info? e=some inf) (hx0:xs[0]? =some (.slice b len c)) (hx1:xs[1]? =some x') (hx:aF ρ x x') (en:qD h j ix x=some (n,new)):uY P w ts xs st xt e ix.desc inf b len c x' n:=by
 obtain⟨inf',i1,i2,i3,i4⟩:=HT.info e j hj;cases i1.symm.trans hie;refine⟨ht0,ht1,hx0,hx1,by rw[HT.under st i hi,hd],HT.under xt ix hix,hie,?_⟩;unfold qD at en;cases hz:me ix.desc with
 |false=>
  simp[hz] at en;obtain⟨n',h1,en⟩:=af en;obtain⟨cs',h2,en⟩:=af en;obtain⟨rfl,rfl⟩:n'=n/\cs'=new:=by simpa using bu en
  exact .inl ⟨rfl,Sy hx h1 w⟩
 |true=>
  simp[hz] at en;split at en
  ·rename_i k m;cases hx;cases hc:(Nat.blt m 9223372036854775808&&Nat.ble (m*j.bytes) 281474976710656) with
   |false=>simp_all
   |true=>simp[hc] at en;obtain⟨zs,h2,en⟩:=af en;simp_all
  ·cases en
theorem XO(en:qD h j ix x=some (0,new)):new=[]:=by
 unfold qD at en;cases hz:me ix.desc with
 |false=>
  simp_all;obtain⟨n',h1,en⟩:=af en;obtain⟨cs',h2,en⟩:=af en;obtain⟨rfl,rfl⟩:n'=0/\cs'=new:=by simpa using bu en
  unfold kg at h2;split at h2
  ·grind
  ·simp_all
  ·grind
  ·grind
  grind
 |true=>
  simp_all;split at en
  ·rename_i k m;cases hc:(Nat.blt m 9223372036854775808&&Nat.ble (m*j.bytes) 281474976710656) with
   |false=>grind
   |true=>
    simp_all;obtain⟨zs,h2,en⟩:=af en;obtain⟨rfl,rfl⟩:m=0/\zs=new:=by simpa using bu en
    unfold mN at h2;simp_all
  grind
theorem XZ(HT:eE P T)(H:bh ρ h w)(hn:nx<nx'->ρ nx=none){s s':Value}(hx0:xs[0]? =some s')(hx1:xs[1]? =some x')
 (hs:aF ρ s s') (hx:aF ρ x x') (e:nN T h nx ts.toList s x=some (v,h',nx')):Good ρ h nx w v h' nx' ((Builtin.append_ ts rt xs).run P w):=by
 unfold nN at e;split at e
 ·rename_i st xt trest htl;have ht0:ts[0]? =some st:=by rw[<-kB,htl];rfl
  have ht1:ts[1]? =some xt:=by rw[<-kB,htl];rfl
  replace e:=af e;obtain⟨i,hi,e⟩:=e;replace e:=af e;obtain⟨ix,hix,e⟩:=e;split at e
  ·rename_i el hd;replace e:=af e;obtain⟨j,hj,e⟩:=e;replace e:=af e;obtain⟨⟨n,new⟩,hnew,e⟩:=e;simp only at e;obtain⟨inf,i1,i2,i3,i4⟩:=HT.info el j hj;have addr:=λ(w:World)(Hw:bh ρ h w)=>XP (P:=P) HT Hw hj hx hnew;have args:=λ(b:Option Addr)(len c:Nat)(hxx:xs[0]? =some (.slice b len c))=>XV (w:=w) HT ht0 ht1 hi hix hd hj i1 hxx hx1 hx hnew;have nothing:∀(b:Option Addr)(len c:Nat),s'=.slice b len c->len<=c->n=0->(Builtin.append_ ts rt xs).run P w=.ok (.slice b len c) w:=by
    intro b len c hss hle h0;subst h0;obtain rfl:=XO hnew;obtain⟨vs,a1,a2⟩:=addr w H;have hv:vs.toList=[]:=qu.1 (by have:=a2.length;simpa using this.symm);rw[<-i2] at a1;have:=AR (rt:=rt) (args b len c (by rw[hx0,hss])) (by omega) a1 (w':=w) (by unfold C8;cases b<;>simp[hv,storeCells]);simpa using this
   split at e
   ·cases hs;cases h0:Nat.beq n 0 with
    |true=>simp only[h0,ay,kF,Prod.mk.injEq] at e;obtain⟨rfl,rfl,rfl⟩:=e;exact⟨ρ,_,w,nothing none 0 0 rfl (aB _) (bJ h0),.kS,H,bP.refl _ _ _ _⟩
    |false=>
     simp only[h0,aE] at e;have hpos:0<n:=by rw[jE] at h0;simp at h0;omega
     have hd':bh ρ h (jx w):=H.same λ_=>rfl;obtain⟨vs,a1,a2⟩:=addr _ hd';rw[<-i2] at a1;refine(Kc HT H hn hj i1 (args none 0 0 hx0) (by omega) (bound:=n) ?_ (oldc:=[]) (newc:=new) ⟨#[],rfl,.nil⟩ ⟨vs,a1,a2⟩ e).2;unfold Builtin.nextslicecap;rw[ar (by omega)];omega
   ·rename_i o off len cap;cases h0:Nat.beq n 0 with
    |true=>
     simp only[h0,ay,kF,Prod.mk.injEq] at e;obtain⟨rfl,rfl,rfl⟩:=e;have hz:=bJ h0;have hs':=hs;cases hs with
     |gG hL hc hl=>exact⟨ρ,_,w,nothing _ _ _ rfl hl hz,hs',H,bP.refl _ _ _ _⟩
     |gz hL hE hc hl=>exact⟨ρ,_,w,nothing _ _ _ rfl hl hz,hs',H,bP.refl _ _ _ _⟩
     |jb=>exact⟨ρ,_,w,nothing _ _ _ rfl (gZ _) hz,hs',H,bP.refl _ _ _ _⟩
    |false=>
     simp only[h0,aE] at e;cases hcap:Nat.beq cap bt with
     |true=>simp[hcap] at e
     |false=>
      simp only[hcap,aE] at e;replace e:=af e;obtain⟨obj,ho,e⟩:=e;split at e
      ·rename_i c el' opn;have hd':bh ρ h (jx w):=H.same λ_=>rfl;have inplace:∀(L:Loc)(c':Nat),ρ o=some L->s'=.slice (some ⟨L.block,L.base+off,none⟩) len c'->len+n<=c'->off+len*j.size+new.length<=c.length->bB new=true->
        ∃w',(Builtin.append_ ts rt xs).run P w=.ok (.slice (some ⟨L.block,L.base+off,none⟩) (len+n) c') w'/\bh ρ (h.set o (.cells (aW (off+len*j.size) new c) el' opn)) w'/\bP ρ h nx w ρ (h.set o (.cells (aW (off+len*j.size) new c) el' opn)) nx w':=by
        intro L c' hL hss hle hfit hone;obtain⟨vs,a1,a2⟩:=addr w H;rw[<-i2] at a1;obtain⟨w',b1,b2,b3⟩:=H.store P ho hL a2 (yV _ hone a2) (off:=off+len*j.size) hfit nx;refine⟨w',?_,b2,b3⟩;refine AR (rt:=rt) (args _ len c' (by rw[hx0,hss])) hle a1 ?_;show(storeCells ((⟨L.block,L.base+off,none⟩:Addr).add (len*inf.size)) vs.toList).run P w=_;rw[tF,i2,lO];exact b1
       cases hin:(Nat.ble (off+len*j.size+new.length) c.length&&Nat.beq new.length (n*j.size)&&bB new&&(cond (Nat.blt cap bt) (Nat.ble (len+n) cap) (Nat.beq cap (bt+j.size)))) with
       |true=>
        rw[hin] at e;obtain⟨rfl,rfl,rfl⟩:=e;simp only[bg] at hin;obtain⟨⟨⟨g1,g2⟩,g3⟩,g4⟩:=hin;have g1:=cI g1;have g2:=bJ g2;cases hs with
        |gG hL hc hl=>
         have:Nat.blt cap bt=true:=by unfold Nat.blt;exact gi hc
         simp only[this,ay] at g4;have g4:=cI g4;obtain⟨w',b1,b2,b3⟩:=inplace _ _ hL rfl g4 g1 g3;exact⟨ρ,_,w',b1,.gG hL hc g4,b2,b3⟩
        |@gz _ _ _ E c' L hL hE hc hl=>
         have:Nat.blt (bt+E) bt=false:=by
          cases hh:Nat.blt (bt+E) bt with
          |false=>rfl
          |true=>have:=cT hh;omega
         simp only[this,aE] at g4;have g4:=bJ g4;have hEs:j.size=E:=by omega
         obtain⟨M,m1,cs,fz,m2,m3,m4⟩:=H.obj o _ ho;obtain rfl:=bu (m1.symm.trans hL);have k1:=m4.1;have k2:=m4.2.1;have hle:len+n<=c':=by
          have:(len+n)*E<=c'*E:=by rw[kb,<-hEs];rw[<-hEs] at hc;omega
          exact Nat.le_of_mul_le_mul_right this hE
         obtain⟨w',b1,b2,b3⟩:=inplace _ _ hL rfl hle g1 g3;exact⟨ρ,_,w',b1,.gz hL hE hc hle,b2,b3⟩
        |jb=>simp at hcap
       |false=>
        rw[hin] at e;simp only[aE] at e;cases hlt:Nat.blt cap bt with
        |true=>
         simp only[hlt,ay] at e;cases hg:(Nat.blt cap (len+n)&&Nat.ble (off+len*j.size) c.length) with
         |false=>rw[hg] at e;cases e
         |true=>
          rw[hg] at e;simp only[ay] at e;simp only[bg] at hg;have g1:=cT hg.1;have g2:=cI hg.2;obtain⟨vs,a1,a2⟩:=addr _ hd';rw[<-i2] at a1;cases hs with
          |gG hL hc hl=>rename_i L;obtain⟨old,o1,o2⟩:=hd'.load P ho hL (off:=off) (n:=len*j.size) g2;refine(Kc HT H hn hj i1 (args _ len cap hx0) g1 (aB _) ⟨old,?_,o2⟩ ⟨vs,a1,a2⟩ e).2;rw[i2];exact o1
          |gz hL hE hc hl=>have:=cT hlt;omega
          |jb=>simp at hcap
        |false=>
         simp only[hlt,aE] at e;cases hg:(Nat.beq cap (bt+j.size)&&opn&&Nat.beq el' el&&Nat.beq (off+len*j.size) c.length&&bB new&&Nat.beq new.length (n*j.size)) with
         |false=>rw[hg] at e;cases e
         |true=>
          rw[hg] at e;simp only[ay] at e;simp only[bg] at hg;obtain⟨⟨⟨⟨⟨g1,g2⟩,g3⟩,g4⟩,g5⟩,g6⟩:=hg;have g1:=bJ g1;obtain rfl:=bJ g3;have g4:=bJ g4;have g6:=bJ g6;have hcl:=E6 hlt;cases hs with
          |gG hL hc hl=>omega
          |jb=>simp at hcap
          |@gz _ _ _ E c' L hL hE hc hl=>
           have hEs:j.size=E:=by omega
           by_cases hfit:len+n<=c'
           ·
            obtain⟨M,m1,cs,fz,m2,m3,m4⟩:=H.obj o _ ho;obtain rfl:=bu (m1.symm.trans hL);obtain⟨vs,a1,a2⟩:=addr w H;rw[<-i2] at a1;have hvl:=a2.length;have k1:=m4.1;have k2:=m4.2.1;have hmul:len*j.size+n*j.size<=c'*j.size:=by rw[<-kb];exact Nat.mul_le_mul_right _ hfit
            have hsum:M.base+off+len*j.size+vs.toList.length<=cs.size:=by rw[<-hEs] at hc;omega
            obtain⟨w',b1,b2,b3,b4,b5,b6,b7⟩:=zj P (k:=M.base+off+len*j.size) vs.toList 0 w cs m2 m3 (by omega) (yV _ g5 a2);replace e:=af e;obtain⟨z,hz,e⟩:=e;cases hc2:(Nat.blt (len+n) 9223372036854775808&&Nat.blt 0 j.size&&Nat.beq z.cells.size j.size&&Nat.ble ((2*(len+n)+768)*j.bytes) 281474976710656&&Nat.beq (c.drop off++new).length ((len+n)*j.size)) with
            |false=>rw[hc2] at e;cases e
            |true=>
             rw[hc2] at e;obtain⟨rfl,rfl,rfl⟩:=e;have hn:=hn (pj _);refine⟨ρ.with nx ⟨M.block,M.base+off,M.stop⟩,.slice (some ⟨M.block,M.base+off,none⟩) (len+n) c',w',?_,?_,?_,?_⟩
             ·refine AR (rt:=rt) (args _ len c' hx0) hfit a1 ?_;show(storeCells ((⟨M.block,M.base+off,none⟩:Addr).add (len*inf.size)) vs.toList).run P w=_;rw[tF,i2];exact b1
             ·refine .gz (off:=0) (L:=⟨M.block,M.base+off,M.stop⟩) (Ren.iO ρ nx _) (by omega) ?_ hfit;rw[hEs];exact hc
             ·refine H.move hn ho m1 rfl b3 ⟨_,fz,b2,?_,?_⟩
              ·show vc fz (Lt.aW _ _ _).length;rw[kq];exact m3
              ·refine mF.mono (Ren.sX hn) ⟨?_,?_,λh=>(by cases h),λq u hu=>?_⟩
               ·show M.stop=(Lt.aW _ _ _).length;rw[kq];exact k1
               ·show M.base+off+(c.drop off++new).length<=(Lt.aW _ _ _).length;rw[kq];simp only[aR,dZ];have:cs.toList.length=cs.size:=rfl;omega
               ·show∃v',((⟨Lt.aW (M.base+off+len*j.size+0) vs.toList cs.toList⟩:Array Value))[M.base+off+q]? =some v'/\_;rw[List.getElem?_toArray,Nat.add_zero];by_cases hq:q<(c.drop off).length
                ·rw[uU hq,List.getElem?_drop] at hu;rw[dZ] at hq;rw[B2 _ _ _ _ (by omega)];obtain⟨v',d1,d2⟩:=m4.2.2.2 (off+q) u hu;exact⟨v',by rw[lO];simpa using d1,d2⟩
                ·rw[uV (by omega)] at hu;rw[dZ] at hq hu;obtain⟨v',d1,d2⟩:=a2.get hu;have hql:q -(c.length -off)<vs.toList.length:=by
                  rcases dg (q -(c.length -off)) vs.toList.length with h|h<;>grind
                 have hsplit:M.base+off+q=M.base+off+len*j.size+(q -(c.length -off)):=by omega
                 rw[hsplit,FM _ _ _ _ (by have:cs.toList.length=cs.size:=rfl;omega) hql];exact⟨v',d1,d2⟩
             ·exact bP.move hn ho m1 rfl b5 b6 b7 b4 b3
           ·
            obtain⟨vs,a1,a2⟩:=addr _ hd';rw[<-i2] at a1;obtain⟨old,o1,o2⟩:=hd'.load P ho hL (off:=off) (n:=len*j.size) (by omega);rw[(gh (by rw[dZ];omega))] at o2;have sub:∀p x,(h.del o).get p=some x->h.get p=some x:=λp x hp=>by rw[Tr.kK] at hp;by_cases e2:p=o<;>grind
            obtain⟨hnx,ρ',v',w',r1,r2,r3,r4⟩:=Kc HT (H.sub sub) hn hj i1 (args _ len c' hx0) (by omega) (KT (by omega)) ⟨old,(by rw[i2];exact o1),o2⟩ ⟨vs,a1,a2⟩ e;exact⟨ρ',v',w',r1,r2,r3,r4.ZO sub⟩
      ·cases e
   ·cases e
  ·cases e
 ·cases e
end
section
def qB(T:TT)(kt:TypeId)(k:Value):List (Value×Value)->Nat->Option (Option (Nat×Value))
 |[],_=>some none
 |(k0,v0)::es,i=>ob (iv T kt k k0) λb=>cond b (some (some (i,v0))) (qB T kt k es (i+1))
variable{P:Program} {T:TT} {k k':Value} {kt:TypeId} {ρ:Ren}
theorem Rh(HT:eE P T)(HF:∀t i,T.get t=some i->i.flat=true->oG P i.size i.desc)(hk:aF ρ k k')(w:World):
 ∀(es:List (Value×Value))(es':List MapEntry),lQ ρ es es'->∀(i:Nat)(r:Option (Nat×Value)),qB T kt k es i=some r->
  ∃r':Option (Nat×Value),(Instr.findAsking kt k' es' i).run P w=.ok r' w/\(r=none->r'=none)/\(∀n v,r=some (n,v)->∃v',r'=some (n,v')/\aF ρ v v')
 |[],_,h,i,r,e=>by cases h;cases e;exact⟨none,rfl,λ_=>rfl,λ_ _ h=>by cases h⟩
 |(k0,v0)::es,_,h,i,r,e=>by
  cases h with
  |cons h1 h2 t=>
   rename_i en es';obtain⟨b,hb,e⟩:=af e;have q:=En HT HF hk h1 hb w;unfold Instr.findAsking;cases b with
   |true=>cases e;simp_all
   |false=>obtain⟨r',a,b,c⟩:=Rh HT HF hk w es es' t (i+1) r e;simp_all
variable{es:List (Value×Value)} {fs:Array Field}
theorem Ri(HT:eE P T)(HF:∀t i,T.get t=some i->i.flat=true->oG P i.size i.desc){ki:gC}(hki:T.get kt=some ki)(hd:ki.desc=.struct fs)(hk:aF ρ k k')(w:World)
 {es':List MapEntry} (he:lQ ρ es es') {r:Option (Nat×Value)} (e:qB T kt k es 0=some r):
 ∃r':Option (Nat×Value),(Instr.findKey kt k' es').run P w=.ok r' w/\(r=none->r'=none)/\(∀n v,r=some (n,v)->∃v',r'=some (n,v')/\aF ρ v v'):=by
 simp[Instr.findKey,ga w HT hki,hd];cases he with
 |nil=>cases e;exact⟨none,rfl,λ_=>rfl,λ_ _ h=>by cases h⟩
 |cons h1 h2 t=>exact Rh HT HF hk w _ _ (.cons h1 h2 t) 0 r e
variable{t:TypeId}
theorem Yx{k:IntKind}(h:P.underlying t=some (.int k))(em:Bool)(n:Nat)(v:Value)(w:World):(Instr.checkKey em (n+1) t v).run P w=.ok () w:=by simp[Instr.checkKey,underlying,h]
variable{cs:Array Value}
theorem Qp{em:Bool}{n:Nat}(w:World):∀(fs:List Field)(m:Nat),
 (∀(i:Nat)(f:Field),fs[i]? =some f->f.name≠ "_"/\f.offset=m+i/\(∃k,P.underlying f.type=some (.int k))/\∃inf,P.info? f.type=some inf/\inf.size=1)->m+fs.length=cs.toList.length->
 (forIn fs PUnit.unit (λf (_:PUnit)=>if f.name≠ "_" then(do let x<-part f.type cs f.offset;Instr.checkKey em (n+1) f.type x;pure (ForInStep.yield PUnit.unit):Sem (ForInStep PUnit)) else pure (ForInStep.yield PUnit.unit))).run P w=.ok PUnit.unit w
 |[],m,_,_=>by simp
 |f::fs,m,hf,hl=>by obtain⟨h1,h2,⟨k,h3⟩,_⟩:=hf 0 f rfl;simp only[cQ] at hl;rw[List.forIn_cons];simp only[(show f.offset=m from by omega),ne_eq,h1,not_false_eq_true,gj,dO,BU h3 (dD (show m<cs.toList.length from by omega)),Yx h3];exact Qp w fs (m+1) (λi g hg=>by obtain⟨a1,a2,a3,a4⟩:=hf (i+1) g (by simpa using hg);exact⟨a1,by omega,a3,a4⟩) (by omega)
theorem Qq{m:Nat}(hu:P.underlying t=some (.struct fs))(hF:oG P m (.struct fs))(hc:cs.toList.length=m)(em:Bool)(n:Nat)(w:World):
 (Instr.checkKey em (n+2) t (.agg cs)).run P w=.ok () w:=by
 obtain⟨h1,h2⟩:=hF;unfold Instr.checkKey;simp only[dO,underlying,run_program,hu,gA,fQ];rw[<-Array.forIn_toList];have:=Qp (em:=em) (n:=n) w fs.toList 0 (λi f hf=>by obtain⟨a1,a2,a3,a4⟩:=h2 i f (by grind);exact⟨a1,by omega,a3,a4⟩) (by rw[hc];simpa using h1);simp_all
def sW:List Value->Option (List (Value×Value))
 |[]=>some []
 | .func (.func 0) ⟨[k]⟩ ⟨[v]⟩::r=>ob (sW r) λes=>some ((k,v)::es)
 |_::_=>none
theorem Xq:∀{cs:List Value}{es:List (Value×Value)}{es':List MapEntry},sW cs=some es->aP ρ.lit cs (es'.map λe=>.func (.func 0) #[e.key] #[e.val])->lQ ρ es es'
 |[],es,es',e,r=>by
  cases e;cases es' with
  |nil=>exact .nil
  |cons _ _=>cases r
 |c::cs,es,es',e,r=>by
  cases es' with
  |nil=>cases r
  |cons en es'=>
   unfold sW at e;split at e
   ·grind
   ·rename_i k v r' h;cases h;obtain⟨es0,h1,e⟩:=af e;cases e;cases r with
    |cons a b=>
     cases a with
     |fn a1 a2=>
      cases a1 with
      |cons x1 x2=>
       cases a2 with
       |cons y1 y2=>exact .cons x1.to y1.to (Xq h1 b)
   grind
def DS(h:Heap):Value->Option (List (Value×Value))
 | .map (some o)=>ob (h.get o) λob'=>match ob' with
  | .map es=>some es
  |_=>none
 | .func (.method _) cs _=>sW cs.toList
 |_=>none
variable{h:Heap} {w:World} {x x':Value}
theorem XN(H:bh ρ h w)(hx:aF ρ x x')(e:DS h x=some es):
 ∃b es' clock,x'=.map (some b)/\w.heap[b]? =some (.map es' clock)/\lQ ρ es es'.toList:=by
 unfold DS at e;split at e
 ·rename_i o;obtain⟨obj,ho,e⟩:=af e;split at e
  ·cases e;cases hx with
   |map hL=>obtain⟨M,m1,es',clock,m2,m3⟩:=H.obj o _ ho;simp_all
  grind
 ·cases hx with
  |func a _ _=>exact a.elim
  |gy hl=>
   cases hl with
   |gy h1 hm=>obtain⟨es',c,q1,q2⟩:=aaW rfl λi=>H.lit _ _ _ (hm i);unfold KJ at q2;simp at q2;rw[q2] at h1;exact⟨_,es',c,rfl,q1,Xq e h1⟩
 grind
def xL(T:TT)(h:Heap)(t:TypeId)(x k:Value)(ok:Bool):Option Value:=
 ob (T.get t) λi=>match i.desc with
  | .map kt et=>ob (T.get kt) λki=>ob (T.get et) λei=>ob ei.zero λz=>match ki.desc,k with
   | .struct _,.agg cs=>cond (ki.flat&&Nat.beq cs.size ki.size&&jO cs.toList) (ob (DS h x) λes=>ob (qB T kt k es 0) λr=>match r with
    |none=>some (cond ok (.tuple ⟨[z,.bool false]⟩) z)
    |some (_,v)=>some (cond ok (.tuple ⟨[v,.bool true]⟩) v)) none
   |_,_=>none
  |_=>none
variable{v:Value}
theorem aa0(HT:eE P T)(HF:∀t i,T.get t=some i->i.flat=true->oG P i.size i.desc)(H:bh ρ h w)(hx:aF ρ x x')(hk:aF ρ k k'){ok:Bool}(e:xL T h t x k ok=some v):
 ∃v',(Instr.lookup t x' k' ok).run P w=.ok v' w/\aF ρ v v':=by
 replace e:=af e;obtain⟨i,hi,e⟩:=e;split at e
 ·rename_i kt et hd;replace e:=af e;obtain⟨ki,hki,e⟩:=e;replace e:=af e;obtain⟨ei,hei,e⟩:=e;replace e:=af e;obtain⟨z,hz,e⟩:=e;split at e
  ·rename_i fs cs hkd;have hk0:=hk;cases hk with
   |agg rk=>
    rename_i cs';cases hc:(ki.flat&&Nat.beq cs.size ki.size&&jO cs.toList) with
    |false=>rw[hc] at e;cases e
    |true=>
     rw[hc] at e;simp only[bg] at hc;obtain⟨⟨c1,c2⟩,c3⟩:=hc;obtain⟨es,hes,e⟩:=af e;obtain⟨mb,es',clock,rfl,m2,m3⟩:=XN H hx hes;obtain⟨r,hr,e⟩:=af e;have hg:(getObj mb).run P w=.ok (.map es' clock) w:=by simp only[getObj,Sem.run,m2]
     have hF:=HF kt ki hki c1;rw[hkd] at hF;have hu:=HT.under kt ki hki;rw[hkd] at hu;have hck:∀em,(Instr.checkKey em 10000 kt (.agg cs')).run P w=.ok () w:=λem=>
      Qq hu hF (by rw[<-rk.length];exact(bJ c2)) em 9998 w
     obtain⟨r',f1,f2,f3⟩:=Ri HT HF hki hkd hk0 w m3 hr;simp[Instr.lookup,ga w HT hi,hd,hg,hck,f1];cases r with
     |none=>
      obtain rfl:=f2 rfl;cases e;refine⟨if ok then .tuple #[z,.bool false] else z,by simp[uA w HT hei hz],?_⟩
      ·have hzr:=D6 (xi HT hei hz) (ρ:=ρ);cases ok with
       |true=>exact .tuple (.cons hzr (.cons (.bool _) .nil))
       |false=>exact hzr
     |some p=>
      obtain⟨n,v0⟩:=p;obtain⟨v',rfl,hv⟩:=f3 n v0 rfl;cases e;refine⟨if ok then .tuple #[v',.bool true] else v',by simp,?_⟩
      ·cases ok with
       |true=>exact .tuple (.cons hv (.cons (.bool _) .nil))
       |false=>exact hv
  ·cases e
 ·cases e
theorem lQ.snoc{en:MapEntry}(hk:aF ρ k en.key)(hv:aF ρ v en.val):∀{xs:List (Value×Value)}{es:List MapEntry},lQ ρ xs es->lQ ρ (xs++[(k,v)]) (es++[en])
 |_,_,.nil=>.cons hk hv .nil
 |_,_,.cons a b t=>.cons a b (t.snoc hk hv)
def PJ(T:TT)(h:Heap)(t:TypeId)(x k v:Value):Option Heap:=
 ob (T.get t) λi=>match i.desc with
  | .map kt _=>ob (T.get kt) λki=>match ki.desc,x,k with
   | .struct _,.map (some o),.agg cs=>cond (ki.flat&&Nat.beq cs.size ki.size&&jO cs.toList) (ob (h.get o) λob'=>match ob' with
    | .map es=>ob (qB T kt k es 0) λr=>match r with
     |none=>some (h.set o (.map (es++[(k,v)])))
     |some _=>none
    |_=>none) none
   |_,_,_=>none
  |_=>none
theorem aip(HT:eE P T)(HF:∀t i,T.get t=some i->i.flat=true->oG P i.size i.desc){h':Heap}(H:bh ρ h w)(nx:Nat){v':Value}(hx:aF ρ x x')(hk:aF ρ k k')(hv:aF ρ v v')(e:PJ T h t x k v=some h'):
 IM ρ h nx w h' nx ((Instr.mapUpdate t x' k' v').run P w):=by
 replace e:=af e;obtain⟨i,hi,e⟩:=e;split at e
 ·rename_i kt et hd;replace e:=af e;obtain⟨ki,hki,e⟩:=e;split at e
  ·rename_i fs o cs hkd;cases hx with
   |map hL=>
    have hk0:=hk;cases hk with
    |agg rk=>
     rename_i cs';cases hc:(ki.flat&&Nat.beq cs.size ki.size&&jO cs.toList) with
     |false=>rw[hc] at e;cases e
     |true=>
      rw[hc] at e;simp only[bg] at hc;obtain⟨⟨c1,c2⟩,c3⟩:=hc;obtain⟨obj,ho,e⟩:=af e;split at e
      ·rename_i es;obtain⟨r,hr,e⟩:=af e;cases r with
       |some p=>cases e
       |none=>
        cases e;obtain⟨M,m1,es',clock,m2,m3⟩:=H.obj o _ ho;obtain rfl:=bu (m1.symm.trans hL);have hg:(getObj M.block).run P w=.ok (.map es' clock) w:=by simp only[getObj,Sem.run,m2]
        have hF:=HF kt ki hki c1;rw[hkd] at hF;have hu:=HT.under kt ki hki;rw[hkd] at hu;have hck:∀em,(Instr.checkKey em 10000 kt (.agg cs')).run P w=.ok () w:=λem=>
         Qq hu hF (by rw[<-rk.length];exact(bJ c2)) em 9998 w
        obtain⟨r',f1,f2,f3⟩:=Ri HT HF hki hkd hk0 w m3 hr;obtain rfl:=f2 rfl
        let o':Obj:=.map (es'.push {key:=.agg cs',val:=v',born:=clock}) (clock+1)
        have hs:(setObj M.block o').run P w=.ok () {w with heap:=w.heap.setIfInBounds M.block o'}:=by simp only[setObj,Sem.run,m2]
        have g1:({w with heap:=w.heap.setIfInBounds M.block o'}:World).heap[M.block]? =some o':=by rw[Array.getElem?_setIfInBounds_self_of_lt (lh.lt (ob:=.map es) ⟨es',clock,m2,m3⟩)]
        have g2:∀b,b≠M.block->({w with heap:=w.heap.setIfInBounds M.block o'}:World).heap[b]? =w.heap[b]? :=λb hb=>by rw[Array.getElem?_setIfInBounds_ne (Ne.symm hb)]
        refine⟨ρ,{w with heap:=w.heap.setIfInBounds M.block o'},?_,?_,bP.put ho m1 rfl rfl rfl (by simp) g2⟩
        ·unfold Instr.mapUpdate;simp[ga w HT hi,hd,hg,hck,f1];exact hs
        ·refine H.put ho m1 g2 ⟨_,_,g1,?_⟩;rw[Array.toList_push];exact m3.snoc hk0 hv
      ·cases e
  ·cases e
 ·cases e
end
section
abbrev FT:=Tr Func
def Po(P:Program)(F:FT):Prop:=∀f fn,F.get f=some fn->P.funcs[f]? =some fn/\(fn.name== "runtime.NumGoroutine")=false/\fn.body.isSome=true
structure cJ where
 T:TT
 F:FT
structure ea(P:Program)(X:cJ):Prop where
 T:eE P X.T
 flat:∀t i,X.T.get t=some i->i.flat=true->oG P i.size i.desc
 F:Po P X.F
inductive kG where
 |val (v:Value) (h:Heap) (nx:Nat)
 |skip (h:Heap) (nx:Nat)
 |enter (f:FuncId) (args:List Value)
 |round (l:Nat) (args:List Value)
 |tP (d:Deferred)
 |uy
 |uq (v:Value)
def qK(ev:Operand->Option Value):List Operand->Option (List Value)
 |[]=>some []
 |x::xs=>ob (ev x) λv=>ob (qK ev xs) λvs=>some (v::vs)
def ym(ev:Operand->Option Value):Option Operand->Option (Option Value)
 |none=>some none
 |some x=>ob (ev x) λv=>some (some v)
def yn(ev:Operand->Option Value):List (Nat×Operand)->Option (List (Nat×Value))
 |[]=>some []
 |(i,x)::xs=>ob (ev x) λv=>ob (yn ev xs) λvs=>some ((i,v)::vs)
section
variable{ρ:Ren} {ev:Operand->Option Value} {rv:Operand->Value}
theorem Bk(hev:∀x v,ev x=some v->aF ρ v (rv x)):∀(xs:List Operand)(vs:List Value),qK ev xs=some vs->bk ρ vs (xs.map rv)
 |[],vs,h=>by cases h;exact .nil
 |x::xs,vs,h=>by obtain⟨v,h1,h⟩:=af h;obtain⟨us,h2,h⟩:=af h;cases h;exact .cons (hev _ _ h1) (Bk hev xs us h2)
theorem JP(hev:∀x v,ev x=some v->aF ρ v (rv x)){x:Option Operand}{v:Option Value}(h:ym ev x=some v):tj ρ v (x.map rv):=by
 cases x with
 |none=>cases h;trivial
 |some x=>obtain⟨u,h1,h⟩:=af h;cases h;exact hev _ _ h1
theorem JQ(hev:∀x v,ev x=some v->aF ρ v (rv x)):∀(xs:List (Nat×Operand))(vs:List (Nat×Value)),yn ev xs=some vs->vg ρ vs (xs.map λ(i,x)=>(i,rv x))
 |[],vs,h=>by cases h;exact .nil
 |(i,x)::xs,vs,h=>by obtain⟨v,h1,h⟩:=af h;obtain⟨us,h2,h⟩:=af h;cases h;exact .cons (hev _ _ h1) (JQ hev xs us h2)
end
def qC(X:cJ)(fn:Fn)(args captured:List Value):Option kG:=
 match fn with
 | .func f=>ob (X.F.get f) λ_=>some (.enter f (args++captured))
 | .yield l=>some (.round l args)
 |_=>none
def tB(X:cJ)(h:Heap)(nx:Nat)(b:Builtin)(ts:Array TypeId)(args:List Value):Option kG:=
 match b,args with
 | .append,[s,x]=>ob (nN X.T h nx ts.toList s x) λ(v,h',nx')=>some (.val v h' nx')
 | .len,[x]=>ob (ts.toList[0]?) λt=>ob (pA X.T t x) λv=>some (.val v h nx)
 | .cap,[x]=>ob (ts.toList[0]?) λt=>ob (PG X.T t x) λv=>some (.val v h nx)
 | .copy,[x,y]=>ob (ts.toList[0]?) λt=>ob (xI X.T h t x y) λ(v,h')=>some (.val v h' nx)
 | .clear,[x]=>ob (ts.toList[0]?) λt=>ob (PH X.T h t x) λh'=>some (.val (.tuple #[]) h' nx)
 | .min,xs=>ob (vy false xs) λv=>some (.val v h nx)
 | .max,xs=>ob (vy true xs) λv=>some (.val v h nx)
 | .recover,[]=>some .uy
 |_,_=>none
def rO(X:cJ)(h:Heap)(nx:Nat)(ev:Operand->Option Value)(c:Call):Option kG:=
 ob (qK ev c.args.toList) λargs=>match c.callee with
  | .builtin b=>tB X h nx b c.argTypes args
  | .value f=>ob (ev f) λfv=>match fv with
   | .func fn first captured=>qC X fn (first.toList++args) captured.toList
   |_=>none
  | .invoke r name=>ob (ev r) λrv=>match rv with
   | .iface t v=>ob (X.T.get t) λi=>ob (i.direct.lookup name) λf=>ob (X.F.get f) λ_=>some (.enter f (v::args))
   |_=>none
def Ja(ev:Operand->Option Value)(c:Call):Option kG:=
 ob (qK ev c.args.toList) λargs=>match c.callee with
  | .value f=>ob (ev f) λfv=>match fv with
   | .func fn first captured=>cond (yH fn) none (some (.tP {target:=.fn fn captured,args:=⟨first.toList++args⟩}))
   |_=>none
  |_=>none
def DN(h:Heap)(x:Value):Nat:=
 match x with
 | .slice (some ⟨o,off,none⟩) n cap=>cond (Nat.ble cap bt) n (match h.get o with
  |some (.cells c _ _)=>(c.length -off)/(cap -bt)
  |_=>n)
 |_=>0
theorem XL{ρ:Ren}{h:Heap}{w:World}(H:bh ρ h w){x x':Value}(hx:aF ρ x x'):∀o off n E c L,x=.slice (some ⟨o,off,none⟩) n (bt+E)->ρ o=some L->0<E->L.base+off+c*E=L.stop->DN h x<=c:=by
 intro o off n E c L e hL hE hc;subst e;have hn:n<=c:=by
  generalize hcc:bt+E=cc at hx;cases hx with
  |gG _ hc' _=>omega
  |@gz _ _ _ E' c' L' hL' _ hc' hn'=>
   cases hL.symm.trans hL';obtain rfl:E=E':=by omega
   have:c*E=c'*E:=by omega
   have:=Nat.eq_of_mul_eq_mul_right hE this;omega
  |jb=>simp
 unfold DN;have:Nat.ble (bt+E) bt=false:=by
  cases hh:Nat.ble (bt+E) bt with
  |false=>rfl
  |true=>have:=cI hh;omega
 simp only[this];split
 ·rename_i cl _ _ ho;obtain⟨M,m1,cs,fz,m2,m3,m4⟩:=H.obj o _ ho;cases m1.symm.trans hL;have k1:=m4.1;have k2:=m4.2.1;rw[Dj];apply Nat.div_le_of_le_mul
  grind
 grind
def dr(X:cJ)(h:Heap)(nx:Nat)(ev:Operand->Option Value)(o:Oper):Option kG:=
 match o.op with
 | .move x=>ob (ev x) λv=>some (.val v h nx)
 | .assign x=>ob (ev x) λv=>some (.val v h nx)
 | .pick c a b=>ob (ev c) λv=>match v with
  | .bool true=>ob (ev a) λv=>some (.val v h nx)
  | .bool false=>ob (ev b) λv=>some (.val v h nx)
  |_=>none
 | .alloc t=>ob (I8 X.T h nx t) λ(v,h')=>some (.val v h' (nx+1))
 | .box t x=>ob (ev x) λu=>some (.val (AD h nx t u).1 (AD h nx t u).2 (nx+1))
 | .build t ps=>ob (yn ev ps.toList) λus=>ob (AE X.T t us) λv=>some (.val v h nx)
 | .buildSlice t n ps=>ob (yn ev ps.toList) λus=>ob (I9 X.T h nx t n us) λ(v,h')=>some (.val v h' (nx+1))
 | .load t a=>ob (ev a) λx=>ob (oM X.T h t x) λv=>some (.val v h nx)
 | .store t a y=>ob (ev a) λx=>ob (ev y) λu=>ob (vz X.T h t x u) λh'=>some (.skip h' nx)
 | .nilCheck x=>ob (ev x) λv=>match v with
  | .pointer (some _)=>some (.val v h nx)
  | .func (.func _) _ _=>some (.val v h nx)
  | .func (.yield _) _ _=>some (.val v h nx)
  | .iface _ _=>some (.val v h nx)
  | .func (.via _ _ _ false) _ _=>some (.val v h nx)
  |_=>none
 | .binOp op t x y _=>ob (ev x) λa=>ob (ev y) λb=>ob (lj X.T op t (qO x||qO y) a b) λv=>some (.val v h nx)
 | .unOp op _ x=>ob (ev x) λa=>ob (DU op a) λv=>some (.val v h nx)
 | .convert s d x=>ob (ev x) λa=>match a with
  | .int _ _=>ob (AF X.T s d a) λv=>some (.val v h nx)
  | .slice (some _) _ _=>cond (Nat.beq s d) (ob (AI X.T h s d a) λv=>some (.val v h nx)) (ob (rS X.T h s d a) λv=>some (.val v h nx))
  | .slice none _ _=>ob (rS X.T h s d a) λv=>some (.val v h nx)
  | .func (.via _ _ _ true) _ _=>ob (rS X.T h s d a) λv=>some (.val v h nx)
  |_=>none
 | .makeInterface t x=>ob (ev x) λa=>ob (DQ X.T t a) λv=>some (.val v h nx)
 | .makeFunc fn first captured=>ob (qK ev first.toList) λa=>ob (qK ev captured.toList) λb=>match fn with
  | .func f=>some (.val (.func (.func f) ⟨a⟩ ⟨b⟩) h nx)
  |_=>none
 | .makeMap _ none=>some (.val (DR h nx).1 (DR h nx).2 (nx+1))
 | .makeSlice t l c=>ob (ev l) λa=>ob (ev c) λb=>ob (vx X.T h nx t a b) λ(v,h')=>some (.val v h' (nx+1))
 | .slice t x lo hi mx=>ob (ev x) λa=>ob (ym ev lo) λl=>ob (ym ev hi) λu=>ob (ym ev mx) λm=>ob (qE X.T t a (DN h a) l u m) λv=>some (.val v h nx)
 | .fieldAddr s x f=>ob (ev x) λa=>ob (xJ X.T s a f) λv=>some (.val v h nx)
 | .field t x f=>ob (ev x) λa=>match a with
  | .agg cs=>ob (X.T.get t) λi=>match i.desc with
   | .struct fs=>ob (fs[f]?) λfl=>ob (rQ X.T fl.type cs.toList fl.offset) λv=>some (.val v h nx)
   |_=>none
  |_=>none
 | .indexAddr t x ix=>ob (ev x) λa=>ob (ev ix) λb=>ob (rP X.T t a b) λv=>some (.val v h nx)
 | .index t x ix=>ob (ev x) λa=>ob (ev ix) λb=>ob (vr X.T t a b) λv=>some (.val v h nx)
 | .lookup t x ix ok=>ob (ev x) λa=>ob (ev ix) λb=>ob (xL X.T h t a b ok) λv=>some (.val v h nx)
 | .mapUpdate t m k x=>ob (ev m) λa=>ob (ev k) λb=>ob (ev x) λc=>ob (PJ X.T h t a b c) λh'=>some (.skip h' nx)
 | .typeAssert x _ a ok=>ob (ev x) λu=>ob (vp X.T u a ok) λv=>some (.val v h nx)
 | .extract t i=>ob (ev t) λa=>ob (DL a i) λv=>some (.val v h nx)
 | .call c=>rO X h nx ev c
 | .defer c=>Ja ev c
 | .panic x=>ob (ev x) λv=>match v with
  | .iface t u=>some (.uq (.iface t u))
  |_=>none
 |_=>none
def vf(P:Program)(ρ:Ren)(h:Heap)(nx:Nat)(w:World)(r:Result Next):kG->Prop
 | .val v h' nx'=>∃ρ' v' w',r=.ok (.value v') w'/\aF ρ' v v'/\bh ρ' h' w'/\bP ρ h nx w ρ' h' nx' w'
 | .skip h' nx'=>∃ρ' w',r=.ok .skip w'/\bh ρ' h' w'/\bP ρ h nx w ρ' h' nx' w'
 | .enter f args=>∃args':Array Value,r=.ok (.enter f args') w/\bk ρ args args'.toList
 | .round l args=>∃args':Array Value,r=(Instr.yield (match ρ l with|some L=>L.block|none=>0) args').run P w/\bk ρ args args'.toList/\ρ l≠none
 | .tP d=>∃d',r=.ok (.defer d') w/\xy ρ d d'
 | .uy=>r=.ok .recover w
 | .uq v=>∃v',r=.halt (.panic v') w/\aF ρ v v'
def kG.top(nx:Nat):kG->Nat
 | .val _ _ n=>n
 | .skip _ n=>n
 |_=>nx
end
section
section
variable{P:Program} {X:cJ} {ρ:Ren} {h:Heap} {nx:Nat} {w:World}
variable{h':Heap} {nx':Nat} {s:Sem Value} {v:Value}
theorem rZ(g:Good ρ h nx w v h' nx' (s.run P w)):vf P ρ h nx w ((do pure (Next.value (<-s)):Sem Next).run P w) (.val v h' nx'):=by obtain⟨ρ',v',w',h1,h2,h3,h4⟩:=g;exact⟨ρ',v',w',by simp[h1],h2,h3,h4⟩
theorem iK(H:bh ρ h w)(g:∃v',s.run P w=.ok v' w/\aF ρ v v'):vf P ρ h nx w ((do pure (Next.value (<-s)):Sem Next).run P w) (.val v h nx):=by obtain⟨v',h1,h2⟩:=g;exact⟨ρ,v',w,by simp[h1],h2,H,bP.refl _ _ _ _⟩
theorem Rw{s:Sem Unit}(g:IM ρ h nx w h' nx' (s.run P w)):vf P ρ h nx w ((do s;pure Next.skip:Sem Next).run P w) (.skip h' nx'):=by obtain⟨ρ',w',h1,h3,h4⟩:=g;exact⟨ρ',w',by simp[h1],h3,h4⟩
theorem Qd(OK:ea P X){f:FuncId}{fn:Func}(hf:X.F.get f=some fn)(args:Array Value):(callFunc f args).run P w=.ok (.enter f args) w:=by
 obtain⟨h1,h2,h3⟩:=OK.F f fn hf;unfold callFunc;have h4:fn.body.isNone=false:=by cases hb:fn.body with
  |none=>grind
  |some b=>rfl
 simp only[dO,run_program,gA,h1,h2,h4,mA,gN,fQ]
variable{args:List Value} {args':Array Value} {out:kG}
theorem Sc(OK:ea P X){fn:Fn}{captured:List Value}(e:qC X fn args captured=some out){fn':Fn}{captured':Array Value}(hf:xC ρ fn fn')(ra:bk ρ args args'.toList)(rc:bk ρ captured captured'.toList):
 vf P ρ h nx w ((invoke (.fn fn' captured') args').run P w) out:=by
 unfold qC at e;split at e
 ·rename_i f;obtain⟨g,hg,e⟩:=af e;cases e;subst hf;refine⟨args'++captured',?_,by rw[sY];exact ra.append rc⟩
  ·unfold invoke;exact Qd OK hg _
 ·rename_i l;cases e;obtain⟨L,h1,h2⟩:=hf;subst h2;refine⟨args',?_,ra,by rw[h1];simp⟩;rw[h1];rfl
 grind
variable{rv:Operand->Value}
theorem JR(xs:Array Operand):(xs.map rv).toList=xs.toList.map rv:=by simp
variable{α:Type} {x:α} {xs:Array α}
theorem Jk(h:xs.toList=[x]):xs[0]? =some x:=by rw[<-kB,h];rfl
theorem PX{y:α}(h:xs.toList=[x,y]):xs[0]? =some x/\xs[1]? =some y:=by constructor<;>(rw[<-kB,h];rfl)
theorem Ye(OK:ea P X)(H:bh ρ h w){b:Builtin}{ts:Array TypeId}{rt:TypeId}{cs:Array Bool}(ra:bk ρ args args'.toList)(e:tB X h nx b ts args=some out)
 (fresh:∀o,nx<=o->o<out.top nx->ρ o=none):vf P ρ h nx w ((builtin b ts rt cs args').run P w) out:=by
 unfold tB at e;generalize hl:args'.toList=l at ra;split at e
 ·rename_i s x;obtain⟨⟨v,h',nx'⟩,he,e⟩:=af e;cases e;cases ra with
  |cons r1 t=>
   cases t with
   |cons r2 t=>cases t;obtain⟨a1,a2⟩:=PX hl;exact rZ (XZ OK.T H (λq=>fresh nx (aB _) q) a1 a2 r1 r2 he)
 ·rename_i x;obtain⟨t0,ht,e⟩:=af e;obtain⟨v,he,e⟩:=af e;cases e;cases ra with
  |cons r1 t=>cases t;exact iK H (aaR OK.T (by grind) (Jk hl) r1 he w)
 ·rename_i x;obtain⟨t0,ht,e⟩:=af e;obtain⟨v,he,e⟩:=af e;cases e;cases ra with
  |cons r1 t=>cases t;exact iK H (Yn OK.T (by grind) (Jk hl) r1 he w)
 ·rename_i x y;obtain⟨t0,ht,e⟩:=af e;obtain⟨⟨v,h'⟩,he,e⟩:=af e;cases e;cases ra with
  |cons r1 t=>
   cases t with
   |cons r2 t=>cases t;obtain⟨a1,a2⟩:=PX hl;exact rZ (YN OK.T H nx (by grind) a1 a2 r1 r2 he)
 ·rename_i x;obtain⟨t0,ht,e⟩:=af e;obtain⟨h',he,e⟩:=af e;cases e;cases ra with
  |cons r1 t=>cases t;exact rZ (Yz OK.T H nx (by grind) (Jk hl) r1 he)
 ·obtain⟨v,he,e⟩:=af e;cases e;rw[<-hl] at ra;have:=abm (P:=P) w ra he ts rt;exact iK H ⟨v,this.1,this.2⟩
 ·obtain⟨v,he,e⟩:=af e;cases e;rw[<-hl] at ra;have:=abc (P:=P) w ra he ts rt;exact iK H ⟨v,this.1,this.2⟩
 ·cases e;rfl
 grind
variable{ev:Operand->Option Value}
theorem Yl(OK:ea P X)(H:bh ρ h w)(hev:∀x v,ev x=some v->aF ρ v (rv x)){c:Call}{ty:TypeId}(e:rO X h nx ev c=some out)(fresh:∀o,nx<=o->o<out.top nx->ρ o=none):
 vf P ρ h nx w ((do let d<-resolve rv c ty;invoke d.target d.args:Sem Next).run P w) out:=by
 obtain⟨args,ha,e⟩:=af e;have ra:=Bk hev _ _ ha;rw[<-JR] at ra;unfold resolve;split at e
 ·rename_i b hb;simp[hb];exact Ye OK H ra e fresh
 ·rename_i f hb;obtain⟨fv,hf,e⟩:=af e;have rf:=hev _ _ hf;split at e
  ·rename_i fn first captured
   generalize hg:rv f=g at rf;cases rf with
   |func r1 r2 r3=>simp only[hb,hg,Deferred.ofValue,dO,fQ];refine Sc OK e r1 ?_ r3;rw[sY];exact r2.append ra
   |lit hl=>cases e
   |gy hl=>cases e
  ·cases e
 ·rename_i r name hb;obtain⟨u,hu,e⟩:=af e;have ru:=hev _ _ hu;split at e
  ·rename_i t v;obtain⟨i,hi,e⟩:=af e;obtain⟨f,hf,e⟩:=af e;obtain⟨fn,hfn,e⟩:=af e;cases e;generalize hg:rv r=g at ru;cases ru with
   |iface rr=>
    rename_i v';obtain⟨inf,m,d1,d2,d3,d4⟩:=OK.T.direct t i hi name f hf;refine⟨#[v']++c.args.map rv,?_,?_⟩
    ·have ht:(typeInfo t).run P w=.ok inf w:=by simp[typeInfo,d1]
     have hu':=ga w OK.T hi;have hm:(method (P.types.size+Made.depth) t v' name).run P w=.ok (f,v') w:=by
      have hd:P.types.size+Made.depth=(P.types.size+Made.depth -1)+1:=by
       have:Made.depth≠0:=by decide
       omega
      rw[hd];unfold method;simp only[dO,ht,gA,d2,d3,follow,fQ];rcases d4 with⟨d4,d5⟩|⟨d4,el,d5⟩
      ·simp only[d4,receiverAt,dO,hu'];cases hdd:i.desc<;>first
        |(exfalso;exact d5 ⟨_,hdd⟩)
        |simp[Place.get]
      ·simp only[d4,receiverAt,dO,hu',d5];rfl
     simp_all;have e0:(#[Value.iface t v']++c.args.map rv)[0]? =some (Value.iface t v'):=by rw[<-kB,sY];rfl
     have e1:(#[Value.iface t v']++c.args.map rv).extract 1 (#[Value.iface t v']++c.args.map rv).size=c.args.map rv:=by simp
     have e2:invoke (.fn (.method name) #[]) (#[Value.iface t v']++c.args.map rv)=callMethod (.iface t v') name (c.args.map rv):=by
      show(match(#[Value.iface t v']++c.args.map rv)[0]? with
       |some recv=>callMethod recv name ((#[Value.iface t v']++c.args.map rv).extract 1 (#[Value.iface t v']++c.args.map rv).size)
       |_=>stuck "call: a method without a receiver")=_
      rw[e0,e1]
     rw[e2];unfold callMethod;simp_all;exact Qd OK hfn _
    ·rw[sY];exact .cons rr ra
  ·cases e
theorem Zt(OK:ea P X){t:TypeId}{cs cs':Array Value}(r:bk ρ cs.toList cs'.toList){i:gC}(hi:X.T.get t=some i){fs:Array Field}(hd:i.desc=.struct fs){f:Nat}{fl:Field}(hf:fs[f]? =some fl)(e:rQ X.T fl.type cs.toList fl.offset=some v):
 ∃v',(Instr.field t (.agg cs') f).run P w=.ok v' w/\aF ρ v v':=by
 obtain⟨v',h1,h2⟩:=Ui OK.T r e w;refine⟨v',?_,h2⟩;simp[Instr.field,ga w OK.T hi,hd,hf];exact h1
theorem Q9(ps:Array (Nat×Operand)):(ps.map λ(i,x)=>(i,rv x)).toList=ps.toList.map λ(i,x)=>(i,rv x):=by simp
theorem AL(OK:ea P X)(H:bh ρ h w)(hev:∀x v,ev x=some v->aF ρ v (rv x)){o:Oper}(e:dr X h nx ev o=some out)(fresh:∀o,nx<=o->o<out.top nx->ρ o=none):
 vf P ρ h nx w ((execOp rv o).run P w) out:=by
 unfold dr at e;unfold execOp;split at e
 ·rename_i x ho;replace e:=af e;obtain⟨v,h1,e⟩:=e;obtain rfl:=bu e;simp only[ho];exact⟨ρ,rv x,w,rfl,hev _ _ h1,H,bP.refl _ _ _ _⟩
 ·rename_i x ho;replace e:=af e;obtain⟨v,h1,e⟩:=e;obtain rfl:=bu e;simp only[ho];exact⟨ρ,rv x,w,rfl,hev _ _ h1,H,bP.refl _ _ _ _⟩
 ·rename_i c a b ho;replace e:=af e;obtain⟨v,h1,e⟩:=e;have hc:=hev _ _ h1;simp only[ho];split at e
  ·replace e:=af e;obtain⟨v,h2,e⟩:=e;obtain rfl:=bu e;generalize hg:rv c=g at hc;cases hc;exact⟨ρ,rv a,w,by simp[asBool],hev _ _ h2,H,bP.refl _ _ _ _⟩
  ·replace e:=af e;obtain⟨v,h2,e⟩:=e;obtain rfl:=bu e;generalize hg:rv c=g at hc;cases hc;exact⟨ρ,rv b,w,by simp[asBool],hev _ _ h2,H,bP.refl _ _ _ _⟩
  ·cases e
 ·rename_i t ho;replace e:=af e;obtain⟨⟨v,h'⟩,h1,e⟩:=e;obtain rfl:=bu e;simp only[ho];exact rZ (XQ OK.T H (fresh nx (aB _) (pj _)) h1 _)
 ·rename_i t x ho;replace e:=af e;obtain⟨u,h1,e⟩:=e;obtain rfl:=bu e;simp only[ho];exact rZ (Ya H (fresh nx (aB _) (pj _)) (hev _ _ h1))
 ·rename_i t ps ho;replace e:=af e;obtain⟨us,h1,e⟩:=e;replace e:=af e;obtain⟨v,h2,e⟩:=e;obtain rfl:=bu e;simp only[ho];have r:=JQ hev _ _ h1;rw[<-Q9] at r;exact iK H (Yd OK.T r h2 w)
 ·rename_i t n ps ho;replace e:=af e;obtain⟨us,h1,e⟩:=e;replace e:=af e;obtain⟨⟨v,h'⟩,h2,e⟩:=e;obtain rfl:=bu e;simp only[ho];have r:=JQ hev _ _ h1;rw[<-Q9] at r;exact rZ (Yb OK.T H (fresh nx (aB _) (pj _)) r h2)
 ·rename_i t a ho;replace e:=af e;obtain⟨x,h1,e⟩:=e;replace e:=af e;obtain⟨v,h2,e⟩:=e;obtain rfl:=bu e;simp only[ho];exact iK H (SE OK.T H (hev _ _ h1) h2)
 ·rename_i t a y ho;replace e:=af e;obtain⟨x,h1,e⟩:=e;replace e:=af e;obtain⟨u,h2,e⟩:=e;replace e:=af e;obtain⟨h',h3,e⟩:=e;obtain rfl:=bu e;simp only[ho];exact Rw (ah0 OK.T H nx (hev _ _ h1) (hev _ _ h2) h3)
 ·rename_i x ho;replace e:=af e;obtain⟨v,h1,e⟩:=e;have hx:=hev _ _ h1;simp only[ho];split at e
  ·obtain rfl:=bu e;generalize rv x=g at hx;have hx':=hx;cases hx;exact⟨ρ,_,w,rfl,hx',H,bP.refl _ _ _ _⟩
  ·obtain rfl:=bu e;generalize rv x=g at hx;have hx':=hx;cases hx with
   |func a b c=>have a':_=Fn.func _:=a;subst a';exact⟨ρ,_,w,rfl,hx',H,bP.refl _ _ _ _⟩
  ·obtain rfl:=bu e;generalize rv x=g at hx;have hx':=hx;cases hx with
   |func a b c=>obtain⟨L,_,a'⟩:=a;subst a';exact⟨ρ,_,w,rfl,hx',H,bP.refl _ _ _ _⟩
  ·obtain rfl:=bu e;generalize rv x=g at hx;have hx':=hx;cases hx;exact⟨ρ,_,w,rfl,hx',H,bP.refl _ _ _ _⟩
  ·obtain rfl:=bu e;generalize rv x=g at hx;have hx':=hx;cases hx with
   |func a b c=>exact a.elim
   |lit hl=>cases hl;exact⟨ρ,_,w,rfl,hx',H,bP.refl _ _ _ _⟩
  ·cases e
 ·rename_i op t x y yt ho;replace e:=af e;obtain⟨a,h1,e⟩:=e;replace e:=af e;obtain⟨b,h2,e⟩:=e;replace e:=af e;obtain⟨v,h3,e⟩:=e;obtain rfl:=bu e;simp only[ho];exact iK H (X5 OK.T OK.flat (hev _ _ h1) (hev _ _ h2) h3 w)
 ·rename_i op t x ho;replace e:=af e;obtain⟨a,h1,e⟩:=e;replace e:=af e;obtain⟨v,h2,e⟩:=e;obtain rfl:=bu e;simp only[ho];exact iK H (aio (hev _ _ h1) h2 w)
 ·rename_i s d x ho;replace e:=af e;obtain⟨a,h1,e⟩:=e;simp only[ho];split at e
  ·replace e:=af e;obtain⟨v,h2,e⟩:=e;obtain rfl:=bu e;exact iK H (YM OK.T (hev _ _ h1) h2 w)
  ·rename_i ad n c;cases hsd:Nat.beq s d with
   |true=>rw[hsd] at e;replace e:=af e;obtain⟨v,h2,e⟩:=e;obtain rfl:=bu e;exact rZ (aeQ OK.T H nx (hev _ _ h1) h2)
   |false=>rw[hsd] at e;replace e:=af e;obtain⟨v,h2,e⟩:=e;obtain rfl:=bu e;exact iK H (O4 OK.T H (hev _ _ h1) h2)
  ·replace e:=af e;obtain⟨v,h2,e⟩:=e;obtain rfl:=bu e;exact iK H (O4 OK.T H (hev _ _ h1) h2)
  ·replace e:=af e;obtain⟨v,h2,e⟩:=e;obtain rfl:=bu e;exact iK H (O4 OK.T H (hev _ _ h1) h2)
  ·cases e
 ·rename_i t x ho;replace e:=af e;obtain⟨a,h1,e⟩:=e;replace e:=af e;obtain⟨v,h2,e⟩:=e;obtain rfl:=bu e;simp only[ho];exact iK H (aa8 OK.T (hev _ _ h1) h2 w)
 ·rename_i fn first captured ho
  replace e:=af e;obtain⟨a,h1,e⟩:=e;replace e:=af e;obtain⟨b,h2,e⟩:=e;simp only[ho];split at e
  ·obtain rfl:=bu e;have r1:=Bk hev _ _ h1;have r2:=Bk hev _ _ h2;rw[<-JR] at r1 r2;exact iK H ⟨_,rfl,.func rfl r1 r2⟩
  ·cases e
 ·rename_i t ho;obtain rfl:=bu e;simp only[ho];exact rZ (aa9 H (fresh nx (aB _) (pj _)) t)
 ·rename_i t l c ho;replace e:=af e;obtain⟨a,h1,e⟩:=e;replace e:=af e;obtain⟨b,h2,e⟩:=e;replace e:=af e;obtain⟨⟨v,h'⟩,h3,e⟩:=e;obtain rfl:=bu e;simp only[ho];exact rZ (aba OK.T H (fresh nx (aB _) (pj _)) (hev _ _ h1) (hev _ _ h2) h3)
 ·rename_i t x lo hi mx ho;replace e:=af e;obtain⟨a,h1,e⟩:=e;replace e:=af e;obtain⟨l,h2,e⟩:=e;replace e:=af e;obtain⟨u,h3,e⟩:=e;replace e:=af e;obtain⟨m,h4,e⟩:=e;replace e:=af e;obtain⟨v,h5,e⟩:=e;obtain rfl:=bu e;simp only[ho];exact iK H (ahA OK.T (hev _ _ h1) (JP hev h2) (JP hev h3) (JP hev h4) (XL H (hev _ _ h1)) h5 w)
 ·rename_i s x f ho;replace e:=af e;obtain⟨a,h1,e⟩:=e;replace e:=af e;obtain⟨v,h2,e⟩:=e;obtain rfl:=bu e;simp only[ho];exact iK H (Zs OK.T (hev _ _ h1) h2 w)
 ·rename_i t x f ho;replace e:=af e;obtain⟨a,h1,e⟩:=e;have hx:=hev _ _ h1;simp only[ho];split at e
  ·replace e:=af e;obtain⟨i,hi,e⟩:=e;split at e
   ·rename_i hd;replace e:=af e;obtain⟨fl,hf,e⟩:=e;replace e:=af e;obtain⟨v,hv,e⟩:=e;obtain rfl:=bu e;generalize rv x=g at hx;cases hx with
    |agg r=>exact iK H (Zt OK r hi hd hf hv)
   ·cases e
  ·cases e
 ·rename_i t x ix ho;replace e:=af e;obtain⟨a,h1,e⟩:=e;replace e:=af e;obtain⟨b,h2,e⟩:=e;replace e:=af e;obtain⟨v,h3,e⟩:=e;obtain rfl:=bu e;simp only[ho];exact iK H (aab OK.T (hev _ _ h1) (hev _ _ h2) h3 w)
 ·rename_i t x ix ho;replace e:=af e;obtain⟨a,h1,e⟩:=e;replace e:=af e;obtain⟨b,h2,e⟩:=e;replace e:=af e;obtain⟨v,h3,e⟩:=e;obtain rfl:=bu e;simp only[ho];exact iK H (aaf OK.T (hev _ _ h1) (hev _ _ h2) h3 w)
 ·rename_i t x ix ok ho;replace e:=af e;obtain⟨a,h1,e⟩:=e;replace e:=af e;obtain⟨b,h2,e⟩:=e;replace e:=af e;obtain⟨v,h3,e⟩:=e;obtain rfl:=bu e;simp only[ho];exact iK H (aa0 OK.T OK.flat H (hev _ _ h1) (hev _ _ h2) h3)
 ·rename_i t m k x ho;replace e:=af e;obtain⟨a,h1,e⟩:=e;replace e:=af e;obtain⟨b,h2,e⟩:=e;replace e:=af e;obtain⟨c,h3,e⟩:=e;replace e:=af e;obtain⟨h',h4,e⟩:=e;obtain rfl:=bu e;simp only[ho];exact Rw (aip OK.T OK.flat H nx (hev _ _ h1) (hev _ _ h2) (hev _ _ h3) h4)
 ·rename_i x xt a ok ho;replace e:=af e;obtain⟨u,h1,e⟩:=e;replace e:=af e;obtain⟨v,h2,e⟩:=e;obtain rfl:=bu e;simp only[ho];exact iK H (X1 OK.T (hev _ _ h1) h2 w)
 ·rename_i t i ho;replace e:=af e;obtain⟨a,h1,e⟩:=e;replace e:=af e;obtain⟨v,h2,e⟩:=e;obtain rfl:=bu e;simp only[ho];exact iK H (Zr (hev _ _ h1) h2 w)
 ·rename_i c ho;simp only[ho];exact Yl OK H hev e fresh
 ·rename_i c ho;simp only[ho];unfold Ja at e;replace e:=af e;obtain⟨args,h1,e⟩:=e;split at e
  ·rename_i f hf;replace e:=af e;obtain⟨fv,h2,e⟩:=e;have rf:=hev _ _ h2;split at e
   ·rename_i fn0 _ _;cases hvia:yH fn0 with
    |true=>simp[hvia] at e
    |false=>
    simp only[hvia,aE] at e;obtain rfl:=bu e;have ra:=Bk hev _ _ h1;rw[<-JR] at ra;generalize hg:rv f=g at rf;cases rf with
    |lit hl=>cases hvia
    |gy hl=>cases hvia
    |@func _ fn' _ _ xs' ys' r1 r2 r3=>
     refine⟨{target:=.fn fn' ys',args:=xs'++c.args.map rv},?_,⟨fn',ys',rfl,r1,r3⟩,?_⟩
     ·unfold resolve;simp only[hf,hg,Deferred.ofValue,dO,fQ,gA]
     ·rw[sY];exact r2.append ra
   ·cases e
  ·cases e
 ·rename_i x ho;replace e:=af e;obtain⟨v,h1,e⟩:=e;have hx:=hev _ _ h1;simp only[ho];split at e
  ·obtain rfl:=bu e;generalize rv x=g at hx;cases hx with
   |iface r=>exact⟨_,by simp[Instr.panic],.iface r⟩
  ·cases e
 ·cases e
end
end
section
structure cC where
 fn:FuncId
 n:Nat
 tmps:Tr Value
 todo:List Item
 defers:List Deferred
 mode:FrameMode
 kind:CallKind
 roundOf:Option Nat
def Au(ρ:Ren):Item->Item->Prop
 | .inRangeFunc l,y=>∃L,ρ l=some L/\y=.inRangeFunc L.block
 | .endRangeFunc l,y=>∃L,ρ l=some L/\y=.endRangeFunc L.block
 | .call ..,_=>False
 | .extern ..,_=>False
 |x,y=>y=x
inductive ir(ρ:Ren):List Item->List Item->Prop where
 |nil:ir ρ [] []
 |cons {x y:Item} {xs ys:List Item} (h:Au ρ x y) (t:ir ρ xs ys):ir ρ (x::xs) (y::ys)
variable{ρ ρ':Ren}
theorem Au.mono(e:Ext ρ ρ'){x y:Item}(h:Au ρ x y):Au ρ' x y:=by
 cases x<;>first
  |exact h
  |(obtain⟨L,h1,h2⟩:=h;exact⟨L,e _ _ h1,h2⟩)
theorem ir.mono(e:Ext ρ ρ'):∀{xs ys:List Item},ir ρ xs ys->ir ρ' xs ys
 |_,_,.nil=>.nil
 |_,_,.cons h t=>.cons (h.mono e) (t.mono e)
theorem ir.append:∀{xs ys us vs:List Item},ir ρ xs ys->ir ρ us vs->ir ρ (xs++us) (ys++vs)
 |_,_,_,_,.nil,h=>h
 |_,_,_,_,.cons x t,h=>.cons x (t.append h)
theorem ir.exitTo{id:Nat}:∀{xs ys:List Item},ir ρ xs ys->(∀k,exitTo id xs=some k->∃k',exitTo id ys=some k'/\ir ρ k k')/\(exitTo id xs=none->exitTo id ys=none)
 |_,_,.nil=>⟨λk h=>(by simp[Go.exitTo] at h),λ_=>rfl⟩
 |_,_,.cons (x:=x) (y:=y) h t=>by
  have ih:=t.exitTo (id:=id);cases x with
  |inBlock i=>
   have:y=.inBlock i:=h;unfold Go.exitTo
   grind
  |inRangeFunc l=>obtain⟨L,_,rfl⟩:=h;exact ih
  |endRangeFunc l=>obtain⟨L,_,rfl⟩:=h;exact ih
  |call=>exact h.elim
  |extern=>exact h.elim
  |code c=>have:y=.code c:=h;subst this;exact ih
  |inLoop c=>have:y=.inLoop c:=h;subst this;exact ih
  |inScope c=>have:y=.inScope c:=h;subst this;exact ih
  |inRegion a b=>have:y=.inRegion a b:=h;subst this;exact ih
  |beginRound=>have:y=.beginRound:=h;subst this;exact ih
theorem ir.gotoIn{l:Nat}:∀{xs ys:List Item},ir ρ xs ys->(∀k,gotoIn l xs=some k->∃k',gotoIn l ys=some k'/\ir ρ k k')/\(gotoIn l xs=none->gotoIn l ys=none)
 |_,_,.nil=>⟨λk h=>(by simp[Go.gotoIn] at h),λ_=>rfl⟩
 |_,_,.cons (x:=x) (y:=y) h t=>by
  have ih:=t.gotoIn (l:=l);cases x with
  |inScope b=>
   have:y=.inScope b:=h;subst this;unfold Go.gotoIn;cases hf:findLabel b l with
   |none=>grind
   |some rest=>exact⟨λk hk=>⟨_,rfl,by cases hk;exact .cons rfl (.cons rfl t)⟩,λh=>(by grind)⟩
  |inRangeFunc l=>obtain⟨L,_,rfl⟩:=h;exact ih
  |endRangeFunc l=>obtain⟨L,_,rfl⟩:=h;exact ih
  |call=>exact h.elim
  |extern=>exact h.elim
  |code c=>have:y=.code c:=h;subst this;exact ih
  |inLoop c=>have:y=.inLoop c:=h;subst this;exact ih
  |inBlock c=>have:y=.inBlock c:=h;subst this;exact ih
  |inRegion a b=>have:y=.inRegion a b:=h;subst this;exact ih
  |beginRound=>have:y=.beginRound:=h;subst this;exact ih
inductive nJ(ρ:Ren):List PanicEntry->List PanicEntry->Prop where
 |nil:nJ ρ [] []
 |cons {v v':Value} {b:Bool} {xs ys:List PanicEntry} (h:aF ρ v v') (t:nJ ρ xs ys):nJ ρ ({v,recovered:=b}::xs) ({v:=v',recovered:=b}::ys)
theorem nJ.mono(e:Ext ρ ρ'):∀{xs ys:List PanicEntry},nJ ρ xs ys->nJ ρ' xs ys
 |_,_,.nil=>.nil
 |_,_,.cons h t=>.cons (h.mono e) (t.mono e)
theorem nJ.append:∀{xs ys us vs:List PanicEntry},nJ ρ xs ys->nJ ρ us vs->nJ ρ (xs++us) (ys++vs)
 |_,_,_,_,.nil,h=>h
 |_,_,_,_,.cons x t,h=>.cons x (t.append h)
def rK(ρ:Ren):FrameMode->FrameMode->Prop
 | .panicking c,m=>∃c',m=.panicking c'/\nJ ρ c c'
 |x,m=>m=x
theorem rK.mono(e:Ext ρ ρ'){x y:FrameMode}(h:rK ρ x y):rK ρ' x y:=by
 cases x<;>first
  |exact h
  |(obtain⟨c,h1,h2⟩:=h;exact⟨c,h1,h2.mono e⟩)
def DD(ρ:Ren):Option Nat->Option Nat->Prop
 |none,y=>y=none
 |some l,y=>∃L,ρ l=some L/\y=some L.block
theorem DD.mono(e:Ext ρ ρ'){x y:Option Nat}(h:DD ρ x y):DD ρ' x y:=by
 cases x<;>first
  |exact h
  |(obtain⟨c,h1,h2⟩:=h;exact⟨c,e _ _ h1,h2⟩)
structure jM(ρ:Ren)(a:cC)(f:Frame):Prop where
 fn:f.fn=a.fn
 tmps:jm ρ a.tmps a.n f.tmps
 todo:ir ρ a.todo f.todo
 defers:mG ρ a.defers f.defers
 mode:rK ρ a.mode f.mode
 kind:f.kind=a.kind
 round:DD ρ a.roundOf f.roundOf
variable{a:cC} {f:Frame}
theorem jM.mono(e:Ext ρ ρ')(h:jM ρ a f):jM ρ' a f:=
 ⟨h.fn,h.tmps.mono e,h.todo.mono e,h.defers.mono e,h.mode.mono e,h.kind,h.round.mono e⟩
inductive qx(ρ:Ren):List cC->List Frame->Prop where
 |nil:qx ρ [] []
 |cons {x:cC} {y:Frame} {xs:List cC} {ys:List Frame} (h:jM ρ x y) (t:qx ρ xs ys):qx ρ (x::xs) (y::ys)
theorem qx.mono(e:Ext ρ ρ'):∀{xs:List cC}{ys:List Frame},qx ρ xs ys->qx ρ' xs ys
 |_,_,.nil=>.nil
 |_,_,.cons h t=>.cons (h.mono e) (t.mono e)
structure AM where
 fr:cC
 cs:List cC
 h:Heap
 nx:Nat
def jo(tm:Tr Value):Operand->Option Value
 | .tmp t=>tm.get t
 | .const v=>cond (mP v) (some v) none
 | .global _=>none
 | .func f=>some (.func (.func f) #[] #[])
theorem xR(h:jm ρ a.tmps a.n f.tmps):∀x v,jo a.tmps x=some v->aF ρ v (f.eval x):=by
 intro x v e;cases x with
 |tmp t=>
  obtain⟨v',h1,h2⟩:=h.2 t v e;have:f.eval (.tmp t)=v':=by show f.tmps.getD t undef=v';simp_all
  grind
 |const c=>
  unfold jo at e;cases hc:mP c with
  |false=>grind
  |true=>simp_all;exact D6 hc
 |global g=>cases e
 |func g=>cases e;exact .func rfl .nil .nil
def fU(ops:Array Oper)(tm:Tr Value)(o:Oper):Option Bool:=
 match o.guard with
 |none=>some true
 |some (j,want)=>ob (ops[j]?) λoj=>ob oj.dst λd=>ob (tm.get d) λv=>match v with
  | .bool b=>some (b==want)
  | .tuple _=>some false
  |_=>none
theorem AW(h:jm ρ a.tmps a.n f.tmps){ops:Array Oper}{o:Oper}{b:Bool}(e:fU ops a.tmps o=some b):Region.wanted o (yielded ops f.tmps)=b:=by
 unfold fU at e;unfold Region.wanted;split at e
 ·grind
 ·rename_i j want hg;rw[hg];obtain⟨oj,h1,e⟩:=af e;replace e:=af e;obtain⟨d,h2,e⟩:=e;replace e:=af e;obtain⟨v,h3,e⟩:=e;obtain⟨v',h4,h5⟩:=h.2 d v h3;have hy:((ops[j]?).bind (·.dst)).bind (f.tmps[·]?)=some v':=by simp_all
  split at e
  ·cases h5;cases e;rename_i b;show(yielded ops f.tmps j==some want)=_;rw[(show yielded ops f.tmps j=some b from by unfold yielded;rw[hy])];simp
  ·cases h5;cases e;show(yielded ops f.tmps j==some want)=_;rw[(show yielded ops f.tmps j=none from by unfold yielded;rw[hy])];rfl
  grind
def tI(fr:cC)(dst:Option Nat)(v:Value):Option cC:=
 match dst with
 |none=>some fr
 |some d=>cond (Nat.blt d fr.n) (some {fr with tmps:=fr.tmps.set d v}) none
def mO(fr:cC)(v:Value):Option cC:=
 match fr.todo with
 | .inRegion ops (i::rest)::k=>ob (tI fr ((ops[i]?).bind (·.dst)) v) λfr=>some {fr with todo:=.inRegion ops rest::k}
 | .inRangeFunc l::k=>some {fr with todo:=.endRangeFunc l::k}
 |_=>none
def wF(tmps:Array Value)(dst:Option Nat)(v:Value):Array Value:=
 match dst with
 |some d=>tmps.setIfInBounds d v
 |none=>tmps
variable{a':cC} {v v':Value}
theorem X0(h:jM ρ a f){dst:Option Nat}(r:aF ρ v v')(e:tI a dst v=some a'):
 jM ρ a' {f with tmps:=wF f.tmps dst v'}/\a'.todo=a.todo:=by
 unfold tI at e;split at e
 ·cases e;exact⟨h,rfl⟩
 ·rename_i d;cases hd:Nat.blt d a.n with
  |false=>grind
  |true=>simp[hd] at e;subst e;exact⟨⟨h.fn,h.tmps.set (cT hd) r,h.todo,h.defers,h.mode,h.kind,h.round⟩,rfl⟩
theorem tG(h:jM ρ a f)(r:aF ρ v v')(e:mO a v=some a'):jM ρ a' (f.finish v'):=by
 unfold mO at e;have ht:=h.todo;split at e
 ·rename_i ops i rest k hk;replace e:=af e;obtain⟨b,h1,e⟩:=e;cases e;obtain⟨g1,g2⟩:=X0 h r h1;rw[hk] at ht;generalize hft:f.todo=ft at ht;cases ht with
  |cons hx t=>subst hx;simp[Frame.finish,hft];exact⟨g1.fn,g1.tmps,.cons rfl t,g1.defers,g1.mode,g1.kind,g1.round⟩
 ·rename_i l k hk;cases e;rw[hk] at ht;generalize hft:f.todo=ft at ht;cases ht with
  |cons hx t=>obtain⟨L,h1,rfl⟩:=hx;simp[Frame.finish,hft];exact⟨h.fn,h.tmps,.cons ⟨L,h1,rfl⟩ t,h.defers,h.mode,h.kind,h.round⟩
 grind
def AS(fr:cC)(vs:List PanicEntry):cC:=
 match fr.mode with
 | .panicking chain=>{fr with mode:=.panicking (vs++chain)}
 |_=>{fr with mode:=.panicking vs}
theorem PW(h:jM ρ a f){vs vs':List PanicEntry}(r:nJ ρ vs vs'):jM ρ (AS a vs) (f.raise vs'):=by
 unfold AS Frame.raise;have hm:=h.mode;cases ha:a.mode with
 |panicking c=>rw[ha] at hm;obtain⟨c',h1,h2⟩:=hm;simp_all;exact⟨h.fn,h.tmps,h.todo,h.defers,⟨_,rfl,r.append h2⟩,h.kind,h.round⟩
 |run=>rw[ha] at hm;have hm':f.mode=.run:=hm;simp_all;exact⟨h.fn,h.tmps,h.todo,h.defers,⟨_,rfl,r⟩,h.kind,h.round⟩
 |returning=>rw[ha] at hm;have hm':f.mode=.returning:=hm;simp_all;exact⟨h.fn,h.tmps,h.todo,h.defers,⟨_,rfl,r⟩,h.kind,h.round⟩
def cW:List Value->Nat->Tr Value->Tr Value
 |[],_,t=>t
 |v::vs,n,t=>cW vs (n+1) (t.set n v)
theorem Wx:∀(vs:List Value)(n:Nat)(t:Tr Value)(i:Nat)(v:Value),(cW vs n t).get i=some v->(n<=i/\vs[i -n]? =some v)\/t.get i=some v
 |[],_,_,_,_,h=>.inr h
 |u::vs,n,t,i,v,h=>by
  rcases Wx vs (n+1) (t.set n u) i v h with⟨h1,h2⟩|h1
  ·grind
  ·rw[Tr.bD] at h1
   grind
def jn(F:FT)(f:FuncId)(args:List Value)(kind:CallKind):Option cC:=
 ob (F.get f) λfn=>ob fn.body λc=>some {fn:=f,n:=args.length+(fn.ntmps -args.length),tmps:=cW args 0 .nil,todo:=[.code c],defers:=[],mode:=.run,kind,roundOf:=none}
theorem AK{P:Program}{F:FT}(hF:Po P F){f:FuncId}{args:List Value}{args':Array Value}(r:bk ρ args args'.toList){kind:CallKind}(e:jn F f args kind=some a):jM ρ a (Frame.enter P f args' kind):=by
 obtain⟨fn,h1,e⟩:=af e;obtain⟨c,h2,e⟩:=af e;cases e;obtain⟨g1,_,_⟩:=hF f fn h1;unfold Frame.enter;refine⟨rfl,⟨by simp[g1,r.length],λt v hv=>?_⟩,?_,.nil,rfl,rfl,rfl⟩
 ·rcases Wx args 0 .nil t v hv with⟨_,hv⟩|hv
  ·obtain⟨v',a1,a2⟩:=r.get hv
   grind
  ·rw[Tr.get_nil] at hv;cases hv
 ·simp_all;exact .cons rfl .nil
end
section
def tC(T:TT)(h:Heap)(tm:Tr Value):List ResultVar->Option (List Value)
 |[]=>some []
 | .tmp t::rs=>ob (tm.get t) λv=>ob (tC T h tm rs) λvs=>some (v::vs)
 | .cell a t::rs=>ob (tm.get a) λp=>ob (oM T h t p) λv=>ob (tC T h tm rs) λvs=>some (v::vs)
def oN(X:cJ)(h:Heap)(fr:cC):Option Value:=
 ob (X.F.get fr.fn) λfn=>ob (tC X.T h fr.tmps fn.results.toList) λvs=>match vs with
  |[v]=>some v
  |vs=>some (.tuple ⟨vs⟩)
def F0(tmps:Array Value):ResultVar->Sem Value
 | .tmp t=>pure (tmps.getD t undef)
 | .cell a t=>do loadVar t (<-asAddr (tmps.getD a undef))
variable{X:cJ} {h:Heap} {w:World} {ρ:Ren}
theorem LZ{P:Program}(OK:ea P X)(H:bh ρ h w){tm:Tr Value}{n:Nat}{tmps:Array Value}(S:jm ρ tm n tmps):
 ∀(rs:List ResultVar)(vs:List Value),tC X.T h tm rs=some vs->∃vs':List Value,(rs.mapM (F0 tmps)).run P w=.ok vs' w/\bk ρ vs vs'
 |[],vs,e=>by cases e;exact⟨[],rfl,.nil⟩
 | .tmp t::rs,vs,e=>by
  obtain⟨v,h1,e⟩:=af e;obtain⟨us,h2,e⟩:=af e;cases e;obtain⟨v',g1,g2⟩:=S.2 t v h1;obtain⟨us',g3,g4⟩:=LZ OK H S rs us h2;have:tmps.getD t undef=v':=by rw[xj,g1];rfl
  refine⟨v'::us',?_,.cons g2 g4⟩;simp[F0,this];rw[g3];rfl
 | .cell a t::rs,vs,e=>by
  obtain⟨p,h1,e⟩:=af e;obtain⟨v,h3,e⟩:=af e;obtain⟨us,h2,e⟩:=af e;cases e;obtain⟨p',g1,g2⟩:=S.2 a p h1;obtain⟨v',g5,g6⟩:=SE OK.T H g2 h3;obtain⟨us',g3,g4⟩:=LZ OK H S rs us h2;have:tmps.getD a undef=p':=by rw[xj,g1];rfl
  refine⟨v'::us',?_,.cons g6 g4⟩;have hp:∃ad,p'=.pointer (some ad):=by
   unfold oM at h3;split at h3
   ·cases g2;exact⟨_,rfl⟩
   ·cases g2 with
    |func a _ _=>exact a.elim
    |lit hl=>cases hl;exact⟨_,rfl⟩
   ·cases h3
  obtain⟨ad,rfl⟩:=hp;have g7:(loadVar t ad).run P w=.ok v' w:=by unfold Instr.loadAt Instr.sureAddr at g5;simpa using g5
  have hA:(asAddr (.pointer (some ad))).run P w=.ok ad w:=rfl;simp[F0,this,hA,g7];rw[g3];rfl
variable{f:Frame}
theorem LY{P:Program}(OK:ea P X)(H:bh ρ h w){a:cC}(R:jM ρ a f){v:Value}(e:oN X h a=some v):
 ∃fn v',P.funcs[f.fn]? =some fn/\(results fn f.tmps).run P w=.ok v' w/\aF ρ v v':=by
 obtain⟨fn,h1,e⟩:=af e;obtain⟨vs,h2,e⟩:=af e;obtain⟨g1,_,_⟩:=OK.F _ fn h1;obtain⟨vs',g2,g3⟩:=LZ OK H R.tmps _ _ h2;refine⟨fn,if hh:vs'.toArray.size=1 then vs'.toArray[0] else .tuple vs'.toArray,by rw[R.fn];exact g1,?_,?_⟩
 ·have e0:results fn f.tmps=(do let vs<-Array.mapM (F0 f.tmps) fn.results;pure (if h:vs.size=1 then vs[0] else .tuple vs)):=by
   congr 2
  rw[e0,Array.mapM_eq_mapM_toList];simp;rw[g2];rfl
 ·have hl:=g3.length;split at e
  ·rename_i u;cases e;cases g3 with
   |cons r t=>cases t;simpa using r
  ·rename_i ca;cases e;have:¬vs'.toArray.size=1:=by
    intro hh;simp at hh;have:vs.length=1:=by omega
    obtain⟨u,hu⟩:=List.length_eq_one_iff.1 this;exact ca u hu
   rw[dif_neg this];exact .tuple g3
def cG(P:Program)(m m':AM):Prop:=
 ∀(ρ:Ren)(fr:Frame)(cs base:List Frame)(w:World),jM ρ m.fr fr->qx ρ m.cs cs->bh ρ m.h w->(∀o,m.nx<=o->o<m'.nx->ρ o=none)->
  ∃ρ' fr' cs' w',Steps P (lone fr (cs++base) w) (lone fr' (cs'++base) w')/\jM ρ' m'.fr fr'/\qx ρ' m'.cs cs'/\bh ρ' m'.h w'/\bP ρ m.h m.nx w ρ' m'.h m'.nx w'
theorem cG.refl(P:Program)(m:AM):cG P m m:=λρ fr cs _ w F C H _=>⟨ρ,fr,cs,w,Steps.refl _ _,F,C,H,bP.refl _ _ _ _⟩
theorem cG.trans{P:Program}{a b c:AM}(h:cG P a b)(k:cG P b c)(l1:a.nx<=b.nx)(l2:b.nx<=c.nx):cG P a c:=by
 intro ρ fr cs base w F C H N;obtain⟨ρ1,fr1,cs1,w1,s1,F1,C1,H1,M1⟩:=h ρ fr cs base w F C H λo h1 h2=>N o h1 (by omega);obtain⟨ρ2,fr2,cs2,w2,s2,F2,C2,H2,M2⟩:=k ρ1 fr1 cs1 base w1 F1 C1 H1 λo h1 h2=>by
  rw[M1.cq o (.inr h1)]
  grind
 exact⟨ρ2,fr2,cs2,w2,s1.trans s2,F2,C2,H2,M1.trans M2⟩
def AM.to(m:AM)(todo:List Item):AM:={m with fr:={m.fr with todo:=todo}}
variable{t:List Item}
theorem Mm(h:f.mode=.run)(ht:f.todo=t):f=f.atR {tmps:=f.tmps,defers:=f.defers} t:=by subst ht;cases f;subst h;rfl
theorem nv{P:Program}{m:AM}(hm:m.fr.mode=.run)(ht:m.fr.todo=t){t':List Item}
 (Aa:∀(ρ:Ren)(fr:Frame)(cs:List Frame)(w:World)(ts:List Item),jm ρ m.fr.tmps m.fr.n fr.tmps->ir ρ t ts->∃ts',ir ρ t' ts'/\
  step P (lone (fr.atR {tmps:=fr.tmps,defers:=fr.defers} ts) cs w)=.next (lone (fr.atR {tmps:=fr.tmps,defers:=fr.defers} ts') cs w)):cG P m (m.to t'):=by
 intro ρ fr cs base w F C H _;have hI:=F.todo;rw[ht] at hI;obtain⟨ts',h1,h2⟩:=Aa ρ fr (cs++base) w fr.todo F.tmps hI;rw[<-Mm (by have:=F.mode;rw[hm] at this;exact this) rfl] at h2;exact⟨ρ,_,cs,w,.one h2,⟨F.fn,F.tmps,h1,F.defers,by show rK ρ m.fr.mode .run;rw[hm];rfl,F.kind,F.round⟩,C,H,bP.refl _ _ _ _⟩
variable{k:List Item}
theorem inv1{x:Item}{ts:List Item}(h:ir ρ (x::k) ts):∃y k',ts=y::k'/\Au ρ x y/\ir ρ k k':=by
 cases h with
 |cons a b=>grind
section
variable{P:Program} {m:AM} (hm:m.fr.mode=.run)
include hm
theorem Ww(ht:m.fr.todo=.code .skip::k):cG P m (m.to k):=
 nv hm ht λρ fr cs w ts S I=>by obtain⟨y,k',rfl,a,b⟩:=inv1 I;have a':y=.code .skip:=a;subst a';exact⟨k',b,stepR_skip⟩
variable{l:Nat}
theorem Wt(ht:m.fr.todo=.code (.label l)::k):cG P m (m.to k):=
 nv hm ht λρ fr cs w ts S I=>by obtain⟨y,k',rfl,a,b⟩:=inv1 I;have a':y=.code (.label l):=a;subst a';exact⟨k',b,stepR_label⟩
theorem Wr(ht:m.fr.todo=.inBlock l::k):cG P m (m.to k):=
 nv hm ht λρ fr cs w ts S I=>by obtain⟨y,k',rfl,a,b⟩:=inv1 I;have a':y=.inBlock l:=a;subst a';exact⟨k',b,stepR_inBlock⟩
theorem Ws{l:Code}(ht:m.fr.todo=.inScope l::k):cG P m (m.to k):=
 nv hm ht λρ fr cs w ts S I=>by obtain⟨y,k',rfl,a,b⟩:=inv1 I;have a':y=.inScope l:=a;subst a';exact⟨k',b,step_lone_go (by simp[stepG,stepG.exec,Frame.atR])⟩
variable{x y:Code}
theorem CY(ht:m.fr.todo=.code (.seq x y)::k):cG P m (m.to (.code x::.code y::k)):=
 nv hm ht λρ fr cs w ts S I=>by obtain⟨z,k',rfl,a,b⟩:=inv1 I;have a':z=.code (.seq x y):=a;subst a';exact⟨_,.cons rfl (.cons rfl b),stepR_seq⟩
theorem Wo(ht:m.fr.todo=.code (.block l x)::k):cG P m (m.to (.code x::.inBlock l::k)):=
 nv hm ht λρ fr cs w ts S I=>by obtain⟨z,k',rfl,a,b⟩:=inv1 I;have a':z=.code (.block l x):=a;subst a';exact⟨_,.cons rfl (.cons rfl b),stepR_block⟩
theorem Wu(ht:m.fr.todo=.code (.loop x)::k):cG P m (m.to (.code x::.inLoop x::k)):=
 nv hm ht λρ fr cs w ts S I=>by obtain⟨z,k',rfl,a,b⟩:=inv1 I;have a':z=.code (.loop x):=a;subst a';exact⟨_,.cons rfl (.cons rfl b),stepR_loop⟩
theorem OF(ht:m.fr.todo=.inLoop x::k):cG P m (m.to (.code x::.inLoop x::k)):=
 nv hm ht λρ fr cs w ts S I=>by obtain⟨z,k',rfl,a,b⟩:=inv1 I;have a':z=.inLoop x:=a;subst a';exact⟨_,.cons rfl (.cons rfl b),stepR_inLoop⟩
theorem Wv(ht:m.fr.todo=.code (.scope x)::k):cG P m (m.to (.code x::.inScope x::k)):=
 nv hm ht λρ fr cs w ts S I=>by obtain⟨z,k',rfl,a,b⟩:=inv1 I;have a':z=.code (.scope x):=a;subst a';exact⟨_,.cons rfl (.cons rfl b),step_lone_go (by simp[stepG,stepG.exec,Frame.atR])⟩
variable{id:Nat} {k1:List Item}
theorem Wq(ht:m.fr.todo=.code (.exit id)::k)(hx:exitTo id k=some k1):cG P m (m.to k1):=
 nv hm ht λρ fr cs w ts S I=>by obtain⟨z,k',rfl,a,b⟩:=inv1 I;have a':z=.code (.exit id):=a;subst a';obtain⟨k2,h1,h2⟩:=b.exitTo.1 k1 hx;exact⟨_,h2,stepR_exit h1⟩
theorem ahx(ht:m.fr.todo=.code (.goto l)::k)(hx:gotoIn l k=some k1):cG P m (m.to k1):=
 nv hm ht λρ fr cs w ts S I=>by obtain⟨z,k',rfl,a,b⟩:=inv1 I;have a':z=.code (.goto l):=a;subst a';obtain⟨k2,h1,h2⟩:=b.gotoIn.1 k1 hx;exact⟨_,h2,stepR_goto h1⟩
variable{ops:Array Oper}
theorem CW(ht:m.fr.todo=.code (.region id ops false)::k):cG P m (m.to (.inRegion ops (List.range ops.size)::k)):=
 nv hm ht λρ fr cs w ts S I=>by obtain⟨z,k',rfl,a,b⟩:=inv1 I;have a':z=.code (.region id ops false):=a;subst a';exact⟨_,.cons rfl b,stepR_region⟩
theorem CX(ht:m.fr.todo=.inRegion ops []::k):cG P m (m.to k):=
 nv hm ht λρ fr cs w ts S I=>by obtain⟨z,k',rfl,a,b⟩:=inv1 I;have a':z=.inRegion ops []:=a;subst a';exact⟨_,b,stepR_region_end⟩
theorem Wp{c:Operand}(ht:m.fr.todo=.code (.cond c x y)::k){b:Bool}(hc:jo m.fr.tmps c=some (.bool b)):cG P m (m.to (.code (cond b x y)::k)):=
 nv hm ht λρ fr cs w ts S I=>by
  obtain⟨z,k',rfl,a,bb⟩:=inv1 I;have a':z=.code (.cond c x y):=a;subst a';have r:=xR S c _ hc;have he:({tmps:=fr.tmps,defers:=fr.defers}:Act).eval c=.bool b:=by
   have e2:fr.eval c=({tmps:=fr.tmps,defers:=fr.defers}:Act).eval c:=by cases c<;>rfl
   rw[<-e2];generalize fr.eval c=g at r;cases r;rfl
  refine⟨_,.cons ?_ bb,stepR_cond he⟩;show _=_;cases b<;>rfl
end
end
section
section
variable{P:Program} {fr:Frame} {cs:List Frame} {w:World} {ops:Array Oper} {i:Nat} {rest:List Nat} {k:List Item} {o:Oper}
theorem C9(hmode:fr.mode=.run)(ht:fr.todo=.inRegion ops (i::rest)::k)(ho:ops[i]? =some o)(hw:Region.wanted o (yielded ops fr.tmps)=true)(hd:fr.roundOf=none\/∀c,o.op≠.defer c):
 stepG P true {frame:=fr,callers:=cs,status:=.running,dying:=none} w=stepG.apply P true fr cs none (execOp fr.eval o) w:=by
 have h:=stepGR_op (P:=P) (b:=fr) (a:={tmps:=fr.tmps,defers:=fr.defers}) (k:=k) (cs:=cs) (w:=w) (rest:=rest) ho hw;rw[<-(Mm hmode ht)] at h;rw[h]
 congr 1
 rcases hd with hd|hd
 ·rw[hd];rfl
 ·exact Oper.semAt_eq _ _ _ hd
variable(hg:stepG P true {frame:=fr,callers:=cs,status:=.running,dying:=none} w=stepG.apply P true fr cs none (execOp fr.eval o) w)
include hg
variable{v:Value} {w':World}
theorem WM(hr:(execOp fr.eval o).run P w=.ok (.value v) w'):step P (lone fr cs w)=.next (lone (fr.finish v) cs w'):=
 step_lone_go (by rw[hg];simp[stepG.apply,hr])
theorem WK(hr:(execOp fr.eval o).run P w=.ok .skip w'):step P (lone fr cs w)=.next (lone (fr.finish undef) cs w'):=
 step_lone_go (by rw[hg];simp[stepG.apply,hr])
theorem OU(ht:fr.todo=.inRegion ops (i::rest)::k){f:FuncId}{args:Array Value}(hr:(execOp fr.eval o).run P w=.ok (.enter f args) w'):step P (lone fr cs w)=.next (lone (Frame.enter P f args .normal) (fr::cs) w'):=
 step_lone_go (by rw[hg];simp[stepG.apply,hr,ht])
theorem ahV{d:Deferred}(hr:(execOp fr.eval o).run P w=.ok (.defer d) w'):step P (lone fr cs w)=.next (lone ({fr with defers:=d::fr.defers}.finish undef) cs w'):=
 step_lone_go (by rw[hg];simp[stepG.apply,hr])
theorem WI(hr:(execOp fr.eval o).run P w=.halt (.panic v) w'):step P (lone fr cs w)=.next (lone (fr.raise [{v,recovered:=false}]) cs w'):=
 step_lone_go (by rw[hg];simp[stepG.apply,hr])
theorem WJ(hro:fr.roundOf=none)(hr:(execOp fr.eval o).run P w=.ok .recover w')(hn:tryRecover fr cs=none):step P (lone fr cs w)=.next (lone (fr.finish .nilIface) cs w'):=
 step_lone_go (by rw[hg];simp[stepG.apply,hr,hro,hn])
theorem ahX(hro:fr.roundOf=none)(hr:(execOp fr.eval o).run P w=.ok .recover w'){cs':List Frame}(hn:tryRecover fr cs=some (v,cs')):step P (lone fr cs w)=.next (lone (fr.finish v) cs' w'):=
 step_lone_go (by rw[hg];simp[stepG.apply,hr,hro,hn])
end
theorem WL{P:Program}{fr:Frame}{cs:List Frame}{w:World}{ops:Array Oper}{i:Nat}{rest:List Nat}{k:List Item}{o:Oper}(hmode:fr.mode=.run)(ht:fr.todo=.inRegion ops (i::rest)::k)(ho:ops[i]? =some o)
 (hw:Region.wanted o (yielded ops fr.tmps)=false):step P (lone fr cs w)=.next (lone (fr.finish undef) cs w):=
 step_lone_go (by simp[stepG,stepG.exec,hmode,ht,ho,hw])
def mW:Op->Bool
 | .defer _=>true
 |_=>false
def xM(X:cJ)(m:AM)(ops:Array Oper)(o:Oper):Option AM:=
 ob (fU ops m.fr.tmps o) λb=>cond b
  (cond (mW o.op&&m.fr.roundOf.isSome) none (ob (dr X m.h m.nx (jo m.fr.tmps) o) λout=>match out with
   | .val v h nx=>ob (mO m.fr v) λfr=>some {m with fr:=fr,h:=h,nx:=nx}
   | .skip h nx=>ob (mO m.fr undef) λfr=>some {m with fr:=fr,h:=h,nx:=nx}
   | .enter f args=>ob (jn X.F f args .normal) λc=>some {m with fr:=c,cs:=m.fr::m.cs}
   | .tP d=>ob (mO {m.fr with defers:=d::m.fr.defers} undef) λfr=>some {m with fr:=fr}
   | .uq v=>some {m with fr:=AS m.fr [{v:=v,recovered:=false}]}
   | .uy=>match m.fr.roundOf,m.fr.kind,m.cs with
    |none,.normal,_=>ob (mO m.fr .nilIface) λfr=>some {m with fr:=fr}
    |none,.deferred,c::cs=>(match c.mode with
     | .panicking ({v:=v,recovered:=false,goexit:=false}::older)=>ob (mO m.fr v) λfr=>some {m with fr:=fr,cs:={c with mode:=.panicking ({v:=v,recovered:=true}::older)}::cs}
     | .returning=>ob (mO m.fr .nilIface) λfr=>some {m with fr:=fr}
     |_=>none)
    |_,_,_=>none
   | .round _ _=>none))
  (ob (mO m.fr undef) λfr=>some {m with fr:=fr})
theorem De{ρ:Ren}:aF ρ undef undef:=.tuple .nil
theorem OI{P:Program}{X:cJ}(OK:ea P X){m m':AM}(hm:m.fr.mode=.run){ops:Array Oper}{i:Nat}{rest:List Nat}{k:List Item}(ht:m.fr.todo=.inRegion ops (i::rest)::k){o:Oper}(ho:ops[i]? =some o)(e:xM X m ops o=some m'):cG P m m':=by
 intro ρ fr cs base w F C H N;have hmode:fr.mode=.run:=by have:=F.mode;rw[hm] at this;exact this
 have hI:=F.todo;rw[ht] at hI;obtain⟨y,k',hft,a,bI⟩:=inv1 hI;subst a;obtain⟨b,hb,e⟩:=af e;have hw:=AW F.tmps hb;cases b with
 |false=>obtain⟨f',h1,e⟩:=af e;cases e;exact⟨ρ,_,cs,w,.one (WL hmode hft ho hw),tG F De h1,C,H,bP.refl _ _ _ _⟩
 |true=>
  cases hdf:(mW o.op&&m.fr.roundOf.isSome) with
  |true=>simp_all
  |false=>
   simp[hdf] at e;have hd:fr.roundOf=none\/∀c,o.op≠.defer c:=by
    cases hro:m.fr.roundOf with
    |none=>left;have:=F.round;rw[hro] at this;exact this
    |some l=>right;intro c hc;rw[hro,hc] at hdf;cases hdf
   have hg:=λcs=>C9 (P:=P) (cs:=cs) (w:=w) hmode hft ho hw hd;obtain⟨out,h1,e⟩:=af e;have fresh:∀q,m.nx<=q->q<out.top m.nx->ρ q=none:=by
    intro q q1 q2;refine N q q1 ?_;cases out<;>simp only[kG.top] at q2<;>try omega
    all_goals(obtain⟨f',h2,e⟩:=af e;cases e;exact q2)
   have OR:=AL OK H (rv:=fr.eval) (xR F.tmps) h1 fresh;cases out with
   |val v h nx=>replace e:=af e;obtain⟨f',h2,e⟩:=e;cases e;obtain⟨ρ',v',w',r1,r2,r3,r4⟩:=OR;have hx:=r4.ext fresh;exact⟨ρ',_,cs,w',.one (WM (hg _) r1),tG (F.mono hx) r2 h2,C.mono hx,r3,r4⟩
   |skip h nx=>replace e:=af e;obtain⟨f',h2,e⟩:=e;cases e;obtain⟨ρ',w',r1,r3,r4⟩:=OR;have hx:=r4.ext fresh;exact⟨ρ',_,cs,w',.one (WK (hg _) r1),tG (F.mono hx) De h2,C.mono hx,r3,r4⟩
   |enter f args=>replace e:=af e;obtain⟨c,h2,e⟩:=e;cases e;obtain⟨args',r1,r2⟩:=OR;exact⟨ρ,_,fr::cs,w,.one (OU (hg _) hft r1),AK OK.F r2 h2,.cons F C,H,bP.refl _ _ _ _⟩
   |tP d=>replace e:=af e;obtain⟨f',h2,e⟩:=e;cases e;obtain⟨d',r1,r2⟩:=OR;exact⟨ρ,_,cs,w,.one (ahV (hg _) r1),tG (show jM ρ {m.fr with defers:=d::m.fr.defers} {fr with defers:=d'::fr.defers} from⟨F.fn,F.tmps,F.todo,.cons r2 F.defers,F.mode,F.kind,F.round⟩) De h2,C,H,bP.refl _ _ _ _⟩
   |uq v=>cases e;obtain⟨v',r1,r2⟩:=OR;exact⟨ρ,_,cs,w,.one (WI (hg _) r1),PW F (.cons r2 .nil),C,H,bP.refl _ _ _ _⟩
   |round l args=>cases e
   |uy=>
    have r1:=OR;simp only at e;split at e
    ·rename_i hro hk;replace e:=af e;obtain⟨f',h2,e⟩:=e;cases e;have hn:tryRecover fr (cs++base)=none:=by
      unfold tryRecover;rw[F.kind,hk]
     exact⟨ρ,_,cs,w,.one (WJ (hg _) (by have:=F.round;rw[hro] at this;exact this) r1 hn),tG F .nilIface h2,C,H,bP.refl _ _ _ _⟩
    ·rename_i c cs0 hro hk hcs;have hro':fr.roundOf=none:=by have:=F.round;rw[hro] at this;exact this
     have hkk:fr.kind=.deferred:=by rw[F.kind,hk]
     rw[hcs] at C;cases C with
     |cons FC CC=>
      rename_i c' cs1;have hcm:=FC.mode;split at e
      ·rename_i v older hmo;replace e:=af e;obtain⟨f',h2,e⟩:=e;cases e;rw[hmo] at hcm;obtain⟨ch,hm1,hm2⟩:=hcm;cases hm2 with
       |cons hv ho2=>
        rename_i v' older';have hn:tryRecover fr ((c'::cs1)++base)=some (v',{c' with mode:=.panicking ({v:=v',recovered:=true}::older')}::(cs1++base)):=by rw[tryRecover_deferred hkk];simp[recoverD,hm1]
        exact⟨ρ,_,{c' with mode:=.panicking ({v:=v',recovered:=true}::older')}::cs1,w,.one (ahX (hg _) hro' r1 hn),tG F hv h2,
         .cons ⟨FC.fn,FC.tmps,FC.todo,FC.defers,⟨_,rfl,.cons hv ho2⟩,FC.kind,FC.round⟩ CC,H,bP.refl _ _ _ _⟩
      ·rename_i hmo;replace e:=af e;obtain⟨f',h2,e⟩:=e;cases e;rw[hmo] at hcm;have hn:tryRecover fr ((c'::cs1)++base)=none:=by
        rw[tryRecover_deferred hkk];simp[recoverD,(show c'.mode=.returning from hcm)]
       exact⟨ρ,_,c'::cs1,w,.one (WJ (hg _) hro' r1 hn),tG F .nilIface h2,by show qx ρ m.cs _;rw[hcs];exact .cons FC CC,H,bP.refl _ _ _ _⟩
      ·cases e
    ·cases e
end
section
def AG(m:AM)(jump:Option Code):Option AM:=
 match m.fr.roundOf,jump with
 |none,none=>some {m with fr:={m.fr with mode:=.returning}}
 |none,some .ret=>some {m with fr:={m.fr with mode:=.returning}}
 |_,_=>none
inductive tr:List Item->Option Code->Prop where
 |nil:tr [] none
 |ret {k:List Item}:tr (.code .ret::k) (some .ret)
variable{j:Option Code}
theorem tr.rel{ρ:Ren}{t ts:List Item}(h:tr t j)(I:ir ρ t ts):tr ts j:=by
 cases h with
 |nil=>cases I;exact .nil
 |ret=>obtain⟨y,k,rfl,a,b⟩:=inv1 I;have a':y=.code .ret:=a;subst a';exact .ret
variable{P:Program}
theorem ahW{fr:Frame}{cs:List Frame}{w:World}(hmode:fr.mode=.run)(hl:tr fr.todo j)(hr:fr.roundOf=none):
 step P (lone fr cs w)=.next (lone {fr with mode:=.returning} cs w):=by
 generalize ht:fr.todo=t at hl;cases hl<;>exact step_lone_go (by simp[stepG,stepG.exec,hmode,ht,hr])
theorem OG{m m':AM}(hm:m.fr.mode=.run)(hl:tr m.fr.todo j)(e:AG m j=some m'):cG P m m':=by
 intro ρ fr cs base w F C H N;have hmode:fr.mode=.run:=by have:=F.mode;rw[hm] at this;exact this
 have key:m.fr.roundOf=none/\m'={m with fr:={m.fr with mode:=.returning}}:=by unfold AG at e;split at e<;>simp_all
 obtain⟨hro,rfl⟩:=key;exact⟨ρ,_,cs,w,.one (ahW hmode (hl.rel F.todo) (by have:=F.round;rw[hro] at this;exact this)),⟨F.fn,F.tmps,F.todo,F.defers,rfl,F.kind,F.round⟩,C,H,bP.refl _ _ _ _⟩
end
section
def AV:FrameMode->FrameMode
 | .panicking ({recovered:=true,..}::_)=>.returning
 |m=>m
variable{ρ:Ren}
theorem afK{x y:FrameMode}(h:rK ρ x y):rK ρ (AV x) (settle y):=by
 cases x with
 |run=>have h':y=.run:=h;subst h';rfl
 |returning=>have h':y=.returning:=h;subst h';rfl
 |panicking c=>
  obtain⟨c',rfl,h2⟩:=h;cases h2 with
  |nil=>exact⟨[],rfl,.nil⟩
  |@cons v v' b xs ys hv t=>
   cases b with
   |false=>exact⟨_,rfl,.cons hv t⟩
   |true=>
    have hd:∀(xs ys:List PanicEntry),nJ ρ xs ys->ys.dropWhile (!·.goexit)=[]:=by
     intro xs ys h;induction h with
     |nil=>rfl
     |cons h t ih=>simp_all
    show settle (.panicking ({v:=v',recovered:=true}::ys))=.returning;simp[settle,hd _ _ t]
def vA(X:cJ)(m:AM):Option AM:=
 match m.fr.mode with
 | .run=>none
 |mode=>
  match m.fr.defers with
  |d::ds=>match d.target with
   | .fn fn captured=>ob (qC X fn d.args.toList captured.toList) λout=>match out with
    | .enter f args=>ob (jn X.F f args .deferred) λc=>some {m with fr:=c,cs:={m.fr with defers:=ds}::m.cs}
    |_=>none
   |_=>none
  |[]=>match mode,m.cs with
   | .panicking chain,c::cs=>ob (X.F.get m.fr.fn) λ_=>some {m with fr:=AS c chain,cs:=cs}
   | .returning,c::cs=>ob (oN X m.h m.fr) λv=>match m.fr.kind with
    | .normal=>ob (mO c v) λc'=>some {m with fr:=c',cs:=cs}
    | .deferred=>some {m with fr:={c with mode:=AV c.mode},cs:=cs}
    |_=>none
   |_,_=>none
theorem YW{d:Deferred}{ds ds':List Deferred}(h:mG ρ (d::ds) ds'):∃d' ds1,ds'=d'::ds1/\xy ρ d d'/\mG ρ ds ds1:=by
 cases h with
 |cons a b=>grind
theorem Il{P:Program}{X:cJ}(OK:ea P X){m m':AM}(e:vA X m=some m'):cG P m m':=by
 intro ρ fr cs base w F C H N;have ca:m.fr.mode≠.run:=by intro h;unfold vA at e;rw[h] at e;cases e
 have hne':fr.mode≠.run:=by
  intro h;apply ca;have:=F.mode;rw[h] at this;cases hq:m.fr.mode with
  |run=>rfl
  |returning=>rw[hq] at this;cases this
  |panicking c=>rw[hq] at this;obtain⟨c',h1,_⟩:=this;cases h1
 have e2:(match m.fr.defers with
  |d::ds=>match d.target with
   | .fn fn captured=>ob (qC X fn d.args.toList captured.toList) λout=>match out with
    | .enter f args=>ob (jn X.F f args .deferred) λc=>some {m with fr:=c,cs:={m.fr with defers:=ds}::m.cs}
    |_=>none
   |_=>none
  |[]=>match m.fr.mode,m.cs with
   | .panicking chain,c::cs=>ob (X.F.get m.fr.fn) λ_=>some {m with fr:=AS c chain,cs:=cs}
   | .returning,c::cs=>ob (oN X m.h m.fr) λv=>match m.fr.kind with
    | .normal=>ob (mO c v) λc'=>some {m with fr:=c',cs:=cs}
    | .deferred=>some {m with fr:={c with mode:=AV c.mode},cs:=cs}
    |_=>none
   |_,_=>none)=some m':=by
  unfold vA at e;cases hq:m.fr.mode with
  |run=>exact absurd hq ca
  |returning=>rw[hq] at e;exact e
  |panicking c=>rw[hq] at e;exact e
 split at e2
 ·rename_i d ds hds;have FD:=F.defers;rw[hds] at FD;obtain⟨d',ds1,hfd,hd,hds1⟩:=YW FD;obtain⟨ht,ha⟩:=hd;split at e2
  ·rename_i fn captured hdt;obtain⟨out,hout,e2⟩:=af e2;rw[hdt] at ht;obtain⟨fn',cap',t1,t2,t3⟩:=ht;split at e2
   ·rename_i f args;obtain⟨c,hc,e2⟩:=af e2;cases e2;obtain⟨args',q1,q2⟩:=(Sc (h:=m.h) (nx:=m.nx) (w:=w) OK hout t2 ha t3);rw[<-t1] at q1;exact⟨ρ,_,{fr with defers:=ds1}::cs,w,.one (step_defer (P:=P) hne' hfd t1 q1),AK OK.F q2 hc,.cons ⟨F.fn,F.tmps,F.todo,hds1,F.mode,F.kind,F.round⟩ C,H,bP.refl _ _ _ _⟩
   ·cases e2
  ·cases e2
 ·rename_i hds;have FD:=F.defers;rw[hds] at FD;have hfd:fr.defers=[]:=by
   generalize fr.defers=q at FD;cases FD;rfl
  split at e2
  ·rename_i chain c cs0 hmo hcs;obtain⟨fn,hfn,e2⟩:=af e2;cases e2;obtain⟨g1,_,_⟩:=OK.F _ fn hfn;have hmm:=F.mode;rw[hmo] at hmm;obtain⟨chain',hm1,hm2⟩:=hmm;rw[hcs] at C;cases C with
   |cons FC CC=>rename_i c' cs1;have hs:=step_going_panicked (P:=P) (c:=c') (cs:=cs1++base) (w:=w) ⟨hm1,hfd,fn,by rw[F.fn];exact g1⟩;rw[<-Frame.raise_mode] at hs;exact⟨ρ,_,cs1,w,.one hs,PW FC hm2,CC,H,bP.refl _ _ _ _⟩
  ·rename_i c cs0 hmo hcs;obtain⟨v,hv,e2⟩:=af e2;have hm1:fr.mode=.returning:=by have:=F.mode;rw[hmo] at this;exact this
   obtain⟨fn,v',g1,g2,g3⟩:=LY OK H F hv;rw[hcs] at C;cases C with
   |cons FC CC=>
    rename_i c' cs1;split at e2
    ·rename_i hk;obtain⟨c2,hc2,e2⟩:=af e2;cases e2;exact⟨ρ,_,cs1,w,.one (step_leave_returned (P:=P) (c:=c') (w:=w) (fr:=fr) (v:=v') ⟨hm1,hfd,by rw[F.kind,hk],fn,g1,g2⟩),tG FC g3 hc2,CC,H,bP.refl _ _ _ _⟩
    ·rename_i hk;cases e2;exact⟨ρ,_,cs1,w,.one (step_going_returned (P:=P) (c:=c') (w:=w) (fr:=fr) (v:=v') (by rw[F.kind,hk]) ⟨hm1,hfd,fn,g1,g2⟩),⟨FC.fn,FC.tmps,FC.todo,FC.defers,afK FC.mode,FC.kind,FC.round⟩,CC,H,bP.refl _ _ _ _⟩
    ·cases e2
  ·cases e2
end
def Jl(X:cJ)(m:AM):Option AM:=
 match m.fr.mode with
 | .run=>match m.fr.todo with
  |[]=>AG m none
  | .inRegion _ []::k=>some (m.to k)
  | .inRegion ops (i::_)::_=>ob (ops[i]?) λo=>xM X m ops o
  | .code .ret::_=>AG m (some .ret)
  | .code .skip::k=>some (m.to k)
  | .code (.label _)::k=>some (m.to k)
  | .inBlock _::k=>some (m.to k)
  | .inScope _::k=>some (m.to k)
  | .code (.seq x y)::k=>some (m.to (.code x::.code y::k))
  | .code (.cond c x y)::k=>ob (jo m.fr.tmps c) λv=>match v with
   | .bool b=>some (m.to (.code (cond b x y)::k))
   |_=>none
  | .code (.block id x)::k=>some (m.to (.code x::.inBlock id::k))
  | .code (.loop x)::k=>some (m.to (.code x::.inLoop x::k))
  | .inLoop x::k=>some (m.to (.code x::.inLoop x::k))
  | .code (.scope x)::k=>some (m.to (.code x::.inScope x::k))
  | .code (.exit id)::k=>ob (exitTo id k) λk1=>some (m.to k1)
  | .code (.goto l)::k=>ob (gotoIn l k) λk1=>some (m.to k1)
  | .code (.region _ ops false)::k=>some (m.to (.inRegion ops (List.range ops.size)::k))
  |_=>none
 |_=>vA X m
theorem X2{P:Program}{X:cJ}(OK:ea P X){m m':AM}(e:Jl X m=some m'):cG P m m':=by
 unfold Jl at e;split at e
 ·rename_i hm;split at e
  ·rename_i ht;exact OG hm (by rw[ht];exact .nil) e
  ·rename_i ops k ht;cases e;exact CX hm ht
  ·rename_i ops i rest k ht;obtain⟨o,ho,e⟩:=af e;exact OI OK hm ht ho e
  ·rename_i k ht;exact OG hm (by rw[ht];exact .ret) e
  ·rename_i k ht;cases e;exact Ww hm ht
  ·rename_i l k ht;cases e;exact Wt hm ht
  ·rename_i l k ht;cases e;exact Wr hm ht
  ·rename_i l k ht;cases e;exact Ws hm ht
  ·rename_i x y k ht;cases e;exact CY hm ht
  ·rename_i c x y k ht;obtain⟨v,hv,e⟩:=af e;split at e
   ·cases e;exact Wp hm ht hv
   grind
  ·rename_i id x k ht;cases e;exact Wo hm ht
  ·rename_i x k ht;cases e;exact Wu hm ht
  ·rename_i x k ht;cases e;exact OF hm ht
  ·rename_i x k ht;cases e;exact Wv hm ht
  ·rename_i id k ht;obtain⟨k1,hx,e⟩:=af e;cases e;exact Wq hm ht hx
  ·rename_i l k ht;obtain⟨k1,hx,e⟩:=af e;cases e;exact ahx hm ht hx
  ·rename_i id ops k ht;cases e;exact CW hm ht
  grind
 ·exact Il OK e
section
def dE(P:Program)(ops:Array Oper)(i:Nat)(tm:Tr Value)(n:Nat)(h:Heap)(nx:Nat)(v:Value)(h':Heap)(nx':Nat):Prop:=
 ∀(ρ:Ren)(fr:Frame)(cs:List Frame)(w:World)(rest:List Nat)(k:List Item),fr.mode=.run->fr.todo=.inRegion ops (i::rest)::k->jm ρ tm n fr.tmps->bh ρ h w->(∀o,nx<=o->o<nx'->ρ o=none)->
  ∃ρ' v' w',Steps P (lone fr cs w) (lone {fr with tmps:=wF fr.tmps ((ops[i]?).bind (·.dst)) v',todo:=.inRegion ops rest::k} cs w')/\aF ρ' v v'/\bh ρ' h' w'/\bP ρ h nx w ρ' h' nx' w'
def AH(X:cJ)(ops:Array Oper)(tm:Tr Value)(h:Heap)(nx:Nat)(o:Oper):Option (Value×Heap×Nat):=
 ob (fU ops tm o) λb=>cond b (cond (mW o.op) none (ob (dr X h nx (jo tm) o) λout=>match out with
  | .val v h nx=>some (v,h,nx)
  | .skip h nx=>some (undef,h,nx)
  |_=>none)) (some (undef,h,nx))
variable{i:Nat} {ops:Array Oper}
theorem Eu{fr:Frame}{rest:List Nat}{k:List Item}(ht:fr.todo=.inRegion ops (i::rest)::k)(v:Value):
 fr.finish v={fr with tmps:=wF fr.tmps ((ops[i]?).bind (·.dst)) v,todo:=.inRegion ops rest::k}:=by
 simp[Frame.finish,ht];rfl
def dummy(n:Nat)(tm:Tr Value):cC:={fn:=0,n:=n,tmps:=tm,todo:=[],defers:=[],mode:=.run,kind:=.normal,roundOf:=none}
variable{P:Program} {X:cJ} {h h':Heap} {n nx nx':Nat} {o:Oper} {tm:Tr Value} {v:Value}
theorem ES(OK:ea P X)(ho:ops[i]? =some o)
 (e:AH X ops tm h nx o=some (v,h',nx')):dE P ops i tm n h nx v h' nx':=by
 intro ρ fr cs w rest k hm ht S H N;obtain⟨b,hb,e⟩:=af e;have hw:=AW (a:=dummy n tm) S hb;cases b with
 |false=>cases e;refine⟨ρ,undef,w,?_,De,H,bP.refl _ _ _ _⟩;rw[<-Eu ht];exact .one (WL hm ht ho hw)
 |true=>
  cases hdf:mW o.op with
  |true=>grind
  |false=>
   simp[hdf] at e;have hd:fr.roundOf=none\/∀c,o.op≠.defer c:=by right;intro c hc;rw[hc] at hdf;cases hdf
   have hg:=C9 (P:=P) (cs:=cs) (w:=w) hm ht ho hw hd;obtain⟨out,h1,e⟩:=af e;have fresh:∀q,nx<=q->q<out.top nx->ρ q=none:=by
    intro q q1 q2;refine N q q1 ?_;cases out<;>simp only[kG.top] at q2<;>try omega
    ·grind
    grind
   have OR:=AL OK H (xR (a:=dummy n tm) S) h1 fresh;cases out with
   |val v1 hh1 nx1=>cases e;obtain⟨ρ',v',w',r1,r2,r3,r4⟩:=OR;refine⟨ρ',v',w',?_,r2,r3,r4⟩;rw[<-Eu ht];exact .one (WM hg r1)
   |skip hh1 nx1=>cases e;obtain⟨ρ',w',r1,r3,r4⟩:=OR;refine⟨ρ',undef,w',?_,De,r3,r4⟩;rw[<-Eu ht];exact .one (WK hg r1)
   |enter _ _=>grind
   |round _ _=>grind
   |tP _=>grind
   |uy=>grind
   |uq _=>grind
def jl(P:Program)(f:FuncId)(args:List Value)(h:Heap)(nx:Nat)(v:Value)(h':Heap)(nx':Nat):Prop:=
 ∀(ρ:Ren)(args':Array Value)(cs:List Frame)(w:World),bk ρ args args'.toList->bh ρ h w->(∀o,nx<=o->o<nx'->ρ o=none)->
  ∃ρ' fr w' fn v',Steps P (lone (Frame.enter P f args' .normal) cs w) (lone fr cs w')/\fr.mode=.returning/\fr.defers=[]/\fr.kind=.normal/\(fr.fn=f/\P.funcs[fr.fn]? =some fn)/\(results fn fr.tmps).run P w'=.ok v' w'/\
   aF ρ' v v'/\bh ρ' h' w'/\bP ρ h nx w ρ' h' nx' w'
def qA(X:cJ)(f:FuncId)(m:AM):Option Value:=
 match m.fr.mode,m.fr.defers,m.fr.kind,m.cs with
 | .returning,[],.normal,[]=>cond (Nat.beq m.fr.fn f) (oN X m.h m.fr) none
 |_,_,_,_=>none
variable{args:List Value} {f:FuncId}
theorem B8(OK:ea P X){fr:cC}(he:jn X.F f args .normal=some fr){m:AM}(S:cG P ⟨fr,[],h,nx⟩ m)(hv:qA X f m=some v):
 jl P f args h nx v m.h m.nx:=by
 intro ρ args' cs w A H N;obtain⟨ρ',fr',cs',w',s1,F,C,H',M⟩:=S ρ _ [] cs w (AK OK.F A he) .nil H N;unfold qA at hv;split at hv
 ·rename_i h1 h2 h3 h4;rw[h4] at C;cases C;cases hb:Nat.beq m.fr.fn f with
  |false=>grind
  |true=>
  simp[hb] at hv;obtain⟨fn,v',g1,g2,g3⟩:=LY OK H' F hv;refine⟨ρ',fr',w',fn,v',s1,?_,?_,by rw[F.kind,h3],⟨by rw[F.fn];exact bJ hb,g1⟩,g2,g3,H',M⟩
  ·have:=F.mode;rw[h1] at this;exact this
  ·have FD:=F.defers;rw[h2] at FD;generalize fr'.defers=q at FD;cases FD;rfl
 grind
def DK(X:cJ)(ops:Array Oper)(tm:Tr Value)(h:Heap)(nx:Nat)(o:Oper):Option (FuncId×List Value):=
 ob (fU ops tm o) λb=>cond b (cond (mW o.op) none (ob (dr X h nx (jo tm) o) λout=>match out with
  | .enter f args=>some (f,args)
  |_=>none)) none
theorem Yk(OK:ea P X)(ho:ops[i]? =some o)
 (e:DK X ops tm h nx o=some (f,args)) (R:jl P f args h nx v h' nx'):dE P ops i tm n h nx v h' nx':=by
 intro ρ fr cs w rest k hm ht S H N;obtain⟨b,hb,e⟩:=af e;cases b with
 |false=>grind
 |true=>
  cases hdf:mW o.op with
  |true=>grind
  |false=>
   simp[hdf] at e;have hd:fr.roundOf=none\/∀c,o.op≠.defer c:=by right;intro c hc;rw[hc] at hdf;cases hdf
   obtain⟨out,h1,e⟩:=af e;cases out with
   |enter f1 args1=>cases e;obtain⟨args',r1,r2⟩:=(AL OK H (xR (a:=dummy n tm) S) h1 (λq q1 q2=>by simp only[kG.top] at q2;omega));obtain⟨ρ',fr',w',fn,v',s1,a1,a2,a3,a4,a5,a6,a7,a8⟩:=R ρ args' (fr::cs) w r2 H N;refine⟨ρ',v',w',?_,a6,a7,a8⟩;rw[<-Eu ht];exact .trans (.one (OU (C9 hm ht ho (AW (a:=dummy n tm) S hb) hd) ht r1)) (.trans s1 (.one (step_leave_returned ⟨a1,a2,a3,fn,a4.2,a5⟩)))
   |val _ _ _=>grind
   |skip _ _=>grind
   |round _ _=>grind
   |tP _=>grind
   |uy=>grind
   |uq _=>grind
end
end Lt
end Go.Proofs.YtfdojmichbgpiaaGreatDoor

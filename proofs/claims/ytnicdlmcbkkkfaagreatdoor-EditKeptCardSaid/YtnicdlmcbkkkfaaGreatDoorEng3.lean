/-
  The engine, part K: bytes as a string, a slice as another one, copy, clear.
  The engine, part L: copy, clear; what append adds.
  The engine, part M: append.
  The engine, part N: append, in place or in a new row.
  The engine, part O: maps whose keys are structs of numbers.
-/
import Derived.Test.YtnicdlmcbkkkfaaGreatDoorEng2
import Derived.Laws.BytesString
namespace Go.Proofs.YtnicdlmcbkkkfaaGreatDoor
namespace Eng
noncomputable section
section
/-- the bytes of some cells. -/
def u8s : List Value → Option (List Int)
  | [] => some []
  | .int .u8 n :: xs => ob (u8s xs) fun r => some (n :: r)
  | _ => none

theorem u8s_rel {ρ : Ren} : ∀ (xs xs' : List Value) (ns : List Int), VRels ρ xs xs' → u8s xs = some ns → xs' = ns.map (Value.int .u8)
  | [], _, ns, r, h => by cases r; obtain rfl := Option.some.inj h; rfl
  | x :: xs, _, ns, r, h => by
    cases r with
    | cons r t =>
      unfold u8s at h
      split at h
      · rename_i hh; cases hh
      · rename_i n rest hh
        cases hh
        cases r
        replace h := ob_some h
        obtain ⟨m, h1, h2⟩ := h
        obtain rfl := Option.some.inj h2
        rw [u8s_rel xs _ m t h1]; rfl
      · cases h

def mkStr (ns : List Int) : ByteArray := ⟨⟨ns.map fun n => UInt8.ofNat n.toNat⟩⟩

theorem mkStr_fold : ∀ (ns : List Int) (s : ByteArray), ns.foldl (fun r n => r.push (UInt8.ofNat n.toNat)) s = ⟨⟨s.data.toList ++ ns.map fun n => UInt8.ofNat n.toNat⟩⟩
  | [], s => by simp
  | n :: ns, s => by
    simp only [List.foldl_cons, mkStr_fold ns]
    simp [ByteArray.push]

def isU8 : TypeDesc → Bool
  | .int .u8 => true
  | _ => false

theorem isU8_eq {d : TypeDesc} (h : isU8 d = true) : d = .int .u8 := by
  unfold isU8 at h
  split at h
  · rfl
  · cases h

/-- bytes as a string. -/
def aToStr (T : TT) (h : Heap) (s d : TypeId) (x : Value) : Option Value :=
  ob (T.get s) fun i => ob (T.get d) fun j => match i.desc, j.desc, x with
    | .slice e, .string, .slice none 0 0 => ob (T.get e) fun k => cnd (isU8 k.desc) (some (.string ⟨⟨[]⟩⟩)) none
    | .slice e, .string, .slice (some ⟨o, off, none⟩) n cap => ob (T.get e) fun k => cnd (isU8 k.desc)
        (cnd (Nat.beq n 0) (some (.string ⟨⟨[]⟩⟩)) (cnd (Nat.beq cap openCap) none (ob (h.get o) fun ob' => match ob' with
          | .cells c _ _ => cnd (Nat.ble (off + n) c.length) (ob (u8s ((c.drop off).take n)) fun ns => some (.string (mkStr ns))) none
          | _ => none))) none
    | _, _, _ => none

theorem toStr_sim {P : Program} {T : TT} (HT : TOk P T) {ρ : Ren} {h : Heap} {w : World} (H : HRel ρ h w) {s d : TypeId} {x x' : Value} (hx : VRel ρ x x') {v : Value} (e : aToStr T h s d x = some v) :
    ∃ v', (convert s d x').run P w = .ok v' w ∧ VRel ρ v v' := by
  replace e := ob_some e
  obtain ⟨i, hi, e⟩ := e
  replace e := ob_some e
  obtain ⟨j, hj, e⟩ := e
  have hs := HT.under s i hi
  have hd := HT.under d j hj
  split at e
  · rename_i el h1 h2
    cases hx
    replace e := ob_some e
    obtain ⟨k, hk, e⟩ := e
    cases hu : isU8 k.desc with
    | false => simp [hu] at e
    | true =>
      simp only [hu, cnd_true, Option.some.injEq] at e
      subst e
      have he := HT.under el k hk
      rw [isU8_eq hu] at he
      rw [h1] at hs; rw [h2] at hd
      rw [run_convert_bytes_string w s d el none 0 0 hs he hd]
      exact ⟨.string .empty, by unfold Conv.bytesToString; rfl, .str _⟩
  · rename_i el o off n cap h1 h2
    replace e := ob_some e
    obtain ⟨k, hk, e⟩ := e
    cases hu : isU8 k.desc with
    | false => simp [hu] at e
    | true =>
      simp only [hu, cnd_true] at e
      have he := HT.under el k hk
      rw [isU8_eq hu] at he
      rw [h1] at hs; rw [h2] at hd
      have empty : ∀ (a : Addr) (c : Nat), (convert s d (.slice (some a) 0 c)).run P w = .ok (.string ⟨⟨[]⟩⟩) w := by
        intro a c
        rw [run_convert_bytes_string w s d el (some a) 0 c hs he hd]
        exact run_bytesToString w a 0 c [] (by simp [loadCells, loadCellsFrom])
      cases h0 : Nat.beq n 0 with
      | true =>
        obtain rfl := Nat.eq_of_beq_eq_true h0
        simp only [h0, cnd_true, Option.some.injEq] at e
        subst e
        cases hx <;> exact ⟨_, empty _ _, .str _⟩
      | false =>
        simp only [h0, cnd_false] at e
        cases hcap : Nat.beq cap openCap with
        | true => simp [hcap] at e
        | false =>
          simp only [hcap, cnd_false] at e
          replace e := ob_some e
          obtain ⟨obj, ho, e⟩ := e
          split at e
          · rename_i c _ opn
            cases hb : Nat.ble (off + n) c.length with
            | false => simp [hb] at e
            | true =>
              simp only [hb, cnd_true] at e
              replace e := ob_some e
              obtain ⟨ns, hn, e⟩ := e
              obtain rfl := Option.some.inj e
              have go : ∀ (L : Loc) (c' : Nat), ρ o = some L → ∃ v', (convert s d (.slice (some ⟨L.block, L.base + off, none⟩) n c')).run P w = .ok v' w ∧ VRel ρ (.string (mkStr ns)) v' := by
                intro L c' hL
                obtain ⟨vs, a, b⟩ := H.load P ho hL (Nat.le_of_ble_eq_true hb)
                have := u8s_rel _ _ _ b hn
                have e2 : vs = (ns.map (Value.int .u8)).toArray := by rw [← this]
                rw [run_convert_bytes_string w s d el _ n c' hs he hd]
                refine ⟨_, run_bytesToString w _ n c' ns (by rw [a, e2]), ?_⟩
                rw [mkStr_fold]
                exact .str _
              cases hx with
              | slE hL _ _ => exact go _ _ hL
              | slO hL _ _ _ => exact go _ _ hL
              | slL => simp at h0
          · cases e
  · cases e

/-- the world with one owned block touched, its cells as they were. -/
theorem Moves.touch {ρ : Ren} {h : Heap} {nx : Nat} {w w' : World} {o : Nat} {ob' : AObj} {L : Loc} (ho : h.get o = some ob') (hρ : ρ o = some L)
    (h1 : w'.os = w.os) (h2 : w'.tape = w.tape) (h3 : w'.output = w.output) (h4 : w'.heap.size = w.heap.size)
    (he : ∀ b, b ≠ L.block → w'.heap[b]? = w.heap[b]?) : Moves ρ h nx w ρ h nx w' where
  os := h1
  tape := h2
  output := h3
  size := Nat.le_of_eq h4.symm
  block b _ hb := he b fun e => hb ⟨o, ob', L, ho, hρ, e.symm⟩
  owned _ _ hb := hb
  le := Nat.le_refl _
  ren _ _ := rfl

theorem HRel.touch {ρ : Ren} {h : Heap} {w w' : World} (H : HRel ρ h w) {o : Nat} {ob' : AObj} {L : Loc} (ho : h.get o = some ob') (hρ : ρ o = some L)
    (he : ∀ b, b ≠ L.block → w'.heap[b]? = w.heap[b]?) (hO : ORel ρ w' L ob') : HRel ρ h w' :=
  (H.put ho hρ he hO).sub fun p x hp => by
    rw [Tr.get_set]
    by_cases e : p = o
    · subst e; rw [if_pos rfl, ← ho, hp]
    · rw [if_neg e]; exact hp

/-- a slice of bytes as a string's bytes: the model marks its block. -/
def aReSlice (T : TT) (h : Heap) (s d : TypeId) (x : Value) : Option Value :=
  match x with
  | .slice (some ⟨o, off, none⟩) n cap => cnd (Nat.beq s d) (ob (T.get s) fun i => match i.desc with
      | .slice e => ob (T.get e) fun k => cnd (isU8 k.desc && !Nat.beq cap openCap) (ob (h.get o) fun ob' => match ob' with
        | .cells _ _ _ => some (.slice (some ⟨o, off, none⟩) n cap)
        | _ => none) none
      | _ => none) none
  | _ => none

theorem reSlice_sim {P : Program} {T : TT} (HT : TOk P T) {ρ : Ren} {h : Heap} {w : World} (H : HRel ρ h w) (nx : Nat) {s d : TypeId} {x x' : Value} (hx : VRel ρ x x') {v : Value} (e : aReSlice T h s d x = some v) :
    Good ρ h nx w v h nx ((convert s d x').run P w) := by
  unfold aReSlice at e
  split at e
  · rename_i o off n cap
    cases hsd : Nat.beq s d with
    | false => simp [hsd] at e
    | true =>
      obtain rfl := Nat.eq_of_beq_eq_true hsd
      simp only [hsd, cnd_true] at e
      replace e := ob_some e
      obtain ⟨i, hi, e⟩ := e
      split at e
      · rename_i el hd
        replace e := ob_some e
        obtain ⟨k, hk, e⟩ := e
        cases hu : (isU8 k.desc && !Nat.beq cap openCap) with
        | false => rw [hu] at e; cases e
        | true =>
          rw [hu] at e
          simp only [cnd_true] at e
          simp only [Bool.and_eq_true] at hu
          replace e := ob_some e
          obtain ⟨obj, ho, e⟩ := e
          split at e
          · rename_i c el' opn
            obtain rfl := Option.some.inj e
            have go : ∀ (L : Loc) (c' : Nat), ρ o = some L → ∃ w', (convert s s (.slice (some ⟨L.block, L.base + off, none⟩) n c')).run P w = .ok (.slice (some ⟨L.block, L.base + off, none⟩) n c') w' ∧ HRel ρ h w' ∧ Moves ρ h nx w ρ h nx w' := by
              intro L c' hL
              obtain ⟨M, m1, cs, fz, m2, m3, m4⟩ := H.obj o _ ho
              obtain rfl := Option.some.inj (m1.symm.trans hL)
              have hsh : w.shape? M.block = some (el', cs.size) := by unfold World.shape?; rw [m2]
              refine ⟨w.freeze ⟨M.block, cs.size, none⟩ 1, ?_, ?_, ?_⟩
              · unfold convert
                have q1 := run_under w HT hi
                have q2 := run_under w HT hk
                rw [hd] at q1
                rw [isU8_eq hu.1] at q2
                simp only [Sem.run_bind, q1, Result.andThen_ok, q2, beq_self_eq_true]
                simp [markStringish, hsh]
              · have hb : (w.freeze ⟨M.block, cs.size, none⟩ 1).heap[M.block]? = some (.cells cs el' (if fz.1 == fz.2 then (cs.size, cs.size + 1) else (min fz.1 cs.size, max fz.2 (cs.size + 1)))) := by
                  unfold World.freeze
                  simp [Array.getElem?_modify, m2]
                refine H.touch ho m1 ?_ ⟨cs, _, hb, ?_, m4⟩
                · intro b hne
                  unfold World.freeze
                  simp [Array.getElem?_modify, Ne.symm hne]
                · rcases m3 with rfl | m3
                  · exact .inr (by simp)
                  · right
                    split
                    · simp
                    · simp; omega
              · refine Moves.touch ho m1 ?_ ?_ ?_ ?_ ?_
                · unfold World.freeze; simp
                · unfold World.freeze; simp
                · unfold World.freeze; simp
                · unfold World.freeze; simp
                · intro b hne
                  unfold World.freeze
                  simp [Array.getElem?_modify, Ne.symm hne]
            cases hx with
            | slE hL hc hn =>
              obtain ⟨w', a, b, d⟩ := go _ _ hL
              exact ⟨ρ, _, w', a, .slE hL hc hn, b, d⟩
            | slO hL hE hc hn =>
              obtain ⟨w', a, b, d⟩ := go _ _ hL
              exact ⟨ρ, _, w', a, .slO hL hE hc hn, b, d⟩
            | slL => have := hu.2; simp at this
          · cases e
      · cases e
  · cases e
end

section
/-- the cells of the first n elements of a slice or a string. -/
def aFirst (h : Heap) (size n : Nat) (x : Value) : Option (List Value) :=
  match x with
  | .slice none 0 0 => cnd (Nat.beq n 0) (some []) none
  | .slice (some ⟨o, off, none⟩) _ cap => cnd (Nat.beq (n * size) 0) (some []) (cnd (Nat.beq cap openCap) none (ob (h.get o) fun ob' => match ob' with
      | .cells c _ _ => cnd (Nat.ble (off + n * size) c.length) (some ((c.drop off).take (n * size))) none
      | _ => none))
  | .string s => some ((s.data.toList.take n).map fun b => .int .u8 (Int.ofNat b.toNat))
  | _ => none

theorem load0 (P : Program) (a : Addr) (w : World) : (loadCells a 0).run P w = .ok #[] w := by
  simp [loadCells, loadCellsFrom]

theorem first_sim {P : Program} {ρ : Ren} {h : Heap} {w : World} (H : HRel ρ h w) {size n : Nat} {x x' : Value} (hx : VRel ρ x x') {cs : List Value} (e : aFirst h size n x = some cs) :
    ∃ vs, (Builtin.firstCells size n x').run P w = .ok vs w ∧ VRels ρ cs vs.toList := by
  unfold aFirst at e
  split at e
  · cases hx
    cases h0 : Nat.beq n 0 with
    | false => simp [h0] at e
    | true =>
      simp only [h0, cnd_true, Option.some.injEq] at e
      subst e
      exact ⟨#[], rfl, .nil⟩
  · rename_i o off len cap
    cases h0 : Nat.beq (n * size) 0 with
    | true =>
      simp only [h0, cnd_true, Option.some.injEq] at e
      subst e
      have hz := Nat.eq_of_beq_eq_true h0
      refine ⟨#[], ?_, .nil⟩
      cases hx <;> (unfold Builtin.firstCells; simp only [hz]; exact load0 P _ w)
    | false =>
      simp only [h0, cnd_false] at e
      cases hcap : Nat.beq cap openCap with
      | true => simp [hcap] at e
      | false =>
        simp only [hcap, cnd_false] at e
        replace e := ob_some e
        obtain ⟨obj, ho, e⟩ := e
        split at e
        · rename_i c el opn
          cases hb : Nat.ble (off + n * size) c.length with
          | false => simp [hb] at e
          | true =>
            simp only [hb, cnd_true, Option.some.injEq] at e
            subst e
            have hle := Nat.le_of_ble_eq_true hb
            cases hx with
            | slE hL _ _ => exact H.load P ho hL hle
            | slO hL _ _ _ => exact H.load P ho hL hle
            | slL => simp at hcap
        · cases e
  · rename_i s
    cases hx
    obtain rfl := Option.some.inj e
    refine ⟨(s.extract 0 n).data.map fun b => .int .u8 b.toNat, rfl, ?_⟩
    have : ((s.extract 0 n).data.map fun b => Value.int .u8 (b.toNat : Int)).toList = (s.data.toList.take n).map fun b => Value.int .u8 (Int.ofNat b.toNat) := by
      simp [ByteArray.data_extract, List.extract_eq_take_drop]
    rw [this]
    have key : ∀ (l : List UInt8), VRels ρ (l.map fun b => Value.int .u8 (Int.ofNat b.toNat)) (l.map fun b => Value.int .u8 (Int.ofNat b.toNat)) := by
      intro l
      induction l with
      | nil => exact .nil
      | cons b l ih => exact .cons (.int _ _) ih
    exact key _
  · cases e

def aLenOf (x : Value) : Option Nat :=
  match x with
  | .slice _ n _ => some n
  | .string s => some s.data.toList.length
  | _ => none

theorem lenOf_sim {P : Program} {ρ : Ren} {x x' : Value} (hx : VRel ρ x x') {n : Nat} (e : aLenOf x = some n) (w : World) : (Builtin.lenOf x').run P w = .ok n w := by
  unfold aLenOf at e
  split at e
  · obtain rfl := Option.some.inj e
    cases hx <;> rfl
  · cases hx; obtain rfl := Option.some.inj e; rfl
  · cases e

def aSlLen (x : Value) : Option Nat :=
  match x with
  | .slice _ n _ => some n
  | _ => none

theorem slLen_sim {ρ : Ren} {x x' : Value} (hx : VRel ρ x x') {n : Nat} (e : aSlLen x = some n) : ∃ b c, x' = .slice b n c := by
  unfold aSlLen at e
  split at e
  · obtain rfl := Option.some.inj e
    cases hx <;> exact ⟨_, _, rfl⟩
  · cases e

def stOpt (b : Option Addr) (l : List Value) : Sem Unit :=
  match b with
  | some a => storeCells a l
  | none => pure ()

def aCopy (T : TT) (h : Heap) (t : TypeId) (dst src : Value) : Option (Value × Heap) :=
  ob (T.get t) fun i => match i.desc with
    | .slice e => ob (T.get e) fun j => ob (aLenOf src) fun l => ob (aSlLen dst) fun d =>
        ob (aFirst h j.size (Nat.min l d) src) fun cs =>
          cnd (Nat.beq cs.length 0) (some (.int .i64 (Int.ofNat (Nat.min l d)), h))
            (match dst with
              | .slice (some ⟨o, off, none⟩) _ cap => cnd (Nat.beq cap openCap) none (ob (h.get o) fun ob' => match ob' with
                | .cells c el opn => cnd (Nat.ble (off + cs.length) c.length && ones cs) (some (.int .i64 (Int.ofNat (Nat.min l d)), h.set o (.cells (putL off cs c) el opn))) none
                | _ => none)
              | _ => none)
    | _ => none

theorem copy_sim {P : Program} {T : TT} (HT : TOk P T) {ρ : Ren} {h h' : Heap} {w : World} (H : HRel ρ h w) (nx : Nat) {ts : Array TypeId} {t rt : TypeId} (ht : ts[0]? = some t) {xs' : Array Value} {x x' y y' : Value} (hx' : xs'[0]? = some x') (hy' : xs'[1]? = some y')
    (hx : VRel ρ x x') (hy : VRel ρ y y') {v : Value} (e : aCopy T h t x y = some (v, h')) : Good ρ h nx w v h' nx ((Builtin.copy_ ts rt xs').run P w) := by
  replace e := ob_some e
  obtain ⟨i, hi, e⟩ := e
  split at e
  · rename_i el hd
    replace e := ob_some e
    obtain ⟨j, hj, e⟩ := e
    replace e := ob_some e
    obtain ⟨l, hl, e⟩ := e
    replace e := ob_some e
    obtain ⟨d, hdl, e⟩ := e
    replace e := ob_some e
    obtain ⟨cs, hcs, e⟩ := e
    obtain ⟨vs, p1, p2⟩ := first_sim (P := P) H hy hcs
    have hlen := p2.length
    have hvs : vs.toList.length = vs.size := rfl
    have q1 := lenOf_sim (P := P) hy hl w
    obtain ⟨b, c', hb⟩ := slLen_sim hx hdl
    have pre : ∀ (r : Result Unit), (stOpt b vs.toList).run P w = r → ∀ w', r = .ok () w' → (Builtin.copy_ ts rt xs').run P w = .ok (.int .i64 (Int.ofNat (Nat.min l d))) w' := by
      intro r hr w' hw
      subst hr
      unfold Builtin.copy_
      simp only [ht, hx', hy', hb, Sem.run_bind, run_under w HT hi, hd, Result.andThen_ok, q1, run_sizeOf w HT hj, p1]
      cases b with
      | none =>
        have hw : Result.ok () w = Result.ok () w' := hw
        simp only [Result.ok.injEq, true_and] at hw
        subst hw
        rfl
      | some a =>
        have hw : (storeCells a vs.toList).run P w = .ok () w' := hw
        simp only [Sem.run_bind, hw, Result.andThen_ok]
        rfl
    cases h0 : Nat.beq cs.length 0 with
    | true =>
      simp only [h0, cnd_true, Option.some.injEq, Prod.mk.injEq] at e
      obtain ⟨rfl, rfl⟩ := e
      have hz := Nat.eq_of_beq_eq_true h0
      have hnil : vs.toList = [] := List.length_eq_zero_iff.1 (by omega)
      refine ⟨ρ, _, w, pre _ rfl w ?_, .int _ _, H, Moves.refl _ _ _ _⟩
      unfold stOpt
      cases b with
      | none => rfl
      | some a => simp [hnil, storeCells]
    | false =>
      simp only [h0, cnd_false] at e
      split at e
      · rename_i o off n cap
        cases hcap : Nat.beq cap openCap with
        | true => simp [hcap] at e
        | false =>
          simp only [hcap, cnd_false] at e
          replace e := ob_some e
          obtain ⟨obj, ho, e⟩ := e
          split at e
          · rename_i c el' opn
            cases hc : (Nat.ble (off + cs.length) c.length && ones cs) with
            | false => simp [hc] at e
            | true =>
              simp only [hc, cnd_true, Option.some.injEq, Prod.mk.injEq] at e
              obtain ⟨rfl, rfl⟩ := e
              simp only [Bool.and_eq_true] at hc
              have go : ∀ L, ρ o = some L → b = some ⟨L.block, L.base + off, none⟩ → Good ρ h nx w (.int .i64 (Int.ofNat (Nat.min l d))) (h.set o (.cells (putL off cs c) el' opn)) nx ((Builtin.copy_ ts rt xs').run P w) := by
                intro L hL hbb
                obtain ⟨w', a1, a2, a3⟩ := H.store P ho hL p2 (ones_rel _ hc.2 p2) (off := off) (Nat.le_of_ble_eq_true hc.1) nx
                exact ⟨ρ, _, w', pre _ rfl w' (by rw [hbb]; exact a1), .int _ _, a2, a3⟩
              subst hb
              cases hx with
              | slE hL _ _ => exact go _ hL rfl
              | slO hL _ _ _ => exact go _ hL rfl
              | slL => simp at hcap
          · cases e
      · cases e
  · cases e

def aClear (T : TT) (h : Heap) (t : TypeId) (x : Value) : Option Heap :=
  ob (T.get t) fun i => match i.desc, x with
    | .slice _, .slice none 0 0 => some h
    | .slice _, .slice (some _) 0 _ => some h
    | .slice e, .slice (some ⟨o, off, none⟩) n cap => ob (T.get e) fun j => ob (j.zero) fun z => cnd (Nat.beq cap openCap) none (ob (h.get o) fun ob' => match ob' with
        | .cells c el opn => cnd (Nat.blt 0 z.cells.size && Nat.ble (off + n * z.cells.size) c.length && ones z.cells.toList) (some (h.set o (.cells (putL off (rep n z.cells.toList) c) el opn))) none
        | _ => none)
    | _, _ => none

theorem ones_append : ∀ (a b : List Value), ones a = true → ones b = true → ones (a ++ b) = true
  | [], _, _, h => h
  | x :: a, b, h, h2 => by
    cases x <;> first
      | (simp [ones] at h; done)
      | exact ones_append a b h h2

theorem ones_rep (l : List Value) (h : ones l = true) : ∀ n, ones (rep n l) = true
  | 0 => rfl
  | n + 1 => ones_append _ _ h (ones_rep l h n)

theorem clear_sim {P : Program} {T : TT} (HT : TOk P T) {ρ : Ren} {h h' : Heap} {w : World} (H : HRel ρ h w) (nx : Nat) {ts : Array TypeId} {t rt : TypeId} (ht : ts[0]? = some t) {xs' : Array Value} {x x' : Value} (hx' : xs'[0]? = some x')
    (hx : VRel ρ x x') (e : aClear T h t x = some h') : Good ρ h nx w (.tuple #[]) h' nx ((Builtin.clear_ ts rt xs').run P w) := by
  replace e := ob_some e
  obtain ⟨i, hi, e⟩ := e
  have empty : ∀ y : Value, VRel ρ (.tuple #[]) (.tuple #[]) := fun _ => .tuple .nil
  split at e
  · rename_i el hd
    cases hx
    obtain rfl := Option.some.inj e
    refine ⟨ρ, .tuple #[], w, ?_, empty .nilFunc, H, Moves.refl _ _ _ _⟩
    unfold Builtin.clear_
    simp only [ht, hx', Sem.run_bind, run_under w HT hi, hd, Result.andThen_ok]
    rfl
  · rename_i el a cap hd
    obtain rfl := Option.some.inj e
    refine ⟨ρ, .tuple #[], w, ?_, empty .nilFunc, H, Moves.refl _ _ _ _⟩
    unfold Builtin.clear_
    simp only [ht, hx', Sem.run_bind, run_under w HT hi, hd, Result.andThen_ok]
    cases hx <;> rfl
  · rename_i el o off n cap hne hd
    replace e := ob_some e
    obtain ⟨j, hj, e⟩ := e
    replace e := ob_some e
    obtain ⟨z, hz, e⟩ := e
    cases hcap : Nat.beq cap openCap with
    | true => simp [hcap] at e
    | false =>
      simp only [hcap, cnd_false] at e
      replace e := ob_some e
      obtain ⟨obj, ho, e⟩ := e
      split at e
      · rename_i c el' opn
        cases hc : (Nat.blt 0 z.cells.size && Nat.ble (off + n * z.cells.size) c.length && ones z.cells.toList) with
        | false => rw [hc] at e; cases e
        | true =>
          rw [hc] at e
          obtain rfl := Option.some.inj e
          simp only [Bool.and_eq_true] at hc
          have hzc := closedV_cells (zero_closed HT hj hz) (ρ := ρ)
          have hr := rep_rel hzc n
          have hrl := rep_length z.cells.toList n
          have hs : z.cells.toList.length = z.cells.size := rfl
          have go : ∀ (L : Loc) (c' : Nat), ρ o = some L → x' = .slice (some ⟨L.block, L.base + off, none⟩) n c' → Good ρ h nx w (.tuple #[]) (h.set o (.cells (putL off (rep n z.cells.toList) c) el' opn)) nx ((Builtin.clear_ ts rt xs').run P w) := by
            intro L c' hL hxx
            obtain ⟨w', a1, a2, a3⟩ := H.store P ho hL hr (ones_rel _ (ones_rep _ hc.2 n) hr) (off := off) (by have := Nat.le_of_ble_eq_true hc.1.2; rw [hrl, hs]; exact this) nx
            refine ⟨ρ, .tuple #[], w', ?_, empty .nilFunc, a2, a3⟩
            have hzz : (Builtin.zeroCells z.cells n).toList = rep n z.cells.toList := range_rep z.cells (blt_lt hc.1.1) n
            unfold Builtin.clear_
            simp only [ht, hx', hxx, Sem.run_bind, run_under w HT hi, hd, Result.andThen_ok]
            cases n with
            | zero => exact False.elim (by first | exact hne ⟨o, off, none⟩ | exact hne rfl)
            | succ n =>
              simp only [run_zeroOf w HT hj hz, Result.andThen_ok, hzz, a1]
              rfl
          cases hx with
          | slE hL _ _ => exact go _ _ hL rfl
          | slO hL _ _ _ => exact go _ _ hL rfl
          | slL => simp at hcap
      · cases e
  · cases e
end

section
def isIntD : TypeDesc → Bool
  | .int _ => true
  | _ => false

/-- what is added: how many elements, and their cells; an element type's row 'j', the row of what is handed over 'ix'. -/
def aNew (h : Heap) (j ix : TyI) (x : Value) : Option (Nat × List Value) :=
  cnd (isIntD ix.desc)
    (match x with
      | .int _ (.ofNat m) => cnd (Nat.blt m 9223372036854775808 && Nat.ble (m * j.bytes) 281474976710656) (ob (aZeros j m) fun zs => some (m, zs)) none
      | _ => none)
    (ob (aLenOf x) fun n => ob (aFirst h j.size n x) fun cs => some (n, cs))

/-- the program that yields what is added. -/
def addS (z : Bool) (size n : Nat) (e : TypeId) (x : Value) : Sem (Array Value) :=
  if !z then Builtin.firstCells size n x
  else if n * size = 0 then pure #[]
  else do pure (Builtin.zeroCells (← zeroValue e).cells n)

theorem add_run {P : Program} {T : TT} (HT : TOk P T) {ρ : Ren} {h : Heap} {w : World} (H : HRel ρ h w) {e : TypeId} {j ix : TyI} (hj : T.get e = some j) {x x' : Value} (hx : VRel ρ x x') {n : Nat} {cs : List Value} (en : aNew h j ix x = some (n, cs)) :
    ∃ vs, (addS (isIntD ix.desc) j.size n e x').run P w = .ok vs w ∧ VRels ρ cs vs.toList := by
  unfold aNew at en
  unfold addS
  cases hz : isIntD ix.desc with
  | false =>
    simp only [hz, cnd_false] at en
    replace en := ob_some en
    obtain ⟨n', h1, en⟩ := en
    replace en := ob_some en
    obtain ⟨cs', h2, en⟩ := en
    obtain ⟨rfl, rfl⟩ : n' = n ∧ cs' = cs := by simpa using Option.some.inj en
    simpa using first_sim (P := P) H hx h2
  | true =>
    simp only [hz, cnd_true] at en
    split at en
    · rename_i k m
      cases hc : (Nat.blt m 9223372036854775808 && Nat.ble (m * j.bytes) 281474976710656) with
      | false => simp [hc] at en
      | true =>
        simp only [hc, cnd_true] at en
        replace en := ob_some en
        obtain ⟨zs, h2, en⟩ := en
        obtain ⟨rfl, rfl⟩ : m = n ∧ zs = cs := by simpa using Option.some.inj en
        unfold aZeros at h2
        rw [cond_beq] at h2
        by_cases h0 : m * j.size = 0
        · rw [if_pos h0] at h2
          obtain rfl := Option.some.inj h2
          exact ⟨#[], by simp [h0], .nil⟩
        · rw [if_neg h0] at h2
          replace h2 := ob_some h2
          obtain ⟨z, hz1, h2⟩ := h2
          rw [cond_beq] at h2
          by_cases hs : z.cells.size = j.size
          · rw [if_pos hs] at h2
            obtain rfl := Option.some.inj h2
            refine ⟨Builtin.zeroCells z.cells m, ?_, ?_⟩
            · simp [h0, run_zeroOf w HT hj hz1]
            · have hp : 0 < z.cells.size := by
                rcases Nat.eq_zero_or_pos z.cells.size with q | q
                · rw [hs] at q; rw [q] at h0; simp at h0
                · exact q
              have := range_rep z.cells hp m
              unfold Builtin.zeroCells
              rw [this]
              exact rep_rel (closedV_cells (zero_closed HT hj hz1)) m
          · rw [if_neg hs] at h2; cases h2
    · cases en

/-- what append asks of its arguments, in one bundle. -/
structure AppArgs (P : Program) (w : World) (ts : Array TypeId) (xs : Array Value) (st xt e : TypeId) (dx : TypeDesc) (inf : TypeInfo) (b : Option Addr) (len c : Nat) (x : Value) (n : Nat) : Prop where
  h0 : ts[0]? = some st
  h1 : ts[1]? = some xt
  x0 : xs[0]? = some (.slice b len c)
  x1 : xs[1]? = some x
  us : P.underlying st = some (.slice e)
  ux : P.underlying xt = some dx
  ie : P.info? e = some inf
  num : (isIntD dx = false ∧ (Builtin.lenOf x).run P w = .ok n w) ∨ (isIntD dx = true ∧ (∃ k, x = .int k (Int.ofNat n)) ∧ n < 9223372036854775808 ∧ n * inf.bytes ≤ 281474976710656)

theorem app_in {P : Program} {w : World} {ts : Array TypeId} {rt : TypeId} {xs : Array Value} {st xt e : TypeId} {dx : TypeDesc} {inf : TypeInfo} {b : Option Addr} {len c : Nat} {x : Value} {n : Nat}
    (A : AppArgs P w ts xs st xt e dx inf b len c x n) (hle : len + n ≤ c) {vs : Array Value} (ha : (addS (isIntD dx) inf.size n e x).run P w = .ok vs w) {w' : World}
    (hs : (stOpt (b.map (·.add (len * inf.size))) vs.toList).run P w = .ok () w') :
    (Builtin.append_ ts rt xs).run P w = .ok (.slice b (len + n) c) w' := by
  obtain ⟨h0, h1, x0, x1, us, ux, ie, num⟩ := A
  unfold Builtin.append_
  have q1 : (underlying st).run P w = .ok (.slice e) w := by simp [underlying, us]
  have q2 : (underlying xt).run P w = .ok dx w := by simp [underlying, ux]
  have q3 : (typeInfo e).run P w = .ok inf w := by simp [typeInfo, ie]
  have q4 : (sizeOf e).run P w = .ok inf.size w := by simp [sizeOf, q3]
  have fin : ((match b with | some a => (storeCells (a.add (len * inf.size)) vs.toList) | none => pure ()) : Sem Unit).run P w = .ok () w' := by
    cases b <;> exact hs
  rcases num with ⟨hz, hn⟩ | ⟨hz, ⟨k, rfl⟩, hlt, hby⟩
  · simp only [addS, hz, Bool.not_false, if_true] at ha
    cases dx <;> first
      | (cases hz; done)
      | (cases b with
          | none =>
            simp only [Sem.run_pure] at fin
            cases fin
            simp only [h0, h1, x0, x1, Sem.run_bind, q1, q4, q2, Result.andThen_ok, Sem.run_pure, Bool.false_eq_true, if_false, hn, if_pos hle, Bool.not_false, if_true, ha]
          | some a =>
            simp only [h0, h1, x0, x1, Sem.run_bind, q1, q4, q2, Result.andThen_ok, Sem.run_pure, Bool.false_eq_true, if_false, hn, if_pos hle, Bool.not_false, if_true, ha, fin])
  · simp only [addS, hz, Bool.not_true, Bool.false_eq_true, if_false] at ha
    have e1 := wrap_nat hlt
    have c1 : ¬ (Int.ofNat n < 0) := by simp
    have c2 : ¬ (Int.ofNat n * (inf.bytes : Int) > 2 ^ 48) := by
      have : ((n * inf.bytes : Nat) : Int) ≤ 281474976710656 := by omega
      simp only [Int.ofNat_eq_natCast, Int.natCast_mul] at this ⊢
      omega
    have e2 : (Int.ofNat n).toNat = n := rfl
    cases dx <;> first
      | (cases hz; done)
      | (cases b with
          | none =>
            simp only [Sem.run_pure] at fin
            cases fin
            simp only [h0, h1, x0, x1, Sem.run_bind, q1, q4, q2, q3, Result.andThen_ok, Sem.run_pure, if_true, asInt, asIntOf, e1, if_neg c1, if_neg c2, e2, if_pos hle, Bool.not_true, Bool.false_eq_true, if_false, ha]
          | some a =>
            simp only [h0, h1, x0, x1, Sem.run_bind, q1, q4, q2, q3, Result.andThen_ok, Sem.run_pure, if_true, asInt, asIntOf, e1, if_neg c1, if_neg c2, e2, if_pos hle, Bool.not_true, Bool.false_eq_true, if_false, ha, fin])

def drew1 (w : World) : World := { w with drawn := w.drawn + 1 }

theorem app_grow {P : Program} {w : World} {ts : Array TypeId} {rt : TypeId} {xs : Array Value} {st xt e : TypeId} {dx : TypeDesc} {inf : TypeInfo} {b : Option Addr} {len c : Nat} {x : Value} {n : Nat}
    (A : AppArgs P w ts xs st xt e dx inf b len c x n) (hgt : c < len + n) (hneed : len + n < 9223372036854775808) (hcap : Builtin.nextslicecap (len + n) c * inf.bytes ≤ 281474976710656)
    {old vs : Array Value} {z : Value} (hold : (Builtin.firstCells inf.size len (.slice b len c)).run P (drew1 w) = .ok old (drew1 w)) (ha : (addS (isIntD dx) inf.size n e x).run P (drew1 w) = .ok vs (drew1 w)) (hz : inf.zero = some z) :
    ∃ cap, len + n ≤ cap ∧ (Builtin.append_ ts rt xs).run P w = .ok (.slice (some ⟨w.heap.size, 0, none⟩) (len + n) cap) { drew1 w with heap := w.heap.push (.cells (old ++ vs ++ Builtin.zeroCells z.cells (cap - (len + n))) e) } := by
  obtain ⟨h0, h1, x0, x1, us, ux, ie, num⟩ := A
  refine ⟨Question.cut (.appendCap (len + n) c e) (w.tape w.drawn (.appendCap (len + n) c e)), by simp [Question.cut], ?_⟩
  generalize hk : Question.cut (.appendCap (len + n) c e) (w.tape w.drawn (.appendCap (len + n) c e)) = cap
  unfold Builtin.append_
  have q1 : (underlying st).run P w = .ok (.slice e) w := by simp [underlying, us]
  have q2 : (underlying xt).run P w = .ok dx w := by simp [underlying, ux]
  have q3 : ∀ w, (typeInfo e).run P w = .ok inf w := fun w => by simp [typeInfo, ie]
  have q4 : (sizeOf e).run P w = .ok inf.size w := by simp [sizeOf, q3]
  have q5 : ∀ w, (zeroValue e).run P w = .ok z w := fun w => by simp [zeroValue, q3, hz]
  have q6 : (choose (.appendCap (len + n) c e)).run P w = .ok cap (drew1 w) := by
    rw [run_choose]
    simp [Question.forced, hk, drew1]
  have g1 : ¬ (len + n ≤ c) := by omega
  have g2 : ∀ p : Prop, ¬ (((len + n : Nat) : Int) > IntKind.i64.max ∧ p) := fun p => by
    have : IntKind.i64.max = 9223372036854775807 := rfl
    rw [this]; omega
  have g3 : ¬ (Builtin.nextslicecap (len + n) c * inf.bytes > 2 ^ 48) := by omega
  have q7 : ∀ cs, (newRow e cs).run P (drew1 w) = .ok ⟨w.heap.size, 0, none⟩ { drew1 w with heap := w.heap.push (.cells cs e) } := fun cs => by
    unfold newRow; simp [drew1]; try rfl
  rcases num with ⟨hzz, hn⟩ | ⟨hzz, ⟨k, rfl⟩, hlt, hby⟩
  · simp only [addS, hzz, Bool.not_false, if_true] at ha
    cases dx <;> first
      | (cases hzz; done)
      | (simp only [h0, h1, x0, x1, Sem.run_bind, q1, q4, q2, q3, Result.andThen_ok, Sem.run_pure, Bool.false_eq_true, if_false, hn, if_neg g1, if_neg (g2 _), if_neg g3, q6, run_askRoom, hold, Bool.not_false, if_true, ha, q5, q7])
  · simp only [addS, hzz, Bool.not_true, Bool.false_eq_true, if_false] at ha
    have e1 := wrap_nat hlt
    have c1 : ¬ (Int.ofNat n < 0) := by simp
    have c2 : ¬ (Int.ofNat n * (inf.bytes : Int) > 2 ^ 48) := by
      have : ((n * inf.bytes : Nat) : Int) ≤ 281474976710656 := by omega
      simp only [Int.ofNat_eq_natCast, Int.natCast_mul] at this ⊢
      omega
    have e2 : (Int.ofNat n).toNat = n := rfl
    cases dx <;> first
      | (cases hzz; done)
      | (simp only [h0, h1, x0, x1, Sem.run_bind, q1, q4, q2, q3, Result.andThen_ok, Sem.run_pure, if_true, asInt, asIntOf, e1, if_neg c1, if_neg c2, e2, if_neg g1, if_neg (g2 _), if_neg g3, q6, run_askRoom, hold, Bool.not_true, Bool.false_eq_true, if_false, ha, q5, q7])
end

section
theorem Moves.sub {ρ ρ' : Ren} {h h' h'' : Heap} {n n' : Nat} {w w' : World} (M : Moves ρ h n w ρ' h' n' w') (s : ∀ o ob, h''.get o = some ob → h'.get o ≠ none) : Moves ρ h n w ρ' h'' n' w' where
  os := M.os
  tape := M.tape
  output := M.output
  size := M.size
  block := M.block
  owned b hb ho := by
    obtain ⟨o, ob', L, h1, h2, h3⟩ := ho
    cases hg : h'.get o with
    | none => exact absurd hg (s o ob' h1)
    | some x => exact M.owned b hb ⟨o, x, L, hg, h2, h3⟩
  le := M.le
  ren := M.ren

/-- an object goes over into a new one, in the same block. -/
theorem HRel.move {ρ : Ren} {h : Heap} {w w' : World} (H : HRel ρ h w) {o nx : Nat} (hn : ρ nx = none) {ob ob' : AObj} {L L' : Loc} (ho : h.get o = some ob) (hρ : ρ o = some L) (hb : L'.block = L.block)
    (he : ∀ b, b ≠ L.block → w'.heap[b]? = w.heap[b]?) (hO : ORel (ρ.with nx L') w' L' ob') : HRel (ρ.with nx L') ((h.del o).set nx ob') w' where
  obj p x hp := by
    rw [Tr.get_set] at hp
    by_cases e : p = nx
    · rw [if_pos e] at hp; subst e; obtain rfl := Option.some.inj hp; exact ⟨L', Ren.with_self _ _ _, hO⟩
    · rw [if_neg e, Tr.get_del] at hp
      by_cases e2 : p = o
      · rw [if_pos e2] at hp; cases hp
      · rw [if_neg e2] at hp
        obtain ⟨M, h1, h2⟩ := H.obj p x hp
        refine ⟨M, Ren.with_ext hn _ _ h1, (h2.mono (Ren.with_ext hn)).block (he _ fun hbb => e2 ?_)⟩
        exact H.inj p o M L x ob hp ho h1 hρ hbb
  inj p q M M' x y hp hq r1 r2 hbb := by
    rw [Tr.get_set] at hp hq
    have key : ∀ (q : Nat) (y : AObj) (M' : Loc), q ≠ nx → (h.del o).get q = some y → ρ.with nx L' q = some M' → L'.block = M'.block → False := by
      intro q y M' e hq r2 hbb
      rw [Tr.get_del] at hq
      by_cases e2 : q = o
      · rw [if_pos e2] at hq; cases hq
      · rw [if_neg e2] at hq
        rw [Ren.with_other e] at r2
        exact e2 (H.inj q o M' L y ob hq ho r2 hρ (by rw [← hbb, hb]))
    by_cases e : p = nx
    · by_cases e' : q = nx
      · rw [e, e']
      · rw [if_neg e'] at hq
        rw [e, Ren.with_self] at r1
        obtain rfl := Option.some.inj r1
        exact (key q y M' e' hq r2 hbb).elim
    · rw [if_neg e] at hp
      by_cases e' : q = nx
      · rw [e', Ren.with_self] at r2
        obtain rfl := Option.some.inj r2
        exact (key p x M e hp r1 hbb.symm).elim
      · rw [if_neg e'] at hq
        rw [Tr.get_del] at hp hq
        by_cases e2 : p = o
        · rw [if_pos e2] at hp; cases hp
        · by_cases e3 : q = o
          · rw [if_pos e3] at hq; cases hq
          · rw [if_neg e2] at hp
            rw [if_neg e3] at hq
            rw [Ren.with_other e] at r1
            rw [Ren.with_other e'] at r2
            exact H.inj p q M M' x y hp hq r1 r2 hbb

theorem Moves.move {ρ : Ren} {h : Heap} {nx : Nat} {w w' : World} {o : Nat} (_ : ρ nx = none) {ob ob' : AObj} {L L' : Loc} (ho : h.get o = some ob) (hρ : ρ o = some L) (hb : L'.block = L.block)
    (h1 : w'.os = w.os) (h2 : w'.tape = w.tape) (h3 : w'.output = w.output) (h4 : w'.heap.size = w.heap.size) (he : ∀ b, b ≠ L.block → w'.heap[b]? = w.heap[b]?) :
    Moves ρ h nx w (ρ.with nx L') ((h.del o).set nx ob') (nx + 1) w' where
  os := h1
  tape := h2
  output := h3
  size := Nat.le_of_eq h4.symm
  block b _ hbb := he b fun e => hbb ⟨o, ob, L, ho, hρ, e.symm⟩
  owned b _ hbb := by
    obtain ⟨p, x, M, a1, a2, a3⟩ := hbb
    rw [Tr.get_set] at a1
    by_cases e : p = nx
    · rw [e, Ren.with_self] at a2
      obtain rfl := Option.some.inj a2
      exact ⟨o, ob, L, ho, hρ, by rw [← hb]; exact a3⟩
    · rw [if_neg e, Tr.get_del] at a1
      by_cases e2 : p = o
      · rw [if_pos e2] at a1; cases a1
      · rw [if_neg e2] at a1
        rw [Ren.with_other e] at a2
        exact ⟨p, x, M, a1, a2, a3⟩
  le := Nat.le_succ _
  ren p hp := Ren.with_other (by omega)

theorem growBy_le (newLen : Nat) : ∀ (r c : Nat), Builtin.growBy newLen r c ≤ max c (newLen + (newLen + 768) / 4)
  | 0, c => by simp only [Builtin.growBy]; omega
  | r + 1, c => by
    unfold Builtin.growBy
    split
    · omega
    · have := growBy_le newLen r (c + (c + 768) / 4)
      omega

theorem nextcap_le {need c : Nat} (h : c < need) : Builtin.nextslicecap need c ≤ 2 * need + 768 := by
  unfold Builtin.nextslicecap
  split
  · omega
  · split
    · omega
    · have := growBy_le need 4 c
      omega

/-- a new row behind append. -/
def aGrow (h : Heap) (nx : Nat) (e : TypeId) (j : TyI) (need : Nat) (bound : Nat) (cells : List Value) : Option (Value × Heap × Nat) :=
  ob j.zero fun z => cnd (Nat.blt need 9223372036854775808 && Nat.blt 0 j.size && Nat.beq z.cells.size j.size && Nat.ble (bound * j.bytes) 281474976710656 && Nat.beq cells.length (need * j.size))
    (some (.slice (some ⟨nx, 0, none⟩) need (openCap + j.size), h.set nx (.cells cells e true), nx + 1)) none

theorem grow_sim {P : Program} {T : TT} (HT : TOk P T) {ρ : Ren} {h h' : Heap} {nx nx' : Nat} {w : World} (H : HRel ρ h w) (hn : nx < nx' → ρ nx = none) {e : TypeId} {j : TyI} (hj : T.get e = some j) {inf : TypeInfo} (hie : P.info? e = some inf)
    {ts : Array TypeId} {rt : TypeId} {xs : Array Value} {st xt : TypeId} {dx : TypeDesc} {b : Option Addr} {len c : Nat} {x : Value} {n : Nat} (A : AppArgs P w ts xs st xt e dx inf b len c x n) (hgt : c < len + n) {bound : Nat} (hbd : Builtin.nextslicecap (len + n) c ≤ bound)
    {oldc newc : List Value} (hold : ∃ old, (Builtin.firstCells inf.size len (.slice b len c)).run P (drew1 w) = .ok old (drew1 w) ∧ VRels ρ oldc old.toList)
    (hnew : ∃ vs, (addS (isIntD dx) inf.size n e x).run P (drew1 w) = .ok vs (drew1 w) ∧ VRels ρ newc vs.toList) {v : Value} (eg : aGrow h nx e j (len + n) bound (oldc ++ newc) = some (v, h', nx')) :
    nx' = nx + 1 ∧ Good ρ h nx w v h' nx' ((Builtin.append_ ts rt xs).run P w) := by
  replace eg := ob_some eg
  obtain ⟨z, hz, eg⟩ := eg
  cases hc : (Nat.blt (len + n) 9223372036854775808 && Nat.blt 0 j.size && Nat.beq z.cells.size j.size && Nat.ble (bound * j.bytes) 281474976710656 && Nat.beq (oldc ++ newc).length ((len + n) * j.size)) with
  | false => rw [hc] at eg; cases eg
  | true =>
    rw [hc] at eg
    simp only [cnd_true, Option.some.injEq, Prod.mk.injEq] at eg
    obtain ⟨rfl, rfl, rfl⟩ := eg
    have hn := hn (Nat.lt_succ_self _)
    simp only [Bool.and_eq_true] at hc
    obtain ⟨⟨⟨⟨c1, c2⟩, c3⟩, c4⟩, c5⟩ := hc
    have c1 := blt_lt c1
    have c2 := blt_lt c2
    have c3 := Nat.eq_of_beq_eq_true c3
    have c4 := Nat.le_of_ble_eq_true c4
    have c5 := Nat.eq_of_beq_eq_true c5
    obtain ⟨inf', i1, i2, i3, i4⟩ := HT.info e j hj
    obtain rfl := Option.some.inj (i1.symm.trans hie)
    refine ⟨rfl, ?_⟩
    obtain ⟨old, o1, o2⟩ := hold
    obtain ⟨vs, v1, v2⟩ := hnew
    have hb2 : Builtin.nextslicecap (len + n) c * inf'.bytes ≤ 281474976710656 := by
      rw [i3]
      exact Nat.le_trans (Nat.mul_le_mul_right _ hbd) c4
    obtain ⟨cap, k1, k2⟩ := app_grow A hgt c1 hb2 o1 v1 (i4 z hz).1
    have r := o2.append v2
    have hl := r.length
    have hl1 : old.toList.length = old.size := rfl
    have hl2 : vs.toList.length = vs.size := rfl
    have hl3 : z.cells.toList.length = z.cells.size := rfl
    have hzc : (Builtin.zeroCells z.cells (cap - (len + n))).size = (cap - (len + n)) * z.cells.size := by unfold Builtin.zeroCells; simp
    have hsize : (old ++ vs ++ Builtin.zeroCells z.cells (cap - (len + n))).size = cap * j.size := by
      simp only [Array.size_append, hzc, c3]
      simp only [List.length_append] at c5 hl
      have : cap * j.size = (len + n) * j.size + (cap - (len + n)) * j.size := by rw [← Nat.add_mul]; congr 1; omega
      omega
    refine ⟨ρ.with nx ⟨w.heap.size, 0, (old ++ vs ++ Builtin.zeroCells z.cells (cap - (len + n))).size⟩, _, _, k2, ?_, ?_, ?_⟩
    · refine .slO (off := 0) (Ren.with_self ρ nx _) c2 ?_ k1
      rw [hsize]; simp
    · refine H.fresh hn rfl (fun b hb => ?_) ⟨old ++ vs ++ Builtin.zeroCells z.cells (cap - (len + n)), (0, 0), ?_, noFrost0 _, ?_⟩
      · show (w.heap.push _)[b]? = _
        rw [Array.getElem?_push, if_neg (by omega)]
      · show (w.heap.push _)[w.heap.size]? = _
        rw [Array.getElem?_push, if_pos rfl]
      · refine CRel.mono (Ren.with_ext hn) ⟨rfl, ?_, fun h => (by cases h), fun i u hu => ?_⟩
        · simp only [Array.size_append, Nat.zero_add]
          simp only [List.length_append] at hl ⊢
          omega
        · obtain ⟨u', a1, a2⟩ := r.get hu
          refine ⟨u', ?_, a2⟩
          rw [Nat.zero_add, ← Array.getElem?_toList, Array.toList_append, Array.toList_append]
          have hi : i < (old.toList ++ vs.toList).length := by
            rcases Nat.lt_or_ge i (old.toList ++ vs.toList).length with h | h
            · exact h
            · rw [List.getElem?_eq_none h] at a1; cases a1
          rw [List.getElem?_append_left hi]
          exact a1
    · exact Moves.fresh rfl rfl rfl rfl (by simp) (fun b hb => by
        show (w.heap.push _)[b]? = _
        rw [Array.getElem?_push, if_neg (by omega)])

def aAppend (T : TT) (h : Heap) (nx : Nat) (ts : List TypeId) (s x : Value) : Option (Value × Heap × Nat) :=
  match ts with
  | st :: xt :: _ => ob (T.get st) fun i => ob (T.get xt) fun ix => match i.desc with
    | .slice e => ob (T.get e) fun j => ob (aNew h j ix x) fun (n, new) =>
        match s with
        | .slice none 0 0 => cnd (Nat.beq n 0) (some (s, h, nx)) (aGrow h nx e j (0 + n) n ([] ++ new))
        | .slice (some ⟨o, off, none⟩) len cap => cnd (Nat.beq n 0) (some (s, h, nx)) (cnd (Nat.beq cap openCap) none (ob (h.get o) fun ob' => match ob' with
          | .cells c el opn =>
            cnd (Nat.ble (off + len * j.size + new.length) c.length && Nat.beq new.length (n * j.size) && ones new && (cnd (Nat.blt cap openCap) (Nat.ble (len + n) cap) (Nat.beq cap (openCap + j.size))))
              (some (.slice (some ⟨o, off, none⟩) (len + n) cap, h.set o (.cells (putL (off + len * j.size) new c) el opn), nx))
              (cnd (Nat.blt cap openCap)
                (cnd (Nat.blt cap (len + n) && Nat.ble (off + len * j.size) c.length) (aGrow h nx e j (len + n) (Builtin.nextslicecap (len + n) cap) ((c.drop off).take (len * j.size) ++ new)) none)
                (cnd (Nat.beq cap (openCap + j.size) && opn && Nat.beq el e && Nat.beq (off + len * j.size) c.length && ones new && Nat.beq new.length (n * j.size))
                  (aGrow (h.del o) nx e j (len + n) (2 * (len + n) + 768) (c.drop off ++ new)) none))
          | _ => none))
        | _ => none
    | _ => none
  | _ => none

theorem Moves.from_sub {ρ ρ' : Ren} {h hb h' : Heap} {n n' : Nat} {w w' : World} (M : Moves ρ h n w ρ' h' n' w') (s : ∀ o ob, h.get o = some ob → hb.get o = some ob) : Moves ρ hb n w ρ' h' n' w' where
  os := M.os
  tape := M.tape
  output := M.output
  size := M.size
  block b hb' ho := M.block b hb' fun ⟨o, x, L, h1, h2, h3⟩ => ho ⟨o, x, L, s _ _ h1, h2, h3⟩
  owned b hb' ho := by
    obtain ⟨o, x, L, h1, h2, h3⟩ := M.owned b hb' ho
    exact ⟨o, x, L, s _ _ h1, h2, h3⟩
  le := M.le
  ren := M.ren

/-- what append asks for, out of what is known of the operands. -/
theorem app_args {P : Program} {T : TT} (HT : TOk P T) {ρ : Ren} {h : Heap} {w : World} {ts : Array TypeId} {xs : Array Value} {st xt e : TypeId} {i ix j : TyI} {inf : TypeInfo} (ht0 : ts[0]? = some st) (ht1 : ts[1]? = some xt) (hi : T.get st = some i) (hix : T.get xt = some ix) (hd : i.desc = .slice e) (hj : T.get e = some j)
    (hie : P.info? e = some inf) {b : Option Addr} {len c : Nat} {x x' : Value} (hx0 : xs[0]? = some (.slice b len c)) (hx1 : xs[1]? = some x') (hx : VRel ρ x x') {n : Nat} {new : List Value} (en : aNew h j ix x = some (n, new)) : AppArgs P w ts xs st xt e ix.desc inf b len c x' n := by
  obtain ⟨inf', i1, i2, i3, i4⟩ := HT.info e j hj
  obtain rfl := Option.some.inj (i1.symm.trans hie)
  refine ⟨ht0, ht1, hx0, hx1, by rw [HT.under st i hi, hd], HT.under xt ix hix, hie, ?_⟩
  unfold aNew at en
  cases hz : isIntD ix.desc with
  | false =>
    simp only [hz, cnd_false] at en
    replace en := ob_some en
    obtain ⟨n', h1, en⟩ := en
    replace en := ob_some en
    obtain ⟨cs', h2, en⟩ := en
    obtain ⟨rfl, rfl⟩ : n' = n ∧ cs' = new := by simpa using Option.some.inj en
    exact .inl ⟨rfl, lenOf_sim hx h1 w⟩
  | true =>
    simp only [hz, cnd_true] at en
    split at en
    · rename_i k m
      cases hx
      cases hc : (Nat.blt m 9223372036854775808 && Nat.ble (m * j.bytes) 281474976710656) with
      | false => simp [hc] at en
      | true =>
        simp only [hc, cnd_true] at en
        replace en := ob_some en
        obtain ⟨zs, h2, en⟩ := en
        obtain ⟨rfl, rfl⟩ : m = n ∧ zs = new := by simpa using Option.some.inj en
        simp only [Bool.and_eq_true] at hc
        exact .inr ⟨rfl, ⟨k, rfl⟩, blt_lt hc.1, by rw [i3]; exact Nat.le_of_ble_eq_true hc.2⟩
    · cases en

theorem aNew_zero {h : Heap} {j ix : TyI} {x : Value} {new : List Value} (en : aNew h j ix x = some (0, new)) : new = [] := by
  unfold aNew at en
  cases hz : isIntD ix.desc with
  | false =>
    simp only [hz, cnd_false] at en
    replace en := ob_some en
    obtain ⟨n', h1, en⟩ := en
    replace en := ob_some en
    obtain ⟨cs', h2, en⟩ := en
    obtain ⟨rfl, rfl⟩ : n' = 0 ∧ cs' = new := by simpa using Option.some.inj en
    unfold aFirst at h2
    split at h2
    · simpa using h2.symm
    · simpa using h2.symm
    · simpa using h2.symm
    · cases h2
  | true =>
    simp only [hz, cnd_true] at en
    split at en
    · rename_i k m
      cases hc : (Nat.blt m 9223372036854775808 && Nat.ble (m * j.bytes) 281474976710656) with
      | false => simp [hc] at en
      | true =>
        simp only [hc, cnd_true] at en
        replace en := ob_some en
        obtain ⟨zs, h2, en⟩ := en
        obtain ⟨rfl, rfl⟩ : m = 0 ∧ zs = new := by simpa using Option.some.inj en
        unfold aZeros at h2
        simpa using h2.symm
    · cases en

theorem append_sim {P : Program} {T : TT} (HT : TOk P T) {ρ : Ren} {h h' : Heap} {nx nx' : Nat} {w : World} (H : HRel ρ h w) (hn : nx < nx' → ρ nx = none) {ts : Array TypeId} {rt : TypeId} {xs : Array Value} {s s' x x' : Value} (hx0 : xs[0]? = some s') (hx1 : xs[1]? = some x')
    (hs : VRel ρ s s') (hx : VRel ρ x x') {v : Value} (e : aAppend T h nx ts.toList s x = some (v, h', nx')) : Good ρ h nx w v h' nx' ((Builtin.append_ ts rt xs).run P w) := by
  unfold aAppend at e
  split at e
  · rename_i st xt trest htl
    have ht0 : ts[0]? = some st := by rw [← Array.getElem?_toList, htl]; rfl
    have ht1 : ts[1]? = some xt := by rw [← Array.getElem?_toList, htl]; rfl
    replace e := ob_some e
    obtain ⟨i, hi, e⟩ := e
    replace e := ob_some e
    obtain ⟨ix, hix, e⟩ := e
    split at e
    · rename_i el hd
      replace e := ob_some e
      obtain ⟨j, hj, e⟩ := e
      replace e := ob_some e
      obtain ⟨⟨n, new⟩, hnew, e⟩ := e
      simp only at e
      obtain ⟨inf, i1, i2, i3, i4⟩ := HT.info el j hj
      have addr := fun (w : World) (Hw : HRel ρ h w) => add_run (P := P) HT Hw hj hx hnew
      have args := fun (b : Option Addr) (len c : Nat) (hxx : xs[0]? = some (.slice b len c)) => app_args (w := w) HT ht0 ht1 hi hix hd hj i1 hxx hx1 hx hnew
      -- nothing is added
      have nothing : ∀ (b : Option Addr) (len c : Nat), s' = .slice b len c → len ≤ c → n = 0 → (Builtin.append_ ts rt xs).run P w = .ok (.slice b len c) w := by
        intro b len c hss hle h0
        subst h0
        obtain rfl := aNew_zero hnew
        obtain ⟨vs, a1, a2⟩ := addr w H
        have hv : vs.toList = [] := List.length_eq_zero_iff.1 (by have := a2.length; simpa using this.symm)
        rw [← i2] at a1
        have := app_in (rt := rt) (args b len c (by rw [hx0, hss])) (by omega) a1 (w' := w) (by unfold stOpt; cases b <;> simp [hv, storeCells])
        simpa using this
      split at e
      · cases hs
        cases h0 : Nat.beq n 0 with
        | true =>
          simp only [h0, cnd_true, Option.some.injEq, Prod.mk.injEq] at e
          obtain ⟨rfl, rfl, rfl⟩ := e
          exact ⟨ρ, _, w, nothing none 0 0 rfl (Nat.le_refl _) (Nat.eq_of_beq_eq_true h0), .sl0, H, Moves.refl _ _ _ _⟩
        | false =>
          simp only [h0, cnd_false] at e
          have hpos : 0 < n := by rw [nbeq] at h0; simp at h0; omega
          have hd' : HRel ρ h (drew1 w) := H.same fun _ => rfl
          obtain ⟨vs, a1, a2⟩ := addr _ hd'
          rw [← i2] at a1
          refine (grow_sim HT H hn hj i1 (args none 0 0 hx0) (by omega) (bound := n) ?_ (oldc := []) (newc := new) ⟨#[], rfl, .nil⟩ ⟨vs, a1, a2⟩ e).2
          unfold Builtin.nextslicecap
          rw [if_pos (by omega)]
          omega
      · rename_i o off len cap
        cases h0 : Nat.beq n 0 with
        | true =>
          simp only [h0, cnd_true, Option.some.injEq, Prod.mk.injEq] at e
          obtain ⟨rfl, rfl, rfl⟩ := e
          have hz := Nat.eq_of_beq_eq_true h0
          have hs' := hs
          cases hs with
          | slE hL hc hl => exact ⟨ρ, _, w, nothing _ _ _ rfl hl hz, hs', H, Moves.refl _ _ _ _⟩
          | slO hL hE hc hl => exact ⟨ρ, _, w, nothing _ _ _ rfl hl hz, hs', H, Moves.refl _ _ _ _⟩
          | slL => exact ⟨ρ, _, w, nothing _ _ _ rfl (Nat.zero_le _) hz, hs', H, Moves.refl _ _ _ _⟩
        | false =>
          simp only [h0, cnd_false] at e
          have hpos : 0 < n := by rw [nbeq] at h0; simp at h0; omega
          cases hcap : Nat.beq cap openCap with
          | true => simp [hcap] at e
          | false =>
            simp only [hcap, cnd_false] at e
            replace e := ob_some e
            obtain ⟨obj, ho, e⟩ := e
            split at e
            · rename_i c el' opn
              have hd' : HRel ρ h (drew1 w) := H.same fun _ => rfl
              -- in place
              have inplace : ∀ (L : Loc) (c' : Nat), ρ o = some L → s' = .slice (some ⟨L.block, L.base + off, none⟩) len c' → len + n ≤ c' → off + len * j.size + new.length ≤ c.length → ones new = true →
                  ∃ w', (Builtin.append_ ts rt xs).run P w = .ok (.slice (some ⟨L.block, L.base + off, none⟩) (len + n) c') w' ∧ HRel ρ (h.set o (.cells (putL (off + len * j.size) new c) el' opn)) w' ∧ Moves ρ h nx w ρ (h.set o (.cells (putL (off + len * j.size) new c) el' opn)) nx w' := by
                intro L c' hL hss hle hfit hone
                obtain ⟨vs, a1, a2⟩ := addr w H
                rw [← i2] at a1
                obtain ⟨w', b1, b2, b3⟩ := H.store P ho hL a2 (ones_rel _ hone a2) (off := off + len * j.size) hfit nx
                refine ⟨w', ?_, b2, b3⟩
                refine app_in (rt := rt) (args _ len c' (by rw [hx0, hss])) hle a1 ?_
                show (storeCells ((⟨L.block, L.base + off, none⟩ : Addr).add (len * inf.size)) vs.toList).run P w = _
                rw [add_none, i2, Nat.add_assoc]
                exact b1
              cases hin : (Nat.ble (off + len * j.size + new.length) c.length && Nat.beq new.length (n * j.size) && ones new && (cnd (Nat.blt cap openCap) (Nat.ble (len + n) cap) (Nat.beq cap (openCap + j.size)))) with
              | true =>
                rw [hin] at e
                simp only [cnd_true, Option.some.injEq, Prod.mk.injEq] at e
                obtain ⟨rfl, rfl, rfl⟩ := e
                simp only [Bool.and_eq_true] at hin
                obtain ⟨⟨⟨g1, g2⟩, g3⟩, g4⟩ := hin
                have g1 := Nat.le_of_ble_eq_true g1
                have g2 := Nat.eq_of_beq_eq_true g2
                cases hs with
                | slE hL hc hl =>
                  have : Nat.blt cap openCap = true := by unfold Nat.blt; exact Nat.ble_eq_true_of_le hc
                  simp only [this, cnd_true] at g4
                  have g4 := Nat.le_of_ble_eq_true g4
                  obtain ⟨w', b1, b2, b3⟩ := inplace _ _ hL rfl g4 g1 g3
                  exact ⟨ρ, _, w', b1, .slE hL hc g4, b2, b3⟩
                | @slO _ _ _ E c' L hL hE hc hl =>
                  have : Nat.blt (openCap + E) openCap = false := by
                    cases hh : Nat.blt (openCap + E) openCap with
                    | false => rfl
                    | true => have := blt_lt hh; omega
                  simp only [this, cnd_false] at g4
                  have g4 := Nat.eq_of_beq_eq_true g4
                  have hEs : j.size = E := by omega
                  obtain ⟨M, m1, cs, fz, m2, m3, m4⟩ := H.obj o _ ho
                  obtain rfl := Option.some.inj (m1.symm.trans hL)
                  have k1 := m4.1
                  have k2 := m4.2.1
                  have hle : len + n ≤ c' := by
                    have : (len + n) * E ≤ c' * E := by rw [Nat.add_mul, ← hEs]; rw [← hEs] at hc; omega
                    exact Nat.le_of_mul_le_mul_right this hE
                  obtain ⟨w', b1, b2, b3⟩ := inplace _ _ hL rfl hle g1 g3
                  exact ⟨ρ, _, w', b1, .slO hL hE hc hle, b2, b3⟩
                | slL => simp at hcap
              | false =>
                rw [hin] at e
                simp only [cnd_false] at e
                cases hlt : Nat.blt cap openCap with
                | true =>
                  simp only [hlt, cnd_true] at e
                  cases hg : (Nat.blt cap (len + n) && Nat.ble (off + len * j.size) c.length) with
                  | false => rw [hg] at e; cases e
                  | true =>
                    rw [hg] at e
                    simp only [cnd_true] at e
                    simp only [Bool.and_eq_true] at hg
                    have g1 := blt_lt hg.1
                    have g2 := Nat.le_of_ble_eq_true hg.2
                    obtain ⟨vs, a1, a2⟩ := addr _ hd'
                    rw [← i2] at a1
                    cases hs with
                    | slE hL hc hl =>
                      rename_i L
                      obtain ⟨old, o1, o2⟩ := hd'.load P ho hL (off := off) (n := len * j.size) g2
                      refine (grow_sim HT H hn hj i1 (args _ len cap hx0) g1 (Nat.le_refl _) ⟨old, ?_, o2⟩ ⟨vs, a1, a2⟩ e).2
                      rw [i2]; exact o1
                    | slO hL hE hc hl => have := blt_lt hlt; omega
                    | slL => simp at hcap
                | false =>
                  simp only [hlt, cnd_false] at e
                  cases hg : (Nat.beq cap (openCap + j.size) && opn && Nat.beq el' el && Nat.beq (off + len * j.size) c.length && ones new && Nat.beq new.length (n * j.size)) with
                  | false => rw [hg] at e; cases e
                  | true =>
                    rw [hg] at e
                    simp only [cnd_true] at e
                    simp only [Bool.and_eq_true] at hg
                    obtain ⟨⟨⟨⟨⟨g1, g2⟩, g3⟩, g4⟩, g5⟩, g6⟩ := hg
                    have g1 := Nat.eq_of_beq_eq_true g1
                    obtain rfl := Nat.eq_of_beq_eq_true g3
                    have g4 := Nat.eq_of_beq_eq_true g4
                    have g6 := Nat.eq_of_beq_eq_true g6
                    have hcl := not_blt hlt
                    cases hs with
                    | slE hL hc hl => omega
                    | slL => simp at hcap
                    | @slO _ _ _ E c' L hL hE hc hl =>
                      have hEs : j.size = E := by omega
                      by_cases hfit : len + n ≤ c'
                      · -- in place, under a new number
                        obtain ⟨M, m1, cs, fz, m2, m3, m4⟩ := H.obj o _ ho
                        obtain rfl := Option.some.inj (m1.symm.trans hL)
                        obtain ⟨vs, a1, a2⟩ := addr w H
                        rw [← i2] at a1
                        have hvl := a2.length
                        have k1 := m4.1
                        have k2 := m4.2.1
                        have hmul : len * j.size + n * j.size ≤ c' * j.size := by rw [← Nat.add_mul]; exact Nat.mul_le_mul_right _ hfit
                        have hsum : M.base + off + len * j.size + vs.toList.length ≤ cs.size := by rw [← hEs] at hc; omega
                        obtain ⟨w', b1, b2, b3, b4, b5, b6, b7⟩ := run_storeCells P (k := M.base + off + len * j.size) vs.toList 0 w cs m2 m3 (by omega) (ones_rel _ g5 a2)
                        replace e := ob_some e
                        obtain ⟨z, hz, e⟩ := e
                        cases hc2 : (Nat.blt (len + n) 9223372036854775808 && Nat.blt 0 j.size && Nat.beq z.cells.size j.size && Nat.ble ((2 * (len + n) + 768) * j.bytes) 281474976710656 && Nat.beq (c.drop off ++ new).length ((len + n) * j.size)) with
                        | false => rw [hc2] at e; cases e
                        | true =>
                          rw [hc2] at e
                          simp only [cnd_true, Option.some.injEq, Prod.mk.injEq] at e
                          obtain ⟨rfl, rfl, rfl⟩ := e
                          have hn := hn (Nat.lt_succ_self _)
                          refine ⟨ρ.with nx ⟨M.block, M.base + off, M.stop⟩, .slice (some ⟨M.block, M.base + off, none⟩) (len + n) c', w', ?_, ?_, ?_, ?_⟩
                          · refine app_in (rt := rt) (args _ len c' hx0) hfit a1 ?_
                            show (storeCells ((⟨M.block, M.base + off, none⟩ : Addr).add (len * inf.size)) vs.toList).run P w = _
                            rw [add_none, i2]
                            exact b1
                          · refine .slO (off := 0) (L := ⟨M.block, M.base + off, M.stop⟩) (Ren.with_self ρ nx _) (by omega) ?_ hfit
                            rw [hEs]; exact hc
                          · refine H.move hn ho m1 rfl b3 ⟨_, fz, b2, ?_, ?_⟩
                            · show NoFrost fz (Eng.putL _ _ _).length
                              rw [putL_length]; exact m3
                            · refine CRel.mono (Ren.with_ext hn) ⟨?_, ?_, fun h => (by cases h), fun q u hu => ?_⟩
                              · show M.stop = (Eng.putL _ _ _).length
                                rw [putL_length]; exact k1
                              · show M.base + off + (c.drop off ++ new).length ≤ (Eng.putL _ _ _).length
                                rw [putL_length]
                                simp only [List.length_append, List.length_drop]
                                have : cs.toList.length = cs.size := rfl
                                omega
                              · show ∃ v', ((⟨Eng.putL (M.base + off + len * j.size + 0) vs.toList cs.toList⟩ : Array Value))[M.base + off + q]? = some v' ∧ _
                                rw [List.getElem?_toArray, Nat.add_zero]
                                by_cases hq : q < (c.drop off).length
                                · rw [List.getElem?_append_left hq, List.getElem?_drop] at hu
                                  rw [List.length_drop] at hq
                                  rw [putL_get_lt _ _ _ _ (by omega)]
                                  obtain ⟨v', d1, d2⟩ := m4.2.2.2 (off + q) u hu
                                  exact ⟨v', by rw [Nat.add_assoc]; simpa using d1, d2⟩
                                · rw [List.getElem?_append_right (by omega)] at hu
                                  rw [List.length_drop] at hq hu
                                  obtain ⟨v', d1, d2⟩ := a2.get hu
                                  have hql : q - (c.length - off) < vs.toList.length := by
                                    rcases Nat.lt_or_ge (q - (c.length - off)) vs.toList.length with h | h
                                    · exact h
                                    · rw [List.getElem?_eq_none h] at d1; cases d1
                                  have hsplit : M.base + off + q = M.base + off + len * j.size + (q - (c.length - off)) := by omega
                                  rw [hsplit, putL_get_in _ _ _ _ (by have : cs.toList.length = cs.size := rfl; omega) hql]
                                  exact ⟨v', d1, d2⟩
                          · exact Moves.move hn ho m1 rfl b5 b6 b7 b4 b3
                      · -- a new row
                        obtain ⟨vs, a1, a2⟩ := addr _ hd'
                        rw [← i2] at a1
                        have hdl : ((c.drop off).take (len * j.size)) = c.drop off := List.take_of_length_le (by rw [List.length_drop]; omega)
                        obtain ⟨old, o1, o2⟩ := hd'.load P ho hL (off := off) (n := len * j.size) (by omega)
                        rw [hdl] at o2
                        have sub : ∀ p x, (h.del o).get p = some x → h.get p = some x := fun p x hp => by
                          rw [Tr.get_del] at hp
                          by_cases e2 : p = o
                          · rw [if_pos e2] at hp; cases hp
                          · rw [if_neg e2] at hp; exact hp
                        obtain ⟨hnx, ρ', v', w', r1, r2, r3, r4⟩ := grow_sim HT (H.sub sub) hn hj i1 (args _ len c' hx0) (by omega) (nextcap_le (by omega)) ⟨old, (by rw [i2]; exact o1), o2⟩ ⟨vs, a1, a2⟩ e
                        exact ⟨ρ', v', w', r1, r2, r3, r4.from_sub sub⟩
            · cases e
      · cases e
    · cases e
  · cases e
end

section
/-- is there an entry of that key? (none: it cannot be told.) -/
def aFind (T : TT) (kt : TypeId) (k : Value) : List (Value × Value) → Nat → Option (Option (Nat × Value))
  | [], _ => some none
  | (k0, v0) :: es, i => ob (aEq T kt k k0) fun b => cnd b (some (some (i, v0))) (aFind T kt k es (i + 1))

def isAggV : Value → Bool
  | .agg _ => true
  | _ => false

theorem findAsking_sim {P : Program} {T : TT} (HT : TOk P T) (HF : ∀ t i, T.get t = some i → i.flat = true → FlatOk P i.size i.desc) {ρ : Ren} {kt : TypeId} {k k' : Value} (hk : VRel ρ k k') (w : World) :
    ∀ (es : List (Value × Value)) (es' : List MapEntry), ERels ρ es es' → ∀ (i : Nat) (r : Option (Nat × Value)), aFind T kt k es i = some r →
      ∃ r' : Option (Nat × Value), (Instr.findAsking kt k' es' i).run P w = .ok r' w ∧ (r = none → r' = none) ∧ (∀ n v, r = some (n, v) → ∃ v', r' = some (n, v') ∧ VRel ρ v v')
  | [], _, h, i, r, e => by
    cases h
    obtain rfl := Option.some.inj e
    exact ⟨none, rfl, fun _ => rfl, fun _ _ h => by cases h⟩
  | (k0, v0) :: es, _, h, i, r, e => by
    cases h with
    | cons h1 h2 t =>
      rename_i en es'
      unfold aFind at e
      replace e := ob_some e
      obtain ⟨b, hb, e⟩ := e
      have q := eq_sim HT HF hk h1 hb w
      unfold Instr.findAsking
      cases b with
      | true =>
        simp only [cnd_true] at e
        obtain rfl := Option.some.inj e
        refine ⟨some (i, en.val), by simp [q], fun h => (by cases h), fun n v h => ?_⟩
        obtain ⟨rfl, rfl⟩ : i = n ∧ v0 = v := by simpa using Option.some.inj h
        exact ⟨_, rfl, h2⟩
      | false =>
        simp only [cnd_false] at e
        obtain ⟨r', a, b, c⟩ := findAsking_sim HT HF hk w es es' t (i + 1) r e
        exact ⟨r', by simp [q, a], b, c⟩

theorem findNow_struct {fs : Array Field} {k : Value} : ∀ (es : List MapEntry), Instr.findNow (.struct fs) k es 0 = match es with | [] => some none | _ :: _ => none
  | [] => rfl
  | e :: es => by
    unfold Instr.findNow
    have : Instr.sameNow (.struct fs) k e.key = none := by unfold Instr.sameNow; rfl
    rw [this]

theorem findKey_sim {P : Program} {T : TT} (HT : TOk P T) (HF : ∀ t i, T.get t = some i → i.flat = true → FlatOk P i.size i.desc) {ρ : Ren} {kt : TypeId} {ki : TyI} (hki : T.get kt = some ki) {fs : Array Field} (hd : ki.desc = .struct fs) {k k' : Value} (hk : VRel ρ k k') (w : World)
    {es : List (Value × Value)} {es' : List MapEntry} (he : ERels ρ es es') {r : Option (Nat × Value)} (e : aFind T kt k es 0 = some r) :
    ∃ r' : Option (Nat × Value), (Instr.findKey kt k' es').run P w = .ok r' w ∧ (r = none → r' = none) ∧ (∀ n v, r = some (n, v) → ∃ v', r' = some (n, v') ∧ VRel ρ v v') := by
  unfold Instr.findKey
  simp only [Sem.run_bind, run_under w HT hki, Result.andThen_ok, hd, findNow_struct]
  cases he with
  | nil =>
    obtain rfl := Option.some.inj e
    exact ⟨none, rfl, fun _ => rfl, fun _ _ h => by cases h⟩
  | cons h1 h2 t =>
    exact findAsking_sim HT HF hk w _ _ (.cons h1 h2 t) 0 r e

theorem checkInt {P : Program} {t : TypeId} {k : IntKind} (h : P.underlying t = some (.int k)) (em : Bool) (n : Nat) (v : Value) (w : World) : (Instr.checkKey em (n + 1) t v).run P w = .ok () w := by
  unfold Instr.checkKey
  simp [underlying, h]

theorem checkFields {P : Program} {em : Bool} {n : Nat} {cs : Array Value} (w : World) : ∀ (fs : List Field) (m : Nat),
    (∀ (i : Nat) (f : Field), fs[i]? = some f → f.name ≠ "_" ∧ f.offset = m + i ∧ (∃ k, P.underlying f.type = some (.int k)) ∧ ∃ inf, P.info? f.type = some inf ∧ inf.size = 1) → m + fs.length = cs.toList.length →
    (forIn fs PUnit.unit (fun f (_ : PUnit) => if f.name ≠ "_" then (do let x ← part f.type cs f.offset; Instr.checkKey em (n + 1) f.type x; pure (ForInStep.yield PUnit.unit) : Sem (ForInStep PUnit)) else pure (ForInStep.yield PUnit.unit))).run P w = .ok PUnit.unit w
  | [], m, _, _ => by simp
  | f :: fs, m, hf, hl => by
    obtain ⟨h1, h2, ⟨k, h3⟩, _⟩ := hf 0 f rfl
    simp only [List.length_cons] at hl
    have lx : m < cs.toList.length := by omega
    have gx : cs.toList[m]? = some cs.toList[m] := List.getElem?_eq_getElem lx
    have ho : f.offset = m := by omega
    rw [List.forIn_cons]
    simp only [ho, ne_eq, h1, not_false_eq_true, if_true, Sem.run_bind, part_int h3 gx, Result.andThen_ok, checkInt h3, Sem.run_pure]
    exact checkFields w fs (m + 1) (fun i g hg => by obtain ⟨a1, a2, a3, a4⟩ := hf (i + 1) g (by simpa using hg); exact ⟨a1, by omega, a3, a4⟩) (by omega)

theorem checkKey_sim {P : Program} {t : TypeId} {fs : Array Field} {m : Nat} (hu : P.underlying t = some (.struct fs)) (hF : FlatOk P m (.struct fs)) {cs : Array Value} (hc : cs.toList.length = m) (em : Bool) (n : Nat) (w : World) :
    (Instr.checkKey em (n + 2) t (.agg cs)).run P w = .ok () w := by
  obtain ⟨h1, h2⟩ := hF
  unfold Instr.checkKey
  simp only [Sem.run_bind, underlying, run_program, hu, Result.andThen_ok, Sem.run_pure]
  rw [← Array.forIn_toList]
  have := checkFields (P := P) (em := em) (n := n) (cs := cs) w fs.toList 0 (fun i f hf => by obtain ⟨a1, a2, a3, a4⟩ := h2 i f (by simpa using hf); exact ⟨a1, by omega, a3, a4⟩) (by rw [hc]; simpa using h1)
  rw [this]
  rfl

/-- a map's look-up. -/
def aLookup (T : TT) (h : Heap) (t : TypeId) (x k : Value) (ok : Bool) : Option Value :=
  ob (T.get t) fun i => match i.desc with
    | .map kt et => ob (T.get kt) fun ki => ob (T.get et) fun ei => ob ei.zero fun z => match ki.desc, x, k with
      | .struct _, .map (some o), .agg cs => cnd (ki.flat && Nat.beq cs.size ki.size && allInts cs.toList) (ob (h.get o) fun ob' => match ob' with
        | .map es => ob (aFind T kt k es 0) fun r => match r with
          | none => some (cnd ok (.tuple ⟨[z, .bool false]⟩) z)
          | some (_, v) => some (cnd ok (.tuple ⟨[v, .bool true]⟩) v)
        | _ => none) none
      | _, _, _ => none
    | _ => none

theorem lookup_sim {P : Program} {T : TT} (HT : TOk P T) (HF : ∀ t i, T.get t = some i → i.flat = true → FlatOk P i.size i.desc) {ρ : Ren} {h : Heap} {w : World} (H : HRel ρ h w) {t : TypeId} {x x' k k' : Value} (hx : VRel ρ x x') (hk : VRel ρ k k') {ok : Bool} {v : Value} (e : aLookup T h t x k ok = some v) :
    ∃ v', (Instr.lookup t x' k' ok).run P w = .ok v' w ∧ VRel ρ v v' := by
  replace e := ob_some e
  obtain ⟨i, hi, e⟩ := e
  split at e
  · rename_i kt et hd
    replace e := ob_some e
    obtain ⟨ki, hki, e⟩ := e
    replace e := ob_some e
    obtain ⟨ei, hei, e⟩ := e
    replace e := ob_some e
    obtain ⟨z, hz, e⟩ := e
    split at e
    · rename_i fs o cs hkd
      cases hx with
      | map hL =>
        rename_i L
        have hk0 := hk
        cases hk with
        | agg rk =>
          rename_i cs'
          cases hc : (ki.flat && Nat.beq cs.size ki.size && allInts cs.toList) with
          | false => rw [hc] at e; cases e
          | true =>
            rw [hc] at e
            simp only [cnd_true] at e
            simp only [Bool.and_eq_true] at hc
            obtain ⟨⟨c1, c2⟩, c3⟩ := hc
            have c2 := Nat.eq_of_beq_eq_true c2
            replace e := ob_some e
            obtain ⟨obj, ho, e⟩ := e
            split at e
            · rename_i es
              replace e := ob_some e
              obtain ⟨r, hr, e⟩ := e
              obtain ⟨M, m1, es', clock, m2, m3⟩ := H.obj o _ ho
              obtain rfl := Option.some.inj (m1.symm.trans hL)
              have hg : (getObj M.block).run P w = .ok (.map es' clock) w := by
                simp only [getObj, Sem.run, m2]
              have hF := HF kt ki hki c1
              rw [hkd] at hF
              have hu := HT.under kt ki hki
              rw [hkd] at hu
              have hck : ∀ em, (Instr.checkKey em 10000 kt (.agg cs')).run P w = .ok () w := fun em =>
                checkKey_sim hu hF (by rw [← rk.length]; exact c2) em 9998 w
              obtain ⟨r', f1, f2, f3⟩ := findKey_sim HT HF hki hkd hk0 w m3 hr
              unfold Instr.lookup
              simp only [Sem.run_bind, run_under w HT hi, hd, Result.andThen_ok, hg, hck, f1, Sem.run_pure]
              cases r with
              | none =>
                obtain rfl := f2 rfl
                obtain rfl := Option.some.inj e
                refine ⟨if ok then .tuple #[z, .bool false] else z, ?_, ?_⟩
                · simp only [Sem.run_bind, run_zeroOf w HT hei hz, Result.andThen_ok, Sem.run_pure]
                · have hzr := closedV_rel (zero_closed HT hei hz) (ρ := ρ)
                  cases ok with
                  | true => exact .tuple (.cons hzr (.cons (.bool _) .nil))
                  | false => exact hzr
              | some p =>
                obtain ⟨n, v0⟩ := p
                obtain ⟨v', rfl, hv⟩ := f3 n v0 rfl
                obtain rfl := Option.some.inj e
                refine ⟨if ok then .tuple #[v', .bool true] else v', ?_, ?_⟩
                · simp
                · cases ok with
                  | true => exact .tuple (.cons hv (.cons (.bool _) .nil))
                  | false => exact hv
            · cases e
    · cases e
  · cases e

theorem ERels.snoc {ρ : Ren} {k v : Value} {en : MapEntry} (hk : VRel ρ k en.key) (hv : VRel ρ v en.val) : ∀ {xs : List (Value × Value)} {es : List MapEntry}, ERels ρ xs es → ERels ρ (xs ++ [(k, v)]) (es ++ [en])
  | _, _, .nil => .cons hk hv .nil
  | _, _, .cons a b t => .cons a b (t.snoc hk hv)

/-- a new entry of a map. -/
def aUpdate (T : TT) (h : Heap) (t : TypeId) (x k v : Value) : Option Heap :=
  ob (T.get t) fun i => match i.desc with
    | .map kt _ => ob (T.get kt) fun ki => match ki.desc, x, k with
      | .struct _, .map (some o), .agg cs => cnd (ki.flat && Nat.beq cs.size ki.size && allInts cs.toList) (ob (h.get o) fun ob' => match ob' with
        | .map es => ob (aFind T kt k es 0) fun r => match r with
          | none => some (h.set o (.map (es ++ [(k, v)])))
          | some _ => none
        | _ => none) none
      | _, _, _ => none
    | _ => none

theorem update_sim {P : Program} {T : TT} (HT : TOk P T) (HF : ∀ t i, T.get t = some i → i.flat = true → FlatOk P i.size i.desc) {ρ : Ren} {h h' : Heap} {w : World} (H : HRel ρ h w) (nx : Nat) {t : TypeId} {x x' k k' v v' : Value} (hx : VRel ρ x x') (hk : VRel ρ k k') (hv : VRel ρ v v') (e : aUpdate T h t x k v = some h') :
    GoodU ρ h nx w h' nx ((Instr.mapUpdate t x' k' v').run P w) := by
  replace e := ob_some e
  obtain ⟨i, hi, e⟩ := e
  split at e
  · rename_i kt et hd
    replace e := ob_some e
    obtain ⟨ki, hki, e⟩ := e
    split at e
    · rename_i fs o cs hkd
      cases hx with
      | map hL =>
        rename_i L
        have hk0 := hk
        cases hk with
        | agg rk =>
          rename_i cs'
          cases hc : (ki.flat && Nat.beq cs.size ki.size && allInts cs.toList) with
          | false => rw [hc] at e; cases e
          | true =>
            rw [hc] at e
            simp only [cnd_true] at e
            simp only [Bool.and_eq_true] at hc
            obtain ⟨⟨c1, c2⟩, c3⟩ := hc
            have c2 := Nat.eq_of_beq_eq_true c2
            replace e := ob_some e
            obtain ⟨obj, ho, e⟩ := e
            split at e
            · rename_i es
              replace e := ob_some e
              obtain ⟨r, hr, e⟩ := e
              cases r with
              | some p => cases e
              | none =>
                obtain rfl := Option.some.inj e
                obtain ⟨M, m1, es', clock, m2, m3⟩ := H.obj o _ ho
                obtain rfl := Option.some.inj (m1.symm.trans hL)
                have hg : (getObj M.block).run P w = .ok (.map es' clock) w := by
                  simp only [getObj, Sem.run, m2]
                have hF := HF kt ki hki c1
                rw [hkd] at hF
                have hu := HT.under kt ki hki
                rw [hkd] at hu
                have hck : ∀ em, (Instr.checkKey em 10000 kt (.agg cs')).run P w = .ok () w := fun em =>
                  checkKey_sim hu hF (by rw [← rk.length]; exact c2) em 9998 w
                obtain ⟨r', f1, f2, f3⟩ := findKey_sim HT HF hki hkd hk0 w m3 hr
                obtain rfl := f2 rfl
                have hlt : M.block < w.heap.size := ORel.lt (ρ := ρ) (w := w) (L := M) (ob := .map es) ⟨es', clock, m2, m3⟩
                let o' : Obj := .map (es'.push { key := .agg cs', val := v', born := clock }) (clock + 1)
                have hs : (setObj M.block o').run P w = .ok () { w with heap := w.heap.setIfInBounds M.block o' } := by
                  simp only [setObj, Sem.run, m2]
                have g1 : ({ w with heap := w.heap.setIfInBounds M.block o' } : World).heap[M.block]? = some o' := by
                  show (w.heap.setIfInBounds M.block o')[M.block]? = _
                  rw [Array.getElem?_setIfInBounds_self_of_lt hlt]
                have g2 : ∀ b, b ≠ M.block → ({ w with heap := w.heap.setIfInBounds M.block o' } : World).heap[b]? = w.heap[b]? := fun b hb => by
                  show (w.heap.setIfInBounds M.block o')[b]? = _
                  rw [Array.getElem?_setIfInBounds_ne (Ne.symm hb)]
                refine ⟨ρ, { w with heap := w.heap.setIfInBounds M.block o' }, ?_, ?_, ?_⟩
                · unfold Instr.mapUpdate
                  simp only [Sem.run_bind, run_under w HT hi, hd, Result.andThen_ok, hg, hck, f1]
                  exact hs
                · refine H.put ho m1 g2 ⟨_, _, g1, ?_⟩
                  rw [Array.toList_push]
                  exact m3.snoc hk0 hv
                · exact Moves.put ho m1 rfl rfl rfl (by simp) g2
            · cases e
    · cases e
  · cases e
end

end
end Eng
end Go.Proofs.YtnicdlmcbkkkfaaGreatDoor

/-
  The engine, part X: an operation of a region, wherever the region stands in its order; a call's summary.
  The engine, part Y: a region whose order is drawn: whatever the order, the end is the same.
  The engine, part Z: the orders that the model draws for a region stand in line with the operations' needs.
  The engine, part AA: a drawn region is run in text order; looks tell that every other order comes to the same.
  The engine, part AB: the looks at a drawn region's run in text order, and what they give.
-/
import Derived.Test.YtnicdlmcbkkkfaaGreatDoorEng5
import Derived.Orders
namespace Go.Proofs.YtnicdlmcbkkkfaaGreatDoor
namespace Eng
noncomputable section
section
/-- AN OPERATION'S STEPS: out of the slots and objects named, to its value and the objects named. -/
def OpR (P : Program) (ops : Array Oper) (i : Nat) (tm : Tr Value) (n : Nat) (h : Heap) (nx : Nat) (v : Value) (h' : Heap) (nx' : Nat) : Prop :=
  ∀ (ρ : Ren) (fr : Frame) (cs : List Frame) (w : World) (rest : List Nat) (k : List Item), fr.mode = .run → fr.todo = .inRegion ops (i :: rest) :: k → SlotsRel ρ tm n fr.tmps → HRel ρ h w → (∀ o, nx ≤ o → o < nx' → ρ o = none) →
    ∃ ρ' v' w', Steps P (lone fr cs w) (lone { fr with tmps := putR fr.tmps ((ops[i]?).bind (·.dst)) v', todo := .inRegion ops rest :: k } cs w') ∧ VRel ρ' v v' ∧ HRel ρ' h' w' ∧ Moves ρ h nx w ρ' h' nx' w'

/-- what an operation that enters no function gives. -/
def aLocal (X : Tabs) (ops : Array Oper) (tm : Tr Value) (h : Heap) (nx : Nat) (o : Oper) : Option (Value × Heap × Nat) :=
  ob (awanted ops tm o) fun b => cnd b (cnd (isDefer o.op) none (ob (aop X h nx (aev tm) o) fun out => match out with
    | .val v h nx => some (v, h, nx)
    | .skip h nx => some (undef, h, nx)
    | _ => none)) (some (undef, h, nx))

theorem finish_eq {fr : Frame} {ops : Array Oper} {i : Nat} {rest : List Nat} {k : List Item} (ht : fr.todo = .inRegion ops (i :: rest) :: k) (v : Value) :
    fr.finish v = { fr with tmps := putR fr.tmps ((ops[i]?).bind (·.dst)) v, todo := .inRegion ops rest :: k } := by
  unfold Frame.finish
  simp only [ht]
  rfl

def dummy (n : Nat) (tm : Tr Value) : AFrame := { fn := 0, n := n, tmps := tm, todo := [], defers := [], mode := .run, kind := .normal, roundOf := none }

theorem local_op {P : Program} {X : Tabs} (OK : TabsOk P X) {ops : Array Oper} {i : Nat} {o : Oper} (ho : ops[i]? = some o) {tm : Tr Value} {n : Nat} {h : Heap} {nx : Nat} {v : Value} {h' : Heap} {nx' : Nat}
    (e : aLocal X ops tm h nx o = some (v, h', nx')) : OpR P ops i tm n h nx v h' nx' := by
  intro ρ fr cs w rest k hm ht S H N
  unfold aLocal at e
  replace e := ob_some e
  obtain ⟨b, hb, e⟩ := e
  have hw := awanted_rel (a := dummy n tm) (f := fr) S hb
  cases b with
  | false =>
    simp only [cnd_false] at e
    cases e
    refine ⟨ρ, undef, w, ?_, undef_rel, H, Moves.refl _ _ _ _⟩
    rw [← finish_eq ht]
    exact .one (step_unwanted hm ht ho hw)
  | true =>
    simp only [cnd_true] at e
    cases hdf : isDefer o.op with
    | true => simp [hdf] at e
    | false =>
      simp only [hdf, cnd_false] at e
      have hd : fr.roundOf = none ∨ ∀ c, o.op ≠ .defer c := by
        right
        intro c hc
        rw [hc] at hdf
        cases hdf
      have hg := stepG_oper (P := P) (cs := cs) (w := w) hm ht ho hw hd
      replace e := ob_some e
      obtain ⟨out, h1, e⟩ := e
      have fresh : ∀ q, nx ≤ q → q < out.top nx → ρ q = none := by
        intro q q1 q2
        refine N q q1 ?_
        cases out <;> simp only [AOut.top] at q2 <;> try omega
        · rename_i a b c; have e' : some (a, b, c) = some (v, h', nx') := e; cases e'; exact q2
        · rename_i b c; have e' : some (undef, b, c) = some (v, h', nx') := e; cases e'; exact q2
      have OR := aop_sim OK H (ev := aev tm) (rv := fr.eval) (aev_rel (a := dummy n tm) S) h1 fresh
      cases out with
      | val v1 hh1 nx1 =>
        have e' : some (v1, hh1, nx1) = some (v, h', nx') := e
        cases e'
        obtain ⟨ρ', v', w', r1, r2, r3, r4⟩ := OR
        refine ⟨ρ', v', w', ?_, r2, r3, r4⟩
        rw [← finish_eq ht]
        exact .one (step_value hg r1)
      | skip hh1 nx1 =>
        have e' : some (undef, hh1, nx1) = some (v, h', nx') := e
        cases e'
        obtain ⟨ρ', w', r1, r3, r4⟩ := OR
        refine ⟨ρ', undef, w', ?_, undef_rel, r3, r4⟩
        rw [← finish_eq ht]
        exact .one (step_unit hg r1)
      | enter _ _ => cases e
      | round _ _ => cases e
      | dfr _ => cases e
      | rcv => cases e
      | pnc _ => cases e

/-- A CALL'S SUMMARY: its arguments and the objects that it needs; its result and what has become of them. -/
def Ret (P : Program) (f : FuncId) (args : List Value) (h : Heap) (nx : Nat) (v : Value) (h' : Heap) (nx' : Nat) : Prop :=
  ∀ (ρ : Ren) (args' : Array Value) (cs : List Frame) (w : World), VRels ρ args args'.toList → HRel ρ h w → (∀ o, nx ≤ o → o < nx' → ρ o = none) →
    ∃ ρ' fr w' fn v', Steps P (lone (Frame.enter P f args' .normal) cs w) (lone fr cs w') ∧ fr.mode = .returning ∧ fr.defers = [] ∧ fr.kind = .normal ∧ (fr.fn = f ∧ P.funcs[fr.fn]? = some fn) ∧ (results fn fr.tmps).run P w' = .ok v' w' ∧
      VRel ρ' v v' ∧ HRel ρ' h' w' ∧ Moves ρ h nx w ρ' h' nx' w'

/-- the machine that has come to its end: its result. -/
def aDone (X : Tabs) (f : FuncId) (m : AM) : Option Value :=
  match m.fr.mode, m.fr.defers, m.fr.kind, m.cs with
  | .returning, [], .normal, [] => cnd (Nat.beq m.fr.fn f) (aResult X m.h m.fr) none
  | _, _, _, _ => none

theorem ret_of_sim {P : Program} {X : Tabs} (OK : TabsOk P X) {f : FuncId} {args : List Value} {h : Heap} {nx : Nat} {fr : AFrame} (he : aenter X.F f args .normal = some fr) {m : AM} (S : Sim P ⟨fr, [], h, nx⟩ m) {v : Value} (hv : aDone X f m = some v) :
    Ret P f args h nx v m.h m.nx := by
  intro ρ args' cs w A H N
  obtain ⟨ρ', fr', cs', w', s1, F, C, H', M⟩ := S ρ _ [] cs w (aenter_rel OK.F A he) .nil H N
  unfold aDone at hv
  split at hv
  · rename_i h1 h2 h3 h4
    rw [h4] at C
    cases C
    cases hb : Nat.beq m.fr.fn f with
    | false => simp [hb] at hv
    | true =>
    simp only [hb, cnd_true] at hv
    obtain ⟨fn, v', g1, g2, g3⟩ := result_run OK H' F hv
    refine ⟨ρ', fr', w', fn, v', s1, ?_, ?_, by rw [F.kind, h3], ⟨by rw [F.fn]; exact Nat.eq_of_beq_eq_true hb, g1⟩, g2, g3, H', M⟩
    · have := F.mode; rw [h1] at this; exact this
    · have FD := F.defers
      rw [h2] at FD
      generalize fr'.defers = q at FD
      cases FD; rfl
  · cases hv

/-- does the operation call a function, and with which arguments? -/
def aCalls (X : Tabs) (ops : Array Oper) (tm : Tr Value) (h : Heap) (nx : Nat) (o : Oper) : Option (FuncId × List Value) :=
  ob (awanted ops tm o) fun b => cnd b (cnd (isDefer o.op) none (ob (aop X h nx (aev tm) o) fun out => match out with
    | .enter f args => some (f, args)
    | _ => none)) none

theorem call_op {P : Program} {X : Tabs} (OK : TabsOk P X) {ops : Array Oper} {i : Nat} {o : Oper} (ho : ops[i]? = some o) {tm : Tr Value} {n : Nat} {h : Heap} {nx : Nat} {f : FuncId} {args : List Value}
    (e : aCalls X ops tm h nx o = some (f, args)) {v : Value} {h' : Heap} {nx' : Nat} (R : Ret P f args h nx v h' nx') : OpR P ops i tm n h nx v h' nx' := by
  intro ρ fr cs w rest k hm ht S H N
  unfold aCalls at e
  replace e := ob_some e
  obtain ⟨b, hb, e⟩ := e
  have hw := awanted_rel (a := dummy n tm) (f := fr) S hb
  cases b with
  | false => cases e
  | true =>
    simp only [cnd_true] at e
    cases hdf : isDefer o.op with
    | true => simp [hdf] at e
    | false =>
      simp only [hdf, cnd_false] at e
      have hd : fr.roundOf = none ∨ ∀ c, o.op ≠ .defer c := by
        right
        intro c hc
        rw [hc] at hdf
        cases hdf
      have hg := stepG_oper (P := P) (cs := cs) (w := w) hm ht ho hw hd
      replace e := ob_some e
      obtain ⟨out, h1, e⟩ := e
      cases out with
      | enter f1 args1 =>
        have e' : some (f1, args1) = some (f, args) := e
        cases e'
        have OR := aop_sim (nx := nx) OK H (ev := aev tm) (rv := fr.eval) (aev_rel (a := dummy n tm) S) h1 (fun q q1 q2 => by simp only [AOut.top] at q2; omega)
        obtain ⟨args', r1, r2⟩ := OR
        obtain ⟨ρ', fr', w', fn, v', s1, a1, a2, a3, a4, a5, a6, a7, a8⟩ := R ρ args' (fr :: cs) w r2 H N
        refine ⟨ρ', v', w', ?_, a6, a7, a8⟩
        rw [← finish_eq ht]
        exact .trans (.one (step_enter hg ht r1)) (.trans s1 (.one (step_leave_returned ⟨a1, a2, a3, fn, a4.2, a5⟩)))
      | val _ _ _ => cases e
      | skip _ _ => cases e
      | round _ _ => cases e
      | dfr _ => cases e
      | rcv => cases e
      | pnc _ => cases e
end

section
/-- a heap told as a predicate lies in the world. -/
structure HP (ρ : Ren) (G : Nat → AObj → Prop) (w : World) : Prop where
  obj : ∀ o ob, G o ob → ∃ L, ρ o = some L ∧ ORel ρ w L ob
  inj : ∀ o o' L L' ob ob', G o ob → G o' ob' → ρ o = some L → ρ o' = some L' → L.block = L'.block → o = o'

def OwnedP (ρ : Ren) (G : Nat → AObj → Prop) (b : Nat) : Prop := ∃ o ob L, G o ob ∧ ρ o = some L ∧ L.block = b

structure MovesP (ρ : Ren) (G : Nat → AObj → Prop) (lo hi : Nat) (w : World) (ρ' : Ren) (G' : Nat → AObj → Prop) (w' : World) : Prop where
  os : w'.os = w.os
  tape : w'.tape = w.tape
  output : w'.output = w.output
  size : w.heap.size ≤ w'.heap.size
  block : ∀ b, b < w.heap.size → ¬ OwnedP ρ G b → w'.heap[b]? = w.heap[b]?
  owned : ∀ b, b < w.heap.size → OwnedP ρ' G' b → OwnedP ρ G b
  ren : ∀ o, o < lo ∨ hi ≤ o → ρ' o = ρ o

theorem MovesP.refl (ρ : Ren) (G : Nat → AObj → Prop) (lo hi : Nat) (w : World) : MovesP ρ G lo hi w ρ G w :=
  ⟨rfl, rfl, rfl, Nat.le_refl _, fun _ _ _ => rfl, fun _ _ h => h, fun _ _ => rfl⟩

theorem MovesP.trans {ρ ρ' ρ'' : Ren} {G G' G'' : Nat → AObj → Prop} {lo hi : Nat} {w w' w'' : World} (a : MovesP ρ G lo hi w ρ' G' w') (b : MovesP ρ' G' lo hi w' ρ'' G'' w'') : MovesP ρ G lo hi w ρ'' G'' w'' where
  os := b.os.trans a.os
  tape := b.tape.trans a.tape
  output := b.output.trans a.output
  size := Nat.le_trans a.size b.size
  block := fun k hk ho => (b.block k (Nat.lt_of_lt_of_le hk a.size) (fun x => ho (a.owned k hk x))).trans (a.block k hk ho)
  owned := fun k hk ho => a.owned k hk (b.owned k (Nat.lt_of_lt_of_le hk a.size) ho)
  ren := fun o ho => by rw [b.ren o ho, a.ren o ho]

theorem MovesP.widen {ρ ρ' : Ren} {G G' : Nat → AObj → Prop} {lo hi lo' hi' : Nat} {w w' : World} (a : MovesP ρ G lo hi w ρ' G' w') (h1 : lo' ≤ lo) (h2 : hi ≤ hi') : MovesP ρ G lo' hi' w ρ' G' w' :=
  ⟨a.os, a.tape, a.output, a.size, a.block, a.owned, fun o ho => a.ren o (by omega)⟩

theorem MovesP.less {ρ ρ' : Ren} {G G' G'' : Nat → AObj → Prop} {lo hi : Nat} {w w' : World} (a : MovesP ρ G lo hi w ρ' G' w') (h : ∀ o ob, G'' o ob → G' o ob) : MovesP ρ G lo hi w ρ' G'' w' :=
  ⟨a.os, a.tape, a.output, a.size, a.block, fun b hb ⟨o, ob, L, h1, h2, h3⟩ => a.owned b hb ⟨o, ob, L, h _ _ h1, h2, h3⟩, a.ren⟩

theorem HP.less {ρ : Ren} {G G' : Nat → AObj → Prop} {w : World} (a : HP ρ G w) (h : ∀ o ob, G' o ob → G o ob) : HP ρ G' w :=
  ⟨fun o ob x => a.obj o ob (h _ _ x), fun o o' L L' ob ob' x y => a.inj o o' L L' ob ob' (h _ _ x) (h _ _ y)⟩

/-- THE FRAME RULE: what needs few objects leaves the others alone. -/
theorem frame_rule {ρ ρ' : Ren} {G : Nat → AObj → Prop} {w w' : World} {h h' : Heap} {nx nx' : Nat} (HG : HP ρ G w) (s : ∀ o ob, h.get o = some ob → G o ob) (H' : HRel ρ' h' w') (M : Moves ρ h nx w ρ' h' nx' w')
    (N : ∀ o, nx ≤ o → o < nx' → ρ o = none) :
    HP ρ' (fun o ob => h'.get o = some ob ∨ (G o ob ∧ h.get o = none)) w' ∧ MovesP ρ G nx nx' w ρ' (fun o ob => h'.get o = some ob ∨ (G o ob ∧ h.get o = none)) w' := by
  have E := M.ext N
  have apart : ∀ o ob L, G o ob → h.get o = none → ρ o = some L → ¬ Owned ρ h L.block := by
    intro o ob L g1 g2 g3 ⟨o1, ob1, L1, a1, a2, a3⟩
    have := HG.inj o1 o L1 L ob1 ob (s _ _ a1) g1 a2 g3 a3
    subst this
    rw [g2] at a1
    cases a1
  have back : ∀ o ob L, G o ob → ρ' o = some L → ρ o = some L ∧ L.block < w.heap.size := by
    intro o ob L g1 g2
    obtain ⟨M1, m1, m2⟩ := HG.obj o ob g1
    obtain rfl := Option.some.inj ((E _ _ m1).symm.trans g2)
    exact ⟨m1, m2.lt⟩
  refine ⟨⟨?_, ?_⟩, ⟨M.os, M.tape, M.output, M.size, ?_, ?_, M.ren⟩⟩
  · intro o ob ho
    rcases ho with ho | ⟨g1, g2⟩
    · exact H'.obj o ob ho
    · obtain ⟨L, l1, l2⟩ := HG.obj o ob g1
      exact ⟨L, E _ _ l1, (l2.mono E).block (M.block _ l2.lt (apart o ob L g1 g2 l1))⟩
  · intro o o' L L' ob ob' ho ho' r1 r2 hb
    rcases ho with ho | ⟨g1, g2⟩
    · rcases ho' with ho' | ⟨g1', g2'⟩
      · exact H'.inj o o' L L' ob ob' ho ho' r1 r2 hb
      · obtain ⟨b1, b2⟩ := back _ _ _ g1' r2
        exact absurd (M.owned _ b2 ⟨o, ob, L, ho, r1, hb⟩) (apart _ _ _ g1' g2' b1)
    · obtain ⟨b1, b2⟩ := back _ _ _ g1 r1
      rcases ho' with ho' | ⟨g1', g2'⟩
      · exact absurd (M.owned _ b2 ⟨o', ob', L', ho', r2, hb.symm⟩) (apart _ _ _ g1 g2 b1)
      · obtain ⟨b1', b2'⟩ := back _ _ _ g1' r2
        exact HG.inj o o' L L' ob ob' g1 g1' b1 b1' hb
  · intro b hb ho
    refine M.block b hb fun ⟨o, ob, L, a1, a2, a3⟩ => ho ⟨o, ob, L, s _ _ a1, a2, a3⟩
  · intro b hb ⟨o, ob, L, a1, a2, a3⟩
    rcases a1 with a1 | ⟨g1, g2⟩
    · obtain ⟨o1, ob1, L1, c1, c2, c3⟩ := M.owned b hb ⟨o, ob, L, a1, a2, a3⟩
      exact ⟨o1, ob1, L1, s _ _ c1, c2, c3⟩
    · exact ⟨o, ob, L, g1, (back _ _ _ g1 a2).1, a3⟩

/-- an order's rest: each operation stands behind those that it needs. -/
def LinR (N : Nat) (A : Nat → Nat → Prop) : (Nat → Prop) → List Nat → Prop
  | done, [] => ∀ i, i < N → done i
  | done, i :: rest => i < N ∧ ¬ done i ∧ (∀ j, A i j → done j) ∧ LinR N A (fun x => done x ∨ x = i) rest

/-- THE RUN IN TEXT ORDER, and why another order comes to the same. Kinds: 0 changes nothing; 1 makes one object, out of no other; 2 may do anything. -/
structure Can (P : Program) (ops : Array Oper) (ix : Nat → Nat) (n : Nat) (tm0 tmF : Tr Value) (N : Nat) (A : Nat → Nat → Prop) where
  K : Nat → Nat
  H : Nat → Heap
  X : Nat → Nat
  V : Nat → Value
  Tm : Nat → Tr Value
  B : Nat → AObj
  mono : ∀ i, i < N → X i ≤ X (i + 1)
  kinds : ∀ i, i < N → K i = 0 ∨ K i = 1 ∨ K i = 2
  quiet : ∀ i, i < N → K i = 0 → (∀ o ob, (H (i + 1)).get o = some ob → (H i).get o = some ob) ∧
    ∀ p, p ≤ N → (p = 0 ∨ K (p - 1) = 2) → (∀ j, j < N → K j = 2 → A i j → j < p) → (∀ j, j < N → K j = 2 → A j i → p ≤ j) → OpR P ops (ix i) (Tm i) n (H p) (X i) (V i) (H p) (X i)
  alloc : ∀ i, i < N → K i = 1 → (∀ o ob, (H (i + 1)).get o = some ob → (H i).get o = some ob ∨ (o = X i ∧ ob = B i)) ∧
    OpR P ops (ix i) (Tm i) n .nil (X i) (V i) (Tr.nil.set (X i) (B i)) (X (i + 1))
  apart : ∀ p a, p ≤ a → a < N → K a = 1 → (H p).get (X a) = none
  loud : ∀ i, i < N → K i = 2 → OpR P ops (ix i) (Tm i) n (H i) (X i) (V i) (H (i + 1)) (X (i + 1))
  total : ∀ i j, i < j → j < N → K i = 2 → K j = 2 → A j i
  first : ∀ a j, a < j → j < N → K a = 1 → K j = 2 → A j a
  reads : ∀ i, i < N → ∀ (t : Nat) (u : Value), (Tm i).get t = some u → (∃ j, j < N ∧ (ops[ix j]?).bind (·.dst) = some t ∧ V j = u ∧ A i j) ∨ ((∀ j, j < N → (ops[ix j]?).bind (·.dst) = some t → j = i ∨ A j i) ∧ tm0.get t = some u)
  once : ∀ (i j t : Nat), i < N → j < N → (ops[ix i]?).bind (·.dst) = some t → (ops[ix j]?).bind (·.dst) = some t → i = j
  slots : ∀ (i t : Nat), i < N → (ops[ix i]?).bind (·.dst) = some t → t < n
  final : ∀ (t : Nat) (u : Value), tmF.get t = some u → (∃ j, j < N ∧ (ops[ix j]?).bind (·.dst) = some t ∧ V j = u) ∨ ((∀ j, j < N → (ops[ix j]?).bind (·.dst) ≠ some t) ∧ tm0.get t = some u)

section
variable {P : Program} {ops : Array Oper} {ix : Nat → Nat} {n : Nat} {tm0 tmF : Tr Value} {N : Nat} {A : Nat → Nat → Prop} (C : Can P ops ix n tm0 tmF N A)

/-- the objects at a point of the run. -/
def Can.G (done : Nat → Prop) (p : Nat) (o : Nat) (ob : AObj) : Prop :=
  (C.H p).get o = some ob ∨ ∃ a, a < N ∧ done a ∧ C.K a = 1 ∧ p ≤ a ∧ o = C.X a ∧ ob = C.B a

/-- the slots at a point of the run. -/
def Can.TM (done : Nat → Prop) (t : Nat) (u : Value) : Prop :=
  (∃ j, j < N ∧ done j ∧ (ops[ix j]?).bind (·.dst) = some t ∧ C.V j = u) ∨ ((∀ j, j < N → done j → (ops[ix j]?).bind (·.dst) ≠ some t) ∧ tm0.get t = some u)

structure Can.Inv (done : Nat → Prop) (p : Nat) (ρ0 : Ren) (w0 : World) (ρ : Ren) (tmps : Array Value) (w : World) : Prop where
  size : tmps.size = n
  slot : ∀ t u, C.TM done t u → ∃ u', tmps[t]? = some u' ∧ VRel ρ u u'
  hp : HP ρ (C.G done p) w
  fresh : ∀ i, i < N → ¬ done i → ∀ o, C.X i ≤ o → o < C.X (i + 1) → ρ o = none
  moves : MovesP ρ0 (fun o ob => (C.H 0).get o = some ob) (C.X 0) (C.X N) w0 ρ (C.G done p) w
  pos : p ≤ N
  at' : p = 0 ∨ C.K (p - 1) = 2
  louds : ∀ j, j < N → C.K j = 2 → (done j ↔ j < p)
  allocs : ∀ a, a < p → a < N → C.K a = 1 → done a

theorem Can.X_le {i j : Nat} (h : i ≤ j) (hj : j ≤ N) : C.X i ≤ C.X j := by
  induction j with
  | zero => have : i = 0 := by omega
            subst this; exact Nat.le_refl _
  | succ j ih =>
    rcases Nat.lt_or_ge i (j + 1) with h1 | h1
    · exact Nat.le_trans (ih (by omega) (by omega)) (C.mono j (by omega))
    · have : i = j + 1 := by omega
      subst this; exact Nat.le_refl _

/-- where nothing loud stands, only new objects come. -/
theorem Can.span {p q : Nat} (hq : q ≤ N) (h : ∀ i, p ≤ i → i < q → C.K i ≠ 2) (hpq : p ≤ q) {o : Nat} {ob : AObj} (ho : (C.H q).get o = some ob) :
    (C.H p).get o = some ob ∨ ∃ a, a < N ∧ p ≤ a ∧ a < q ∧ C.K a = 1 ∧ o = C.X a ∧ ob = C.B a := by
  induction q with
  | zero => have : p = 0 := by omega
            subst this; exact .inl ho
  | succ q ih =>
    rcases Nat.lt_or_ge p (q + 1) with h1 | h1
    · have step : (C.H q).get o = some ob ∨ (C.K q = 1 ∧ o = C.X q ∧ ob = C.B q) := by
        rcases C.kinds q (by omega) with hk | hk | hk
        · exact .inl ((C.quiet q (by omega) hk).1 _ _ ho)
        · rcases (C.alloc q (by omega) hk).1 _ _ ho with x | ⟨x, y⟩
          · exact .inl x
          · exact .inr ⟨hk, x, y⟩
        · exact absurd hk (h q (by omega) (by omega))
      rcases step with x | ⟨hk, x, y⟩
      · rcases ih (by omega) (fun i a b => h i a (by omega)) (by omega) x with z | ⟨a, a1, a2, a3, a4⟩
        · exact .inl z
        · exact .inr ⟨a, a1, a2, by omega, a4⟩
      · exact .inr ⟨q, by omega, by omega, by omega, hk, x, y⟩
    · have : p = q + 1 := by omega
      subst this; exact .inl ho

theorem putR_size (tmps : Array Value) (d : Option Nat) (v : Value) : (putR tmps d v).size = tmps.size := by
  cases d <;> simp [putR]

/-- one operation of the order. -/
theorem Can.one {done : Nat → Prop} {p : Nat} {ρ0 : Ren} {w0 : World} {ρ : Ren} {fr : Frame} {w : World} (I : C.Inv done p ρ0 w0 ρ fr.tmps w) {i : Nat} {rest : List Nat} {k : List Item} (hm : fr.mode = .run) (ht : fr.todo = .inRegion ops (ix i :: rest) :: k)
    (hi : i < N) (hd : ¬ done i) (hA : ∀ j, A i j → done j) (closed : ∀ j, j < N → done j → ∀ l, A j l → done l) (cs : List Frame) :
    ∃ p' ρ' tmps' w', Steps P (lone fr cs w) (lone { fr with tmps := tmps', todo := .inRegion ops rest :: k } cs w') ∧ C.Inv (fun x => done x ∨ x = i) p' ρ0 w0 ρ' tmps' w' := by
  have S : SlotsRel ρ (C.Tm i) n fr.tmps := by
    refine ⟨I.size, fun t u hu => I.slot t u ?_⟩
    rcases C.reads i hi t u hu with ⟨j, j1, j2, j3, j4⟩ | ⟨h1, h2⟩
    · exact .inl ⟨j, j1, hA j j4, j2, j3⟩
    · refine .inr ⟨fun j j1 j2 j3 => ?_, h2⟩
      rcases h1 j j1 j3 with rfl | hx
      · exact hd j2
      · exact hd (closed j j1 j2 i hx)
  have hlo : ∀ j, j < N → C.K j = 2 → A i j → j < p := fun j j1 j2 j3 => (I.louds j j1 j2).1 (hA j j3)
  have hhi : ∀ j, j < N → C.K j = 2 → A j i → p ≤ j := fun j j1 j2 j3 => by
    rcases Nat.lt_or_ge j p with h | h
    · exact absurd (closed j j1 ((I.louds j j1 j2).2 h) i j3) hd
    · exact h
  -- what the slots hold afterwards
  have slots : ∀ {ρ' : Ren} {v' : Value}, Ext ρ ρ' → VRel ρ' (C.V i) v' → ∀ t u, C.TM (fun x => done x ∨ x = i) t u → ∃ u', (putR fr.tmps ((ops[ix i]?).bind (·.dst)) v')[t]? = some u' ∧ VRel ρ' u u' := by
    intro ρ' v' E r t u hu
    by_cases hdt : (ops[ix i]?).bind (·.dst) = some t
    · have hu' : u = C.V i := by
        rcases hu with ⟨j, j1, j2, j3, j4⟩ | ⟨h1, _⟩
        · have := C.once i j t hi j1 hdt j3
          subst this; exact j4.symm
        · exact absurd hdt (h1 i hi (.inr rfl))
      subst hu'
      refine ⟨v', ?_, r⟩
      rw [hdt]
      show (fr.tmps.setIfInBounds t v')[t]? = some v'
      have := C.slots i t hi hdt
      have := I.size
      rw [Array.getElem?_setIfInBounds_self_of_lt (by omega)]
    · have hu' : C.TM done t u := by
        rcases hu with ⟨j, j1, j2, j3, j4⟩ | ⟨h1, h2⟩
        · rcases j2 with j2 | rfl
          · exact .inl ⟨j, j1, j2, j3, j4⟩
          · exact absurd j3 hdt
        · exact .inr ⟨fun j j1 j2 => h1 j j1 (.inl j2), h2⟩
      obtain ⟨u', a, b⟩ := I.slot t u hu'
      refine ⟨u', ?_, b.mono E⟩
      unfold putR
      split
      · rename_i d hd'
        rw [Array.getElem?_setIfInBounds_ne (fun h => hdt (by rw [hd', h]))]
        exact a
      · exact a
  -- what becomes of the numbers
  have fresh : ∀ {ρ' : Ren}, (∀ o, o < C.X i ∨ C.X (i + 1) ≤ o → ρ' o = ρ o) → ∀ j, j < N → ¬ (done j ∨ j = i) → ∀ o, C.X j ≤ o → o < C.X (j + 1) → ρ' o = none := by
    intro ρ' hr j j1 j2 o o1 o2
    have ne : j ≠ i := fun h => j2 (.inr h)
    rw [hr o ?_]
    · exact I.fresh j j1 (fun h => j2 (.inl h)) o o1 o2
    · rcases Nat.lt_or_ge j i with h | h
      · left; have := C.X_le (i := j + 1) (j := i) (by omega) (by omega); omega
      · right; have := C.X_le (i := i + 1) (j := j) (by omega) (by omega); omega
  have x0 := C.X_le (i := 0) (j := i) (by omega) (by omega)
  have xN := C.X_le (i := i + 1) (j := N) (by omega) (by omega)
  rcases C.kinds i hi with hk | hk | hk
  · -- quiet
    obtain ⟨_, q⟩ := C.quiet i hi hk
    have q := q p I.pos I.at' hlo hhi
    have Hp : HRel ρ (C.H p) w := ⟨fun o ob ho => I.hp.obj o ob (.inl ho), fun o o' L L' ob ob' h1 h2 => I.hp.inj o o' L L' ob ob' (.inl h1) (.inl h2)⟩
    obtain ⟨ρ', v', w', s1, r1, H1, M1⟩ := q ρ fr cs w rest k hm ht S Hp (fun o a b => by omega)
    have E := M1.ext (fun o a b => by omega)
    obtain ⟨f1, f2⟩ := frame_rule I.hp (fun o ob ho => .inl ho) H1 M1 (fun o a b => by omega)
    have sub : ∀ o ob, C.G (fun x => done x ∨ x = i) p o ob → (C.H p).get o = some ob ∨ (C.G done p o ob ∧ (C.H p).get o = none) := by
      intro o ob g
      rcases g with g | ⟨a, a1, a2, a3, a4, a5, a6⟩
      · exact .inl g
      · have : done a := by
          rcases a2 with a2 | rfl
          · exact a2
          · omega
        exact .inr ⟨.inr ⟨a, a1, this, a3, a4, a5, a6⟩, by rw [a5]; exact C.apart p a a4 a1 a3⟩
    refine ⟨p, ρ', _, w', s1, ⟨by rw [putR_size]; exact I.size, slots E r1, f1.less sub, fresh (fun o ho => M1.ren o (by have := C.mono i hi; omega)), I.moves.trans ((f2.less sub).widen (by omega) (by have := C.mono i hi; omega)), I.pos, I.at', ?_, ?_⟩⟩
    · intro j j1 j2
      constructor
      · rintro (h | rfl)
        · exact (I.louds j j1 j2).1 h
        · omega
      · intro h; exact .inl ((I.louds j j1 j2).2 h)
    · intro a a1 a2 a3; exact .inl (I.allocs a a1 a2 a3)
  · -- one new object
    obtain ⟨_, q⟩ := C.alloc i hi hk
    have hip : p ≤ i := by
      rcases Nat.lt_or_ge i p with h | h
      · exact absurd (I.allocs i h hi hk) hd
      · exact h
    have H0 : HRel ρ .nil w := ⟨fun o ob ho => (by rw [Tr.get_nil] at ho; cases ho), fun o o' L L' ob ob' h1 => (by rw [Tr.get_nil] at h1; cases h1)⟩
    have N0 : ∀ o, C.X i ≤ o → o < C.X (i + 1) → ρ o = none := I.fresh i hi hd
    obtain ⟨ρ', v', w', s1, r1, H1, M1⟩ := q ρ fr cs w rest k hm ht S H0 N0
    have E := M1.ext N0
    obtain ⟨f1, f2⟩ := frame_rule I.hp (fun o ob ho => by rw [Tr.get_nil] at ho; cases ho) H1 M1 N0
    have sub : ∀ o ob, C.G (fun x => done x ∨ x = i) p o ob → (Tr.nil.set (C.X i) (C.B i)).get o = some ob ∨ (C.G done p o ob ∧ (Tr.nil : Heap).get o = none) := by
      intro o ob g
      rcases g with g | ⟨a, a1, a2, a3, a4, a5, a6⟩
      · exact .inr ⟨.inl g, Tr.get_nil _⟩
      · rcases a2 with a2 | rfl
        · exact .inr ⟨.inr ⟨a, a1, a2, a3, a4, a5, a6⟩, Tr.get_nil _⟩
        · left; rw [Tr.get_set, if_pos a5, a6]
    refine ⟨p, ρ', _, w', s1, ⟨by rw [putR_size]; exact I.size, slots E r1, f1.less sub, fresh M1.ren, I.moves.trans ((f2.less sub).widen (by omega) (by omega)), I.pos, I.at', ?_, ?_⟩⟩
    · intro j j1 j2
      constructor
      · rintro (h | rfl)
        · exact (I.louds j j1 j2).1 h
        · omega
      · intro h; exact .inl ((I.louds j j1 j2).2 h)
    · intro a a1 a2 a3; exact .inl (I.allocs a a1 a2 a3)
  · -- loud
    have q := C.loud i hi hk
    have hip : p ≤ i := by
      rcases Nat.lt_or_ge i p with h | h
      · exact absurd ((I.louds i hi hk).2 h) hd
      · exact h
    have gap : ∀ j, p ≤ j → j < i → C.K j ≠ 2 := by
      intro j j1 j2 j3
      have := (I.louds j (by omega) j3).1 (hA j (C.total j i j2 hi j3 hk))
      omega
    have sH : ∀ o ob, (C.H i).get o = some ob → C.G done p o ob := by
      intro o ob ho
      rcases C.span (by omega) gap hip ho with z | ⟨a, a1, a2, a3, a4, a5, a6⟩
      · exact .inl z
      · exact .inr ⟨a, a1, hA a (C.first a i a3 hi a4 hk), a4, a2, a5, a6⟩
    have Hi : HRel ρ (C.H i) w := ⟨fun o ob ho => I.hp.obj o ob (sH _ _ ho), fun o o' L L' ob ob' h1 h2 => I.hp.inj o o' L L' ob ob' (sH _ _ h1) (sH _ _ h2)⟩
    have N0 : ∀ o, C.X i ≤ o → o < C.X (i + 1) → ρ o = none := I.fresh i hi hd
    obtain ⟨ρ', v', w', s1, r1, H1, M1⟩ := q ρ fr cs w rest k hm ht S Hi N0
    have E := M1.ext N0
    obtain ⟨f1, f2⟩ := frame_rule I.hp sH H1 M1 N0
    have sub : ∀ o ob, C.G (fun x => done x ∨ x = i) (i + 1) o ob → (C.H (i + 1)).get o = some ob ∨ (C.G done p o ob ∧ (C.H i).get o = none) := by
      intro o ob g
      rcases g with g | ⟨a, a1, a2, a3, a4, a5, a6⟩
      · exact .inl g
      · have : done a := by
          rcases a2 with a2 | rfl
          · exact a2
          · omega
        exact .inr ⟨.inr ⟨a, a1, this, a3, by omega, a5, a6⟩, by rw [a5]; exact C.apart i a (by omega) a1 a3⟩
    refine ⟨i + 1, ρ', _, w', s1, ⟨by rw [putR_size]; exact I.size, slots E r1, f1.less sub, fresh M1.ren, I.moves.trans ((f2.less sub).widen (by omega) (by omega)), by omega, .inr (by simpa using hk), ?_, ?_⟩⟩
    · intro j j1 j2
      constructor
      · rintro (h | rfl)
        · have := (I.louds j j1 j2).1 h; omega
        · omega
      · intro h
        rcases Nat.lt_or_ge j i with h1 | h1
        · exact .inl (hA j (C.total j i h1 hi j2 hk))
        · exact .inr (by omega)
    · intro a a1 a2 a3
      rcases Nat.lt_or_ge a i with h1 | h1
      · exact .inl (hA a (C.first a i h1 hi a3 hk))
      · exact .inr (by omega)

/-- THE WHOLE ORDER. -/
theorem Can.all : ∀ (σ : List Nat) (done : Nat → Prop), LinR N A done σ → (∀ j, j < N → done j → ∀ l, A j l → done l) → ∀ {p : Nat} {ρ0 : Ren} {w0 : World} {ρ : Ren} {fr : Frame} {w : World} (_ : C.Inv done p ρ0 w0 ρ fr.tmps w) {k : List Item} (_ : fr.mode = .run) (_ : fr.todo = .inRegion ops (σ.map ix) :: k) (cs : List Frame),
    ∃ p' ρ' tmps' w' done', Steps P (lone fr cs w) (lone { fr with tmps := tmps', todo := .inRegion ops [] :: k } cs w') ∧ C.Inv done' p' ρ0 w0 ρ' tmps' w' ∧ ∀ i, i < N → done' i
  | [], done, L, _, p, ρ0, w0, ρ, fr, w, I, k, hm, ht, cs => ⟨p, ρ, fr.tmps, w, done, by have ht' : fr.todo = .inRegion ops [] :: k := ht; rw [← ht']; exact .refl _ _, I, L⟩
  | i :: rest, done, L, cl, p, ρ0, w0, ρ, fr, w, I, k, hm, ht, cs => by
    obtain ⟨l1, l2, l3, l4⟩ := L
    obtain ⟨p1, ρ1, t1, w1, s1, I1⟩ := C.one I hm ht l1 l2 l3 cl cs
    obtain ⟨p2, ρ2, t2, w2, d2, s2, I2, h2⟩ := Can.all rest _ l4 (fun j j1 j2 l hl => by
      rcases j2 with j2 | rfl
      · exact .inl (cl j j1 j2 l hl)
      · exact .inl (l3 l hl)) (fr := { fr with tmps := t1, todo := .inRegion ops (rest.map ix) :: k }) I1 hm rfl cs
    exact ⟨p2, ρ2, t2, w2, d2, s1.trans s2, I2, h2⟩

/-- A REGION, WHATEVER ITS ORDER. -/
theorem Can.region {σ : List Nat} (L : LinR N A (fun _ => False) σ) {ρ : Ren} {fr : Frame} {w : World} {k : List Item} (hm : fr.mode = .run) (ht : fr.todo = .inRegion ops (σ.map ix) :: k) (S : SlotsRel ρ tm0 n fr.tmps) (H : HRel ρ (C.H 0) w)
    (F : ∀ o, C.X 0 ≤ o → o < C.X N → ρ o = none) (cs : List Frame) :
    ∃ ρ' tmps' w', Steps P (lone fr cs w) (lone { fr with tmps := tmps', todo := .inRegion ops [] :: k } cs w') ∧ SlotsRel ρ' tmF n tmps' ∧ HRel ρ' (C.H N) w' ∧ Moves ρ (C.H 0) (C.X 0) w ρ' (C.H N) (C.X N) w' := by
  have I0 : C.Inv (fun _ => False) 0 ρ w ρ fr.tmps w := by
    have e : ∀ o ob, C.G (fun _ => False) 0 o ob ↔ (C.H 0).get o = some ob := by
      intro o ob
      constructor
      · rintro (h | ⟨a, _, h, _⟩)
        · exact h
        · exact h.elim
      · exact .inl
    refine ⟨S.1, ?_, ⟨fun o ob h => H.obj o ob ((e _ _).1 h), fun o o' L L' ob ob' h1 h2 => H.inj o o' L L' ob ob' ((e _ _).1 h1) ((e _ _).1 h2)⟩, ?_, (MovesP.refl _ _ _ _ _).less fun o ob h => (e _ _).1 h, Nat.zero_le _, .inl rfl, ?_, ?_⟩
    · intro t u hu
      rcases hu with ⟨j, _, h, _⟩ | ⟨_, h⟩
      · exact h.elim
      · exact S.2 t u h
    · intro i hi _ o o1 o2
      have := C.X_le (i := 0) (j := i) (by omega) (by omega)
      have := C.X_le (i := i + 1) (j := N) (by omega) (by omega)
      exact F o (by omega) (by omega)
    · intro j _ _
      constructor
      · exact fun h => h.elim
      · intro h; omega
    · intro a h; omega
  obtain ⟨p, ρ', tmps', w', done, s1, I, hall⟩ := C.all σ _ L (fun _ _ h => h.elim) I0 hm ht cs
  have sH : ∀ o ob, (C.H N).get o = some ob → C.G done p o ob := by
    intro o ob ho
    rcases C.span (Nat.le_refl _) (fun i i1 i2 hk => by have := (I.louds i i2 hk).1 (hall i i2); omega) I.pos ho with z | ⟨a, a1, a2, a3, a4, a5, a6⟩
    · exact .inl z
    · exact .inr ⟨a, a1, hall a a1, a4, a2, a5, a6⟩
  refine ⟨ρ', tmps', w', s1, ⟨I.size, ?_⟩, ⟨fun o ob ho => I.hp.obj o ob (sH _ _ ho), fun o o' L L' ob ob' h1 h2 => I.hp.inj o o' L L' ob ob' (sH _ _ h1) (sH _ _ h2)⟩, ?_⟩
  · intro t u hu
    refine I.slot t u ?_
    rcases C.final t u hu with ⟨j, j1, j2, j3⟩ | ⟨h1, h2⟩
    · exact .inl ⟨j, j1, hall j j1, j2, j3⟩
    · exact .inr ⟨fun j j1 _ => h1 j j1, h2⟩
  · have M := I.moves.less sH
    exact ⟨M.os, M.tape, M.output, M.size, fun b hb ho => M.block b hb ho, fun b hb ho => M.owned b hb ho, C.X_le (Nat.zero_le _) (Nat.le_refl _), M.ren⟩

end
end

section
/-- the operations that stand ahead of one by an edge that binds. -/
def edgeOns (o : Oper) : List Nat := (o.after.toList.filter (Region.binds .any)).map (·.on)

def maskOf (ms : List Nat) : List Nat → Nat
  | [] => 0
  | j :: js => Nat.lor (Nat.lor (Nat.shiftLeft 1 j) (ms.getD j 0)) (maskOf ms js)

/-- for each operation the set of those that must stand ahead of it. -/
def masks : List Oper → List Nat → List Nat
  | [], ms => ms
  | o :: os, ms => masks os (ms ++ [maskOf ms (edgeOns o)])

def bit (ms : List Nat) (i j : Nat) : Bool := Nat.testBit (ms.getD i 0) j

theorem testBit_one_shift (j l : Nat) : Nat.testBit (Nat.shiftLeft 1 j) l = decide (j = l) := by
  show Nat.testBit (1 <<< j) l = _
  rw [Nat.one_shiftLeft, Nat.testBit_two_pow]

/-- the sets hold only what a closed set holds that holds the edges. -/
def MaskOk (es : Nat → List Nat) (ms : List Nat) : Prop :=
  ∀ i l, bit ms i l = true → ∀ D : Nat → Prop, (∀ a, D a → ∀ b ∈ es a, D b) → (∀ b ∈ es i, D b) → D l

theorem maskOf_ok {es : Nat → List Nat} {ms : List Nat} (H : MaskOk es ms) (D : Nat → Prop) (cl : ∀ a, D a → ∀ b ∈ es a, D b) : ∀ js : List Nat, (∀ b ∈ js, D b) → ∀ l, Nat.testBit (maskOf ms js) l = true → D l
  | [], _, l, h => by simp [maskOf] at h
  | j :: js, hj, l, h => by
    unfold maskOf at h
    have e : ∀ a b : Nat, Nat.lor a b = a ||| b := fun _ _ => rfl
    rw [e, e, Nat.testBit_or, Nat.testBit_or, testBit_one_shift] at h
    simp only [Bool.or_eq_true, decide_eq_true_eq] at h
    rcases h with (rfl | h) | h
    · exact hj _ (by simp)
    · exact H j l h D cl (cl j (hj j (by simp)))
    · exact maskOf_ok H D cl js (fun b hb => hj b (by simp [hb])) l h

theorem masks_ok {es : Nat → List Nat} : ∀ (os : List Oper) (ms : List Nat), MaskOk es ms → (∀ i o, os[i]? = some o → edgeOns o = es (ms.length + i)) → MaskOk es (masks os ms)
  | [], ms, H, _ => H
  | o :: os, ms, H, he => by
    refine masks_ok os _ ?_ fun i o' hi => ?_
    · intro i l hl D cl hi
      unfold bit at hl
      rw [List.getD_eq_getElem?_getD] at hl
      rcases Nat.lt_trichotomy i ms.length with h | h | h
      · rw [List.getElem?_append_left h] at hl
        exact H i l (by unfold bit; rw [List.getD_eq_getElem?_getD]; exact hl) D cl hi
      · subst h
        rw [List.getElem?_append_right (Nat.le_refl _)] at hl
        simp only [Nat.sub_self, List.getElem?_cons_zero, Option.getD_some] at hl
        have := he 0 o (by simp)
        exact maskOf_ok H D cl _ (by rw [this]; exact hi) l hl
      · rw [List.getElem?_eq_none (by simp; omega)] at hl
        simp at hl
    · have := he (i + 1) o' (by simpa using hi)
      rw [this]
      simp
      congr 1
      omega

/-- the operations' needs. -/
def Needs (ops : Array Oper) (i j : Nat) : Prop := bit (masks ops.toList []) i j = true

def esOf (ops : Array Oper) (i : Nat) : List Nat := match ops[i]? with
  | some o => edgeOns o
  | none => []

theorem needs_ok (ops : Array Oper) {i l : Nat} (h : Needs ops i l) (D : Nat → Prop) (cl : ∀ a, D a → ∀ b ∈ esOf ops a, D b) (hi : ∀ b ∈ esOf ops i, D b) : D l := by
  refine masks_ok (es := esOf ops) ops.toList [] ?_ ?_ i l h D cl hi
  · intro i l hl
    simp [bit] at hl
  · intro i o ho
    have : ops[i]? = some o := by rw [← Array.getElem?_toList]; exact ho
    simp [esOf, this]

/-- each edge goes back. -/
def backs (ops : Array Oper) : Prop := ∀ i, i < ops.size → ∀ b ∈ esOf ops i, b < i

theorem needs_lt {ops : Array Oper} (B : backs ops) {i l : Nat} (hi : i < ops.size) (h : Needs ops i l) : l < i := by
  refine needs_ok ops h (fun x => x < i) ?_ ?_
  · intro a ha b hb
    have := B a (by omega) b hb
    omega
  · exact fun b hb => B i hi b hb

theorem ready_mem {ops : Array Oper} {listed : Array Bool} {i : Nat} : i ∈ Region.ready .any ops listed ↔ i < ops.size ∧ listed.getD i true = false ∧ ∀ b ∈ esOf ops i, listed.getD b false = true := by
  unfold Region.ready
  rw [List.mem_filter, List.mem_range]
  constructor
  · rintro ⟨h1, h2⟩
    simp only [Bool.and_eq_true, Bool.not_eq_true'] at h2
    refine ⟨h1, h2.1, ?_⟩
    have ho : ops[i]? = some ops[i] := Array.getElem?_eq_getElem h1
    rw [ho] at h2
    simp only [Option.map_some, Option.getD_some, Array.all_eq_true'] at h2
    intro b hb
    unfold esOf at hb
    rw [ho] at hb
    simp only [edgeOns, List.mem_map, List.mem_filter] at hb
    obtain ⟨e, ⟨e1, e2⟩, rfl⟩ := hb
    have := h2.2 e (by simpa using e1)
    simpa [e2] using this
  · rintro ⟨h1, h2, h3⟩
    refine ⟨h1, ?_⟩
    have ho : ops[i]? = some ops[i] := Array.getElem?_eq_getElem h1
    simp only [Bool.and_eq_true, Bool.not_eq_true']
    refine ⟨h2, ?_⟩
    rw [ho]
    simp only [Option.map_some, Option.getD_some, Array.all_eq_true']
    intro e he
    cases hb : Region.binds .any e with
    | false => rfl
    | true =>
      have := h3 e.on (by
        unfold esOf
        rw [ho]
        simp only [edgeOns, List.mem_map, List.mem_filter]
        exact ⟨e, ⟨by simpa using he, hb⟩, rfl⟩)
      simpa using this

def count (listed : Array Bool) : Nat := (listed.toList.filter (· == false)).length

theorem count_set {listed : Array Bool} {i : Nat} (h : listed.getD i true = false) : count (listed.setIfInBounds i true) + 1 = count listed := by
  unfold count
  rw [Array.toList_setIfInBounds]
  have hg : listed.toList[i]? = some false := by
    rw [Array.getD_eq_getD_getElem?] at h
    rw [Array.getElem?_toList]
    cases hx : listed[i]? with
    | none => rw [hx] at h; simp at h
    | some b => rw [hx] at h; simp at h; rw [h]
  generalize listed.toList = l at hg
  clear h
  induction l generalizing i with
  | nil => simp at hg
  | cons b l ih =>
    cases i with
    | zero => simp at hg; subst hg; simp
    | succ i =>
      simp at hg
      have := ih hg
      cases b <;> simp at this ⊢ <;> omega

theorem lin_go {ops : Array Oper} (B : backs ops) : ∀ (fuel t : Nat) (listed : Array Bool) (done : Nat → Prop), listed.size = ops.size → (∀ i, i < ops.size → (done i ↔ listed.getD i false = true)) → (∀ i, done i → i < ops.size) →
    (∀ a, done a → ∀ b ∈ esOf ops a, done b) → count listed ≤ fuel → LinR ops.size (Needs ops) done (Region.linearise.go .any ops fuel t listed [])
  | fuel, t, listed, done, hs, hd, hb, cl, hc => by
    have hgd : ∀ i, i < ops.size → (listed.getD i true = listed.getD i false) := by
      intro i hi
      rw [Array.getD_eq_getD_getElem?, Array.getD_eq_getD_getElem?, Array.getElem?_eq_getElem (by omega)]
      rfl
    -- nothing is ready only when all are done
    have none_ready : Region.ready .any ops listed = [] → ∀ i, i < ops.size → done i := by
      intro h
      intro i
      induction i using Nat.strongRecOn with
      | ind i ih =>
        intro hi
        by_cases hdi : done i
        · exact hdi
        · exfalso
          have : i ∈ Region.ready .any ops listed := by
            rw [ready_mem]
            refine ⟨hi, ?_, ?_⟩
            · rw [hgd i hi]
              cases hx : listed.getD i false with
              | false => rfl
              | true => exact absurd ((hd i hi).2 hx) hdi
            · intro b hb'
              have hlt := B i hi b hb'
              exact (hd b (by omega)).1 (ih b hlt (by omega))
          rw [h] at this
          cases this
    cases fuel with
    | zero =>
      unfold Region.linearise.go
      show ∀ i, i < ops.size → done i
      refine none_ready ?_
      have hz : count listed = 0 := by omega
      cases hr : Region.ready .any ops listed with
      | nil => rfl
      | cons x xs =>
        exfalso
        have hx : x ∈ Region.ready .any ops listed := by rw [hr]; simp
        rw [ready_mem] at hx
        have := count_set hx.2.1
        omega
    | succ fuel =>
      unfold Region.linearise.go
      simp only []
      change LinR ops.size (Needs ops) done (match (Region.ready .any ops listed)[t % (Region.ready .any ops listed).length]? with
        | some i => Region.linearise.go .any ops fuel (t / (Region.ready .any ops listed).length) (listed.setIfInBounds i true) [i]
        | none => [].reverse)
      cases hi : (Region.ready .any ops listed)[t % (Region.ready .any ops listed).length]? with
      | none =>
        have hnil : Region.ready .any ops listed = [] := by
          cases hr : Region.ready .any ops listed with
          | nil => rfl
          | cons x xs =>
            rw [hr] at hi
            have hlt : t % (x :: xs).length < (x :: xs).length := Nat.mod_lt _ (by simp)
            simp at hi
            simp at hlt
            omega
        exact none_ready hnil
      | some i =>
        have hm := List.mem_of_getElem? hi
        rw [ready_mem] at hm
        obtain ⟨m1, m2, m3⟩ := hm
        simp only []
        rw [linearise_go_acc]
        have nd : ¬ done i := fun h => by
          have := (hd i m1).1 h
          rw [← hgd i m1, m2] at this
          cases this
        have de : ∀ b ∈ esOf ops i, done b := fun b hb' => (hd b (by have := B i m1 b hb'; omega)).2 (m3 b hb')
        refine ⟨m1, nd, fun j hj => needs_ok ops hj done cl de, ?_⟩
        refine lin_go B fuel _ _ _ (by simpa using hs) ?_ ?_ ?_ ?_
        · intro x hx
          rw [Array.getD_eq_getD_getElem?, Array.getElem?_setIfInBounds]
          by_cases e : i = x
          · subst e
            simp [hs, m1]
          · rw [if_neg e, ← Array.getD_eq_getD_getElem?]
            rw [← hd x hx]
            constructor
            · rintro (h | rfl)
              · exact h
              · exact absurd rfl e
            · exact .inl
        · rintro x (h | rfl)
          · exact hb x h
          · exact m1
        · rintro a (h | rfl) b hb'
          · exact .inl (cl a h b hb')
          · exact .inl (de b hb')
        · have := count_set m2
          omega

/-- THE DRAWN ORDER. -/
theorem lin_schedule {P : Program} (hm : P.follows .mixedOrders = true) {ops : Array Oper} (B : backs ops) (t : Nat) : LinR ops.size (Needs ops) (fun _ => False) (Region.schedule (P.follows .mixedOrders) ops t) := by
  simp only [Region.schedule, hm, Bool.true_or, if_true]
  unfold Region.linearise
  refine lin_go B _ _ _ _ (by simp) ?_ (fun _ h => h.elim) (fun _ h => h.elim) ?_
  · intro i hi
    rw [Array.getD_eq_getD_getElem?]
    simp [hi]
  · unfold count
    simp

theorem lin_lt {N : Nat} {A : Nat → Nat → Prop} : ∀ (σ : List Nat) (done : Nat → Prop), LinR N A done σ → ∀ x ∈ σ, x < N
  | [], _, _, x, h => by cases h
  | i :: rest, done, L, x, h => by
    obtain ⟨l1, _, _, l4⟩ := L
    rcases List.mem_cons.1 h with rfl | h
    · exact l1
    · exact lin_lt rest _ l4 x h

/-- an order, told by other numbers. -/
theorem lin_map {N : Nat} {A : Nat → Nat → Prop} {ix pos : Nat → Nat} (h1 : ∀ x, x < N → pos x < N ∧ ix (pos x) = x) (h2 : ∀ i, i < N → ix i < N ∧ pos (ix i) = i) :
    ∀ (σ : List Nat) (done D : Nat → Prop), (∀ p, p < N → (D p ↔ done (ix p))) → LinR N A done σ → LinR N (fun i j => j < N ∧ A (ix i) (ix j)) D (σ.map pos)
  | [], done, D, hD, L => fun i hi => (hD i hi).2 (L _ (h2 i hi).1)
  | i :: rest, done, D, hD, L => by
    obtain ⟨l1, l2, l3, l4⟩ := L
    obtain ⟨p1, p2⟩ := h1 i l1
    refine ⟨p1, fun h => l2 (by have := (hD _ p1).1 h; rwa [p2] at this), fun j hj => ?_, ?_⟩
    · obtain ⟨j1, j2⟩ := hj
      rw [p2] at j2
      exact (hD j j1).2 (l3 _ j2)
    · refine lin_map h1 h2 rest _ _ (fun p hp => ?_) l4
      constructor
      · rintro (h | rfl)
        · exact .inl ((hD p hp).1 h)
        · exact .inr p2
      · rintro (h | h)
        · exact .inl ((hD p hp).2 h)
        · exact .inr (by rw [← h]; exact (h2 p hp).2.symm)

theorem map_back {N : Nat} {ix pos : Nat → Nat} (h1 : ∀ x, x < N → pos x < N ∧ ix (pos x) = x) (σ : List Nat) (h : ∀ x ∈ σ, x < N) : (σ.map pos).map ix = σ := by
  rw [List.map_map]
  conv => rhs; rw [← List.map_id σ]
  exact List.map_congr_left fun x hx => (h1 x (h x hx)).2
end

section
/-- the slots that an operation looks at. -/
def looks (ops : Array Oper) (o : Oper) : List Nat :=
  (o.op.operands.toList.filterMap fun x => match x with | .tmp t => some t | _ => none) ++ (match o.guard with | some (g, _) => ((ops[g]?).bind (·.dst)).toList | none => [])

def only (tm : Tr Value) : List Nat → Tr Value → Tr Value
  | [], acc => acc
  | t :: ts, acc => match tm.get t with
    | some v => only tm ts (acc.set t v)
    | none => only tm ts acc

theorem only_get {tm : Tr Value} : ∀ (ts : List Nat) (acc : Tr Value) (t : Nat) (u : Value), (only tm ts acc).get t = some u → (t ∈ ts ∧ tm.get t = some u) ∨ acc.get t = some u
  | [], _, _, _, h => .inr h
  | x :: xs, acc, t, u, h => by
    unfold only at h
    cases hx : tm.get x with
    | none =>
      rw [hx] at h
      rcases only_get xs acc t u h with ⟨a, b⟩ | a
      · exact .inl ⟨by simp [a], b⟩
      · exact .inr a
    | some v =>
      rw [hx] at h
      rcases only_get xs (acc.set x v) t u h with ⟨a, b⟩ | a
      · exact .inl ⟨by simp [a], b⟩
      · rw [Tr.get_set] at a
        by_cases e : t = x
        · rw [if_pos e] at a
          obtain rfl := Option.some.inj a
          exact .inl ⟨by simp [e], by rw [e, hx]⟩
        · rw [if_neg e] at a; exact .inr a

def setO (tm : Tr Value) (d : Option Nat) (v : Value) : Tr Value :=
  match d with
  | some d => tm.set d v
  | none => tm

/-- what is known of an operation of the run in text order. -/
structure Rec where
  k : Nat
  tm : Tr Value
  h : Heap
  nx : Nat
  v : Value
  b : AObj

def isReader : Op → Bool
  | .load .. => true
  | .convert .. => true
  | .slice .. => true
  | .lookup .. => true
  | _ => false

abbrev CallF := FuncId → List Value → Heap → Nat → Option (Value × Heap × Nat)

def rstep (X : Tabs) (call : CallF) (ops : Array Oper) (o : Oper) (tm : Tr Value) (h : Heap) (nx : Nat) : Option (Rec × Heap × Nat) :=
  let tmS := only tm (looks ops o) .nil
  cnd (isReader o.op)
    (ob (aLocal X ops tmS h nx o) fun r => some (⟨0, tmS, h, nx, r.1, .map []⟩, h, nx))
    (match aLocal X ops tmS .nil nx o with
    | some (v, h', nx') => cnd (Nat.beq nx' nx) (some (⟨0, tmS, h, nx, v, .map []⟩, h, nx))
        (ob (h'.get nx) fun b => cnd (Nat.ble nx nx') (some (⟨1, tmS, h, nx, v, b⟩, h.set nx b, nx')) none)
    | none => match aLocal X ops tmS h nx o with
      | some (v, h', nx') => cnd (Nat.ble nx nx') (some (⟨2, tmS, h, nx, v, .map []⟩, h', nx')) none
      | none => ob (aCalls X ops tmS h nx o) fun c => ob (call c.1 c.2 h nx) fun r => cnd (Nat.ble nx r.2.2) (some (⟨2, tmS, h, nx, r.1, .map []⟩, r.2.1, r.2.2)) none)

def rgo (X : Tabs) (call : CallF) (ops : Array Oper) : List Oper → Tr Value → Heap → Nat → Option (List Rec × Tr Value × Heap × Nat)
  | [], tm, h, nx => some ([], tm, h, nx)
  | o :: os, tm, h, nx => ob (rstep X call ops o tm h nx) fun r => ob (rgo X call ops os (setO tm o.dst r.1.v) r.2.1 r.2.2) fun z => some (r.1 :: z.1, z.2)

def hAt : List Rec → Heap → Nat → Heap
  | [], hF, _ => hF
  | r :: _, _, 0 => r.h
  | _ :: rs, hF, i + 1 => hAt rs hF i

def xAt : List Rec → Nat → Nat → Nat
  | [], nF, _ => nF
  | r :: _, _, 0 => r.nx
  | _ :: rs, nF, i + 1 => xAt rs nF i

theorem OpR.less {P : Program} {ops : Array Oper} {i : Nat} {tm : Tr Value} {n : Nat} {h h' h'' : Heap} {nx nx' : Nat} {v : Value} (H : OpR P ops i tm n h nx v h' nx') (s : ∀ o ob, h''.get o = some ob → h'.get o = some ob) : OpR P ops i tm n h nx v h'' nx' := by
  intro ρ fr cs w rest k hm ht S Hh N
  obtain ⟨ρ', v', w', a, b, c, M⟩ := H ρ fr cs w rest k hm ht S Hh N
  exact ⟨ρ', v', w', a, b, c.sub s, ⟨M.os, M.tape, M.output, M.size, M.block, fun b hb ⟨o, ob, L, x, y, z⟩ => M.owned b hb ⟨o, ob, L, s _ _ x, y, z⟩, M.le, M.ren⟩⟩

/-- what needs no object leaves all as they are. -/
theorem OpR.over {P : Program} {ops : Array Oper} {i : Nat} {tm : Tr Value} {n : Nat} {h' : Heap} {nx : Nat} {v : Value} (H : OpR P ops i tm n .nil nx v h' nx) (h : Heap) : OpR P ops i tm n h nx v h nx := by
  intro ρ fr cs w rest k hm ht S Hh N
  have H0 : HRel ρ .nil w := ⟨fun o ob ho => (by rw [Tr.get_nil] at ho; cases ho), fun o o' L L' ob ob' h1 => (by rw [Tr.get_nil] at h1; cases h1)⟩
  obtain ⟨ρ', v', w', a, b, c, M⟩ := H ρ fr cs w rest k hm ht S H0 N
  obtain ⟨f1, f2⟩ := frame_rule (G := fun o ob => h.get o = some ob) ⟨Hh.obj, Hh.inj⟩ (fun o ob ho => (by rw [Tr.get_nil] at ho; cases ho)) c M N
  have sub : ∀ o ob, h.get o = some ob → h'.get o = some ob ∨ (h.get o = some ob ∧ (Tr.nil : Heap).get o = none) := fun o ob ho => .inr ⟨ho, Tr.get_nil _⟩
  have g1 := f1.less sub
  have g2 := f2.less sub
  exact ⟨ρ', v', w', a, b, ⟨g1.obj, g1.inj⟩, ⟨g2.os, g2.tape, g2.output, g2.size, g2.block, g2.owned, Nat.le_refl _, g2.ren⟩⟩

theorem reader_heap {X : Tabs} {h : Heap} {nx : Nat} {ev : Operand → Option Value} {o : Oper} (hr : isReader o.op = true) {out : AOut} (e : aop X h nx ev o = some out) : ∃ v, out = .val v h nx := by
  unfold isReader at hr
  split at hr
  · rename_i t a hop
    unfold aop at e
    rw [hop] at e
    replace e := ob_some e; obtain ⟨x, _, e⟩ := e
    replace e := ob_some e; obtain ⟨v, _, e⟩ := e
    exact ⟨v, (Option.some.inj e).symm⟩
  · rename_i s d x hop
    unfold aop at e
    rw [hop] at e
    replace e := ob_some e; obtain ⟨a, _, e⟩ := e
    split at e
    · replace e := ob_some e; obtain ⟨v, _, e⟩ := e
      exact ⟨v, (Option.some.inj e).symm⟩
    · cases hs : Nat.beq s d with
      | true =>
        rw [hs] at e
        replace e := ob_some e; obtain ⟨v, _, e⟩ := e
        exact ⟨v, (Option.some.inj e).symm⟩
      | false =>
        rw [hs] at e
        replace e := ob_some e; obtain ⟨v, _, e⟩ := e
        exact ⟨v, (Option.some.inj e).symm⟩
    · replace e := ob_some e; obtain ⟨v, _, e⟩ := e
      exact ⟨v, (Option.some.inj e).symm⟩
    · cases e
  · rename_i t x lo hi mx hop
    unfold aop at e
    rw [hop] at e
    replace e := ob_some e; obtain ⟨a, _, e⟩ := e
    replace e := ob_some e; obtain ⟨l, _, e⟩ := e
    replace e := ob_some e; obtain ⟨u, _, e⟩ := e
    replace e := ob_some e; obtain ⟨m, _, e⟩ := e
    replace e := ob_some e; obtain ⟨v, _, e⟩ := e
    exact ⟨v, (Option.some.inj e).symm⟩
  · rename_i t x ix ok hop
    unfold aop at e
    rw [hop] at e
    replace e := ob_some e; obtain ⟨a, _, e⟩ := e
    replace e := ob_some e; obtain ⟨l, _, e⟩ := e
    replace e := ob_some e; obtain ⟨v, _, e⟩ := e
    exact ⟨v, (Option.some.inj e).symm⟩
  · cases hr

theorem reader_local {X : Tabs} {ops : Array Oper} {tm : Tr Value} {h : Heap} {nx : Nat} {o : Oper} (hr : isReader o.op = true) {v : Value} {h' : Heap} {nx' : Nat} (e : aLocal X ops tm h nx o = some (v, h', nx')) : h' = h ∧ nx' = nx := by
  unfold aLocal at e
  replace e := ob_some e
  obtain ⟨b, _, e⟩ := e
  cases b with
  | false => cases e; exact ⟨rfl, rfl⟩
  | true =>
    simp only [cnd_true] at e
    cases hdf : isDefer o.op with
    | true => simp [hdf] at e
    | false =>
      simp only [hdf, cnd_false] at e
      replace e := ob_some e
      obtain ⟨out, h1, e⟩ := e
      obtain ⟨u, rfl⟩ := reader_heap hr h1
      have e' : some (u, h, nx) = some (v, h', nx') := e
      cases e'
      exact ⟨rfl, rfl⟩

/-- what a record tells. -/
def RecOk (P : Program) (ops : Array Oper) (n i : Nat) (o : Oper) (r : Rec) (h' : Heap) (nx' : Nat) : Prop :=
  r.nx ≤ nx' ∧
  ((r.k = 0 ∧ h' = r.h ∧ nx' = r.nx ∧ (isReader o.op = true ∨ ∀ h, OpR P ops i r.tm n h r.nx r.v h r.nx)) ∨
   (r.k = 1 ∧ h' = r.h.set r.nx r.b ∧ OpR P ops i r.tm n .nil r.nx r.v (Tr.nil.set r.nx r.b) nx') ∨
   (r.k = 2 ∧ OpR P ops i r.tm n r.h r.nx r.v h' nx'))

theorem rstep_ok {P : Program} {X : Tabs} (OK : TabsOk P X) {call : CallF} (hc : ∀ f args h nx v h' nx', call f args h nx = some (v, h', nx') → Ret P f args h nx v h' nx') {ops : Array Oper} {n i : Nat} {o : Oper} (ho : ops[i]? = some o)
    {tm : Tr Value} {h : Heap} {nx : Nat} {r : Rec} {h' : Heap} {nx' : Nat} (e : rstep X call ops o tm h nx = some (r, h', nx')) :
    r.h = h ∧ r.nx = nx ∧ r.tm = only tm (looks ops o) .nil ∧ RecOk P ops n i o r h' nx' := by
  unfold rstep at e
  cases hr : isReader o.op with
  | true =>
    simp only [hr, cnd_true] at e
    replace e := ob_some e
    obtain ⟨⟨v, h1, nx1⟩, h2, e⟩ := e
    cases e
    exact ⟨rfl, rfl, rfl, Nat.le_refl _, .inl ⟨rfl, rfl, rfl, .inl hr⟩⟩
  | false =>
    simp only [hr, cnd_false] at e
    cases h1 : aLocal X ops (only tm (looks ops o) .nil) .nil nx o with
    | some z =>
      obtain ⟨v, h2, nx2⟩ := z
      simp only [h1] at e
      have q := local_op (P := P) (n := n) OK ho h1
      cases hb : Nat.beq nx2 nx with
      | true =>
        have hx := Nat.eq_of_beq_eq_true hb
        subst hx
        simp only [hb, cnd_true] at e
        cases e
        exact ⟨rfl, rfl, rfl, Nat.le_refl _, .inl ⟨rfl, rfl, rfl, .inr fun h => q.over h⟩⟩
      | false =>
        simp only [hb, cnd_false] at e
        replace e := ob_some e
        obtain ⟨b, h3, e⟩ := e
        cases hl : Nat.ble nx nx2 with
        | false => simp [hl] at e
        | true =>
          simp only [hl, cnd_true] at e
          cases e
          refine ⟨rfl, rfl, rfl, Nat.le_of_ble_eq_true hl, .inr (.inl ⟨rfl, rfl, q.less ?_⟩)⟩
          intro p ob hp
          rw [Tr.get_set] at hp
          by_cases e : p = nx
          · rw [if_pos e] at hp; cases hp; rw [e]; exact h3
          · rw [if_neg e, Tr.get_nil] at hp; cases hp
    | none =>
      simp only [h1] at e
      cases h2 : aLocal X ops (only tm (looks ops o) .nil) h nx o with
      | some z =>
        obtain ⟨v, h3, nx3⟩ := z
        simp only [h2] at e
        have q := local_op (P := P) (n := n) OK ho h2
        cases hl : Nat.ble nx nx3 with
        | false => simp [hl] at e
        | true =>
          simp only [hl, cnd_true] at e
          cases e
          exact ⟨rfl, rfl, rfl, Nat.le_of_ble_eq_true hl, .inr (.inr ⟨rfl, q⟩)⟩
      | none =>
        simp only [h2] at e
        replace e := ob_some e
        obtain ⟨⟨f, args⟩, h3, e⟩ := e
        replace e := ob_some e
        obtain ⟨⟨v, h4, nx4⟩, h5, e⟩ := e
        have q := call_op (P := P) (n := n) OK ho h3 (hc _ _ _ _ _ _ _ h5)
        cases hl : Nat.ble nx nx4 with
        | false => simp [hl] at e
        | true =>
          simp only [hl, cnd_true] at e
          cases e
          exact ⟨rfl, rfl, rfl, Nat.le_of_ble_eq_true hl, .inr (.inr ⟨rfl, q⟩)⟩

def vAt (rs : List Rec) (i : Nat) : Value := ((rs[i]?).map (·.v)).getD undef

/-- what slots hold behind the first i operations. -/
def TmI (os : List Oper) (rs : List Rec) (tm : Tr Value) (i : Nat) (tmi : Tr Value) : Prop :=
  ∀ (t : Nat) (u : Value), tmi.get t = some u → (∃ j, j < i ∧ (os[j]?).bind (·.dst) = some t ∧ vAt rs j = u) ∨ ((∀ j, j < i → (os[j]?).bind (·.dst) ≠ some t) ∧ tm.get t = some u)

theorem TmI.cons {os : List Oper} {rs : List Rec} {tm : Tr Value} {o : Oper} {r : Rec} {i : Nat} {tmi : Tr Value} (h : TmI os rs (setO tm o.dst r.v) i tmi) : TmI (o :: os) (r :: rs) tm (i + 1) tmi := by
  intro t u hu
  rcases h t u hu with ⟨j, j1, j2, j3⟩ | ⟨h1, h2⟩
  · exact .inl ⟨j + 1, by omega, by simpa using j2, by unfold vAt at *; simpa using j3⟩
  · have tail : ∀ j, j + 1 < i + 1 → ((o :: os)[j + 1]?).bind (·.dst) ≠ some t := fun j hj => by simpa using h1 j (by omega)
    unfold setO at h2
    split at h2
    · rename_i d hd
      rw [Tr.get_set] at h2
      by_cases e : t = d
      · rw [if_pos e] at h2
        cases h2
        exact .inl ⟨0, by omega, by simp [hd, e], by simp [vAt]⟩
      · rw [if_neg e] at h2
        refine .inr ⟨fun j hj => ?_, h2⟩
        cases j with
        | zero => simp [hd]; exact fun h => e h.symm
        | succ j => exact tail j hj
    · rename_i hd
      refine .inr ⟨fun j hj => ?_, h2⟩
      cases j with
      | zero => simp [hd]
      | succ j => exact tail j hj

theorem rgo_ok {P : Program} {X : Tabs} (OK : TabsOk P X) {call : CallF} (hc : ∀ f args h nx v h' nx', call f args h nx = some (v, h', nx') → Ret P f args h nx v h' nx') {ops : Array Oper} {n : Nat} {ix : Nat → Nat} :
    ∀ (os : List Oper) (s : Nat), (∀ i o, os[i]? = some o → ops[ix (s + i)]? = some o) → ∀ (tm : Tr Value) (h : Heap) (nx : Nat) (rs : List Rec) (tmF : Tr Value) (hF : Heap) (nF : Nat), rgo X call ops os tm h nx = some (rs, tmF, hF, nF) →
      rs.length = os.length ∧ hAt rs hF 0 = h ∧ xAt rs nF 0 = nx ∧ hAt rs hF os.length = hF ∧ xAt rs nF os.length = nF ∧ TmI os rs tm os.length tmF ∧
      ∀ i o, os[i]? = some o → ∃ r tmi, rs[i]? = some r ∧ r.h = hAt rs hF i ∧ r.nx = xAt rs nF i ∧ r.tm = only tmi (looks ops o) .nil ∧ TmI os rs tm i tmi ∧ RecOk P ops n (ix (s + i)) o r (hAt rs hF (i + 1)) (xAt rs nF (i + 1))
  | [], s, _, tm, h, nx, rs, tmF, hF, nF, e => by
    cases e
    exact ⟨rfl, rfl, rfl, rfl, rfl, fun t u hu => .inr ⟨fun j hj => by simp at hj, hu⟩, fun i o ho => by simp at ho⟩
  | o :: os, s, hs, tm, h, nx, rs, tmF, hF, nF, e => by
    unfold rgo at e
    replace e := ob_some e
    obtain ⟨⟨r, h', nx'⟩, h1, e⟩ := e
    replace e := ob_some e
    obtain ⟨⟨rs', tmF', hF', nF'⟩, h2, e⟩ := e
    cases e
    have h0 := hs 0 o (by simp)
    obtain ⟨a1, a2, a3, a4⟩ := rstep_ok (P := P) (n := n) OK hc h0 h1
    obtain ⟨b1, b2, b3, b4, b5, b6, b7⟩ := rgo_ok (n := n) OK hc os (s + 1) (fun i o' ho' => by
      have := hs (i + 1) o' (by simpa using ho')
      rw [← this]; congr 2; omega) _ _ _ _ _ _ _ h2
    refine ⟨by simp [b1], a1, a2, b4, b5, b6.cons, ?_⟩
    intro i o' ho'
    cases i with
    | zero =>
      simp at ho'
      subst ho'
      refine ⟨r, tm, by simp, rfl, rfl, a3, fun t u hu => .inr ⟨fun j hj => by omega, hu⟩, ?_⟩
      show RecOk P ops n (ix (s + 0)) o r (hAt rs' hF 0) (xAt rs' nF 0)
      rw [b2, b3]
      exact a4
    | succ i =>
      obtain ⟨r', tmi, c1, c2, c3, c4, c5, c6⟩ := b7 i o' (by simpa using ho')
      refine ⟨r', tmi, by simpa using c1, c2, c3, c4, c5.cons, ?_⟩
      have : s + (i + 1) = s + 1 + i := by omega
      rw [this]
      exact c6
end

section
def listEq (f : Value → Value → Bool) : List Value → List Value → Bool
  | [], [] => true
  | a :: as, b :: bs => cnd (f a b) (listEq f as bs) false
  | _, _ => false

theorem listEq_eq {f : Value → Value → Bool} (h : ∀ a b, f a b = true → a = b) : ∀ as bs, listEq f as bs = true → as = bs
  | [], [], _ => rfl
  | a :: as, b :: bs, e => by
    unfold listEq at e
    cases hf : f a b with
    | false => simp [hf] at e
    | true =>
      simp only [hf, cnd_true] at e
      rw [h a b hf, listEq_eq h as bs e]
  | [], _ :: _, e => by cases e
  | _ :: _, [], e => by cases e

/-- are two values one and the same? (A 'false' tells nothing.) -/
def valEq : Nat → Value → Value → Bool
  | 0, _, _ => false
  | n + 1, a, b => match a, b with
    | .bool x, .bool y => decide (x = y)
    | .int k x, .int l y => decide (k = l) && decide (x = y)
    | .string s, .string t => decide (s.data.toList = t.data.toList)
    | .pointer none, .pointer none => true
    | .pointer (some ⟨x, y, none⟩), .pointer (some ⟨u, v, none⟩) => decide (x = u) && decide (y = v)
    | .slice none x y, .slice none u v => decide (x = u) && decide (y = v)
    | .slice (some ⟨o, f, none⟩) x y, .slice (some ⟨p, g, none⟩) u v => decide (o = p) && (decide (f = g) && (decide (x = u) && decide (y = v)))
    | .map r, .map s => decide (r = s)
    | .func (.func f) xs ys, .func (.func g) us vs => decide (f = g) && (listEq (valEq n) xs.toList us.toList && listEq (valEq n) ys.toList vs.toList)
    | .nilFunc, .nilFunc => true
    | .nilIface, .nilIface => true
    | .iface t x, .iface u y => decide (t = u) && valEq n x y
    | .agg xs, .agg ys => listEq (valEq n) xs.toList ys.toList
    | .tuple xs, .tuple ys => listEq (valEq n) xs.toList ys.toList
    | _, _ => false

theorem toList_inj {xs ys : Array Value} (h : xs.toList = ys.toList) : xs = ys := by
  cases xs; cases ys; simpa using h

theorem valEq_eq : ∀ (n : Nat) (a b : Value), valEq n a b = true → a = b
  | 0, _, _, h => by cases h
  | n + 1, a, b, h => by
    have ih := valEq_eq n
    have il := listEq_eq ih
    unfold valEq at h
    split at h
    · simp at h; rw [h]
    · simp at h; rw [h.1, h.2]
    · rename_i s t
      simp at h
      cases s; cases t; simp_all
    · rfl
    · simp at h; rw [h.1, h.2]
    · simp at h; rw [h.1, h.2]
    · simp at h; rw [h.1, h.2.1, h.2.2.1, h.2.2.2]
    · simp at h; rw [h]
    · simp at h
      obtain ⟨h1, h2, h3⟩ := h
      rw [h1, toList_inj (il _ _ h2), toList_inj (il _ _ h3)]
    · rfl
    · rfl
    · simp at h
      rw [h.1, ih _ _ h.2]
    · rw [toList_inj (il _ _ h)]
    · rw [toList_inj (il _ _ h)]
    · cases h

def allN : Nat → (Nat → Bool) → Bool
  | 0, _ => true
  | n + 1, f => cnd (f n) (allN n f) false

theorem allN_ok {f : Nat → Bool} : ∀ {n : Nat}, allN n f = true → ∀ i, i < n → f i = true
  | 0, _, i, h => by omega
  | n + 1, e, i, h => by
    unfold allN at e
    cases hf : f n with
    | false => simp [hf] at e
    | true =>
      simp only [hf, cnd_true] at e
      rcases Nat.lt_or_ge i n with h1 | h1
      · exact allN_ok e i h1
      · have : i = n := by omega
        rw [this]; exact hf

def kAt (rs : List Rec) (i : Nat) : Nat := ((rs[i]?).map (·.k)).getD 0
def dstAt (ops : Array Oper) (i : Nat) : Option Nat := (ops[i]?).bind (·.dst)
def isDst (ops : Array Oper) (j t : Nat) : Bool := match dstAt ops j with
  | some d => Nat.beq d t
  | none => false

theorem isDst_iff {ops : Array Oper} {j t : Nat} : isDst ops j t = true ↔ (ops[j]?).bind (·.dst) = some t := by
  unfold isDst dstAt
  split
  · rename_i d hd
    rw [hd]
    constructor
    · intro h; rw [Nat.eq_of_beq_eq_true h]
    · intro h; cases h; simp
  · rename_i hd
    rw [hd]
    simp

/-- what is looked at once for a region: edges go back, slots are set once, and who reads a slot that is set stands in line with who sets it. -/
def stat (ops : Array Oper) (ms : List Nat) (n : Nat) : Bool :=
  cnd (allN ops.size fun i => (esOf ops i).all fun b => Nat.blt b i)
    (cnd (allN ops.size fun i => match dstAt ops i with
      | none => true
      | some t => cnd (Nat.blt t n) (allN i fun j => !isDst ops j t) false)
      (allN ops.size fun i => match ops[i]? with
        | none => true
        | some o => (looks ops o).all fun t => allN ops.size fun j => cnd (isDst ops j t) (Nat.beq j i || (bit ms i j || bit ms j i)) true)
      false)
    false

/-- what is looked at each time. -/
def dyn (X : Tabs) (ops : Array Oper) (ms : List Nat) (rs : List Rec) (hF : Heap) (nF : Nat) : Bool :=
  cnd (allN ops.size fun j => cnd (Nat.beq (kAt rs j) 2) (allN j fun i => Nat.beq (kAt rs i) 0 || bit ms j i) true)
    (cnd (allN ops.size fun a => cnd (Nat.beq (kAt rs a) 1) (allN (a + 1) fun p => ((hAt rs hF p).get (xAt rs nF a)).isNone) true)
      (allN ops.size fun i => match ops[i]?, rs[i]? with
        | some o, some r => cnd (isReader o.op) (allN (ops.size + 1) fun p =>
            cnd ((Nat.beq p 0 || Nat.beq (kAt rs (p - 1)) 2) && (allN ops.size fun j => cnd (Nat.beq (kAt rs j) 2) (cnd (bit ms i j) (Nat.blt j p) true && cnd (bit ms j i) (Nat.ble p j) true) true))
              (match aLocal X ops r.tm (hAt rs hF p) r.nx o with
              | some (v, _, _) => valEq 9 v r.v
              | none => false) true) true
        | _, _ => true)
      false)
    false

theorem cond_and {a b : Bool} (h : cnd a b false = true) : a = true ∧ b = true := by
  cases a with
  | false => cases h
  | true => exact ⟨rfl, h⟩

/-- what is looked at each time, where the operations are run in another order than the text's. -/
def dynP (X : Tabs) (ops : Array Oper) (ms : List Nat) (ix : Nat → Nat) (rs : List Rec) (hF : Heap) (nF : Nat) : Bool :=
  cnd (allN ops.size fun j => cnd (Nat.beq (kAt rs j) 2) (allN j fun i => Nat.beq (kAt rs i) 0 || bit ms (ix j) (ix i)) true)
    (cnd (allN ops.size fun a => cnd (Nat.beq (kAt rs a) 1) (allN (a + 1) fun p => ((hAt rs hF p).get (xAt rs nF a)).isNone) true)
      (allN ops.size fun i => match ops[ix i]?, rs[i]? with
        | some o, some r => cnd (isReader o.op) (allN (ops.size + 1) fun p =>
            cnd ((Nat.beq p 0 || Nat.beq (kAt rs (p - 1)) 2) && (allN ops.size fun j => cnd (Nat.beq (kAt rs j) 2) (cnd (bit ms (ix i) (ix j)) (Nat.blt j p) true && cnd (bit ms (ix j) (ix i)) (Nat.ble p j) true) true))
              (match aLocal X ops r.tm (hAt rs hF p) r.nx o with
              | some (v, _, _) => valEq 9 v r.v
              | none => false) true) true
        | _, _ => true)
      false)
    false

theorem dyn_id (X : Tabs) (ops : Array Oper) (ms : List Nat) (rs : List Rec) (hF : Heap) (nF : Nat) : dyn X ops ms rs hF nF = dynP X ops ms (fun i => i) rs hF nF := rfl

/-- an order of the operations in which none stands ahead of what it needs. -/
structure PermOk (ops : Array Oper) (ix pos : Nat → Nat) : Prop where
  h1 : ∀ x, x < ops.size → pos x < ops.size ∧ ix (pos x) = x
  h2 : ∀ i, i < ops.size → ix i < ops.size ∧ pos (ix i) = i
  h3 : ∀ i j, i < j → j < ops.size → ¬ Needs ops (ix i) (ix j)

theorem stat_backs {ops : Array Oper} {n : Nat} (hs : stat ops (masks ops.toList []) n = true) : backs ops := by
  have s1 : (allN ops.size fun i => (esOf ops i).all fun b => Nat.blt b i) = true := by
    unfold stat at hs
    generalize (allN ops.size fun i => (esOf ops i).all fun b => Nat.blt b i) = z at hs ⊢
    cases z with
    | true => rfl
    | false => cases hs
  intro i hi b hb
  have := allN_ok s1 i hi
  rw [List.all_eq_true] at this
  exact blt_lt (this b hb)

theorem perm_id {ops : Array Oper} (B : backs ops) : PermOk ops (fun i => i) (fun i => i) :=
  ⟨fun x h => ⟨h, rfl⟩, fun x h => ⟨h, rfl⟩, fun i j h hj hn => by have := needs_lt B (by omega) hn; omega⟩

theorem can_ofP {P : Program} {X : Tabs} (OK : TabsOk P X) {call : CallF} (hc : ∀ f args h nx v h' nx', call f args h nx = some (v, h', nx') → Ret P f args h nx v h' nx') {ops : Array Oper} {ix pos : Nat → Nat} (PO : PermOk ops ix pos) {os : List Oper} (hos : os.length = ops.size) (hix : ∀ i o, os[i]? = some o → ops[ix i]? = some o) {n : Nat} {tm : Tr Value} {h : Heap} {nx : Nat} {rs : List Rec} {tmF : Tr Value} {hF : Heap} {nF : Nat}
    (e : rgo X call ops os tm h nx = some (rs, tmF, hF, nF)) (hs : stat ops (masks ops.toList []) n = true) (hd : dynP X ops (masks ops.toList []) ix rs hF nF = true) :
    ∃ C : Can P ops ix n tm tmF ops.size (fun i j => j < ops.size ∧ Needs ops (ix i) (ix j)), C.H 0 = h ∧ C.H ops.size = hF ∧ C.X 0 = nx ∧ C.X ops.size = nF := by
  obtain ⟨s1, hs⟩ := cond_and hs
  obtain ⟨s2, s3⟩ := cond_and hs
  obtain ⟨d1, hd⟩ := cond_and hd
  obtain ⟨d2, d3⟩ := cond_and hd
  obtain ⟨r1, r2, r3, r4, r5, r6, r7⟩ := rgo_ok (P := P) (n := n) (ix := ix) OK hc os 0 (fun i o ho => by rw [Nat.zero_add]; exact hix i o ho) _ _ _ _ _ _ _ e
  rw [hos] at r1 r4 r5 r6
  have gl : ∀ i : Nat, i < ops.size → os[i]? = ops[ix i]? := fun i hi => by
    have ho : os[i]? = some (os[i]'(by omega)) := List.getElem?_eq_getElem (by omega)
    rw [ho, hix i _ ho]
  -- what is known at a number
  have at_ : ∀ i, i < ops.size → ∃ o r tmi, ops[ix i]? = some o ∧ rs[i]? = some r ∧ r.h = hAt rs hF i ∧ r.nx = xAt rs nF i ∧ r.tm = only tmi (looks ops o) .nil ∧ TmI os rs tm i tmi ∧ RecOk P ops n (ix i) o r (hAt rs hF (i + 1)) (xAt rs nF (i + 1)) := by
    intro i hi
    have ho : os[i]? = some (os[i]'(by omega)) := List.getElem?_eq_getElem (by omega)
    obtain ⟨r, tmi, a⟩ := r7 i _ ho
    rw [Nat.zero_add] at a
    exact ⟨_, r, tmi, hix i _ ho, a⟩
  have hk : ∀ {i r}, rs[i]? = some r → kAt rs i = r.k := fun h => by unfold kAt; rw [h]; rfl
  have hv : ∀ {i r}, rs[i]? = some r → vAt rs i = r.v := fun h => by unfold vAt; rw [h]; rfl
  refine ⟨{
    K := kAt rs
    H := hAt rs hF
    X := xAt rs nF
    V := vAt rs
    Tm := fun i => ((rs[i]?).map (·.tm)).getD .nil
    B := fun i => ((rs[i]?).map (·.b)).getD (.map [])
    mono := ?_
    kinds := ?_
    quiet := ?_
    alloc := ?_
    apart := ?_
    loud := ?_
    total := ?_
    first := ?_
    reads := ?_
    once := ?_
    slots := ?_
    final := ?_ }, r2, r4, r3, r5⟩
  · intro i hi
    obtain ⟨o, r, tmi, a1, a2, a3, a4, a5, a6, a7⟩ := at_ i hi
    rw [← a4]; exact a7.1
  · intro i hi
    obtain ⟨o, r, tmi, a1, a2, a3, a4, a5, a6, a7⟩ := at_ i hi
    rw [hk a2]
    rcases a7.2 with h | h | h
    · exact .inl h.1
    · exact .inr (.inl h.1)
    · exact .inr (.inr h.1)
  · intro i hi h0
    obtain ⟨o, r, tmi, a1, a2, a3, a4, a5, a6, a7⟩ := at_ i hi
    rw [hk a2] at h0
    rcases a7.2 with ⟨_, q1, q2, q3⟩ | ⟨q, _⟩ | ⟨q, _⟩
    · refine ⟨fun p ob hp => by rw [q1, a3] at hp; exact hp, fun p hp hat hlo hhi => ?_⟩
      have eT : ((rs[i]?).map (·.tm)).getD .nil = r.tm := by rw [a2]; rfl
      simp only [eT]
      rw [hv a2, ← a4]
      rcases q3 with q3 | q3
      · have := allN_ok d3 i hi
        simp only [a1, a2, q3, cnd_true] at this
        have := allN_ok this p (by omega)
        have g1 : ((Nat.beq p 0 || Nat.beq (kAt rs (p - 1)) 2) && (allN ops.size fun j => cnd (Nat.beq (kAt rs j) 2) (cnd (bit (masks ops.toList []) (ix i) (ix j)) (Nat.blt j p) true && cnd (bit (masks ops.toList []) (ix j) (ix i)) (Nat.ble p j) true) true)) = true := by
          rw [Bool.and_eq_true]
          constructor
          · rcases hat with h | h
            · subst h; rfl
            · have : Nat.beq (kAt rs (p - 1)) 2 = true := by rw [h]; rfl
              rw [this, Bool.or_true]
          · have gen : ∀ (m : Nat) (f : Nat → Bool), (∀ j, j < m → f j = true) → allN m f = true := by
              intro m f
              induction m with
              | zero => intro _; rfl
              | succ m ih =>
                intro hf
                unfold allN
                rw [hf m (by omega), cnd_true]
                exact ih fun j hj => hf j (by omega)
            refine gen _ _ fun j hj => ?_
            cases hb : Nat.beq (kAt rs j) 2 with
            | false => rfl
            | true =>
              have hkj := Nat.eq_of_beq_eq_true hb
              simp only [cnd_true, Bool.and_eq_true]
              constructor
              · cases hbit : bit (masks ops.toList []) (ix i) (ix j) with
                | false => rfl
                | true => have := hlo j hj hkj ⟨hj, hbit⟩; simpa using this
              · cases hbit : bit (masks ops.toList []) (ix j) (ix i) with
                | false => rfl
                | true => have := hhi j hj hkj ⟨hi, hbit⟩; simpa using this
        rw [g1, cnd_true] at this
        split at this
        · rename_i v h' nx' hloc
          obtain ⟨rfl, rfl⟩ := reader_local q3 hloc
          have hve := valEq_eq _ _ _ this
          subst hve
          exact local_op OK a1 hloc
        · cases this
      · exact q3 _
    · omega
    · omega
  · intro i hi h0
    obtain ⟨o, r, tmi, a1, a2, a3, a4, a5, a6, a7⟩ := at_ i hi
    rw [hk a2] at h0
    rcases a7.2 with ⟨q, _⟩ | ⟨_, q1, q2⟩ | ⟨q, _⟩
    · omega
    · have eT : ((rs[i]?).map (·.tm)).getD .nil = r.tm := by rw [a2]; rfl
      have eB : ((rs[i]?).map (·.b)).getD (.map []) = r.b := by rw [a2]; rfl
      simp only [eT, eB]
      rw [hv a2, ← a4]
      refine ⟨fun p ob hp => ?_, q2⟩
      rw [q1, Tr.get_set] at hp
      by_cases ep : p = r.nx
      · rw [if_pos ep] at hp
        cases hp
        exact .inr ⟨ep, rfl⟩
      · rw [if_neg ep, a3] at hp
        exact .inl hp
    · omega
  · intro p a hp ha h1
    have := allN_ok d2 a ha
    rw [h1] at this
    have this : (allN (a + 1) fun p => ((hAt rs hF p).get (xAt rs nF a)).isNone) = true := this
    have := allN_ok this p (by omega)
    cases hg : (hAt rs hF p).get (xAt rs nF a) with
    | none => rfl
    | some x => rw [hg] at this; cases this
  · intro i hi h2
    obtain ⟨o, r, tmi, a1, a2, a3, a4, a5, a6, a7⟩ := at_ i hi
    rw [hk a2] at h2
    rcases a7.2 with ⟨q, _⟩ | ⟨q, _⟩ | ⟨_, q⟩
    · omega
    · omega
    · have eT : ((rs[i]?).map (·.tm)).getD .nil = r.tm := by rw [a2]; rfl
      simp only [eT]
      rw [hv a2, ← a4, ← a3]
      exact q
  · intro i j hij hj h1 h2
    have := allN_ok d1 j hj
    rw [h2] at this
    have := allN_ok (n := j) this i hij
    rw [h1] at this
    exact ⟨by omega, this⟩
  · intro i j hij hj h1 h2
    have := allN_ok d1 j hj
    rw [h2] at this
    have := allN_ok (n := j) this i hij
    rw [h1] at this
    exact ⟨by omega, this⟩
  · intro i hi t u hu
    obtain ⟨o, r, tmi, a1, a2, a3, a4, a5, a6, a7⟩ := at_ i hi
    have eT : ((rs[i]?).map (·.tm)).getD .nil = r.tm := by rw [a2]; rfl
    rw [eT, a5] at hu
    rcases only_get _ _ _ _ hu with ⟨m1, m2⟩ | m1
    · have look : ∀ j, j < ops.size → (ops[ix j]?).bind (·.dst) = some t → j = i ∨ Needs ops (ix i) (ix j) ∨ Needs ops (ix j) (ix i) := by
        intro j hj hdj
        have := allN_ok s3 (ix i) (PO.h2 i hi).1
        simp only [a1] at this
        rw [List.all_eq_true] at this
        have := allN_ok (this t m1) (ix j) (PO.h2 j hj).1
        rw [isDst_iff.2 hdj, cnd_true, Bool.or_eq_true, Bool.or_eq_true] at this
        rcases this with h | h | h
        · exact .inl (by have := Nat.eq_of_beq_eq_true h; rw [← (PO.h2 j hj).2, this, (PO.h2 i hi).2])
        · exact .inr (.inl h)
        · exact .inr (.inr h)
      rcases a6 t u m2 with ⟨j, j1, j2, j3⟩ | ⟨h1, h2⟩
      · rw [gl j (by omega)] at j2
        refine .inl ⟨j, by omega, j2, j3, ?_⟩
        rcases look j (by omega) j2 with h | h | h
        · omega
        · exact ⟨by omega, h⟩
        · exact absurd h (PO.h3 j i j1 hi)
      · refine .inr ⟨fun j hj hdj => ?_, h2⟩
        rcases look j hj hdj with h | h | h
        · exact .inl h
        · rcases Nat.lt_trichotomy j i with c | c | c
          · exact absurd (by rw [gl j hj]; exact hdj) (h1 j c)
          · exact .inl c
          · exact absurd h (PO.h3 i j c hj)
        · exact .inr ⟨hi, h⟩
    · rw [Tr.get_nil] at m1; cases m1
  · intro i j t hi hj hdi hdj
    have key : ∀ i j, i < ops.size → j < i → (ops[i]?).bind (·.dst) = some t → (ops[j]?).bind (·.dst) = some t → False := by
      intro i j hi hji h1 h2
      have := allN_ok s2 i hi
      have e1 : dstAt ops i = some t := h1
      simp only [e1] at this
      have := (cond_and this).2
      have := allN_ok this j hji
      rw [isDst_iff.2 h2] at this
      cases this
    rcases Nat.lt_trichotomy (ix i) (ix j) with h | h | h
    · exact (key (ix j) (ix i) (PO.h2 j hj).1 h hdj hdi).elim
    · rw [← (PO.h2 i hi).2, h, (PO.h2 j hj).2]
    · exact (key (ix i) (ix j) (PO.h2 i hi).1 h hdi hdj).elim
  · intro i t hi hdi
    have := allN_ok s2 (ix i) (PO.h2 i hi).1
    have e1 : dstAt ops (ix i) = some t := hdi
    simp only [e1] at this
    exact blt_lt (cond_and this).1
  · intro t u hu
    rcases r6 t u hu with ⟨j, j1, j2, j3⟩ | ⟨h1, h2⟩
    · rw [gl j j1] at j2; exact .inl ⟨j, j1, j2, j3⟩
    · exact .inr ⟨fun j hj => by have := h1 j hj; rw [gl j hj] at this; exact this, h2⟩
end

end
end Eng
end Go.Proofs.YtnicdlmcbkkkfaaGreatDoor

/-
  The engine, part P: one operation as a whole: what it yields, or which function it enters.
  The engine, part Q: one operation as a whole: the model does what the engine says.
  The engine, part R: frames, and one step of the abstract machine.
-/
import Derived.Test.YtnicdlmcbkkkfaaGreatDoorEng3
import Derived.AtR
import Derived.Scope
import Derived.Recover
import Derived.Defers
namespace Go.Proofs.YtnicdlmcbkkkfaaGreatDoor
namespace Eng
noncomputable section
section
abbrev FT := Tr Func

/-- the table of functions tells what the program's does. -/
def FOk (P : Program) (F : FT) : Prop := ∀ f fn, F.get f = some fn → P.funcs[f]? = some fn ∧ (fn.name == "runtime.NumGoroutine") = false ∧ fn.body.isSome = true

/-- the tables of a program. -/
structure Tabs where
  T : TT
  F : FT

structure TabsOk (P : Program) (X : Tabs) : Prop where
  T : TOk P X.T
  flat : ∀ t i, X.T.get t = some i → i.flat = true → FlatOk P i.size i.desc
  F : FOk P X.F

/-- what an operation does. -/
inductive AOut where
  | val (v : Value) (h : Heap) (nx : Nat)
  | skip (h : Heap) (nx : Nat)
  | enter (f : FuncId) (args : List Value)
  | round (l : Nat) (args : List Value)
  | dfr (d : Deferred)
  | rcv
  | pnc (v : Value)

def evs (ev : Operand → Option Value) : List Operand → Option (List Value)
  | [] => some []
  | x :: xs => ob (ev x) fun v => ob (evs ev xs) fun vs => some (v :: vs)

def evo (ev : Operand → Option Value) : Option Operand → Option (Option Value)
  | none => some none
  | some x => ob (ev x) fun v => some (some v)

def evp (ev : Operand → Option Value) : List (Nat × Operand) → Option (List (Nat × Value))
  | [] => some []
  | (i, x) :: xs => ob (ev x) fun v => ob (evp ev xs) fun vs => some ((i, v) :: vs)

section
variable {ρ : Ren} {ev : Operand → Option Value} {rv : Operand → Value}

theorem evs_rel (hev : ∀ x v, ev x = some v → VRel ρ v (rv x)) : ∀ (xs : List Operand) (vs : List Value), evs ev xs = some vs → VRels ρ vs (xs.map rv)
  | [], vs, h => by obtain rfl := Option.some.inj h; exact .nil
  | x :: xs, vs, h => by
    unfold evs at h
    replace h := ob_some h
    obtain ⟨v, h1, h⟩ := h
    replace h := ob_some h
    obtain ⟨us, h2, h⟩ := h
    obtain rfl := Option.some.inj h
    exact .cons (hev _ _ h1) (evs_rel hev xs us h2)

theorem evo_rel (hev : ∀ x v, ev x = some v → VRel ρ v (rv x)) {x : Option Operand} {v : Option Value} (h : evo ev x = some v) : BRel ρ v (x.map rv) := by
  cases x with
  | none => obtain rfl := Option.some.inj h; trivial
  | some x =>
    unfold evo at h
    replace h := ob_some h
    obtain ⟨u, h1, h⟩ := h
    obtain rfl := Option.some.inj h
    exact hev _ _ h1

theorem evp_rel (hev : ∀ x v, ev x = some v → VRel ρ v (rv x)) : ∀ (xs : List (Nat × Operand)) (vs : List (Nat × Value)), evp ev xs = some vs → PRels ρ vs (xs.map fun (i, x) => (i, rv x))
  | [], vs, h => by obtain rfl := Option.some.inj h; exact .nil
  | (i, x) :: xs, vs, h => by
    unfold evp at h
    replace h := ob_some h
    obtain ⟨v, h1, h⟩ := h
    replace h := ob_some h
    obtain ⟨us, h2, h⟩ := h
    obtain rfl := Option.some.inj h
    exact .cons (hev _ _ h1) (evp_rel hev xs us h2)
end

/-- a function value is called. -/
def aInvoke (X : Tabs) (fn : Fn) (args captured : List Value) : Option AOut :=
  match fn with
  | .func f => ob (X.F.get f) fun _ => some (.enter f (args ++ captured))
  | .yield l => some (.round l args)
  | _ => none

def aBuiltin (X : Tabs) (h : Heap) (nx : Nat) (b : Builtin) (ts : Array TypeId) (args : List Value) : Option AOut :=
  match b, args with
  | .append, [s, x] => ob (aAppend X.T h nx ts.toList s x) fun (v, h', nx') => some (.val v h' nx')
  | .len, [x] => ob (ts.toList[0]?) fun t => ob (aLen X.T t x) fun v => some (.val v h nx)
  | .cap, [x] => ob (ts.toList[0]?) fun t => ob (aCap X.T t x) fun v => some (.val v h nx)
  | .copy, [x, y] => ob (ts.toList[0]?) fun t => ob (aCopy X.T h t x y) fun (v, h') => some (.val v h' nx)
  | .clear, [x] => ob (ts.toList[0]?) fun t => ob (aClear X.T h t x) fun h' => some (.val (.tuple #[]) h' nx)
  | .min, xs => ob (aMinMax false xs) fun v => some (.val v h nx)
  | .max, xs => ob (aMinMax true xs) fun v => some (.val v h nx)
  | .recover, [] => some .rcv
  | _, _ => none

def aCall (X : Tabs) (h : Heap) (nx : Nat) (ev : Operand → Option Value) (c : Call) : Option AOut :=
  ob (evs ev c.args.toList) fun args => match c.callee with
    | .builtin b => aBuiltin X h nx b c.argTypes args
    | .value f => ob (ev f) fun fv => match fv with
      | .func fn first captured => aInvoke X fn (first.toList ++ args) captured.toList
      | _ => none
    | .invoke r name => ob (ev r) fun rv => match rv with
      | .iface t v => ob (X.T.get t) fun i => ob (i.direct.lookup name) fun f => ob (X.F.get f) fun _ => some (.enter f (v :: args))
      | _ => none

def aDefer (ev : Operand → Option Value) (c : Call) : Option AOut :=
  ob (evs ev c.args.toList) fun args => match c.callee with
    | .value f => ob (ev f) fun fv => match fv with
      | .func fn first captured => some (.dfr { target := .fn fn captured, args := ⟨first.toList ++ args⟩ })
      | _ => none
    | _ => none

/-- how far a slice whose capacity is not known may surely be reached. -/
def aLim (h : Heap) (x : Value) : Nat :=
  match x with
  | .slice (some ⟨o, off, none⟩) n cap => cnd (Nat.ble cap openCap) n (match h.get o with
    | some (.cells c _ _) => (c.length - off) / (cap - openCap)
    | _ => n)
  | _ => 0

theorem aLim_ok {ρ : Ren} {h : Heap} {w : World} (H : HRel ρ h w) {x x' : Value} (hx : VRel ρ x x') : ∀ o off n E c L, x = .slice (some ⟨o, off, none⟩) n (openCap + E) → ρ o = some L → 0 < E → L.base + off + c * E = L.stop → aLim h x ≤ c := by
  intro o off n E c L e hL hE hc
  subst e
  have hn : n ≤ c := by
    generalize hcc : openCap + E = cc at hx
    cases hx with
    | slE _ hc' _ => omega
    | @slO _ _ _ E' c' L' hL' _ hc' hn' =>
      obtain rfl := Option.some.inj (hL.symm.trans hL')
      obtain rfl : E = E' := by omega
      have : c * E = c' * E := by omega
      have := Nat.eq_of_mul_eq_mul_right hE this
      omega
    | slL => exact Nat.zero_le _
  unfold aLim
  have : Nat.ble (openCap + E) openCap = false := by
    cases hh : Nat.ble (openCap + E) openCap with
    | false => rfl
    | true => have := Nat.le_of_ble_eq_true hh; omega
  simp only [this, cnd_false]
  split
  · rename_i cl _ _ ho
    obtain ⟨M, m1, cs, fz, m2, m3, m4⟩ := H.obj o _ ho
    obtain rfl := Option.some.inj (m1.symm.trans hL)
    have k1 := m4.1
    have k2 := m4.2.1
    rw [Nat.add_sub_cancel_left]
    apply Nat.div_le_of_le_mul
    rw [Nat.mul_comm]
    omega
  · exact hn

/-- ONE OPERATION. -/
def aop (X : Tabs) (h : Heap) (nx : Nat) (ev : Operand → Option Value) (o : Oper) : Option AOut :=
  match o.op with
  | .move x => ob (ev x) fun v => some (.val v h nx)
  | .assign x => ob (ev x) fun v => some (.val v h nx)
  | .pick c a b => ob (ev c) fun v => match v with
    | .bool true => ob (ev a) fun v => some (.val v h nx)
    | .bool false => ob (ev b) fun v => some (.val v h nx)
    | _ => none
  | .alloc t => ob (aAlloc X.T h nx t) fun (v, h') => some (.val v h' (nx + 1))
  | .box t x => ob (ev x) fun u => some (.val (aBox h nx t u).1 (aBox h nx t u).2 (nx + 1))
  | .build t ps => ob (evp ev ps.toList) fun us => ob (aBuild X.T t us) fun v => some (.val v h nx)
  | .buildSlice t n ps => ob (evp ev ps.toList) fun us => ob (aBuildSlice X.T h nx t n us) fun (v, h') => some (.val v h' (nx + 1))
  | .load t a => ob (ev a) fun x => ob (aLoad X.T h t x) fun v => some (.val v h nx)
  | .store t a y => ob (ev a) fun x => ob (ev y) fun u => ob (aStore X.T h t x u) fun h' => some (.skip h' nx)
  | .nilCheck x => ob (ev x) fun v => match v with
    | .pointer (some _) => some (.val v h nx)
    | .func (.func _) _ _ => some (.val v h nx)
    | .func (.yield _) _ _ => some (.val v h nx)
    | .iface _ _ => some (.val v h nx)
    | _ => none
  | .binOp op t x y _ => ob (ev x) fun a => ob (ev y) fun b => ob (aBin X.T op t (isConstO x || isConstO y) a b) fun v => some (.val v h nx)
  | .unOp op _ x => ob (ev x) fun a => ob (aUn op a) fun v => some (.val v h nx)
  | .convert s d x => ob (ev x) fun a => match a with
    | .int _ _ => ob (aConv X.T s d a) fun v => some (.val v h nx)
    | .slice (some _) _ _ => cnd (Nat.beq s d) (ob (aReSlice X.T h s d a) fun v => some (.val v h nx)) (ob (aToStr X.T h s d a) fun v => some (.val v h nx))
    | .slice none _ _ => ob (aToStr X.T h s d a) fun v => some (.val v h nx)
    | _ => none
  | .makeInterface t x => ob (ev x) fun a => ob (aMakeIface X.T t a) fun v => some (.val v h nx)
  | .makeFunc fn first captured => ob (evs ev first.toList) fun a => ob (evs ev captured.toList) fun b => match fn with
    | .func f => some (.val (.func (.func f) ⟨a⟩ ⟨b⟩) h nx)
    | _ => none
  | .makeMap _ none => some (.val (aMakeMap h nx).1 (aMakeMap h nx).2 (nx + 1))
  | .makeSlice t l c => ob (ev l) fun a => ob (ev c) fun b => ob (aMakeSlice X.T h nx t a b) fun (v, h') => some (.val v h' (nx + 1))
  | .slice t x lo hi mx => ob (ev x) fun a => ob (evo ev lo) fun l => ob (evo ev hi) fun u => ob (evo ev mx) fun m => ob (aSlice X.T t a (aLim h a) l u m) fun v => some (.val v h nx)
  | .fieldAddr s x f => ob (ev x) fun a => ob (aFieldAddr X.T s a f) fun v => some (.val v h nx)
  | .field t x f => ob (ev x) fun a => match a with
    | .agg cs => ob (X.T.get t) fun i => match i.desc with
      | .struct fs => ob (fs[f]?) fun fl => ob (aPart X.T fl.type cs.toList fl.offset) fun v => some (.val v h nx)
      | _ => none
    | _ => none
  | .indexAddr t x ix => ob (ev x) fun a => ob (ev ix) fun b => ob (aIndexAddr X.T t a b) fun v => some (.val v h nx)
  | .index t x ix => ob (ev x) fun a => ob (ev ix) fun b => ob (aIndex X.T t a b) fun v => some (.val v h nx)
  | .lookup t x ix ok => ob (ev x) fun a => ob (ev ix) fun b => ob (aLookup X.T h t a b ok) fun v => some (.val v h nx)
  | .mapUpdate t m k x => ob (ev m) fun a => ob (ev k) fun b => ob (ev x) fun c => ob (aUpdate X.T h t a b c) fun h' => some (.skip h' nx)
  | .typeAssert x _ a ok => ob (ev x) fun u => ob (aAssert X.T u a ok) fun v => some (.val v h nx)
  | .extract t i => ob (ev t) fun a => ob (aExtract a i) fun v => some (.val v h nx)
  | .call c => aCall X h nx ev c
  | .defer c => aDefer ev c
  | .panic x => ob (ev x) fun v => match v with
    | .iface t u => some (.pnc (.iface t u))
    | _ => none
  | _ => none

/-- what the model answers then. -/
def OutRel (P : Program) (ρ : Ren) (h : Heap) (nx : Nat) (w : World) (r : Result Next) : AOut → Prop
  | .val v h' nx' => ∃ ρ' v' w', r = .ok (.value v') w' ∧ VRel ρ' v v' ∧ HRel ρ' h' w' ∧ Moves ρ h nx w ρ' h' nx' w'
  | .skip h' nx' => ∃ ρ' w', r = .ok .skip w' ∧ HRel ρ' h' w' ∧ Moves ρ h nx w ρ' h' nx' w'
  | .enter f args => ∃ args' : Array Value, r = .ok (.enter f args') w ∧ VRels ρ args args'.toList
  | .round l args => ∃ args' : Array Value, r = (Instr.yield (match ρ l with | some L => L.block | none => 0) args').run P w ∧ VRels ρ args args'.toList ∧ ρ l ≠ none
  | .dfr d => ∃ d', r = .ok (.defer d') w ∧ DefRel ρ d d'
  | .rcv => r = .ok .recover w
  | .pnc v => ∃ v', r = .halt (.panic v') w ∧ VRel ρ v v'

/-- how far the numbers of new objects go. -/
def AOut.top (nx : Nat) : AOut → Nat
  | .val _ _ n => n
  | .skip _ n => n
  | _ => nx
end

section
section
variable {P : Program} {X : Tabs} {ρ : Ren} {h : Heap} {nx : Nat} {w : World}

theorem good_out {v : Value} {h' : Heap} {nx' : Nat} {s : Sem Value} (g : Good ρ h nx w v h' nx' (s.run P w)) : OutRel P ρ h nx w ((do pure (Next.value (← s)) : Sem Next).run P w) (.val v h' nx') := by
  obtain ⟨ρ', v', w', h1, h2, h3, h4⟩ := g
  exact ⟨ρ', v', w', by simp [h1], h2, h3, h4⟩

theorem pure_out (H : HRel ρ h w) {v : Value} {s : Sem Value} (g : ∃ v', s.run P w = .ok v' w ∧ VRel ρ v v') : OutRel P ρ h nx w ((do pure (Next.value (← s)) : Sem Next).run P w) (.val v h nx) := by
  obtain ⟨v', h1, h2⟩ := g
  exact ⟨ρ, v', w, by simp [h1], h2, H, Moves.refl _ _ _ _⟩

theorem goodU_out {h' : Heap} {nx' : Nat} {s : Sem Unit} (g : GoodU ρ h nx w h' nx' (s.run P w)) : OutRel P ρ h nx w ((do s; pure Next.skip : Sem Next).run P w) (.skip h' nx') := by
  obtain ⟨ρ', w', h1, h3, h4⟩ := g
  exact ⟨ρ', w', by simp [h1], h3, h4⟩

theorem callFunc_run (OK : TabsOk P X) {f : FuncId} {fn : Func} (hf : X.F.get f = some fn) (args : Array Value) : (callFunc f args).run P w = .ok (.enter f args) w := by
  obtain ⟨h1, h2, h3⟩ := OK.F f fn hf
  unfold callFunc
  have h4 : fn.body.isNone = false := by cases hb : fn.body with
    | none => rw [hb] at h3; cases h3
    | some b => rfl
  simp only [Sem.run_bind, run_program, Result.andThen_ok, h1, h2, h4, Bool.false_eq_true, if_false, Sem.run_pure]

theorem invoke_sim (OK : TabsOk P X) {fn : Fn} {args captured : List Value} {out : AOut} (e : aInvoke X fn args captured = some out) {fn' : Fn} {args' captured' : Array Value} (hf : FnRel ρ fn fn') (ra : VRels ρ args args'.toList) (rc : VRels ρ captured captured'.toList) :
    OutRel P ρ h nx w ((invoke (.fn fn' captured') args').run P w) out := by
  unfold aInvoke at e
  split at e
  · rename_i f
    replace e := ob_some e
    obtain ⟨g, hg, e⟩ := e
    obtain rfl := Option.some.inj e
    have hf' : fn' = .func f := hf
    subst hf'
    refine ⟨args' ++ captured', ?_, ?_⟩
    · unfold invoke
      exact callFunc_run OK hg _
    · rw [Array.toList_append]; exact ra.append rc
  · rename_i l
    obtain rfl := Option.some.inj e
    obtain ⟨L, h1, h2⟩ := hf
    subst h2
    refine ⟨args', ?_, ra, by rw [h1]; simp⟩
    rw [h1]
    rfl
  · cases e

theorem evs_map {rv : Operand → Value} (xs : Array Operand) : (xs.map rv).toList = xs.toList.map rv := by simp

theorem arr1 {α : Type} {xs : Array α} {x : α} (h : xs.toList = [x]) : xs[0]? = some x := by rw [← Array.getElem?_toList, h]; rfl
theorem arr2 {α : Type} {xs : Array α} {x y : α} (h : xs.toList = [x, y]) : xs[0]? = some x ∧ xs[1]? = some y := by
  constructor <;> (rw [← Array.getElem?_toList, h]; rfl)

theorem builtin_sim (OK : TabsOk P X) (H : HRel ρ h w) {b : Builtin} {ts : Array TypeId} {rt : TypeId} {cs : Array Bool} {args : List Value} {args' : Array Value} (ra : VRels ρ args args'.toList) {out : AOut} (e : aBuiltin X h nx b ts args = some out)
    (fresh : ∀ o, nx ≤ o → o < out.top nx → ρ o = none) : OutRel P ρ h nx w ((builtin b ts rt cs args').run P w) out := by
  unfold aBuiltin at e
  generalize hl : args'.toList = l at ra
  split at e
  · rename_i s x
    replace e := ob_some e
    obtain ⟨⟨v, h', nx'⟩, he, e⟩ := e
    obtain rfl := Option.some.inj e
    cases ra with
    | cons r1 t =>
      cases t with
      | cons r2 t =>
        cases t
        obtain ⟨a1, a2⟩ := arr2 hl
        exact good_out (append_sim OK.T H (fun q => fresh nx (Nat.le_refl _) q) a1 a2 r1 r2 he)
  · rename_i x
    replace e := ob_some e
    obtain ⟨t0, ht, e⟩ := e
    replace e := ob_some e
    obtain ⟨v, he, e⟩ := e
    obtain rfl := Option.some.inj e
    cases ra with
    | cons r1 t =>
      cases t
      exact pure_out H (len_sim OK.T (by rw [← Array.getElem?_toList]; exact ht) (arr1 hl) r1 he w)
  · rename_i x
    replace e := ob_some e
    obtain ⟨t0, ht, e⟩ := e
    replace e := ob_some e
    obtain ⟨v, he, e⟩ := e
    obtain rfl := Option.some.inj e
    cases ra with
    | cons r1 t =>
      cases t
      exact pure_out H (cap_sim OK.T (by rw [← Array.getElem?_toList]; exact ht) (arr1 hl) r1 he w)
  · rename_i x y
    replace e := ob_some e
    obtain ⟨t0, ht, e⟩ := e
    replace e := ob_some e
    obtain ⟨⟨v, h'⟩, he, e⟩ := e
    obtain rfl := Option.some.inj e
    cases ra with
    | cons r1 t =>
      cases t with
      | cons r2 t =>
        cases t
        obtain ⟨a1, a2⟩ := arr2 hl
        exact good_out (copy_sim OK.T H nx (by rw [← Array.getElem?_toList]; exact ht) a1 a2 r1 r2 he)
  · rename_i x
    replace e := ob_some e
    obtain ⟨t0, ht, e⟩ := e
    replace e := ob_some e
    obtain ⟨h', he, e⟩ := e
    obtain rfl := Option.some.inj e
    cases ra with
    | cons r1 t =>
      cases t
      exact good_out (clear_sim OK.T H nx (by rw [← Array.getElem?_toList]; exact ht) (arr1 hl) r1 he)
  · replace e := ob_some e
    obtain ⟨v, he, e⟩ := e
    obtain rfl := Option.some.inj e
    rw [← hl] at ra
    have := min_sim (P := P) w ra he ts rt
    exact pure_out H ⟨v, this.1, this.2⟩
  · replace e := ob_some e
    obtain ⟨v, he, e⟩ := e
    obtain rfl := Option.some.inj e
    rw [← hl] at ra
    have := max_sim (P := P) w ra he ts rt
    exact pure_out H ⟨v, this.1, this.2⟩
  · obtain rfl := Option.some.inj e
    rfl
  · cases e

theorem call_sim (OK : TabsOk P X) (H : HRel ρ h w) {ev : Operand → Option Value} {rv : Operand → Value} (hev : ∀ x v, ev x = some v → VRel ρ v (rv x)) {c : Call} {ty : TypeId} {out : AOut} (e : aCall X h nx ev c = some out) (fresh : ∀ o, nx ≤ o → o < out.top nx → ρ o = none) :
    OutRel P ρ h nx w ((do let d ← resolve rv c ty; invoke d.target d.args : Sem Next).run P w) out := by
  unfold aCall at e
  replace e := ob_some e
  obtain ⟨args, ha, e⟩ := e
  have ra := evs_rel hev _ _ ha
  rw [← evs_map] at ra
  unfold resolve
  split at e
  · rename_i b hb
    simp only [hb, Sem.run_bind, Sem.run_pure, Result.andThen_ok]
    exact builtin_sim OK H ra e fresh
  · rename_i f hb
    replace e := ob_some e
    obtain ⟨fv, hf, e⟩ := e
    have rf := hev _ _ hf
    split at e
    · rename_i fn first captured
      generalize hg : rv f = g at rf
      cases rf with
      | func r1 r2 r3 =>
        simp only [hb, hg, Deferred.ofValue, Sem.run_bind, Sem.run_pure, Result.andThen_ok]
        refine invoke_sim OK e r1 ?_ r3
        rw [Array.toList_append]
        exact r2.append ra
    · cases e
  · rename_i r name hb
    replace e := ob_some e
    obtain ⟨u, hu, e⟩ := e
    have ru := hev _ _ hu
    split at e
    · rename_i t v
      replace e := ob_some e
      obtain ⟨i, hi, e⟩ := e
      replace e := ob_some e
      obtain ⟨f, hf, e⟩ := e
      replace e := ob_some e
      obtain ⟨fn, hfn, e⟩ := e
      obtain rfl := Option.some.inj e
      generalize hg : rv r = g at ru
      cases ru with
      | iface rr =>
        rename_i v'
        obtain ⟨inf, m, d1, d2, d3, d4⟩ := OK.T.direct t i hi name f hf
        refine ⟨#[v'] ++ c.args.map rv, ?_, ?_⟩
        · have ht : (typeInfo t).run P w = .ok inf w := by simp [typeInfo, d1]
          have hu' := run_under w OK.T hi
          have hm : (method (P.types.size + Made.depth) t v' name).run P w = .ok (f, v') w := by
            have hd : P.types.size + Made.depth = (P.types.size + Made.depth - 1) + 1 := by
              have : Made.depth ≠ 0 := by decide
              omega
            rw [hd]
            unfold method
            simp only [Sem.run_bind, ht, Result.andThen_ok, d2, d3, follow, Sem.run_pure]
            rcases d4 with ⟨d4, d5⟩ | ⟨d4, el, d5⟩
            · simp only [d4, receiverAt, Sem.run_bind, hu', Result.andThen_ok]
              cases hdd : i.desc <;> first
                | (exfalso; exact d5 ⟨_, hdd⟩)
                | simp [Place.get]
            · simp only [d4, receiverAt, Sem.run_bind, hu', Result.andThen_ok, d5]
              rfl
          simp only [hb, hg, Sem.run_bind, Sem.run_pure, Result.andThen_ok]
          have e0 : (#[Value.iface t v'] ++ c.args.map rv)[0]? = some (Value.iface t v') := by
            rw [← Array.getElem?_toList, Array.toList_append]; rfl
          have e1 : (#[Value.iface t v'] ++ c.args.map rv).extract 1 (#[Value.iface t v'] ++ c.args.map rv).size = c.args.map rv := by simp
          have e2 : invoke (.fn (.method name) #[]) (#[Value.iface t v'] ++ c.args.map rv) = callMethod (.iface t v') name (c.args.map rv) := by
            show (match (#[Value.iface t v'] ++ c.args.map rv)[0]? with
              | some recv => callMethod recv name ((#[Value.iface t v'] ++ c.args.map rv).extract 1 (#[Value.iface t v'] ++ c.args.map rv).size)
              | _ => stuck "call: a method without a receiver") = _
            rw [e0, e1]
          rw [e2]
          unfold callMethod
          simp only [Sem.run_bind, run_program, Result.andThen_ok, hm]
          exact callFunc_run OK hfn _
        · rw [Array.toList_append]
          exact .cons rr ra
    · cases e

theorem field_sim (OK : TabsOk P X) {t : TypeId} {cs cs' : Array Value} (r : VRels ρ cs.toList cs'.toList) {i : TyI} (hi : X.T.get t = some i) {fs : Array Field} (hd : i.desc = .struct fs) {f : Nat} {fl : Field} (hf : fs[f]? = some fl) {v : Value} (e : aPart X.T fl.type cs.toList fl.offset = some v) :
    ∃ v', (Instr.field t (.agg cs') f).run P w = .ok v' w ∧ VRel ρ v v' := by
  obtain ⟨v', h1, h2⟩ := part_sim OK.T r e w
  refine ⟨v', ?_, h2⟩
  unfold Instr.field
  simp only [Sem.run_bind, run_under w OK.T hi, hd, Result.andThen_ok, hf, asAgg, Sem.run_pure]
  exact h1

theorem evp_map {rv : Operand → Value} (ps : Array (Nat × Operand)) : (ps.map fun (i, x) => (i, rv x)).toList = ps.toList.map fun (i, x) => (i, rv x) := by simp

/-- THE MODEL DOES WHAT THE ENGINE SAYS. -/
theorem aop_sim (OK : TabsOk P X) (H : HRel ρ h w) {ev : Operand → Option Value} {rv : Operand → Value} (hev : ∀ x v, ev x = some v → VRel ρ v (rv x)) {o : Oper} {out : AOut} (e : aop X h nx ev o = some out) (fresh : ∀ o, nx ≤ o → o < out.top nx → ρ o = none) :
    OutRel P ρ h nx w ((execOp rv o).run P w) out := by
  unfold aop at e
  unfold execOp
  split at e
  · rename_i x ho
    replace e := ob_some e; obtain ⟨v, h1, e⟩ := e; obtain rfl := Option.some.inj e
    simp only [ho]
    exact ⟨ρ, rv x, w, rfl, hev _ _ h1, H, Moves.refl _ _ _ _⟩
  · rename_i x ho
    replace e := ob_some e; obtain ⟨v, h1, e⟩ := e; obtain rfl := Option.some.inj e
    simp only [ho]
    exact ⟨ρ, rv x, w, rfl, hev _ _ h1, H, Moves.refl _ _ _ _⟩
  · rename_i c a b ho
    replace e := ob_some e; obtain ⟨v, h1, e⟩ := e
    have hc := hev _ _ h1
    simp only [ho]
    split at e
    · replace e := ob_some e; obtain ⟨v, h2, e⟩ := e; obtain rfl := Option.some.inj e
      generalize hg : rv c = g at hc
      cases hc
      exact ⟨ρ, rv a, w, by simp [asBool], hev _ _ h2, H, Moves.refl _ _ _ _⟩
    · replace e := ob_some e; obtain ⟨v, h2, e⟩ := e; obtain rfl := Option.some.inj e
      generalize hg : rv c = g at hc
      cases hc
      exact ⟨ρ, rv b, w, by simp [asBool], hev _ _ h2, H, Moves.refl _ _ _ _⟩
    · cases e
  · rename_i t ho
    replace e := ob_some e; obtain ⟨⟨v, h'⟩, h1, e⟩ := e; obtain rfl := Option.some.inj e
    simp only [ho]
    exact good_out (alloc_sim OK.T H (fresh nx (Nat.le_refl _) (Nat.lt_succ_self _)) h1 _)
  · rename_i t x ho
    replace e := ob_some e; obtain ⟨u, h1, e⟩ := e; obtain rfl := Option.some.inj e
    simp only [ho]
    exact good_out (box_sim H (fresh nx (Nat.le_refl _) (Nat.lt_succ_self _)) (hev _ _ h1))
  · rename_i t ps ho
    replace e := ob_some e; obtain ⟨us, h1, e⟩ := e
    replace e := ob_some e; obtain ⟨v, h2, e⟩ := e; obtain rfl := Option.some.inj e
    simp only [ho]
    have r := evp_rel hev _ _ h1
    rw [← evp_map] at r
    exact pure_out H (build_sim OK.T r h2 w)
  · rename_i t n ps ho
    replace e := ob_some e; obtain ⟨us, h1, e⟩ := e
    replace e := ob_some e; obtain ⟨⟨v, h'⟩, h2, e⟩ := e; obtain rfl := Option.some.inj e
    simp only [ho]
    have r := evp_rel hev _ _ h1
    rw [← evp_map] at r
    exact good_out (buildSlice_sim OK.T H (fresh nx (Nat.le_refl _) (Nat.lt_succ_self _)) r h2)
  · rename_i t a ho
    replace e := ob_some e; obtain ⟨x, h1, e⟩ := e
    replace e := ob_some e; obtain ⟨v, h2, e⟩ := e; obtain rfl := Option.some.inj e
    simp only [ho]
    exact pure_out H (load_sim OK.T H (hev _ _ h1) h2)
  · rename_i t a y ho
    replace e := ob_some e; obtain ⟨x, h1, e⟩ := e
    replace e := ob_some e; obtain ⟨u, h2, e⟩ := e
    replace e := ob_some e; obtain ⟨h', h3, e⟩ := e; obtain rfl := Option.some.inj e
    simp only [ho]
    exact goodU_out (store_sim OK.T H nx (hev _ _ h1) (hev _ _ h2) h3)
  · rename_i x ho
    replace e := ob_some e; obtain ⟨v, h1, e⟩ := e
    have hx := hev _ _ h1
    simp only [ho]
    split at e
    · obtain rfl := Option.some.inj e
      generalize rv x = g at hx
      have hx' := hx
      cases hx
      exact ⟨ρ, _, w, rfl, hx', H, Moves.refl _ _ _ _⟩
    · obtain rfl := Option.some.inj e
      generalize rv x = g at hx
      have hx' := hx
      cases hx with
      | func a b c =>
        have a' : _ = Fn.func _ := a
        subst a'
        exact ⟨ρ, _, w, rfl, hx', H, Moves.refl _ _ _ _⟩
    · obtain rfl := Option.some.inj e
      generalize rv x = g at hx
      have hx' := hx
      cases hx with
      | func a b c =>
        obtain ⟨L, _, a'⟩ := a
        subst a'
        exact ⟨ρ, _, w, rfl, hx', H, Moves.refl _ _ _ _⟩
    · obtain rfl := Option.some.inj e
      generalize rv x = g at hx
      have hx' := hx
      cases hx
      exact ⟨ρ, _, w, rfl, hx', H, Moves.refl _ _ _ _⟩
    · cases e
  · rename_i op t x y yt ho
    replace e := ob_some e; obtain ⟨a, h1, e⟩ := e
    replace e := ob_some e; obtain ⟨b, h2, e⟩ := e
    replace e := ob_some e; obtain ⟨v, h3, e⟩ := e; obtain rfl := Option.some.inj e
    simp only [ho]
    exact pure_out H (bin_sim OK.T OK.flat (hev _ _ h1) (hev _ _ h2) h3 w)
  · rename_i op t x ho
    replace e := ob_some e; obtain ⟨a, h1, e⟩ := e
    replace e := ob_some e; obtain ⟨v, h2, e⟩ := e; obtain rfl := Option.some.inj e
    simp only [ho]
    exact pure_out H (un_sim (hev _ _ h1) h2 w)
  · rename_i s d x ho
    replace e := ob_some e; obtain ⟨a, h1, e⟩ := e
    simp only [ho]
    split at e
    · replace e := ob_some e; obtain ⟨v, h2, e⟩ := e; obtain rfl := Option.some.inj e
      exact pure_out H (conv_sim OK.T (hev _ _ h1) h2 w)
    · rename_i ad n c
      cases hsd : Nat.beq s d with
      | true =>
        rw [hsd] at e
        replace e := ob_some e; obtain ⟨v, h2, e⟩ := e; obtain rfl := Option.some.inj e
        exact good_out (reSlice_sim OK.T H nx (hev _ _ h1) h2)
      | false =>
        rw [hsd] at e
        replace e := ob_some e; obtain ⟨v, h2, e⟩ := e; obtain rfl := Option.some.inj e
        exact pure_out H (toStr_sim OK.T H (hev _ _ h1) h2)
    · replace e := ob_some e; obtain ⟨v, h2, e⟩ := e; obtain rfl := Option.some.inj e
      exact pure_out H (toStr_sim OK.T H (hev _ _ h1) h2)
    · cases e
  · rename_i t x ho
    replace e := ob_some e; obtain ⟨a, h1, e⟩ := e
    replace e := ob_some e; obtain ⟨v, h2, e⟩ := e; obtain rfl := Option.some.inj e
    simp only [ho]
    exact pure_out H (makeIface_sim OK.T (hev _ _ h1) h2 w)
  · rename_i fn first captured ho
    replace e := ob_some e; obtain ⟨a, h1, e⟩ := e
    replace e := ob_some e; obtain ⟨b, h2, e⟩ := e
    simp only [ho]
    split at e
    · obtain rfl := Option.some.inj e
      have r1 := evs_rel hev _ _ h1
      have r2 := evs_rel hev _ _ h2
      rw [← evs_map] at r1 r2
      exact pure_out H ⟨_, rfl, .func rfl r1 r2⟩
    · cases e
  · rename_i t ho
    obtain rfl := Option.some.inj e
    simp only [ho]
    exact good_out (makeMap_sim H (fresh nx (Nat.le_refl _) (Nat.lt_succ_self _)) t)
  · rename_i t l c ho
    replace e := ob_some e; obtain ⟨a, h1, e⟩ := e
    replace e := ob_some e; obtain ⟨b, h2, e⟩ := e
    replace e := ob_some e; obtain ⟨⟨v, h'⟩, h3, e⟩ := e; obtain rfl := Option.some.inj e
    simp only [ho]
    exact good_out (makeSlice_sim OK.T H (fresh nx (Nat.le_refl _) (Nat.lt_succ_self _)) (hev _ _ h1) (hev _ _ h2) h3)
  · rename_i t x lo hi mx ho
    replace e := ob_some e; obtain ⟨a, h1, e⟩ := e
    replace e := ob_some e; obtain ⟨l, h2, e⟩ := e
    replace e := ob_some e; obtain ⟨u, h3, e⟩ := e
    replace e := ob_some e; obtain ⟨m, h4, e⟩ := e
    replace e := ob_some e; obtain ⟨v, h5, e⟩ := e; obtain rfl := Option.some.inj e
    simp only [ho]
    exact pure_out H (slice_sim OK.T (hev _ _ h1) (evo_rel hev h2) (evo_rel hev h3) (evo_rel hev h4) (aLim_ok H (hev _ _ h1)) h5 w)
  · rename_i s x f ho
    replace e := ob_some e; obtain ⟨a, h1, e⟩ := e
    replace e := ob_some e; obtain ⟨v, h2, e⟩ := e; obtain rfl := Option.some.inj e
    simp only [ho]
    exact pure_out H (fieldAddr_sim OK.T (hev _ _ h1) h2 w)
  · rename_i t x f ho
    replace e := ob_some e; obtain ⟨a, h1, e⟩ := e
    have hx := hev _ _ h1
    simp only [ho]
    split at e
    · replace e := ob_some e; obtain ⟨i, hi, e⟩ := e
      split at e
      · rename_i hd
        replace e := ob_some e; obtain ⟨fl, hf, e⟩ := e
        replace e := ob_some e; obtain ⟨v, hv, e⟩ := e; obtain rfl := Option.some.inj e
        generalize rv x = g at hx
        cases hx with
        | agg r => exact pure_out H (field_sim OK r hi hd hf hv)
      · cases e
    · cases e
  · rename_i t x ix ho
    replace e := ob_some e; obtain ⟨a, h1, e⟩ := e
    replace e := ob_some e; obtain ⟨b, h2, e⟩ := e
    replace e := ob_some e; obtain ⟨v, h3, e⟩ := e; obtain rfl := Option.some.inj e
    simp only [ho]
    exact pure_out H (indexAddr_sim OK.T (hev _ _ h1) (hev _ _ h2) h3 w)
  · rename_i t x ix ho
    replace e := ob_some e; obtain ⟨a, h1, e⟩ := e
    replace e := ob_some e; obtain ⟨b, h2, e⟩ := e
    replace e := ob_some e; obtain ⟨v, h3, e⟩ := e; obtain rfl := Option.some.inj e
    simp only [ho]
    exact pure_out H (index_sim OK.T (hev _ _ h1) (hev _ _ h2) h3 w)
  · rename_i t x ix ok ho
    replace e := ob_some e; obtain ⟨a, h1, e⟩ := e
    replace e := ob_some e; obtain ⟨b, h2, e⟩ := e
    replace e := ob_some e; obtain ⟨v, h3, e⟩ := e; obtain rfl := Option.some.inj e
    simp only [ho]
    exact pure_out H (lookup_sim OK.T OK.flat H (hev _ _ h1) (hev _ _ h2) h3)
  · rename_i t m k x ho
    replace e := ob_some e; obtain ⟨a, h1, e⟩ := e
    replace e := ob_some e; obtain ⟨b, h2, e⟩ := e
    replace e := ob_some e; obtain ⟨c, h3, e⟩ := e
    replace e := ob_some e; obtain ⟨h', h4, e⟩ := e; obtain rfl := Option.some.inj e
    simp only [ho]
    exact goodU_out (update_sim OK.T OK.flat H nx (hev _ _ h1) (hev _ _ h2) (hev _ _ h3) h4)
  · rename_i x xt a ok ho
    replace e := ob_some e; obtain ⟨u, h1, e⟩ := e
    replace e := ob_some e; obtain ⟨v, h2, e⟩ := e; obtain rfl := Option.some.inj e
    simp only [ho]
    exact pure_out H (assert_sim OK.T (hev _ _ h1) h2 w)
  · rename_i t i ho
    replace e := ob_some e; obtain ⟨a, h1, e⟩ := e
    replace e := ob_some e; obtain ⟨v, h2, e⟩ := e; obtain rfl := Option.some.inj e
    simp only [ho]
    exact pure_out H (extract_sim (hev _ _ h1) h2 w)
  · rename_i c ho
    simp only [ho]
    exact call_sim OK H hev e fresh
  · rename_i c ho
    simp only [ho]
    unfold aDefer at e
    replace e := ob_some e; obtain ⟨args, h1, e⟩ := e
    split at e
    · rename_i f hf
      replace e := ob_some e; obtain ⟨fv, h2, e⟩ := e
      have rf := hev _ _ h2
      split at e
      · obtain rfl := Option.some.inj e
        have ra := evs_rel hev _ _ h1
        rw [← evs_map] at ra
        generalize hg : rv f = g at rf
        cases rf with
        | @func _ fn' _ _ xs' ys' r1 r2 r3 =>
          refine ⟨{ target := .fn fn' ys', args := xs' ++ c.args.map rv }, ?_, ⟨fn', ys', rfl, r1, r3⟩, ?_⟩
          · unfold resolve
            simp only [hf, hg, Deferred.ofValue, Sem.run_bind, Sem.run_pure, Result.andThen_ok]
          · rw [Array.toList_append]; exact r2.append ra
      · cases e
    · cases e
  · rename_i x ho
    replace e := ob_some e; obtain ⟨v, h1, e⟩ := e
    have hx := hev _ _ h1
    simp only [ho]
    split at e
    · obtain rfl := Option.some.inj e
      generalize rv x = g at hx
      cases hx with
      | iface r => exact ⟨_, by simp [Instr.panic], .iface r⟩
    · cases e
  · cases e

end
end

section
structure AFrame where
  fn : FuncId
  n : Nat
  tmps : Tr Value
  todo : List Item
  defers : List Deferred
  mode : FrameMode
  kind : CallKind
  roundOf : Option Nat

def IRel (ρ : Ren) : Item → Item → Prop
  | .inRangeFunc l, y => ∃ L, ρ l = some L ∧ y = .inRangeFunc L.block
  | .endRangeFunc l, y => ∃ L, ρ l = some L ∧ y = .endRangeFunc L.block
  | .call .., _ => False
  | .extern .., _ => False
  | x, y => y = x

inductive IRels (ρ : Ren) : List Item → List Item → Prop where
  | nil : IRels ρ [] []
  | cons {x y : Item} {xs ys : List Item} (h : IRel ρ x y) (t : IRels ρ xs ys) : IRels ρ (x :: xs) (y :: ys)

theorem IRel.mono {ρ ρ' : Ren} (e : Ext ρ ρ') {x y : Item} (h : IRel ρ x y) : IRel ρ' x y := by
  cases x <;> first
    | exact h
    | (obtain ⟨L, h1, h2⟩ := h; exact ⟨L, e _ _ h1, h2⟩)

theorem IRels.mono {ρ ρ' : Ren} (e : Ext ρ ρ') : ∀ {xs ys : List Item}, IRels ρ xs ys → IRels ρ' xs ys
  | _, _, .nil => .nil
  | _, _, .cons h t => .cons (h.mono e) (t.mono e)

theorem IRels.append {ρ : Ren} : ∀ {xs ys us vs : List Item}, IRels ρ xs ys → IRels ρ us vs → IRels ρ (xs ++ us) (ys ++ vs)
  | _, _, _, _, .nil, h => h
  | _, _, _, _, .cons x t, h => .cons x (t.append h)

theorem IRels.exitTo {ρ : Ren} {id : Nat} : ∀ {xs ys : List Item}, IRels ρ xs ys → (∀ k, exitTo id xs = some k → ∃ k', exitTo id ys = some k' ∧ IRels ρ k k') ∧ (exitTo id xs = none → exitTo id ys = none)
  | _, _, .nil => ⟨fun k h => (by simp [Go.exitTo] at h), fun _ => rfl⟩
  | _, _, .cons (x := x) (y := y) (xs := xs) (ys := ys) h t => by
    have ih := t.exitTo (id := id)
    cases x with
    | inBlock i =>
      have : y = .inBlock i := h
      subst this
      unfold Go.exitTo
      by_cases e : (i == id) = true
      · rw [if_pos e, if_pos e]
        exact ⟨fun k hk => ⟨ys, rfl, by obtain rfl := Option.some.inj hk; exact t⟩, fun h => (by cases h)⟩
      · rw [if_neg e, if_neg e]; exact ih
    | inRangeFunc l => obtain ⟨L, _, rfl⟩ := h; exact ih
    | endRangeFunc l => obtain ⟨L, _, rfl⟩ := h; exact ih
    | call => exact h.elim
    | extern => exact h.elim
    | code c => have : y = .code c := h; subst this; exact ih
    | inLoop c => have : y = .inLoop c := h; subst this; exact ih
    | inScope c => have : y = .inScope c := h; subst this; exact ih
    | inRegion a b => have : y = .inRegion a b := h; subst this; exact ih
    | beginRound => have : y = .beginRound := h; subst this; exact ih

theorem IRels.gotoIn {ρ : Ren} {l : Nat} : ∀ {xs ys : List Item}, IRels ρ xs ys → (∀ k, gotoIn l xs = some k → ∃ k', gotoIn l ys = some k' ∧ IRels ρ k k') ∧ (gotoIn l xs = none → gotoIn l ys = none)
  | _, _, .nil => ⟨fun k h => (by simp [Go.gotoIn] at h), fun _ => rfl⟩
  | _, _, .cons (x := x) (y := y) (xs := xs) (ys := ys) h t => by
    have ih := t.gotoIn (l := l)
    cases x with
    | inScope b =>
      have : y = .inScope b := h
      subst this
      unfold Go.gotoIn
      cases hf : findLabel b l with
      | none => simp only; exact ih
      | some rest =>
        simp only
        exact ⟨fun k hk => ⟨_, rfl, by obtain rfl := Option.some.inj hk; exact .cons rfl (.cons rfl t)⟩, fun h => (by cases h)⟩
    | inRangeFunc l => obtain ⟨L, _, rfl⟩ := h; exact ih
    | endRangeFunc l => obtain ⟨L, _, rfl⟩ := h; exact ih
    | call => exact h.elim
    | extern => exact h.elim
    | code c => have : y = .code c := h; subst this; exact ih
    | inLoop c => have : y = .inLoop c := h; subst this; exact ih
    | inBlock c => have : y = .inBlock c := h; subst this; exact ih
    | inRegion a b => have : y = .inRegion a b := h; subst this; exact ih
    | beginRound => have : y = .beginRound := h; subst this; exact ih

inductive PRel (ρ : Ren) : List PanicEntry → List PanicEntry → Prop where
  | nil : PRel ρ [] []
  | cons {v v' : Value} {b : Bool} {xs ys : List PanicEntry} (h : VRel ρ v v') (t : PRel ρ xs ys) : PRel ρ ({ v, recovered := b } :: xs) ({ v := v', recovered := b } :: ys)

theorem PRel.mono {ρ ρ' : Ren} (e : Ext ρ ρ') : ∀ {xs ys : List PanicEntry}, PRel ρ xs ys → PRel ρ' xs ys
  | _, _, .nil => .nil
  | _, _, .cons h t => .cons (h.mono e) (t.mono e)

theorem PRel.append {ρ : Ren} : ∀ {xs ys us vs : List PanicEntry}, PRel ρ xs ys → PRel ρ us vs → PRel ρ (xs ++ us) (ys ++ vs)
  | _, _, _, _, .nil, h => h
  | _, _, _, _, .cons x t, h => .cons x (t.append h)

def MRel (ρ : Ren) : FrameMode → FrameMode → Prop
  | .panicking c, m => ∃ c', m = .panicking c' ∧ PRel ρ c c'
  | x, m => m = x

theorem MRel.mono {ρ ρ' : Ren} (e : Ext ρ ρ') {x y : FrameMode} (h : MRel ρ x y) : MRel ρ' x y := by
  cases x <;> first
    | exact h
    | (obtain ⟨c, h1, h2⟩ := h; exact ⟨c, h1, h2.mono e⟩)

def RRel (ρ : Ren) : Option Nat → Option Nat → Prop
  | none, y => y = none
  | some l, y => ∃ L, ρ l = some L ∧ y = some L.block

theorem RRel.mono {ρ ρ' : Ren} (e : Ext ρ ρ') {x y : Option Nat} (h : RRel ρ x y) : RRel ρ' x y := by
  cases x <;> first
    | exact h
    | (obtain ⟨c, h1, h2⟩ := h; exact ⟨c, e _ _ h1, h2⟩)

structure FRel (ρ : Ren) (a : AFrame) (f : Frame) : Prop where
  fn : f.fn = a.fn
  tmps : SlotsRel ρ a.tmps a.n f.tmps
  todo : IRels ρ a.todo f.todo
  defers : DefRels ρ a.defers f.defers
  mode : MRel ρ a.mode f.mode
  kind : f.kind = a.kind
  round : RRel ρ a.roundOf f.roundOf

theorem FRel.mono {ρ ρ' : Ren} (e : Ext ρ ρ') {a : AFrame} {f : Frame} (h : FRel ρ a f) : FRel ρ' a f :=
  ⟨h.fn, h.tmps.mono e, h.todo.mono e, h.defers.mono e, h.mode.mono e, h.kind, h.round.mono e⟩

inductive FRels (ρ : Ren) : List AFrame → List Frame → Prop where
  | nil : FRels ρ [] []
  | cons {x : AFrame} {y : Frame} {xs : List AFrame} {ys : List Frame} (h : FRel ρ x y) (t : FRels ρ xs ys) : FRels ρ (x :: xs) (y :: ys)

theorem FRels.mono {ρ ρ' : Ren} (e : Ext ρ ρ') : ∀ {xs : List AFrame} {ys : List Frame}, FRels ρ xs ys → FRels ρ' xs ys
  | _, _, .nil => .nil
  | _, _, .cons h t => .cons (h.mono e) (t.mono e)

/-- the abstract machine: the frame that runs, those that wait for it (as far as they are its own), the heap, the next number. -/
structure AM where
  fr : AFrame
  cs : List AFrame
  h : Heap
  nx : Nat

/-- an operand's value. -/
def aev (tm : Tr Value) : Operand → Option Value
  | .tmp t => tm.get t
  | .const v => cnd (closedV v) (some v) none
  | .global _ => none
  | .func f => some (.func (.func f) #[] #[])

theorem aev_rel {ρ : Ren} {a : AFrame} {f : Frame} (h : SlotsRel ρ a.tmps a.n f.tmps) : ∀ x v, aev a.tmps x = some v → VRel ρ v (f.eval x) := by
  intro x v e
  cases x with
  | tmp t =>
    obtain ⟨v', h1, h2⟩ := h.2 t v e
    have : f.eval (.tmp t) = v' := by
      show f.tmps.getD t undef = v'
      rw [Array.getD_eq_getD_getElem?, h1]; rfl
    rw [this]; exact h2
  | const c =>
    unfold aev at e
    cases hc : closedV c with
    | false => simp [hc] at e
    | true =>
      simp only [hc, cnd_true, Option.some.injEq] at e
      subst e
      exact closedV_rel hc
  | global g => cases e
  | func g =>
    obtain rfl := Option.some.inj e
    exact .func rfl .nil .nil

/-- is an operation wanted? (none: it cannot be told.) -/
def awanted (ops : Array Oper) (tm : Tr Value) (o : Oper) : Option Bool :=
  match o.guard with
  | none => some true
  | some (j, want) => ob (ops[j]?) fun oj => ob oj.dst fun d => ob (tm.get d) fun v => match v with
    | .bool b => some (b == want)
    | .tuple _ => some false
    | _ => none

theorem awanted_rel {ρ : Ren} {a : AFrame} {f : Frame} (h : SlotsRel ρ a.tmps a.n f.tmps) {ops : Array Oper} {o : Oper} {b : Bool} (e : awanted ops a.tmps o = some b) : Region.wanted o (yielded ops f.tmps) = b := by
  unfold awanted at e
  unfold Region.wanted
  split at e
  · rename_i hg; rw [hg]; exact Option.some.inj e
  · rename_i j want hg
    rw [hg]
    replace e := ob_some e; obtain ⟨oj, h1, e⟩ := e
    replace e := ob_some e; obtain ⟨d, h2, e⟩ := e
    replace e := ob_some e; obtain ⟨v, h3, e⟩ := e
    obtain ⟨v', h4, h5⟩ := h.2 d v h3
    have hy : ((ops[j]?).bind (·.dst)).bind (f.tmps[·]?) = some v' := by rw [h1]; simp [h2, h4]
    split at e
    · cases h5
      obtain rfl := Option.some.inj e
      rename_i b
      have hyl : yielded ops f.tmps j = some b := by unfold yielded; rw [hy]
      show (yielded ops f.tmps j == some want) = _
      rw [hyl]
      cases b <;> cases want <;> rfl
    · cases h5
      obtain rfl := Option.some.inj e
      have hyl : yielded ops f.tmps j = none := by unfold yielded; rw [hy]
      show (yielded ops f.tmps j == some want) = _
      rw [hyl]
      rfl
    · cases e

/-- a value goes where the operation says. -/
def aput (fr : AFrame) (dst : Option Nat) (v : Value) : Option AFrame :=
  match dst with
  | none => some fr
  | some d => cnd (Nat.blt d fr.n) (some { fr with tmps := fr.tmps.set d v }) none

/-- the waiting frame goes on with a value. -/
def afinish (fr : AFrame) (v : Value) : Option AFrame :=
  match fr.todo with
  | .inRegion ops (i :: rest) :: k => ob (aput fr ((ops[i]?).bind (·.dst)) v) fun fr => some { fr with todo := .inRegion ops rest :: k }
  | .inRangeFunc l :: k => some { fr with todo := .endRangeFunc l :: k }
  | _ => none

def putR (tmps : Array Value) (dst : Option Nat) (v : Value) : Array Value :=
  match dst with
  | some d => tmps.setIfInBounds d v
  | none => tmps

theorem aput_rel {ρ : Ren} {a a' : AFrame} {f : Frame} (h : FRel ρ a f) {dst : Option Nat} {v v' : Value} (r : VRel ρ v v') (e : aput a dst v = some a') :
    FRel ρ a' { f with tmps := putR f.tmps dst v' } ∧ a'.todo = a.todo := by
  unfold aput at e
  split at e
  · obtain rfl := Option.some.inj e
    exact ⟨h, rfl⟩
  · rename_i d
    cases hd : Nat.blt d a.n with
    | false => simp [hd] at e
    | true =>
      simp only [hd, cnd_true, Option.some.injEq] at e
      subst e
      exact ⟨⟨h.fn, h.tmps.set (blt_lt hd) r, h.todo, h.defers, h.mode, h.kind, h.round⟩, rfl⟩

theorem afinish_rel {ρ : Ren} {a a' : AFrame} {f : Frame} (h : FRel ρ a f) {v v' : Value} (r : VRel ρ v v') (e : afinish a v = some a') : FRel ρ a' (f.finish v') := by
  unfold afinish at e
  have ht := h.todo
  split at e
  · rename_i ops i rest k hk
    replace e := ob_some e; obtain ⟨b, h1, e⟩ := e; obtain rfl := Option.some.inj e
    obtain ⟨g1, g2⟩ := aput_rel h r h1
    rw [hk] at ht
    generalize hft : f.todo = ft at ht
    cases ht with
    | cons hx t =>
      have hx' : _ = Item.inRegion ops (i :: rest) := hx
      subst hx'
      unfold Frame.finish
      simp only [hft]
      exact ⟨g1.fn, g1.tmps, .cons rfl t, g1.defers, g1.mode, g1.kind, g1.round⟩
  · rename_i l k hk
    obtain rfl := Option.some.inj e
    rw [hk] at ht
    generalize hft : f.todo = ft at ht
    cases ht with
    | cons hx t =>
      obtain ⟨L, h1, rfl⟩ := hx
      unfold Frame.finish
      simp only [hft]
      exact ⟨h.fn, h.tmps, .cons ⟨L, h1, rfl⟩ t, h.defers, h.mode, h.kind, h.round⟩
  · cases e

/-- a frame that panics. -/
def araise (fr : AFrame) (vs : List PanicEntry) : AFrame :=
  match fr.mode with
  | .panicking chain => { fr with mode := .panicking (vs ++ chain) }
  | _ => { fr with mode := .panicking vs }

theorem araise_rel {ρ : Ren} {a : AFrame} {f : Frame} (h : FRel ρ a f) {vs vs' : List PanicEntry} (r : PRel ρ vs vs') : FRel ρ (araise a vs) (f.raise vs') := by
  unfold araise Frame.raise
  have hm := h.mode
  cases ha : a.mode with
  | panicking c =>
    rw [ha] at hm
    obtain ⟨c', h1, h2⟩ := hm
    simp only [h1]
    exact ⟨h.fn, h.tmps, h.todo, h.defers, ⟨_, rfl, r.append h2⟩, h.kind, h.round⟩
  | run =>
    rw [ha] at hm
    have hm' : f.mode = .run := hm
    simp only [hm']
    exact ⟨h.fn, h.tmps, h.todo, h.defers, ⟨_, rfl, r⟩, h.kind, h.round⟩
  | returning =>
    rw [ha] at hm
    have hm' : f.mode = .returning := hm
    simp only [hm']
    exact ⟨h.fn, h.tmps, h.todo, h.defers, ⟨_, rfl, r⟩, h.kind, h.round⟩

/-- slots out of a list of values. -/
def slots : List Value → Nat → Tr Value → Tr Value
  | [], _, t => t
  | v :: vs, n, t => slots vs (n + 1) (t.set n v)

theorem slots_get : ∀ (vs : List Value) (n : Nat) (t : Tr Value) (i : Nat) (v : Value), (slots vs n t).get i = some v → (n ≤ i ∧ vs[i - n]? = some v) ∨ t.get i = some v
  | [], _, _, _, _, h => .inr h
  | u :: vs, n, t, i, v, h => by
    rcases slots_get vs (n + 1) (t.set n u) i v h with ⟨h1, h2⟩ | h1
    · left
      refine ⟨by omega, ?_⟩
      have : i - n = (i - (n + 1)) + 1 := by omega
      rw [this]; simpa using h2
    · rw [Tr.get_set] at h1
      by_cases e : i = n
      · rw [if_pos e] at h1
        left; subst e
        simpa using h1
      · rw [if_neg e] at h1; exact .inr h1

/-- a function's frame. -/
def aenter (F : FT) (f : FuncId) (args : List Value) (kind : CallKind) : Option AFrame :=
  ob (F.get f) fun fn => ob fn.body fun c => some { fn := f, n := args.length + (fn.ntmps - args.length), tmps := slots args 0 .nil, todo := [.code c], defers := [], mode := .run, kind, roundOf := none }

theorem aenter_rel {P : Program} {F : FT} (hF : FOk P F) {ρ : Ren} {f : FuncId} {args : List Value} {args' : Array Value} (r : VRels ρ args args'.toList) {kind : CallKind} {a : AFrame} (e : aenter F f args kind = some a) : FRel ρ a (Frame.enter P f args' kind) := by
  replace e := ob_some e; obtain ⟨fn, h1, e⟩ := e
  replace e := ob_some e; obtain ⟨c, h2, e⟩ := e
  obtain rfl := Option.some.inj e
  obtain ⟨g1, _, _⟩ := hF f fn h1
  have hl : args.length = args'.size := r.length
  unfold Frame.enter
  refine ⟨rfl, ⟨?_, fun t v hv => ?_⟩, ?_, .nil, rfl, rfl, rfl⟩
  · simp [g1, hl]
  · rcases slots_get args 0 .nil t v hv with ⟨_, hv⟩ | hv
    · obtain ⟨v', a1, a2⟩ := r.get hv
      refine ⟨v', ?_, a2⟩
      rw [Nat.sub_zero] at a1
      have hi : t < args'.size := by
        rcases Nat.lt_or_ge t args'.size with h | h
        · exact h
        · rw [List.getElem?_eq_none (by simpa using h)] at a1; cases a1
      rw [Array.getElem?_append_left hi]
      simpa using a1
    · rw [Tr.get_nil] at hv; cases hv
  · simp only [g1, Option.bind_some, h2, Option.getD_some]
    exact .cons rfl .nil
end

end
end Eng
end Go.Proofs.YtnicdlmcbkkkfaaGreatDoor

/-
  The engine, part S: the steps of the abstract machine, all but a region that draws its order.
  The engine, part T: the step of an operation.
  The engine, part U: frames that leave; ranges over functions.
  The engine, part V: a range over a function begins; frames unwind.
  The engine, part W: the abstract machine's step as one function, and its run.
-/
import Derived.Test.YtnicdlmcbkkkfaaGreatDoorEng4
import Derived.RangeFuncIn
namespace Go.Proofs.YtnicdlmcbkkkfaaGreatDoor
namespace Eng
noncomputable section
section
/-- the values that a function's results hold. -/
def aResults (T : TT) (h : Heap) (tm : Tr Value) : List ResultVar → Option (List Value)
  | [] => some []
  | .tmp t :: rs => ob (tm.get t) fun v => ob (aResults T h tm rs) fun vs => some (v :: vs)
  | .cell a t :: rs => ob (tm.get a) fun p => ob (aLoad T h t p) fun v => ob (aResults T h tm rs) fun vs => some (v :: vs)

def aResult (X : Tabs) (h : Heap) (fr : AFrame) : Option Value :=
  ob (X.F.get fr.fn) fun fn => ob (aResults X.T h fr.tmps fn.results.toList) fun vs => match vs with
    | [v] => some v
    | vs => some (.tuple ⟨vs⟩)

/-- one result's value. -/
def resS (tmps : Array Value) : ResultVar → Sem Value
  | .tmp t => pure (tmps.getD t undef)
  | .cell a t => do loadVar t (← asAddr (tmps.getD a undef))

theorem results_run {P : Program} {X : Tabs} (OK : TabsOk P X) {ρ : Ren} {h : Heap} {w : World} (H : HRel ρ h w) {tm : Tr Value} {n : Nat} {tmps : Array Value} (S : SlotsRel ρ tm n tmps) :
    ∀ (rs : List ResultVar) (vs : List Value), aResults X.T h tm rs = some vs → ∃ vs' : List Value, (rs.mapM (resS tmps)).run P w = .ok vs' w ∧ VRels ρ vs vs'
  | [], vs, e => by
    obtain rfl := Option.some.inj e
    exact ⟨[], rfl, .nil⟩
  | .tmp t :: rs, vs, e => by
    unfold aResults at e
    replace e := ob_some e; obtain ⟨v, h1, e⟩ := e
    replace e := ob_some e; obtain ⟨us, h2, e⟩ := e
    obtain rfl := Option.some.inj e
    obtain ⟨v', g1, g2⟩ := S.2 t v h1
    obtain ⟨us', g3, g4⟩ := results_run OK H S rs us h2
    have : tmps.getD t undef = v' := by rw [Array.getD_eq_getD_getElem?, g1]; rfl
    refine ⟨v' :: us', ?_, .cons g2 g4⟩
    rw [List.mapM_cons]
    simp only [resS, Sem.run_bind, Sem.run_pure, Result.andThen_ok, this]
    rw [g3]
    rfl
  | .cell a t :: rs, vs, e => by
    unfold aResults at e
    replace e := ob_some e; obtain ⟨p, h1, e⟩ := e
    replace e := ob_some e; obtain ⟨v, h3, e⟩ := e
    replace e := ob_some e; obtain ⟨us, h2, e⟩ := e
    obtain rfl := Option.some.inj e
    obtain ⟨p', g1, g2⟩ := S.2 a p h1
    obtain ⟨v', g5, g6⟩ := load_sim (P := P) OK.T H g2 h3
    obtain ⟨us', g3, g4⟩ := results_run OK H S rs us h2
    have : tmps.getD a undef = p' := by rw [Array.getD_eq_getD_getElem?, g1]; rfl
    refine ⟨v' :: us', ?_, .cons g6 g4⟩
    have hp : ∃ ad, p' = .pointer (some ad) := by
      unfold aLoad at h3
      split at h3
      · cases g2; exact ⟨_, rfl⟩
      · cases h3
    obtain ⟨ad, rfl⟩ := hp
    have g7 : (loadVar t ad).run P w = .ok v' w := by
      unfold Instr.loadAt Instr.sureAddr at g5
      simpa using g5
    have hA : (asAddr (.pointer (some ad))).run P w = .ok ad w := rfl
    rw [List.mapM_cons]
    simp only [resS, Sem.run_bind, Sem.run_pure, Result.andThen_ok, this, hA, g7]
    rw [g3]
    rfl

theorem result_run {P : Program} {X : Tabs} (OK : TabsOk P X) {ρ : Ren} {h : Heap} {w : World} (H : HRel ρ h w) {a : AFrame} {f : Frame} (R : FRel ρ a f) {v : Value} (e : aResult X h a = some v) :
    ∃ fn v', P.funcs[f.fn]? = some fn ∧ (results fn f.tmps).run P w = .ok v' w ∧ VRel ρ v v' := by
  replace e := ob_some e; obtain ⟨fn, h1, e⟩ := e
  replace e := ob_some e; obtain ⟨vs, h2, e⟩ := e
  obtain ⟨g1, _, _⟩ := OK.F _ fn h1
  obtain ⟨vs', g2, g3⟩ := results_run OK H R.tmps _ _ h2
  refine ⟨fn, if hh : vs'.toArray.size = 1 then vs'.toArray[0] else .tuple vs'.toArray, by rw [R.fn]; exact g1, ?_, ?_⟩
  · have e0 : results fn f.tmps = (do let vs ← Array.mapM (resS f.tmps) fn.results; pure (if h : vs.size = 1 then vs[0] else .tuple vs)) := by
      unfold results
      congr 2
    rw [e0, Array.mapM_eq_mapM_toList]
    simp only [Sem.run_bind, Sem.run_map]
    rw [g2]
    rfl
  · have hl := g3.length
    split at e
    · rename_i u
      obtain rfl := Option.some.inj e
      cases g3 with
      | cons r t => cases t; simpa using r
    · rename_i hne
      obtain rfl := Option.some.inj e
      have : ¬ vs'.toArray.size = 1 := by
        intro hh
        simp at hh
        have : vs.length = 1 := by omega
        obtain ⟨u, hu⟩ := List.length_eq_one_iff.1 this
        exact hne u hu
      rw [dif_neg this]
      exact .tuple g3

/-- the abstract machine goes on. -/
def Sim (P : Program) (m m' : AM) : Prop :=
  ∀ (ρ : Ren) (fr : Frame) (cs base : List Frame) (w : World), FRel ρ m.fr fr → FRels ρ m.cs cs → HRel ρ m.h w → (∀ o, m.nx ≤ o → o < m'.nx → ρ o = none) →
    ∃ ρ' fr' cs' w', Steps P (lone fr (cs ++ base) w) (lone fr' (cs' ++ base) w') ∧ FRel ρ' m'.fr fr' ∧ FRels ρ' m'.cs cs' ∧ HRel ρ' m'.h w' ∧ Moves ρ m.h m.nx w ρ' m'.h m'.nx w'

theorem Sim.refl (P : Program) (m : AM) : Sim P m m := fun ρ fr cs _ w F C H _ => ⟨ρ, fr, cs, w, Steps.refl _ _, F, C, H, Moves.refl _ _ _ _⟩

theorem Sim.trans {P : Program} {a b c : AM} (h : Sim P a b) (k : Sim P b c) (l1 : a.nx ≤ b.nx) (l2 : b.nx ≤ c.nx) : Sim P a c := by
  intro ρ fr cs base w F C H N
  obtain ⟨ρ1, fr1, cs1, w1, s1, F1, C1, H1, M1⟩ := h ρ fr cs base w F C H fun o h1 h2 => N o h1 (by omega)
  obtain ⟨ρ2, fr2, cs2, w2, s2, F2, C2, H2, M2⟩ := k ρ1 fr1 cs1 base w1 F1 C1 H1 fun o h1 h2 => by
    rw [M1.ren o (.inr h1)]
    exact N o (by omega) h2
  exact ⟨ρ2, fr2, cs2, w2, s1.trans s2, F2, C2, H2, M1.trans M2⟩

/-- the frame alone goes on. -/
def AM.to (m : AM) (todo : List Item) : AM := { m with fr := { m.fr with todo := todo } }

theorem run_atR {f : Frame} (h : f.mode = .run) {t : List Item} (ht : f.todo = t) : f = f.atR { tmps := f.tmps, defers := f.defers } t := by
  subst ht
  cases f
  simp only at h
  subst h
  rfl

/-- one step that turns the items of the frame alone. -/
theorem sim_to {P : Program} {m : AM} (hm : m.fr.mode = .run) {t : List Item} (ht : m.fr.todo = t) {t' : List Item}
    (step' : ∀ (ρ : Ren) (fr : Frame) (cs : List Frame) (w : World) (ts : List Item), SlotsRel ρ m.fr.tmps m.fr.n fr.tmps → IRels ρ t ts → ∃ ts', IRels ρ t' ts' ∧
      step P (lone (fr.atR { tmps := fr.tmps, defers := fr.defers } ts) cs w) = .next (lone (fr.atR { tmps := fr.tmps, defers := fr.defers } ts') cs w)) : Sim P m (m.to t') := by
  intro ρ fr cs base w F C H _
  have hmode : fr.mode = .run := by have := F.mode; rw [hm] at this; exact this
  have hI := F.todo
  rw [ht] at hI
  obtain ⟨ts', h1, h2⟩ := step' ρ fr (cs ++ base) w fr.todo F.tmps hI
  rw [← run_atR hmode rfl] at h2
  exact ⟨ρ, _, cs, w, .one h2, ⟨F.fn, F.tmps, h1, F.defers, by show MRel ρ m.fr.mode .run; rw [hm]; rfl, F.kind, F.round⟩, C, H, Moves.refl _ _ _ _⟩

theorem inv1 {ρ : Ren} {x : Item} {k ts : List Item} (h : IRels ρ (x :: k) ts) : ∃ y k', ts = y :: k' ∧ IRel ρ x y ∧ IRels ρ k k' := by
  cases h with
  | cons a b => exact ⟨_, _, rfl, a, b⟩

section
variable {P : Program} {m : AM} (hm : m.fr.mode = .run)
include hm

theorem sim_skip {k : List Item} (ht : m.fr.todo = .code .skip :: k) : Sim P m (m.to k) :=
  sim_to hm ht fun ρ fr cs w ts S I => by obtain ⟨y, k', rfl, a, b⟩ := inv1 I; have a' : y = .code .skip := a; subst a'; exact ⟨k', b, stepR_skip⟩
theorem sim_label {l : Nat} {k : List Item} (ht : m.fr.todo = .code (.label l) :: k) : Sim P m (m.to k) :=
  sim_to hm ht fun ρ fr cs w ts S I => by obtain ⟨y, k', rfl, a, b⟩ := inv1 I; have a' : y = .code (.label l) := a; subst a'; exact ⟨k', b, stepR_label⟩
theorem sim_inBlock {l : Nat} {k : List Item} (ht : m.fr.todo = .inBlock l :: k) : Sim P m (m.to k) :=
  sim_to hm ht fun ρ fr cs w ts S I => by obtain ⟨y, k', rfl, a, b⟩ := inv1 I; have a' : y = .inBlock l := a; subst a'; exact ⟨k', b, stepR_inBlock⟩
theorem sim_inScope {l : Code} {k : List Item} (ht : m.fr.todo = .inScope l :: k) : Sim P m (m.to k) :=
  sim_to hm ht fun ρ fr cs w ts S I => by
    obtain ⟨y, k', rfl, a, b⟩ := inv1 I; have a' : y = .inScope l := a; subst a'
    exact ⟨k', b, step_lone_go (by simp [stepG, stepG.exec, Frame.atR])⟩
theorem sim_seq {x y : Code} {k : List Item} (ht : m.fr.todo = .code (.seq x y) :: k) : Sim P m (m.to (.code x :: .code y :: k)) :=
  sim_to hm ht fun ρ fr cs w ts S I => by obtain ⟨z, k', rfl, a, b⟩ := inv1 I; have a' : z = .code (.seq x y) := a; subst a'; exact ⟨_, .cons rfl (.cons rfl b), stepR_seq⟩
theorem sim_block {l : Nat} {x : Code} {k : List Item} (ht : m.fr.todo = .code (.block l x) :: k) : Sim P m (m.to (.code x :: .inBlock l :: k)) :=
  sim_to hm ht fun ρ fr cs w ts S I => by obtain ⟨z, k', rfl, a, b⟩ := inv1 I; have a' : z = .code (.block l x) := a; subst a'; exact ⟨_, .cons rfl (.cons rfl b), stepR_block⟩
theorem sim_loop {x : Code} {k : List Item} (ht : m.fr.todo = .code (.loop x) :: k) : Sim P m (m.to (.code x :: .inLoop x :: k)) :=
  sim_to hm ht fun ρ fr cs w ts S I => by obtain ⟨z, k', rfl, a, b⟩ := inv1 I; have a' : z = .code (.loop x) := a; subst a'; exact ⟨_, .cons rfl (.cons rfl b), stepR_loop⟩
theorem sim_inLoop {x : Code} {k : List Item} (ht : m.fr.todo = .inLoop x :: k) : Sim P m (m.to (.code x :: .inLoop x :: k)) :=
  sim_to hm ht fun ρ fr cs w ts S I => by obtain ⟨z, k', rfl, a, b⟩ := inv1 I; have a' : z = .inLoop x := a; subst a'; exact ⟨_, .cons rfl (.cons rfl b), stepR_inLoop⟩
theorem sim_scope {x : Code} {k : List Item} (ht : m.fr.todo = .code (.scope x) :: k) : Sim P m (m.to (.code x :: .inScope x :: k)) :=
  sim_to hm ht fun ρ fr cs w ts S I => by
    obtain ⟨z, k', rfl, a, b⟩ := inv1 I; have a' : z = .code (.scope x) := a; subst a'
    exact ⟨_, .cons rfl (.cons rfl b), step_lone_go (by simp [stepG, stepG.exec, Frame.atR])⟩
theorem sim_exit {id : Nat} {k k1 : List Item} (ht : m.fr.todo = .code (.exit id) :: k) (hx : exitTo id k = some k1) : Sim P m (m.to k1) :=
  sim_to hm ht fun ρ fr cs w ts S I => by
    obtain ⟨z, k', rfl, a, b⟩ := inv1 I; have a' : z = .code (.exit id) := a; subst a'
    obtain ⟨k2, h1, h2⟩ := b.exitTo.1 k1 hx
    exact ⟨_, h2, stepR_exit h1⟩
theorem sim_goto {l : Nat} {k k1 : List Item} (ht : m.fr.todo = .code (.goto l) :: k) (hx : gotoIn l k = some k1) : Sim P m (m.to k1) :=
  sim_to hm ht fun ρ fr cs w ts S I => by
    obtain ⟨z, k', rfl, a, b⟩ := inv1 I; have a' : z = .code (.goto l) := a; subst a'
    obtain ⟨k2, h1, h2⟩ := b.gotoIn.1 k1 hx
    exact ⟨_, h2, stepR_goto h1⟩
theorem sim_region {id : Nat} {ops : Array Oper} {k : List Item} (ht : m.fr.todo = .code (.region id ops false) :: k) : Sim P m (m.to (.inRegion ops (List.range ops.size) :: k)) :=
  sim_to hm ht fun ρ fr cs w ts S I => by obtain ⟨z, k', rfl, a, b⟩ := inv1 I; have a' : z = .code (.region id ops false) := a; subst a'; exact ⟨_, .cons rfl b, stepR_region⟩
theorem sim_regionEnd {ops : Array Oper} {k : List Item} (ht : m.fr.todo = .inRegion ops [] :: k) : Sim P m (m.to k) :=
  sim_to hm ht fun ρ fr cs w ts S I => by obtain ⟨z, k', rfl, a, b⟩ := inv1 I; have a' : z = .inRegion ops [] := a; subst a'; exact ⟨_, b, stepR_region_end⟩
theorem sim_cond {c : Operand} {x y : Code} {k : List Item} (ht : m.fr.todo = .code (.cond c x y) :: k) {b : Bool} (hc : aev m.fr.tmps c = some (.bool b)) : Sim P m (m.to (.code (cnd b x y) :: k)) :=
  sim_to hm ht fun ρ fr cs w ts S I => by
    obtain ⟨z, k', rfl, a, bb⟩ := inv1 I; have a' : z = .code (.cond c x y) := a; subst a'
    have r := aev_rel S c _ hc
    have he : ({ tmps := fr.tmps, defers := fr.defers } : Act).eval c = .bool b := by
      have e2 : fr.eval c = ({ tmps := fr.tmps, defers := fr.defers } : Act).eval c := by cases c <;> rfl
      rw [← e2]
      generalize fr.eval c = g at r
      cases r; rfl
    refine ⟨_, .cons ?_ bb, stepR_cond he⟩
    show _ = _
    cases b <;> rfl
end
end

section
section
variable {P : Program} {fr : Frame} {cs : List Frame} {w : World} {ops : Array Oper} {i : Nat} {rest : List Nat} {k : List Item} {o : Oper}

theorem stepG_oper (hmode : fr.mode = .run) (ht : fr.todo = .inRegion ops (i :: rest) :: k) (ho : ops[i]? = some o) (hw : Region.wanted o (yielded ops fr.tmps) = true) (hd : fr.roundOf = none ∨ ∀ c, o.op ≠ .defer c) :
    stepG P true { frame := fr, callers := cs, status := .running, dying := none } w = stepG.apply P true fr cs none (execOp fr.eval o) w := by
  have hfr := run_atR hmode ht
  have h := stepGR_op (P := P) (b := fr) (a := { tmps := fr.tmps, defers := fr.defers }) (k := k) (cs := cs) (w := w) (rest := rest) ho hw
  rw [← hfr] at h
  rw [h]
  have he : ({ tmps := fr.tmps, defers := fr.defers } : Act).eval = fr.eval := funext fun x => by cases x <;> rfl
  rw [he]
  congr 1
  rcases hd with hd | hd
  · rw [hd]; rfl
  · exact Oper.semAt_eq _ _ _ hd

variable (hg : stepG P true { frame := fr, callers := cs, status := .running, dying := none } w = stepG.apply P true fr cs none (execOp fr.eval o) w)
include hg

theorem step_value {v : Value} {w' : World} (hr : (execOp fr.eval o).run P w = .ok (.value v) w') : step P (lone fr cs w) = .next (lone (fr.finish v) cs w') :=
  step_lone_go (by rw [hg]; simp [stepG.apply, hr])
theorem step_unit {w' : World} (hr : (execOp fr.eval o).run P w = .ok .skip w') : step P (lone fr cs w) = .next (lone (fr.finish undef) cs w') :=
  step_lone_go (by rw [hg]; simp [stepG.apply, hr])
theorem step_enter (ht : fr.todo = .inRegion ops (i :: rest) :: k) {f : FuncId} {args : Array Value} {w' : World} (hr : (execOp fr.eval o).run P w = .ok (.enter f args) w') : step P (lone fr cs w) = .next (lone (Frame.enter P f args .normal) (fr :: cs) w') :=
  step_lone_go (by rw [hg]; simp [stepG.apply, hr, ht])
theorem step_dfr {d : Deferred} {w' : World} (hr : (execOp fr.eval o).run P w = .ok (.defer d) w') : step P (lone fr cs w) = .next (lone ({ fr with defers := d :: fr.defers }.finish undef) cs w') :=
  step_lone_go (by rw [hg]; simp [stepG.apply, hr])
theorem step_pnc {v : Value} {w' : World} (hr : (execOp fr.eval o).run P w = .halt (.panic v) w') : step P (lone fr cs w) = .next (lone (fr.raise [{ v, recovered := false }]) cs w') :=
  step_lone_go (by rw [hg]; simp [stepG.apply, hr])
theorem step_round {l : Nat} {f : FuncId} {tmps : Array Value} {x y : Code} {w' : World} (hr : (execOp fr.eval o).run P w = .ok (.round l f tmps x y) w') : step P (lone fr cs w) = .next (lone (Frame.round l f tmps x y .normal) (fr :: cs) w') :=
  step_lone_go (by rw [hg]; simp [stepG.apply, hr])
theorem step_rcv_none {w' : World} (hro : fr.roundOf = none) (hr : (execOp fr.eval o).run P w = .ok .recover w') (hn : tryRecover fr cs = none) : step P (lone fr cs w) = .next (lone (fr.finish .nilIface) cs w') :=
  step_lone_go (by rw [hg]; simp [stepG.apply, hr, hro, hn])
theorem step_rcv_some {w' : World} (hro : fr.roundOf = none) (hr : (execOp fr.eval o).run P w = .ok .recover w') {v : Value} {cs' : List Frame} (hn : tryRecover fr cs = some (v, cs')) : step P (lone fr cs w) = .next (lone (fr.finish v) cs' w') :=
  step_lone_go (by rw [hg]; simp [stepG.apply, hr, hro, hn])
end

theorem step_unwanted {P : Program} {fr : Frame} {cs : List Frame} {w : World} {ops : Array Oper} {i : Nat} {rest : List Nat} {k : List Item} {o : Oper} (hmode : fr.mode = .run) (ht : fr.todo = .inRegion ops (i :: rest) :: k) (ho : ops[i]? = some o)
    (hw : Region.wanted o (yielded ops fr.tmps) = false) : step P (lone fr cs w) = .next (lone (fr.finish undef) cs w) :=
  step_lone_go (by simp [stepG, stepG.exec, hmode, ht, ho, hw])

/-- slots for the parameters of a round. -/
def setParams (n : Nat) : List Tmp → List Value → Tr Value → Option (Tr Value)
  | [], [], t => some t
  | p :: ps, v :: vs, t => cnd (Nat.blt p n) (setParams n ps vs (t.set p v)) none
  | _, _, _ => none

theorem setParams_rel {ρ : Ren} {n : Nat} : ∀ (ps : List Tmp) (vs vs' : List Value), VRels ρ vs vs' → ∀ (t t' : Tr Value) (tmps : Array Value), SlotsRel ρ t n tmps → setParams n ps vs t = some t' →
    SlotsRel ρ t' n ((ps.zip vs').foldl (fun tmps (x : Tmp × Value) => tmps.setIfInBounds x.1 x.2) tmps) ∧ ps.length = vs.length
  | [], [], _, r, t, t', tmps, S, e => by
    cases r
    obtain rfl := Option.some.inj e
    exact ⟨S, rfl⟩
  | [], _ :: _, _, _, _, _, _, _, e => by cases e
  | _ :: _, [], _, _, _, _, _, _, e => by cases e
  | p :: ps, v :: vs, _, r, t, t', tmps, S, e => by
    cases r with
    | cons r tt =>
      unfold setParams at e
      cases hp : Nat.blt p n with
      | false => simp [hp] at e
      | true =>
        simp only [hp, cnd_true] at e
        obtain ⟨a, b⟩ := setParams_rel ps vs _ tt _ _ _ (S.set (blt_lt hp) r) e
        exact ⟨a, congrArg (· + 1) b⟩

def isDefer : Op → Bool
  | .defer _ => true
  | _ => false

/-- the step of an operation. -/
def aOper (X : Tabs) (m : AM) (ops : Array Oper) (o : Oper) : Option AM :=
  ob (awanted ops m.fr.tmps o) fun b => cnd b
    (cnd (isDefer o.op && m.fr.roundOf.isSome) none (ob (aop X m.h m.nx (aev m.fr.tmps) o) fun out => match out with
      | .val v h nx => ob (afinish m.fr v) fun fr => some { m with fr := fr, h := h, nx := nx }
      | .skip h nx => ob (afinish m.fr undef) fun fr => some { m with fr := fr, h := h, nx := nx }
      | .enter f args => ob (aenter X.F f args .normal) fun c => some { m with fr := c, cs := m.fr :: m.cs }
      | .dfr d => ob (afinish { m.fr with defers := d :: m.fr.defers } undef) fun fr => some { m with fr := fr }
      | .pnc v => some { m with fr := araise m.fr [{ v := v, recovered := false }] }
      | .rcv => match m.fr.roundOf, m.fr.kind, m.cs with
        | none, .normal, _ => ob (afinish m.fr .nilIface) fun fr => some { m with fr := fr }
        | none, .deferred, c :: cs => (match c.mode with
          | .panicking ({ v := v, recovered := false, goexit := false } :: older) => ob (afinish m.fr v) fun fr => some { m with fr := fr, cs := { c with mode := .panicking ({ v := v, recovered := true } :: older) } :: cs }
          | .returning => ob (afinish m.fr .nilIface) fun fr => some { m with fr := fr }
          | _ => none)
        | _, _, _ => none
      | .round l args => ob (m.h.get l) fun ob' => match ob' with
        | .loop r => ob (setParams r.n r.params args r.tmps) fun t => some { m with fr := { fn := r.fn, n := r.n, tmps := t, todo := [.code r.assign, .beginRound, .code r.body], defers := [], mode := .run, kind := .normal, roundOf := some l }, cs := m.fr :: m.cs }
        | _ => none))
    (ob (afinish m.fr undef) fun fr => some { m with fr := fr })

theorem getObj_loop {P : Program} {w : World} {b : Nat} {l : Loop} (h : w.heap[b]? = some (.loop l)) : (Instr.getLoop b).run P w = .ok l w := by
  unfold Instr.getLoop
  have : (getObj b).run P w = .ok (.loop l) w := by simp only [getObj, Sem.run, h]
  simp [this]

theorem top_le {P : Program} {ρ : Ren} {h : Heap} {nx : Nat} {w : World} {r : Result Next} {out : AOut} (H : OutRel P ρ h nx w r out) : nx ≤ out.top nx := by
  cases out <;> first
    | exact Nat.le_refl _
    | (obtain ⟨_, _, _, _, _, _, M⟩ := H; exact M.le)
    | (obtain ⟨_, _, _, _, M⟩ := H; exact M.le)

theorem undef_rel {ρ : Ren} : VRel ρ undef undef := .tuple .nil

theorem sim_oper {P : Program} {X : Tabs} (OK : TabsOk P X) {m m' : AM} (hm : m.fr.mode = .run) {ops : Array Oper} {i : Nat} {rest : List Nat} {k : List Item} (ht : m.fr.todo = .inRegion ops (i :: rest) :: k) {o : Oper} (ho : ops[i]? = some o) (e : aOper X m ops o = some m') : Sim P m m' := by
  intro ρ fr cs base w F C H N
  have hmode : fr.mode = .run := by have := F.mode; rw [hm] at this; exact this
  have hI := F.todo
  rw [ht] at hI
  obtain ⟨y, k', hft, a, bI⟩ := inv1 hI
  have a' : y = .inRegion ops (i :: rest) := a
  subst a'
  unfold aOper at e
  replace e := ob_some e
  obtain ⟨b, hb, e⟩ := e
  have hw := awanted_rel F.tmps hb
  cases b with
  | false =>
    simp only [cnd_false] at e
    replace e := ob_some e; obtain ⟨f', h1, e⟩ := e
    obtain rfl := Option.some.inj e
    exact ⟨ρ, _, cs, w, .one (step_unwanted hmode hft ho hw), afinish_rel F undef_rel h1, C, H, Moves.refl _ _ _ _⟩
  | true =>
    simp only [cnd_true] at e
    cases hdf : (isDefer o.op && m.fr.roundOf.isSome) with
    | true => simp [hdf] at e
    | false =>
      simp only [hdf, cnd_false] at e
      have hd : fr.roundOf = none ∨ ∀ c, o.op ≠ .defer c := by
        cases hro : m.fr.roundOf with
        | none => left; have := F.round; rw [hro] at this; exact this
        | some l =>
          right
          intro c hc
          rw [hro, hc] at hdf
          cases hdf
      have hg := fun cs => stepG_oper (P := P) (cs := cs) (w := w) hmode hft ho hw hd
      replace e := ob_some e
      obtain ⟨out, h1, e⟩ := e
      have fresh : ∀ q, m.nx ≤ q → q < out.top m.nx → ρ q = none := by
        intro q q1 q2
        refine N q q1 ?_
        cases out <;> simp only [AOut.top] at q2 <;> try omega
        · replace e := ob_some e; obtain ⟨f', h2, e⟩ := e; obtain rfl := Option.some.inj e; exact q2
        · replace e := ob_some e; obtain ⟨f', h2, e⟩ := e; obtain rfl := Option.some.inj e; exact q2
      have OR := aop_sim OK H (ev := aev m.fr.tmps) (rv := fr.eval) (aev_rel F.tmps) h1 fresh
      cases out with
      | val v h nx =>
        replace e := ob_some e; obtain ⟨f', h2, e⟩ := e; obtain rfl := Option.some.inj e
        obtain ⟨ρ', v', w', r1, r2, r3, r4⟩ := OR
        have hx := r4.ext fresh
        exact ⟨ρ', _, cs, w', .one (step_value (hg _) r1), afinish_rel (F.mono hx) r2 h2, C.mono hx, r3, r4⟩
      | skip h nx =>
        replace e := ob_some e; obtain ⟨f', h2, e⟩ := e; obtain rfl := Option.some.inj e
        obtain ⟨ρ', w', r1, r3, r4⟩ := OR
        have hx := r4.ext fresh
        exact ⟨ρ', _, cs, w', .one (step_unit (hg _) r1), afinish_rel (F.mono hx) undef_rel h2, C.mono hx, r3, r4⟩
      | enter f args =>
        replace e := ob_some e; obtain ⟨c, h2, e⟩ := e; obtain rfl := Option.some.inj e
        obtain ⟨args', r1, r2⟩ := OR
        exact ⟨ρ, _, fr :: cs, w, .one (step_enter (hg _) hft r1), aenter_rel OK.F r2 h2, .cons F C, H, Moves.refl _ _ _ _⟩
      | dfr d =>
        replace e := ob_some e; obtain ⟨f', h2, e⟩ := e; obtain rfl := Option.some.inj e
        obtain ⟨d', r1, r2⟩ := OR
        have F2 : FRel ρ { m.fr with defers := d :: m.fr.defers } { fr with defers := d' :: fr.defers } := ⟨F.fn, F.tmps, F.todo, .cons r2 F.defers, F.mode, F.kind, F.round⟩
        exact ⟨ρ, _, cs, w, .one (step_dfr (hg _) r1), afinish_rel F2 undef_rel h2, C, H, Moves.refl _ _ _ _⟩
      | pnc v =>
        obtain rfl := Option.some.inj e
        obtain ⟨v', r1, r2⟩ := OR
        exact ⟨ρ, _, cs, w, .one (step_pnc (hg _) r1), araise_rel F (.cons r2 .nil), C, H, Moves.refl _ _ _ _⟩
      | round l args =>
        replace e := ob_some e; obtain ⟨obj, h2, e⟩ := e
        obtain ⟨args', r1, r2, r3⟩ := OR
        cases obj with
        | loop r =>
          replace e := ob_some e; obtain ⟨t, h3, e⟩ := e; obtain rfl := Option.some.inj e
          obtain ⟨L, hL, l', g1, g2⟩ := H.obj l _ h2
          rw [hL] at r1
          obtain ⟨s1, s2⟩ := setParams_rel _ _ _ r2 _ _ _ g2.tmps h3
          have hlen : args'.size = l'.params.size := by
            have e1 := r2.length
            have e2 : args'.toList.length = args'.size := rfl
            have e3 : l'.params.toList.length = l'.params.size := rfl
            rw [g2.params] at e3
            omega
          have hy : (Instr.yield L.block args').run P w = .ok (.round L.block l'.fn ((l'.params.zip args').foldl (fun tmps (t, a) => tmps.setIfInBounds t a) l'.tmps) l'.assign l'.body) w := by
            unfold Instr.yield
            simp only [Sem.run_bind, getObj_loop g1, Result.andThen_ok]
            rw [if_neg (by simp [hlen])]
            rfl
          have hy2 := r1.trans hy
          refine ⟨ρ, _, fr :: cs, w, .one (step_round (hg _) hy2), ?_, .cons F C, H, Moves.refl _ _ _ _⟩
          refine ⟨g2.fn, ?_, ?_, .nil, rfl, rfl, ⟨L, hL, rfl⟩⟩
          · have : ((l'.params.zip args').foldl (fun tmps (t, a) => tmps.setIfInBounds t a) l'.tmps) = ((r.params.zip args'.toList).foldl (fun tmps (x : Tmp × Value) => tmps.setIfInBounds x.1 x.2) l'.tmps) := by
              rw [← Array.foldl_toList, Array.toList_zip, g2.params]
            show SlotsRel ρ t r.n ((l'.params.zip args').foldl (fun tmps (t, a) => tmps.setIfInBounds t a) l'.tmps)
            rw [this]
            exact s1
          · show IRels ρ _ [.code l'.assign, .beginRound, .code l'.body]
            rw [g2.assign, g2.body]
            exact .cons rfl (.cons rfl (.cons rfl .nil))
        | cells c e' o' => cases e
        | map es => cases e
        | deferred ds => cases e
      | rcv =>
        have r1 : (execOp fr.eval o).run P w = .ok .recover w := OR
        simp only at e
        split at e
        · rename_i hro hk
          replace e := ob_some e; obtain ⟨f', h2, e⟩ := e; obtain rfl := Option.some.inj e
          have hro' : fr.roundOf = none := by have := F.round; rw [hro] at this; exact this
          have hn : tryRecover fr (cs ++ base) = none := by
            unfold tryRecover
            rw [F.kind, hk]
          exact ⟨ρ, _, cs, w, .one (step_rcv_none (hg _) hro' r1 hn), afinish_rel F .nilIface h2, C, H, Moves.refl _ _ _ _⟩
        · rename_i c cs0 hro hk hcs
          have hro' : fr.roundOf = none := by have := F.round; rw [hro] at this; exact this
          have hkk : fr.kind = .deferred := by rw [F.kind, hk]
          rw [hcs] at C
          cases C with
          | cons FC CC =>
            rename_i c' cs1
            have hcm := FC.mode
            split at e
            · rename_i v older hmo
              replace e := ob_some e; obtain ⟨f', h2, e⟩ := e; obtain rfl := Option.some.inj e
              rw [hmo] at hcm
              obtain ⟨ch, hm1, hm2⟩ := hcm
              cases hm2 with
              | cons hv ho2 =>
                rename_i v' older'
                have hn : tryRecover fr ((c' :: cs1) ++ base) = some (v', { c' with mode := .panicking ({ v := v', recovered := true } :: older') } :: (cs1 ++ base)) := by
                  rw [tryRecover_deferred hkk]
                  simp [recoverD, hm1]
                exact ⟨ρ, _, { c' with mode := .panicking ({ v := v', recovered := true } :: older') } :: cs1, w, .one (step_rcv_some (hg _) hro' r1 hn), afinish_rel F hv h2,
                  .cons ⟨FC.fn, FC.tmps, FC.todo, FC.defers, ⟨_, rfl, .cons hv ho2⟩, FC.kind, FC.round⟩ CC, H, Moves.refl _ _ _ _⟩
            · rename_i hmo
              replace e := ob_some e; obtain ⟨f', h2, e⟩ := e; obtain rfl := Option.some.inj e
              rw [hmo] at hcm
              have hcm' : c'.mode = .returning := hcm
              have hn : tryRecover fr ((c' :: cs1) ++ base) = none := by
                rw [tryRecover_deferred hkk]
                simp [recoverD, hcm']
              exact ⟨ρ, _, c' :: cs1, w, .one (step_rcv_none (hg _) hro' r1 hn), afinish_rel F .nilIface h2, by show FRels ρ m.cs _; rw [hcs]; exact .cons FC CC, H, Moves.refl _ _ _ _⟩
            · cases e
        · cases e
end

section
/-- an object that is no row of cells is another one now. -/
theorem HRel.setObj {P : Program} {ρ : Ren} {h : Heap} {w : World} (H : HRel ρ h w) {l : Nat} {ob ob' : AObj} {L : Loc} (hl : h.get l = some ob) (hL : ρ l = some L) {o1 o2 : Obj} (h1 : w.heap[L.block]? = some o1) (hn : ∀ c e z, o1 ≠ .cells c e z)
    (hO : ∀ w' : World, w'.heap[L.block]? = some o2 → ORel ρ w' L ob') (nx : Nat) : ∃ w', (setObj L.block o2).run P w = .ok () w' ∧ HRel ρ (h.set l ob') w' ∧ Moves ρ h nx w ρ (h.set l ob') nx w' := by
  have hlt : L.block < w.heap.size := by
    rcases Nat.lt_or_ge L.block w.heap.size with h | h
    · exact h
    · rw [Array.getElem?_eq_none h] at h1; cases h1
  have g1 : ({ w with heap := w.heap.setIfInBounds L.block o2 } : World).heap[L.block]? = some o2 := by
    show (w.heap.setIfInBounds L.block o2)[L.block]? = _
    rw [Array.getElem?_setIfInBounds_self_of_lt hlt]
  have g2 : ∀ b, b ≠ L.block → ({ w with heap := w.heap.setIfInBounds L.block o2 } : World).heap[b]? = w.heap[b]? := fun b hb => by
    show (w.heap.setIfInBounds L.block o2)[b]? = _
    rw [Array.getElem?_setIfInBounds_ne (Ne.symm hb)]
  refine ⟨{ w with heap := w.heap.setIfInBounds L.block o2 }, ?_, H.put hl hL g2 (hO _ g1), Moves.put hl hL rfl rfl rfl (by simp) g2⟩
  unfold Go.setObj
  cases o1 with
  | cells c e z => exact absurd rfl (hn c e z)
  | _ => simp only [Sem.run, h1]

theorem loop_obj {ρ : Ren} {h : Heap} {w : World} (H : HRel ρ h w) {l : Nat} {r : ALoop} (hl : h.get l = some (.loop r)) : ∃ L l', ρ l = some L ∧ w.heap[L.block]? = some (.loop l') ∧ LoopRel ρ r l' := by
  obtain ⟨L, h1, l', h2, h3⟩ := H.obj l _ hl
  exact ⟨L, l', h1, h2, h3⟩

/-- a frame leaves its body. -/
def aLeave (m : AM) (jump : Option Code) : Option AM :=
  match m.fr.roundOf with
  | none => match jump with
    | none => some { m with fr := { m.fr with mode := .returning } }
    | some .ret => some { m with fr := { m.fr with mode := .returning } }
    | _ => none
  | some l => match m.h.get l, m.cs, m.fr.kind with
    | some (.loop r), c :: cs, .normal => ob (afinish c (.bool jump.isNone)) fun c' =>
        some { m with fr := c', cs := cs, h := m.h.set l (.loop { r with state := (if jump.isNone then .ready else .done), pending := jump }) }
    | _, _, _ => none

theorem endRound_run {P : Program} {ρ : Ren} {h : Heap} {w : World} (H : HRel ρ h w) {l : Nat} {r : ALoop} (hl : h.get l = some (.loop r)) {L : Loc} (hL : ρ l = some L) (jump : Option Code) (nx : Nat) :
    ∃ w', (Instr.endRound L.block jump).run P w = .ok (.bool jump.isNone) w' ∧ HRel ρ (h.set l (.loop { r with state := (if jump.isNone then .ready else .done), pending := jump })) w' ∧
      Moves ρ h nx w ρ (h.set l (.loop { r with state := (if jump.isNone then .ready else .done), pending := jump })) nx w' := by
  obtain ⟨M, l', h1, h2, h3⟩ := loop_obj H hl
  obtain rfl := Option.some.inj (h1.symm.trans hL)
  obtain ⟨w', a, b, c⟩ := H.setObj (P := P) hl h1 (o2 := .loop { l' with state := (if jump.isNone then .ready else .done), pending := jump }) h2 (fun _ _ _ h => by cases h)
    (ob' := .loop { r with state := (if jump.isNone then .ready else .done), pending := jump })
    (fun w' hw' => ⟨_, hw', ⟨rfl, rfl, h3.fn, h3.tmps, h3.params, h3.assign, h3.body, h3.defers⟩⟩) nx
  refine ⟨w', ?_, b, c⟩
  unfold Instr.endRound
  simp only [Sem.run_bind, getObj_loop h2, Result.andThen_ok]
  rw [a]
  rfl

/-- the item that stands ahead says why the frame leaves. -/
inductive Leaves1 : List Item → Option Code → Prop where
  | nil : Leaves1 [] none
  | ret {k : List Item} : Leaves1 (.code .ret :: k) (some .ret)
  | exit {id : Nat} {k : List Item} (h : exitTo id k = none) : Leaves1 (.code (.exit id) :: k) (some (.exit id))
  | goto {l : Nat} {k : List Item} (h : gotoIn l k = none) : Leaves1 (.code (.goto l) :: k) (some (.goto l))

theorem Leaves1.rel {ρ : Ren} {t ts : List Item} {j : Option Code} (h : Leaves1 t j) (I : IRels ρ t ts) : Leaves1 ts j := by
  cases h with
  | nil => cases I; exact .nil
  | ret => obtain ⟨y, k, rfl, a, b⟩ := inv1 I; have a' : y = .code .ret := a; subst a'; exact .ret
  | exit h => rename_i id k0; obtain ⟨y, k, rfl, a, b⟩ := inv1 I; have a' : y = .code (.exit id) := a; subst a'; exact .exit (b.exitTo.2 h)
  | goto h => rename_i id k0; obtain ⟨y, k, rfl, a, b⟩ := inv1 I; have a' : y = .code (.goto id) := a; subst a'; exact .goto (b.gotoIn.2 h)

theorem step_leave0 {P : Program} {fr : Frame} {cs : List Frame} {w : World} (hmode : fr.mode = .run) {j : Option Code} (hl : Leaves1 fr.todo j) (hj : j = none ∨ j = some .ret) (hr : fr.roundOf = none) :
    step P (lone fr cs w) = .next (lone { fr with mode := .returning } cs w) := by
  generalize ht : fr.todo = t at hl
  cases hl with
  | nil => exact step_lone_go (by simp [stepG, stepG.exec, hmode, ht, hr])
  | ret => exact step_lone_go (by simp [stepG, stepG.exec, hmode, ht, hr])
  | exit h => rcases hj with h | h <;> cases h
  | goto h => rcases hj with h | h <;> cases h

theorem step_leave1 {P : Program} {fr c : Frame} {cs : List Frame} {w w' : World} (hmode : fr.mode = .run) {j : Option Code} (hl : Leaves1 fr.todo j) {l : Nat} (hr : fr.roundOf = some l) (hk : fr.kind = .normal) {v : Value} (he : (Instr.endRound l j).run P w = .ok v w') :
    step P (lone fr (c :: cs) w) = .next (lone (c.finish v) cs w') := by
  generalize ht : fr.todo = t at hl
  cases hl with
  | nil => exact step_lone_go (by simp [stepG, stepG.exec, hmode, ht, hr, hk, Sem.runT_eq, he, doReturn])
  | ret => exact step_lone_go (by simp [stepG, stepG.exec, hmode, ht, hr, hk, Sem.runT_eq, he, doReturn])
  | exit h => exact step_lone_go (by simp [stepG, stepG.exec, hmode, ht, hr, hk, h, Sem.runT_eq, he, doReturn])
  | goto h => exact step_lone_go (by simp [stepG, stepG.exec, hmode, ht, hr, hk, h, Sem.runT_eq, he, doReturn])

theorem sim_leave {P : Program} {m m' : AM} (hm : m.fr.mode = .run) {j : Option Code} (hl : Leaves1 m.fr.todo j) (e : aLeave m j = some m') : Sim P m m' := by
  intro ρ fr cs base w F C H N
  have hmode : fr.mode = .run := by have := F.mode; rw [hm] at this; exact this
  have hl' := hl.rel F.todo
  unfold aLeave at e
  split at e
  · rename_i hro
    have hro' : fr.roundOf = none := by have := F.round; rw [hro] at this; exact this
    have fin : (j = none ∨ j = some .ret) → m' = { m with fr := { m.fr with mode := .returning } } → ∃ ρ' fr' cs' w', Steps P (lone fr (cs ++ base) w) (lone fr' (cs' ++ base) w') ∧ FRel ρ' m'.fr fr' ∧ FRels ρ' m'.cs cs' ∧ HRel ρ' m'.h w' ∧ Moves ρ m.h m.nx w ρ' m'.h m'.nx w' := by
      rintro hj rfl
      exact ⟨ρ, _, cs, w, .one (step_leave0 hmode hl' hj hro'), ⟨F.fn, F.tmps, F.todo, F.defers, rfl, F.kind, F.round⟩, C, H, Moves.refl _ _ _ _⟩
    split at e
    · exact fin (.inl rfl) (Option.some.inj e).symm
    · exact fin (.inr rfl) (Option.some.inj e).symm
    · cases e
  · rename_i l hro
    split at e
    · rename_i r c cs0 hg hcs hk
      replace e := ob_some e; obtain ⟨c', h1, e⟩ := e; obtain rfl := Option.some.inj e
      have hR := F.round
      rw [hro] at hR
      obtain ⟨L, hL, hro'⟩ := hR
      obtain ⟨w', a1, a2, a3⟩ := endRound_run (P := P) H hg hL j m.nx
      rw [hcs] at C
      cases C with
      | cons FC CC =>
        exact ⟨ρ, _, _, w', .one (step_leave1 hmode hl' hro' (by rw [F.kind, hk]) a1), afinish_rel FC (.bool _) h1, CC, a2, a3⟩
    · cases e

/-- a round begins. -/
def aBegin (m : AM) (k : List Item) : Option AM :=
  match m.fr.roundOf with
  | some l => match m.h.get l with
    | some (.loop r) => match r.state with
      | .ready => some { m with fr := { m.fr with todo := k }, h := m.h.set l (.loop { r with state := .busy }) }
      | _ => none
    | _ => none
  | none => none

theorem sim_begin {P : Program} {m m' : AM} (hm : m.fr.mode = .run) {k : List Item} (ht : m.fr.todo = .beginRound :: k) (e : aBegin m k = some m') : Sim P m m' := by
  intro ρ fr cs base w F C H N
  have hmode : fr.mode = .run := by have := F.mode; rw [hm] at this; exact this
  have hI := F.todo
  rw [ht] at hI
  obtain ⟨y, k', hft, a, b⟩ := inv1 hI
  have a' : y = .beginRound := a
  subst a'
  unfold aBegin at e
  split at e
  · rename_i l hro
    have hR := F.round
    rw [hro] at hR
    obtain ⟨L, hL, hro'⟩ := hR
    split at e
    · rename_i r hg
      split at e
      · rename_i hst
        obtain rfl := Option.some.inj e
        obtain ⟨M, l', h1, h2, h3⟩ := loop_obj H hg
        obtain rfl := Option.some.inj (h1.symm.trans hL)
        obtain ⟨w', a1, a2, a3⟩ := H.setObj (P := P) hg h1 (o2 := .loop { l' with state := .busy }) h2 (fun _ _ _ h => by cases h) (ob' := .loop { r with state := .busy })
          (fun w' hw' => ⟨_, hw', ⟨rfl, h3.pending, h3.fn, h3.tmps, h3.params, h3.assign, h3.body, h3.defers⟩⟩) m.nx
        have hb : (Instr.beginRound M.block).run P w = .ok () w' := by
          unfold Instr.beginRound
          simp only [Sem.run_bind, getObj_loop h2, Result.andThen_ok, a1]
          rw [h3.state, hst]
          rfl
        have hs := stepR_beginRound (P := P) (b := fr) (a := { tmps := fr.tmps, defers := fr.defers }) (k := k') (cs := cs ++ base) hro' hb
        rw [← run_atR hmode hft] at hs
        exact ⟨ρ, _, cs, w', .one hs, ⟨F.fn, F.tmps, b, F.defers, by show MRel ρ m.fr.mode .run; rw [hm]; rfl, F.kind, F.round⟩, C, a2, a3⟩
      · cases e
    · cases e
  · cases e

/-- a range over a function ends. -/
def aEndLoop (m : AM) (l : Nat) (k : List Item) : Option AM :=
  match m.h.get l with
  | some (.loop r) => match r.state with
    | .busy => none
    | _ => some { m with fr := { m.fr with todo := (r.pending.map Item.code).toList ++ k }, h := m.h.set l (.loop { r with state := .exhausted }) }
  | _ => none

theorem sim_endLoop {P : Program} {m m' : AM} (hm : m.fr.mode = .run) {l : Nat} {k : List Item} (ht : m.fr.todo = .endRangeFunc l :: k) (e : aEndLoop m l k = some m') : Sim P m m' := by
  intro ρ fr cs base w F C H N
  have hmode : fr.mode = .run := by have := F.mode; rw [hm] at this; exact this
  have hI := F.todo
  rw [ht] at hI
  obtain ⟨y, k', hft, a, b⟩ := inv1 hI
  obtain ⟨L, hL, rfl⟩ := a
  unfold aEndLoop at e
  split at e
  · rename_i r hg
    obtain ⟨M, l', h1, h2, h3⟩ := loop_obj H hg
    obtain rfl := Option.some.inj (h1.symm.trans hL)
    have main : r.state ≠ .busy → m' = { m with fr := { m.fr with todo := (r.pending.map Item.code).toList ++ k }, h := m.h.set l (.loop { r with state := .exhausted }) } →
        ∃ ρ' fr' cs' w', Steps P (lone fr (cs ++ base) w) (lone fr' (cs' ++ base) w') ∧ FRel ρ' m'.fr fr' ∧ FRels ρ' m'.cs cs' ∧ HRel ρ' m'.h w' ∧ Moves ρ m.h m.nx w ρ' m'.h m'.nx w' := by
      rintro hne rfl
      obtain ⟨w', a1, a2, a3⟩ := H.setObj (P := P) hg h1 (o2 := .loop { l' with state := .exhausted }) h2 (fun _ _ _ h => by cases h) (ob' := .loop { r with state := .exhausted })
        (fun w' hw' => ⟨_, hw', ⟨rfl, h3.pending, h3.fn, h3.tmps, h3.params, h3.assign, h3.body, h3.defers⟩⟩) m.nx
      have hb : (Instr.endLoop M.block).run P w = .ok r.pending w' := by
        have hst : (l'.state == .busy) = false := by
          rw [h3.state]
          cases hs : r.state <;> first
            | exact absurd hs hne
            | rfl
        unfold Instr.endLoop
        simp only [Sem.run_bind, getObj_loop h2, Result.andThen_ok, hst, Bool.false_eq_true, if_false, a1, Sem.run_pure]
        rw [h3.pending]
      have hs : step P (lone fr (cs ++ base) w) = .next (lone { fr with todo := (r.pending.map Item.code).toList ++ k' } (cs ++ base) w') :=
        step_lone_go (by simp [stepG, stepG.exec, hmode, hft, Sem.runT_eq, hb])
      refine ⟨ρ, _, cs, w', .one hs, ⟨F.fn, F.tmps, ?_, F.defers, F.mode, F.kind, F.round⟩, C, a2, a3⟩
      refine IRels.append ?_ b
      cases r.pending with
      | none => exact .nil
      | some c => exact .cons rfl .nil
    split at e
    · cases e
    · rename_i hne
      exact main hne (Option.some.inj e).symm
  · cases e

/-- a range over a function begins. -/
def aRange (X : Tabs) (m : AM) (f : Operand) (params : List Tmp) (assign body : Code) (k : List Item) : Option AM :=
  ob (aev m.fr.tmps f) fun fv => match fv with
    | .func fn first captured => match m.fr.roundOf with
      | none =>
        ob (aInvoke X fn (first.toList ++ [.func (.yield (m.nx + 1)) #[] #[]]) captured.toList) fun out => match out with
          | .enter g args => ob (aenter X.F g args .normal) fun c =>
              some { fr := c, cs := { m.fr with todo := .inRangeFunc (m.nx + 1) :: k, defers := { target := .collected m.nx, args := #[] } :: m.fr.defers } :: m.cs,
                     h := (m.h.set m.nx (.deferred (some []))).set (m.nx + 1) (.loop { state := .ready, pending := none, fn := m.fr.fn, n := m.fr.n, tmps := m.fr.tmps, params := params, assign := assign, body := body, defers := m.nx }),
                     nx := m.nx + 2 }
          | _ => none
      | some _ => none
    | _ => none
end

section
theorem params_ok (p : Array Tmp) : p.toList = p.toList := rfl

theorem sim_range {P : Program} {X : Tabs} (OK : TabsOk P X) {m m' : AM} (hm : m.fr.mode = .run) {f : Operand} {params : Array Tmp} {assign body : Code} {k : List Item} (ht : m.fr.todo = .code (.rangeFunc f params assign body) :: k)
    (e : aRange X m f params.toList assign body k = some m') : Sim P m m' := by
  intro ρ fr cs base w F C H N
  have hmode : fr.mode = .run := by have := F.mode; rw [hm] at this; exact this
  have hI := F.todo
  rw [ht] at hI
  obtain ⟨y, k', hft, a, b⟩ := inv1 hI
  have a' : y = .code (.rangeFunc f params assign body) := a
  subst a'
  unfold aRange at e
  replace e := ob_some e
  obtain ⟨fv, hf, e⟩ := e
  split at e
  · rename_i fn first captured
    split at e
    · rename_i hro
      have hro' : fr.roundOf = none := by have := F.round; rw [hro] at this; exact this
      replace e := ob_some e
      obtain ⟨out, hout, e⟩ := e
      split at e
      · rename_i g args
        replace e := ob_some e
        obtain ⟨c, hc, e⟩ := e
        obtain rfl := Option.some.inj e
        have n0 : ρ m.nx = none := N m.nx (Nat.le_refl _) (by show m.nx < m.nx + 2; omega)
        have n1 : ρ (m.nx + 1) = none := N (m.nx + 1) (by omega) (by show m.nx + 1 < m.nx + 2; omega)
        -- the block for the rounds' deferred calls
        let L0 : Loc := ⟨w.heap.size, 0, 0⟩
        let w1 : World := { w with heap := w.heap.push (.deferred (some [])) }
        have H1 : HRel (ρ.with m.nx L0) (m.h.set m.nx (.deferred (some []))) w1 := H.fresh n0 rfl (fun b hb => push_lt w _ b hb) ⟨[], push_at w _, .nil⟩
        have M1 : Moves ρ m.h m.nx w (ρ.with m.nx L0) (m.h.set m.nx (.deferred (some []))) (m.nx + 1) w1 := Moves.fresh rfl rfl rfl rfl (by simp [w1]) (fun b hb => push_lt w _ b hb)
        have n1' : ρ.with m.nx L0 (m.nx + 1) = none := by rw [Ren.with_other (by omega)]; exact n1
        -- the record
        let r : ALoop := { state := .ready, pending := none, fn := m.fr.fn, n := m.fr.n, tmps := m.fr.tmps, params := params.toList, assign := assign, body := body, defers := m.nx }
        let r' : Loop := { state := .ready, pending := none, fn := fr.fn, tmps := fr.tmps, params, assign, body, defers := w.heap.size }
        let L1 : Loc := ⟨w1.heap.size, 0, 0⟩
        let w2 : World := { w1 with heap := w1.heap.push (.loop r') }
        have x1 : Ext ρ (ρ.with m.nx L0) := Ren.with_ext n0
        have x2 : Ext (ρ.with m.nx L0) ((ρ.with m.nx L0).with (m.nx + 1) L1) := Ren.with_ext n1'
        have H2 : HRel ((ρ.with m.nx L0).with (m.nx + 1) L1) ((m.h.set m.nx (.deferred (some []))).set (m.nx + 1) (.loop r)) w2 :=
          H1.fresh n1' rfl (fun b hb => push_lt w1 _ b hb) ⟨r', push_at w1 _, ⟨rfl, rfl, F.fn, (F.tmps.mono x1).mono x2, rfl, rfl, rfl, ⟨L0, x2 _ _ (Ren.with_self _ _ _), rfl⟩⟩⟩
        have M2 : Moves (ρ.with m.nx L0) (m.h.set m.nx (.deferred (some []))) (m.nx + 1) w1 ((ρ.with m.nx L0).with (m.nx + 1) L1) ((m.h.set m.nx (.deferred (some []))).set (m.nx + 1) (.loop r)) (m.nx + 1 + 1) w2 :=
          Moves.fresh rfl rfl rfl rfl (by simp [w2]) (fun b hb => push_lt w1 _ b hb)
        have hx := x1.trans x2
        have he : (Instr.enterLoop fr.fn fr.tmps params assign body fr.roundOf).run P w = .ok (L1.block, [{ target := .collected w.heap.size, args := #[] }]) w2 := by
          unfold Instr.enterLoop
          rw [hro']
          simp [w1, w2, L1, r']
        have rf := aev_rel F.tmps f _ hf
        generalize hg : fr.eval f = fv' at rf
        cases rf with
        | @func _ fn' _ _ first' captured' r1 r2 r3 =>
          have hev : ({ tmps := fr.tmps, defers := fr.defers } : Act).eval f = .func fn' first' captured' := by
            have e2 : fr.eval f = ({ tmps := fr.tmps, defers := fr.defers } : Act).eval f := by cases f <;> rfl
            rw [← e2]; exact hg
          have hres : (resolve ({ tmps := fr.tmps, defers := fr.defers } : Act).eval (rangeCall f L1.block) 0).run P w2 = .ok { target := .fn fn' captured', args := first' ++ #[.func (.yield L1.block) #[] #[]] } w2 := by
            unfold resolve
            simp only [hev, Deferred.ofValue, Sem.run_pure]
            simp [Act.eval]
          have ra : VRels ((ρ.with m.nx L0).with (m.nx + 1) L1) (first.toList ++ [Value.func (.yield (m.nx + 1)) #[] #[]]) (first' ++ #[Value.func (.yield L1.block) #[] #[]]).toList := by
            rw [Array.toList_append]
            exact (r2.mono hx).append (.cons (.func (show FnRel _ (.yield (m.nx + 1)) (.yield L1.block) from ⟨L1, Ren.with_self _ _ _, rfl⟩) .nil .nil) .nil)
          have OR := invoke_sim (P := P) (h := (m.h.set m.nx (.deferred (some []))).set (m.nx + 1) (.loop r)) (nx := m.nx + 2) (w := w2) OK hout (r1.mono hx) ra (r3.mono hx)
          obtain ⟨args', q1, q2⟩ := OR
          have hs := stepR_rangeFunc (P := P) (b := fr) (a := { tmps := fr.tmps, defers := fr.defers }) (k := k') (cs := cs ++ base) he hres q1
          rw [← run_atR hmode hft] at hs
          refine ⟨_, _, _ :: cs, w2, .one hs, aenter_rel OK.F q2 hc, .cons ?_ (C.mono hx), H2, M1.trans M2⟩
          have F2 := F.mono hx
          refine ⟨F2.fn, F2.tmps, .cons ⟨L1, Ren.with_self _ _ _, rfl⟩ (b.mono hx), ?_, by show MRel _ m.fr.mode .run; rw [hm]; rfl, F2.kind, F2.round⟩
          exact .cons ⟨⟨L0, x2 _ _ (Ren.with_self _ _ _), rfl⟩, .nil⟩ F2.defers
      · cases e
    · cases e
  · cases e

/-- how the waiting frame stands when a deferred call has come back. -/
def asettle : FrameMode → FrameMode
  | .panicking ({ recovered := true, .. } :: _) => .returning
  | m => m

theorem settle_rel {ρ : Ren} {x y : FrameMode} (h : MRel ρ x y) : MRel ρ (asettle x) (settle y) := by
  cases x with
  | run => have h' : y = .run := h; subst h'; rfl
  | returning => have h' : y = .returning := h; subst h'; rfl
  | panicking c =>
    obtain ⟨c', rfl, h2⟩ := h
    cases h2 with
    | nil => exact ⟨[], rfl, .nil⟩
    | @cons v v' b xs ys hv t =>
      cases b with
      | false => exact ⟨_, rfl, .cons hv t⟩
      | true =>
        have hd : ∀ (xs ys : List PanicEntry), PRel ρ xs ys → ys.dropWhile (!·.goexit) = [] := by
          intro xs ys h
          induction h with
          | nil => rfl
          | cons h t ih => rw [List.dropWhile_cons]; simpa using ih
        show settle (.panicking ({ v := v', recovered := true } :: ys)) = .returning
        simp [settle, hd _ _ t]

/-- a frame that returns or panics: its deferred calls, then to the frame that waits. -/
def aUnwind (X : Tabs) (m : AM) : Option AM :=
  match m.fr.mode with
  | .run => none
  | mode =>
    match m.fr.defers with
    | d :: ds => match d.target with
      | .fn fn captured => ob (aInvoke X fn d.args.toList captured.toList) fun out => match out with
        | .enter f args => ob (aenter X.F f args .deferred) fun c => some { m with fr := c, cs := { m.fr with defers := ds } :: m.cs }
        | _ => none
      | .collected b => match m.h.get b with
        | some (.deferred (some calls)) => some { m with fr := { m.fr with defers := calls ++ ds }, h := m.h.set b (.deferred none) }
        | _ => none
      | _ => none
    | [] => match mode, m.cs with
      | .panicking chain, c :: cs => ob (X.F.get m.fr.fn) fun _ => some { m with fr := araise c chain, cs := cs }
      | .returning, c :: cs => ob (aResult X m.h m.fr) fun v => match m.fr.kind with
        | .normal => ob (afinish c v) fun c' => some { m with fr := c', cs := cs }
        | .deferred => some { m with fr := { c with mode := asettle c.mode }, cs := cs }
        | _ => none
      | _, _ => none

theorem defers_inv {ρ : Ren} {d : Deferred} {ds ds' : List Deferred} (h : DefRels ρ (d :: ds) ds') : ∃ d' ds1, ds' = d' :: ds1 ∧ DefRel ρ d d' ∧ DefRels ρ ds ds1 := by
  cases h with
  | cons a b => exact ⟨_, _, rfl, a, b⟩

theorem sim_unwind {P : Program} {X : Tabs} (OK : TabsOk P X) {m m' : AM} (e : aUnwind X m = some m') : Sim P m m' := by
  intro ρ fr cs base w F C H N
  have hne : m.fr.mode ≠ .run := by
    intro h
    unfold aUnwind at e
    rw [h] at e
    cases e
  have hne' : fr.mode ≠ .run := by
    intro h
    apply hne
    have := F.mode
    rw [h] at this
    cases hq : m.fr.mode with
    | run => rfl
    | returning => rw [hq] at this; cases this
    | panicking c => rw [hq] at this; obtain ⟨c', h1, _⟩ := this; cases h1
  have e2 : (match m.fr.defers with
    | d :: ds => match d.target with
      | .fn fn captured => ob (aInvoke X fn d.args.toList captured.toList) fun out => match out with
        | .enter f args => ob (aenter X.F f args .deferred) fun c => some { m with fr := c, cs := { m.fr with defers := ds } :: m.cs }
        | _ => none
      | .collected b => match m.h.get b with
        | some (.deferred (some calls)) => some { m with fr := { m.fr with defers := calls ++ ds }, h := m.h.set b (.deferred none) }
        | _ => none
      | _ => none
    | [] => match m.fr.mode, m.cs with
      | .panicking chain, c :: cs => ob (X.F.get m.fr.fn) fun _ => some { m with fr := araise c chain, cs := cs }
      | .returning, c :: cs => ob (aResult X m.h m.fr) fun v => match m.fr.kind with
        | .normal => ob (afinish c v) fun c' => some { m with fr := c', cs := cs }
        | .deferred => some { m with fr := { c with mode := asettle c.mode }, cs := cs }
        | _ => none
      | _, _ => none) = some m' := by
    unfold aUnwind at e
    cases hq : m.fr.mode with
    | run => exact absurd hq hne
    | returning => rw [hq] at e; exact e
    | panicking c => rw [hq] at e; exact e
  clear e
  split at e2
  · rename_i d ds hds
    have FD := F.defers
    rw [hds] at FD
    obtain ⟨d', ds1, hfd, hd, hds1⟩ := defers_inv FD
    obtain ⟨ht, ha⟩ := hd
    split at e2
    · rename_i fn captured hdt
      replace e2 := ob_some e2
      obtain ⟨out, hout, e2⟩ := e2
      rw [hdt] at ht
      obtain ⟨fn', cap', t1, t2, t3⟩ := ht
      split at e2
      · rename_i f args
        replace e2 := ob_some e2
        obtain ⟨c, hc, e2⟩ := e2
        obtain rfl := Option.some.inj e2
        have OR := invoke_sim (P := P) (h := m.h) (nx := m.nx) (w := w) OK hout t2 ha t3
        obtain ⟨args', q1, q2⟩ := OR
        rw [← t1] at q1
        have hs := step_defer (P := P) (cs := cs ++ base) hne' hfd t1 q1
        exact ⟨ρ, _, { fr with defers := ds1 } :: cs, w, .one hs, aenter_rel OK.F q2 hc, .cons ⟨F.fn, F.tmps, F.todo, hds1, F.mode, F.kind, F.round⟩ C, H, Moves.refl _ _ _ _⟩
      · cases e2
    · rename_i b hdt
      rw [hdt] at ht
      obtain ⟨L, hL, t1⟩ := ht
      split at e2
      · rename_i calls hg
        obtain rfl := Option.some.inj e2
        obtain ⟨M, m1, calls', m2, m3⟩ := H.obj b _ hg
        obtain rfl := Option.some.inj (m1.symm.trans hL)
        obtain ⟨w', a1, a2, a3⟩ := H.setObj (P := P) hg m1 (o2 := .deferred none) m2 (fun _ _ _ h => by cases h) (ob' := .deferred none) (fun w' hw' => hw') m.nx
        have htk : (Instr.takeDeferred M.block).run P w = .ok calls' w' := by
          unfold Instr.takeDeferred
          have hgo : (getObj M.block).run P w = .ok (.deferred (some calls')) w := by simp only [getObj, Sem.run, m2]
          simp only [Sem.run_bind, hgo, Result.andThen_ok, a1, Sem.run_pure]
        obtain ⟨tg, ar⟩ := d'
        simp only at t1
        subst t1
        have hs : step P (lone fr (cs ++ base) w) = .next (lone { fr with defers := calls' ++ ds1 } (cs ++ base) w') := by
          refine step_lone_go ?_
          cases hmo : fr.mode with
          | run => exact absurd hmo hne'
          | returning => simp [stepG, unwind, hmo, hfd, Sem.runT_eq, htk]
          | panicking chain => simp [stepG, unwind, hmo, hfd, Sem.runT_eq, htk]
        exact ⟨ρ, _, cs, w', .one hs, ⟨F.fn, F.tmps, F.todo, m3.append hds1, F.mode, F.kind, F.round⟩, C, a2, a3⟩
      · cases e2
    · cases e2
  · rename_i hds
    have FD := F.defers
    rw [hds] at FD
    have hfd : fr.defers = [] := by
      generalize fr.defers = q at FD
      cases FD; rfl
    split at e2
    · rename_i chain c cs0 hmo hcs
      replace e2 := ob_some e2
      obtain ⟨fn, hfn, e2⟩ := e2
      obtain rfl := Option.some.inj e2
      obtain ⟨g1, _, _⟩ := OK.F _ fn hfn
      have hmm := F.mode
      rw [hmo] at hmm
      obtain ⟨chain', hm1, hm2⟩ := hmm
      rw [hcs] at C
      cases C with
      | cons FC CC =>
        rename_i c' cs1
        have hs := step_going_panicked (P := P) (c := c') (cs := cs1 ++ base) (w := w) (chain := chain') (fr := fr) ⟨hm1, hfd, fn, by rw [F.fn]; exact g1⟩
        rw [← Frame.raise_mode] at hs
        exact ⟨ρ, _, cs1, w, .one hs, araise_rel FC hm2, CC, H, Moves.refl _ _ _ _⟩
    · rename_i c cs0 hmo hcs
      replace e2 := ob_some e2
      obtain ⟨v, hv, e2⟩ := e2
      have hm1 : fr.mode = .returning := by have := F.mode; rw [hmo] at this; exact this
      obtain ⟨fn, v', g1, g2, g3⟩ := result_run OK H F hv
      rw [hcs] at C
      cases C with
      | cons FC CC =>
        rename_i c' cs1
        split at e2
        · rename_i hk
          replace e2 := ob_some e2
          obtain ⟨c2, hc2, e2⟩ := e2
          obtain rfl := Option.some.inj e2
          have hs := step_leave_returned (P := P) (c := c') (cs := cs1 ++ base) (w := w) (fr := fr) (v := v') ⟨hm1, hfd, by rw [F.kind, hk], fn, g1, g2⟩
          exact ⟨ρ, _, cs1, w, .one hs, afinish_rel FC g3 hc2, CC, H, Moves.refl _ _ _ _⟩
        · rename_i hk
          obtain rfl := Option.some.inj e2
          have hs := step_going_returned (P := P) (c := c') (cs := cs1 ++ base) (w := w) (fr := fr) (v := v') (by rw [F.kind, hk]) ⟨hm1, hfd, fn, g1, g2⟩
          exact ⟨ρ, _, cs1, w, .one hs, ⟨FC.fn, FC.tmps, FC.todo, FC.defers, settle_rel FC.mode, FC.kind, FC.round⟩, CC, H, Moves.refl _ _ _ _⟩
        · cases e2
    · cases e2
end

section
/-- ONE STEP, but for a region that draws its order. -/
def astep (X : Tabs) (m : AM) : Option AM :=
  match m.fr.mode with
  | .run => match m.fr.todo with
    | [] => aLeave m none
    | .inRegion _ [] :: k => some (m.to k)
    | .inRegion ops (i :: _) :: _ => ob (ops[i]?) fun o => aOper X m ops o
    | .code .ret :: _ => aLeave m (some .ret)
    | .code .skip :: k => some (m.to k)
    | .code (.label _) :: k => some (m.to k)
    | .inBlock _ :: k => some (m.to k)
    | .inScope _ :: k => some (m.to k)
    | .code (.seq x y) :: k => some (m.to (.code x :: .code y :: k))
    | .code (.cond c x y) :: k => ob (aev m.fr.tmps c) fun v => match v with
      | .bool b => some (m.to (.code (cnd b x y) :: k))
      | _ => none
    | .code (.block id x) :: k => some (m.to (.code x :: .inBlock id :: k))
    | .code (.loop x) :: k => some (m.to (.code x :: .inLoop x :: k))
    | .inLoop x :: k => some (m.to (.code x :: .inLoop x :: k))
    | .code (.scope x) :: k => some (m.to (.code x :: .inScope x :: k))
    | .code (.exit id) :: k => match exitTo id k with
      | some k1 => some (m.to k1)
      | none => aLeave m (some (.exit id))
    | .code (.goto l) :: k => match gotoIn l k with
      | some k1 => some (m.to k1)
      | none => aLeave m (some (.goto l))
    | .code (.region _ ops false) :: k => some (m.to (.inRegion ops (List.range ops.size) :: k))
    | .code (.rangeFunc f ps x y) :: k => aRange X m f ps.toList x y k
    | .beginRound :: k => aBegin m k
    | .endRangeFunc l :: k => aEndLoop m l k
    | _ => none
  | _ => aUnwind X m

theorem astep_sim {P : Program} {X : Tabs} (OK : TabsOk P X) {m m' : AM} (e : astep X m = some m') : Sim P m m' := by
  unfold astep at e
  split at e
  · rename_i hm
    split at e
    · rename_i ht; exact sim_leave hm (by rw [ht]; exact .nil) e
    · rename_i ops k ht; obtain rfl := Option.some.inj e; exact sim_regionEnd hm ht
    · rename_i ops i rest k ht
      replace e := ob_some e
      obtain ⟨o, ho, e⟩ := e
      exact sim_oper OK hm ht ho e
    · rename_i k ht; exact sim_leave hm (by rw [ht]; exact .ret) e
    · rename_i k ht; obtain rfl := Option.some.inj e; exact sim_skip hm ht
    · rename_i l k ht; obtain rfl := Option.some.inj e; exact sim_label hm ht
    · rename_i l k ht; obtain rfl := Option.some.inj e; exact sim_inBlock hm ht
    · rename_i l k ht; obtain rfl := Option.some.inj e; exact sim_inScope hm ht
    · rename_i x y k ht; obtain rfl := Option.some.inj e; exact sim_seq hm ht
    · rename_i c x y k ht
      replace e := ob_some e
      obtain ⟨v, hv, e⟩ := e
      split at e
      · obtain rfl := Option.some.inj e; exact sim_cond hm ht hv
      · cases e
    · rename_i id x k ht; obtain rfl := Option.some.inj e; exact sim_block hm ht
    · rename_i x k ht; obtain rfl := Option.some.inj e; exact sim_loop hm ht
    · rename_i x k ht; obtain rfl := Option.some.inj e; exact sim_inLoop hm ht
    · rename_i x k ht; obtain rfl := Option.some.inj e; exact sim_scope hm ht
    · rename_i id k ht
      split at e
      · rename_i k1 hx; obtain rfl := Option.some.inj e; exact sim_exit hm ht hx
      · rename_i hx; exact sim_leave hm (by rw [ht]; exact .exit hx) e
    · rename_i l k ht
      split at e
      · rename_i k1 hx; obtain rfl := Option.some.inj e; exact sim_goto hm ht hx
      · rename_i hx; exact sim_leave hm (by rw [ht]; exact .goto hx) e
    · rename_i id ops k ht; obtain rfl := Option.some.inj e; exact sim_region hm ht
    · rename_i f ps x y k ht; exact sim_range OK hm ht e
    · rename_i k ht; exact sim_begin hm ht e
    · rename_i l k ht; exact sim_endLoop hm ht e
    · cases e
  · exact sim_unwind OK e
end

end
end Eng
end Go.Proofs.YtnicdlmcbkkkfaaGreatDoor

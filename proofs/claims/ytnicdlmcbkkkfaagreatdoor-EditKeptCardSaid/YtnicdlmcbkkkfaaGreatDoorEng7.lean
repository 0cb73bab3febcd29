/-
  The engine, part AC: a function's run from its entry to its end.
  The engine, part AD: the same run, laid out so that it is cheap to reckon.
  The engine, part AK: a drawn region whose last operations need all that stand ahead of them: the rest is run in whatever order, then these.
  The engine, part AE: the run of a function, laid out so that it is cheap to reckon.
  The engine, part AF: a call's summary, used at another place: other objects beside it, other numbers for its new ones.
  The engine, part AG: a table of proved summaries, used where their calls come again.
  The engine, part AH: tables that are printed tell what the program's do.
  The engine, part AI: a summary of a call without arguments in memory, as the kit's calls are told.
  The engine, part AJ: a call with plain values alone and a plain result, by one run.
-/
import Derived.Test.YtnicdlmcbkkkfaaGreatDoorEng6
namespace Go.Proofs.YtnicdlmcbkkkfaaGreatDoor
namespace Eng
noncomputable section
section
/-- a region whose order is drawn. -/
def aDraw (X : Tabs) (call : CallF) (m : AM) (ops : Array Oper) (k : List Item) : Option AM :=
  cnd (stat ops (masks ops.toList []) m.fr.n) (ob (rgo X call ops ops.toList m.fr.tmps m.h m.nx) fun z =>
    cnd (dyn X ops (masks ops.toList []) z.1 z.2.2.1 z.2.2.2) (some { m with fr := { m.fr with tmps := z.2.1, todo := k }, h := z.2.2.1, nx := z.2.2.2 }) none) none

def CallOk (P : Program) (call : CallF) : Prop := ∀ f args h nx v h' nx', call f args h nx = some (v, h', nx') → Ret P f args h nx v h' nx'

/-- a drawn region, by a run in some order. -/
theorem draw_simP {P : Program} {X : Tabs} (OK : TabsOk P X) (hmix : P.follows .mixedOrders = true) {call : CallF} (hc : CallOk P call) {m : AM} (hm : m.fr.mode = .run) {id : Nat} {ops : Array Oper} {k : List Item} (ht : m.fr.todo = .code (.region id ops true) :: k)
    {ix pos : Nat → Nat} (PO : PermOk ops ix pos) {os : List Oper} (hos : os.length = ops.size) (hix : ∀ i o, os[i]? = some o → ops[ix i]? = some o)
    {rs : List Rec} {tmF : Tr Value} {hF : Heap} {nF : Nat} (hr : rgo X call ops os m.fr.tmps m.h m.nx = some (rs, tmF, hF, nF)) (hs : stat ops (masks ops.toList []) m.fr.n = true) (hd : dynP X ops (masks ops.toList []) ix rs hF nF = true) :
    Sim P m { m with fr := { m.fr with tmps := tmF, todo := k }, h := hF, nx := nF } ∧ m.nx ≤ nF := by
  have B := stat_backs hs
  obtain ⟨C, c1, c2, c3, c4⟩ := can_ofP OK hc PO hos hix hr hs hd
  refine ⟨?_, ?_⟩
  · intro ρ fr cs base w F CC H N
    have hmode : fr.mode = .run := by have := F.mode; rw [hm] at this; exact this
    have hI := F.todo
    rw [ht] at hI
    obtain ⟨y, k', hft, a, bI⟩ := inv1 hI
    have a' : y = .code (.region id ops true) := a
    subst a'
    have h1 := stepR_region_draw (P := P) (b := fr) (a := { tmps := fr.tmps, defers := fr.defers }) (ops := ops) (id := id) (k := k') (cs := cs ++ base) (w := w)
    rw [← run_atR hmode hft] at h1
    have L0 := lin_schedule (P := P) hmix B (w.tape w.drawn (.order fr.fn id))
    have L := lin_map PO.h1 PO.h2 _ _ (fun _ => False) (fun p _ => Iff.rfl) L0
    have hb := map_back PO.h1 _ (lin_lt _ _ L0)
    obtain ⟨ρ', tmps', w', s1, S', H', M⟩ := C.region L (fr := fr.atR { tmps := fr.tmps, defers := fr.defers } (.inRegion ops (Region.schedule (P.follows .mixedOrders) ops (w.tape w.drawn (.order fr.fn id))) :: k'))
      (w := { w with drawn := w.drawn + 1 }) (ρ := ρ) (k := k') rfl (by rw [hb]; rfl) F.tmps (by rw [c1]; exact H.same fun _ => rfl) (by rw [c3, c4]; exact N) (cs ++ base)
    rw [c1, c3, c4, c2] at M
    rw [c2] at H'
    have E := M.ext N
    have h2 := stepR_region_end (P := P) (b := fr) (a := { tmps := tmps', defers := fr.defers }) (ops := ops) (k := k') (cs := cs ++ base) (w := w')
    refine ⟨ρ', _, cs, w', .trans (.one h1) (.trans s1 (.one h2)), ?_, CC.mono E, H', ⟨M.os, M.tape, M.output, M.size, M.block, M.owned, M.le, M.ren⟩⟩
    exact ⟨F.fn, S', bI.mono E, F.defers.mono E, by show MRel ρ' m.fr.mode .run; rw [hm]; rfl, F.kind, F.round.mono E⟩
  · rw [← c3, ← c4]
    exact C.X_le (Nat.zero_le _) (Nat.le_refl _)

theorem draw_sim {P : Program} {X : Tabs} (OK : TabsOk P X) (hmix : P.follows .mixedOrders = true) {call : CallF} (hc : CallOk P call) {m m' : AM} (hm : m.fr.mode = .run) {id : Nat} {ops : Array Oper} {k : List Item} (ht : m.fr.todo = .code (.region id ops true) :: k)
    (e : aDraw X call m ops k = some m') : Sim P m m' ∧ m.nx ≤ m'.nx := by
  unfold aDraw at e
  cases hs : stat ops (masks ops.toList []) m.fr.n with
  | false => simp [hs] at e
  | true =>
    simp only [hs, cnd_true] at e
    replace e := ob_some e
    obtain ⟨⟨rs, tmF, hF, nF⟩, hr, e⟩ := e
    cases hd : dyn X ops (masks ops.toList []) rs hF nF with
    | false => simp [hd] at e
    | true =>
      simp only [hd, cnd_true] at e
      obtain rfl := Option.some.inj e
      rw [dyn_id] at hd
      exact draw_simP OK hmix hc hm ht (perm_id (stat_backs hs)) (by simp) (fun i o ho => by rw [← Array.getElem?_toList]; exact ho) hr hs hd

/-- an order of the operations: who makes an object stands as late as it may. -/
def isMaker : Op → Bool
  | .alloc .. => true
  | .box .. => true
  | .buildSlice .. => true
  | .makeSlice .. => true
  | .makeMap .. => true
  | _ => false

def lateF (ms : List Nat) (ops : Array Oper) : List Nat → List Nat → List Nat → List Nat
  | [], out, held => out ++ held
  | i :: is, out, held => match ops[i]? with
    | some o => cnd (isMaker o.op) (lateF ms ops is out (held ++ [i])) (lateF ms ops is (out ++ held.filter (bit ms i) ++ [i]) (held.filter fun a => !bit ms i a))
    | none => out

def nthO (od : List Nat) (i : Nat) : Nat := od.getD i i
def posO : List Nat → Nat → Nat
  | [], _ => 0
  | y :: ys, x => cnd (Nat.beq y x) 0 (posO ys x + 1)

def permB (ops : Array Oper) (ms : List Nat) (od : List Nat) : Bool :=
  cnd (Nat.beq od.length ops.size) (cnd (allN ops.size fun x => Nat.blt (posO od x) ops.size && Nat.beq (nthO od (posO od x)) x)
    (cnd (allN ops.size fun i => Nat.blt (nthO od i) ops.size && Nat.beq (posO od (nthO od i)) i) (allN ops.size fun j => allN j fun i => !bit ms (nthO od i) (nthO od j)) false) false) false

theorem permB_ok {ops : Array Oper} {od : List Nat} (h : permB ops (masks ops.toList []) od = true) : od.length = ops.size ∧ PermOk ops (nthO od) (posO od) := by
  obtain ⟨h0, h⟩ := cond_and h
  obtain ⟨h1, h⟩ := cond_and h
  obtain ⟨h2, h3⟩ := cond_and h
  refine ⟨Nat.eq_of_beq_eq_true h0, ⟨fun x hx => ?_, fun i hi => ?_, fun i j hij hj hn => ?_⟩⟩
  · have := allN_ok h1 x hx
    rw [Bool.and_eq_true] at this
    exact ⟨blt_lt this.1, Nat.eq_of_beq_eq_true this.2⟩
  · have := allN_ok h2 i hi
    rw [Bool.and_eq_true] at this
    exact ⟨blt_lt this.1, Nat.eq_of_beq_eq_true this.2⟩
  · have := allN_ok (allN_ok h3 j hj) i hij
    have hn' : bit (masks ops.toList []) (nthO od i) (nthO od j) = true := hn
    rw [hn'] at this
    cases this

def osOf (ops : Array Oper) : List Nat → Option (List Oper)
  | [] => some []
  | i :: r => ob (ops[i]?) fun o => ob (osOf ops r) fun l => some (o :: l)

theorem osOf_ok {ops : Array Oper} : ∀ (od : List Nat) (os : List Oper), osOf ops od = some os → os.length = od.length ∧ ∀ i o, os[i]? = some o → ops[nthO od i]? = some o
  | [], os, e => by cases e; exact ⟨rfl, fun i o h => by simp at h⟩
  | x :: r, os, e => by
    replace e := ob_some e; obtain ⟨o, h1, e⟩ := e
    replace e := ob_some e; obtain ⟨l, h2, e⟩ := e
    cases e
    obtain ⟨a, b⟩ := osOf_ok r l h2
    refine ⟨by simp [a], fun i o' h => ?_⟩
    cases i with
    | zero => simp at h; subst h; unfold nthO; simpa using h1
    | succ i =>
      have hb := b i o' (by simpa using h)
      have hl : i < r.length := by
        rcases Nat.lt_or_ge i l.length with c | c
        · omega
        · rw [List.getElem?_cons_succ, List.getElem?_eq_none c] at h; cases h
      unfold nthO at *
      rw [List.getD_eq_getElem?_getD, List.getElem?_cons_succ, List.getElem?_eq_getElem hl]
      rw [List.getD_eq_getElem?_getD, List.getElem?_eq_getElem hl] at hb
      exact hb

/-- a region whose order is drawn, run in another order than the text's. -/
def drawP (X : Tabs) (call : CallF) (tm : Tr Value) (ops : Array Oper) (h : Heap) (nx : Nat) : Option (Tr Value × Heap × Nat) :=
  let ms := masks ops.toList []
  let od := lateF ms ops (List.range ops.size) [] []
  ob (osOf ops od) fun os => cnd (permB ops ms od) (ob (rgo X call ops os tm h nx) fun z => cnd (dynP X ops ms (nthO od) z.1 z.2.2.1 z.2.2.2) (some z.2) none) none

theorem bigcall_sim {P : Program} {X : Tabs} (OK : TabsOk P X) {m : AM} (hm : m.fr.mode = .run) {ops : Array Oper} {i : Nat} {rest : List Nat} {k : List Item} (ht : m.fr.todo = .inRegion ops (i :: rest) :: k) {o : Oper} (ho : ops[i]? = some o)
    {f : FuncId} {args : List Value} (e : aCalls X ops m.fr.tmps m.h m.nx o = some (f, args)) {v : Value} {h' : Heap} {nx' : Nat} (R : Ret P f args m.h m.nx v h' nx') {fr' : AFrame} (hf : afinish m.fr v = some fr') : Sim P m { m with fr := fr', h := h', nx := nx' } := by
  intro ρ fr cs base w F CC H N
  have hmode : fr.mode = .run := by have := F.mode; rw [hm] at this; exact this
  have hI := F.todo
  rw [ht] at hI
  obtain ⟨y, k', hft, a, bI⟩ := inv1 hI
  have a' : y = .inRegion ops (i :: rest) := a
  subst a'
  obtain ⟨ρ', v', w', s1, r1, H1, M⟩ := call_op (n := m.fr.n) OK ho e R ρ fr (cs ++ base) w rest k' hmode hft F.tmps H N
  rw [← finish_eq hft] at s1
  have E := M.ext N
  exact ⟨ρ', _, cs, w', s1, afinish_rel (F.mono E) r1 hf, CC.mono E, H1, M⟩

/-- has the machine come to its end? -/
def isEnd (m : AM) : Bool :=
  match m.fr.mode with
  | .returning => m.fr.defers.isEmpty && m.cs.isEmpty
  | _ => false

/-- ONE FUNCTION's RUN; the functions that it calls run likewise. -/
def exec (X : Tabs) (memo : CallF) : Nat → AM → Option AM
  | 0, _ => none
  | n + 1, m =>
    let call : CallF := fun f args h nx => match memo f args h nx with
      | some r => some r
      | none => ob (aenter X.F f args .normal) fun fr => ob (exec X memo n ⟨fr, [], h, nx⟩) fun m => cnd (Nat.ble nx m.nx) (ob (aDone X f m) fun v => some (v, m.h, m.nx)) none
    match m.fr.mode with
    | .run => match m.fr.todo with
      | .code (.region _ ops true) :: k => ob (aDraw X call m ops k) fun m' => exec X memo n m'
      | .inRegion ops (i :: _) :: _ => ob (ops[i]?) fun o => match o.op with
        | .call _ => (match aCalls X ops m.fr.tmps m.h m.nx o with
          | some c => ob (call c.1 c.2 m.h m.nx) fun r => cnd (Nat.ble m.nx r.2.2) (ob (afinish m.fr r.1) fun fr => exec X memo n { m with fr := fr, h := r.2.1, nx := r.2.2 }) none
          | none => ob (aOper X m ops o) fun m' => cnd (Nat.ble m.nx m'.nx) (exec X memo n m') none)
        | _ => ob (aOper X m ops o) fun m' => cnd (Nat.ble m.nx m'.nx) (exec X memo n m') none
      | _ => ob (astep X m) fun m' => cnd (Nat.ble m.nx m'.nx) (exec X memo n m') none
    | _ => cnd (isEnd m) (some m) (ob (astep X m) fun m' => cnd (Nat.ble m.nx m'.nx) (exec X memo n m') none)

theorem cond_some {α : Type} {a : Bool} {x : Option α} {y : α} (h : cnd a x none = some y) : a = true ∧ x = some y := by
  cases a with
  | false => cases h
  | true => exact ⟨rfl, h⟩

theorem exec_sim {P : Program} {X : Tabs} (OK : TabsOk P X) (hmix : P.follows .mixedOrders = true) {memo : CallF} (hc : CallOk P memo) : ∀ (n : Nat) (m m' : AM), exec X memo n m = some m' → Sim P m m' ∧ m.nx ≤ m'.nx
  | 0, _, _, e => by cases e
  | n + 1, m, m', e => by
    have ih := exec_sim OK hmix hc n
    have next : ∀ m1, Sim P m m1 → m.nx ≤ m1.nx → exec X memo n m1 = some m' → Sim P m m' ∧ m.nx ≤ m'.nx := by
      intro m1 s1 l1 e1
      obtain ⟨s2, l2⟩ := ih m1 m' e1
      exact ⟨s1.trans s2 l1 l2, Nat.le_trans l1 l2⟩
    have hcall : CallOk P (fun f args h nx => match memo f args h nx with
      | some r => some r
      | none => ob (aenter X.F f args .normal) fun fr => ob (exec X memo n ⟨fr, [], h, nx⟩) fun m => cnd (Nat.ble nx m.nx) (ob (aDone X f m) fun v => some (v, m.h, m.nx)) none) := by
      intro f args h nx v h' nx' hh
      simp only at hh
      split at hh
      · rename_i r hr
        cases hh
        exact hc _ _ _ _ _ _ _ hr
      · replace hh := ob_some hh; obtain ⟨fr, h1, hh⟩ := hh
        replace hh := ob_some hh; obtain ⟨m2, h2, hh⟩ := hh
        obtain ⟨_, hh⟩ := cond_some hh
        replace hh := ob_some hh; obtain ⟨u, h3, hh⟩ := hh
        cases hh
        exact ret_of_sim OK h1 (ih _ _ h2).1 h3
    unfold exec at e
    simp only at e
    split at e
    · rename_i hm
      split at e
      · rename_i id ops k ht
        replace e := ob_some e; obtain ⟨m1, h1, e⟩ := e
        obtain ⟨s1, l1⟩ := draw_sim OK hmix hcall hm ht h1
        exact next m1 s1 l1 e
      · rename_i ops i rest k ht
        replace e := ob_some e; obtain ⟨o, ho, e⟩ := e
        split at e
        · split at e
          · rename_i c hcl
            replace e := ob_some e; obtain ⟨⟨v, h', nx'⟩, h1, e⟩ := e
            obtain ⟨l1, e⟩ := cond_some e
            replace e := ob_some e; obtain ⟨fr', h2, e⟩ := e
            exact next _ (bigcall_sim OK hm ht ho hcl (hcall _ _ _ _ _ _ _ h1) h2) (Nat.le_of_ble_eq_true l1) e
          · replace e := ob_some e; obtain ⟨m1, h1, e⟩ := e
            obtain ⟨l1, e⟩ := cond_some e
            exact next m1 (sim_oper OK hm ht ho h1) (Nat.le_of_ble_eq_true l1) e
        · replace e := ob_some e; obtain ⟨m1, h1, e⟩ := e
          obtain ⟨l1, e⟩ := cond_some e
          exact next m1 (sim_oper OK hm ht ho h1) (Nat.le_of_ble_eq_true l1) e
      · replace e := ob_some e; obtain ⟨m1, h1, e⟩ := e
        obtain ⟨l1, e⟩ := cond_some e
        exact next m1 (astep_sim OK h1) (Nat.le_of_ble_eq_true l1) e
    · cases hE : isEnd m with
      | true =>
        simp only [hE, cnd_true] at e
        obtain rfl := Option.some.inj e
        exact ⟨.refl _ _, Nat.le_refl _⟩
      | false =>
        simp only [hE, cnd_false] at e
        replace e := ob_some e; obtain ⟨m1, h1, e⟩ := e
        obtain ⟨l1, e⟩ := cond_some e
        exact next m1 (astep_sim OK h1) (Nat.le_of_ble_eq_true l1) e

/-- ONE CALL. -/
def run (X : Tabs) (memo : CallF) (n : Nat) : CallF := fun f args h nx =>
  ob (aenter X.F f args .normal) fun fr => ob (exec X memo n ⟨fr, [], h, nx⟩) fun m => ob (aDone X f m) fun v => some (v, m.h, m.nx)

theorem run_ret {P : Program} {X : Tabs} (OK : TabsOk P X) (hmix : P.follows .mixedOrders = true) {memo : CallF} (hc : CallOk P memo) {n : Nat} {f : FuncId} {args : List Value} {h : Heap} {nx : Nat} {v : Value} {h' : Heap} {nx' : Nat} (e : run X memo n f args h nx = some (v, h', nx')) :
    Ret P f args h nx v h' nx' := by
  replace e := ob_some e; obtain ⟨fr, h1, e⟩ := e
  replace e := ob_some e; obtain ⟨m2, h2, e⟩ := e
  replace e := ob_some e; obtain ⟨u, h3, e⟩ := e
  cases e
  exact ret_of_sim OK h1 (exec_sim OK hmix hc n _ _ h2).1 h3

def noMemo : CallF := fun _ _ _ _ => none

theorem noMemo_ok {P : Program} : CallOk P noMemo := fun _ _ _ _ _ _ _ h => by cases h
end

section
/-- what an operation gives; what it calls is run. -/
def aEff (X : Tabs) (call : CallF) (ops : Array Oper) (tm : Tr Value) (h : Heap) (nx : Nat) (o : Oper) : Option (Value × Heap × Nat) :=
  ob (awanted ops tm o) fun b => cnd b (cnd (isDefer o.op) none (ob (aop X h nx (aev tm) o) fun out => match out with
    | .val v h nx => some (v, h, nx)
    | .skip h nx => some (undef, h, nx)
    | .enter f args => call f args h nx
    | _ => none)) (some (undef, h, nx))

theorem eff_op {P : Program} {X : Tabs} (OK : TabsOk P X) {call : CallF} (hc : CallOk P call) {ops : Array Oper} {i : Nat} {o : Oper} (ho : ops[i]? = some o) {tm : Tr Value} {n : Nat} {h : Heap} {nx : Nat} {v : Value} {h' : Heap} {nx' : Nat}
    (e : aEff X call ops tm h nx o = some (v, h', nx')) : OpR P ops i tm n h nx v h' nx' := by
  unfold aEff at e
  replace e := ob_some e
  obtain ⟨b, hb, e⟩ := e
  cases b with
  | false =>
    have e' : some (undef, h, nx) = some (v, h', nx') := e
    refine local_op (X := X) OK ho ?_
    unfold aLocal
    rw [hb]
    exact e'
  | true =>
    simp only [cnd_true] at e
    cases hdf : isDefer o.op with
    | true => simp [hdf] at e
    | false =>
      simp only [hdf, cnd_false] at e
      replace e := ob_some e
      obtain ⟨out, h1, e⟩ := e
      cases out with
      | val v1 hh1 nx1 =>
        refine local_op (X := X) OK ho ?_
        unfold aLocal
        rw [hb, hdf, h1]
        exact e
      | skip hh1 nx1 =>
        refine local_op (X := X) OK ho ?_
        unfold aLocal
        rw [hb, hdf, h1]
        exact e
      | enter f args =>
        have e' : call f args h nx = some (v, h', nx') := e
        refine call_op (X := X) (f := f) (args := args) OK ho ?_ (hc _ _ _ _ _ _ _ e')
        unfold aCalls
        rw [hb, hdf, h1]
        rfl
      | round _ _ => cases e
      | dfr _ => cases e
      | rcv => cases e
      | pnc _ => cases e

/-- a region's operations, one behind the other. -/
def rseq (X : Tabs) (call : CallF) (ops : Array Oper) (n : Nat) : List Oper → Tr Value → Heap → Nat → Option (Tr Value × Heap × Nat)
  | [], tm, h, nx => some (tm, h, nx)
  | o :: os, tm, h, nx => ob (aEff X call ops tm h nx o) fun r => match r with
    | (v, h', nx') => cnd (Nat.ble nx nx') (match o.dst with
      | none => rseq X call ops n os tm h' nx'
      | some d => cnd (Nat.blt d n) (rseq X call ops n os (tm.set d v) h' nx') none) none

theorem rseq_sim {P : Program} {X : Tabs} (OK : TabsOk P X) {call : CallF} (hc : CallOk P call) {ops : Array Oper} {n : Nat} : ∀ (os : List Oper) (s : Nat), (∀ i o, os[i]? = some o → ops[s + i]? = some o) → ∀ (tm : Tr Value) (h : Heap) (nx : Nat) (tm' : Tr Value) (h' : Heap) (nx' : Nat), rseq X call ops n os tm h nx = some (tm', h', nx') →
    nx ≤ nx' ∧ ∀ (ρ : Ren) (fr : Frame) (cs : List Frame) (w : World) (k : List Item), fr.mode = .run → fr.todo = .inRegion ops (List.range' s os.length) :: k → SlotsRel ρ tm n fr.tmps → HRel ρ h w → (∀ o, nx ≤ o → o < nx' → ρ o = none) →
      ∃ ρ' tmps' w', Steps P (lone fr cs w) (lone { fr with tmps := tmps', todo := .inRegion ops [] :: k } cs w') ∧ SlotsRel ρ' tm' n tmps' ∧ HRel ρ' h' w' ∧ Moves ρ h nx w ρ' h' nx' w'
  | [], s, _, tm, h, nx, tm', h', nx', e => by
    cases e
    refine ⟨Nat.le_refl _, fun ρ fr cs w k hm ht S H _ => ⟨ρ, fr.tmps, w, ?_, S, H, Moves.refl _ _ _ _⟩⟩
    have : ({ fr with tmps := fr.tmps, todo := .inRegion ops [] :: k } : Frame) = fr := by
      cases fr; simp at ht; simp [ht]
    rw [this]
    exact .refl _ _
  | o :: os, s, hs, tm, h, nx, tm', h', nx', e => by
    unfold rseq at e
    replace e := ob_some e
    obtain ⟨⟨v, h1, nx1⟩, he, e⟩ := e
    obtain ⟨l1, e⟩ := cond_some e
    have l1 := Nat.le_of_ble_eq_true l1
    have ho := hs 0 o (by simp)
    rw [Nat.add_zero] at ho
    have q := eff_op (P := P) (n := n) OK hc ho he
    have key : ∀ tm1, (∀ {ρ' : Ren} {v' : Value} {tmps : Array Value}, SlotsRel ρ' tm n tmps → VRel ρ' v v' → SlotsRel ρ' tm1 n (putR tmps o.dst v')) → rseq X call ops n os tm1 h1 nx1 = some (tm', h', nx') →
        nx ≤ nx' ∧ ∀ (ρ : Ren) (fr : Frame) (cs : List Frame) (w : World) (k : List Item), fr.mode = .run → fr.todo = .inRegion ops (List.range' s (os.length + 1)) :: k → SlotsRel ρ tm n fr.tmps → HRel ρ h w → (∀ o, nx ≤ o → o < nx' → ρ o = none) →
          ∃ ρ' tmps' w', Steps P (lone fr cs w) (lone { fr with tmps := tmps', todo := .inRegion ops [] :: k } cs w') ∧ SlotsRel ρ' tm' n tmps' ∧ HRel ρ' h' w' ∧ Moves ρ h nx w ρ' h' nx' w' := by
      intro tm1 hput e1
      obtain ⟨l2, ih⟩ := rseq_sim OK hc os (s + 1) (fun i o' ho' => by
        have := hs (i + 1) o' (by simpa using ho')
        rw [← this]; congr 1; omega) _ _ _ _ _ _ e1
      refine ⟨Nat.le_trans l1 l2, fun ρ fr cs w k hm ht S H N => ?_⟩
      have N1 : ∀ q, nx ≤ q → q < nx1 → ρ q = none := fun q a b => N q a (by omega)
      obtain ⟨ρ1, v1, w1, s1, r1, H1, M1⟩ := q ρ fr cs w (List.range' (s + 1) os.length) k hm ht S H N1
      have E := M1.ext N1
      have hd : (ops[s]?).bind (·.dst) = o.dst := by rw [ho]; rfl
      rw [hd] at s1
      obtain ⟨ρ2, t2, w2, s2, S2, H2, M2⟩ := ih ρ1 { fr with tmps := putR fr.tmps o.dst v1, todo := .inRegion ops (List.range' (s + 1) os.length) :: k } cs w1 k hm rfl (hput (S.mono E) r1) H1 (fun q a b => by
        rw [M1.ren q (.inr a)]
        exact N q (by omega) b)
      exact ⟨ρ2, t2, w2, s1.trans s2, S2, H2, M1.trans M2⟩
    have hl : (o :: os).length = os.length + 1 := rfl
    rw [hl]
    split at e
    · rename_i hdst
      exact key tm (fun S _ => by rw [hdst]; exact S) e
    · rename_i d hdst
      obtain ⟨b1, e⟩ := cond_some e
      exact key (tm.set d v) (fun S r => by rw [hdst]; exact S.set (blt_lt b1) r) e

/-- the machine, put together. -/
def amk (c : AFrame) (cs : List AFrame) (tm : Tr Value) (todo : List Item) (h : Heap) (nx : Nat) : AM :=
  ⟨{ fn := c.fn, n := c.n, tmps := tm, todo := todo, defers := c.defers, mode := .run, kind := c.kind, roundOf := c.roundOf }, cs, h, nx⟩

theorem seq_sim {P : Program} {X : Tabs} (OK : TabsOk P X) {call : CallF} (hc : CallOk P call) {c : AFrame} {cs : List AFrame} {tm : Tr Value} {h : Heap} {nx : Nat} {id : Nat} {ops : Array Oper} {k : List Item} {tm' : Tr Value} {h' : Heap} {nx' : Nat}
    (e : rseq X call ops c.n ops.toList tm h nx = some (tm', h', nx')) : Sim P (amk c cs tm (.code (.region id ops false) :: k) h nx) (amk c cs tm' k h' nx') ∧ nx ≤ nx' := by
  obtain ⟨l, g⟩ := rseq_sim OK hc ops.toList 0 (fun i o ho => by rw [Nat.zero_add, ← Array.getElem?_toList]; exact ho) _ _ _ _ _ _ e
  refine ⟨?_, l⟩
  have hr : List.range' 0 ops.toList.length = List.range ops.size := by rw [List.range_eq_range']; simp
  rw [hr] at g
  have s1 : Sim P (amk c cs tm (.code (.region id ops false) :: k) h nx) (amk c cs tm (.inRegion ops (List.range ops.size) :: k) h nx) := sim_region (m := amk c cs tm (.code (.region id ops false) :: k) h nx) rfl rfl
  refine s1.trans (b := amk c cs tm (.inRegion ops (List.range ops.size) :: k) h nx) ?_ (Nat.le_refl _) l
  intro ρ fr cs' base w F CC H N
  have hmode : fr.mode = .run := F.mode
  obtain ⟨y, k', hft, a, bI⟩ := inv1 F.todo
  have a' : y = .inRegion ops (List.range ops.size) := a
  subst a'
  obtain ⟨ρ', t', w', st, S', H', M⟩ := g ρ fr (cs' ++ base) w k' hmode hft F.tmps H N
  have E := M.ext N
  have h2 := stepR_region_end (P := P) (b := fr) (a := { tmps := t', defers := fr.defers }) (ops := ops) (k := k') (cs := cs' ++ base) (w := w')
  have e2 : fr.atR { tmps := t', defers := fr.defers } (.inRegion ops [] :: k') = { fr with tmps := t', todo := .inRegion ops [] :: k' } := by
    cases fr
    simp only at hmode
    subst hmode
    rfl
  rw [e2] at h2
  exact ⟨ρ', _, cs', w', .trans st (.one h2), ⟨F.fn, S', bI.mono E, F.defers.mono E, rfl, F.kind, F.round.mono E⟩, CC.mono E, H', M⟩
end

section
/-- what is looked at each time, where the operations are run in another order than the text's: of the first N operations. -/
def dynN (X : Tabs) (ops : Array Oper) (ms : List Nat) (ix : Nat → Nat) (N : Nat) (rs : List Rec) (hF : Heap) (nF : Nat) : Bool :=
  cnd (allN N fun j => cnd (Nat.beq (kAt rs j) 2) (allN j fun i => Nat.beq (kAt rs i) 0 || bit ms (ix j) (ix i)) true)
    (cnd (allN N fun a => cnd (Nat.beq (kAt rs a) 1) (allN (a + 1) fun p => ((hAt rs hF p).get (xAt rs nF a)).isNone) true)
      (allN N fun i => match ops[ix i]?, rs[i]? with
        | some o, some r => cnd (isReader o.op) (allN (N + 1) fun p =>
            cnd ((Nat.beq p 0 || Nat.beq (kAt rs (p - 1)) 2) && (allN N fun j => cnd (Nat.beq (kAt rs j) 2) (cnd (bit ms (ix i) (ix j)) (Nat.blt j p) true && cnd (bit ms (ix j) (ix i)) (Nat.ble p j) true) true))
              (match aLocal X ops r.tm (hAt rs hF p) r.nx o with
              | some (v, _, _) => valEq 9 v r.v
              | none => false) true) true
        | _, _ => true)
      false)
    false


theorem can_ofN {P : Program} {X : Tabs} (OK : TabsOk P X) {call : CallF} (hc : ∀ f args h nx v h' nx', call f args h nx = some (v, h', nx') → Ret P f args h nx v h' nx') {ops : Array Oper} {ix pos : Nat → Nat} (PO : PermOk ops ix pos) {os : List Oper} {N : Nat} (hos : os.length = N) (hle : N ≤ ops.size) (hix : ∀ i o, os[i]? = some o → ops[ix i]? = some o) {n : Nat} {tm : Tr Value} {h : Heap} {nx : Nat} {rs : List Rec} {tmF : Tr Value} {hF : Heap} {nF : Nat}
    (e : rgo X call ops os tm h nx = some (rs, tmF, hF, nF)) (hs : stat ops (masks ops.toList []) n = true) (hd : dynN X ops (masks ops.toList []) ix N rs hF nF = true) :
    ∃ C : Can P ops ix n tm tmF N (fun i j => j < N ∧ Needs ops (ix i) (ix j)), C.H 0 = h ∧ C.H N = hF ∧ C.X 0 = nx ∧ C.X N = nF := by
  obtain ⟨s1, hs⟩ := cond_and hs
  obtain ⟨s2, s3⟩ := cond_and hs
  obtain ⟨d1, hd⟩ := cond_and hd
  obtain ⟨d2, d3⟩ := cond_and hd
  obtain ⟨r1, r2, r3, r4, r5, r6, r7⟩ := rgo_ok (P := P) (n := n) (ix := ix) OK hc os 0 (fun i o ho => by rw [Nat.zero_add]; exact hix i o ho) _ _ _ _ _ _ _ e
  rw [hos] at r1 r4 r5 r6
  have gl : ∀ i : Nat, i < N → os[i]? = ops[ix i]? := fun i hi => by
    have ho : os[i]? = some (os[i]'(by omega)) := List.getElem?_eq_getElem (by omega)
    rw [ho, hix i _ ho]
  -- what is known at a number
  have at_ : ∀ i, i < N → ∃ o r tmi, ops[ix i]? = some o ∧ rs[i]? = some r ∧ r.h = hAt rs hF i ∧ r.nx = xAt rs nF i ∧ r.tm = only tmi (looks ops o) .nil ∧ TmI os rs tm i tmi ∧ RecOk P ops n (ix i) o r (hAt rs hF (i + 1)) (xAt rs nF (i + 1)) := by
    intro i hi
    have ho : os[i]? = some (os[i]'(by omega)) := List.getElem?_eq_getElem (by omega)
    obtain ⟨r, tmi, a⟩ := r7 i _ ho
    rw [Nat.zero_add] at a
    exact ⟨_, r, tmi, hix i _ ho, a⟩
  have hk : ∀ {i r}, rs[i]? = some r → kAt rs i = r.k := fun h => by unfold kAt; rw [h]; rfl
  have hv : ∀ {i r}, rs[i]? = some r → vAt rs i = r.v := fun h => by unfold vAt; rw [h]; rfl
  refine ⟨{
    K := kAt rs
    H := hAt rs hF
    X := xAt rs nF
    V := vAt rs
    Tm := fun i => ((rs[i]?).map (·.tm)).getD .nil
    B := fun i => ((rs[i]?).map (·.b)).getD (.map [])
    mono := ?_
    kinds := ?_
    quiet := ?_
    alloc := ?_
    apart := ?_
    loud := ?_
    total := ?_
    first := ?_
    reads := ?_
    once := ?_
    slots := ?_
    final := ?_ }, r2, r4, r3, r5⟩
  · intro i hi
    obtain ⟨o, r, tmi, a1, a2, a3, a4, a5, a6, a7⟩ := at_ i hi
    rw [← a4]; exact a7.1
  · intro i hi
    obtain ⟨o, r, tmi, a1, a2, a3, a4, a5, a6, a7⟩ := at_ i hi
    rw [hk a2]
    rcases a7.2 with h | h | h
    · exact .inl h.1
    · exact .inr (.inl h.1)
    · exact .inr (.inr h.1)
  · intro i hi h0
    obtain ⟨o, r, tmi, a1, a2, a3, a4, a5, a6, a7⟩ := at_ i hi
    rw [hk a2] at h0
    rcases a7.2 with ⟨_, q1, q2, q3⟩ | ⟨q, _⟩ | ⟨q, _⟩
    · refine ⟨fun p ob hp => by rw [q1, a3] at hp; exact hp, fun p hp hat hlo hhi => ?_⟩
      have eT : ((rs[i]?).map (·.tm)).getD .nil = r.tm := by rw [a2]; rfl
      simp only [eT]
      rw [hv a2, ← a4]
      rcases q3 with q3 | q3
      · have := allN_ok d3 i hi
        simp only [a1, a2, q3, cnd_true] at this
        have := allN_ok this p (by omega)
        have g1 : ((Nat.beq p 0 || Nat.beq (kAt rs (p - 1)) 2) && (allN N fun j => cnd (Nat.beq (kAt rs j) 2) (cnd (bit (masks ops.toList []) (ix i) (ix j)) (Nat.blt j p) true && cnd (bit (masks ops.toList []) (ix j) (ix i)) (Nat.ble p j) true) true)) = true := by
          rw [Bool.and_eq_true]
          constructor
          · rcases hat with h | h
            · subst h; rfl
            · have : Nat.beq (kAt rs (p - 1)) 2 = true := by rw [h]; rfl
              rw [this, Bool.or_true]
          · have gen : ∀ (m : Nat) (f : Nat → Bool), (∀ j, j < m → f j = true) → allN m f = true := by
              intro m f
              induction m with
              | zero => intro _; rfl
              | succ m ih =>
                intro hf
                unfold allN
                rw [hf m (by omega), cnd_true]
                exact ih fun j hj => hf j (by omega)
            refine gen _ _ fun j hj => ?_
            cases hb : Nat.beq (kAt rs j) 2 with
            | false => rfl
            | true =>
              have hkj := Nat.eq_of_beq_eq_true hb
              simp only [cnd_true, Bool.and_eq_true]
              constructor
              · cases hbit : bit (masks ops.toList []) (ix i) (ix j) with
                | false => rfl
                | true => have := hlo j hj hkj ⟨hj, hbit⟩; simpa using this
              · cases hbit : bit (masks ops.toList []) (ix j) (ix i) with
                | false => rfl
                | true => have := hhi j hj hkj ⟨hi, hbit⟩; simpa using this
        rw [g1, cnd_true] at this
        split at this
        · rename_i v h' nx' hloc
          obtain ⟨rfl, rfl⟩ := reader_local q3 hloc
          have hve := valEq_eq _ _ _ this
          subst hve
          exact local_op OK a1 hloc
        · cases this
      · exact q3 _
    · omega
    · omega
  · intro i hi h0
    obtain ⟨o, r, tmi, a1, a2, a3, a4, a5, a6, a7⟩ := at_ i hi
    rw [hk a2] at h0
    rcases a7.2 with ⟨q, _⟩ | ⟨_, q1, q2⟩ | ⟨q, _⟩
    · omega
    · have eT : ((rs[i]?).map (·.tm)).getD .nil = r.tm := by rw [a2]; rfl
      have eB : ((rs[i]?).map (·.b)).getD (.map []) = r.b := by rw [a2]; rfl
      simp only [eT, eB]
      rw [hv a2, ← a4]
      refine ⟨fun p ob hp => ?_, q2⟩
      rw [q1, Tr.get_set] at hp
      by_cases ep : p = r.nx
      · rw [if_pos ep] at hp
        cases hp
        exact .inr ⟨ep, rfl⟩
      · rw [if_neg ep, a3] at hp
        exact .inl hp
    · omega
  · intro p a hp ha h1
    have := allN_ok d2 a ha
    rw [h1] at this
    have this : (allN (a + 1) fun p => ((hAt rs hF p).get (xAt rs nF a)).isNone) = true := this
    have := allN_ok this p (by omega)
    cases hg : (hAt rs hF p).get (xAt rs nF a) with
    | none => rfl
    | some x => rw [hg] at this; cases this
  · intro i hi h2
    obtain ⟨o, r, tmi, a1, a2, a3, a4, a5, a6, a7⟩ := at_ i hi
    rw [hk a2] at h2
    rcases a7.2 with ⟨q, _⟩ | ⟨q, _⟩ | ⟨_, q⟩
    · omega
    · omega
    · have eT : ((rs[i]?).map (·.tm)).getD .nil = r.tm := by rw [a2]; rfl
      simp only [eT]
      rw [hv a2, ← a4, ← a3]
      exact q
  · intro i j hij hj h1 h2
    have := allN_ok d1 j hj
    rw [h2] at this
    have := allN_ok (n := j) this i hij
    rw [h1] at this
    exact ⟨by omega, this⟩
  · intro i j hij hj h1 h2
    have := allN_ok d1 j hj
    rw [h2] at this
    have := allN_ok (n := j) this i hij
    rw [h1] at this
    exact ⟨by omega, this⟩
  · intro i hi t u hu
    obtain ⟨o, r, tmi, a1, a2, a3, a4, a5, a6, a7⟩ := at_ i hi
    have eT : ((rs[i]?).map (·.tm)).getD .nil = r.tm := by rw [a2]; rfl
    rw [eT, a5] at hu
    rcases only_get _ _ _ _ hu with ⟨m1, m2⟩ | m1
    · have look : ∀ j, j < N → (ops[ix j]?).bind (·.dst) = some t → j = i ∨ Needs ops (ix i) (ix j) ∨ Needs ops (ix j) (ix i) := by
        intro j hj hdj
        have := allN_ok s3 (ix i) (PO.h2 i (Nat.lt_of_lt_of_le hi hle)).1
        simp only [a1] at this
        rw [List.all_eq_true] at this
        have := allN_ok (this t m1) (ix j) (PO.h2 j (Nat.lt_of_lt_of_le hj hle)).1
        rw [isDst_iff.2 hdj, cnd_true, Bool.or_eq_true, Bool.or_eq_true] at this
        rcases this with h | h | h
        · exact .inl (by have := Nat.eq_of_beq_eq_true h; rw [← (PO.h2 j (Nat.lt_of_lt_of_le hj hle)).2, this, (PO.h2 i (Nat.lt_of_lt_of_le hi hle)).2])
        · exact .inr (.inl h)
        · exact .inr (.inr h)
      rcases a6 t u m2 with ⟨j, j1, j2, j3⟩ | ⟨h1, h2⟩
      · rw [gl j (by omega)] at j2
        refine .inl ⟨j, by omega, j2, j3, ?_⟩
        rcases look j (by omega) j2 with h | h | h
        · omega
        · exact ⟨by omega, h⟩
        · exact absurd h (PO.h3 j i j1 (Nat.lt_of_lt_of_le hi hle))
      · refine .inr ⟨fun j hj hdj => ?_, h2⟩
        rcases look j hj hdj with h | h | h
        · exact .inl h
        · rcases Nat.lt_trichotomy j i with c | c | c
          · exact absurd (by rw [gl j hj]; exact hdj) (h1 j c)
          · exact .inl c
          · exact absurd h (PO.h3 i j c (Nat.lt_of_lt_of_le hj hle))
        · exact .inr ⟨hi, h⟩
    · rw [Tr.get_nil] at m1; cases m1
  · intro i j t hi hj hdi hdj
    have key : ∀ i j, i < ops.size → j < i → (ops[i]?).bind (·.dst) = some t → (ops[j]?).bind (·.dst) = some t → False := by
      intro i j hi hji h1 h2
      have := allN_ok s2 i hi
      have e1 : dstAt ops i = some t := h1
      simp only [e1] at this
      have := (cond_and this).2
      have := allN_ok this j hji
      rw [isDst_iff.2 h2] at this
      cases this
    rcases Nat.lt_trichotomy (ix i) (ix j) with h | h | h
    · exact (key (ix j) (ix i) (PO.h2 j (Nat.lt_of_lt_of_le hj hle)).1 h hdj hdi).elim
    · rw [← (PO.h2 i (Nat.lt_of_lt_of_le hi hle)).2, h, (PO.h2 j (Nat.lt_of_lt_of_le hj hle)).2]
    · exact (key (ix i) (ix j) (PO.h2 i (Nat.lt_of_lt_of_le hi hle)).1 h hdi hdj).elim
  · intro i t hi hdi
    have := allN_ok s2 (ix i) (PO.h2 i (Nat.lt_of_lt_of_le hi hle)).1
    have e1 : dstAt ops (ix i) = some t := hdi
    simp only [e1] at this
    exact blt_lt (cond_and this).1
  · intro t u hu
    rcases r6 t u hu with ⟨j, j1, j2, j3⟩ | ⟨h1, h2⟩
    · rw [gl j j1] at j2; exact .inl ⟨j, j1, j2, j3⟩
    · exact .inr ⟨fun j hj => by have := h1 j hj; rw [gl j hj] at this; exact this, h2⟩

section
variable {P : Program} {ops : Array Oper} {ix : Nat → Nat} {n : Nat} {tm0 tmF : Tr Value} {N : Nat} {A : Nat → Nat → Prop} (C : Can P ops ix n tm0 tmF N A)

/-- THE WHOLE ORDER. -/
theorem Can.allT : ∀ (σ : List Nat) (done : Nat → Prop), LinR N A done σ → (∀ j, j < N → done j → ∀ l, A j l → done l) → ∀ {p : Nat} {ρ0 : Ren} {w0 : World} {ρ : Ren} {fr : Frame} {w : World} (_ : C.Inv done p ρ0 w0 ρ fr.tmps w) {tl : List Nat} {k : List Item} (_ : fr.mode = .run) (_ : fr.todo = .inRegion ops (σ.map ix ++ tl) :: k) (cs : List Frame),
    ∃ p' ρ' tmps' w' done', Steps P (lone fr cs w) (lone { fr with tmps := tmps', todo := .inRegion ops tl :: k } cs w') ∧ C.Inv done' p' ρ0 w0 ρ' tmps' w' ∧ ∀ i, i < N → done' i
  | [], done, L, _, p, ρ0, w0, ρ, fr, w, I, tl, k, hm, ht, cs => ⟨p, ρ, fr.tmps, w, done, by have ht' : fr.todo = .inRegion ops tl :: k := ht; rw [← ht']; exact .refl _ _, I, L⟩
  | i :: rest, done, L, cl, p, ρ0, w0, ρ, fr, w, I, tl, k, hm, ht, cs => by
    obtain ⟨l1, l2, l3, l4⟩ := L
    obtain ⟨p1, ρ1, t1, w1, s1, I1⟩ := C.one I hm ht l1 l2 l3 cl cs
    obtain ⟨p2, ρ2, t2, w2, d2, s2, I2, h2⟩ := Can.allT rest _ l4 (fun j j1 j2 l hl => by
      rcases j2 with j2 | rfl
      · exact .inl (cl j j1 j2 l hl)
      · exact .inl (l3 l hl)) (fr := { fr with tmps := t1, todo := .inRegion ops (rest.map ix ++ tl) :: k }) I1 hm rfl cs
    exact ⟨p2, ρ2, t2, w2, d2, s1.trans s2, I2, h2⟩

/-- A REGION, WHATEVER ITS ORDER. -/
theorem Can.regionT {σ : List Nat} (L : LinR N A (fun _ => False) σ) {ρ : Ren} {fr : Frame} {w : World} {tl : List Nat} {k : List Item} (hm : fr.mode = .run) (ht : fr.todo = .inRegion ops (σ.map ix ++ tl) :: k) (S : SlotsRel ρ tm0 n fr.tmps) (H : HRel ρ (C.H 0) w)
    (F : ∀ o, C.X 0 ≤ o → o < C.X N → ρ o = none) (cs : List Frame) :
    ∃ ρ' tmps' w', Steps P (lone fr cs w) (lone { fr with tmps := tmps', todo := .inRegion ops tl :: k } cs w') ∧ SlotsRel ρ' tmF n tmps' ∧ HRel ρ' (C.H N) w' ∧ Moves ρ (C.H 0) (C.X 0) w ρ' (C.H N) (C.X N) w' := by
  have I0 : C.Inv (fun _ => False) 0 ρ w ρ fr.tmps w := by
    have e : ∀ o ob, C.G (fun _ => False) 0 o ob ↔ (C.H 0).get o = some ob := by
      intro o ob
      constructor
      · rintro (h | ⟨a, _, h, _⟩)
        · exact h
        · exact h.elim
      · exact .inl
    refine ⟨S.1, ?_, ⟨fun o ob h => H.obj o ob ((e _ _).1 h), fun o o' L L' ob ob' h1 h2 => H.inj o o' L L' ob ob' ((e _ _).1 h1) ((e _ _).1 h2)⟩, ?_, (MovesP.refl _ _ _ _ _).less fun o ob h => (e _ _).1 h, Nat.zero_le _, .inl rfl, ?_, ?_⟩
    · intro t u hu
      rcases hu with ⟨j, _, h, _⟩ | ⟨_, h⟩
      · exact h.elim
      · exact S.2 t u h
    · intro i hi _ o o1 o2
      have := C.X_le (i := 0) (j := i) (by omega) (by omega)
      have := C.X_le (i := i + 1) (j := N) (by omega) (by omega)
      exact F o (by omega) (by omega)
    · intro j _ _
      constructor
      · exact fun h => h.elim
      · intro h; omega
    · intro a h; omega
  obtain ⟨p, ρ', tmps', w', done, s1, I, hall⟩ := C.allT σ _ L (fun _ _ h => h.elim) I0 hm ht cs
  have sH : ∀ o ob, (C.H N).get o = some ob → C.G done p o ob := by
    intro o ob ho
    rcases C.span (Nat.le_refl _) (fun i i1 i2 hk => by have := (I.louds i i2 hk).1 (hall i i2); omega) I.pos ho with z | ⟨a, a1, a2, a3, a4, a5, a6⟩
    · exact .inl z
    · exact .inr ⟨a, a1, hall a a1, a4, a2, a5, a6⟩
  refine ⟨ρ', tmps', w', s1, ⟨I.size, ?_⟩, ⟨fun o ob ho => I.hp.obj o ob (sH _ _ ho), fun o o' L L' ob ob' h1 h2 => I.hp.inj o o' L L' ob ob' (sH _ _ h1) (sH _ _ h2)⟩, ?_⟩
  · intro t u hu
    refine I.slot t u ?_
    rcases C.final t u hu with ⟨j, j1, j2, j3⟩ | ⟨h1, h2⟩
    · exact .inl ⟨j, j1, hall j j1, j2, j3⟩
    · exact .inr ⟨fun j j1 _ => h1 j j1, h2⟩
  · have M := I.moves.less sH
    exact ⟨M.os, M.tape, M.output, M.size, fun b hb ho => M.block b hb ho, fun b hb ho => M.owned b hb ho, C.X_le (Nat.zero_le _) (Nat.le_refl _), M.ren⟩

end

/-- behind a place each operation needs all that stand ahead of it. -/
theorem lin_tail {N : Nat} {A : Nat → Nat → Prop} {p : Nat} (hp : ∀ i, p ≤ i → i < N → ∀ j, j < i → A i j) : ∀ (σ : List Nat) (done : Nat → Prop) (q : Nat), p ≤ q → q ≤ N → (∀ i, i < N → (done i ↔ i < q)) → (∀ i, done i → i < N) → LinR N A done σ → σ = List.range' q (N - q)
  | [], done, q, h1, h2, hd, _, L => by
    have : N - q = 0 := by
      rcases Nat.lt_or_ge q N with h | h
      · have := (hd q h).1 (L q h); omega
      · omega
    rw [this]; rfl
  | i :: rest, done, q, h1, h2, hd, hb, L => by
    obtain ⟨l1, l2, l3, l4⟩ := L
    have hiq : q ≤ i := by
      rcases Nat.lt_or_ge i q with h | h
      · exact absurd ((hd i l1).2 h) l2
      · exact h
    have : i = q := by
      rcases Nat.lt_or_ge q i with h | h
      · have := l3 q (hp i (by omega) l1 q h)
        have := (hd q (by omega)).1 this
        omega
      · omega
    subst this
    have ih := lin_tail hp rest (fun x => done x ∨ x = i) (i + 1) (by omega) (by omega) (fun x hx => by rw [hd x hx]; omega) (fun x hx => by rcases hx with hx | rfl; exact hb x hx; exact l1) l4
    rw [ih, show N - i = (N - (i + 1)) + 1 by omega, List.range'_succ]

theorem lin_split {N : Nat} {A : Nat → Nat → Prop} {p : Nat} (hpN : p ≤ N) (hp : ∀ i, p ≤ i → i < N → ∀ j, j < i → A i j) : ∀ (σ : List Nat) (done : Nat → Prop), (∀ i, done i → i < p) → LinR N A done σ → ∃ σ1, σ = σ1 ++ List.range' p (N - p) ∧ LinR p (fun i j => j < p ∧ A i j) done σ1
  | [], done, hd, L => by
    refine ⟨[], ?_, fun i hi => L i (by omega)⟩
    have : N - p = 0 := by
      rcases Nat.lt_or_ge p N with h | h
      · have := hd p (L p h); omega
      · omega
    rw [this]; rfl
  | i :: rest, done, hd, L => by
    by_cases hall : ∀ j, j < p → done j
    · refine ⟨[], ?_, hall⟩
      exact lin_tail hp (i :: rest) done p (Nat.le_refl _) hpN (fun x _ => ⟨hd x, hall x⟩) (fun x hx => by have := hd x hx; omega) L
    · obtain ⟨l1, l2, l3, l4⟩ := L
      have hip : i < p := by
        rcases Nat.lt_or_ge i p with h | h
        · exact h
        · exact absurd (fun j hj => l3 j (hp i h l1 j (by omega))) hall
      obtain ⟨σ1, h1, h2⟩ := lin_split hpN hp rest (fun x => done x ∨ x = i) (fun x hx => by rcases hx with hx | rfl; exact hd x hx; exact hip) l4
      exact ⟨i :: σ1, by rw [h1]; rfl, hip, l2, fun j hj => l3 j hj.2, h2⟩

/-- where the tail of a region begins whose operations need all that stand ahead. -/
def tailB (ops : Array Oper) (ms : List Nat) (p : Nat) : Bool := allN ops.size fun i => cnd (Nat.blt i p) true (allN i fun j => bit ms i j)
def tailF (ops : Array Oper) (ms : List Nat) : Nat → Nat
  | 0 => 0
  | p + 1 => cnd (allN p fun j => bit ms p j) (tailF ops ms p) (p + 1)

/-- a drawn region up to where its tail begins. -/
def drawT (X : Tabs) (call : CallF) (tm : Tr Value) (ops : Array Oper) (h : Heap) (nx : Nat) : Option (Tr Value × Heap × Nat × Nat) :=
  let ms := masks ops.toList []
  let p := tailF ops ms ops.size
  cnd (tailB ops ms p) (cnd (Nat.ble p ops.size) (ob (rgo X call ops (ops.toList.take p) tm h nx) fun z =>
    cnd (dynN X ops ms (fun i => i) p z.1 z.2.2.1 z.2.2.2) (some (z.2.1, z.2.2.1, z.2.2.2, p)) none) none) none

theorem drawT_sim {P : Program} {X : Tabs} (OK : TabsOk P X) (hmix : P.follows .mixedOrders = true) {call : CallF} (hc : CallOk P call) {m : AM} (hm : m.fr.mode = .run) {id : Nat} {ops : Array Oper} {k : List Item} (ht : m.fr.todo = .code (.region id ops true) :: k)
    (hs : stat ops (masks ops.toList []) m.fr.n = true) {tmF : Tr Value} {hF : Heap} {nF p : Nat} (e : drawT X call m.fr.tmps ops m.h m.nx = some (tmF, hF, nF, p)) :
    Sim P m { m with fr := { m.fr with tmps := tmF, todo := .inRegion ops (List.range' p (ops.size - p)) :: k }, h := hF, nx := nF } ∧ m.nx ≤ nF := by
  obtain ⟨b1, e⟩ := cond_some e
  obtain ⟨b2, e⟩ := cond_some e
  replace e := ob_some e
  obtain ⟨⟨rs, tm1, h1, n1⟩, hr, e⟩ := e
  obtain ⟨hd, e⟩ := cond_some e
  cases e
  have hpN := Nat.le_of_ble_eq_true b2
  generalize tailF ops (masks ops.toList []) ops.size = p at *
  have B := stat_backs hs
  have hlen : (ops.toList.take p).length = p := by simp; omega
  obtain ⟨C, c1, c2, c3, c4⟩ := can_ofN OK hc (perm_id B) hlen hpN (fun i o ho => by
    rw [List.getElem?_take] at ho
    split at ho
    · rw [← Array.getElem?_toList]; exact ho
    · cases ho) hr hs hd
  have hp : ∀ i, p ≤ i → i < ops.size → ∀ j, j < i → Needs ops i j := by
    intro i h1 h2 j h3
    have := allN_ok b1 i h2
    have hb : Nat.blt i p = false := by
      cases hb : Nat.blt i p with
      | false => rfl
      | true => have := blt_lt hb; omega
    rw [hb] at this
    exact allN_ok (n := i) this j h3
  refine ⟨?_, ?_⟩
  · intro ρ fr cs base w F CC H Nn
    have hmode : fr.mode = .run := by have := F.mode; rw [hm] at this; exact this
    have hI := F.todo
    rw [ht] at hI
    obtain ⟨y, k', hft, a, bI⟩ := inv1 hI
    have a' : y = .code (.region id ops true) := a
    subst a'
    have h1 := stepR_region_draw (P := P) (b := fr) (a := { tmps := fr.tmps, defers := fr.defers }) (ops := ops) (id := id) (k := k') (cs := cs ++ base) (w := w)
    rw [← run_atR hmode hft] at h1
    have L0 := lin_schedule (P := P) hmix B (w.tape w.drawn (.order fr.fn id))
    obtain ⟨σ1, hσ, L⟩ := lin_split hpN hp _ (fun _ => False) (fun _ h => h.elim) L0
    obtain ⟨ρ', tmps', w', s1, S', H', M⟩ := C.regionT L (fr := fr.atR { tmps := fr.tmps, defers := fr.defers } (.inRegion ops (Region.schedule (P.follows .mixedOrders) ops (w.tape w.drawn (.order fr.fn id))) :: k'))
      (w := { w with drawn := w.drawn + 1 }) (ρ := ρ) (tl := List.range' p (ops.size - p)) (k := k') rfl (by rw [hσ, List.map_id']; rfl) F.tmps (by rw [c1]; exact H.same fun _ => rfl) (by rw [c3, c4]; exact Nn) (cs ++ base)
    rw [c1, c3, c4, c2] at M
    rw [c2] at H'
    have E := M.ext Nn
    refine ⟨ρ', _, cs, w', .trans (.one h1) s1, ?_, CC.mono E, H', ⟨M.os, M.tape, M.output, M.size, M.block, M.owned, M.le, M.ren⟩⟩
    exact ⟨F.fn, S', .cons (show IRel ρ' (.inRegion ops (List.range' p (ops.size - p))) (.inRegion ops (List.range' p (ops.size - p))) from rfl) (bI.mono E), F.defers.mono E, by show MRel ρ' m.fr.mode .run; rw [hm]; rfl, F.kind, F.round.mono E⟩
  · rw [← c3, ← c4]
    exact C.X_le (Nat.zero_le _) (Nat.le_refl _)
end

section
def amkM (mode : FrameMode) (c : AFrame) (cs : List AFrame) (tm : Tr Value) (todo : List Item) (h : Heap) (nx : Nat) : AM :=
  ⟨{ fn := c.fn, n := c.n, tmps := tm, todo := todo, defers := c.defers, mode := mode, kind := c.kind, roundOf := c.roundOf }, cs, h, nx⟩

abbrev LoopF := FrameMode → AFrame → List AFrame → Tr Value → List Item → Heap → Nat → Option AM

def goF (ih : LoopF) (m : AM) : Option AM :=
  match m with
  | ⟨⟨fn, n, tm, todo, defers, mode, kind, ro⟩, cs, h, nx⟩ => ih mode ⟨fn, n, .nil, [], defers, .run, kind, ro⟩ cs tm todo h nx

def slowF (X : Tabs) (ih : LoopF) (m : AM) : Option AM :=
  ob (astep X m) fun m1 => cnd (Nat.ble m.nx m1.nx) (goF ih m1) none

def doneF (X : Tabs) (f : FuncId) (nx : Nat) (m : AM) : Option (Value × Heap × Nat) :=
  ob (aDone X f m) fun v => match m with
    | ⟨_, _, h', nx'⟩ => cnd (Nat.ble nx nx') (some (v, h', nx')) none

def startF (X : Tabs) (ih : LoopF) (f : FuncId) (h : Heap) (nx : Nat) (fr : AFrame) : Option (Value × Heap × Nat) :=
  match fr with
  | ⟨fn, n, tm, todo, defers, mode, kind, ro⟩ => ob (ih mode ⟨fn, n, .nil, [], defers, .run, kind, ro⟩ [] tm todo h nx) (doneF X f nx)

def callF (X : Tabs) (memo : CallF) (ih : LoopF) : CallF := fun f args h nx =>
  match memo f args h nx with
  | some r => some r
  | none => ob (aenter X.F f args .normal) (startF X ih f h nx)

def drawF (X : Tabs) (call : CallF) (ih : LoopF) (c : AFrame) (cs : List AFrame) (tm : Tr Value) (ops : Array Oper) (k : List Item) (h : Heap) (nx : Nat) : Option AM :=
  cnd (stat ops (masks ops.toList []) c.n) (match rgo X call ops ops.toList tm h nx with
    | some (rs, tm', h', nx') => cnd (dyn X ops (masks ops.toList []) rs h' nx') (cnd (Nat.ble nx nx') (ih .run c cs tm' k h' nx') none)
      (ob (drawP X call tm ops h nx) fun y => match y with | (tm2, h2, nx2) => cnd (Nat.ble nx nx2) (ih .run c cs tm2 k h2 nx2) none)
    | none => ob (drawT X call tm ops h nx) fun y => match y with | (tm2, h2, nx2, p) => cnd (Nat.ble nx nx2) (ih .run c cs tm2 (.inRegion ops (List.range' p (ops.size - p)) :: k) h2 nx2) none) none

def codeF (X : Tabs) (call : CallF) (ih : LoopF) (c : AFrame) (cs : List AFrame) (tm : Tr Value) (x : Code) (k : List Item) (h : Heap) (nx : Nat) : Option AM :=
  match x with
  | .skip => ih .run c cs tm k h nx
  | .label _ => ih .run c cs tm k h nx
  | .seq a b => ih .run c cs tm (.code a :: .code b :: k) h nx
  | .cond v a b => ob (aev tm v) fun v => match v with
    | .bool b' => ih .run c cs tm (.code (cnd b' a b) :: k) h nx
    | _ => none
  | .block id a => ih .run c cs tm (.code a :: .inBlock id :: k) h nx
  | .loop a => ih .run c cs tm (.code a :: .inLoop a :: k) h nx
  | .scope a => ih .run c cs tm (.code a :: .inScope a :: k) h nx
  | .exit id => match exitTo id k with
    | some k1 => ih .run c cs tm k1 h nx
    | none => slowF X ih (amkM .run c cs tm (.code (.exit id) :: k) h nx)
  | .region id ops draw => match draw with
    | true => drawF X call ih c cs tm ops k h nx
    | false => match rseq X call ops c.n ops.toList tm h nx with
      | some (tm', h', nx') => ih .run c cs tm' k h' nx'
      | none => slowF X ih (amkM .run c cs tm (.code (.region id ops false) :: k) h nx)
  | x => slowF X ih (amkM .run c cs tm (.code x :: k) h nx)

def stepF (X : Tabs) (memo : CallF) (ih : LoopF) : LoopF := fun mode c cs tm todo h nx =>
  match mode with
  | .run => match todo with
    | .code x :: k => codeF X (callF X memo ih) ih c cs tm x k h nx
    | .inLoop x :: k => ih .run c cs tm (.code x :: .inLoop x :: k) h nx
    | .inBlock _ :: k => ih .run c cs tm k h nx
    | .inScope _ :: k => ih .run c cs tm k h nx
    | todo => slowF X ih (amkM .run c cs tm todo h nx)
  | mode => cnd (isEnd (amkM mode c cs tm todo h nx)) (some (amkM mode c cs tm todo h nx)) (slowF X ih (amkM mode c cs tm todo h nx))

def execF (X : Tabs) (memo : CallF) (n : Nat) : LoopF := Nat.rec (motive := fun _ => LoopF) (fun _ _ _ _ _ _ _ => none) (fun _ ih => stepF X memo ih) n

theorem execF_zero (X : Tabs) (memo : CallF) : execF X memo 0 = fun _ _ _ _ _ _ _ => none := rfl
theorem execF_succ (X : Tabs) (memo : CallF) (n : Nat) : execF X memo (n + 1) = stepF X memo (execF X memo n) := rfl

def runF (X : Tabs) (memo : CallF) (n : Nat) : CallF := fun f args h nx => ob (aenter X.F f args .normal) (startF X (execF X memo n) f h nx)

/-- what a loop must keep. -/
def LoopOk (P : Program) (ih : LoopF) : Prop := ∀ mode c cs tm todo h nx m', ih mode c cs tm todo h nx = some m' → Sim P (amkM mode c cs tm todo h nx) m' ∧ nx ≤ m'.nx

section
variable {P : Program} {X : Tabs} (OK : TabsOk P X) (hmix : P.follows .mixedOrders = true)
include OK

omit OK in
theorem goF_ok {ih : LoopF} (H : LoopOk P ih) {m m' : AM} (e : goF ih m = some m') : Sim P m m' ∧ m.nx ≤ m'.nx := by
  obtain ⟨⟨fn, n, tm, todo, defers, mode, kind, ro⟩, cs, h, nx⟩ := m
  exact H _ _ _ _ _ _ _ _ e

theorem slowF_ok {ih : LoopF} (H : LoopOk P ih) {m m' : AM} (e : slowF X ih m = some m') : Sim P m m' ∧ m.nx ≤ m'.nx := by
  replace e := ob_some e
  obtain ⟨m1, h1, e⟩ := e
  obtain ⟨l1, e⟩ := cond_some e
  have l1 := Nat.le_of_ble_eq_true l1
  obtain ⟨s2, l2⟩ := goF_ok H e
  exact ⟨(astep_sim OK h1).trans s2 l1 l2, Nat.le_trans l1 l2⟩

theorem startF_ok {ih : LoopF} (H : LoopOk P ih) {f : FuncId} {args : List Value} {h : Heap} {nx : Nat} {v : Value} {h' : Heap} {nx' : Nat} (e : ob (aenter X.F f args .normal) (startF X ih f h nx) = some (v, h', nx')) : Ret P f args h nx v h' nx' := by
  replace e := ob_some e
  obtain ⟨fr, h1, e⟩ := e
  have key : ∃ m, Sim P ⟨fr, [], h, nx⟩ m ∧ doneF X f nx m = some (v, h', nx') := by
    obtain ⟨fn, n, tm, todo, defers, mode, kind, ro⟩ := fr
    replace e := ob_some e
    obtain ⟨m, h2, e⟩ := e
    exact ⟨m, (H _ _ _ _ _ _ _ _ h2).1, e⟩
  obtain ⟨m, s, e⟩ := key
  replace e := ob_some e
  obtain ⟨u, h3, e⟩ := e
  obtain ⟨mfr, mcs, mh, mnx⟩ := m
  obtain ⟨_, e⟩ := cond_some e
  cases e
  exact ret_of_sim OK h1 s h3

theorem callF_ok {memo : CallF} (hc : CallOk P memo) {ih : LoopF} (H : LoopOk P ih) : CallOk P (callF X memo ih) := by
  intro f args h nx v h' nx' e
  unfold callF at e
  split at e
  · rename_i r hr
    cases e
    exact hc _ _ _ _ _ _ _ hr
  · exact startF_ok OK H e

include hmix in
theorem codeF_ok {call : CallF} (hc : CallOk P call) {ih : LoopF} (H : LoopOk P ih) {c : AFrame} {cs : List AFrame} {tm : Tr Value} {x : Code} {k : List Item} {h : Heap} {nx : Nat} {m' : AM} (e : codeF X call ih c cs tm x k h nx = some m') :
    Sim P (amkM .run c cs tm (.code x :: k) h nx) m' ∧ nx ≤ m'.nx := by
  have next : ∀ {tm1 : Tr Value} {k1 : List Item} {h1 : Heap} {nx1 : Nat}, Sim P (amkM .run c cs tm (.code x :: k) h nx) (amkM .run c cs tm1 k1 h1 nx1) → nx ≤ nx1 → ih .run c cs tm1 k1 h1 nx1 = some m' → Sim P (amkM .run c cs tm (.code x :: k) h nx) m' ∧ nx ≤ m'.nx := by
    intro tm1 k1 h1 nx1 s l e1
    obtain ⟨s2, l2⟩ := H _ _ _ _ _ _ _ _ e1
    exact ⟨s.trans s2 l l2, Nat.le_trans l l2⟩
  unfold codeF at e
  split at e
  · exact next (sim_skip (m := amkM .run c cs tm _ h nx) rfl rfl) (Nat.le_refl _) e
  · exact next (sim_label (m := amkM .run c cs tm _ h nx) rfl rfl) (Nat.le_refl _) e
  · exact next (sim_seq (m := amkM .run c cs tm _ h nx) rfl rfl) (Nat.le_refl _) e
  · replace e := ob_some e
    obtain ⟨v, hv, e⟩ := e
    split at e
    · exact next (sim_cond (m := amkM .run c cs tm _ h nx) rfl rfl hv) (Nat.le_refl _) e
    · cases e
  · exact next (sim_block (m := amkM .run c cs tm _ h nx) rfl rfl) (Nat.le_refl _) e
  · exact next (sim_loop (m := amkM .run c cs tm _ h nx) rfl rfl) (Nat.le_refl _) e
  · exact next (sim_scope (m := amkM .run c cs tm _ h nx) rfl rfl) (Nat.le_refl _) e
  · split at e
    · rename_i k1 hx
      exact next (sim_exit (m := amkM .run c cs tm _ h nx) rfl rfl hx) (Nat.le_refl _) e
    · exact slowF_ok OK H e
  · split at e
    · rename_i id ops _
      unfold drawF at e
      cases hs : stat ops (masks ops.toList []) c.n with
      | false => simp [hs] at e
      | true =>
        simp only [hs, cnd_true] at e
        cases hr : rgo X call ops ops.toList tm h nx with
        | none =>
          rw [hr] at e
          replace e := ob_some e
          obtain ⟨⟨tm2, h2, nx2, p⟩, hp, e⟩ := e
          obtain ⟨l1, e⟩ := cond_some e
          obtain ⟨s, l⟩ := drawT_sim OK hmix hc (m := amkM .run c cs tm (.code (.region id ops true) :: k) h nx) rfl rfl hs hp
          exact next s l e
        | some z =>
        obtain ⟨rs, tm', h', nx'⟩ := z
        rw [hr] at e
        simp only at e
        cases hd : dyn X ops (masks ops.toList []) rs h' nx' with
        | true =>
          simp only [hd, cnd_true] at e
          obtain ⟨l1, e⟩ := cond_some e
          have hd' : aDraw X call (amkM .run c cs tm (.code (.region id ops true) :: k) h nx) ops k = some (amkM .run c cs tm' k h' nx') := by
            unfold aDraw
            show cnd (stat ops (masks ops.toList []) c.n) (ob (rgo X call ops ops.toList tm h nx) _) none = _
            rw [hs, hr]
            show cnd (dyn X ops (masks ops.toList []) rs h' nx') _ none = _
            rw [hd]
            rfl
          obtain ⟨s, l⟩ := draw_sim OK hmix hc (m := amkM .run c cs tm (.code (.region id ops true) :: k) h nx) rfl rfl hd'
          exact next s l e
        | false =>
          simp only [hd, cnd_false] at e
          replace e := ob_some e
          obtain ⟨⟨tm2, h2, nx2⟩, hp, e⟩ := e
          obtain ⟨l1, e⟩ := cond_some e
          replace hp := ob_some hp
          obtain ⟨os, ho, hp⟩ := hp
          obtain ⟨hpb, hp⟩ := cond_some hp
          replace hp := ob_some hp
          obtain ⟨⟨rs2, tm3, h3, nx3⟩, hr2, hp⟩ := hp
          obtain ⟨hd2, hp⟩ := cond_some hp
          cases hp
          obtain ⟨p1, p2⟩ := permB_ok hpb
          obtain ⟨o1, o2⟩ := osOf_ok _ _ ho
          obtain ⟨s, l⟩ := draw_simP OK hmix hc (m := amkM .run c cs tm (.code (.region id ops true) :: k) h nx) rfl rfl p2 (o1.trans p1) o2 hr2 hs hd2
          exact next s l e
    · rename_i id ops _
      split at e
      · rename_i tm' h' nx' hr
        obtain ⟨s, l⟩ := seq_sim (P := P) (c := c) (cs := cs) (id := id) (k := k) OK hc hr
        exact next s l e
      · exact slowF_ok OK H e
  · exact slowF_ok OK H e

include hmix in
theorem stepF_ok {memo : CallF} (hc : CallOk P memo) {ih : LoopF} (H : LoopOk P ih) : LoopOk P (stepF X memo ih) := by
  intro mode c cs tm todo h nx m' e
  have next : ∀ {tm1 : Tr Value} {k1 : List Item} {h1 : Heap} {nx1 : Nat}, Sim P (amkM .run c cs tm todo h nx) (amkM .run c cs tm1 k1 h1 nx1) → nx ≤ nx1 → ih .run c cs tm1 k1 h1 nx1 = some m' → Sim P (amkM .run c cs tm todo h nx) m' ∧ nx ≤ m'.nx := by
    intro tm1 k1 h1 nx1 s l e1
    obtain ⟨s2, l2⟩ := H _ _ _ _ _ _ _ _ e1
    exact ⟨s.trans s2 l l2, Nat.le_trans l l2⟩
  unfold stepF at e
  split at e
  · split at e
    · exact codeF_ok OK hmix (callF_ok OK hc H) H e
    · exact next (sim_inLoop (m := amkM .run c cs tm _ h nx) rfl rfl) (Nat.le_refl _) e
    · exact next (sim_inBlock (m := amkM .run c cs tm _ h nx) rfl rfl) (Nat.le_refl _) e
    · exact next (sim_inScope (m := amkM .run c cs tm _ h nx) rfl rfl) (Nat.le_refl _) e
    · exact slowF_ok OK H e
  · cases hE : isEnd (amkM mode c cs tm todo h nx) with
    | true =>
      simp only [hE, cnd_true] at e
      obtain rfl := Option.some.inj e
      exact ⟨.refl _ _, Nat.le_refl _⟩
    | false =>
      simp only [hE, cnd_false] at e
      exact slowF_ok OK H e

include hmix in
theorem execF_ok {memo : CallF} (hc : CallOk P memo) : ∀ n, LoopOk P (execF X memo n)
  | 0 => fun _ _ _ _ _ _ _ _ e => by rw [execF_zero] at e; cases e
  | n + 1 => by rw [execF_succ]; exact stepF_ok OK hmix hc (execF_ok hc n)

include hmix in
theorem runF_ret {memo : CallF} (hc : CallOk P memo) {n : Nat} {f : FuncId} {args : List Value} {h : Heap} {nx : Nat} {v : Value} {h' : Heap} {nx' : Nat} (e : runF X memo n f args h nx = some (v, h', nx')) : Ret P f args h nx v h' nx' :=
  startF_ok OK (execF_ok OK hmix hc n) e
end
end

section
/-- OTHER OBJECTS BESIDE IT. -/
theorem Ret.beside {P : Program} {f : FuncId} {args : List Value} {h h' g g' : Heap} {nx nx' : Nat} {v : Value} (R : Ret P f args h nx v h' nx') (s : ∀ o ob, h.get o = some ob → g.get o = some ob)
    (s' : ∀ o ob, g'.get o = some ob → h'.get o = some ob ∨ (g.get o = some ob ∧ h.get o = none)) : Ret P f args g nx v g' nx' := by
  intro ρ args' cs w A H N
  obtain ⟨ρ', fr, w', fn, v', a1, a2, a3, a4, a5, a6, a7, a8, a9⟩ := R ρ args' cs w A (H.sub s) N
  obtain ⟨f1, f2⟩ := frame_rule (G := fun o ob => g.get o = some ob) ⟨H.obj, H.inj⟩ s a8 a9 N
  have g1 := f1.less s'
  have g2 := f2.less s'
  exact ⟨ρ', fr, w', fn, v', a1, a2, a3, a4, a5, a6, a7, ⟨g1.obj, g1.inj⟩, ⟨g2.os, g2.tape, g2.output, g2.size, g2.block, g2.owned, a9.le, g2.ren⟩⟩

def shL (f : Value → Option Value) : List Value → Option (List Value)
  | [] => some []
  | v :: vs => ob (f v) fun u => ob (shL f vs) fun us => some (u :: us)

/-- other numbers for the objects of a value. -/
def shV : Nat → (Nat → Option Nat) → Value → Option Value
  | 0, _, _ => none
  | n + 1, σ, v => match v with
    | .bool b => some (.bool b)
    | .int k x => some (.int k x)
    | .string s => some (.string s)
    | .pointer none => some (.pointer none)
    | .pointer (some ⟨o, f, none⟩) => ob (σ o) fun o' => some (.pointer (some ⟨o', f, none⟩))
    | .slice none 0 0 => some (.slice none 0 0)
    | .slice (some ⟨o, f, none⟩) x y => cnd (Nat.beq y openCap) (some (.slice (some ⟨o, f, none⟩) x y)) (ob (σ o) fun o' => some (.slice (some ⟨o', f, none⟩) x y))
    | .map none => some (.map none)
    | .map (some o) => ob (σ o) fun o' => some (.map (some o'))
    | .func (.func f) xs ys => ob (shL (shV n σ) xs.toList) fun us => ob (shL (shV n σ) ys.toList) fun vs => some (.func (.func f) ⟨us⟩ ⟨vs⟩)
    | .nilFunc => some .nilFunc
    | .nilIface => some .nilIface
    | .iface t x => ob (shV n σ x) fun u => some (.iface t u)
    | .agg xs => ob (shL (shV n σ) xs.toList) fun us => some (.agg ⟨us⟩)
    | .tuple xs => ob (shL (shV n σ) xs.toList) fun us => some (.tuple ⟨us⟩)
    | _ => none

section
variable {ρ ρ2 : Ren} {σ : Nat → Option Nat} (H : ∀ o o' L, σ o = some o' → ρ o = some L → ρ2 o' = some L)
include H

omit H in
theorem shL_rel {f : Value → Option Value} (hf : ∀ v u w, f v = some u → VRel ρ v w → VRel ρ2 u w) : ∀ (vs us ws : List Value), shL f vs = some us → VRels ρ vs ws → VRels ρ2 us ws
  | [], us, ws, e, r => by cases e; cases r; exact .nil
  | v :: vs, us, ws, e, r => by
    replace e := ob_some e; obtain ⟨u, h1, e⟩ := e
    replace e := ob_some e; obtain ⟨us', h2, e⟩ := e
    cases e
    cases r with
    | cons a b => exact .cons (hf _ _ _ h1 a) (shL_rel hf vs us' _ h2 b)

theorem shV_rel : ∀ (n : Nat) (v u w : Value), shV n σ v = some u → VRel ρ v w → VRel ρ2 u w
  | 0, _, _, _, e, _ => by cases e
  | n + 1, v, u, w, e, r => by
    have ih := shV_rel n
    have il := shL_rel (f := shV n σ) ih
    unfold shV at e
    split at e
    · cases e; cases r; exact .bool _
    · cases e; cases r; exact .int _ _
    · cases e; cases r; exact .str _
    · cases e; cases r; exact .ptr0
    · replace e := ob_some e; obtain ⟨o', h1, e⟩ := e
      cases e
      cases r with
      | ptr h => exact .ptr (H _ _ _ h1 h)
    · cases e; cases r; exact .sl0
    · rename_i o f x y
      cases hb : Nat.beq y openCap with
      | true =>
        rw [hb] at e
        have hy := Nat.eq_of_beq_eq_true hb
        cases e
        cases r with
        | slE h hc hn => omega
        | slO h hE hc hn => omega
        | slL => exact .slL
      | false =>
        rw [hb] at e
        replace e := ob_some e; obtain ⟨o', h1, e⟩ := e
        cases e
        cases r with
        | slE h hc hn => exact .slE (H _ _ _ h1 h) hc hn
        | slO h hE hc hn => exact .slO (H _ _ _ h1 h) hE hc hn
        | slL => simp at hb
    · cases e; cases r; exact .map0
    · replace e := ob_some e; obtain ⟨o', h1, e⟩ := e
      cases e
      cases r with
      | map h => exact .map (H _ _ _ h1 h)
    · replace e := ob_some e; obtain ⟨us, h1, e⟩ := e
      replace e := ob_some e; obtain ⟨vs, h2, e⟩ := e
      cases e
      cases r with
      | func hf a b =>
        have hf' : _ = _ := hf
        subst hf'
        exact .func rfl (il _ _ _ h1 a) (il _ _ _ h2 b)
    · cases e; cases r; exact .nilFunc
    · cases e; cases r; exact .nilIface
    · replace e := ob_some e; obtain ⟨u', h1, e⟩ := e
      cases e
      cases r with
      | iface a => exact .iface (ih _ _ _ h1 a)
    · replace e := ob_some e; obtain ⟨us, h1, e⟩ := e
      cases e
      cases r with
      | agg a => exact .agg (il _ _ _ h1 a)
    · replace e := ob_some e; obtain ⟨us, h1, e⟩ := e
      cases e
      cases r with
      | tuple a => exact .tuple (il _ _ _ h1 a)
    · cases e
end

def shE (σ : Nat → Option Nat) : List (Value × Value) → Option (List (Value × Value))
  | [] => some []
  | (k, v) :: es => ob (shV 9 σ k) fun k' => ob (shV 9 σ v) fun v' => ob (shE σ es) fun es' => some ((k', v') :: es')

/-- other numbers for what an object holds. -/
def shO (σ : Nat → Option Nat) : AObj → Option AObj
  | .cells c t opn => ob (shL (shV 9 σ) c) fun c' => some (.cells c' t opn)
  | .map es => ob (shE σ es) fun es' => some (.map es')
  | _ => none

section
variable {ρ ρ2 : Ren} {σ : Nat → Option Nat} (H : ∀ o o' L, σ o = some o' → ρ o = some L → ρ2 o' = some L)
include H

theorem shE_rel : ∀ (es es' : List (Value × Value)) (ws : List MapEntry), shE σ es = some es' → ERels ρ es ws → ERels ρ2 es' ws
  | [], es', ws, e, r => by cases e; cases r; exact .nil
  | (k, v) :: es, es', ws, e, r => by
    replace e := ob_some e; obtain ⟨k', h1, e⟩ := e
    replace e := ob_some e; obtain ⟨v', h2, e⟩ := e
    replace e := ob_some e; obtain ⟨es2, h3, e⟩ := e
    cases e
    cases r with
    | cons a b t => exact .cons (shV_rel H _ _ _ _ h1 a) (shV_rel H _ _ _ _ h2 b) (shE_rel es es2 _ h3 t)

theorem shO_rel {w : World} {L : Loc} {x y : AObj} (e : shO σ x = some y) (r : ORel ρ w L x) : ORel ρ2 w L y := by
  cases x with
  | cells c t opn =>
    replace e := ob_some e; obtain ⟨c', h1, e⟩ := e
    cases e
    obtain ⟨cs, fz, a1, a2, a3⟩ := r
    refine ⟨cs, fz, a1, a2, ?_⟩
    have hl : ∀ (vs us : List Value), shL (shV 9 σ) vs = some us → vs.length = us.length ∧ ∀ (i : Nat) (u : Value), us[i]? = some u → ∃ v, vs[i]? = some v ∧ shV 9 σ v = some u := by
      intro vs
      induction vs with
      | nil => intro us e; cases e; exact ⟨rfl, fun i u h => by simp at h⟩
      | cons v vs ih =>
        intro us e
        replace e := ob_some e; obtain ⟨u, h1, e⟩ := e
        replace e := ob_some e; obtain ⟨us', h2, e⟩ := e
        cases e
        obtain ⟨l1, l2⟩ := ih us' h2
        refine ⟨by simp [l1], fun i x hx => ?_⟩
        cases i with
        | zero => simp at hx; subst hx; exact ⟨v, by simp, h1⟩
        | succ i => simpa using l2 i x (by simpa using hx)
    obtain ⟨l1, l2⟩ := hl _ _ h1
    obtain ⟨b1, b2, b3, b4⟩ := a3
    refine ⟨b1, by rw [← l1]; exact b2, by rw [← l1]; exact b3, fun i u hu => ?_⟩
    obtain ⟨v, c1, c2⟩ := l2 i u hu
    obtain ⟨v', d1, d2⟩ := b4 i v c1
    exact ⟨v', d1, shV_rel H _ _ _ _ c2 d2⟩
  | map es =>
    replace e := ob_some e; obtain ⟨es', h1, e⟩ := e
    cases e
    obtain ⟨x, y, a1, a2⟩ := r
    exact ⟨x, y, a1, shE_rel H _ _ _ h1 a2⟩
  | loop l => cases e
  | deferred d => cases e
end

/-- numbers below a bound stay. -/
def lowσ (nx : Nat) (o : Nat) : Option Nat := cnd (Nat.blt o nx) (some o) none
/-- numbers from a bound on are moved. -/
def upσ (nx n2 : Nat) (o : Nat) : Option Nat := cnd (Nat.blt o nx) (some o) (some (o - nx + n2))

def heapOf : List (Nat × AObj) → Heap
  | [] => .nil
  | (o, x) :: l => (heapOf l).set o x

theorem heapOf_mem : ∀ (l : List (Nat × AObj)) (o : Nat) (x : AObj), (heapOf l).get o = some x → (o, x) ∈ l
  | [], o, x, h => by rw [heapOf, Tr.get_nil] at h; cases h
  | (p, y) :: l, o, x, h => by
    rw [heapOf, Tr.get_set] at h
    by_cases e : o = p
    · rw [if_pos e] at h; cases h; simp [e]
    · rw [if_neg e] at h; exact List.mem_cons_of_mem _ (heapOf_mem l o x h)

def shH (nx n2 : Nat) : List (Nat × AObj) → Option (List (Nat × AObj))
  | [] => some []
  | (o, x) :: l => ob (upσ nx n2 o) fun o' => ob (shO (upσ nx n2) x) fun x' => ob (shH nx n2 l) fun l' => some ((o', x') :: l')

theorem shH_get {nx n2 : Nat} : ∀ (l l' : List (Nat × AObj)), shH nx n2 l = some l' → ∀ (o' : Nat) (x' : AObj), (heapOf l').get o' = some x' → ∃ o x, upσ nx n2 o = some o' ∧ (heapOf l).get o = some x ∧ shO (upσ nx n2) x = some x'
  | [], l', e, o', x', h => by cases e; rw [heapOf, Tr.get_nil] at h; cases h
  | (p, y) :: l, l', e, o', x', h => by
    replace e := ob_some e; obtain ⟨p', h1, e⟩ := e
    replace e := ob_some e; obtain ⟨y', h2, e⟩ := e
    replace e := ob_some e; obtain ⟨l2, h3, e⟩ := e
    cases e
    rw [heapOf, Tr.get_set] at h
    by_cases e : o' = p'
    · rw [if_pos e] at h
      cases h
      refine ⟨p, y, by rw [e]; exact h1, ?_, h2⟩
      rw [heapOf, Tr.get_set, if_pos rfl]
    · rw [if_neg e] at h
      obtain ⟨o, x, a1, a2, a3⟩ := shH_get l l2 h3 o' x' h
      refine ⟨o, x, a1, ?_, a3⟩
      rw [heapOf, Tr.get_set, if_neg]
      · exact a2
      · intro ho
        subst ho
        rw [h1] at a1
        cases a1
        exact e rfl

/-- OTHER NUMBERS FOR THE NEW OBJECTS. -/
theorem Ret.shift {P : Program} {f : FuncId} {args : List Value} {h h' h2 : Heap} {nx nx' n2 : Nat} {v v2 : Value} (R : Ret P f args h nx v h' nx') (hle : nx ≤ nx')
    (ha : shL (shV 9 (lowσ nx)) args = some args) (hh : ∀ o x, h.get o = some x → o < nx ∧ shO (lowσ nx) x = some x)
    (hv : shV 9 (upσ nx n2) v = some v2) (h2' : ∀ o' x', h2.get o' = some x' → ∃ o x, upσ nx n2 o = some o' ∧ h'.get o = some x ∧ shO (upσ nx n2) x = some x') :
    Ret P f args h n2 v2 h2 (n2 + (nx' - nx)) := by
  intro ρ args' cs w A Hh N
  let ρ1 : Ren := fun o => if o < nx then ρ o else none
  have low : ∀ o o' L, lowσ nx o = some o' → ρ o = some L → ρ1 o' = some L := by
    intro o o' L h1 h2
    unfold lowσ at h1
    cases hb : Nat.blt o nx with
    | false => simp [hb] at h1
    | true =>
      simp only [hb, cnd_true, Option.some.injEq] at h1
      subst h1
      show (if o < nx then ρ o else none) = some L
      rw [if_pos (blt_lt hb)]
      exact h2
  have A1 : VRels ρ1 args args'.toList := shL_rel (shV_rel low 9) _ _ _ ha A
  have H1 : HRel ρ1 h w := by
    refine ⟨fun o x ho => ?_, fun o o' L L' x x' ho ho' r r' hb => ?_⟩
    · obtain ⟨L, l1, l2⟩ := Hh.obj o x ho
      obtain ⟨k1, k2⟩ := hh o x ho
      refine ⟨L, ?_, shO_rel low k2 l2⟩
      show (if o < nx then ρ o else none) = some L
      rw [if_pos k1]; exact l1
    · have e1 : ρ o = some L := by
        have : (if o < nx then ρ o else none) = some L := r
        rw [if_pos (hh o x ho).1] at this; exact this
      have e2 : ρ o' = some L' := by
        have : (if o' < nx then ρ o' else none) = some L' := r'
        rw [if_pos (hh o' x' ho').1] at this; exact this
      exact Hh.inj o o' L L' x x' ho ho' e1 e2 hb
  obtain ⟨ρ', fr, w', fn, v', a1, a2, a3, a4, a5, a6, a7, a8, M⟩ := R ρ1 args' cs w A1 H1 (fun o o1 o2 => if_neg (by omega))
  let ρ2 : Ren := fun o => if n2 ≤ o ∧ o < n2 + (nx' - nx) then ρ' (o - n2 + nx) else ρ o
  have up : ∀ o o' L, upσ nx n2 o = some o' → ρ' o = some L → ρ2 o' = some L := by
    intro o o' L h1 h3
    unfold upσ at h1
    cases hb : Nat.blt o nx with
    | true =>
      simp only [hb, cnd_true, Option.some.injEq] at h1
      subst h1
      have hlt := blt_lt hb
      rw [M.ren o (.inl hlt)] at h3
      have h3 : (if o < nx then ρ o else none) = some L := h3
      rw [if_pos hlt] at h3
      show (if n2 ≤ o ∧ o < n2 + (nx' - nx) then ρ' (o - n2 + nx) else ρ o) = some L
      by_cases c : n2 ≤ o ∧ o < n2 + (nx' - nx)
      · rw [N o c.1 c.2] at h3; cases h3
      · rw [if_neg c]; exact h3
    | false =>
      simp only [hb, cnd_false, Option.some.injEq] at h1
      subst h1
      have hge : nx ≤ o := by
        rcases Nat.lt_or_ge o nx with x | x
        · have : Nat.blt o nx = true := Nat.ble_eq_true_of_le x
          rw [this] at hb; cases hb
        · exact x
      have hlt : o < nx' := by
        rcases Nat.lt_or_ge o nx' with x | x
        · exact x
        · rw [M.ren o (.inr x)] at h3
          have h3 : (if o < nx then ρ o else none) = some L := h3
          rw [if_neg (by omega)] at h3; cases h3
      show (if n2 ≤ o - nx + n2 ∧ o - nx + n2 < n2 + (nx' - nx) then ρ' (o - nx + n2 - n2 + nx) else ρ (o - nx + n2)) = some L
      rw [if_pos ⟨by omega, by omega⟩]
      have : o - nx + n2 - n2 + nx = o := by omega
      rw [this]; exact h3
  have obj2 : ∀ o' x', h2.get o' = some x' → ∃ o x L, h'.get o = some x ∧ ρ' o = some L ∧ ρ2 o' = some L ∧ ORel ρ2 w' L x' ∧ upσ nx n2 o = some o' := by
    intro o' x' ho'
    obtain ⟨o, x, b1, b2, b3⟩ := h2' o' x' ho'
    obtain ⟨L, l1, l2⟩ := a8.obj o x b2
    exact ⟨o, x, L, b2, l1, up _ _ _ b1 l1, shO_rel up b3 l2, b1⟩
  refine ⟨ρ2, fr, w', fn, v', a1, a2, a3, a4, a5, a6, shV_rel up _ _ _ _ hv a7, ⟨?_, ?_⟩, ⟨M.os, M.tape, M.output, M.size, ?_, ?_, by omega, ?_⟩⟩
  · intro o' x' ho'
    obtain ⟨o, x, L, b1, b2, b3, b4, _⟩ := obj2 o' x' ho'
    exact ⟨L, b3, b4⟩
  · intro o' p' L L' x' y' ho' hp' r r' hb
    obtain ⟨o, x, L1, b1, b2, b3, _, b5⟩ := obj2 o' x' ho'
    obtain ⟨p, y, L2, c1, c2, c3, _, c5⟩ := obj2 p' y' hp'
    rw [b3] at r; cases r
    rw [c3] at r'; cases r'
    have := a8.inj o p _ _ x y b1 c1 b2 c2 hb
    subst this
    rw [b5] at c5; cases c5; rfl
  · intro b hb ho
    refine M.block b hb fun ⟨o, x, L, b1, b2, b3⟩ => ho ⟨o, x, L, b1, ?_, b3⟩
    have : (if o < nx then ρ o else none) = some L := b2
    rw [if_pos (hh o x b1).1] at this; exact this
  · intro b hb ⟨o', x', L, b1, b2, b3⟩
    obtain ⟨o, x, L1, c1, c2, c3, _, _⟩ := obj2 o' x' b1
    rw [c3] at b2; cases b2
    obtain ⟨p, y, L2, d1, d2, d3⟩ := M.owned b hb ⟨o, x, L, c1, c2, b3⟩
    refine ⟨p, y, L2, d1, ?_, d3⟩
    have : (if p < nx then ρ p else none) = some L2 := d2
    rw [if_pos (hh p y d1).1] at this; exact this
  · intro o ho
    show (if n2 ≤ o ∧ o < n2 + (nx' - nx) then ρ' (o - n2 + nx) else ρ o) = ρ o
    rw [if_neg (by omega)]
end

section
structure Memo where
  f : FuncId
  args : List Value
  ins : List (Nat × AObj)
  nx : Nat
  v : Value
  chg : List (Nat × AObj)
  nx' : Nat

def entEq : List (Value × Value) → List (Value × Value) → Bool
  | [], [] => true
  | (a, b) :: l, (c, d) :: r => cnd (valEq 9 a c) (cnd (valEq 9 b d) (entEq l r) false) false
  | _, _ => false

theorem cnd_true' {a b : Bool} (h : cnd a b false = true) : a = true ∧ b = true := cond_and h

theorem entEq_eq : ∀ l r, entEq l r = true → l = r
  | [], [], _ => rfl
  | (a, b) :: l, (c, d) :: r, h => by
    obtain ⟨h1, h⟩ := cnd_true' h
    obtain ⟨h2, h⟩ := cnd_true' h
    rw [valEq_eq _ _ _ h1, valEq_eq _ _ _ h2, entEq_eq l r h]
  | [], _ :: _, h => by cases h
  | _ :: _, [], h => by cases h

/-- are two objects one and the same? -/
def objEq (x y : AObj) : Bool :=
  match x, y with
  | .cells c t o, .cells d u p => cnd (Nat.beq t u) (cnd (cnd o p (!p)) (listEq (valEq 9) c d) false) false
  | .map l, .map r => entEq l r
  | _, _ => false

theorem objEq_eq {x y : AObj} (h : objEq x y = true) : x = y := by
  unfold objEq at h
  split at h
  · rename_i c t o d u p
    obtain ⟨h1, h⟩ := cnd_true' h
    obtain ⟨h2, h⟩ := cnd_true' h
    have e1 : t = u := Nat.eq_of_beq_eq_true h1
    have e2 : o = p := by cases o <;> cases p <;> first | rfl | cases h2
    rw [e1, e2, listEq_eq (valEq_eq 9) _ _ h]
  · rw [entEq_eq _ _ h]
  · cases h

def insOk (g : Heap) : List (Nat × AObj) → Bool
  | [] => true
  | (o, x) :: l => match g.get o with
    | some y => cnd (objEq y x) (insOk g l) false
    | none => false

theorem insOk_get {g : Heap} : ∀ (l : List (Nat × AObj)), insOk g l = true → ∀ o x, (o, x) ∈ l → g.get o = some x
  | [], _, o, x, h => by cases h
  | (p, y) :: l, e, o, x, h => by
    unfold insOk at e
    cases hg : g.get p with
    | none => rw [hg] at e; cases e
    | some z =>
      rw [hg] at e
      obtain ⟨h1, e2⟩ := cnd_true' e
      have hxy := objEq_eq h1
      rcases List.mem_cons.1 h with hh | hh
      · cases hh; rw [hg, hxy]
      · exact insOk_get l e2 o x hh

def lowArgs (nx : Nat) (args : List Value) : Bool := match shL (shV 9 (lowσ nx)) args with
  | some u => listEq (valEq 9) u args
  | none => false

def lowIns (nx : Nat) : List (Nat × AObj) → Bool
  | [] => true
  | (o, x) :: l => cnd (Nat.blt o nx) (match shO (lowσ nx) x with
    | some y => cnd (objEq y x) (lowIns nx l) false
    | none => false) false

theorem lowIns_ok {nx : Nat} : ∀ (l : List (Nat × AObj)), lowIns nx l = true → ∀ o x, (o, x) ∈ l → o < nx ∧ shO (lowσ nx) x = some x
  | [], _, o, x, h => by cases h
  | (p, y) :: l, e, o, x, h => by
    obtain ⟨h1, e⟩ := cnd_true' e
    cases hs : shO (lowσ nx) y with
    | none => rw [hs] at e; cases e
    | some z =>
      rw [hs] at e
      obtain ⟨h2, e2⟩ := cnd_true' e
      have hxy := objEq_eq h2
      rcases List.mem_cons.1 h with hh | hh
      · cases hh; exact ⟨blt_lt h1, by rw [hs, hxy]⟩
      · exact lowIns_ok l e2 o x hh

/-- a summary that holds. -/
structure Memo.Ok (P : Program) (m : Memo) : Prop where
  ret : Ret P m.f m.args (heapOf m.ins) m.nx m.v (heapOf (m.chg ++ m.ins)) m.nx'
  le : m.nx ≤ m.nx'
  args : lowArgs m.nx m.args = true
  ins : lowIns m.nx m.ins = true

theorem shL_mono {f f' : Value → Option Value} (h : ∀ v u, f v = some u → f' v = some u) : ∀ (vs us : List Value), shL f vs = some us → shL f' vs = some us
  | [], us, e => by cases e; rfl
  | v :: vs, us, e => by
    replace e := ob_some e; obtain ⟨u, h1, e⟩ := e
    replace e := ob_some e; obtain ⟨us', h2, e⟩ := e
    cases e
    show ob (f' v) _ = _
    rw [h _ _ h1]
    show ob (shL f' vs) _ = _
    rw [shL_mono h vs us' h2]
    rfl

theorem shV_mono {σ σ' : Nat → Option Nat} (H : ∀ o o', σ o = some o' → σ' o = some o') : ∀ (n : Nat) (v u : Value), shV n σ v = some u → shV n σ' v = some u
  | 0, _, _, e => by cases e
  | n + 1, v, u, e => by
    have ih := shV_mono H n
    have il := shL_mono ih
    unfold shV at e ⊢
    split at e
    · exact e
    · exact e
    · exact e
    · exact e
    · replace e := ob_some e; obtain ⟨o', h1, e⟩ := e
      show ob _ _ = _
      rw [H _ _ h1]; exact e
    · exact e
    · rename_i o f x y
      show cnd (Nat.beq y openCap) _ _ = _
      cases hb : Nat.beq y openCap with
      | true => rw [hb] at e; exact e
      | false =>
        rw [hb] at e
        replace e := ob_some e; obtain ⟨o', h1, e⟩ := e
        show ob _ _ = _
        rw [H _ _ h1]; exact e
    · exact e
    · replace e := ob_some e; obtain ⟨o', h1, e⟩ := e
      show ob _ _ = _
      rw [H _ _ h1]; exact e
    · replace e := ob_some e; obtain ⟨us, h1, e⟩ := e
      replace e := ob_some e; obtain ⟨vs, h2, e⟩ := e
      show ob _ _ = _
      rw [il _ _ h1]
      show ob _ _ = _
      rw [il _ _ h2]
      exact e
    · exact e
    · exact e
    · replace e := ob_some e; obtain ⟨u', h1, e⟩ := e
      show ob _ _ = _
      rw [ih _ _ h1]; exact e
    · replace e := ob_some e; obtain ⟨us, h1, e⟩ := e
      show ob _ _ = _
      rw [il _ _ h1]; exact e
    · replace e := ob_some e; obtain ⟨us, h1, e⟩ := e
      show ob _ _ = _
      rw [il _ _ h1]; exact e
    · cases e

theorem shE_mono {σ σ' : Nat → Option Nat} (H : ∀ o o', σ o = some o' → σ' o = some o') : ∀ es es', shE σ es = some es' → shE σ' es = some es'
  | [], es', e => by cases e; rfl
  | (k, v) :: es, es', e => by
    replace e := ob_some e; obtain ⟨k', h1, e⟩ := e
    replace e := ob_some e; obtain ⟨v', h2, e⟩ := e
    replace e := ob_some e; obtain ⟨es2, h3, e⟩ := e
    cases e
    show ob _ _ = _
    rw [shV_mono H _ _ _ h1]
    show ob _ _ = _
    rw [shV_mono H _ _ _ h2]
    show ob _ _ = _
    rw [shE_mono H es es2 h3]
    rfl

theorem shO_mono {σ σ' : Nat → Option Nat} (H : ∀ o o', σ o = some o' → σ' o = some o') {x y : AObj} (e : shO σ x = some y) : shO σ' x = some y := by
  cases x with
  | cells c t opn =>
    replace e := ob_some e; obtain ⟨c', h1, e⟩ := e
    show ob _ _ = _
    rw [shL_mono (shV_mono H 9) _ _ h1]; exact e
  | map es =>
    replace e := ob_some e; obtain ⟨es', h1, e⟩ := e
    show ob _ _ = _
    rw [shE_mono H _ _ h1]; exact e
  | loop l => cases e
  | deferred d => cases e

def setAll : List (Nat × AObj) → Heap → Heap
  | [], g => g
  | (o, x) :: l, g => (setAll l g).set o x

theorem setAll_get : ∀ (l : List (Nat × AObj)) (g : Heap) (o : Nat) (x : AObj), (setAll l g).get o = some x → (∀ i, (heapOf (l ++ i)).get o = some x) ∨ (g.get o = some x ∧ ∀ y, (o, y) ∉ l)
  | [], g, o, x, h => .inr ⟨h, fun y => by simp⟩
  | (p, y) :: l, g, o, x, h => by
    rw [setAll, Tr.get_set] at h
    by_cases e : o = p
    · rw [if_pos e] at h
      cases h
      left; intro i
      show (heapOf ((p, y) :: (l ++ i))).get o = some y
      rw [heapOf, Tr.get_set, if_pos e]
    · rw [if_neg e] at h
      rcases setAll_get l g o x h with h1 | ⟨h1, h2⟩
      · left; intro i
        show (heapOf ((p, y) :: (l ++ i))).get o = some x
        rw [heapOf, Tr.get_set, if_neg e]
        exact h1 i
      · right
        refine ⟨h1, fun z hz => ?_⟩
        rcases List.mem_cons.1 hz with hh | hh
        · cases hh; exact e rfl
        · exact h2 z hh

theorem heapOf_append {o : Nat} : ∀ (l i : List (Nat × AObj)), (∀ y, (o, y) ∉ l) → (heapOf (l ++ i)).get o = (heapOf i).get o
  | [], i, _ => rfl
  | (p, y) :: l, i, h => by
    show (heapOf ((p, y) :: (l ++ i))).get o = _
    rw [heapOf, Tr.get_set, if_neg (fun e => h y (by simp [e]))]
    exact heapOf_append l i fun z hz => h z (List.mem_cons_of_mem _ hz)

theorem heapOf_append_l {o : Nat} {x : AObj} : ∀ (l i : List (Nat × AObj)), (heapOf l).get o = some x → (heapOf (l ++ i)).get o = some x
  | [], i, h => by rw [heapOf, Tr.get_nil] at h; cases h
  | (p, y) :: l, i, h => by
    show (heapOf ((p, y) :: (l ++ i))).get o = _
    rw [heapOf, Tr.get_set] at h ⊢
    by_cases e : o = p
    · rw [if_pos e] at h ⊢; exact h
    · rw [if_neg e] at h ⊢; exact heapOf_append_l l i h

theorem heapOf_some {o : Nat} : ∀ (l : List (Nat × AObj)), (∃ y, (o, y) ∈ l) → ∃ x, (heapOf l).get o = some x
  | [], ⟨y, h⟩ => by cases h
  | (p, z) :: l, ⟨y, h⟩ => by
    rw [heapOf, Tr.get_set]
    by_cases e : o = p
    · rw [if_pos e]; exact ⟨z, rfl⟩
    · rw [if_neg e]
      rcases List.mem_cons.1 h with hh | hh
      · cases hh; exact absurd rfl e
      · exact heapOf_some l ⟨y, hh⟩

theorem shH_keys {nx n2 : Nat} : ∀ (l l' : List (Nat × AObj)), shH nx n2 l = some l' → ∀ o y, (o, y) ∈ l → ∀ o', upσ nx n2 o = some o' → ∃ y', (o', y') ∈ l'
  | [], l', e, o, y, h, _, _ => by cases h
  | (p, z) :: l, l', e, o, y, h, o', ho => by
    replace e := ob_some e; obtain ⟨p', h1, e⟩ := e
    replace e := ob_some e; obtain ⟨y', h2, e⟩ := e
    replace e := ob_some e; obtain ⟨l2, h3, e⟩ := e
    cases e
    rcases List.mem_cons.1 h with hh | hh
    · cases hh
      rw [h1] at ho; cases ho
      exact ⟨y', by simp⟩
    · obtain ⟨y2, hy⟩ := shH_keys l l2 h3 o y hh o' ho
      exact ⟨y2, List.mem_cons_of_mem _ hy⟩

/-- a summary used. -/
def Memo.use (m : Memo) (args : List Value) (g : Heap) (n2 : Nat) : Option (Value × Heap × Nat) :=
  cnd (listEq (valEq 9) args m.args) (cnd (insOk g m.ins) (ob (shV 9 (upσ m.nx n2) m.v) fun v2 => ob (shH m.nx n2 m.chg) fun chg2 => some (v2, setAll chg2 g, n2 + (m.nx' - m.nx))) none) none

theorem Memo.use_ok {P : Program} {m : Memo} (O : m.Ok P) {args : List Value} {g : Heap} {n2 : Nat} {v : Value} {h' : Heap} {nx' : Nat} (e : m.use args g n2 = some (v, h', nx')) : Ret P m.f args g n2 v h' nx' := by
  obtain ⟨e1, e⟩ := cond_some e
  obtain ⟨e2, e⟩ := cond_some e
  replace e := ob_some e; obtain ⟨v2, h1, e⟩ := e
  replace e := ob_some e; obtain ⟨chg2, h2, e⟩ := e
  cases e
  have := listEq_eq (valEq_eq 9) _ _ e1
  subst this
  have hi := insOk_get _ e2
  have hl := lowIns_ok _ O.ins
  have ha : shL (shV 9 (lowσ m.nx)) m.args = some m.args := by
    have := O.args
    unfold lowArgs at this
    split at this
    · rename_i u hu
      rw [listEq_eq (valEq_eq 9) _ _ this] at hu
      exact hu
    · cases this
  have lu : ∀ o o', lowσ m.nx o = some o' → upσ m.nx n2 o = some o' := by
    intro o o' h
    unfold lowσ at h
    unfold upσ
    cases hb : Nat.blt o m.nx with
    | true => rw [hb] at h; exact h
    | false => rw [hb] at h; cases h
  have S := O.ret.shift (n2 := n2) (h2 := heapOf (chg2 ++ m.ins)) O.le ha (fun o x hx => hl o x (heapOf_mem _ _ _ hx)) h1 (by
    intro o' x' hx
    by_cases hk : ∃ y, (o', y) ∈ chg2
    · obtain ⟨z, hz⟩ := heapOf_some _ hk
      have := heapOf_append_l chg2 m.ins hz
      rw [hx] at this
      cases this
      obtain ⟨o, x, a1, a2, a3⟩ := shH_get _ _ h2 _ _ hz
      exact ⟨o, x, a1, heapOf_append_l _ _ a2, a3⟩
    · have hk' : ∀ y, (o', y) ∉ chg2 := fun y hy => hk ⟨y, hy⟩
      rw [heapOf_append _ _ hk'] at hx
      obtain ⟨l1, l2⟩ := hl o' x' (heapOf_mem _ _ _ hx)
      have hu : upσ m.nx n2 o' = some o' := lu o' o' (by
        unfold lowσ
        have : Nat.blt o' m.nx = true := Nat.ble_eq_true_of_le l1
        rw [this]
        rfl)
      refine ⟨o', x', hu, ?_, shO_mono lu l2⟩
      rw [heapOf_append]
      · exact hx
      · intro y hy
        obtain ⟨y', hy'⟩ := shH_keys _ _ h2 _ _ hy _ hu
        exact hk' y' hy')
  refine S.beside (fun o ob ho => hi o ob (heapOf_mem _ _ _ ho)) ?_
  intro o ob ho
  rcases setAll_get chg2 g o ob ho with h3 | ⟨h3, h4⟩
  · exact .inl (h3 _)
  · cases hx : (heapOf m.ins).get o with
    | none => exact .inr ⟨h3, rfl⟩
    | some x =>
      have := hi o x (heapOf_mem _ _ _ hx)
      rw [h3] at this
      cases this
      left
      rw [heapOf_append _ _ h4]
      exact hx

def tryAll (args : List Value) (g : Heap) (n2 : Nat) : List Memo → Option (Value × Heap × Nat)
  | [] => none
  | m :: l => match m.use args g n2 with
    | some r => some r
    | none => tryAll args g n2 l

abbrev MemoT := Tr (List Memo)

def memoOf (t : MemoT) : CallF := fun f args g n2 => match t.get f with
  | some l => tryAll args g n2 l
  | none => none

def MemoT.Ok (P : Program) (t : MemoT) : Prop := ∀ f l, t.get f = some l → ∀ m ∈ l, m.f = f ∧ m.Ok P

theorem memoOf_ok {P : Program} {t : MemoT} (O : MemoT.Ok P t) : CallOk P (memoOf t) := by
  intro f args g n2 v h' nx' e
  unfold memoOf at e
  cases ht : t.get f with
  | none => rw [ht] at e; cases e
  | some l =>
    rw [ht] at e
    replace e : tryAll args g n2 l = some (v, h', nx') := e
    have hl := O f l ht
    clear ht
    induction l with
    | nil => cases e
    | cons m l ih =>
      unfold tryAll at e
      cases hu : m.use args g n2 with
      | some r =>
        rw [hu] at e
        cases e
        obtain ⟨e1, e2⟩ := hl m (by simp)
        have := Memo.use_ok e2 hu
        rw [e1] at this
        exact this
      | none =>
        rw [hu] at e
        exact ih e (fun m' hm' => hl m' (List.mem_cons_of_mem _ hm'))

def MemoT.add (t : MemoT) (m : Memo) : MemoT := Tr.set t m.f (m :: (match Tr.get t m.f with | some l => l | none => []))

theorem MemoT.nil_ok {P : Program} : MemoT.Ok P .nil := fun f l h => by rw [Tr.get_nil] at h; cases h

theorem MemoT.add_ok {P : Program} {t : MemoT} (O : MemoT.Ok P t) {m : Memo} (h : m.Ok P) : MemoT.Ok P (t.add m) := by
  intro f l hl m' hm'
  unfold MemoT.add at hl
  rw [Tr.get_set] at hl
  by_cases e : f = m.f
  · rw [if_pos e] at hl
    cases hl
    rcases List.mem_cons.1 hm' with rfl | hm'
    · exact ⟨e.symm, h⟩
    · cases ht : Tr.get t m.f with
      | none => rw [ht] at hm'; cases hm'
      | some l2 =>
        rw [ht] at hm'
        rw [e]
        exact O _ _ ht m' hm'
  · rw [if_neg e] at hl
    exact O f l hl m' hm'

/-- the heap that a run leaves holds what the summary says. -/
def heldIn (g : Heap) : List (Nat × AObj) → Bool := insOk g

/-- ONE SUMMARY, by one run. -/
def memoRun (X : Tabs) (t : MemoT) (n : Nat) (m : Memo) : Bool :=
  cnd (lowArgs m.nx m.args) (cnd (lowIns m.nx m.ins) (match runF X (memoOf t) n m.f m.args (heapOf m.ins) m.nx with
    | some (v, h, nx) => cnd (valEq 9 v m.v) (cnd (Nat.beq nx m.nx') (cnd (Nat.ble m.nx nx) (insOk h (m.chg ++ m.ins.filter fun p => !(m.chg.any fun q => Nat.beq q.1 p.1))) false) false) false
    | none => false) false) false

theorem memoRun_ok {P : Program} {X : Tabs} (OK : TabsOk P X) (hmix : P.follows .mixedOrders = true) {t : MemoT} (O : MemoT.Ok P t) {n : Nat} {m : Memo} (e : memoRun X t n m = true) : m.Ok P := by
  obtain ⟨e1, e⟩ := cnd_true' e
  obtain ⟨e2, e⟩ := cnd_true' e
  split at e
  · rename_i v h nx hr
    obtain ⟨e3, ea⟩ := cnd_true' e
    obtain ⟨e4, eb⟩ := cnd_true' ea
    obtain ⟨e5, ec⟩ := cnd_true' eb
    clear e ea eb
    have R := runF_ret OK hmix (memoOf_ok O) hr
    have := valEq_eq _ _ _ e3
    subst this
    have := Nat.eq_of_beq_eq_true e4
    subst this
    refine ⟨?_, Nat.le_of_ble_eq_true e5, e1, e2⟩
    have hi := insOk_get _ ec
    have sub : ∀ o x, (heapOf (m.chg ++ m.ins)).get o = some x → h.get o = some x := by
      intro o x hx
      by_cases hk : ∃ y, (o, y) ∈ m.chg
      · obtain ⟨z, hz⟩ := heapOf_some _ hk
        have := heapOf_append_l m.chg m.ins hz
        rw [hx] at this
        cases this
        exact hi o x (List.mem_append_left _ (heapOf_mem _ _ _ hz))
      · have hk' : ∀ y, (o, y) ∉ m.chg := fun y hy => hk ⟨y, hy⟩
        rw [heapOf_append _ _ hk'] at hx
        refine hi o x (List.mem_append_right _ (List.mem_filter.2 ⟨heapOf_mem _ _ _ hx, ?_⟩))
        simp only [Bool.not_eq_true', List.any_eq_false]
        intro q hq hb
        have := Nat.eq_of_beq_eq_true hb
        obtain ⟨q1, q2⟩ := q
        simp only at this
        subst this
        exact hk' q2 hq
    intro ρ args' cs w A H N
    obtain ⟨ρ', fr, w', fn, v', a1, a2, a3, a4, a5, a6, a7, a8, M⟩ := R ρ args' cs w A H N
    exact ⟨ρ', fr, w', fn, v', a1, a2, a3, a4, a5, a6, a7, a8.sub sub, ⟨M.os, M.tape, M.output, M.size, M.block, fun b hb ⟨o, x, L, p1, p2, p3⟩ => M.owned b hb ⟨o, x, L, sub _ _ p1, p2, p3⟩, M.le, M.ren⟩⟩
  · cases e
end

section
/-- a trie's entries. -/
def Tr.toL {α : Type} : Tr α → (Nat → Nat) → List (Nat × α)
  | .nil, _ => []
  | .node v l r, k => (match v with | some x => [(k 0, x)] | none => []) ++ (Tr.toL l (fun n => k (2 * n + 1)) ++ Tr.toL r (fun n => k (2 * n + 2)))

theorem walk_mem {α : Type} : ∀ (p : Pth) (t : Tr α) (k : Nat → Nat) (x : α), walk p t = some x → (k p.num, x) ∈ t.toL k
  | p, .nil, k, x, h => by rw [walk_nil] at h; cases h
  | .z, .node v l r, k, x, h => by
    have h : v = some x := h
    subst h
    exact List.mem_append_left _ (List.mem_singleton.2 rfl)
  | .l p, .node v l r, k, x, h => by
    have h : walk p l = some x := h
    exact List.mem_append_right _ (List.mem_append_left _ (walk_mem p l (fun n => k (2 * n + 1)) x h))
  | .r p, .node v l r, k, x, h => by
    have h : walk p r = some x := h
    exact List.mem_append_right _ (List.mem_append_right _ (walk_mem p r (fun n => k (2 * n + 2)) x h))

theorem get_mem {α : Type} {t : Tr α} {n : Nat} {x : α} (h : t.get n = some x) : (n, x) ∈ t.toL id := by
  have := walk_mem (pth n) t id x h
  unfold pth at this
  rw [pthF_num _ _ (Nat.lt_succ_self _)] at this
  exact this

/-- one type's entry. -/
structure TyOk (P : Program) (t : Nat) (i : TyI) : Prop where
  under : P.underlying t = some i.desc
  info : ∃ inf, P.info? t = some inf ∧ inf.size = i.size ∧ inf.bytes = i.bytes ∧ (∀ z, i.zero = some z → inf.zero = some z ∧ closedV z = true)
  flat : i.flat = true → (P.eqGuardType P.depth t = false ∧ P.stoodInHeld t = false) ∧ FlatOk P i.size i.desc
  direct : ∀ n f, i.direct.lookup n = some f → ∃ inf m, P.info? t = some inf ∧ inf.methods.find? (·.name == n) = some m ∧ m.path = #[] ∧
    ((m.func = some (f, false) ∧ ¬ (∃ e, i.desc = .pointer e)) ∨ (m.func = some (f, true) ∧ ∃ e, i.desc = .pointer e))

theorem info_of {P : Program} {t : Nat} {inf : TypeInfo} (h : P.types[t]? = some inf) : P.info? t = some inf := by
  have : t < P.types.size := by
    rcases Nat.lt_or_ge t P.types.size with x | x
    · exact x
    · rw [Array.getElem?_eq_none x] at h; cases h
  unfold Tables.info?
  rw [if_pos this]
  exact h

def zeroB (i : TyI) : Bool := match i.zero with
  | some z => closedV z
  | none => true

theorem TyOk.info' {P : Program} {t : Nat} {i : TyI} {inf : TypeInfo} (h : P.types[t]? = some inf) (h1 : inf.size = i.size) (h2 : inf.bytes = i.bytes) (h3 : i.zero = none ∨ inf.zero = i.zero) (h4 : zeroB i = true) :
    ∃ inf, P.info? t = some inf ∧ inf.size = i.size ∧ inf.bytes = i.bytes ∧ (∀ z, i.zero = some z → inf.zero = some z ∧ closedV z = true) := by
  refine ⟨inf, info_of h, h1, h2, fun z hz => ?_⟩
  unfold zeroB at h4
  rw [hz] at h4 h3
  rcases h3 with h3 | h3
  · cases h3
  · exact ⟨h3, h4⟩

theorem TyOk.plain {P : Program} {t : Nat} {i : TyI} {inf : TypeInfo} (h : P.types[t]? = some inf) (hu : P.underlying t = some i.desc) (h1 : inf.size = i.size) (h2 : inf.bytes = i.bytes) (h3 : i.zero = none ∨ inf.zero = i.zero) (h4 : zeroB i = true)
    (hf : i.flat = false) (hd : i.direct = []) : TyOk P t i :=
  ⟨hu, TyOk.info' h h1 h2 h3 h4, fun e => (by rw [hf] at e; cases e), fun n f e => (by rw [hd] at e; cases e)⟩

/-- a struct of numbers, or a row of them. -/
theorem TyOk.flats {P : Program} {t : Nat} {i : TyI} {inf : TypeInfo} (h : P.types[t]? = some inf) (hu : P.underlying t = some i.desc) (h1 : inf.size = i.size) (h2 : inf.bytes = i.bytes) (h3 : i.zero = none ∨ inf.zero = i.zero) (h4 : zeroB i = true)
    (hf : P.eqGuardType P.depth t = false) (hs : P.stoodInHeld t = false) (hF : FlatOk P i.size i.desc) (hd : i.direct = []) : TyOk P t i :=
  ⟨hu, TyOk.info' h h1 h2 h3 h4, fun _ => ⟨⟨hf, hs⟩, hF⟩, fun n f e => (by rw [hd] at e; cases e)⟩

/-- the type's own numbers: what a flat one's parts are. -/
def IntTy (P : Program) (t : Nat) : Prop := (∃ k, P.underlying t = some (.int k)) ∧ ∃ inf, P.info? t = some inf ∧ inf.size = 1

def flatFields : List Field → Nat → (Nat → Bool) → Bool
  | [], _, _ => true
  | f :: fs, n, ints => cnd (f.name == "_") false (cnd (Nat.beq f.offset n) (cnd (ints f.type) (flatFields fs (n + 1) ints) false) false)

theorem flatFields_ok {P : Program} {ints : Nat → Bool} (hi : ∀ t, ints t = true → IntTy P t) : ∀ (fs : List Field) (n : Nat), flatFields fs n ints = true → ∀ (i : Nat) (f : Field), fs[i]? = some f → f.name ≠ "_" ∧ f.offset = n + i ∧ IntTy P f.type
  | [], n, _, i, f, h => by simp at h
  | g :: fs, n, e, i, f, h => by
    unfold flatFields at e
    cases hn : (g.name == "_") with
    | true => simp [hn] at e
    | false =>
      simp only [hn, cnd_false] at e
      obtain ⟨e1, e2⟩ := cnd_true' e
      obtain ⟨e3, e4⟩ := cnd_true' e2
      cases i with
      | zero =>
        simp at h
        subst h
        exact ⟨by simpa using hn, Nat.eq_of_beq_eq_true e1, hi _ e3⟩
      | succ i =>
        obtain ⟨a, b, c⟩ := flatFields_ok hi fs (n + 1) e4 i f (by simpa using h)
        exact ⟨a, by omega, c⟩

def flatD (ints : Nat → Bool) (n : Nat) : TypeDesc → Bool
  | .struct fs => cnd (Nat.beq fs.toList.length n) (flatFields fs.toList 0 ints) false
  | .array len e => cnd (Nat.beq len n) (ints e) false
  | _ => false

theorem flatD_ok {P : Program} {ints : Nat → Bool} (hi : ∀ t, ints t = true → IntTy P t) {n : Nat} {d : TypeDesc} (h : flatD ints n d = true) : FlatOk P n d := by
  unfold flatD at h
  split at h
  · rename_i fs
    obtain ⟨h1, h2⟩ := cnd_true' h
    have := Nat.eq_of_beq_eq_true h1
    refine ⟨by simpa using this, fun i f hf => ?_⟩
    obtain ⟨a, b, c⟩ := flatFields_ok hi _ _ h2 i f (by simpa using hf)
    exact ⟨a, by omega, c⟩
  · rename_i len e
    obtain ⟨h1, h2⟩ := cnd_true' h
    exact ⟨Nat.eq_of_beq_eq_true h1, hi _ h2⟩
  · cases h

/-- THE TABLES HOLD. -/
theorem tabs_of {P : Program} {X : Tabs} (hT : ∀ p ∈ X.T.toL id, TyOk P p.1 p.2) (hF : ∀ p ∈ X.F.toL id, P.funcs[p.1]? = some p.2 ∧ (p.2.name == "runtime.NumGoroutine") = false ∧ p.2.body.isSome = true) : TabsOk P X where
  T := {
    under := fun _ _ h => (hT _ (get_mem h)).under
    info := fun _ _ h => (hT _ (get_mem h)).info
    flat := fun _ _ h hf => ((hT _ (get_mem h)).flat hf).1
    direct := fun _ _ h => (hT _ (get_mem h)).direct }
  flat := fun _ _ h hf => ((hT _ (get_mem h)).flat hf).2
  F := fun _ _ h => hF _ (get_mem h)

/-- a trie out of its entries. -/
def ofL {α : Type} : List (Nat × α) → Tr α
  | [] => .nil
  | (n, x) :: l => (ofL l).set n x

theorem ofL_mem {α : Type} : ∀ {l : List (Nat × α)} {n : Nat} {x : α}, (ofL l).get n = some x → (n, x) ∈ l
  | [], n, x, h => by rw [ofL, Tr.get_nil] at h; cases h
  | (m, y) :: l, n, x, h => by
    rw [ofL, Tr.get_set] at h
    by_cases e : n = m
    · rw [if_pos e] at h; cases h; simp [e]
    · rw [if_neg e] at h; exact List.mem_cons_of_mem _ (ofL_mem h)

theorem tabs_of2 {P : Program} {X : Tabs} (hT : ∀ t i, X.T.get t = some i → TyOk P t i) (hF : ∀ f fn, X.F.get f = some fn → P.funcs[f]? = some fn ∧ (fn.name == "runtime.NumGoroutine") = false ∧ fn.body.isSome = true) : TabsOk P X where
  T := {
    under := fun t i h => (hT t i h).under
    info := fun t i h => (hT t i h).info
    flat := fun t i h hf => ((hT t i h).flat hf).1
    direct := fun t i h => (hT t i h).direct }
  flat := fun t i h hf => ((hT t i h).flat hf).2
  F := fun f fn h => hF f fn h

theorem tabs_of3 {P : Program} {T : TT} {F : FT} {lT : List (Nat × TyI)} {lF : List (Nat × Func)} (eT : T = ofL lT) (eF : F = ofL lF) (hT : ∀ p ∈ lT, TyOk P p.1 p.2) (hF : ∀ p ∈ lF, P.funcs[p.1]? = some p.2 ∧ (p.2.name == "runtime.NumGoroutine") = false ∧ p.2.body.isSome = true) : TabsOk P ⟨T, F⟩ := by
  subst eT eF
  exact tabs_of2 (fun t i h => hT _ (ofL_mem h)) (fun f fn h => hF _ (ofL_mem h))

def isPtr : TypeDesc → Bool
  | .pointer _ => true
  | _ => false

theorem not_ptr {d : TypeDesc} (h : isPtr d = false) : ¬ ∃ e, d = .pointer e := by
  rintro ⟨e, rfl⟩
  cases h

theorem lookup_one {nm n : String} {f g : FuncId} (h : [(nm, f)].lookup n = some g) : n = nm ∧ g = f := by
  simp only [List.lookup] at h
  split at h
  · rename_i hb
    exact ⟨by simpa using hb, (Option.some.inj h).symm⟩
  · cases h

/-- a type with one method that is called at its values. -/
theorem TyOk.one2 {P : Program} {t : Nat} {i : TyI} {inf : TypeInfo} (h : P.types[t]? = some inf) (hu : P.underlying t = some i.desc) (h1 : inf.size = i.size) (h2 : inf.bytes = i.bytes) (h3 : i.zero = none ∨ inf.zero = i.zero) (h4 : zeroB i = true)
    (hf : P.eqGuardType P.depth t = false) (hs : P.stoodInHeld t = false) (hF : FlatOk P i.size i.desc) {nm : String} {f : FuncId} (hd : i.direct = [(nm, f)]) {m : Go.Method} (m1 : inf.methods.find? (·.name == nm) = some m) (m2 : m.path = #[]) (m3 : m.func = some (f, false)) (m4 : isPtr i.desc = false) : TyOk P t i :=
  ⟨hu, TyOk.info' h h1 h2 h3 h4, fun _ => ⟨⟨hf, hs⟩, hF⟩, fun n g e => by
    rw [hd] at e
    obtain ⟨rfl, rfl⟩ := lookup_one e
    exact ⟨inf, m, info_of h, m1, m2, .inl ⟨m3, not_ptr m4⟩⟩⟩

theorem TyOk.one {P : Program} {t : Nat} {i : TyI} {inf : TypeInfo} (h : P.types[t]? = some inf) (hu : P.underlying t = some i.desc) (h1 : inf.size = i.size) (h2 : inf.bytes = i.bytes) (h3 : i.zero = none ∨ inf.zero = i.zero) (h4 : zeroB i = true)
    (hf : i.flat = false) {nm : String} {f : FuncId} (hd : i.direct = [(nm, f)]) {m : Go.Method} (m1 : inf.methods.find? (·.name == nm) = some m) (m2 : m.path = #[]) (m3 : m.func = some (f, false)) (m4 : isPtr i.desc = false) : TyOk P t i :=
  ⟨hu, TyOk.info' h h1 h2 h3 h4, fun e => (by rw [hf] at e; cases e), fun n g e => by
    rw [hd] at e
    obtain ⟨rfl, rfl⟩ := lookup_one e
    exact ⟨inf, m, info_of h, m1, m2, .inl ⟨m3, not_ptr m4⟩⟩⟩
end

section
/-- what a call that needs nothing leaves alone. -/
structure Leaves (w w' : World) : Prop where
  os : w'.os = w.os
  tape : w'.tape = w.tape
  output : w'.output = w.output
  size : w.heap.size ≤ w'.heap.size
  heap : ∀ b, b < w.heap.size → w'.heap[b]? = w.heap[b]?

theorem calls_of_ret {P : Program} {f : FuncId} {h' : Heap} {nx nx' : Nat} {b : Bool} (R : Ret P f [] .nil nx (.bool b) h' nx') (w : World) :
    Calls P f #[] w (fun e w' => e = .returned (.bool b) ∧ Leaves w w') := by
  intro cs
  obtain ⟨ρ', fr, w', fn, v', s, a1, a2, a3, a4, a5, a6, a7, M⟩ := R (fun _ => none) #[] cs w .nil ⟨fun o ob ho => (by rw [Tr.get_nil] at ho; cases ho), fun o o' L L' ob ob' h1 => (by rw [Tr.get_nil] at h1; cases h1)⟩ (fun _ _ _ => rfl)
  cases a6
  refine ⟨.returned (.bool b), w', fr, ⟨rfl, M.os, M.tape, M.output, M.size, fun b hb => M.block b hb fun ⟨o, ob, L, h1, _, _⟩ => (by rw [Tr.get_nil] at h1; cases h1)⟩, s, a4.1, a1, a2, a3, fn, a4.2, a5⟩
end

section
theorem closed1_eq {ρ : Ren} {v v' : Value} (h : closed1 v = true) (r : VRel ρ v v') : v' = v := by
  unfold closed1 at h
  split at h
  · cases r; rfl
  · cases r; rfl
  · cases r; rfl
  · cases r; rfl
  · cases r; rfl
  · cases r; rfl
  · cases r; rfl
  · cases r; rfl
  · cases h

theorem closedL_eq {ρ : Ren} : ∀ {l l' : List Value}, l.all closed1 = true → VRels ρ l l' → l' = l
  | [], _, _, r => by cases r; rfl
  | x :: xs, _, h, r => by
    simp only [List.all_cons, Bool.and_eq_true] at h
    cases r with
    | cons a b => rw [closed1_eq h.1 a, closedL_eq h.2 b]

theorem closedV_eq {ρ : Ren} {v v' : Value} (h : closedV v = true) (r : VRel ρ v v') : v' = v := by
  unfold closedV at h
  split at h
  · rename_i cs
    cases r with
    | agg a => rw [← Array.toList_inj.1 (closedL_eq h a)]
  · rename_i cs
    cases r with
    | tuple a => rw [← Array.toList_inj.1 (closedL_eq h a)]
  · exact closed1_eq h r

theorem closedL_rel {ρ : Ren} : ∀ {l : List Value}, l.all closed1 = true → VRels ρ l l
  | [], _ => .nil
  | x :: xs, h => by
    simp only [List.all_cons, Bool.and_eq_true] at h
    exact .cons (closed1_rel h.1) (closedL_rel h.2)

def callIs (X : Tabs) (n : Nat) (f : FuncId) (args : List Value) (v : Value) : Bool :=
  cnd (args.all closed1) (cnd (closedV v) (match runF X (fun _ _ _ _ => none) n f args .nil 0 with
    | some (u, _, _) => valEq 9 u v
    | none => false) false) false

/-- A CALL OF PLAIN VALUES, BY ONE RUN. -/
theorem closed_call {P : Program} {X : Tabs} (OK : TabsOk P X) (hmix : P.follows .mixedOrders = true) {n : Nat} {f : FuncId} {args : List Value} {v : Value} (h : callIs X n f args v = true) (w : World) :
    Calls P f ⟨args⟩ w (fun e w' => e = .returned v ∧ Leaves w w') := by
  obtain ⟨ha, h⟩ := cond_and h
  obtain ⟨hv, h⟩ := cond_and h
  split at h
  · rename_i u h' nx' hr
    have hu := valEq_eq _ _ _ h
    subst hu
    have R := runF_ret OK hmix (memo := fun _ _ _ _ => none) (fun f args h nx v h' nx' e => by cases e) hr
    intro cs
    obtain ⟨ρ', fr, w', fn, v', s, a1, a2, a3, a4, a5, a6, a7, M⟩ := R (fun _ => none) ⟨args⟩ cs w (closedL_rel ha) ⟨fun o ob ho => (by rw [Tr.get_nil] at ho; cases ho), fun o o' L L' ob ob' h1 => (by rw [Tr.get_nil] at h1; cases h1)⟩ (fun _ _ _ => rfl)
    have e := closedV_eq hv a6
    subst e
    refine ⟨.returned v', w', fr, ⟨rfl, M.os, M.tape, M.output, M.size, fun b hb => M.block b hb fun ⟨o, ob, L, h1, _, _⟩ => (by rw [Tr.get_nil] at h1; cases h1)⟩, s, a4.1, a1, a2, a3, fn, a4.2, a5⟩
  · cases h
end

end
end Eng
end Go.Proofs.YtnicdlmcbkkkfaaGreatDoor

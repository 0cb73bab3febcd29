/-
  A drawn region walked by phases: what is quiet is run as early as it may be, between the loud operations; what may come later than a loud one is run again behind it.
-/
import Derived.StillTactics
namespace Go.Proofs.YtnicdlmcbkkkfaaGreatDoor
namespace Ph

/-- an order's rest: each operation stands behind those that it needs. -/
def LinR (N : Nat) (A : Nat → Nat → Prop) : (Nat → Prop) → List Nat → Prop
  | done, [] => ∀ i, i < N → done i
  | done, i :: rest => i < N ∧ ¬ done i ∧ (∀ j, A i j → done j) ∧ LinR N A (fun x => done x ∨ x = i) rest


/-- the operations that stand ahead of one by an edge that binds. -/
def edgeOns (o : Oper) : List Nat := (o.after.toList.filter (Region.binds .any)).map (·.on)

def maskOf (ms : List Nat) : List Nat → Nat
  | [] => 0
  | j :: js => Nat.lor (Nat.lor (Nat.shiftLeft 1 j) (ms.getD j 0)) (maskOf ms js)

/-- for each operation the set of those that must stand ahead of it. -/
def masks : List Oper → List Nat → List Nat
  | [], ms => ms
  | o :: os, ms => masks os (ms ++ [maskOf ms (edgeOns o)])

def bit (ms : List Nat) (i j : Nat) : Bool := Nat.testBit (ms.getD i 0) j

theorem testBit_one_shift (j l : Nat) : Nat.testBit (Nat.shiftLeft 1 j) l = decide (j = l) := by
  show Nat.testBit (1 <<< j) l = _
  rw [Nat.one_shiftLeft, Nat.testBit_two_pow]

/-- the sets hold only what a closed set holds that holds the edges. -/
def MaskOk (es : Nat → List Nat) (ms : List Nat) : Prop :=
  ∀ i l, bit ms i l = true → ∀ D : Nat → Prop, (∀ a, D a → ∀ b ∈ es a, D b) → (∀ b ∈ es i, D b) → D l

theorem maskOf_ok {es : Nat → List Nat} {ms : List Nat} (H : MaskOk es ms) (D : Nat → Prop) (cl : ∀ a, D a → ∀ b ∈ es a, D b) : ∀ js : List Nat, (∀ b ∈ js, D b) → ∀ l, Nat.testBit (maskOf ms js) l = true → D l
  | [], _, l, h => by simp [maskOf] at h
  | j :: js, hj, l, h => by
    unfold maskOf at h
    have e : ∀ a b : Nat, Nat.lor a b = a ||| b := fun _ _ => rfl
    rw [e, e, Nat.testBit_or, Nat.testBit_or, testBit_one_shift] at h
    simp only [Bool.or_eq_true, decide_eq_true_eq] at h
    rcases h with (rfl | h) | h
    · exact hj _ (by simp)
    · exact H j l h D cl (cl j (hj j (by simp)))
    · exact maskOf_ok H D cl js (fun b hb => hj b (by simp [hb])) l h

theorem masks_ok {es : Nat → List Nat} : ∀ (os : List Oper) (ms : List Nat), MaskOk es ms → (∀ i o, os[i]? = some o → edgeOns o = es (ms.length + i)) → MaskOk es (masks os ms)
  | [], ms, H, _ => H
  | o :: os, ms, H, he => by
    refine masks_ok os _ ?_ fun i o' hi => ?_
    · intro i l hl D cl hi
      unfold bit at hl
      rw [List.getD_eq_getElem?_getD] at hl
      rcases Nat.lt_trichotomy i ms.length with h | h | h
      · rw [List.getElem?_append_left h] at hl
        exact H i l (by unfold bit; rw [List.getD_eq_getElem?_getD]; exact hl) D cl hi
      · subst h
        rw [List.getElem?_append_right (Nat.le_refl _)] at hl
        simp only [Nat.sub_self, List.getElem?_cons_zero, Option.getD_some] at hl
        have := he 0 o (by simp)
        exact maskOf_ok H D cl _ (by rw [this]; exact hi) l hl
      · rw [List.getElem?_eq_none (by simp; omega)] at hl
        simp at hl
    · have := he (i + 1) o' (by simpa using hi)
      rw [this]
      simp
      congr 1
      omega

/-- the operations' needs. -/
def Needs (ops : Array Oper) (i j : Nat) : Prop := bit (masks ops.toList []) i j = true

def esOf (ops : Array Oper) (i : Nat) : List Nat := match ops[i]? with
  | some o => edgeOns o
  | none => []

theorem needs_ok (ops : Array Oper) {i l : Nat} (h : Needs ops i l) (D : Nat → Prop) (cl : ∀ a, D a → ∀ b ∈ esOf ops a, D b) (hi : ∀ b ∈ esOf ops i, D b) : D l := by
  refine masks_ok (es := esOf ops) ops.toList [] ?_ ?_ i l h D cl hi
  · intro i l hl
    simp [bit] at hl
  · intro i o ho
    have : ops[i]? = some o := by rw [← Array.getElem?_toList]; exact ho
    simp [esOf, this]

/-- each edge goes back. -/
def backs (ops : Array Oper) : Prop := ∀ i, i < ops.size → ∀ b ∈ esOf ops i, b < i

theorem needs_lt {ops : Array Oper} (B : backs ops) {i l : Nat} (hi : i < ops.size) (h : Needs ops i l) : l < i := by
  refine needs_ok ops h (fun x => x < i) ?_ ?_
  · intro a ha b hb
    have := B a (by omega) b hb
    omega
  · exact fun b hb => B i hi b hb

theorem ready_mem {ops : Array Oper} {listed : Array Bool} {i : Nat} : i ∈ Region.ready .any ops listed ↔ i < ops.size ∧ listed.getD i true = false ∧ ∀ b ∈ esOf ops i, listed.getD b false = true := by
  unfold Region.ready
  rw [List.mem_filter, List.mem_range]
  constructor
  · rintro ⟨h1, h2⟩
    simp only [Bool.and_eq_true, Bool.not_eq_true'] at h2
    refine ⟨h1, h2.1, ?_⟩
    have ho : ops[i]? = some ops[i] := Array.getElem?_eq_getElem h1
    rw [ho] at h2
    simp only [Option.map_some, Option.getD_some, Array.all_eq_true'] at h2
    intro b hb
    unfold esOf at hb
    rw [ho] at hb
    simp only [edgeOns, List.mem_map, List.mem_filter] at hb
    obtain ⟨e, ⟨e1, e2⟩, rfl⟩ := hb
    have := h2.2 e (by simpa using e1)
    simpa [e2] using this
  · rintro ⟨h1, h2, h3⟩
    refine ⟨h1, ?_⟩
    have ho : ops[i]? = some ops[i] := Array.getElem?_eq_getElem h1
    simp only [Bool.and_eq_true, Bool.not_eq_true']
    refine ⟨h2, ?_⟩
    rw [ho]
    simp only [Option.map_some, Option.getD_some, Array.all_eq_true']
    intro e he
    cases hb : Region.binds .any e with
    | false => rfl
    | true =>
      have := h3 e.on (by
        unfold esOf
        rw [ho]
        simp only [edgeOns, List.mem_map, List.mem_filter]
        exact ⟨e, ⟨by simpa using he, hb⟩, rfl⟩)
      simpa using this

def count (listed : Array Bool) : Nat := (listed.toList.filter (· == false)).length

theorem count_set {listed : Array Bool} {i : Nat} (h : listed.getD i true = false) : count (listed.setIfInBounds i true) + 1 = count listed := by
  unfold count
  rw [Array.toList_setIfInBounds]
  have hg : listed.toList[i]? = some false := by
    rw [Array.getD_eq_getD_getElem?] at h
    rw [Array.getElem?_toList]
    cases hx : listed[i]? with
    | none => rw [hx] at h; simp at h
    | some b => rw [hx] at h; simp at h; rw [h]
  generalize listed.toList = l at hg
  clear h
  induction l generalizing i with
  | nil => simp at hg
  | cons b l ih =>
    cases i with
    | zero => simp at hg; subst hg; simp
    | succ i =>
      simp at hg
      have := ih hg
      cases b <;> simp at this ⊢ <;> omega

theorem lin_go {ops : Array Oper} (B : backs ops) : ∀ (fuel t : Nat) (listed : Array Bool) (done : Nat → Prop), listed.size = ops.size → (∀ i, i < ops.size → (done i ↔ listed.getD i false = true)) → (∀ i, done i → i < ops.size) →
    (∀ a, done a → ∀ b ∈ esOf ops a, done b) → count listed ≤ fuel → LinR ops.size (Needs ops) done (Region.linearise.go .any ops fuel t listed [])
  | fuel, t, listed, done, hs, hd, hb, cl, hc => by
    have hgd : ∀ i, i < ops.size → (listed.getD i true = listed.getD i false) := by
      intro i hi
      rw [Array.getD_eq_getD_getElem?, Array.getD_eq_getD_getElem?, Array.getElem?_eq_getElem (by omega)]
      rfl
    -- nothing is ready only when all are done
    have none_ready : Region.ready .any ops listed = [] → ∀ i, i < ops.size → done i := by
      intro h
      intro i
      induction i using Nat.strongRecOn with
      | ind i ih =>
        intro hi
        by_cases hdi : done i
        · exact hdi
        · exfalso
          have : i ∈ Region.ready .any ops listed := by
            rw [ready_mem]
            refine ⟨hi, ?_, ?_⟩
            · rw [hgd i hi]
              cases hx : listed.getD i false with
              | false => rfl
              | true => exact absurd ((hd i hi).2 hx) hdi
            · intro b hb'
              have hlt := B i hi b hb'
              exact (hd b (by omega)).1 (ih b hlt (by omega))
          rw [h] at this
          cases this
    cases fuel with
    | zero =>
      unfold Region.linearise.go
      show ∀ i, i < ops.size → done i
      refine none_ready ?_
      have hz : count listed = 0 := by omega
      cases hr : Region.ready .any ops listed with
      | nil => rfl
      | cons x xs =>
        exfalso
        have hx : x ∈ Region.ready .any ops listed := by rw [hr]; simp
        rw [ready_mem] at hx
        have := count_set hx.2.1
        omega
    | succ fuel =>
      unfold Region.linearise.go
      simp only []
      change LinR ops.size (Needs ops) done (match (Region.ready .any ops listed)[t % (Region.ready .any ops listed).length]? with
        | some i => Region.linearise.go .any ops fuel (t / (Region.ready .any ops listed).length) (listed.setIfInBounds i true) [i]
        | none => [].reverse)
      cases hi : (Region.ready .any ops listed)[t % (Region.ready .any ops listed).length]? with
      | none =>
        have hnil : Region.ready .any ops listed = [] := by
          cases hr : Region.ready .any ops listed with
          | nil => rfl
          | cons x xs =>
            rw [hr] at hi
            have hlt : t % (x :: xs).length < (x :: xs).length := Nat.mod_lt _ (by simp)
            simp at hi
            simp at hlt
            omega
        exact none_ready hnil
      | some i =>
        have hm := List.mem_of_getElem? hi
        rw [ready_mem] at hm
        obtain ⟨m1, m2, m3⟩ := hm
        simp only []
        rw [linearise_go_acc]
        have nd : ¬ done i := fun h => by
          have := (hd i m1).1 h
          rw [← hgd i m1, m2] at this
          cases this
        have de : ∀ b ∈ esOf ops i, done b := fun b hb' => (hd b (by have := B i m1 b hb'; omega)).2 (m3 b hb')
        refine ⟨m1, nd, fun j hj => needs_ok ops hj done cl de, ?_⟩
        refine lin_go B fuel _ _ _ (by simpa using hs) ?_ ?_ ?_ ?_
        · intro x hx
          rw [Array.getD_eq_getD_getElem?, Array.getElem?_setIfInBounds]
          by_cases e : i = x
          · subst e
            simp [hs, m1]
          · rw [if_neg e, ← Array.getD_eq_getD_getElem?]
            rw [← hd x hx]
            constructor
            · rintro (h | rfl)
              · exact h
              · exact absurd rfl e
            · exact .inl
        · rintro x (h | rfl)
          · exact hb x h
          · exact m1
        · rintro a (h | rfl) b hb'
          · exact .inl (cl a h b hb')
          · exact .inl (de b hb')
        · have := count_set m2
          omega

/-- THE DRAWN ORDER. -/
theorem lin_schedule {P : Program} (hm : P.follows .mixedOrders = true) {ops : Array Oper} (B : backs ops) (t : Nat) : LinR ops.size (Needs ops) (fun _ => False) (Region.schedule (P.follows .mixedOrders) ops t) := by
  simp only [Region.schedule, hm, Bool.true_or, if_true]
  unfold Region.linearise
  refine lin_go B _ _ _ _ (by simp) ?_ (fun _ h => h.elim) (fun _ h => h.elim) ?_
  · intro i hi
    rw [Array.getD_eq_getD_getElem?]
    simp [hi]
  · unfold count
    simp


/-! ### what slots hold -/

def dstAt (ops : Array Oper) (i : Nat) : Option Nat := (ops[i]?).bind (·.dst)
def isDst (ops : Array Oper) (j t : Nat) : Bool := match dstAt ops j with
  | some d => Nat.beq d t
  | none => false

theorem isDst_iff {ops : Array Oper} {j t : Nat} : isDst ops j t = true ↔ dstAt ops j = some t := by
  unfold isDst
  split
  · rename_i d hd
    rw [hd]
    constructor
    · intro h; rw [Nat.eq_of_beq_eq_true h]
    · intro h; cases h; simp
  · rename_i hd
    rw [hd]
    simp

def allN : Nat → (Nat → Bool) → Bool
  | 0, _ => true
  | n + 1, f => cond (f n) (allN n f) false

theorem allN_ok {f : Nat → Bool} : ∀ {n : Nat}, allN n f = true → ∀ i, i < n → f i = true
  | 0, _, i, h => by omega
  | n + 1, e, i, h => by
    unfold allN at e
    cases hf : f n with
    | false => simp [hf] at e
    | true =>
      simp only [hf, cond_true] at e
      rcases Nat.lt_or_ge i n with h1 | h1
      · exact allN_ok e i h1
      · have : i = n := by omega
        rw [this]; exact hf

def noSel : Op → Bool
  | .select .. => false
  | _ => true

/-- what is looked at once for a region: edges go back, slots are set once, who reads a slot that is set stands in line with who sets it; no 'select'. -/
def statB (ops : Array Oper) (ms : List Nat) : Bool :=
  (allN ops.size fun i => (esOf ops i).all fun b => Nat.blt b i) &&
  ((allN ops.size fun i => match dstAt ops i with
      | none => true
      | some t => allN i fun j => !isDst ops j t) &&
  (allN ops.size fun i => match ops[i]? with
      | none => true
      | some o => noSel o.op && (o.looksAt ops).all fun t => allN ops.size fun j => !isDst ops j t || (bit ms i j || (bit ms j i || Nat.beq j i))))

structure Stat (ops : Array Oper) : Prop where
  back : backs ops
  once : ∀ i j t, i < ops.size → j < ops.size → dstAt ops i = some t → dstAt ops j = some t → i = j
  look : ∀ (i : Nat) (o : Oper) (t j : Nat), ops[i]? = some o → t ∈ o.looksAt ops → j < ops.size → dstAt ops j = some t → Needs ops i j ∨ (Needs ops j i ∨ j = i)
  sel : ∀ (i : Nat) (o : Oper), ops[i]? = some o → ∀ cs b, o.op ≠ .select cs b

theorem blt_lt {a b : Nat} (h : Nat.blt a b = true) : a < b := by
  have := Nat.le_of_ble_eq_true h; omega

theorem stat_ok {ops : Array Oper} (h : statB ops (masks ops.toList []) = true) : Stat ops := by
  unfold statB at h
  simp only [Bool.and_eq_true] at h
  obtain ⟨h1, h2, h3⟩ := h
  have once : ∀ i j t, i < ops.size → j < i → dstAt ops i = some t → dstAt ops j = some t → False := by
    intro i j t hi hj e1 e2
    have := allN_ok h2 i hi
    rw [e1] at this
    have := allN_ok this j hj
    rw [isDst_iff.2 e2] at this
    cases this
  refine ⟨?_, ?_, ?_, ?_⟩
  · intro i hi b hb
    have := allN_ok h1 i hi
    rw [List.all_eq_true] at this
    exact blt_lt (this b hb)
  · intro i j t hi hj e1 e2
    rcases Nat.lt_trichotomy i j with h | h | h
    · exact (once j i t hj h e2 e1).elim
    · exact h
    · exact (once i j t hi h e1 e2).elim
  · intro i o t j ho ht hj e
    have hi : i < ops.size := (Array.getElem?_eq_some_iff.1 ho).1
    have := allN_ok h3 i hi
    rw [ho] at this
    simp only [Bool.and_eq_true] at this
    have := List.all_eq_true.1 this.2 t ht
    have := allN_ok this j hj
    rw [isDst_iff.2 e] at this
    simp only [Bool.not_true, Bool.false_or, Bool.or_eq_true] at this
    rcases this with h | h | h
    · exact .inl h
    · exact .inr (.inl h)
    · exact .inr (.inr (Nat.eq_of_beq_eq_true h))
  · intro i o ho cs b e
    have hi : i < ops.size := (Array.getElem?_eq_some_iff.1 ho).1
    have := allN_ok h3 i hi
    rw [ho] at this
    simp only [Bool.and_eq_true] at this
    rw [e] at this
    exact absurd this.1 (by simp [noSel])

section
variable {P : Program} {ops : Array Oper} {a0 : Act}

/-- slots hold what the operations that are done gave, else what they held. -/
structure StOf (ops : Array Oper) (a0 : Act) (V : Nat → Value) (S : Nat → Prop) (a : Act) : Prop where
  defers : a.defers = a0.defers
  size : a.tmps.size = a0.tmps.size
  slot : ∀ t, t < a0.tmps.size → (∃ j, S j ∧ j < ops.size ∧ dstAt ops j = some t ∧ a.tmps[t]? = some (V j)) ∨ ((∀ j, S j → j < ops.size → dstAt ops j ≠ some t) ∧ a.tmps[t]? = a0.tmps[t]?)

theorem StOf.start (V : Nat → Value) : StOf ops a0 V (fun _ => False) a0 := ⟨rfl, rfl, fun _ _ => .inr ⟨fun _ h => h.elim, rfl⟩⟩

theorem put_size (a : Act) (d : Option Nat) (v : Value) : (a.put d v).tmps.size = a.tmps.size := by
  cases d <;> simp [Act.put]
theorem put_defers (a : Act) (d : Option Nat) (v : Value) : (a.put d v).defers = a.defers := by
  cases d <;> rfl

theorem put_get (a : Act) (d : Option Nat) (v : Value) {t : Nat} (ht : t < a.tmps.size) : (a.put d v).tmps[t]? = if d = some t then some v else a.tmps[t]? := by
  cases d with
  | none => simp [Act.put]
  | some d =>
    show (a.tmps.setIfInBounds d v)[t]? = _
    rw [Array.getElem?_setIfInBounds]
    by_cases e : d = t
    · subst e; simp [ht]
    · simp [e]

theorem StOf.put {V : Nat → Value} {S : Nat → Prop} {a : Act} (h : StOf ops a0 V S a) {i : Nat} {v : Value} (hi : i < ops.size) (hn : ¬ S i) (hv : V i = v) :
    StOf ops a0 V (fun x => S x ∨ x = i) (a.put (dstAt ops i) v) := by
  refine ⟨by rw [put_defers]; exact h.defers, by rw [put_size]; exact h.size, fun t ht => ?_⟩
  rw [put_get _ _ _ (by rw [h.size]; exact ht)]
  by_cases e : dstAt ops i = some t
  · rw [if_pos e]
    exact .inl ⟨i, .inr rfl, hi, e, by rw [hv]⟩
  · rw [if_neg e]
    rcases h.slot t ht with ⟨j, j1, j2, j3, j4⟩ | ⟨h1, h2⟩
    · exact .inl ⟨j, .inl j1, j2, j3, j4⟩
    · refine .inr ⟨fun j hj hl => ?_, h2⟩
      rcases hj with hj | rfl
      · exact h1 j hj hl
      · exact e

theorem StOf.same {V V' : Nat → Value} {S : Nat → Prop} {a : Act} (h : StOf ops a0 V S a) (e : ∀ j, S j → V j = V' j) : StOf ops a0 V' S a :=
  ⟨h.defers, h.size, fun t ht => by
    rcases h.slot t ht with ⟨j, j1, j2, j3, j4⟩ | h
    · exact .inl ⟨j, j1, j2, j3, by rw [j4, e j j1]⟩
    · exact .inr h⟩

theorem StOf.iff {V : Nat → Value} {S S' : Nat → Prop} {a : Act} (h : StOf ops a0 V S a) (e : ∀ j, S j ↔ S' j) : StOf ops a0 V S' a := by
  have : S = S' := funext fun j => propext (e j)
  rw [← this]; exact h

theorem StOf.eq (hs : Stat ops) {V : Nat → Value} {S : Nat → Prop} {a b : Act} (h : StOf ops a0 V S a) (k : StOf ops a0 V S b) : a = b := by
  have e : a.tmps = b.tmps := by
    apply Array.ext_getElem?
    intro t
    rcases Nat.lt_or_ge t a0.tmps.size with ht | ht
    · rcases h.slot t ht with ⟨j, j1, j2, j3, j4⟩ | ⟨h1, h2⟩
      · rcases k.slot t ht with ⟨i, i1, i2, i3, i4⟩ | ⟨k1, k2⟩
        · obtain rfl := hs.once j i t j2 i2 j3 i3
          rw [j4, i4]
        · exact absurd j3 (k1 j j1 j2)
      · rcases k.slot t ht with ⟨i, i1, i2, i3, i4⟩ | ⟨k1, k2⟩
        · exact absurd i3 (h1 i i1 i2)
        · rw [h2, k2]
    · rw [Array.getElem?_eq_none (by rw [h.size]; exact ht), Array.getElem?_eq_none (by rw [k.size]; exact ht)]
  have d : a.defers = b.defers := by rw [h.defers, k.defers]
  cases a; cases b; simp at e d; simp [e, d]

/-- rows of operations that hold what they need look at no slot that is set later. -/
def RawOk (ops : Array Oper) (i : Nat) (o : Oper) (S : Nat → Prop) : Prop := ∀ j t, S j → j < ops.size → t ∈ o.looksAt ops → dstAt ops j = some t → Needs ops i j

theorem raw_of (hs : Stat ops) {i : Nat} {o : Oper} (ho : ops[i]? = some o) {S : Nat → Prop} (cl : ∀ j, S j → ∀ k, Needs ops j k → S k) (hn : ¬ S i) : RawOk ops i o S := by
  intro j t hj hl ht hd
  rcases hs.look i o t j ho ht hl hd with h | h | h
  · exact h
  · exact absurd (cl j hj i h) hn
  · rw [h] at hj; exact absurd hj hn

/-- an operation looks at what it needs alone. -/
theorem agree (hs : Stat ops) {V V' : Nat → Value} {S S' : Nat → Prop} {a b : Act} (h : StOf ops a0 V S a) (k : StOf ops a0 V' S' b) {i : Nat} {o : Oper}
    (n1 : ∀ j, Needs ops i j → S j) (n2 : ∀ j, Needs ops i j → S' j) (e : ∀ j, Needs ops i j → V j = V' j) (r1 : RawOk ops i o S) (r2 : RawOk ops i o S') : ∀ t ∈ o.looksAt ops, a.tmps[t]? = b.tmps[t]? := by
  intro t ht
  rcases Nat.lt_or_ge t a0.tmps.size with hl | hl
  · rcases h.slot t hl with ⟨j, j1, j2, j3, j4⟩ | ⟨h1, h2⟩
    · have nd := r1 j t j1 j2 ht j3
      rcases k.slot t hl with ⟨l, l1, l2, l3, l4⟩ | ⟨k1, k2⟩
      · obtain rfl := hs.once j l t j2 l2 j3 l3
        rw [j4, l4, e j nd]
      · exact absurd j3 (k1 j (n2 j nd) j2)
    · rcases k.slot t hl with ⟨l, l1, l2, l3, l4⟩ | ⟨k1, k2⟩
      · exact absurd l3 (h1 l (n1 l (r2 l t l1 l2 ht l3)) l2)
      · rw [h2, k2]
  · rw [Array.getElem?_eq_none (by rw [h.size]; exact hl), Array.getElem?_eq_none (by rw [k.size]; exact hl)]

theorem exec_same (hs : Stat ops) {i : Nat} {o : Oper} (ho : ops[i]? = some o) {a b : Act} (h : ∀ t ∈ o.looksAt ops, a.tmps[t]? = b.tmps[t]?) : execOp a.eval o = execOp b.eval o := by
  refine execOp_congr o (hs.sel i o ho) fun x hx => ?_
  cases x with
  | tmp t =>
    have := h t (List.mem_append_left _ (List.mem_filterMap.2 ⟨.tmp t, by simpa using hx, rfl⟩))
    show a.tmps.getD t undef = b.tmps.getD t undef
    rw [Array.getD_eq_getD_getElem?, Array.getD_eq_getD_getElem?, this]
  | _ => rfl

theorem wanted_same {o : Oper} {a b : Act} (h : ∀ t ∈ o.looksAt ops, a.tmps[t]? = b.tmps[t]?) : Region.wanted o (yielded ops a.tmps) = Region.wanted o (yielded ops b.tmps) := by
  unfold Region.wanted
  cases hg : o.guard with
  | none => rfl
  | some gw =>
    obtain ⟨g, want⟩ := gw
    have : yielded ops a.tmps g = yielded ops b.tmps g := by
      unfold yielded
      cases ht : (ops[g]?).bind (·.dst) with
      | none => rfl
      | some t =>
        have := h t (List.mem_append_right _ (by rw [hg]; simp [ht]))
        simp only [Option.bind_some, this]
    simp only [this]

/-- a quiet operation that may still come: what it gives. -/
def Pend (P : Program) (ops : Array Oper) (a0 : Act) (V : Nat → Value) (w : World) (i : Nat) : Prop :=
  ∃ o v a1 V1 S1, ops[i]? = some o ∧ StOf ops a0 V1 S1 a1 ∧ (∀ j, Needs ops i j → S1 j) ∧ (∀ j, Needs ops i j → V1 j = V j) ∧ RawOk ops i o S1 ∧ YieldsAt P ops w o v a1 ∧ (∀ a : Act, a.tmps.size = a0.tmps.size → a.put (dstAt ops i) v = a.put (dstAt ops i) (V i))

theorem Pend.ext {V V' : Nat → Value} {w : World} {i : Nat} (h : Pend P ops a0 V w i) (e : ∀ j, Needs ops i j → V j = V' j) (ei : V i = V' i) : Pend P ops a0 V' w i := by
  obtain ⟨o, v, a1, V1, S1, h1, h2, h3, h4, h0, h5, h6⟩ := h
  exact ⟨o, v, a1, V1, S1, h1, h2, h3, fun j hj => (h4 j hj).trans (e j hj), h0, h5, by rw [← ei]; exact h6⟩

theorem Pend.at_ (hs : Stat ops) {V : Nat → Value} {w : World} {i : Nat} (h : Pend P ops a0 V w i) {S : Nat → Prop} {a : Act} (k : StOf ops a0 V S a) (n : ∀ j, Needs ops i j → S j) (cl : ∀ j, S j → ∀ k, Needs ops j k → S k) (hn : ¬ S i) :
    ∃ o v, ops[i]? = some o ∧ YieldsAt P ops w o v a ∧ a.put o.dst v = a.put (dstAt ops i) (V i) := by
  obtain ⟨o, v, a1, V1, S1, h1, h2, h3, h4, h0, h5, h6⟩ := h
  have ag := agree hs k h2 n h3 (fun j hj => (h4 j hj).symm) (raw_of hs h1 cl hn) h0
  refine ⟨o, v, h1, h5.of_same (exec_same hs h1 ag) (wanted_same ag), ?_⟩
  have : dstAt ops i = o.dst := by unfold dstAt; rw [h1]; rfl
  rw [← this]
  exact h6 a k.size

/-! ### quiet operations -/

/-- kinds of operations that give a value and enter no function. -/
def quietK : Op → Bool
  | .move .. | .assign .. | .pick .. | .build .. | .load .. | .binOp .. | .unOp .. | .convert .. | .makeInterface .. | .makeFunc .. | .slice .. | .fieldAddr .. | .field .. | .indexAddr .. | .index .. | .lookup .. | .typeAssert .. | .extract .. => true
  | .nilCheck .. => true
  | .call c => match c.callee with
    | .builtin .len => true
    | .builtin .cap => true
    | .builtin .min => true
    | .builtin .max => true
    | _ => false
  | _ => false

def GivesV (P : Program) (s : Sem Next) : Prop := ∀ w n w', s.run P w = .ok n w' → ∃ v, n = .value v

theorem GivesV.pure_ {P : Program} (v : Value) : GivesV P (pure (.value v)) := fun _ _ _ h => by
  rw [Sem.run_pure] at h
  injection h with h1
  exact ⟨v, h1.symm⟩

theorem GivesV.bind_ {P : Program} {α : Type} {x : Sem α} {k : α → Sem Next} (h : ∀ a, GivesV P (k a)) : GivesV P (x >>= k) := fun w n w' hr => by
  rw [Sem.run_bind] at hr
  cases hx : x.run P w with
  | ok v w1 => rw [hx] at hr; exact h v _ _ _ hr
  | halt y w1 => rw [hx] at hr; cases hr

theorem GivesV.halts {P : Program} {s : Sem Next} (h : ∀ w n w', s.run P w ≠ .ok n w') : GivesV P s := fun w n w' hr => absurd hr (h w n w')

theorem exec_quiet {P : Program} {ρ : Operand → Value} {o : Oper} (hk : quietK o.op = true) : GivesV P (execOp ρ o) := by
  obtain ⟨dst, op, type, pos, after, guard⟩ := o
  cases op <;> simp only [quietK] at hk <;> simp only [execOp] <;> try (first | exact GivesV.bind_ fun v => GivesV.pure_ v | exact GivesV.pure_ _ | (cases hk; done))
  case pick c a b => exact GivesV.bind_ fun x => GivesV.pure_ _
  case nilCheck x =>
    split
    · exact GivesV.halts fun _ _ _ h => by cases h
    · exact GivesV.halts fun _ _ _ h => by cases h
    · exact GivesV.halts fun _ _ _ h => by cases h
    · split
      · exact GivesV.halts fun _ _ _ h => by cases h
      · refine GivesV.bind_ fun a => GivesV.bind_ fun b => ?_
        split
        · exact GivesV.bind_ fun _ => GivesV.pure_ _
        · exact GivesV.pure_ _
      · exact GivesV.pure_ _
    · exact GivesV.pure_ _
  case call c =>
    obtain ⟨callee, args, ats⟩ := c
    cases callee with
    | value f => simp at hk
    | invoke r m => simp at hk
    | builtin b =>
      cases b <;> simp at hk
      case len => exact GivesV.bind_ (x := Builtin.len_ ats type (args.map ρ)) fun v => GivesV.pure_ v
      case cap => exact GivesV.bind_ (x := Builtin.cap_ ats type (args.map ρ)) fun v => GivesV.pure_ v
      case max => exact GivesV.bind_ (x := Builtin.max_ ats type (args.map ρ)) fun v => GivesV.pure_ v
      case min => exact GivesV.bind_ (x := Builtin.min_ ats type (args.map ρ)) fun v => GivesV.pure_ v

/-- behind a quiet operation: nothing has turned. -/
def QS (w : World) (d : List Deferred) (next : Act → Prop) : Exit → Act → World → Prop
  | .normal, a, w' => a.defers = d ∧ w' = w ∧ next a
  | _, _, _ => False

theorem qnext {w w' : World} {d : List Deferred} {next : Act → Prop} {a : Act} (h1 : a.defers = d) (h2 : w' = w) (h3 : next a) : QS w d next .normal a w' := ⟨h1, h2, h3⟩

/-- quiet operations, one behind the other. -/
def wpQ (P : Program) (ops : Array Oper) (w : World) (K : Act → Prop) : List Oper → Act → Prop
  | [], a => K a
  | o :: rest, a => wpList P ops (QS w a.defers (wpQ P ops w K rest)) [o] a w

theorem wpQ_cons {P : Program} {ops : Array Oper} {w : World} {K : Act → Prop} {o : Oper} {rest : List Oper} {a : Act} (h : wpList P ops (QS w a.defers (wpQ P ops w K rest)) [o] a w) : wpQ P ops w K (o :: rest) a := h
theorem wpQ_nil {P : Program} {ops : Array Oper} {w : World} {K : Act → Prop} {a : Act} (h : K a) : wpQ P ops w K [] a := h

theorem wpQ_one {P : Program} {ops : Array Oper} {w : World} {K : Act → Prop} {o : Oper} (hk : quietK o.op = true) {l : List Oper} {a : Act} (h : wpQ P ops w K (o :: l) a) : ∃ v, YieldsAt P ops w o v a ∧ wpQ P ops w K l (a.put o.dst v) := by
  replace h : wpList P ops (QS w a.defers (wpQ P ops w K l)) [o] a w := h
  unfold wpList at h
  by_cases hw : Region.wanted o (yielded ops a.tmps) = true
  · rw [if_pos hw] at h
    rcases h with h | ⟨_, _, _, h⟩
    · unfold Oper.wp at h
      generalize hr : (execOp a.eval o).run P w = r at h
      cases r with
      | ok n w' =>
        obtain ⟨v, rfl⟩ := exec_quiet (P := P) hk _ _ _ hr
        obtain ⟨_, h2, h3⟩ : (a.put o.dst v).defers = a.defers ∧ w' = w ∧ wpQ P ops w K l (a.put o.dst v) := h
        subst h2
        exact ⟨v, .inl ⟨hw, .inl hr⟩, h3⟩
      | halt x w' =>
        cases x <;> first | exact h.elim | (simp only [Oper.upon] at h; exact h.elim)
    · exact h.elim
  · rw [if_neg hw] at h
    exact ⟨undef, .inr ⟨by simpa using hw, rfl⟩, h.2.2⟩


/-! ### the plan -/

def opsAt (ops : Array Oper) (l : List Nat) : List Oper := l.filterMap fun i => ops[i]?

/-- behind a loud operation: its other exits are as they were. -/
def PhQ (Q : Exit → Act → World → Prop) (next : Act → World → Prop) : Exit → Act → World → Prop
  | .normal, a, w => next a w
  | e, a, w => ∀ a' : Act, a'.defers = a.defers → Q e a' w

/-- what may come later is run again, to the same. -/
def again (P : Program) (ops : Array Oper) (w : World) : List Nat → Act → Prop
  | [], _ => True
  | r :: rs, a => wpQ P ops w (fun a' => a' = a) (opsAt ops [r]) a ∧ again P ops w rs a

/-- what is to be shown behind a loud operation. -/
def PhK (P : Program) (ops : Array Oper) (rs : List Nat) (d : List Deferred) (next : Act → World → Prop) (a : Act) (w : World) : Prop :=
  a.defers = d ∧ again P ops w rs a ∧ next a w

mutual
/-- a plan: quiet operations, then one of some loud ones, each with what is run again behind it, and the plan from there on. -/
inductive PlanT where
  | last (qs : List Nat)
  | node (qs : List Nat) (bs : PlanB)
inductive PlanB where
  | nil
  | cons (l : Nat) (rs : List Nat) (sub : PlanT) (more : PlanB)
end

/-- loud operations in a row. -/
def plan (last : List Nat) : List (List Nat × Nat × List Nat) → PlanT
  | [] => .last last
  | (qs, l, rs) :: rest => .node qs (.cons l rs (plan last rest) .nil)

mutual
def ph (P : Program) (ops : Array Oper) (Q : Exit → Act → World → Prop) : PlanT → Act → World → Prop
  | .last qs, a, w => wpQ P ops w (fun a => Q .normal a w) (opsAt ops qs) a
  | .node qs bs, a, w => wpQ P ops w (fun a1 => phB P ops Q bs a1 w) (opsAt ops qs) a
def phB (P : Program) (ops : Array Oper) (Q : Exit → Act → World → Prop) : PlanB → Act → World → Prop
  | .nil, _, _ => True
  | .cons l rs sub more, a, w => wpList P ops (PhQ Q (PhK P ops rs a.defers (ph P ops Q sub))) (opsAt ops [l]) a w ∧ phB P ops Q more a w
end

noncomputable def louds (t : PlanB) : List Nat :=
  PlanB.rec (motive_1 := fun _ => List Nat) (motive_2 := fun _ => List Nat) (fun _ => []) (fun _ _ _ => []) [] (fun l _ _ _ _ ih => l :: ih) t
theorem louds_nil : louds .nil = [] := rfl
theorem louds_cons (l : Nat) (rs : List Nat) (sub : PlanT) (more : PlanB) : louds (.cons l rs sub more) = l :: louds more := rfl

def inB (l : List Nat) (i : Nat) : Bool := l.any (Nat.beq i)

theorem inB_iff {l : List Nat} {i : Nat} : inB l i = true ↔ i ∈ l := by
  unfold inB
  rw [List.any_eq_true]
  constructor
  · rintro ⟨x, hx, e⟩; rw [Nat.eq_of_beq_eq_true e]; exact hx
  · intro h; exact ⟨i, h, by simp⟩

def oneB (ops : Array Oper) (bf : List Nat) (q : Nat) : Bool := Nat.blt q ops.size && (!inB bf q && (esOf ops q).all (inB bf))

def kindB (ops : Array Oper) (q : Nat) : Bool := match ops[q]? with
  | some o => quietK o.op
  | none => false

def runB (ops : Array Oper) : List Nat → List Nat → Bool
  | _, [] => true
  | bf, q :: qs => oneB ops bf q && (kindB ops q && runB ops (bf ++ [q]) qs)

/-- what is run again looks at no slot that was set since. -/
def rawB (ops : Array Oper) (ms : List Nat) (bf : List Nat) (r : Nat) : Bool := match ops[r]? with
  | some o => quietK o.op && (o.looksAt ops).all fun t => bf.all fun j => !isDst ops j t || bit ms r j
  | none => true

def loudB (ops : Array Oper) (ms : List Nat) (bf qb : List Nat) (l : Nat) (rs : List Nat) : Bool :=
  oneB ops bf l && (qb.all (fun i => bit ms l i || (inB rs i || bf.any fun j => !inB qb j && bit ms j i)) && rs.all (rawB ops ms (bf ++ [l])))

/-- (by the bare recursors: the kernel reckons it.) -/
noncomputable def planB (ops : Array Oper) (ms : List Nat) (t : PlanT) : List Nat → List Nat → Bool :=
  PlanT.rec (motive_1 := fun _ => List Nat → List Nat → Bool) (motive_2 := fun _ => List Nat → List Nat → Bool)
    (fun qs bf _ => runB ops bf qs && allN ops.size (inB (bf ++ qs)))
    (fun qs bs ih bf qb => runB ops bf qs && (!(louds bs).isEmpty && (allN ops.size fun i => inB (bf ++ qs) i || (inB (louds bs) i || (louds bs).any (bit ms i))) && ih (bf ++ qs) (qb ++ qs)))
    (fun _ _ => true)
    (fun l rs _ _ ih ih2 bf qb => loudB ops ms bf qb l rs && (ih (bf ++ [l]) qb && ih2 bf qb)) t
noncomputable def planBs (ops : Array Oper) (ms : List Nat) (t : PlanB) : List Nat → List Nat → Bool :=
  PlanB.rec (motive_1 := fun _ => List Nat → List Nat → Bool) (motive_2 := fun _ => List Nat → List Nat → Bool)
    (fun qs bf _ => runB ops bf qs && allN ops.size (inB (bf ++ qs)))
    (fun qs bs ih bf qb => runB ops bf qs && (!(louds bs).isEmpty && (allN ops.size fun i => inB (bf ++ qs) i || (inB (louds bs) i || (louds bs).any (bit ms i))) && ih (bf ++ qs) (qb ++ qs)))
    (fun _ _ => true)
    (fun l rs _ _ ih ih2 bf qb => loudB ops ms bf qb l rs && (ih (bf ++ [l]) qb && ih2 bf qb)) t
theorem planB_last (ops : Array Oper) (ms qs bf qb : List Nat) : planB ops ms (.last qs) bf qb = (runB ops bf qs && allN ops.size (inB (bf ++ qs))) := rfl
theorem planB_node (ops : Array Oper) (ms qs : List Nat) (bs : PlanB) (bf qb : List Nat) : planB ops ms (.node qs bs) bf qb = (runB ops bf qs && (!(louds bs).isEmpty && (allN ops.size fun i => inB (bf ++ qs) i || (inB (louds bs) i || (louds bs).any (bit ms i))) && planBs ops ms bs (bf ++ qs) (qb ++ qs))) := rfl
theorem planBs_cons (ops : Array Oper) (ms : List Nat) (l : Nat) (rs : List Nat) (sub : PlanT) (more : PlanB) (bf qb : List Nat) : planBs ops ms (.cons l rs sub more) bf qb = (loudB ops ms bf qb l rs && (planB ops ms sub (bf ++ [l]) qb && planBs ops ms more bf qb)) := rfl

structure OneOk (ops : Array Oper) (bf : List Nat) (q : Nat) : Prop where
  lt : q < ops.size
  new : q ∉ bf
  es : ∀ b ∈ esOf ops q, b ∈ bf

theorem one_ok {bf : List Nat} {q : Nat} (h : oneB ops bf q = true) : OneOk ops bf q := by
  unfold oneB at h
  simp only [Bool.and_eq_true, Bool.not_eq_true'] at h
  obtain ⟨h1, h2, h3⟩ := h
  refine ⟨blt_lt h1, fun hm => ?_, fun b hb => inB_iff.1 (List.all_eq_true.1 h3 b hb)⟩
  rw [inB_iff.2 hm] at h2
  cases h2

/-- rows of operations that hold what they need. -/
structure Row (ops : Array Oper) (bf : List Nat) : Prop where
  lt : ∀ i ∈ bf, i < ops.size
  cl : ∀ i ∈ bf, ∀ b ∈ esOf ops i, b ∈ bf

theorem Row.add {bf : List Nat} (h : Row ops bf) {q : Nat} (o : OneOk ops bf q) : Row ops (bf ++ [q]) := by
  refine ⟨fun i hi => ?_, fun i hi b hb => ?_⟩
  · rcases List.mem_append.1 hi with h1 | h1
    · exact h.lt i h1
    · rw [List.mem_singleton.1 h1]; exact o.lt
  · rcases List.mem_append.1 hi with h1 | h1
    · exact List.mem_append_left _ (h.cl i h1 b hb)
    · rw [List.mem_singleton.1 h1] at hb
      exact List.mem_append_left _ (o.es b hb)

theorem Row.closed {bf : List Nat} (h : Row ops bf) : ∀ j, j ∈ bf → ∀ k, Needs ops j k → k ∈ bf :=
  fun j hj _ hk => needs_ok ops hk (· ∈ bf) (fun a ha b hb => h.cl a ha b hb) (h.cl j hj)

theorem Row.needs {bf : List Nat} (h : Row ops bf) {i : Nat} (hi : ∀ b ∈ esOf ops i, b ∈ bf) {j : Nat} (n : Needs ops i j) : j ∈ bf :=
  needs_ok ops n (· ∈ bf) (fun a ha b hb => h.cl a ha b hb) hi

def upd (V : Nat → Value) (i : Nat) (v : Value) : Nat → Value := fun j => if j = i then v else V j

theorem upd_same (V : Nat → Value) (i : Nat) (v : Value) : upd V i v i = v := by simp [upd]
theorem upd_other (V : Nat → Value) {i j : Nat} (v : Value) (h : j ≠ i) : upd V i v j = V j := by simp [upd, h]

/-- a run of quiet operations. -/
theorem peel (hs : Stat ops) {w : World} {K : Act → Prop} : ∀ (qs : List Nat) (bf : List Nat) (V : Nat → Value) (a : Act), Row ops bf → runB ops bf qs = true → StOf ops a0 V (· ∈ bf) a → wpQ P ops w K (opsAt ops qs) a →
    ∃ V' a', Row ops (bf ++ qs) ∧ (∀ j ∈ bf, V j = V' j) ∧ StOf ops a0 V' (· ∈ bf ++ qs) a' ∧ K a' ∧ ∀ q ∈ qs, Pend P ops a0 V' w q
  | [], bf, V, a, R, _, S, h => ⟨V, a, by simpa using R, fun _ _ => rfl, by simpa using S, h, fun q hq => by cases hq⟩
  | q :: qs, bf, V, a, R, hr, S, h => by
    unfold runB at hr
    simp only [Bool.and_eq_true] at hr
    have o1 := one_ok hr.1
    obtain ⟨o, ho⟩ : ∃ o, ops[q]? = some o := ⟨ops[q]'o1.lt, Array.getElem?_eq_getElem o1.lt⟩
    have e : opsAt ops (q :: qs) = o :: opsAt ops qs := by unfold opsAt; rw [List.filterMap_cons, ho]
    rw [e] at h
    have hkq : quietK o.op = true := by have := hr.2.1; unfold kindB at this; rw [ho] at this; exact this
    obtain ⟨v, y, h⟩ := wpQ_one hkq h
    have ed : dstAt ops q = o.dst := by unfold dstAt; rw [ho]; rfl
    have Sv : StOf ops a0 (upd V q v) (· ∈ bf) a := S.same fun j hj => (upd_other V v fun (e : j = _) => o1.new (by rw [← e]; exact hj)).symm
    have S1 : StOf ops a0 (upd V q v) (· ∈ bf ++ [q]) (a.put o.dst v) := by
      rw [← ed]
      exact (Sv.put o1.lt o1.new (upd_same V q v)).iff fun j => by simp
    obtain ⟨V', a', R', e', S', k', p'⟩ := peel hs qs (bf ++ [q]) (upd V q v) (a.put o.dst v) (R.add o1) hr.2.2 S1 h
    have nd : ∀ j, Needs ops q j → j ∈ bf := fun j hj => R.needs o1.es hj
    have eq_ : V' q = v := by rw [← e' q (by simp)]; exact upd_same V q v
    refine ⟨V', a', by simpa using R', fun j hj => ?_, S'.iff fun j => by simp, k', fun x hx => ?_⟩
    · rw [← e' j (by simp [hj])]
      exact (upd_other V v fun (e : j = _) => o1.new (by rw [← e]; exact hj)).symm
    · rcases List.mem_cons.1 hx with rfl | hx
      · refine ⟨o, v, a, V', (· ∈ bf), ho, S.same fun j hj => ?_, nd, fun _ _ => rfl, raw_of hs ho R.closed o1.new, y, fun a _ => by rw [eq_]⟩
        rw [← e' j (by simp [hj])]
        exact (upd_other V v fun (e : j = _) => o1.new (by rw [← e]; exact hj)).symm
      · exact p' x hx

/-- behind a loud operation. -/
theorem kgo {P : Program} {ops : Array Oper} {Q : Exit → Act → World → Prop} {rs : List Nat} {d : List Deferred} {next : Act → World → Prop} {a : Act} {w : World} (h1 : a.defers = d) (h2 : again P ops w rs a) (h3 : next a w) : PhQ Q (PhK P ops rs d next) .normal a w := ⟨h1, h2, h3⟩

section
variable {P : Program} {ops : Array Oper} {Q : Exit → Act → World → Prop} {a : Act} {w : World}
theorem ph_last {qs : List Nat} (h : wpQ P ops w (fun a => Q .normal a w) (opsAt ops qs) a) : ph P ops Q (.last qs) a w := h
theorem ph_node {qs : List Nat} {bs : PlanB} (h : wpQ P ops w (fun a1 => phB P ops Q bs a1 w) (opsAt ops qs) a) : ph P ops Q (.node qs bs) a w := h
theorem ph_one {qs : List Nat} {l : Nat} {rs : List Nat} {sub : PlanT} (h : wpQ P ops w (fun a1 => wpList P ops (PhQ Q (PhK P ops rs a1.defers (ph P ops Q sub))) (opsAt ops [l]) a1 w) (opsAt ops qs) a) : ph P ops Q (.node qs (.cons l rs sub .nil)) a w := by
  have e : (fun a1 => phB P ops Q (.cons l rs sub .nil) a1 w) = (fun a1 => wpList P ops (PhQ Q (PhK P ops rs a1.defers (ph P ops Q sub))) (opsAt ops [l]) a1 w) := by
    funext a1
    show (_ ∧ True) = _
    rw [and_true]
  unfold ph
  rw [e]
  exact h
theorem ph_plan {qs : List Nat} {l : Nat} {rs last : List Nat} {rest : List (List Nat × Nat × List Nat)} (h : wpQ P ops w (fun a1 => wpList P ops (PhQ Q (PhK P ops rs a1.defers (ph P ops Q (plan last rest)))) (opsAt ops [l]) a1 w) (opsAt ops qs) a) : ph P ops Q (plan last ((qs, l, rs) :: rest)) a w := ph_one h
theorem ph_end {last : List Nat} (h : wpQ P ops w (fun a => Q .normal a w) (opsAt ops last) a) : ph P ops Q (plan last []) a w := h
theorem phB_nil : phB P ops Q .nil a w := trivial
theorem phB_cons {l : Nat} {rs : List Nat} {sub : PlanT} {more : PlanB} (h : wpList P ops (PhQ Q (PhK P ops rs a.defers (ph P ops Q sub))) (opsAt ops [l]) a w) (h2 : phB P ops Q more a w) : phB P ops Q (.cons l rs sub more) a w := ⟨h, h2⟩
theorem again_cons {r : Nat} {rs : List Nat} (h : wpQ P ops w (fun a' => a' = a) (opsAt ops [r]) a) (h2 : again P ops w rs a) : again P ops w (r :: rs) a := ⟨h, h2⟩
end

theorem again_nil {P : Program} {ops : Array Oper} {w : World} {a : Act} : again P ops w [] a := trivial

theorem again_mem {w : World} {a : Act} : ∀ {rs : List Nat}, again P ops w rs a → ∀ r ∈ rs, wpQ P ops w (fun a' => a' = a) (opsAt ops [r]) a
  | [], _, r, hr => by cases hr
  | x :: xs, h, r, hr => by
    rcases List.mem_cons.1 hr with rfl | hr
    · exact h.1
    · exact again_mem h.2 r hr

/-- a loud operation, out of slots that hold the same where it looks. -/
theorem wp_move {o : Oper} {a1 a2 : Act} {w : World} {K1 K2 : Act → World → Prop} {Q1 Q2 : Exit → Act → World → Prop} (he : execOp a2.eval o = execOp a1.eval o)
    (hK : ∀ u w', K1 (a1.put o.dst u) w' → K2 (a2.put o.dst u) w') (hD : ∀ a' w', K1 a' w' → a'.defers = a1.defers) (hQ : ∀ c w', Q1 (.panic c) a1 w' → Q2 (.panic c) a2 w') (hL : LetsOut Q1 → LetsOut Q2)
    (h : o.wp P a1 w K1 Q1) : o.wp P a2 w K2 Q2 := by
  unfold Oper.wp at *
  rw [he]
  generalize (execOp a1.eval o).run P w = r at *
  cases r with
  | ok n w' =>
    cases n <;> simp only [Oper.upon] at h ⊢
    case value u => exact hK _ _ h
    case skip => exact hK _ _ h
    case defer d =>
      have := hD _ _ h
      rw [put_defers] at this
      exact absurd (congrArg List.length this) (by simp)
    case enter f args =>
      refine Calls.mono h fun e w'' he => ?_
      cases e with
      | returned u => exact hK _ _ he
      | panicked c => exact hQ _ _ he
      | outgrown => exact hL he
    case row row args => exact Rows.mono h fun u w'' he => hK _ _ he
  | halt x w' =>
    cases x <;> simp only [Oper.upon] at h ⊢
    case panic u => exact hQ _ _ h

/-- what is to come, where a loud operation is next, or none. -/
def hd (P : Program) (ops : Array Oper) (Q : Exit → Act → World → Prop) : Option PlanB → Act → World → Prop
  | none, a, w => Q .normal a w
  | some bs, a, w => phB P ops Q bs a w

noncomputable def hdB (ops : Array Oper) (bf qb : List Nat) : Option PlanB → Bool
  | none => allN ops.size (inB bf)
  | some bs => (!(louds bs).isEmpty && allN ops.size fun i => inB bf i || (inB (louds bs) i || (louds bs).any (bit (masks ops.toList []) i))) && planBs ops (masks ops.toList []) bs bf qb

/-- up to the next loud operation. -/
theorem reach (hs : Stat ops) {Q : Exit → Act → World → Prop} {w : World} {pl : PlanT} {bf qb : List Nat} {V : Nat → Value} {a : Act} (R : Row ops bf)
    (hp : planB ops (masks ops.toList []) pl bf qb = true) (S : StOf ops a0 V (· ∈ bf) a) (h : ph P ops Q pl a w) :
    ∃ qs x V' a', Row ops (bf ++ qs) ∧ (∀ j ∈ bf, V j = V' j) ∧ StOf ops a0 V' (· ∈ bf ++ qs) a' ∧ hd P ops Q x a' w ∧ hdB ops (bf ++ qs) (qb ++ qs) x = true ∧ ∀ q ∈ qs, Pend P ops a0 V' w q := by
  cases pl with
  | last qs =>
    rw [planB_last] at hp
    simp only [Bool.and_eq_true] at hp
    unfold ph at h
    obtain ⟨V', a', h1, h2, h3, h4, h5⟩ := peel hs qs bf V a R hp.1 S h
    exact ⟨qs, none, V', a', h1, h2, h3, h4, hp.2, h5⟩
  | node qs bs =>
    rw [planB_node] at hp
    simp only [Bool.and_eq_true] at hp
    unfold ph at h
    obtain ⟨V', a', h1, h2, h3, h4, h5⟩ := peel hs qs bf V a R hp.1 S h
    refine ⟨qs, some bs, V', a', h1, h2, h3, h4, ?_, h5⟩
    unfold hdB
    simp only [Bool.and_eq_true]
    exact hp.2

/-- the branch of a loud operation. -/
theorem branch {Q : Exit → Act → World → Prop} {a : Act} {w : World} {bf qb : List Nat} {l : Nat} : ∀ {bs : PlanB}, l ∈ louds bs → phB P ops Q bs a w → planBs ops (masks ops.toList []) bs bf qb = true →
    ∃ rs sub, wpList P ops (PhQ Q (PhK P ops rs a.defers (ph P ops Q sub))) (opsAt ops [l]) a w ∧ loudB ops (masks ops.toList []) bf qb l rs = true ∧ planB ops (masks ops.toList []) sub (bf ++ [l]) qb = true
  | .nil, h, _, _ => by rw [louds_nil] at h; cases h
  | .cons k rs sub more, h, hp, hb => by
    rw [louds_cons] at h
    unfold phB at hp
    rw [planBs_cons] at hb
    simp only [Bool.and_eq_true] at hb
    rcases List.mem_cons.1 h with rfl | h
    · exact ⟨rs, sub, hp.1, hb.1, hb.2.1⟩
    · exact branch h hp.2 hb.2.2

theorem louds_new {bf qb : List Nat} {l : Nat} : ∀ {bs : PlanB}, l ∈ louds bs → planBs ops (masks ops.toList []) bs bf qb = true → OneOk ops bf l
  | .nil, h, _ => by rw [louds_nil] at h; cases h
  | .cons k rs sub more, h, hb => by
    rw [louds_cons] at h
    rw [planBs_cons] at hb
    unfold loudB at hb
    simp only [Bool.and_eq_true] at hb
    rcases List.mem_cons.1 h with rfl | h
    · exact one_ok hb.1.1
    · exact louds_new h hb.2.2

/-- THE DRAWN ORDER IS WALKED. -/
theorem all_run (hs : Stat ops) {Q : Exit → Act → World → Prop} : ∀ (τ : List Nat) (done : Nat → Prop) (bf qb : List Nat) (x : Option PlanB) (V : Nat → Value) (as a : Act) (w : World),
    LinR ops.size (Needs ops) done τ → (∀ j, done j → ∀ k, Needs ops j k → done k) → (∀ i, done i → i ∈ bf) → Row ops bf → StOf ops a0 V (· ∈ bf) as → StOf ops a0 V done a → (∀ i ∈ bf, ¬ done i → i ∈ qb ∧ Pend P ops a0 V w i) →
    hd P ops Q x as w → hdB ops bf qb x = true → wpOps P ops Q τ a w
  | [], done, bf, qb, x, V, as, a, w, L, cl, db, R, S, T, pe, h, hb => by
    have e : ∀ i, i < ops.size → i ∈ bf := fun i hi => db i (L i hi)
    have same : as = a := S.eq hs (T.iff fun j => ⟨db j, fun hj => L j (R.lt j hj)⟩)
    cases x with
    | none => subst same; exact h
    | some bs =>
      cases bs with
      | nil =>
        unfold hdB at hb
        simp only [Bool.and_eq_true] at hb
        exact absurd hb.1.1 (by decide)
      | cons l rs sub more =>
        unfold hdB at hb
        simp only [Bool.and_eq_true] at hb
        have o1 := louds_new (l := l) (by rw [louds_cons]; simp) hb.2
        exact absurd (e l o1.lt) o1.new
  | i :: τ, done, bf, qb, x, V, as, a, w, L, cl, db, R, S, T, pe, h, hb => by
    obtain ⟨l1, l2, l3, l4⟩ := L
    have cl' : ∀ j, (done j ∨ j = i) → ∀ k, Needs ops j k → (done k ∨ k = i) := by
      rintro j (hj | rfl) k hk
      · exact .inl (cl j hj k hk)
      · exact .inl (l3 k hk)
    rw [wpOps_cons]
    by_cases hi : i ∈ bf
    · obtain ⟨hq, hp⟩ := pe i hi l2
      obtain ⟨o, v, ho, y, e⟩ := hp.at_ hs T l3 cl l2
      refine wpOp_of_stOp (K := fun a' => wpOps P ops Q τ a' w) (fun _ h => h) (y.stOp ho ?_)
      rw [e]
      refine all_run hs τ (fun x => done x ∨ x = i) bf qb x V as _ w l4 cl' ?_ R S (T.put l1 l2 rfl) ?_ h hb
      · rintro j (hj | rfl)
        · exact db j hj
        · exact hi
      · intro j hj hn
        exact pe j hj fun h => hn (.inl h)
    · cases x with
      | none =>
        exact absurd (inB_iff.1 (allN_ok hb i l1)) hi
      | some bs =>
        unfold hdB at hb
        simp only [Bool.and_eq_true] at hb
        have il : i ∈ louds bs := by
          have := allN_ok hb.1.2 i l1
          simp only [Bool.or_eq_true, List.any_eq_true] at this
          rcases this with h1 | h1 | ⟨l, hl, h1⟩
          · exact absurd (inB_iff.1 h1) hi
          · exact inB_iff.1 h1
          · exact absurd (db l (l3 l h1)) (louds_new hl hb.2).new
        obtain ⟨rs, sub, h, b1, b4⟩ := branch il h hb.2
        unfold loudB at b1
        simp only [Bool.and_eq_true] at b1
        obtain ⟨b1, b3, b5⟩ := b1
        have o1 := one_ok b1
        obtain ⟨o, ho⟩ : ∃ o, ops[i]? = some o := ⟨ops[i]'l1, Array.getElem?_eq_getElem l1⟩
        have eo : opsAt ops [i] = [o] := by unfold opsAt; simp [ho]
        have ed : dstAt ops i = o.dst := by unfold dstAt; rw [ho]; rfl
        have ag := agree hs (o := o) T S l3 (fun j hj => R.needs o1.es hj) (fun _ _ => rfl) (raw_of hs ho cl l2) (raw_of hs ho R.closed o1.new)
        have he := exec_same hs ho ag
        have hw := wanted_same ag
        rw [eo] at h
        have next : ∀ u w', PhK P ops rs as.defers (ph P ops Q sub) (as.put o.dst u) w' → wpOps P ops Q τ (a.put o.dst u) w' := by
          intro u w' ⟨_, k1, k2⟩
          have eV : ∀ j ∈ bf, V j = upd V i u j := fun j hj => (upd_other V u fun (e : j = _) => o1.new (by rw [← e]; exact hj)).symm
          have R1 := R.add o1
          have S1 : StOf ops a0 (upd V i u) (· ∈ bf ++ [i]) (as.put o.dst u) := by
            rw [← ed]
            exact ((S.same eV).put l1 o1.new (upd_same V i u)).iff fun j => by simp
          have T1 : StOf ops a0 (upd V i u) (fun x => done x ∨ x = i) (a.put o.dst u) := by
            rw [← ed]
            exact (T.same fun j hj => eV j (db j hj)).put l1 l2 (upd_same V i u)
          obtain ⟨qs, x', V', a', r1, r2, r3, r4, r5, r6⟩ := reach hs R1 b4 S1 k2
          refine all_run hs τ (fun x => done x ∨ x = i) (bf ++ [i] ++ qs) (qb ++ qs) x' V' a' _ w' l4 cl' ?_ r1 r3 (T1.same ?_) ?_ r4 r5
          · rintro j (hj | rfl)
            · have := db j hj; simp [this]
            · simp
          · rintro j (hj | rfl)
            · exact r2 j (by have := db j hj; simp [this])
            · exact r2 j (by simp)
          · intro j hj hn
            rcases List.mem_append.1 hj with hj | hj
            · rcases List.mem_append.1 hj with hj | hj
              · have nd : ¬ done j := fun h => hn (.inl h)
                obtain ⟨q1, q2⟩ := pe j hj nd
                refine ⟨List.mem_append_left _ q1, ?_⟩
                have nn : ¬ Needs ops i j := fun h => nd (l3 j h)
                have hr : j ∈ rs := by
                  have := List.all_eq_true.1 b3 j q1
                  simp only [Bool.or_eq_true, List.any_eq_true, Bool.and_eq_true, Bool.not_eq_true'] at this
                  rcases this with h1 | h1 | ⟨z, hz, h1, h2⟩
                  · exact absurd h1 nn
                  · exact inB_iff.1 h1
                  · exfalso
                    have hzd : done z := Classical.byContradiction fun hzn => by
                      rw [inB_iff.2 (pe z hz hzn).1] at h1
                      cases h1
                    exact nd (cl z hzd j h2)
                have ag := again_mem k1 j hr
                have jl := R.lt j hj
                obtain ⟨oj, hoj⟩ : ∃ o, ops[j]? = some o := ⟨ops[j]'jl, Array.getElem?_eq_getElem jl⟩
                have eoj : opsAt ops [j] = [oj] := by unfold opsAt; simp [hoj]
                rw [eoj] at ag
                have raw0 := List.all_eq_true.1 b5 j hr
                unfold rawB at raw0
                rw [hoj] at raw0
                simp only [Bool.and_eq_true] at raw0
                obtain ⟨v, y, ag⟩ := wpQ_one raw0.1 ag
                have ag : (as.put o.dst u).put oj.dst v = as.put o.dst u := ag
                have edj : dstAt ops j = oj.dst := by unfold dstAt; rw [hoj]; rfl
                have needs_in : ∀ z, Needs ops j z → z ∈ bf ++ [i] := fun z hz => List.mem_append_left _ (R.needs (R.cl j hj) hz)
                have raw : RawOk ops j oj (· ∈ bf ++ [i]) := by
                  intro z t hz _ ht hd
                  have := List.all_eq_true.1 (List.all_eq_true.1 raw0.2 t ht) z hz
                  rw [isDst_iff.2 hd] at this
                  simp only [Bool.not_true, Bool.false_or] at this
                  exact this
                refine Pend.ext (V := upd V i u) ⟨oj, v, _, upd V i u, (· ∈ bf ++ [i]), hoj, S1, needs_in, fun _ _ => rfl, raw, y, fun a hsz => ?_⟩ (fun z hz => r2 z (needs_in z hz)) (r2 j (by simp [hj]))
                -- the slot holds it already
                rw [edj]
                cases hd' : oj.dst with
                | none => rfl
                | some d =>
                  rcases Nat.lt_or_ge d a0.tmps.size with hl | hl
                  · have e1 : (as.put o.dst u).tmps[d]? = some v := by
                      rw [← ag, put_get _ _ _ (by rw [S1.size]; exact hl), if_pos hd']
                    rcases S1.slot d hl with ⟨z, z1, z2, z3, z4⟩ | ⟨z1, z2⟩
                    · obtain rfl := hs.once z j d z2 jl z3 (by rw [edj]; exact hd')
                      rw [e1] at z4
                      rw [Option.some.inj z4]
                    · exact absurd (by rw [edj]; exact hd') (z1 j (by simp [hj]) jl)
                  · have hb : ∀ q, a.tmps.setIfInBounds d q = a.tmps := fun q => Array.setIfInBounds_eq_of_size_le (by omega)
                    simp only [Act.put, hb]
              · rw [List.mem_singleton.1 hj] at hn
                exact absurd (.inr rfl) hn
            · exact ⟨List.mem_append_right _ hj, r6 j hj⟩
        have hQ : ∀ c w', PhQ Q (PhK P ops rs as.defers (ph P ops Q sub)) (.panic c) as w' → Q (.panic c) a w' := fun c w' h => h a (by rw [T.defers, S.defers])
        have hL : LetsOut (PhQ Q (PhK P ops rs as.defers (ph P ops Q sub))) → LetsOut Q := by
          rintro ⟨a', w', h⟩
          exact ⟨a', w', h a' rfl⟩
        unfold wpOp
        simp only [ho]
        unfold wpList at h
        rw [hw]
        by_cases hwt : Region.wanted o (yielded ops as.tmps) = true
        · rw [if_pos hwt] at h ⊢
          rcases h with h | ⟨h1, h2⟩
          · exact .inl (wp_move he (fun u w' hk => next u w' hk) (fun a' w' hk => hk.1) hQ hL h)
          · refine .inr ⟨?_, hL h2⟩
            unfold Oper.asks at *
            rw [he]
            exact h1
        · rw [if_neg hwt] at h ⊢
          exact next _ _ h

/-- A REGION THAT DRAWS ITS ORDER, BY PHASES. -/
theorem wp_region_ph {id : Nat} {Q : Exit → Act → World → Prop} {a : Act} {w : World} (pl : PlanT) (hm : P.follows .mixedOrders = true) (hs : statB ops (masks ops.toList []) = true)
    (hp : planB ops (masks ops.toList []) pl [] [] = true) (h : ph P ops Q pl a w.drew) : (Code.region id ops true).wp P Q a w := by
  have S := stat_ok hs
  refine wp_region_draw fun t => ?_
  have L := lin_schedule hm S.back t
  have R0 : Row ops [] := ⟨fun i h => (by cases h), fun i h => (by cases h)⟩
  have S0 : StOf ops a (fun _ => undef) (· ∈ ([] : List Nat)) a := (StOf.start (ops := ops) (fun _ => undef)).iff fun j => by simp
  obtain ⟨qs, x, V', a', r1, r2, r3, r4, r5, r6⟩ := reach S R0 hp S0 h
  refine all_run S _ _ ([] ++ qs) ([] ++ qs) x V' a' a _ L (fun _ h => h.elim) (fun _ h => h.elim) r1 r3 (StOf.start V') (fun i hi _ => ⟨hi, r6 i (by simpa using hi)⟩) r4 r5

end
end Ph
end Go.Proofs.YtnicdlmcbkkkfaaGreatDoor

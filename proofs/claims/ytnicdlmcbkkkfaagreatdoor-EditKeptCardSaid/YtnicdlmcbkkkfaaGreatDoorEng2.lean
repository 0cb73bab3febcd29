/-
  The engine, part F: addresses, slices, parts, conversions.
  The engine, part G: slice expressions; parts and aggregates; conversions of numbers; lengths.
  The engine, part H: aggregates, conversions, lengths, interfaces.
  The engine, part I: new objects, loads, stores.
  The engine, part J: make, load, store, strings and bytes, copy, clear.
-/
import Derived.Test.YtnicdlmcbkkkfaaGreatDoorEng1
namespace Go.Proofs.YtnicdlmcbkkkfaaGreatDoor
namespace Eng
noncomputable section
section
def aFieldAddr (T : TT) (s : TypeId) (x : Value) (f : Nat) : Option Value :=
  match x with
  | .pointer (some ⟨o, off, none⟩) =>
    ob (T.get s) fun i => match i.desc with
      | .struct fs => ob (fs[f]?) fun fl => ob (T.get fl.type) fun j => cnd (Nat.beq j.size 0) none (some (.pointer (some ⟨o, off + fl.offset, none⟩)))
      | _ => none
  | _ => none

theorem fieldAddr_sim {P : Program} {T : TT} (H : TOk P T) {ρ : Ren} {s : TypeId} {x x' : Value} (hx : VRel ρ x x') {f : Nat} {v : Value} (h : aFieldAddr T s x f = some v) (w : World) :
    ∃ v', (Instr.fieldAt s x' f).run P w = .ok v' w ∧ VRel ρ v v' := by
  unfold aFieldAddr at h
  split at h
  · cases hx with
    | ptr hL =>
      rename_i o off L
      replace h := ob_some h
      obtain ⟨i, hi, h⟩ := h
      split at h
      · rename_i fs hd
        replace h := ob_some h
        obtain ⟨fl, hf, h⟩ := h
        replace h := ob_some h
        obtain ⟨j, hj, h⟩ := h
        cases hz : Nat.beq j.size 0 with
        | true => simp [hz] at h
        | false =>
          simp only [hz, cnd_false, Option.some.injEq] at h
          subst h
          have hne : ¬ j.size = 0 := by rw [nbeq] at hz; simpa using hz
          refine ⟨.pointer (some ⟨L.block, L.base + (off + fl.offset), none⟩), ?_, .ptr hL⟩
          unfold Instr.fieldAt
          simp only [Sem.run_bind, run_under w H hi, hd, Result.andThen_ok, hf, Instr.sureAddr, Sem.run_pure, fieldPlace, run_sizeOf w H hj, hne, if_false, add_none]
          simp [Nat.add_assoc]
      · cases h
  · cases h

def aIndexAddr (T : TT) (t : TypeId) (x ix : Value) : Option Value :=
  match ix with
  | .int _ (.ofNat m) =>
    ob (T.get t) fun i => match i.desc, x with
      | .array len e, .pointer (some ⟨o, off, none⟩) => ob (T.get e) fun j => cnd (Nat.blt m len) (some (.pointer (some ⟨o, off + m * j.size, none⟩))) none
      | .slice e, .slice (some ⟨o, off, none⟩) len _ => ob (T.get e) fun j => cnd (Nat.blt m len) (some (.pointer (some ⟨o, off + m * j.size, none⟩))) none
      | _, _ => none
  | _ => none

theorem indexAddr_sim {P : Program} {T : TT} (H : TOk P T) {ρ : Ren} {t : TypeId} {x x' ix ix' : Value} (hx : VRel ρ x x') (hi' : VRel ρ ix ix') {v : Value} (h : aIndexAddr T t x ix = some v) (w : World) :
    ∃ v', (Instr.indexAt t x' ix').run P w = .ok v' w ∧ VRel ρ v v' := by
  unfold aIndexAddr at h
  split at h
  · cases hi'
    rename_i k m
    replace h := ob_some h
    obtain ⟨i, hi, h⟩ := h
    have lt : ∀ {n : Nat}, Nat.blt m n = true → ((0 : Int) ≤ Int.ofNat m ∧ Int.ofNat m < (n : Int)) := fun {n} hb => by
      have := blt_lt hb
      simp only [Int.ofNat_eq_natCast]
      omega
    split at h
    · rename_i len e o off hd
      cases hx with
      | ptr hL =>
        rename_i L
        replace h := ob_some h
        obtain ⟨j, hj, h⟩ := h
        cases hb : Nat.blt m len with
        | false => simp [hb] at h
        | true =>
          simp only [hb, cnd_true, Option.some.injEq] at h
          subst h
          refine ⟨.pointer (some ⟨L.block, L.base + (off + m * j.size), none⟩), ?_, .ptr hL⟩
          unfold Instr.indexAt
          simp only [Sem.run_bind, asIntOf, Sem.run_pure, Result.andThen_ok, run_under w H hi, hd, Instr.sureAddr, if_pos (lt hb), run_sizeOf w H hj, add_none]
          simp [Nat.add_assoc]
    · rename_i e o off len cap hd
      replace h := ob_some h
      obtain ⟨j, hj, h⟩ := h
      cases hb : Nat.blt m len with
      | false => simp [hb] at h
      | true =>
        simp only [hb, cnd_true, Option.some.injEq] at h
        subst h
        have key : ∀ (L : Loc) (c : Nat), (Instr.indexAt t (.slice (some ⟨L.block, L.base + off, none⟩) len c) (.int k (Int.ofNat m))).run P w = .ok (.pointer (some ⟨L.block, L.base + (off + m * j.size), none⟩)) w := by
          intro L c
          unfold Instr.indexAt
          simp only [Sem.run_bind, asIntOf, Sem.run_pure, Result.andThen_ok, run_under w H hi, hd, if_pos (lt hb), run_sizeOf w H hj, add_none]
          simp [Nat.add_assoc]
        cases hx with
        | slE hL hc hn => exact ⟨_, key _ _, .ptr hL⟩
        | slO hL hE hc hn => exact ⟨_, key _ _, .ptr hL⟩
        | slL => have := blt_lt hb; omega
    · cases h
  · cases h

def aIndex (T : TT) (t : TypeId) (x ix : Value) : Option Value :=
  match ix with
  | .int _ (.ofNat m) =>
    ob (T.get t) fun i => match i.desc, x with
      | .array len e, .agg cs => ob (T.get e) fun j => cnd (Nat.blt m len) (aPart T e cs.toList (m * j.size)) none
      | .string, .string s => ob (s.data.toList[m]?) fun b => some (.int .u8 (Int.ofNat b.toNat))
      | _, _ => none
  | _ => none

theorem index_sim {P : Program} {T : TT} (H : TOk P T) {ρ : Ren} {t : TypeId} {x x' ix ix' : Value} (hx : VRel ρ x x') (hi' : VRel ρ ix ix') {v : Value} (h : aIndex T t x ix = some v) (w : World) :
    ∃ v', (Instr.index t x' ix').run P w = .ok v' w ∧ VRel ρ v v' := by
  unfold aIndex at h
  split at h
  · cases hi'
    rename_i k m
    replace h := ob_some h
    obtain ⟨i, hi, h⟩ := h
    have lt : ∀ {n : Nat}, Nat.blt m n = true → ((0 : Int) ≤ Int.ofNat m ∧ Int.ofNat m < (n : Int)) := fun {n} hb => by
      have := blt_lt hb
      simp only [Int.ofNat_eq_natCast]
      omega
    split at h
    · rename_i len e cs hd
      cases hx with
      | agg r =>
        replace h := ob_some h
        obtain ⟨j, hj, h⟩ := h
        cases hb : Nat.blt m len with
        | false => simp [hb] at h
        | true =>
          simp only [hb, cnd_true] at h
          obtain ⟨v', h1, h2⟩ := part_sim H r h w
          refine ⟨v', ?_, h2⟩
          unfold Instr.index
          simp only [Sem.run_bind, asIntOf, Sem.run_pure, Result.andThen_ok, run_under w H hi, hd, if_pos (lt hb), run_sizeOf w H hj]
          simpa using h1
    · rename_i s hd
      cases hx
      replace h := ob_some h
      obtain ⟨b, hb, h⟩ := h
      obtain rfl := Option.some.inj h
      refine ⟨_, ?_, .int _ _⟩
      unfold Instr.index
      have hs : s[m]? = some b := by
        have hm : m < s.data.toList.length := by
          rcases Nat.lt_or_ge m s.data.toList.length with h | h
          · exact h
          · rw [List.getElem?_eq_none h] at hb; cases hb
        have : s.data.toList[m] = b := by rw [List.getElem?_eq_getElem hm] at hb; exact Option.some.inj hb
        rw [getElem?_pos s m (by simpa using hm)]
        exact congrArg some (by rw [← this]; rfl)
      simp only [Sem.run_bind, asIntOf, Sem.run_pure, Result.andThen_ok, run_under w H hi, hd]
      simp [hs]
    · cases h
  · cases h

/-- a bound of a slice expression. -/
def aBound (x : Option Value) (dflt lim : Nat) : Option Nat :=
  match x with
  | none => some dflt
  | some (.int _ (.ofNat m)) => cnd (Nat.ble m lim) (some m) none
  | _ => none

/-- bounds: low, high; 'cap': what high may be at most. -/
def aBounds (len cap : Nat) (low high max : Option Value) : Option (Nat × Nat × Nat) :=
  ob (aBound max cap cap) fun m =>
    ob (match high, max with | none, some _ => none | _, _ => aBound high len m) fun h => ob (aBound low 0 h) fun l => some (l, h, m)

def aSlice (T : TT) (t : TypeId) (x : Value) (lim : Nat) (low high max : Option Value) : Option Value :=
  ob (T.get t) fun i => match i.desc, x with
    | .array n e, .pointer (some ⟨o, off, none⟩) => ob (T.get e) fun j => ob (aBounds n n low high max) fun (l, h, m) =>
        cnd (Nat.blt m openCap) (some (.slice (some ⟨o, cnd (Nat.beq m l) off (off + l * j.size), none⟩) (h - l) (m - l))) none
    | .string, .string s => match max with
      | none => ob (aBounds s.size s.size low high none) fun (l, h, _) => some (.string (s.extract l h))
      | some _ => none
    | .slice e, .slice (some ⟨o, off, none⟩) len cap => ob (T.get e) fun j =>
        cnd (Nat.blt cap openCap)
          (ob (aBounds len cap low high max) fun (l, h, m) => some (.slice (some ⟨o, cnd (Nat.beq m l) off (off + l * j.size), none⟩) (h - l) (m - l)))
          (match max with
            | some _ => cnd (Nat.beq cap (openCap + j.size) && Nat.blt 0 j.size) (ob (aBounds len len low high max) fun (l, h, m) => cnd (Nat.blt m openCap) (some (.slice (some ⟨o, cnd (Nat.beq m l) off (off + l * j.size), none⟩) (h - l) (m - l))) none) none
            | none => cnd (Nat.beq cap (openCap + j.size) && Nat.blt 0 j.size) (ob (aBounds len (Nat.max len lim) low high none) fun (l, h, _) =>
                cnd (Nat.beq l 0) (some (.slice (some ⟨o, off, none⟩) h cap))
                  (cnd (Nat.blt l len || Nat.blt l h) (some (.slice (some ⟨o, off + l * j.size, none⟩) (h - l) cap)) (some (.slice (some ⟨0, 0, none⟩) 0 openCap)))) none)
    | .slice e, .slice none 0 0 => ob (T.get e) fun _ => ob (aBounds 0 0 low high max) fun _ => some (.slice none 0 0)
    | _, _ => none

/-- what a bound is there is what it is here. -/
def BRel (ρ : Ren) : Option Value → Option Value → Prop
  | none, none => True
  | some x, some y => VRel ρ x y
  | _, _ => False

theorem bound_run {P : Program} {ρ : Ren} {x x' : Value} (hx : VRel ρ x x') {d lim lim' : Nat} (hl : lim ≤ lim') {m : Nat} (h : aBound (some x) d lim = some m) (code : BoundsCode) (w : World) :
    (Instr.sliceBound x' lim' code).run P w = .ok m w ∧ m ≤ lim := by
  unfold aBound at h
  split at h
  · rename_i hh; cases hh
  · rename_i k n hh
    cases hh
    cases hx
    cases hb : Nat.ble n lim with
    | false => simp [hb] at h
    | true =>
      simp only [hb, cnd_true, Option.some.injEq] at h
      subst h
      have hle := Nat.le_of_ble_eq_true hb
      refine ⟨?_, hle⟩
      unfold Instr.sliceBound
      have c : (0 : Int) ≤ Int.ofNat n ∧ Int.ofNat n ≤ (lim' : Int) := by simp only [Int.ofNat_eq_natCast]; omega
      simp only [Sem.run_bind, asIntOf, Sem.run_pure, Result.andThen_ok, Sem.run_ite, if_pos c]
      simp
  · cases h

theorem low_run {P : Program} {ρ : Ren} {low low' : Option Value} (rl : BRel ρ low low') {h0 l0 : Nat} (h3 : aBound low 0 h0 = some l0) (code : BoundsCode) (w : World) :
    l0 ≤ h0 ∧ ∀ {α : Type} (g : Nat → α), (match low' with | some v => (do let l ← Instr.sliceBound v h0 code; pure (g l) : Sem α) | none => (do let l ← pure 0; pure (g l))).run P w = .ok (g l0) w := by
  cases low with
  | none =>
    cases low' with
    | some y => exact rl.elim
    | none =>
      simp only [aBound, Option.some.injEq] at h3
      subst h3
      exact ⟨Nat.zero_le _, fun g => rfl⟩
  | some x =>
    cases low' with
    | none => exact rl.elim
    | some y =>
      obtain ⟨a, b⟩ := bound_run (P := P) rl (Nat.le_refl h0) h3 code w
      exact ⟨b, fun g => by simp [a]⟩

/-- the bounds, where the capacity there is at least what high may be here. -/
theorem bounds_run {P : Program} {ρ : Ren} {low high max low' high' max' : Option Value} (rl : BRel ρ low low') (rh : BRel ρ high high') (rm : BRel ρ max max') {len lim cap' : Nat} (hlen : len ≤ lim) (hcap : lim ≤ cap') {l h m : Nat}
    (hb : aBounds len lim low high max = some (l, h, m)) (b : Bool) (w : World) :
    l ≤ h ∧ h ≤ m ∧ (Instr.sliceBounds b len cap' low' high' max').run P w = .ok (l, h, if max = none then cap' else m) w ∧ (max = none → m = lim) ∧ m ≤ lim := by
  unfold aBounds at hb
  replace hb := ob_some hb
  obtain ⟨m0, h1, hb⟩ := hb
  replace hb := ob_some hb
  obtain ⟨h0, h2, hb⟩ := hb
  replace hb := ob_some hb
  obtain ⟨l0, h3, hb⟩ := hb
  obtain ⟨rfl, rfl, rfl⟩ : l0 = l ∧ h0 = h ∧ m0 = m := by simpa using Option.some.inj hb
  unfold Instr.sliceBounds
  cases max with
  | none =>
    cases max' with
    | some y => exact rm.elim
    | none =>
      simp only [aBound, Option.some.injEq] at h1
      subst h1
      cases high with
      | none =>
        cases high' with
        | some y => exact rh.elim
        | none =>
          simp only [aBound, Option.some.injEq] at h2
          subst h2
          obtain ⟨a1, a2⟩ := low_run (P := P) rl h3 .sliceB w
          refine ⟨a1, hlen, ?_, fun _ => rfl, Nat.le_refl _⟩
          simp only [Sem.run_bind, Sem.run_pure, Result.andThen_ok, Option.isSome_none, Bool.false_eq_true, if_false]
          exact (a2 fun l => (l, len, cap')).trans (by simp)
      | some x =>
        cases high' with
        | none => exact rh.elim
        | some y =>
          obtain ⟨b1, b2⟩ := bound_run (P := P) rh hcap h2 (if b = true then .sliceAcap else .sliceAlen) w
          obtain ⟨a1, a2⟩ := low_run (P := P) rl h3 .sliceB w
          refine ⟨a1, b2, ?_, fun _ => rfl, Nat.le_refl _⟩
          simp only [Sem.run_bind, Sem.run_pure, Result.andThen_ok, Option.isSome_none, Bool.false_eq_true, if_false]
          rw [b1]
          simp only [Result.andThen_ok]
          exact (a2 fun l => (l, h0, cap')).trans (by simp)
  | some z =>
    cases max' with
    | none => exact rm.elim
    | some z' =>
      obtain ⟨c1, c2⟩ := bound_run (P := P) rm hcap h1 (if b = true then .slice3Acap else .slice3Alen) w
      cases high with
      | none => cases h2
      | some x =>
        cases high' with
        | none => exact rh.elim
        | some y =>
          obtain ⟨b1, b2⟩ := bound_run (P := P) rh (Nat.le_refl m0) h2 .slice3B w
          obtain ⟨a1, a2⟩ := low_run (P := P) rl h3 .slice3C w
          refine ⟨a1, b2, ?_, fun h => (by cases h), c2⟩
          simp only [Sem.run_bind, Option.isSome_some, if_true]
          rw [c1]
          simp only [Result.andThen_ok]
          rw [b1]
          simp only [Result.andThen_ok]
          exact (a2 fun l => (l, h0, m0)).trans (by simp)
end

section
theorem addr_pick (b k n m l : Nat) : (if m = l then (⟨b, k, none⟩ : Addr) else (⟨b, k, none⟩ : Addr).add n) = ⟨b, cnd (Nat.beq m l) k (k + n), none⟩ := by
  rw [cond_beq, add_none]
  split <;> rfl

theorem base_pick (x k n m l : Nat) : x + cnd (Nat.beq m l) k (k + n) = cnd (Nat.beq m l) (x + k) (x + k + n) := by
  rw [cond_beq, cond_beq]
  split <;> omega

theorem not_blt {a b : Nat} (h : Nat.blt a b = false) : b ≤ a := by
  rcases Nat.lt_or_ge a b with h2 | h2
  · have : Nat.blt a b = true := by unfold Nat.blt; exact Nat.ble_eq_true_of_le h2
    rw [this] at h; cases h
  · exact h2

theorem slice_sim {P : Program} {T : TT} (H : TOk P T) {ρ : Ren} {t : TypeId} {x x' : Value} {low high max low' high' max' : Option Value} (hx : VRel ρ x x') (rl : BRel ρ low low') (rh : BRel ρ high high') (rm : BRel ρ max max') {v : Value} {lim : Nat}
    (hlim : ∀ o off n E c L, x = .slice (some ⟨o, off, none⟩) n (openCap + E) → ρ o = some L → 0 < E → L.base + off + c * E = L.stop → lim ≤ c)
    (hb : aSlice T t x lim low high max = some v) (w : World) : ∃ v', (Instr.sliceAt t x' low' high' max').run P w = .ok v' w ∧ VRel ρ v v' := by
  replace hb := ob_some hb
  obtain ⟨i, hi, hb⟩ := hb
  have hu := run_under w H hi
  split at hb
  · rename_i n e o off hd
    cases hx with
    | ptr hL =>
      rename_i L
      replace hb := ob_some hb
      obtain ⟨j, hj, hb⟩ := hb
      replace hb := ob_some hb
      obtain ⟨⟨l, h, m⟩, h1, hb⟩ := hb
      simp only at hb
      obtain ⟨a1, a2, a3, a4, a5⟩ := bounds_run (P := P) rl rh rm (Nat.le_refl n) (Nat.le_refl n) h1 false w
      have em : (if max = none then n else m) = m := by split <;> simp_all
      rw [em] at a3
      cases hm : Nat.blt m openCap with
      | false => simp [hm] at hb
      | true =>
        simp only [hm, cnd_true, Option.some.injEq] at hb
        subst hb
        have := blt_lt hm
        refine ⟨.slice (some ⟨L.block, L.base + cnd (Nat.beq m l) off (off + l * j.size), none⟩) (h - l) (m - l), ?_, .slE hL (by omega) (by omega)⟩
        unfold Instr.sliceAt
        simp only [Sem.run_bind, hu, hd, Result.andThen_ok, Instr.sureAddr, Sem.run_pure, a3, run_sizeOf w H hj, addr_pick, base_pick]
  · rename_i s hd
    cases hx
    split at hb
    · replace hb := ob_some hb
      obtain ⟨⟨l, h, m⟩, h1, hb⟩ := hb
      simp only at hb
      obtain rfl := Option.some.inj hb
      cases max' with
      | some y => exact rm.elim
      | none =>
        obtain ⟨a1, a2, a3, a4, a5⟩ := bounds_run (P := P) rl rh rm (Nat.le_refl s.size) (Nat.le_refl s.size) h1 false w
        refine ⟨_, ?_, .str _⟩
        unfold Instr.sliceAt Instr.slice
        simp only [if_true] at a3
        simp only [Sem.run_bind, hu, hd, Result.andThen_ok, Option.isSome_none, Bool.false_eq_true, if_false, Sem.run_pure, a3]
    · cases hb
  · rename_i e o off len cap hd
    replace hb := ob_some hb
    obtain ⟨j, hj, hb⟩ := hb
    -- what the run gives, once the bounds are known
    have run : ∀ (L : Loc) (c l h m : Nat), (Instr.sliceBounds true len c low' high' max').run P w = .ok (l, h, m) w →
        (Instr.sliceAt t (.slice (some ⟨L.block, L.base + off, none⟩) len c) low' high' max').run P w = .ok (.slice (some ⟨L.block, L.base + cnd (Nat.beq m l) off (off + l * j.size), none⟩) (h - l) (m - l)) w := by
      intro L c l h m hbd
      unfold Instr.sliceAt Instr.slice
      simp only [Sem.run_bind, hu, hd, Result.andThen_ok, hbd, run_sizeOf w H hj, Sem.run_pure, Option.map_some]
      have : (if m = l then some (⟨L.block, L.base + off, none⟩ : Addr) else some ((⟨L.block, L.base + off, none⟩ : Addr).add (l * j.size))) = some ⟨L.block, L.base + cnd (Nat.beq m l) off (off + l * j.size), none⟩ := by
        rw [base_pick, ← addr_pick]
        split <;> rfl
      rw [this]
    cases hcap : Nat.blt cap openCap with
    | true =>
      simp only [hcap, cnd_true] at hb
      replace hb := ob_some hb
      obtain ⟨⟨l, h, m⟩, h1, hb⟩ := hb
      simp only at hb
      obtain rfl := Option.some.inj hb
      have hlt := blt_lt hcap
      cases hx with
      | slE hL hc hn =>
        obtain ⟨a1, a2, a3, a4, a5⟩ := bounds_run (P := P) rl rh rm hn (Nat.le_refl cap) h1 true w
        have em : (if max = none then cap else m) = m := by split <;> simp_all
        rw [em] at a3
        refine ⟨_, run _ _ _ _ _ a3, .slE hL ?_ (by omega)⟩
        omega
      | slO hL hE hc hn => omega
      | slL => omega
    | false =>
      have hge := not_blt hcap
      simp only [hcap, cnd_false] at hb
      split at hb
      · rename_i mx
        cases hE : (Nat.beq cap (openCap + j.size) && Nat.blt 0 j.size) with
        | false => simp [hE] at hb
        | true =>
          simp only [hE, cnd_true] at hb
          replace hb := ob_some hb
          obtain ⟨⟨l, h, m⟩, h1, hb⟩ := hb
          simp only at hb
          cases hm : Nat.blt m openCap with
          | false => simp [hm] at hb
          | true =>
            simp only [hm, cnd_true, Option.some.injEq] at hb
            subst hb
            have hml := blt_lt hm
            have go : ∀ (L : Loc) (c : Nat), ρ o = some L → len ≤ c → ∃ v', (Instr.sliceAt t (.slice (some ⟨L.block, L.base + off, none⟩) len c) low' high' max').run P w = .ok v' w ∧ VRel ρ (.slice (some ⟨o, cnd (Nat.beq m l) off (off + l * j.size), none⟩) (h - l) (m - l)) v' := by
              intro L c hL hn
              obtain ⟨a1, a2, a3, a4, a5⟩ := bounds_run (P := P) rl rh rm (Nat.le_refl len) hn h1 true w
              simp only [reduceCtorEq, if_false] at a3
              exact ⟨_, run L c l h m a3, .slE hL (by omega) (by omega)⟩
            cases hx with
            | slE hL hc hn => omega
            | slO hL hE' hc hn => exact go _ _ hL hn
            | slL =>
              simp only [Bool.and_eq_true] at hE
              have := Nat.eq_of_beq_eq_true hE.1
              have := blt_lt hE.2
              omega
      · cases hE : (Nat.beq cap (openCap + j.size) && Nat.blt 0 j.size) with
        | false => simp [hE] at hb
        | true =>
          simp only [hE, cnd_true] at hb
          simp only [Bool.and_eq_true] at hE
          have hEq := Nat.eq_of_beq_eq_true hE.1
          have hpos := blt_lt hE.2
          replace hb := ob_some hb
          obtain ⟨⟨l, h, m⟩, h1, hb⟩ := hb
          simp only at hb
          cases max' with
          | some y => exact rm.elim
          | none =>
            cases hx with
            | slE hL hc hn => omega
            | slL => omega
            | @slO _ _ _ E c L hL hE' hc hn =>
              have hlc := hlim _ _ _ _ _ _ rfl hL hE' hc
              obtain ⟨a1, a2, a3, a4, a5⟩ := bounds_run (P := P) rl rh rm (len := len) (lim := Nat.max len lim) (Nat.le_max_left _ _) (Nat.max_le.2 ⟨hn, hlc⟩) h1 true w
              have hsz : j.size = E := by omega
              have hm := a4 rfl
              have hmc : Nat.max len lim ≤ c := Nat.max_le.2 ⟨hn, hlc⟩
              simp only [if_true] at a3
              have r := run L c l h c a3
              cases hl0 : Nat.beq l 0 with
              | true =>
                simp only [hl0, cnd_true, Option.some.injEq] at hb
                subst hb
                obtain rfl := Nat.eq_of_beq_eq_true hl0
                have e0 : cnd (Nat.beq c 0) off (off + 0 * j.size) = off := by rw [cond_beq]; split <;> simp
                rw [e0] at r
                exact ⟨_, r, .slO hL hE' hc (by omega)⟩
              | false =>
                simp only [hl0, cnd_false] at hb
                cases hlt : (Nat.blt l len || Nat.blt l h) with
                | true =>
                  simp only [hlt, cnd_true, Option.some.injEq] at hb
                  subst hb
                  simp only [Bool.or_eq_true] at hlt
                  have hll : l < c := by
                    rcases hlt with q | q
                    · have := blt_lt q; omega
                    · have := blt_lt q; omega
                  have e1 : cnd (Nat.beq c l) off (off + l * j.size) = off + l * j.size := by rw [cond_beq, if_neg (by omega)]
                  rw [e1] at r
                  refine ⟨_, r, .slO hL hE' ?_ (by omega)⟩
                  rw [hsz, Nat.sub_mul]
                  have : l * E ≤ c * E := Nat.mul_le_mul_right _ (by omega)
                  omega
                | false =>
                  simp only [hlt, cnd_false, Option.some.injEq] at hb
                  subst hb
                  simp only [Bool.or_eq_false_iff] at hlt
                  have := not_blt hlt.2
                  have hz : h - l = 0 := by omega
                  rw [hz] at r
                  exact ⟨_, r, .slL⟩
  · rename_i e hd
    cases hx
    replace hb := ob_some hb
    obtain ⟨j, hj, hb⟩ := hb
    replace hb := ob_some hb
    obtain ⟨⟨l, h, m⟩, h1, hb⟩ := hb
    obtain rfl := Option.some.inj hb
    obtain ⟨a1, a2, a3, a4, a5⟩ := bounds_run (P := P) rl rh rm (Nat.le_refl 0) (Nat.le_refl 0) h1 true w
    have hm0 : (if max = none then 0 else m) = m := by split <;> simp_all
    rw [hm0] at a3
    refine ⟨_, ?_, .sl0⟩
    have e1 : h - l = 0 := by omega
    have e2 : m - l = 0 := by omega
    unfold Instr.sliceAt Instr.slice
    simp only [Sem.run_bind, hu, hd, Result.andThen_ok, a3, run_sizeOf w H hj, Sem.run_pure, e1, e2, Option.map_none, ite_self]
  · cases hb

/-- a component of a tuple. -/
def aExtract (x : Value) (n : Nat) : Option Value :=
  match x with
  | .tuple vs => vs.toList[n]?
  | _ => none

theorem extract_sim {P : Program} {ρ : Ren} {x x' : Value} (hx : VRel ρ x x') {n : Nat} {v : Value} (h : aExtract x n = some v) (w : World) :
    ∃ v', (Instr.extract x' n).run P w = .ok v' w ∧ VRel ρ v v' := by
  unfold aExtract at h
  split at h
  · cases hx with
    | tuple r =>
      obtain ⟨v', h1, h2⟩ := r.get h
      refine ⟨v', ?_, h2⟩
      unfold Instr.extract
      rename_i vs vs'
      have : vs'[n]? = some v' := by simpa using h1
      simp [this]
  · cases h

/-- an aggregate out of its parts: where each one goes, and how many cells it has. -/
def aFill (place : Nat → Option (Nat × Nat)) (cells : List Value) : List (Nat × Value) → Option (List Value)
  | [] => some cells
  | (i, v) :: rest =>
    ob (place i) fun (off, size) => cnd (Nat.beq v.cells.size size && Nat.ble (off + size) cells.length) (aFill place (putL off v.cells.toList cells) rest) none

theorem VRel.cells {ρ : Ren} {v v' : Value} (h : VRel ρ v v') : VRels ρ v.cells.toList v'.cells.toList := by
  cases h <;> first
    | (rename_i r; exact r)
    | (exact .cons (by constructor <;> assumption) .nil)
    | (exact .cons (by constructor) .nil)

theorem zipIdx_put (off : Nat) : ∀ (vs : List Value) (n : Nat) (cs : Array Value),
    ((vs.zipIdx n).foldl (fun cs (x : Value × Nat) => cs.setIfInBounds (off + x.2) x.1) cs).toList = putL (off + n) vs cs.toList
  | [], n, cs => rfl
  | v :: vs, n, cs => by
    simp only [List.zipIdx_cons, List.foldl_cons, putL]
    rw [zipIdx_put off vs (n + 1) _, Array.toList_setIfInBounds]
    rfl

/-- parts related one by one. -/
inductive PRels (ρ : Ren) : List (Nat × Value) → List (Nat × Value) → Prop where
  | nil : PRels ρ [] []
  | cons {i : Nat} {x y : Value} {xs ys : List (Nat × Value)} (h : VRel ρ x y) (t : PRels ρ xs ys) : PRels ρ ((i, x) :: xs) ((i, y) :: ys)

theorem fill_sim {ρ : Ren} {place : Nat → Option (Nat × Nat)} : ∀ {ps ps' : List (Nat × Value)}, PRels ρ ps ps' → ∀ {cs : List Value} {cs' : Array Value}, VRels ρ cs cs'.toList → ∀ {out : List Value}, aFill place cs ps = some out →
    ∃ out', Instr.fill place cs' ps' = some out' ∧ VRels ρ out out'.toList
  | _, _, .nil, cs, cs', r, out, h => by
    obtain rfl := Option.some.inj h
    exact ⟨cs', rfl, r⟩
  | _, _, .cons (i := i) (x := x) (y := y) hv t, cs, cs', r, out, h => by
    unfold aFill at h
    replace h := ob_some h
    obtain ⟨⟨off, size⟩, hp, h⟩ := h
    simp only at h
    cases hc : (Nat.beq x.cells.size size && Nat.ble (off + size) cs.length) with
    | false => simp [hc] at h
    | true =>
      rw [hc] at h
      simp only [cnd_true] at h
      simp only [Bool.and_eq_true] at hc
      have e1 := Nat.eq_of_beq_eq_true hc.1
      have e2 := Nat.le_of_ble_eq_true hc.2
      have l1 := hv.cells.length
      have l2 := r.length
      have s1 : y.cells.size = size := by
        have : x.cells.size = x.cells.toList.length := rfl
        show y.cells.toList.length = size; omega
      have s2 : ¬ ((decide (y.cells.size ≠ size) || decide (off + y.cells.size > cs'.size)) = true) := by
        have : cs'.toList.length = cs'.size := rfl
        simp only [Bool.or_eq_true, decide_eq_true_eq]
        omega
      have key : VRels ρ (putL off x.cells.toList cs) (y.cells.zipIdx.foldl (fun cs (c, j) => cs.setIfInBounds (off + j) c) cs').toList := by
        have := zipIdx_put off y.cells.toList 0 cs'
        rw [Nat.add_zero] at this
        have e : (y.cells.zipIdx.foldl (fun cs (c, j) => cs.setIfInBounds (off + j) c) cs') = ((y.cells.toList.zipIdx 0).foldl (fun cs (x : Value × Nat) => cs.setIfInBounds (off + x.2) x.1) cs') := by
          rw [← Array.foldl_toList]; simp
        rw [e, this]
        exact VRels.putL hv.cells off r
      obtain ⟨out', h1, h2⟩ := fill_sim t key h
      refine ⟨out', ?_, h2⟩
      unfold Instr.fill
      simp only [hp, if_neg s2]
      exact h1
end

section
/-- where a struct's fields, an array's elements lie. -/
def aPlaces (T : TT) (d : TypeDesc) : Option (Nat → Option (Nat × Nat)) :=
  match d with
  | .struct fs => some fun i => ob (fs[i]?) fun f => ob (T.get f.type) fun j => some (f.offset, j.size)
  | .array _ e => ob (T.get e) fun j => some fun i => some (i * j.size, j.size)
  | _ => none

/-- are all fields' types in the table? -/
def fieldsIn (T : TT) : List Field → Bool
  | [] => true
  | f :: fs => match T.get f.type with | some _ => fieldsIn T fs | none => false

def aBuild (T : TT) (t : TypeId) (parts : List (Nat × Value)) : Option Value :=
  ob (T.get t) fun i => ob i.zero fun z =>
    match i.desc with
    | .struct fs => cnd (fieldsIn T fs.toList) (ob (aPlaces T i.desc) fun p => ob (aFill p z.cells.toList parts) fun cs => some (.agg ⟨cs⟩)) none
    | .array _ _ => ob (aPlaces T i.desc) fun p => ob (aFill p z.cells.toList parts) fun cs => some (.agg ⟨cs⟩)
    | _ => none

theorem places_run {P : Program} {T : TT} (H : TOk P T) (w : World) : ∀ (fs : List Field), fieldsIn T fs = true → ∃ ps : List (Nat × Nat), (fs.mapM (fun f => (do pure (f.offset, ← sizeOf f.type) : Sem (Nat × Nat)))).run P w = .ok ps w ∧
    ∀ i : Nat, ps[i]? = ob (fs[i]?) fun (f : Field) => ob (T.get f.type) fun j => some (f.offset, j.size)
  | [], _ => ⟨[], rfl, fun i => by simp [ob]⟩
  | f :: fs, h => by
    unfold fieldsIn at h
    cases hg : T.get f.type with
    | none => simp [hg] at h
    | some j =>
      simp only [hg] at h
      obtain ⟨ps, h1, h2⟩ := places_run H w fs h
      refine ⟨(f.offset, j.size) :: ps, ?_, ?_⟩
      · rw [List.mapM_cons]
        simp only [Sem.run_bind, run_sizeOf w H hg, Result.andThen_ok, Sem.run_pure]
        rw [show (List.mapM (fun f => (do let __do_lift ← sizeOf f.type; pure (f.offset, __do_lift) : Sem (Nat × Nat))) fs).run P w = .ok ps w from h1]
        rfl
      · intro i
        cases i with
        | zero => simp [ob, hg]
        | succ i => simpa using h2 i

theorem fill_place {p q : Nat → Option (Nat × Nat)} (h : ∀ i, p i = q i) : p = q := funext h

theorem closedV_cells {z : Value} (h : closedV z = true) {ρ : Ren} : VRels ρ z.cells.toList z.cells.toList := (closedV_rel h).cells

theorem build_sim {P : Program} {T : TT} (H : TOk P T) {ρ : Ren} {t : TypeId} {ps : List (Nat × Value)} {ps' : Array (Nat × Value)} (r : PRels ρ ps ps'.toList) {v : Value} (h : aBuild T t ps = some v) (w : World) :
    ∃ v', (Instr.build t ps').run P w = .ok v' w ∧ VRel ρ v v' := by
  replace h := ob_some h
  obtain ⟨i, hi, h⟩ := h
  replace h := ob_some h
  obtain ⟨z, hz, h⟩ := h
  have hzc := closedV_cells (zero_closed H hi hz) (ρ := ρ)
  unfold Instr.build
  simp only [Sem.run_bind, run_zeroOf w H hi hz, Result.andThen_ok, run_under w H hi]
  split at h
  · rename_i fs hd
    cases hf : fieldsIn T fs.toList with
    | false => simp [hf] at h
    | true =>
      simp only [hf, cnd_true] at h
      replace h := ob_some h
      obtain ⟨p, hp, h⟩ := h
      replace h := ob_some h
      obtain ⟨cs, hc, h⟩ := h
      obtain rfl := Option.some.inj h
      rw [hd] at hp
      obtain rfl := Option.some.inj hp
      obtain ⟨out', h1, h2⟩ := fill_sim r hzc hc
      obtain ⟨pl, q1, q2⟩ := places_run H w fs.toList hf
      have hm : (fs.mapM (fun f => (do pure (f.offset, ← sizeOf f.type) : Sem (Nat × Nat)))).run P w = .ok pl.toArray w := by
        rw [Array.mapM_eq_mapM_toList]
        simp only [Sem.run_map]
        rw [q1]; rfl
      have e : (fun i : Nat => pl.toArray[i]?) = fun i : Nat => ob (fs[i]?) fun (f : Field) => ob (T.get f.type) fun j => some (f.offset, j.size) := by
        funext i
        have := q2 i
        simpa using this
      refine ⟨.agg out', ?_, .agg h2⟩
      simp only [hd, Sem.run_bind]
      rw [hm]
      simp only [Result.andThen_ok]
      rw [show (Instr.fill (fun x : Nat => pl.toArray[x]?) z.cells ps'.toList) = some out' by rw [e]; exact h1]
      rfl
  · rename_i n e hd
    replace h := ob_some h
    obtain ⟨p, hp, h⟩ := h
    replace h := ob_some h
    obtain ⟨cs, hc, h⟩ := h
    obtain rfl := Option.some.inj h
    rw [hd] at hp
    replace hp := ob_some hp
    obtain ⟨j, hj, hp⟩ := hp
    obtain rfl := Option.some.inj hp
    obtain ⟨out', h1, h2⟩ := fill_sim r hzc hc
    refine ⟨.agg out', ?_, .agg h2⟩
    simp only [hd, Sem.run_bind, run_sizeOf w H hj, Result.andThen_ok, h1]
    rfl
  · cases h

/-- a conversion of a number. -/
def aConv (T : TT) (s d : TypeId) (x : Value) : Option Value :=
  ob (T.get s) fun _ => ob (T.get d) fun j => match j.desc, x with
    | .int k, .int _ n => some (.int k (aWrap k n))
    | _, _ => none

theorem conv_sim {P : Program} {T : TT} (H : TOk P T) {ρ : Ren} {s d : TypeId} {x x' : Value} (hx : VRel ρ x x') {v : Value} (h : aConv T s d x = some v) (w : World) :
    ∃ v', (convert s d x').run P w = .ok v' w ∧ VRel ρ v v' := by
  replace h := ob_some h
  obtain ⟨i, hi, h⟩ := h
  replace h := ob_some h
  obtain ⟨j, hj, h⟩ := h
  split at h
  · rename_i k _ n hd
    cases hx
    simp only [Option.some.injEq, aWrap_eq] at h
    subst h
    refine ⟨_, ?_, .int _ _⟩
    unfold convert
    simp only [Sem.run_bind, run_under w H hi, run_under w H hj, Result.andThen_ok, hd]
    rfl
  · cases h

def aUn (op : UnOp) (x : Value) : Option Value :=
  match op, x with
  | .not, .bool b => some (.bool (!b))
  | .neg, .int k n => some (.int k (aWrap k (Int.sub 0 n)))
  | _, _ => none

theorem un_sim {P : Program} {ρ : Ren} {op : UnOp} {x x' : Value} (hx : VRel ρ x x') {v : Value} (h : aUn op x = some v) (w : World) : ∃ v', (Op.unary op x').run P w = .ok v' w ∧ VRel ρ v v' := by
  unfold aUn at h
  split at h
  · cases hx; obtain rfl := Option.some.inj h; exact ⟨_, rfl, .bool _⟩
  · cases hx
    simp only [aWrap_eq, Option.some.injEq] at h; subst h
    exact ⟨_, rfl, .int _ _⟩
  · cases h

def aLen (T : TT) (t : TypeId) (x : Value) : Option Value :=
  ob (T.get t) fun i => match i.desc, x with
    | .string, .string s => some (.int .i64 (Int.ofNat s.data.toList.length))
    | .array n _, _ => some (.int .i64 (Int.ofNat n))
    | .slice _, .slice _ n _ => some (.int .i64 (Int.ofNat n))
    | _, _ => none

theorem len_sim {P : Program} {T : TT} (H : TOk P T) {ρ : Ren} {ts : Array TypeId} {t rt : TypeId} (ht : ts[0]? = some t) {xs' : Array Value} {x x' : Value} (hx' : xs'[0]? = some x') (hx : VRel ρ x x') {v : Value} (h : aLen T t x = some v) (w : World) :
    ∃ v', (Builtin.len_ ts rt xs').run P w = .ok v' w ∧ VRel ρ v v' := by
  replace h := ob_some h
  obtain ⟨i, hi, h⟩ := h
  unfold Builtin.len_
  simp only [ht, hx', Sem.run_bind, run_under w H hi, Result.andThen_ok]
  split at h
  · rename_i s hd
    cases hx; obtain rfl := Option.some.inj h
    exact ⟨_, by simp only [hd]; rfl, .int _ _⟩
  · rename_i n e hd
    obtain rfl := Option.some.inj h
    exact ⟨_, by simp only [hd]; rfl, .int _ _⟩
  · rename_i e a n c hd
    obtain rfl := Option.some.inj h
    refine ⟨_, ?_, .int _ _⟩
    cases hx <;> (simp only [hd]; rfl)
  · cases h

def aCap (T : TT) (t : TypeId) (x : Value) : Option Value :=
  ob (T.get t) fun i => match i.desc, x with
    | .array n _, _ => some (.int .i64 (Int.ofNat n))
    | .slice _, .slice _ _ c => cnd (Nat.blt c openCap) (some (.int .i64 (Int.ofNat c))) none
    | _, _ => none

theorem cap_sim {P : Program} {T : TT} (H : TOk P T) {ρ : Ren} {ts : Array TypeId} {t rt : TypeId} (ht : ts[0]? = some t) {xs' : Array Value} {x x' : Value} (hx' : xs'[0]? = some x') (hx : VRel ρ x x') {v : Value} (h : aCap T t x = some v) (w : World) :
    ∃ v', (Builtin.cap_ ts rt xs').run P w = .ok v' w ∧ VRel ρ v v' := by
  replace h := ob_some h
  obtain ⟨i, hi, h⟩ := h
  unfold Builtin.cap_
  simp only [ht, hx', Sem.run_bind, run_under w H hi, Result.andThen_ok]
  split at h
  · rename_i n e hd
    obtain rfl := Option.some.inj h
    exact ⟨_, by simp only [hd]; rfl, .int _ _⟩
  · rename_i e a n c hd
    cases hc : Nat.blt c openCap with
    | false => simp [hc] at h
    | true =>
      simp only [hc, cnd_true, Option.some.injEq] at h
      subst h
      have := blt_lt hc
      refine ⟨_, ?_, .int _ _⟩
      cases hx <;> first
        | (simp only [hd]; rfl)
        | omega
  · cases h

/-- the least or the greatest of some numbers. -/
def aMM (mx : Bool) (k : IntKind) : Int → List Value → Option Value
  | x, [] => some (.int k x)
  | x, .int _ y :: rest => aMM mx k (cnd (cnd mx (iLt x y) (iLt y x)) y x) rest
  | _, _ => none

def aMinMax (mx : Bool) : List Value → Option Value
  | .int k x :: rest => aMM mx k x rest
  | _ => none

theorem mm_sim {P : Program} {ρ : Ren} (w : World) (k : IntKind) (mx : Bool) (f : Value → Value → Sem Value) (hf : ∀ x k' y, f (.int k x) (.int k' y) = pure (.int k (cnd (cnd mx (iLt x y) (iLt y x)) y x))) :
    ∀ (xs xs' : List Value), VRels ρ xs xs' → ∀ (x : Int) (v : Value), aMM mx k x xs = some v → (xs'.foldlM f (.int k x)).run P w = .ok v w ∧ VRel ρ v v
  | [], _, r, x, v, h => by
    cases r
    obtain rfl := Option.some.inj h
    exact ⟨rfl, .int _ _⟩
  | y :: xs, _, r, x, v, h => by
    cases r with
    | cons r t =>
      unfold aMM at h
      split at h
      · rename_i hh; cases hh
      · rename_i k' y rest hh
        cases hh
        cases r
        have := mm_sim (P := P) w k mx f hf xs _ t _ v h
        refine ⟨?_, this.2⟩
        rw [← this.1, List.foldlM_cons, hf]
        rfl
      · cases h

theorem min_sim {P : Program} {ρ : Ren} (w : World) {xs : List Value} {xs' : Array Value} (r : VRels ρ xs xs'.toList) {v : Value} (h : aMinMax false xs = some v) (ts : Array TypeId) (t : TypeId) : (Builtin.min_ ts t xs').run P w = .ok v w ∧ VRel ρ v v := by
  unfold aMinMax at h
  split at h
  · rename_i k x rest
    unfold Builtin.min_
    generalize xs'.toList = l at r
    cases r with
    | cons r0 t0 =>
      cases r0
      exact mm_sim w k false Builtin.min2 (fun x k' y => by
        rw [show (Builtin.min2 (.int k x) (.int k' y)) = pure (.int k (if y < x then y else x)) from rfl, cnd_false, iLt_eq]
        by_cases e : y < x <;> simp [e]) _ _ t0 x v h
  · cases h

theorem max_sim {P : Program} {ρ : Ren} (w : World) {xs : List Value} {xs' : Array Value} (r : VRels ρ xs xs'.toList) {v : Value} (h : aMinMax true xs = some v) (ts : Array TypeId) (t : TypeId) : (Builtin.max_ ts t xs').run P w = .ok v w ∧ VRel ρ v v := by
  unfold aMinMax at h
  split at h
  · rename_i k x rest
    unfold Builtin.max_
    generalize xs'.toList = l at r
    cases r with
    | cons r0 t0 =>
      cases r0
      exact mm_sim w k true Builtin.max2 (fun x k' y => by
        rw [show (Builtin.max2 (.int k x) (.int k' y)) = pure (.int k (if y > x then y else x)) from rfl, cnd_true, iLt_eq]
        by_cases e : x < y <;> simp [e]) _ _ t0 x v h
  · cases h

def isIfaceD : TypeDesc → Bool
  | .interface _ => true
  | _ => false

def aMakeIface (T : TT) (t : TypeId) (x : Value) : Option Value :=
  ob (T.get t) fun i => cnd (isIfaceD i.desc) none (some (.iface t x))

theorem makeIface_sim {P : Program} {T : TT} (H : TOk P T) {ρ : Ren} {t : TypeId} {x x' : Value} (hx : VRel ρ x x') {v : Value} (h : aMakeIface T t x = some v) (w : World) :
    ∃ v', (Instr.makeInterface t x').run P w = .ok v' w ∧ VRel ρ v v' := by
  replace h := ob_some h
  obtain ⟨i, hi, h⟩ := h
  cases hc : isIfaceD i.desc with
  | true => simp [hc] at h
  | false =>
    simp only [hc, cnd_false, Option.some.injEq] at h
    subst h
    refine ⟨_, ?_, .iface hx⟩
    unfold Instr.makeInterface
    simp only [Sem.run_bind, run_under w H hi, Result.andThen_ok]
    split
    · rename_i hd; rw [hd] at hc; cases hc
    · rfl

def aAssert (T : TT) (x : Value) (a : TypeId) (ok : Bool) : Option Value :=
  ob (T.get a) fun i => cnd (isIfaceD i.desc) none (match x with
    | .nilIface => cnd ok (ob i.zero fun z => some (.tuple ⟨[z, .bool false]⟩)) none
    | .iface t v => cnd (Nat.beq t a) (some (cnd ok (.tuple ⟨[v, .bool true]⟩) v)) (cnd ok (ob i.zero fun z => some (.tuple ⟨[z, .bool false]⟩)) none)
    | _ => none)

theorem assert_sim {P : Program} {T : TT} (H : TOk P T) {ρ : Ren} {xt a : TypeId} {ok : Bool} {x x' : Value} (hx : VRel ρ x x') {v : Value} (h : aAssert T x a ok = some v) (w : World) :
    ∃ v', (Instr.typeAssert x' xt a ok).run P w = .ok v' w ∧ VRel ρ v v' := by
  replace h := ob_some h
  obtain ⟨i, hi, h⟩ := h
  cases hc : isIfaceD i.desc with
  | true => simp [hc] at h
  | false =>
    simp only [hc, cnd_false] at h
    have nd : ∀ m, i.desc ≠ .interface m := fun m e => by rw [e] at hc; cases hc
    have zt : ∀ z, i.zero = some z → VRel ρ (.tuple ⟨[z, .bool false]⟩) (.tuple #[z, .bool false]) := fun z hz =>
      .tuple (.cons (closedV_rel (zero_closed H hi hz)) (.cons (.bool _) .nil))
    unfold Instr.typeAssert
    simp only [Sem.run_bind, run_under w H hi, Result.andThen_ok]
    split at h
    · cases hx
      cases ok with
      | false => cases h
      | true =>
        simp only [cnd_true] at h
        replace h := ob_some h
        obtain ⟨z, hz, h⟩ := h
        obtain rfl := Option.some.inj h
        refine ⟨_, ?_, zt z hz⟩
        cases hd : i.desc <;> first
          | exact absurd hd (nd _)
          | simp [run_zeroOf w H hi hz]
    · rename_i t u
      cases hx with
      | iface r =>
        rename_i u'
        cases e : Nat.beq t a with
        | true =>
          obtain rfl := Nat.eq_of_beq_eq_true e
          simp only [e, cnd_true, Option.some.injEq] at h
          subst h
          cases ok with
          | true =>
            refine ⟨.tuple #[u', .bool true], ?_, .tuple (.cons r (.cons (.bool _) .nil))⟩
            cases hd : i.desc <;> first
              | exact absurd hd (nd _)
              | simp
          | false =>
            refine ⟨u', ?_, r⟩
            cases hd : i.desc <;> first
              | exact absurd hd (nd _)
              | simp
        | false =>
          have ne : t ≠ a := fun q => by subst q; simp at e
          simp only [e, cnd_false] at h
          cases ok with
          | false => cases h
          | true =>
            simp only [cnd_true] at h
            replace h := ob_some h
            obtain ⟨z, hz, h⟩ := h
            obtain rfl := Option.some.inj h
            refine ⟨_, ?_, zt z hz⟩
            cases hd : i.desc <;> first
              | exact absurd hd (nd _)
              | simp [ne, run_zeroOf w H hi hz]
    · cases h
end

section
/-- an operation that yields a value, and what becomes of the heap. -/
def Good (ρ : Ren) (h : Heap) (nx : Nat) (w : World) (v : Value) (h' : Heap) (nx' : Nat) (r : Result Value) : Prop :=
  ∃ ρ' v' w', r = .ok v' w' ∧ VRel ρ' v v' ∧ HRel ρ' h' w' ∧ Moves ρ h nx w ρ' h' nx' w'

/-- an operation that yields none. -/
def GoodU (ρ : Ren) (h : Heap) (nx : Nat) (w : World) (h' : Heap) (nx' : Nat) (r : Result Unit) : Prop :=
  ∃ ρ' w', r = .ok () w' ∧ HRel ρ' h' w' ∧ Moves ρ h nx w ρ' h' nx' w'

theorem noFrost0 (n : Nat) : NoFrost (0, 0) n := .inl rfl

theorem crel_new {ρ : Ren} {b : Nat} {vs : List Value} {cs : Array Value} (r : VRels ρ vs cs.toList) : CRel ρ ⟨b, 0, cs.size⟩ vs false cs := by
  have hl := r.length
  have hcs : cs.toList.length = cs.size := rfl
  refine ⟨rfl, by simp; omega, fun _ => ⟨rfl, by omega⟩, fun i v hi => ?_⟩
  obtain ⟨v', h1, h2⟩ := r.get hi
  exact ⟨v', by simpa using h1, h2⟩

theorem push_lt (w : World) (o : Obj) (b : Nat) (hb : b < w.heap.size) : ({ w with heap := w.heap.push o } : World).heap[b]? = w.heap[b]? := by
  show (w.heap.push o)[b]? = _
  rw [Array.getElem?_push, if_neg (by omega)]

theorem push_at (w : World) (o : Obj) : ({ w with heap := w.heap.push o } : World).heap[w.heap.size]? = some o := by
  show (w.heap.push o)[w.heap.size]? = _
  rw [Array.getElem?_push, if_pos rfl]

/-- A NEW ROW OF CELLS. -/
theorem fresh_row {P : Program} {ρ : Ren} {h : Heap} {nx : Nat} {w : World} (H : HRel ρ h w) (hn : ρ nx = none) {vs : List Value} {cs : Array Value} (r : VRels ρ vs cs.toList) (e : TypeId) :
    ∃ w', (newRow e cs).run P w = .ok ⟨w.heap.size, 0, none⟩ w' ∧ HRel (ρ.with nx ⟨w.heap.size, 0, cs.size⟩) (h.set nx (.cells vs e false)) w' ∧
      Moves ρ h nx w (ρ.with nx ⟨w.heap.size, 0, cs.size⟩) (h.set nx (.cells vs e false)) (nx + 1) w' := by
  refine ⟨{ w with heap := w.heap.push (.cells cs e) }, ?_, ?_, ?_⟩
  · unfold newRow; simp
  · refine H.fresh hn rfl (fun b hb => push_lt w _ b hb) ⟨cs, (0, 0), push_at w _, noFrost0 _, ?_⟩
    exact (crel_new r).mono (Ren.with_ext hn)
  · exact Moves.fresh rfl rfl rfl rfl (by simp) (fun b hb => push_lt w _ b hb)

def aAlloc (T : TT) (h : Heap) (nx : Nat) (t : TypeId) : Option (Value × Heap) :=
  ob (T.get t) fun i => ob i.zero fun z => some (.pointer (some ⟨nx, 0, none⟩), h.set nx (.cells z.cells.toList t false))

theorem ptr_new {ρ : Ren} {nx b s : Nat} : VRel (ρ.with nx ⟨b, 0, s⟩) (.pointer (some ⟨nx, 0, none⟩)) (.pointer (some ⟨b, 0, none⟩)) :=
  .ptr (off := 0) (Ren.with_self ρ nx ⟨b, 0, s⟩)

theorem alloc_sim {P : Program} {T : TT} (HT : TOk P T) {ρ : Ren} {h h' : Heap} {nx : Nat} {w : World} (H : HRel ρ h w) (hn : ρ nx = none) {t : TypeId} {v : Value} (e : aAlloc T h nx t = some (v, h')) (old : Value) :
    Good ρ h nx w v h' (nx + 1) ((Instr.alloc t true old).run P w) := by
  replace e := ob_some e
  obtain ⟨i, hi, e⟩ := e
  replace e := ob_some e
  obtain ⟨z, hz, e⟩ := e
  obtain ⟨rfl, rfl⟩ : Value.pointer (some ⟨nx, 0, none⟩) = v ∧ h.set nx (.cells z.cells.toList t false) = h' := by simpa using Option.some.inj e
  obtain ⟨w', a, b, c⟩ := fresh_row (P := P) H hn (closedV_cells (zero_closed HT hi hz)) t
  refine ⟨_, _, w', ?_, ptr_new, b, c⟩
  unfold Instr.alloc
  simp only [Sem.run_bind, run_zeroOf w HT hi hz, Result.andThen_ok, newVar, a, Sem.run_pure]

def aBox (h : Heap) (nx : Nat) (t : TypeId) (x : Value) : Value × Heap := (.pointer (some ⟨nx, 0, none⟩), h.set nx (.cells x.cells.toList t false))

theorem box_sim {P : Program} {ρ : Ren} {h : Heap} {nx : Nat} {w : World} (H : HRel ρ h w) (hn : ρ nx = none) {t : TypeId} {x x' : Value} (r : VRel ρ x x') :
    Good ρ h nx w (aBox h nx t x).1 (aBox h nx t x).2 (nx + 1) ((Instr.box t x').run P w) := by
  obtain ⟨w', a, b, c⟩ := fresh_row (P := P) H hn r.cells t
  refine ⟨_, _, w', ?_, ptr_new, b, c⟩
  unfold Instr.box newVar
  simp only [Sem.run_bind, a, Result.andThen_ok, Sem.run_pure]

/-- a row of cells, so many times. -/
def rep : Nat → List Value → List Value
  | 0, _ => []
  | n + 1, l => l ++ rep n l

theorem rep_length (l : List Value) : ∀ n, (rep n l).length = n * l.length
  | 0 => by simp [rep]
  | n + 1 => by simp [rep, rep_length l n, Nat.add_mul]; omega

theorem rep_get (l : List Value) (hl : 0 < l.length) : ∀ (n i : Nat), i < n * l.length → (rep n l)[i]? = l[i % l.length]?
  | 0, i, h => by omega
  | n + 1, i, h => by
    unfold rep
    rw [Nat.add_mul] at h
    by_cases hlt : i < l.length
    · rw [List.getElem?_append_left hlt, Nat.mod_eq_of_lt hlt]
    · rw [List.getElem?_append_right (by omega), rep_get l hl n (i - l.length) (by omega)]
      congr 1
      exact (Nat.mod_eq_sub_mod (by omega)).symm

/-- what the model lays of a zero value. -/
theorem range_rep (zs : Array Value) (hz : 0 < zs.size) (n : Nat) : ((Array.range (n * zs.size)).map fun i => zs[i % zs.size]!).toList = rep n zs.toList := by
  have hs : zs.toList.length = zs.size := rfl
  apply List.ext_getElem?
  intro i
  by_cases hi : i < n * zs.size
  · rw [rep_get zs.toList (by omega) n i (by rw [hs]; exact hi)]
    have hm : i % zs.size < zs.size := Nat.mod_lt _ hz
    simp [hi, hs, getElem!_pos, hm]
  · rw [List.getElem?_eq_none (by simp; omega), List.getElem?_eq_none (by rw [rep_length, hs]; omega)]

theorem rep_rel {ρ : Ren} {l l' : List Value} (r : VRels ρ l l') : ∀ n, VRels ρ (rep n l) (rep n l')
  | 0 => .nil
  | n + 1 => r.append (rep_rel r n)

theorem rep_nil : ∀ n, rep n [] = []
  | 0 => rfl
  | n + 1 => by simp [rep, rep_nil n]

/-- zero cells for n elements of a type: so many cells an element. -/
def aZeros (i : TyI) (n : Nat) : Option (List Value) :=
  cnd (Nat.beq (n * i.size) 0) (some []) (ob i.zero fun z => cnd (Nat.beq z.cells.size i.size) (some (rep n z.cells.toList)) none)

theorem zeros_run {P : Program} {T : TT} (HT : TOk P T) {ρ : Ren} {e : TypeId} {i : TyI} (hi : T.get e = some i) {n : Nat} {zs : List Value} (hz : aZeros i n = some zs) (w : World) :
    ∃ z0 : Array Value, (if n * i.size = 0 then (pure #[] : Sem (Array Value)) else (do let z ← zeroValue e; pure z.cells)).run P w = .ok z0 w ∧ VRels ρ zs ((Array.range (n * i.size)).map fun j => z0[j % z0.size]!).toList := by
  unfold aZeros at hz
  rw [cond_beq] at hz
  by_cases h0 : n * i.size = 0
  · rw [if_pos h0] at hz
    obtain rfl := Option.some.inj hz
    refine ⟨#[], ?_, ?_⟩
    · rw [if_pos h0]; rfl
    · rw [h0]; simp; exact .nil
  · rw [if_neg h0] at hz
    replace hz := ob_some hz
    obtain ⟨z, hz1, hz⟩ := hz
    rw [cond_beq] at hz
    by_cases hs : z.cells.size = i.size
    · rw [if_pos hs] at hz
      obtain rfl := Option.some.inj hz
      refine ⟨z.cells, ?_, ?_⟩
      · rw [if_neg h0]
        simp only [Sem.run_bind, run_zeroOf w HT hi hz1, Result.andThen_ok, Sem.run_pure]
      · have hp : 0 < z.cells.size := by
          rcases Nat.eq_zero_or_pos z.cells.size with q | q
          · rw [hs] at q; rw [q] at h0; simp at h0
          · exact q
        rw [← hs, range_rep z.cells hp]
        exact rep_rel (closedV_cells (zero_closed HT hi hz1)) n
    · rw [if_neg hs] at hz; cases hz

def aBuildSlice (T : TT) (h : Heap) (nx : Nat) (t : TypeId) (len : Nat) (parts : List (Nat × Value)) : Option (Value × Heap) :=
  ob (T.get t) fun i => match i.desc with
    | .slice e => ob (T.get e) fun j => cnd (Nat.ble (len * j.size) 16777216)
        (ob (aZeros j len) fun zs => ob (aFill (fun k => some (k * j.size, j.size)) zs parts) fun cs => cnd (Nat.blt len openCap) (some (.slice (some ⟨nx, 0, none⟩) len len, h.set nx (.cells cs e false))) none) none
    | _ => none

theorem buildSlice_sim {P : Program} {T : TT} (HT : TOk P T) {ρ : Ren} {h h' : Heap} {nx : Nat} {w : World} (H : HRel ρ h w) (hn : ρ nx = none) {t : TypeId} {len : Nat} {ps : List (Nat × Value)} {ps' : Array (Nat × Value)} (r : PRels ρ ps ps'.toList) {v : Value}
    (e : aBuildSlice T h nx t len ps = some (v, h')) : Good ρ h nx w v h' (nx + 1) ((Instr.buildSlice t len ps').run P w) := by
  replace e := ob_some e
  obtain ⟨i, hi, e⟩ := e
  split at e
  · rename_i el hd
    replace e := ob_some e
    obtain ⟨j, hj, e⟩ := e
    cases hc : Nat.ble (len * j.size) 16777216 with
    | false => simp [hc] at e
    | true =>
      simp only [hc, cnd_true] at e
      have hle := Nat.le_of_ble_eq_true hc
      replace e := ob_some e
      obtain ⟨zs, hz, e⟩ := e
      replace e := ob_some e
      obtain ⟨cs, hf, e⟩ := e
      cases hl : Nat.blt len openCap with
      | false => simp [hl] at e
      | true =>
        simp only [hl, cnd_true, Option.some.injEq, Prod.mk.injEq] at e
        obtain ⟨rfl, rfl⟩ := e
        obtain ⟨zs', q1, q2⟩ := zeros_run HT (ρ := ρ) hj hz w
        obtain ⟨cs', q3, q4⟩ := fill_sim r q2 hf
        obtain ⟨w', a, b, c⟩ := fresh_row (P := P) H hn q4 el
        refine ⟨_, .slice (some ⟨w.heap.size, 0, none⟩) len len, w', ?_, ?_, b, c⟩
        · unfold Instr.buildSlice
          have hng : ¬ len * j.size > 2 ^ 24 := by omega
          rw [Sem.run_bind, run_under w HT hi, Result.andThen_ok, hd]
          simp only [Sem.run_bind, Result.andThen_ok, run_sizeOf w HT hj, if_neg hng]
          by_cases h0 : len * j.size = 0
          · rw [if_pos h0] at q1 ⊢
            have : zs' = #[] := by simpa using q1.symm
            subst this
            simp only [Sem.run_bind, Sem.run_pure, Result.andThen_ok, q3, a]
          · rw [if_neg h0] at q1 ⊢
            simp only [Sem.run_bind] at q1 ⊢
            cases hz0 : (zeroValue el).run P w with
            | halt x y => rw [hz0] at q1; cases q1
            | ok z w0 =>
              rw [hz0] at q1
              simp only [Result.andThen_ok, Sem.run_pure, Result.ok.injEq] at q1 ⊢
              obtain ⟨rfl, rfl⟩ := q1
              simp only [q3, Sem.run_bind, a, Result.andThen_ok, Sem.run_pure]
        · exact .slE (off := 0) (Ren.with_self ρ nx _) (blt_lt hl) (Nat.le_refl _)
  · cases e
end

section
def aMakeSlice (T : TT) (h : Heap) (nx : Nat) (t : TypeId) (len cap : Value) : Option (Value × Heap) :=
  match len, cap with
  | .int _ (.ofNat m), .int _ (.ofNat c) =>
    ob (T.get t) fun i => match i.desc with
      | .slice e => ob (T.get e) fun j =>
          cnd (Nat.ble m c && Nat.blt c 9223372036854775808 && Nat.ble (j.bytes * c) 281474976710656)
            (ob (aZeros j c) fun zs => some (.slice (some ⟨nx, 0, none⟩) m c, h.set nx (.cells zs e false))) none
      | _ => none
  | _, _ => none

theorem wrap_nat {m : Nat} (h : m < 9223372036854775808) : IntKind.i64.wrap (Int.ofNat m) = Int.ofNat m :=
  wrap_in (k := .i64) (n := Int.ofNat m) (by unfold inKind; unfold Nat.blt; exact Nat.ble_eq_true_of_le h)

theorem makeSlice_sim {P : Program} {T : TT} (HT : TOk P T) {ρ : Ren} {h h' : Heap} {nx : Nat} {w : World} (H : HRel ρ h w) (hn : ρ nx = none) {t : TypeId} {len cap len' cap' : Value} (rl : VRel ρ len len') (rc : VRel ρ cap cap') {v : Value}
    (e : aMakeSlice T h nx t len cap = some (v, h')) : Good ρ h nx w v h' (nx + 1) ((Instr.makeSlice t len' cap').run P w) := by
  unfold aMakeSlice at e
  split at e
  · cases rl; cases rc
    rename_i k m k' c
    replace e := ob_some e
    obtain ⟨i, hi, e⟩ := e
    split at e
    · rename_i el hd
      replace e := ob_some e
      obtain ⟨j, hj, e⟩ := e
      cases hc : (Nat.ble m c && Nat.blt c 9223372036854775808 && Nat.ble (j.bytes * c) 281474976710656) with
      | false => simp [hc] at e
      | true =>
        simp only [hc, cnd_true] at e
        simp only [Bool.and_eq_true] at hc
        obtain ⟨⟨h1, h2⟩, h3⟩ := hc
        have c1 := Nat.le_of_ble_eq_true h1
        have c2 := blt_lt h2
        have c3 := Nat.le_of_ble_eq_true h3
        replace e := ob_some e
        obtain ⟨zs, hz, e⟩ := e
        obtain ⟨rfl, rfl⟩ : Value.slice (some ⟨nx, 0, none⟩) m c = v ∧ h.set nx (.cells zs el false) = h' := by simpa using Option.some.inj e
        obtain ⟨inf, q0, q1, q2, _⟩ := run_tinfo w HT hj
        obtain ⟨zs', p1, p2⟩ := zeros_run HT (ρ := ρ) hj hz w
        obtain ⟨w', a, b, d⟩ := fresh_row (P := P) H hn p2 el
        refine ⟨_, .slice (some ⟨w.heap.size, 0, none⟩) m c, w', ?_, .slE (off := 0) (Ren.with_self ρ nx _) (by unfold openCap; omega) c1, b, d⟩
        have e1 := wrap_nat (show m < 9223372036854775808 by omega)
        have e2 := wrap_nat c2
        have hb : ¬ ((inf.bytes : Int) * Int.ofNat c > 2 ^ 48) := by
          rw [q2]
          have : ((j.bytes * c : Nat) : Int) ≤ 281474976710656 := by omega
          simp only [Int.ofNat_eq_natCast, Int.natCast_mul] at this ⊢
          omega
        unfold Instr.makeSlice
        rw [Sem.run_bind, run_under w HT hi, Result.andThen_ok, hd]
        have hcond : ¬ ((((decide (Int.ofNat c < 0) || decide ((inf.bytes : Int) * Int.ofNat c > 2 ^ 48)) || decide (Int.ofNat m < 0)) || decide (Int.ofNat m > Int.ofNat c)) = true) := by
          simp only [Bool.or_eq_true, decide_eq_true_eq, Int.ofNat_eq_natCast] at hb ⊢
          omega
        simp only [asInt, asIntOf, Sem.run_bind, Sem.run_pure, Result.andThen_ok, q0, e1, e2, if_neg hcond, run_askRoom, run_sizeOf w HT hj]
        have e3 : (Int.ofNat c).toNat = c := rfl
        have e4 : (Int.ofNat m).toNat = m := rfl
        rw [e3, e4]
        by_cases h0 : c * j.size = 0
        · rw [if_pos h0] at p1 ⊢
          have : zs' = #[] := by simpa using p1.symm
          subst this
          simp only [Sem.run_bind, Sem.run_pure, Result.andThen_ok, a]
        · rw [if_neg h0] at p1 ⊢
          simp only [Sem.run_bind] at p1 ⊢
          cases hz0 : (zeroValue el).run P w with
          | halt x y => rw [hz0] at p1; cases p1
          | ok z w0 =>
            rw [hz0] at p1
            simp only [Result.andThen_ok, Sem.run_pure, Result.ok.injEq] at p1 ⊢
            obtain ⟨rfl, rfl⟩ := p1
            simp only [a, Result.andThen_ok]
    · cases e
  · cases e

def aMakeMap (h : Heap) (nx : Nat) : Value × Heap := (.map (some nx), h.set nx (.map []))

theorem makeMap_sim {P : Program} {ρ : Ren} {h : Heap} {nx : Nat} {w : World} (H : HRel ρ h w) (hn : ρ nx = none) (t : TypeId) : Good ρ h nx w (aMakeMap h nx).1 (aMakeMap h nx).2 (nx + 1) ((Instr.makeMap t none).run P w) := by
  refine ⟨ρ.with nx ⟨w.heap.size, 0, 0⟩, .map (some w.heap.size), { w with heap := w.heap.push (.map #[] 0) }, ?_, .map (L := ⟨w.heap.size, 0, 0⟩) (Ren.with_self ρ nx _), ?_, ?_⟩
  · unfold Instr.makeMap; simp
  · exact H.fresh hn rfl (fun b hb => push_lt w _ b hb) ⟨#[], 0, push_at w _, .nil⟩
  · exact Moves.fresh rfl rfl rfl rfl (by simp) (fun b hb => push_lt w _ b hb)

/-- a variable read. -/
def aLoad (T : TT) (h : Heap) (t : TypeId) (x : Value) : Option Value :=
  match x with
  | .pointer (some ⟨o, off, none⟩) =>
    ob (h.get o) fun ob' => match ob' with
      | .cells c _ _ => ob (T.get t) fun i => cnd (isAggD i.desc) (cnd (Nat.ble (off + i.size) c.length) (some (.agg ⟨(c.drop off).take i.size⟩)) none) (c[off]?)
      | _ => none
  | _ => none

theorem load_sim {P : Program} {T : TT} (HT : TOk P T) {ρ : Ren} {h : Heap} {w : World} (H : HRel ρ h w) {t : TypeId} {x x' : Value} (hx : VRel ρ x x') {v : Value} (e : aLoad T h t x = some v) :
    ∃ v', (Instr.loadAt t x').run P w = .ok v' w ∧ VRel ρ v v' := by
  unfold aLoad at e
  split at e
  · rename_i o off
    cases hx with
    | ptr hL =>
      rename_i L
      replace e := ob_some e
      obtain ⟨obj, ho, e⟩ := e
      split at e
      · rename_i c el opn
        replace e := ob_some e
        obtain ⟨i, hi, e⟩ := e
        unfold Instr.loadAt loadVar
        simp only [Sem.run_bind, Instr.sureAddr, Sem.run_pure, Result.andThen_ok, run_isAgg' w HT hi]
        cases ha : isAggD i.desc with
        | true =>
          simp only [ha, cnd_true] at e
          cases hb : Nat.ble (off + i.size) c.length with
          | false => simp [hb] at e
          | true =>
            simp only [hb, cnd_true, Option.some.injEq] at e
            subst e
            obtain ⟨vs, a, b⟩ := H.load P ho hL (Nat.le_of_ble_eq_true hb)
            exact ⟨.agg vs, by simp [run_sizeOf w HT hi, a], .agg b⟩
        | false =>
          simp only [ha, cnd_false] at e
          obtain ⟨v', a, b⟩ := H.cell ho hL e
          exact ⟨v', by simp [a], b⟩
      · cases e
  · cases e

/-- are all values of one cell? -/
def ones : List Value → Bool
  | [] => true
  | .agg _ :: _ => false
  | .tuple _ :: _ => false
  | _ :: vs => ones vs

theorem VRel.one {ρ : Ren} {v v' : Value} (h : VRel ρ v v') : v'.oneCell' = v.oneCell' := by cases h <;> rfl

theorem ones_rel {ρ : Ren} : ∀ (us : List Value), ones us = true → ∀ {vs : List Value}, VRels ρ us vs → ∀ v ∈ vs, v.oneCell' = true
  | [], _, _, r, v, hv => by cases r; cases hv
  | u :: us, h, _, r, v, hv => by
    cases r with
    | cons r t =>
      have h1 : u.oneCell' = true ∧ ones us = true := by
        cases u <;> first | exact ⟨rfl, h⟩ | (simp [ones] at h)
      rcases List.mem_cons.1 hv with rfl | hv
      · rw [r.one]; exact h1.1
      · exact ones_rel us h1.2 t v hv

/-- a variable written. -/
def aStore (T : TT) (h : Heap) (t : TypeId) (x y : Value) : Option Heap :=
  match x with
  | .pointer (some ⟨o, off, none⟩) =>
    ob (h.get o) fun ob' => match ob' with
      | .cells c el opn => ob (T.get t) fun i => cnd (Nat.beq y.cells.size i.size && Nat.ble (off + i.size) c.length && ones y.cells.toList) (some (h.set o (.cells (putL off y.cells.toList c) el opn))) none
      | _ => none
  | _ => none

theorem store_sim {P : Program} {T : TT} (HT : TOk P T) {ρ : Ren} {h h' : Heap} {w : World} (H : HRel ρ h w) (nx : Nat) {t : TypeId} {x x' y y' : Value} (hx : VRel ρ x x') (hy : VRel ρ y y') (e : aStore T h t x y = some h') :
    GoodU ρ h nx w h' nx ((Instr.storeAt t x' y').run P w) := by
  unfold aStore at e
  split at e
  · rename_i o off
    cases hx with
    | ptr hL =>
      rename_i L
      replace e := ob_some e
      obtain ⟨obj, ho, e⟩ := e
      split at e
      · rename_i c el opn
        replace e := ob_some e
        obtain ⟨i, hi, e⟩ := e
        cases hc : (Nat.beq y.cells.size i.size && Nat.ble (off + i.size) c.length && ones y.cells.toList) with
        | false => simp [hc] at e
        | true =>
          simp only [hc, cnd_true, Option.some.injEq] at e
          subst e
          simp only [Bool.and_eq_true] at hc
          have c1 := Nat.eq_of_beq_eq_true hc.1.1
          have c2 := Nat.le_of_ble_eq_true hc.1.2
          have r := hy.cells
          have hl := r.length
          have s1 : y.cells.toList.length = y.cells.size := rfl
          have s2 : y'.cells.toList.length = y'.cells.size := rfl
          obtain ⟨w', a, b, d⟩ := H.store P ho hL r (ones_rel _ hc.2 r) (off := off) (by omega) nx
          refine ⟨ρ, w', ?_, b, d⟩
          unfold Instr.storeAt storeVar
          have hne : ¬ y'.cells.size ≠ i.size := by omega
          simp only [Sem.run_bind, Instr.sureAddr, Sem.run_pure, Result.andThen_ok, run_sizeOf w HT hi, if_neg hne]
          exact a
      · cases e
  · cases e
end

end
end Eng
end Go.Proofs.YtnicdlmcbkkkfaaGreatDoor

/-
  The walks of package ratio's inner functions: pair.plain, pair.signed, pair.may, upright, times, and of cmp.Compare, cmp.Or.
-/
import Derived.Test.YtghnmamdfinbpaaDoorRaA
import Derived.Test.YtghnmamdfinbpaaDoorShelf
namespace Go.Proofs.YtghnmamdfinbpaaDoor
open Go.RowKit

theorem hid {p : Prop} (h : p) : Hid p := h

theorem pplain_any (n d : Int) (x : Bool) (hx : (u32B n && u32B d) = x) (w : World) :
    Calls Tryd.prog 38 #[.agg #[.int .i64 n, .int .i64 d]] w fun e w' => e = .returned (.bool x) ∧ Below w.heap.size w w' := by
  subst hx
  obtain ⟨p, hp⟩ : ∃ p, u32B n = p := ⟨_, rfl⟩
  obtain ⟨q, hq⟩ : ∃ q, u32B d = q := ⟨_, rfl⟩
  rw [hp, hq]
  go_enter Tryd.func38, Tryd.ntmps38
  go_wp2_with fail
  refine (put4_any n p hp _).mono ?_
  rintro e w1 ⟨v, rfl, hb⟩
  have hc := fun o => hb.cell (p := ⟨w.heap.size, o, none⟩) (by simp)
  simp at hc
  have hc1 := hc 1
  clear hc hp
  have hz : w.heap.size + 1 ≤ w1.heap.size := by have := hb.size; simp at this; omega
  simp at hc1
  go_wp2_with fail
  refine (put4_any d q hq _).mono ?_
  rintro e w2 ⟨v2, rfl, hb2⟩
  clear hc1 hq
  cases p <;> cases q
  all_goals
    go_wp2_with fail
    go_ret
    exact ⟨rfl, (((Below.refl _ _).alloc (Nat.le_refl _) _).trans (hb.mono (by simp))).trans (hb2.mono (by omega))⟩

theorem psigned_any (n d : Int) (x : Bool) (hx : (s32B n && s32B d) = x) (w : World) :
    Calls Tryd.prog 39 #[.agg #[.int .i64 n, .int .i64 d]] w fun e w' => e = .returned (.bool x) ∧ Below w.heap.size w w' := by
  subst hx
  obtain ⟨p, hp⟩ : ∃ p, s32B n = p := ⟨_, rfl⟩
  obtain ⟨q, hq⟩ : ∃ q, s32B d = q := ⟨_, rfl⟩
  rw [hp, hq]
  go_enter Tryd.func39, Tryd.ntmps39
  go_wp2_with fail
  refine (plain4_any n p hp _).mono ?_
  rintro e w1 ⟨v, rfl, hb⟩
  have hc := fun o => hb.cell (p := ⟨w.heap.size, o, none⟩) (by simp)
  simp at hc
  have hc1 := hc 1
  clear hc hp
  have hz : w.heap.size + 1 ≤ w1.heap.size := by have := hb.size; simp at this; omega
  simp at hc1
  go_wp2_with fail
  refine (plain4_any d q hq _).mono ?_
  rintro e w2 ⟨v2, rfl, hb2⟩
  clear hc1 hq
  cases p <;> cases q
  all_goals
    go_wp2_with fail
    go_ret
    exact ⟨rfl, (((Below.refl _ _).alloc (Nat.le_refl _) _).trans (hb.mono (by simp))).trans (hb2.mono (by omega))⟩

/-- may a ratio be? -/
def mayR (n d : Int) : Bool := (u32B n && u32B d) || (s32B n && s32B d)

theorem bcell {W w1 : World} {B : Nat} (hb : Below B W w1) : (∀ b o, b < B → w1.cell? ⟨b, o, none⟩ = W.cell? ⟨b, o, none⟩) ∧ (∀ b o, b < B → w1.frozen? ⟨b, o, none⟩ = W.frozen? ⟨b, o, none⟩) :=
  ⟨fun b o h => hb.cell (p := ⟨b, o, none⟩) h, fun b o h => hb.frozen (p := ⟨b, o, none⟩) h⟩

set_option maxHeartbeats 400000 in
theorem pmay_any (n d : Int) (x : Bool) (hx : mayR n d = x) (w : World) :
    Calls Tryd.prog 21 #[.agg #[.int .i64 n, .int .i64 d]] w fun e w' => e = .returned (.bool x) ∧ Below w.heap.size w w' := by
  subst hx
  obtain ⟨p, hp⟩ : ∃ p, (u32B n && u32B d) = p := ⟨_, rfl⟩
  obtain ⟨q, hq⟩ : ∃ q, (s32B n && s32B d) = q := ⟨_, rfl⟩
  rw [show mayR n d = (p || q) by rw [← hp, ← hq]; rfl]
  have hmf : ∀ (fn : Fn) (first cap : Array Value) (w : World), (Instr.makeFunc fn first cap).run Tryd.prog w = .ok (.func fn first cap) w := fun _ _ _ _ => rfl
  have i0 : ∀ w, (Instr.index 52 (.agg #[.func (.func 38) #[.agg #[.int .i64 n, .int .i64 d]] #[], .func (.func 39) #[.agg #[.int .i64 n, .int .i64 d]] #[]]) (.int .i64 0)).run Tryd.prog w = .ok (.func (.func 38) #[.agg #[.int .i64 n, .int .i64 d]] #[]) w := fun _ => by kernel_rfl
  have i1 : ∀ w, (Instr.index 52 (.agg #[.func (.func 38) #[.agg #[.int .i64 n, .int .i64 d]] #[], .func (.func 39) #[.agg #[.int .i64 n, .int .i64 d]] #[]]) (.int .i64 1)).run Tryd.prog w = .ok (.func (.func 39) #[.agg #[.int .i64 n, .int .i64 d]] #[]) w := fun _ => by kernel_rfl
  have HP := hid hp
  have HQ := hid hq
  clear hp hq
  go_enter Tryd.func21, Tryd.ntmps21
  go_wp2_with fail
  refine wp_loop_rounds 3 ?_
  rw [rounds_succ]; go_wp2_with fail
  refine (pplain_any n d p HP.out _).mono ?_
  rintro e w1 ⟨rfl, hb⟩
  cases p
  · go_wp2_with fail
    rw [rounds_succ]; go_wp2_with fail
    refine (psigned_any n d q HQ.out _).mono ?_
    rintro e w2 ⟨rfl, hb2⟩
    cases q
    · go_wp2_with fail
      rw [rounds_succ]; go_wp2_with fail
      go_ret
      exact ⟨rfl, (((Below.refl _ _).alloc (Nat.le_refl _) _).trans (hb.mono (by simp))).trans (hb2.mono (by have := hb.size; simp at this; omega))⟩
    · go_wp2_with fail
      go_ret
      exact ⟨rfl, (((Below.refl _ _).alloc (Nat.le_refl _) _).trans (hb.mono (by simp))).trans (hb2.mono (by have := hb.size; simp at this; omega))⟩
  · go_wp2_with fail
    go_ret
    exact ⟨rfl, (((Below.refl _ _).alloc (Nat.le_refl _) _).trans (hb.mono (by simp)))⟩

end Go.Proofs.YtghnmamdfinbpaaDoor

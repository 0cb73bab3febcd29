/-
  The walks of package octet that every layer stands on: may, top, Put, Plain at four bytes (for package ratio): what each returns, and that nothing that was there is written.
-/
import Derived.Test.YtghnmamdfinbpaaDoorRows
import Derived.WalkKit
namespace Go.Proofs.YtghnmamdfinbpaaDoor
open Go.RowKit

/-- is a size and an order such? -/
def szB (s : Int) : Bool := s == 1 || s == 2 || s == 4
def mayB (s o : Int) : Bool := szB s && (o == 1 || o == 2)

theorem may1_any (n : Int) (a : Addr) (s : Int) (w : World) (hc : w.cell? a = some (.int .i64 s)) :
    Calls Tryd.prog 75 #[.int .i64 n, .pointer (some a)] w fun e w' => e = .returned (.bool (n == s)) ∧ w = w' := by
  go_enter Tryd.func75, Tryd.ntmps75
  go_wp2
  go_ret
  exact ⟨rfl, rfl⟩

def idx3 (s : Int) : Int := if s = 1 then 0 else if s = 2 then 1 else if s = 4 then 2 else -1

set_option maxHeartbeats 400000 in
theorem idx3_any (b o : Nat) (a : Addr) (s : Int) (w : World) (hc : w.cell? a = some (.int .i64 s))
   (h0 : w.cell? ⟨b, o, none⟩ = some (.int .i64 1)) (h1 : w.cell? ⟨b, o+1, none⟩  = some (.int .i64 2)) (h2 : w.cell? ⟨b, o+2, none⟩ = some (.int .i64 4)) :
    Calls Tryd.prog 85 #[.slice (some ⟨b, o, none⟩) 3 3, .func (.func 75) #[] #[.pointer (some a)]] w fun e w' => e = .returned (.int .i64 (idx3 s)) ∧ w = w' := by
  have e1 : s = 1 ∨ ((1 : Int) == s) = false := by by_cases h : s = 1; left; exact h; right; simp; omega
  have e2 : s = 2 ∨ ((2 : Int) == s) = false := by by_cases h : s = 2; left; exact h; right; simp; omega
  have e4 : s = 4 ∨ ((4 : Int) == s) = false := by by_cases h : s = 4; left; exact h; right; simp; omega
  rcases e1 with rfl | e1
  · go_enter Tryd.func85, Tryd.ntmps85
    go_wp2
    refine wp_loop_rounds 4 ?_
    iterate 1 (rw [rounds_succ]; go_wp2_with ((go_at_call 75; refine (may1_any _ _ _ _ hc).mono ?_; rintro e w' ⟨rfl, rfl⟩)))
    go_ret
    exact ⟨rfl, rfl⟩
  rcases e2 with rfl | e2
  · go_enter Tryd.func85, Tryd.ntmps85
    go_wp2
    refine wp_loop_rounds 4 ?_
    iterate 2 (rw [rounds_succ]; go_wp2_with ((go_at_call 75; refine (may1_any _ _ _ _ hc).mono ?_; rintro e w' ⟨rfl, rfl⟩)))
    go_ret
    exact ⟨rfl, rfl⟩
  rcases e4 with rfl | e4
  · go_enter Tryd.func85, Tryd.ntmps85
    go_wp2
    refine wp_loop_rounds 4 ?_
    iterate 3 (rw [rounds_succ]; go_wp2_with ((go_at_call 75; refine (may1_any _ _ _ _ hc).mono ?_; rintro e w' ⟨rfl, rfl⟩)))
    go_ret
    exact ⟨rfl, rfl⟩
  · have hn : idx3 s = -1 := by simp at e1 e2 e4; unfold idx3; rw [if_neg (by omega), if_neg (by omega), if_neg (by omega)]
    rw [hn]
    go_enter Tryd.func85, Tryd.ntmps85
    go_wp2
    refine wp_loop_rounds 4 ?_
    iterate 4 (rw [rounds_succ]; go_wp2_with ((go_at_call 75; refine (may1_any _ _ _ _ hc).mono ?_; rintro e w' ⟨rfl, rfl⟩)))
    go_ret
    exact ⟨rfl, rfl⟩

theorem szB_idx (s : Int) : decide (0 ≤ idx3 s) = szB s := by
  unfold idx3 szB
  split
  · subst s; rfl
  split
  · subst s; rfl
  split
  · subst s; rfl
  · simp [*]

theorem contains3_any (b : Nat) (a : Addr) (s : Int) (w : World) (x : Bool) (hx : szB s = x) (hc : w.cell? a = some (.int .i64 s))
   (h0 : w.cell? ⟨b, 0, none⟩ = some (.int .i64 1)) (h1 : w.cell? ⟨b, 1, none⟩  = some (.int .i64 2)) (h2 : w.cell? ⟨b, 2, none⟩ = some (.int .i64 4)) :
    Calls Tryd.prog 74 #[.slice (some ⟨b, 0, none⟩) 3 3, .func (.func 75) #[] #[.pointer (some a)]] w fun e w' => e = .returned (.bool x) ∧ w = w' := by
  rw [← hx, ← szB_idx]
  go_enter Tryd.func74, Tryd.ntmps74
  go_wp2_with ((go_at_call 85; refine (idx3_any _ _ _ _ _ hc h0 (by simpa using h1) (by simpa using h2)).mono ?_; rintro e w' ⟨rfl, rfl⟩))
  go_ret
  exact ⟨rfl, rfl⟩

set_option maxHeartbeats 400000 in
theorem may_any (s o : Int) (w : World)  :
    Calls Tryd.prog 60 #[.int .i64 s, .int .i64 o] w fun e w' => e = .returned (.bool (mayB s o)) ∧ Below w.heap.size w w' := by
  by_cases hs : szB s = true
  · by_cases h1 : o = 1
    · subst h1
      have hm : mayB s 1 = true := by simp [mayB, hs]
      rw [hm]; clear hm
      go_enter Tryd.func60, Tryd.ntmps60
      go_wp2_with ((go_at_call 74; refine (contains3_any _ _ _ _ true hs (by simp) (by simp) (by simp) (by simp)).mono ?_; rintro e w' ⟨rfl, rfl⟩))
      go_ret
      exact ⟨rfl, ((Below.refl _ _).alloc (Nat.le_refl _) _).alloc (by simp) _⟩
    · by_cases h2 : o = 2
      · subst h2
        have hm : mayB s 2 = true := by simp [mayB, hs]
        rw [hm]; clear hm
        go_enter Tryd.func60, Tryd.ntmps60
        go_wp2_with ((go_at_call 74; refine (contains3_any _ _ _ _ true hs (by simp) (by simp) (by simp) (by simp)).mono ?_; rintro e w' ⟨rfl, rfl⟩))
        go_ret
        exact ⟨rfl, ((Below.refl _ _).alloc (Nat.le_refl _) _).alloc (by simp) _⟩
      · have hm : mayB s o = false := by simp [mayB, h1, h2]
        rw [hm]; clear hm
        have h1' : (o == 1) = false := by simpa using h1
        have h2' : (o == 2) = false := by simpa using h2
        go_enter Tryd.func60, Tryd.ntmps60
        go_wp2_with ((go_at_call 74; refine (contains3_any _ _ _ _ true hs (by simp) (by simp) (by simp) (by simp)).mono ?_; rintro e w' ⟨rfl, rfl⟩))
        go_ret
        exact ⟨rfl, ((Below.refl _ _).alloc (Nat.le_refl _) _).alloc (by simp) _⟩
  · have hs' : szB s = false := by simpa using hs
    have hm : mayB s o = false := by simp [mayB, hs']
    rw [hm]; clear hm
    go_enter Tryd.func60, Tryd.ntmps60
    go_wp2_with ((go_at_call 74; refine (contains3_any _ _ _ _ false hs' (by simp) (by simp) (by simp) (by simp)).mono ?_; rintro e w' ⟨rfl, rfl⟩))
    go_ret
    exact ⟨rfl, ((Below.refl _ _).alloc (Nat.le_refl _) _).alloc (by simp) _⟩

theorem may_yes (s o : Int) (w : World) (h : mayB s o = true) :
    Calls Tryd.prog 60 #[.int .i64 s, .int .i64 o] w fun e w' => e = .returned (.bool true) ∧ Below w.heap.size w w' := by
  have := may_any s o w; rw [h] at this; exact this

theorem top_any (s : Int) (w : World) (h : s = 1 ∨ s = 2 ∨ s = 4) :
    Calls Tryd.prog 61 #[.int .i64 s] w fun e w' => e = .returned (.int .i64 (256 ^ s.toNat)) ∧ w = w' := by
  rcases h with rfl | rfl | rfl
  all_goals
    go_enter Tryd.func61, Tryd.ntmps61
    go_wp2
    go_ret
    exact ⟨rfl, rfl⟩
theorem top4 (w : World) :
    Calls Tryd.prog 61 #[.int .i64 4] w fun e w' => e = .returned (.int .i64 4294967296) ∧ w = w' := top_any 4 w (by simp)

end Go.Proofs.YtghnmamdfinbpaaDoor

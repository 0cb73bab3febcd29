/-
  The walks of octet.Put and octet.Plain at four bytes, and of the ratio's own checks.
-/
import Derived.Test.YtghnmamdfinbpaaDoorOct
namespace Go.Proofs.YtghnmamdfinbpaaDoor
open Go.RowKit

/-- is it an unsigned, a signed number of four bytes? -/
def u32B (n : Int) : Bool := decide (0 ≤ n) && decide (n < 4294967296)
def s32B (n : Int) : Bool := decide (-2147483648 ≤ n) && decide (n < 2147483648)

set_option maxRecDepth 20000 in
set_option maxHeartbeats 400000 in
theorem put4_yes (n : Int) (w : World) (h0 : 0 ≤ n) (h1 : n < 4294967296) :
    Calls Tryd.prog 50 #[.int .i64 n, .int .i64 4, .int .i64 2] w fun e w' => ∃ v, e = .returned (.tuple #[v, .bool true]) ∧ Below w.heap.size w w' := by
  have hn : decide (n < 0) = false := by simp; omega
  have ht : decide (4294967296 ≤ n) = false := by simp; omega
  have hmk : ∀ w, (Instr.makeSlice 60 (.int .i64 4) (.int .i64 4)).run Tryd.prog w = .ok (.slice (some ⟨w.heap.size,0,none⟩) 4 4) (w.alloc (.cells #[.int .u8 0, .int .u8 0, .int .u8 0, .int .u8 0] 5)) := fun _ => by kernel_rfl
  go_enter Tryd.func50, Tryd.ntmps50
  go_wp2_with (first | (go_at_call 60; refine (may_yes _ _ _ rfl).mono ?_; rintro e w1 ⟨rfl, hb⟩) | (go_at_call 61; refine (top4 _).mono ?_; rintro e w' ⟨rfl, rfl⟩))
  refine wp_loop_rounds 5 ?_
  iterate 5 (rw [rounds_succ]; go_wp2_with fail)
  go_ret2
  exact ⟨_, rfl, hb.alloc hb.size _⟩

set_option maxRecDepth 20000 in
set_option maxHeartbeats 400000 in
theorem put4_no (n : Int) (w : World) (h : n < 0 ∨ 4294967296 ≤ n) :
    Calls Tryd.prog 50 #[.int .i64 n, .int .i64 4, .int .i64 2] w fun e w' => ∃ v, e = .returned (.tuple #[v, .bool false]) ∧ Below w.heap.size w w' := by
  by_cases h0 : n < 0
  · have hn : decide (n < 0) = true := by simpa using h0
    clear h
    go_enter Tryd.func50, Tryd.ntmps50
    go_wp2_with (first | (go_at_call 60; refine (may_yes _ _ _ rfl).mono ?_; rintro e w1 ⟨rfl, hb⟩) | (go_at_call 61; refine (top4 _).mono ?_; rintro e w' ⟨rfl, rfl⟩))
    go_ret2
    exact ⟨_, rfl, hb⟩
  · have hn : decide (n < 0) = false := by simpa using h0
    have ht : decide (4294967296 ≤ n) = true := by simp; omega
    have ht' : 4294967296 ≤ n := by omega
    clear h
    go_enter Tryd.func50, Tryd.ntmps50
    go_wp2_with (first | (go_at_call 60; refine (may_yes _ _ _ rfl).mono ?_; rintro e w1 ⟨rfl, hb⟩) | (go_at_call 61; refine (top4 _).mono ?_; rintro e w' ⟨rfl, rfl⟩))
    go_ret2
    exact ⟨_, rfl, hb⟩

theorem put4_any (n : Int) (x : Bool) (hx : u32B n = x) (w : World) :
    Calls Tryd.prog 50 #[.int .i64 n, .int .i64 4, .int .i64 2] w fun e w' => ∃ v, e = .returned (.tuple #[v, .bool x]) ∧ Below w.heap.size w w' := by
  subst hx
  by_cases h : 0 ≤ n ∧ n < 4294967296
  · have : u32B n = true := by simp [u32B, h.1, h.2]
    rw [this]; exact put4_yes n w h.1 h.2
  · have : u32B n = false := by simp [u32B]; omega
    rw [this]; exact put4_no n w (by omega)

set_option maxRecDepth 20000 in
set_option maxHeartbeats 400000 in
theorem plain4_any (n : Int) (x : Bool) (hx : s32B n = x) (w : World) :
    Calls Tryd.prog 51 #[.int .i64 n, .int .i64 4] w fun e w' => ∃ v, e = .returned (.tuple #[v, .bool x]) ∧ Below w.heap.size w w' := by
  subst hx
  by_cases h : n < -2147483648
  · have : s32B n = false := by simp [s32B]; omega
    rw [this]; clear this
    have hn : decide (n < -2147483648) = true := by simpa using h
    go_enter Tryd.func51, Tryd.ntmps51
    go_wp2_with (first | (go_at_call 60; refine (may_yes _ _ _ rfl).mono ?_; rintro e w1 ⟨rfl, hb⟩) | (go_at_call 61; refine (top4 _).mono ?_; rintro e w' ⟨rfl, rfl⟩))
    go_ret2
    exact ⟨_, rfl, hb⟩
  have hn : decide (n < -2147483648) = false := by simpa using h
  by_cases h2 : 2147483648 ≤ n
  · have : s32B n = false := by simp [s32B]; omega
    rw [this]; clear this
    have hn2 : decide (2147483648 ≤ n) = true := by simpa using h2
    go_enter Tryd.func51, Tryd.ntmps51
    go_wp2_with (first | (go_at_call 60; refine (may_yes _ _ _ rfl).mono ?_; rintro e w1 ⟨rfl, hb⟩) | (go_at_call 61; refine (top4 _).mono ?_; rintro e w' ⟨rfl, rfl⟩))
    go_ret2
    exact ⟨_, rfl, hb⟩
  have hn2 : decide (2147483648 ≤ n) = false := by simpa using h2
  have : s32B n = true := by simp [s32B]; omega
  rw [this]; clear this
  by_cases h3 : n < 0
  all_goals
    go_enter Tryd.func51, Tryd.ntmps51
    go_wp2_with (first | (go_at_call 60; refine (may_yes _ _ _ rfl).mono ?_; rintro e w1 ⟨rfl, hb⟩) | (go_at_call 61; refine (top4 _).mono ?_; rintro e w' ⟨rfl, rfl⟩))
    go_ret2
    exact ⟨_, rfl, hb⟩

end Go.Proofs.YtghnmamdfinbpaaDoor

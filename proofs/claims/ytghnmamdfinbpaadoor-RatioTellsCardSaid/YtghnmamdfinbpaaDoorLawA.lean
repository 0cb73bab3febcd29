/-
  The walks of the statements' own helpers of, told.
-/
import Derived.Test.YtghnmamdfinbpaaDoorRaP
namespace Go.Proofs.YtghnmamdfinbpaaDoor
open Go.RowKit Go.Sort

theorem of_any (n d : Int) (w : World) :
    Calls Tryd.prog 30 #[.int .i64 n, .int .i64 d] w fun e w' => e = .returned (.agg #[.int .i64 n, .int .i64 d]) ∧ Held w w' := by
  go_enter Tryd.func30, Tryd.ntmps30
  go_wp2_with fail
  exact bodyPost_ret (v := .agg #[.int .i64 n, .int .i64 d]) (by simp [results, Tryd.results30, go_sem]) rfl ⟨rfl, (Held.refl w).alloc _⟩

set_option maxRecDepth 20000 in
set_option maxHeartbeats 800000 in
theorem told_yes (n d : Int) (ok : Bool) (h : (ok == (d != 0)) = true) (w : World) :
    Calls Tryd.prog 31 #[.agg #[.int .i64 n, .int .i64 d], .bool ok, .int .i64 n, .int .i64 d] w fun e w' => e = .returned (.bool true) ∧ Held w w' := by
  go_enter Tryd.func31, Tryd.ntmps31
  go_upto_region 1 with fail
  have hh : Held w (w.alloc (.cells #[.int .i64 n, .int .i64 d] 23)) := (Held.refl w).alloc _
  have c0 : (w.alloc (.cells #[.int .i64 n, .int .i64 d] 23)).cell? ⟨w.heap.size, 0, none⟩ = some (.int .i64 n) := by simp
  have c1 : (w.alloc (.cells #[.int .i64 n, .int .i64 d] 23)).cell? ⟨w.heap.size, 1, none⟩ = some (.int .i64 d) := by simp
  generalize w.alloc (.cells #[.int .i64 n, .int .i64 d] 23) = w1 at *
  have k0 := cell_regrown c0
  have k1 := cell_regrown c1
  have Q := hid (qcall (w := w1) fun W _ => of_any n d W)
  refine wp_region_quiet_below (by kernel_rfl) (by kernel_rfl) ?_
  repeat (quiet_step (exact Q.out _ _))
  refine wpQuiet_nil ?_
  intro _ hw'
  obtain ⟨⟨dq, osq⟩, hw''⟩ := hw'
  subst hw''
  go_wp2_with fail
  go_ret
  exact ⟨rfl, hh.tr (held_regrown _ _ _)⟩

end Go.Proofs.YtghnmamdfinbpaaDoor

/-
  The walk of the reference's Near: its no.
-/
import Derived.Test.YtghnmamdfinbpaaDoorRefNear
namespace Go.Proofs.YtghnmamdfinbpaaDoor
open Go.RowKit

set_option maxRecDepth 20000 in
set_option maxHeartbeats 800000 in
theorem rnear_no (a b most : Int) (w : World) (h : askB a b most = false) :
    Calls Tryd.prog 12 #[.agg #[.int .i64 a, .int .i64 b], .int .i64 most] w fun e w' => e = .returned (.tuple #[.agg #[.int .i64 0, .int .i64 0], .bool false]) ∧ Held w w' := by
  obtain ⟨p, hp⟩ : ∃ p, mayR a b = p := ⟨_, rfl⟩
  have H := hid h
  have M1 := hid hp
  clear h hp
  go_enter Tryd.func12, Tryd.ntmps12
  go_wp2_with fail
  refine (rmay_any a b p M1.out _).mono ?_
  rintro e w1 ⟨rfl, hb1⟩
  have c0 := Held.cell (b := w.heap.size) (o := 0) (v := .int .i64 a) (by simp) hb1
  have c1 := Held.cell (b := w.heap.size) (o := 1) (v := .int .i64 b) (by simp) hb1
  have c2 := Held.cell (b := w.heap.size + 1) (o := 0) (v := .int .i64 0) (by simp) hb1
  have c3 := Held.cell (b := w.heap.size + 1) (o := 1) (v := .int .i64 0) (by simp) hb1
  have f2 := Held.frozen (b := w.heap.size + 1) (o := 0) (v := .int .i64 0) (x := false) (by simp) (by simp) hb1
  have f3 := Held.frozen (b := w.heap.size + 1) (o := 1) (v := .int .i64 0) (x := false) (by simp) (by simp) hb1
  have hd : Held w w1 := (((Held.refl w).alloc _).alloc _).tr hb1
  clear hb1
  cases p
  · go_wp2_with fail
    exact bodyPost_ret (v := .tuple #[.agg #[.int .i64 0, .int .i64 0], .bool false]) (by simp [results, Tryd.results12, go_sem, c2, c3]) rfl ⟨rfl, (hd.set _ (by simp)).set _ (by simp)⟩
  by_cases h0 : a < 0
  · have n1 : decide (a < 0) = true := by simpa using h0
    go_wp2_with fail
    exact bodyPost_ret (v := .tuple #[.agg #[.int .i64 0, .int .i64 0], .bool false]) (by simp [results, Tryd.results12, go_sem, c2, c3]) rfl ⟨rfl, (hd.set _ (by simp)).set _ (by simp)⟩
  have n1 : decide (a < 0) = false := by simpa using h0
  by_cases h1 : b < 1
  · have n2 : decide (b < 1) = true := by simpa using h1
    go_wp2_with fail
    exact bodyPost_ret (v := .tuple #[.agg #[.int .i64 0, .int .i64 0], .bool false]) (by simp [results, Tryd.results12, go_sem, c2, c3]) rfl ⟨rfl, (hd.set _ (by simp)).set _ (by simp)⟩
  have n2 : decide (b < 1) = false := by simpa using h1
  by_cases h2 : most < 1
  · have n3 : decide (most < 1) = true := by simpa using h2
    go_wp2_with fail
    exact bodyPost_ret (v := .tuple #[.agg #[.int .i64 0, .int .i64 0], .bool false]) (by simp [results, Tryd.results12, go_sem, c2, c3]) rfl ⟨rfl, (hd.set _ (by simp)).set _ (by simp)⟩
  have n3 : decide (most < 1) = false := by simpa using h2
  by_cases h3 : 4096 < most
  · have n4 : decide (4096 < most) = true := by simpa using h3
    go_wp2_with fail
    exact bodyPost_ret (v := .tuple #[.agg #[.int .i64 0, .int .i64 0], .bool false]) (by simp [results, Tryd.results12, go_sem, c2, c3]) rfl ⟨rfl, (hd.set _ (by simp)).set _ (by simp)⟩
  exfalso
  have h := H.out
  have m := M1.out
  simp [askB, m] at h
  omega

end Go.Proofs.YtghnmamdfinbpaaDoor

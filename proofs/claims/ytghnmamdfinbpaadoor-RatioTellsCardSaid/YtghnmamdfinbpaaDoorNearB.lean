/-
  The walk of ratio.Near, its other ways; what it answers, for every ratio and number.
-/
import Derived.Test.YtghnmamdfinbpaaDoorNear
namespace Go.Proofs.YtghnmamdfinbpaaDoor
open Go.RowKit

theorem near_self {N D most : Int} (hN : 0 ≤ N) (hD : 0 < D) (hm : D ≤ most) (hc : ∀ x y : Int, 1 ≤ y → x * D = N * y → D ≤ y) : NearSpec N D most N D := by
  refine ⟨hN, by omega, hm, fun x y h1 h2 => ?_⟩
  have e : ((N * D - N * D).natAbs : Int) = 0 := by simp
  rw [e, Int.zero_mul]
  refine ⟨Int.mul_nonneg (by omega) (by omega), fun h => ?_⟩
  have h3 : ((x * D - N * y).natAbs : Int) = 0 := by
    rcases Int.mul_eq_zero.1 h.symm with h | h <;> omega
  have h4 : x * D = N * y := by omega
  have h5 := hc x y h1 h4
  by_cases h6 : D < y
  · left; exact h6
  · right
    have h7 : D = y := by omega
    refine ⟨h7, ?_⟩
    rw [← h7] at h4
    have := Int.eq_of_mul_eq_mul_right (by omega) h4
    omega

set_option maxRecDepth 20000 in
set_option maxHeartbeats 800000 in
theorem near_small (a b most : Int) (w : World) (h1 : mayR a b = true) (ha : 0 ≤ a) (hb : 1 ≤ b) (hm1 : 1 ≤ most) (hm2 : most ≤ 4096) (hD : leD a b ≤ most) :
    Calls Tryd.prog 11 #[.agg #[.int .i64 a, .int .i64 b], .int .i64 most] w fun e w' => e = .returned (.tuple #[.agg #[.int .i64 (leN a b), .int .i64 (leD a b)], .bool true]) ∧ Held w w' := by
  have M1 := hid h1
  have hb' : b ≠ 0 := by omega
  clear h1
  have n1 : decide (a < 0) = false := by simpa using ha
  have n2 : decide (b < 1) = false := by simpa using hb
  have n3 : decide (most < 1) = false := by simpa using hm1
  have n4 : decide (4096 < most) = false := by simpa using hm2
  go_enter Tryd.func11, Tryd.ntmps11
  go_wp2_with fail
  refine (pmay_any a b true M1.out _).mono ?_
  rintro e w1 ⟨rfl, hb1⟩
  have c0 := Held.cell (b := w.heap.size) (o := 0) (v := .int .i64 a) (by simp) hb1
  have c1 := Held.cell (b := w.heap.size) (o := 1) (v := .int .i64 b) (by simp) hb1
  go_wp2_with fail
  refine (least_yes a b _ M1.out hb').mono ?_
  rintro e w2 ⟨rfl, hb2⟩
  generalize hN : leN a b = N at *
  generalize hDD : leD a b = D at *
  have EN := hid hN
  have ED := hid hDD
  clear hN hDD
  have c2 := Held.cell (b := w.heap.size + 1) (o := 0) (v := .int .i64 0) (by simp) hb1
  have c3 := Held.cell (b := w.heap.size + 1) (o := 1) (v := .int .i64 0) (by simp) hb1
  have f0 := Held.frozen (b := w.heap.size) (o := 0) (v := .int .i64 a) (x := false) (by simp) (by simp) hb1
  have f1 := Held.frozen (b := w.heap.size) (o := 1) (v := .int .i64 b) (x := false) (by simp) (by simp) hb1
  have f2 := Held.frozen (b := w.heap.size + 1) (o := 0) (v := .int .i64 0) (x := false) (by simp) (by simp) hb1
  have f3 := Held.frozen (b := w.heap.size + 1) (o := 1) (v := .int .i64 0) (x := false) (by simp) (by simp) hb1
  have d0 := Held.cell c0 hb2
  have d1 := Held.cell c1 hb2
  have d2 := Held.cell c2 hb2
  have d3 := Held.cell c3 hb2
  have g0 := Held.frozen c0 f0 hb2
  have g1 := Held.frozen c1 f1 hb2
  have g2 := Held.frozen c2 f2 hb2
  have g3 := Held.frozen c3 f3 hb2
  have hd : Held w w2 := ((((Held.refl w).alloc _).alloc _).tr hb1).tr hb2
  clear c0 c1 c2 c3 f0 f1 f2 f3 hb1 hb2
  go_wp2_with fail
  exact bodyPost_ret (v := .tuple #[.agg #[.int .i64 N, .int .i64 D], .bool true]) (by simp [results, Tryd.results11, go_sem, d2, d3]) rfl ⟨by rw [EN.out, ED.out], (((hd.set _ (by simp)).set _ (by simp)).set _ (by simp)).set _ (by simp)⟩

/-- may Near be asked so? -/
def askB (a b most : Int) : Bool := mayR a b && decide (0 ≤ a) && decide (1 ≤ b) && decide (1 ≤ most) && decide (most ≤ 4096)

theorem near_yes (a b most : Int) (w : World) (h : askB a b most = true) :
    Calls Tryd.prog 11 #[.agg #[.int .i64 a, .int .i64 b], .int .i64 most] w fun e w' => ∃ p q, e = .returned (.tuple #[.agg #[.int .i64 p, .int .i64 q], .bool true]) ∧ NearSpec (leN a b) (leD a b) most p q ∧ Held w w' := by
  simp only [askB, Bool.and_eq_true, decide_eq_true_eq] at h
  obtain ⟨⟨⟨⟨h1, h2⟩, h3⟩, h4⟩, h5⟩ := h
  have F := least_facts h1 h2 h3
  by_cases hD : leD a b ≤ most
  · refine (near_small a b most w h1 h2 h3 h4 h5 hD).mono fun e w' ⟨he, hh⟩ => ⟨_, _, he, near_self F.1 F.2.2.1 hD F.2.2.2.2.1, hh⟩
  · exact near_big a b most w h1 h2 h3 h4 h5 (by omega)

set_option maxRecDepth 20000 in
set_option maxHeartbeats 800000 in
theorem near_no (a b most : Int) (w : World) (h : askB a b most = false) :
    Calls Tryd.prog 11 #[.agg #[.int .i64 a, .int .i64 b], .int .i64 most] w fun e w' => e = .returned (.tuple #[.agg #[.int .i64 0, .int .i64 0], .bool false]) ∧ Held w w' := by
  obtain ⟨p, hp⟩ : ∃ p, mayR a b = p := ⟨_, rfl⟩
  have H := hid h
  have M1 := hid hp
  clear h hp
  go_enter Tryd.func11, Tryd.ntmps11
  go_wp2_with fail
  refine (pmay_any a b p M1.out _).mono ?_
  rintro e w1 ⟨rfl, hb1⟩
  have c0 := Held.cell (b := w.heap.size) (o := 0) (v := .int .i64 a) (by simp) hb1
  have c1 := Held.cell (b := w.heap.size) (o := 1) (v := .int .i64 b) (by simp) hb1
  have c2 := Held.cell (b := w.heap.size + 1) (o := 0) (v := .int .i64 0) (by simp) hb1
  have c3 := Held.cell (b := w.heap.size + 1) (o := 1) (v := .int .i64 0) (by simp) hb1
  have f2 := Held.frozen (b := w.heap.size + 1) (o := 0) (v := .int .i64 0) (x := false) (by simp) (by simp) hb1
  have f3 := Held.frozen (b := w.heap.size + 1) (o := 1) (v := .int .i64 0) (x := false) (by simp) (by simp) hb1
  have hd : Held w w1 := (((Held.refl w).alloc _).alloc _).tr hb1
  clear hb1
  cases p
  · go_wp2_with fail
    exact bodyPost_ret (v := .tuple #[.agg #[.int .i64 0, .int .i64 0], .bool false]) (by simp [results, Tryd.results11, go_sem, c2, c3]) rfl ⟨rfl, (hd.set _ (by simp)).set _ (by simp)⟩
  by_cases h0 : a < 0
  · have n1 : decide (a < 0) = true := by simpa using h0
    go_wp2_with fail
    exact bodyPost_ret (v := .tuple #[.agg #[.int .i64 0, .int .i64 0], .bool false]) (by simp [results, Tryd.results11, go_sem, c2, c3]) rfl ⟨rfl, (hd.set _ (by simp)).set _ (by simp)⟩
  have n1 : decide (a < 0) = false := by simpa using h0
  by_cases h1 : b < 1
  · have n2 : decide (b < 1) = true := by simpa using h1
    go_wp2_with fail
    exact bodyPost_ret (v := .tuple #[.agg #[.int .i64 0, .int .i64 0], .bool false]) (by simp [results, Tryd.results11, go_sem, c2, c3]) rfl ⟨rfl, (hd.set _ (by simp)).set _ (by simp)⟩
  have n2 : decide (b < 1) = false := by simpa using h1
  by_cases h2 : most < 1
  · have n3 : decide (most < 1) = true := by simpa using h2
    go_wp2_with fail
    exact bodyPost_ret (v := .tuple #[.agg #[.int .i64 0, .int .i64 0], .bool false]) (by simp [results, Tryd.results11, go_sem, c2, c3]) rfl ⟨rfl, (hd.set _ (by simp)).set _ (by simp)⟩
  have n3 : decide (most < 1) = false := by simpa using h2
  by_cases h3 : 4096 < most
  · have n4 : decide (4096 < most) = true := by simpa using h3
    go_wp2_with fail
    exact bodyPost_ret (v := .tuple #[.agg #[.int .i64 0, .int .i64 0], .bool false]) (by simp [results, Tryd.results11, go_sem, c2, c3]) rfl ⟨rfl, (hd.set _ (by simp)).set _ (by simp)⟩
  exfalso
  have h := H.out
  have m := M1.out
  simp [askB, m] at h
  omega

end Go.Proofs.YtghnmamdfinbpaaDoor

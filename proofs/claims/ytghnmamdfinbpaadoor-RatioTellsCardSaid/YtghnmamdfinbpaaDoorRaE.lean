/-
  The walks of ratio.common, ratio.Least, ratio.off.
-/
import Derived.Test.YtghnmamdfinbpaaDoorRaD
import Derived.Deep.QuietTactic
import Derived.BigQuiet
namespace Go.Proofs.YtghnmamdfinbpaaDoor
open Go.RowKit

theorem Held.drewN {w w' : World} (n : Nat) (h : Held w w') : Held w (w'.drewN n) := by
  refine Below.trans h ⟨rfl, rfl, rfl, by simp, fun _ _ => rfl⟩

theorem frozen_keep {B : Nat} {w w' : World} (hb : Below B w w') {b o : Nat} {v : Bool} (h : w.frozen? ⟨b, o, none⟩ = v) (hB : b < B) : w'.frozen? ⟨b, o, none⟩ = v :=
  (hb.frozen (p := ⟨b, o, none⟩) hB).trans h

theorem gcd_step (x y : Nat) : Nat.gcd y (x % y) = Nat.gcd x y := by rw [Nat.gcd_comm y, ← Nat.gcd_rec y x, Nat.gcd_comm]

set_option maxHeartbeats 400000 in
theorem common_any (a b : Nat) (w : World) (ha : a < 8589934592) (hb : b < 8589934592) :
    Calls Tryd.prog 28 #[.int .i64 a, .int .i64 b] w fun e w' => e = .returned (.int .i64 (Nat.gcd a b : Nat)) ∧ Below w.heap.size w w' := by
  go_enter Tryd.func28, Tryd.ntmps28
  go_wp2
  go_loopw [0, 1] (fun t0 t1 wr => ∃ x y : Nat, t0 = .int .i64 x ∧ t1 = .int .i64 y ∧ Hid (Nat.gcd x y = Nat.gcd a b) ∧ x < 8589934592 ∧ y < 8589934592 ∧ Held w wr) (fun _ t1 _ => (intOf t1).toNat)
  case atStart => exact ⟨a, b, rfl, rfl, rfl, ha, hb, Held.refl _⟩
  case round =>
    obtain ⟨x, y, rfl, rfl, hg, hx, hy, hh⟩ := hrel
    by_cases h0 : y = 0
    · subst h0
      go_wp2
      go_ret
      exact ⟨by have := hg.out; rw [Nat.gcd_zero_right] at this; rw [← this]; rfl, hh⟩
    · have h1 : ((y : Int) != 0) = true := by simp; omega
      have h2 : (0 : Int) < y := by omega
      go_wp2
      go_quiet (fail)
      go_wp2
      go_roundw
      case rel => exact ⟨y, x % y, rfl, by simp, (gcd_step x y).trans hg.out, hy, by have := Nat.mod_lt x (y := y) (by omega); omega, Held.drewN _ hh⟩
      case measure => simp [intOf]; have := Nat.mod_lt x (y := y) (by omega); omega

theorem common_int (a b : Int) (w : World) (ha0 : 0 ≤ a) (ha : a < 8589934592) (hb0 : 0 ≤ b) (hb : b < 8589934592) :
    Calls Tryd.prog 28 #[.int .i64 a, .int .i64 b] w fun e w' => e = .returned (.int .i64 (Nat.gcd a.toNat b.toNat : Nat)) ∧ Below w.heap.size w w' := by
  obtain ⟨a, rfl⟩ := Int.eq_ofNat_of_zero_le ha0
  obtain ⟨b, rfl⟩ := Int.eq_ofNat_of_zero_le hb0
  exact common_any a b w (by omega) (by omega)

/-- the greatest that goes into both of a ratio's upright numbers. -/
def gR (a b : Int) : Nat := Nat.gcd (upN a b).natAbs (upD b).toNat
def leN (a b : Int) : Int := (upN a b).tdiv (gR a b)
def leD (a b : Int) : Int := (upD b) / (gR a b)

theorem max_abs (n : Int) : max n (-n) = (n.natAbs : Int) := by omega

set_option maxRecDepth 20000 in
set_option maxHeartbeats 800000 in
theorem least_yes (a b : Int) (w : World) (h1 : mayR a b = true) (hb : b ≠ 0) :
    Calls Tryd.prog 8 #[.agg #[.int .i64 a, .int .i64 b]] w fun e w' => e = .returned (.tuple #[.agg #[.int .i64 (leN a b), .int .i64 (leD a b)], .bool true]) ∧ Below w.heap.size w w' := by
  have U1 := up_bounds h1 hb
  have B1 := mayR_bounds h1
  have hb' : (b == 0) = false := by simpa using hb
  have M1 := hid h1
  clear h1 hb
  go_enter Tryd.func8, Tryd.ntmps8
  go_wp2_with fail
  refine (pmay_any a b true M1.out _).mono ?_
  rintro e w1 ⟨rfl, hb1⟩
  have c0 := Held.cell (b := w.heap.size) (o := 0) (v := .int .i64 a) (by simp) hb1
  have c1 := Held.cell (b := w.heap.size) (o := 1) (v := .int .i64 b) (by simp) hb1
  go_wp2_with fail
  refine (upright_any a b _ (by omega) (by omega) (by omega) (by omega)).mono ?_
  rintro e w2 ⟨rfl, rfl⟩
  go_wp2_with fail
  refine (common_int (max (upN a b) (-upN a b)) (upD b) _ (by omega) (by omega) (by omega) (by omega)).mono ?_
  rintro e w3 ⟨rfl, hb3⟩
  have e0 := Held.cell (b := w1.heap.size + 2) (o := 0) (v := .int .i64 (upN a b)) (by go_simp) hb3
  have e1 := Held.cell (b := w1.heap.size + 2) (o := 1) (v := .int .i64 (upD b)) (by go_simp) hb3
  have c2 := Held.cell (b := w.heap.size + 1) (o := 0) (v := .int .i64 0) (by simp) hb1
  have c3 := Held.cell (b := w.heap.size + 1) (o := 1) (v := .int .i64 0) (by simp) hb1
  have f2 := Held.frozen (b := w.heap.size + 1) (o := 0) (v := .int .i64 0) (x := false) (by simp) (by simp) hb1
  have f3 := Held.frozen (b := w.heap.size + 1) (o := 1) (v := .int .i64 0) (x := false) (by simp) (by simp) hb1
  have H3 : Held w1 w3 := ((((Held.refl w1).alloc _).alloc _).alloc _).tr hb3
  have e2 := Held.cell c2 H3
  have e3 := Held.cell c3 H3
  have g2 := Held.frozen c2 f2 H3
  have g3 := Held.frozen c3 f3 H3
  have hd : Held w w3 := ((((Held.refl w).alloc _).alloc _).tr hb1).tr H3
  clear hb3 hb1 c0 c1 c2 c3 f2 f3 H3
  have hg : 0 < gR a b := Nat.gcd_pos_of_pos_right _ (by omega)
  have HN : Hid (leN a b = (upN a b).tdiv (gR a b : Nat)) := rfl
  have HD : Hid (leD a b = upD b / (gR a b : Nat)) := rfl
  rw [show Nat.gcd (max (upN a b) (-upN a b)).toNat (upD b).toNat = gR a b from by unfold gR; congr 1; omega]
  generalize gR a b = g at *
  go_upto_region 5 with fail
  go_region
  go_wp2_with fail
  exact bodyPost_ret (v := .tuple #[.agg #[.int .i64 ((upN a b).tdiv g), .int .i64 (upD b / g)], .bool true]) (by simp [results, Tryd.results8, go_sem, e2, e3]) rfl ⟨by rw [HN.out, HD.out], ((hd.set _ (by simp)).set _ (by simp)).drew⟩

set_option maxRecDepth 20000 in
set_option maxHeartbeats 800000 in
theorem least_no (a b : Int) (w : World) (h : mayR a b = false ∨ b = 0) :
    Calls Tryd.prog 8 #[.agg #[.int .i64 a, .int .i64 b]] w fun e w' => e = .returned (.tuple #[.agg #[.int .i64 0, .int .i64 0], .bool false]) ∧ Held w w' := by
  obtain ⟨p, hp⟩ : ∃ p, mayR a b = p := ⟨_, rfl⟩
  rw [hp] at h
  have M1 := hid hp
  clear hp
  have H := hid h
  clear h
  cases p
  · go_enter Tryd.func8, Tryd.ntmps8
    go_wp2_with fail
    refine (pmay_any a b false M1.out _).mono ?_
    rintro e w1 ⟨rfl, hb1⟩
    have c0 := Held.cell (b := w.heap.size) (o := 0) (v := .int .i64 a) (by simp) hb1
    have c1 := Held.cell (b := w.heap.size) (o := 1) (v := .int .i64 b) (by simp) hb1
    have c2 := Held.cell (b := w.heap.size + 1) (o := 0) (v := .int .i64 0) (by simp) hb1
    have c3 := Held.cell (b := w.heap.size + 1) (o := 1) (v := .int .i64 0) (by simp) hb1
    have f2 := Held.frozen (b := w.heap.size + 1) (o := 0) (v := .int .i64 0) (x := false) (by simp) (by simp) hb1
    have f3 := Held.frozen (b := w.heap.size + 1) (o := 1) (v := .int .i64 0) (x := false) (by simp) (by simp) hb1
    have hd : Held w w1 := (((Held.refl w).alloc _).alloc _).tr hb1
    clear hb1
    go_wp2_with fail
    exact bodyPost_ret (v := .tuple #[.agg #[.int .i64 0, .int .i64 0], .bool false]) (by simp [results, Tryd.results8, go_sem, c2, c3]) rfl ⟨rfl, ((hd.set _ (by simp)).set _ (by simp))⟩
  · have hb : b = 0 := by have := H.out; simpa using this
    subst hb
    go_enter Tryd.func8, Tryd.ntmps8
    go_wp2_with fail
    refine (pmay_any a 0 true M1.out _).mono ?_
    rintro e w1 ⟨rfl, hb1⟩
    have c0 := Held.cell (b := w.heap.size) (o := 0) (v := .int .i64 a) (by simp) hb1
    have c1 := Held.cell (b := w.heap.size) (o := 1) (v := .int .i64 0) (by simp) hb1
    have c2 := Held.cell (b := w.heap.size + 1) (o := 0) (v := .int .i64 0) (by simp) hb1
    have c3 := Held.cell (b := w.heap.size + 1) (o := 1) (v := .int .i64 0) (by simp) hb1
    have f2 := Held.frozen (b := w.heap.size + 1) (o := 0) (v := .int .i64 0) (x := false) (by simp) (by simp) hb1
    have f3 := Held.frozen (b := w.heap.size + 1) (o := 1) (v := .int .i64 0) (x := false) (by simp) (by simp) hb1
    have hd : Held w w1 := (((Held.refl w).alloc _).alloc _).tr hb1
    clear hb1
    go_wp2_with fail
    exact bodyPost_ret (v := .tuple #[.agg #[.int .i64 0, .int .i64 0], .bool false]) (by simp [results, Tryd.results8, go_sem, c2, c3]) rfl ⟨rfl, ((hd.set _ (by simp)).set _ (by simp))⟩

theorem ret1_int {a b : Int} (h : a = b) : Ending.returned (.int .i64 a) = .returned (.int .i64 b) := by rw [h]

/-- off: how far, times both denominators. -/
def offR (a b c d : Int) : Int := ((a * d - c * b).natAbs : Nat)

theorem off_any (a b c d : Int) (w : World) (h1 : -1152921504606846976 ≤ a * d) (h2 : a * d ≤ 1152921504606846976) (h3 : -1152921504606846976 ≤ c * b) (h4 : c * b ≤ 1152921504606846976) :
    Calls Tryd.prog 32 #[.agg #[.int .i64 a, .int .i64 b], .agg #[.int .i64 c, .int .i64 d]] w fun e w' => e = .returned (.int .i64 (offR a b c d)) ∧ Held w w' := by
  go_enter Tryd.func32, Tryd.ntmps32
  go_wp2_with fail
  go_ret
  exact ⟨ret1_int (by unfold offR; omega), ((Held.refl w).alloc _).alloc _⟩
end Go.Proofs.YtghnmamdfinbpaaDoor

/-
  The walk of ratio.Near.
-/
import Derived.Test.YtghnmamdfinbpaaDoorRaE
import Derived.Test.YtghnmamdfinbpaaDoorNearMath
import Derived.BigRegion
import Derived.Deep.RegionHeld3
namespace Go.Proofs.YtghnmamdfinbpaaDoor
open Go.RowKit

theorem Conv.bounds {N D most a b p q n d s : Int} (h : Conv N D most a b p q n d s) (hN0 : 0 ≤ N) (hN : N < 4294967296) (hD0 : 0 < D) (hD : D < 4294967296) (hm : most ≤ 4096) :
    a ≤ 35184372088832 ∧ p ≤ 35184372088832 ∧ n < 4294967296 ∧ d < 4294967296 := by
  have q0 := h.hq
  have b0 := h.hb
  have qm := h.hqm
  have bm := h.hbm
  have n0 := h.hn
  have d0 := h.hd
  have hnd : n < 4294967296 ∧ d < 4294967296 := by
    rcases h.first with ⟨_, _, _, _, e, e2⟩ | ⟨_, _, e, e2⟩ <;> omega
  have e1 : N * q ≤ 4294967295 * 4096 := Int.mul_le_mul (by omega) (by omega) q0 (by omega)
  have e2 : N * b ≤ 4294967295 * 4096 := Int.mul_le_mul (by omega) (by omega) b0 (by omega)
  have e3 : p * 1 ≤ p * D := Int.mul_le_mul_of_nonneg_left (by omega) h.hp
  have e4 : a * 1 ≤ a * D := Int.mul_le_mul_of_nonneg_left (by omega) h.ha
  have t1 := h.one
  have t2 := h.two
  have hs := h.hs
  refine ⟨?_, ?_, hnd.1, hnd.2⟩
  · rcases hs with rfl | rfl <;> omega
  · rcases hs with rfl | rfl <;> omega

theorem done_bounds {N D most a b p q n d s k : Int} (h : Conv N D most a b p q n d s) (g : Done N D most a b p q n d s k) (hN0 : 0 ≤ N) (hN : N < 4294967296) (hD0 : 0 < D) (hD : D < 4294967296) (hm : most ≤ 4096) :
    0 ≤ k * p ∧ a + k * p ≤ 35184372088832 ∧ 0 ≤ k * q ∧ k ≤ 4096 ∧ 0 ≤ k * d ∧ (-1152921504606846976 ≤ p * D ∧ p * D ≤ 1152921504606846976) ∧ (-1152921504606846976 ≤ N * q ∧ N * q ≤ 1152921504606846976) ∧
    (-1152921504606846976 ≤ (a + k * p) * D ∧ (a + k * p) * D ≤ 1152921504606846976) ∧ (-1152921504606846976 ≤ N * (b + k * q) ∧ N * (b + k * q) ≤ 1152921504606846976) := by
  have k0 := g.k0
  have kp : 0 ≤ k * p := Int.mul_nonneg k0 h.hp
  have kq : 0 ≤ k * q := Int.mul_nonneg k0 h.hq
  have kd : 0 ≤ k * d := Int.mul_nonneg k0 h.hd
  have kq1 : k * 1 ≤ k * q := Int.mul_le_mul_of_nonneg_left g.q1 k0
  have Qm := g.Qm
  have Q1 := g.Q1
  have m1 := g.m1
  have hb := h.hb
  have hq := h.hq
  have hqm := h.hqm
  obtain ⟨b1, b2, b3, b4⟩ := h.bounds hN0 hN hD0 hD hm
  have e1 : N * q ≤ 4294967295 * 4096 := Int.mul_le_mul (by omega) (by omega) hq (by omega)
  have e2 : N * (b + k * q) ≤ 4294967295 * 4096 := Int.mul_le_mul (by omega) (by omega) (by omega) (by omega)
  have e3 : 0 ≤ N * q := Int.mul_nonneg hN0 hq
  have e4 : 0 ≤ N * (b + k * q) := Int.mul_nonneg hN0 (by omega)
  have t1 := h.two
  have t2 := g.ot
  have ha := h.ha
  have hp := h.hp
  have e5 : (a + k * p) * 1 ≤ (a + k * p) * D := Int.mul_le_mul_of_nonneg_left (by omega) (by omega)
  have hd0 := h.hd
  rcases h.hs with hs | hs
  · rw [hs] at t1 t2
    refine ⟨kp, by omega, kq, by omega, kd, by omega, by omega, by omega, by omega⟩
  · rw [hs] at t1 t2
    refine ⟨kp, by omega, kq, by omega, kd, by omega, by omega, by omega, by omega⟩

theorem off_is {N D most a b p q n d s : Int} (h : Conv N D most a b p q n d s) : offR p q N D = d := by
  unfold offR
  rw [h.two]
  have := h.hd
  rcases h.hs with hs | hs <;> rw [hs] <;> omega

theorem off_other {N D most a b p q n d s k : Int} (h : Conv N D most a b p q n d s) (g : Done N D most a b p q n d s k) : offR (a + k * p) (b + k * q) N D = n - k * d := by
  unfold offR
  rw [g.ot]
  have := g.m1
  rcases h.hs with hs | hs <;> rw [hs] <;> omega

theorem least_facts {a b : Int} (h : mayR a b = true) (ha : 0 ≤ a) (hb : 1 ≤ b) :
    0 ≤ leN a b ∧ leN a b < 4294967296 ∧ 0 < leD a b ∧ leD a b < 4294967296 ∧ (∀ x y : Int, 1 ≤ y → x * leD a b = leN a b * y → leD a b ≤ y) ∧ ∃ g : Int, 0 < g ∧ a = leN a b * g ∧ b = leD a b * g := by
  have U := mayR_bounds h
  obtain ⟨n, rfl⟩ := Int.eq_ofNat_of_zero_le ha
  obtain ⟨d, rfl⟩ := Int.eq_ofNat_of_zero_le (show 0 ≤ b by omega)
  have e1 : upN n d = n := by unfold upN; rw [if_neg (by omega)]
  have e2 : upD d = d := by unfold upD; rw [if_neg (by omega)]
  have hg : gR n d = Nat.gcd n d := by unfold gR; rw [e1, e2]; rfl
  have hgp : 0 < Nat.gcd n d := Nat.gcd_pos_of_pos_right _ (by omega)
  have eN : leN n d = ((n / Nat.gcd n d : Nat) : Int) := by unfold leN; rw [e1, hg]; rfl
  have eD : leD n d = ((d / Nat.gcd n d : Nat) : Int) := by unfold leD; rw [e2, hg]; rfl
  rw [eN, eD]
  have hq0 : (0 : Int) ≤ ((n / Nat.gcd n d : Nat) : Int) := Int.natCast_nonneg _
  have hd := Nat.div_le_self n (Nat.gcd n d)
  have hd2 := Nat.div_le_self d (Nat.gcd n d)
  have hpos : 0 < d / Nat.gcd n d := Nat.div_pos (Nat.gcd_le_right _ (by omega)) hgp
  generalize hA : n / Nat.gcd n d = A at *
  generalize hB : d / Nat.gcd n d = B at *
  refine ⟨by omega, by omega, by omega, by omega, fun x y hy hxy => ?_, (Nat.gcd n d : Nat), by omega, ?_, ?_⟩
  · have hco : Nat.Coprime A B := by rw [← hA, ← hB]; exact Nat.coprime_div_gcd_div_gcd hgp
    obtain ⟨y, rfl⟩ := Int.eq_ofNat_of_zero_le (show 0 ≤ y by omega)
    have hdvd : (B : Int) ∣ (A : Int) * (y : Int) := ⟨x, by rw [← hxy, Int.mul_comm]⟩
    have hdvd2 : B ∣ A * y := by
      have : (B : Int) ∣ ((A * y : Nat) : Int) := by rw [Int.natCast_mul]; exact hdvd
      exact Int.natCast_dvd_natCast.1 this
    have := Nat.le_of_dvd (by omega) (hco.symm.dvd_of_dvd_mul_left hdvd2)
    omega
  · rw [← hA, ← Int.natCast_mul, Nat.div_mul_cancel (Nat.gcd_dvd_left _ _)]
  · rw [← hB, ← Int.natCast_mul, Nat.div_mul_cancel (Nat.gcd_dvd_right _ _)]

set_option maxRecDepth 20000 in
set_option maxHeartbeats 800000 in
theorem near_big (a b most : Int) (w : World) (h1 : mayR a b = true) (ha : 0 ≤ a) (hb : 1 ≤ b) (hm1 : 1 ≤ most) (hm2 : most ≤ 4096) (hD : most < leD a b) :
    Calls Tryd.prog 11 #[.agg #[.int .i64 a, .int .i64 b], .int .i64 most] w fun e w' => ∃ p q, e = .returned (.tuple #[.agg #[.int .i64 p, .int .i64 q], .bool true]) ∧ NearSpec (leN a b) (leD a b) most p q ∧ Held w w' := by
  have M1 := hid h1
  have hb' : b ≠ 0 := by omega
  clear h1
  have n1 : decide (a < 0) = false := by simpa using ha
  have n2 : decide (b < 1) = false := by simpa using hb
  have n3 : decide (most < 1) = false := by simpa using hm1
  have n4 : decide (4096 < most) = false := by simpa using hm2
  go_enter Tryd.func11, Tryd.ntmps11
  go_wp2_with fail
  refine (pmay_any a b true M1.out _).mono ?_
  rintro e w1 ⟨rfl, hb1⟩
  have c0 := Held.cell (b := w.heap.size) (o := 0) (v := .int .i64 a) (by simp) hb1
  have c1 := Held.cell (b := w.heap.size) (o := 1) (v := .int .i64 b) (by simp) hb1
  go_wp2_with fail
  refine (least_yes a b _ M1.out hb').mono ?_
  rintro e w2 ⟨rfl, hb2⟩
  have F := least_facts M1.out ha hb
  clear M1
  generalize hN : leN a b = N at *
  generalize hDD : leD a b = D at *
  have EN := hid hN
  have ED := hid hDD
  clear hN hDD
  obtain ⟨N0, N1, D0, D1, hc, _⟩ := F
  have HC := hid hc
  clear hc
  have c2 := Held.cell (b := w.heap.size + 1) (o := 0) (v := .int .i64 0) (by simp) hb1
  have c3 := Held.cell (b := w.heap.size + 1) (o := 1) (v := .int .i64 0) (by simp) hb1
  have f0 := Held.frozen (b := w.heap.size) (o := 0) (v := .int .i64 a) (x := false) (by simp) (by simp) hb1
  have f1 := Held.frozen (b := w.heap.size) (o := 1) (v := .int .i64 b) (x := false) (by simp) (by simp) hb1
  have f2 := Held.frozen (b := w.heap.size + 1) (o := 0) (v := .int .i64 0) (x := false) (by simp) (by simp) hb1
  have f3 := Held.frozen (b := w.heap.size + 1) (o := 1) (v := .int .i64 0) (x := false) (by simp) (by simp) hb1
  have z1 : w.heap.size + 1 < w1.heap.size := by have := hb1.size; simp at this; omega
  have z2 : w.heap.size + 1 < w2.heap.size := by have := hb2.size; omega
  have d0 := Held.cell c0 hb2
  have d1 := Held.cell c1 hb2
  have d2 := Held.cell c2 hb2
  have d3 := Held.cell c3 hb2
  have g0 := Held.frozen c0 f0 hb2
  have g1 := Held.frozen c1 f1 hb2
  have g2 := Held.frozen c2 f2 hb2
  have g3 := Held.frozen c3 f3 hb2
  have hd : Held w w2 := ((((Held.refl w).alloc _).alloc _).tr hb1).tr hb2
  clear c0 c1 c2 c3 f0 f1 f2 f3 hb1 hb2 z1
  have z0 : w.heap.size < w2.heap.size := by omega
  go_upto_region 7 with fail
  go_cut [8, 9] (fun u8 u9 wx => u8 = .int .i64 N ∧ u9 = .int .i64 D ∧
    wx.cell? ⟨w.heap.size, 0, none⟩ = some (.int .i64 N) ∧ wx.cell? ⟨w.heap.size, 1, none⟩ = some (.int .i64 D) ∧
    wx.cell? ⟨w.heap.size + 1, 0, none⟩ = some (.int .i64 0) ∧ wx.cell? ⟨w.heap.size + 1, 1, none⟩ = some (.int .i64 0) ∧
    wx.frozen? ⟨w.heap.size + 1, 0, none⟩ = false ∧ wx.frozen? ⟨w.heap.size + 1, 1, none⟩ = false ∧
    wx.cell? ⟨w2.heap.size, 0, none⟩ = some (.int .i64 0) ∧ wx.cell? ⟨w2.heap.size, 1, none⟩ = some (.int .i64 1) ∧
    wx.cell? ⟨w2.heap.size + 1, 0, none⟩ = some (.int .i64 1) ∧ wx.cell? ⟨w2.heap.size + 1, 1, none⟩ = some (.int .i64 0) ∧
    wx.frozen? ⟨w2.heap.size, 0, none⟩ = false ∧ wx.frozen? ⟨w2.heap.size, 1, none⟩ = false ∧
    wx.frozen? ⟨w2.heap.size + 1, 0, none⟩ = false ∧ wx.frozen? ⟨w2.heap.size + 1, 1, none⟩ = false ∧ Held w wx)
  case first =>
    go_quiet (fail)
    go_wp2_with fail
    go_meet
    case rel => exact ⟨rfl, rfl, by go_simp, by go_simp, by go_simp, by go_simp, by go_simp, by go_simp, by go_simp, by go_simp, by go_simp, by go_simp, by go_simp, by go_simp, by go_simp, by go_simp, ((((hd.set _ (by simp)).set _ (by simp)).alloc _).alloc _).drewN _⟩
  case rest =>
    obtain ⟨rfl, rfl, e0, e1, e2, e3, p2, p3, e4, e5, e6, e7, p4, p5, p6, p7, hx⟩ := hcut
    clear d0 d1 d2 d3 g0 g1 g2 g3 hd
    have nd : decide (D ≤ most) = false := by simpa using hD
    go_wp2_with fail
    go_loopw [8, 9] (fun t8 t9 wr => ∃ x y p q n d s : Int, t8 = .int .i64 n ∧ t9 = .int .i64 d ∧ Hid (Conv N D most x y p q n d s) ∧
      wr.cell? ⟨w.heap.size, 0, none⟩ = some (.int .i64 N) ∧ wr.cell? ⟨w.heap.size, 1, none⟩ = some (.int .i64 D) ∧
      wr.cell? ⟨w.heap.size + 1, 0, none⟩ = some (.int .i64 0) ∧ wr.cell? ⟨w.heap.size + 1, 1, none⟩ = some (.int .i64 0) ∧
      wr.frozen? ⟨w.heap.size + 1, 0, none⟩ = false ∧ wr.frozen? ⟨w.heap.size + 1, 1, none⟩ = false ∧
      wr.cell? ⟨w2.heap.size, 0, none⟩ = some (.int .i64 x) ∧ wr.cell? ⟨w2.heap.size, 1, none⟩ = some (.int .i64 y) ∧
      wr.cell? ⟨w2.heap.size + 1, 0, none⟩ = some (.int .i64 p) ∧ wr.cell? ⟨w2.heap.size + 1, 1, none⟩ = some (.int .i64 q) ∧
      wr.frozen? ⟨w2.heap.size, 0, none⟩ = false ∧ wr.frozen? ⟨w2.heap.size, 1, none⟩ = false ∧
      wr.frozen? ⟨w2.heap.size + 1, 0, none⟩ = false ∧ wr.frozen? ⟨w2.heap.size + 1, 1, none⟩ = false ∧ Held w wr) (fun _ t9 _ => (intOf t9).toNat)
    case atStart => exact ⟨0, 1, 1, 0, N, D, 1, rfl, rfl, Conv.start N0 D0 hm1, e0, e1, e2, e3, p2, p3, e4, e5, e6, e7, p4, p5, p6, p7, hx⟩
    case round =>
      clear e0 e1 e2 e3 p2 p3 e4 e5 e6 e7 p4 p5 p6 p7 hx
      obtain ⟨x, y, p, q, n, d, s, rfl, rfl, hC, e0, e1, e2, e3, p2, p3, e4, e5, e6, e7, p4, p5, p6, p7, hx⟩ := hrel
      have bd := hC.out.bounds N0 N1 D0 D1 hm2
      obtain ⟨b1, b2, b3, b4⟩ := bd
      have k1 := hC.out.ha
      have k2 := hC.out.hb
      have k3 := hC.out.hp
      have k4 := hC.out.hq
      have k5 := hC.out.hbm
      have k6 := hC.out.hqm
      have k7 := hC.out.hn
      have k8 := hC.out.hd
      by_cases hd0 : 0 < d
      · have m0 : 0 ≤ n / d := Int.ediv_nonneg k7 k8
        have m1 : n / d ≤ n := Int.ediv_le_self _ k7
        have m2 : 0 ≤ n / d * q := Int.mul_nonneg m0 k4
        have m3 : n / d * q ≤ 4294967295 * 4096 := Int.mul_le_mul (by omega) (by omega) k4 (by omega)
        have hd0' : decide (0 < d) = true := by simpa using hd0
        by_cases hfit : y + n / d * q ≤ most
        · have hfit' : decide (y + n / d * q ≤ most) = true := by simpa using hfit
          have hC2 := Conv.step hC.out hd0 hfit
          have bd2 := hC2.bounds N0 N1 D0 D1 hm2
          have HC2 := hid hC2
          clear hC2
          have m4 : 0 ≤ n / d * p := Int.mul_nonneg m0 k3
          have m5 : x + n / d * p ≤ 35184372088832 := bd2.2.1
          have m6 : n / d * d ≤ n := Int.ediv_mul_le _ (by omega)
          have m7 : 0 ≤ n / d * d := Int.mul_nonneg m0 k8
          clear bd2
          go_upto_region 8 with fail
          go_quiet (fail)
          go_wp2_with fail
          have hxx : Held w (wr.drewN nq) := hx.drewN _
          go_big_region
          go_wp2_with fail
          go_roundw
          case rel => exact ⟨p, q, x + n / d * p, y + n / d * q, d, n - n / d * d, -s, rfl, rfl, HC2, by go_simp, by go_simp, by go_simp, by go_simp, by go_simp, by go_simp, by go_simp, by go_simp, by go_simp, by go_simp, by go_simp, by go_simp, by go_simp, by go_simp, ((((hxx.set _ (by simp; omega)).set _ (by simp; omega)).set _ (by simp; omega)).set _ (by simp; omega)).drew⟩
          case measure =>
            have e := HC2.out.hd
            have e2 := Int.emod_lt_of_pos n hd0
            have e3 : n - n / d * d = n % d := by rw [Int.emod_def, Int.mul_comm]
            simp [intOf]
            omega
        · have hfit' : decide (y + n / d * q ≤ most) = false := by simpa using hfit
          have hDn := hC.out.done D0 hD hm1 HC.out (.inr (by omega))
          have r1 := hDn.q1
          have r2 := hDn.k0
          have r3 := hDn.Q1
          have r4 := hDn.Qm
          have r5 := hDn.m1
          have rb := done_bounds hC.out hDn N0 N1 D0 D1 hm2
          obtain ⟨rb1, rb2, rb3, rb4, rb5, rb6, rb7, rb8, rb9⟩ := rb
          have o1 := off_is hC.out
          have o2 := off_other hC.out hDn
          have HO := hid (And.intro o1 o2)
          have HDn := hid hDn
          clear hDn hC HC o1 o2
          go_upto_region 8 with fail
          go_quiet (fail)
          have hxx : Held w (wr.drewN nq) := hx.drewN _
          replace e0 := (show (wr.drewN nq).cell? _ = _ from e0)
          replace e1 := (show (wr.drewN nq).cell? _ = _ from e1)
          replace e2 := (show (wr.drewN nq).cell? _ = _ from e2)
          replace e3 := (show (wr.drewN nq).cell? _ = _ from e3)
          replace e4 := (show (wr.drewN nq).cell? _ = _ from e4)
          replace e5 := (show (wr.drewN nq).cell? _ = _ from e5)
          replace e6 := (show (wr.drewN nq).cell? _ = _ from e6)
          replace e7 := (show (wr.drewN nq).cell? _ = _ from e7)
          replace p2 := (show (wr.drewN nq).frozen? _ = _ from p2)
          replace p3 := (show (wr.drewN nq).frozen? _ = _ from p3)
          clear p4 p5 p6 p7 hx
          generalize wr.drewN nq = wy at *
          go_upto_region 14 with fail
          generalize hk : (most - y) / q = k at *
          clear hk
          have NL := hid HDn.out.last
          have NO := hid HDn.out.other
          have HW : Held wy (wy.alloc (.cells #[.int .i64 (x + k * p), .int .i64 (y + k * q)] 23)) := (Held.refl _).alloc _
          replace e0 := Held.cell e0 HW
          replace e1 := Held.cell e1 HW
          replace p2 := Held.frozen e2 p2 HW
          replace p3 := Held.frozen e3 p3 HW
          replace e2 := Held.cell e2 HW
          replace e3 := Held.cell e3 HW
          replace e6 := Held.cell e6 HW
          replace e7 := Held.cell e7 HW
          have e8 : (wy.alloc (.cells #[.int .i64 (x + k * p), .int .i64 (y + k * q)] 23)).cell? ⟨wy.heap.size, 0, none⟩ = some (.int .i64 (x + k * p)) := by go_simp
          have e9 : (wy.alloc (.cells #[.int .i64 (x + k * p), .int .i64 (y + k * q)] 23)).cell? ⟨wy.heap.size, 1, none⟩ = some (.int .i64 (y + k * q)) := by go_simp
          replace hxx := hxx.tr HW
          clear HW e4 e5
          generalize wy.alloc (.cells #[.int .i64 (x + k * p), .int .i64 (y + k * q)] 23) = wv at *
          generalize hP : x + k * p = P at *
          generalize hQ : y + k * q = Q at *
          generalize hm : n - k * d = m at *
          generalize wy.heap.size = bo at *
          have O1 : ∀ w, Calls Tryd.prog 32 #[.agg #[.int .i64 p, .int .i64 q], .agg #[.int .i64 N, .int .i64 D]] w fun e w' => e = .returned (.int .i64 d) ∧ Held w w' := fun w => by
            have := off_any p q N D w rb6.1 rb6.2 rb7.1 rb7.2
            rw [HO.out.1] at this; exact this
          have O2 : ∀ w, Calls Tryd.prog 32 #[.agg #[.int .i64 P, .int .i64 Q], .agg #[.int .i64 N, .int .i64 D]] w fun e w' => e = .returned (.int .i64 m) ∧ Held w w' := fun w => by
            have := off_any P Q N D w rb8.1 rb8.2 rb9.1 rb9.2
            rw [HO.out.2] at this; exact this
          have HO1 := hid O1
          have HO2 := hid O2
          have j1 : 0 ≤ d * Q := Int.mul_nonneg k8 (by omega)
          have j2 : d * Q ≤ 4294967295 * 4096 := Int.mul_le_mul (by omega) (by omega) (by omega) (by omega)
          have j3 : 0 ≤ m * q := Int.mul_nonneg (by omega) k4
          have j4 : m * q ≤ 4294967295 * 4096 := Int.mul_le_mul (by omega) (by omega) (by omega) (by omega)
          clear O1 O2 HO rb6 rb7 rb8 rb9 hfit hfit' m0 m1 m2 m3 hd0' hP hQ hm
          go_cut [125] (fun u125 wx => u125 = .bool (decide (d * Q ≤ m * q)) ∧ Held wv wx)
          case first =>
            have L0 := fun w' => Held.cell (w' := w') e0
            have L1 := fun w' => Held.cell (w' := w') e1
            have L6 := fun w' => Held.cell (w' := w') e6
            have L7 := fun w' => Held.cell (w' := w') e7
            have L8 := fun w' => Held.cell (w' := w') e8
            have L9 := fun w' => Held.cell (w' := w') e9
            clear e0 e1 e2 e3 e6 e7 e8 e9 p2 p3 hxx
            go_region_held3 (fun w' => Held wv w') (first | (repeat (first | (with_reducible assumption) | (with_reducible refine Held.refl _) | (with_reducible refine Held.drew ?_) | (with_reducible refine Held.alloc _ ?_) | (with_reducible refine Held.tr ?_ (by with_reducible assumption)))))
              (first | (go_at_call_of 32 (Value.agg #[Value.int IntKind.i64 p, Value.int IntKind.i64 q]); refine (HO1.out _).mono ?_; rintro e w5 ⟨rfl, hb5⟩) | (go_at_call_of 32 (Value.agg #[Value.int IntKind.i64 P, Value.int IntKind.i64 Q]); refine (HO2.out _).mono ?_; rintro e w6 ⟨rfl, hb6⟩))
            all_goals
              (try go_wp2_with fail)
              go_meet
              case rel => exact ⟨by rw [IntWalk.i64_in _ (by omega), IntWalk.i64_in _ (by omega)], by with_reducible assumption⟩
          case rest =>
            obtain ⟨rfl, hr⟩ := hcut
            replace p2 := Held.frozen e2 p2 hr
            replace p3 := Held.frozen e3 p3 hr
            replace e2 := Held.cell e2 hr
            replace e3 := Held.cell e3 hr
            replace e6 := Held.cell e6 hr
            replace e7 := Held.cell e7 hr
            replace e8 := Held.cell e8 hr
            replace e9 := Held.cell e9 hr
            replace hxx := hxx.tr hr
            clear e0 e1 hr
            by_cases hle : d * Q ≤ m * q
            · have hle' : decide (d * Q ≤ m * q) = true := by simpa using hle
              go_wp2_with fail
              exact bodyPost_ret (v := .tuple #[.agg #[.int .i64 p, .int .i64 q], .bool true]) (by simp [results, Tryd.results11, go_sem, e2, e3]) rfl ⟨p, q, rfl, by rw [EN.out, ED.out]; exact NL.out hle, ((hxx.set _ (by simp)).set _ (by simp))⟩
            · have hle' : decide (d * Q ≤ m * q) = false := by simpa using hle
              go_wp2_with fail
              exact bodyPost_ret (v := .tuple #[.agg #[.int .i64 P, .int .i64 Q], .bool true]) (by simp [results, Tryd.results11, go_sem, e2, e3]) rfl ⟨P, Q, rfl, by rw [EN.out, ED.out]; exact NO.out (by omega), ((hxx.set _ (by simp)).set _ (by simp))⟩
      · exfalso
        have hDn := hC.out.done D0 hD hm1 HC.out (.inl (by omega))
        exact hd0 hDn.d1
end Go.Proofs.YtghnmamdfinbpaaDoor

/-
  The walks of the reference's cmp, Cmp, Least.
-/
import Derived.Test.YtghnmamdfinbpaaDoorRefA
namespace Go.Proofs.YtghnmamdfinbpaaDoor
open Go.RowKit Go.Sort

theorem ci_lt {x y : Int} (h : x < y) : Lib.compareInt x y = -1 := by unfold Lib.compareInt; rw [if_pos h]
theorem ci_gt {x y : Int} (h : y < x) : Lib.compareInt x y = 1 := by unfold Lib.compareInt; rw [if_neg (by omega), if_pos h]
theorem ci_eq {x y : Int} (h : x = y) : Lib.compareInt x y = 0 := by unfold Lib.compareInt; rw [if_neg (by omega), if_neg (by omega)]
theorem ci_sub {x y z t : Int} (h : x - y = z - t) : Lib.compareInt x y = Lib.compareInt z t := by
  rcases Int.lt_trichotomy x y with h1 | h1 | h1
  · rw [ci_lt h1, ci_lt (by omega)]
  · rw [ci_eq h1, ci_eq (by omega)]
  · rw [ci_gt h1, ci_gt (by omega)]

theorem whole_lt {a b c d : Int} (hb : 0 < b) (hd : 0 < d) (h : a / b < c / d) : a * d < c * b := by
  have e1 : a < (a / b + 1) * b := Int.lt_ediv_add_one_mul_self a hb
  have e2 : c / d * d ≤ c := Int.ediv_mul_le c (by omega)
  have e3 : (a / b + 1) * b ≤ c / d * b := Int.mul_le_mul_of_nonneg_right (by omega) (by omega)
  have e4 : a * d < c / d * b * d := Int.mul_lt_mul_of_pos_right (by omega) hd
  have e5 : c / d * d * b ≤ c * b := Int.mul_le_mul_of_nonneg_right e2 (by omega)
  have e6 : c / d * b * d = c / d * d * b := by rw [Int.mul_assoc, Int.mul_comm b d, ← Int.mul_assoc]
  omega

theorem whole_eq {a b c d x : Int} : a * d - c * b = (a - x * b) * d - (c - x * d) * b := by
  rw [Int.sub_mul, Int.sub_mul, Int.mul_assoc, Int.mul_assoc, Int.mul_comm b d]; omega

set_option maxRecDepth 20000 in
set_option maxHeartbeats 1600000 in
theorem rcmp_nat : ∀ (k : Nat) (a b c d : Int) (w : World), b + d ≤ k → -4294967296 ≤ a → a ≤ 4294967296 → 0 < b → b ≤ 4294967296 → -4294967296 ≤ c → c ≤ 4294967296 → 0 < d → d ≤ 4294967296 →
    Calls Tryd.prog 26 #[.agg #[.int .i64 a, .int .i64 b], .agg #[.int .i64 c, .int .i64 d]] w fun e w' => e = .returned (.int .i64 (Lib.compareInt (a * d) (c * b))) ∧ Held w w' := by
  intro k
  induction k with
  | zero => intro a b c d w hk _ _ hb; omega
  | succ k ih =>
    intro a b c d w hk ha1 ha2 hb1 hb2 hc1 hc2 hd1 hd2
    have B0 := hid (qcall (w := (w.alloc (.cells #[.int .i64 a, .int .i64 b] 23)).alloc (.cells #[.int .i64 c, .int .i64 d] 23)) fun W _ => (rbelow_any a b W (by omega) (by omega) hb1 (by omega)).mono fun e w' ⟨h, h2⟩ => (⟨h, h2 ▸ Held.refl _⟩ : e = .returned (.int .i64 (a / b)) ∧ Held W w'))
    have B1 := hid (qcall (w := (w.alloc (.cells #[.int .i64 a, .int .i64 b] 23)).alloc (.cells #[.int .i64 c, .int .i64 d] 23)) fun W _ => (rbelow_any c d W (by omega) (by omega) hd1 (by omega)).mono fun e w' ⟨h, h2⟩ => (⟨h, h2 ▸ Held.refl _⟩ : e = .returned (.int .i64 (c / d)) ∧ Held W w'))
    have ub0 := Int.emod_nonneg a (b := b) (by omega)
    have ub1 := Int.emod_lt_of_pos a hb1
    have ub2 := Int.emod_add_mul_ediv a b
    have v0 := Int.emod_nonneg c (b := d) (by omega)
    have v1 := Int.emod_lt_of_pos c hd1
    have v2 := Int.emod_add_mul_ediv c d
    rw [Int.mul_comm b] at ub2
    rw [Int.mul_comm d] at v2
    have eu : a - a / b * b = a % b := by omega
    have ev : c - c / d * d = c % d := by omega
    have x1 : a / b * b ≤ 4294967296 ∧ -8589934592 ≤ a / b * b := by omega
    have x2 : c / d * d ≤ 4294967296 ∧ -8589934592 ≤ c / d * d := by omega
    have IH := hid ih
    have WL := hid (@whole_lt a b c d hb1 hd1)
    have WG := hid (@whole_lt c d a b hd1 hb1)
    have WE := hid (@whole_eq a b c d (a / b))
    have uu0 : 0 ≤ a - a / b * b := by omega
    have uu1 : a - a / b * b < b := by omega
    have vv0 : 0 ≤ c - c / d * d := by omega
    have vv1 : c - c / d * d < d := by omega
    clear eu ev ub0 ub1 v0 v1
    clear ih ub2 v2
    obtain ⟨r, hr⟩ : ∃ r, Lib.compareInt (a * d) (c * b) = r := ⟨_, rfl⟩
    rw [hr]
    have HR := hid hr
    clear hr
    go_enter Tryd.func26, Tryd.ntmps26
    go_upto_region 1 with fail
    have hh : Held w ((w.alloc (.cells #[.int .i64 a, .int .i64 b] 23)).alloc (.cells #[.int .i64 c, .int .i64 d] 23)) := ((Held.refl w).alloc _).alloc _
    have c0 : ((w.alloc (.cells #[.int .i64 a, .int .i64 b] 23)).alloc (.cells #[.int .i64 c, .int .i64 d] 23)).cell? ⟨w.heap.size, 0, none⟩ = some (.int .i64 a) := by go_simp
    have c1 : ((w.alloc (.cells #[.int .i64 a, .int .i64 b] 23)).alloc (.cells #[.int .i64 c, .int .i64 d] 23)).cell? ⟨w.heap.size, 1, none⟩ = some (.int .i64 b) := by go_simp
    have c2 : ((w.alloc (.cells #[.int .i64 a, .int .i64 b] 23)).alloc (.cells #[.int .i64 c, .int .i64 d] 23)).cell? ⟨w.heap.size + 1, 0, none⟩ = some (.int .i64 c) := by go_simp
    have c3 : ((w.alloc (.cells #[.int .i64 a, .int .i64 b] 23)).alloc (.cells #[.int .i64 c, .int .i64 d] 23)).cell? ⟨w.heap.size + 1, 1, none⟩ = some (.int .i64 d) := by go_simp
    generalize (w.alloc (.cells #[.int .i64 a, .int .i64 b] 23)).alloc (.cells #[.int .i64 c, .int .i64 d] 23) = w1 at *
    have k0 := cell_regrown c0
    have k1 := cell_regrown c1
    have k2 := cell_regrown c2
    have k3 := cell_regrown c3
    refine wp_region_quiet_below (by kernel_rfl) (by kernel_rfl) ?_
    repeat (quiet_step (first | with_reducible exact B0.out _ _ | with_reducible exact B1.out _ _))
    refine wpQuiet_nil ?_
    intro _ hw'
    obtain ⟨⟨dq, osq⟩, hw''⟩ := hw'
    subst hw''
    replace c0 := k0 dq osq
    replace c1 := k1 dq osq
    replace c2 := k2 dq osq
    replace c3 := k3 dq osq
    replace hh := hh.tr (held_regrown w1 dq osq)
    clear k0 k1 k2 k3 B0 B1
    generalize grow (redrawn w1 dq) osq = w2 at *
    by_cases g1 : a / b < c / d
    · have e1 : r = -1 := by rw [← HR.out]; exact ci_lt (WL.out g1)
      have E1 := hid e1
      clear e1
      have t1 : (a / b != c / d) = true := by simp; omega
      go_wp2_with fail
      go_ret
      exact ⟨by rw [E1.out]; rfl, hh⟩
    by_cases g2 : c / d < a / b
    · have e1 : r = 1 := by rw [← HR.out]; exact ci_gt (WG.out g2)
      have E1 := hid e1
      clear e1
      have t1 : (a / b != c / d) = true := by simp; omega
      go_wp2_with fail
      go_ret
      exact ⟨by rw [E1.out]; rfl, hh⟩
    have g3 : c / d = a / b := by omega
    have g4 : (a / b != c / d) = false := by simp; omega
    have we := WE.out
    rw [← g3] at we
    rw [g3] at we
    have we2 : a * d - c * b = (a - a / b * b) * d - (c - c / d * d) * b := by rw [g3]; exact we
    clear we g3
    have W2 := hid we2
    clear we2 WL WG WE
    obtain ⟨u, hu⟩ : ∃ u, a - a / b * b = u := ⟨_, rfl⟩
    obtain ⟨v, hv⟩ : ∃ v, c - c / d * d = v := ⟨_, rfl⟩
    go_upto_region 6 with fail
    go_quiet (fail)
    replace c0 := (show (w2.drewN nq).cell? _ = _ from c0)
    replace c1 := (show (w2.drewN nq).cell? _ = _ from c1)
    replace c2 := (show (w2.drewN nq).cell? _ = _ from c2)
    replace c3 := (show (w2.drewN nq).cell? _ = _ from c3)
    replace hh := hh.drewN nq
    generalize w2.drewN nq = w3 at *
    have w2 := W2.out
    rw [hu] at uu0 uu1 w2
    rw [hv] at vv0 vv1 w2
    have W3 := hid w2
    clear w2 W2 hu hv
    by_cases hu0 : u = 0
    · by_cases hv0 : v = 0
      · have e1 : r = 0 := by
          rw [← HR.out]
          exact ci_eq (by have := W3.out; rw [hu0, hv0] at this; omega)
        have E1 := hid e1
        subst hu0 hv0
        clear e1 W3
        go_wp2_with fail
        go_ret
        exact ⟨by rw [E1.out]; rfl, hh⟩
      · have e1 : r = -1 := by
          rw [← HR.out]
          have p1 : 0 < v * b := Int.mul_pos (by omega) hb1
          exact ci_lt (by have := W3.out; rw [hu0] at this; omega)
        have E1 := hid e1
        have t2 : (v == 0) = false := by simpa using hv0
        subst hu0
        clear e1 W3 hv0
        go_wp2_with fail
        go_ret
        exact ⟨by rw [E1.out]; rfl, hh⟩
    have t1 : (u == 0) = false := by simpa using hu0
    by_cases hv0 : v = 0
    · have e1 : r = 1 := by
        rw [← HR.out]
        have p1 : 0 < u * d := Int.mul_pos (by omega) hd1
        exact ci_gt (by have := W3.out; rw [hv0] at this; omega)
      have E1 := hid e1
      subst hv0
      clear e1 W3 hu0
      go_wp2_with fail
      go_ret
      exact ⟨by rw [E1.out]; rfl, hh⟩
    · have t2 : (v == 0) = false := by simpa using hv0
      have e1 : r = Lib.compareInt (d * u) (b * v) := by
        rw [← HR.out]
        exact ci_sub (by rw [W3.out, Int.mul_comm u, Int.mul_comm v])
      have E1 := hid e1
      clear e1 W3
      go_wp2_with fail
      refine (IH.out d v b u _ (by omega) (by omega) (by omega) (by omega) (by omega) (by omega) (by omega) (by omega) (by omega)).mono ?_
      rintro e w4 ⟨rfl, hb4⟩
      go_wp2_with fail
      go_ret
      exact ⟨by rw [E1.out]; rfl, hh.tr hb4⟩

theorem rcmp_any (a b c d : Int) (w : World) (h1 : -4294967296 ≤ a) (h2 : a ≤ 4294967296) (h3 : 0 < b) (h4 : b ≤ 4294967296) (h5 : -4294967296 ≤ c) (h6 : c ≤ 4294967296) (h7 : 0 < d) (h8 : d ≤ 4294967296) :
    Calls Tryd.prog 26 #[.agg #[.int .i64 a, .int .i64 b], .agg #[.int .i64 c, .int .i64 d]] w fun e w' => e = .returned (.int .i64 (Lib.compareInt (a * d) (c * b))) ∧ Held w w' :=
  rcmp_nat (b + d).toNat a b c d w (by omega) h1 h2 h3 h4 h5 h6 h7 h8

set_option maxRecDepth 20000 in
set_option maxHeartbeats 800000 in
theorem rCmp_yes (a b c d : Int) (w : World) (h1 : mayR a b = true) (h2 : mayR c d = true) (hb : b ≠ 0) (hd : d ≠ 0) :
    Calls Tryd.prog 7 #[.agg #[.int .i64 a, .int .i64 b], .agg #[.int .i64 c, .int .i64 d]] w fun e w' => e = .returned (.tuple #[.int .i64 (cmpR a b c d), .bool true]) ∧ Held w w' := by
  have U1 := up_bounds h1 hb
  have U2 := up_bounds h2 hd
  have B1 := mayR_bounds h1
  have B2 := mayR_bounds h2
  have hb' : (b == 0) = false := by simpa using hb
  have hd' : (d == 0) = false := by simpa using hd
  have M1 := hid h1
  have M2 := hid h2
  clear h1 h2 hb hd
  go_enter Tryd.func7, Tryd.ntmps7
  go_wp2_with fail
  refine (rmay_any a b true M1.out _).mono ?_
  rintro e w1 ⟨rfl, hb1⟩
  have c0 := Held.cell (b := w.heap.size) (o := 0) (v := .int .i64 a) (by simp) hb1
  have c1 := Held.cell (b := w.heap.size) (o := 1) (v := .int .i64 b) (by simp) hb1
  have c2 := Held.cell (b := w.heap.size + 1) (o := 0) (v := .int .i64 c) (by simp) hb1
  have c3 := Held.cell (b := w.heap.size + 1) (o := 1) (v := .int .i64 d) (by simp) hb1
  have hh : Held w w1 := (((Held.refl w).alloc _).alloc _).tr hb1
  clear hb1
  go_wp2_with fail
  refine (rmay_any c d true M2.out _).mono ?_
  rintro e w2 ⟨rfl, hb2⟩
  replace c0 := Held.cell c0 hb2
  replace c1 := Held.cell c1 hb2
  replace c2 := Held.cell c2 hb2
  replace c3 := Held.cell c3 hb2
  replace hh := hh.tr hb2
  clear hb2
  go_upto_region 3 with fail
  have k0 := cell_regrown c0
  have k1 := cell_regrown c1
  have k2 := cell_regrown c2
  have k3 := cell_regrown c3
  have Q0 := hid (qcall (w := w2) fun W _ => rup_any a b W (by omega) (by omega) (by omega) (by omega))
  have Q1 := hid (qcall (w := w2) fun W _ => rup_any c d W (by omega) (by omega) (by omega) (by omega))
  have Q2 := hid (qcall (w := w2) fun W _ => rcmp_any (upN a b) (upD b) (upN c d) (upD d) W (by omega) (by omega) (by omega) (by omega) (by omega) (by omega) (by omega) (by omega))
  refine wp_region_quiet_below (by kernel_rfl) (by kernel_rfl) ?_
  repeat (quiet_step (first | with_reducible exact Q0.out _ _ | with_reducible exact Q1.out _ _ | with_reducible exact Q2.out _ _))
  refine wpQuiet_nil ?_
  intro _ hw'
  obtain ⟨⟨dq, osq⟩, hw''⟩ := hw'
  subst hw''
  go_wp2_with fail
  go_ret2
  exact ⟨rfl, hh.tr (held_regrown _ _ _)⟩

set_option maxRecDepth 20000 in
set_option maxHeartbeats 800000 in
theorem rCmp_no (a b c d : Int) (w : World) (h : mayR a b = false ∨ mayR c d = false ∨ b = 0 ∨ d = 0) :
    Calls Tryd.prog 7 #[.agg #[.int .i64 a, .int .i64 b], .agg #[.int .i64 c, .int .i64 d]] w fun e w' => e = .returned (.tuple #[.int .i64 0, .bool false]) ∧ Held w w' := by
  obtain ⟨p, hp⟩ : ∃ p, mayR a b = p := ⟨_, rfl⟩
  obtain ⟨q, hq⟩ : ∃ q, mayR c d = q := ⟨_, rfl⟩
  rw [hp, hq] at h
  have M1 := hid hp
  have M2 := hid hq
  clear hp hq
  have hb' : b = 0 ∨ (b == 0) = false := by by_cases h : b = 0 <;> simp [h]
  have hd' : d = 0 ∨ (d == 0) = false := by by_cases h : d = 0 <;> simp [h]
  have H := hid h
  clear h
  go_enter Tryd.func7, Tryd.ntmps7
  go_wp2_with fail
  refine (rmay_any a b p M1.out _).mono ?_
  rintro e w1 ⟨rfl, hb1⟩
  have c0 := Held.cell (b := w.heap.size) (o := 0) (v := .int .i64 a) (by simp) hb1
  have c1 := Held.cell (b := w.heap.size) (o := 1) (v := .int .i64 b) (by simp) hb1
  have c2 := Held.cell (b := w.heap.size + 1) (o := 0) (v := .int .i64 c) (by simp) hb1
  have c3 := Held.cell (b := w.heap.size + 1) (o := 1) (v := .int .i64 d) (by simp) hb1
  have hh : Held w w1 := (((Held.refl w).alloc _).alloc _).tr hb1
  clear hb1
  cases p
  · go_wp2_with fail
    go_ret2
    exact ⟨rfl, hh⟩
  · go_wp2_with fail
    refine (rmay_any c d q M2.out _).mono ?_
    rintro e w2 ⟨rfl, hb2⟩
    replace c0 := Held.cell c0 hb2
    replace c1 := Held.cell c1 hb2
    replace c2 := Held.cell c2 hb2
    replace c3 := Held.cell c3 hb2
    replace hh := hh.tr hb2
    clear hb2
    cases q
    · go_wp2_with fail
      go_ret2
      exact ⟨rfl, hh⟩
    · rcases hb' with rfl | hb'
      · go_wp2_with fail
        go_ret2
        exact ⟨rfl, hh⟩
      · rcases hd' with rfl | hd'
        · go_wp2_with fail
          go_ret2
          exact ⟨rfl, hh⟩
        · exfalso
          have := H.out
          simp at this hb' hd'
          omega

end Go.Proofs.YtghnmamdfinbpaaDoor

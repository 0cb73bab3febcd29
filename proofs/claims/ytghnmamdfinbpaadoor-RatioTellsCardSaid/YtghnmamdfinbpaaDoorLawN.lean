/-
  The walk of tintypelaw02.RatioNearest: it returns true, at every ratio and every two numbers.
-/
import Derived.Test.YtghnmamdfinbpaaDoorLawB
import Derived.Test.YtghnmamdfinbpaaDoorNearFacts
namespace Go.Proofs.YtghnmamdfinbpaaDoor
open Go.RowKit Go.Sort

theorem plainR_any (n d : Int) (x : Bool) (hx : (u32B n && u32B d) = x) (w : World) :
    Calls Tryd.prog 15 #[.agg #[.int .i64 n, .int .i64 d]] w fun e w' => e = .returned (.bool x) ∧ Held w w' := by
  have H := hid hx
  clear hx
  go_enter Tryd.func15, Tryd.ntmps15
  go_wp2_with fail
  refine (pplain_any n d x H.out _).mono ?_
  rintro e w1 ⟨rfl, hb1⟩
  go_wp2_with fail
  go_ret
  exact ⟨rfl, ((Held.refl w).alloc _).tr hb1⟩

theorem signedR_any (n d : Int) (x : Bool) (hx : (s32B n && s32B d) = x) (w : World) :
    Calls Tryd.prog 17 #[.agg #[.int .i64 n, .int .i64 d]] w fun e w' => e = .returned (.bool x) ∧ Held w w' := by
  have H := hid hx
  clear hx
  go_enter Tryd.func17, Tryd.ntmps17
  go_wp2_with fail
  refine (psigned_any n d x H.out _).mono ?_
  rintro e w1 ⟨rfl, hb1⟩
  go_wp2_with fail
  go_ret
  exact ⟨rfl, ((Held.refl w).alloc _).tr hb1⟩

set_option maxRecDepth 20000 in
set_option maxHeartbeats 800000 in
theorem nearest_no (a b most den : Int) (w : World) (hE : Env w) (h : askB a b most = false) :
    Calls Tryd.prog 5 #[.agg #[.int .i64 a, .int .i64 b], .int .i64 most, .int .i64 den] w fun e w' => e = .returned (.bool true) ∧ Held w w' := by
  have HE := hid hE
  have H := hid h
  obtain ⟨p, hp⟩ : ∃ p, (u32B a && u32B b) = p := ⟨_, rfl⟩
  obtain ⟨q, hq⟩ : ∃ q, (s32B a && s32B b) = q := ⟨_, rfl⟩
  have key : (p = false ∧ q = false) ∨ a < 0 ∨ b < 1 ∨ most < 1 ∨ 4096 < most := by
    by_cases hh : p = false ∧ q = false
    · exact .inl hh
    · right
      have hm : mayR a b = true := by
        unfold mayR; rw [hp, hq]
        cases p <;> cases q <;> simp_all
      simp [askB, hm] at h
      omega
  have P := hid hp
  have Q := hid hq
  have K := hid key
  clear hE h hp hq key
  go_enter Tryd.func5, Tryd.ntmps5
  go_wp2_with fail
  refine (near_no a b most _ H.out).mono ?_
  rintro e w1 ⟨rfl, hb1⟩
  have c0 := Held.cell (b := w.heap.size) (o := 0) (v := .int .i64 a) (by simp) hb1
  have c1 := Held.cell (b := w.heap.size) (o := 1) (v := .int .i64 b) (by simp) hb1
  have hd : Held w w1 := ((Held.refl w).alloc _).tr hb1
  have z0 : w.heap.size < w1.heap.size := World.block_lt_of_cell? _ _ c0
  clear hb1
  by_cases h0 : a < 0
  · have n0 : decide (a < 0) = true := by simpa using h0
    go_wp2_with fail
    refine (awake_any _ (HE.out.held (hd.alloc _))).mono ?_
    rintro e w2 ⟨rfl, hb2⟩
    go_wp2_with fail
    go_ret
    exact ⟨rfl, (hd.alloc _).tr hb2⟩
  have n0 : decide (a < 0) = false := by simpa using h0
  by_cases h1 : b < 1
  · have n1 : decide (b < 1) = true := by simpa using h1
    go_wp2_with fail
    refine (awake_any _ (HE.out.held (hd.alloc _))).mono ?_
    rintro e w2 ⟨rfl, hb2⟩
    go_wp2_with fail
    go_ret
    exact ⟨rfl, (hd.alloc _).tr hb2⟩
  have n1 : decide (b < 1) = false := by simpa using h1
  by_cases h2 : most < 1
  · have n2 : decide (most < 1) = true := by simpa using h2
    go_wp2_with fail
    refine (awake_any _ (HE.out.held (hd.alloc _))).mono ?_
    rintro e w2 ⟨rfl, hb2⟩
    go_wp2_with fail
    go_ret
    exact ⟨rfl, (hd.alloc _).tr hb2⟩
  have n2 : decide (most < 1) = false := by simpa using h2
  by_cases h3 : 4096 < most
  · have n3 : decide (4096 < most) = true := by simpa using h3
    go_wp2_with fail
    refine (awake_any _ (HE.out.held (hd.alloc _))).mono ?_
    rintro e w2 ⟨rfl, hb2⟩
    go_wp2_with fail
    go_ret
    exact ⟨rfl, (hd.alloc _).tr hb2⟩
  have n3 : decide (4096 < most) = false := by simpa using h3
  have kk := K.out
  obtain ⟨rfl, rfl⟩ : p = false ∧ q = false := by
    rcases kk with h | h | h | h | h
    · exact h
    all_goals omega
  go_wp2_with fail
  refine (plainR_any a b false P.out _).mono ?_
  rintro e w2 ⟨rfl, hb2⟩
  have HW : Held w1 w2 := ((Held.refl w1).alloc _).tr hb2
  replace c0 := Held.cell c0 HW
  replace c1 := Held.cell c1 HW
  replace hd := hd.tr HW
  clear hb2 HW
  go_wp2_with fail
  refine (signedR_any a b false Q.out _).mono ?_
  rintro e w3 ⟨rfl, hb3⟩
  replace hd := hd.tr hb3
  go_wp2_with fail
  refine (awake_any _ (HE.out.held hd)).mono ?_
  rintro e w4 ⟨rfl, hb4⟩
  go_wp2_with fail
  go_ret
  exact ⟨rfl, hd.tr hb4⟩

/-- what the walk wants of the numbers, once and for all. -/
structure NearNums (a b most p q n d : Int) : Prop where
  may : mayR p q = true
  q0 : q ≠ 0
  p0 : 0 ≤ p
  q1 : 1 ≤ q
  qm : q ≤ most
  pm : p ≤ 4294967295
  ln : leN p q = p
  ld : leD p q = q
  self : d ≤ most → p = n ∧ q = d
  aq0 : 0 ≤ a * q
  aq1 : a * q ≤ 4294967295 * 4096
  pb0 : 0 ≤ p * b
  pb1 : p * b ≤ 4294967295 * 4096 + 4294967295
  far : a * q - p * b ≤ b ∧ p * b - a * q ≤ b
  best : ∀ x y, 1 ≤ y → y ≤ most → ((a * q - p * b).natAbs : Int) * y ≤ ((a * y - x * b).natAbs : Int) * q ∧ (((a * q - p * b).natAbs : Int) * y = ((a * y - x * b).natAbs : Int) * q → ¬ y < q)

theorem near_nums {a b most p q : Int} (h1 : mayR a b = true) (ha : 0 ≤ a) (hb : 1 ≤ b) (hm2 : most ≤ 4096) (h : NearSpec (leN a b) (leD a b) most p q) : NearNums a b most p q (leN a b) (leD a b) := by
  obtain ⟨N0, N1, D0, D1, hc, g, hg, ea, eb⟩ := least_facts h1 ha hb
  have U := mayR_bounds h1
  generalize leN a b = N at *
  generalize leD a b = D at *
  have p0 := h.1
  have q1 := h.2.1
  have qm := h.2.2.1
  have pm := h.num_le N0 D0
  have aq0 : 0 ≤ a * q := Int.mul_nonneg ha (by omega)
  have aq1 : a * q ≤ 4294967295 * 4096 := Int.mul_le_mul (by omega) (by omega) (by omega) (by omega)
  have sc := h.scaled hg D0
  rw [← ea, ← eb] at sc
  have pb0 : 0 ≤ p * b := Int.mul_nonneg p0 (by omega)
  exact { may := by simp [mayR, u32B, s32B]; omega
          q0 := by omega
          p0 := p0
          q1 := q1
          qm := qm
          pm := by omega
          ln := h.least.1
          ld := h.least.2
          self := fun hd => h.self D0 hd hc
          aq0 := aq0
          aq1 := aq1
          pb0 := pb0
          pb1 := by omega
          far := by omega
          best := fun x y hy1 hy2 => by
            have := h.scale (x := x) hg hy1 hy2
            rw [← ea, ← eb] at this
            exact this }

set_option maxRecDepth 20000 in
set_option maxHeartbeats 2000000 in
theorem nearest_yes (a b most den : Int) (w : World) (hE : Env w) (h : askB a b most = true) :
    Calls Tryd.prog 5 #[.agg #[.int .i64 a, .int .i64 b], .int .i64 most, .int .i64 den] w fun e w' => e = .returned (.bool true) ∧ Held w w' := by
  have H := hid h
  simp only [askB, Bool.and_eq_true, decide_eq_true_eq] at h
  obtain ⟨⟨⟨⟨h1, h2⟩, h3⟩, h4⟩, h5⟩ := h
  have U := mayR_bounds h1
  have M1 := hid h1
  have HE := hid hE
  clear hE h1
  go_enter Tryd.func5, Tryd.ntmps5
  go_wp2_with fail
  refine (near_yes a b most _ H.out).mono ?_
  rintro e w1 ⟨p, q, rfl, hn, hb1⟩
  have NN := near_nums M1.out h2 h3 h5 hn
  have c0 := Held.cell (b := w.heap.size) (o := 0) (v := .int .i64 a) (by simp) hb1
  have c1 := Held.cell (b := w.heap.size) (o := 1) (v := .int .i64 b) (by simp) hb1
  have hd : Held w w1 := ((Held.refl w).alloc _).tr hb1
  clear hb1 hn
  have LR := fun W => least_is p q p q W NN.may NN.q0 NN.ln NN.ld
  have LA := fun W => least_yes a b W M1.out (by omega)
  have n1 := NN.p0
  have n2 := NN.q1
  have n3 := NN.qm
  have n4 := NN.pm
  have SF := hid NN.self
  have BE := hid NN.best
  have m1 := NN.aq0
  have m2 := NN.aq1
  have m3 := NN.pb0
  have m4 := NN.pb1
  have m5 := NN.far
  clear NN M1
  generalize leN a b = N at *
  generalize leD a b = D at *
  have HL := hid LR
  have HA := hid LA
  clear LR LA H
  go_wp2_with fail
  refine (HL.out _).mono ?_
  rintro e w2 ⟨rfl, hb2⟩
  have d0 := Held.cell (b := w1.heap.size) (o := 0) (v := .int .i64 p) (by go_simp) hb2
  have d1 := Held.cell (b := w1.heap.size) (o := 1) (v := .int .i64 q) (by go_simp) hb2
  have HW : Held w1 w2 := ((Held.refl w1).alloc _).tr hb2
  replace c0 := Held.cell c0 HW
  replace c1 := Held.cell c1 HW
  replace hd := hd.tr HW
  clear hb2 HW
  have z0 : w.heap.size < w2.heap.size := World.block_lt_of_cell? _ _ c0
  go_wp2_with fail
  refine (HA.out _).mono ?_
  rintro e w3 ⟨rfl, hb3⟩
  have e0 := Held.cell (b := w2.heap.size) (o := 0) (v := .int .i64 p) (by go_simp) hb3
  have e1 := Held.cell (b := w2.heap.size) (o := 1) (v := .int .i64 q) (by go_simp) hb3
  have HW : Held w2 w3 := ((Held.refl w2).alloc _).tr hb3
  replace c0 := Held.cell c0 HW
  replace c1 := Held.cell c1 HW
  replace d0 := Held.cell d0 HW
  replace d1 := Held.cell d1 HW
  replace hd := hd.tr HW
  clear hb3 HW
  have z1 : w.heap.size < w3.heap.size := World.block_lt_of_cell? _ _ c0
  have z2 : w1.heap.size < w3.heap.size := World.block_lt_of_cell? _ _ d0
  have z3 : w2.heap.size < w3.heap.size := World.block_lt_of_cell? _ _ e0
  go_upto_region 6 with fail
  have HWl : Held w3 (w3.alloc (.cells #[.int .i64 N, .int .i64 D] 23)) := (Held.refl _).alloc _
  replace c0 := Held.cell c0 HWl
  replace c1 := Held.cell c1 HWl
  replace d0 := Held.cell d0 HWl
  replace d1 := Held.cell d1 HWl
  replace e0 := Held.cell e0 HWl
  replace e1 := Held.cell e1 HWl
  have f0 : (w3.alloc (.cells #[.int .i64 N, .int .i64 D] 23)).cell? ⟨w3.heap.size, 0, none⟩ = some (.int .i64 N) := by go_simp
  have f1 : (w3.alloc (.cells #[.int .i64 N, .int .i64 D] 23)).cell? ⟨w3.heap.size, 1, none⟩ = some (.int .i64 D) := by go_simp
  replace hd := hd.tr HWl
  clear HWl z0 z1 z2 z3 HL HA
  generalize w3.alloc (.cells #[.int .i64 N, .int .i64 D] 23) = wl at *
  go_cut [110] (fun u110 wx => u110 = .bool false ∧ wl = wx)
  case first =>
    by_cases hD : D ≤ most
    · obtain ⟨rfl, rfl⟩ := SF.out hD
      go_wp2_with fail
      go_meet
      case rel => exact ⟨congrArg Value.bool (by simp; omega), rfl⟩
    · go_wp2_with fail
      go_meet
      case rel => exact ⟨congrArg Value.bool (by simp; omega), rfl⟩
  case rest =>
    obtain ⟨rfl, rfl⟩ := hcut
    by_cases g1 : den < 1
    · go_wp2_with fail
      refine (awake_any _ (HE.out.held hd)).mono ?_
      rintro e w4 ⟨rfl, hb4⟩
      go_wp2_with fail
      go_ret
      exact ⟨rfl, hd.tr hb4⟩
    by_cases g2 : most < den
    · go_wp2_with fail
      refine (awake_any _ (HE.out.held hd)).mono ?_
      rintro e w4 ⟨rfl, hb4⟩
      go_wp2_with fail
      go_ret
      exact ⟨rfl, hd.tr hb4⟩
    by_cases g3 : 200 < den
    · go_wp2_with fail
      refine (awake_any _ (HE.out.held hd)).mono ?_
      rintro e w4 ⟨rfl, hb4⟩
      go_wp2_with fail
      go_ret
      exact ⟨rfl, hd.tr hb4⟩
    have ad0 : 0 ≤ a * den := Int.mul_nonneg h2 (by omega)
    have ad1 : a * den ≤ 4294967295 * 200 := Int.mul_le_mul (by omega) (by omega) (by omega) (by omega)
    have qd0 : 0 ≤ a * den / b := Int.ediv_nonneg ad0 (by omega)
    have qd1 : a * den / b ≤ a * den := Int.ediv_le_self _ ad0
    have far0 : max (a * q - p * b) (p * b - a * q) = ((a * q - p * b).natAbs : Int) := by omega
    have F0 : 0 ≤ max (a * q - p * b) (p * b - a * q) := by omega
    have F1 : max (a * q - p * b) (p * b - a * q) ≤ 4294967295 := by omega
    have Fd0 : 0 ≤ max (a * q - p * b) (p * b - a * q) * den := Int.mul_nonneg F0 (by omega)
    have Fd1 : max (a * q - p * b) (p * b - a * q) * den ≤ 4294967295 * 200 := Int.mul_le_mul F1 (by omega) (by omega) (by omega)
    have FE := hid far0
    clear far0
    go_wp2_with fail
    go_loop [14] (fun t14 => ∃ n : Int, 0 ≤ n ∧ t14 = .int .i64 n) (fun t14 => (a * den / b + 3 - intOf t14).toNat)
    case atStart => exact ⟨_, by omega, rfl⟩
    case round =>
      obtain ⟨n, hn0, rfl⟩ := hrel
      by_cases hle : n ≤ a * den / b + 2
      · have nb0 : 0 ≤ n * b := Int.mul_nonneg hn0 (by omega)
        have nb1 : n * b ≤ (a * den / b + 2) * b := Int.mul_le_mul_of_nonneg_right hle (by omega)
        have nb2 : (a * den / b + 2) * b = a * den / b * b + 2 * b := Int.add_mul _ _ _
        have nb3 : a * den / b * b ≤ a * den := Int.ediv_mul_le _ (by omega)
        have nb4 : n * b ≤ a * den + 2 * b := by omega
        clear nb1 nb2 nb3
        have X0 : max (a * den - n * b) (n * b - a * den) = ((a * den - n * b).natAbs : Int) := by omega
        have X1 : 0 ≤ max (a * den - n * b) (n * b - a * den) := by omega
        have X2 : max (a * den - n * b) (n * b - a * den) ≤ 4294967295 * 202 := by omega
        have X3 : 0 ≤ max (a * den - n * b) (n * b - a * den) * q := Int.mul_nonneg X1 (by omega)
        have X4 : max (a * den - n * b) (n * b - a * den) * q ≤ 4294967295 * 202 * 4096 := Int.mul_le_mul X2 (by omega) (by omega) (by omega)
        obtain ⟨B1, B2⟩ := BE.out n den (by omega) (by omega)
        rw [← X0, ← FE.out] at B1 B2
        have t1 : decide (max (a * den - n * b) (n * b - a * den) * q < max (a * q - p * b) (p * b - a * q) * den) = false := by simpa using B1
        have hle' : decide (n ≤ a * den / b + 2) = true := by simpa using hle
        by_cases heq : max (a * den - n * b) (n * b - a * den) * q = max (a * q - p * b) (p * b - a * q) * den
        · have t2 : (max (a * den - n * b) (n * b - a * den) * q == max (a * q - p * b) (p * b - a * q) * den) = true := by simpa using heq
          have t3 : decide (den < q) = false := by simpa using B2 heq.symm
          have t4 : ¬ den < q := by have := B2 heq.symm; omega
          clear heq B1 B2 X0
          go_wp2_with fail
          go_round
          case rel => exact ⟨n + 1, by omega, rfl⟩
          case measure => simp [intOf]; omega
        · have t2 : (max (a * den - n * b) (n * b - a * den) * q == max (a * q - p * b) (p * b - a * q) * den) = false := by simpa using heq
          clear heq B1 B2 X0
          go_wp2_with fail
          go_round
          case rel => exact ⟨n + 1, by omega, rfl⟩
          case measure => simp [intOf]; omega
      · have hle' : decide (n ≤ a * den / b + 2) = false := by simpa using hle
        go_wp2_with fail
        refine (awake_any _ (HE.out.held hd)).mono ?_
        rintro e w4 ⟨rfl, hb4⟩
        go_wp2_with fail
        go_ret
        exact ⟨rfl, hd.tr hb4⟩

theorem nearest_any (a b most den : Int) (w : World) (hE : Env w) :
    Calls Tryd.prog 5 #[.agg #[.int .i64 a, .int .i64 b], .int .i64 most, .int .i64 den] w fun e w' => e = .returned (.bool true) ∧ Held w w' := by
  cases h : askB a b most
  · exact nearest_no a b most den w hE h
  · exact nearest_yes a b most den w hE h

end Go.Proofs.YtghnmamdfinbpaaDoor

/-
  The walk of tintypelaw02.RatioCompares: it returns true, at every two ratios and every number.
-/
import Derived.Test.YtghnmamdfinbpaaDoorLawN
import Derived.Test.YtghnmamdfinbpaaDoorRefNearB
namespace Go.Proofs.YtghnmamdfinbpaaDoor
open Go.RowKit Go.Sort

theorem cmp_both (a b c d : Int) : ∃ (r : Int) (k : Bool), Hid (∀ w, Calls Tryd.prog 6 #[.agg #[.int .i64 a, .int .i64 b], .agg #[.int .i64 c, .int .i64 d]] w fun e w' => e = .returned (.tuple #[.int .i64 r, .bool k]) ∧ Held w w') ∧
    Hid (∀ w, Calls Tryd.prog 7 #[.agg #[.int .i64 a, .int .i64 b], .agg #[.int .i64 c, .int .i64 d]] w fun e w' => e = .returned (.tuple #[.int .i64 r, .bool k]) ∧ Held w w') := by
  by_cases h1 : mayR a b = false ∨ mayR c d = false ∨ b = 0 ∨ d = 0
  · exact ⟨0, false, fun w => cmp_no a b c d w h1, fun w => rCmp_no a b c d w h1⟩
  · have e1 : mayR a b = true := by cases h : mayR a b <;> simp_all
    have e2 : mayR c d = true := by cases h : mayR c d <;> simp_all
    have e3 : b ≠ 0 := fun h => h1 (.inr (.inr (.inl h)))
    have e4 : d ≠ 0 := fun h => h1 (.inr (.inr (.inr h)))
    exact ⟨_, true, fun w => cmp_yes a b c d w e1 e2 e3 e4, fun w => rCmp_yes a b c d w e1 e2 e3 e4⟩

theorem least_both (a b : Int) : ∃ (x y : Int) (k : Bool), Hid (∀ w, Calls Tryd.prog 8 #[.agg #[.int .i64 a, .int .i64 b]] w fun e w' => e = .returned (.tuple #[.agg #[.int .i64 x, .int .i64 y], .bool k]) ∧ Held w w') ∧
    Hid (∀ w, Calls Tryd.prog 9 #[.agg #[.int .i64 a, .int .i64 b]] w fun e w' => e = .returned (.tuple #[.agg #[.int .i64 x, .int .i64 y], .bool k]) ∧ Held w w') := by
  by_cases h1 : mayR a b = false ∨ b = 0
  · exact ⟨0, 0, false, fun w => least_no a b w h1, fun w => rleast_no a b w h1⟩
  · have e1 : mayR a b = true := by cases h : mayR a b <;> simp_all
    have e3 : b ≠ 0 := fun h => h1 (.inr h)
    exact ⟨_, _, true, fun w => least_yes a b w e1 e3, fun w => rleast_yes a b w e1 e3⟩

theorem RS.try {a b q' p' p q n d : Int} (h : RS a b q' p' p q n d) (hb : 0 < b) (ha : 0 ≤ a) (hq : 1 ≤ q') (h1 : a * q' / b ≤ p') (h2 : p' ≤ a * q' / b + 1) : ∃ p q n d, RS a b q' (p' + 1) p q n d := by
  by_cases h3 : q = 0 ∨ dist a b p' q' * d < n * q'
  · exact ⟨_, _, _, _, h.take hb ha hq h1 h2 h3⟩
  · exact ⟨_, _, _, _, h.keep (fun e => h3 (.inl e)) (fun e => h3 (.inr e))⟩

theorem RS.run {a b : Int} (hb : 0 < b) (ha : 0 ≤ a) : ∀ k : Nat, ∃ p q n d, RS a b ((k : Int) + 1) (a * ((k : Int) + 1) / b) p q n d
  | 0 => ⟨0, 0, 0, 0, by simpa using RS.start a b⟩
  | k + 1 => by
    obtain ⟨p, q, n, d, h⟩ := RS.run hb ha k
    obtain ⟨p, q, n, d, h⟩ := h.try hb ha (by omega) (by omega) (by omega)
    obtain ⟨p, q, n, d, h⟩ := h.try hb ha (by omega) (by omega) (by omega)
    have e : a * ((k : Int) + 1) / b + 1 + 1 = a * ((k : Int) + 1) / b + 2 := by omega
    rw [e] at h
    have h := h.next hb (by omega)
    exact ⟨p, q, n, d, by simpa using h⟩

theorem near_exists {a b most : Int} (hb : 0 < b) (ha : 0 ≤ a) (hm : 1 ≤ most) : ∃ x y, NearSpec a b most x y := by
  obtain ⟨k, rfl⟩ := Int.eq_ofNat_of_zero_le (show 0 ≤ most by omega)
  obtain ⟨p, q, n, d, h⟩ := RS.run hb ha k
  exact ⟨p, q, h.spec hm⟩

theorem near_both (a b most : Int) : ∃ (x y : Int) (k : Bool), Hid (∀ w, Calls Tryd.prog 11 #[.agg #[.int .i64 a, .int .i64 b], .int .i64 most] w fun e w' => e = .returned (.tuple #[.agg #[.int .i64 x, .int .i64 y], .bool k]) ∧ Held w w') ∧
    Hid (∀ w, Calls Tryd.prog 12 #[.agg #[.int .i64 a, .int .i64 b], .int .i64 most] w fun e w' => e = .returned (.tuple #[.agg #[.int .i64 x, .int .i64 y], .bool k]) ∧ Held w w') := by
  cases h : askB a b most
  · exact ⟨0, 0, false, fun w => near_no a b most w h, fun w => rnear_no a b most w h⟩
  · have h' := h
    simp only [askB, Bool.and_eq_true, decide_eq_true_eq] at h'
    obtain ⟨⟨⟨⟨h1, h2⟩, h3⟩, h4⟩, h5⟩ := h'
    obtain ⟨x, y, hn⟩ := near_exists (a := a) (b := b) (by omega) h2 h4
    obtain ⟨_, _, _, _, _, g, hg, ea, eb⟩ := least_facts h1 h2 h3
    refine ⟨x, y, true, fun w => ?_, fun w => ?_⟩
    · refine (near_yes a b most w h).mono fun e w' ⟨p, q, he, hp, hh⟩ => ?_
      have ht := hp.times hg
      rw [← ea, ← eb] at ht
      obtain ⟨rfl, rfl⟩ := near_unique ht hn
      exact ⟨he, hh⟩
    · refine (rnear_yes a b most w h).mono fun e w' ⟨p, q, he, hp, hh⟩ => ?_
      obtain ⟨rfl, rfl⟩ := near_unique hp hn
      exact ⟨he, hh⟩

set_option maxRecDepth 20000 in
set_option maxHeartbeats 2000000 in
theorem compares_any (a b c d most : Int) (w : World) (hE : Env w) :
    Calls Tryd.prog 3 #[.agg #[.int .i64 a, .int .i64 b], .agg #[.int .i64 c, .int .i64 d], .int .i64 most] w fun e w' => e = .returned (.bool true) ∧ Held w w' := by
  have HE := hid hE
  obtain ⟨r, k, C1, C2⟩ := cmp_both a b c d
  obtain ⟨x, y, l, L1, L2⟩ := least_both a b
  obtain ⟨u, v, m, N1, N2⟩ := near_both a b most
  clear hE
  go_enter Tryd.func3, Tryd.ntmps3
  go_wp2_with fail
  refine (C1.out _).mono ?_
  rintro e w1 ⟨rfl, hb1⟩
  have c0 := Held.cell (b := w.heap.size) (o := 0) (v := .int .i64 a) (by simp) hb1
  have c1 := Held.cell (b := w.heap.size) (o := 1) (v := .int .i64 b) (by simp) hb1
  have c2 := Held.cell (b := w.heap.size + 1) (o := 0) (v := .int .i64 c) (by simp) hb1
  have c3 := Held.cell (b := w.heap.size + 1) (o := 1) (v := .int .i64 d) (by simp) hb1
  have hd : Held w w1 := (((Held.refl w).alloc _).alloc _).tr hb1
  clear hb1
  go_wp2_with fail
  refine (C2.out _).mono ?_
  rintro e w2 ⟨rfl, hb2⟩
  replace c0 := Held.cell c0 hb2
  replace c1 := Held.cell c1 hb2
  replace hd := hd.tr hb2
  clear hb2 c2 c3
  go_wp2_with fail
  refine (L1.out _).mono ?_
  rintro e w3 ⟨rfl, hb3⟩
  replace c0 := Held.cell c0 hb3
  replace c1 := Held.cell c1 hb3
  replace hd := hd.tr hb3
  clear hb3
  have zz : w.heap.size < w3.heap.size := World.block_lt_of_cell? _ _ c0
  go_wp2_with fail
  refine (L2.out _).mono ?_
  rintro e w4 ⟨rfl, hb4⟩
  have d0 := Held.cell (b := w3.heap.size) (o := 0) (v := .int .i64 x) (by go_simp) hb4
  have d1 := Held.cell (b := w3.heap.size) (o := 1) (v := .int .i64 y) (by go_simp) hb4
  have HW : Held w3 w4 := ((Held.refl w3).alloc _).tr hb4
  replace c0 := Held.cell c0 HW
  replace c1 := Held.cell c1 HW
  replace hd := hd.tr HW
  clear hb4 HW zz
  have z0 : w.heap.size < w4.heap.size := World.block_lt_of_cell? _ _ c0
  have z1 : w3.heap.size < w4.heap.size := World.block_lt_of_cell? _ _ d0
  by_cases hm : 60 < most
  · have hm' : decide (60 < most) = true := by simpa using hm
    by_cases hn : most ≤ 4096
    · have hn' : decide (most ≤ 4096) = true := by simpa using hn
      go_wp2_with fail
      refine (awake_any _ (HE.out.held (hd.alloc _))).mono ?_
      rintro e w5 ⟨rfl, hb5⟩
      go_wp2_with fail
      go_ret
      exact ⟨rfl, (hd.alloc _).tr hb5⟩
    · have hn' : decide (most ≤ 4096) = false := by simpa using hn
      go_wp2_with fail
      refine (N1.out _).mono ?_
      rintro e w5 ⟨rfl, hb5⟩
      have HW : Held w4 w5 := ((Held.refl w4).alloc _).tr hb5
      replace c0 := Held.cell c0 HW
      replace c1 := Held.cell c1 HW
      replace hd := hd.tr HW
      clear hb5 HW z0 z1
      have z0 : w.heap.size < w5.heap.size := World.block_lt_of_cell? _ _ c0
      go_wp2_with fail
      refine (N2.out _).mono ?_
      rintro e w6 ⟨rfl, hb6⟩
      have d0 := Held.cell (b := w5.heap.size) (o := 0) (v := .int .i64 u) (by go_simp) hb6
      have d1 := Held.cell (b := w5.heap.size) (o := 1) (v := .int .i64 v) (by go_simp) hb6
      have HW : Held w5 w6 := ((Held.refl w5).alloc _).tr hb6
      replace hd := hd.tr HW
      clear hb6 HW
      have z1 : w5.heap.size < w6.heap.size := World.block_lt_of_cell? _ _ d0
      go_wp2_with fail
      refine (awake_any _ (HE.out.held (hd.alloc _))).mono ?_
      rintro e w7 ⟨rfl, hb7⟩
      go_wp2_with fail
      go_ret
      exact ⟨rfl, (hd.alloc _).tr hb7⟩
  · have hm' : decide (60 < most) = false := by simpa using hm
    go_wp2_with fail
    refine (N1.out _).mono ?_
    rintro e w5 ⟨rfl, hb5⟩
    have HW : Held w4 w5 := ((Held.refl w4).alloc _).tr hb5
    replace c0 := Held.cell c0 HW
    replace c1 := Held.cell c1 HW
    replace hd := hd.tr HW
    clear hb5 HW z0 z1
    have z0 : w.heap.size < w5.heap.size := World.block_lt_of_cell? _ _ c0
    go_wp2_with fail
    refine (N2.out _).mono ?_
    rintro e w6 ⟨rfl, hb6⟩
    have d0 := Held.cell (b := w5.heap.size) (o := 0) (v := .int .i64 u) (by go_simp) hb6
    have d1 := Held.cell (b := w5.heap.size) (o := 1) (v := .int .i64 v) (by go_simp) hb6
    have HW : Held w5 w6 := ((Held.refl w5).alloc _).tr hb6
    replace hd := hd.tr HW
    clear hb6 HW
    have z1 : w5.heap.size < w6.heap.size := World.block_lt_of_cell? _ _ d0
    go_wp2_with fail
    refine (awake_any _ (HE.out.held (hd.alloc _))).mono ?_
    rintro e w7 ⟨rfl, hb7⟩
    go_wp2_with fail
    go_ret
    exact ⟨rfl, (hd.alloc _).tr hb7⟩

end Go.Proofs.YtghnmamdfinbpaaDoor

/-
  The walks of ratio.times and ratio.Cmp.
-/
import Derived.Test.YtghnmamdfinbpaaDoorRaC
import Derived.Deep.DeepCutAuto
import Derived.Deep.RegionHeld3
namespace Go.Proofs.YtghnmamdfinbpaaDoor
open Go.RowKit

set_option maxRecDepth 20000 in
theorem times_nat (a b c d : Nat) (w : World) (ha : a < 4294967296) (hb : b < 4294967296) (hc : c < 4294967296) (hd : d < 4294967296) :
    Calls Tryd.prog 23 #[.int .i64 a, .int .i64 b, .int .i64 c, .int .i64 d] w fun e w' => e = .returned (.int .i64 (Lib.compareInt ((a * b : Nat) : Int) ((c * d : Nat) : Int))) ∧ Below w.heap.size w w' := by
  have h1 := mul64_small a b ha hb
  have h2 := mul64_small c d hc hd
  obtain ⟨p, hp⟩ : ∃ p : Int, ((a * b : Nat) : Int) = p := ⟨_, rfl⟩
  obtain ⟨q, hq⟩ : ∃ q : Int, ((c * d : Nat) : Int) = q := ⟨_, rfl⟩
  rw [hp] at h1 ⊢
  rw [hq] at h2 ⊢
  clear hp hq
  have H1 := hid h1
  have H2 := hid h2
  clear h1 h2
  go_enter Tryd.func23, Tryd.ntmps23
  go_wp2_with fail
  refine (H1.out _).mono ?_
  rintro e w' ⟨rfl, rfl⟩
  go_wp2_with fail
  refine (H2.out _).mono ?_
  rintro e w' ⟨rfl, rfl⟩
  go_wp2_with fail
  refine (compareu_any _ _ _).mono ?_
  rintro e w' ⟨rfl, rfl⟩
  go_wp2_with fail
  refine (compareu_any _ _ _).mono ?_
  rintro e w' ⟨rfl, rfl⟩
  go_wp2_with fail
  refine (or_any _ (Lib.compareInt 0 0) (Lib.compareInt p q) _ (by simp) (by simp)).mono ?_
  rintro e w' ⟨rfl, rfl⟩
  go_wp2_with fail
  go_ret
  exact ⟨by simp [Lib.compareInt], (Below.refl _ _).alloc (Nat.le_refl _) _⟩

theorem times_any (a b c d : Int) (w : World) (ha : 0 ≤ a) (ha2 : a < 4294967296) (hb : 0 ≤ b) (hb2 : b < 4294967296) (hc : 0 ≤ c) (hc2 : c < 4294967296) (hd : 0 ≤ d) (hd2 : d < 4294967296) :
    Calls Tryd.prog 23 #[.int .i64 a, .int .i64 b, .int .i64 c, .int .i64 d] w fun e w' => e = .returned (.int .i64 (Lib.compareInt (a * b) (c * d))) ∧ Below w.heap.size w w' := by
  obtain ⟨a, rfl⟩ := Int.eq_ofNat_of_zero_le ha
  obtain ⟨b, rfl⟩ := Int.eq_ofNat_of_zero_le hb
  obtain ⟨c, rfl⟩ := Int.eq_ofNat_of_zero_le hc
  obtain ⟨d, rfl⟩ := Int.eq_ofNat_of_zero_le hd
  have := times_nat a b c d w (by omega) (by omega) (by omega) (by omega)
  simp only [Int.natCast_mul] at this
  exact this

theorem cell_keep {B : Nat} {w w' : World} (hb : Below B w w') {b o : Nat} {v : Value} (h : w.cell? ⟨b, o, none⟩ = some v) (hB : b < B) : w'.cell? ⟨b, o, none⟩ = some v :=
  (hb.cell (p := ⟨b, o, none⟩) hB).trans h

/-- 'nothing below has turned', as one word that the walk does not look into. -/
def Held (w w' : World) : Prop := Below w.heap.size w w'
theorem Held.refl (w : World) : Held w w := Below.refl _ _
theorem Held.drew {w w' : World} (h : Held w w') : Held w w'.drew := Below.drew h
theorem Held.alloc {w w' : World} (x : Obj) (h : Held w w') : Held w (w'.alloc x) := Below.alloc h (Below.size h) _
theorem Held.set {w w' : World} {a : Addr} (x : Value) (h : Held w w') (ha : w.heap.size ≤ a.block) : Held w (w'.setCell a x) := Below.setCell h ha _
theorem Held.trans {w w' w'' : World} (h : Held w w') (h2 : Below w'.heap.size w' w'') : Held w w'' := Below.trans h (h2.mono (Below.size h))
theorem Held.tr {w w' w'' : World} (h : Held w w') (h2 : Held w' w'') : Held w w'' := Below.trans h (h2.mono (Below.size h))
theorem Held.frozen {w w' : World} {b o : Nat} {v : Value} {x : Bool} (hc : w.cell? ⟨b, o, none⟩ = some v) (hf : w.frozen? ⟨b, o, none⟩ = x) : Held w w' → w'.frozen? ⟨b, o, none⟩ = x := fun h => by
  rw [Below.frozen h (p := ⟨b, o, none⟩) (World.block_lt_of_cell? _ _ hc)]; exact hf
theorem Held.cell {w w' : World} {b o : Nat} {v : Value} (hc : w.cell? ⟨b, o, none⟩ = some v) : Held w w' → w'.cell? ⟨b, o, none⟩ = some v := fun h => by
  rw [Below.cell h (p := ⟨b, o, none⟩) (World.block_lt_of_cell? _ _ hc)]; exact hc

/-- what Cmp answers, of two that may be, with denominators that are not 0. -/
def cmpR (a b c d : Int) : Int := Lib.compareInt (upN a b * upD d) (upN c d * upD b)

theorem mayR_bounds {n d : Int} (h : mayR n d = true) : (-2147483648 ≤ n ∧ n < 4294967296 ∧ -2147483648 ≤ d ∧ d < 4294967296) ∧ (d < 0 → n < 2147483648) := by
  simp [mayR, u32B, s32B] at h
  omega

theorem ret2_int {a b : Int} {x : Bool} (h : a = b) : Ending.returned (.tuple #[.int .i64 a, .bool x]) = .returned (.tuple #[.int .i64 b, .bool x]) := by rw [h]

theorem up_bounds {n d : Int} (h : mayR n d = true) (hd : d ≠ 0) : -4294967296 < upN n d ∧ upN n d < 4294967296 ∧ 0 < upD d ∧ upD d < 4294967296 := by
  simp [mayR, u32B, s32B] at h
  unfold upN upD
  split <;> omega

theorem cmp_neg (x y z t : Int) : Lib.compareInt (-y * x) (-z * t) = Lib.compareInt (z * t) (y * x) := by
  unfold Lib.compareInt
  rw [Int.neg_mul, Int.neg_mul]
  by_cases h : z * t < y * x
  · rw [if_pos (by omega), if_pos h]
  · by_cases h2 : y * x < z * t
    · rw [if_neg (by omega), if_pos (by omega), if_neg h, if_pos h2]
    · rw [if_neg (by omega), if_neg (by omega), if_neg h, if_neg h2]

theorem cmp_sign (n m x y : Int) (hx : 0 < x) (hy : 0 < y) (h : n < 0 ∧ 0 ≤ m ∨ m < 0 ∧ 0 ≤ n) : Lib.compareInt n m = Lib.compareInt (n * y) (m * x) := by
  unfold Lib.compareInt
  rcases h with ⟨h1, h2⟩ | ⟨h1, h2⟩
  · have a1 := Int.mul_neg_of_neg_of_pos h1 hy
    have a2 := Int.mul_nonneg h2 (Int.le_of_lt hx)
    rw [if_pos (by omega), if_pos (by omega)]
  · have a1 := Int.mul_neg_of_neg_of_pos h1 hx
    have a2 := Int.mul_nonneg h2 (Int.le_of_lt hy)
    rw [if_neg (by omega), if_pos (by omega), if_neg (by omega), if_pos (by omega)]

set_option maxRecDepth 20000 in
set_option maxHeartbeats 4000000 in
theorem cmp_yes (a b c d : Int) (w : World) (h1 : mayR a b = true) (h2 : mayR c d = true) (hb : b ≠ 0) (hd : d ≠ 0) :
    Calls Tryd.prog 6 #[.agg #[.int .i64 a, .int .i64 b], .agg #[.int .i64 c, .int .i64 d]] w fun e w' => e = .returned (.tuple #[.int .i64 (cmpR a b c d), .bool true]) ∧ Below w.heap.size w w' := by
  have U1 := up_bounds h1 hb
  have U2 := up_bounds h2 hd
  have B1 := mayR_bounds h1
  have B2 := mayR_bounds h2
  have hb' : (b == 0) = false := by simpa using hb
  have hd' : (d == 0) = false := by simpa using hd
  have M1 := hid h1
  have M2 := hid h2
  clear h1 h2 hb hd
  go_enter Tryd.func6, Tryd.ntmps6
  go_wp2_with fail
  refine (pmay_any a b true M1.out _).mono ?_
  rintro e w1 ⟨rfl, hb1⟩
  have c0 := cell_keep hb1 (b := w.heap.size) (o := 0) (v := .int .i64 a) (by simp) (by simp <;> omega)
  have c1 := cell_keep hb1 (b := w.heap.size) (o := 1) (v := .int .i64 b) (by simp) (by simp <;> omega)
  have c2 := cell_keep hb1 (b := w.heap.size + 1) (o := 0) (v := .int .i64 c) (by simp) (by simp)
  have c3 := cell_keep hb1 (b := w.heap.size + 1) (o := 1) (v := .int .i64 d) (by simp) (by simp)
  have hz : w.heap.size + 1 < w1.heap.size := by have := hb1.size; simp at this; omega
  go_wp2_with fail
  refine (pmay_any c d true M2.out _).mono ?_
  rintro e w2 ⟨rfl, hb2⟩
  have d0 := cell_keep hb2 c0 (by omega)
  have d1 := cell_keep hb2 c1 (by omega)
  have d2 := cell_keep hb2 c2 (by omega)
  have d3 := cell_keep hb2 c3 (by omega)
  clear c0 c1 c2 c3
  have hz2 : w.heap.size + 1 < w2.heap.size := by have := hb2.size; omega
  have hall : Below w.heap.size w w2 := (((Below.refl _ _).alloc (Nat.le_refl _) _).alloc (by simp <;> omega) _).trans ((hb1.mono (by simp <;> omega)).trans (hb2.mono (by omega)))
  clear hb1 hb2 hz
  go_upto_region 3 with fail
  go_cut [6, 7] (fun u6 u7 wx => ∃ bx cx, u6 = .pointer (some ⟨bx, 0, none⟩) ∧ u7 = .pointer (some ⟨cx, 0, none⟩) ∧ wx.cell? ⟨bx, 0, none⟩ = some (.int .i64 (upN a b)) ∧ wx.cell? ⟨bx, 1, none⟩ = some (.int .i64 (upD b)) ∧ wx.cell? ⟨cx, 0, none⟩ = some (.int .i64 (upN c d)) ∧ wx.cell? ⟨cx, 1, none⟩ = some (.int .i64 (upD d)) ∧ Held w2 wx)
  case first =>
    have L0 := fun w' => Held.cell (w' := w') d0
    have L1 := fun w' => Held.cell (w' := w') d1
    have L2 := fun w' => Held.cell (w' := w') d2
    have L3 := fun w' => Held.cell (w' := w') d3
    clear d0 d1 d2 d3
    have Hall := hid hall
    clear hall
    go_region_held3 (fun w' => Held w2 w') (first | (repeat (first | (with_reducible assumption) | (with_reducible refine Held.refl _) | (with_reducible refine Held.drew ?_) | (with_reducible refine Held.alloc _ ?_) | (with_reducible refine Held.set _ ?_ (by simp <;> omega)))))
      (first | (go_at_call_of 22 (Value.agg #[Value.int IntKind.i64 a, Value.int IntKind.i64 b]); refine (upright_any a b _ (by omega) (by omega) (by omega) (by omega)).mono ?_; rintro e w3 ⟨rfl, rfl⟩) | (go_at_call_of 22 (Value.agg #[Value.int IntKind.i64 c, Value.int IntKind.i64 d]); refine (upright_any c d _ (by omega) (by omega) (by omega) (by omega)).mono ?_; rintro e w4 ⟨rfl, rfl⟩))
    all_goals
      (try go_wp2_with fail)
      go_meet
      case rel => exact ⟨_, _, rfl, rfl, by go_simp, by go_simp, by go_simp, by go_simp, by with_reducible assumption⟩
  case rest =>
    obtain ⟨bx, cx, rfl, rfl, e0, e1, e2, e3, hh⟩ := hcut
    clear d0 d1 d2 d3 B1 B2
    have hd : Below w.heap.size w wc := hall.trans (Below.mono hh (by omega))
    clear hh hall hz2 M1 M2 hb' hd'
    have HC : Hid (cmpR a b c d = Lib.compareInt (upN a b * upD d) (upN c d * upD b)) := rfl
    generalize upN a b = n at *
    generalize upN c d = m at *
    generalize upD b = x at *
    generalize upD d = y at *
    obtain ⟨n1, n2, x1, x2⟩ := U1
    obtain ⟨m1, m2, y1, y2⟩ := U2
    by_cases hn : n < 0
    · by_cases hm : m < 0
      · go_wp2_with fail
        refine (times_any (-m) x (-n) y _ (by omega) (by omega) (by omega) (by omega) (by omega) (by omega) (by omega) (by omega)).mono ?_
        rintro e w5 ⟨rfl, hb5⟩
        go_wp2_with fail
        go_ret2
        exact ⟨ret2_int (by rw [HC.out, cmp_neg]), hd.trans (hb5.mono hd.size)⟩
      · have hm' : decide (m < 0) = false := by simpa using hm
        go_wp2_with fail
        refine (comparei_any n m _).mono ?_
        rintro e w5 ⟨rfl, rfl⟩
        go_wp2_with fail
        go_ret2
        exact ⟨ret2_int (by rw [HC.out, cmp_sign n m x y x1 y1 (by omega)]), hd⟩
    · have hn' : decide (n < 0) = false := by simpa using hn
      by_cases hm : m < 0
      · go_wp2_with fail
        refine (comparei_any n m _).mono ?_
        rintro e w5 ⟨rfl, rfl⟩
        go_wp2_with fail
        go_ret2
        exact ⟨ret2_int (by rw [HC.out, cmp_sign n m x y x1 y1 (by omega)]), hd⟩
      · have hm' : decide (m < 0) = false := by simpa using hm
        go_wp2_with fail
        refine (times_any n y m x _ (by omega) (by omega) (by omega) (by omega) (by omega) (by omega) (by omega) (by omega)).mono ?_
        rintro e w5 ⟨rfl, hb5⟩
        go_wp2_with fail
        go_ret2
        exact ⟨ret2_int (by rw [HC.out]), hd.trans (hb5.mono hd.size)⟩

set_option maxRecDepth 20000 in
set_option maxHeartbeats 800000 in
theorem cmp_no (a b c d : Int) (w : World) (h : mayR a b = false ∨ mayR c d = false ∨ b = 0 ∨ d = 0) :
    Calls Tryd.prog 6 #[.agg #[.int .i64 a, .int .i64 b], .agg #[.int .i64 c, .int .i64 d]] w fun e w' => e = .returned (.tuple #[.int .i64 0, .bool false]) ∧ Below w.heap.size w w' := by
  obtain ⟨p, hp⟩ : ∃ p, mayR a b = p := ⟨_, rfl⟩
  obtain ⟨q, hq⟩ : ∃ q, mayR c d = q := ⟨_, rfl⟩
  rw [hp, hq] at h
  have M1 := hid hp
  have M2 := hid hq
  clear hp hq
  have hb' : b = 0 ∨ (b == 0) = false := by by_cases h : b = 0 <;> simp [h]
  have hd' : d = 0 ∨ (d == 0) = false := by by_cases h : d = 0 <;> simp [h]
  have H := hid h
  clear h
  cases p
  · go_enter Tryd.func6, Tryd.ntmps6
    go_wp2_with fail
    refine (pmay_any a b false M1.out _).mono ?_
    rintro e w1 ⟨rfl, hb1⟩
    go_wp2_with fail
    go_ret2
    exact ⟨rfl, (((Below.refl _ _).alloc (Nat.le_refl _) _).alloc (by simp <;> omega) _).trans (hb1.mono (by simp <;> omega))⟩
  · go_enter Tryd.func6, Tryd.ntmps6
    go_wp2_with fail
    refine (pmay_any a b true M1.out _).mono ?_
    rintro e w1 ⟨rfl, hb1⟩
    have c0 := cell_keep hb1 (b := w.heap.size) (o := 0) (v := .int .i64 a) (by simp) (by simp <;> omega)
    have c1 := cell_keep hb1 (b := w.heap.size) (o := 1) (v := .int .i64 b) (by simp) (by simp <;> omega)
    have c2 := cell_keep hb1 (b := w.heap.size + 1) (o := 0) (v := .int .i64 c) (by simp) (by simp)
    have c3 := cell_keep hb1 (b := w.heap.size + 1) (o := 1) (v := .int .i64 d) (by simp) (by simp)
    have hz : w.heap.size + 1 < w1.heap.size := by have := hb1.size; simp at this; omega
    go_wp2_with fail
    refine (pmay_any c d q M2.out _).mono ?_
    rintro e w2 ⟨rfl, hb2⟩
    have d0 := cell_keep hb2 c0 (by omega)
    have d1 := cell_keep hb2 c1 (by omega)
    have d2 := cell_keep hb2 c2 (by omega)
    have d3 := cell_keep hb2 c3 (by omega)
    clear c0 c1 c2 c3
    have hz2 : w.heap.size + 1 < w2.heap.size := by have := hb2.size; omega
    have hall : Below w.heap.size w w2 := (((Below.refl _ _).alloc (Nat.le_refl _) _).alloc (by simp <;> omega) _).trans ((hb1.mono (by simp <;> omega)).trans (hb2.mono (by omega)))
    clear hb1 hb2 hz
    cases q
    · go_wp2_with fail
      go_ret2
      exact ⟨rfl, hall⟩
    · rcases hb' with rfl | hb'
      · go_wp2_with fail
        go_ret2
        exact ⟨rfl, hall⟩
      · rcases hd' with rfl | hd'
        · go_wp2_with fail
          go_ret2
          exact ⟨rfl, hall⟩
        · exfalso
          have := H.out
          simp at this hb' hd'
          omega

end Go.Proofs.YtghnmamdfinbpaaDoor

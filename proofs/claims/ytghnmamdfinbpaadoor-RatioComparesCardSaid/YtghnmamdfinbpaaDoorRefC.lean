/-
  The walk of the reference's Least.
-/
import Derived.Test.YtghnmamdfinbpaaDoorRefB
namespace Go.Proofs.YtghnmamdfinbpaaDoor
open Go.RowKit Go.Sort

set_option maxRecDepth 20000 in
set_option maxHeartbeats 800000 in
theorem rleast_yes (a b : Int) (w : World) (h1 : mayR a b = true) (hb : b ≠ 0) :
    Calls Tryd.prog 9 #[.agg #[.int .i64 a, .int .i64 b]] w fun e w' => e = .returned (.tuple #[.agg #[.int .i64 (leN a b), .int .i64 (leD a b)], .bool true]) ∧ Held w w' := by
  have U1 := up_bounds h1 hb
  have B1 := mayR_bounds h1
  have hb' : (b == 0) = false := by simpa using hb
  have M1 := hid h1
  clear h1 hb
  go_enter Tryd.func9, Tryd.ntmps9
  go_wp2_with fail
  refine (rmay_any a b true M1.out _).mono ?_
  rintro e w1 ⟨rfl, hb1⟩
  have c0 := Held.cell (b := w.heap.size) (o := 0) (v := .int .i64 a) (by simp) hb1
  have c1 := Held.cell (b := w.heap.size) (o := 1) (v := .int .i64 b) (by simp) hb1
  have c2 := Held.cell (b := w.heap.size + 1) (o := 0) (v := .int .i64 0) (by simp) hb1
  have c3 := Held.cell (b := w.heap.size + 1) (o := 1) (v := .int .i64 0) (by simp) hb1
  have f2 := Held.frozen (b := w.heap.size + 1) (o := 0) (v := .int .i64 0) (x := false) (by simp) (by simp) hb1
  have f3 := Held.frozen (b := w.heap.size + 1) (o := 1) (v := .int .i64 0) (x := false) (by simp) (by simp) hb1
  have hd : Held w w1 := (((Held.refl w).alloc _).alloc _).tr hb1
  clear hb1
  go_wp2_with fail
  refine (rup_any a b _ (by omega) (by omega) (by omega) (by omega)).mono ?_
  rintro e w2 ⟨rfl, hb2⟩
  replace f2 := Held.frozen c2 f2 hb2
  replace f3 := Held.frozen c3 f3 hb2
  replace c2 := Held.cell c2 hb2
  replace c3 := Held.cell c3 hb2
  replace hd := hd.tr hb2
  clear hb2 c0 c1
  have HN : Hid (leN a b = (upN a b).tdiv (gR a b : Nat)) := rfl
  have HD : Hid (leD a b = upD b / (gR a b : Nat)) := rfl
  have hg : 0 < gR a b := Nat.gcd_pos_of_pos_right _ (by omega)
  have GC : Hid (∀ W, Calls Tryd.prog 29 #[.int .i64 ((upN a b).natAbs : Nat), .int .i64 (upD b)] W fun e w' => e = .returned (.int .i64 (gR a b : Nat)) ∧ W = w') := by
    intro W
    have := rgcd_int ((upN a b).natAbs : Nat) (upD b) W (by omega) (by omega) (by omega) (by omega)
    rw [show Nat.gcd (((upN a b).natAbs : Nat) : Int).toNat (upD b).toNat = gR a b from rfl] at this
    exact this
  have hz : w.heap.size + 1 < w2.heap.size := World.block_lt_of_cell? _ _ c2
  have habs : (0 ≤ upN a b ∧ ((upN a b).natAbs : Int) = upN a b) ∨ (upN a b < 0 ∧ ((upN a b).natAbs : Int) = -upN a b) := by omega
  generalize gR a b = g at *
  generalize upN a b = n at *
  generalize upD b = d at *
  by_cases hn : n < 0
  · have GC2 : Hid (∀ W, Calls Tryd.prog 29 #[.int .i64 (-n), .int .i64 d] W fun e w' => e = .returned (.int .i64 (g : Nat)) ∧ W = w') := by
      intro W
      have := GC.out W
      rw [show ((n.natAbs : Nat) : Int) = -n by omega] at this
      exact this
    clear habs GC
    go_wp2_with fail
    refine (GC2.out _).mono ?_
    rintro e w4 ⟨rfl, rfl⟩
    have HW : Held w2 (w2.alloc (.cells #[.int .i64 n, .int .i64 d] 23)) := (Held.refl _).alloc _
    replace f2 := Held.frozen c2 f2 HW
    replace f3 := Held.frozen c3 f3 HW
    replace c2 := Held.cell c2 HW
    replace c3 := Held.cell c3 HW
    replace hd := hd.tr HW
    have e0 : (w2.alloc (.cells #[.int .i64 n, .int .i64 d] 23)).cell? ⟨w2.heap.size, 0, none⟩ = some (.int .i64 n) := by go_simp
    have e1 : (w2.alloc (.cells #[.int .i64 n, .int .i64 d] 23)).cell? ⟨w2.heap.size, 1, none⟩ = some (.int .i64 d) := by go_simp
    clear HW
    generalize w2.alloc (.cells #[.int .i64 n, .int .i64 d] 23) = w3 at *
    go_upto_region 8 with fail
    go_big_region
    go_wp2_with fail
    exact bodyPost_ret (v := .tuple #[.agg #[.int .i64 (n.tdiv g), .int .i64 (d / g)], .bool true]) (by simp [results, Tryd.results9, go_sem, c2, c3]) rfl ⟨by rw [HN.out, HD.out], ((hd.set _ (by simp)).set _ (by simp)).drew⟩
  · have GC2 : Hid (∀ W, Calls Tryd.prog 29 #[.int .i64 n, .int .i64 d] W fun e w' => e = .returned (.int .i64 (g : Nat)) ∧ W = w') := by
      intro W
      have := GC.out W
      rw [show ((n.natAbs : Nat) : Int) = n by omega] at this
      exact this
    have hn' : decide (n < 0) = false := by simpa using hn
    clear habs GC
    go_wp2_with fail
    refine (GC2.out _).mono ?_
    rintro e w4 ⟨rfl, rfl⟩
    have HW : Held w2 (w2.alloc (.cells #[.int .i64 n, .int .i64 d] 23)) := (Held.refl _).alloc _
    replace f2 := Held.frozen c2 f2 HW
    replace f3 := Held.frozen c3 f3 HW
    replace c2 := Held.cell c2 HW
    replace c3 := Held.cell c3 HW
    replace hd := hd.tr HW
    have e0 : (w2.alloc (.cells #[.int .i64 n, .int .i64 d] 23)).cell? ⟨w2.heap.size, 0, none⟩ = some (.int .i64 n) := by go_simp
    have e1 : (w2.alloc (.cells #[.int .i64 n, .int .i64 d] 23)).cell? ⟨w2.heap.size, 1, none⟩ = some (.int .i64 d) := by go_simp
    clear HW
    generalize w2.alloc (.cells #[.int .i64 n, .int .i64 d] 23) = w3 at *
    go_upto_region 8 with fail
    go_big_region
    go_wp2_with fail
    exact bodyPost_ret (v := .tuple #[.agg #[.int .i64 (n / g), .int .i64 (d / g)], .bool true]) (by simp [results, Tryd.results9, go_sem, c2, c3]) rfl ⟨by rw [HN.out, HD.out, Int.tdiv_eq_ediv_of_nonneg (by omega)], ((hd.set _ (by simp)).set _ (by simp)).drew⟩

set_option maxRecDepth 20000 in
set_option maxHeartbeats 800000 in
theorem rleast_no (a b : Int) (w : World) (h : mayR a b = false ∨ b = 0) :
    Calls Tryd.prog 9 #[.agg #[.int .i64 a, .int .i64 b]] w fun e w' => e = .returned (.tuple #[.agg #[.int .i64 0, .int .i64 0], .bool false]) ∧ Held w w' := by
  obtain ⟨p, hp⟩ : ∃ p, mayR a b = p := ⟨_, rfl⟩
  rw [hp] at h
  have M1 := hid hp
  have H := hid h
  clear hp h
  go_enter Tryd.func9, Tryd.ntmps9
  go_wp2_with fail
  refine (rmay_any a b p M1.out _).mono ?_
  rintro e w1 ⟨rfl, hb1⟩
  have c0 := Held.cell (b := w.heap.size) (o := 0) (v := .int .i64 a) (by simp) hb1
  have c1 := Held.cell (b := w.heap.size) (o := 1) (v := .int .i64 b) (by simp) hb1
  have c2 := Held.cell (b := w.heap.size + 1) (o := 0) (v := .int .i64 0) (by simp) hb1
  have c3 := Held.cell (b := w.heap.size + 1) (o := 1) (v := .int .i64 0) (by simp) hb1
  have f2 := Held.frozen (b := w.heap.size + 1) (o := 0) (v := .int .i64 0) (x := false) (by simp) (by simp) hb1
  have f3 := Held.frozen (b := w.heap.size + 1) (o := 1) (v := .int .i64 0) (x := false) (by simp) (by simp) hb1
  have hd : Held w w1 := (((Held.refl w).alloc _).alloc _).tr hb1
  clear hb1
  cases p
  · go_wp2_with fail
    exact bodyPost_ret (v := .tuple #[.agg #[.int .i64 0, .int .i64 0], .bool false]) (by simp [results, Tryd.results9, go_sem, c2, c3]) rfl ⟨rfl, ((hd.set _ (by simp)).set _ (by simp))⟩
  · have hb : b = 0 := by have := H.out; simpa using this
    subst hb
    go_wp2_with fail
    exact bodyPost_ret (v := .tuple #[.agg #[.int .i64 0, .int .i64 0], .bool false]) (by simp [results, Tryd.results9, go_sem, c2, c3]) rfl ⟨rfl, ((hd.set _ (by simp)).set _ (by simp))⟩

end Go.Proofs.YtghnmamdfinbpaaDoor

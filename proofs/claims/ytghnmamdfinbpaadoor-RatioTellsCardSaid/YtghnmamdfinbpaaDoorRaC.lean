/-
  The walks of ratio.upright, ratio.times, cmp.Compare at uint64, cmp.Or at int.
-/
import Derived.Test.YtghnmamdfinbpaaDoorRaB
namespace Go.Proofs.YtghnmamdfinbpaaDoor
open Go.RowKit

/-- upright: with a denominator above 0. -/
def upN (n d : Int) : Int := if d < 0 then -n else n
def upD (d : Int) : Int := if d < 0 then -d else d

theorem upright_any (n d : Int) (w : World) (hn : -4294967296 ≤ n) (hn2 : n ≤ 4294967296) (hd : -4294967296 ≤ d) (hd2 : d ≤ 4294967296) :
    Calls Tryd.prog 22 #[.agg #[.int .i64 n, .int .i64 d]] w fun e w' => e = .returned (.agg #[.int .i64 (upN n d), .int .i64 (upD d)]) ∧ (w.alloc (.cells #[.int .i64 n, .int .i64 d] 23)).alloc (.cells #[.int .i64 (upN n d), .int .i64 (upD d)] 23) = w' := by
  by_cases h : d < 0
  · have e1 : upN n d = -n := by simp [upN, h]
    have e2 : upD d = -d := by simp [upD, h]
    rw [e1, e2]; clear e1 e2
    go_enter Tryd.func22, Tryd.ntmps22
    go_wp2_with fail
    exact bodyPost_ret (v := .agg #[.int .i64 (-n), .int .i64 (-d)]) (by simp [results, Tryd.results22, go_sem]) rfl ⟨rfl, rfl⟩
  · have e1 : upN n d = n := by simp [upN, h]
    have e2 : upD d = d := by simp [upD, h]
    rw [e1, e2]; clear e1 e2
    go_enter Tryd.func22, Tryd.ntmps22
    go_wp2_with fail
    exact bodyPost_ret (v := .agg #[.int .i64 n, .int .i64 d]) (by simp [results, Tryd.results22, go_sem]) rfl ⟨rfl, rfl⟩

theorem isNaNu_any (x : Int) (w : World) :
    Calls Tryd.prog 52 #[.int .u64 x] w fun e w' => e = .returned (.bool false) ∧ w = w' := by
  go_enter Tryd.func52, Tryd.ntmps52
  go_wp2
  go_ret
  exact ⟨by simp, rfl⟩

theorem comparei_any (x y : Int) (w : World) :
    Calls Tryd.prog 24 #[.int .i64 x, .int .i64 y] w fun e w' => e = .returned (.int .i64 (Lib.compareInt x y)) ∧ w = w' :=
  (Tryd.cmp_Compare_int x y w).mono fun _ _ ⟨h, h2⟩ => ⟨h, h2.symm⟩

theorem compareu_any (x y : Int) (w : World) :
    Calls Tryd.prog 43 #[.int .u64 x, .int .u64 y] w fun e w' => e = .returned (.int .i64 (Lib.compareInt x y)) ∧ w = w' := by
  by_cases h : x < y
  · have : Lib.compareInt x y = -1 := by simp [Lib.compareInt, h]
    rw [this]; clear this
    go_enter Tryd.func43, Tryd.ntmps43
    go_wp2_with (go_at_call 52; refine (isNaNu_any _ _).mono ?_; rintro e w' ⟨rfl, rfl⟩)
    go_ret
    exact ⟨rfl, rfl⟩
  · by_cases h2 : y < x
    · have : Lib.compareInt x y = 1 := by simp [Lib.compareInt, h, h2]
      rw [this]; clear this
      go_enter Tryd.func43, Tryd.ntmps43
      go_wp2_with (go_at_call 52; refine (isNaNu_any _ _).mono ?_; rintro e w' ⟨rfl, rfl⟩)
      go_ret
      exact ⟨rfl, rfl⟩
    · have : Lib.compareInt x y = 0 := by simp [Lib.compareInt, h, h2]
      rw [this]; clear this
      go_enter Tryd.func43, Tryd.ntmps43
      go_wp2_with (go_at_call 52; refine (isNaNu_any _ _).mono ?_; rintro e w' ⟨rfl, rfl⟩)
      go_ret
      exact ⟨rfl, rfl⟩

/-- cmp.Or of two. -/
theorem or_any (b : Nat) (x y : Int) (w : World) (h0 : w.cell? ⟨b, 0, none⟩ = some (.int .i64 x)) (h1 : w.cell? ⟨b, 1, none⟩ = some (.int .i64 y)) :
    Calls Tryd.prog 42 #[.slice (some ⟨b, 0, none⟩) 2 2] w fun e w' => e = .returned (.int .i64 (if x = 0 then y else x)) ∧ w = w' := by
  by_cases h : x = 0
  · subst h
    rw [if_pos rfl]
    by_cases hy : y = 0
    · subst hy
      go_enter Tryd.func42, Tryd.ntmps42
      go_wp2
      refine wp_loop_rounds 3 ?_
      iterate 3 (rw [rounds_succ]; go_wp2)
      go_ret
      exact ⟨rfl, rfl⟩
    · have hy' : (y != 0) = true := by simpa using hy
      have hy2 : (y == 0) = false := by simpa using hy
      go_enter Tryd.func42, Tryd.ntmps42
      go_wp2
      refine wp_loop_rounds 3 ?_
      iterate 2 (rw [rounds_succ]; go_wp2)
      go_ret
      exact ⟨rfl, rfl⟩
  · rw [if_neg h]
    have hy' : (x != 0) = true := by simpa using h
    have hy2 : (x == 0) = false := by simpa using h
    go_enter Tryd.func42, Tryd.ntmps42
    go_wp2
    refine wp_loop_rounds 3 ?_
    iterate 1 (rw [rounds_succ]; go_wp2)
    go_ret
    exact ⟨rfl, rfl⟩

theorem mul64_small (x y : Nat) (hx : x < 4294967296) (hy : y < 4294967296) (w : World) :
    Calls Tryd.prog 41 #[.int .u64 x, .int .u64 y] w fun e w' => e = .returned (.tuple #[.int .u64 0, .int .u64 ((x * y : Nat) : Int)]) ∧ w = w' := by
  have hxy : x * y < 18446744073709551616 := by
    have : x * y ≤ 4294967295 * 4294967295 := Nat.mul_le_mul (by omega) (by omega)
    omega
  refine (Tryd.bits_Mul64 x y (by omega) (by omega) w).mono fun _ _ ⟨h, h2⟩ => ⟨?_, h2.symm⟩
  rw [h, Nat.div_eq_of_lt hxy, Nat.mod_eq_of_lt hxy]; rfl

end Go.Proofs.YtghnmamdfinbpaaDoor

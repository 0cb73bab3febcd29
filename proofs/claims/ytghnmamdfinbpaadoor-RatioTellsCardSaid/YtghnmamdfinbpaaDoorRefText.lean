/-
  The walks of the reference's Digits and Text.
-/
import Derived.Test.YtghnmamdfinbpaaDoorRefNumMath
import Derived.Laws.BytesString
import Derived.Laws.Cells
namespace Go.Proofs.YtghnmamdfinbpaaDoor
open Go.RowKit Go.Sort

theorem dig_len {n : Nat} (h : n < 10000000000) : (⟨(Lib.decDigits n).toArray⟩ : ByteArray).size ≤ 10 := by
  have e10 : (10 : Nat) ^ (9 + 1) = 10000000000 := by decide
  exact digits_short 9 n (by omega)

theorem dig_app {n : Nat} (h : ¬ n < 10) : (⟨(Lib.decDigits (n / 10)).toArray⟩ : ByteArray) ++ ⟨#[UInt8.ofNat (48 + n % 10)]⟩ = ⟨(Lib.decDigits n).toArray⟩ := by
  rw [show (⟨#[UInt8.ofNat (48 + n % 10)]⟩ : ByteArray) = ⟨[UInt8.ofNat (48 + n % 10)].toArray⟩ from rfl, str_app, ← decDigits_ten h]

theorem conv_one {w : World} {a : Addr} {x : Int} (h : w.cell? a = some (.int .u8 x)) :
    (convert 60 9 (.slice (some a) 1 1)).run Tryd.prog w = .ok (.string ⟨#[UInt8.ofNat x.toNat]⟩) w := by
  rw [run_convert_bytes_string w 60 9 5 _ _ _ (by kernel_rfl) (by kernel_rfl) (by kernel_rfl), run_bytesToString w a 1 1 [x]]
  · rfl
  rw [run_loadCells w a 1 (fun _ => .int .u8 x) (fun j hj => ?_)]
  · rfl
  · obtain rfl : j = 0 := by omega
    exact h

theorem dig_one {n : Nat} (h : n < 10) : (⟨#[UInt8.ofNat (48 + n % 10)]⟩ : ByteArray) = ⟨(Lib.decDigits n).toArray⟩ := by
  rw [Lib.decDigits_one h, Nat.mod_eq_of_lt h]

theorem size_one (b : UInt8) : (⟨#[b]⟩ : ByteArray).size = 1 := rfl

set_option maxRecDepth 20000 in
set_option maxHeartbeats 800000 in
theorem rdigits_nat : ∀ (k n : Nat) (w : World), n < 10 ^ (k + 1) → n < 10000000000 →
    Calls Tryd.prog 40 #[.int .i64 n] w fun e w' => e = .returned (.string ⟨(Lib.decDigits n).toArray⟩) ∧ Held w w'
  | k, n, w, hk, hn => by
    have n0 : decide ((n : Int) < 0) = false := by simp
    have CO := conv_one (w := w.alloc (.cells #[.int .u8 (48 + (n : Int) % 10)] 5)) (a := ⟨w.heap.size, 0, none⟩) (x := 48 + (n : Int) % 10) (by go_simp)
    rw [show UInt8.ofNat (48 + (n : Int) % 10).toNat = UInt8.ofNat (48 + n % 10) from congrArg _ (by omega)] at CO
    have SL := size_one (UInt8.ofNat (48 + n % 10))
    by_cases h9 : 9 < n
    · have n9 : decide (9 < (n : Int)) = true := by simp; omega
      have DA := hid (dig_app (n := n) (by omega))
      have DL := dig_len (n := n / 10) (by omega)
      generalize (⟨#[UInt8.ofNat (48 + n % 10)]⟩ : ByteArray) = sb at *
      cases k with
      | zero => omega
      | succ k =>
        have IH := hid (fun w => rdigits_nat k (n / 10) w (by rw [Nat.pow_succ] at hk; omega) (by omega))
        rw [show ((n / 10 : Nat) : Int) = (n : Int) / 10 by omega] at IH
        generalize (⟨(Lib.decDigits (n / 10)).toArray⟩ : ByteArray) = sd at *
        have m1 : ¬ 9223372036854775807 < sd.size + sb.size := by omega
        clear hk
        go_enter Tryd.func40, Tryd.ntmps40
        go_wp2_with fail
        refine (IH.out _).mono ?_
        rintro e w1 ⟨rfl, hb1⟩
        go_wp2_with fail
        go_ret
        exact ⟨by rw [← DA.out]; rfl, ((Held.refl w).alloc _).tr hb1⟩
    · have n9 : decide (9 < (n : Int)) = false := by simp; omega
      have DA := hid (dig_one (n := n) (by omega))
      generalize (⟨#[UInt8.ofNat (48 + n % 10)]⟩ : ByteArray) = sb at *
      go_enter Tryd.func40, Tryd.ntmps40
      go_wp2_with fail
      go_ret
      exact ⟨by rw [← DA.out]; rfl, (Held.refl w).alloc _⟩

theorem neg_app (n : Nat) : (⟨#[45]⟩ : ByteArray) ++ ⟨(Lib.decDigits n).toArray⟩ = ⟨(45 :: Lib.decDigits n).toArray⟩ := by
  rw [show (⟨#[45]⟩ : ByteArray) = ⟨[45].toArray⟩ from rfl, str_app]
  rfl

set_option maxRecDepth 20000 in
set_option maxHeartbeats 800000 in
theorem rdigits_any (n : Int) (h0 : -10000000000 < n) (h1 : n < 10000000000) (w : World) :
    Calls Tryd.prog 40 #[.int .i64 n] w fun e w' => e = .returned (.string ⟨(Lib.itoa n).toArray⟩) ∧ Held w w' := by
  by_cases hn : n < 0
  · obtain ⟨m, rfl⟩ : ∃ m : Nat, n = -(m : Int) := ⟨n.natAbs, by omega⟩
    have n0 : decide (-(m : Int) < 0) = true := by simpa using hn
    have IH := hid (fun w => rdigits_nat 9 m w (by have e10 : (10 : Nat) ^ (9 + 1) = 10000000000 := by decide
                                                   omega) (by omega))
    have NA := hid (neg_app m)
    have DL := dig_len (n := m) (by omega)
    rw [Lib.itoa_neg m (by omega)]
    generalize (⟨(Lib.decDigits m).toArray⟩ : ByteArray) = sd at *
    generalize (⟨(45 :: Lib.decDigits m).toArray⟩ : ByteArray) = sn at *
    have m1 : ¬ 9223372036854775807 < 1 + sd.size := by omega
    go_enter Tryd.func40, Tryd.ntmps40
    go_wp2_with fail
    refine (IH.out _).mono ?_
    rintro e w1 ⟨rfl, hb1⟩
    go_wp2_with fail
    go_ret
    exact ⟨by rw [← NA.out]; rfl, hb1⟩
  · obtain ⟨m, rfl⟩ : ∃ m : Nat, n = (m : Int) := ⟨n.natAbs, by omega⟩
    rw [Lib.itoa_nonneg]
    exact rdigits_nat 9 m w (by have e10 : (10 : Nat) ^ (9 + 1) = 10000000000 := by decide
                                omega) (by omega)

set_option maxRecDepth 20000 in
set_option maxHeartbeats 800000 in
theorem rtext_yes (a b : Int) (w : World) (h1 : mayR a b = true) :
    Calls Tryd.prog 20 #[.agg #[.int .i64 a, .int .i64 b]] w fun e w' => e = .returned (.string ⟨(textL a b).toArray⟩) ∧ Held w w' := by
  have B1 := mayR_bounds h1
  have M1 := hid h1
  clear h1
  go_enter Tryd.func20, Tryd.ntmps20
  go_wp2_with fail
  refine (rmay_any a b true M1.out _).mono ?_
  rintro e w1 ⟨rfl, hb1⟩
  have c0 := Held.cell (b := w.heap.size) (o := 0) (v := .int .i64 a) (by simp) hb1
  have c1 := Held.cell (b := w.heap.size) (o := 1) (v := .int .i64 b) (by simp) hb1
  have hd : Held w w1 := ((Held.refl w).alloc _).tr hb1
  clear hb1
  go_upto_region 3 with fail
  have k0 := cell_regrown c0
  have k1 := cell_regrown c1
  have q0 := qcall (w := w1) fun W _ => rdigits_any a (by omega) (by omega) W
  have q1 := qcall (w := w1) fun W _ => rdigits_any b (by omega) (by omega) W
  have s0 : (⟨(Lib.itoa a).toArray⟩ : ByteArray).size ≤ 21 := by have := Lib.itoa_length_le a (by omega) (by omega); simpa [ByteArray.size] using this
  have s1 : (⟨(Lib.itoa b).toArray⟩ : ByteArray).size ≤ 21 := by have := Lib.itoa_length_le b (by omega) (by omega); simpa [ByteArray.size] using this
  have T0 : (⟨(Lib.itoa a).toArray⟩ : ByteArray) ++ ⟨#[47]⟩ ++ ⟨(Lib.itoa b).toArray⟩ = ⟨(textL a b).toArray⟩ := by
    rw [show (⟨#[47]⟩ : ByteArray) = ⟨[47].toArray⟩ from rfl, str_app, str_app]; simp [textL]
  generalize (⟨(Lib.itoa a).toArray⟩ : ByteArray) = sa at *
  generalize (⟨(Lib.itoa b).toArray⟩ : ByteArray) = sb at *
  have TT := hid T0
  have m1 : ¬ 9223372036854775807 < sa.size + 1 := by omega
  have m2 : ¬ 9223372036854775807 < sa.size + 1 + sb.size := by omega
  clear T0
  have Q0 := hid q0
  have Q1 := hid q1
  clear q0 q1
  refine wp_region_quiet_below (by kernel_rfl) (by kernel_rfl) ?_
  repeat (quiet_step (first | with_reducible exact Q0.out _ _ | with_reducible exact Q1.out _ _))
  refine wpQuiet_nil ?_
  intro _ hw'
  obtain ⟨⟨dq, osq⟩, hw''⟩ := hw'
  subst hw''
  go_wp2_with fail
  go_ret
  exact ⟨by rw [← TT.out]; rfl, hd.tr (held_regrown _ _ _)⟩

theorem rtext_no (a b : Int) (w : World) (h1 : mayR a b = false) :
    Calls Tryd.prog 20 #[.agg #[.int .i64 a, .int .i64 b]] w fun e w' => e = .returned (.string ⟨#[]⟩) ∧ Held w w' := by
  have M1 := hid h1
  clear h1
  go_enter Tryd.func20, Tryd.ntmps20
  go_wp2_with fail
  refine (rmay_any a b false M1.out _).mono ?_
  rintro e w1 ⟨rfl, hb1⟩
  go_wp2_with fail
  go_ret
  exact ⟨rfl, ((Held.refl w).alloc _).tr hb1⟩

end Go.Proofs.YtghnmamdfinbpaaDoor

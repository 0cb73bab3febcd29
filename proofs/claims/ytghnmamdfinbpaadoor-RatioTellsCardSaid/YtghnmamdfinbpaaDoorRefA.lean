/-
  The walks of the reference's Plain, Signed, May, up, gcd, below, cmp, Cmp, Least: what they answer is what ratio's answer.
-/
import Derived.Test.YtghnmamdfinbpaaDoorLawN
namespace Go.Proofs.YtghnmamdfinbpaaDoor
open Go.RowKit Go.Sort

set_option maxRecDepth 20000 in
set_option maxHeartbeats 800000 in
theorem rplain_any (n d : Int) (x : Bool) (hx : (u32B n && u32B d) = x) (w : World) :
    Calls Tryd.prog 16 #[.agg #[.int .i64 n, .int .i64 d]] w fun e w' => e = .returned (.bool x) ∧ Held w w' := by
  by_cases a1 : 0 ≤ n
  · by_cases a2 : n < 4294967296
    · by_cases a3 : 0 ≤ d
      · by_cases a4 : d < 4294967296
        · obtain rfl : x = true := by rw [← hx]; simp [u32B, a1, a2, a3, a4]
          clear hx
          go_enter Tryd.func16, Tryd.ntmps16
          go_wp2_with fail
          go_ret
          exact ⟨rfl, (Held.refl w).alloc _⟩
        · obtain rfl : x = false := by rw [← hx]; simp [u32B, a4]
          have t4 : decide (d < 4294967296) = false := by simpa using a4
          clear hx
          go_enter Tryd.func16, Tryd.ntmps16
          go_wp2_with fail
          go_ret
          exact ⟨rfl, (Held.refl w).alloc _⟩
      · obtain rfl : x = false := by rw [← hx]; simp [u32B, a3]
        have t3 : decide (0 ≤ d) = false := by simpa using a3
        clear hx
        go_enter Tryd.func16, Tryd.ntmps16
        go_wp2_with fail
        go_ret
        exact ⟨rfl, (Held.refl w).alloc _⟩
    · obtain rfl : x = false := by rw [← hx]; simp [u32B, a2]
      have t2 : decide (n < 4294967296) = false := by simpa using a2
      clear hx
      go_enter Tryd.func16, Tryd.ntmps16
      go_wp2_with fail
      go_ret
      exact ⟨rfl, (Held.refl w).alloc _⟩
  · obtain rfl : x = false := by rw [← hx]; simp [u32B, a1]
    have t1 : decide (0 ≤ n) = false := by simpa using a1
    clear hx
    go_enter Tryd.func16, Tryd.ntmps16
    go_wp2_with fail
    go_ret
    exact ⟨rfl, (Held.refl w).alloc _⟩

set_option maxRecDepth 20000 in
set_option maxHeartbeats 800000 in
theorem rsigned_any (n d : Int) (x : Bool) (hx : (s32B n && s32B d) = x) (w : World) :
    Calls Tryd.prog 18 #[.agg #[.int .i64 n, .int .i64 d]] w fun e w' => e = .returned (.bool x) ∧ Held w w' := by
  by_cases a1 : -2147483648 ≤ n
  · by_cases a2 : n < 2147483648
    · by_cases a3 : -2147483648 ≤ d
      · by_cases a4 : d < 2147483648
        · obtain rfl : x = true := by rw [← hx]; simp [s32B, a1, a2, a3, a4]
          clear hx
          go_enter Tryd.func18, Tryd.ntmps18
          go_wp2_with fail
          go_ret
          exact ⟨rfl, (Held.refl w).alloc _⟩
        · obtain rfl : x = false := by rw [← hx]; simp [s32B, a4]
          have t4 : decide (d < 2147483648) = false := by simpa using a4
          clear hx
          go_enter Tryd.func18, Tryd.ntmps18
          go_wp2_with fail
          go_ret
          exact ⟨rfl, (Held.refl w).alloc _⟩
      · obtain rfl : x = false := by rw [← hx]; simp [s32B, a3]
        have t3 : decide (-2147483648 ≤ d) = false := by simpa using a3
        clear hx
        go_enter Tryd.func18, Tryd.ntmps18
        go_wp2_with fail
        go_ret
        exact ⟨rfl, (Held.refl w).alloc _⟩
    · obtain rfl : x = false := by rw [← hx]; simp [s32B, a2]
      have t2 : decide (n < 2147483648) = false := by simpa using a2
      clear hx
      go_enter Tryd.func18, Tryd.ntmps18
      go_wp2_with fail
      go_ret
      exact ⟨rfl, (Held.refl w).alloc _⟩
  · obtain rfl : x = false := by rw [← hx]; simp [s32B, a1]
    have t1 : decide (-2147483648 ≤ n) = false := by simpa using a1
    clear hx
    go_enter Tryd.func18, Tryd.ntmps18
    go_wp2_with fail
    go_ret
    exact ⟨rfl, (Held.refl w).alloc _⟩

theorem rmay_any (n d : Int) (x : Bool) (hx : mayR n d = x) (w : World) :
    Calls Tryd.prog 25 #[.agg #[.int .i64 n, .int .i64 d]] w fun e w' => e = .returned (.bool x) ∧ Held w w' := by
  obtain ⟨p, hp⟩ : ∃ p, (u32B n && u32B d) = p := ⟨_, rfl⟩
  obtain ⟨q, hq⟩ : ∃ q, (s32B n && s32B d) = q := ⟨_, rfl⟩
  obtain rfl : x = (p || q) := by rw [← hx, ← hp, ← hq]; rfl
  have P := hid hp
  have Q := hid hq
  clear hx hp hq
  go_enter Tryd.func25, Tryd.ntmps25
  go_wp2_with fail
  refine (rplain_any n d p P.out _).mono ?_
  rintro e w1 ⟨rfl, hb1⟩
  have c0 := Held.cell (b := w.heap.size) (o := 0) (v := .int .i64 n) (by simp) hb1
  have c1 := Held.cell (b := w.heap.size) (o := 1) (v := .int .i64 d) (by simp) hb1
  have hd : Held w w1 := ((Held.refl w).alloc _).tr hb1
  clear hb1
  cases p
  · go_wp2_with fail
    refine (rsigned_any n d q Q.out _).mono ?_
    rintro e w2 ⟨rfl, hb2⟩
    go_wp2_with fail
    go_ret
    exact ⟨by simp, hd.tr hb2⟩
  · go_wp2_with fail
    go_ret
    exact ⟨rfl, hd⟩

theorem rup_any (n d : Int) (w : World) (hn : -4294967296 ≤ n) (hn2 : n ≤ 4294967296) (hd : -4294967296 ≤ d) (hd2 : d ≤ 4294967296) :
    Calls Tryd.prog 27 #[.agg #[.int .i64 n, .int .i64 d]] w fun e w' => e = .returned (.agg #[.int .i64 (upN n d), .int .i64 (upD d)]) ∧ Held w w' := by
  by_cases h : d < 0
  · have e1 : upN n d = -n := by simp [upN, h]
    have e2 : upD d = -d := by simp [upD, h]
    rw [e1, e2]; clear e1 e2
    go_enter Tryd.func27, Tryd.ntmps27
    go_wp2_with fail
    exact bodyPost_ret (v := .agg #[.int .i64 (-n), .int .i64 (-d)]) (by simp [results, Tryd.results27, go_sem]) rfl ⟨rfl, ((Held.refl _).alloc _).alloc _⟩
  · have e1 : upN n d = n := by simp [upN, h]
    have e2 : upD d = d := by simp [upD, h]
    rw [e1, e2]; clear e1 e2
    go_enter Tryd.func27, Tryd.ntmps27
    go_wp2_with fail
    exact bodyPost_ret (v := .agg #[.int .i64 n, .int .i64 d]) (by simp [results, Tryd.results27, go_sem]) rfl ⟨rfl, ((Held.refl _).alloc _).alloc _⟩

theorem rgcd_nat : ∀ (b a : Nat) (w : World), a < 8589934592 → b < 8589934592 →
    Calls Tryd.prog 29 #[.int .i64 a, .int .i64 b] w fun e w' => e = .returned (.int .i64 (Nat.gcd a b : Nat)) ∧ w = w' := by
  intro b
  induction b using Nat.strongRecOn with
  | _ b ih =>
    intro a w ha hb
    by_cases h0 : b = 0
    · subst h0
      go_enter Tryd.func29, Tryd.ntmps29
      go_wp2_with fail
      go_ret
      exact ⟨by simp, rfl⟩
    · have hlt := Nat.mod_lt a (y := b) (by omega)
      have IH := hid (ih (a % b) hlt b w hb (by omega))
      have e := gcd_step a b
      have h1 : ((b : Int) == 0) = false := by simp; omega
      have h2 : (0 : Int) < b := by omega
      have E := hid e
      clear ih e hlt
      go_enter Tryd.func29, Tryd.ntmps29
      go_wp2_with fail
      rw [show ((a : Int) % (b : Int)) = ((a % b : Nat) : Int) from by simp]
      refine IH.out.mono ?_
      rintro e w1 ⟨rfl, rfl⟩
      go_wp2_with fail
      go_ret
      exact ⟨by rw [← E.out]; rfl, rfl⟩

theorem rgcd_int (a b : Int) (w : World) (ha0 : 0 ≤ a) (ha : a < 8589934592) (hb0 : 0 ≤ b) (hb : b < 8589934592) :
    Calls Tryd.prog 29 #[.int .i64 a, .int .i64 b] w fun e w' => e = .returned (.int .i64 (Nat.gcd a.toNat b.toNat : Nat)) ∧ w = w' := by
  obtain ⟨a, rfl⟩ := Int.eq_ofNat_of_zero_le ha0
  obtain ⟨b, rfl⟩ := Int.eq_ofNat_of_zero_le hb0
  exact rgcd_nat b a w (by omega) (by omega)

/-- below: the floor of the quotient. -/
theorem rbelow_any (n d : Int) (w : World) (h1 : -8589934592 ≤ n) (h2 : n ≤ 8589934592) (h3 : 0 < d) (h4 : d ≤ 8589934592) :
    Calls Tryd.prog 45 #[.int .i64 n, .int .i64 d] w fun e w' => e = .returned (.int .i64 (n / d)) ∧ w = w' := by
  have a1 : n.tdiv d * d ≤ 8589934592 * 2 ∧ -(8589934592 * 2) ≤ n.tdiv d * d := by
    have := Int.tmod_add_mul_tdiv n d
    have := Int.tmod_lt_of_pos n h3
    have := Int.lt_tmod_of_pos n h3
    rw [Int.mul_comm]; omega
  have a2 : -8589934592 ≤ n.tdiv d ∧ n.tdiv d ≤ 8589934592 := by
    have t : (n.tdiv d).natAbs ≤ n.natAbs := by rw [Int.natAbs_tdiv]; exact Nat.div_le_self _ _
    omega
  have ed : n / d = if n.tdiv d * d > n then n.tdiv d - 1 else n.tdiv d := by
    have t1 := Int.tmod_add_mul_tdiv n d
    have t2 := Int.tmod_lt_of_pos n h3
    have t3 := Int.lt_tmod_of_pos n h3
    have t4 := Int.emod_add_mul_ediv n d
    have t5 := Int.emod_nonneg n (b := d) (by omega)
    have t6 := Int.emod_lt_of_pos n h3
    rw [Int.mul_comm] at t1 t4
    generalize n.tdiv d = k at *
    generalize n / d = j at *
    have e1 : k * d - j * d = (k - j) * d := by rw [Int.sub_mul]
    have e2 : ∀ z : Int, 1 ≤ z → d ≤ z * d := fun z hz => by have := Int.mul_le_mul_of_nonneg_right hz (show 0 ≤ d by omega); omega
    by_cases hk : k * d > n
    · rw [if_pos hk]
      by_cases h5 : k - j = 1
      · omega
      · by_cases h6 : 2 ≤ k - j
        · have := e2 (k - j - 1) (by omega); rw [Int.sub_mul, Int.one_mul] at this; omega
        · have := e2 (j - k + 1) (by omega); rw [Int.add_mul, Int.one_mul, Int.sub_mul] at this; omega
    · rw [if_neg hk]
      by_cases h5 : k - j = 0
      · omega
      · by_cases h6 : 1 ≤ k - j
        · have := e2 (k - j) h6; omega
        · have := e2 (j - k) (by omega); rw [Int.sub_mul] at this; omega
  have b1 := a1.1
  have b2 := a1.2
  have b3 := a2.1
  have b4 := a2.2
  clear a1 a2
  by_cases hk : n.tdiv d * d > n
  · rw [if_pos hk] at ed
    have ED := hid ed
    clear ed
    have hk' : n < n.tdiv d * d := hk
    clear hk
    go_enter Tryd.func45, Tryd.ntmps45
    go_wp2_with fail
    go_ret
    exact ⟨ret1_int ED.out.symm, rfl⟩
  · rw [if_neg hk] at ed
    have ED := hid ed
    clear ed
    have hk' : ¬ n < n.tdiv d * d := hk
    clear hk
    go_enter Tryd.func45, Tryd.ntmps45
    go_wp2_with fail
    go_ret
    exact ⟨ret1_int ED.out.symm, rfl⟩

end Go.Proofs.YtghnmamdfinbpaaDoor

/-
  The plain law of ratio.Near: what its two last fractions are good for: no program in sight.
-/
import Derived.WalkKit
namespace Go.Proofs.YtghnmamdfinbpaaDoor

/-- p by q is the nearest to n by d with denominators up to most: nothing is nearer, and what is as near comes later. -/
def NearSpec (n d most p q : Int) : Prop :=
  0 ≤ p ∧ 1 ≤ q ∧ q ≤ most ∧ ∀ x y : Int, 1 ≤ y → y ≤ most →
    ((p * d - n * q).natAbs : Int) * y ≤ ((x * d - n * y).natAbs : Int) * q ∧
    (((p * d - n * q).natAbs : Int) * y = ((x * d - n * y).natAbs : Int) * q → q < y ∨ q = y ∧ p ≤ x)

/-- the state of the loop: a, b: the numbers of the one before; p, q: of the last one. -/
structure Conv (N D most a b p q n d s : Int) : Prop where
  ha : 0 ≤ a
  hb : 0 ≤ b
  hp : 0 ≤ p
  hq : 0 ≤ q
  hbm : b ≤ most
  hqm : q ≤ most
  hn : 0 ≤ n
  hd : 0 ≤ d
  hs : s = 1 ∨ s = -1
  det : p * b - a * q = s
  one : a * D - N * b = -(s * n)
  two : p * D - N * q = s * d
  first : (a = 0 ∧ b = 1 ∧ p = 1 ∧ q = 0 ∧ n = N ∧ d = D) ∨ (1 ≤ q ∧ b ≤ q ∧ d < n ∧ n ≤ D)

theorem Conv.start {N D most : Int} (hN : 0 ≤ N) (hD : 0 < D) (hm : 1 ≤ most) : Conv N D most 0 1 1 0 N D 1 where
  ha := by omega
  hb := by omega
  hp := by omega
  hq := by omega
  hbm := hm
  hqm := by omega
  hn := hN
  hd := by omega
  hs := .inl rfl
  det := by omega
  one := by omega
  two := by omega
  first := .inl ⟨rfl, rfl, rfl, rfl, rfl, rfl⟩

theorem Conv.step {N D most a b p q n d s : Int} (h : Conv N D most a b p q n d s) (hd : 0 < d) (hm : b + n / d * q ≤ most) :
    Conv N D most p q (a + n / d * p) (b + n / d * q) d (n - n / d * d) (-s) := by
  have hk : 0 ≤ n / d := Int.ediv_nonneg h.hn h.hd
  have hkp : 0 ≤ n / d * p := Int.mul_nonneg hk h.hp
  have hkq : 0 ≤ n / d * q := Int.mul_nonneg hk h.hq
  have hmod : n - n / d * d = n % d := by rw [Int.emod_def, Int.mul_comm]
  have hm0 := Int.emod_nonneg n (b := d) (by omega)
  have hm1 := Int.emod_lt_of_pos n hd
  have ha := h.ha
  have hb := h.hb
  have e1 : (a + n / d * p) * q - p * (b + n / d * q) = a * q - p * b := by
    rw [Int.add_mul, Int.mul_add, Int.mul_assoc, ← Int.mul_assoc p, Int.mul_comm p (n / d), Int.mul_assoc]; omega
  have e2 : (a + n / d * p) * D - N * (b + n / d * q) = (a * D - N * b) + n / d * (p * D - N * q) := by
    rw [Int.add_mul, Int.mul_add, Int.mul_sub, Int.mul_assoc, ← Int.mul_assoc N, Int.mul_comm N (n / d), Int.mul_assoc]; omega
  refine ⟨h.hp, h.hq, by omega, by omega, h.hqm, hm, h.hd, by omega, by have := h.hs; omega, ?_, ?_, ?_, .inr ?_⟩
  · rw [e1]; have := h.det; omega
  · rw [h.two]; rw [Int.neg_mul]; omega
  · rw [e2, h.one, h.two]
    rw [Int.neg_mul, Int.mul_sub, ← Int.mul_assoc, ← Int.mul_assoc, Int.mul_comm s (n / d)]; omega
  · rcases h.first with ⟨rfl, rfl, rfl, rfl, rfl, rfl⟩ | ⟨f1, f2, f3, f4⟩
    · exact ⟨by omega, by omega, by omega, by omega⟩
    · have hk1 : 1 ≤ n / d := by
        have := Int.ediv_le_ediv hd (show d ≤ n by omega)
        rw [Int.ediv_self (by omega)] at this; exact this
      have : q ≤ n / d * q := by
        have := Int.mul_le_mul_of_nonneg_right hk1 h.hq
        rw [Int.one_mul] at this; exact this
      exact ⟨by omega, by omega, by omega, by omega⟩

theorem sq_one {s : Int} (hs : s = 1 ∨ s = -1) : s * s = 1 := by rcases hs with rfl | rfl <;> rfl

/-- where a fraction with a denominator up to most lies, by the two that stand around. -/
theorem around {N D most p q P Q d m s : Int} (hs : s = 1 ∨ s = -1) (hq : 1 ≤ q) (hQ : 1 ≤ Q)
    (det : p * Q - P * q = s) (two : p * D - N * q = s * d) (ot : P * D - N * Q = -(s * m)) (big : most < q + Q) (x y : Int) (hy1 : 1 ≤ y) (hym : y ≤ most) :
    ∃ α β : Int, y = α * q + β * Q ∧ x = α * p + β * P ∧ (x * D - N * y).natAbs = (α * d - β * m).natAbs ∧ ((1 ≤ α ∧ β ≤ 0) ∨ (α ≤ 0 ∧ 1 ≤ β)) := by
  obtain ⟨α, hα⟩ : ∃ α, α = s * (x * Q - y * P) := ⟨_, rfl⟩
  obtain ⟨β, hβ⟩ : ∃ β, β = s * (y * p - x * q) := ⟨_, rfl⟩
  have ey : y = α * q + β * Q := by
    have : α * q + β * Q = s * (y * (p * Q - P * q)) := by
      rw [hα, hβ]; simp only [Int.mul_sub, Int.sub_mul]
      have a1 : s * (x * Q) * q = s * (x * q) * Q := by simp only [Int.mul_comm, Int.mul_left_comm]
      have a2 : s * (y * P) * q = s * (y * (P * q)) := by simp only [Int.mul_assoc]
      have a3 : s * (y * p) * Q = s * (y * (p * Q)) := by simp only [Int.mul_assoc]
      omega
    rw [this, det, Int.mul_left_comm, sq_one hs, Int.mul_one]
  have ex : x = α * p + β * P := by
    have : α * p + β * P = s * (x * (p * Q - P * q)) := by
      rw [hα, hβ]; simp only [Int.mul_sub, Int.sub_mul]
      have a1 : s * (y * P) * p = s * (y * p) * P := by simp only [Int.mul_comm, Int.mul_left_comm]
      have a2 : s * (x * Q) * p = s * (x * (p * Q)) := by simp only [Int.mul_comm, Int.mul_left_comm]
      have a3 : s * (x * q) * P = s * (x * (P * q)) := by simp only [Int.mul_comm, Int.mul_left_comm]
      omega
    rw [this, det, Int.mul_left_comm, sq_one hs, Int.mul_one]
  have eu : x * D - N * y = s * (α * d - β * m) := by
    have : x * D - N * y = α * (p * D - N * q) + β * (P * D - N * Q) := by
      rw [ex, ey]; simp only [Int.mul_sub, Int.add_mul, Int.mul_add]
      have a1 : N * (α * q) = α * (N * q) := by simp only [Int.mul_comm, Int.mul_left_comm]
      have a2 : N * (β * Q) = β * (N * Q) := by simp only [Int.mul_comm, Int.mul_left_comm]
      have a3 : α * p * D = α * (p * D) := Int.mul_assoc _ _ _
      have a4 : β * P * D = β * (P * D) := Int.mul_assoc _ _ _
      omega
    rw [this, two, ot]; simp only [Int.mul_sub, Int.mul_neg]
    have a1 : α * (s * d) = s * (α * d) := by simp only [Int.mul_comm, Int.mul_left_comm]
    have a2 : β * (s * m) = s * (β * m) := by simp only [Int.mul_comm, Int.mul_left_comm]
    omega
  refine ⟨α, β, ey, ex, ?_, ?_⟩
  · rw [eu]; rcases hs with rfl | rfl <;> simp
  · by_cases h1 : 1 ≤ α
    · by_cases h2 : 1 ≤ β
      · exfalso
        have b1 : q ≤ α * q := by have := Int.mul_le_mul_of_nonneg_right h1 (show 0 ≤ q by omega); omega
        have b2 : Q ≤ β * Q := by have := Int.mul_le_mul_of_nonneg_right h2 (show 0 ≤ Q by omega); omega
        omega
      · left; omega
    · by_cases h2 : 1 ≤ β
      · right; omega
      · exfalso
        have b1 : α * q ≤ 0 := Int.mul_nonpos_of_nonpos_of_nonneg (by omega) (by omega)
        have b2 : β * Q ≤ 0 := Int.mul_nonpos_of_nonpos_of_nonneg (by omega) (by omega)
        omega

theorem nat_side {α β d m : Int} (hd : 0 ≤ d) (hm : 0 ≤ m) (h : (1 ≤ α ∧ β ≤ 0) ∨ (α ≤ 0 ∧ 1 ≤ β)) :
    ((α * d - β * m).natAbs : Int) = (if 1 ≤ α then α * d - β * m else β * m - α * d) := by
  rcases h with ⟨h1, h2⟩ | ⟨h1, h2⟩
  · have a1 : 0 ≤ α * d := Int.mul_nonneg (by omega) hd
    have a2 : β * m ≤ 0 := Int.mul_nonpos_of_nonpos_of_nonneg h2 hm
    rw [if_pos h1]; omega
  · have a1 : α * d ≤ 0 := Int.mul_nonpos_of_nonpos_of_nonneg h1 hd
    have a2 : 0 ≤ β * m := Int.mul_nonneg (by omega) hm
    rw [if_neg (by omega)]; omega

/-- the last one is the nearest. -/
theorem near_last {N D most p q P Q d m s : Int} (hs : s = 1 ∨ s = -1) (hp : 0 ≤ p) (hq : 1 ≤ q) (hqm : q ≤ most) (hQ : 1 ≤ Q) (hd : 0 < d) (hm : 0 < m)
    (det : p * Q - P * q = s) (two : p * D - N * q = s * d) (ot : P * D - N * Q = -(s * m)) (big : most < q + Q)
    (hle : d * Q ≤ m * q) (htie : d * Q = m * q → q < Q ∨ q = Q ∧ p ≤ P) : NearSpec N D most p q := by
  refine ⟨hp, hq, hqm, fun x y hy1 hym => ?_⟩
  obtain ⟨α, β, ey, ex, eu, hab⟩ := around hs hq hQ det two ot big x y hy1 hym
  have eself : ((p * D - N * q).natAbs : Int) = d := by rw [two]; rcases hs with rfl | rfl <;> omega
  rw [eself, eu, nat_side (by omega) (by omega) hab]
  rcases hab with ⟨h1, h2⟩ | ⟨h1, h2⟩
  · rw [if_pos h1]
    have k1 : β * Q ≤ 0 := Int.mul_nonpos_of_nonpos_of_nonneg h2 (by omega)
    have k2 : β * m ≤ 0 := Int.mul_nonpos_of_nonpos_of_nonneg h2 (by omega)
    have k3 : d * y = α * d * q + d * (β * Q) := by rw [ey, Int.mul_add, ← Int.mul_assoc d, Int.mul_comm d α]
    have k4 : (α * d - β * m) * q = α * d * q - β * m * q := Int.sub_mul _ _ _
    have k5 : d * (β * Q) ≤ 0 := Int.mul_nonpos_of_nonneg_of_nonpos (by omega) k1
    have k6 : β * m * q ≤ 0 := Int.mul_nonpos_of_nonpos_of_nonneg k2 (by omega)
    refine ⟨by omega, fun he => ?_⟩
    have k7 : β * m * q = 0 := by omega
    have k8 : β = 0 := by
      rcases Int.mul_eq_zero.1 k7 with h | h
      · rcases Int.mul_eq_zero.1 h with h | h <;> omega
      · omega
    subst k8
    simp at ey ex
    by_cases h3 : α = 1
    · subst h3; right; omega
    · left
      have : 2 * q ≤ α * q := Int.mul_le_mul_of_nonneg_right (by omega) (by omega)
      omega
  · rw [if_neg (by omega)]
    have k1 : α * q ≤ 0 := Int.mul_nonpos_of_nonpos_of_nonneg h1 (by omega)
    have k2 : α * d ≤ 0 := Int.mul_nonpos_of_nonpos_of_nonneg h1 (by omega)
    have k3 : d * y = d * (α * q) + β * (d * Q) := by rw [ey, Int.mul_add]; congr 1; exact Int.mul_left_comm _ _ _
    have k4 : (β * m - α * d) * q = β * (m * q) - α * d * q := by rw [Int.sub_mul, Int.mul_assoc]
    have k5 : d * (α * q) ≤ 0 := Int.mul_nonpos_of_nonneg_of_nonpos (by omega) k1
    have k6 : α * d * q ≤ 0 := Int.mul_nonpos_of_nonpos_of_nonneg k2 (by omega)
    have k7 : β * (d * Q) ≤ β * (m * q) := Int.mul_le_mul_of_nonneg_left hle (by omega)
    refine ⟨by omega, fun he => ?_⟩
    have k8 : α * d * q = 0 := by omega
    have k9 : α = 0 := by
      rcases Int.mul_eq_zero.1 k8 with h | h
      · rcases Int.mul_eq_zero.1 h with h | h <;> omega
      · omega
    subst k9
    simp at ey ex k3 k4 he
    have k10 : d * Q = m * q := by
      have : β * (d * Q) = β * (m * q) := by omega
      exact Int.eq_of_mul_eq_mul_left (by omega) this
    rcases htie k10 with h | ⟨h, h'⟩
    · left
      have : 1 * Q ≤ β * Q := Int.mul_le_mul_of_nonneg_right h2 (by omega)
      omega
    · by_cases h3 : β = 1
      · subst h3; right; omega
      · left
        have : 2 * Q ≤ β * Q := Int.mul_le_mul_of_nonneg_right (by omega) (by omega)
        omega

/-- the other one is. -/
theorem near_other {N D most p q P Q d m s : Int} (hs : s = 1 ∨ s = -1) (hP : 0 ≤ P) (hq : 1 ≤ q) (hQm : Q ≤ most) (hQ : 1 ≤ Q) (hd : 0 < d) (hm : 0 < m)
    (det : p * Q - P * q = s) (two : p * D - N * q = s * d) (ot : P * D - N * Q = -(s * m)) (big : most < q + Q)
    (hlt : m * q < d * Q) : NearSpec N D most P Q := by
  refine ⟨hP, hQ, hQm, fun x y hy1 hym => ?_⟩
  obtain ⟨α, β, ey, ex, eu, hab⟩ := around hs hq hQ det two ot big x y hy1 hym
  have eself : ((P * D - N * Q).natAbs : Int) = m := by rw [ot]; rcases hs with rfl | rfl <;> omega
  rw [eself, eu, nat_side (by omega) (by omega) hab]
  rcases hab with ⟨h1, h2⟩ | ⟨h1, h2⟩
  · rw [if_pos h1]
    have k1 : β * Q ≤ 0 := Int.mul_nonpos_of_nonpos_of_nonneg h2 (by omega)
    have k2 : β * m ≤ 0 := Int.mul_nonpos_of_nonpos_of_nonneg h2 (by omega)
    have k3 : m * y = α * (m * q) + m * (β * Q) := by rw [ey, Int.mul_add]; congr 1; exact Int.mul_left_comm _ _ _
    have k4 : (α * d - β * m) * Q = α * (d * Q) - β * m * Q := by rw [Int.sub_mul, Int.mul_assoc]
    have k5 : m * (β * Q) ≤ 0 := Int.mul_nonpos_of_nonneg_of_nonpos (by omega) k1
    have k6 : β * m * Q ≤ 0 := Int.mul_nonpos_of_nonpos_of_nonneg k2 (by omega)
    have k7 : α * (m * q) < α * (d * Q) := Int.mul_lt_mul_of_pos_left hlt (by omega)
    refine ⟨by omega, fun he => by omega⟩
  · rw [if_neg (by omega)]
    have k1 : α * q ≤ 0 := Int.mul_nonpos_of_nonpos_of_nonneg h1 (by omega)
    have k2 : α * d ≤ 0 := Int.mul_nonpos_of_nonpos_of_nonneg h1 (by omega)
    have k3 : m * y = m * (α * q) + β * m * Q := by rw [ey, Int.mul_add, ← Int.mul_assoc m β, Int.mul_comm m β]
    have k4 : (β * m - α * d) * Q = β * m * Q - α * d * Q := Int.sub_mul _ _ _
    have k5 : m * (α * q) ≤ 0 := Int.mul_nonpos_of_nonneg_of_nonpos (by omega) k1
    have k6 : α * d * Q ≤ 0 := Int.mul_nonpos_of_nonpos_of_nonneg k2 (by omega)
    refine ⟨by omega, fun he => ?_⟩
    have k8 : α * d * Q = 0 := by omega
    have k9 : α = 0 := by
      rcases Int.mul_eq_zero.1 k8 with h | h
      · rcases Int.mul_eq_zero.1 h with h | h <;> omega
      · omega
    subst k9
    simp at ey ex
    by_cases h3 : β = 1
    · subst h3; right; omega
    · left
      have : 2 * Q ≤ β * Q := Int.mul_le_mul_of_nonneg_right (by omega) (by omega)
      omega

/-- behind the loop. -/
structure Done (N D most a b p q n d s k : Int) : Prop where
  q1 : 1 ≤ q
  d1 : 0 < d
  k0 : 0 ≤ k
  m1 : 0 < n - k * d
  Q1 : 1 ≤ b + k * q
  Qm : b + k * q ≤ most
  big : most < q + (b + k * q)
  det : p * (b + k * q) - (a + k * p) * q = s
  ot : (a + k * p) * D - N * (b + k * q) = -(s * (n - k * d))
  last : d * (b + k * q) ≤ (n - k * d) * q → NearSpec N D most p q
  other : (n - k * d) * q < d * (b + k * q) → NearSpec N D most (a + k * p) (b + k * q)

theorem Conv.done {N D most a b p q n d s : Int} (h : Conv N D most a b p q n d s) (hD : 0 < D) (hDm : most < D) (hm : 1 ≤ most)
    (hc : ∀ x y : Int, 1 ≤ y → x * D = N * y → D ≤ y) (hx : d ≤ 0 ∨ most < b + n / d * q) : Done N D most a b p q n d s ((most - b) / q) := by
  have f := h.first
  have q1 : 1 ≤ q := by
    rcases f with ⟨_, rfl, _, rfl, _, rfl⟩ | f
    · simp at hx; omega
    · exact f.1
  have d1 : 0 < d := by
    by_cases hd : 0 < d
    · exact hd
    · exfalso
      have : d = 0 := by have := h.hd; omega
      have t := h.two
      rw [this, Int.mul_zero] at t
      have := hc p q q1 (by omega)
      have := h.hqm
      omega
  have hx' : most < b + n / d * q := by omega
  have hbq : 1 ≤ q ∧ b ≤ q ∧ d < n ∧ n ≤ D := by
    rcases f with ⟨_, _, _, rfl, _, _⟩ | f
    · omega
    · exact f
  obtain ⟨k, hk⟩ : ∃ k, k = (most - b) / q := ⟨_, rfl⟩
  rw [← hk]
  have hb := h.hb
  have hbm := h.hbm
  have hqm := h.hqm
  have k0 : 0 ≤ k := by rw [hk]; exact Int.ediv_nonneg (by omega) (by omega)
  have kq : k * q ≤ most - b := by rw [hk]; exact Int.ediv_mul_le _ (by omega)
  have kq1 : most - b < (k + 1) * q := by rw [hk]; exact Int.lt_ediv_add_one_mul_self _ (by omega)
  have kq2 : (k + 1) * q = k * q + q := by rw [Int.add_mul, Int.one_mul]
  have kn : k < n / d := by
    by_cases hlt : k < n / d
    · exact hlt
    · exfalso
      have : n / d * q ≤ k * q := Int.mul_le_mul_of_nonneg_right (by omega) (by omega)
      omega
  have kd : (k + 1) * d ≤ n / d * d := Int.mul_le_mul_of_nonneg_right (by omega) (by omega)
  have kd2 : (k + 1) * d = k * d + d := by rw [Int.add_mul, Int.one_mul]
  have kd3 : n / d * d ≤ n := Int.ediv_mul_le _ (by omega)
  have kp : 0 ≤ k * p := Int.mul_nonneg k0 h.hp
  have kq0 : 0 ≤ k * q := Int.mul_nonneg k0 h.hq
  have Q1 : 1 ≤ b + k * q := by
    by_cases hb0 : 1 ≤ b
    · omega
    · have : b = 0 := by omega
      subst this
      have : 1 ≤ k := by
        by_cases hk1 : 1 ≤ k
        · exact hk1
        · have : k = 0 := by omega
          subst this
          omega
      have : 1 * q ≤ k * q := Int.mul_le_mul_of_nonneg_right this (by omega)
      omega
  have det : p * (b + k * q) - (a + k * p) * q = s := by
    rw [Int.mul_add, Int.add_mul, Int.mul_left_comm, ← Int.mul_assoc k p q]
    have := h.det
    omega
  have ot : (a + k * p) * D - N * (b + k * q) = -(s * (n - k * d)) := by
    have e : (a + k * p) * D - N * (b + k * q) = (a * D - N * b) + k * (p * D - N * q) := by
      rw [Int.add_mul, Int.mul_add, Int.mul_sub, Int.mul_assoc, ← Int.mul_assoc N, Int.mul_comm N k, Int.mul_assoc]; omega
    rw [e, h.one, h.two, Int.mul_sub, ← Int.mul_assoc, ← Int.mul_assoc, Int.mul_comm s k]; omega
  refine ⟨q1, d1, k0, by omega, Q1, by omega, by omega, det, ot, fun hle => ?_, fun hlt => ?_⟩
  · refine near_last h.hs h.hp q1 hqm Q1 d1 (by omega) det h.two ot (by omega) hle fun he => ?_
    by_cases hk0 : k = 0
    · exfalso
      subst hk0
      simp at he
      have e1 : d * b ≤ d * q := Int.mul_le_mul_of_nonneg_left (by omega) (by omega)
      have e2 : d * q < n * q := Int.mul_lt_mul_of_pos_right (by omega) (by omega)
      omega
    · have e1 : 1 * q ≤ k * q := Int.mul_le_mul_of_nonneg_right (by omega) (by omega)
      by_cases hlt : q < b + k * q
      · left; exact hlt
      · right
        have hb0 : b = 0 := by omega
        have hkq : k * q = q := by omega
        have hk1 : k = 1 := by
          have : k * q = 1 * q := by omega
          exact Int.eq_of_mul_eq_mul_right (by omega) this
        have ha := h.ha
        subst hk1
        omega
  · have ha := h.ha
    exact near_other h.hs (by omega) q1 (by omega) Q1 d1 (by omega) det h.two ot (by omega) hlt

end Go.Proofs.YtghnmamdfinbpaaDoor

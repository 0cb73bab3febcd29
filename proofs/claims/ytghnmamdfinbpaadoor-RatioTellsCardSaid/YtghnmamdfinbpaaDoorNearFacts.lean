/-
  What follows of 'p by q is the nearest': in least terms, no greater than what was asked, itself where it may be.
-/
import Derived.Test.YtghnmamdfinbpaaDoorNear
namespace Go.Proofs.YtghnmamdfinbpaaDoor

theorem NearSpec.within {N D most p q : Int} (h : NearSpec N D most p q) (hD : 0 < D) : ((p * D - N * q).natAbs : Int) ≤ D - 1 := by
  obtain ⟨_, h1, h2, h3⟩ := h
  have a := (h3 (N * q / D) q h1 h2).1
  have e : N * q / D * D - N * q = -(N * q % D) := by have := Int.emod_add_mul_ediv (N * q) D; rw [Int.mul_comm D] at this; omega
  have e1 := Int.emod_nonneg (N * q) (b := D) (by omega)
  have e2 := Int.emod_lt_of_pos (N * q) hD
  have b := Int.le_of_mul_le_mul_right a (by omega)
  omega

theorem NearSpec.den_le {N D most p q : Int} (h : NearSpec N D most p q) (hD : 0 < D) : q ≤ D := by
  obtain ⟨_, h1, h2, h3⟩ := h
  by_cases hm : D ≤ most
  · have a := h3 N D (by omega) hm
    have e : ((N * D - N * D).natAbs : Int) = 0 := by simp
    rw [e, Int.zero_mul] at a
    have a1 : 0 ≤ ((p * D - N * q).natAbs : Int) * D := Int.mul_nonneg (by omega) (by omega)
    have := a.2 (by omega)
    omega
  · omega

theorem NearSpec.num_le {N D most p q : Int} (h : NearSpec N D most p q) (hN : 0 ≤ N) (hD : 0 < D) : p ≤ N := by
  have a := h.within hD
  have b := h.den_le hD
  have c : N * q ≤ N * D := Int.mul_le_mul_of_nonneg_left b hN
  have d : p * D ≤ N * D + (D - 1) := by omega
  by_cases hp : p ≤ N
  · exact hp
  · exfalso
    have e : (N + 1) * D ≤ p * D := Int.mul_le_mul_of_nonneg_right (by omega) (by omega)
    rw [Int.add_mul, Int.one_mul] at e
    omega

theorem NearSpec.self {N D most p q : Int} (h : NearSpec N D most p q) (hD : 0 < D) (hm : D ≤ most) (hc : ∀ x y : Int, 1 ≤ y → x * D = N * y → D ≤ y) : p = N ∧ q = D := by
  have hq := h.den_le hD
  obtain ⟨_, h1, h2, h3⟩ := h
  have a := h3 N D (by omega) hm
  have e : ((N * D - N * D).natAbs : Int) = 0 := by simp
  rw [e, Int.zero_mul] at a
  have a0 := a.1
  have a2 : ((p * D - N * q).natAbs : Int) = 0 := by
    have a1 : 0 ≤ ((p * D - N * q).natAbs : Int) * D := Int.mul_nonneg (by omega) (by omega)
    have a3 : ((p * D - N * q).natAbs : Int) * D = 0 := by omega
    rcases Int.mul_eq_zero.1 a3 with h | h <;> omega
  have a4 : p * D = N * q := by omega
  have a5 := hc p q h1 a4
  have a6 : q = D := by omega
  subst a6
  exact ⟨Int.eq_of_mul_eq_mul_right (by omega) a4, rfl⟩

theorem NearSpec.least {N D most p q : Int} (h : NearSpec N D most p q) : leN p q = p ∧ leD p q = q := by
  obtain ⟨h0, h1, h2, h3⟩ := h
  obtain ⟨n, rfl⟩ := Int.eq_ofNat_of_zero_le h0
  obtain ⟨d, rfl⟩ := Int.eq_ofNat_of_zero_le (show 0 ≤ q by omega)
  have e1 : upN n d = n := by unfold upN; rw [if_neg (by omega)]
  have e2 : upD d = d := by unfold upD; rw [if_neg (by omega)]
  have hg : gR n d = Nat.gcd n d := by unfold gR; rw [e1, e2]; rfl
  have hgp : 0 < Nat.gcd n d := Nat.gcd_pos_of_pos_right _ (by omega)
  have g1 : Nat.gcd n d = 1 := by
    obtain ⟨x, hx⟩ := Nat.gcd_dvd_left n d
    obtain ⟨y, hy⟩ := Nat.gcd_dvd_right n d
    generalize Nat.gcd n d = g at *
    have hy1 : 1 ≤ y := by
      by_cases hy0 : y = 0
      · subst hy0; simp at hy; omega
      · omega
    have hyd : y ≤ d := by rw [hy]; exact Nat.le_mul_of_pos_left _ hgp
    have a := (h3 x y (by omega) (by omega)).2
    have e : ((n : Int) * D - N * d) = g * ((x : Int) * D - N * y) := by
      rw [hx, hy]; simp only [Int.natCast_mul, Int.mul_sub]
      rw [Int.mul_assoc, Int.mul_left_comm N]
    have e3 : (((n : Int) * D - N * d).natAbs : Int) * y = ((((x : Int) * D - N * y).natAbs : Int)) * d := by
      rw [e, Int.natAbs_mul, hy]
      simp only [Int.natCast_mul, Int.natAbs_natCast]
      rw [Int.mul_assoc, Int.mul_left_comm]
    have b := a e3
    have : d = y := by omega
    rw [this] at hy
    have h4 : 1 * y = g * y := by omega
    exact (Nat.eq_of_mul_eq_mul_right hy1 h4).symm
  unfold leN leD
  rw [e1, e2, hg, g1]
  simp

/-- what may be asked of Near: any ratio with the same value. -/
theorem NearSpec.scale {N D most p q g x y : Int} (h : NearSpec N D most p q) (hg : 0 < g) (h1 : 1 ≤ y) (h2 : y ≤ most) :
    ((N * g * q - p * (D * g)).natAbs : Int) * y ≤ ((N * g * y - x * (D * g)).natAbs : Int) * q ∧
    (((N * g * q - p * (D * g)).natAbs : Int) * y = ((N * g * y - x * (D * g)).natAbs : Int) * q → ¬ y < q) := by
  have e : ∀ u v : Int, (N * g * v - u * (D * g)).natAbs = g.natAbs * (u * D - N * v).natAbs := by
    intro u v
    rw [← Int.natAbs_mul, ← Int.natAbs_neg]
    congr 1
    rw [Int.mul_sub, Int.neg_sub]
    rw [Int.mul_comm N g, Int.mul_assoc g N v, ← Int.mul_assoc u D g, Int.mul_comm (u * D) g]
  obtain ⟨_, _, _, h5⟩ := h
  obtain ⟨a, b⟩ := h5 x y h1 h2
  rw [e, e]
  simp only [Int.natCast_mul, Int.mul_assoc]
  have hgn : (0 : Int) < (g.natAbs : Int) := by omega
  refine ⟨Int.mul_le_mul_of_nonneg_left a (by omega), fun he => ?_⟩
  have := b (Int.eq_of_mul_eq_mul_left (by omega) he)
  omega

theorem NearSpec.scaled {N D most p q g : Int} (h : NearSpec N D most p q) (hg : 0 < g) (hD : 0 < D) : ((N * g * q - p * (D * g)).natAbs : Int) ≤ D * g := by
  have a := h.within hD
  have e : (N * g * q - p * (D * g)).natAbs = g.natAbs * (p * D - N * q).natAbs := by
    rw [← Int.natAbs_mul, ← Int.natAbs_neg]
    congr 1
    rw [Int.mul_sub, Int.neg_sub]
    rw [Int.mul_comm N g, Int.mul_assoc g N q, ← Int.mul_assoc p D g, Int.mul_comm (p * D) g]
  rw [e, Int.natCast_mul, Int.mul_comm D g]
  have : (g.natAbs : Int) = g := by omega
  rw [this]
  exact Int.mul_le_mul_of_nonneg_left (by omega) (by omega)

end Go.Proofs.YtghnmamdfinbpaaDoor

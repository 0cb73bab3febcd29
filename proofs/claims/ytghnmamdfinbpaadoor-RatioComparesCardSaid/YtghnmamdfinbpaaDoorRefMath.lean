/-
  The plain law of the reference's Near: each denominator's both numerators around are tried, the first that is nearest is kept: what is kept is the nearest.
-/
import Derived.Test.YtghnmamdfinbpaaDoorNearFacts
namespace Go.Proofs.YtghnmamdfinbpaaDoor

def dist (a b x y : Int) : Int := ((x * b - a * y).natAbs : Int)
theorem dist_nonneg (a b x y : Int) : 0 ≤ dist a b x y := by unfold dist; omega

/-- p by q is the best of all with a denominator below q', and of the numerators from f up to p' of q'. -/
structure RB (a b f q' p' p q : Int) : Prop where
  q1 : 1 ≤ q
  p0 : 0 ≤ p
  ord : q < q' ∨ q = q' ∧ f ≤ p ∧ p < p'
  best : ∀ x y : Int, 1 ≤ y → (y < q' ∨ y = q' ∧ f ≤ x ∧ x < p') → dist a b p q * y ≤ dist a b x y * q ∧ (dist a b p q * y = dist a b x y * q → q < y ∨ q = y ∧ p ≤ x)

/-- the first that is tried. -/
theorem RB.first {a b : Int} (hf : 0 ≤ a * 1 / b) : RB a b (a * 1 / b) 1 (a * 1 / b + 1) (a * 1 / b) 1 where
  q1 := by omega
  p0 := hf
  ord := .inr ⟨rfl, by omega⟩
  best := fun x y hy h => by
    have e : x = a * 1 / b ∧ y = 1 := by omega
    obtain ⟨rfl, rfl⟩ := e
    exact ⟨by omega, fun _ => .inr ⟨rfl, by omega⟩⟩

/-- one that is nearer. -/
theorem RB.nearer {a b f q' p' p q : Int} (h : RB a b f q' p' p q) (hq : 1 ≤ q') (hf : f ≤ p') (hp : 0 ≤ p') (hn : dist a b p' q' * q < dist a b p q * q') : RB a b f q' (p' + 1) p' q' where
  q1 := hq
  p0 := hp
  ord := .inr ⟨rfl, by omega⟩
  best := fun x y hy hs => by
    have q1 := h.q1
    by_cases hl : y = q' ∧ x = p'
    · obtain ⟨rfl, rfl⟩ := hl
      exact ⟨by omega, fun _ => .inr ⟨rfl, by omega⟩⟩
    · have hb := (h.best x y hy (by omega)).1
      have e1 : dist a b p' q' * q * y < dist a b p q * q' * y := Int.mul_lt_mul_of_pos_right hn (by omega)
      have e2 : dist a b p q * y * q' ≤ dist a b x y * q * q' := Int.mul_le_mul_of_nonneg_right hb (by omega)
      have e3 : dist a b p q * q' * y = dist a b p q * y * q' := by rw [Int.mul_assoc, Int.mul_comm q' y, ← Int.mul_assoc]
      have e4 : dist a b p' q' * q * y = dist a b p' q' * y * q := by rw [Int.mul_assoc, Int.mul_comm q y, ← Int.mul_assoc]
      have e5 : dist a b x y * q * q' = dist a b x y * q' * q := by rw [Int.mul_assoc, Int.mul_comm q q', ← Int.mul_assoc]
      have e6 : dist a b p' q' * y * q < dist a b x y * q' * q := by omega
      have e7 : dist a b p' q' * y < dist a b x y * q' := Int.lt_of_mul_lt_mul_right e6 (by omega)
      exact ⟨by omega, fun he => by omega⟩

/-- one that is not. -/
theorem RB.kept {a b f q' p' p q : Int} (h : RB a b f q' p' p q) (hn : ¬ dist a b p' q' * q < dist a b p q * q') : RB a b f q' (p' + 1) p q where
  q1 := h.q1
  p0 := h.p0
  ord := by have := h.ord; omega
  best := fun x y hy hs => by
    by_cases hl : y = q' ∧ x = p'
    · obtain ⟨rfl, rfl⟩ := hl
      refine ⟨by omega, fun _ => ?_⟩
      have := h.ord
      omega
    · exact h.best x y hy (by omega)

theorem dist_floor {a b q x : Int} (hb : 0 < b) (h : x < a * q / b) : dist a b (a * q / b) q < dist a b x q := by
  have e1 : a * q / b * b ≤ a * q := Int.ediv_mul_le _ (by omega)
  have e2 : (x + 1) * b ≤ a * q / b * b := Int.mul_le_mul_of_nonneg_right (by omega) (by omega)
  rw [Int.add_mul, Int.one_mul] at e2
  unfold dist
  omega

theorem dist_ceil {a b q x : Int} (hb : 0 < b) (h : a * q / b + 1 < x) : dist a b (a * q / b + 1) q < dist a b x q := by
  have e1 : a * q < (a * q / b + 1) * b := Int.lt_ediv_add_one_mul_self _ hb
  have e2 : (a * q / b + 1 + 1) * b ≤ x * b := Int.mul_le_mul_of_nonneg_right (by omega) (by omega)
  have e3 : (a * q / b + 1 + 1) * b = (a * q / b + 1) * b + b := by rw [Int.add_mul (a * q / b + 1), Int.one_mul]
  unfold dist
  omega

/-- both numerators have been tried: on to the next denominator. -/
theorem RB.next {a b q' p q f' : Int} (h : RB a b (a * q' / b) q' (a * q' / b + 2) p q) (hb : 0 < b) (hq : 1 ≤ q') : RB a b f' (q' + 1) f' p q where
  q1 := h.q1
  p0 := h.p0
  ord := by have := h.ord; omega
  best := fun x y hy hs => by
    have q1 := h.q1
    by_cases hl : y < q'
    · exact h.best x y hy (.inl hl)
    · have hyq : y = q' := by omega
      subst hyq
      by_cases hx1 : x < a * y / b
      · have hb1 := (h.best (a * y / b) y hy (.inr ⟨rfl, by omega, by omega⟩)).1
        have e := dist_floor hb hx1
        have e1 : dist a b (a * y / b) y * q < dist a b x y * q := Int.mul_lt_mul_of_pos_right e (by omega)
        exact ⟨by omega, fun he => by omega⟩
      · by_cases hx2 : a * y / b + 1 < x
        · have hb1 := (h.best (a * y / b + 1) y hy (.inr ⟨rfl, by omega, by omega⟩)).1
          have e := dist_ceil hb hx2
          have e1 : dist a b (a * y / b + 1) y * q < dist a b x y * q := Int.mul_lt_mul_of_pos_right e (by omega)
          exact ⟨by omega, fun he => by omega⟩
        · exact h.best x y hy (.inr ⟨rfl, by omega, by omega⟩)

theorem RB.spec {a b f most p q : Int} (h : RB a b f (most + 1) f p q) : NearSpec a b most p q := by
  refine ⟨h.p0, h.q1, ?_, fun x y h1 h2 => h.best x y h1 (.inl (by omega))⟩
  have := h.ord
  omega

theorem NearSpec.times {N D most p q g : Int} (h : NearSpec N D most p q) (hg : 0 < g) : NearSpec (N * g) (D * g) most p q := by
  obtain ⟨h0, h1, h2, h3⟩ := h
  have e : ∀ u v : Int, ((u * (D * g) - N * g * v).natAbs : Int) = g * ((u * D - N * v).natAbs : Int) := by
    intro u v
    have : u * (D * g) - N * g * v = g * (u * D - N * v) := by
      rw [Int.mul_sub, Int.mul_comm N g, Int.mul_assoc g N v, ← Int.mul_assoc u D g, Int.mul_comm (u * D) g]
    rw [this, Int.natAbs_mul, Int.natCast_mul]
    congr 1
    omega
  refine ⟨h0, h1, h2, fun x y hy1 hy2 => ?_⟩
  obtain ⟨a, b⟩ := h3 x y hy1 hy2
  rw [e, e, Int.mul_assoc, Int.mul_assoc]
  exact ⟨Int.mul_le_mul_of_nonneg_left a (by omega), fun he => b (Int.eq_of_mul_eq_mul_left (by omega) he)⟩

end Go.Proofs.YtghnmamdfinbpaaDoor

/-
  The walk of the reference's Near.
-/
import Derived.Test.YtghnmamdfinbpaaDoorRefMath
import Derived.Test.YtghnmamdfinbpaaDoorRefC
namespace Go.Proofs.YtghnmamdfinbpaaDoor
open Go.RowKit Go.Sort

/-- what the two cells hold ahead of the try of p' by q'. -/
def RS (a b q' p' p q n d : Int) : Prop :=
  (q' = 1 ∧ p' = a * 1 / b ∧ p = 0 ∧ q = 0 ∧ n = 0 ∧ d = 0) ∨ (RB a b (a * q' / b) q' p' p q ∧ n = dist a b p q ∧ d = q ∧ n ≤ b ∧ q ≤ q')

theorem RS.start (a b : Int) : RS a b 1 (a * 1 / b) 0 0 0 0 := .inl ⟨rfl, rfl, rfl, rfl, rfl, rfl⟩

theorem floor_facts {a b q : Int} (hb : 0 < b) (ha : 0 ≤ a) (hq : 1 ≤ q) : 0 ≤ a * q / b ∧ a * q / b * b ≤ a * q ∧ a * q < a * q / b * b + b := by
  have h0 : 0 ≤ a * q := Int.mul_nonneg ha (by omega)
  have e1 : a * q / b * b ≤ a * q := Int.ediv_mul_le _ (by omega)
  have e2 : a * q < (a * q / b + 1) * b := Int.lt_ediv_add_one_mul_self _ hb
  rw [Int.add_mul, Int.one_mul] at e2
  exact ⟨Int.ediv_nonneg h0 (by omega), e1, e2⟩

theorem near_n {a b q p : Int} (hb : 0 < b) (ha : 0 ≤ a) (hq : 1 ≤ q) (h1 : a * q / b ≤ p) (h2 : p ≤ a * q / b + 1) : dist a b p q ≤ b ∧ (a * q - p * b < 0 → -(a * q - p * b) = dist a b p q) ∧ (¬ a * q - p * b < 0 → a * q - p * b = dist a b p q) ∧ 0 ≤ p * b ∧ p * b ≤ a * q + b := by
  obtain ⟨f0, f1, f2⟩ := floor_facts hb ha hq
  have h0 : 0 ≤ a * q := Int.mul_nonneg ha (by omega)
  have hp : p = a * q / b ∨ p = a * q / b + 1 := by omega
  have f3 : 0 ≤ a * q / b * b := Int.mul_nonneg f0 (by omega)
  unfold dist
  rcases hp with rfl | rfl
  · omega
  · rw [Int.add_mul, Int.one_mul]
    omega

theorem RS.take {a b q' p' p q n d : Int} (h : RS a b q' p' p q n d) (hb : 0 < b) (ha : 0 ≤ a) (hq : 1 ≤ q') (h1 : a * q' / b ≤ p') (h2 : p' ≤ a * q' / b + 1) (hn : q = 0 ∨ dist a b p' q' * d < n * q') : RS a b q' (p' + 1) p' q' (dist a b p' q') q' := by
  have hf := (floor_facts hb ha hq).1
  refine .inr ⟨?_, rfl, rfl, (near_n hb ha hq h1 h2).1, by omega⟩
  rcases h with ⟨rfl, rfl, rfl, rfl, rfl, rfl⟩ | ⟨h, rfl, rfl, _, _⟩
  · exact RB.first hf
  · have := h.q1
    exact h.nearer hq h1 (by omega) (by omega)

theorem RS.keep {a b q' p' p q n d : Int} (h : RS a b q' p' p q n d) (h0 : ¬ q = 0) (hn : ¬ dist a b p' q' * d < n * q') : RS a b q' (p' + 1) p q n d := by
  rcases h with ⟨_, _, _, rfl, _, _⟩ | ⟨h, rfl, rfl, h3, h4⟩
  · exact absurd rfl h0
  · exact .inr ⟨h.kept hn, rfl, rfl, h3, h4⟩

theorem RS.next {a b q' p q n d : Int} (h : RS a b q' (a * q' / b + 2) p q n d) (hb : 0 < b) (hq : 1 ≤ q') : RS a b (q' + 1) (a * (q' + 1) / b) p q n d := by
  rcases h with ⟨rfl, h, _⟩ | ⟨h, rfl, rfl, h3, h4⟩
  · omega
  · exact .inr ⟨h.next hb hq, rfl, rfl, h3, by omega⟩

theorem RS.bounds {a b q' p' p q n d : Int} (h : RS a b q' p' p q n d) (hb : 0 < b) (hq : 1 ≤ q') : 0 ≤ n ∧ n ≤ b ∧ 0 ≤ d ∧ d ≤ q' ∧ 0 ≤ q ∧ q ≤ q' := by
  rcases h with ⟨rfl, _, rfl, rfl, rfl, rfl⟩ | ⟨h, rfl, rfl, h3, h4⟩
  · omega
  · have := h.q1
    have := dist_nonneg a b p d
    omega

theorem RS.spec {a b most p q n d : Int} (h : RS a b (most + 1) (a * (most + 1) / b) p q n d) (hm : 1 ≤ most) : NearSpec a b most p q := by
  rcases h with ⟨h, _⟩ | ⟨h, _⟩
  · omega
  · exact h.spec

set_option maxRecDepth 20000 in
set_option maxHeartbeats 800000 in
theorem rnear_yes (a b most : Int) (w : World) (h : askB a b most = true) :
    Calls Tryd.prog 12 #[.agg #[.int .i64 a, .int .i64 b], .int .i64 most] w fun e w' => ∃ p q, e = .returned (.tuple #[.agg #[.int .i64 p, .int .i64 q], .bool true]) ∧ NearSpec a b most p q ∧ Held w w' := by
  simp only [askB, Bool.and_eq_true, decide_eq_true_eq] at h
  obtain ⟨⟨⟨⟨h1, ha⟩, hb⟩, hm1⟩, hm2⟩ := h
  have B1 := mayR_bounds h1
  have ha9 : a < 4294967296 := by omega
  have hb9 : b < 4294967296 := by omega
  have M1 := hid h1
  clear h1 B1
  have n1 : decide (a < 0) = false := by simpa using ha
  have n2 : decide (b < 1) = false := by simpa using hb
  have n3 : decide (most < 1) = false := by simpa using hm1
  have n4 : decide (4096 < most) = false := by simpa using hm2
  go_enter Tryd.func12, Tryd.ntmps12
  go_wp2_with fail
  refine (rmay_any a b true M1.out _).mono ?_
  rintro e w1 ⟨rfl, hb1⟩
  have c0 := Held.cell (b := w.heap.size) (o := 0) (v := .int .i64 a) (by simp) hb1
  have c1 := Held.cell (b := w.heap.size) (o := 1) (v := .int .i64 b) (by simp) hb1
  have c2 := Held.cell (b := w.heap.size + 1) (o := 0) (v := .int .i64 0) (by simp) hb1
  have c3 := Held.cell (b := w.heap.size + 1) (o := 1) (v := .int .i64 0) (by simp) hb1
  have f2 := Held.frozen (b := w.heap.size + 1) (o := 0) (v := .int .i64 0) (x := false) (by simp) (by simp) hb1
  have f3 := Held.frozen (b := w.heap.size + 1) (o := 1) (v := .int .i64 0) (x := false) (by simp) (by simp) hb1
  have hd : Held w w1 := (((Held.refl w).alloc _).alloc _).tr hb1
  have z1 : w.heap.size + 1 < w1.heap.size := by have := hb1.size; simp at this; omega
  have z0 : w.heap.size < w1.heap.size := by omega
  clear hb1 n1 n2 n3 n4 M1
  go_upto_region 5 with fail
  have k0 : ((w1.alloc (.cells #[.int .i64 0, .int .i64 0] 23)).alloc (.cells #[.int .i64 0, .int .i64 0] 23)).cell? ⟨w.heap.size, 0, none⟩ = some (.int .i64 a) := by go_simp
  have k1 : ((w1.alloc (.cells #[.int .i64 0, .int .i64 0] 23)).alloc (.cells #[.int .i64 0, .int .i64 0] 23)).cell? ⟨w.heap.size, 1, none⟩ = some (.int .i64 b) := by go_simp
  have k2 : ((w1.alloc (.cells #[.int .i64 0, .int .i64 0] 23)).alloc (.cells #[.int .i64 0, .int .i64 0] 23)).cell? ⟨w.heap.size + 1, 0, none⟩ = some (.int .i64 0) := by go_simp
  have k3 : ((w1.alloc (.cells #[.int .i64 0, .int .i64 0] 23)).alloc (.cells #[.int .i64 0, .int .i64 0] 23)).cell? ⟨w.heap.size + 1, 1, none⟩ = some (.int .i64 0) := by go_simp
  have q2 : ((w1.alloc (.cells #[.int .i64 0, .int .i64 0] 23)).alloc (.cells #[.int .i64 0, .int .i64 0] 23)).frozen? ⟨w.heap.size + 1, 0, none⟩ = false := by go_simp
  have q3 : ((w1.alloc (.cells #[.int .i64 0, .int .i64 0] 23)).alloc (.cells #[.int .i64 0, .int .i64 0] 23)).frozen? ⟨w.heap.size + 1, 1, none⟩ = false := by go_simp
  have k4 : ((w1.alloc (.cells #[.int .i64 0, .int .i64 0] 23)).alloc (.cells #[.int .i64 0, .int .i64 0] 23)).cell? ⟨w1.heap.size, 0, none⟩ = some (.int .i64 0) := by go_simp
  have k5 : ((w1.alloc (.cells #[.int .i64 0, .int .i64 0] 23)).alloc (.cells #[.int .i64 0, .int .i64 0] 23)).cell? ⟨w1.heap.size, 1, none⟩ = some (.int .i64 0) := by go_simp
  have k6 : ((w1.alloc (.cells #[.int .i64 0, .int .i64 0] 23)).alloc (.cells #[.int .i64 0, .int .i64 0] 23)).cell? ⟨w1.heap.size + 1, 0, none⟩ = some (.int .i64 0) := by go_simp
  have k7 : ((w1.alloc (.cells #[.int .i64 0, .int .i64 0] 23)).alloc (.cells #[.int .i64 0, .int .i64 0] 23)).cell? ⟨w1.heap.size + 1, 1, none⟩ = some (.int .i64 0) := by go_simp
  have q4 : ((w1.alloc (.cells #[.int .i64 0, .int .i64 0] 23)).alloc (.cells #[.int .i64 0, .int .i64 0] 23)).frozen? ⟨w1.heap.size, 0, none⟩ = false := by go_simp
  have q5 : ((w1.alloc (.cells #[.int .i64 0, .int .i64 0] 23)).alloc (.cells #[.int .i64 0, .int .i64 0] 23)).frozen? ⟨w1.heap.size, 1, none⟩ = false := by go_simp
  have q6 : ((w1.alloc (.cells #[.int .i64 0, .int .i64 0] 23)).alloc (.cells #[.int .i64 0, .int .i64 0] 23)).frozen? ⟨w1.heap.size + 1, 0, none⟩ = false := by go_simp
  have q7 : ((w1.alloc (.cells #[.int .i64 0, .int .i64 0] 23)).alloc (.cells #[.int .i64 0, .int .i64 0] 23)).frozen? ⟨w1.heap.size + 1, 1, none⟩ = false := by go_simp
  have hx : Held w ((w1.alloc (.cells #[.int .i64 0, .int .i64 0] 23)).alloc (.cells #[.int .i64 0, .int .i64 0] 23)) := (hd.alloc _).alloc _
  clear c0 c1 c2 c3 f2 f3 hd
  generalize (w1.alloc (.cells #[.int .i64 0, .int .i64 0] 23)).alloc (.cells #[.int .i64 0, .int .i64 0] 23) = w2 at *
  go_wp2_with fail
  go_loopw [8, 9, 10] (fun t8 _ _ wr => ∃ y p q n d : Int, t8 = .int .i64 y ∧ 1 ≤ y ∧ y ≤ most + 1 ∧ Hid (RS a b y (a * y / b) p q n d) ∧
      wr.cell? ⟨w.heap.size, 0, none⟩ = some (.int .i64 a) ∧ wr.cell? ⟨w.heap.size, 1, none⟩ = some (.int .i64 b) ∧
      wr.cell? ⟨w.heap.size + 1, 0, none⟩ = some (.int .i64 0) ∧ wr.cell? ⟨w.heap.size + 1, 1, none⟩ = some (.int .i64 0) ∧
      wr.frozen? ⟨w.heap.size + 1, 0, none⟩ = false ∧ wr.frozen? ⟨w.heap.size + 1, 1, none⟩ = false ∧
      wr.cell? ⟨w1.heap.size, 0, none⟩ = some (.int .i64 p) ∧ wr.cell? ⟨w1.heap.size, 1, none⟩ = some (.int .i64 q) ∧
      wr.cell? ⟨w1.heap.size + 1, 0, none⟩ = some (.int .i64 n) ∧ wr.cell? ⟨w1.heap.size + 1, 1, none⟩ = some (.int .i64 d) ∧
      wr.frozen? ⟨w1.heap.size, 0, none⟩ = false ∧ wr.frozen? ⟨w1.heap.size, 1, none⟩ = false ∧
      wr.frozen? ⟨w1.heap.size + 1, 0, none⟩ = false ∧ wr.frozen? ⟨w1.heap.size + 1, 1, none⟩ = false ∧ Held w wr) (fun t8 _ _ _ => (most + 1 - intOf t8).toNat)
  case atStart => exact ⟨1, 0, 0, 0, 0, rfl, by omega, by omega, RS.start a b, k0, k1, k2, k3, q2, q3, k4, k5, k6, k7, q4, q5, q6, q7, hx⟩
  case round =>
    clear k0 k1 k2 k3 q2 q3 k4 k5 k6 k7 q4 q5 q6 q7 hx
    obtain ⟨y, p, q, n, d, rfl, hy1, hy2, HR, k0, k1, k2, k3, q2, q3, k4, k5, k6, k7, q4, q5, q6, q7, hx⟩ := hrel
    obtain ⟨m0, m1, m2⟩ := floor_facts (q := y) (a := a) (b := b) (by omega) ha hy1
    have m3 : 0 ≤ a * y := Int.mul_nonneg ha (by omega)
    have m4 : a * y ≤ 4294967295 * 4097 := Int.mul_le_mul (by omega) (by omega) (by omega) (by omega)
    have m5 : a * y / b ≤ a * y := Int.ediv_le_self _ m3
    by_cases hl : y ≤ most
    · have hl' : decide (y ≤ most) = true := by simpa using hl
      go_wp2_with fail
      obtain ⟨wo, rfl⟩ : ∃ wo : World, wo = wr := ⟨_, rfl⟩
      go_loopw [9, 10] (fun t9 _ wr => ∃ x p q n d : Int, t9 = .int .i64 x ∧ a * y / b ≤ x ∧ x ≤ a * y / b + 2 ∧ Hid (RS a b y x p q n d) ∧
        wr.cell? ⟨w.heap.size, 0, none⟩ = some (.int .i64 a) ∧ wr.cell? ⟨w.heap.size, 1, none⟩ = some (.int .i64 b) ∧
        wr.cell? ⟨w.heap.size + 1, 0, none⟩ = some (.int .i64 0) ∧ wr.cell? ⟨w.heap.size + 1, 1, none⟩ = some (.int .i64 0) ∧
        wr.frozen? ⟨w.heap.size + 1, 0, none⟩ = false ∧ wr.frozen? ⟨w.heap.size + 1, 1, none⟩ = false ∧
        wr.cell? ⟨w1.heap.size, 0, none⟩ = some (.int .i64 p) ∧ wr.cell? ⟨w1.heap.size, 1, none⟩ = some (.int .i64 q) ∧
        wr.cell? ⟨w1.heap.size + 1, 0, none⟩ = some (.int .i64 n) ∧ wr.cell? ⟨w1.heap.size + 1, 1, none⟩ = some (.int .i64 d) ∧
        wr.frozen? ⟨w1.heap.size, 0, none⟩ = false ∧ wr.frozen? ⟨w1.heap.size, 1, none⟩ = false ∧
        wr.frozen? ⟨w1.heap.size + 1, 0, none⟩ = false ∧ wr.frozen? ⟨w1.heap.size + 1, 1, none⟩ = false ∧ Held w wr) (fun t9 _ _ => (a * y / b + 2 - intOf t9).toNat)
      case atStart => exact ⟨a * y / b, p, q, n, d, rfl, by omega, by omega, HR, k0, k1, k2, k3, q2, q3, k4, k5, k6, k7, q4, q5, q6, q7, hx⟩
      case round =>
        clear k0 k1 k2 k3 q2 q3 k4 k5 k6 k7 q4 q5 q6 q7 hx HR p q n d
        obtain ⟨x, p, q, n, d, rfl, hx1, hx2, HR, k0, k1, k2, k3, q2, q3, k4, k5, k6, k7, q4, q5, q6, q7, hx⟩ := hrel
        by_cases hin : x ≤ a * y / b + 1
        · have hin' : decide (x ≤ a * y / b + 1) = true := by simpa using hin
          obtain ⟨t1, t2, t3, t4, t5⟩ := near_n (by omega) ha hy1 hx1 hin
          obtain ⟨r1, r2, r3, r4, r5, r6⟩ := HR.out.bounds (by omega) hy1
          have t0 := dist_nonneg a b x y
          have HD : Hid (dist a b x y = dist a b x y) := rfl
          have TK := hid (fun (h : q = 0 ∨ dist a b x y * d < n * y) => RS.take HR.out (by omega) ha hy1 hx1 hin h)
          have KP := hid (fun (h : ¬ q = 0) (h2 : ¬ dist a b x y * d < n * y) => RS.keep HR.out h h2)
          clear HR HD
          have t6 : 0 ≤ dist a b x y * d := Int.mul_nonneg t0 r3
          have t7 : dist a b x y * d ≤ 4294967295 * 4097 := Int.mul_le_mul (by omega) (by omega) r3 (by omega)
          have t8 : 0 ≤ n * y := Int.mul_nonneg r1 (by omega)
          have t9 : n * y ≤ 4294967295 * 4097 := Int.mul_le_mul (by omega) (by omega) (by omega) (by omega)
          generalize dist a b x y = N at *
          by_cases hneg : a * y - x * b < 0
          · have hneg' : decide (a * y - x * b < 0) = true := by simpa using hneg
            have hN := t2 hneg
            clear t2 t3
            by_cases hq0 : q = 0
            · have hq0' : (q == 0) = true := by simpa using hq0
              have HS := hid (TK.out (.inl hq0))
              clear TK KP
              go_upto_region 14 with fail
              go_wp2_with fail
              go_roundw
              case rel => exact ⟨x + 1, x, y, N, y, rfl, by omega, by omega, HS, by go_simp, by go_simp, by go_simp, by go_simp, by go_simp, by go_simp, by go_simp, by go_simp, by go_simp, by go_simp, by go_simp, by go_simp, by go_simp, by go_simp, ((((hx.set _ (by simp; omega)).set _ (by simp; omega)).set _ (by simp; omega)).set _ (by simp; omega))⟩
              case measure => simp [intOf]; omega
            · have hq0' : (q == 0) = false := by simpa using hq0
              by_cases hlt : N * d < n * y
              · have hlt' : decide (N * d < n * y) = true := by simpa using hlt
                have HS := hid (TK.out (.inr hlt))
                clear TK KP
                go_upto_region 14 with fail
                go_wp2_with fail
                go_roundw
                case rel => exact ⟨x + 1, x, y, N, y, rfl, by omega, by omega, HS, by go_simp, by go_simp, by go_simp, by go_simp, by go_simp, by go_simp, by go_simp, by go_simp, by go_simp, by go_simp, by go_simp, by go_simp, by go_simp, by go_simp, ((((hx.set _ (by simp; omega)).set _ (by simp; omega)).set _ (by simp; omega)).set _ (by simp; omega))⟩
                case measure => simp [intOf]; omega
              · have hlt' : decide (N * d < n * y) = false := by simpa using hlt
                have HS := hid (KP.out hq0 hlt)
                clear TK KP
                go_upto_region 14 with fail
                go_wp2_with fail
                go_roundw
                case rel => exact ⟨x + 1, p, q, n, d, rfl, by omega, by omega, HS, k0, k1, k2, k3, q2, q3, k4, k5, k6, k7, q4, q5, q6, q7, hx⟩
                case measure => simp [intOf]; omega
          · have hneg' : decide (a * y - x * b < 0) = false := by simpa using hneg
            have hN := t3 hneg
            clear t2 t3
            by_cases hq0 : q = 0
            · have hq0' : (q == 0) = true := by simpa using hq0
              have HS := hid (TK.out (.inl hq0))
              clear TK KP
              go_upto_region 14 with fail
              go_wp2_with fail
              go_roundw
              case rel => exact ⟨x + 1, x, y, N, y, rfl, by omega, by omega, HS, by go_simp, by go_simp, by go_simp, by go_simp, by go_simp, by go_simp, by go_simp, by go_simp, by go_simp, by go_simp, by go_simp, by go_simp, by go_simp, by go_simp, ((((hx.set _ (by simp; omega)).set _ (by simp; omega)).set _ (by simp; omega)).set _ (by simp; omega))⟩
              case measure => simp [intOf]; omega
            · have hq0' : (q == 0) = false := by simpa using hq0
              by_cases hlt : N * d < n * y
              · have hlt' : decide (N * d < n * y) = true := by simpa using hlt
                have HS := hid (TK.out (.inr hlt))
                clear TK KP
                go_upto_region 14 with fail
                go_wp2_with fail
                go_roundw
                case rel => exact ⟨x + 1, x, y, N, y, rfl, by omega, by omega, HS, by go_simp, by go_simp, by go_simp, by go_simp, by go_simp, by go_simp, by go_simp, by go_simp, by go_simp, by go_simp, by go_simp, by go_simp, by go_simp, by go_simp, ((((hx.set _ (by simp; omega)).set _ (by simp; omega)).set _ (by simp; omega)).set _ (by simp; omega))⟩
                case measure => simp [intOf]; omega
              · have hlt' : decide (N * d < n * y) = false := by simpa using hlt
                have HS := hid (KP.out hq0 hlt)
                clear TK KP
                go_upto_region 14 with fail
                go_wp2_with fail
                go_roundw
                case rel => exact ⟨x + 1, p, q, n, d, rfl, by omega, by omega, HS, k0, k1, k2, k3, q2, q3, k4, k5, k6, k7, q4, q5, q6, q7, hx⟩
                case measure => simp [intOf]; omega
        · have hin' : decide (x ≤ a * y / b + 1) = false := by simpa using hin
          have hxe : x = a * y / b + 2 := by omega
          have HS := hid (RS.next (hxe ▸ HR.out) (by omega) hy1)
          clear HR
          go_wp2_with fail
          go_roundw
          case rel => exact ⟨y + 1, p, q, n, d, rfl, by omega, by omega, HS, k0, k1, k2, k3, q2, q3, k4, k5, k6, k7, q4, q5, q6, q7, hx⟩
          case measure => simp [intOf]; omega
    · have hl' : decide (y ≤ most) = false := by simpa using hl
      have hye : y = most + 1 := by omega
      have HS := hid (RS.spec (hye ▸ HR.out) hm1)
      go_wp2_with fail
      exact bodyPost_ret (v := .tuple #[.agg #[.int .i64 p, .int .i64 q], .bool true]) (by simp [results, Tryd.results12, go_sem, k2, k3]) rfl ⟨p, q, rfl, HS.out, ((hx.set _ (by simp)).set _ (by simp))⟩

end Go.Proofs.YtghnmamdfinbpaaDoor

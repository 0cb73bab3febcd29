/-
  The walks of cover.Find and the reference's Find, and of both Sums.
-/
import Derived.Test.YtaehfpigjdndkaaGreatDoorCovB
namespace Go.Proofs.YtaehfpigjdndkaaGreatDoor
open Go.RowKit

theorem Held.cell {w w' : World} {b o : Nat} {v : Value} (hc : w.cell? ⟨b, o, none⟩ = some v) : Held w w' → w'.cell? ⟨b, o, none⟩ = some v := fun h => by
  rw [Below.cell h (p := ⟨b, o, none⟩) (World.block_lt_of_cell? _ _ hc)]; exact hc
theorem Held.frozen {w w' : World} {b o : Nat} {v : Value} {x : Bool} (hc : w.cell? ⟨b, o, none⟩ = some v) (hf : w.frozen? ⟨b, o, none⟩ = x) : Held w w' → w'.frozen? ⟨b, o, none⟩ = x := fun h => by
  rw [Below.frozen h (p := ⟨b, o, none⟩) (World.block_lt_of_cell? _ _ hc)]; exact hf

/-- a new block of seven numbers, behind a call. -/
def Zeros (w : World) (b : Nat) : Prop := ∀ j, j < 7 → w.cell? ⟨b, j, none⟩ = some (.int .i64 0) ∧ w.frozen? ⟨b, j, none⟩ = false

theorem Zeros.new (w : World) (t : TypeId) : Zeros (w.alloc (.cells #[.int .i64 0, .int .i64 0, .int .i64 0, .int .i64 0, .int .i64 0, .int .i64 0, .int .i64 0] t)) w.heap.size := by
  intro j hj
  match j, hj with
  | 0, _ => simp
  | 1, _ => simp
  | 2, _ => simp
  | 3, _ => simp
  | 4, _ => simp
  | 5, _ => simp
  | 6, _ => simp

theorem Zeros.keep {w w' : World} {b : Nat} (h : Zeros w b) (hw : Held w w') : Zeros w' b := fun j hj =>
  ⟨Held.cell (h j hj).1 hw, Held.frozen (h j hj).1 (h j hj).2 hw⟩

def findV : Option St7 → Value
  | some s => .tuple #[s.val, .bool true]
  | none => .tuple #[St7.zero.val, .bool false]

theorem icases {z : Int} {L : List St7} {k : Int} (hg : idxF z L 0 = k) {w : World} {A : Option Addr} {c : Nat} {a : Addr} (hn : L.length ≤ 300) (h : RowS w A L) (hf : Fine L) (hc : w.cell? a = some (.int .i64 z)) (ha : a.block < w.heap.size) :
    Calls Tryz.prog 15 #[.slice A L.length c, .func (.func 16) #[] #[.pointer (some a)]] w fun e w' => e = .returned (.int .i64 k) ∧ Held w w' := by
  rw [← hg]; exact index_any w A L c a z hn h hf hc ha

set_option maxRecDepth 20000 in
set_option maxHeartbeats 1600000 in
theorem cfind_any (w : World) (A : Option Addr) (L : List St7) (c : Nat) (z : Int) (hn : L.length ≤ 300) (h : RowS w A L) (hf : Fine L) :
    Calls Tryz.prog 8 #[.slice A L.length c, .int .i64 z] w fun e w' => e = .returned (findV (findF z L)) ∧ Held w w' := by
  have H := Lib.hid h
  obtain ⟨n, hl⟩ : ∃ n, L.length = n := ⟨_, rfl⟩
  rcases idx_cases z L 0 with ⟨g1, g2⟩ | ⟨k, s, g1, g2, g3, g4⟩
  · have HV := Lib.hid (show .tuple #[St7.zero.val, .bool false] = findV (findF z L) by rw [g2]; rfl)
    have HI := Lib.hid fun (W : World) (a : Addr) (h1 : RowS W A L) (hc : W.cell? a = some (.int .i64 z)) (ha : a.block < W.heap.size) => icases (c := c) (k := -1) (by simpa using g1) hn h1 hf hc ha
    rw [hl] at hn ⊢
    rw [hl] at HI
    clear h hf g1 g2 hl
    go_enter Tryz.func8, Tryz.ntmps8
    go_wp2_with fail
    refine (HI.out _ _ (H.out.keep (((Held.refl w).alloc _).alloc _)) (by go_simp) (by go_simp)).mono ?_
    rintro e w1 ⟨rfl, hb1⟩
    have hd : Held w w1 := (((Held.refl w).alloc _).alloc _).tr hb1
    have HZ := Lib.hid ((Zeros.new (w.alloc (.cells #[.int .i64 z] 3)) 27).keep hb1)
    have e1 : (w.alloc (.cells #[.int .i64 z] 3)).heap.size = w.heap.size + 1 := by simp
    rw [e1] at HZ
    obtain ⟨z0, y0⟩ := HZ.out 0 (by omega)
    obtain ⟨z1, y1⟩ := HZ.out 1 (by omega)
    obtain ⟨z2, y2⟩ := HZ.out 2 (by omega)
    obtain ⟨z3, y3⟩ := HZ.out 3 (by omega)
    obtain ⟨z4, y4⟩ := HZ.out 4 (by omega)
    obtain ⟨z5, y5⟩ := HZ.out 5 (by omega)
    obtain ⟨z6, y6⟩ := HZ.out 6 (by omega)
    clear e1 hb1
    go_wp2_with fail
    refine bodyPost_ret (v := .tuple #[St7.zero.val, .bool false]) (by simp [results, Tryz.results8, go_sem, St7.val, St7.zero, z0, z1, z2, z3, z4, z5, z6]) rfl ⟨by rw [HV.out], ?_⟩
    repeat (refine Held.set _ ?_ (by simp))
    exact hd
  · have HV := Lib.hid (show .tuple #[s.val, .bool true] = findV (findF z L) by rw [g4]; rfl)
    have HI := Lib.hid fun (W : World) (a : Addr) (h1 : RowS W A L) (hc : W.cell? a = some (.int .i64 z)) (ha : a.block < W.heap.size) => icases (c := c) (k := k) (by simpa using g1) hn h1 hf hc ha
    have HS := Lib.hid g3
    have ne := Lib.hid (show L ≠ [] by intro h; rw [h] at g2; simp at g2)
    rw [hl] at hn g2 ⊢
    rw [hl] at HI
    clear h hf g1 g3 g4 hl
    go_enter Tryz.func8, Tryz.ntmps8
    go_wp2_with fail
    refine (HI.out _ _ (H.out.keep (((Held.refl w).alloc _).alloc _)) (by go_simp) (by go_simp)).mono ?_
    rintro e w1 ⟨rfl, hb1⟩
    have hd : Held w w1 := (((Held.refl w).alloc _).alloc _).tr hb1
    have HZ := Lib.hid ((Zeros.new (w.alloc (.cells #[.int .i64 z] 3)) 27).keep hb1)
    have e1 : (w.alloc (.cells #[.int .i64 z] 3)).heap.size = w.heap.size + 1 := by simp
    rw [e1] at HZ
    obtain ⟨z0, y0⟩ := HZ.out 0 (by omega)
    obtain ⟨z1, y1⟩ := HZ.out 1 (by omega)
    obtain ⟨z2, y2⟩ := HZ.out 2 (by omega)
    obtain ⟨z3, y3⟩ := HZ.out 3 (by omega)
    obtain ⟨z4, y4⟩ := HZ.out 4 (by omega)
    obtain ⟨z5, y5⟩ := HZ.out 5 (by omega)
    obtain ⟨z6, y6⟩ := HZ.out 6 (by omega)
    obtain ⟨ad, rfl, hb, hc⟩ := (H.out.keep hd) ne.out
    obtain ⟨c0, c1, c2, c3, c4, c5, c6⟩ := hc k s HS.out
    clear e1 hb1 hc
    go_wp2_with fail
    refine bodyPost_ret (v := .tuple #[s.val, .bool true]) (by simp [results, Tryz.results8, go_sem, St7.val, z0, z1, z2, z3, z4, z5, z6]) rfl ⟨by rw [HV.out], ?_⟩
    repeat (refine Held.set _ ?_ (by simp))
    exact hd

theorem find_stop {z : Int} {L : List St7} {k : Nat} {s : St7} (hs : L[k]? = some s) (h : hasB z s = true) : findF z (L.drop k) = some s := by
  rw [drop_at hs]; unfold findF; rw [if_pos h]
theorem find_go {z : Int} {L : List St7} {k : Nat} {s : St7} (hs : L[k]? = some s) (h : hasB z s = false) : findF z (L.drop (k + 1)) = findF z (L.drop k) := by
  rw [drop_at hs]; conv => rhs; unfold findF
  rw [if_neg (by rw [h]; simp)]

set_option maxRecDepth 20000 in
set_option maxHeartbeats 1600000 in
theorem rfind_any (w : World) (A : Option Addr) (L : List St7) (c : Nat) (z : Int) (hz : z < 9223372036854775808) (hn : L.length ≤ 300) (h : RowS w A L) (hf : Fine L) :
    Calls Tryz.prog 9 #[.slice A L.length c, .int .i64 z] w fun e w' => e = .returned (findV (findF z L)) ∧ Held w w' := by
  have H := Lib.hid h
  have HF := Lib.hid hf
  obtain ⟨n, hl⟩ : ∃ n, L.length = n := ⟨_, rfl⟩
  rw [hl] at hn ⊢
  have HL := Lib.hid hl
  clear h hl hf
  go_enter Tryz.func9, Tryz.ntmps9
  go_wp2_with fail
  have HZ0 := Lib.hid (Zeros.new w 27)
  have hw0 : Held w (w.alloc (.cells #[.int .i64 0, .int .i64 0, .int .i64 0, .int .i64 0, .int .i64 0, .int .i64 0, .int .i64 0] 27)) := (Held.refl w).alloc _
  generalize w.alloc (.cells #[.int .i64 0, .int .i64 0, .int .i64 0, .int .i64 0, .int .i64 0, .int .i64 0, .int .i64 0] 27) = w0 at *
  go_loopw [6] (fun t6 wr => ∃ (k : Nat), t6 = .int .i64 k ∧ k ≤ n ∧ Held w0 wr ∧ Hid (findF z (L.drop k) = findF z L)) (fun t6 _ => n - (intOf t6).toNat)
  case atStart => exact ⟨0, rfl, Nat.zero_le _, Held.refl _, Lib.hid (by simp)⟩
  case round =>
    obtain ⟨k, rfl, hk, hw, HT⟩ := hrel
    have HZ := Lib.hid (HZ0.out.keep hw)
    have hww : Held w wr := hw0.tr hw
    obtain ⟨z0, y0⟩ := HZ.out 0 (by omega)
    obtain ⟨z1, y1⟩ := HZ.out 1 (by omega)
    obtain ⟨z2, y2⟩ := HZ.out 2 (by omega)
    obtain ⟨z3, y3⟩ := HZ.out 3 (by omega)
    obtain ⟨z4, y4⟩ := HZ.out 4 (by omega)
    obtain ⟨z5, y5⟩ := HZ.out 5 (by omega)
    obtain ⟨z6, y6⟩ := HZ.out 6 (by omega)
    by_cases hlt : k < n
    · have hlt' : decide ((k : Int) < (n : Int)) = true := by simp; omega
      obtain ⟨ad, rfl, hb, hc⟩ := (H.out.keep hww) (by intro h; have := HL.out; rw [h] at this; simp at this; omega)
      obtain ⟨s, hs⟩ : ∃ s, L[k]? = some s := ⟨_, List.getElem?_eq_getElem (by rw [HL.out]; exact hlt)⟩
      obtain ⟨c0, c1, c2, c3, c4, c5, c6⟩ := hc k s hs
      obtain ⟨f1, f2, f3, f4⟩ := HF.out k s hs
      have HS := Lib.hid hs
      clear hc hs
      by_cases g1 : s.a ≤ z
      · have g1' : decide (s.a ≤ z) = true := by simpa using g1
        have HW := Lib.hid (show IntKind.i64.wrap (z - s.a) = z - s.a from IntWalk.i64_in _ (by omega))
        have hsub : 0 ≤ z - s.a := by omega
        by_cases g2 : z - s.a < s.l
        · have g2' : decide (z - s.a < s.l) = true := by simpa using g2
          have HB := Lib.hid (show findF z (L.drop k) = some s from find_stop HS.out (by unfold hasB; simp; omega))
          have ew := HW.out
          go_wp2_with fail
          go_quiet (fail)
          clear ew
          go_wp2_with fail
          refine bodyPost_ret (v := .tuple #[s.val, .bool true]) (by simp [results, Tryz.results9, go_sem, St7.val, z0, z1, z2, z3, z4, z5, z6]) rfl ⟨by rw [← HT.out, HB.out]; rfl, ?_⟩
          repeat (refine Held.set _ ?_ (by simp))
          exact hww.drewN _
        · have g2' : decide (z - s.a < s.l) = false := by simpa using g2
          have HB := Lib.hid (show hasB z s = false by unfold hasB; simp; omega)
          have ew := HW.out
          go_wp2_with fail
          go_quiet (fail)
          clear ew
          go_wp2_with fail
          go_roundw
          case rel => exact ⟨k + 1, by go_num, by omega, hw.drewN _, Lib.hid ((find_go HS.out HB.out).trans HT.out)⟩
          case measure => simp [intOf]; omega
      · have g1' : decide (s.a ≤ z) = false := by simpa using g1
        have HB := Lib.hid (show hasB z s = false by unfold hasB; simp; omega)
        go_wp2_with fail
        go_quiet (fail)
        go_wp2_with fail
        go_roundw
        case rel => exact ⟨k + 1, by go_num, by omega, hw.drewN _, Lib.hid ((find_go HS.out HB.out).trans HT.out)⟩
        case measure => simp [intOf]; omega
    · have hlt' : decide ((k : Int) < (n : Int)) = false := by simp; omega
      have HE := Lib.hid (show findF z L = none by rw [← HT.out, List.drop_eq_nil_of_le (by rw [HL.out]; omega)]; rfl)
      go_wp2_with fail
      refine bodyPost_ret (v := .tuple #[St7.zero.val, .bool false]) (by simp [results, Tryz.results9, go_sem, St7.val, St7.zero, z0, z1, z2, z3, z4, z5, z6]) rfl ⟨by rw [HE.out]; rfl, ?_⟩
      repeat (refine Held.set _ ?_ (by simp))
      exact hww

/-- how many of a part and What, and how many bytes. -/
def sumF (p u : Int) : List St7 → Int → Int → Int × Int
  | [], n, g => (n, g)
  | s :: r, n, g => if s.p = p ∧ s.u = u then sumF p u r (n + 1) (g + s.l) else sumF p u r n g

theorem sum_go {p u : Int} {L : List St7} {k : Nat} {s : St7} (hs : L[k]? = some s) (n g : Int) : sumF p u (L.drop k) n g = if s.p = p ∧ s.u = u then sumF p u (L.drop (k + 1)) (n + 1) (g + s.l) else sumF p u (L.drop (k + 1)) n g := by
  rw [drop_at hs]; rfl

def sumV (x : Int × Int) : Value := .tuple #[.int .i64 x.1, .int .i64 x.2]

theorem ret_sum {a b : Int} {x : Int × Int} (h : (a, b) = x) : Ending.returned (.tuple #[.int .i64 a, .int .i64 b]) = .returned (sumV x) := by rw [← h]; rfl

set_option maxRecDepth 20000 in
set_option maxHeartbeats 1600000 in
theorem csum_any (w : World) (A : Option Addr) (L : List St7) (c : Nat) (p u : Int) (hn : L.length ≤ 300) (h : RowS w A L) (hf : Fine L) :
    Calls Tryz.prog 10 #[.slice A L.length c, .int .i64 p, .int .i64 u] w fun e w' => e = .returned (sumV (sumF p u L 0 0)) ∧ Held w w' := by
  have H := Lib.hid h
  have HF := Lib.hid hf
  obtain ⟨n, hl⟩ : ∃ n, L.length = n := ⟨_, rfl⟩
  rw [hl] at hn ⊢
  have HL := Lib.hid hl
  clear h hl hf
  go_enter Tryz.func10, Tryz.ntmps10
  go_wp2_with fail
  go_loopw [6, 7, 12] (fun t6 t7 t12 wr => ∃ (k : Nat) (m g : Int), t12 = .int .i64 k ∧ t6 = .int .i64 m ∧ t7 = .int .i64 g ∧ k ≤ n ∧ 0 ≤ m ∧ m ≤ k ∧ 0 ≤ g ∧ g ≤ k * 4294967295 ∧ Held w wr ∧ Hid (sumF p u (L.drop k) m g = sumF p u L 0 0)) (fun _ _ t12 _ => n - (intOf t12).toNat)
  case atStart => exact ⟨0, 0, 0, rfl, rfl, rfl, Nat.zero_le _, by omega, by omega, by omega, by omega, Held.refl _, Lib.hid (by simp)⟩
  case round =>
    obtain ⟨k, m, g, rfl, rfl, rfl, hk, m1, m2, g1, g2, hw, HT⟩ := hrel
    by_cases hlt : k < n
    · have hlt' : decide ((k : Int) < (n : Int)) = true := by simp; omega
      obtain ⟨ad, rfl, hb, hc⟩ := (H.out.keep hw) (by intro h; have := HL.out; rw [h] at this; simp at this; omega)
      obtain ⟨s, hs⟩ : ∃ s, L[k]? = some s := ⟨_, List.getElem?_eq_getElem (by rw [HL.out]; exact hlt)⟩
      obtain ⟨c0, c1, c2, c3, c4, c5, c6⟩ := hc k s hs
      obtain ⟨f1, f2, f3, f4⟩ := HF.out k s hs
      have HS := Lib.hid (sum_go (p := p) (u := u) hs m g)
      clear hc hs
      by_cases q1 : s.p = p
      · by_cases q2 : s.u = u
        · have HN := Lib.hid (show sumF p u (L.drop (k + 1)) (m + 1) (g + s.l) = sumF p u L 0 0 by rw [← HT.out, HS.out, if_pos ⟨q1, q2⟩])
          have HW := Lib.hid (show IntKind.i64.wrap (m + 1) = m + 1 from IntWalk.i64_in _ (by omega))
          have HW2 := Lib.hid (show IntKind.i64.wrap (g + s.l) = g + s.l from IntWalk.i64_in _ (by omega))
          have q1' : (s.p == p) = true := by simpa using q1
          have q2' : (s.u == u) = true := by simpa using q2
          clear q1 q2
          go_wp2_with fail
          have e1 := HW.out
          have e2 := HW2.out
          go_quiet (fail)
          clear e1 e2
          go_wp2_with fail
          go_roundw
          case rel => exact ⟨k + 1, _, _, by go_num, rfl, rfl, by omega, by omega, by omega, by omega, by omega, by first | exact (hw.alloc _).drewN _ | exact (hw.drewN _).alloc _, HN⟩
          case measure => simp [intOf]; omega
        · have HN := Lib.hid (show sumF p u (L.drop (k + 1)) m g = sumF p u L 0 0 by rw [← HT.out, HS.out, if_neg (fun h => q2 h.2)])
          have q1' : (s.p == p) = true := by simpa using q1
          have q2' : (s.u == u) = false := by simpa using q2
          clear q1 q2
          go_wp2_with fail
          go_roundw
          case rel => exact ⟨k + 1, _, _, by go_num, rfl, rfl, by omega, by omega, by omega, by omega, by omega, hw.alloc _, HN⟩
          case measure => simp [intOf]; omega
      · have HN := Lib.hid (show sumF p u (L.drop (k + 1)) m g = sumF p u L 0 0 by rw [← HT.out, HS.out, if_neg (fun h => q1 h.1)])
        have q1' : (s.p == p) = false := by simpa using q1
        clear q1
        go_wp2_with fail
        go_roundw
        case rel => exact ⟨k + 1, _, _, by go_num, rfl, rfl, by omega, by omega, by omega, by omega, by omega, hw.alloc _, HN⟩
        case measure => simp [intOf]; omega
    · have hlt' : decide ((k : Int) < (n : Int)) = false := by simp; omega
      have HE := Lib.hid (show (m, g) = sumF p u L 0 0 by rw [← HT.out, List.drop_eq_nil_of_le (by rw [HL.out]; omega)]; rfl)
      go_wp2_with fail
      go_ret2
      exact ⟨ret_sum HE.out, hw⟩

set_option maxRecDepth 20000 in
set_option maxHeartbeats 1600000 in
theorem rsum_any (w : World) (A : Option Addr) (L : List St7) (c : Nat) (p u : Int) (hn : L.length ≤ 300) (h : RowS w A L) (hf : Fine L) :
    Calls Tryz.prog 11 #[.slice A L.length c, .int .i64 p, .int .i64 u] w fun e w' => e = .returned (sumV (sumF p u L 0 0)) ∧ w = w' := by
  have H := Lib.hid h
  have HF := Lib.hid hf
  obtain ⟨n, hl⟩ : ∃ n, L.length = n := ⟨_, rfl⟩
  rw [hl] at hn ⊢
  have HL := Lib.hid hl
  clear h hl hf
  go_enter Tryz.func11, Tryz.ntmps11
  go_wp2_with fail
  go_loop [8, 9, 10] (fun t6 t7 t12 => ∃ (k : Nat) (m g : Int), t12 = .int .i64 k ∧ t6 = .int .i64 m ∧ t7 = .int .i64 g ∧ k ≤ n ∧ 0 ≤ m ∧ m ≤ k ∧ 0 ≤ g ∧ g ≤ k * 4294967295 ∧ Hid (sumF p u (L.drop k) m g = sumF p u L 0 0)) (fun _ _ t12 => n - (intOf t12).toNat)
  case atStart => exact ⟨0, 0, 0, rfl, rfl, rfl, Nat.zero_le _, by omega, by omega, by omega, by omega, Lib.hid (by simp)⟩
  case round =>
    obtain ⟨k, m, g, rfl, rfl, rfl, hk, m1, m2, g1, g2, HT⟩ := hrel
    by_cases hlt : k < n
    · have hlt' : decide ((k : Int) < (n : Int)) = true := by simp; omega
      obtain ⟨ad, rfl, hb, hc⟩ := H.out (by intro h; have := HL.out; rw [h] at this; simp at this; omega)
      obtain ⟨s, hs⟩ : ∃ s, L[k]? = some s := ⟨_, List.getElem?_eq_getElem (by rw [HL.out]; exact hlt)⟩
      obtain ⟨c0, c1, c2, c3, c4, c5, c6⟩ := hc k s hs
      obtain ⟨f1, f2, f3, f4⟩ := HF.out k s hs
      have HS := Lib.hid (sum_go (p := p) (u := u) hs m g)
      clear hc hs
      by_cases q1 : s.p = p
      · by_cases q2 : s.u = u
        · have HN := Lib.hid (show sumF p u (L.drop (k + 1)) (m + 1) (g + s.l) = sumF p u L 0 0 by rw [← HT.out, HS.out, if_pos ⟨q1, q2⟩])
          have q1' : (s.p == p) = true := by simpa using q1
          have q2' : (s.u == u) = true := by simpa using q2
          clear q1 q2
          go_wp2_with fail
          go_round
          case rel => exact ⟨k + 1, _, _, by go_num, rfl, rfl, by omega, by omega, by omega, by omega, by omega, HN⟩
          case measure => simp [intOf]; omega
        · have HN := Lib.hid (show sumF p u (L.drop (k + 1)) m g = sumF p u L 0 0 by rw [← HT.out, HS.out, if_neg (fun h => q2 h.2)])
          have q1' : (s.p == p) = true := by simpa using q1
          have q2' : (s.u == u) = false := by simpa using q2
          clear q1 q2
          go_wp2_with fail
          go_round
          case rel => exact ⟨k + 1, _, _, by go_num, rfl, rfl, by omega, by omega, by omega, by omega, by omega, HN⟩
          case measure => simp [intOf]; omega
      · have HN := Lib.hid (show sumF p u (L.drop (k + 1)) m g = sumF p u L 0 0 by rw [← HT.out, HS.out, if_neg (fun h => q1 h.1)])
        have q1' : (s.p == p) = false := by simpa using q1
        clear q1
        go_wp2_with fail
        go_round
        case rel => exact ⟨k + 1, _, _, by go_num, rfl, rfl, by omega, by omega, by omega, by omega, by omega, HN⟩
        case measure => simp [intOf]; omega
    · have hlt' : decide ((k : Int) < (n : Int)) = false := by simp; omega
      have HE := Lib.hid (show (m, g) = sumF p u L 0 0 by rw [← HT.out, List.drop_eq_nil_of_le (by rw [HL.out]; omega)]; rfl)
      go_wp2_with fail
      go_ret2
      exact ⟨ret_sum HE.out, rfl⟩

end Go.Proofs.YtaehfpigjdndkaaGreatDoor

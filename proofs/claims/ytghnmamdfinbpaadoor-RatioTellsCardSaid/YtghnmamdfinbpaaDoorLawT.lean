/-
  The walk of tintypelaw02.RatioTells: it returns true, at every ratio and every text.
-/
import Derived.Test.YtghnmamdfinbpaaDoorRefParse
namespace Go.Proofs.YtghnmamdfinbpaaDoor
open Go.RowKit Go.Sort

/-- both texts, of any ratio. -/
theorem text_both (a b : Int) : ∃ s : ByteArray, Hid (∀ w, Env w → Calls Tryd.prog 19 #[.agg #[.int .i64 a, .int .i64 b]] w fun e w' => e = .returned (.string s) ∧ Held w w') ∧
    Hid (∀ w, Calls Tryd.prog 20 #[.agg #[.int .i64 a, .int .i64 b]] w fun e w' => e = .returned (.string s) ∧ Held w w') := by
  cases h : mayR a b
  · exact ⟨_, fun w _ => text_no a b w h, fun w => rtext_no a b w h⟩
  · exact ⟨_, fun w hE => text_yes a b w h hE, fun w => rtext_yes a b w h⟩

theorem pairV_parts (o : Option (Int × Int)) : ∃ (x y : Int) (k : Bool), pairV o = .tuple #[.agg #[.int .i64 x, .int .i64 y], .bool k] := by
  cases o with
  | none => exact ⟨0, 0, false, rfl⟩
  | some v => exact ⟨v.1, v.2, true, rfl⟩

theorem parse_both (s : ByteArray) (hs : s.size ≤ 40) : ∃ (x y : Int) (k : Bool), Hid (∀ w, Env w → Calls Tryd.prog 13 #[.string s] w fun e w' => e = .returned (.tuple #[.agg #[.int .i64 x, .int .i64 y], .bool k]) ∧ Held w w') ∧
    Hid (∀ w, Calls Tryd.prog 14 #[.string s] w fun e w' => e = .returned (.tuple #[.agg #[.int .i64 x, .int .i64 y], .bool k]) ∧ Held w w') := by
  obtain ⟨x, y, k, h⟩ := pairV_parts (parseO s.data.toList)
  refine ⟨x, y, k, fun w hE => ?_, fun w => ?_⟩
  · have := parse_any s (by omega) w hE
    rw [h] at this
    exact this
  · have := rparse_any s hs w
    rw [parse_same, h] at this
    exact this

set_option maxRecDepth 20000 in
set_option maxHeartbeats 2000000 in
theorem tells_any (a b : Int) (s : ByteArray) (w : World) (hE : Env w) :
    Calls Tryd.prog 4 #[.agg #[.int .i64 a, .int .i64 b], .string s] w fun e w' => e = .returned (.bool true) ∧ Held w w' := by
  have HE := hid hE
  clear hE
  by_cases hs : s.size ≤ 40
  · have hs' : decide (40 < (s.size : Int)) = false := by simp; omega
    obtain ⟨x, y, k, P1, P2⟩ := parse_both s hs
    obtain ⟨tx, T1, T2⟩ := text_both a b
    obtain ⟨p, hp⟩ : ∃ p, (u32B a && u32B b) = p := ⟨_, rfl⟩
    obtain ⟨q, hq⟩ : ∃ q, (s32B a && s32B b) = q := ⟨_, rfl⟩
    have HP := hid hp
    have HQ := hid hq
    clear hp hq
    go_enter Tryd.func4, Tryd.ntmps4
    go_wp2_with fail
    refine (P1.out _ (HE.out.held ((Held.refl w).alloc _))).mono ?_
    rintro e w1 ⟨rfl, hb1⟩
    have c0 := Held.cell (b := w.heap.size) (o := 0) (v := .int .i64 a) (by simp) hb1
    have c1 := Held.cell (b := w.heap.size) (o := 1) (v := .int .i64 b) (by simp) hb1
    have hd : Held w w1 := ((Held.refl w).alloc _).tr hb1
    clear hb1
    go_wp2_with fail
    refine (P2.out _).mono ?_
    rintro e w2 ⟨rfl, hb2⟩
    have d0 := Held.cell (b := w1.heap.size) (o := 0) (v := .int .i64 x) (by go_simp) hb2
    have d1 := Held.cell (b := w1.heap.size) (o := 1) (v := .int .i64 y) (by go_simp) hb2
    have HW : Held w1 w2 := ((Held.refl w1).alloc _).tr hb2
    replace c0 := Held.cell c0 HW
    replace c1 := Held.cell c1 HW
    replace hd := hd.tr HW
    clear hb2 HW P1 P2
    go_upto_region 5 with fail
    have HW : Held w2 (w2.alloc (.cells #[.int .i64 x, .int .i64 y] 23)) := (Held.refl _).alloc _
    replace c0 := Held.cell c0 HW
    replace c1 := Held.cell c1 HW
    replace d0 := Held.cell d0 HW
    replace d1 := Held.cell d1 HW
    have e0 : (w2.alloc (.cells #[.int .i64 x, .int .i64 y] 23)).cell? ⟨w2.heap.size, 0, none⟩ = some (.int .i64 x) := by go_simp
    have e1 : (w2.alloc (.cells #[.int .i64 x, .int .i64 y] 23)).cell? ⟨w2.heap.size, 1, none⟩ = some (.int .i64 y) := by go_simp
    replace hd := hd.tr HW
    clear HW
    generalize w2.heap.size = bo at *
    generalize w2.alloc (.cells #[.int .i64 x, .int .i64 y] 23) = w3 at *
    have HE3 := hid (HE.out.held hd)
    have k0 := cell_regrown c0
    have k1 := cell_regrown c1
    have k2 := cell_regrown d0
    have k3 := cell_regrown d1
    have k4 := cell_regrown e0
    have k5 := cell_regrown e1
    have Q0 := hid (qcall (w := w3) fun W _ => plainR_any a b p HP.out W)
    have Q1 := hid (qcall (w := w3) fun W _ => rplain_any a b p HP.out W)
    have Q2 := hid (qcall (w := w3) fun W _ => signedR_any a b q HQ.out W)
    have Q3 := hid (qcall (w := w3) fun W _ => rsigned_any a b q HQ.out W)
    have Q4 := hid (qcall (w := w3) fun W hW => T1.out W (HE3.out.held hW))
    have Q5 := hid (qcall (w := w3) fun W _ => T2.out W)
    have Q6 := hid (qcall (w := w3) fun W hW => awake_any W (HE3.out.held hW))
    clear c0 c1 d0 d1 e0 e1
    refine wp_region_quiet_below (by kernel_rfl) (by kernel_rfl) ?_
    repeat (quiet_step (first | with_reducible exact Q0.out _ _ | with_reducible exact Q1.out _ _ | with_reducible exact Q2.out _ _ | with_reducible exact Q3.out _ _ | with_reducible exact Q4.out _ _ | with_reducible exact Q5.out _ _ | with_reducible exact Q6.out _ _))
    refine wpQuiet_nil ?_
    intro _ hw'
    obtain ⟨⟨dq, osq⟩, hw''⟩ := hw'
    subst hw''
    go_wp2_with fail
    go_ret
    exact ⟨rfl, hd.tr (held_regrown _ _ _)⟩
  · have hs' : decide (40 < (s.size : Int)) = true := by simp; omega
    go_enter Tryd.func4, Tryd.ntmps4
    go_wp2_with fail
    refine (awake_any _ (HE.out.held ((Held.refl w).alloc _))).mono ?_
    rintro e w1 ⟨rfl, hb1⟩
    go_wp2_with fail
    go_ret
    exact ⟨rfl, ((Held.refl w).alloc _).tr hb1⟩

end Go.Proofs.YtghnmamdfinbpaaDoor

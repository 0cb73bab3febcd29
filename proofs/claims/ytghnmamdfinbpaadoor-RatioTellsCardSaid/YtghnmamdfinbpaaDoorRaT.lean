/-
  The walks of ratio.Text; what of the package-level variables the calls of strconv read.
-/
import Derived.Test.YtghnmamdfinbpaaDoorNearB
import Derived.Lib.QuietBelow
import Derived.Lib.SmallJoins
import Derived.Lib.ItoaLen
import Derived.Lib.AppendIntMem
import Derived.Lib.AtoiAllCases
namespace Go.Proofs.YtghnmamdfinbpaaDoor
open Go.RowKit Go.Sort

/-- what of the package-level variables is read. -/
structure Env (w : World) : Prop where
  pow : Lib.TabIs Tryd.prog w "internal/strconv.uint64pow10" .u64 Lib.pow10Tab
  syn : ∃ te pe, w.cell? ⟨0, 0, none⟩ = some (.iface te pe)
  rng : ∃ te pe, w.cell? ⟨1, 0, none⟩ = some (.iface te pe)
  mx : ∃ m, w.cell? ⟨2, 0, none⟩ = some (.int .i64 m)

theorem gPow : Tryd.prog.globalNamed "internal/strconv.uint64pow10" = some 3 := by kernel_rfl

theorem Env.held {w w' : World} (h : Env w) (hh : Held w w') : Env w' where
  pow := Joins.tab_stays gPow h.pow (show Below w.heap.size w w' from hh) (Nat.le_refl _)
  syn := h.syn.elim fun te h => h.elim fun pe h => ⟨te, pe, Held.cell h hh⟩
  rng := h.rng.elim fun te h => h.elim fun pe h => ⟨te, pe, Held.cell h hh⟩
  mx := h.mx.elim fun m h => ⟨m, Held.cell h hh⟩

theorem itoa_any (n : Int) (h0 : -9223372036854775808 ≤ n) (h1 : n ≤ 9223372036854775807) (w : World) (hE : Env w) :
    Calls Tryd.prog 35 #[.int .i64 n] w fun e w' => e = .returned (.string ⟨(Lib.itoa n).toArray⟩) ∧ Held w w' :=
  (Tryd.strconv_Itoa n h0 h1 w hE.pow).mono fun _ _ ⟨h, k, os, hw⟩ => ⟨h, hw ▸ Lib.below_grow _ _ (Nat.le_refl _) k os⟩

/-- a callee that makes memory alone, met in a region that is walked once. -/
theorem qcall {P : Program} {f : FuncId} {args : Array Value} {v : Value} {w : World}
    (h : ∀ W, Held w W → Calls P f args W fun e w' => e = .returned v ∧ Held W w') (d : Nat) (os : Array Obj) :
    Calls P f args (grow (redrawn w d) os) fun e w'' => e = .returned v ∧ ∃ p : Regrown, w'' = grow (redrawn w p.d) p.os :=
  Calls.regrown_of (h _ (below_regrown w d os))

theorem held_regrown (w : World) (d : Nat) (os : Array Obj) : Held w (grow (redrawn w d) os) := below_regrown w d os

def textL (n d : Int) : List UInt8 := Lib.itoa n ++ 47 :: Lib.itoa d

theorem str_app (a b : List UInt8) : (⟨a.toArray⟩ : ByteArray) ++ ⟨b.toArray⟩ = ⟨(a ++ b).toArray⟩ := by
  apply ByteArray.ext
  simp

set_option maxRecDepth 20000 in
set_option maxHeartbeats 800000 in
theorem text_yes (a b : Int) (w : World) (h1 : mayR a b = true) (hE : Env w) :
    Calls Tryd.prog 19 #[.agg #[.int .i64 a, .int .i64 b]] w fun e w' => e = .returned (.string ⟨(textL a b).toArray⟩) ∧ Held w w' := by
  have B1 := mayR_bounds h1
  have M1 := hid h1
  have HE := hid hE
  clear h1 hE
  go_enter Tryd.func19, Tryd.ntmps19
  go_wp2_with fail
  refine (pmay_any a b true M1.out _).mono ?_
  rintro e w1 ⟨rfl, hb1⟩
  have c0 := Held.cell (b := w.heap.size) (o := 0) (v := .int .i64 a) (by simp) hb1
  have c1 := Held.cell (b := w.heap.size) (o := 1) (v := .int .i64 b) (by simp) hb1
  have hd : Held w w1 := ((Held.refl w).alloc _).tr hb1
  have HE1 := hid (HE.out.held hd)
  clear hb1
  go_upto_region 3 with fail
  have k0 := cell_regrown c0
  have k1 := cell_regrown c1
  have q0 := qcall (w := w1) fun W hW => itoa_any a (by omega) (by omega) W (HE1.out.held hW)
  have q1 := qcall (w := w1) fun W hW => itoa_any b (by omega) (by omega) W (HE1.out.held hW)
  have s0 : (⟨(Lib.itoa a).toArray⟩ : ByteArray).size ≤ 21 := by have := Lib.itoa_length_le a (by omega) (by omega); simpa [ByteArray.size] using this
  have s1 : (⟨(Lib.itoa b).toArray⟩ : ByteArray).size ≤ 21 := by have := Lib.itoa_length_le b (by omega) (by omega); simpa [ByteArray.size] using this
  have T0 : (⟨(Lib.itoa a).toArray⟩ : ByteArray) ++ ⟨#[47]⟩ ++ ⟨(Lib.itoa b).toArray⟩ = ⟨(textL a b).toArray⟩ := by
    rw [show (⟨#[47]⟩ : ByteArray) = ⟨[47].toArray⟩ from rfl, str_app, str_app]; simp [textL]
  generalize (⟨(Lib.itoa a).toArray⟩ : ByteArray) = sa at *
  generalize (⟨(Lib.itoa b).toArray⟩ : ByteArray) = sb at *
  have TT := hid T0
  have m1 : ¬ 9223372036854775807 < sa.size + 1 := by omega
  have m2 : ¬ 9223372036854775807 < sa.size + 1 + sb.size := by omega
  clear T0
  have Q0 := hid q0
  have Q1 := hid q1
  clear q0 q1
  refine wp_region_quiet_below (by kernel_rfl) (by kernel_rfl) ?_
  repeat (quiet_step (first | exact Q0.out _ _ | exact Q1.out _ _))
  refine wpQuiet_nil ?_
  intro _ hw'
  obtain ⟨⟨dq, osq⟩, hw''⟩ := hw'
  subst hw''
  go_wp2_with fail
  go_ret
  exact ⟨by rw [← TT.out]; rfl, hd.tr (held_regrown _ _ _)⟩

theorem text_no (a b : Int) (w : World) (h1 : mayR a b = false) :
    Calls Tryd.prog 19 #[.agg #[.int .i64 a, .int .i64 b]] w fun e w' => e = .returned (.string ⟨#[]⟩) ∧ Held w w' := by
  have M1 := hid h1
  clear h1
  go_enter Tryd.func19, Tryd.ntmps19
  go_wp2_with fail
  refine (pmay_any a b false M1.out _).mono ?_
  rintro e w1 ⟨rfl, hb1⟩
  go_wp2_with fail
  go_ret
  exact ⟨rfl, ((Held.refl w).alloc _).tr hb1⟩

theorem atoi_ok (s : ByteArray) (hs : s.size ≤ 1000) (v : Int) (h : Lib.atoiAll s.data.toList = .ok v) (w : World) :
    Calls Tryd.prog 34 #[.string s] w fun e w' => e = .returned (.tuple #[.int .i64 v, .nilIface]) ∧ Held w w' := by
  refine (Tryd.strconv_Atoi_ok s (by omega) v h w).mono fun e w' ⟨he, hw⟩ => ⟨he, ?_⟩
  rcases hw with rfl | ⟨t, rfl⟩
  · exact Held.refl _
  · exact Lib.bytesWorld_below _ _ _

theorem atoi_no (s : ByteArray) (hs : s.size ≤ 1000) (h : ∀ v, Lib.atoiAll s.data.toList ≠ .ok v) (w : World) (hE : Env w) :
    Calls Tryd.prog 34 #[.string s] w fun e w' => ∃ (x : Int) (N : Nat), e = .returned (.tuple #[.int .i64 x, .iface 70 (.pointer (some ⟨N, 0, none⟩))]) ∧ -9223372036854775808 ≤ x ∧ x ≤ 9223372036854775807 ∧ Held w w' := by
  rcases hc : Lib.atoiAll s.data.toList with v | _ | _
  · exact absurd hc (h v)
  · obtain ⟨te, pe, hv⟩ := hE.syn
    exact (Any.strconv_Atoi_syntax Tryd.laysC172 s (by omega) hc (.iface te pe) w hv (.inr ⟨te, pe, rfl⟩)).mono fun e w' ⟨N, he, _, _, hb⟩ => ⟨0, N, he, by omega, by omega, hb⟩
  · obtain ⟨te, pe, hv⟩ := hE.rng
    refine (Any.strconv_Atoi_range Tryd.laysC172 s (by omega) hc (.iface te pe) w hv (.inr ⟨te, pe, rfl⟩)).mono fun e w' ⟨N, he, _, _, hb⟩ => ⟨Lib.atoiSat s.data.toList, N, he, ?_, ?_, hb⟩
    · unfold Lib.atoiSat; split <;> omega
    · unfold Lib.atoiSat; split <;> omega

/-- is it the text of that number? -/
def numIs (l : List UInt8) (v : Int) : Bool := decide (Lib.atoiAll l = .ok v) && (Lib.itoa v == l)

set_option maxRecDepth 20000 in
set_option maxHeartbeats 800000 in
/-- the number's reader, of a text that is one. -/
theorem read_ok (s : ByteArray) (hs : s.size ≤ 1000) (v : Int) (h : Lib.atoiAll s.data.toList = .ok v) (a : Nat) (x y : Bool) (hy : (Lib.itoa v == s.toList) = y) (w : World) (hE : Env w) (hc : w.cell? ⟨a, 0, none⟩ = some (.bool x)) (hf : w.frozen? ⟨a, 0, none⟩ = false) :
    Calls Tryd.prog 33 #[.string s, .pointer (some ⟨a, 0, none⟩)] w fun e w' => e = .returned (.int .i64 v) ∧ ∃ w2, Held w w2 ∧ w' = w2.setCell ⟨a, 0, none⟩ (.bool (x && y)) := by
  have bd := Lib.atoiAll_bounds h
  have HE := hid hE
  have A := hid (atoi_ok s hs v h)
  clear hE h
  go_enter Tryd.func33, Tryd.ntmps33
  go_wp2_with fail
  refine (A.out _).mono ?_
  rintro e w1 ⟨rfl, hb1⟩
  replace hf := Held.frozen hc hf hb1
  replace hc := Held.cell hc hb1
  have HE1 := hid (HE.out.held hb1)
  cases x
  · go_wp2_with fail
    go_ret
    exact ⟨rfl, w1, hb1, rfl⟩
  · go_wp2_with fail
    refine (itoa_any v bd.1 bd.2 _ HE1.out).mono ?_
    rintro e w2 ⟨rfl, hb2⟩
    replace hf := Held.frozen hc hf hb2
    replace hc := Held.cell hc hb2
    go_wp2_with fail
    go_ret
    exact ⟨rfl, w2, hb1.tr hb2, by simp⟩

set_option maxRecDepth 20000 in
set_option maxHeartbeats 800000 in
/-- the number's reader, of a text that is none. -/
theorem read_no (s : ByteArray) (hs : s.size ≤ 1000) (h : ∀ v, Lib.atoiAll s.data.toList ≠ .ok v) (a : Nat) (x : Bool) (w : World) (hE : Env w) (hc : w.cell? ⟨a, 0, none⟩ = some (.bool x)) (hf : w.frozen? ⟨a, 0, none⟩ = false) :
    Calls Tryd.prog 33 #[.string s, .pointer (some ⟨a, 0, none⟩)] w fun e w' => ∃ v : Int, e = .returned (.int .i64 v) ∧ ∃ w2, Held w w2 ∧ w' = w2.setCell ⟨a, 0, none⟩ (.bool false) := by
  have A := hid (atoi_no s hs h w hE)
  clear hE h
  go_enter Tryd.func33, Tryd.ntmps33
  go_wp2_with fail
  refine A.out.mono ?_
  rintro e w1 ⟨v, N, rfl, v1, v2, hb1⟩
  replace hf := Held.frozen hc hf hb1
  replace hc := Held.cell hc hb1
  cases x
  all_goals
    go_wp2_with fail
    go_ret
    exact ⟨v, rfl, w1, hb1, rfl⟩
end Go.Proofs.YtghnmamdfinbpaaDoor

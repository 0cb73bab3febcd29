/-
  The walk of ratio.Parse.
-/
import Derived.Test.YtghnmamdfinbpaaDoorRaT
namespace Go.Proofs.YtghnmamdfinbpaaDoor
open Go.RowKit Go.Sort

/-- the number whose text that is. -/
def numOf (l : List UInt8) : Option Int :=
  match Lib.atoiAll l with
  | .ok v => if Lib.itoa v == l then some v else none
  | _ => none

/-- the ratio whose text that is. -/
def parseO (l : List UInt8) : Option (Int × Int) :=
  if (Lib.cut l [47]).2.2 then
    match numOf (Lib.cut l [47]).1, numOf (Lib.cut l [47]).2.1 with
    | some a, some b => if mayR a b then some (a, b) else none
    | _, _ => none
  else none

theorem numOf_ok {l : List UInt8} {v : Int} (h : Lib.atoiAll l = .ok v) : numOf l = if Lib.itoa v == l then some v else none := by
  unfold numOf; rw [h]
theorem numOf_no {l : List UInt8} (h : ∀ v, Lib.atoiAll l ≠ .ok v) : numOf l = none := by
  unfold numOf
  split
  · exact absurd ‹_› (h _)
  · rfl

theorem toList_data (s : ByteArray) : s.toList = s.data.toList := ByteArray.toList_eq s

/-- what the reader answers, of any text. -/
def ReadPost (w : World) (l : List UInt8) (a : Nat) (x : Bool) (e : Ending) (w' : World) : Prop :=
  ∃ v : Int, e = .returned (.int .i64 v) ∧ (∀ u, numOf l = some u → v = u) ∧ ∃ w2, Held w w2 ∧ w' = w2.setCell ⟨a, 0, none⟩ (.bool (x && (numOf l).isSome))

theorem read_any (l : List UInt8) (hs : l.length ≤ 1000) (a : Nat) (x : Bool) (w : World) (hE : Env w) (hc : w.cell? ⟨a, 0, none⟩ = some (.bool x)) (hf : w.frozen? ⟨a, 0, none⟩ = false) :
    Calls Tryd.prog 33 #[.string ⟨l.toArray⟩, .pointer (some ⟨a, 0, none⟩)] w (ReadPost w l a x) := by
  have hsz : (⟨l.toArray⟩ : ByteArray).size ≤ 1000 := by simpa [ByteArray.size] using hs
  by_cases h : ∃ v, Lib.atoiAll l = .ok v
  · obtain ⟨v, h⟩ := h
    refine (read_ok ⟨l.toArray⟩ hsz v (by simpa using h) a x (Lib.itoa v == l) (by rw [toList_data]) w hE hc hf).mono fun e w' ⟨he, w2, h2, hw⟩ => ⟨v, he, ?_, w2, h2, ?_⟩
    · intro u hu
      rw [numOf_ok h] at hu
      split at hu
      · exact Option.some.inj hu
      · cases hu
    · rw [hw, numOf_ok h]
      by_cases hb : (Lib.itoa v == l) = true <;> simp [hb]
  · have h' : ∀ v, Lib.atoiAll l ≠ .ok v := fun v hv => h ⟨v, hv⟩
    refine (read_no ⟨l.toArray⟩ hsz (by simpa using h') a x w hE hc hf).mono fun e w' ⟨v, he, w2, h2, hw⟩ => ⟨v, he, ?_, w2, h2, ?_⟩
    · intro u hu; rw [numOf_no h'] at hu; cases hu
    · rw [hw, numOf_no h']; simp

theorem cut_any (s : ByteArray) (w : World) (hs : s.size ≤ 1000) (hE : Env w) :
    Calls Tryd.prog 36 #[.string s, .string ⟨#[47]⟩] w fun e w' => e = .returned (.tuple #[.string ⟨(Lib.cut s.data.toList [47]).1.toArray⟩, .string ⟨(Lib.cut s.data.toList [47]).2.1.toArray⟩, .bool (Lib.cut s.data.toList [47]).2.2]) ∧ Held w w' := by
  obtain ⟨m, hm⟩ := hE.mx
  refine (Tryd.strings_Cut s ⟨#[47]⟩ m w (by omega) hm).mono fun e w' ⟨he, n, hw⟩ => ⟨he, ?_⟩
  rw [hw]; exact Held.drewN n (Held.refl _)

theorem cut_le (l : List UInt8) : (Lib.cut l [47]).1.length ≤ l.length ∧ (Lib.cut l [47]).2.1.length ≤ l.length := by
  unfold Lib.cut
  split
  · simp
    omega
  · simp

def pairV : Option (Int × Int) → Value
  | some (a, b) => .tuple #[.agg #[.int .i64 a, .int .i64 b], .bool true]
  | none => .tuple #[.agg #[.int .i64 0, .int .i64 0], .bool false]

set_option maxRecDepth 20000 in
set_option maxHeartbeats 800000 in
theorem parse_any (s : ByteArray) (hs : s.size ≤ 1000) (w : World) (hE : Env w) :
    Calls Tryd.prog 13 #[.string s] w fun e w' => e = .returned (pairV (parseO s.data.toList)) ∧ Held w w' := by
  have hsl : s.data.toList.length ≤ 1000 := hs
  have hcl := cut_le s.data.toList
  have CU := hid fun W (hW : Held w W) => cut_any s W hs (hE.held hW)
  obtain ⟨r, hr⟩ : ∃ r, parseO s.data.toList = r := ⟨_, rfl⟩
  rw [hr]
  have HR := hid hr
  clear hr
  unfold parseO at HR
  generalize Lib.cut s.data.toList [47] = c at *
  obtain ⟨l1, l2, fd⟩ := c
  simp only at hcl HR CU
  have HE := hid hE
  clear hE
  have hmf : ∀ (fn : Fn) (first cap : Array Value) (w : World), (Instr.makeFunc fn first cap).run Tryd.prog w = .ok (.func fn first cap) w := fun _ _ _ _ => rfl
  go_enter Tryd.func13, Tryd.ntmps13
  go_wp2_with fail
  refine (CU.out _ (((Held.refl w).alloc _).alloc _)).mono ?_
  rintro e w1 ⟨rfl, hb1⟩
  have c0 := Held.cell (b := w.heap.size) (o := 0) (v := .int .i64 0) (by simp) hb1
  have c1 := Held.cell (b := w.heap.size) (o := 1) (v := .int .i64 0) (by simp) hb1
  have c2 := Held.cell (b := w.heap.size + 1) (o := 0) (v := .bool true) (by simp) hb1
  have f0 := Held.frozen (b := w.heap.size) (o := 0) (v := .int .i64 0) (x := false) (by simp) (by simp) hb1
  have f1 := Held.frozen (b := w.heap.size) (o := 1) (v := .int .i64 0) (x := false) (by simp) (by simp) hb1
  have f2 := Held.frozen (b := w.heap.size + 1) (o := 0) (v := .bool true) (x := false) (by simp) (by simp) hb1
  have hd : Held w w1 := (((Held.refl w).alloc _).alloc _).tr hb1
  clear hb1 CU
  go_wp2_with fail
  have HE1 := hid (HE.out.held hd)
  refine (read_any l1 (by omega) (w.heap.size + 1) true w1 HE1.out c2 f2).mono ?_
  rintro e w2 ⟨v1, rfl, hv1, w2, hb2, rfl⟩
  have V1 := hid hv1
  clear hv1
  replace f0 := Held.frozen c0 f0 hb2
  replace f1 := Held.frozen c1 f1 hb2
  replace f2 := Held.frozen c2 f2 hb2
  replace c0 := Held.cell c0 hb2
  replace c1 := Held.cell c1 hb2
  replace c2 := Held.cell c2 hb2
  replace hd := (hd.tr hb2).set (a := ⟨w.heap.size + 1, 0, none⟩) (.bool (true && (numOf l1).isSome)) (by simp)
  have HE2 := hid (HE.out.held hd)
  obtain ⟨x1, hx1⟩ : ∃ x, (true && (numOf l1).isSome) = x := ⟨_, rfl⟩
  rw [hx1] at hd ⊢ HE2
  have X1 := hid hx1
  clear hx1 hb2 HE1
  have e0 : (w2.setCell ⟨w.heap.size + 1, 0, none⟩ (.bool x1)).cell? ⟨w.heap.size, 0, none⟩ = some (.int .i64 0) := by go_simp
  have e1 : (w2.setCell ⟨w.heap.size + 1, 0, none⟩ (.bool x1)).cell? ⟨w.heap.size, 1, none⟩ = some (.int .i64 0) := by go_simp
  have e2 : (w2.setCell ⟨w.heap.size + 1, 0, none⟩ (.bool x1)).cell? ⟨w.heap.size + 1, 0, none⟩ = some (.bool x1) := by go_simp
  have g0 : (w2.setCell ⟨w.heap.size + 1, 0, none⟩ (.bool x1)).frozen? ⟨w.heap.size, 0, none⟩ = false := by go_simp
  have g1 : (w2.setCell ⟨w.heap.size + 1, 0, none⟩ (.bool x1)).frozen? ⟨w.heap.size, 1, none⟩ = false := by go_simp
  have g2 : (w2.setCell ⟨w.heap.size + 1, 0, none⟩ (.bool x1)).frozen? ⟨w.heap.size + 1, 0, none⟩ = false := by go_simp
  generalize w2.setCell ⟨w.heap.size + 1, 0, none⟩ (.bool x1) = w3 at *
  clear c0 c1 c2 f0 f1 f2
  go_wp2_with fail
  refine (read_any l2 (by omega) (w.heap.size + 1) x1 w3 HE2.out e2 g2).mono ?_
  rintro e w4 ⟨v2, rfl, hv2, w4, hb4, rfl⟩
  have V2 := hid hv2
  clear hv2
  replace g0 := Held.frozen e0 g0 hb4
  replace g1 := Held.frozen e1 g1 hb4
  replace g2 := Held.frozen e2 g2 hb4
  replace e0 := Held.cell e0 hb4
  replace e1 := Held.cell e1 hb4
  replace e2 := Held.cell e2 hb4
  replace hd := (hd.tr hb4).set (a := ⟨w.heap.size + 1, 0, none⟩) (.bool (x1 && (numOf l2).isSome)) (by simp)
  obtain ⟨x2, hx2⟩ : ∃ x, (x1 && (numOf l2).isSome) = x := ⟨_, rfl⟩
  rw [hx2] at hd ⊢
  have X2 := hid hx2
  clear hx2 hb4 HE2
  have c0 : (w4.setCell ⟨w.heap.size + 1, 0, none⟩ (.bool x2)).cell? ⟨w.heap.size, 0, none⟩ = some (.int .i64 0) := by go_simp
  have c1 : (w4.setCell ⟨w.heap.size + 1, 0, none⟩ (.bool x2)).cell? ⟨w.heap.size, 1, none⟩ = some (.int .i64 0) := by go_simp
  have c2 : (w4.setCell ⟨w.heap.size + 1, 0, none⟩ (.bool x2)).cell? ⟨w.heap.size + 1, 0, none⟩ = some (.bool x2) := by go_simp
  have f0 : (w4.setCell ⟨w.heap.size + 1, 0, none⟩ (.bool x2)).frozen? ⟨w.heap.size, 0, none⟩ = false := by go_simp
  have f1 : (w4.setCell ⟨w.heap.size + 1, 0, none⟩ (.bool x2)).frozen? ⟨w.heap.size, 1, none⟩ = false := by go_simp
  generalize w4.setCell ⟨w.heap.size + 1, 0, none⟩ (.bool x2) = w5 at *
  clear e0 e1 e2 g0 g1 g2
  have hz : w.heap.size < w5.heap.size := World.block_lt_of_cell? _ _ c0
  have hz1 : w.heap.size + 1 < w5.heap.size := World.block_lt_of_cell? _ _ c2
  have key : fd = false ∨ x2 = false ∨ (fd = true ∧ x2 = true ∧ r = if mayR v1 v2 then some (v1, v2) else none) := by
    by_cases h1 : fd = true
    · by_cases h2 : x2 = true
      · right; right
        refine ⟨h1, h2, ?_⟩
        have a1 := X1.out
        have a2 := X2.out
        rw [h2] at a2
        simp only [Bool.true_and, Bool.and_eq_true] at a1 a2
        rw [← a1] at a2
        obtain ⟨u1, hu1⟩ := Option.isSome_iff_exists.1 a2.1
        obtain ⟨u2, hu2⟩ := Option.isSome_iff_exists.1 a2.2
        have b1 := V1.out u1 hu1
        have b2 := V2.out u2 hu2
        have hh := HR.out
        rw [if_pos h1, hu1, hu2] at hh
        rw [← hh, b1, b2]
      · right; left; simpa using h2
    · left; simpa using h1
  have key2 : fd = false ∨ x2 = false → r = none := by
    intro hk
    have hh := HR.out
    rw [← hh]
    rcases hk with h | h
    · rw [h]; rfl
    · have a1 := X1.out
      have a2 := X2.out
      rw [h, ← a1] at a2
      simp only [Bool.true_and] at a2
      cases hn1 : numOf l1 with
      | none => simp
      | some u1 =>
        cases hn2 : numOf l2 with
        | none => simp
        | some u2 => rw [hn1, hn2] at a2; simp at a2
  have K2 := hid key2
  clear key2 V1 V2 X1 X2 HR HE
  rcases key with rfl | rfl | ⟨rfl, rfl, hrr⟩
  · have KN := hid (K2.out (.inl rfl))
    clear K2
    go_wp2_with fail
    exact bodyPost_ret (v := .tuple #[.agg #[.int .i64 0, .int .i64 0], .bool false]) (by simp [results, Tryd.results13, go_sem, c0, c1, hz]) rfl ⟨by rw [KN.out]; rfl, ((hd.set _ (by simp)).set _ (by simp)).alloc _⟩
  · have KN := hid (K2.out (.inr rfl))
    clear K2
    cases fd
    all_goals
      go_wp2_with fail
      exact bodyPost_ret (v := .tuple #[.agg #[.int .i64 0, .int .i64 0], .bool false]) (by simp [results, Tryd.results13, go_sem, c0, c1, hz]) rfl ⟨by rw [KN.out]; rfl, ((hd.set _ (by simp)).set _ (by simp)).alloc _⟩
  · clear K2
    have RR := hid hrr
    clear hrr
    obtain ⟨z, hz0⟩ : ∃ z, mayR v1 v2 = z := ⟨_, rfl⟩
    have M := hid hz0
    clear hz0
    go_wp2_with fail
    refine (pmay_any v1 v2 z M.out _).mono ?_
    rintro e w6 ⟨rfl, hb6⟩
    have HW : Held w5 w6 := ((Held.refl w5).alloc _).tr hb6
    have e8 := Held.cell (b := w5.heap.size) (o := 0) (v := .int .i64 v1) (by go_simp) hb6
    have e9 := Held.cell (b := w5.heap.size) (o := 1) (v := .int .i64 v2) (by go_simp) hb6
    replace f0 := Held.frozen c0 f0 HW
    replace f1 := Held.frozen c1 f1 HW
    replace c0 := Held.cell c0 HW
    replace c1 := Held.cell c1 HW
    replace hd := hd.tr HW
    clear HW hb6 c2
    cases z
    · go_wp2_with fail
      exact bodyPost_ret (v := .tuple #[.agg #[.int .i64 0, .int .i64 0], .bool false]) (by simp [results, Tryd.results13, go_sem, c0, c1]) rfl ⟨by rw [RR.out, M.out]; rfl, (hd.set _ (by simp)).set _ (by simp)⟩
    · go_wp2_with fail
      exact bodyPost_ret (v := .tuple #[.agg #[.int .i64 v1, .int .i64 v2], .bool true]) (by simp [results, Tryd.results13, go_sem, c0, c1]) rfl ⟨by rw [RR.out, M.out]; rfl, (hd.set _ (by simp)).set _ (by simp)⟩

end Go.Proofs.YtghnmamdfinbpaaDoor

/-
  The walks of the reference's Same and Find, of cover.Find with slices.IndexFunc at stretches, and of both Sums.
-/
import Derived.Test.YtaehfpigjdndkaaGreatDoorCovA
import Derived.Deep.QuietTactic
import Derived.BigQuiet
import Derived.IntWalk
namespace Go.Proofs.YtaehfpigjdndkaaGreatDoor
open Go.RowKit

theorem Held.drewN {w w' : World} (h : Held w w') (n : Nat) : Held w (w'.drewN n) := by
  have hb : Below w.heap.size w w' := h
  exact ⟨hb.os, hb.tape, hb.output, hb.size, hb.block⟩
theorem ret_int {a b : Int} (h : a = b) : Ending.returned (.int .i64 a) = .returned (.int .i64 b) := by rw [h]

set_option maxRecDepth 20000 in
set_option maxHeartbeats 1600000 in
theorem same_any (w : World) (A B : Option Addr) (L : List St7) (c d : Nat) (hn : L.length ≤ 300) (h : RowS w A L) (h2 : RowS w B L) :
    Calls Tryz.prog 7 #[.slice A L.length c, .slice B L.length d] w fun e w' => e = .returned (.bool true) ∧ Held w w' := by
  have H := Lib.hid h
  have H2 := Lib.hid h2
  obtain ⟨n, hl⟩ : ∃ n, L.length = n := ⟨_, rfl⟩
  rw [hl] at hn ⊢
  have HL := Lib.hid hl
  clear h h2 hl
  go_enter Tryz.func7, Tryz.ntmps7
  go_wp2_with fail
  go_loopw [5] (fun t5 wr => ∃ (k : Nat), t5 = .int .i64 k ∧ k ≤ n ∧ Held w wr) (fun t5 _ => n - (intOf t5).toNat)
  case atStart => exact ⟨0, rfl, Nat.zero_le _, Held.refl _⟩
  case round =>
    obtain ⟨k, rfl, hk, hw⟩ := hrel
    by_cases hlt : k < n
    · have hlt' : decide ((k : Int) < (n : Int)) = true := by simp; omega
      have ne : L ≠ [] := by intro h; have := HL.out; rw [h] at this; simp at this; omega
      obtain ⟨ad, rfl, hb, hc⟩ := (H.out.keep hw) ne
      obtain ⟨ad2, rfl, hb2, hc2⟩ := (H2.out.keep hw) ne
      obtain ⟨s, hs⟩ : ∃ s, L[k]? = some s := ⟨_, List.getElem?_eq_getElem (by rw [HL.out]; exact hlt)⟩
      obtain ⟨c0, c1, c2, c3, c4, c5, c6⟩ := hc k s hs
      obtain ⟨d0, d1, d2, d3, d4, d5, d6⟩ := hc2 k s hs
      clear hc hc2 hs ne
      go_wp2_with fail
      go_quiet (fail)
      go_wp2_with fail
      go_roundw
      case rel => exact ⟨k + 1, by go_num, by omega, hw.drewN _⟩
      case measure => simp [intOf]; omega
    · have hlt' : decide ((k : Int) < (n : Int)) = false := by simp; omega
      go_wp2_with fail
      go_ret
      exact ⟨rfl, hw⟩

/-- stretches whose places and lengths are offsets. -/
def Fine (L : List St7) : Prop := ∀ (k : Nat) (s : St7), L[k]? = some s → 0 ≤ s.a ∧ 0 ≤ s.l ∧ s.a ≤ 4294967295 ∧ s.l ≤ 4294967295

/-- has a stretch the byte at a place? -/
def hasB (z : Int) (s : St7) : Bool := decide (s.a ≤ z ∧ z < s.a + s.l)

def findF (z : Int) : List St7 → Option St7
  | [] => none
  | s :: r => if hasB z s then some s else findF z r

def idxF (z : Int) : List St7 → Int → Int
  | [], _ => -1
  | s :: r, k => if hasB z s then k else idxF z r (k + 1)

theorem idx_cases (z : Int) : ∀ (L : List St7) (i : Nat), (idxF z L i = -1 ∧ findF z L = none) ∨ ∃ (k : Nat) (s : St7), idxF z L i = ((i + k : Nat) : Int) ∧ k < L.length ∧ L[k]? = some s ∧ findF z L = some s
  | [], i => .inl ⟨rfl, rfl⟩
  | s :: r, i => by
    by_cases h : hasB z s
    · exact .inr ⟨0, s, by simp [idxF, h], by simp, rfl, by simp [findF, h]⟩
    · rcases idx_cases z r (i + 1) with ⟨h1, h2⟩ | ⟨k, t, h1, h2, h3, h4⟩
      · left; simp only [idxF, findF, if_neg h]; exact ⟨by simpa using h1, h2⟩
      · right
        refine ⟨k + 1, t, ?_, by simp; omega, by simpa using h3, by simp only [findF, if_neg h]; exact h4⟩
        simp only [idxF, if_neg h]
        have : ((i + 1 : Nat) : Int) = (i : Int) + 1 := by simp
        rw [← this, h1]; congr 1; omega

def St7.val (s : St7) : Value := .agg #[.int .i64 s.m, .int .i64 s.p, .int .i64 s.u, .int .i64 s.d, .int .i64 s.t, .int .i64 s.a, .int .i64 s.l]
def St7.zero : St7 := ⟨0, 0, 0, 0, 0, 0, 0⟩

set_option maxHeartbeats 800000 in
theorem find1_any (s : St7) (a : Addr) (z : Int) (x : Bool) (hx : hasB z s = x) (w : World) (hc : w.cell? a = some (.int .i64 z)) (ha : a.block < w.heap.size) (h1 : 0 ≤ s.a) (h2 : 0 ≤ s.l) (h3 : s.a ≤ 4294967295) (h4 : s.l ≤ 4294967295) :
    Calls Tryz.prog 16 #[s.val, .pointer (some a)] w fun e w' => e = .returned (.bool x) ∧ Held w w' := by
  obtain ⟨m, p, u, d, t, b, l⟩ := s
  unfold hasB at hx
  simp only at hx h1 h2 h3 h4
  have HX := Lib.hid hx
  clear hx
  unfold St7.val
  by_cases g1 : b ≤ z
  · by_cases g2 : z < b + l
    · have HE := Lib.hid (show true = x by rw [← HX.out]; simp [g1, g2])
      go_enter Tryz.func16, Tryz.ntmps16
      go_wp2_with fail
      go_ret
      exact ⟨ret_bool HE.out, (Held.refl w).alloc _⟩
    · have HE := Lib.hid (show false = x by rw [← HX.out]; simp [g1, g2])
      go_enter Tryz.func16, Tryz.ntmps16
      go_wp2_with fail
      go_ret
      exact ⟨ret_bool HE.out, (Held.refl w).alloc _⟩
  · have HE := Lib.hid (show false = x by rw [← HX.out]; simp [g1])
    go_enter Tryz.func16, Tryz.ntmps16
    go_wp2_with fail
    go_ret
    exact ⟨ret_bool HE.out, (Held.refl w).alloc _⟩

theorem idx_stop {z : Int} {L : List St7} {k : Nat} {s : St7} (hs : L[k]? = some s) (h : hasB z s = true) : idxF z (L.drop k) k = k := by
  rw [drop_at hs]; unfold idxF; rw [if_pos h]
theorem idx_go {z : Int} {L : List St7} {k : Nat} {s : St7} (hs : L[k]? = some s) (h : hasB z s = false) : idxF z (L.drop (k + 1)) ((k + 1 : Nat) : Int) = idxF z (L.drop k) k := by
  rw [drop_at hs]; conv => rhs; unfold idxF
  rw [if_neg (by rw [h]; simp)]; rfl

set_option maxRecDepth 20000 in
set_option maxHeartbeats 1600000 in
theorem index_any (w : World) (A : Option Addr) (L : List St7) (c : Nat) (a : Addr) (z : Int) (hn : L.length ≤ 300) (h : RowS w A L) (hf : Fine L) (hc : w.cell? a = some (.int .i64 z)) (ha : a.block < w.heap.size) :
    Calls Tryz.prog 15 #[.slice A L.length c, .func (.func 16) #[] #[.pointer (some a)]] w fun e w' => e = .returned (.int .i64 (idxF z L 0)) ∧ Held w w' := by
  have H := Lib.hid h
  have HF := Lib.hid hf
  have HC := Lib.hid hc
  obtain ⟨n, hl⟩ : ∃ n, L.length = n := ⟨_, rfl⟩
  rw [hl] at hn ⊢
  have HL := Lib.hid hl
  clear h hl hf hc
  go_enter Tryz.func15, Tryz.ntmps15
  go_wp2_with fail
  go_loopw [8] (fun t8 wr => ∃ (k : Nat), t8 = .int .i64 k ∧ k ≤ n ∧ Held w wr ∧ Hid (idxF z (L.drop k) k = idxF z L 0)) (fun t8 _ => n - (intOf t8).toNat)
  case atStart => exact ⟨0, rfl, Nat.zero_le _, Held.refl _, Lib.hid (by simp)⟩
  case round =>
    obtain ⟨k, rfl, hk, hw, HT⟩ := hrel
    by_cases hlt : k < n
    · have hlt' : decide ((k : Int) < (n : Int)) = true := by simp; omega
      have ne : L ≠ [] := by intro h; have := HL.out; rw [h] at this; simp at this; omega
      obtain ⟨ad, rfl, hb, hc⟩ := (H.out.keep hw) ne
      obtain ⟨s, hs⟩ : ∃ s, L[k]? = some s := ⟨_, List.getElem?_eq_getElem (by rw [HL.out]; exact hlt)⟩
      obtain ⟨c0, c1, c2, c3, c4, c5, c6⟩ := hc k s hs
      obtain ⟨f1, f2, f3, f4⟩ := HF.out k s hs
      have HS := Lib.hid hs
      have HC2 := Lib.hid (show wr.cell? a = some (.int .i64 z) from (Below.cell hw ha).trans HC.out)
      have ha2 : a.block < wr.heap.size := Nat.lt_of_lt_of_le ha (Below.size hw)
      clear hc hs ne
      cases hb : hasB z s with
      | true =>
        have HB := Lib.hid hb
        clear hb
        go_wp2_with fail
        refine (find1_any s a z true HB.out _ HC2.out ha2 f1 f2 f3 f4).mono ?_
        rintro e w1 ⟨rfl, hb1⟩
        go_wp2_with fail
        go_ret
        exact ⟨ret_int ((idx_stop HS.out HB.out).symm.trans HT.out), hw.tr hb1⟩
      | false =>
        have HB := Lib.hid hb
        clear hb
        go_wp2_with fail
        refine (find1_any s a z false HB.out _ HC2.out ha2 f1 f2 f3 f4).mono ?_
        rintro e w1 ⟨rfl, hb1⟩
        go_wp2_with fail
        go_roundw
        case rel => exact ⟨k + 1, by go_num, by omega, hw.tr hb1, Lib.hid ((idx_go HS.out HB.out).trans HT.out)⟩
        case measure => simp [intOf]; omega
    · have hlt' : decide ((k : Int) < (n : Int)) = false := by simp; omega
      have HE := Lib.hid (show idxF z (L.drop k) k = -1 by rw [List.drop_eq_nil_of_le (by rw [HL.out]; omega)]; rfl)
      go_wp2_with fail
      go_ret
      exact ⟨ret_int (HE.out.symm.trans HT.out), hw⟩

end Go.Proofs.YtaehfpigjdndkaaGreatDoor

/-
  Stretches in memory; the walks of cover.Tiles and the reference's.
-/
import Derived.Test.YtaehfpigjdndkaaGreatDoorRows
import Derived.WalkKit
import Derived.Below
import Derived.Laws.OwnMore
import Derived.Deep.AppendLies
import Derived.Deep.Draws
import Derived.Lib.Hide
namespace Go.Proofs.YtaehfpigjdndkaaGreatDoor
open Go.RowKit

theorem block_of_add (a : Addr) (n : Nat) : (a.add n).block = a.block := by unfold Addr.add; split <;> rfl
theorem add_of_add (a : Addr) (i j : Nat) : (a.add i).add j = a.add (i + j) := by
  unfold Addr.add
  by_cases hi : i = 0 <;> by_cases hj : j = 0 <;> simp [hi, hj, Nat.add_assoc]

/-- 'nothing below has turned', as one word that the walk does not look into. -/
def Held (w w' : World) : Prop := Below w.heap.size w w'
theorem Held.refl (w : World) : Held w w := Below.refl _ _
theorem Held.drew {w w' : World} (h : Held w w') : Held w w'.drew := Below.drew h
theorem Held.alloc {w w' : World} (x : Obj) (h : Held w w') : Held w (w'.alloc x) := Below.alloc h (Below.size h) _
theorem Held.set {w w' : World} {a : Addr} (x : Value) (h : Held w w') (ha : w.heap.size ≤ a.block) : Held w (w'.setCell a x) := Below.setCell h ha _
theorem Held.tr {w w' w'' : World} (h : Held w w') (h2 : Held w' w'') : Held w w'' := Below.trans h (h2.mono (Below.size h))

/-- a stretch: member, part, what, directory, tag, place, length. -/
structure St7 where
  m : Int
  p : Int
  u : Int
  d : Int
  t : Int
  a : Int
  l : Int

def At7 (w : World) (ad : Addr) (s : St7) : Prop :=
  w.cell? ad = some (.int .i64 s.m) ∧ w.cell? ⟨ad.block, ad.off + 1, none⟩ = some (.int .i64 s.p) ∧ w.cell? ⟨ad.block, ad.off + 2, none⟩ = some (.int .i64 s.u) ∧ w.cell? ⟨ad.block, ad.off + 3, none⟩ = some (.int .i64 s.d) ∧
    w.cell? ⟨ad.block, ad.off + 4, none⟩ = some (.int .i64 s.t) ∧ w.cell? ⟨ad.block, ad.off + 5, none⟩ = some (.int .i64 s.a) ∧ w.cell? ⟨ad.block, ad.off + 6, none⟩ = some (.int .i64 s.l)

/-- a slice's address that holds a row of stretches. -/
def RowS (w : World) (A : Option Addr) (L : List St7) : Prop :=
  L ≠ [] → ∃ ad, A = some ad ∧ ad.block < w.heap.size ∧ ∀ k s, L[k]? = some s → At7 w (ad.add (k * 7)) s

theorem At7.keep {w w' : World} {ad : Addr} {s : St7} (h : At7 w ad s) (hw : Held w w') (hb : ad.block < w.heap.size) : At7 w' ad s := by
  have e : ∀ n, w'.cell? ⟨ad.block, n, none⟩ = w.cell? ⟨ad.block, n, none⟩ := fun n => Below.cell hw hb
  have e0 : w'.cell? ad = w.cell? ad := Below.cell hw hb
  unfold At7 at *
  rw [e, e, e, e, e, e, e0]
  exact h

theorem RowS.keep {w w' : World} {A : Option Addr} {L : List St7} (h : RowS w A L) (hw : Held w w') : RowS w' A L := by
  intro hl
  obtain ⟨ad, rfl, hb, hc⟩ := h hl
  exact ⟨ad, rfl, Nat.lt_of_lt_of_le hb (Below.size hw), fun k s hs => (hc k s hs).keep hw (by rw [block_of_add]; exact hb)⟩

/-- do stretches tile, from an end on? -/
def tilesF (size : Int) : List St7 → Int → Bool
  | [], e => e == size
  | s :: r, e => if s.a ≠ e ∨ s.l < 1 ∨ wrap64 (size - e) < s.l then false else tilesF size r (wrap64 (e + s.l))

theorem drop_cons {α : Type} {L : List α} {k : Nat} (hk : k < L.length) : L.drop k = L[k] :: L.drop (k + 1) := by
  rw [List.drop_eq_getElem_cons hk]

theorem drop_at {α : Type} {L : List α} {k : Nat} {s : α} (h : L[k]? = some s) : L.drop k = s :: L.drop (k + 1) := by
  obtain ⟨hk, rfl⟩ := List.getElem?_eq_some_iff.1 h
  exact List.drop_eq_getElem_cons hk

theorem tiles_stop {size e : Int} {L : List St7} {k : Nat} {s : St7} (hs : L[k]? = some s) (h : s.a ≠ e ∨ s.l < 1 ∨ wrap64 (size - e) < s.l) : tilesF size (L.drop k) e = false := by
  rw [drop_at hs]; unfold tilesF; rw [if_pos h]
theorem tiles_go {size e : Int} {L : List St7} {k : Nat} {s : St7} (hs : L[k]? = some s) (h : ¬ (s.a ≠ e ∨ s.l < 1 ∨ wrap64 (size - e) < s.l)) : tilesF size (L.drop (k + 1)) (wrap64 (e + s.l)) = tilesF size (L.drop k) e := by
  rw [drop_at hs]; conv => rhs; unfold tilesF
  rw [if_neg h]
theorem ret_bool {a b : Bool} (h : a = b) : Ending.returned (.bool a) = .returned (.bool b) := by rw [h]

set_option maxRecDepth 20000 in
set_option maxHeartbeats 800000 in
theorem tiles_any (w : World) (A : Option Addr) (L : List St7) (c : Nat) (size : Int) (hn : L.length ≤ 300) (h : RowS w A L) :
    Calls Tryz.prog 5 #[.slice A L.length c, .int .i64 size] w fun e w' => e = .returned (.bool (tilesF size L 0)) ∧ Held w w' := by
  have H := Lib.hid h
  obtain ⟨n, hl⟩ : ∃ n, L.length = n := ⟨_, rfl⟩
  rw [hl] at hn ⊢
  have HL := Lib.hid hl
  clear h hl
  go_enter Tryz.func5, Tryz.ntmps5
  go_wp2_with fail
  go_loopw [5, 10] (fun t5 t10 wr => ∃ (k : Nat) (e : Int), t10 = .int .i64 k ∧ t5 = .int .i64 e ∧ k ≤ n ∧ Held w wr ∧ Hid (tilesF size (L.drop k) e = tilesF size L 0)) (fun _ t10 _ => n - (intOf t10).toNat)
  case atStart => exact ⟨0, 0, rfl, rfl, Nat.zero_le _, Held.refl _, Lib.hid (by simp)⟩
  case round =>
    obtain ⟨k, e, rfl, rfl, hk, hw, HT⟩ := hrel
    by_cases hlt : k < n
    · have hlt' : decide ((k : Int) < (n : Int)) = true := by simp; omega
      obtain ⟨ad, rfl, hb, hc⟩ := (H.out.keep hw) (by intro h; have := HL.out; rw [h] at this; simp at this; omega)
      obtain ⟨s, hs⟩ : ∃ s, L[k]? = some s := ⟨_, List.getElem?_eq_getElem (by rw [HL.out]; exact hlt)⟩
      obtain ⟨c0, c1, c2, c3, c4, c5, c6⟩ := hc k s hs
      have HS := Lib.hid hs
      clear hc hs
      go_wp2_with fail
      all_goals first
        | (go_ret; exact ⟨ret_bool ((tiles_stop HS.out (by omega)).symm.trans HT.out), hw.alloc _⟩)
        | (go_roundw
           case rel => exact ⟨k + 1, _, by go_num, rfl, by omega, hw.alloc _, Lib.hid ((tiles_go HS.out (by omega)).trans HT.out)⟩
           case measure => simp [intOf]; omega)
    · have hlt' : decide ((k : Int) < (n : Int)) = false := by simp; omega
      have HE := Lib.hid (show tilesF size (L.drop k) e = (e == size) by rw [List.drop_eq_nil_of_le (by rw [HL.out]; omega)]; rfl)
      go_wp2_with fail
      go_ret
      exact ⟨ret_bool (HE.out.symm.trans HT.out), hw⟩
set_option maxRecDepth 20000 in
set_option maxHeartbeats 800000 in
theorem rtiles_any (w : World) (A : Option Addr) (L : List St7) (c : Nat) (size : Int) (hn : L.length ≤ 300) (h : RowS w A L) :
    Calls Tryz.prog 6 #[.slice A L.length c, .int .i64 size] w fun e w' => e = .returned (.bool (tilesF size L 0)) ∧ w = w' := by
  have H := Lib.hid h
  obtain ⟨n, hl⟩ : ∃ n, L.length = n := ⟨_, rfl⟩
  rw [hl] at hn ⊢
  have HL := Lib.hid hl
  clear h hl
  go_enter Tryz.func6, Tryz.ntmps6
  go_wp2_with fail
  go_loop [5, 6] (fun t5 t6 => ∃ (k : Nat) (e : Int), t6 = .int .i64 k ∧ t5 = .int .i64 e ∧ k ≤ n ∧ Hid (tilesF size (L.drop k) e = tilesF size L 0)) (fun _ t6 => n - (intOf t6).toNat)
  case atStart => exact ⟨0, 0, rfl, rfl, Nat.zero_le _, Lib.hid (by simp)⟩
  case round =>
    obtain ⟨k, e, rfl, rfl, hk, HT⟩ := hrel
    by_cases hlt : k < n
    · have hlt' : decide ((k : Int) < (n : Int)) = true := by simp; omega
      obtain ⟨ad, rfl, hb, hc⟩ := H.out (by intro h; have := HL.out; rw [h] at this; simp at this; omega)
      obtain ⟨s, hs⟩ : ∃ s, L[k]? = some s := ⟨_, List.getElem?_eq_getElem (by rw [HL.out]; exact hlt)⟩
      obtain ⟨c0, c1, c2, c3, c4, c5, c6⟩ := hc k s hs
      have HS := Lib.hid hs
      clear hc hs
      go_wp2_with fail
      all_goals first
        | (go_ret; exact ⟨ret_bool ((tiles_stop HS.out (by omega)).symm.trans HT.out), rfl⟩)
        | (go_round
           case rel => exact ⟨k + 1, _, by go_num, rfl, by omega, Lib.hid ((tiles_go HS.out (by omega)).trans HT.out)⟩
           case measure => simp [intOf]; omega)
    · have hlt' : decide ((k : Int) < (n : Int)) = false := by simp; omega
      have HE := Lib.hid (show tilesF size (L.drop k) e = (e == size) by rw [List.drop_eq_nil_of_le (by rw [HL.out]; omega)]; rfl)
      go_wp2_with fail
      go_ret
      exact ⟨ret_bool (HE.out.symm.trans HT.out), rfl⟩

end Go.Proofs.YtaehfpigjdndkaaGreatDoor

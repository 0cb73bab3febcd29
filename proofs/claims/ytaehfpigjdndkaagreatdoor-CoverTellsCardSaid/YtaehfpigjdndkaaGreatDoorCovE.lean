/-
  CoverTells' awake() by the engine's summaries; the walk of CoverTells.
-/
import Derived.Test.YtaehfpigjdndkaaGreatDoorCovC
import Derived.Test.YtaehfpigjdndkaaGreatDoorCovD
import Derived.Test.YtaehfpigjdndkaaGreatDoorMemZ
namespace Go.Proofs.YtaehfpigjdndkaaGreatDoor
open Go.RowKit

theorem awake_any (w : World) : Calls Tryz.prog 4 #[] w fun e w' => e = .returned (.bool true) ∧ Held w w' := by
  have R : Eng.Ret Tryz.prog 4 [] .nil 0 (.bool true) (Eng.heapOf (Eng.mem137.chg ++ Eng.mem137.ins)) Eng.mem137.nx' := Eng.mem137_ok.ret
  refine (Eng.calls_of_ret R w).mono fun e w' ⟨h1, h2⟩ => ⟨h1, ⟨h2.os, h2.tape, h2.output, h2.size, h2.heap⟩⟩

theorem find_both (L : List St7) (z : Int) (hz : z < 9223372036854775808) (hn : L.length ≤ 300) (hf : Fine L) : ∃ (s : St7) (b : Bool), Hid (∀ w A c, RowS w A L → Calls Tryz.prog 8 #[.slice A L.length c, .int .i64 z] w fun e w' => e = .returned (.tuple #[s.val, .bool b]) ∧ Held w w') ∧
    Hid (∀ w A c, RowS w A L → Calls Tryz.prog 9 #[.slice A L.length c, .int .i64 z] w fun e w' => e = .returned (.tuple #[s.val, .bool b]) ∧ Held w w') := by
  cases h : findF z L with
  | none => exact ⟨St7.zero, false, fun w A c hr => by have := cfind_any w A L c z hn hr hf; rw [h] at this; exact this, fun w A c hr => by have := rfind_any w A L c z hz hn hr hf; rw [h] at this; exact this⟩
  | some s => exact ⟨s, true, fun w A c hr => by have := cfind_any w A L c z hn hr hf; rw [h] at this; exact this, fun w A c hr => by have := rfind_any w A L c z hz hn hr hf; rw [h] at this; exact this⟩

theorem sum_both (L : List St7) (p u : Int) (hn : L.length ≤ 300) (hf : Fine L) : ∃ m g : Int, Hid (∀ w A c, RowS w A L → Calls Tryz.prog 10 #[.slice A L.length c, .int .i64 p, .int .i64 u] w fun e w' => e = .returned (.tuple #[.int .i64 m, .int .i64 g]) ∧ Held w w') ∧
    Hid (∀ w A c, RowS w A L → Calls Tryz.prog 11 #[.slice A L.length c, .int .i64 p, .int .i64 u] w fun e w' => e = .returned (.tuple #[.int .i64 m, .int .i64 g]) ∧ w = w') :=
  ⟨_, _, fun w A c hr => csum_any w A L c p u hn hr hf, fun w A c hr => rsum_any w A L c p u hn hr hf⟩

theorem stretchInfo : (Tryz.prog.info? 27).map (fun i => (i.zero, i.size, i.bytes)) = some (some (.agg #[.int .i64 0, .int .i64 0, .int .i64 0, .int .i64 0, .int .i64 0, .int .i64 0, .int .i64 0]), 7, 56) := by kernel_rfl

theorem own_empty (w : World) (e : TypeId) : (w.alloc (.cells #[] e)).ownsRow w.heap.size e 7 (.slice (some ⟨w.heap.size, 0, none⟩) 0 0) 0 [] :=
  ⟨by simp, .inr ⟨w.heap.size, 0, #[], rfl, Nat.le_refl _, heap_alloc_new w _, Nat.le_refl _, by simp, by simp, by simp⟩⟩

/-- a block of seven numbers. -/
def Seven (w : World) (b : Nat) (s : St7) : Prop :=
  w.cell? ⟨b, 0, none⟩ = some (.int .i64 s.m) ∧ w.cell? ⟨b, 1, none⟩ = some (.int .i64 s.p) ∧ w.cell? ⟨b, 2, none⟩ = some (.int .i64 s.u) ∧ w.cell? ⟨b, 3, none⟩ = some (.int .i64 s.d) ∧
    w.cell? ⟨b, 4, none⟩ = some (.int .i64 s.t) ∧ w.cell? ⟨b, 5, none⟩ = some (.int .i64 s.a) ∧ w.cell? ⟨b, 6, none⟩ = some (.int .i64 s.l)
theorem Seven.new (w : World) (s : St7) (t : TypeId) : Seven (w.alloc (.cells #[.int .i64 s.m, .int .i64 s.p, .int .i64 s.u, .int .i64 s.d, .int .i64 s.t, .int .i64 s.a, .int .i64 s.l] t)) w.heap.size s := by
  unfold Seven
  refine ⟨?_, ?_, ?_, ?_, ?_, ?_, ?_⟩ <;> simp
theorem Seven.keep {w w' : World} {b : Nat} {s : St7} (h : Seven w b s) (hw : Held w w') : Seven w' b s := by
  obtain ⟨h0, h1, h2, h3, h4, h5, h6⟩ := h
  exact ⟨Held.cell h0 hw, Held.cell h1 hw, Held.cell h2 hw, Held.cell h3 hw, Held.cell h4 hw, Held.cell h5 hw, Held.cell h6 hw⟩

set_option maxRecDepth 20000 in
set_option maxHeartbeats 2000000 in
theorem tells_any (w : World) (A : Option Addr) (L : List St7) (c : Nat) (z size p u : Int) (hz : z < 9223372036854775808) (hl : L.length ≤ maxLen) (h : RowS w A L) :
    Calls Tryz.prog 3 #[.slice A L.length c, .int .i64 z, .int .i64 size, .int .i64 p, .int .i64 u] w fun e w' => e = .returned (.bool true) ∧ Held w w' := by
  by_cases hn : L.length ≤ 300
  · have H := Lib.hid h
    have HT1 := Lib.hid fun (W : World) (B : Option Addr) (c : Nat) (h : RowS W B L) => tiles_any W B L c size hn h
    have HT2 := Lib.hid fun (W : World) (B : Option Addr) (c : Nat) (h : RowS W B L) => rtiles_any W B L c size hn h
    have HSM := Lib.hid fun (W : World) (B C : Option Addr) (c d : Nat) (h : RowS W B L) (h2 : RowS W C L) => same_any W B C L c d hn h h2
    have HFB := Lib.hid fun (hf : Fine L) => find_both L z hz hn hf
    have HSB := Lib.hid fun (hf : Fine L) => sum_both L p u hn hf
    have HR := Lib.hid fun (W : World) (h : RowS W A L) => h.reads
    have HO := Lib.hid (cellsOf_one L)
    have HOW := Lib.hid fun (W : World) (B : Nat) (e : TypeId) (v : Value) (h : W.ownsRow B e 7 v (0 + L.length) ([] ++ cellsOf L)) => RowS.of_own (w := W) (base := B) (e := e) (v := v) (L := L) (by simpa using h)
    obtain ⟨b, hb⟩ : ∃ b, tilesF size L 0 = b := ⟨_, rfl⟩
    rw [hb] at HT1 HT2
    obtain ⟨n, hln⟩ : ∃ n, L.length = n := ⟨_, rfl⟩
    rw [hln] at hn hl HT1 HT2 HSM HFB HSB HR HOW ⊢
    have HL := Lib.hid hln
    clear h hln hb hl
    obtain ⟨i0, hi0, hz0, hz1, hz2⟩ := info_parts stretchInfo
    go_enter Tryz.func3, Tryz.ntmps3
    go_wp2_with (at_builtin; refine wpList_append_any _ rfl (.tmp 25) (.tmp 26) _ rfl w.heap.size 27 i0 _ 7 56 Tryz.underlying22 hi0 hz0 hz1 hz2 rfl (by omega) (.slice (some ⟨w.heap.size, 0, none⟩) 0 0) 0 [] rfl (own_empty w _) _ A n c (cellsOf L) rfl (HR.out _ (H.out.keep ((Held.refl w).alloc _))) HO.out (by simp only [maxLen]; omega) (by omega) (by simp) ?_; intro v1 w1 hown1 hg1 hat1)
    obtain ⟨B, d, rfl, hrow⟩ := HOW.out w1 w.heap.size _ v1 hown1
    have hd1 : Held w w1 := Below.grown ((Held.refl w).alloc _) hg1 (by simp) (fun k hk => by simp [Value.ownBlock] at hk; omega)
    clear hown1 hg1 hat1 i0 hi0 hz0 hz1 hz2
    have HB := Lib.hid hrow
    clear hrow
    refine (HT1.out _ _ _ HB.out).mono ?_
    rintro e w2 ⟨rfl, hb2⟩
    have HB2 := Lib.hid (HB.out.keep hb2)
    have hd2 : Held w w2 := hd1.tr hb2
    clear hb2 hd1 HB
    go_wp2_with fail
    refine (HT2.out _ _ _ (H.out.keep hd2)).mono ?_
    rintro e w3 ⟨rfl, rfl⟩
    go_wp2_with fail
    refine (HSM.out _ _ _ _ _ HB2.out (H.out.keep hd2)).mono ?_
    rintro e w3 ⟨rfl, hb3⟩
    have HB3 := Lib.hid (HB2.out.keep hb3)
    have hd3 : Held w w3 := hd2.tr hb3
    clear hb3 hd2 HB2
    go_wp2_with fail
    go_loop [12] (fun t12 => ∃ (k : Nat), t12 = .int .i64 k ∧ k ≤ n ∧ Hid (∀ (j : Nat) (s : St7), j < k → L[j]? = some s → 0 ≤ s.a ∧ 0 ≤ s.l ∧ s.a ≤ 4294967295 ∧ s.l ≤ 4294967295)) (fun t12 => n - (intOf t12).toNat)
    case atStart => exact ⟨0, rfl, Nat.zero_le _, Lib.hid (fun j s hj => by omega)⟩
    case round =>
      obtain ⟨k, rfl, hk, HF⟩ := hrel
      by_cases hlt : k < n
      · have hlt' : decide ((k : Int) < (n : Int)) = true := by simp; omega
        obtain ⟨ad, rfl, hb, hc⟩ := (H.out.keep hd3) (by intro h; have := HL.out; rw [h] at this; simp at this; omega)
        obtain ⟨s, hs⟩ : ∃ s, L[k]? = some s := ⟨_, List.getElem?_eq_getElem (by rw [HL.out]; exact hlt)⟩
        obtain ⟨c0, c1, c2, c3, c4, c5, c6⟩ := hc k s hs
        have HS := Lib.hid hs
        clear hc hs
        go_wp2_with fail
        all_goals first
          | (refine (awake_any _).mono ?_
             rintro e w4 ⟨rfl, hb4⟩
             go_wp2_with fail
             go_ret
             exact ⟨rfl, hd3.tr hb4⟩)
          | (go_round
             case rel => exact ⟨k + 1, by go_num, by omega, Lib.hid (fun j s' hj hs' => by
               rcases Nat.lt_or_ge j k with x | x
               · exact HF.out j s' x hs'
               · obtain rfl : j = k := by omega
                 obtain rfl : s' = s := Option.some.inj (hs'.symm.trans HS.out)
                 omega)⟩
             case measure => simp [intOf]; omega)
      · have hlt' : decide ((k : Int) < (n : Int)) = false := by simp; omega
        obtain rfl : k = n := by omega
        have hf : Fine L := fun j s hs => HF.out j s (by
          rcases Nat.lt_or_ge j k with x | x
          · exact x
          · rw [List.getElem?_eq_none (by rw [HL.out]; exact x)] at hs; cases hs) hs
        obtain ⟨f, y, F1, F2⟩ := HFB.out hf
        obtain ⟨m, g, S1, S2⟩ := HSB.out hf
        clear hf
        have HN := Lib.hid fun (W : World) => Seven.new W f 27
        have F1 := Lib.hid (F1.out)
        have F2 := Lib.hid (F2.out)
        simp only [St7.val] at F1 F2
        go_wp2_with fail
        refine (F1.out _ _ _ HB3.out).mono ?_
        rintro e w4 ⟨rfl, hb4⟩
        have HB4 := Lib.hid (HB3.out.keep (hb4.alloc (.cells #[.int .i64 f.m, .int .i64 f.p, .int .i64 f.u, .int .i64 f.d, .int .i64 f.t, .int .i64 f.a, .int .i64 f.l] 27)))
        have hd4 : Held w (w4.alloc (.cells #[.int .i64 f.m, .int .i64 f.p, .int .i64 f.u, .int .i64 f.d, .int .i64 f.t, .int .i64 f.a, .int .i64 f.l] 27)) := (hd3.tr hb4).alloc _
        have X4 := HN.out w4
        have X4 := Lib.hid X4
        clear hb4
        go_wp2_with fail
        refine (F2.out _ _ _ (H.out.keep hd4)).mono ?_
        rintro e w5 ⟨rfl, hb5⟩
        have hq : Held (w4.alloc (.cells #[.int .i64 f.m, .int .i64 f.p, .int .i64 f.u, .int .i64 f.d, .int .i64 f.t, .int .i64 f.a, .int .i64 f.l] 27)) (w5.alloc (.cells #[.int .i64 f.m, .int .i64 f.p, .int .i64 f.u, .int .i64 f.d, .int .i64 f.t, .int .i64 f.a, .int .i64 f.l] 27)) := hb5.alloc _
        have HB5 := Lib.hid (HB4.out.keep hq)
        have hd5 : Held w (w5.alloc (.cells #[.int .i64 f.m, .int .i64 f.p, .int .i64 f.u, .int .i64 f.d, .int .i64 f.t, .int .i64 f.a, .int .i64 f.l] 27)) := hd4.tr hq
        have X5 := Lib.hid (X4.out.keep hq)
        have Y5 := Lib.hid (HN.out w5)
        clear hb5 hq hd4 X4 HB4
        go_wp2_with fail
        refine (S1.out _ _ _ HB5.out).mono ?_
        rintro e w6 ⟨rfl, hb6⟩
        have HB6 := Lib.hid (HB5.out.keep hb6)
        have hd6 : Held w w6 := hd5.tr hb6
        have X6 := Lib.hid (X5.out.keep hb6)
        have Y6 := Lib.hid (Y5.out.keep hb6)
        clear hb6 hd5 X5 Y5 HB5
        go_wp2_with fail
        refine (S2.out _ _ _ (H.out.keep hd6)).mono ?_
        rintro e w7 ⟨rfl, rfl⟩
        obtain ⟨x0, x1, x2, x3, x4, x5, x6⟩ := X6.out
        obtain ⟨y0, y1, y2, y3, y4, y5, y6⟩ := Y6.out
        go_wp2_with fail
        refine (HSM.out _ _ _ _ _ HB6.out (H.out.keep hd6)).mono ?_
        rintro e w8 ⟨rfl, hb8⟩
        go_wp2_with fail
        refine (awake_any _).mono ?_
        rintro e w9 ⟨rfl, hb9⟩
        go_wp2_with fail
        go_ret
        exact ⟨rfl, (hd6.tr hb8).tr hb9⟩
  · have hn' : decide ((300 : Int) < (L.length : Int)) = true := by simp; omega
    go_enter Tryz.func3, Tryz.ntmps3
    go_wp2_with fail
    refine (awake_any _).mono ?_
    rintro e w1 ⟨rfl, hb1⟩
    go_wp2_with fail
    go_ret
    exact ⟨rfl, hb1⟩

end Go.Proofs.YtaehfpigjdndkaaGreatDoor

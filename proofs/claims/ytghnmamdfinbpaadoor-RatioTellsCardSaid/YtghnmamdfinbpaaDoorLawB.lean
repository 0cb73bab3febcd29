/-
  The walk of tintypelaw02.awake: the chapter's examples, at every world that holds the package-level variables.
-/
import Derived.Test.YtghnmamdfinbpaaDoorLawA
namespace Go.Proofs.YtghnmamdfinbpaaDoor
open Go.RowKit Go.Sort

theorem near_unique {n d most p q x y : Int} (h : NearSpec n d most p q) (g : NearSpec n d most x y) : p = x ∧ q = y := by
  obtain ⟨_, h1, h2, h3⟩ := h
  obtain ⟨_, g1, g2, g3⟩ := g
  have a := h3 x y g1 g2
  have b := g3 p q h1 h2
  have e : ((p * d - n * q).natAbs : Int) * y = ((x * d - n * y).natAbs : Int) * q := by omega
  have a' := a.2 e
  have b' := b.2 e.symm
  omega

theorem near_a : NearSpec (leN 355 113) (leD 355 113) 50 22 7 := by
  rw [show leN 355 113 = 355 by decide, show leD 355 113 = 113 by decide]
  exact near_last (p := 22) (q := 7) (P := 157) (Q := 50) (d := 1) (m := 9) (s := 1) (.inl rfl) (by omega) (by omega) (by omega) (by omega) (by omega) (by omega) (by omega) (by omega) (by omega) (by omega) (by omega) (by omega)

theorem near_b : NearSpec (leN 1 2) (leD 1 2) 1 0 1 := by
  rw [show leN 1 2 = 1 by decide, show leD 1 2 = 2 by decide]
  exact near_last (p := 0) (q := 1) (P := 1) (Q := 1) (d := 1) (m := 1) (s := -1) (.inr rfl) (by omega) (by omega) (by omega) (by omega) (by omega) (by omega) (by omega) (by omega) (by omega) (by omega) (by omega) (by omega)

theorem near_is (a b most x y : Int) (w : World) (h : askB a b most = true) (hs : NearSpec (leN a b) (leD a b) most x y) :
    Calls Tryd.prog 11 #[.agg #[.int .i64 a, .int .i64 b], .int .i64 most] w fun e w' => e = .returned (.tuple #[.agg #[.int .i64 x, .int .i64 y], .bool true]) ∧ Held w w' :=
  (near_yes a b most w h).mono fun e w' ⟨p, q, he, hn, hh⟩ => by
    obtain ⟨rfl, rfl⟩ := near_unique hn hs
    exact ⟨he, hh⟩

theorem cmp_is (a b c d r : Int) (w : World) (h1 : mayR a b = true) (h2 : mayR c d = true) (hb : b ≠ 0) (hd : d ≠ 0) (hr : cmpR a b c d = r) :
    Calls Tryd.prog 6 #[.agg #[.int .i64 a, .int .i64 b], .agg #[.int .i64 c, .int .i64 d]] w fun e w' => e = .returned (.tuple #[.int .i64 r, .bool true]) ∧ Held w w' := by
  have := cmp_yes a b c d w h1 h2 hb hd
  rw [hr] at this; exact this
theorem cmp_isno (a b c d : Int) (w : World) (h : mayR a b = false ∨ mayR c d = false ∨ b = 0 ∨ d = 0) :
    Calls Tryd.prog 6 #[.agg #[.int .i64 a, .int .i64 b], .agg #[.int .i64 c, .int .i64 d]] w fun e w' => e = .returned (.tuple #[.int .i64 0, .bool false]) ∧ Held w w' := cmp_no a b c d w h
theorem least_is (a b x y : Int) (w : World) (h1 : mayR a b = true) (hb : b ≠ 0) (hx : leN a b = x) (hy : leD a b = y) :
    Calls Tryd.prog 8 #[.agg #[.int .i64 a, .int .i64 b]] w fun e w' => e = .returned (.tuple #[.agg #[.int .i64 x, .int .i64 y], .bool true]) ∧ Held w w' := by
  have := least_yes a b w h1 hb
  rw [hx, hy] at this; exact this
theorem parse_isno (s : ByteArray) (hs : s.size ≤ 1000) (w : World) (hE : Env w) (h : parseO s.data.toList = none) :
    Calls Tryd.prog 13 #[.string s] w fun e w' => e = .returned (.tuple #[.agg #[.int .i64 0, .int .i64 0], .bool false]) ∧ Held w w' := by
  have := parse_any s hs w hE
  rw [h] at this; exact this

theorem mayBig : mayR 4294967296 1 = false := by decide
theorem parse_a : parseO [48, 49, 47, 50] = none := by
  have h : numOf [48, 49] = none := by
    rw [numOf_ok (show Lib.atoiAll [48, 49] = .ok 1 by decide)]
    have : Lib.itoa 1 = [49] := by rw [Lib.itoa]; simp [Lib.decDigits_one]
    rw [this]; rfl
  unfold parseO
  rw [show Lib.cut [48, 49, 47, 50] [47] = ([48, 49], [50], true) by decide]
  simp [h]
theorem parse_b : parseO [52, 50, 57, 52, 57, 54, 55, 50, 57, 54, 47, 49] = none := by
  unfold parseO
  rw [show Lib.cut [52, 50, 57, 52, 57, 54, 55, 50, 57, 54, 47, 49] [47] = ([52, 50, 57, 52, 57, 54, 55, 50, 57, 54], [49], true) by decide]
  have h1 : numOf [52, 50, 57, 52, 57, 54, 55, 50, 57, 54] = none ∨ numOf [52, 50, 57, 52, 57, 54, 55, 50, 57, 54] = some 4294967296 := by
    rw [numOf_ok (show Lib.atoiAll [52, 50, 57, 52, 57, 54, 55, 50, 57, 54] = .ok 4294967296 by decide)]
    split
    · exact .inr rfl
    · exact .inl rfl
  have h2 : numOf [49] = none ∨ numOf [49] = some 1 := by
    rw [numOf_ok (show Lib.atoiAll [49] = .ok 1 by decide)]
    split
    · exact .inr rfl
    · exact .inl rfl
  rcases h1 with h1 | h1
  · simp [h1]
  · rcases h2 with h2 | h2
    · simp [h1, h2]
    · simp [h1, h2, mayBig]
theorem text_a : textL (-1) 2 = [45, 49, 47, 50] := by
  simp [textL, Lib.itoa, Lib.decDigits_one]

theorem text_is (a b : Int) (l : List UInt8) (w : World) (h1 : mayR a b = true) (hE : Env w) (hl : textL a b = l) :
    Calls Tryd.prog 19 #[.agg #[.int .i64 a, .int .i64 b]] w fun e w' => e = .returned (.string ⟨l.toArray⟩) ∧ Held w w' := by
  have := text_yes a b w h1 hE
  rw [hl] at this; exact this

set_option maxRecDepth 20000 in
set_option maxHeartbeats 4000000 in
theorem awake_any (w : World) (hE : Env w) :
    Calls Tryd.prog 10 #[] w fun e w' => e = .returned (.bool true) ∧ Held w w' := by
  have HE := hid hE
  clear hE
  go_enter Tryd.func10, Tryd.ntmps10
  go_wp2_with fail
  refine (of_any 1 2 _).mono ?_
  rintro e w1 ⟨rfl, hb1⟩
  have HW1 : Held w w1 := hb1
  have hd : Held w w1 := HW1
  clear hb1 HW1
  go_wp2_with fail
  refine (of_any 2 4 _).mono ?_
  rintro e w2 ⟨rfl, hb2⟩
  have HW2 : Held w1 w2 := hb2
  replace hd := hd.tr HW2
  clear hb2 HW2
  go_wp2_with fail
  refine (cmp_is 1 2 2 4 0 _ (by decide) (by decide) (by decide) (by decide) (by decide)).mono ?_
  rintro e w3 ⟨rfl, hb3⟩
  have HW3 : Held w2 w3 := hb3
  replace hd := hd.tr HW3
  clear hb3 HW3
  go_wp2_with fail
  refine (of_any (-1) 3 _).mono ?_
  rintro e w4 ⟨rfl, hb4⟩
  have HW4 : Held w3 w4 := hb4
  replace hd := hd.tr HW4
  clear hb4 HW4
  go_wp2_with fail
  refine (of_any 1 (-4) _).mono ?_
  rintro e w5 ⟨rfl, hb5⟩
  have HW5 : Held w4 w5 := hb5
  replace hd := hd.tr HW5
  clear hb5 HW5
  go_wp2_with fail
  refine (cmp_is (-1) 3 1 (-4) (-1) _ (by decide) (by decide) (by decide) (by decide) (by decide)).mono ?_
  rintro e w6 ⟨rfl, hb6⟩
  have HW6 : Held w5 w6 := hb6
  replace hd := hd.tr HW6
  clear hb6 HW6
  go_wp2_with fail
  refine (of_any 1 0 _).mono ?_
  rintro e w7 ⟨rfl, hb7⟩
  have HW7 : Held w6 w7 := hb7
  replace hd := hd.tr HW7
  clear hb7 HW7
  go_wp2_with fail
  refine (of_any 1 2 _).mono ?_
  rintro e w8 ⟨rfl, hb8⟩
  have HW8 : Held w7 w8 := hb8
  replace hd := hd.tr HW8
  clear hb8 HW8
  go_wp2_with fail
  refine (cmp_isno 1 0 1 2 _ (by decide)).mono ?_
  rintro e w9 ⟨rfl, hb9⟩
  have HW9 : Held w8 w9 := hb9
  replace hd := hd.tr HW9
  clear hb9 HW9
  go_wp2_with fail
  refine (of_any 6 (-4) _).mono ?_
  rintro e w10 ⟨rfl, hb10⟩
  have HW10 : Held w9 w10 := hb10
  replace hd := hd.tr HW10
  clear hb10 HW10
  go_wp2_with fail
  refine (least_is 6 (-4) (-3) 2 _ (by decide) (by decide) (by decide) (by decide)).mono ?_
  rintro e w11 ⟨rfl, hb11⟩
  have HW11 : Held w10 w11 := hb11
  replace hd := hd.tr HW11
  clear hb11 HW11
  go_wp2_with fail
  refine (of_any 0 5 _).mono ?_
  rintro e w12 ⟨rfl, hb12⟩
  have HW12 : Held w11 w12 := ((Held.refl w11).alloc _).tr hb12
  have c0_0 := Held.cell (b := w11.heap.size) (o := 0) (v := .int .i64 (-3)) (by go_simp) hb12
  have c0_1 := Held.cell (b := w11.heap.size) (o := 1) (v := .int .i64 2) (by go_simp) hb12
  replace hd := hd.tr HW12
  clear hb12 HW12
  go_wp2_with fail
  refine (least_is 0 5 0 1 _ (by decide) (by decide) (by decide) (by decide)).mono ?_
  rintro e w13 ⟨rfl, hb13⟩
  have HW13 : Held w12 w13 := hb13
  replace c0_0 := Held.cell c0_0 HW13
  replace c0_1 := Held.cell c0_1 HW13
  replace hd := hd.tr HW13
  clear hb13 HW13
  go_wp2_with fail
  refine (parse_isno _ (by decide) _ (HE.out.held (hd.alloc _)) parse_a).mono ?_
  rintro e w14 ⟨rfl, hb14⟩
  have HW14 : Held w13 w14 := ((Held.refl w13).alloc _).tr hb14
  replace c0_0 := Held.cell c0_0 HW14
  replace c0_1 := Held.cell c0_1 HW14
  have c1_0 := Held.cell (b := w13.heap.size) (o := 0) (v := .int .i64 0) (by go_simp) hb14
  have c1_1 := Held.cell (b := w13.heap.size) (o := 1) (v := .int .i64 1) (by go_simp) hb14
  replace hd := hd.tr HW14
  clear hb14 HW14
  go_wp2_with fail
  refine (parse_isno _ (by decide) _ (HE.out.held (hd.alloc _)) parse_b).mono ?_
  rintro e w15 ⟨rfl, hb15⟩
  have HW15 : Held w14 w15 := ((Held.refl w14).alloc _).tr hb15
  replace c0_0 := Held.cell c0_0 HW15
  replace c0_1 := Held.cell c0_1 HW15
  replace c1_0 := Held.cell c1_0 HW15
  replace c1_1 := Held.cell c1_1 HW15
  have c2_0 := Held.cell (b := w14.heap.size) (o := 0) (v := .int .i64 0) (by go_simp) hb15
  have c2_1 := Held.cell (b := w14.heap.size) (o := 1) (v := .int .i64 0) (by go_simp) hb15
  replace hd := hd.tr HW15
  clear hb15 HW15
  go_wp2_with fail
  refine (of_any 355 113 _).mono ?_
  rintro e w16 ⟨rfl, hb16⟩
  have HW16 : Held w15 w16 := ((Held.refl w15).alloc _).tr hb16
  replace c0_0 := Held.cell c0_0 HW16
  replace c0_1 := Held.cell c0_1 HW16
  replace c1_0 := Held.cell c1_0 HW16
  replace c1_1 := Held.cell c1_1 HW16
  replace c2_0 := Held.cell c2_0 HW16
  replace c2_1 := Held.cell c2_1 HW16
  have c3_0 := Held.cell (b := w15.heap.size) (o := 0) (v := .int .i64 0) (by go_simp) hb16
  have c3_1 := Held.cell (b := w15.heap.size) (o := 1) (v := .int .i64 0) (by go_simp) hb16
  replace hd := hd.tr HW16
  clear hb16 HW16
  go_wp2_with fail
  refine (near_is 355 113 50 22 7 _ (by decide) near_a).mono ?_
  rintro e w17 ⟨rfl, hb17⟩
  have HW17 : Held w16 w17 := hb17
  replace c0_0 := Held.cell c0_0 HW17
  replace c0_1 := Held.cell c0_1 HW17
  replace c1_0 := Held.cell c1_0 HW17
  replace c1_1 := Held.cell c1_1 HW17
  replace c2_0 := Held.cell c2_0 HW17
  replace c2_1 := Held.cell c2_1 HW17
  replace c3_0 := Held.cell c3_0 HW17
  replace c3_1 := Held.cell c3_1 HW17
  replace hd := hd.tr HW17
  clear hb17 HW17
  go_wp2_with fail
  refine (of_any 1 2 _).mono ?_
  rintro e w18 ⟨rfl, hb18⟩
  have HW18 : Held w17 w18 := ((Held.refl w17).alloc _).tr hb18
  replace c0_0 := Held.cell c0_0 HW18
  replace c0_1 := Held.cell c0_1 HW18
  replace c1_0 := Held.cell c1_0 HW18
  replace c1_1 := Held.cell c1_1 HW18
  replace c2_0 := Held.cell c2_0 HW18
  replace c2_1 := Held.cell c2_1 HW18
  replace c3_0 := Held.cell c3_0 HW18
  replace c3_1 := Held.cell c3_1 HW18
  have c4_0 := Held.cell (b := w17.heap.size) (o := 0) (v := .int .i64 22) (by go_simp) hb18
  have c4_1 := Held.cell (b := w17.heap.size) (o := 1) (v := .int .i64 7) (by go_simp) hb18
  replace hd := hd.tr HW18
  clear hb18 HW18
  go_wp2_with fail
  refine (near_is 1 2 1 0 1 _ (by decide) near_b).mono ?_
  rintro e w19 ⟨rfl, hb19⟩
  have HW19 : Held w18 w19 := hb19
  replace c0_0 := Held.cell c0_0 HW19
  replace c0_1 := Held.cell c0_1 HW19
  replace c1_0 := Held.cell c1_0 HW19
  replace c1_1 := Held.cell c1_1 HW19
  replace c2_0 := Held.cell c2_0 HW19
  replace c2_1 := Held.cell c2_1 HW19
  replace c3_0 := Held.cell c3_0 HW19
  replace c3_1 := Held.cell c3_1 HW19
  replace c4_0 := Held.cell c4_0 HW19
  replace c4_1 := Held.cell c4_1 HW19
  replace hd := hd.tr HW19
  clear hb19 HW19
  have z0 : w11.heap.size < w19.heap.size := World.block_lt_of_cell? _ _ c0_0
  go_wp2_with fail
  refine (told_yes (-3) 2 true (by decide) _).mono ?_
  rintro e w20 ⟨rfl, hb20⟩
  have HW20 : Held w19 w20 := ((Held.refl w19).alloc _).tr hb20
  replace c0_0 := Held.cell c0_0 HW20
  replace c0_1 := Held.cell c0_1 HW20
  replace c1_0 := Held.cell c1_0 HW20
  replace c1_1 := Held.cell c1_1 HW20
  replace c2_0 := Held.cell c2_0 HW20
  replace c2_1 := Held.cell c2_1 HW20
  replace c3_0 := Held.cell c3_0 HW20
  replace c3_1 := Held.cell c3_1 HW20
  replace c4_0 := Held.cell c4_0 HW20
  replace c4_1 := Held.cell c4_1 HW20
  have c5_0 := Held.cell (b := w19.heap.size) (o := 0) (v := .int .i64 0) (by go_simp) hb20
  have c5_1 := Held.cell (b := w19.heap.size) (o := 1) (v := .int .i64 1) (by go_simp) hb20
  replace hd := hd.tr HW20
  clear hb20 HW20
  go_wp2_with fail
  refine (told_yes 0 1 true (by decide) _).mono ?_
  rintro e w21 ⟨rfl, hb21⟩
  have HW21 : Held w20 w21 := hb21
  replace c0_0 := Held.cell c0_0 HW21
  replace c0_1 := Held.cell c0_1 HW21
  replace c1_0 := Held.cell c1_0 HW21
  replace c1_1 := Held.cell c1_1 HW21
  replace c2_0 := Held.cell c2_0 HW21
  replace c2_1 := Held.cell c2_1 HW21
  replace c3_0 := Held.cell c3_0 HW21
  replace c3_1 := Held.cell c3_1 HW21
  replace c4_0 := Held.cell c4_0 HW21
  replace c4_1 := Held.cell c4_1 HW21
  replace c5_0 := Held.cell c5_0 HW21
  replace c5_1 := Held.cell c5_1 HW21
  replace hd := hd.tr HW21
  clear hb21 HW21
  go_wp2_with fail
  refine (of_any (-1) 2 _).mono ?_
  rintro e w22 ⟨rfl, hb22⟩
  have HW22 : Held w21 w22 := hb22
  replace c0_0 := Held.cell c0_0 HW22
  replace c0_1 := Held.cell c0_1 HW22
  replace c1_0 := Held.cell c1_0 HW22
  replace c1_1 := Held.cell c1_1 HW22
  replace c2_0 := Held.cell c2_0 HW22
  replace c2_1 := Held.cell c2_1 HW22
  replace c3_0 := Held.cell c3_0 HW22
  replace c3_1 := Held.cell c3_1 HW22
  replace c4_0 := Held.cell c4_0 HW22
  replace c4_1 := Held.cell c4_1 HW22
  replace c5_0 := Held.cell c5_0 HW22
  replace c5_1 := Held.cell c5_1 HW22
  replace hd := hd.tr HW22
  clear hb22 HW22
  go_wp2_with fail
  refine (text_is (-1) 2 _ _ (by decide) (HE.out.held hd) text_a).mono ?_
  rintro e w23 ⟨rfl, hb23⟩
  have HW23 : Held w22 w23 := hb23
  replace c0_0 := Held.cell c0_0 HW23
  replace c0_1 := Held.cell c0_1 HW23
  replace c1_0 := Held.cell c1_0 HW23
  replace c1_1 := Held.cell c1_1 HW23
  replace c2_0 := Held.cell c2_0 HW23
  replace c2_1 := Held.cell c2_1 HW23
  replace c3_0 := Held.cell c3_0 HW23
  replace c3_1 := Held.cell c3_1 HW23
  replace c4_0 := Held.cell c4_0 HW23
  replace c4_1 := Held.cell c4_1 HW23
  replace c5_0 := Held.cell c5_0 HW23
  replace c5_1 := Held.cell c5_1 HW23
  replace hd := hd.tr HW23
  clear hb23 HW23
  go_wp2_with fail
  refine (told_yes 0 0 false (by decide) _).mono ?_
  rintro e w24 ⟨rfl, hb24⟩
  have HW24 : Held w23 w24 := hb24
  replace c0_0 := Held.cell c0_0 HW24
  replace c0_1 := Held.cell c0_1 HW24
  replace c1_0 := Held.cell c1_0 HW24
  replace c1_1 := Held.cell c1_1 HW24
  replace c2_0 := Held.cell c2_0 HW24
  replace c2_1 := Held.cell c2_1 HW24
  replace c3_0 := Held.cell c3_0 HW24
  replace c3_1 := Held.cell c3_1 HW24
  replace c4_0 := Held.cell c4_0 HW24
  replace c4_1 := Held.cell c4_1 HW24
  replace c5_0 := Held.cell c5_0 HW24
  replace c5_1 := Held.cell c5_1 HW24
  replace hd := hd.tr HW24
  clear hb24 HW24
  go_wp2_with fail
  refine (told_yes 0 0 false (by decide) _).mono ?_
  rintro e w25 ⟨rfl, hb25⟩
  have HW25 : Held w24 w25 := hb25
  replace c0_0 := Held.cell c0_0 HW25
  replace c0_1 := Held.cell c0_1 HW25
  replace c1_0 := Held.cell c1_0 HW25
  replace c1_1 := Held.cell c1_1 HW25
  replace c2_0 := Held.cell c2_0 HW25
  replace c2_1 := Held.cell c2_1 HW25
  replace c3_0 := Held.cell c3_0 HW25
  replace c3_1 := Held.cell c3_1 HW25
  replace c4_0 := Held.cell c4_0 HW25
  replace c4_1 := Held.cell c4_1 HW25
  replace c5_0 := Held.cell c5_0 HW25
  replace c5_1 := Held.cell c5_1 HW25
  replace hd := hd.tr HW25
  clear hb25 HW25
  go_wp2_with fail
  refine (told_yes 22 7 true (by decide) _).mono ?_
  rintro e w26 ⟨rfl, hb26⟩
  have HW26 : Held w25 w26 := hb26
  replace c0_0 := Held.cell c0_0 HW26
  replace c0_1 := Held.cell c0_1 HW26
  replace c1_0 := Held.cell c1_0 HW26
  replace c1_1 := Held.cell c1_1 HW26
  replace c2_0 := Held.cell c2_0 HW26
  replace c2_1 := Held.cell c2_1 HW26
  replace c3_0 := Held.cell c3_0 HW26
  replace c3_1 := Held.cell c3_1 HW26
  replace c4_0 := Held.cell c4_0 HW26
  replace c4_1 := Held.cell c4_1 HW26
  replace c5_0 := Held.cell c5_0 HW26
  replace c5_1 := Held.cell c5_1 HW26
  replace hd := hd.tr HW26
  clear hb26 HW26
  go_wp2_with fail
  refine (told_yes 0 1 true (by decide) _).mono ?_
  rintro e w27 ⟨rfl, hb27⟩
  have HW27 : Held w26 w27 := hb27
  replace c0_0 := Held.cell c0_0 HW27
  replace c0_1 := Held.cell c0_1 HW27
  replace c1_0 := Held.cell c1_0 HW27
  replace c1_1 := Held.cell c1_1 HW27
  replace c2_0 := Held.cell c2_0 HW27
  replace c2_1 := Held.cell c2_1 HW27
  replace c3_0 := Held.cell c3_0 HW27
  replace c3_1 := Held.cell c3_1 HW27
  replace c4_0 := Held.cell c4_0 HW27
  replace c4_1 := Held.cell c4_1 HW27
  replace c5_0 := Held.cell c5_0 HW27
  replace c5_1 := Held.cell c5_1 HW27
  replace hd := hd.tr HW27
  clear hb27 HW27
  go_wp2_with fail
  go_ret
  exact ⟨rfl, hd⟩

end Go.Proofs.YtghnmamdfinbpaaDoor

/-
  The walk of the reference's Parse; that it answers as ratio's.
-/
import Derived.Test.YtghnmamdfinbpaaDoorRefText
import Derived.Lib.IndexBytes
namespace Go.Proofs.YtghnmamdfinbpaaDoor
open Go.RowKit Go.Sort

theorem rnumber_any (s : ByteArray) (hs : s.size ≤ 40) (w : World) :
    Calls Tryd.prog 37 #[.string s] w fun e w' => e = .returned (numV (numL s.data.toList)) ∧ Held w w' := by
  by_cases h : s.data.toList.head? = some 45
  · exact rnum_neg s hs h w
  · exact rnum_pos s hs h w

theorem numV_parts (o : Option Int) : ∃ (v : Int) (k : Bool), numV o = .tuple #[.int .i64 v, .bool k] ∧ o = if k then some v else none := by
  cases o with
  | none => exact ⟨0, false, rfl, rfl⟩
  | some v => exact ⟨v, true, rfl, rfl⟩

/-- the ratio whose text that is, by the reference's numbers. -/
def parseL (l : List UInt8) : Option (Int × Int) :=
  if (Lib.cut l [47]).2.2 then
    match numL (Lib.cut l [47]).1, numL (Lib.cut l [47]).2.1 with
    | some a, some b => if mayR a b then some (a, b) else none
    | _, _ => none
  else none

theorem num_cases (l : List UInt8) : numL l = numOf l ∨ (numL l = none ∧ ∃ v, numOf l = some v ∧ ¬ (-10000000000 < v ∧ v < 10000000000)) := by
  cases h : numL l with
  | some v => exact .inl (num_to h).symm
  | none =>
    cases h2 : numOf l with
    | none => exact .inl rfl
    | some v =>
      refine .inr ⟨rfl, v, rfl, fun hv => ?_⟩
      rw [num_back h2 hv] at h
      cases h

theorem may_no {a b : Int} (h : ¬ (-10000000000 < a ∧ a < 10000000000) ∨ ¬ (-10000000000 < b ∧ b < 10000000000)) : mayR a b = false := by
  rw [Bool.eq_false_iff]
  intro hm
  have := mayR_bounds hm
  omega

theorem parse_same (l : List UInt8) : parseL l = parseO l := by
  unfold parseL parseO
  generalize Lib.cut l [47] = c
  obtain ⟨x, y, z⟩ := c
  simp only
  cases z
  · rfl
  · rw [if_pos rfl, if_pos rfl]
    rcases num_cases x with hx | ⟨hx, u, hu, hu2⟩
    · rw [hx]
      rcases num_cases y with hy | ⟨hy, v, hv, hv2⟩
      · rw [hy]
        cases numOf x <;> cases numOf y <;> rfl
      · rw [hy, hv]
        cases numOf x with
        | none => rfl
        | some a => simp [may_no (.inr hv2)]
    · rw [hx, hu]
      cases hy : numOf y with
      | none => rfl
      | some v => simp [may_no (.inl hu2)]

theorem cut_at {l : List UInt8} {i : Nat} (h : l[i]? = some 47) (hno : ∀ k : Nat, k < i → l[k]? ≠ some 47) : Lib.cut l [47] = (l.take i, l.drop (i + 1), true) := by
  have e : Lib.index l [47] = i := by
    rw [Lib.index_one]
    rcases Int.lt_or_le (Lib.indexByte l 47) 0 with h0 | h0
    · have := Lib.indexByte_ge l 47
      exact absurd h (Lib.indexByte_none (by omega) i)
    · obtain ⟨o, ho⟩ := Int.eq_ofNat_of_zero_le h0
      obtain ⟨a, b⟩ := Lib.indexByte_some ho
      have h1 : ¬ o < i := fun hh => hno o hh a
      have h2 : ¬ i < o := fun hh => b i hh h
      omega
  unfold Lib.cut
  rw [e, if_pos (by omega)]
  simp

theorem cut_none {l : List UInt8} (hno : ∀ k : Nat, l[k]? ≠ some 47) : (Lib.cut l [47]).2.2 = false := by
  have e : Lib.index l [47] < 0 := by
    rw [Lib.index_one]
    rcases Int.lt_or_le (Lib.indexByte l 47) 0 with h0 | h0
    · exact h0
    · obtain ⟨o, ho⟩ := Int.eq_ofNat_of_zero_le h0
      exact absurd (Lib.indexByte_some ho).1 (hno o)
  unfold Lib.cut
  rw [if_neg (by omega)]

theorem extract_take (s : ByteArray) (i : Nat) : (s.extract 0 i).data.toList = s.data.toList.take i := by
  simp [ByteArray.data_extract, Array.toList_extract, List.extract_eq_take_drop]

theorem extract_drop (s : ByteArray) (i : Nat) : (s.extract i s.size).data.toList = s.data.toList.drop i := by
  have e : s.data.toList.length = s.size := rfl
  simp only [ByteArray.data_extract, Array.toList_extract, List.extract_eq_take_drop]
  apply List.take_of_length_le
  simp [e]

set_option maxRecDepth 20000 in
set_option maxHeartbeats 800000 in
theorem rparse_any (s : ByteArray) (hs : s.size ≤ 40) (w : World) :
    Calls Tryd.prog 14 #[.string s] w fun e w' => e = .returned (pairV (parseL s.data.toList)) ∧ Held w w' := by
  go_enter Tryd.func14, Tryd.ntmps14
  go_wp2_with fail
  go_loop [4] (fun t4 => ∃ i : Nat, t4 = .int .i64 i ∧ i ≤ s.size ∧ Hid (∀ k : Nat, k < i → s.data.toList[k]? ≠ some 47)) (fun t4 => s.size - (intOf t4).toNat)
  case atStart => exact ⟨0, rfl, by omega, fun k hk => absurd hk (Nat.not_lt_zero k)⟩
  case round =>
    obtain ⟨i, rfl, hi, HI⟩ := hrel
    by_cases hlt : i < s.size
    · have hlt' : decide ((i : Int) < (s.size : Int)) = true := by simp; omega
      by_cases hd1 : s[i] = 47
      · have hd1' : (s[i].toNat : Int) = 47 := by rw [hd1]; rfl
        have CU := hid (cut_at (by rw [data_get s i hlt, hd1]) HI.out)
        obtain ⟨v1, k1, e1, p1⟩ := numV_parts (numL (s.data.toList.take i))
        obtain ⟨v2, k2, e2, p2⟩ := numV_parts (numL (s.data.toList.drop (i + 1)))
        have N1 := hid (fun w => rnumber_any (s.extract 0 i) (by simp; omega) w)
        have N2 := hid (fun w => rnumber_any (s.extract (i + 1) s.size) (by simp; omega) w)
        rw [extract_take, e1] at N1
        rw [extract_drop, e2] at N2
        have P : Hid (parseL s.data.toList = if k1 && k2 then (if mayR v1 v2 then some (v1, v2) else none) else none) := by
          show parseL _ = _
          unfold parseL
          rw [CU.out]
          simp only [if_true]
          rw [p1, p2]
          cases k1 <;> cases k2 <;> rfl
        clear e1 e2 p1 p2
        go_wp2_with fail
        refine (N1.out _).mono ?_
        rintro e w1 ⟨rfl, hb1⟩
        have c0 := Held.cell (b := w.heap.size) (o := 0) (v := .int .i64 0) (by simp) hb1
        have c1 := Held.cell (b := w.heap.size) (o := 1) (v := .int .i64 0) (by simp) hb1
        have f0 := Held.frozen (b := w.heap.size) (o := 0) (v := .int .i64 0) (x := false) (by simp) (by simp) hb1
        have f1 := Held.frozen (b := w.heap.size) (o := 1) (v := .int .i64 0) (x := false) (by simp) (by simp) hb1
        have hd : Held w w1 := ((Held.refl w).alloc _).tr hb1
        clear hb1
        go_wp2_with fail
        refine (N2.out _).mono ?_
        rintro e w2 ⟨rfl, hb2⟩
        replace f0 := Held.frozen c0 f0 hb2
        replace f1 := Held.frozen c1 f1 hb2
        replace c0 := Held.cell c0 hb2
        replace c1 := Held.cell c1 hb2
        replace hd := hd.tr hb2
        clear hb2 N1 N2
        have hz : w.heap.size < w2.heap.size := World.block_lt_of_cell? _ _ c0
        cases k1
        · go_wp2_with fail
          exact bodyPost_ret (v := .tuple #[.agg #[.int .i64 0, .int .i64 0], .bool false]) (by simp [results, Tryd.results14, go_sem, c0, c1, hz]) rfl ⟨by rw [P.out]; rfl, ((hd.set _ (by simp)).set _ (by simp)).alloc _⟩
        cases k2
        · go_wp2_with fail
          exact bodyPost_ret (v := .tuple #[.agg #[.int .i64 0, .int .i64 0], .bool false]) (by simp [results, Tryd.results14, go_sem, c0, c1, hz]) rfl ⟨by rw [P.out]; rfl, ((hd.set _ (by simp)).set _ (by simp)).alloc _⟩
        obtain ⟨z, hz0⟩ : ∃ z, mayR v1 v2 = z := ⟨_, rfl⟩
        have M := hid hz0
        clear hz0
        go_wp2_with fail
        refine (rmay_any v1 v2 z M.out _).mono ?_
        rintro e w3 ⟨rfl, hb3⟩
        have HW : Held w2 w3 := ((Held.refl w2).alloc _).tr hb3
        have e8 := Held.cell (b := w2.heap.size) (o := 0) (v := .int .i64 v1) (by go_simp) hb3
        have e9 := Held.cell (b := w2.heap.size) (o := 1) (v := .int .i64 v2) (by go_simp) hb3
        replace f0 := Held.frozen c0 f0 HW
        replace f1 := Held.frozen c1 f1 HW
        replace c0 := Held.cell c0 HW
        replace c1 := Held.cell c1 HW
        replace hd := hd.tr HW
        clear HW hb3 hz
        cases z
        · go_wp2_with fail
          exact bodyPost_ret (v := .tuple #[.agg #[.int .i64 0, .int .i64 0], .bool false]) (by simp [results, Tryd.results14, go_sem, c0, c1]) rfl ⟨by rw [P.out, M.out]; rfl, (hd.set _ (by simp)).set _ (by simp)⟩
        · go_wp2_with fail
          exact bodyPost_ret (v := .tuple #[.agg #[.int .i64 v1, .int .i64 v2], .bool true]) (by simp [results, Tryd.results14, go_sem, c0, c1]) rfl ⟨by rw [P.out, M.out]; rfl, (hd.set _ (by simp)).set _ (by simp)⟩
      · have hd1' : ((s[i].toNat : Int) == 47) = false := by
          simp
          intro h
          exact hd1 (UInt8.toNat_inj.1 (show s[i].toNat = 47 by omega))
        go_wp2_with fail
        go_round
        case rel => exact ⟨i + 1, rfl, by omega, fun k hk h => by
          rcases Nat.lt_or_ge k i with h1 | h1
          · exact HI.out k h1 h
          · obtain rfl : k = i := by omega
            rw [data_get s k hlt] at h
            exact hd1 (Option.some.inj h)⟩
        case measure => simp [intOf]; omega
    · have hlt' : decide ((i : Int) < (s.size : Int)) = false := by simp; omega
      have P : Hid (parseL s.data.toList = none) := by
        show parseL _ = _
        unfold parseL
        rw [cut_none (fun k h => ?_)]
        · rfl
        · rcases Nat.lt_or_ge k i with h1 | h1
          · exact HI.out k h1 h
          · rw [List.getElem?_eq_none (by rw [data_len]; omega)] at h
            cases h
      go_wp2_with fail
      exact bodyPost_ret (v := .tuple #[.agg #[.int .i64 0, .int .i64 0], .bool false]) (by simp [results, Tryd.results14, go_sem]) rfl ⟨by rw [P.out]; rfl, (Held.refl w).alloc _⟩

end Go.Proofs.YtghnmamdfinbpaaDoor

/-
  The walk of the reference's Number.
-/
import Derived.Test.YtghnmamdfinbpaaDoorRefA
import Derived.Lib.Atoi
namespace Go.Proofs.YtghnmamdfinbpaaDoor
open Go.RowKit Go.Sort

/-- is it no number, by its length or by a 0 ahead? -/
def badB (l : List UInt8) (neg : Bool) : Bool := decide (l.length = 0) || decide (10 < l.length) || (decide (l.head? = some 48) && (decide (1 < l.length) || neg))

/-- what the reference's Number answers behind the sign. -/
def numB (l : List UInt8) (neg : Bool) : Option Int :=
  if badB l neg then none else (Lib.decFrom 0 l).map fun n => if neg then -(n : Int) else n

def numV : Option Int → Value
  | some v => .tuple #[.int .i64 v, .bool true]
  | none => .tuple #[.int .i64 0, .bool false]

/-- what the reference's Number answers. -/
def numL (l : List UInt8) : Option Int := if l.head? = some 45 then numB l.tail true else numB l false

theorem data_get (s : ByteArray) (i : Nat) (h : i < s.size) : s.data.toList[i]? = some s[i] := by
  rw [List.getElem?_eq_getElem (by simpa using h)]
  rfl

theorem head_get (s : ByteArray) (h : 0 < s.size) : s.data.toList.head? = some s[0] := by
  rw [List.head?_eq_getElem?, data_get s 0 h]

theorem data_len (s : ByteArray) : s.data.toList.length = s.size := rfl

theorem extract_tail (s : ByteArray) : (s.extract 1 s.size).data.toList = s.data.toList.tail := by
  have e : s.data.toList.length = s.size := rfl
  simp only [ByteArray.data_extract, Array.toList_extract, List.extract_eq_take_drop, List.drop_one]
  apply List.take_of_length_le
  simp [e]

theorem decFrom_bad {l : List UInt8} {k : Nat} {b : UInt8} (h : l[k]? = some b) (hb : Lib.digitVal b = none) : Lib.decFrom 0 l = none := by
  cases hd : Lib.decFrom 0 l with
  | none => rfl
  | some n => obtain ⟨d, h2⟩ := Lib.digit_of_decFrom l 0 n hd k b h; rw [hb] at h2; cases h2

theorem decFrom_upto {l : List UInt8} {i n : Nat} (h : Lib.decFrom 0 (l.take i) = some n) (hi : i ≤ 10) : n < 10000000000 := by
  have h1 := Lib.decFrom_lt _ _ _ h
  have h2 : (l.take i).length ≤ 10 := by simp; omega
  have h3 : 10 ^ (l.take i).length ≤ 10 ^ 10 := Nat.pow_le_pow_right (by decide) h2
  have e : (10 : Nat) ^ 10 = 10000000000 := by decide
  omega

set_option maxRecDepth 20000 in
set_option maxHeartbeats 800000 in
theorem rnum_neg (s : ByteArray) (hs : s.size ≤ 40) (hneg : s.data.toList.head? = some 45) (w : World) :
    Calls Tryd.prog 37 #[.string s] w fun e w' => e = .returned (numV (numL s.data.toList)) ∧ Held w w' := by
  have h0 : 0 < s.size := by
    rcases Nat.eq_zero_or_pos s.size with h0 | h0
    · have : s.data.toList = [] := List.length_eq_zero_iff.1 h0
      rw [this] at hneg; cases hneg
    · exact h0
  have h1 : s[0] = 45 := by rw [head_get s h0] at hneg; exact Option.some.inj hneg
  have HN := hid (show numL s.data.toList = numB (s.extract 1 s.size).data.toList true by unfold numL; rw [if_pos hneg, extract_tail])
  have hm : (s.extract 1 s.size).size ≤ 40 := by simp; omega
  clear hneg
  go_enter Tryd.func37, Tryd.ntmps37
  go_upto_region 5 with fail
  generalize s.extract 1 s.size = m at *

  by_cases e0 : m.size = 0
  · have t0 : m.toList.isEmpty = true := by rw [ByteArray.toList_eq]; simpa using List.length_eq_zero_iff.1 (show m.data.toList.length = 0 from e0)
    have HB := hid (show numB m.data.toList true = none by unfold numB; rw [if_pos]; simp [badB, e0])
    go_wp2_with fail
    go_ret2
    exact ⟨by rw [HN.out, HB.out]; rfl, Held.refl _⟩
  have t0 : m.toList.isEmpty = false := by
    rw [ByteArray.toList_eq]
    cases h : m.data.toList with
    | nil => exact absurd (show m.size = 0 from by rw [← data_len, h]; rfl) e0
    | cons => rfl
  have e1 : 0 < m.size := by omega
  by_cases e2 : 10 < m.size
  · have t1 : decide (10 < (m.size : Int)) = true := by simp; omega
    have HB := hid (show numB m.data.toList true = none by unfold numB; rw [if_pos]; simp [badB, e2])
    go_wp2_with fail
    go_ret2
    exact ⟨by rw [HN.out, HB.out]; rfl, Held.refl _⟩
  have t1 : decide (10 < (m.size : Int)) = false := by simp; omega
  have hgd : ∀ (hx : ¬ (m[0] = 48 ∧ (1 < m.size ∨ true = true))), badB m.data.toList true = false := by
    intro hx
    rw [Bool.eq_false_iff]
    intro hb
    apply hx
    simp only [badB, Bool.or_eq_true, Bool.and_eq_true, decide_eq_true_eq, data_len, head_get m e1, Option.some.injEq] at hb
    rcases hb with (h | h) | ⟨h, h2⟩
    · omega
    · omega
    · exact ⟨h, by first | exact h2 | simp⟩
  have hbad : m[0] = 48 → (1 < m.size ∨ true = true) → numB m.data.toList true = none := by
    intro h1 h2
    unfold numB; rw [if_pos]
    simp only [badB, Bool.or_eq_true, Bool.and_eq_true, decide_eq_true_eq, data_len, head_get m e1, Option.some.injEq]
    exact .inr ⟨h1, by first | exact h2 | simp⟩
  have HGD := hid hgd
  have HBAD := hid hbad
  clear hgd hbad
  by_cases e3 : m[0] = 48
  · have t3 : (m[0] == 48) = true := by simpa using e3
    have HB := hid (HBAD.out e3 (.inr rfl))
    by_cases e4 : 1 < m.size
    · have t4 : decide (1 < (m.size : Int)) = true := by simp; omega
      go_wp2_with fail
      go_ret2
      exact ⟨by rw [HN.out, HB.out]; rfl, Held.refl _⟩
    · have t4 : decide (1 < (m.size : Int)) = false := by simp; omega
      go_wp2_with fail
      go_ret2
      exact ⟨by rw [HN.out, HB.out]; rfl, Held.refl _⟩
  · have t3 : (m[0] == 48) = false := by simpa using e3
    have t3' : ((m[0].toNat : Int) == 48) = false := by
      simp
      intro h
      exact e3 (UInt8.toNat_inj.1 (show m[0].toNat = 48 by omega))
    have HG := hid (HGD.out fun h => e3 h.1)
    clear HGD HBAD
    go_wp2_with fail
    go_loop [5, 6] (fun t5 t6 => ∃ i n : Nat, t5 = .int .i64 n ∧ t6 = .int .i64 i ∧ i ≤ m.size ∧ Hid (Lib.decFrom 0 (m.data.toList.take i) = some n)) (fun _ t6 => m.size - (intOf t6).toNat)
    case atStart => exact ⟨0, 0, rfl, rfl, by omega, rfl⟩
    case round =>
      obtain ⟨i, n, rfl, rfl, hi, HI⟩ := hrel
      have hn := decFrom_upto HI.out (by omega)
      by_cases hlt : i < m.size
      · have hlt' : decide ((i : Int) < (m.size : Int)) = true := by simp; omega
        by_cases hd1 : (m[i].toNat : Int) < 48
        · have hd1' : decide ((m[i].toNat : Int) < 48) = true := by simp; omega
          have HB := hid (show numB m.data.toList true = none by unfold numB; rw [if_neg (by rw [HG.out]; simp), decFrom_bad (data_get m i hlt) (by unfold Lib.digitVal; rw [if_neg]; omega)]; rfl)
          go_wp2_with fail
          go_ret2
          exact ⟨by rw [HN.out, HB.out]; rfl, Held.refl _⟩
        · have hd1' : decide ((m[i].toNat : Int) < 48) = false := by simp; omega
          by_cases hd2 : 57 < (m[i].toNat : Int)
          · have hd2' : decide (57 < (m[i].toNat : Int)) = true := by simp; omega
            have HB := hid (show numB m.data.toList true = none by unfold numB; rw [if_neg (by rw [HG.out]; simp), decFrom_bad (data_get m i hlt) (by unfold Lib.digitVal; rw [if_neg]; omega)]; rfl)
            go_wp2_with fail
            go_ret2
            exact ⟨by rw [HN.out, HB.out]; rfl, Held.refl _⟩
          · have hd2' : decide (57 < (m[i].toNat : Int)) = false := by simp; omega
            go_wp2_with fail
            go_round
            case rel => exact ⟨i + 1, n * 10 + (m[i].toNat - 48), congrArg (Value.int .i64) (by omega), rfl, by omega, Lib.decFrom_take _ _ _ _ _ _ HI.out (data_get m i hlt) (by unfold Lib.digitVal; rw [if_pos (by omega)])⟩
            case measure => simp [intOf]; omega
      · have hlt' : decide ((i : Int) < (m.size : Int)) = false := by simp; omega
        have hie : i = m.size := by omega
        have hnn : Lib.decFrom 0 m.data.toList = some n := by
          have := HI.out
          rw [hie, List.take_of_length_le (by rw [data_len]; omega)] at this
          exact this
        have HB := hid (show numB m.data.toList true = some (-1 * (n : Int)) by unfold numB; rw [if_neg (by rw [HG.out]; simp), hnn]; simp)
        clear hnn
        go_wp2_with fail
        go_ret2
        exact ⟨by rw [HN.out, HB.out]; simp [numV], Held.refl _⟩

set_option maxRecDepth 20000 in
set_option maxHeartbeats 800000 in
theorem rnum_pos (m : ByteArray) (hm : m.size ≤ 40) (hneg : ¬ m.data.toList.head? = some 45) (w : World) :
    Calls Tryd.prog 37 #[.string m] w fun e w' => e = .returned (numV (numL m.data.toList)) ∧ Held w w' := by
  have HN := hid (show numL m.data.toList = numB m.data.toList false by unfold numL; rw [if_neg hneg])
  have hsign : ∀ h : 0 < m.size, ¬ m[0] = 45 := fun h0 h => hneg (by rw [head_get m h0, h])
  clear hneg
  go_enter Tryd.func37, Tryd.ntmps37

  by_cases e0 : m.size = 0
  · have t0 : m.toList.isEmpty = true := by rw [ByteArray.toList_eq]; simpa using List.length_eq_zero_iff.1 (show m.data.toList.length = 0 from e0)
    have HB := hid (show numB m.data.toList false = none by unfold numB; rw [if_pos]; simp [badB, e0])
    go_wp2_with fail
    go_ret2
    exact ⟨by rw [HN.out, HB.out]; rfl, Held.refl _⟩
  have t0 : m.toList.isEmpty = false := by
    rw [ByteArray.toList_eq]
    cases h : m.data.toList with
    | nil => exact absurd (show m.size = 0 from by rw [← data_len, h]; rfl) e0
    | cons => rfl
  have e1 : 0 < m.size := by omega
  have hs1 := hsign e1
  have hs2 : ((m[0].toNat : Int) == 45) = false := by
    simp
    intro h
    exact hs1 (UInt8.toNat_inj.1 (show m[0].toNat = 45 by omega))
  by_cases e2 : 10 < m.size
  · have t1 : decide (10 < (m.size : Int)) = true := by simp; omega
    have HB := hid (show numB m.data.toList false = none by unfold numB; rw [if_pos]; simp [badB, e2])
    go_wp2_with fail
    go_ret2
    exact ⟨by rw [HN.out, HB.out]; rfl, Held.refl _⟩
  have t1 : decide (10 < (m.size : Int)) = false := by simp; omega
  have hgd : ∀ (hx : ¬ (m[0] = 48 ∧ (1 < m.size ∨ false = true))), badB m.data.toList false = false := by
    intro hx
    rw [Bool.eq_false_iff]
    intro hb
    apply hx
    simp only [badB, Bool.or_eq_true, Bool.and_eq_true, decide_eq_true_eq, data_len, head_get m e1, Option.some.injEq] at hb
    rcases hb with (h | h) | ⟨h, h2⟩
    · omega
    · omega
    · exact ⟨h, by first | exact h2 | simp⟩
  have hbad : m[0] = 48 → (1 < m.size ∨ false = true) → numB m.data.toList false = none := by
    intro h1 h2
    unfold numB; rw [if_pos]
    simp only [badB, Bool.or_eq_true, Bool.and_eq_true, decide_eq_true_eq, data_len, head_get m e1, Option.some.injEq]
    exact .inr ⟨h1, by first | exact h2 | simp⟩
  have HGD := hid hgd
  have HBAD := hid hbad
  clear hgd hbad
  by_cases e3 : m[0] = 48
  · have t3 : (m[0] == 48) = true := by simpa using e3
    by_cases e4 : 1 < m.size
    · have HB := hid (HBAD.out e3 (.inl e4))
      have t4 : decide (1 < (m.size : Int)) = true := by simp; omega
      go_wp2_with fail
      go_ret2
      exact ⟨by rw [HN.out, HB.out]; rfl, Held.refl _⟩
    · have t4 : decide (1 < (m.size : Int)) = false := by simp; omega
      have HG := hid (HGD.out fun h => h.2.elim e4 (fun h => by cases h))
      clear HGD HBAD
      go_wp2_with fail
      go_loop [5, 6] (fun t5 t6 => ∃ i n : Nat, t5 = .int .i64 n ∧ t6 = .int .i64 i ∧ i ≤ m.size ∧ Hid (Lib.decFrom 0 (m.data.toList.take i) = some n)) (fun _ t6 => m.size - (intOf t6).toNat)
      case atStart => exact ⟨0, 0, rfl, rfl, by omega, rfl⟩
      case round =>
        obtain ⟨i, n, rfl, rfl, hi, HI⟩ := hrel
        have hn := decFrom_upto HI.out (by omega)
        by_cases hlt : i < m.size
        · have hlt' : decide ((i : Int) < (m.size : Int)) = true := by simp; omega
          by_cases hd1 : (m[i].toNat : Int) < 48
          · have hd1' : decide ((m[i].toNat : Int) < 48) = true := by simp; omega
            have HB := hid (show numB m.data.toList false = none by unfold numB; rw [if_neg (by rw [HG.out]; simp), decFrom_bad (data_get m i hlt) (by unfold Lib.digitVal; rw [if_neg]; omega)]; rfl)
            go_wp2_with fail
            go_ret2
            exact ⟨by rw [HN.out, HB.out]; rfl, Held.refl _⟩
          · have hd1' : decide ((m[i].toNat : Int) < 48) = false := by simp; omega
            by_cases hd2 : 57 < (m[i].toNat : Int)
            · have hd2' : decide (57 < (m[i].toNat : Int)) = true := by simp; omega
              have HB := hid (show numB m.data.toList false = none by unfold numB; rw [if_neg (by rw [HG.out]; simp), decFrom_bad (data_get m i hlt) (by unfold Lib.digitVal; rw [if_neg]; omega)]; rfl)
              go_wp2_with fail
              go_ret2
              exact ⟨by rw [HN.out, HB.out]; rfl, Held.refl _⟩
            · have hd2' : decide (57 < (m[i].toNat : Int)) = false := by simp; omega
              go_wp2_with fail
              go_round
              case rel => exact ⟨i + 1, n * 10 + (m[i].toNat - 48), congrArg (Value.int .i64) (by omega), rfl, by omega, Lib.decFrom_take _ _ _ _ _ _ HI.out (data_get m i hlt) (by unfold Lib.digitVal; rw [if_pos (by omega)])⟩
              case measure => simp [intOf]; omega
        · have hlt' : decide ((i : Int) < (m.size : Int)) = false := by simp; omega
          have hie : i = m.size := by omega
          have hnn : Lib.decFrom 0 m.data.toList = some n := by
            have := HI.out
            rw [hie, List.take_of_length_le (by rw [data_len]; omega)] at this
            exact this
          have HB := hid (show numB m.data.toList false = some (1 * (n : Int)) by unfold numB; rw [if_neg (by rw [HG.out]; simp), hnn]; simp)
          clear hnn
          go_wp2_with fail
          go_ret2
          exact ⟨by rw [HN.out, HB.out]; simp [numV], Held.refl _⟩
  · have t3 : (m[0] == 48) = false := by simpa using e3
    have t3' : ((m[0].toNat : Int) == 48) = false := by
      simp
      intro h
      exact e3 (UInt8.toNat_inj.1 (show m[0].toNat = 48 by omega))
    have HG := hid (HGD.out fun h => e3 h.1)
    clear HGD HBAD
    go_wp2_with fail
    go_loop [5, 6] (fun t5 t6 => ∃ i n : Nat, t5 = .int .i64 n ∧ t6 = .int .i64 i ∧ i ≤ m.size ∧ Hid (Lib.decFrom 0 (m.data.toList.take i) = some n)) (fun _ t6 => m.size - (intOf t6).toNat)
    case atStart => exact ⟨0, 0, rfl, rfl, by omega, rfl⟩
    case round =>
      obtain ⟨i, n, rfl, rfl, hi, HI⟩ := hrel
      have hn := decFrom_upto HI.out (by omega)
      by_cases hlt : i < m.size
      · have hlt' : decide ((i : Int) < (m.size : Int)) = true := by simp; omega
        by_cases hd1 : (m[i].toNat : Int) < 48
        · have hd1' : decide ((m[i].toNat : Int) < 48) = true := by simp; omega
          have HB := hid (show numB m.data.toList false = none by unfold numB; rw [if_neg (by rw [HG.out]; simp), decFrom_bad (data_get m i hlt) (by unfold Lib.digitVal; rw [if_neg]; omega)]; rfl)
          go_wp2_with fail
          go_ret2
          exact ⟨by rw [HN.out, HB.out]; rfl, Held.refl _⟩
        · have hd1' : decide ((m[i].toNat : Int) < 48) = false := by simp; omega
          by_cases hd2 : 57 < (m[i].toNat : Int)
          · have hd2' : decide (57 < (m[i].toNat : Int)) = true := by simp; omega
            have HB := hid (show numB m.data.toList false = none by unfold numB; rw [if_neg (by rw [HG.out]; simp), decFrom_bad (data_get m i hlt) (by unfold Lib.digitVal; rw [if_neg]; omega)]; rfl)
            go_wp2_with fail
            go_ret2
            exact ⟨by rw [HN.out, HB.out]; rfl, Held.refl _⟩
          · have hd2' : decide (57 < (m[i].toNat : Int)) = false := by simp; omega
            go_wp2_with fail
            go_round
            case rel => exact ⟨i + 1, n * 10 + (m[i].toNat - 48), congrArg (Value.int .i64) (by omega), rfl, by omega, Lib.decFrom_take _ _ _ _ _ _ HI.out (data_get m i hlt) (by unfold Lib.digitVal; rw [if_pos (by omega)])⟩
            case measure => simp [intOf]; omega
      · have hlt' : decide ((i : Int) < (m.size : Int)) = false := by simp; omega
        have hie : i = m.size := by omega
        have hnn : Lib.decFrom 0 m.data.toList = some n := by
          have := HI.out
          rw [hie, List.take_of_length_le (by rw [data_len]; omega)] at this
          exact this
        have HB := hid (show numB m.data.toList false = some (1 * (n : Int)) by unfold numB; rw [if_neg (by rw [HG.out]; simp), hnn]; simp)
        clear hnn
        go_wp2_with fail
        go_ret2
        exact ⟨by rw [HN.out, HB.out]; simp [numV], Held.refl _⟩

end Go.Proofs.YtghnmamdfinbpaaDoor

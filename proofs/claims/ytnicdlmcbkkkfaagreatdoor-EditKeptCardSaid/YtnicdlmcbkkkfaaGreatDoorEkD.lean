/-
  EditKept: what the program answers of a deed is what the reference answers.
  EditKept: the walks of tintypelaw37.wide, heavy and great, which only read.
  EditKept: the program's Kept and the reference's answer the same row; the walk of tintypelaw37.EditKept.
  EditKept: what the row reads of a deed, opened.
-/
import Derived.Test.YtnicdlmcbkkkfaaGreatDoorEkC
import Derived.ProofKit
import Derived.OpenShut
import Derived.Deep.Slices
import Derived.Deep.Fields
import Derived.ChangeSame
namespace Go.Proofs.YtnicdlmcbkkkfaaGreatDoor

section
/-- the numbers below n. -/
def upF (n : Nat) : List Int := (List.range n).map Int.ofNat
theorem upF_get (n i : Nat) : (upF n)[i]? = if i < n then some (i : Int) else none := by
  unfold upF
  rw [List.getElem?_map]
  by_cases h : i < n
  · rw [if_pos h, List.getElem?_range h]; rfl
  · rw [if_neg h, List.getElem?_eq_none (by simp; omega)]; rfl
theorem upF_length (n : Nat) : (upF n).length = n := by simp [upF]
theorem upF_succ (n : Nat) : upF (n + 1) = upF n ++ [(n : Int)] := by simp [upF, List.range_succ]
theorem fill_get (n i : Nat) : (fillF n n)[i]? = if i < n then some (i : Int) else if i = n then some 0 else none := by
  unfold fillF
  rw [List.getElem?_map]
  by_cases h : i < n + 1
  · rw [List.getElem?_range h]
    by_cases h2 : i < n
    · simp [h2]
    · have : i = n := by omega
      subst this; simp
  · rw [List.getElem?_eq_none (by simp; omega), if_neg (by omega), if_neg (by omega)]; rfl
theorem fill_length (n : Nat) : (fillF n n).length = n + 1 := by simp [fillF]

theorem from_low {k : Int} (hk : k ≤ 6) (m : Nat) : ∀ i, fromL k m i = upF i
  | 0 => rfl
  | i + 1 => by
    rw [fromL, from_low hk m i, upF_succ, fromS, if_neg (by omega), if_neg (by omega)]
theorem from_7 (m : Nat) : ∀ i, fromL 7 m i = if m < i then upF m ++ -1 :: (upF i).drop m else upF i
  | 0 => rfl
  | i + 1 => by
    rw [fromL, from_7 m i]
    by_cases h1 : m < i
    · have s : fromS 7 m i = [(i : Int)] := by unfold fromS; rw [if_neg (by omega), if_neg (by omega)]
      rw [if_pos h1, s, if_pos (by omega), upF_succ, List.drop_append_of_le_length (by rw [upF_length]; omega)]
      simp
    · rw [if_neg h1]
      by_cases h2 : i = m
      · subst h2
        have s : fromS 7 i i = [-1, (i : Int)] := by unfold fromS; rw [if_pos ⟨rfl, rfl⟩]
        rw [s, if_pos (by omega), upF_succ, List.drop_append_of_le_length (by rw [upF_length]; omega), List.drop_of_length_le (by rw [upF_length]; omega)]
        simp
      · have s : fromS 7 m i = [(i : Int)] := by unfold fromS; rw [if_neg (by omega), if_neg (by omega)]
        rw [s, if_neg (by omega), upF_succ]
theorem from_8 {k : Int} (hk : 8 ≤ k) (m : Nat) : ∀ i, fromL k m i = if m < i then upF m ++ (upF i).drop (m + 1) else upF i
  | 0 => rfl
  | i + 1 => by
    rw [fromL, from_8 hk m i]
    by_cases h1 : m < i
    · have s : fromS k m i = [(i : Int)] := by unfold fromS; rw [if_neg (by omega), if_neg (by omega)]
      rw [if_pos h1, s, if_pos (by omega), upF_succ, List.drop_append_of_le_length (by rw [upF_length]; omega)]
      simp
    · rw [if_neg h1]
      by_cases h2 : i = m
      · subst h2
        have s : fromS k i i = [] := by unfold fromS; rw [if_neg (by omega), if_pos ⟨hk, rfl⟩]
        rw [s, if_pos (by omega), List.drop_of_length_le (by rw [upF_length]; omega)]
      · have s : fromS k m i = [(i : Int)] := by unfold fromS; rw [if_neg (by omega), if_neg (by omega)]
        rw [s, if_neg (by omega), upF_succ]

theorem mark_take (l : List Int) (j : Nat) : (markF l j).take j = markF (l.take j) j := by
  apply List.ext_getElem?
  intro i
  rw [List.getElem?_take, markF_get, markF_get, List.getElem?_take]
  split <;> rfl
theorem mark_same {k : Int} (hk : ¬ k ≤ 5) (m : Nat) (l : List Int) (j : Nat) : markR k m l j = markF l j := by
  apply List.ext_getElem?
  intro i
  rw [markR_get, markF_get]
  simp [hk]

set_option maxHeartbeats 1600000 in
theorem del_get (n m i : Nat) (hm : m < n) : (delF (fillF n n) n m)[i]? = if i < m then some (i : Int) else if i < n - 1 then some ((i + 1 : Nat) : Int) else if i < n + 1 then some 0 else none := by
  unfold delF
  have e : m + (n - (m + 1)) = n - 1 := by omega
  rw [e]
  simp only [List.getElem?_set, List.getElem?_append, List.getElem?_take, List.getElem?_drop, List.length_append, List.length_take, List.length_drop, fill_length, fill_get]
  have e1 : min m (n + 1) = m := by omega
  have e2 : min (n - (m + 1)) (n + 1 - (m + 1)) = n - (m + 1) := by omega
  rw [e1, e2]
  repeat' split
  all_goals first
    | rfl
    | omega
    | (exfalso; omega)
    | (congr 1; omega)
set_option maxHeartbeats 1600000 in
theorem op_take (k m t n : Nat) (h6 : ¬ k ≤ 5) (h9 : k ≤ 9) (hm : m ≤ n) (hm7 : k ≠ 7 → m < n) (ht : k = 9 → t < n) : (opF k m t n).take (opN k n) = fromF k m t n := by
  have hk : k = 6 ∨ k = 7 ∨ k = 8 ∨ k = 9 := by omega
  rcases hk with rfl | rfl | rfl | rfl
  · unfold opF opN fromF fromE
    rw [if_neg (by omega), if_pos rfl, if_neg (by omega), if_neg (by omega), if_neg (by omega), if_neg (by omega), from_low (by omega)]
    apply List.ext_getElem?
    intro i
    rw [List.getElem?_take, fill_get, upF_get]
    repeat' split
    all_goals first | rfl | omega
  · have e : fromF ((7 : Nat) : Int) m t n = upF m ++ -1 :: (upF n).drop m := by
      unfold fromF fromE
      rw [if_neg (by omega), show ((7 : Nat) : Int) = 7 from rfl, from_7]
      by_cases h : m = n
      · rw [if_pos ⟨rfl, h⟩, if_neg (by omega), h, List.drop_of_length_le (by rw [upF_length]; omega)]
      · rw [if_neg (by omega), if_pos (by omega)]
    have o : opF 7 m t n = insF (fillF n n) n m (-1) := by unfold opF; rw [if_neg (by omega), if_neg (by omega), if_pos rfl]
    rw [e, o, show opN 7 n = n + 1 from rfl]
    unfold insF
    apply List.ext_getElem?
    intro i
    simp only [List.getElem?_take, List.getElem?_append, List.getElem?_cons, List.getElem?_drop, List.length_append, List.length_cons, List.length_take, List.length_drop, fill_length, fill_get, upF_get, upF_length]
    repeat' split
    all_goals first
      | rfl
      | omega
      | (congr 1; omega)
  · have e : fromF ((8 : Nat) : Int) m t n = upF m ++ (upF n).drop (m + 1) := by
      unfold fromF fromE
      rw [if_neg (by omega), if_neg (by omega), from_8 (by omega), if_pos (hm7 (by omega))]
    have o : opF 8 m t n = delF (fillF n n) n m := by unfold opF; rw [if_neg (by omega), if_neg (by omega), if_neg (by omega), if_pos rfl]
    rw [e, o, show opN 8 n = n - 1 from rfl]
    have := hm7 (by omega)
    apply List.ext_getElem?
    intro i
    simp only [List.getElem?_take, List.getElem?_append, List.getElem?_drop, del_get n m _ this, upF_get, upF_length]
    repeat' split
    all_goals first
      | rfl
      | omega
      | (congr 1; omega)
  · have e : fromF ((9 : Nat) : Int) m t n = (upF m ++ (upF n).drop (m + 1)).take t ++ [(m : Int)] ++ (upF m ++ (upF n).drop (m + 1)).drop t := by
      unfold fromF fromE
      rw [if_pos (by rfl), if_neg (by omega), from_8 (by omega), if_pos (hm7 (by omega))]
    have o : opF 9 m t n = insF (delF (fillF n n) n m) (n - 1) t m := by unfold opF; rw [if_neg (by omega), if_neg (by omega), if_neg (by omega), if_neg (by omega)]
    rw [e, o, show opN 9 n = n from rfl]
    unfold insF
    have h1 := hm7 (by omega)
    have h2 := ht rfl
    have hl : (delF (fillF n n) n m).length = n + 1 := by simp [delF, fill_length]; omega
    have hl2 : (upF m ++ (upF n).drop (m + 1)).length = n - 1 := by simp [upF_length]; omega
    apply List.ext_getElem?
    intro i
    simp only [List.getElem?_take, List.getElem?_append, List.getElem?_cons, List.getElem?_drop, List.length_append, List.length_cons, List.length_nil, List.getElem?_nil, List.length_take, List.length_drop, hl, del_get n m _ h1, upF_get, upF_length]
    have e1 : min t (n + 1) = t := by omega
    have e2 : min t (m + (n - (m + 1))) = t := by omega
    have e3 : min (n - 1 - t) (n + 1 - t) = n - 1 - t := by omega
    rw [e1, e2, e3]
    repeat' split
    all_goals first
      | rfl
      | omega
      | (congr 1; omega)

set_option maxHeartbeats 1600000 in
/-- THE PROGRAM'S ORIGINS ARE THE REFERENCE'S. -/
theorem kept_eq (k m t n : Nat) (h9 : k ≤ 9) (hm : m ≤ n) (hm7 : k ≠ 7 → m < n) (ht : k = 9 → t < n) : keptF k m t n = markR k m (fromF k m t n) (fromF k m t n).length := by
  by_cases h5 : k ≤ 5
  · have hf : fromF k m t n = upF n := by
      unfold fromF fromE
      rw [if_neg (by omega), if_neg (by omega), from_low (by omega)]
    rw [hf]
    unfold keptF opF opN
    rw [if_neg (by omega), if_neg (by omega), if_pos h5]
    apply List.ext_getElem?
    intro i
    have := hm7 (by omega)
    have h5' : (k : Int) ≤ 5 := by omega
    simp only [List.getElem?_take, markF_get, markR_get, List.getElem?_set, fill_get, fill_length, upF_get, upF_length, h5', true_and]
    by_cases hi : i < n
    · rw [if_pos hi, if_pos hi]
      by_cases e : m = i
      · subst e
        rw [if_pos rfl, if_pos (by omega)]
        simp [hi]
      · rw [if_neg e]
        have : ¬ ((i : Int) = m) := by omega
        simp [hi, this]
    · rw [if_neg hi, if_neg hi]; rfl
  · unfold keptF
    rw [mark_take, op_take k m t n h5 h9 hm hm7 ht, mark_same (by omega)]
    have hl : (fromF k m t n).length ≤ opN k n := by rw [← op_take k m t n h5 h9 hm hm7 ht, List.length_take]; omega
    apply List.ext_getElem?
    intro i
    rw [markF_get, markF_get]
    by_cases hi : i < (fromF k m t n).length
    · have : i < opN k n := by omega
      simp [hi, this]
    · rw [List.getElem?_eq_none (by omega)]; rfl
theorem fromE_long (k m n t : Nat) (h8 : k = 9) (hm : m < n) (ht : t < n) : t ≤ (fromE k m n).length := by
  unfold fromE
  rw [if_neg (by omega), from_8 (by omega), if_pos hm]
  simp [upF_length]; omega
end

section
open Go.RowKit

/-- a row of tags in memory: each one's bytes are a slice. -/
def TagsAt (w : World) (A : Option Addr) (n : Nat) : Prop :=
  n ≠ 0 → ∃ ad, A = some ad ∧ ad.block < w.heap.size ∧ ∀ i, i < n → ∃ B m c, w.cell? (ad.add (i * 4 + 3)) = some (.slice B m c)

theorem TagsAt.keep {w w' : World} {A : Option Addr} {n : Nat} (h : TagsAt w A n) (hw : Held w w') : TagsAt w' A n := by
  intro hn
  obtain ⟨ad, rfl, hb, hc⟩ := h hn
  refine ⟨ad, rfl, Nat.lt_of_lt_of_le hb hw.size, fun i hi => ?_⟩
  obtain ⟨B, m, c, h⟩ := hc i hi
  exact ⟨B, m, c, hw.at_ h⟩

/-- some answer of yes or no. -/
def AnyB (w : World) (e : Ending) (w' : World) : Prop := ∃ b, e = .returned (.bool b) ∧ Held w w'

set_option maxRecDepth 20000 in
set_option maxHeartbeats 3200000 in
theorem wide_any (A : Option Addr) (n c : Nat) (w : World) (h : TagsAt w A n) (hn : n ≤ maxLen) :
    Calls Tryz.prog 18 #[.slice A n c] w (AnyB w) := by
  have H := Lib.hid h
  have hn2 : n ≤ 9223372036854775807 := Nat.le_trans hn (by decide)
  clear h hn
  go_enter Tryz.func18, Tryz.ntmps18
  go_wp2_with fail
  go_loopw [3] (fun t3 wr => ∃ k : Nat, t3 = .int .i64 k ∧ k ≤ n ∧ Held w wr) (fun t3 _ => n - (intOf t3).toNat)
  case atStart => exact ⟨0, rfl, Nat.zero_le _, Held.refl w⟩
  case round =>
    obtain ⟨k, rfl, hk, hw⟩ := hrel
    by_cases hlt : k < n
    · have hlt' : decide ((k : Int) < (n : Int)) = true := by simp; omega
      obtain ⟨ad, rfl, hb, hc⟩ := (H.out.keep hw) (by omega)
      obtain ⟨B, m, c2, hcell⟩ := hc k hlt
      have c0 : wr.cell? ⟨(ad.add (k * 4)).block, (ad.add (k * 4)).off + 1 + 2, none⟩ = some (.slice B m c2) := by
        rw [Nat.add_assoc, ← add_off _ _ _ (by omega), add_of_add]; exact hcell
      clear hc
      go_wp2_with fail
      all_goals first
        | (go_ret; exact ⟨_, rfl, hw⟩)
        | (go_roundw
           case rel => exact ⟨k + 1, by go_num, by omega, hw⟩
           case measure => simp [intOf]; omega)
    · have hlt' : decide ((k : Int) < (n : Int)) = false := by simp; omega
      obtain rfl : k = n := by omega
      go_wp2_with fail
      go_ret
      exact ⟨_, rfl, hw⟩

/-- a member's cells. -/
structure MemIs (w : World) (M : Array Value) : Prop where
  ex : ∃ (o x y z : Int) (A1 A2 A3 A4 A5 A6 A7 A8 A9 A13 : Option Addr) (n1 n2 n3 n4 n5 n6 n7 n8 n9 n13 c1 c2 c3 c4 c5 c6 c7 c8 c9 c13 : Nat),
    M = #[.int .i64 o, .slice A1 n1 c1, .slice A2 n2 c2, .slice A3 n3 c3, .slice A4 n4 c4, .slice A5 n5 c5, .slice A6 n6 c6, .slice A7 n7 c7, .slice A8 n8 c8, .slice A9 n9 c9, .int .i64 x, .int .i64 y, .int .i64 z, .slice A13 n13 c13] ∧
    (TagsAt w A1 n1 ∧ n1 ≤ maxLen) ∧ (TagsAt w A2 n2 ∧ n2 ≤ maxLen) ∧ (TagsAt w A3 n3 ∧ n3 ≤ maxLen) ∧ (TagsAt w A4 n4 ∧ n4 ≤ maxLen) ∧ (TagsAt w A5 n5 ∧ n5 ≤ maxLen) ∧ (TagsAt w A13 n13 ∧ n13 ≤ maxLen)

theorem wide_at {A : Option Addr} {n c : Nat} {w : World} (h : TagsAt w A n ∧ n ≤ maxLen) : Hid (∀ w', Held w w' → Calls Tryz.prog 18 #[.slice A n c] w' (AnyB w')) :=
  Lib.hid fun w' hw => wide_any A n c w' (h.1.keep hw) h.2

set_option maxRecDepth 20000 in
set_option maxHeartbeats 6400000 in
theorem heavy_any (M : Array Value) (w : World) (h : MemIs w M) :
    Calls Tryz.prog 9 #[.agg M] w (AnyB w) := by
  obtain ⟨o, x, y, z, A1, A2, A3, A4, A5, A6, A7, A8, A9, A13, n1, n2, n3, n4, n5, n6, n7, n8, n9, n13, c1, c2, c3, c4, c5, c6, c7, c8, c9, c13, rfl, h1, h2, h3, h4, h5, h13⟩ := h
  have H1 := wide_at (c := c1) h1
  have H2 := wide_at (c := c2) h2
  have H3 := wide_at (c := c3) h3
  have H4 := wide_at (c := c4) h4
  have H5 := wide_at (c := c5) h5
  have H13 := wide_at (c := c13) h13
  clear h1 h2 h3 h4 h5 h13
  go_enter Tryz.func9, Tryz.ntmps9
  go_wp2_with fail
  refine (H1.out _ (((Held.refl w).alloc _).alloc _)).mono ?_
  rintro e w1 ⟨b, rfl, hd⟩
  have K1 := Lib.hid (show Held w w1 from (((Held.refl w).alloc _).alloc _).tr hd)
  have k1_2 : w1.cell? ⟨w.heap.size + 1, 2, none⟩ = some (.slice A2 n2 c2) := hd.cell (by go_simp)
  have k1_3 : w1.cell? ⟨w.heap.size + 1, 3, none⟩ = some (.slice A3 n3 c3) := hd.cell (by go_simp)
  have k1_4 : w1.cell? ⟨w.heap.size + 1, 4, none⟩ = some (.slice A4 n4 c4) := hd.cell (by go_simp)
  have k1_5 : w1.cell? ⟨w.heap.size + 1, 5, none⟩ = some (.slice A5 n5 c5) := hd.cell (by go_simp)
  have k1_13 : w1.cell? ⟨w.heap.size, 13, none⟩ = some (.slice A13 n13 c13) := hd.cell (by go_simp)
  have k1_6 : w1.cell? ⟨w.heap.size + 1, 6, none⟩ = some (.slice A6 n6 c6) := hd.cell (by go_simp)
  have k1_7 : w1.cell? ⟨w.heap.size + 1, 7, none⟩ = some (.slice A7 n7 c7) := hd.cell (by go_simp)
  have k1_8 : w1.cell? ⟨w.heap.size, 8, none⟩ = some (.slice A8 n8 c8) := hd.cell (by go_simp)
  have k1_9 : w1.cell? ⟨w.heap.size, 9, none⟩ = some (.slice A9 n9 c9) := hd.cell (by go_simp)
  clear hd
  cases b with
  | true =>
    go_wp2_with fail
    go_ret
    exact ⟨_, rfl, K1.out⟩
  | false =>
    go_wp2_with fail
    refine (H2.out _ K1.out).mono ?_
    rintro e w2 ⟨b, rfl, hd⟩
    have K2 := Lib.hid (K1.out.tr hd)
    have k2_3 := hd.cell k1_3
    have k2_4 := hd.cell k1_4
    have k2_5 := hd.cell k1_5
    have k2_13 := hd.cell k1_13
    have k2_6 := hd.cell k1_6
    have k2_7 := hd.cell k1_7
    have k2_8 := hd.cell k1_8
    have k2_9 := hd.cell k1_9
    clear k1_2 k1_3 k1_4 k1_5 k1_13 k1_6 k1_7 k1_8 k1_9
    clear hd
    cases b with
    | true =>
      go_wp2_with fail
      go_ret
      exact ⟨_, rfl, K2.out⟩
    | false =>
      go_wp2_with fail
      refine (H3.out _ K2.out).mono ?_
      rintro e w3 ⟨b, rfl, hd⟩
      have K3 := Lib.hid (K2.out.tr hd)
      have k3_4 := hd.cell k2_4
      have k3_5 := hd.cell k2_5
      have k3_13 := hd.cell k2_13
      have k3_6 := hd.cell k2_6
      have k3_7 := hd.cell k2_7
      have k3_8 := hd.cell k2_8
      have k3_9 := hd.cell k2_9
      clear k2_3 k2_4 k2_5 k2_13 k2_6 k2_7 k2_8 k2_9
      clear hd
      cases b with
      | true =>
        go_wp2_with fail
        go_ret
        exact ⟨_, rfl, K3.out⟩
      | false =>
        go_wp2_with fail
        refine (H4.out _ K3.out).mono ?_
        rintro e w4 ⟨b, rfl, hd⟩
        have K4 := Lib.hid (K3.out.tr hd)
        have k4_5 := hd.cell k3_5
        have k4_13 := hd.cell k3_13
        have k4_6 := hd.cell k3_6
        have k4_7 := hd.cell k3_7
        have k4_8 := hd.cell k3_8
        have k4_9 := hd.cell k3_9
        clear k3_4 k3_5 k3_13 k3_6 k3_7 k3_8 k3_9
        clear hd
        cases b with
        | true =>
          go_wp2_with fail
          go_ret
          exact ⟨_, rfl, K4.out⟩
        | false =>
          go_wp2_with fail
          refine (H5.out _ K4.out).mono ?_
          rintro e w5 ⟨b, rfl, hd⟩
          have K5 := Lib.hid (K4.out.tr hd)
          have k5_13 := hd.cell k4_13
          have k5_6 := hd.cell k4_6
          have k5_7 := hd.cell k4_7
          have k5_8 := hd.cell k4_8
          have k5_9 := hd.cell k4_9
          clear k4_5 k4_13 k4_6 k4_7 k4_8 k4_9
          clear hd
          cases b with
          | true =>
            go_wp2_with fail
            go_ret
            exact ⟨_, rfl, K5.out⟩
          | false =>
            go_wp2_with fail
            refine (H13.out _ K5.out).mono ?_
            rintro e w6 ⟨b, rfl, hd⟩
            have K6 := Lib.hid (K5.out.tr hd)
            have k6_6 := hd.cell k5_6
            have k6_7 := hd.cell k5_7
            have k6_8 := hd.cell k5_8
            have k6_9 := hd.cell k5_9
            clear k5_13 k5_6 k5_7 k5_8 k5_9
            clear hd
            cases b with
            | true =>
              go_wp2_with fail
              go_ret
              exact ⟨_, rfl, K6.out⟩
            | false =>
              go_wp2_with fail
              all_goals (go_ret; exact ⟨_, rfl, K6.out⟩)

/-- what is known of a deed's cells. -/
structure DeedIn (w : World) (D : Array Value) : Prop where
  size : D.size = 26
  mem : ∃ M : Array Value, MemIs w M ∧ ∀ (j : Nat) (v : Value), M.toList[j]? = some v → D.toList[11 + j]? = some v
  six : ∃ A n c, D[6]? = some (.slice A n c)
  seven : ∃ A n c, D[7]? = some (.slice A n c)

theorem MemIs.keep {w w' : World} {M : Array Value} (h : MemIs w M) (hw : Held w w') : MemIs w' M := by
  obtain ⟨o, x, y, z, A1, A2, A3, A4, A5, A6, A7, A8, A9, A13, n1, n2, n3, n4, n5, n6, n7, n8, n9, n13, c1, c2, c3, c4, c5, c6, c7, c8, c9, c13, rfl, h1, h2, h3, h4, h5, h13⟩ := h
  exact ⟨⟨o, x, y, z, A1, A2, A3, A4, A5, A6, A7, A8, A9, A13, n1, n2, n3, n4, n5, n6, n7, n8, n9, n13, c1, c2, c3, c4, c5, c6, c7, c8, c9, c13, rfl, ⟨h1.1.keep hw, h1.2⟩, ⟨h2.1.keep hw, h2.2⟩, ⟨h3.1.keep hw, h3.2⟩, ⟨h4.1.keep hw, h4.2⟩, ⟨h5.1.keep hw, h5.2⟩, ⟨h13.1.keep hw, h13.2⟩⟩⟩

set_option maxRecDepth 20000 in
set_option maxHeartbeats 6400000 in
theorem great_any (D : Array Value) (w : World) (h : DeedIn w D) : Calls Tryz.prog 4 #[.agg D] w (AnyB w) := by
  obtain ⟨hs, ⟨M, hM, hMD⟩, ⟨A6, n6, c6, h6⟩, ⟨A7, n7, c7, h7⟩⟩ := h
  have HM := Lib.hid (fun w' (hw : Held w w') => heavy_any M w' (hM.keep hw))
  have hsz : M.size = 14 := by
    obtain ⟨o, x, y, z, A1, A2, A3, A4, A5, A6, A7, A8, A9, A13, n1, n2, n3, n4, n5, n6, n7, n8, n9, n13, c1, c2, c3, c4, c5, c6, c7, c8, c9, c13, rfl, _⟩ := hM
    rfl
  have HL := Lib.hid (show (w.alloc (.cells D 33)).rangeAt w.heap.size 11 M.toList from fun j v hj => by
    have := DeedAt.new w D 33 _ v (hMD j v hj)
    rwa [Nat.zero_add] at this)
  have d6 : (w.alloc (.cells D 33)).cell? ⟨w.heap.size, 6, none⟩ = some (.slice A6 n6 c6) := by
    have := DeedAt.new w D 33 6 (.slice A6 n6 c6) (by rw [Array.getElem?_toList]; exact h6)
    simpa using this
  have d7 : (w.alloc (.cells D 33)).cell? ⟨w.heap.size, 7, none⟩ = some (.slice A7 n7 c7) := by
    have := DeedAt.new w D 33 7 (.slice A7 n7 c7) (by rw [Array.getElem?_toList]; exact h7)
    simpa using this
  have HZ := Lib.hid hsz
  clear hM hMD h6 h7 hsz hs
  go_enter Tryz.func4, Tryz.ntmps4
  have hi : (Tryz.prog.info? 31).map (·.size) = some M.toList.length := by
    rw [Array.length_toList, HZ.out]; kernel_rfl
  have HI := Lib.hid hi
  clear hi
  go_wp2_with (with_reducible refine wpList_load_mid rfl 31 (.tmp 3) rfl w.heap.size 11 rfl M.toList _ HL.out Tryz.underlying31 (by kernel_rfl) HI.out ?_; rw [Array.toArray_toList])
  refine (HM.out _ ((Held.refl w).alloc _)).mono ?_
  rintro e w1 ⟨b, rfl, hd⟩
  have K1 := Lib.hid (show Held w w1 from ((Held.refl w).alloc _).tr hd)
  have k6 := hd.cell d6
  have k7 := hd.cell d7
  clear hd d6 d7 HL
  cases b with
  | true =>
    go_wp2_with fail
    go_ret
    exact ⟨_, rfl, K1.out⟩
  | false =>
    go_wp2_with fail
    all_goals (go_ret; exact ⟨_, rfl, K1.out⟩)
end

section
open Go.RowKit

/-- a row that a call made, and that may be written. -/
def RetK (w : World) (L : List Int) (e : Ending) (w' : World) : Prop :=
  ∃ A cap, e = .returned (.slice A L.length cap) ∧ Held w w' ∧ IntsAt w' A L ∧ (L ≠ [] → ∃ g cur, A = some ⟨g, 0, none⟩ ∧ w.heap.size ≤ g ∧ BlkI w' g cur ∧ L.length ≤ cur.length)
/-- a row that a call made, to be read. -/
def RetQ (w : World) (L : List Int) (e : Ending) (w' : World) : Prop :=
  ∃ A cap, e = .returned (.slice A L.length cap) ∧ Held w w' ∧ IntsAt w' A L ∧ ∀ ad, A = some ad → w.heap.size ≤ ad.block

theorem OwnI.retK {w w' : World} {L : List Int} {e : Ending} (h : OwnI w L e w') : RetK w L e w' := by
  obtain ⟨g, cap, cur, he, hb, ht, hl, hg, hw⟩ := h
  refine ⟨_, cap, he, hw, ?_, fun _ => ⟨g, cur, rfl, hg, hb, hl⟩⟩
  have := hb.ints' (n := L.length)
  rwa [ht] at this
theorem RetK.nil {w w' : World} {e : Ending} (h : e = .returned (.slice none 0 0) ∧ Held w w') : RetK w [] e w' := ⟨none, 0, h.1, h.2, IntsAt.none _, fun h => absurd rfl h⟩
theorem RetQ.nil {w w' : World} {e : Ending} (h : e = .returned (.slice none 0 0) ∧ Held w w') : RetQ w [] e w' := ⟨none, 0, h.1, h.2, IntsAt.none _, fun _ h => by cases h⟩
theorem RetI.retQ {w w' : World} {L : List Int} {e : Ending} (h : RetI w L e w') : RetQ w L e w' := by
  obtain ⟨v, rfl, ho, hw⟩ := h
  rcases ho.form with ⟨rfl, rfl⟩ | ⟨g, cap, rfl, hb, _, _, hi, _⟩
  · exact RetQ.nil ⟨rfl, hw⟩
  · exact ⟨_, cap, rfl, hw, hi, fun ad e => by cases e; exact hb⟩

/-- what is answered of any deed. -/
def keptD (n k m to : Int) : List Int := if 1 ≤ n ∧ n ≤ 1000 ∧ 1 ≤ k ∧ k ≤ 9 ∧ thereB n k m to = true then keptF k.toNat m.toNat to.toNat n.toNat else []

theorem kept_both (n k m to : Int) (D : Array Value) (hD : DeedOk D k m to) : (keptD n k m to).length ≤ 3000 ∧ (∀ w, Calls Tryz.prog 6 #[.int .i64 n, .agg D] w (RetK w (keptD n k m to))) ∧
    (∀ w, Calls Tryz.prog 7 #[.int .i64 n, .agg D] w (RetQ w (keptD n k m to))) := by
  by_cases h : 1 ≤ n ∧ n ≤ 1000 ∧ 1 ≤ k ∧ k ≤ 9 ∧ thereB n k m to = true
  · obtain ⟨h1, h2, h3, h4, hth⟩ := h
    have hth' := hth
    unfold thereB at hth'
    simp only [decide_eq_true_eq] at hth'
    obtain ⟨m0, m1, m2⟩ := hth'
    obtain ⟨n, rfl⟩ := Int.eq_ofNat_of_zero_le (show 0 ≤ n by omega)
    obtain ⟨k, rfl⟩ := Int.eq_ofNat_of_zero_le (show 0 ≤ k by omega)
    obtain ⟨m, rfl⟩ := Int.eq_ofNat_of_zero_le m0
    have hm : m ≤ n := by split at m1 <;> omega
    have hm7 : k ≠ 7 → m < n := by intro e; rw [if_neg (by omega)] at m1; omega
    have ht : k = 9 → to = to.toNat ∧ to.toNat < n := by intro e; omega
    rw [show keptD n k m to = keptF k m to.toNat n by unfold keptD; rw [if_pos ⟨h1, h2, h3, h4, hth⟩]; rfl]
    refine ⟨?_, fun w => ?_, fun w => ?_⟩
    · rw [kept_eq k m to.toNat n (by omega) hm hm7 (fun e => (ht e).2), markR_length]
      have := fromF_len k m to.toNat n
      omega
    · exact (kept_yes n k m to.toNat to D hD (by omega) (by omega) (by omega) (by omega) hm hm7 ht hth w).mono fun e w' h => OwnI.retK h
    · rw [kept_eq k m to.toNat n (by omega) hm hm7 (fun e => (ht e).2)]
      refine (rkept_yes n m to.toNat k to D hD h3 h4 (by omega) (by omega) hm (by intro e; exact hm7 (by omega)) ?_ w).mono fun e w' h => RetI.retQ h
      intro e
      have h5 := hm7 (by omega)
      obtain ⟨h6, h7⟩ := ht (by omega)
      exact ⟨h6, h7, fromE_long k m n to.toNat (by omega) h5 h7⟩
  · rw [show keptD n k m to = [] by unfold keptD; rw [if_neg h]]
    refine ⟨by simp, fun w => ?_, fun w => ?_⟩
    · exact (kept_no n k m to D hD h w).mono fun e w' h => RetK.nil h
    · exact (rkept_no n k m to D hD h w).mono fun e w' h => RetQ.nil h

theorem IntsAt.turned {w w' : World} {g : Nat} {A : Option Addr} {l : List Int} (h : IntsAt w A l) (ht : Turned w w' g) (hn : ∀ ad, A = some ad → ad.block ≠ g) : IntsAt w' A l := by
  intro hl
  obtain ⟨ad, rfl, hb, hc⟩ := h hl
  refine ⟨ad, rfl, Nat.lt_of_lt_of_le hb ht.size, fun k x hk => ?_⟩
  rw [← hc k x hk]
  exact World.cell?_of_block (by rw [block_of_add]; exact ht.block _ hb (hn ad rfl))

set_option maxRecDepth 20000 in
set_option maxHeartbeats 3200000 in
theorem edit_any (n k m to : Int) (D : Array Value) (hD : DeedOk D k m to) (w : World) (hG : ∀ w', Held w w' → Calls Tryz.prog 4 #[.agg D] w' (AnyB w'))
    (hA : ∀ w, Calls Tryz.prog 5 #[] w fun e w' => e = .returned (.bool true) ∧ Held w w') :
    Calls Tryz.prog 3 #[.int .i64 n, .agg D] w fun e w' => e = .returned (.bool true) ∧ Held w w' := by
  obtain ⟨hL, hK, hR⟩ := kept_both n k m to D hD
  generalize keptD n k m to = L at *
  have HG := Lib.hid hG
  have HA := Lib.hid hA
  have HK := Lib.hid hK
  have HR := Lib.hid hR
  have HS := Lib.hid hD.size
  obtain ⟨N, hN⟩ : ∃ N, L.length = N := ⟨_, rfl⟩
  rw [hN] at hL
  have HN := Lib.hid hN
  clear hD hG hA hK hR hN
  go_enter Tryz.func3, Tryz.ntmps3
  have HD0 := Lib.hid (DeedAt.new w D 33)
  have H0 := Lib.hid ((Held.refl w).alloc (.cells D 33))
  by_cases hn : 1100 < n
  · have hn' : decide (1100 < n) = true := by simp [hn]
    go_wp2_with fail
    refine (HA.out _).mono ?_
    rintro e w1 ⟨rfl, hd⟩
    have H1 := Lib.hid (H0.out.tr hd)
    clear hd
    go_wp2_with fail
    go_ret
    exact ⟨rfl, H1.out⟩
  have hn' : decide (1100 < n) = false := by simp; omega
  go_wp2_with (with_reducible refine load_deed_g (.tmp 3) rfl w.heap.size rfl D HS.out HD0.out (by simp [Region.wanted, yielded]) ?_)
  refine (HG.out _ H0.out).mono ?_
  rintro e w1 ⟨b, rfl, hd1⟩
  have H1 := Lib.hid (H0.out.tr hd1)
  have HD1 := Lib.hid (HD0.out.held hd1)
  have hs01 : w.heap.size + 1 ≤ w1.heap.size := by have := hd1.size; simpa using this
  clear hd1
  cases b with
  | true =>
    go_wp2_with fail
    refine (HA.out _).mono ?_
    rintro e w2 ⟨rfl, hd⟩
    have H2 := Lib.hid (H1.out.tr hd)
    clear hd
    go_wp2_with fail
    go_ret
    exact ⟨rfl, H2.out⟩
  | false =>
    go_wp2_with (with_reducible refine load_deed rfl (.tmp 3) rfl w.heap.size rfl D HS.out HD1.out ?_)
    refine (HK.out _).mono ?_
    rintro e w2 ⟨A, c, rfl, hd2, hi2, hw2⟩
    rw [HN.out]
    have H2 := Lib.hid (H1.out.tr hd2)
    have HD2 := Lib.hid (HD1.out.held hd2)
    have HI2 := Lib.hid hi2
    have HW2 := Lib.hid hw2
    have hs0 : w.heap.size + 1 ≤ w1.heap.size := hs01
    clear hd2 hi2 hw2
    go_wp2_with (with_reducible refine load_deed rfl (.tmp 3) rfl w.heap.size rfl D HS.out HD2.out ?_)
    refine (HR.out _).mono ?_
    rintro e w3 ⟨A3, c3, rfl, hd3, hi3, hb3⟩
    rw [HN.out]
    have H3 := Lib.hid (H2.out.tr hd3)
    have HD3 := Lib.hid (HD2.out.held hd3)
    have HI2' := Lib.hid (HI2.out.keep hd3)
    have HI3 := Lib.hid hi3
    have HW3 := Lib.hid (show L ≠ [] → ∃ g cur, A = some ⟨g, 0, none⟩ ∧ w1.heap.size ≤ g ∧ g < w2.heap.size ∧ BlkI w3 g cur ∧ L.length ≤ cur.length from fun h => by
      obtain ⟨g, cur, e, h1, h2, h3⟩ := HW2.out h
      exact ⟨g, cur, e, h1, h2.lt, h2.held hd3, h3⟩)
    have HB3 := Lib.hid hb3
    clear hd3 hi3 hb3 HW2 HI2
    go_wp2_with fail
    have HC := Lib.hid (fun w' h h2 => ints_any L L A A3 c c3 w' h h2 (by rw [HN.out]; omega) (by rw [HN.out]; omega))
    rw [HN.out] at HC
    refine (HC.out _ HI2'.out HI3.out).mono ?_
    rintro e w4 ⟨rfl, hd4⟩
    have H4 := Lib.hid (H3.out.tr hd4)
    have HD4 := Lib.hid (HD3.out.held hd4)
    have HI4 := Lib.hid (HI3.out.keep hd4)
    have HW4 := Lib.hid (show L ≠ [] → ∃ g cur, A = some ⟨g, 0, none⟩ ∧ w1.heap.size ≤ g ∧ g < w2.heap.size ∧ BlkI w4 g cur ∧ L.length ≤ cur.length from fun h => by
      obtain ⟨g, cur, e, h1, h2, h3, h4⟩ := HW3.out h
      exact ⟨g, cur, e, h1, h2, h3.held hd4, h4⟩)
    clear hd4 HW3 HI3 HI2' HC HR HG
    rw [show decide (L = L) = true by simp]
    go_wp2_with fail
    go_loopw [8] (fun t8 wr => ∃ i : Nat, t8 = .int .i64 i ∧ i ≤ N ∧ Hid (Held w wr) ∧ Hid (DeedAt wr w.heap.size D) ∧ Hid (IntsAt wr A3 L) ∧ Hid (L ≠ [] → ∃ g cur, A = some ⟨g, 0, none⟩ ∧ w1.heap.size ≤ g ∧ g < w2.heap.size ∧ BlkI wr g cur ∧ L.length ≤ cur.length)) (fun t8 _ => N - (intOf t8).toNat)
    case atStart => exact ⟨0, rfl, Nat.zero_le _, H4, HD4, HI4, HW4⟩
    case round =>
      obtain ⟨i, rfl, hi, HH, HDr, HIr, HWr⟩ := hrel
      by_cases hlt : i < N
      · have hlt' : decide ((i : Int) < (N : Int)) = true := by simp; omega
        obtain ⟨g, cur, rfl, g1, g2, hb, hc⟩ := HWr.out (by intro h; have := HN.out; rw [h] at this; simp at this; omega)
        rw [HN.out] at hc
        obtain ⟨x, hx⟩ : ∃ x, cur[i]? = some x := ⟨_, List.getElem?_eq_getElem (by omega)⟩
        have c := hb.cell hx
        have f := hb.frozen i
        have HBg := Lib.hid hb
        have hs1 := H1.out.size
        have G1 := Lib.hid g1
        have G2 := Lib.hid g2
        clear hx hb g1 g2
        go_wp2_with fail
        go_roundw
        case rel =>
          have ht : Turned wr (wr.setCell ⟨g, i, none⟩ (.int .i64 7)) g := (Turned.refl wr g).set _ _
          refine ⟨i + 1, by go_num, by omega, Lib.hid (HH.out.set _ (Nat.le_trans (by omega) G1.out)), Lib.hid ?_, Lib.hid (HIr.out.turned ht fun ad e => ?_), Lib.hid fun _ => ⟨g, cur.set i 7, rfl, G1.out, G2.out, HBg.out.set i 7, ?_⟩⟩
          · intro j v hj
            have hh := HDr.out j v hj
            rw [← hh]
            exact World.cell?_of_block (ht.block _ (World.block_lt_of_cell? _ _ hh) (by have := G1.out; show w.heap.size ≠ g; omega))
          · have := HB3.out ad e
            have := G2.out
            omega
          · rw [List.length_set, HN.out]; exact hc
        case measure => simp [intOf]; omega
      · have hlt' : decide ((i : Int) < (N : Int)) = false := by simp; omega
        obtain rfl : i = N := by omega
        have HC := Lib.hid (fun w' A c h h2 => ints_any L L A A3 c c3 w' h h2 (by rw [HN.out]; omega) (by rw [HN.out]; omega))
        rw [HN.out] at HC
        go_wp2_with (with_reducible refine load_deed_g (.tmp 3) rfl w.heap.size rfl D HS.out HDr.out (by simp [Region.wanted, yielded]) ?_)
        refine (HK.out _).mono ?_
        rintro e w5 ⟨A5, c5, rfl, hd5, hi5, _⟩
        rw [HN.out]
        have H5 := Lib.hid (HH.out.tr hd5)
        have HI5 := Lib.hid hi5
        have HI5' := Lib.hid (HIr.out.keep hd5)
        clear hd5 hi5
        go_wp2_with fail
        refine (HC.out _ _ _ HI5.out HI5'.out).mono ?_
        rintro e w6 ⟨rfl, hd6⟩
        have H6 := Lib.hid (H5.out.tr hd6)
        clear hd6
        simp only [decide_true]
        go_wp2_with fail
        refine (HA.out _).mono ?_
        rintro e w7 ⟨rfl, hd7⟩
        have H7 := Lib.hid (H6.out.tr hd7)
        clear hd7
        go_wp2_with fail
        go_ret
        exact ⟨rfl, H7.out⟩
end

section
open Go.RowKit Go.ChangeShapes Go.WideShapes Go.Deep

section
variable {H : Type} {enc : TypeId × Value → H} {w : World} {base : Nat} {spare : Nat → Bool} {held : Bool}

theorem cells27 : Tryz.prog.cellsOf 26 = 4 := by kernel_rfl
theorem cellsInt : Tryz.prog.cellsOf 3 = 1 := by kernel_rfl
theorem cellsVal : Tryz.prog.cellsOf 24 = 3 := by kernel_rfl
theorem cellsBytes : Tryz.prog.cellsOf 22 = 1 := by kernel_rfl
theorem cellsTags : Tryz.prog.cellsOf 27 = 1 := by kernel_rfl
theorem cellsExif : Tryz.prog.cellsOf 29 = 8 := by kernel_rfl
theorem cellsMember : Tryz.prog.cellsOf 31 = 14 := by kernel_rfl
theorem cellsDeed : Tryz.prog.cellsOf 33 = 26 := by kernel_rfl

theorem getOf {cs : List Value} {i : Nat} {v : Value} (h : (cs.drop i).take 1 = [v]) : cs[i]? = some v := by
  have := congrArg (fun l : List Value => l[0]?) h
  simpa [List.getElem?_take, List.getElem?_drop] using this

theorem open_bytesF {fuel : Nat} {cs : List Value} {x : DataW H × List MemPlace} (h : DataW.trod enc Tryz.prog w base spare held fuel 22 cs = some x) : ∃ A n c, cs = [.slice A n c] := by
  rcases DataW.trod_slice Tryz.underlying22 h with ⟨rfl, _⟩ | ⟨a, len, cap, _, _, _, _, rfl, _⟩
  · exact ⟨_, _, _, rfl⟩
  · exact ⟨_, _, _, rfl⟩

/-- a field of a struct that is read. -/
theorem field_of {t : TypeId} {fs : Array Field} {fuel : Nat} {cs : List Value} {x : DataW H × List MemPlace} (ht : Tryz.prog.underlying t = some (.struct fs)) (h : DataW.trod enc Tryz.prog w base spare held fuel t cs = some x) (i : Nat) (f : Field) (hf : fs[i]? = some f) :
    ∃ n y, DataW.trod enc Tryz.prog w base spare held n f.type ((cs.drop f.offset).take (Tryz.prog.cellsOf f.type)) = some y := by
  obtain ⟨xs, n, _, _, _, hl, hat⟩ := DataW.trod_struct ht h
  have hi : i < fs.size := (Array.getElem?_eq_some_iff.1 hf).1
  exact ⟨n, _, (hat i f hf).trans (List.getElem?_eq_getElem (by omega))⟩

set_option maxRecDepth 20000 in
theorem open_tagsF {fuel : Nat} {cs : List Value} {x : DataW H × List MemPlace} (h : DataW.trod enc Tryz.prog w base spare held fuel 27 cs = some x) : ∃ A n c, cs = [.slice A n c] ∧ TagsAt w A n ∧ n ≤ maxLen := by
  rcases open_slice Tryz.underlying27 h with ⟨rfl, _⟩ | ⟨a, len, cap, m, n, D, Pl, rfl, hb, hl, hm, hmm, hx, hi⟩
  · exact ⟨none, 0, 0, rfl, fun h => absurd rfl h, Nat.zero_le _⟩
  · have hlm : len ≤ m := by rw [hmm]; split <;> omega
    have each : ∀ i, i < len → ∃ B m c, w.cell? (a.add (i * 4 + 3)) = some (.slice B m c) := by
      intro i hlt
      obtain ⟨cs', hc, ht⟩ := hi i (by omega)
      rw [cells27] at hc
      obtain ⟨n1, y1, h1⟩ := field_of Tryz.underlying26 ht 1 _ rfl
      obtain ⟨n2, y2, h2⟩ := field_of Tryz.underlying24 h1 2 _ rfl
      obtain ⟨A, k, c, h3⟩ := open_bytesF h2
      obtain ⟨_, hcl, hat⟩ := World.cells?_some hc
      have hcell := hat 3 (by omega)
      have h4 : cs'[3]? = some (.slice A k c) := by
        have h3' : (((cs'.drop 1).take (Tryz.prog.cellsOf 24)).drop 2).take (Tryz.prog.cellsOf 22) = [.slice A k c] := h3
        rw [cellsVal, cellsBytes] at h3'
        have := getOf h3'
        simpa [List.getElem?_take, List.getElem?_drop] using this
      refine ⟨A, k, c, ?_⟩
      rw [← Go.Deep.add_add, hcell, h4]
    refine ⟨some a, len, cap, rfl, fun hn => ⟨a, rfl, ?_, each⟩, by omega⟩
    obtain ⟨B, k, c, hcell⟩ := each 0 (by omega)
    have := World.block_lt_of_cell? _ _ hcell
    simpa [Addr.add] using this

theorem open_intF {fuel : Nat} {cs : List Value} {x : DataW H × List MemPlace} (h : DataW.trod enc Tryz.prog w base spare held fuel 3 cs = some x) : ∃ n, cs = [.int .i64 n] := by
  obtain ⟨n, e, _⟩ := DataW.trod_int Tryz.underlying3 h
  exact ⟨n, e⟩

end
end

end Go.Proofs.YtnicdlmcbkkkfaaGreatDoor

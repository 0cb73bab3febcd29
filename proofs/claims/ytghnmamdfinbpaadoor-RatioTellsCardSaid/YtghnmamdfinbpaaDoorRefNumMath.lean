/-
  The plain law of the reference's Number: it answers as Atoi, held against Itoa, for a text of ten digits at most.
-/
import Derived.Test.YtghnmamdfinbpaaDoorRefNum
import Derived.Test.YtghnmamdfinbpaaDoorRaP
import Derived.Lib.AtoiTie
namespace Go.Proofs.YtghnmamdfinbpaaDoor

theorem decFrom_snoc (l : List UInt8) (b : UInt8) : ∀ acc, Lib.decFrom acc (l ++ [b]) = (Lib.decFrom acc l).bind fun n => (Lib.digitVal b).map fun d => n * 10 + d := by
  induction l with
  | nil =>
    intro acc
    simp only [List.nil_append, Lib.decFrom]
    cases Lib.digitVal b <;> rfl
  | cons a t ih =>
    intro acc
    simp only [List.cons_append, Lib.decFrom]
    cases h : Lib.digitVal a with
    | none => rfl
    | some e => exact ih _

theorem decDigits_ten {n : Nat} (h : ¬ n < 10) : Lib.decDigits n = Lib.decDigits (n / 10) ++ [UInt8.ofNat (48 + n % 10)] := by
  rw [Lib.decDigits, dif_neg h]

theorem digit_byte {b : UInt8} {d : Nat} (h : Lib.digitVal b = some d) : d < 10 ∧ UInt8.ofNat (48 + d) = b := by
  unfold Lib.digitVal at h
  split at h
  · obtain rfl := Option.some.inj h
    refine ⟨by omega, ?_⟩
    rw [show 48 + (b.toNat - 48) = b.toNat by omega]
    exact UInt8.ofNat_toNat
  · cases h

theorem byte_digit {d : Nat} (h : d < 10) : Lib.digitVal (UInt8.ofNat (48 + d)) = some d := by
  unfold Lib.digitVal
  have e : (UInt8.ofNat (48 + d)).toNat = 48 + d := by simp; omega
  rw [e, if_pos (by omega)]
  congr 1
  omega

theorem digits_of : ∀ (k : Nat) (l : List UInt8) (n : Nat), l.length = k + 1 → (l.head? = some 48 → l.length = 1) → Lib.decFrom 0 l = some n → Lib.decDigits n = l ∧ (l.head? ≠ some 48 → 1 ≤ n)
  | 0, l, n, hk, _, h => by
    obtain ⟨b, rfl⟩ := List.length_eq_one_iff.1 hk
    simp only [Lib.decFrom] at h
    cases hb : Lib.digitVal b with
    | none => rw [hb] at h; cases h
    | some d =>
      rw [hb] at h
      simp only [Option.some.injEq] at h
      obtain ⟨h1, h2⟩ := digit_byte hb
      have e : n = d := by omega
      subst e
      refine ⟨by rw [Lib.decDigits_one h1, h2], fun hh => ?_⟩
      rcases Nat.eq_zero_or_pos n with h0 | h0
      · subst h0
        exact absurd (by rw [← h2]; rfl) hh
      · exact h0
  | k + 1, l, n, hk, h0, h => by
    rcases List.eq_nil_or_concat l with rfl | ⟨m, b, rfl⟩
    · simp at hk
    · have hm : m.length = k + 1 := by simpa using hk
      rw [List.concat_eq_append] at h h0 ⊢
      rw [decFrom_snoc] at h
      cases hd : Lib.decFrom 0 m with
      | none => rw [hd] at h; cases h
      | some u =>
        rw [hd] at h
        cases hb : Lib.digitVal b with
        | none => rw [hb] at h; cases h
        | some d =>
          rw [hb] at h
          simp only [Option.bind_some, Option.map_some, Option.some.injEq] at h
          obtain ⟨h1, h2⟩ := digit_byte hb
          have hne : m ≠ [] := by intro h; rw [h] at hm; simp at hm
          have hh : (m ++ [b]).head? = m.head? := by cases m with | nil => exact absurd rfl hne | cons => rfl
          have hn48 : m.head? ≠ some 48 := by
            intro h48
            have := h0 (by rw [hh]; exact h48)
            simp at this
            exact hne this
          obtain ⟨i1, i2⟩ := digits_of k m u hm (fun h => absurd h hn48) hd
          have hu := i2 hn48
          refine ⟨?_, fun _ => by omega⟩
          rw [decDigits_ten (by omega), show n / 10 = u by omega, show n % 10 = d by omega, i1, h2]

theorem digits_back (n : Nat) : Lib.decFrom 0 (Lib.decDigits n) = some n ∧ Lib.decDigits n ≠ [] ∧ (1 ≤ n → (Lib.decDigits n).head? ≠ some 48) := by
  induction n using Nat.strongRecOn with
  | _ n ih =>
    by_cases h : n < 10
    · rw [Lib.decDigits_one h]
      refine ⟨?_, by simp, fun h1 => ?_⟩
      · simp only [Lib.decFrom, byte_digit h]
        congr 1
        omega
      · simp only [List.head?_cons, ne_eq, Option.some.injEq]
        intro e
        have e2 := congrArg UInt8.toNat e
        have e3 : (UInt8.ofNat (48 + n)).toNat = 48 + n := by simp; omega
        rw [e3] at e2
        have e4 : (48 : UInt8).toNat = 48 := rfl
        omega
    · obtain ⟨h1, h2, h3⟩ := ih (n / 10) (by omega)
      rw [decDigits_ten h]
      refine ⟨?_, by simp, fun _ => ?_⟩
      · rw [decFrom_snoc, h1, byte_digit (by omega)]
        simp only [Option.bind_some, Option.map_some]
        congr 1
        omega
      · cases hd : Lib.decDigits (n / 10) with
        | nil => exact absurd hd h2
        | cons a t =>
          have := h3 (by omega)
          rw [hd] at this
          exact this

theorem digits_short : ∀ (k n : Nat), n < 10 ^ (k + 1) → (Lib.decDigits n).length ≤ k + 1
  | 0, n, h => by rw [Lib.decDigits_one (by simpa using h)]; simp
  | k + 1, n, h => by
    by_cases h1 : n < 10
    · rw [Lib.decDigits_one h1]; simp
    · rw [decDigits_ten h1]
      have := digits_short k (n / 10) (by rw [Nat.pow_succ] at h; omega)
      simp
      omega

theorem good_of {l : List UInt8} {neg : Bool} (h : badB l neg = false) : l ≠ [] ∧ l.length ≤ 10 ∧ (l.head? = some 48 → l.length = 1 ∧ neg = false) := by
  unfold badB at h
  simp only [Bool.or_eq_false_iff, Bool.and_eq_false_iff, decide_eq_false_iff_not] at h
  obtain ⟨⟨h1, h2⟩, h3⟩ := h
  refine ⟨fun e => h1 (by rw [e]; rfl), by omega, fun h4 => ?_⟩
  rcases h3 with h3 | h3
  · exact absurd h4 h3
  · exact ⟨by omega, h3.2⟩

theorem bad_not {l : List UInt8} {neg : Bool} (h1 : l ≠ []) (h2 : l.length ≤ 10) (h3 : l.head? = some 48 → l.length = 1 ∧ neg = false) : badB l neg = false := by
  unfold badB
  simp only [Bool.or_eq_false_iff, Bool.and_eq_false_iff, decide_eq_false_iff_not]
  refine ⟨⟨fun e => h1 (List.length_eq_zero_iff.1 e), by omega⟩, ?_⟩
  by_cases h : l.head? = some 48
  · obtain ⟨a, b⟩ := h3 h
    exact .inr ⟨by omega, b⟩
  · exact .inl h

theorem numB_some {l : List UInt8} {neg : Bool} {v : Int} (h : numB l neg = some v) : badB l neg = false ∧ ∃ n : Nat, Lib.decFrom 0 l = some n ∧ v = if neg then -(n : Int) else n := by
  unfold numB at h
  split at h
  · cases h
  · rename_i hb
    refine ⟨by simpa using hb, ?_⟩
    cases hd : Lib.decFrom 0 l with
    | none => rw [hd] at h; cases h
    | some n =>
      rw [hd] at h
      exact ⟨n, rfl, (Option.some.inj h).symm⟩

theorem numB_of {l : List UInt8} {neg : Bool} {n : Nat} (h : badB l neg = false) (hd : Lib.decFrom 0 l = some n) : numB l neg = some (if neg then -(n : Int) else n) := by
  unfold numB
  rw [if_neg (by rw [h]; simp), hd]
  rfl

theorem digits_num {l : List UInt8} {neg : Bool} {n : Nat} (h : badB l neg = false) (hd : Lib.decFrom 0 l = some n) : Lib.decDigits n = l ∧ n < 10000000000 ∧ (neg = true → 1 ≤ n) := by
  obtain ⟨h1, h2, h3⟩ := good_of h
  obtain ⟨k, hk⟩ : ∃ k, l.length = k + 1 := ⟨l.length - 1, by have := List.length_pos_iff.2 h1; omega⟩
  obtain ⟨a, b⟩ := digits_of k l n hk (fun h => (h3 h).1) hd
  refine ⟨a, ?_, fun hn => b fun h48 => by have := (h3 h48).2; rw [hn] at this; cases this⟩
  have e : l.take l.length = l := List.take_length
  exact decFrom_upto (l := l) (i := l.length) (by rw [e]; exact hd) h2

theorem num_to {l : List UInt8} {v : Int} (h : numL l = some v) : numOf l = some v := by
  unfold numL at h
  split at h
  · rename_i h45
    cases l with
    | nil => cases h45
    | cons b m =>
      obtain rfl : b = 45 := Option.some.inj h45
      rw [List.tail_cons] at h
      obtain ⟨hb, n, hd, rfl⟩ := numB_some h
      obtain ⟨h1, h2, h3⟩ := good_of hb
      obtain ⟨a, _, c⟩ := digits_num hb hd
      have hn := c rfl
      have e1 : Lib.atoiAll (45 :: m) = .ok (-(n : Int)) := by
        rw [Lib.atoiAll_short _ (by simp; omega)]
        have e2 : Lib.decNat m = some n := by
          unfold Lib.decNat
          rw [if_neg (by simpa using h1)]
          exact hd
        simp [Lib.atoi, e2, Lib.NumEnd.ofOption]
      rw [numOf_ok (show Lib.atoiAll (45 :: m) = .ok (if true = true then -(n : Int) else n) from e1)]
      rw [if_pos rfl, Lib.itoa_neg n hn, a]
      simp
  · rename_i h45
    obtain ⟨hb, n, hd, rfl⟩ := numB_some h
    obtain ⟨h1, h2, h3⟩ := good_of hb
    obtain ⟨a, _, _⟩ := digits_num hb hd
    have e1 : Lib.atoiAll l = .ok (n : Int) := by
      rw [Lib.atoiAll_short _ (by omega)]
      cases l with
      | nil => exact absurd rfl h1
      | cons b r =>
        have hb45 : (b == 45) = false := by
          simp
          intro e
          exact h45 (by rw [e]; rfl)
        have hb43 : (b == 43) = false := by
          simp
          rintro rfl
          have := decFrom_bad (l := 43 :: r) (k := 0) (b := 43) rfl rfl
          rw [this] at hd
          cases hd
        have e2 : Lib.decNat (b :: r) = some n := by
          unfold Lib.decNat
          rw [if_neg (by simp)]
          exact hd
        simp [Lib.atoi, hb45, hb43, e2, Lib.NumEnd.ofOption]
    rw [if_neg (by simp), numOf_ok e1, Lib.itoa_nonneg, a]
    simp

theorem num_back {l : List UInt8} {v : Int} (h : numOf l = some v) (hv : -10000000000 < v ∧ v < 10000000000) : numL l = some v := by
  have hl : Lib.itoa v = l := by
    unfold numOf at h
    split at h
    · split at h
      · rename_i h2
        obtain rfl := Option.some.inj h
        simpa using h2
      · cases h
    · cases h
  have e10 : (10 : Nat) ^ (9 + 1) = 10000000000 := by decide
  by_cases hn : v < 0
  · obtain ⟨n, rfl⟩ : ∃ n : Nat, v = -(n : Int) := ⟨v.natAbs, by omega⟩
    rw [Lib.itoa_neg n (by omega)] at hl
    obtain ⟨b1, b2, b3⟩ := digits_back n
    have hs := digits_short 9 n (by omega)
    rw [← hl]
    unfold numL
    rw [if_pos (by rfl), List.tail_cons, numB_of (bad_not b2 (by omega) (fun h => absurd h (b3 (by omega)))) b1]
    rfl
  · obtain ⟨n, rfl⟩ : ∃ n : Nat, v = (n : Int) := ⟨v.natAbs, by omega⟩
    rw [Lib.itoa_nonneg] at hl
    obtain ⟨b1, b2, b3⟩ := digits_back n
    have hs := digits_short 9 n (by omega)
    rw [← hl]
    unfold numL
    rw [if_neg, numB_of (bad_not b2 (by omega) (fun h => ?_)) b1]
    · rfl
    · rcases Nat.eq_zero_or_pos n with h0 | h0
      · subst h0
        rw [Lib.decDigits_one (by omega)]
        exact ⟨rfl, rfl⟩
      · exact absurd h (b3 h0)
    · intro h
      cases hd : Lib.decDigits n with
      | nil => exact b2 hd
      | cons b r =>
        rw [hd] at h b1
        obtain rfl : b = 45 := Option.some.inj h
        have := decFrom_bad (l := 45 :: r) (k := 0) (b := 45) rfl rfl
        rw [this] at b1
        cases b1

end Go.Proofs.YtghnmamdfinbpaaDoor

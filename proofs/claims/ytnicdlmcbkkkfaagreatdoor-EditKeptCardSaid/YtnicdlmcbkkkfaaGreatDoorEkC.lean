/-
  EditKept: the walk of the reference's Kept, where it answers.
-/
import Derived.Test.YtnicdlmcbkkkfaaGreatDoorEkB
namespace Go.Proofs.YtnicdlmcbkkkfaaGreatDoor

section
open Go.RowKit

theorem OwnR.row {w : World} {base : Nat} {v : Value} {l : List Int} (h : OwnR w base v l) : (v = .slice none 0 0 ∧ l = []) ∨ ∃ g cap, v = .slice (some ⟨g, 0, none⟩) l.length cap ∧ base ≤ g ∧ RowI w g cap l ∧ cap ≤ maxLen := by
  rcases h.2 with ⟨rfl, hn⟩ | ⟨g, cap, cur, rfl, hb, hh, h1, h2, h3, h4⟩
  · exact .inl ⟨rfl, by simpa using hn⟩
  · rw [Nat.mul_one] at h3 h4
    exact .inr ⟨g, cap, rfl, hb, ⟨cur, hh, h4, h3, h1⟩, h2⟩

theorem fromF_len (k : Int) (m t n : Nat) : (fromF k m t n).length ≤ 2 * n + 2 := by
  have h1 := fromL_len k m n
  have h2 : (fromE k m n).length ≤ 2 * n + 1 := by
    unfold fromE
    split
    · simp; omega
    · omega
  unfold fromF
  split
  · simp; omega
  · omega

set_option maxRecDepth 20000 in
set_option maxHeartbeats 3200000 in
theorem rkept_yes (n m t : Nat) (k to : Int) (D : Array Value) (hD : DeedOk D k m to) (h1 : 1 ≤ k) (h9 : k ≤ 9) (hn1 : 1 ≤ n) (hn : n ≤ 1000) (hm : m ≤ n) (hm7 : k ≠ 7 → m < n) (ht : k = 9 → to = t ∧ t < n ∧ t ≤ (fromE k m n).length) (w : World) :
    Calls Tryz.prog 7 #[.int .i64 n, .agg D] w (RetI w (markR k m (fromF k m t n) (fromF k m t n).length)) := by
  have HFr := Lib.hid (fun w => from_any n m t k to D hD hn (fun e => ⟨(ht e).1, (ht e).2.2⟩) w)
  have HS := Lib.hid hD.size
  have HTo := Lib.hid (show k = 9 → to = t ∧ t < n from fun e => ⟨(ht e).1, (ht e).2.1⟩)
  clear ht
  obtain ⟨_, d0, d1, d2⟩ := hD
  go_enter Tryz.func7, Tryz.ntmps7
  have q1 : decide ((n : Int) < 1) = false := by simp; omega
  have q2 : decide ((1000 : Int) < n) = false := by simp; omega
  have q3 : decide (k < 1) = false := by simp; omega
  have q4 : decide (9 < k) = false := by simp; omega
  have q6 : decide ((n : Int) < m) = false := by simp; omega
  have q5 : decide ((m : Int) < 0) = false := by simp
  by_cases hA : m = n
  · obtain rfl : k = 7 := by
      rcases Classical.em (k = 7) with h | h
      · exact h
      · have := hm7 h; omega
    subst hA
    clear hm7
    go_wp2_with (with_reducible refine load_deed_g (.tmp 3) rfl w.heap.size rfl D HS.out (DeedAt.new w D _) (by simp [Region.wanted, yielded]) ?_)
    refine (HFr.out _).mono ?_
    rintro e w1 ⟨v, rfl, hown, hd1⟩
    have hd := Lib.hid (show Held w w1 from ((Held.refl w).alloc _).tr hd1)
    have c0 : w1.cell? ⟨w.heap.size, 0, none⟩ = some (.int .i64 7) := hd1.cell (by go_simp)
    have c1 : w1.cell? ⟨w.heap.size, 1, none⟩ = some (.int .i64 m) := hd1.cell (by go_simp)
    clear hd1 HFr HTo HS
    have hll := fromF_len 7 m t m
    generalize fromF 7 m t m = l at *
    rcases hown.row with ⟨rfl, rfl⟩ | ⟨g, cap, rfl, hb, hrow, hcap⟩
    · go_wp2_with fail
      go_loopw [6] (fun t6 wr => t6 = .int .i64 0 ∧ Held w wr) (fun _ _ => 0)
      case atStart => exact ⟨rfl, hd.out⟩
      case round =>
        obtain ⟨rfl, hw⟩ := hrel
        go_wp2_with fail
        go_ret
        exact ⟨_, rfl, OwnR.nil _ _, hw⟩
    · have hg : w.heap.size + 1 ≤ g := by simpa using hb
      have HR := Lib.hid (show RowI w1 g cap (markR 7 m l 0) by rw [markR_zero]; exact hrow)
      obtain ⟨N, hN⟩ : ∃ N, l.length = N := ⟨_, rfl⟩
      have hNN : N ≤ 10000 := by omega
      rw [hN]
      have HN := Lib.hid hN
      clear hown hrow hb hN hll
      go_wp2_with fail
      go_loopw [6] (fun t6 wr => ∃ i : Nat, t6 = .int .i64 i ∧ i ≤ N ∧ Hid (RowI wr g cap (markR 7 m l i)) ∧ Hid (Held w wr) ∧ wr.cell? ⟨w.heap.size, 0, none⟩ = some (.int .i64 7) ∧ wr.cell? ⟨w.heap.size, 1, none⟩ = some (.int .i64 m)) (fun t6 _ => N - (intOf t6).toNat)
      case atStart => exact ⟨0, rfl, Nat.zero_le _, HR, hd, c0, c1⟩
      case round =>
        obtain ⟨i, rfl, hi, HB, HW, e0, e1⟩ := hrel
        by_cases hlt : i < N
        · have hlt' : decide ((i : Int) < (N : Int)) = true := by simp; omega
          obtain ⟨x, hx⟩ : ∃ x, l[i]? = some x := ⟨_, List.getElem?_eq_getElem (by rw [HN.out]; exact hlt)⟩
          have hx2 : (markR 7 m l i)[i]? = some x := by rw [markR_get, hx]; simp
          have c := HB.out.cell hx2
          have f := HB.out.frozen i
          have hgw : g ≠ w.heap.size := by omega
          have hwg : w.heap.size ≤ g := by omega
          by_cases y0 : i = 0
          · subst y0
            have HM := Lib.hid (markR_yes 7 m l 0 x hx (.inl rfl))
            clear hx hx2
            go_wp2_with fail
            refine Ph.wp_region_ph (Ph.plan [0, 1, 2, 3, 4, 5, 6, 7, 8, 9, 10, 11, 12, 13, 14, 15, 16, 17, 18, 19, 20, 21, 22] []) mixedP (by kernel_rfl) (by kernel_rfl) ?_
            refine Ph.ph_end ?_
            simp only [Ph.opsAt, List.filterMap_cons, List.filterMap_nil, List.getElem?_toArray, List.getElem?_cons_zero, List.getElem?_cons_succ]
            repeat (refine Ph.wpQ_cons ?_; go_wp2_with fail; refine Ph.qnext rfl rfl ?_)
            refine Ph.wpQ_nil ?_
            go_wp2_with fail
            go_roundw
            case rel => exact ⟨1, by go_num, by omega, Lib.hid (by rw [← HM.out]; exact HB.out.drew.set 0 (-1)), Lib.hid (HW.out.drew.set _ (by simp; omega)), (World.cell?_setCell_other _ _ _ _ (by intro e; have := congrArg Addr.block e; simp at this; omega)).trans e0, (World.cell?_setCell_other _ _ _ _ (by intro e; have := congrArg Addr.block e; simp at this; omega)).trans e1⟩
            case measure => simp [intOf]; omega
          have y0' : decide ((i : Int) = 0) = false := by simp; omega
          by_cases y1 : x = 0
          · subst y1
            have HM := Lib.hid (markR_yes 7 m l i 0 hx (.inr (.inl rfl)))
            clear hx hx2
            go_wp2_with fail
            refine Ph.wp_region_ph (Ph.plan [0, 1, 2, 3, 4, 5, 6, 7, 8, 9, 10, 11, 12, 13, 14, 15, 16, 17, 18, 19, 20, 21, 22] []) mixedP (by kernel_rfl) (by kernel_rfl) ?_
            refine Ph.ph_end ?_
            simp only [Ph.opsAt, List.filterMap_cons, List.filterMap_nil, List.getElem?_toArray, List.getElem?_cons_zero, List.getElem?_cons_succ]
            repeat (refine Ph.wpQ_cons ?_; go_wp2_with fail; refine Ph.qnext rfl rfl ?_)
            refine Ph.wpQ_nil ?_
            go_wp2_with fail
            go_roundw
            case rel => exact ⟨i + 1, by go_num, by omega, Lib.hid (by rw [← HM.out]; exact HB.out.drew.set i (-1)), Lib.hid (HW.out.drew.set _ (by simp; omega)), (World.cell?_setCell_other _ _ _ _ (by intro e; have := congrArg Addr.block e; simp at this; omega)).trans e0, (World.cell?_setCell_other _ _ _ _ (by intro e; have := congrArg Addr.block e; simp at this; omega)).trans e1⟩
            case measure => simp [intOf]; omega
          have y1' : decide (x = 0) = false := by simp [y1]
          have HM := Lib.hid (markR_no 7 m l i x hx (by rintro (h | h | ⟨h, _⟩) <;> first | contradiction | omega))
          clear hx hx2
          go_wp2_with fail
          refine Ph.wp_region_ph (Ph.plan [0, 1, 2, 3, 4, 5, 6, 7, 8, 9, 10, 11, 12, 13, 14, 15, 16, 17, 18, 19, 20, 21, 22] []) mixedP (by kernel_rfl) (by kernel_rfl) ?_
          refine Ph.ph_end ?_
          simp only [Ph.opsAt, List.filterMap_cons, List.filterMap_nil, List.getElem?_toArray, List.getElem?_cons_zero, List.getElem?_cons_succ]
          repeat (refine Ph.wpQ_cons ?_; go_wp2_with fail; refine Ph.qnext rfl rfl ?_)
          refine Ph.wpQ_nil ?_
          go_wp2_with fail
          · exfalso; rename_i h; simp at h; omega
          go_roundw
          case rel => exact ⟨i + 1, by go_num, by omega, Lib.hid (by rw [← HM.out]; exact HB.out.drew), Lib.hid HW.out.drew, e0, e1⟩
          case measure => simp [intOf]; omega
        · have hlt' : decide ((i : Int) < (N : Int)) = false := by simp; omega
          obtain rfl : i = N := by omega
          go_wp2_with fail
          go_ret
          refine ⟨.slice (some ⟨g, 0, none⟩) i cap, rfl, ?_, HW.out⟩
          have := HB.out.own (base := w.heap.size) (by omega) hcap
          rw [markR_length, HN.out] at this
          rw [HN.out]
          exact this
  have q9 : decide ((m : Int) = n) = false := by simp; omega
  by_cases hB : k = 9
  · obtain ⟨rfl, htn⟩ := HTo.out hB
    subst hB
    have q10 : decide ((t : Int) < 0) = false := by simp
    have q11 : decide ((n : Int) ≤ t) = false := by simp; omega
    go_wp2_with (with_reducible refine load_deed_g (.tmp 3) rfl w.heap.size rfl D HS.out (DeedAt.new w D _) (by simp [Region.wanted, yielded]) ?_)
    refine (HFr.out _).mono ?_
    rintro e w1 ⟨v, rfl, hown, hd1⟩
    have hd := Lib.hid (show Held w w1 from ((Held.refl w).alloc _).tr hd1)
    have c0 : w1.cell? ⟨w.heap.size, 0, none⟩ = some (.int .i64 9) := hd1.cell (by go_simp)
    have c1 : w1.cell? ⟨w.heap.size, 1, none⟩ = some (.int .i64 m) := hd1.cell (by go_simp)
    clear hd1 HFr HTo HS
    have hll := fromF_len 9 m t n
    generalize fromF 9 m t n = l at *
    rcases hown.row with ⟨rfl, rfl⟩ | ⟨g, cap, rfl, hb, hrow, hcap⟩
    · go_wp2_with fail
      go_loopw [6] (fun t6 wr => t6 = .int .i64 0 ∧ Held w wr) (fun _ _ => 0)
      case atStart => exact ⟨rfl, hd.out⟩
      case round =>
        obtain ⟨rfl, hw⟩ := hrel
        go_wp2_with fail
        go_ret
        exact ⟨_, rfl, OwnR.nil _ _, hw⟩
    · have hg : w.heap.size + 1 ≤ g := by simpa using hb
      have HR := Lib.hid (show RowI w1 g cap (markR 9 m l 0) by rw [markR_zero]; exact hrow)
      obtain ⟨N, hN⟩ : ∃ N, l.length = N := ⟨_, rfl⟩
      have hNN : N ≤ 10000 := by omega
      rw [hN]
      have HN := Lib.hid hN
      clear hown hrow hb hN hll
      go_wp2_with fail
      go_loopw [6] (fun t6 wr => ∃ i : Nat, t6 = .int .i64 i ∧ i ≤ N ∧ Hid (RowI wr g cap (markR 9 m l i)) ∧ Hid (Held w wr) ∧ wr.cell? ⟨w.heap.size, 0, none⟩ = some (.int .i64 9) ∧ wr.cell? ⟨w.heap.size, 1, none⟩ = some (.int .i64 m)) (fun t6 _ => N - (intOf t6).toNat)
      case atStart => exact ⟨0, rfl, Nat.zero_le _, HR, hd, c0, c1⟩
      case round =>
        obtain ⟨i, rfl, hi, HB, HW, e0, e1⟩ := hrel
        by_cases hlt : i < N
        · have hlt' : decide ((i : Int) < (N : Int)) = true := by simp; omega
          obtain ⟨x, hx⟩ : ∃ x, l[i]? = some x := ⟨_, List.getElem?_eq_getElem (by rw [HN.out]; exact hlt)⟩
          have hx2 : (markR 9 m l i)[i]? = some x := by rw [markR_get, hx]; simp
          have c := HB.out.cell hx2
          have f := HB.out.frozen i
          have hgw : g ≠ w.heap.size := by omega
          have hwg : w.heap.size ≤ g := by omega
          by_cases y0 : i = 0
          · subst y0
            have HM := Lib.hid (markR_yes 9 m l 0 x hx (.inl rfl))
            clear hx hx2
            go_wp2_with fail
            refine Ph.wp_region_ph (Ph.plan [0, 1, 2, 3, 4, 5, 6, 7, 8, 9, 10, 11, 12, 13, 14, 15, 16, 17, 18, 19, 20, 21, 22] []) mixedP (by kernel_rfl) (by kernel_rfl) ?_
            refine Ph.ph_end ?_
            simp only [Ph.opsAt, List.filterMap_cons, List.filterMap_nil, List.getElem?_toArray, List.getElem?_cons_zero, List.getElem?_cons_succ]
            repeat (refine Ph.wpQ_cons ?_; go_wp2_with fail; refine Ph.qnext rfl rfl ?_)
            refine Ph.wpQ_nil ?_
            go_wp2_with fail
            go_roundw
            case rel => exact ⟨1, by go_num, by omega, Lib.hid (by rw [← HM.out]; exact HB.out.drew.set 0 (-1)), Lib.hid (HW.out.drew.set _ (by simp; omega)), (World.cell?_setCell_other _ _ _ _ (by intro e; have := congrArg Addr.block e; simp at this; omega)).trans e0, (World.cell?_setCell_other _ _ _ _ (by intro e; have := congrArg Addr.block e; simp at this; omega)).trans e1⟩
            case measure => simp [intOf]; omega
          have y0' : decide ((i : Int) = 0) = false := by simp; omega
          by_cases y1 : x = 0
          · subst y1
            have HM := Lib.hid (markR_yes 9 m l i 0 hx (.inr (.inl rfl)))
            clear hx hx2
            go_wp2_with fail
            refine Ph.wp_region_ph (Ph.plan [0, 1, 2, 3, 4, 5, 6, 7, 8, 9, 10, 11, 12, 13, 14, 15, 16, 17, 18, 19, 20, 21, 22] []) mixedP (by kernel_rfl) (by kernel_rfl) ?_
            refine Ph.ph_end ?_
            simp only [Ph.opsAt, List.filterMap_cons, List.filterMap_nil, List.getElem?_toArray, List.getElem?_cons_zero, List.getElem?_cons_succ]
            repeat (refine Ph.wpQ_cons ?_; go_wp2_with fail; refine Ph.qnext rfl rfl ?_)
            refine Ph.wpQ_nil ?_
            go_wp2_with fail
            go_roundw
            case rel => exact ⟨i + 1, by go_num, by omega, Lib.hid (by rw [← HM.out]; exact HB.out.drew.set i (-1)), Lib.hid (HW.out.drew.set _ (by simp; omega)), (World.cell?_setCell_other _ _ _ _ (by intro e; have := congrArg Addr.block e; simp at this; omega)).trans e0, (World.cell?_setCell_other _ _ _ _ (by intro e; have := congrArg Addr.block e; simp at this; omega)).trans e1⟩
            case measure => simp [intOf]; omega
          have y1' : decide (x = 0) = false := by simp [y1]
          have HM := Lib.hid (markR_no 9 m l i x hx (by rintro (h | h | ⟨h, _⟩) <;> first | contradiction | omega))
          clear hx hx2
          go_wp2_with fail
          refine Ph.wp_region_ph (Ph.plan [0, 1, 2, 3, 4, 5, 6, 7, 8, 9, 10, 11, 12, 13, 14, 15, 16, 17, 18, 19, 20, 21, 22] []) mixedP (by kernel_rfl) (by kernel_rfl) ?_
          refine Ph.ph_end ?_
          simp only [Ph.opsAt, List.filterMap_cons, List.filterMap_nil, List.getElem?_toArray, List.getElem?_cons_zero, List.getElem?_cons_succ]
          repeat (refine Ph.wpQ_cons ?_; go_wp2_with fail; refine Ph.qnext rfl rfl ?_)
          refine Ph.wpQ_nil ?_
          go_wp2_with fail
          · exfalso; rename_i h; simp at h; omega
          go_roundw
          case rel => exact ⟨i + 1, by go_num, by omega, Lib.hid (by rw [← HM.out]; exact HB.out.drew), Lib.hid HW.out.drew, e0, e1⟩
          case measure => simp [intOf]; omega
        · have hlt' : decide ((i : Int) < (N : Int)) = false := by simp; omega
          obtain rfl : i = N := by omega
          go_wp2_with fail
          go_ret
          refine ⟨.slice (some ⟨g, 0, none⟩) i cap, rfl, ?_, HW.out⟩
          have := HB.out.own (base := w.heap.size) (by omega) hcap
          rw [markR_length, HN.out] at this
          rw [HN.out]
          exact this
  · have q10 : decide (k = 9) = false := by simp [hB]
    go_wp2_with (with_reducible refine load_deed_g (.tmp 3) rfl w.heap.size rfl D HS.out (DeedAt.new w D _) (by simp [Region.wanted, yielded]) ?_)
    refine (HFr.out _).mono ?_
    rintro e w1 ⟨v, rfl, hown, hd1⟩
    have hd := Lib.hid (show Held w w1 from ((Held.refl w).alloc _).tr hd1)
    have c0 : w1.cell? ⟨w.heap.size, 0, none⟩ = some (.int .i64 k) := hd1.cell (by go_simp)
    have c1 : w1.cell? ⟨w.heap.size, 1, none⟩ = some (.int .i64 m) := hd1.cell (by go_simp)
    clear hd1 HFr HTo HS
    have hll := fromF_len k m t n
    generalize fromF k m t n = l at *
    rcases hown.row with ⟨rfl, rfl⟩ | ⟨g, cap, rfl, hb, hrow, hcap⟩
    · go_wp2_with fail
      go_loopw [6] (fun t6 wr => t6 = .int .i64 0 ∧ Held w wr) (fun _ _ => 0)
      case atStart => exact ⟨rfl, hd.out⟩
      case round =>
        obtain ⟨rfl, hw⟩ := hrel
        go_wp2_with fail
        go_ret
        exact ⟨_, rfl, OwnR.nil _ _, hw⟩
    · have hg : w.heap.size + 1 ≤ g := by simpa using hb
      have HR := Lib.hid (show RowI w1 g cap (markR k m l 0) by rw [markR_zero]; exact hrow)
      obtain ⟨N, hN⟩ : ∃ N, l.length = N := ⟨_, rfl⟩
      have hNN : N ≤ 10000 := by omega
      rw [hN]
      have HN := Lib.hid hN
      clear hown hrow hb hN hll
      go_wp2_with fail
      go_loopw [6] (fun t6 wr => ∃ i : Nat, t6 = .int .i64 i ∧ i ≤ N ∧ Hid (RowI wr g cap (markR k m l i)) ∧ Hid (Held w wr) ∧ wr.cell? ⟨w.heap.size, 0, none⟩ = some (.int .i64 k) ∧ wr.cell? ⟨w.heap.size, 1, none⟩ = some (.int .i64 m)) (fun t6 _ => N - (intOf t6).toNat)
      case atStart => exact ⟨0, rfl, Nat.zero_le _, HR, hd, c0, c1⟩
      case round =>
        obtain ⟨i, rfl, hi, HB, HW, e0, e1⟩ := hrel
        by_cases hlt : i < N
        · have hlt' : decide ((i : Int) < (N : Int)) = true := by simp; omega
          obtain ⟨x, hx⟩ : ∃ x, l[i]? = some x := ⟨_, List.getElem?_eq_getElem (by rw [HN.out]; exact hlt)⟩
          have hx2 : (markR k m l i)[i]? = some x := by rw [markR_get, hx]; simp
          have c := HB.out.cell hx2
          have f := HB.out.frozen i
          have hgw : g ≠ w.heap.size := by omega
          have hwg : w.heap.size ≤ g := by omega
          by_cases y0 : i = 0
          · subst y0
            have HM := Lib.hid (markR_yes k m l 0 x hx (.inl rfl))
            clear hx hx2
            go_wp2_with fail
            refine Ph.wp_region_ph (Ph.plan [0, 1, 2, 3, 4, 5, 6, 7, 8, 9, 10, 11, 12, 13, 14, 15, 16, 17, 18, 19, 20, 21, 22] []) mixedP (by kernel_rfl) (by kernel_rfl) ?_
            refine Ph.ph_end ?_
            simp only [Ph.opsAt, List.filterMap_cons, List.filterMap_nil, List.getElem?_toArray, List.getElem?_cons_zero, List.getElem?_cons_succ]
            repeat (refine Ph.wpQ_cons ?_; go_wp2_with fail; refine Ph.qnext rfl rfl ?_)
            refine Ph.wpQ_nil ?_
            go_wp2_with fail
            go_roundw
            case rel => exact ⟨1, by go_num, by omega, Lib.hid (by rw [← HM.out]; exact HB.out.drew.set 0 (-1)), Lib.hid (HW.out.drew.set _ (by simp; omega)), (World.cell?_setCell_other _ _ _ _ (by intro e; have := congrArg Addr.block e; simp at this; omega)).trans e0, (World.cell?_setCell_other _ _ _ _ (by intro e; have := congrArg Addr.block e; simp at this; omega)).trans e1⟩
            case measure => simp [intOf]; omega
          have y0' : decide ((i : Int) = 0) = false := by simp; omega
          by_cases y1 : x = 0
          · subst y1
            have HM := Lib.hid (markR_yes k m l i 0 hx (.inr (.inl rfl)))
            clear hx hx2
            go_wp2_with fail
            refine Ph.wp_region_ph (Ph.plan [0, 1, 2, 3, 4, 5, 6, 7, 8, 9, 10, 11, 12, 13, 14, 15, 16, 17, 18, 19, 20, 21, 22] []) mixedP (by kernel_rfl) (by kernel_rfl) ?_
            refine Ph.ph_end ?_
            simp only [Ph.opsAt, List.filterMap_cons, List.filterMap_nil, List.getElem?_toArray, List.getElem?_cons_zero, List.getElem?_cons_succ]
            repeat (refine Ph.wpQ_cons ?_; go_wp2_with fail; refine Ph.qnext rfl rfl ?_)
            refine Ph.wpQ_nil ?_
            go_wp2_with fail
            go_roundw
            case rel => exact ⟨i + 1, by go_num, by omega, Lib.hid (by rw [← HM.out]; exact HB.out.drew.set i (-1)), Lib.hid (HW.out.drew.set _ (by simp; omega)), (World.cell?_setCell_other _ _ _ _ (by intro e; have := congrArg Addr.block e; simp at this; omega)).trans e0, (World.cell?_setCell_other _ _ _ _ (by intro e; have := congrArg Addr.block e; simp at this; omega)).trans e1⟩
            case measure => simp [intOf]; omega
          have y1' : decide (x = 0) = false := by simp [y1]
          by_cases y2 : k ≤ 5
          · have y2' : decide (k ≤ 5) = true := by simp [y2]
            by_cases y3 : x = m
            · subst y3
              have HM := Lib.hid (markR_yes k m l i m hx (.inr (.inr ⟨y2, rfl⟩)))
              clear hx hx2
              go_wp2_with fail
              refine Ph.wp_region_ph (Ph.plan [0, 1, 2, 3, 4, 5, 6, 7, 8, 9, 10, 11, 12, 13, 14, 15, 16, 17, 18, 19, 20, 21, 22] []) mixedP (by kernel_rfl) (by kernel_rfl) ?_
              refine Ph.ph_end ?_
              simp only [Ph.opsAt, List.filterMap_cons, List.filterMap_nil, List.getElem?_toArray, List.getElem?_cons_zero, List.getElem?_cons_succ]
              repeat (refine Ph.wpQ_cons ?_; go_wp2_with fail; refine Ph.qnext rfl rfl ?_)
              refine Ph.wpQ_nil ?_
              go_wp2_with fail
              go_roundw
              case rel => exact ⟨i + 1, by go_num, by omega, Lib.hid (by rw [← HM.out]; exact HB.out.drew.set i (-1)), Lib.hid (HW.out.drew.set _ (by simp; omega)), (World.cell?_setCell_other _ _ _ _ (by intro e; have := congrArg Addr.block e; simp at this; omega)).trans e0, (World.cell?_setCell_other _ _ _ _ (by intro e; have := congrArg Addr.block e; simp at this; omega)).trans e1⟩
              case measure => simp [intOf]; omega
            · have y3' : decide (x = (m : Int)) = false := by simp [y3]
              have HM := Lib.hid (markR_no k m l i x hx (by rintro (h | h | ⟨_, h⟩) <;> contradiction))
              clear hx hx2
              go_wp2_with fail
              refine Ph.wp_region_ph (Ph.plan [0, 1, 2, 3, 4, 5, 6, 7, 8, 9, 10, 11, 12, 13, 14, 15, 16, 17, 18, 19, 20, 21, 22] []) mixedP (by kernel_rfl) (by kernel_rfl) ?_
              refine Ph.ph_end ?_
              simp only [Ph.opsAt, List.filterMap_cons, List.filterMap_nil, List.getElem?_toArray, List.getElem?_cons_zero, List.getElem?_cons_succ]
              repeat (refine Ph.wpQ_cons ?_; go_wp2_with fail; refine Ph.qnext rfl rfl ?_)
              refine Ph.wpQ_nil ?_
              go_wp2_with fail
              · exfalso; rename_i h; simp at h; omega
              go_roundw
              case rel => exact ⟨i + 1, by go_num, by omega, Lib.hid (by rw [← HM.out]; exact HB.out.drew), Lib.hid HW.out.drew, e0, e1⟩
              case measure => simp [intOf]; omega
          · have y2' : decide (k ≤ 5) = false := by simp; omega
            have HM := Lib.hid (markR_no k m l i x hx (by rintro (h | h | ⟨h, _⟩) <;> contradiction))
            clear hx hx2
            go_wp2_with fail
            refine Ph.wp_region_ph (Ph.plan [0, 1, 2, 3, 4, 5, 6, 7, 8, 9, 10, 11, 12, 13, 14, 15, 16, 17, 18, 19, 20, 21, 22] []) mixedP (by kernel_rfl) (by kernel_rfl) ?_
            refine Ph.ph_end ?_
            simp only [Ph.opsAt, List.filterMap_cons, List.filterMap_nil, List.getElem?_toArray, List.getElem?_cons_zero, List.getElem?_cons_succ]
            repeat (refine Ph.wpQ_cons ?_; go_wp2_with fail; refine Ph.qnext rfl rfl ?_)
            refine Ph.wpQ_nil ?_
            go_wp2_with fail
            · exfalso; rename_i h; simp at h; omega
            go_roundw
            case rel => exact ⟨i + 1, by go_num, by omega, Lib.hid (by rw [← HM.out]; exact HB.out.drew), Lib.hid HW.out.drew, e0, e1⟩
            case measure => simp [intOf]; omega
        · have hlt' : decide ((i : Int) < (N : Int)) = false := by simp; omega
          obtain rfl : i = N := by omega
          go_wp2_with fail
          go_ret
          refine ⟨.slice (some ⟨g, 0, none⟩) i cap, rfl, ?_, HW.out⟩
          have := HB.out.own (base := w.heap.size) (by omega) hcap
          rw [markR_length, HN.out] at this
          rw [HN.out]
          exact this
end

end Go.Proofs.YtnicdlmcbkkkfaaGreatDoor

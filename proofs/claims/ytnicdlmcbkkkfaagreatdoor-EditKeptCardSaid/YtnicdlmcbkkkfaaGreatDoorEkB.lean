/-
  EditKept: the walks of edit.moves and edit.Kept.
  EditKept: rows of integers of the call's own that grow; the walk of tintyperef18.Ints.
  EditKept: the walks of the reference's from and Kept.
  EditKept: the walk of the reference's Kept.
-/
import Derived.Test.YtnicdlmcbkkkfaaGreatDoorEkA
import Derived.Laws.EntriesVeiled
namespace Go.Proofs.YtnicdlmcbkkkfaaGreatDoor

section
open Go.RowKit

/-- 'make([]int, n, c)'. -/
theorem make_ints {w : World} {ops : Array Oper} {rest : List Oper} {o : Oper} {a : Act} {Q : Exit → Act → World → Prop} (hg : o.guard = none) (l c : Operand) (t : TypeId) (ht : Tryz.prog.underlying t = some (.slice 3)) (hop : o.op = Op.makeSlice t l c)
    (n m : Nat) (hl : a.eval l = .int .i64 n) (L : Int) (hc : a.eval c = .int .i64 L) (hL : L = m) (hnm : n ≤ m) (hn : m ≤ 1000000)
    (hK : ∀ w', BlkI w' w.heap.size (List.replicate m 0) → Held w w' → wpList Tryz.prog ops Q rest (a.put o.dst (.slice (some ⟨w.heap.size, 0, none⟩) n m)) w') : wpList Tryz.prog ops Q (o :: rest) a w := by
  subst hL
  obtain ⟨i0, hi0, hz0, hz1, hz2⟩ := info_parts intInfo
  refine wpList_plain hg fun K hK' => ?_
  have hrun := run_make (P := Tryz.prog) w t 3 i0 (.int .i64 0) ht hi0 hz0 .i64 .i64 n m (by omega) (by omega) (by rw [hz2]; omega) (by omega)
  simp only [Int.toNat_natCast, hz1] at hrun
  unfold Oper.wp
  simp [execOp, hop, hl, hc, hrun, Result.andThen]
  refine hK' _ _ ?_
  have := hK (w.alloc (.cells (madeCells (Value.int .i64 0).cells (m * 1)) 3)) (by rw [made_ints]; exact BlkI.new w _) ((Held.refl w).alloc _)
  simpa using this

/-- the load of a whole deed, behind a guard that lets it be. -/
theorem load_deed_g {ops : Array Oper} {rest : List Oper} {o : Oper} {a : Act} {w : World} {Q : Exit → Act → World → Prop} (x : Operand) (ho : o.op = .load 33 x) (B : Nat) (hx : a.eval x = .pointer (some ⟨B, 0, none⟩)) (D : Array Value) (h : D.size = 26) (hB : DeedAt w B D)
    (hg : Region.wanted o (yielded ops a.tmps) = true) (hK : wpList Tryz.prog ops Q rest (a.put o.dst (.agg D)) w) : wpList Tryz.prog ops Q (o :: rest) a w := by
  have hi : (Tryz.prog.info? 33).map (·.size) = some D.toList.length := by
    rw [Array.length_toList, h]; kernel_rfl
  refine wpList_step fun K hK' => ?_
  rw [if_pos hg]
  refine wp_load_mid 33 x ho B 0 hx D.toList _ hB Tryz.underlying33 (by kernel_rfl) hi (hK' _ _ ?_)
  rw [Array.toArray_toList]
  exact hK

/-- a function's value. -/
def fnV (f : FuncId) : Value := .func (.func f) #[] #[]
/-- edit.moves' functions. -/
def movesV : Array Value := #[.nilFunc, fnV 23, fnV 23, fnV 23, fnV 23, fnV 23,
  fnV 24, fnV 25, fnV 26, fnV 27]

set_option maxRecDepth 20000 in
set_option maxHeartbeats 3200000 in
theorem moves_any (w : World) : Calls Tryz.prog 16 #[] w fun e w' => e = .returned (.agg movesV) ∧ Held w w' := by
  go_enter Tryz.func16, Tryz.ntmps16
  go_wp2_with fail
  refine bodyPost_ret (v := .agg movesV) ?_ rfl ⟨rfl, (Held.refl w).alloc _⟩
  simp [results, Tryz.results16, go_sem, movesV, fnV]

/-- a row that is filled with its places up to j. -/
def fillF (n j : Nat) : List Int := (List.range (n + 1)).map fun i => if i < j ∧ i < n then (i : Int) else 0
theorem fillF_zero (n : Nat) : fillF n 0 = List.replicate (n + 1) 0 := by
  unfold fillF
  apply List.ext_getElem?
  intro i
  by_cases h : i < n + 1
  · simp [h]
  · simp [h]
theorem fillF_length (n j : Nat) : (fillF n j).length = n + 1 := by simp [fillF]
theorem fillF_next (n j : Nat) (h : j < n) : (fillF n j).set j (j : Int) = fillF n (j + 1) := by
  unfold fillF
  apply List.ext_getElem?
  intro i
  rw [List.getElem?_set]
  simp only [List.length_map, List.length_range, List.getElem?_map]
  by_cases e : j = i
  · subst e
    rw [if_pos rfl, if_pos (by omega), List.getElem?_range (by omega)]
    simp [h]
  · rw [if_neg e]
    by_cases hi : i < n + 1
    · rw [List.getElem?_range hi]
      simp only [Option.map_some, Option.some.injEq]
      by_cases c : i < j ∧ i < n
      · rw [if_pos c, if_pos (by omega)]
      · rw [if_neg c, if_neg (by omega)]
    · rw [List.getElem?_eq_none (by simp; omega)]; rfl
theorem fillF_get (n i : Nat) (h : i < n) : (fillF n n)[i]? = some (i : Int) := by
  unfold fillF
  rw [List.getElem?_map, List.getElem?_range (by omega)]
  simp [h]

/-- what a deed of a kind does to a row of n origins. -/
def opF (k m t n : Nat) : List Int :=
  if k ≤ 5 then (fillF n n).set m (-1) else if k = 6 then fillF n n else if k = 7 then insF (fillF n n) n m (-1) else if k = 8 then delF (fillF n n) n m else insF (delF (fillF n n) n m) (n - 1) t m
def opN (k n : Nat) : Nat := if k = 7 then n + 1 else if k = 8 then n - 1 else n

theorem kind_any (g n k m t : Nat) (to : Int) (D : Array Value) (hD : DeedOk D k m to) (h1 : 1 ≤ k) (h9 : k ≤ 9) (hn : n ≤ 1000) (hm : m ≤ n) (hm7 : k ≠ 7 → m < n) (ht : k = 9 → to = t ∧ t < n) :
    ∃ f, movesV[k]? = some (fnV f) ∧ ∀ w, BlkI w g (fillF n n) → Calls Tryz.prog f #[.slice (some ⟨g, 0, none⟩) n (n + 1), .agg D] w (Did g (opN k n) (opF k m t n) w (n + 1)) := by
  by_cases c5 : k ≤ 5
  · refine ⟨23, ?_, fun w hw => ?_⟩
    · have : k = 1 ∨ k = 2 ∨ k = 3 ∨ k = 4 ∨ k = 5 := by omega
      rcases this with rfl | rfl | rfl | rfl | rfl <;> rfl
    · have e : opF k m t n = (fillF n n).set m (-1) := by simp [opF, c5]
      have e2 : opN k n = n := by unfold opN; rw [if_neg (by omega), if_neg (by omega)]
      rw [e, e2]
      exact change_any w g n (n + 1) (fillF n n) k to m D hD hw (hm7 (by omega)) (by rw [fillF_length]; omega)
  have : k = 6 ∨ k = 7 ∨ k = 8 ∨ k = 9 := by omega
  rcases this with rfl | rfl | rfl | rfl
  · exact ⟨24, rfl, fun w hw => stay_any w g n (n + 1) (fillF n n) _ to m D hD hw⟩
  · exact ⟨25, rfl, fun w hw => add_any' w g n (n + 1) (fillF n n) _ to m D hD hw hm (by omega) (by rw [fillF_length]) (by omega)⟩
  · exact ⟨26, rfl, fun w hw => remove_any w g n (n + 1) (fillF n n) _ to m D hD hw (hm7 (by omega)) (by omega) (by rw [fillF_length]) (by omega)⟩
  · obtain ⟨rfl, ht9⟩ := ht rfl
    exact ⟨27, rfl, fun w hw => move_any w g n (n + 1) (fillF n n) _ m D t hD hw (hm7 (by omega)) ht9 (by omega) (by rw [fillF_length]) (by omega) m (fillF_get n m (hm7 (by omega)))⟩

theorem moves_cases (k : Nat) (f : FuncId) (h1 : 1 ≤ k) (h9 : k ≤ 9) (hf : movesV[k]? = some (fnV f)) :
    f = 23 ∨ f = 24 ∨ f = 25 ∨ f = 26 ∨ f = 27 := by
  have : k = 1 ∨ k = 2 ∨ k = 3 ∨ k = 4 ∨ k = 5 ∨ k = 6 ∨ k = 7 ∨ k = 8 ∨ k = 9 := by omega
  rcases this with rfl | rfl | rfl | rfl | rfl | rfl | rfl | rfl | rfl
  all_goals
    simp [movesV, fnV] at hf
    subst hf
    simp

/-- the choice of a function by a kind. -/
theorem index_moves (k : Nat) (f : FuncId) (h1 : 1 ≤ k) (h9 : k ≤ 9) (hf : movesV[k]? = some (fnV f)) (w : World) : (Instr.index 50 (.agg movesV) (.int .i64 k)).run Tryz.prog w = .ok (.func (.func f) #[] #[]) w := by
  have : k = 1 ∨ k = 2 ∨ k = 3 ∨ k = 4 ∨ k = 5 ∨ k = 6 ∨ k = 7 ∨ k = 8 ∨ k = 9 := by omega
  rcases this with rfl | rfl | rfl | rfl | rfl | rfl | rfl | rfl | rfl
  all_goals
    simp [movesV, fnV] at hf
    subst hf
    show _ = _
    kernel_rfl

theorem enter_moves (k : Nat) (f : FuncId) (h1 : 1 ≤ k) (h9 : k ≤ 9) (hf : movesV[k]? = some (fnV f)) (args : Array Value) (w : World) : (callFunc f args).run Tryz.prog w = .ok (.enter f args) w := by
  rcases moves_cases k f h1 h9 hf with rfl | rfl | rfl | rfl | rfl
  all_goals
    show _ = _
    kernel_rfl

/-- the first j of a row of origins marked. -/
def markF (l : List Int) (j : Nat) : List Int := l.mapIdx fun i x => if i < j ∧ (i = 0 ∨ x = 0) then -1 else x

theorem markF_zero (l : List Int) : markF l 0 = l := by
  apply List.ext_getElem?
  intro i
  simp [markF]
theorem markF_length (l : List Int) (j : Nat) : (markF l j).length = l.length := by simp [markF]
theorem markF_get (l : List Int) (j i : Nat) : (markF l j)[i]? = (l[i]?).map fun x => if i < j ∧ (i = 0 ∨ x = 0) then -1 else x := by simp [markF]
theorem markF_yes (l : List Int) (j : Nat) (x : Int) (hx : l[j]? = some x) (h : j = 0 ∨ x = 0) : (markF l j).set j (-1) = markF l (j + 1) := by
  have hj : j < l.length := by
    rcases Nat.lt_or_ge j l.length with h | h
    · exact h
    · rw [List.getElem?_eq_none h] at hx; cases hx
  apply List.ext_getElem?
  intro i
  rw [List.getElem?_set, markF_get, markF_get]
  by_cases e : j = i
  · subst e
    rw [if_pos rfl, if_pos (by rw [markF_length]; exact hj), hx]
    simp [h]
  · rw [if_neg e]
    cases l[i]? with
    | none => rfl
    | some y =>
      simp only [Option.map_some, Option.some.injEq]
      by_cases c : i < j ∧ (i = 0 ∨ y = 0)
      · rw [if_pos c, if_pos ⟨by omega, c.2⟩]
      · rw [if_neg c, if_neg (by intro h; exact c ⟨by omega, h.2⟩)]
theorem markF_no (l : List Int) (j : Nat) (x : Int) (hx : l[j]? = some x) (h : ¬ (j = 0 ∨ x = 0)) : markF l j = markF l (j + 1) := by
  apply List.ext_getElem?
  intro i
  rw [markF_get, markF_get]
  cases hy : l[i]? with
  | none => rfl
  | some y =>
    simp only [Option.map_some, Option.some.injEq]
    by_cases e : i = j
    · subst e
      rw [hx] at hy
      cases hy
      rw [if_neg (by omega), if_neg (fun c => h c.2)]
    · by_cases c : i < j ∧ (i = 0 ∨ y = 0)
      · rw [if_pos c, if_pos ⟨by omega, c.2⟩]
      · rw [if_neg c, if_neg (by intro h; exact c ⟨by omega, h.2⟩)]

theorem opF_length (k m t n : Nat) (h9 : k ≤ 9) (hm : m ≤ n) (hm7 : k ≠ 7 → m < n) (ht : k = 9 → t < n) : (opF k m t n).length = n + 1 := by
  have hL := fillF_length n n
  unfold opF
  split
  · rw [List.length_set, hL]
  split
  · exact hL
  split
  · simp [insF, hL]; omega
  have hd : m < n → (delF (fillF n n) n m).length = n + 1 := by intro h; simp [delF, hL]; omega
  split
  · exact hd (hm7 (by omega))
  · have h1 := hm7 (by omega)
    have h2 := ht (by omega)
    simp [insF, hd h1]; omega
theorem opN_le (k n : Nat) : opN k n ≤ n + 1 := by unfold opN; split; · omega
                                                   split <;> omega

/-- what edit.Kept answers of a deed that it lets pass. -/
def keptF (k m t n : Nat) : List Int := (markF (opF k m t n) (opN k n)).take (opN k n)

/-- a row of integers of the call's own. -/
def OwnI (w : World) (l : List Int) (e : Ending) (w' : World) : Prop :=
  ∃ g cap cur, e = .returned (.slice (some ⟨g, 0, none⟩) l.length cap) ∧ BlkI w' g cur ∧ cur.take l.length = l ∧ l.length ≤ cur.length ∧ w.heap.size ≤ g ∧ Held w w'

set_option maxRecDepth 20000 in
set_option maxHeartbeats 3200000 in
theorem kept_yes (n k m t : Nat) (to : Int) (D : Array Value) (hD : DeedOk D k m to) (h1 : 1 ≤ k) (h9 : k ≤ 9) (hn1 : 1 ≤ n) (hn : n ≤ 1000) (hm : m ≤ n) (hm7 : k ≠ 7 → m < n) (ht : k = 9 → to = t ∧ t < n) (hth : thereB n k m to = true) (w : World) :
    Calls Tryz.prog 6 #[.int .i64 n, .agg D] w (OwnI w (keptF k m t n)) := by
  have HTH := Lib.hid (fun w => there_any n k m to D hD w (by omega) (by omega))
  have HK := Lib.hid (fun g => kind_any g n k m t to D hD h1 h9 hn hm hm7 ht)
  have HD := Lib.hid hD
  have HS := Lib.hid hD.size
  obtain ⟨_, d0, d1, d2⟩ := hD
  go_enter Tryz.func6, Tryz.ntmps6
  have q1 : decide ((n : Int) < 1) = false := by simp; omega
  have q2 : decide ((1000 : Int) < n) = false := by simp; omega
  have q3 : decide ((k : Int) < 1) = false := by simp; omega
  have q4 : decide ((9 : Int) < k) = false := by simp; omega
  go_wp2_with (with_reducible refine load_deed_g (.tmp 3) rfl w.heap.size rfl D HS.out (DeedAt.new w D _) (by simp [Region.wanted, yielded]) ?_)
  refine (HTH.out _).mono ?_
  rintro e w1 ⟨rfl, hd1⟩
  rw [hth]
  have hs1 := hd1.size
  rw [show (w.alloc (Obj.cells D 33)).heap.size = w.heap.size + 1 by simp] at hs1
  have HW1 := Lib.hid (show DeedAt w1 w.heap.size D from (DeedAt.new w D _).held hd1)
  have c0 : w1.cell? ⟨w.heap.size, 0, none⟩ = some (.int .i64 k) := hd1.cell (by go_simp)
  have HH1 := Lib.hid (show Held w w1 from ((Held.refl w).alloc _).tr hd1)
  clear hd1
  go_wp2_with (at_make; refine make_ints rfl (.tmp 31) (.tmp 33) 48 Tryz.underlying48 rfl n (n + 1) rfl _ rfl (by omega) (by omega) (by omega) ?_; intro w2 hb2 hh2)
  have HB0 := Lib.hid (show BlkI w2 w1.heap.size (fillF n 0) by rw [fillF_zero]; exact hb2)
  have HH2 := Lib.hid hh2
  clear hb2 hh2
  go_loopw [37] (fun t37 wr => ∃ j : Nat, t37 = .int .i64 j ∧ j ≤ n ∧ Hid (BlkI wr w1.heap.size (fillF n j)) ∧ Hid (Held w1 wr)) (fun t37 _ => n - (intOf t37).toNat)
  case atStart => exact ⟨0, rfl, Nat.zero_le _, HB0, HH2⟩
  case round =>
    obtain ⟨j, rfl, hj, HB, HW⟩ := hrel
    by_cases hlt : j < n
    · have hlt' : decide ((j : Int) < (n : Int)) = true := by simp; omega
      obtain ⟨x, hx⟩ : ∃ x, (fillF n j)[j]? = some x := ⟨_, List.getElem?_eq_getElem (by rw [fillF_length]; omega)⟩
      have c := HB.out.cell hx
      have f := HB.out.frozen j
      clear hx
      go_wp2_with fail
      go_roundw
      case rel => exact ⟨j + 1, by go_num, by omega, Lib.hid (by rw [← fillF_next n j hlt]; exact HB.out.set j j), Lib.hid ((HW.out).set _ (by simp))⟩
      case measure => simp [intOf]; omega
    · have hlt' : decide ((j : Int) < (n : Int)) = false := by simp; omega
      obtain rfl : j = n := by omega
      go_wp2_with fail
      have c1 : wr.cell? ⟨w.heap.size, 0, none⟩ = some (.int .i64 k) := HW.out.cell c0
      have HWr := Lib.hid (HW1.out.held HW.out)
      obtain ⟨f, hf, hc⟩ := HK.out w1.heap.size
      have HF := Lib.hid hf
      have HC := Lib.hid hc
      clear hf hc HK HTH HH2 HB0 HW1 c0 hlt hlt'
      refine Ph.wp_region_ph (Ph.plan [7] [([1, 2, 4, 5], (0, [1, 2, 4, 5])), ([3], (6, []))]) mixedP (by kernel_rfl) (by kernel_rfl) ?_
      refine Ph.ph_plan ?_
      simp only [Ph.opsAt, List.filterMap_cons, List.filterMap_nil, List.getElem?_toArray, List.getElem?_cons_zero, List.getElem?_cons_succ]
      refine Ph.wpQ_cons ?_
      go_wp2_with fail
      refine Ph.qnext rfl rfl ?_
      refine Ph.wpQ_cons ?_
      go_wp2_with fail
      refine Ph.qnext rfl rfl ?_
      refine Ph.wpQ_cons ?_
      go_wp2_with fail
      refine Ph.qnext rfl rfl ?_
      refine Ph.wpQ_cons ?_
      refine load_deed rfl (.tmp 3) rfl w.heap.size rfl D HS.out (HWr.out.drew) ?_
      go_wp2_with fail
      refine Ph.qnext rfl rfl ?_
      refine Ph.wpQ_nil ?_
      go_wp2_with fail
      refine (moves_any _).mono ?_
      rintro e w3 ⟨rfl, hd3⟩
      have c3 : w3.cell? ⟨w.heap.size, 0, none⟩ = some (.int .i64 k) := hd3.cell (w := wr.drew) c1
      have HW3 := Lib.hid (HWr.out.drew.held hd3)
      have HB3 := Lib.hid (HB.out.drew.held hd3)
      have HH3 := Lib.hid (HW.out.drew.tr hd3)
      clear hd3 c1 HWr HB HW
      go_wp2_with fail
      refine Ph.kgo rfl ?_ ?_
      · refine Ph.again_cons ?_ (Ph.again_cons ?_ (Ph.again_cons ?_ (Ph.again_cons ?_ Ph.again_nil)))
        · simp only [Ph.opsAt, List.filterMap_cons, List.filterMap_nil, List.getElem?_toArray, List.getElem?_cons_zero, List.getElem?_cons_succ]
          refine Ph.wpQ_cons ?_
          go_wp2_with fail
          exact Ph.qnext rfl rfl (Ph.wpQ_nil rfl)
        · simp only [Ph.opsAt, List.filterMap_cons, List.filterMap_nil, List.getElem?_toArray, List.getElem?_cons_zero, List.getElem?_cons_succ]
          refine Ph.wpQ_cons ?_
          go_wp2_with fail
          exact Ph.qnext rfl rfl (Ph.wpQ_nil rfl)
        · simp only [Ph.opsAt, List.filterMap_cons, List.filterMap_nil, List.getElem?_toArray, List.getElem?_cons_zero, List.getElem?_cons_succ]
          refine Ph.wpQ_cons ?_
          go_wp2_with fail
          exact Ph.qnext rfl rfl (Ph.wpQ_nil rfl)
        · simp only [Ph.opsAt, List.filterMap_cons, List.filterMap_nil, List.getElem?_toArray, List.getElem?_cons_zero, List.getElem?_cons_succ]
          refine Ph.wpQ_cons ?_
          refine load_deed rfl (.tmp 3) rfl w.heap.size rfl D HS.out HW3.out ?_
          go_wp2_with fail
          exact Ph.qnext rfl rfl (Ph.wpQ_nil rfl)
      refine Ph.ph_plan ?_
      simp only [Ph.opsAt, List.filterMap_cons, List.filterMap_nil, List.getElem?_toArray, List.getElem?_cons_zero, List.getElem?_cons_succ]
      refine Ph.wpQ_cons ?_
      have HX := fun w => index_moves k f h1 h9 HF.out w
      go_wp2_with fail
      refine Ph.qnext rfl rfl ?_
      refine Ph.wpQ_nil ?_
      clear HX
      have HE := fun args w => enter_moves k f h1 h9 HF.out args w
      go_wp2_with (simp only [HE])
      refine (HC.out _ HB3.out).mono ?_
      rintro e w4 ⟨rfl, hb4, ht4⟩
      have HB4 := Lib.hid hb4
      have HH4 := Lib.hid (show Held w w4 from (HH1.out.tr HH3.out).turned ht4 (by omega))
      clear hb4 ht4 HB3 HE c3 HW3 HC
      go_wp2_with fail
      refine Ph.kgo rfl Ph.again_nil (Ph.ph_end ?_)
      simp only [Ph.opsAt, List.filterMap_cons, List.filterMap_nil, List.getElem?_toArray, List.getElem?_cons_zero, List.getElem?_cons_succ]
      refine Ph.wpQ_cons ?_
      go_wp2_with fail
      refine Ph.qnext rfl rfl ?_
      refine Ph.wpQ_nil ?_
      have HLn := Lib.hid (opF_length k m t j h9 hm hm7 (fun h => (ht h).2))
      have HO := Lib.hid (show keptF k m t j = (markF (opF k m t j) (opN k j)).take (opN k j) from rfl)
      have hN := opN_le k j
      have HB5 := Lib.hid (show BlkI w4 w1.heap.size (markF (opF k m t j) 0) by rw [markF_zero]; exact HB4.out)
      clear HB4 HF hm7 ht hth
      generalize opF k m t j = l at *
      generalize opN k j = N at *
      go_wp2_with fail
      go_loopw [54] (fun t54 wr => ∃ i : Nat, t54 = .int .i64 i ∧ i ≤ N ∧ Hid (BlkI wr w1.heap.size (markF l i)) ∧ Hid (Held w wr)) (fun t54 _ => N - (intOf t54).toNat)
      case atStart => exact ⟨0, rfl, Nat.zero_le _, HB5, HH4⟩
      case round =>
        obtain ⟨i, rfl, hi, HB, HW⟩ := hrel
        have HW' := Lib.hid (show w.heap.size ≤ w1.heap.size by omega)
        by_cases hlt : i < N
        · have hlt' : decide ((i : Int) < (N : Int)) = true := by simp; omega
          obtain ⟨x, hx⟩ : ∃ x, l[i]? = some x := ⟨_, List.getElem?_eq_getElem (by rw [HLn.out]; omega)⟩
          have hx2 : (markF l i)[i]? = some x := by rw [markF_get, hx]; simp
          have c := HB.out.cell hx2
          have f := HB.out.frozen i
          by_cases hz0 : i = 0
          · subst hz0
            have HM := Lib.hid (markF_yes l 0 x hx (.inl rfl))
            clear hx hx2
            go_wp2_with fail
            go_roundw
            case rel => exact ⟨1, by go_num, by omega, Lib.hid (by rw [← HM.out]; exact HB.out.set 0 (-1)), Lib.hid (HW.out.set _ (by simpa using HW'.out))⟩
            case measure => simp [intOf]; omega
          · have hz' : decide ((i : Int) = 0) = false := by simp; omega
            by_cases hx0 : x = 0
            · subst hx0
              have HM := Lib.hid (markF_yes l i 0 hx (.inr rfl))
              clear hx hx2
              go_wp2_with fail
              go_roundw
              case rel => exact ⟨i + 1, by go_num, by omega, Lib.hid (by rw [← HM.out]; exact HB.out.set i (-1)), Lib.hid (HW.out.set _ (by simpa using HW'.out))⟩
              case measure => simp [intOf]; omega
            · have hx' : decide (x = 0) = false := by simp [hx0]
              have HM := Lib.hid (markF_no l i x hx (by simp [hz0, hx0]))
              clear hx hx2
              go_wp2_with fail
              · exfalso; rename_i h; simp at h; omega
              go_roundw
              case rel => exact ⟨i + 1, by go_num, by omega, Lib.hid (by rw [← HM.out]; exact HB.out), HW⟩
              case measure => simp [intOf]; omega
        · have hlt' : decide ((i : Int) < (N : Int)) = false := by simp; omega
          obtain rfl : i = N := by omega
          go_wp2_with fail
          go_ret
          have hLL : (keptF k m t j).length = i := by rw [HO.out, List.length_take, markF_length, HLn.out]; omega
          refine ⟨w1.heap.size, j + 1, markF l i, by simp [hLL], HB.out, by rw [hLL, HO.out], by rw [hLL, markF_length, HLn.out]; omega, HW'.out, HW.out⟩

set_option maxRecDepth 20000 in
set_option maxHeartbeats 3200000 in
theorem kept_no (n k m to : Int) (D : Array Value) (hD : DeedOk D k m to) (h : ¬ (1 ≤ n ∧ n ≤ 1000 ∧ 1 ≤ k ∧ k ≤ 9 ∧ thereB n k m to = true)) (w : World) :
    Calls Tryz.prog 6 #[.int .i64 n, .agg D] w fun e w' => e = .returned (.slice none 0 0) ∧ Held w w' := by
  have HTH := Lib.hid (fun w (h1 : 1 ≤ n) (h2 : n ≤ 1000) => there_any n k m to D hD w h1 h2)
  have HS := Lib.hid hD.size
  obtain ⟨_, d0, d1, d2⟩ := hD
  go_enter Tryz.func6, Tryz.ntmps6
  by_cases q1 : n < 1
  · have q1' : decide (n < 1) = true := by simp [q1]
    go_wp2_with fail
    go_ret
    exact ⟨rfl, (Held.refl w).alloc _⟩
  have q1' : decide (n < 1) = false := by simp; omega
  by_cases q2 : 1000 < n
  · have q2' : decide (1000 < n) = true := by simp [q2]
    go_wp2_with fail
    go_ret
    exact ⟨rfl, (Held.refl w).alloc _⟩
  have q2' : decide (1000 < n) = false := by simp; omega
  by_cases q3 : k < 1
  · have q3' : decide (k < 1) = true := by simp [q3]
    go_wp2_with fail
    go_ret
    exact ⟨rfl, (Held.refl w).alloc _⟩
  have q3' : decide (k < 1) = false := by simp; omega
  by_cases q4 : 9 < k
  · have q4' : decide (9 < k) = true := by simp [q4]
    go_wp2_with fail
    go_ret
    exact ⟨rfl, (Held.refl w).alloc _⟩
  have q4' : decide (9 < k) = false := by simp; omega
  have hth : thereB n k m to = false := by
    cases e : thereB n k m to with
    | false => rfl
    | true => exact absurd ⟨by omega, by omega, by omega, by omega, e⟩ h
  go_wp2_with (with_reducible refine load_deed_g (.tmp 3) rfl w.heap.size rfl D HS.out (DeedAt.new w D _) (by simp [Region.wanted, yielded]) ?_)
  refine (HTH.out _ (by omega) (by omega)).mono ?_
  rintro e w1 ⟨rfl, hd1⟩
  rw [hth]
  go_wp2_with fail
  go_ret
  exact ⟨rfl, ((Held.refl w).alloc _).tr hd1⟩
end

section
open Go.RowKit

theorem IntsAt.reads {w : World} {A : Option Addr} {l : List Int} (h : IntsAt w A l) : Reads w w.heap.size 1 A l.length (intsV l) := by
  refine ⟨by simp [intsV], fun hn => ?_⟩
  obtain ⟨ad, rfl, hb, hc⟩ := h (List.length_pos_iff.1 hn)
  refine ⟨ad, rfl, hb, fun j u hu => ?_⟩
  simp only [intsV, List.getElem?_map, Option.map_eq_some_iff] at hu
  obtain ⟨b, hb', rfl⟩ := hu
  exact hc j b hb'

/-- a slice of the call's own that holds integers, from a block on. -/
def OwnR (w : World) (base : Nat) (v : Value) (l : List Int) : Prop := w.ownsRow base 3 1 v l.length (intsV l)

theorem OwnR.nil (w : World) (base : Nat) : OwnR w base (.slice none 0 0) [] := ⟨rfl, .inl ⟨rfl, rfl⟩⟩
theorem OwnR.alloc {w : World} {base : Nat} {v : Value} {l : List Int} (h : OwnR w base v l) (o : Obj) : OwnR (w.alloc o) base v l := World.ownsRow.alloc h o
theorem OwnR.base {w : World} {base : Nat} {v : Value} {l : List Int} (h : OwnR w base v l) : ∀ g, v.ownBlock = some g → base ≤ g := by
  intro g hg
  rcases h.2 with ⟨rfl, _⟩ | ⟨g', cap, cur, rfl, hb, _⟩
  · simp [Value.ownBlock] at hg
  · simp [Value.ownBlock] at hg; subst hg; exact hb
/-- .. as it lies. -/
theorem OwnR.form {w : World} {base : Nat} {v : Value} {l : List Int} (h : OwnR w base v l) :
    (v = .slice none 0 0 ∧ l = []) ∨ ∃ g cap, v = .slice (some ⟨g, 0, none⟩) l.length cap ∧ base ≤ g ∧ g < w.heap.size ∧ l.length ≤ cap ∧ IntsAt w (some ⟨g, 0, none⟩) l ∧ ∃ cur : Array Value, w.heap[g]? = some (.cells cur 3 (0, 0)) ∧ cur.toList.take l.length = intsV l ∧ cur.size = cap * 1 := by
  rcases h.2 with ⟨rfl, hn⟩ | ⟨g, cap, cur, rfl, hb, hh, h1, h2, h3, h4⟩
  · exact .inl ⟨rfl, by simpa using hn⟩
  · have hg : g < w.heap.size := by
      rcases Nat.lt_or_ge g w.heap.size with h | h
      · exact h
      · rw [Array.getElem?_eq_none h] at hh; cases hh
    rw [Nat.mul_one] at h4
    refine .inr ⟨g, cap, rfl, hb, hg, h1, ?_, cur, hh, h4, h3⟩
    intro _
    refine ⟨_, rfl, hg, fun j x hj => ?_⟩
    have e : ((⟨g, 0, none⟩ : Addr).add j) = ⟨g, j, none⟩ := by unfold Addr.add; split <;> simp_all
    have hjl : j < l.length := by
      rcases Nat.lt_or_ge j l.length with h | h
      · exact h
      · rw [List.getElem?_eq_none h] at hj; cases hj
    rw [e, cell_of_row w g j cur _ _ hh, ← Array.getElem?_toList]
    have := congrArg (fun z : List Value => z[j]?) h4
    simp only [List.getElem?_take, if_pos hjl] at this
    rw [this]
    simp [intsV, hj]

/-- APPEND ONTO INTEGERS OF THE CALL'S OWN. -/
theorem app_own {w : World} {ops : Array Oper} {rest : List Oper} {o : Oper} {a : Act} {Q : Exit → Act → World → Prop} (hgd : o.guard = none) (s x : Operand)
    (ho : o.op = .call { callee := .builtin .append, args := #[s, x], argTypes := #[36, 36] })
    (base : Nat) (v : Value) (l : List Int) (hs : a.eval s = v) (hown : OwnR w base v l)
    (A : Option Addr) (m c : Nat) (k : List Int) (hm : m = k.length) (hx : a.eval x = .slice A m c) (hr : IntsAt w A k)
    (hlen : l.length + k.length ≤ 1000000) (hbase : base ≤ w.heap.size)
    (h : ∀ v' w', OwnR w' base v' (l ++ k) → w.grownBy w' v.ownBlock → wpList Tryz.prog ops Q rest (a.put o.dst v') w') : wpList Tryz.prog ops Q (o :: rest) a w := by
  obtain ⟨i0, hi0, hz0, hz1, hz2⟩ := info_parts intInfo
  subst hm
  have hl1 : (intsV l).length = l.length := intsV_len l
  refine wpList_append_any w hgd s x 36 ho base 3 i0 _ 1 8 Tryz.underlying36 hi0 hz0 hz1 hz2 rfl (by omega) v l.length (intsV l) hs hown w.heap.size A k.length c (intsV k) hx hr.reads (intsV_one k) (by simp only [maxLen]; omega) (by omega) hbase ?_
  intro v' w' h1 h2 _
  refine h v' w' ?_ h2
  unfold OwnR
  have e : intsV (l ++ k) = intsV l ++ intsV k := by simp [intsV]
  rw [e, List.length_append]
  exact h1

set_option maxRecDepth 20000 in
set_option maxHeartbeats 3200000 in
theorem ints_any (l l2 : List Int) (A B : Option Addr) (c c2 : Nat) (w : World) (h : IntsAt w A l) (h2 : IntsAt w B l2) (hl : l.length ≤ 1000000) (hl2 : l2.length ≤ 1000000) :
    Calls Tryz.prog 8 #[.slice A l.length c, .slice B l2.length c2] w fun e w' => e = .returned (.bool (decide (l = l2))) ∧ Held w w' := by
  have H := Lib.hid h
  have H2 := Lib.hid h2
  obtain ⟨n, hn⟩ : ∃ n, l.length = n := ⟨_, rfl⟩
  obtain ⟨m, hm⟩ : ∃ m, l2.length = m := ⟨_, rfl⟩
  rw [hn] at hl ⊢
  rw [hm] at hl2 ⊢
  have HN := Lib.hid hn
  have HM := Lib.hid hm
  clear h h2 hn hm
  go_enter Tryz.func8, Tryz.ntmps8
  by_cases e : n = m
  · subst e
    go_wp2_with fail
    go_loopw [5] (fun t5 wr => ∃ k : Nat, t5 = .int .i64 k ∧ k ≤ n ∧ Hid (l.take k = l2.take k) ∧ Held w wr) (fun t5 _ => n - (intOf t5).toNat)
    case atStart => exact ⟨0, rfl, Nat.zero_le _, Lib.hid (by simp), Held.refl w⟩
    case round =>
      obtain ⟨k, rfl, hk, HT, hw⟩ := hrel
      by_cases hlt : k < n
      · have hlt' : decide ((k : Int) < (n : Int)) = true := by simp; omega
        obtain ⟨x, hx⟩ : ∃ x, l[k]? = some x := ⟨_, List.getElem?_eq_getElem (by rw [HN.out]; exact hlt)⟩
        obtain ⟨y, hy⟩ : ∃ y, l2[k]? = some y := ⟨_, List.getElem?_eq_getElem (by rw [HM.out]; exact hlt)⟩
        obtain ⟨ad, rfl, hb, hc⟩ := (H.out.keep hw) (by intro h; rw [h] at hx; simp at hx)
        obtain ⟨ad2, rfl, hb2, hc2⟩ := (H2.out.keep hw) (by intro h; rw [h] at hy; simp at hy)
        have c0 := hc k x hx
        have c1 := hc2 k y hy
        have HX := Lib.hid hx
        have HY := Lib.hid hy
        clear hc hc2 hx hy
        go_wp2_with fail
        refine Ph.wp_region_ph (Ph.plan [0, 1, 2, 3, 4, 5, 6, 7, 8] []) mixedP (by kernel_rfl) (by kernel_rfl) ?_
        refine Ph.ph_end ?_
        simp only [Ph.opsAt, List.filterMap_cons, List.filterMap_nil, List.getElem?_toArray, List.getElem?_cons_zero, List.getElem?_cons_succ]
        repeat (refine Ph.wpQ_cons ?_; go_wp2_with fail; refine Ph.qnext rfl rfl ?_)
        refine Ph.wpQ_nil ?_
        by_cases hxy : x = y
        · subst hxy
          have hb' : (x != x) = false := by simp
          go_wp2_with fail
          go_roundw
          case rel => exact ⟨k + 1, by go_num, by omega, Lib.hid (by rw [List.take_add_one, List.take_add_one, HT.out, HX.out, HY.out]), hw.drew⟩
          case measure => simp [intOf]; omega
        · have hb' : (x != y) = true := by simp [hxy]
          have HE := Lib.hid (show l ≠ l2 by intro h; rw [h] at HX; have := HX.out.symm.trans HY.out; exact hxy (Option.some.inj this))
          go_wp2_with fail
          go_ret
          exact ⟨ret_bool (by simp [HE.out]), hw.drew⟩
      · have hlt' : decide ((k : Int) < (n : Int)) = false := by simp; omega
        obtain rfl : k = n := by omega
        have HE := Lib.hid (show l = l2 by
          have := HT.out
          rwa [List.take_of_length_le (by rw [HN.out]; exact Nat.le_refl _), List.take_of_length_le (by rw [HM.out]; exact Nat.le_refl _)] at this)
        go_wp2_with fail
        go_ret
        exact ⟨ret_bool (by simp [HE.out]), hw⟩
  · have HE := Lib.hid (show l ≠ l2 by intro h; apply e; rw [← HN.out, ← HM.out, h])
    go_wp2_with fail
    go_ret
    exact ⟨ret_bool (by simp [HE.out]), Held.refl w⟩
end

section
open Go.RowKit

/-- what one origin becomes. -/
def fromS (k : Int) (m i : Nat) : List Int := if k = 7 ∧ i = m then [-1, (i : Int)] else if 8 ≤ k ∧ i = m then [] else [(i : Int)]
def fromL (k : Int) (m : Nat) : Nat → List Int
  | 0 => []
  | i + 1 => fromL k m i ++ fromS k m i
theorem fromL_len (k : Int) (m : Nat) : ∀ i, (fromL k m i).length ≤ 2 * i
  | 0 => by simp [fromL]
  | i + 1 => by
    have := fromL_len k m i
    have h : (fromS k m i).length ≤ 2 := by
      unfold fromS
      split
      · simp
      · split <;> simp
    rw [fromL, List.length_append]
    omega
/-- .. with the new one at the end. -/
def fromE (k : Int) (m n : Nat) : List Int := if k = 7 ∧ m = n then fromL k m n ++ [-1] else fromL k m n
def fromF (k : Int) (m t n : Nat) : List Int := if k = 9 then (fromE k m n).take t ++ [(m : Int)] ++ (fromE k m n).drop t else fromE k m n

theorem IntsAt.lit1 (w : World) (x : Int) : IntsAt (w.alloc (.cells #[.int .i64 x] 3)) (some ⟨w.heap.size, 0, Option.none⟩) [x] := (BlkI.one x rfl).ints
theorem IntsAt.lit2 (w : World) (x y : Int) : IntsAt (w.alloc (.cells #[.int .i64 x, .int .i64 y] 3)) (some ⟨w.heap.size, 0, Option.none⟩) [x, y] := (BlkI.new w [x, y]).ints

theorem OwnR.less {w : World} {base base' : Nat} {v : Value} {l : List Int} (h : OwnR w base v l) (hb : base' ≤ base) : OwnR w base' v l := by
  refine ⟨h.1, ?_⟩
  rcases h.2 with h1 | ⟨g, cap, cur, e, h2, h3⟩
  · exact .inl h1
  · exact .inr ⟨g, cap, cur, e, Nat.le_trans hb h2, h3⟩

theorem IntsAt.take {w : World} {A : Option Addr} {l : List Int} (h : IntsAt w A l) (t : Nat) : IntsAt w A (l.take t) := by
  intro hn
  obtain ⟨ad, rfl, hb, hc⟩ := h (by intro e; rw [e] at hn; simp at hn)
  refine ⟨ad, rfl, hb, fun j x hj => hc j x ?_⟩
  rw [List.getElem?_take] at hj
  split at hj
  · exact hj
  · cases hj
theorem IntsAt.drop {w : World} {ad : Addr} {l : List Int} (h : IntsAt w (some ad) l) (t : Nat) : IntsAt w (some (ad.add t)) (l.drop t) := by
  intro hn
  obtain ⟨ad', e, hb, hc⟩ := h (by intro e; rw [e] at hn; simp at hn)
  cases e
  refine ⟨_, rfl, by rw [block_of_add]; exact hb, fun j x hj => ?_⟩
  rw [add_of_add]
  exact hc _ x (by rwa [List.getElem?_drop] at hj)

theorem IntsAt.drop0 {w : World} {g : Nat} {l : List Int} (h : IntsAt w (some ⟨g, 0, Option.none⟩) l) (t : Nat) : IntsAt w (some ⟨g, t, Option.none⟩) (l.drop t) := by
  have e : (⟨g, 0, Option.none⟩ : Addr).add t = ⟨g, t, Option.none⟩ := by unfold Addr.add; split <;> simp_all
  rw [← e]
  exact h.drop t

/-- a row of the call's own is the answer. -/
def RetI (w : World) (l : List Int) (e : Ending) (w' : World) : Prop := ∃ v, e = .returned v ∧ OwnR w' w.heap.size v l ∧ Held w w'

set_option maxRecDepth 20000 in
set_option maxHeartbeats 3200000 in
theorem from_any (n m t : Nat) (k to : Int) (D : Array Value) (hD : DeedOk D k m to) (hn : n ≤ 1000) (h9 : k = 9 → to = t ∧ t ≤ (fromE k m n).length) (w : World) :
    Calls Tryz.prog 17 #[.int .i64 n, .agg D] w (RetI w (fromF k m t n)) := by
  have HT := Lib.hid h9
  clear h9
  obtain ⟨_, d0, d1, d2⟩ := hD
  go_enter Tryz.func17, Tryz.ntmps17
  go_wp2_with fail
  go_loopw [5, 6] (fun t5 t6 wr => ∃ i : Nat, t6 = .int .i64 i ∧ i ≤ n ∧ Hid (OwnR wr (w.heap.size + 1) t5 (fromL k m i)) ∧ Hid (Held (w.alloc (.cells D 33)) wr)) (fun _ t6 _ => n - (intOf t6).toNat)
  case atStart => exact ⟨0, rfl, Nat.zero_le _, Lib.hid (OwnR.nil _ _), Lib.hid (Held.refl _)⟩
  case round =>
    obtain ⟨i, rfl, hi, HO, HW⟩ := hrel
    have c0 : wr.cell? ⟨w.heap.size, 0, none⟩ = some (.int .i64 k) := HW.out.cell (by go_simp)
    have c1 : wr.cell? ⟨w.heap.size, 1, none⟩ = some (.int .i64 m) := HW.out.cell (by go_simp)
    have hsz : w.heap.size + 1 ≤ wr.heap.size := by have := HW.out.size; simpa using this
    by_cases hlt : i < n
    · have hlt' : decide ((i : Int) < (n : Int)) = true := by simp; omega
      have hlen := fromL_len k m i
      have HL := Lib.hid hlen
      by_cases ha : k = 7 ∧ i = m
      · obtain ⟨rfl, rfl⟩ := ha
        have HS := Lib.hid (show fromL 7 i i ++ [-1, (i : Int)] = fromL 7 i (i + 1) by rw [fromL, fromS, if_pos ⟨rfl, rfl⟩])
        have HBase := Lib.hid HO.out.base
        go_wp2_with (at_builtin; refine app_own rfl (.tmp 27) (.tmp 29) rfl (w.heap.size + 1) _ (fromL 7 i i) rfl (HO.out.alloc _) _ 2 2 [-1, (i : Int)] rfl rfl (IntsAt.lit2 _ _ _) (by have := HL.out; simp; omega) (by simp; omega) ?_; intro v1 w2 hown1 hg1)
        go_roundw
        case rel => exact ⟨i + 1, by go_num, by omega, Lib.hid (by rw [← HS.out]; exact hown1), Lib.hid ((HW.out.alloc _).grown hg1 (fun g hg => by have := HBase.out g hg; simpa using this))⟩
        case measure => simp [intOf]; omega
      · by_cases hb : 8 ≤ k ∧ i = m
        · obtain ⟨hb1, rfl⟩ := hb
          have b1 : decide (k = 7) = false := by simp; omega
          have b2 : decide ((8 : Int) ≤ k) = true := by simp [hb1]
          have HS := Lib.hid (show fromL k i i = fromL k i (i + 1) by rw [fromL, fromS, if_neg ha, if_pos ⟨hb1, rfl⟩, List.append_nil])
          go_wp2_with fail
          go_roundw
          case rel => exact ⟨i + 1, by go_num, by omega, Lib.hid (by rw [← HS.out]; exact HO.out), HW⟩
          case measure => simp [intOf]; omega
        · have HS := Lib.hid (show fromL k m i ++ [(i : Int)] = fromL k m (i + 1) by rw [fromL, fromS, if_neg ha, if_neg hb])
          have HBase := Lib.hid HO.out.base
          by_cases hm : i = m
          · subst hm
            have b1 : decide (k = 7) = false := by simp; omega
            have b2 : decide ((8 : Int) ≤ k) = false := by simp; omega
            go_wp2_with (at_builtin; refine app_own rfl (.tmp 13) (.tmp 15) rfl (w.heap.size + 1) _ _ rfl (HO.out.alloc _) _ 1 1 [(i : Int)] rfl rfl (IntsAt.lit1 _ _) (by have := HL.out; simp; omega) (by simp; omega) ?_; intro v1 w2 hown1 hg1)
            go_roundw
            case rel => exact ⟨i + 1, by go_num, by omega, Lib.hid (by rw [← HS.out]; exact hown1), Lib.hid ((HW.out.alloc _).grown hg1 (fun g hg => by have := HBase.out g hg; simpa using this))⟩
            case measure => simp [intOf]; omega
          · have b3 : decide ((i : Int) = (m : Int)) = false := by simp; omega
            by_cases h7 : k = 7
            · subst h7
              go_wp2_with (at_builtin; refine app_own rfl (.tmp 13) (.tmp 15) rfl (w.heap.size + 1) _ _ rfl (HO.out.alloc _) _ 1 1 [(i : Int)] rfl rfl (IntsAt.lit1 _ _) (by have := HL.out; simp; omega) (by simp; omega) ?_; intro v1 w2 hown1 hg1)
              go_roundw
              case rel => exact ⟨i + 1, by go_num, by omega, Lib.hid (by rw [← HS.out]; exact hown1), Lib.hid ((HW.out.alloc _).grown hg1 (fun g hg => by have := HBase.out g hg; simpa using this))⟩
              case measure => simp [intOf]; omega
            · have b1 : decide (k = 7) = false := by simp; omega
              by_cases h8 : 8 ≤ k
              · have b2 : decide ((8 : Int) ≤ k) = true := by simp; omega
                go_wp2_with (at_builtin; refine app_own rfl (.tmp 13) (.tmp 15) rfl (w.heap.size + 1) _ _ rfl (HO.out.alloc _) _ 1 1 [(i : Int)] rfl rfl (IntsAt.lit1 _ _) (by have := HL.out; simp; omega) (by simp; omega) ?_; intro v1 w2 hown1 hg1)
                go_roundw
                case rel => exact ⟨i + 1, by go_num, by omega, Lib.hid (by rw [← HS.out]; exact hown1), Lib.hid ((HW.out.alloc _).grown hg1 (fun g hg => by have := HBase.out g hg; simpa using this))⟩
                case measure => simp [intOf]; omega
              · have b2 : decide ((8 : Int) ≤ k) = false := by simp; omega
                go_wp2_with (at_builtin; refine app_own rfl (.tmp 13) (.tmp 15) rfl (w.heap.size + 1) _ _ rfl (HO.out.alloc _) _ 1 1 [(i : Int)] rfl rfl (IntsAt.lit1 _ _) (by have := HL.out; simp; omega) (by simp; omega) ?_; intro v1 w2 hown1 hg1)
                go_roundw
                case rel => exact ⟨i + 1, by go_num, by omega, Lib.hid (by rw [← HS.out]; exact hown1), Lib.hid ((HW.out.alloc _).grown hg1 (fun g hg => by have := HBase.out g hg; simpa using this))⟩
                case measure => simp [intOf]; omega
    · have hlt' : decide ((i : Int) < (n : Int)) = false := by simp; omega
      obtain rfl : i = n := by omega
      have HL := Lib.hid (fromL_len k m i)
      have HBase := Lib.hid HO.out.base
      have HW0 := Lib.hid (show Held w wr from ((Held.refl w).alloc _).tr HW.out)
      have hle := HO.out.1
      by_cases ha : k = 7 ∧ m = i
      · obtain ⟨rfl, rfl⟩ := ha
        have HF := Lib.hid (show fromF 7 m t m = fromL 7 m m ++ [-1] by unfold fromF fromE; rw [if_neg (by omega), if_pos ⟨rfl, rfl⟩])
        go_wp2_with (at_builtin; refine app_own rfl (.tmp 50) (.tmp 51) rfl (w.heap.size + 1) u5 _ rfl (HO.out.alloc _) _ 1 1 [-1] rfl rfl (IntsAt.lit1 _ _) (by have := HL.out; simp; omega) (by simp; omega) ?_; intro v1 w2 hown1 hg1; have hh2 : Held (w.alloc (.cells D 33)) w2 := (HW.out.alloc _).grown hg1 (fun g hg => by have := HBase.out g hg; simpa using this); have c0' : w2.cell? ⟨w.heap.size, 0, none⟩ = some (.int .i64 7) := hh2.cell (by go_simp))
        go_ret
        exact ⟨v1, rfl, by rw [HF.out]; exact OwnR.less hown1 (by omega), (HW0.out.alloc _).grown hg1 (fun g hg => by have := HBase.out g hg; omega)⟩
      · have HE := Lib.hid (show fromE k m i = fromL k m i by unfold fromE; rw [if_neg ha])
        by_cases h9 : k = 9
        · subst h9
          obtain ⟨rfl, ht⟩ := HT.out rfl
          rw [HE.out] at ht
          have c25 : wr.cell? ⟨w.heap.size, 25, none⟩ = some (.int .i64 t) := HW.out.cell (by go_simp)
          have HF := Lib.hid (show fromF 9 m t i = (fromL 9 m i).take t ++ [(m : Int)] ++ (fromL 9 m i).drop t by unfold fromF; rw [if_pos rfl, HE.out])
          rcases HO.out.form with ⟨rfl, hl0⟩ | ⟨g, cap, rfl, hb, hlt2, hcap, hat, cur, hcur, hct, hcs⟩
          · have ht0 : t = 0 := by rw [hl0] at ht; simpa using ht
            subst ht0
            rw [hl0] at HF
            clear HT
            go_wp2_with (first
              | (at_builtin; refine app_own rfl (.tmp 56) (.tmp 60) rfl wr.heap.size (.slice none 0 0) [] rfl (OwnR.nil _ _) _ 0 _ [] rfl rfl (fun h => absurd rfl h) (by simp) (Nat.le_refl _) ?_; intro v1 w2 hown1 hg1; have hh2 : Held wr w2 := (Held.refl wr).grown hg1 (fun g hg => by simp [Value.ownBlock] at hg); have c1' := hh2.cell c1; have c25' := hh2.cell c25)
              | (at_builtin; refine app_own rfl (.tmp 62) (.tmp 65) rfl wr.heap.size v1 _ rfl (hown1.alloc _) _ 1 1 [(m : Int)] rfl rfl (IntsAt.lit1 _ _) (by simp) (by have := hh2.size; simp; omega) ?_; intro v2 w3 hown2 hg2; have hh3 : Held wr w3 := (hh2.alloc _).grown hg2 (fun g hg => hown1.base g hg); have c25'' := hh3.cell c25)
              | (at_builtin; refine app_own rfl (.tmp 67) (.tmp 71) rfl wr.heap.size v2 _ rfl hown2 _ 0 _ [] rfl rfl (fun h => absurd rfl h) (by simp) hh3.size ?_; intro v3 w4 hown3 hg3))
            go_ret
            exact ⟨v3, rfl, by rw [HF.out]; exact OwnR.less hown3 (by omega), HW0.out.tr (hh3.grown hg3 (fun g hg => hown2.base g hg))⟩
          · have HAT := Lib.hid hat
            obtain ⟨L, hL⟩ : ∃ L, (fromL 9 m i).length = L := ⟨_, rfl⟩
            rw [hL] at ht hcap ⊢
            have t1 : t ≤ cap := by omega
            have HLn := Lib.hid hL
            clear hcur hct hcs hat HT
            by_cases hct : cap = t
            · subst hct
              have HDr := Lib.hid (show (fromL 9 m i).drop cap = [] from List.drop_of_length_le (by rw [HLn.out]; omega))
              go_wp2_with (first
              | (at_builtin; refine app_own rfl (.tmp 56) (.tmp 60) rfl wr.heap.size (.slice none 0 0) [] rfl (OwnR.nil _ _) _ cap cap ((fromL 9 m i).take cap) (by rw [List.length_take, HLn.out]; omega) rfl (HAT.out.take cap) (by have := HL.out; simp; omega) (Nat.le_refl _) ?_; intro v1 w2 hown1 hg1; have hh2 : Held wr w2 := (Held.refl wr).grown hg1 (fun g hg => by simp [Value.ownBlock] at hg); have c1' := hh2.cell c1; have c25' := hh2.cell c25)
              | (at_builtin; refine app_own rfl (.tmp 62) (.tmp 65) rfl wr.heap.size v1 _ rfl (hown1.alloc _) _ 1 1 [(m : Int)] rfl rfl (IntsAt.lit1 _ _) (by have := HL.out; simp; omega) (by have := hh2.size; simp; omega) ?_; intro v2 w3 hown2 hg2; have hh3 : Held wr w3 := (hh2.alloc _).grown hg2 (fun g hg => hown1.base g hg); have c25'' := hh3.cell c25)
              | (at_builtin; refine app_own rfl (.tmp 67) (.tmp 71) rfl wr.heap.size v2 _ rfl hown2 _ _ _ ((fromL 9 m i).drop cap) (by rw [List.length_drop, HLn.out]; omega) rfl (by rw [HDr.out]; exact fun h => absurd rfl h) (by have := HL.out; simp; omega) hh3.size ?_; intro v3 w4 hown3 hg3))
              go_ret
              exact ⟨v3, rfl, by rw [HF.out]; exact OwnR.less hown3 (by omega), HW0.out.tr (hh3.grown hg3 (fun g hg => hown2.base g hg))⟩
            · have hct' : decide (cap = t) = false := by simp [hct]
              go_wp2_with (first
              | (at_builtin; refine app_own rfl (.tmp 56) (.tmp 60) rfl wr.heap.size (.slice none 0 0) [] rfl (OwnR.nil _ _) _ t cap ((fromL 9 m i).take t) (by rw [List.length_take, HLn.out]; omega) rfl (HAT.out.take t) (by have := HL.out; simp; omega) (Nat.le_refl _) ?_; intro v1 w2 hown1 hg1; have hh2 : Held wr w2 := (Held.refl wr).grown hg1 (fun g hg => by simp [Value.ownBlock] at hg); have c1' := hh2.cell c1; have c25' := hh2.cell c25)
              | (at_builtin; refine app_own rfl (.tmp 62) (.tmp 65) rfl wr.heap.size v1 _ rfl (hown1.alloc _) _ 1 1 [(m : Int)] rfl rfl (IntsAt.lit1 _ _) (by have := HL.out; simp; omega) (by have := hh2.size; simp; omega) ?_; intro v2 w3 hown2 hg2; have hh3 : Held wr w3 := (hh2.alloc _).grown hg2 (fun g hg => hown1.base g hg); have c25'' := hh3.cell c25)
              | (at_builtin; refine app_own rfl (.tmp 67) (.tmp 71) rfl wr.heap.size v2 _ rfl hown2 _ _ _ ((fromL 9 m i).drop t) (by rw [List.length_drop, HLn.out]) rfl ((HAT.out.keep hh3).drop0 t) (by have := HL.out; simp; omega) hh3.size ?_; intro v3 w4 hown3 hg3))
              go_ret
              exact ⟨v3, rfl, by rw [HF.out]; exact OwnR.less hown3 (by omega), HW0.out.tr (hh3.grown hg3 (fun g hg => hown2.base g hg))⟩
        · have HF := Lib.hid (show fromF k m t i = fromL k m i by unfold fromF; rw [if_neg h9, HE.out])
          have b2 : decide (k = 9) = false := by simp [h9]
          have b1 : ((k == 7) && ((m : Int) == (i : Int))) = false := by
            rw [Bool.and_eq_false_iff]; simp; omega
          by_cases hm : m = i
          · subst hm
            have b3 : decide (k = 7) = false := by simp; omega
            go_wp2_with fail
            go_ret
            exact ⟨u5, rfl, by rw [HF.out]; exact OwnR.less HO.out (by omega), HW0.out⟩
          · have b3 : decide ((m : Int) = (i : Int)) = false := by simp; omega
            by_cases h7 : k = 7
            · subst h7
              go_wp2_with fail
              go_ret
              exact ⟨u5, rfl, by rw [HF.out]; exact OwnR.less HO.out (by omega), HW0.out⟩
            · have b4 : decide (k = 7) = false := by simp [h7]
              go_wp2_with fail
              go_ret
              exact ⟨u5, rfl, by rw [HF.out]; exact OwnR.less HO.out (by omega), HW0.out⟩
end

section
open Go.RowKit

/-- a row of integers in a block, with room behind it. -/
def RowI (w : World) (g cap : Nat) (l : List Int) : Prop := ∃ cur : Array Value, w.heap[g]? = some (.cells cur 3 (0, 0)) ∧ cur.toList.take l.length = intsV l ∧ cur.size = cap ∧ l.length ≤ cap

theorem RowI.cell {w : World} {g cap i : Nat} {l : List Int} {x : Int} (h : RowI w g cap l) (hi : l[i]? = some x) : w.cell? ⟨g, i, none⟩ = some (.int .i64 x) := by
  obtain ⟨cur, hh, ht, hs, hl⟩ := h
  have hil : i < l.length := by
    rcases Nat.lt_or_ge i l.length with h | h
    · exact h
    · rw [List.getElem?_eq_none h] at hi; cases hi
  rw [cell_of_row w g i cur _ _ hh, ← Array.getElem?_toList]
  have := congrArg (fun z : List Value => z[i]?) ht
  simp only [List.getElem?_take, if_pos hil] at this
  rw [this]
  simp [intsV, hi]
theorem RowI.frozen {w : World} {g cap : Nat} {l : List Int} (h : RowI w g cap l) (i : Nat) : w.frozen? ⟨g, i, none⟩ = false := by
  obtain ⟨cur, hh, _⟩ := h
  simp [World.frozen?, hh]
theorem RowI.set {w : World} {g cap : Nat} {l : List Int} (h : RowI w g cap l) (i : Nat) (x : Int) : RowI (w.setCell ⟨g, i, none⟩ (.int .i64 x)) g cap (l.set i x) := by
  obtain ⟨cur, hh, ht, hs, hl⟩ := h
  refine ⟨cur.setIfInBounds i (.int .i64 x), ?_, ?_, by simpa using hs, by simpa using hl⟩
  · simp [World.setCell, Array.getElem?_modify, hh]
  · rw [List.length_set, Array.toList_setIfInBounds, List.take_set, ht]
    simp [intsV, List.map_set]
theorem RowI.drew {w : World} {g cap : Nat} {l : List Int} (h : RowI w g cap l) : RowI w.drew g cap l := h
theorem RowI.own {w : World} {g cap base : Nat} {l : List Int} (h : RowI w g cap l) (hb : base ≤ g) (hc : cap ≤ maxLen) : OwnR w base (.slice (some ⟨g, 0, none⟩) l.length cap) l := by
  obtain ⟨cur, hh, ht, hs, hl⟩ := h
  exact ⟨by rw [intsV_len, Nat.mul_one], .inr ⟨g, cap, cur, rfl, hb, hh, hl, hc, by rw [Nat.mul_one]; exact hs, by rw [Nat.mul_one]; exact ht⟩⟩

/-- the first j of a row of origins marked, as the reference marks them. -/
def markR (k : Int) (m : Nat) (l : List Int) (j : Nat) : List Int := l.mapIdx fun i (x : Int) => if i < j ∧ (i = 0 ∨ x = 0 ∨ (k ≤ 5 ∧ x = (m : Int))) then -1 else x
theorem markR_zero (k : Int) (m : Nat) (l : List Int) : markR k m l 0 = l := by
  apply List.ext_getElem?
  intro i
  simp [markR]
theorem markR_length (k : Int) (m : Nat) (l : List Int) (j : Nat) : (markR k m l j).length = l.length := by simp [markR]
theorem markR_get (k : Int) (m : Nat) (l : List Int) (j i : Nat) : (markR k m l j)[i]? = (l[i]?).map fun (x : Int) => if i < j ∧ (i = 0 ∨ x = 0 ∨ (k ≤ 5 ∧ x = (m : Int))) then -1 else x := by simp [markR]
theorem markR_yes (k : Int) (m : Nat) (l : List Int) (j : Nat) (x : Int) (hx : l[j]? = some x) (h : j = 0 ∨ x = 0 ∨ (k ≤ 5 ∧ x = (m : Int))) : (markR k m l j).set j (-1) = markR k m l (j + 1) := by
  have hj : j < l.length := by
    rcases Nat.lt_or_ge j l.length with h | h
    · exact h
    · rw [List.getElem?_eq_none h] at hx; cases hx
  apply List.ext_getElem?
  intro i
  rw [List.getElem?_set, markR_get, markR_get]
  by_cases e : j = i
  · subst e
    rw [if_pos rfl, if_pos (by rw [markR_length]; exact hj), hx]
    simp [h]
  · rw [if_neg e]
    cases l[i]? with
    | none => rfl
    | some y =>
      simp only [Option.map_some, Option.some.injEq]
      by_cases c : i < j ∧ (i = 0 ∨ y = 0 ∨ (k ≤ 5 ∧ y = (m : Int)))
      · rw [if_pos c, if_pos ⟨by omega, c.2⟩]
      · rw [if_neg c, if_neg (by intro h; exact c ⟨by omega, h.2⟩)]
theorem markR_no (k : Int) (m : Nat) (l : List Int) (j : Nat) (x : Int) (hx : l[j]? = some x) (h : ¬ (j = 0 ∨ x = 0 ∨ (k ≤ 5 ∧ x = (m : Int)))) : markR k m l j = markR k m l (j + 1) := by
  apply List.ext_getElem?
  intro i
  rw [markR_get, markR_get]
  cases hy : l[i]? with
  | none => rfl
  | some y =>
    simp only [Option.map_some, Option.some.injEq]
    by_cases e : i = j
    · subst e
      rw [hx] at hy
      cases hy
      rw [if_neg (by omega), if_neg (fun c => h c.2)]
    · by_cases c : i < j ∧ (i = 0 ∨ y = 0 ∨ (k ≤ 5 ∧ y = (m : Int)))
      · rw [if_pos c, if_pos ⟨by omega, c.2⟩]
      · rw [if_neg c, if_neg (by intro h; exact c ⟨by omega, h.2⟩)]

set_option maxRecDepth 20000 in
set_option maxHeartbeats 3200000 in
theorem rkept_no (n k m to : Int) (D : Array Value) (hD : DeedOk D k m to) (h : ¬ (1 ≤ n ∧ n ≤ 1000 ∧ 1 ≤ k ∧ k ≤ 9 ∧ thereB n k m to = true)) (w : World) :
    Calls Tryz.prog 7 #[.int .i64 n, .agg D] w fun e w' => e = .returned (.slice none 0 0) ∧ Held w w' := by
  obtain ⟨_, d0, d1, d2⟩ := hD
  go_enter Tryz.func7, Tryz.ntmps7
  by_cases q1 : n < 1
  · have q1' : decide (n < 1) = true := by simp [q1]
    go_wp2_with fail
    go_ret
    exact ⟨rfl, (Held.refl w).alloc _⟩
  have q1' : decide (n < 1) = false := by simp; omega
  by_cases q2 : 1000 < n
  · have q2' : decide (1000 < n) = true := by simp [q2]
    go_wp2_with fail
    go_ret
    exact ⟨rfl, (Held.refl w).alloc _⟩
  have q2' : decide (1000 < n) = false := by simp; omega
  by_cases q3 : k < 1
  · have q3' : decide (k < 1) = true := by simp [q3]
    go_wp2_with fail
    go_ret
    exact ⟨rfl, (Held.refl w).alloc _⟩
  have q3' : decide (k < 1) = false := by simp; omega
  by_cases q4 : 9 < k
  · have q4' : decide (9 < k) = true := by simp [q4]
    go_wp2_with fail
    go_ret
    exact ⟨rfl, (Held.refl w).alloc _⟩
  have q4' : decide (9 < k) = false := by simp; omega
  by_cases q5 : m < 0
  · have q5' : decide (m < 0) = true := by simp [q5]
    go_wp2_with fail
    go_ret
    exact ⟨rfl, (Held.refl w).alloc _⟩
  have q5' : decide (m < 0) = false := by simp; omega
  by_cases q6 : n < m
  · have q6' : decide (n < m) = true := by simp [q6]
    go_wp2_with fail
    go_ret
    exact ⟨rfl, (Held.refl w).alloc _⟩
  have q6' : decide (n < m) = false := by simp; omega
  by_cases q7 : m = n ∧ k ≠ 7
  · obtain ⟨rfl, q7⟩ := q7
    have q7' : decide (k = 7) = false := by simp [q7]
    have q7'' : (k != 7) = true := by simp [q7]
    go_wp2_with fail
    go_ret
    exact ⟨rfl, (Held.refl w).alloc _⟩
  have hk9 : k = 9 := by
    unfold thereB at h
    by_cases e : k = 9
    · exact e
    · exfalso
      apply h
      refine ⟨by omega, by omega, by omega, by omega, ?_⟩
      simp only [decide_eq_true_eq]
      refine ⟨by omega, ?_, .inl e⟩
      split <;> omega
  subst hk9
  have q8 : to < 0 ∨ n ≤ to := by
    unfold thereB at h
    by_cases e : to < 0 ∨ n ≤ to
    · exact e
    · exfalso
      apply h
      refine ⟨by omega, by omega, by omega, by omega, ?_⟩
      simp only [decide_eq_true_eq]
      refine ⟨by omega, ?_, .inr ⟨by omega, by omega⟩⟩
      rw [if_neg (by omega)]
      omega
  have q9 : decide (m = n) = false := by simp; omega
  by_cases q10 : to < 0
  · have q10' : decide (to < 0) = true := by simp [q10]
    go_wp2_with fail
    go_ret
    exact ⟨rfl, (Held.refl w).alloc _⟩
  · have q10' : decide (to < 0) = false := by simp; omega
    have q11 : decide (n ≤ to) = true := by simp; omega
    go_wp2_with fail
    go_ret
    exact ⟨rfl, (Held.refl w).alloc _⟩
end

end Go.Proofs.YtnicdlmcbkkkfaaGreatDoor

/-
  EditKept: the walks of edit.there and edit.moves.
  Blocks of integers: what they hold, appends and copies into them.
  EditKept: the walk of slices.Delete at one place of a block of integers.
  EditKept: the walk of slices.Insert of one integer into a block that has room.
  EditKept: the walks of what kinds of deeds do to origins.
-/
import Derived.Test.YtnicdlmcbkkkfaaGreatDoorEkBase
import Derived.Test.YtnicdlmcbkkkfaaGreatDoorPhA
import Derived.Deep.MidRow
import Derived.Deep.AppendSrc
import Derived.Laws.CopyRow
import Derived.Laws.CopyOwn
import Derived.OwnWalk
import Derived.Lib.Overlaps
import Derived.StillTactics
import Derived.Laws.Externs
namespace Go.Proofs.YtnicdlmcbkkkfaaGreatDoor

section
open Go.RowKit

/-- a deed's cells: its kind, its member, and where to, are known. -/
structure DeedOk (D : Array Value) (k m to : Int) : Prop where
  size : D.size = 26
  k0 : ∀ h : 0 < D.size, D[0] = .int .i64 k
  m1 : ∀ h : 1 < D.size, D[1] = .int .i64 m
  t25 : ∀ h : 25 < D.size, D[25] = .int .i64 to

/-- a block that holds a deed. -/
def DeedAt (W : World) (B : Nat) (D : Array Value) : Prop := ∀ j v, D.toList[j]? = some v → W.cell? ⟨B, 0 + j, none⟩ = some v

theorem DeedAt.new (w : World) (D : Array Value) (T : TypeId) : DeedAt (w.alloc (.cells D T)) w.heap.size D := fun j v hj => by
  rw [Nat.zero_add, World.cell?_alloc_new, ← Array.getElem?_toList]; exact hj
theorem DeedAt.drew {W : World} {B : Nat} {D : Array Value} (h : DeedAt W B D) : DeedAt W.drew B D := h
theorem DeedAt.held {W W' : World} {B : Nat} {D : Array Value} (h : DeedAt W B D) (hw : Held W W') : DeedAt W' B D := fun j v hj => hw.cell (h j v hj)

/-- the load of a whole deed. -/
theorem load_deed {ops : Array Oper} {rest : List Oper} {o : Oper} {a : Act} {w : World} {Q : Exit → Act → World → Prop} (hg : o.guard = none) (x : Operand) (ho : o.op = .load 33 x) (B : Nat) (hx : a.eval x = .pointer (some ⟨B, 0, none⟩)) (D : Array Value) (h : D.size = 26) (hB : DeedAt w B D)
    (hK : wpList Tryz.prog ops Q rest (a.put o.dst (.agg D)) w) : wpList Tryz.prog ops Q (o :: rest) a w := by
  have hi : (Tryz.prog.info? 33).map (·.size) = some D.toList.length := by
    rw [Array.length_toList, h]; kernel_rfl
  refine wpList_load_mid hg 33 x ho B 0 hx D.toList _ hB Tryz.underlying33 (by kernel_rfl) hi ?_
  rw [Array.toArray_toList]
  exact hK

def thereB (n k m to : Int) : Bool := decide (0 ≤ m ∧ m ≤ (if k = 7 then n else n - 1) ∧ (k ≠ 9 ∨ (0 ≤ to ∧ to < n)))

set_option maxRecDepth 20000 in
set_option maxHeartbeats 3200000 in
theorem there_any (n k m to : Int) (D : Array Value) (hD : DeedOk D k m to) (w : World) (hn : 1 ≤ n) (hn2 : n ≤ 1000) :
    Calls Tryz.prog 15 #[.int .i64 n, .agg D] w fun e w' => e = .returned (.bool (thereB n k m to)) ∧ Held w w' := by
  obtain ⟨_, d0, d1, d2⟩ := hD
  go_enter Tryz.func15, Tryz.ntmps15
  go_wp2_with fail
  all_goals go_ret
  all_goals refine ⟨ret_bool ?_, (Held.refl w).alloc _⟩
  all_goals (unfold thereB)
  all_goals (simp_all)
  all_goals (try omega)
end

section
open Go.RowKit

def intsV (l : List Int) : List Value := l.map (Value.int .i64)
theorem intsV_one (l : List Int) : ∀ u ∈ intsV l, u.oneCell' = true := by
  intro u hu
  simp only [intsV, List.mem_map] at hu
  obtain ⟨b, _, rfl⟩ := hu
  rfl
theorem intsV_len (l : List Int) : (intsV l).length = l.length := by simp [intsV]

/-- a slice's address that holds integers. -/
def IntsAt (w : World) (A : Option Addr) (l : List Int) : Prop :=
  l ≠ [] → ∃ ad, A = some ad ∧ ad.block < w.heap.size ∧ ∀ k x, l[k]? = some x → w.cell? (ad.add k) = some (.int .i64 x)

theorem IntsAt.keep {w w' : World} {A : Option Addr} {l : List Int} (h : IntsAt w A l) (hw : Held w w') : IntsAt w' A l := by
  intro hl
  obtain ⟨ad, rfl, hb, hc⟩ := h hl
  exact ⟨ad, rfl, Nat.lt_of_lt_of_le hb hw.size, fun k b hk => hw.at_ (hc k b hk)⟩

theorem IntsAt.none (w : World) : IntsAt w Option.none [] := fun h => absurd rfl h

/-- a block of integers, none frozen. -/
def BlkI (w : World) (B : Nat) (l : List Int) : Prop := w.heap[B]? = some (.cells (intsV l).toArray 3 (0, 0))

theorem BlkI.lt {w : World} {B : Nat} {l : List Int} (h : BlkI w B l) : B < w.heap.size := by
  rcases Nat.lt_or_ge B w.heap.size with hlt | hge
  · exact hlt
  · unfold BlkI at h; rw [Array.getElem?_eq_none hge] at h; cases h
theorem BlkI.cell {w : World} {B i : Nat} {l : List Int} {b : Int} (h : BlkI w B l) (hi : l[i]? = some b) : w.cell? ⟨B, i, none⟩ = some (.int .i64 b) := by
  rw [cell_of_row w B i _ _ _ h]; simp [intsV, hi]
theorem BlkI.frozen {w : World} {B : Nat} {l : List Int} (h : BlkI w B l) (i : Nat) : w.frozen? ⟨B, i, none⟩ = false := by
  unfold BlkI at h
  simp [World.frozen?, h]
theorem BlkI.set {w : World} {B : Nat} {l : List Int} (h : BlkI w B l) (i : Nat) (b : Int) : BlkI (w.setCell ⟨B, i, none⟩ (.int .i64 b)) B (l.set i b) := by
  unfold BlkI at h ⊢
  have e : (intsV (l.set i b)).toArray = (intsV l).toArray.setIfInBounds i (.int .i64 b) := by
    simp [intsV, List.map_set]
  rw [e]
  simp [World.setCell, Array.getElem?_modify, h]
theorem BlkI.drew {w : World} {B : Nat} {l : List Int} (h : BlkI w B l) : BlkI w.drew B l := h
theorem BlkI.held {w w' : World} {B : Nat} {l : List Int} (h : BlkI w B l) (hw : Held w w') : BlkI w' B l := by
  unfold BlkI at *
  have hb : Below w.heap.size w w' := hw
  rw [hb.block B (BlkI.lt (l := l) h), h]
theorem BlkI.shape {w : World} {B : Nat} {l : List Int} (h : BlkI w B l) : w.shape? B = some (3, l.length) := by
  unfold BlkI at h
  simp [World.shape?, h, intsV]
theorem BlkI.piece {w : World} {B off : Nat} {l k : List Int} (h : BlkI w B l) (hk : ∀ j x, k[j]? = some x → l[off + j]? = some x) : IntsAt w (some ⟨B, off, none⟩) k := by
  intro _
  refine ⟨_, rfl, h.lt, fun j x hj => ?_⟩
  have := h.cell (hk j x hj)
  unfold Addr.add
  split
  · rename_i h0; subst h0; exact this
  · exact this
theorem BlkI.ints {w : World} {B : Nat} {l : List Int} (h : BlkI w B l) : IntsAt w (some ⟨B, 0, none⟩) l := h.piece fun j x hj => by rwa [Nat.zero_add]
theorem BlkI.ints' {w : World} {B n : Nat} {l : List Int} (h : BlkI w B l) : IntsAt w (some ⟨B, 0, none⟩) (l.take n) := h.piece fun j x hj => by
  rw [Nat.zero_add]
  rw [List.getElem?_take] at hj
  split at hj
  · exact hj
  · cases hj

theorem BlkI.seg {w : World} {B : Nat} {l : List Int} (h : BlkI w B l) (off n : Nat) : ∀ j v, ((l.drop off).take n)[j]? = some v → w.cell? ((⟨B, off, none⟩ : Addr).add j) = some (.int .i64 v) := by
  intro j v hj
  rw [List.getElem?_take] at hj
  split at hj
  · rw [List.getElem?_drop] at hj
    have := h.cell hj
    unfold Addr.add
    split
    · rename_i h0; subst h0; exact this
    · exact this
  · cases hj

theorem Turned.row (w : World) (g : Nat) (cs : Array Value) : Turned w (w.setRow g cs) g := ⟨rfl, rfl, rfl, by simp [World.setRow], fun k _ hn => setRow_other w g k cs hn⟩
theorem Turned.trans {w w' w'' : World} {g : Nat} (h : Turned w w' g) (k : Turned w' w'' g) : Turned w w'' g :=
  ⟨k.os.trans h.os, k.tape.trans h.tape, k.output.trans h.output, Nat.le_trans h.size k.size, fun b hb hn => (k.block b (Nat.lt_of_lt_of_le hb h.size) hn).trans (h.block b hb hn)⟩
theorem Turned.held {w w' : World} {g : Nat} (h : Held w w') : Turned w w' g := by
  have hb : Below w.heap.size w w' := h
  exact ⟨hb.os, hb.tape, hb.output, hb.size, fun k hk _ => hb.block k hk⟩
theorem BlkI.turned {w w' : World} {B g : Nat} {l : List Int} (h : BlkI w B l) (ht : Turned w w' g) (hn : B ≠ g) : BlkI w' B l := by
  have hl := h.lt
  unfold BlkI at *
  rw [ht.block B hl hn, h]

theorem intInfo : (Tryz.prog.info? 3).map (fun i => (i.zero, i.size, i.bytes)) = some (some (.int .i64 0), 1, 8) := by kernel_rfl

theorem BlkI.new (w : World) (l : List Int) : BlkI (w.alloc (.cells (intsV l).toArray 3)) w.heap.size l := heap_alloc_new w _

theorem made_ints (n : Nat) : (madeCells (Value.int .i64 0).cells (n * 1)) = (intsV (List.replicate n (0 : Int))).toArray := by
  apply Array.ext'
  simp [madeCells, intsV, Value.cells]
  apply List.ext_getElem?
  intro i
  by_cases h : i < n
  · simp [h, Nat.mod_one]
  · simp [h]

/-- 'append' within a block that has room. -/
theorem app_ints {w : World} {ops : Array Oper} {rest : List Oper} {o : Oper} {a : Act} {Q : Exit → Act → World → Prop} (hgd : o.guard = none) (s x : Operand)
    (t t' : TypeId) (ht : Tryz.prog.underlying t = some (.slice 3)) (ht' : Tryz.prog.underlying t' = some (.slice 3)) (ho : o.op = .call { callee := .builtin .append, args := #[s, x], argTypes := #[t, t'] })
    (g n cap : Nat) (hs : a.eval s = .slice (some ⟨g, 0, none⟩) n cap) (cur : List Int) (hb : BlkI w g cur)
    (ad : Addr) (m c : Nat) (k : List Int) (hm : m = k.length) (hx : a.eval x = .slice (some ad) m c) (hr : ∀ j v, k[j]? = some v → w.cell? (ad.add j) = some (.int .i64 v))
    (hroom : n + m ≤ cap) (hfit : n + m ≤ cur.length)
    (hK : ∀ w', BlkI w' g (cur.take n ++ k ++ cur.drop (n + m)) → Turned w w' g → wpList Tryz.prog ops Q rest (a.put o.dst (.slice (some ⟨g, 0, none⟩) (n + m) cap)) w') : wpList Tryz.prog ops Q (o :: rest) a w := by
  obtain ⟨i0, hi0, hz0, hz1, hz2⟩ := info_parts intInfo
  subst hm
  refine wpList_plain hgd fun K hK' => ?_
  have src : Src Tryz.prog i0.size t' (.slice (some ad) k.length c) k.length (intsV k) w := Src.ofSlice w ht' ad k.length c (intsV k) (by rw [intsV_len, hz1]; omega)
    (fun j u hu => by
      simp only [intsV, List.getElem?_map, Option.map_eq_some_iff] at hu
      obtain ⟨b, hb', rfl⟩ := hu
      exact hr j b hb') (intsV_one k)
  have hst := run_storeCells_at (P := Tryz.prog) g (n * i0.size) 3 (intsV k) 0 (intsV cur).toArray w hb (by simp [intsV, hz1]; omega) (intsV_one k)
  simp only [Nat.add_zero] at hst
  have hr' : (Builtin.append_ #[t, t'] o.type #[.slice (some ⟨g, 0, none⟩) n cap, .slice (some ad) k.length c]).run Tryz.prog w = .ok (.slice (some ⟨g, 0, none⟩) (n + k.length) cap) (w.setRow g ((intsV cur).toArray.toList.take (n * i0.size) ++ intsV k ++ (intsV cur).toArray.toList.drop (n * i0.size + (intsV k).length)).toArray) := by
    simp [Builtin.append_, run_underlying ht, run_underlying ht', sizeOf, typeInfo, hi0, src.len, hroom, src.cells, Addr.add_lit]
    simp at hst
    simp [hst]
  unfold Oper.wp execOp
  simp only [ho, resolve, invoke, builtin, Sem.run_bind, Sem.run_pure, Result.andThen_ok, List.map_toArray, List.map_cons, List.map_nil, hs, hx, hr']
  refine hK' _ _ (hK _ ?_ (Turned.row w g _))
  have := setRow_heap w g (intsV cur).toArray ((((intsV cur).toArray.toList.take (n * i0.size)) ++ intsV k ++ (intsV cur).toArray.toList.drop (n * i0.size + (intsV k).length)).toArray) 3 (0, 0) hb
  unfold BlkI
  rw [this, hz1]
  simp [intsV]

/-- 'copy' into a block. -/
theorem copy_ints {w : World} {ops : Array Oper} {rest : List Oper} {o : Oper} {a : Act} {Q : Exit → Act → World → Prop} (hg : o.guard = none) (d s : Operand)
    (t t' : TypeId) (ht : Tryz.prog.underlying t = some (.slice 3)) (ho : o.op = .call { callee := .builtin .copy, args := #[d, s], argTypes := #[t, t'] })
    (g off dLen dCap : Nat) (A : Option Addr) (sLen sCap : Nat) (hd : a.eval d = .slice (some ⟨g, off, none⟩) dLen dCap) (hs : a.eval s = .slice A sLen sCap)
    (cur k : List Int) (hb : BlkI w g cur) (hk : IntsAt w A k) (hl : k.length = Nat.min sLen dLen) (hfit : off + k.length ≤ cur.length)
    (hK : ∀ w', BlkI w' g (splice cur off k) → Turned w w' g → wpList Tryz.prog ops Q rest (a.put o.dst (goInt k.length)) w') : wpList Tryz.prog ops Q (o :: rest) a w := by
  have e : (intsV k).length = k.length := by simp [intsV]
  have hsz : (Tryz.prog.info? 3).map (·.size) = some 1 := by kernel_rfl
  by_cases h0 : k = []
  · subst h0
    refine wpList_copy_nothing hg d s t t' ho 3 ht hsz _ _ dLen dCap sLen sCap hd hs (by simpa using hl.symm) ?_
    exact hK w (by simpa [splice] using hb) (Turned.refl w g)
  · obtain ⟨ad, rfl, _, hc⟩ := hk h0
    refine wpList_copy_own hg d s t t' ho 3 ht hsz g off dLen dCap ad sLen sCap hd hs (intsV cur).toArray 3 hb (intsV k) (by rw [e, hl]) (fun j v hj => ?_) (by simpa [intsV] using hfit) (intsV_one k) ?_
    · simp only [intsV, List.getElem?_map, Option.map_eq_some_iff] at hj
      obtain ⟨b, hb', rfl⟩ := hj
      exact hc j b hb'
    · rw [e]
      refine hK _ ?_ (Turned.row w g _)
      unfold BlkI
      rw [setRow_heap w g _ _ 3 (0, 0) hb]
      simp [splice, intsV]
end

section
open Go.RowKit

theorem mixedP : Tryz.prog.follows .mixedOrders = true := by kernel_rfl

/-- 'clear' of one integer of a block. -/
theorem run_clear_int {w : World} (t : TypeId) (ht : Tryz.prog.underlying t = some (.slice 3)) (g off n cap : Nat) (hn : n = 1) (cur : List Int) (hb : BlkI w g cur) (hfit : off < cur.length) (ty : TypeId) :
    (Builtin.clear_ #[t] ty #[.slice (some ⟨g, off, none⟩) n cap]).run Tryz.prog w = .ok (.tuple #[]) (w.setCell ⟨g, off, none⟩ (.int .i64 0)) := by
  subst hn
  have hz : ∀ w, (zeroValue 3).run Tryz.prog w = .ok (.int .i64 0) w := fun w => by kernel_rfl
  have hst : (storeCells ⟨g, off, none⟩ [.int .i64 0]).run Tryz.prog w = .ok () (w.setCell ⟨g, off, none⟩ (.int .i64 0)) := by
    obtain ⟨x, hx⟩ : ∃ x, cur[off]? = some x := ⟨_, List.getElem?_eq_getElem hfit⟩
    have c := hb.cell hx
    have f := hb.frozen off
    simp [storeCells, store, Sem.run, c, f, Addr.add]
  have e : (Builtin.zeroCells (Value.int IntKind.i64 0).cells 1).toList = [.int .i64 0] := by simp [Builtin.zeroCells, Value.cells]
  simp [Builtin.clear_, run_underlying ht, hz, e, hst]

/-- a row of integers without one. -/
def delF (cur : List Int) (n m : Nat) : List Int := (cur.take m ++ (cur.drop (m + 1)).take (n - (m + 1)) ++ cur.drop (m + (n - (m + 1)))).set (m + (n - (m + 1))) 0

set_option maxRecDepth 20000 in
set_option maxHeartbeats 3200000 in
theorem delete_any (w : World) (g n cap m : Nat) (cur : List Int) (h : BlkI w g cur) (hm : m < n) (hn : n < cap) (hc : cap = cur.length) (hl : cap ≤ 1000000) :
    Calls Tryz.prog 37 #[.slice (some ⟨g, 0, none⟩) n cap, .int .i64 m, .int .i64 (m + 1)] w fun e w' => e = .returned (.slice (some ⟨g, 0, none⟩) (n - 1) cap) ∧ BlkI w' g (delF cur n m) ∧ Turned w w' g := by
  have n1 : ((m : Int) + 1).toNat = m + 1 := by omega
  have H := Lib.hid h
  clear h
  go_enter Tryz.func37, Tryz.ntmps37
  go_wp2_with fail
  refine Ph.wp_region_ph (Ph.plan [7] [([0, 1, 2, 3, 4, 5], (6, []))]) mixedP (by kernel_rfl) (by kernel_rfl) ?_
  refine Ph.ph_plan ?_
  simp only [Ph.opsAt, List.filterMap_cons, List.filterMap_nil, List.getElem?_toArray, List.getElem?_cons_zero, List.getElem?_cons_succ]
  repeat (refine Ph.wpQ_cons ?_; go_wp2_with fail; refine Ph.qnext rfl rfl ?_)
  refine Ph.wpQ_nil ?_
  refine app_ints rfl (.tmp 22) (.tmp 25) 48 48 Tryz.underlying48 Tryz.underlying48 rfl g m cur.length rfl cur H.out ⟨g, m + 1, none⟩ (n - (m + 1)) _ ((cur.drop (m + 1)).take (n - (m + 1))) (by simp; omega) rfl (H.out.drew.seg _ _) (by omega) (by omega) ?_
  intro w1 hb1 hh1
  go_wp2_with fail
  refine Ph.kgo rfl Ph.again_nil (Ph.ph_end ?_)
  simp only [Ph.opsAt, List.filterMap_cons, List.filterMap_nil, List.getElem?_toArray, List.getElem?_cons_zero, List.getElem?_cons_succ]
  refine Ph.wpQ_cons ?_
  go_wp2_with fail
  refine Ph.qnext rfl rfl ?_
  refine Ph.wpQ_nil ?_
  have H1 := Lib.hid hb1
  clear hb1
  have HF := Lib.hid (show m + (n - (m + 1)) < (cur.take m ++ (cur.drop (m + 1)).take (n - (m + 1)) ++ cur.drop (m + (n - (m + 1)))).length by simp; omega)
  have hr := run_clear_int 48 Tryz.underlying48 g (m + (n - (m + 1))) (n - (m + (n - (m + 1)))) (cur.length - (m + (n - (m + 1)))) (by omega) _ H1.out HF.out
  have H2 := Lib.hid (H1.out.set (m + (n - (m + 1))) 0)
  have H3 := Lib.hid (show Turned w (w1.setCell ⟨g, m + (n - (m + 1)), none⟩ (.int .i64 0)) g from Turned.set ((Turned.refl w g).drew.trans hh1) _ _)
  go_wp2_with fail
  have e : m + (n - (m + 1)) = n - 1 := by omega
  go_ret
  exact ⟨by simp [e, hc], H2.out, H3.out⟩
end

section
open Go.RowKit

/-- a row of integers with one more. -/
def insF (cur : List Int) (n i : Nat) (x : Int) : List Int := cur.take i ++ (x :: (cur.drop i).take (n - i)) ++ cur.drop (n + 1)

theorem splice_ins (cur : List Int) (n i : Nat) (x : Int) (hi : i ≤ n) (hn : n < cur.length) : splice (splice cur (i + 1) ((cur.drop i).take (n - i))) i [x] = insF cur n i x := by
  unfold splice insF
  have e1 : (List.take (n - i) (List.drop i cur)).length = n - i := by simp; omega
  rw [e1]
  simp only [List.length_cons, List.length_nil]
  have e2 : i + 1 + (n - i) = n + 1 := by omega
  rw [e2, List.append_assoc, List.take_append_of_le_length (by simp; omega), List.take_take, Nat.min_eq_left (by omega)]
  have e3 : (List.take (i + 1) cur ++ (List.take (n - i) (List.drop i cur) ++ List.drop (n + 1) cur)).drop (i + (0 + 1)) = List.take (n - i) (List.drop i cur) ++ List.drop (n + 1) cur := by
    rw [Nat.zero_add, List.drop_append_of_le_length (by simp; omega)]
    simp
  rw [e3]
  simp

set_option maxRecDepth 20000 in
set_option maxHeartbeats 3200000 in
theorem insert_end (w : World) (g n cap : Nat) (cur : List Int) (h : BlkI w g cur) (hn : n < cap) (hc : cap = cur.length) (hl : cap ≤ 1000000) (vb : Nat) (x : Int) (hv : BlkI w vb [x]) :
    Calls Tryz.prog 36 #[.slice (some ⟨g, 0, none⟩) n cap, .int .i64 n, .slice (some ⟨vb, 0, none⟩) 1 1] w fun e w' => e = .returned (.slice (some ⟨g, 0, none⟩) (n + 1) cap) ∧ BlkI w' g (insF cur n n x) ∧ Turned w w' g := by
  have H := Lib.hid h
  have HV := Lib.hid hv
  have HE := Lib.hid (show cur.take n ++ [x] ++ cur.drop (n + 1) = insF cur n n x by unfold insF; simp)
  clear h hv
  go_enter Tryz.func36, Tryz.ntmps36
  go_wp2_with (at_builtin; refine app_ints rfl (.tmp 23) (.tmp 24) 48 36 Tryz.underlying48 Tryz.underlying36 rfl g n cap rfl cur H.out ⟨vb, 0, none⟩ 1 _ [x] rfl rfl (HV.out.seg 0 1) (by omega) (by omega) ?_; intro w1 hb1 hh1)
  have H1 := Lib.hid hb1
  clear hb1
  go_ret
  exact ⟨by simp [hc], by rw [← HE.out]; exact H1.out, hh1⟩

set_option maxRecDepth 20000 in
set_option maxHeartbeats 3200000 in
theorem insert_shift (w : World) (g n cap i : Nat) (cur : List Int) (h : BlkI w g cur) (hi : i < n) (hn : n < cap) (hc : cap = cur.length) (hl : cap ≤ 1000000) (vb : Nat) (x : Int) (hv : BlkI w vb [x]) (hne : vb ≠ g) :
    Calls Tryz.prog 36 #[.slice (some ⟨g, 0, none⟩) n cap, .int .i64 i, .slice (some ⟨vb, 0, none⟩) 1 1] w fun e w' => e = .returned (.slice (some ⟨g, 0, none⟩) (n + 1) cap) ∧ BlkI w' g (insF cur n i x) ∧ Turned w w' g := by
  have H := Lib.hid h
  have HV := Lib.hid hv
  have HE := Lib.hid (splice_ins cur n i x (by omega) (by omega))
  have hov : ∀ lb cb, (callFunc 63 #[.slice (some ⟨vb, 0, none⟩) 1 1, .slice (some ⟨g, i + 1, none⟩) lb cb]).run Tryz.prog w = .ok (.value (.bool false)) w := fun lb cb => by
    rw [run_callFunc_extern Tryz.func63 (by kernel_rfl) (by kernel_rfl) (by kernel_rfl) (e := Extern.SlicesOverlaps.overlaps #[36, 36] #[4]) (by kernel_rfl),
      Lib.run_overlaps_apart w 36 4 3 Tryz.underlying36 1 (fun w => by kernel_rfl) ⟨vb, 0, none⟩ ⟨g, i + 1, none⟩ 1 1 lb cb hne 3 3 1 cur.length hv.shape h.shape (by omega) (hv.frozen 0) (hv.frozen 1)]
    rfl
  clear h hv
  go_enter Tryz.func36, Tryz.ntmps36
  go_wp2_with (simp only [hov])
  refine Ph.wp_region_ph (Ph.plan [] [([0, 1, 2, 3, 4, 5, 6, 7], (8, []))]) mixedP (by kernel_rfl) (by kernel_rfl) ?_
  refine Ph.ph_plan ?_
  simp only [Ph.opsAt, List.filterMap_cons, List.filterMap_nil, List.getElem?_toArray, List.getElem?_cons_zero, List.getElem?_cons_succ]
  repeat (refine Ph.wpQ_cons ?_; go_wp2_with fail; refine Ph.qnext rfl rfl ?_)
  refine Ph.wpQ_nil ?_
  have e1 : ((cur.drop i).take (n - i)).length = n - i := by simp; omega
  refine copy_ints rfl (.tmp 73) (.tmp 76) 48 48 Tryz.underlying48 rfl g (i + 1) _ _ (some ⟨g, i, none⟩) _ _ rfl rfl cur ((cur.drop i).take (n - i)) H.out.drew
    (fun _ => ⟨_, rfl, H.out.lt, H.out.drew.seg _ _⟩) (by rw [e1]; simp only [Nat.min_def]; split <;> omega) (by rw [e1]; omega) ?_
  intro w1 hb1 hh1
  have H1 := Lib.hid hb1
  clear hb1
  go_wp2_with fail
  refine Ph.kgo rfl Ph.again_nil (Ph.ph_end ?_)
  simp only [Ph.opsAt, List.filterMap_nil, List.getElem?_toArray]
  refine Ph.wpQ_nil ?_
  have HV1 := Lib.hid (HV.out.drew.turned hh1 hne).ints
  have HS := Lib.hid (show i + [x].length ≤ (splice cur (i + 1) ((cur.drop i).take (n - i))).length by rw [length_splice _ _ _ (by rw [e1]; omega)]; simp; omega)
  go_wp2_with (with_reducible refine copy_ints rfl (.tmp 80) (.tmp 81) 48 36 Tryz.underlying48 rfl g i _ _ (some ⟨vb, 0, none⟩) 1 1 rfl rfl _ [x] H1.out HV1.out (by simp only [List.length_cons, List.length_nil, Nat.min_def]; split <;> omega) HS.out ?_; intro w2 hb2 hh2)
  have H2 := Lib.hid hb2
  clear hb2
  go_ret
  exact ⟨by simp [hc], by rw [← HE.out]; exact H2.out, (Turned.refl w g).drew.trans (hh1.trans hh2)⟩
end

section
open Go.RowKit

theorem Turned.alloc {w w' : World} {g : Nat} (h : Turned w w' g) (o : Obj) : Turned w (w'.alloc o) g := h.trans (Turned.held ((Held.refl w').alloc o))

theorem Turned.cells {w w' : World} {g : Nat} (h : Turned w w' g) {b o : Nat} {v : Value} (hc : w.cell? ⟨b, o, none⟩ = some v) (hb : b ≠ g) : w'.cell? ⟨b, o, none⟩ = some v := by
  rw [← hc]
  exact World.cell?_of_block (h.block b (World.block_lt_of_cell? _ _ hc) hb)

theorem BlkI.alloc {w : World} {B : Nat} {l : List Int} (h : BlkI w B l) (o : Obj) : BlkI (w.alloc o) B l := h.held ((Held.refl w).alloc o)

theorem BlkI.one {w : World} {B : Nat} (x : Int) (h : B = w.heap.size) : BlkI (w.alloc (.cells #[.int .i64 x] 3)) B [x] := by
  rw [h]; exact BlkI.new w [x]

/-- what a deed does to a row of n origins that has room for one more. -/
def Did (g n' : Nat) (cur' : List Int) (w : World) (cap : Nat) (e : Ending) (w' : World) : Prop := e = .returned (.slice (some ⟨g, 0, none⟩) n' cap) ∧ BlkI w' g cur' ∧ Turned w w' g

section
variable (w : World) (g n cap : Nat) (cur : List Int) (k to : Int) (m : Nat) (D : Array Value) (hD : DeedOk D k m to)

include hD in
set_option maxRecDepth 20000 in
set_option maxHeartbeats 3200000 in
theorem stay_any (h : BlkI w g cur) : Calls Tryz.prog 24 #[.slice (some ⟨g, 0, none⟩) n cap, .agg D] w (Did g n cur w cap) := by
  have H := Lib.hid h
  clear h
  obtain ⟨_, d0, d1, d2⟩ := hD
  go_enter Tryz.func24, Tryz.ntmps24
  go_wp2_with fail
  go_ret
  exact ⟨rfl, H.out.alloc _, (Turned.refl w g).alloc _⟩

include hD in
set_option maxRecDepth 20000 in
set_option maxHeartbeats 3200000 in
theorem change_any (h : BlkI w g cur) (hm : m < n) (hn : n ≤ cur.length) : Calls Tryz.prog 23 #[.slice (some ⟨g, 0, none⟩) n cap, .agg D] w (Did g n (cur.set m (-1)) w cap) := by
  obtain ⟨x, hx⟩ : ∃ x, cur[m]? = some x := ⟨_, List.getElem?_eq_getElem (by omega)⟩
  have H := Lib.hid h
  have hlt := h.lt
  have c := h.cell hx
  have f := h.frozen m
  clear h hx
  obtain ⟨_, d0, d1, d2⟩ := hD
  go_enter Tryz.func23, Tryz.ntmps23
  go_wp2_with fail
  go_ret
  exact ⟨rfl, (H.out.set m (-1)).alloc _, ((Turned.refl w g).set _ _).alloc _⟩

include hD in
set_option maxRecDepth 20000 in
set_option maxHeartbeats 3200000 in
theorem remove_any (h : BlkI w g cur) (hm : m < n) (hn : n < cap) (hc : cap = cur.length) (hl : cap ≤ 1000000) : Calls Tryz.prog 26 #[.slice (some ⟨g, 0, none⟩) n cap, .agg D] w (Did g (n - 1) (delF cur n m) w cap) := by
  subst hc
  have H := Lib.hid h
  clear h
  have HD := Lib.hid (fun w h => delete_any w g n cur.length m cur h hm hn rfl hl)
  obtain ⟨_, d0, d1, d2⟩ := hD
  go_enter Tryz.func26, Tryz.ntmps26
  go_wp2_with fail
  refine (HD.out _ (H.out.alloc _)).mono ?_
  rintro e w1 ⟨rfl, hb1, ht1⟩
  have H1 := Lib.hid hb1
  clear hb1
  go_wp2_with fail
  go_ret
  exact ⟨rfl, H1.out, ((Turned.refl w g).alloc _).trans ht1⟩

theorem insert_any (vb : Nat) (x : Int) (h : BlkI w g cur) (hm : m ≤ n) (hn : n < cap) (hc : cap = cur.length) (hl : cap ≤ 1000000) (hv : BlkI w vb [x]) (hne : vb ≠ g) :
    Calls Tryz.prog 36 #[.slice (some ⟨g, 0, none⟩) n cap, .int .i64 m, .slice (some ⟨vb, 0, none⟩) 1 1] w (Did g (n + 1) (insF cur n m x) w cap) := by
  by_cases e : m = n
  · subst e
    exact insert_end w g m cap cur h hn hc hl vb x hv
  · exact insert_shift w g n cap m cur h (by omega) hn hc hl vb x hv hne

include hD in
set_option maxRecDepth 20000 in
set_option maxHeartbeats 3200000 in
theorem add_any' (h : BlkI w g cur) (hm : m ≤ n) (hn : n < cap) (hc : cap = cur.length) (hl : cap ≤ 1000000) : Calls Tryz.prog 25 #[.slice (some ⟨g, 0, none⟩) n cap, .agg D] w (Did g (n + 1) (insF cur n m (-1)) w cap) := by
  subst hc
  have H := Lib.hid h
  have hlt := h.lt
  clear h
  have HI := Lib.hid (fun w vb h hv hne => insert_any w g n cur.length cur m vb (-1) h hm hn rfl hl hv hne)
  obtain ⟨_, d0, d1, d2⟩ := hD
  go_enter Tryz.func25, Tryz.ntmps25
  go_wp2_with fail
  refine (HI.out _ (w.heap.size + 1) ?_ ?_ ?_).mono ?_
  · exact (H.out.alloc _).alloc _
  · exact BlkI.one (-1) (by simp)
  · omega
  rintro e w1 ⟨rfl, hb1, ht1⟩
  have H1 := Lib.hid hb1
  clear hb1
  go_wp2_with fail
  go_ret
  exact ⟨rfl, H1.out, (((Turned.refl w g).alloc _).alloc _).trans ht1⟩

set_option maxRecDepth 20000 in
set_option maxHeartbeats 3200000 in
theorem move_any (t : Nat) (hD : DeedOk D k m t) (h : BlkI w g cur) (hm : m < n) (ht : t < n) (hn : n < cap) (hc : cap = cur.length) (hl : cap ≤ 1000000) (x : Int) (hx : cur[m]? = some x) :
    Calls Tryz.prog 27 #[.slice (some ⟨g, 0, none⟩) n cap, .agg D] w (Did g n (insF (delF cur n m) (n - 1) t x) w cap) := by
  subst hc
  have H := Lib.hid h
  have hlt := h.lt
  have c := h.cell hx
  clear h hx
  have hdl : cur.length = (delF cur n m).length := by unfold delF; simp; omega
  have HR := Lib.hid (fun w h => remove_any w g n cur.length cur k t m D hD h hm hn rfl hl)
  have HI := Lib.hid (fun w vb h hv hne => insert_any w g (n - 1) cur.length (delF cur n m) t vb x h (by omega) (by omega) hdl hl hv hne)
  have e1 : n - 1 + 1 = n := by omega
  clear hdl
  rw [e1] at HI
  have HS := Lib.hid hD.size
  obtain ⟨_, d0, d1, d2⟩ := hD
  go_enter Tryz.func27, Tryz.ntmps27
  go_wp2_with fail
  refine Ph.wp_region_ph (.node [0, 1, 3, 4, 5] (.cons 2 [3, 4, 5] (.node [] (.cons 6 [3, 4] (.node [] (.cons 7 [] (.last [8]) .nil)) .nil)) (.cons 6 [0, 1, 3, 4] (.node [] (.cons 2 [3, 4] (.node [] (.cons 7 [] (.last [8]) .nil)) .nil)) .nil))) mixedP (by kernel_rfl) (by kernel_rfl) ?_
  refine Ph.ph_node ?_
  simp only [Ph.opsAt, List.filterMap_cons, List.filterMap_nil, List.getElem?_toArray, List.getElem?_cons_zero, List.getElem?_cons_succ]
  refine Ph.wpQ_cons ?_
  go_wp2_with fail
  refine Ph.qnext rfl rfl ?_
  refine Ph.wpQ_cons ?_
  refine load_deed rfl (.tmp 3) rfl w.heap.size rfl D HS.out (DeedAt.new w D _).drew ?_
  go_wp2_with fail
  refine Ph.qnext rfl rfl ?_
  repeat (refine Ph.wpQ_cons ?_; go_wp2_with fail; refine Ph.qnext rfl rfl ?_)
  refine Ph.wpQ_nil ?_
  refine Ph.phB_cons ?_ (Ph.phB_cons ?_ Ph.phB_nil)
  · simp only [Ph.opsAt, List.filterMap_cons, List.filterMap_nil, List.getElem?_toArray, List.getElem?_cons_zero, List.getElem?_cons_succ]
    go_wp2_with fail
    refine (HR.out _ ?_).mono ?_
    · exact (H.out.alloc _).drew
    rintro e w1 ⟨rfl, hb1, ht1⟩
    have H1 := Lib.hid hb1
    have hne : w.heap.size ≠ g := by omega
    have hsz : w.heap.size + 1 ≤ w1.heap.size := by have := ht1.size; simpa using this
    have hlt1 : w.heap.size < w1.heap.size := by omega
    have hne1 : w.heap.size ≠ w1.heap.size := by omega
    have c25 : w1.cell? ⟨w.heap.size, 25, none⟩ = some (.int .i64 t) := ht1.cells (b := w.heap.size) (o := 25) (v := .int .i64 t) (by go_simp) hne
    have HT1 := Lib.hid ht1
    clear hb1 ht1
    go_wp2_with fail
    refine Ph.kgo rfl ?_ (Ph.ph_one ?_)
    · refine Ph.again_cons ?_ (Ph.again_cons ?_ (Ph.again_cons ?_ Ph.again_nil))
      all_goals
        simp only [Ph.opsAt, List.filterMap_cons, List.filterMap_nil, List.getElem?_toArray, List.getElem?_cons_zero, List.getElem?_cons_succ]
        refine Ph.wpQ_cons ?_
        go_wp2_with fail
        exact Ph.qnext rfl rfl (Ph.wpQ_nil rfl)
    simp only [Ph.opsAt, List.filterMap_cons, List.filterMap_nil, List.getElem?_toArray, List.getElem?_cons_zero, List.getElem?_cons_succ]
    refine Ph.wpQ_nil ?_
    simp only []
    go_wp2_with fail
    refine Ph.kgo rfl ?_ (Ph.ph_one ?_)
    · refine Ph.again_cons ?_ (Ph.again_cons ?_ Ph.again_nil)
      all_goals
        simp only [Ph.opsAt, List.filterMap_cons, List.filterMap_nil, List.getElem?_toArray, List.getElem?_cons_zero, List.getElem?_cons_succ]
        refine Ph.wpQ_cons ?_
        go_wp2_with fail
        exact Ph.qnext rfl rfl (Ph.wpQ_nil rfl)
    simp only [Ph.opsAt, List.filterMap_cons, List.filterMap_nil, List.getElem?_toArray, List.getElem?_cons_zero, List.getElem?_cons_succ]
    refine Ph.wpQ_nil ?_
    go_wp2_with fail
    refine (HI.out _ w1.heap.size ?_ ?_ ?_).mono ?_
    · exact (H1.out.drew).alloc _
    · exact BlkI.one x (by simp)
    · omega
    rintro e w2 ⟨rfl, hb2, ht2⟩
    have H2 := Lib.hid hb2
    have HT2 := Lib.hid ht2
    clear hb2 ht2
    go_wp2_with fail
    refine Ph.kgo rfl Ph.again_nil (Ph.ph_last ?_)
    simp only [Ph.opsAt, List.filterMap_cons, List.filterMap_nil, List.getElem?_toArray, List.getElem?_cons_zero, List.getElem?_cons_succ]
    refine Ph.wpQ_cons ?_
    go_wp2_with fail
    refine Ph.qnext rfl rfl ?_
    refine Ph.wpQ_nil ?_
    go_wp2_with fail
    go_ret
    refine ⟨rfl, H2.out, ?_⟩
    exact (Turned.held ((Held.refl w).alloc _).drew).trans ((HT1.out.alloc _).trans HT2.out)
  · simp only [Ph.opsAt, List.filterMap_cons, List.filterMap_nil, List.getElem?_toArray, List.getElem?_cons_zero, List.getElem?_cons_succ]
    go_wp2_with fail
    refine Ph.kgo rfl ?_ (Ph.ph_one ?_)
    · refine Ph.again_cons ?_ (Ph.again_cons ?_ (Ph.again_cons ?_ (Ph.again_cons ?_ Ph.again_nil)))
      · simp only [Ph.opsAt, List.filterMap_cons, List.filterMap_nil, List.getElem?_toArray, List.getElem?_cons_zero]
        refine Ph.wpQ_cons ?_
        go_wp2_with fail
        exact Ph.qnext rfl rfl (Ph.wpQ_nil rfl)
      · simp only [Ph.opsAt, List.filterMap_cons, List.filterMap_nil, List.getElem?_toArray, List.getElem?_cons_zero, List.getElem?_cons_succ]
        refine Ph.wpQ_cons ?_
        refine load_deed rfl (.tmp 3) rfl w.heap.size rfl D HS.out (((DeedAt.new w D _).held ((Held.refl _).alloc _)).drew) ?_
        go_wp2_with fail
        exact Ph.qnext rfl rfl (Ph.wpQ_nil rfl)
      all_goals
        simp only [Ph.opsAt, List.filterMap_cons, List.filterMap_nil, List.getElem?_toArray, List.getElem?_cons_zero, List.getElem?_cons_succ]
        refine Ph.wpQ_cons ?_
        go_wp2_with fail
        exact Ph.qnext rfl rfl (Ph.wpQ_nil rfl)
    simp only [Ph.opsAt, List.filterMap_cons, List.filterMap_nil, List.getElem?_toArray, List.getElem?_cons_zero, List.getElem?_cons_succ]
    refine Ph.wpQ_nil ?_
    go_wp2_with fail
    refine (HR.out _ ?_).mono ?_
    · exact ((H.out.alloc _).alloc _).drew
    rintro e w1 ⟨rfl, hb1, ht1⟩
    have H1 := Lib.hid hb1
    have hne : w.heap.size ≠ g := by omega
    have hne1 : w.heap.size + 1 ≠ g := by omega
    have hv : BlkI w1 (w.heap.size + 1) [x] := BlkI.turned (BlkI.drew (BlkI.one x (by simp))) ht1 hne1
    have c25 : w1.cell? ⟨w.heap.size, 25, none⟩ = some (.int .i64 t) := ht1.cells (b := w.heap.size) (o := 25) (v := .int .i64 t) (by go_simp) hne
    have HT1 := Lib.hid ht1
    have HV := Lib.hid hv
    clear hb1 ht1 hv
    go_wp2_with fail
    refine Ph.kgo rfl ?_ (Ph.ph_one ?_)
    · refine Ph.again_cons ?_ (Ph.again_cons ?_ Ph.again_nil)
      all_goals
        simp only [Ph.opsAt, List.filterMap_cons, List.filterMap_nil, List.getElem?_toArray, List.getElem?_cons_zero, List.getElem?_cons_succ]
        refine Ph.wpQ_cons ?_
        go_wp2_with fail
        exact Ph.qnext rfl rfl (Ph.wpQ_nil rfl)
    simp only [Ph.opsAt, List.filterMap_cons, List.filterMap_nil, List.getElem?_toArray, List.getElem?_cons_zero, List.getElem?_cons_succ]
    refine Ph.wpQ_nil ?_
    go_wp2_with fail
    refine (HI.out _ (w.heap.size + 1) ?_ ?_ ?_).mono ?_
    · exact H1.out
    · exact HV.out
    · omega
    rintro e w2 ⟨rfl, hb2, ht2⟩
    have H2 := Lib.hid hb2
    have HT2 := Lib.hid ht2
    clear hb2 ht2
    go_wp2_with fail
    refine Ph.kgo rfl Ph.again_nil (Ph.ph_last ?_)
    simp only [Ph.opsAt, List.filterMap_cons, List.filterMap_nil, List.getElem?_toArray, List.getElem?_cons_zero, List.getElem?_cons_succ]
    refine Ph.wpQ_cons ?_
    go_wp2_with fail
    refine Ph.qnext rfl rfl ?_
    refine Ph.wpQ_nil ?_
    go_wp2_with fail
    go_ret
    refine ⟨rfl, H2.out, ?_⟩
    exact (Turned.held (((Held.refl w).alloc _).alloc _).drew).trans (HT1.out.trans HT2.out)

end
end

end Go.Proofs.YtnicdlmcbkkkfaaGreatDoor

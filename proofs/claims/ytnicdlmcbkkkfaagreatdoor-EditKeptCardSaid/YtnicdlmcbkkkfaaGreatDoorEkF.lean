/-
  The contract of EditKept, over the data that its row reads.
  EditKept' row, lifted.
-/
import Derived.Test.YtnicdlmcbkkkfaaGreatDoorEkD
import Derived.Test.YtnicdlmcbkkkfaaGreatDoorMemZ
import Derived.Test.YtnicdlmcbkkkfaaGreatDoorCards
import Derived.Test.YtnicdlmcbkkkfaaGreatDoorTie
import Derived.OpenShut
import Derived.Deep.DeepHandedRow
import Derived.Deep.DeepWitnessRowRef
import Derived.Lib.LaidTab
import Derived.LaidMore
import Derived.MakeChecks
import Derived.Lib.SmallJoins
namespace Go.Proofs.YtnicdlmcbkkkfaaGreatDoor

section
namespace lawKept
open Go.ChangeShapes Go.WideShapes Go.ChangeAt Go.RowKit Go.Joins Go.Deep

theorem own : ownKnob Tryz.prog.godebug = none := by kernel_rfl
theorem laidOut : laidOutB Tryz.prog = true := by kernel_rfl

/-- awake's summary: the last of the engine's. -/
theorem awake_any (w : World) : Calls Tryz.prog 5 #[] w fun e w' => e = .returned (.bool true) ∧ Held w w' :=
  (Eng.calls_of_ret (h' := Eng.heapOf []) (nx := 0) (nx' := 205640) (b := true) Eng.mem375_ok.ret w).mono fun _ _ ⟨h1, h2⟩ => ⟨h1, ⟨h2.os, h2.tape, h2.output, h2.size, h2.heap⟩⟩

section
variable {H : Type} {enc : TypeId × Value → H} {w : World} {base : Nat} {spare : Nat → Bool} {held : Bool}

theorem eq_of_gets {M L : List Value} (hl : M.length = L.length) (h : ∀ i, i < L.length → M[i]? = L[i]?) : M = L := by
  apply List.ext_getElem?
  intro i
  rcases Nat.lt_or_ge i L.length with hi | hi
  · exact h i hi
  · rw [List.getElem?_eq_none (by omega), List.getElem?_eq_none hi]

theorem getOf' {cs : List Value} {i k : Nat} {v : Value} (hk : k = 1) (h : (cs.drop i).take k = [v]) : cs[i]? = some v := by subst hk; exact getOf h

theorem some_len {cs : List Value} {i : Nat} {v : Value} (h : cs[i]? = some v) : i < cs.length := (List.getElem?_eq_some_iff.1 h).1

set_option maxRecDepth 20000 in
theorem open_member {fuel : Nat} {cs : List Value} {x : DataW H × List MemPlace} (h : DataW.trod enc Tryz.prog w base spare held fuel 31 cs = some x) : MemIs w cs.toArray := by
  have hl : cs.length = 14 := by
    obtain ⟨_, _, _, _, hl, _⟩ := DataW.trod_struct Tryz.underlying31 h
    rw [hl, cellsMember]
  obtain ⟨_, _, hE⟩ := field_of Tryz.underlying31 h 0 _ rfl
  have hE' : DataW.trod enc Tryz.prog w base spare held _ 29 ((cs.drop 0).take (Tryz.prog.cellsOf 29)) = some _ := hE
  rw [cellsExif, List.drop_zero] at hE'
  obtain ⟨_, _, e0⟩ := field_of Tryz.underlying29 hE' 0 _ rfl
  obtain ⟨o, e0⟩ := open_intF e0
  have g0 : cs[0]? = some (.int .i64 o) := by
    have := getOf' cellsInt (show ((cs.take 8).drop 0).take (Tryz.prog.cellsOf 3) = [.int .i64 o] from e0)
    simpa [List.getElem?_take] using this
  obtain ⟨_, _, e1⟩ := field_of Tryz.underlying29 hE' 1 _ rfl
  obtain ⟨A1, n1, c1, e1, t1⟩ := open_tagsF e1
  have g1 : cs[1]? = some (.slice A1 n1 c1) := by
    have := getOf' cellsTags (show ((cs.take 8).drop 1).take (Tryz.prog.cellsOf 27) = [.slice A1 n1 c1] from e1)
    simpa [List.getElem?_take] using this
  obtain ⟨_, _, e2⟩ := field_of Tryz.underlying29 hE' 2 _ rfl
  obtain ⟨A2, n2, c2, e2, t2⟩ := open_tagsF e2
  have g2 : cs[2]? = some (.slice A2 n2 c2) := by
    have := getOf' cellsTags (show ((cs.take 8).drop 2).take (Tryz.prog.cellsOf 27) = [.slice A2 n2 c2] from e2)
    simpa [List.getElem?_take] using this
  obtain ⟨_, _, e3⟩ := field_of Tryz.underlying29 hE' 3 _ rfl
  obtain ⟨A3, n3, c3, e3, t3⟩ := open_tagsF e3
  have g3 : cs[3]? = some (.slice A3 n3 c3) := by
    have := getOf' cellsTags (show ((cs.take 8).drop 3).take (Tryz.prog.cellsOf 27) = [.slice A3 n3 c3] from e3)
    simpa [List.getElem?_take] using this
  obtain ⟨_, _, e4⟩ := field_of Tryz.underlying29 hE' 4 _ rfl
  obtain ⟨A4, n4, c4, e4, t4⟩ := open_tagsF e4
  have g4 : cs[4]? = some (.slice A4 n4 c4) := by
    have := getOf' cellsTags (show ((cs.take 8).drop 4).take (Tryz.prog.cellsOf 27) = [.slice A4 n4 c4] from e4)
    simpa [List.getElem?_take] using this
  obtain ⟨_, _, e5⟩ := field_of Tryz.underlying29 hE' 5 _ rfl
  obtain ⟨A5, n5, c5, e5, t5⟩ := open_tagsF e5
  have g5 : cs[5]? = some (.slice A5 n5 c5) := by
    have := getOf' cellsTags (show ((cs.take 8).drop 5).take (Tryz.prog.cellsOf 27) = [.slice A5 n5 c5] from e5)
    simpa [List.getElem?_take] using this
  obtain ⟨_, _, e6⟩ := field_of Tryz.underlying29 hE' 6 _ rfl
  obtain ⟨A6, n6, c6, e6⟩ := open_bytesF e6
  have g6 : cs[6]? = some (.slice A6 n6 c6) := by
    have := getOf' cellsBytes (show ((cs.take 8).drop 6).take (Tryz.prog.cellsOf 22) = [.slice A6 n6 c6] from e6)
    simpa [List.getElem?_take] using this
  obtain ⟨_, _, e7⟩ := field_of Tryz.underlying29 hE' 7 _ rfl
  obtain ⟨A7, n7, c7, e7⟩ := open_bytesF e7
  have g7 : cs[7]? = some (.slice A7 n7 c7) := by
    have := getOf' cellsBytes (show ((cs.take 8).drop 7).take (Tryz.prog.cellsOf 22) = [.slice A7 n7 c7] from e7)
    simpa [List.getElem?_take] using this
  obtain ⟨_, _, f8⟩ := field_of Tryz.underlying31 h 1 _ rfl
  obtain ⟨A8, n8, c8, f8⟩ := open_bytesF f8
  have g8 : cs[8]? = some (.slice A8 n8 c8) := getOf' cellsBytes (show (cs.drop 8).take (Tryz.prog.cellsOf 22) = [.slice A8 n8 c8] from f8)
  obtain ⟨_, _, f9⟩ := field_of Tryz.underlying31 h 2 _ rfl
  obtain ⟨A9, n9, c9, f9⟩ := open_bytesF f9
  have g9 : cs[9]? = some (.slice A9 n9 c9) := getOf' cellsBytes (show (cs.drop 9).take (Tryz.prog.cellsOf 22) = [.slice A9 n9 c9] from f9)
  obtain ⟨_, _, f10⟩ := field_of Tryz.underlying31 h 3 _ rfl
  obtain ⟨x, f10⟩ := open_intF f10
  have g10 : cs[10]? = some (.int .i64 x) := getOf' cellsInt (show (cs.drop 10).take (Tryz.prog.cellsOf 3) = [.int .i64 x] from f10)
  obtain ⟨_, _, f11⟩ := field_of Tryz.underlying31 h 4 _ rfl
  obtain ⟨y, f11⟩ := open_intF f11
  have g11 : cs[11]? = some (.int .i64 y) := getOf' cellsInt (show (cs.drop 11).take (Tryz.prog.cellsOf 3) = [.int .i64 y] from f11)
  obtain ⟨_, _, f12⟩ := field_of Tryz.underlying31 h 5 _ rfl
  obtain ⟨z, f12⟩ := open_intF f12
  have g12 : cs[12]? = some (.int .i64 z) := getOf' cellsInt (show (cs.drop 12).take (Tryz.prog.cellsOf 3) = [.int .i64 z] from f12)
  obtain ⟨_, _, f13⟩ := field_of Tryz.underlying31 h 6 _ rfl
  obtain ⟨A13, n13, c13, f13, t13⟩ := open_tagsF f13
  have g13 : cs[13]? = some (.slice A13 n13 c13) := getOf' cellsTags (show (cs.drop 13).take (Tryz.prog.cellsOf 27) = [.slice A13 n13 c13] from f13)
  have e : cs = [.int .i64 o, .slice A1 n1 c1, .slice A2 n2 c2, .slice A3 n3 c3, .slice A4 n4 c4, .slice A5 n5 c5, .slice A6 n6 c6, .slice A7 n7 c7, .slice A8 n8 c8, .slice A9 n9 c9, .int .i64 x, .int .i64 y, .int .i64 z, .slice A13 n13 c13] := by
    refine eq_of_gets (by rw [hl]; rfl) fun i hi => ?_
    have hi' : i < 14 := hi
    have : i = 0 ∨ i = 1 ∨ i = 2 ∨ i = 3 ∨ i = 4 ∨ i = 5 ∨ i = 6 ∨ i = 7 ∨ i = 8 ∨ i = 9 ∨ i = 10 ∨ i = 11 ∨ i = 12 ∨ i = 13 := by omega
    rcases this with rfl | rfl | rfl | rfl | rfl | rfl | rfl | rfl | rfl | rfl | rfl | rfl | rfl | rfl
    · exact g0
    · exact g1
    · exact g2
    · exact g3
    · exact g4
    · exact g5
    · exact g6
    · exact g7
    · exact g8
    · exact g9
    · exact g10
    · exact g11
    · exact g12
    · exact g13
  exact ⟨⟨o, x, y, z, A1, A2, A3, A4, A5, A6, A7, A8, A9, A13, n1, n2, n3, n4, n5, n6, n7, n8, n9, n13, c1, c2, c3, c4, c5, c6, c7, c8, c9, c13, by rw [e], t1, t2, t3, t4, t5, t13⟩⟩

set_option maxRecDepth 20000 in
theorem open_deed {fuel : Nat} {cs : List Value} {x : DataW H × List MemPlace} (h : DataW.trod enc Tryz.prog w base spare held fuel 33 cs = some x) : ∃ k m to, DeedOk cs.toArray k m to ∧ DeedIn w cs.toArray := by
  have hl : cs.length = 26 := by
    obtain ⟨_, _, _, _, hl, _⟩ := DataW.trod_struct Tryz.underlying33 h
    rw [hl, cellsDeed]
  obtain ⟨_, _, a0⟩ := field_of Tryz.underlying33 h 0 _ rfl
  obtain ⟨k, a0⟩ := open_intF a0
  have g0 : cs[0]? = some (.int .i64 k) := getOf' cellsInt (show (cs.drop 0).take (Tryz.prog.cellsOf 3) = _ from a0)
  obtain ⟨_, _, a1⟩ := field_of Tryz.underlying33 h 1 _ rfl
  obtain ⟨m, a1⟩ := open_intF a1
  have g1 : cs[1]? = some (.int .i64 m) := getOf' cellsInt (show (cs.drop 1).take (Tryz.prog.cellsOf 3) = _ from a1)
  obtain ⟨_, _, a9⟩ := field_of Tryz.underlying33 h 9 _ rfl
  obtain ⟨to, a9⟩ := open_intF a9
  have g25 : cs[25]? = some (.int .i64 to) := getOf' cellsInt (show (cs.drop 25).take (Tryz.prog.cellsOf 3) = _ from a9)
  obtain ⟨_, _, a4⟩ := field_of Tryz.underlying33 h 4 _ rfl
  obtain ⟨A7, n7, c7, a4⟩ := open_bytesF a4
  have g7 : cs[7]? = some (.slice A7 n7 c7) := getOf' cellsBytes (show (cs.drop 7).take (Tryz.prog.cellsOf 22) = _ from a4)
  obtain ⟨_, _, a3⟩ := field_of Tryz.underlying33 h 3 _ rfl
  have a3' : DataW.trod enc Tryz.prog w base spare held _ 26 ((cs.drop 3).take (Tryz.prog.cellsOf 26)) = some _ := a3
  rw [cells27] at a3'
  obtain ⟨_, _, b1⟩ := field_of Tryz.underlying26 a3' 1 _ rfl
  have b1' : DataW.trod enc Tryz.prog w base spare held _ 24 ((((cs.drop 3).take 4).drop 1).take (Tryz.prog.cellsOf 24)) = some _ := b1
  rw [cellsVal] at b1'
  obtain ⟨_, _, b2⟩ := field_of Tryz.underlying24 b1' 2 _ rfl
  obtain ⟨A6, n6, c6, b2⟩ := open_bytesF b2
  have g6 : cs[6]? = some (.slice A6 n6 c6) := by
    have := getOf' cellsBytes (show (((((cs.drop 3).take 4).drop 1).take 3).drop 2).take (Tryz.prog.cellsOf 22) = _ from b2)
    simpa [List.getElem?_take, List.getElem?_drop] using this
  obtain ⟨_, _, a8⟩ := field_of Tryz.underlying33 h 8 _ rfl
  have a8' : DataW.trod enc Tryz.prog w base spare held _ 31 ((cs.drop 11).take (Tryz.prog.cellsOf 31)) = some _ := a8
  rw [cellsMember] at a8'
  have hM := open_member a8'
  have at_ : ∀ {i : Nat} {v : Value}, cs[i]? = some v → ∀ hi : i < cs.toArray.size, cs.toArray[i] = v := by
    intro i v hv hi
    have : cs.toArray[i]? = some v := by simpa using hv
    rw [Array.getElem?_eq_getElem hi] at this
    exact Option.some.inj this
  refine ⟨k, m, to, ⟨by simpa using hl, at_ g0, at_ g1, at_ g25⟩, ⟨by simpa using hl, ⟨_, hM, fun j v hj => ?_⟩, ⟨A6, n6, c6, by simpa using g6⟩, ⟨A7, n7, c7, by simpa using g7⟩⟩⟩
  simp only [List.getElem?_take, List.getElem?_drop] at hj ⊢
  split at hj
  · simpa using hj
  · cases hj

end

set_option maxRecDepth 100000 in
theorem contract (H : Type) (enc : TypeId × Value → H) (W : World) (base : Nat) (args : Array Value) (ds gs : List (DataW H)) (before : List MemPlace)
    (hval : ∀ (j : Nat) t v, Tryz.f3.params[j]? = some t → args[j]? = some v → Value.okWide Tryz.prog W .any base t v)
    (hW : DataW.Whole enc Tryz.prog Tryz.f3.params.toList Rows.editKeptSpec.vars false W args.toList ds gs before) :
    Calls Tryz.prog 3 args W fun e W' => ∃ v, e = .returned v ∧ Rows.editKeptSpec.post enc Tryz.prog Tryz.f3 false true false false W args v W' := by
  have hW' := hW
  obtain ⟨p, q, hA0, hV, rfl, hfz, hnd⟩ := hW
  have hA : DataW.TrodAll enc Tryz.prog W 0 (fun _ => true) true Tryz.f3.params.toList args.toList ds p := hA0
  rw [Tryz.params3] at hA hval
  obtain ⟨v0, vs0, d0, ds0, p0, q0, hargs, rfl, rfl, h0, r0⟩ := trodAll_cons hA
  obtain ⟨v1, vs1, d1, ds1, p1, q1, rfl, rfl, rfl, h1, r1⟩ := trodAll_cons r0
  obtain ⟨rfl, rfl, rfl⟩ := trodAll_nil r1
  obtain rfl : args = #[v0, v1] := by cases args; simp_all
  obtain ⟨rfl, rfl⟩ := trodVars_none hV
  obtain ⟨n0, rfl, rfl, rfl, w0⟩ := open_int Tryz.underlying3 (hval 0 3 v0 rfl rfl) h0
  have k1 := h1
  have lt1 : ∀ x ∈ p1, x.block < W.heap.size := by obtain ⟨m, hm⟩ := k1; exact DataW.trod_lt m _ _ _ hm
  obtain ⟨D, rfl, _⟩ := okWide_struct Tryz.underlying33 (hval 1 33 v1 rfl rfl)
  obtain ⟨fuel, hf⟩ := h1
  obtain ⟨k, m, to, hD, hI⟩ := open_deed hf
  have hDD : (Value.agg D).cells.toList.toArray = D := by simp [Value.cells]
  rw [hDD] at hD hI
  clear hA0
  refine (edit_any n0 k m to D hD W (fun w' hw => great_any D w' ⟨hI.size, ⟨_, (hI.mem.choose_spec.1).keep hw, hI.mem.choose_spec.2⟩, hI.six, hI.seven⟩) awake_any).mono fun e W' ⟨he, bel⟩ => ?_
  subst he
  exact ⟨_, rfl, _, _, _, [], _, [], hW', trodAll_mk1 (shut_bool Tryz.underlying4 _), (trodAll_cons_mk (shut_int Tryz.underlying3 w0) (trodAll_cons_mk (Below.trod laidOut (by kernel_rfl) (of_decide_eq_true (by kernel_rfl)) k1 bel lt1) trodAll_mk0)), rfl, Below.frame bel _, fun h => by cases h⟩

end lawKept
end

section
namespace lawKept
open Go.ChangeShapes Go.WideShapes Go.ChangeAt Go.RowKit Go.Joins Go.Deep

def argsZ : Array Value := #[.int .i64 0, .agg #[.int .i64 0, .int .i64 0, .int .i64 0, .int .i64 0, .int .i64 0, .int .i64 0, .slice none 0 0, .slice none 0 0, .int .i64 0, .int .i64 0, .int .i64 0, .int .i64 0, .slice none 0 0, .slice none 0 0, .slice none 0 0, .slice none 0 0, .slice none 0 0, .slice none 0 0, .slice none 0 0, .slice none 0 0, .slice none 0 0, .int .i64 0, .int .i64 0, .int .i64 0, .slice none 0 0, .int .i64 0]]

def laid1 : List (String × DataW Unit) := Rows.editKeptRow.laid

/-- the door's own heap meets the row's list. -/
theorem door_met (os : Os) (args : Array Value) : laidMetH Tryz.prog laid1 ((World.doorLaid Tryz.prog 400 os).forCall (fun _ _ => 0) ⟨#[], args, []⟩).memory :=
  laidMetH_of_parts3 (fuel := 8) (laidMet_of_run' 8 (by kernel_rfl) (by kernel_rfl)) (by kernel_rfl) (by kernel_rfl)

theorem reads (os : Os) {H : Type} (enc : TypeId × Value → H) : ∃ places, DataW.whole enc Tryz.prog ((World.doorLaid Tryz.prog 400 os).forCall (fun _ _ => 0) ⟨#[], argsZ, []⟩).memory Tryz.f3.params.toList Rows.editKeptSpec.vars false argsZ.toList 8 = some ([.lit (.int .i64 0), (.agg [.lit (.int .i64 0), .lit (.int .i64 0), .lit (.int .i64 0), (.agg [.lit (.int .i64 0), .agg [.lit (.int .i64 0), .lit (.int .i64 0), .nil]]), .nil, .lit (.int .i64 0), .lit (.int .i64 0), .lit (.int .i64 0), (.agg [(.agg [.lit (.int .i64 0), .nil, .nil, .nil, .nil, .nil, .nil, .nil]), .nil, .nil, .lit (.int .i64 0), .lit (.int .i64 0), .lit (.int .i64 0), .nil]), .lit (.int .i64 0)])], [], places) :=
  ⟨[], by kernel_rfl⟩

set_option maxRecDepth 100000 in
theorem lifted (os : Os) (started : os.Started) (H : Type) (enc : TypeId × Value → H) (F : Stop.Interp) :
    ReturnsInHanded {} Tryz.checked os 3 .any ((OpenSpec.ofChange Rows.editKeptSpec).preRow enc Tryz.prog Tryz.f3 Rows.editKeptRow.domain false Rows.editKeptRow.laid) (((OpenSpec.ofChange Rows.editKeptSpec).at F).post enc Tryz.prog Tryz.f3 false true false false) := by
  obtain ⟨places, hx⟩ := reads os enc
  refine returnsInHanded_of_row (C := Tryz.checked) (s := OpenSpec.ofChange Rows.editKeptSpec) own started (by kernel_rfl) Tryz.func3
    (witness_row_atRef (enc := enc) (C := Tryz.checked) false (World.doorLaid Tryz.prog 400 os) argsZ rfl (by kernel_rfl) (by kernel_rfl) (by kernel_rfl)
      (OpenSpec.preRow_of_cond 8 hx (by kernel_rfl) (fun k hk => by cases hk) (by kernel_rfl) (door_met os _))) ?_
  intro W base args ds gs before hval hW _ _ _ hL hsh _
  exact contract H enc W base args ds gs before hval hW

end lawKept
end

end Go.Proofs.YtnicdlmcbkkkfaaGreatDoor

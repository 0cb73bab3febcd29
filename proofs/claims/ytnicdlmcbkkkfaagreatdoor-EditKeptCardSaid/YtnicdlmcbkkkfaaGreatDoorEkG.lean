/-
  What the row of EditKept asks of the program, reckoned.
  Proved: tintypelaw37.EditKept returns true for every number of members and every deed, and leaves its arguments as they were. Conditions: the package-level variables of Go's library that the row lists start as the program's text lays them (the card ties them).
-/
import Derived.Test.YtnicdlmcbkkkfaaGreatDoorEkF
import Derived.Test.YtnicdlmcbkkkfaaGreatDoorEkJA
import Derived.Test.YtnicdlmcbkkkfaaGreatDoorEkJB
import Derived.Test.YtnicdlmcbkkkfaaGreatDoorEkJC
import Derived.Test.YtnicdlmcbkkkfaaGreatDoorEkJD
import Derived.Test.YtnicdlmcbkkkfaaGreatDoorEkJE
import Derived.Test.YtnicdlmcbkkkfaaGreatDoorEkJF
import Derived.Test.YtnicdlmcbkkkfaaGreatDoorEkJG
namespace Go.Proofs.YtnicdlmcbkkkfaaGreatDoor

section
namespace lawKept
open Go.ChangeShapes Go.WideShapes Go.ChangeAt Go.RowKit Go.Joins Go.Deep

theorem joined_of {P : Program} {f : FuncId} {fn : Func} {s : ChangeSpec} {c : OpenClaim}
  (h1 : (c.wf (OpenSpec.ofChange s) && laidOutB P && mapsRowed P && fn.params.all (P.readableRec ·) && namedTie P c.named s.vars && (c.stops == []) && (P.stops == []) && (c.knobs == []) && (P.stopKnobs == [])) = true)
  (h2 : (c.inPlace == P.inPlace f) = true) (h3 : (c.unfollowed == P.unfollowed f) = true) (h4 : (c.recurses == P.recurses f) = true) (h5 : (c.named == P.varsNamed f) = true)
  (h : ∀ b : Bool, b = true → (b && (c.maps == (fn.params.toList ++ s.plain.varTypes P).any (P.mapsRec ·)) && (c.ifaces == (fn.params.toList ++ s.plain.varTypes P).any (P.ifacesRec ·)) && (c.mapsOut == P.mapsAmong fn.resultTypes.toList) &&
  (c.loops == (fn.params.toList ++ s.plain.varTypes P).any (P.loopsFrom ·)) && (c.wideKeys == (fn.params.toList ++ s.plain.varTypes P ++ fn.resultTypes.toList).any (P.wideKeysFrom ·)) &&
  s.vars.all (P.varReadable ·) && fn.resultTypes.all (fun t => P.readableRec t && decide (t < P.types.size)) && (c.ifacesOut == fn.resultTypes.toList.any (P.ifacesRec ·)) && (c.loopsOut == fn.resultTypes.toList.any (P.loopsFrom ·)) && (c.plainKeys == P.plainKeys) && c.shortTexts.isNone && P.stopsHeard && P.mayEnter && (c.lifted == P.liftsFinal) && (P.make == some c.make) && (c.kinds == (if c.domain.isEmpty then [] else fn.params.toList.map fun t => match P.underlying t with | some (.int k) => some k | _ => none)) && (c.pinned == c.pinnedBy) &&
  (c.veiled == (fn.params.toList ++ s.plain.varTypes P ++ fn.resultTypes.toList).any (P.veiledRec ·)) && c.veiledFits P fn.params.toList (fn.params.toList ++ s.plain.varTypes P ++ fn.resultTypes.toList)) = true) : joinedFacts P f fn s c = true := by
  unfold joinedFacts
  rw [h1, h2, h3, h4, h5]
  exact h _ rfl

theorem joinE : (Rows.editKeptRow.wf (OpenSpec.ofChange Rows.editKeptSpec) && laidOutB Tryz.prog && mapsRowed Tryz.prog && Tryz.f3.params.all (Tryz.prog.readableRec ·) && namedTie Tryz.prog Rows.editKeptRow.named Rows.editKeptSpec.vars && (Rows.editKeptRow.stops == []) && (Tryz.prog.stops == []) && (Rows.editKeptRow.knobs == []) && (Tryz.prog.stopKnobs == [])) = true := by kernel_rfl

set_option maxRecDepth 100000 in
set_option maxHeartbeats 4000000 in
theorem said : Rows.EditKeptSaid :=
  OpenClaim.holds_of_cond 3 Tryz.f3 rfl rfl rfl rfl rfl rfl rfl ⟨rfl, rfl, rfl, rfl, rfl⟩ rfl rfl rfl rfl rfl (by as_aux_lemma => kernel_rfl) Tryz.func3 (joined_of joinE joinA joinB joinC joinD (fun b hb => by as_aux_lemma => (subst hb; kernel_rfl)))
    (of_decide_eq_true (by as_aux_lemma => kernel_rfl)) (by unfold Func.isWrapper; first | (rw [if_pos (by decide +kernel)]; kernel_rfl) | (rw [if_neg (by decide +kernel)]; exact ⟨rfl, rfl⟩))
    (fun os started H enc _ F => by rw [OpenClaim.pre_eq_preRow]; exact lifted os started H enc F)

end lawKept
end

section
namespace lawKept
open Go.ChangeShapes Go.WideShapes Go.ChangeAt Go.RowKit Go.Joins Go.Deep

theorem plain (f : FuncId) (fn : Func) (hf : Tryz.pinned.checked.prog.funcNamed "tintype/tintypelaw37.EditKept" = some f) (hfn : Tryz.pinned.checked.prog.funcs[f]? = some fn) :
    true = Tryz.pinned.checked.prog.looks [] ∧ ∀ (j : Nat) t, fn.params[j]? = some t → Tryz.pinned.checked.prog.wantsStandIn t = false := by
  obtain rfl : f = 3 := Option.some.inj ((show Tryz.prog.funcNamed "tintype/tintypelaw37.EditKept" = some 3 by kernel_rfl).symm.trans hf) |>.symm
  obtain rfl : fn = Tryz.f3 := (Option.some.inj (Tryz.func3.symm.trans hfn)).symm
  refine ⟨joinL, fun j t ht => ?_⟩
  rw [Tryz.params3] at ht
  have h3 : t = 3 ∨ t = 33 := by
    have := Array.mem_of_getElem? ht
    simpa using this
  rcases h3 with rfl | rfl
  · exact (show Tryz.prog.wantsStandIn 3 = false by kernel_rfl)
  · exact (show Tryz.prog.wantsStandIn 33 = false by kernel_rfl)

theorem card : Rows.EditKeptCardSaid :=
  Claim7.holds_tied_plain_at .later [] _ _ _ _ said (fun _ h => by cases h) joinW (fun _ h => by cases h) editKept_row_tie rfl ⟨rfl, rfl⟩ joinM rfl plain joinG
#print axioms card
end lawKept
end

end Go.Proofs.YtnicdlmcbkkkfaaGreatDoor

/-
  What the rows of this seat share: the package-level variables out of the rows' list; an input that fits.
-/
import Derived.Test.YtghnmamdfinbpaaDoorLawN
import Derived.Test.YtghnmamdfinbpaaDoorCards
import Derived.Test.YtghnmamdfinbpaaDoorTie
import Derived.ProofKit
import Derived.OpenShut
import Derived.Deep.DeepHandedRow
import Derived.Deep.DeepWitnessRowRef
import Derived.Lib.LaidTab
import Derived.LaidMore
import Derived.MakeChecks
namespace Go.Proofs.YtghnmamdfinbpaaDoor
open Go.ChangeShapes Go.WideShapes Go.ChangeAt Go.RowKit

theorem own : ownKnob Tryd.prog.godebug = none := by kernel_rfl
theorem laidOut : laidOutB Tryd.prog = true := by kernel_rfl
theorem gSyn : Tryd.prog.globalNamed "strconv.ErrSyntax" = some 0 := by kernel_rfl
theorem gRng : Tryd.prog.globalNamed "strconv.ErrRange" = some 1 := by kernel_rfl
theorem tSyn : (Tryd.prog.globals[0]?).map (·.type) = some 44 := by kernel_rfl
theorem tRng : (Tryd.prog.globals[1]?).map (·.type) = some 44 := by kernel_rfl
theorem tPow : (Tryd.prog.globals[3]?).map (·.type) = some 99 := by kernel_rfl
theorem cPow : Tryd.prog.cellsOf 99 = 20 := by kernel_rfl
theorem cU64 : Tryd.prog.cellsOf 53 = 1 := by kernel_rfl

/-- an error variable's cell holds an interface value. -/
theorem iface_cell {W : World} {n : String} {g : Nat} {nm : String} {d : DataW Unit} {rest : List (String × DataW Unit)}
    (hg : Tryd.prog.globalNamed n = some g) (ht : (Tryd.prog.globals[g]?).map (·.type) = some 44)
    (h : laidMet Tryd.prog ((n, .iface nm d) :: rest) W) : ∃ te pe, W.cell? ⟨g, 0, none⟩ = some (.iface te pe) := by
  obtain ⟨ps, ⟨g', t', cs, fuel, p, q, hg', ht', hvar, hd, _, _⟩, _⟩ := h
  obtain rfl := Option.some.inj (hg.symm.trans hg')
  obtain rfl := Option.some.inj (ht.symm.trans ht')
  obtain ⟨_, u, v, hcs, _, _⟩ := iface_of_trod Tryd.underlying44 hd
  have := World.var?_cell hg hvar 0
  rw [Array.eq_one_of_toList hcs] at this
  exact ⟨u, v, by simpa using this⟩

def laid5 : List (String × DataW Unit) := Rows.ratioNearestRow.laid

theorem env_of {W : World} (h : laidMetH Tryd.prog laid5 W) (hsh : W.ShapedOpen Tryd.prog) : Env W := by
  rw [MakeChecks.laidMetH_plain _ _ _ (by kernel_rfl)] at h
  refine ⟨?_, ?_, ?_, ?_⟩
  · have h1 := h.filter (fun x => x.1 == "internal/strconv.uint64pow10")
    exact Lib.tabIs_of_head (rest := []) gPow tPow Tryd.underlying99 Tryd.underlying53 cU64 cPow h1
  · have h1 := h.filter (fun x => x.1 == "strconv.ErrSyntax")
    exact iface_cell (rest := []) gSyn tSyn h1
  · have h1 := h.filter (fun x => x.1 == "strconv.ErrRange")
    exact iface_cell (rest := []) gRng tRng h1
  · exact Tryd.laysM219.s1_3 W hsh

/-- the door's own heap meets the rows' list. -/
theorem door_met (os : Os) (args : Array Value) : laidMetH Tryd.prog laid5 ((World.doorLaid Tryd.prog 400 os).forCall (fun _ _ => 0) ⟨#[], args, []⟩).memory :=
  laidMetH_of_parts3 (fuel := 8) (laidMet_of_run' 8 (by kernel_rfl) (by kernel_rfl)) (by kernel_rfl) (by kernel_rfl)

theorem cellsI : Tryd.prog.cellsOf 3 = 1 := by kernel_rfl
theorem cellsR : Tryd.prog.cellsOf 23 = 2 := by kernel_rfl

end Go.Proofs.YtghnmamdfinbpaaDoor

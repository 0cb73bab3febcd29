/-
  NARROWER THAN 'FOR EVERY INPUT', by the rows' own cells (each row's printed sentence says how): LimitsEach: laid · LimitsImages: laid · LimitsFirst: laid · LimitsMay: laid.
  DERIVED. THE GIVEN ROWS OF THIS SEAT. 4 by the template 'for every input the law returns true; each argument reads behind the call as it read before'; 0 by the template 'total and deterministic' (their statements: YtfdojmichbgpiaaGreatDoorTotals.lean).
  GIVEN WITH THE SEED: the statements are not yours to turn. If you find one false, say at which input.
  Laid BY PROGRAM, IN A SANDBOX (cutbox-rows.mjs): the forced cells as the released guide's own fill.sh prints them over the translation 7efdd0e0e8d2b768… (all of the seat's roots in one cut). By AI agents, Wed Nov 11 2026. No macro, syntax, notation, axiom, sorry.
-/
import Derived.Test.YtfdojmichbgpiaaGreatDoorChecked
import GoSem.Claim
import GoSem.ClaimJoined
import GoSem.ClaimMapViews
import Derived.JoinedTies
import Derived.KernelRfl
namespace Go.Proofs.YtfdojmichbgpiaaGreatDoor
/- THE CELL 'sum', in the pinned program and in every row, IS THE sha256 OF THE DUMP (.gsa) THAT YtfdojmichbgpiaaGreatDoorProg.lean LOADS. Nothing in Lean hashes anything: it is a label: what it is worth is what the hold of that sum in a sandbox is worth. -/
noncomputable def Tryz.pinned : Pinned := { name := "ytfdojmichbgpiaagreatdoor", sum := "7efdd0e0e8d2b76876d6c910bf0ee88781619de53154fb5c0502830f8255d716", checked := Tryz.checked }
namespace Rows
def none {H : Type} : Left H := { results := [], args := [] }

/- WHAT THE LISTED PACKAGE-LEVEL VARIABLES READ AS WHEN THE CALL BEGINS. Each datum BY PROGRAM (the guide's laid-datum.mjs) off the statement by which the dump's own 'gosem.cut.vars' lays the variable. In a bare row this is a premise. The card (YtfdojmichbgpiaaGreatDoorCards.lean) ties it to the program's text. -/
def laid_bytes_ErrTooLarge {H : Type} : DataW H := .iface "*errors.errorString" (.ptr (.agg [.lit (.string [98, 121, 116, 101, 115, 46, 66, 117, 102, 102, 101, 114, 58, 32, 116, 111, 111, 32, 108, 97, 114, 103, 101])]))

/-- 'tintypelaw30.LimitsEach': WHATEVER THE INPUT: true; the input reads as it did. -/
def limitsEachSpec : ChangeSpec := { name := "limitsEach", fn := fun _ => fun
  | [d] => { results := [.lit (.bool true)], args := [d] }
  | _ => none }
def limitsEachRow : OpenClaim := { program := "ytfdojmichbgpiaagreatdoor", sum := "7efdd0e0e8d2b76876d6c910bf0ee88781619de53154fb5c0502830f8255d716", func := "tintype/tintypelaw30.LimitsEach", spec := "limitsEach", inPlace := ["internal/bytealg.IndexByte", "slices.overlaps[tintype/api.Tag]"], unfollowed := true, recurses := true, named := ["bytes.ErrTooLarge"], plainKeys := false, apart := false, laid := [("bytes.ErrTooLarge", laid_bytes_ErrTooLarge)] }
def LimitsEachSaid : Prop := limitsEachRow.holds Tryz.pinned (OpenSpec.ofChange limitsEachSpec)

/-- ITS FALSE NEIGHBOUR: 'it returns false'. Refute it at one input. -/
def limitsEachWrong : ChangeSpec := { name := "limitsEach", fn := fun _ => fun
  | [d] => { results := [.lit (.bool false)], args := [d] }
  | _ => none }
def LimitsEachWrongFalsely : Prop := limitsEachRow.holds Tryz.pinned (OpenSpec.ofChange limitsEachWrong)

/-- 'tintypelaw30.LimitsImages': WHATEVER THE INPUT: true; the input reads as it did. -/
def limitsImagesSpec : ChangeSpec := { name := "limitsImages", fn := fun _ => fun
  | [d1, d2] => { results := [.lit (.bool true)], args := [d1, d2] }
  | _ => none }
def limitsImagesRow : OpenClaim := { program := "ytfdojmichbgpiaagreatdoor", sum := "7efdd0e0e8d2b76876d6c910bf0ee88781619de53154fb5c0502830f8255d716", func := "tintype/tintypelaw30.LimitsImages", spec := "limitsImages", inPlace := ["internal/bytealg.IndexByte", "slices.overlaps[tintype/api.Tag]"], unfollowed := true, recurses := true, named := ["bytes.ErrTooLarge"], plainKeys := false, apart := false, laid := [("bytes.ErrTooLarge", laid_bytes_ErrTooLarge)] }
def LimitsImagesSaid : Prop := limitsImagesRow.holds Tryz.pinned (OpenSpec.ofChange limitsImagesSpec)

/-- ITS FALSE NEIGHBOUR: 'it returns false'. Refute it at one input. -/
def limitsImagesWrong : ChangeSpec := { name := "limitsImages", fn := fun _ => fun
  | [d1, d2] => { results := [.lit (.bool false)], args := [d1, d2] }
  | _ => none }
def LimitsImagesWrongFalsely : Prop := limitsImagesRow.holds Tryz.pinned (OpenSpec.ofChange limitsImagesWrong)

/-- 'tintypelaw30.LimitsFirst': WHATEVER THE INPUT: true; the input reads as it did. -/
def limitsFirstSpec : ChangeSpec := { name := "limitsFirst", fn := fun _ => fun
  | [d1, d2] => { results := [.lit (.bool true)], args := [d1, d2] }
  | _ => none }
def limitsFirstRow : OpenClaim := { program := "ytfdojmichbgpiaagreatdoor", sum := "7efdd0e0e8d2b76876d6c910bf0ee88781619de53154fb5c0502830f8255d716", func := "tintype/tintypelaw30.LimitsFirst", spec := "limitsFirst", inPlace := ["internal/bytealg.IndexByte", "slices.overlaps[tintype/api.Tag]"], unfollowed := true, recurses := true, named := ["bytes.ErrTooLarge"], plainKeys := false, apart := false, laid := [("bytes.ErrTooLarge", laid_bytes_ErrTooLarge)] }
def LimitsFirstSaid : Prop := limitsFirstRow.holds Tryz.pinned (OpenSpec.ofChange limitsFirstSpec)

/-- ITS FALSE NEIGHBOUR: 'it returns false'. Refute it at one input. -/
def limitsFirstWrong : ChangeSpec := { name := "limitsFirst", fn := fun _ => fun
  | [d1, d2] => { results := [.lit (.bool false)], args := [d1, d2] }
  | _ => none }
def LimitsFirstWrongFalsely : Prop := limitsFirstRow.holds Tryz.pinned (OpenSpec.ofChange limitsFirstWrong)

/-- 'tintypelaw30.LimitsMay': WHATEVER THE INPUT: true; the input reads as it did. -/
def limitsMaySpec : ChangeSpec := { name := "limitsMay", fn := fun _ => fun
  | [d] => { results := [.lit (.bool true)], args := [d] }
  | _ => none }
def limitsMayRow : OpenClaim := { program := "ytfdojmichbgpiaagreatdoor", sum := "7efdd0e0e8d2b76876d6c910bf0ee88781619de53154fb5c0502830f8255d716", func := "tintype/tintypelaw30.LimitsMay", spec := "limitsMay", inPlace := ["internal/bytealg.IndexByte", "slices.overlaps[tintype/api.Tag]"], unfollowed := true, recurses := true, named := ["bytes.ErrTooLarge"], plainKeys := false, apart := false, laid := [("bytes.ErrTooLarge", laid_bytes_ErrTooLarge)] }
def LimitsMaySaid : Prop := limitsMayRow.holds Tryz.pinned (OpenSpec.ofChange limitsMaySpec)

/-- ITS FALSE NEIGHBOUR: 'it returns false'. Refute it at one input. -/
def limitsMayWrong : ChangeSpec := { name := "limitsMay", fn := fun _ => fun
  | [d] => { results := [.lit (.bool false)], args := [d] }
  | _ => none }
def LimitsMayWrongFalsely : Prop := limitsMayRow.holds Tryz.pinned (OpenSpec.ofChange limitsMayWrong)

/- THE SECOND FORM. 'bulk': how many values and letters a reading holds, each counted each time it is reached (what is shared counts as often as it is met; a slice's spare places count too). A statement '..UptoSaid' is the law's where the arguments, and the package variables that the reading takes, are together of bulk at most 1048576: NARROWER than '..Said'. Prove '..Said' where nothing that the law and all that it calls make is longer than what came in: it says more and counts as full. Else prove '..UptoSaid'. A law counts once. -/
mutual
def uptoBulk {H : Type} : DataW H → Nat
  | .lit (.string bytes) => bytes.length + 1
  | .lit _ => 1
  | .nil => 1
  | .ptr d => uptoBulk d + 1
  | .slice elems spare => uptoBulkAll elems + uptoBulkAll spare + 1
  | .agg parts => uptoBulkAll parts + 1
  | .iface _ d => uptoBulk d + 1
  | .map entries => uptoBulkEntries entries + 1
  | .held _ => 1
def uptoBulkAll {H : Type} : List (DataW H) → Nat
  | [] => 0
  | d :: r => uptoBulk d + uptoBulkAll r
def uptoBulkEntries {H : Type} : List (Lit × DataW H) → Nat
  | [] => 0
  | x :: r => uptoBulkEntry x + uptoBulkEntries r
def uptoBulkEntry {H : Type} : Lit × DataW H → Nat
  | (.string bytes, d) => bytes.length + uptoBulk d + 1
  | (_, d) => uptoBulk d + 1
 end
def uptoSmall : (H : Type) → List (DataW H) → Bool := fun _ ds => decide (uptoBulkAll ds ≤ 1048576)
def OpenSpec.upto (s : _root_.Go.ChangeSpec) : _root_.Go.OpenSpec := { _root_.Go.OpenSpec.ofChange s with cond := some uptoSmall }

/-- 'tintypelaw30.LimitsEach', WHERE WHAT IT READS IS OF BULK AT MOST 1048576: true; the input reads as it did. -/
def limitsEachUptoRow : OpenClaim := { program := "ytfdojmichbgpiaagreatdoor", sum := "7efdd0e0e8d2b76876d6c910bf0ee88781619de53154fb5c0502830f8255d716", func := "tintype/tintypelaw30.LimitsEach", spec := "limitsEach", inPlace := ["internal/bytealg.IndexByte", "slices.overlaps[tintype/api.Tag]"], unfollowed := true, recurses := true, named := ["bytes.ErrTooLarge"], plainKeys := false, apart := false, laid := [("bytes.ErrTooLarge", laid_bytes_ErrTooLarge)], narrowed := true }
def LimitsEachUptoSaid : Prop := limitsEachUptoRow.holds Tryz.pinned (OpenSpec.upto limitsEachSpec)

/-- 'tintypelaw30.LimitsImages', WHERE WHAT IT READS IS OF BULK AT MOST 1048576: true; the input reads as it did. -/
def limitsImagesUptoRow : OpenClaim := { program := "ytfdojmichbgpiaagreatdoor", sum := "7efdd0e0e8d2b76876d6c910bf0ee88781619de53154fb5c0502830f8255d716", func := "tintype/tintypelaw30.LimitsImages", spec := "limitsImages", inPlace := ["internal/bytealg.IndexByte", "slices.overlaps[tintype/api.Tag]"], unfollowed := true, recurses := true, named := ["bytes.ErrTooLarge"], plainKeys := false, apart := false, laid := [("bytes.ErrTooLarge", laid_bytes_ErrTooLarge)], narrowed := true }
def LimitsImagesUptoSaid : Prop := limitsImagesUptoRow.holds Tryz.pinned (OpenSpec.upto limitsImagesSpec)

/-- 'tintypelaw30.LimitsFirst', WHERE WHAT IT READS IS OF BULK AT MOST 1048576: true; the input reads as it did. -/
def limitsFirstUptoRow : OpenClaim := { program := "ytfdojmichbgpiaagreatdoor", sum := "7efdd0e0e8d2b76876d6c910bf0ee88781619de53154fb5c0502830f8255d716", func := "tintype/tintypelaw30.LimitsFirst", spec := "limitsFirst", inPlace := ["internal/bytealg.IndexByte", "slices.overlaps[tintype/api.Tag]"], unfollowed := true, recurses := true, named := ["bytes.ErrTooLarge"], plainKeys := false, apart := false, laid := [("bytes.ErrTooLarge", laid_bytes_ErrTooLarge)], narrowed := true }
def LimitsFirstUptoSaid : Prop := limitsFirstUptoRow.holds Tryz.pinned (OpenSpec.upto limitsFirstSpec)

/-- 'tintypelaw30.LimitsMay', WHERE WHAT IT READS IS OF BULK AT MOST 1048576: true; the input reads as it did. -/
def limitsMayUptoRow : OpenClaim := { program := "ytfdojmichbgpiaagreatdoor", sum := "7efdd0e0e8d2b76876d6c910bf0ee88781619de53154fb5c0502830f8255d716", func := "tintype/tintypelaw30.LimitsMay", spec := "limitsMay", inPlace := ["internal/bytealg.IndexByte", "slices.overlaps[tintype/api.Tag]"], unfollowed := true, recurses := true, named := ["bytes.ErrTooLarge"], plainKeys := false, apart := false, laid := [("bytes.ErrTooLarge", laid_bytes_ErrTooLarge)], narrowed := true }
def LimitsMayUptoSaid : Prop := limitsMayUptoRow.holds Tryz.pinned (OpenSpec.upto limitsMaySpec)

end Rows
end Go.Proofs.YtfdojmichbgpiaaGreatDoor

/-
  NARROWER THAN 'FOR EVERY INPUT', by the rows' own cells (each row's printed sentence says how): WriteStays: laid · WriteTiles: laid · ReadBack: laid · CoverTiles: laid · ReadAgain: laid · CoverWritten: laid · CoverSays: laid · SplitOther: laid · SplitAny: laid · ValidWritten: laid · SplitBack: laid · SplitTurned: laid.
  DERIVED. THE GIVEN ROWS OF THIS SEAT. 12 by the template 'for every input the law returns true; each argument reads behind the call as it read before'; 0 by the template 'total and deterministic' (their statements: YtcfjfbeadhnknaaGreatDoorTotals.lean).
  GIVEN WITH THE SEED: the statements are not yours to turn. If you find one false, say at which input.
  Laid BY PROGRAM, IN A SANDBOX (cutbox-rows.mjs): the forced cells as the released guide's own fill.sh prints them over the translation c596fd7c6146f247… (all of the seat's roots in one cut). By AI agents, Wed Nov 11 2026. No macro, syntax, notation, axiom, sorry.
-/
import Derived.Test.YtcfjfbeadhnknaaGreatDoorChecked
import GoSem.Claim
import GoSem.ClaimJoined
import GoSem.ClaimMapViews
import Derived.JoinedTies
import Derived.KernelRfl
namespace Go.Proofs.YtcfjfbeadhnknaaGreatDoor
/- THE CELL 'sum', in the pinned program and in every row, IS THE sha256 OF THE DUMP (.gsa) THAT YtcfjfbeadhnknaaGreatDoorProg.lean LOADS. Nothing in Lean hashes anything: it is a label: what it is worth is what the hold of that sum in a sandbox is worth. -/
noncomputable def Tryz.pinned : Pinned := { name := "ytcfjfbeadhnknaagreatdoor", sum := "c596fd7c6146f247bcfbeaf496e4c0695c0f7a3e1d41dfe7092efed81d566798", checked := Tryz.checked }
namespace Rows
def none {H : Type} : Left H := { results := [], args := [] }

/- WHAT THE LISTED PACKAGE-LEVEL VARIABLES READ AS WHEN THE CALL BEGINS. Each datum BY PROGRAM (the guide's laid-datum.mjs) off the statement by which the dump's own 'gosem.cut.vars' lays the variable. In a bare row this is a premise. The card (YtcfjfbeadhnknaaGreatDoorCards.lean) ties it to the program's text. -/
def laid_bytes_ErrTooLarge {H : Type} : DataW H := .iface "*errors.errorString" (.ptr (.agg [.lit (.string [98, 121, 116, 101, 115, 46, 66, 117, 102, 102, 101, 114, 58, 32, 116, 111, 111, 32, 108, 97, 114, 103, 101])]))

/-- 'tintypelaw31.WriteStays': WHATEVER THE INPUT: true; the input reads as it did. -/
def writeStaysSpec : ChangeSpec := { name := "writeStays", fn := fun _ => fun
  | [d1, d2, d3] => { results := [.lit (.bool true)], args := [d1, d2, d3] }
  | _ => none }
def writeStaysRow : OpenClaim := { program := "ytcfjfbeadhnknaagreatdoor", sum := "c596fd7c6146f247bcfbeaf496e4c0695c0f7a3e1d41dfe7092efed81d566798", func := "tintype/tintypelaw31.WriteStays", spec := "writeStays", inPlace := ["internal/bytealg.IndexByte", "slices.overlaps[tintype/api.Tag]"], unfollowed := true, recurses := true, named := ["bytes.ErrTooLarge"], plainKeys := false, apart := false, laid := [("bytes.ErrTooLarge", laid_bytes_ErrTooLarge)] }
def WriteStaysSaid : Prop := writeStaysRow.holds Tryz.pinned (OpenSpec.ofChange writeStaysSpec)

/-- ITS FALSE NEIGHBOUR: 'it returns false'. Refute it at one input. -/
def writeStaysWrong : ChangeSpec := { name := "writeStays", fn := fun _ => fun
  | [d1, d2, d3] => { results := [.lit (.bool false)], args := [d1, d2, d3] }
  | _ => none }
def WriteStaysWrongFalsely : Prop := writeStaysRow.holds Tryz.pinned (OpenSpec.ofChange writeStaysWrong)

/-- 'tintypelaw31.WriteTiles': WHATEVER THE INPUT: true; the input reads as it did. -/
def writeTilesSpec : ChangeSpec := { name := "writeTiles", fn := fun _ => fun
  | [d] => { results := [.lit (.bool true)], args := [d] }
  | _ => none }
def writeTilesRow : OpenClaim := { program := "ytcfjfbeadhnknaagreatdoor", sum := "c596fd7c6146f247bcfbeaf496e4c0695c0f7a3e1d41dfe7092efed81d566798", func := "tintype/tintypelaw31.WriteTiles", spec := "writeTiles", inPlace := ["internal/bytealg.IndexByte", "slices.overlaps[tintype/api.Tag]"], unfollowed := true, recurses := true, named := ["bytes.ErrTooLarge"], plainKeys := false, apart := false, laid := [("bytes.ErrTooLarge", laid_bytes_ErrTooLarge)] }
def WriteTilesSaid : Prop := writeTilesRow.holds Tryz.pinned (OpenSpec.ofChange writeTilesSpec)

/-- ITS FALSE NEIGHBOUR: 'it returns false'. Refute it at one input. -/
def writeTilesWrong : ChangeSpec := { name := "writeTiles", fn := fun _ => fun
  | [d] => { results := [.lit (.bool false)], args := [d] }
  | _ => none }
def WriteTilesWrongFalsely : Prop := writeTilesRow.holds Tryz.pinned (OpenSpec.ofChange writeTilesWrong)

/-- 'tintypelaw32.ReadBack': WHATEVER THE INPUT: true; the input reads as it did. -/
def readBackSpec : ChangeSpec := { name := "readBack", fn := fun _ => fun
  | [d1, d2] => { results := [.lit (.bool true)], args := [d1, d2] }
  | _ => none }
def readBackRow : OpenClaim := { program := "ytcfjfbeadhnknaagreatdoor", sum := "c596fd7c6146f247bcfbeaf496e4c0695c0f7a3e1d41dfe7092efed81d566798", func := "tintype/tintypelaw32.ReadBack", spec := "readBack", inPlace := ["internal/bytealg.IndexByte", "slices.overlaps[tintype/api.Tag]"], unfollowed := true, recurses := true, named := ["bytes.ErrTooLarge"], plainKeys := false, apart := false, laid := [("bytes.ErrTooLarge", laid_bytes_ErrTooLarge)] }
def ReadBackSaid : Prop := readBackRow.holds Tryz.pinned (OpenSpec.ofChange readBackSpec)

/-- ITS FALSE NEIGHBOUR: 'it returns false'. Refute it at one input. -/
def readBackWrong : ChangeSpec := { name := "readBack", fn := fun _ => fun
  | [d1, d2] => { results := [.lit (.bool false)], args := [d1, d2] }
  | _ => none }
def ReadBackWrongFalsely : Prop := readBackRow.holds Tryz.pinned (OpenSpec.ofChange readBackWrong)

/-- 'tintypelaw33.CoverTiles': WHATEVER THE INPUT: true; the input reads as it did. -/
def coverTilesSpec : ChangeSpec := { name := "coverTiles", fn := fun _ => fun
  | [d] => { results := [.lit (.bool true)], args := [d] }
  | _ => none }
def coverTilesRow : OpenClaim := { program := "ytcfjfbeadhnknaagreatdoor", sum := "c596fd7c6146f247bcfbeaf496e4c0695c0f7a3e1d41dfe7092efed81d566798", func := "tintype/tintypelaw33.CoverTiles", spec := "coverTiles", inPlace := ["internal/bytealg.IndexByte", "slices.overlaps[tintype/api.Tag]"], unfollowed := true, recurses := true, named := ["bytes.ErrTooLarge"], plainKeys := false, apart := false, laid := [("bytes.ErrTooLarge", laid_bytes_ErrTooLarge)] }
def CoverTilesSaid : Prop := coverTilesRow.holds Tryz.pinned (OpenSpec.ofChange coverTilesSpec)

/-- ITS FALSE NEIGHBOUR: 'it returns false'. Refute it at one input. -/
def coverTilesWrong : ChangeSpec := { name := "coverTiles", fn := fun _ => fun
  | [d] => { results := [.lit (.bool false)], args := [d] }
  | _ => none }
def CoverTilesWrongFalsely : Prop := coverTilesRow.holds Tryz.pinned (OpenSpec.ofChange coverTilesWrong)

/-- 'tintypelaw32.ReadAgain': WHATEVER THE INPUT: true; the input reads as it did. -/
def readAgainSpec : ChangeSpec := { name := "readAgain", fn := fun _ => fun
  | [d] => { results := [.lit (.bool true)], args := [d] }
  | _ => none }
def readAgainRow : OpenClaim := { program := "ytcfjfbeadhnknaagreatdoor", sum := "c596fd7c6146f247bcfbeaf496e4c0695c0f7a3e1d41dfe7092efed81d566798", func := "tintype/tintypelaw32.ReadAgain", spec := "readAgain", inPlace := ["internal/bytealg.IndexByte", "slices.overlaps[tintype/api.Tag]"], unfollowed := true, recurses := true, named := ["bytes.ErrTooLarge"], plainKeys := false, apart := false, laid := [("bytes.ErrTooLarge", laid_bytes_ErrTooLarge)] }
def ReadAgainSaid : Prop := readAgainRow.holds Tryz.pinned (OpenSpec.ofChange readAgainSpec)

/-- ITS FALSE NEIGHBOUR: 'it returns false'. Refute it at one input. -/
def readAgainWrong : ChangeSpec := { name := "readAgain", fn := fun _ => fun
  | [d] => { results := [.lit (.bool false)], args := [d] }
  | _ => none }
def ReadAgainWrongFalsely : Prop := readAgainRow.holds Tryz.pinned (OpenSpec.ofChange readAgainWrong)

/-- 'tintypelaw33.CoverWritten': WHATEVER THE INPUT: true; the input reads as it did. -/
def coverWrittenSpec : ChangeSpec := { name := "coverWritten", fn := fun _ => fun
  | [d] => { results := [.lit (.bool true)], args := [d] }
  | _ => none }
def coverWrittenRow : OpenClaim := { program := "ytcfjfbeadhnknaagreatdoor", sum := "c596fd7c6146f247bcfbeaf496e4c0695c0f7a3e1d41dfe7092efed81d566798", func := "tintype/tintypelaw33.CoverWritten", spec := "coverWritten", inPlace := ["internal/bytealg.IndexByte", "slices.overlaps[tintype/api.Tag]"], unfollowed := true, recurses := true, named := ["bytes.ErrTooLarge"], plainKeys := false, apart := false, laid := [("bytes.ErrTooLarge", laid_bytes_ErrTooLarge)] }
def CoverWrittenSaid : Prop := coverWrittenRow.holds Tryz.pinned (OpenSpec.ofChange coverWrittenSpec)

/-- ITS FALSE NEIGHBOUR: 'it returns false'. Refute it at one input. -/
def coverWrittenWrong : ChangeSpec := { name := "coverWritten", fn := fun _ => fun
  | [d] => { results := [.lit (.bool false)], args := [d] }
  | _ => none }
def CoverWrittenWrongFalsely : Prop := coverWrittenRow.holds Tryz.pinned (OpenSpec.ofChange coverWrittenWrong)

/-- 'tintypelaw33.CoverSays': WHATEVER THE INPUT: true; the input reads as it did. -/
def coverSaysSpec : ChangeSpec := { name := "coverSays", fn := fun _ => fun
  | [d1, d2, d3] => { results := [.lit (.bool true)], args := [d1, d2, d3] }
  | _ => none }
def coverSaysRow : OpenClaim := { program := "ytcfjfbeadhnknaagreatdoor", sum := "c596fd7c6146f247bcfbeaf496e4c0695c0f7a3e1d41dfe7092efed81d566798", func := "tintype/tintypelaw33.CoverSays", spec := "coverSays", inPlace := ["internal/bytealg.IndexByte", "slices.overlaps[tintype/api.Tag]"], unfollowed := true, recurses := true, named := ["bytes.ErrTooLarge"], plainKeys := false, apart := false, laid := [("bytes.ErrTooLarge", laid_bytes_ErrTooLarge)] }
def CoverSaysSaid : Prop := coverSaysRow.holds Tryz.pinned (OpenSpec.ofChange coverSaysSpec)

/-- ITS FALSE NEIGHBOUR: 'it returns false'. Refute it at one input. -/
def coverSaysWrong : ChangeSpec := { name := "coverSays", fn := fun _ => fun
  | [d1, d2, d3] => { results := [.lit (.bool false)], args := [d1, d2, d3] }
  | _ => none }
def CoverSaysWrongFalsely : Prop := coverSaysRow.holds Tryz.pinned (OpenSpec.ofChange coverSaysWrong)

/-- 'tintypelaw35.SplitOther': WHATEVER THE INPUT: true; the input reads as it did. -/
def splitOtherSpec : ChangeSpec := { name := "splitOther", fn := fun _ => fun
  | [d1, d2, d3, d4] => { results := [.lit (.bool true)], args := [d1, d2, d3, d4] }
  | _ => none }
def splitOtherRow : OpenClaim := { program := "ytcfjfbeadhnknaagreatdoor", sum := "c596fd7c6146f247bcfbeaf496e4c0695c0f7a3e1d41dfe7092efed81d566798", func := "tintype/tintypelaw35.SplitOther", spec := "splitOther", inPlace := ["internal/bytealg.IndexByte", "slices.overlaps[tintype/api.Tag]"], unfollowed := true, recurses := true, named := ["bytes.ErrTooLarge"], plainKeys := false, apart := false, laid := [("bytes.ErrTooLarge", laid_bytes_ErrTooLarge)] }
def SplitOtherSaid : Prop := splitOtherRow.holds Tryz.pinned (OpenSpec.ofChange splitOtherSpec)

/-- ITS FALSE NEIGHBOUR: 'it returns false'. Refute it at one input. -/
def splitOtherWrong : ChangeSpec := { name := "splitOther", fn := fun _ => fun
  | [d1, d2, d3, d4] => { results := [.lit (.bool false)], args := [d1, d2, d3, d4] }
  | _ => none }
def SplitOtherWrongFalsely : Prop := splitOtherRow.holds Tryz.pinned (OpenSpec.ofChange splitOtherWrong)

/-- 'tintypelaw35.SplitAny': WHATEVER THE INPUT: true; the input reads as it did. -/
def splitAnySpec : ChangeSpec := { name := "splitAny", fn := fun _ => fun
  | [d] => { results := [.lit (.bool true)], args := [d] }
  | _ => none }
def splitAnyRow : OpenClaim := { program := "ytcfjfbeadhnknaagreatdoor", sum := "c596fd7c6146f247bcfbeaf496e4c0695c0f7a3e1d41dfe7092efed81d566798", func := "tintype/tintypelaw35.SplitAny", spec := "splitAny", inPlace := ["internal/bytealg.IndexByte", "slices.overlaps[tintype/api.Tag]"], unfollowed := true, recurses := true, named := ["bytes.ErrTooLarge"], plainKeys := false, apart := false, laid := [("bytes.ErrTooLarge", laid_bytes_ErrTooLarge)] }
def SplitAnySaid : Prop := splitAnyRow.holds Tryz.pinned (OpenSpec.ofChange splitAnySpec)

/-- ITS FALSE NEIGHBOUR: 'it returns false'. Refute it at one input. -/
def splitAnyWrong : ChangeSpec := { name := "splitAny", fn := fun _ => fun
  | [d] => { results := [.lit (.bool false)], args := [d] }
  | _ => none }
def SplitAnyWrongFalsely : Prop := splitAnyRow.holds Tryz.pinned (OpenSpec.ofChange splitAnyWrong)

/-- 'tintypelaw34.ValidWritten': WHATEVER THE INPUT: true; the input reads as it did. -/
def validWrittenSpec : ChangeSpec := { name := "validWritten", fn := fun _ => fun
  | [d1, d2] => { results := [.lit (.bool true)], args := [d1, d2] }
  | _ => none }
def validWrittenRow : OpenClaim := { program := "ytcfjfbeadhnknaagreatdoor", sum := "c596fd7c6146f247bcfbeaf496e4c0695c0f7a3e1d41dfe7092efed81d566798", func := "tintype/tintypelaw34.ValidWritten", spec := "validWritten", inPlace := ["internal/bytealg.IndexByte", "slices.overlaps[tintype/api.Tag]"], unfollowed := true, recurses := true, named := ["bytes.ErrTooLarge"], plainKeys := false, apart := false, laid := [("bytes.ErrTooLarge", laid_bytes_ErrTooLarge)] }
def ValidWrittenSaid : Prop := validWrittenRow.holds Tryz.pinned (OpenSpec.ofChange validWrittenSpec)

/-- ITS FALSE NEIGHBOUR: 'it returns false'. Refute it at one input. -/
def validWrittenWrong : ChangeSpec := { name := "validWritten", fn := fun _ => fun
  | [d1, d2] => { results := [.lit (.bool false)], args := [d1, d2] }
  | _ => none }
def ValidWrittenWrongFalsely : Prop := validWrittenRow.holds Tryz.pinned (OpenSpec.ofChange validWrittenWrong)

/-- 'tintypelaw35.SplitBack': WHATEVER THE INPUT: true; the input reads as it did. -/
def splitBackSpec : ChangeSpec := { name := "splitBack", fn := fun _ => fun
  | [d] => { results := [.lit (.bool true)], args := [d] }
  | _ => none }
def splitBackRow : OpenClaim := { program := "ytcfjfbeadhnknaagreatdoor", sum := "c596fd7c6146f247bcfbeaf496e4c0695c0f7a3e1d41dfe7092efed81d566798", func := "tintype/tintypelaw35.SplitBack", spec := "splitBack", inPlace := ["internal/bytealg.IndexByte", "slices.overlaps[tintype/api.Tag]"], unfollowed := true, recurses := true, named := ["bytes.ErrTooLarge"], plainKeys := false, apart := false, laid := [("bytes.ErrTooLarge", laid_bytes_ErrTooLarge)] }
def SplitBackSaid : Prop := splitBackRow.holds Tryz.pinned (OpenSpec.ofChange splitBackSpec)

/-- ITS FALSE NEIGHBOUR: 'it returns false'. Refute it at one input. -/
def splitBackWrong : ChangeSpec := { name := "splitBack", fn := fun _ => fun
  | [d] => { results := [.lit (.bool false)], args := [d] }
  | _ => none }
def SplitBackWrongFalsely : Prop := splitBackRow.holds Tryz.pinned (OpenSpec.ofChange splitBackWrong)

/-- 'tintypelaw35.SplitTurned': WHATEVER THE INPUT: true; the input reads as it did. -/
def splitTurnedSpec : ChangeSpec := { name := "splitTurned", fn := fun _ => fun
  | [d1, d2] => { results := [.lit (.bool true)], args := [d1, d2] }
  | _ => none }
def splitTurnedRow : OpenClaim := { program := "ytcfjfbeadhnknaagreatdoor", sum := "c596fd7c6146f247bcfbeaf496e4c0695c0f7a3e1d41dfe7092efed81d566798", func := "tintype/tintypelaw35.SplitTurned", spec := "splitTurned", inPlace := ["internal/bytealg.IndexByte", "slices.overlaps[tintype/api.Tag]"], unfollowed := true, recurses := true, named := ["bytes.ErrTooLarge"], plainKeys := false, apart := false, laid := [("bytes.ErrTooLarge", laid_bytes_ErrTooLarge)] }
def SplitTurnedSaid : Prop := splitTurnedRow.holds Tryz.pinned (OpenSpec.ofChange splitTurnedSpec)

/-- ITS FALSE NEIGHBOUR: 'it returns false'. Refute it at one input. -/
def splitTurnedWrong : ChangeSpec := { name := "splitTurned", fn := fun _ => fun
  | [d1, d2] => { results := [.lit (.bool false)], args := [d1, d2] }
  | _ => none }
def SplitTurnedWrongFalsely : Prop := splitTurnedRow.holds Tryz.pinned (OpenSpec.ofChange splitTurnedWrong)

/- THE SECOND FORM. 'bulk': how many values and letters a reading holds, each counted each time it is reached (what is shared counts as often as it is met; a slice's spare places count too). A statement '..UptoSaid' is the law's where the arguments, and the package variables that the reading takes, are together of bulk at most 1048576: NARROWER than '..Said'. Prove '..Said' where nothing that the law and all that it calls make is longer than what came in: it says more and counts as full. Else prove '..UptoSaid'. A law counts once. -/
mutual
def uptoBulk {H : Type} : DataW H → Nat
  | .lit (.string bytes) => bytes.length + 1
  | .lit _ => 1
  | .nil => 1
  | .ptr d => uptoBulk d + 1
  | .slice elems spare => uptoBulkAll elems + uptoBulkAll spare + 1
  | .agg parts => uptoBulkAll parts + 1
  | .iface _ d => uptoBulk d + 1
  | .map entries => uptoBulkEntries entries + 1
  | .held _ => 1
def uptoBulkAll {H : Type} : List (DataW H) → Nat
  | [] => 0
  | d :: r => uptoBulk d + uptoBulkAll r
def uptoBulkEntries {H : Type} : List (Lit × DataW H) → Nat
  | [] => 0
  | x :: r => uptoBulkEntry x + uptoBulkEntries r
def uptoBulkEntry {H : Type} : Lit × DataW H → Nat
  | (.string bytes, d) => bytes.length + uptoBulk d + 1
  | (_, d) => uptoBulk d + 1
 end
def uptoSmall : (H : Type) → List (DataW H) → Bool := fun _ ds => decide (uptoBulkAll ds ≤ 1048576)
def OpenSpec.upto (s : _root_.Go.ChangeSpec) : _root_.Go.OpenSpec := { _root_.Go.OpenSpec.ofChange s with cond := some uptoSmall }

/-- 'tintypelaw31.WriteStays', WHERE WHAT IT READS IS OF BULK AT MOST 1048576: true; the input reads as it did. -/
def writeStaysUptoRow : OpenClaim := { program := "ytcfjfbeadhnknaagreatdoor", sum := "c596fd7c6146f247bcfbeaf496e4c0695c0f7a3e1d41dfe7092efed81d566798", func := "tintype/tintypelaw31.WriteStays", spec := "writeStays", inPlace := ["internal/bytealg.IndexByte", "slices.overlaps[tintype/api.Tag]"], unfollowed := true, recurses := true, named := ["bytes.ErrTooLarge"], plainKeys := false, apart := false, laid := [("bytes.ErrTooLarge", laid_bytes_ErrTooLarge)], narrowed := true }
def WriteStaysUptoSaid : Prop := writeStaysUptoRow.holds Tryz.pinned (OpenSpec.upto writeStaysSpec)

/-- 'tintypelaw31.WriteTiles', WHERE WHAT IT READS IS OF BULK AT MOST 1048576: true; the input reads as it did. -/
def writeTilesUptoRow : OpenClaim := { program := "ytcfjfbeadhnknaagreatdoor", sum := "c596fd7c6146f247bcfbeaf496e4c0695c0f7a3e1d41dfe7092efed81d566798", func := "tintype/tintypelaw31.WriteTiles", spec := "writeTiles", inPlace := ["internal/bytealg.IndexByte", "slices.overlaps[tintype/api.Tag]"], unfollowed := true, recurses := true, named := ["bytes.ErrTooLarge"], plainKeys := false, apart := false, laid := [("bytes.ErrTooLarge", laid_bytes_ErrTooLarge)], narrowed := true }
def WriteTilesUptoSaid : Prop := writeTilesUptoRow.holds Tryz.pinned (OpenSpec.upto writeTilesSpec)

/-- 'tintypelaw32.ReadBack', WHERE WHAT IT READS IS OF BULK AT MOST 1048576: true; the input reads as it did. -/
def readBackUptoRow : OpenClaim := { program := "ytcfjfbeadhnknaagreatdoor", sum := "c596fd7c6146f247bcfbeaf496e4c0695c0f7a3e1d41dfe7092efed81d566798", func := "tintype/tintypelaw32.ReadBack", spec := "readBack", inPlace := ["internal/bytealg.IndexByte", "slices.overlaps[tintype/api.Tag]"], unfollowed := true, recurses := true, named := ["bytes.ErrTooLarge"], plainKeys := false, apart := false, laid := [("bytes.ErrTooLarge", laid_bytes_ErrTooLarge)], narrowed := true }
def ReadBackUptoSaid : Prop := readBackUptoRow.holds Tryz.pinned (OpenSpec.upto readBackSpec)

/-- 'tintypelaw33.CoverTiles', WHERE WHAT IT READS IS OF BULK AT MOST 1048576: true; the input reads as it did. -/
def coverTilesUptoRow : OpenClaim := { program := "ytcfjfbeadhnknaagreatdoor", sum := "c596fd7c6146f247bcfbeaf496e4c0695c0f7a3e1d41dfe7092efed81d566798", func := "tintype/tintypelaw33.CoverTiles", spec := "coverTiles", inPlace := ["internal/bytealg.IndexByte", "slices.overlaps[tintype/api.Tag]"], unfollowed := true, recurses := true, named := ["bytes.ErrTooLarge"], plainKeys := false, apart := false, laid := [("bytes.ErrTooLarge", laid_bytes_ErrTooLarge)], narrowed := true }
def CoverTilesUptoSaid : Prop := coverTilesUptoRow.holds Tryz.pinned (OpenSpec.upto coverTilesSpec)

/-- 'tintypelaw32.ReadAgain', WHERE WHAT IT READS IS OF BULK AT MOST 1048576: true; the input reads as it did. -/
def readAgainUptoRow : OpenClaim := { program := "ytcfjfbeadhnknaagreatdoor", sum := "c596fd7c6146f247bcfbeaf496e4c0695c0f7a3e1d41dfe7092efed81d566798", func := "tintype/tintypelaw32.ReadAgain", spec := "readAgain", inPlace := ["internal/bytealg.IndexByte", "slices.overlaps[tintype/api.Tag]"], unfollowed := true, recurses := true, named := ["bytes.ErrTooLarge"], plainKeys := false, apart := false, laid := [("bytes.ErrTooLarge", laid_bytes_ErrTooLarge)], narrowed := true }
def ReadAgainUptoSaid : Prop := readAgainUptoRow.holds Tryz.pinned (OpenSpec.upto readAgainSpec)

/-- 'tintypelaw33.CoverWritten', WHERE WHAT IT READS IS OF BULK AT MOST 1048576: true; the input reads as it did. -/
def coverWrittenUptoRow : OpenClaim := { program := "ytcfjfbeadhnknaagreatdoor", sum := "c596fd7c6146f247bcfbeaf496e4c0695c0f7a3e1d41dfe7092efed81d566798", func := "tintype/tintypelaw33.CoverWritten", spec := "coverWritten", inPlace := ["internal/bytealg.IndexByte", "slices.overlaps[tintype/api.Tag]"], unfollowed := true, recurses := true, named := ["bytes.ErrTooLarge"], plainKeys := false, apart := false, laid := [("bytes.ErrTooLarge", laid_bytes_ErrTooLarge)], narrowed := true }
def CoverWrittenUptoSaid : Prop := coverWrittenUptoRow.holds Tryz.pinned (OpenSpec.upto coverWrittenSpec)

/-- 'tintypelaw33.CoverSays', WHERE WHAT IT READS IS OF BULK AT MOST 1048576: true; the input reads as it did. -/
def coverSaysUptoRow : OpenClaim := { program := "ytcfjfbeadhnknaagreatdoor", sum := "c596fd7c6146f247bcfbeaf496e4c0695c0f7a3e1d41dfe7092efed81d566798", func := "tintype/tintypelaw33.CoverSays", spec := "coverSays", inPlace := ["internal/bytealg.IndexByte", "slices.overlaps[tintype/api.Tag]"], unfollowed := true, recurses := true, named := ["bytes.ErrTooLarge"], plainKeys := false, apart := false, laid := [("bytes.ErrTooLarge", laid_bytes_ErrTooLarge)], narrowed := true }
def CoverSaysUptoSaid : Prop := coverSaysUptoRow.holds Tryz.pinned (OpenSpec.upto coverSaysSpec)

/-- 'tintypelaw35.SplitOther', WHERE WHAT IT READS IS OF BULK AT MOST 1048576: true; the input reads as it did. -/
def splitOtherUptoRow : OpenClaim := { program := "ytcfjfbeadhnknaagreatdoor", sum := "c596fd7c6146f247bcfbeaf496e4c0695c0f7a3e1d41dfe7092efed81d566798", func := "tintype/tintypelaw35.SplitOther", spec := "splitOther", inPlace := ["internal/bytealg.IndexByte", "slices.overlaps[tintype/api.Tag]"], unfollowed := true, recurses := true, named := ["bytes.ErrTooLarge"], plainKeys := false, apart := false, laid := [("bytes.ErrTooLarge", laid_bytes_ErrTooLarge)], narrowed := true }
def SplitOtherUptoSaid : Prop := splitOtherUptoRow.holds Tryz.pinned (OpenSpec.upto splitOtherSpec)

/-- 'tintypelaw35.SplitAny', WHERE WHAT IT READS IS OF BULK AT MOST 1048576: true; the input reads as it did. -/
def splitAnyUptoRow : OpenClaim := { program := "ytcfjfbeadhnknaagreatdoor", sum := "c596fd7c6146f247bcfbeaf496e4c0695c0f7a3e1d41dfe7092efed81d566798", func := "tintype/tintypelaw35.SplitAny", spec := "splitAny", inPlace := ["internal/bytealg.IndexByte", "slices.overlaps[tintype/api.Tag]"], unfollowed := true, recurses := true, named := ["bytes.ErrTooLarge"], plainKeys := false, apart := false, laid := [("bytes.ErrTooLarge", laid_bytes_ErrTooLarge)], narrowed := true }
def SplitAnyUptoSaid : Prop := splitAnyUptoRow.holds Tryz.pinned (OpenSpec.upto splitAnySpec)

/-- 'tintypelaw34.ValidWritten', WHERE WHAT IT READS IS OF BULK AT MOST 1048576: true; the input reads as it did. -/
def validWrittenUptoRow : OpenClaim := { program := "ytcfjfbeadhnknaagreatdoor", sum := "c596fd7c6146f247bcfbeaf496e4c0695c0f7a3e1d41dfe7092efed81d566798", func := "tintype/tintypelaw34.ValidWritten", spec := "validWritten", inPlace := ["internal/bytealg.IndexByte", "slices.overlaps[tintype/api.Tag]"], unfollowed := true, recurses := true, named := ["bytes.ErrTooLarge"], plainKeys := false, apart := false, laid := [("bytes.ErrTooLarge", laid_bytes_ErrTooLarge)], narrowed := true }
def ValidWrittenUptoSaid : Prop := validWrittenUptoRow.holds Tryz.pinned (OpenSpec.upto validWrittenSpec)

/-- 'tintypelaw35.SplitBack', WHERE WHAT IT READS IS OF BULK AT MOST 1048576: true; the input reads as it did. -/
def splitBackUptoRow : OpenClaim := { program := "ytcfjfbeadhnknaagreatdoor", sum := "c596fd7c6146f247bcfbeaf496e4c0695c0f7a3e1d41dfe7092efed81d566798", func := "tintype/tintypelaw35.SplitBack", spec := "splitBack", inPlace := ["internal/bytealg.IndexByte", "slices.overlaps[tintype/api.Tag]"], unfollowed := true, recurses := true, named := ["bytes.ErrTooLarge"], plainKeys := false, apart := false, laid := [("bytes.ErrTooLarge", laid_bytes_ErrTooLarge)], narrowed := true }
def SplitBackUptoSaid : Prop := splitBackUptoRow.holds Tryz.pinned (OpenSpec.upto splitBackSpec)

/-- 'tintypelaw35.SplitTurned', WHERE WHAT IT READS IS OF BULK AT MOST 1048576: true; the input reads as it did. -/
def splitTurnedUptoRow : OpenClaim := { program := "ytcfjfbeadhnknaagreatdoor", sum := "c596fd7c6146f247bcfbeaf496e4c0695c0f7a3e1d41dfe7092efed81d566798", func := "tintype/tintypelaw35.SplitTurned", spec := "splitTurned", inPlace := ["internal/bytealg.IndexByte", "slices.overlaps[tintype/api.Tag]"], unfollowed := true, recurses := true, named := ["bytes.ErrTooLarge"], plainKeys := false, apart := false, laid := [("bytes.ErrTooLarge", laid_bytes_ErrTooLarge)], narrowed := true }
def SplitTurnedUptoSaid : Prop := splitTurnedUptoRow.holds Tryz.pinned (OpenSpec.upto splitTurnedSpec)

end Rows
end Go.Proofs.YtcfjfbeadhnknaaGreatDoor

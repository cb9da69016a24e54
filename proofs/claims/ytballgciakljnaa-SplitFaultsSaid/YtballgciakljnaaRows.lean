/-
  No cell of these rows narrows 'for every input' (looked for: loops, veiled, ifaces, maps, wideKeys, modest, calm, conditions, laid).
  DERIVED. THE GIVEN ROWS OF THIS SEAT. 12 by the template 'for every input the law returns true; each argument reads behind the call as it read before'; 0 by the template 'total and deterministic' (their statements: YtballgciakljnaaTotals.lean).
  GIVEN WITH THE SEED: the statements are not yours to turn. If you find one false, say at which input.
  Laid BY PROGRAM, IN A SANDBOX (cutbox-rows.mjs): the forced cells as the released guide's own fill.sh prints them over the translation 9da88ea1894bd02b… (all of the seat's roots in one cut). By AI agents, Wed Nov 11 2026. No macro, syntax, notation, axiom, sorry.
-/
import Derived.Test.YtballgciakljnaaChecked
import GoSem.Claim
import GoSem.ClaimJoined
import GoSem.ClaimMapViews
import Derived.JoinedTies
import Derived.KernelRfl
namespace Go.Proofs.Ytballgciakljnaa
/- THE CELL 'sum', in the pinned program and in every row, IS THE sha256 OF THE DUMP (.gsa) THAT YtballgciakljnaaProg.lean LOADS. Nothing in Lean hashes anything: it is a label: what it is worth is what the hold of that sum in a sandbox is worth. -/
noncomputable def Try.pinned : Pinned := { name := "ytballgciakljnaa", sum := "9da88ea1894bd02bf34324b4de707c82fb05c2c81635f2a78e8ed86d412de3cc", checked := Try.checked }
namespace Rows
def none {H : Type} : Left H := { results := [], args := [] }

/-- 'bilgelaw37.CharsFrames': WHATEVER THE INPUT: true; the input reads as it did. -/
def charsFramesSpec : ChangeSpec := { name := "charsFrames", fn := fun _ => fun
  | [d1, d2, d3] => { results := [.lit (.bool true)], args := [d1, d2, d3] }
  | _ => none }
def charsFramesRow : OpenClaim := { program := "ytballgciakljnaa", sum := "9da88ea1894bd02bf34324b4de707c82fb05c2c81635f2a78e8ed86d412de3cc", func := "bilge/bilgelaw37.CharsFrames", spec := "charsFrames", inPlace := ["internal/abi.NoEscape"], unfollowed := true, recurses := true, apart := false }
def CharsFramesSaid : Prop := charsFramesRow.holds Try.pinned (OpenSpec.ofChange charsFramesSpec)

/-- ITS FALSE NEIGHBOUR: 'it returns false'. Refute it at one input. -/
def charsFramesWrong : ChangeSpec := { name := "charsFrames", fn := fun _ => fun
  | [d1, d2, d3] => { results := [.lit (.bool false)], args := [d1, d2, d3] }
  | _ => none }
def CharsFramesWrongFalsely : Prop := charsFramesRow.holds Try.pinned (OpenSpec.ofChange charsFramesWrong)

/-- 'bilgelaw36.TextTells': WHATEVER THE INPUT: true; the input reads as it did. -/
def textTellsSpec : ChangeSpec := { name := "textTells", fn := fun _ => fun
  | [d1, d2, d3] => { results := [.lit (.bool true)], args := [d1, d2, d3] }
  | _ => none }
def textTellsRow : OpenClaim := { program := "ytballgciakljnaa", sum := "9da88ea1894bd02bf34324b4de707c82fb05c2c81635f2a78e8ed86d412de3cc", func := "bilge/bilgelaw36.TextTells", spec := "textTells", inPlace := ["internal/abi.NoEscape", "internal/bytealg.IndexByteString"], unfollowed := true, recurses := true, apart := false }
def TextTellsSaid : Prop := textTellsRow.holds Try.pinned (OpenSpec.ofChange textTellsSpec)

/-- ITS FALSE NEIGHBOUR: 'it returns false'. Refute it at one input. -/
def textTellsWrong : ChangeSpec := { name := "textTells", fn := fun _ => fun
  | [d1, d2, d3] => { results := [.lit (.bool false)], args := [d1, d2, d3] }
  | _ => none }
def TextTellsWrongFalsely : Prop := textTellsRow.holds Try.pinned (OpenSpec.ofChange textTellsWrong)

/-- 'bilgelaw36.TextBack': WHATEVER THE INPUT: true; the input reads as it did. -/
def textBackSpec : ChangeSpec := { name := "textBack", fn := fun _ => fun
  | [d1, d2, d3] => { results := [.lit (.bool true)], args := [d1, d2, d3] }
  | _ => none }
def textBackRow : OpenClaim := { program := "ytballgciakljnaa", sum := "9da88ea1894bd02bf34324b4de707c82fb05c2c81635f2a78e8ed86d412de3cc", func := "bilge/bilgelaw36.TextBack", spec := "textBack", inPlace := ["internal/abi.NoEscape", "internal/bytealg.IndexByteString"], unfollowed := true, recurses := true, apart := false }
def TextBackSaid : Prop := textBackRow.holds Try.pinned (OpenSpec.ofChange textBackSpec)

/-- ITS FALSE NEIGHBOUR: 'it returns false'. Refute it at one input. -/
def textBackWrong : ChangeSpec := { name := "textBack", fn := fun _ => fun
  | [d1, d2, d3] => { results := [.lit (.bool false)], args := [d1, d2, d3] }
  | _ => none }
def TextBackWrongFalsely : Prop := textBackRow.holds Try.pinned (OpenSpec.ofChange textBackWrong)

/-- 'bilgelaw10.FramerDoes': WHATEVER THE INPUT: true; the input reads as it did. -/
def framerDoesSpec : ChangeSpec := { name := "framerDoes", fn := fun _ => fun
  | [d1, d2, d3] => { results := [.lit (.bool true)], args := [d1, d2, d3] }
  | _ => none }
def framerDoesRow : OpenClaim := { program := "ytballgciakljnaa", sum := "9da88ea1894bd02bf34324b4de707c82fb05c2c81635f2a78e8ed86d412de3cc", func := "bilge/bilgelaw10.FramerDoes", spec := "framerDoes", unfollowed := true, recurses := true, apart := false }
def FramerDoesSaid : Prop := framerDoesRow.holds Try.pinned (OpenSpec.ofChange framerDoesSpec)

/-- ITS FALSE NEIGHBOUR: 'it returns false'. Refute it at one input. -/
def framerDoesWrong : ChangeSpec := { name := "framerDoes", fn := fun _ => fun
  | [d1, d2, d3] => { results := [.lit (.bool false)], args := [d1, d2, d3] }
  | _ => none }
def FramerDoesWrongFalsely : Prop := framerDoesRow.holds Try.pinned (OpenSpec.ofChange framerDoesWrong)

/-- 'bilgelaw47.HistoryParts': WHATEVER THE INPUT: true; the input reads as it did. -/
def historyPartsSpec : ChangeSpec := { name := "historyParts", fn := fun _ => fun
  | [d1, d2] => { results := [.lit (.bool true)], args := [d1, d2] }
  | _ => none }
def historyPartsRow : OpenClaim := { program := "ytballgciakljnaa", sum := "9da88ea1894bd02bf34324b4de707c82fb05c2c81635f2a78e8ed86d412de3cc", func := "bilge/bilgelaw47.HistoryParts", spec := "historyParts", unfollowed := true, recurses := true, apart := false }
def HistoryPartsSaid : Prop := historyPartsRow.holds Try.pinned (OpenSpec.ofChange historyPartsSpec)

/-- ITS FALSE NEIGHBOUR: 'it returns false'. Refute it at one input. -/
def historyPartsWrong : ChangeSpec := { name := "historyParts", fn := fun _ => fun
  | [d1, d2] => { results := [.lit (.bool false)], args := [d1, d2] }
  | _ => none }
def HistoryPartsWrongFalsely : Prop := historyPartsRow.holds Try.pinned (OpenSpec.ofChange historyPartsWrong)

/-- 'bilgelaw42.RampTells': WHATEVER THE INPUT: true; the input reads as it did. -/
def rampTellsSpec : ChangeSpec := { name := "rampTells", fn := fun _ => fun
  | [d1, d2, d3] => { results := [.lit (.bool true)], args := [d1, d2, d3] }
  | _ => none }
def rampTellsRow : OpenClaim := { program := "ytballgciakljnaa", sum := "9da88ea1894bd02bf34324b4de707c82fb05c2c81635f2a78e8ed86d412de3cc", func := "bilge/bilgelaw42.RampTells", spec := "rampTells", unfollowed := true, recurses := true, apart := false }
def RampTellsSaid : Prop := rampTellsRow.holds Try.pinned (OpenSpec.ofChange rampTellsSpec)

/-- ITS FALSE NEIGHBOUR: 'it returns false'. Refute it at one input. -/
def rampTellsWrong : ChangeSpec := { name := "rampTells", fn := fun _ => fun
  | [d1, d2, d3] => { results := [.lit (.bool false)], args := [d1, d2, d3] }
  | _ => none }
def RampTellsWrongFalsely : Prop := rampTellsRow.holds Try.pinned (OpenSpec.ofChange rampTellsWrong)

/-- 'bilgelaw42.RampEvents': WHATEVER THE INPUT: true; the input reads as it did. -/
def rampEventsSpec : ChangeSpec := { name := "rampEvents", fn := fun _ => fun
  | [d1, d2] => { results := [.lit (.bool true)], args := [d1, d2] }
  | _ => none }
def rampEventsRow : OpenClaim := { program := "ytballgciakljnaa", sum := "9da88ea1894bd02bf34324b4de707c82fb05c2c81635f2a78e8ed86d412de3cc", func := "bilge/bilgelaw42.RampEvents", spec := "rampEvents", unfollowed := true, recurses := true, apart := false }
def RampEventsSaid : Prop := rampEventsRow.holds Try.pinned (OpenSpec.ofChange rampEventsSpec)

/-- ITS FALSE NEIGHBOUR: 'it returns false'. Refute it at one input. -/
def rampEventsWrong : ChangeSpec := { name := "rampEvents", fn := fun _ => fun
  | [d1, d2] => { results := [.lit (.bool false)], args := [d1, d2] }
  | _ => none }
def RampEventsWrongFalsely : Prop := rampEventsRow.holds Try.pinned (OpenSpec.ofChange rampEventsWrong)

/-- 'bilgelaw42.RampLast': WHATEVER THE INPUT: true; the input reads as it did. -/
def rampLastSpec : ChangeSpec := { name := "rampLast", fn := fun _ => fun
  | [d1, d2, d3] => { results := [.lit (.bool true)], args := [d1, d2, d3] }
  | _ => none }
def rampLastRow : OpenClaim := { program := "ytballgciakljnaa", sum := "9da88ea1894bd02bf34324b4de707c82fb05c2c81635f2a78e8ed86d412de3cc", func := "bilge/bilgelaw42.RampLast", spec := "rampLast", unfollowed := true, recurses := true, apart := false }
def RampLastSaid : Prop := rampLastRow.holds Try.pinned (OpenSpec.ofChange rampLastSpec)

/-- ITS FALSE NEIGHBOUR: 'it returns false'. Refute it at one input. -/
def rampLastWrong : ChangeSpec := { name := "rampLast", fn := fun _ => fun
  | [d1, d2, d3] => { results := [.lit (.bool false)], args := [d1, d2, d3] }
  | _ => none }
def RampLastWrongFalsely : Prop := rampLastRow.holds Try.pinned (OpenSpec.ofChange rampLastWrong)

/-- 'bilgelaw39.GateOnce': WHATEVER THE INPUT: true; the input reads as it did. -/
def gateOnceSpec : ChangeSpec := { name := "gateOnce", fn := fun _ => fun
  | [d1, d2] => { results := [.lit (.bool true)], args := [d1, d2] }
  | _ => none }
def gateOnceRow : OpenClaim := { program := "ytballgciakljnaa", sum := "9da88ea1894bd02bf34324b4de707c82fb05c2c81635f2a78e8ed86d412de3cc", func := "bilge/bilgelaw39.GateOnce", spec := "gateOnce", unfollowed := true, recurses := true, apart := false }
def GateOnceSaid : Prop := gateOnceRow.holds Try.pinned (OpenSpec.ofChange gateOnceSpec)

/-- ITS FALSE NEIGHBOUR: 'it returns false'. Refute it at one input. -/
def gateOnceWrong : ChangeSpec := { name := "gateOnce", fn := fun _ => fun
  | [d1, d2] => { results := [.lit (.bool false)], args := [d1, d2] }
  | _ => none }
def GateOnceWrongFalsely : Prop := gateOnceRow.holds Try.pinned (OpenSpec.ofChange gateOnceWrong)

/-- 'bilgelaw09.SplitFaults': WHATEVER THE INPUT: true; the input reads as it did. -/
def splitFaultsSpec : ChangeSpec := { name := "splitFaults", fn := fun _ => fun
  | [d1, d2] => { results := [.lit (.bool true)], args := [d1, d2] }
  | _ => none }
def splitFaultsRow : OpenClaim := { program := "ytballgciakljnaa", sum := "9da88ea1894bd02bf34324b4de707c82fb05c2c81635f2a78e8ed86d412de3cc", func := "bilge/bilgelaw09.SplitFaults", spec := "splitFaults", unfollowed := true, recurses := true, apart := false }
def SplitFaultsSaid : Prop := splitFaultsRow.holds Try.pinned (OpenSpec.ofChange splitFaultsSpec)

/-- ITS FALSE NEIGHBOUR: 'it returns false'. Refute it at one input. -/
def splitFaultsWrong : ChangeSpec := { name := "splitFaults", fn := fun _ => fun
  | [d1, d2] => { results := [.lit (.bool false)], args := [d1, d2] }
  | _ => none }
def SplitFaultsWrongFalsely : Prop := splitFaultsRow.holds Try.pinned (OpenSpec.ofChange splitFaultsWrong)

/-- 'bilgelaw09.SplitWhole': WHATEVER THE INPUT: true; the input reads as it did. -/
def splitWholeSpec : ChangeSpec := { name := "splitWhole", fn := fun _ => fun
  | [d1, d2, d3] => { results := [.lit (.bool true)], args := [d1, d2, d3] }
  | _ => none }
def splitWholeRow : OpenClaim := { program := "ytballgciakljnaa", sum := "9da88ea1894bd02bf34324b4de707c82fb05c2c81635f2a78e8ed86d412de3cc", func := "bilge/bilgelaw09.SplitWhole", spec := "splitWhole", unfollowed := true, recurses := true, apart := false }
def SplitWholeSaid : Prop := splitWholeRow.holds Try.pinned (OpenSpec.ofChange splitWholeSpec)

/-- ITS FALSE NEIGHBOUR: 'it returns false'. Refute it at one input. -/
def splitWholeWrong : ChangeSpec := { name := "splitWhole", fn := fun _ => fun
  | [d1, d2, d3] => { results := [.lit (.bool false)], args := [d1, d2, d3] }
  | _ => none }
def SplitWholeWrongFalsely : Prop := splitWholeRow.holds Try.pinned (OpenSpec.ofChange splitWholeWrong)

/-- 'bilgelaw43.LoadTells': WHATEVER THE INPUT: true; the input reads as it did. -/
def loadTellsSpec : ChangeSpec := { name := "loadTells", fn := fun _ => fun
  | [d1, d2, d3] => { results := [.lit (.bool true)], args := [d1, d2, d3] }
  | _ => none }
def loadTellsRow : OpenClaim := { program := "ytballgciakljnaa", sum := "9da88ea1894bd02bf34324b4de707c82fb05c2c81635f2a78e8ed86d412de3cc", func := "bilge/bilgelaw43.LoadTells", spec := "loadTells", unfollowed := true, recurses := true, apart := false }
def LoadTellsSaid : Prop := loadTellsRow.holds Try.pinned (OpenSpec.ofChange loadTellsSpec)

/-- ITS FALSE NEIGHBOUR: 'it returns false'. Refute it at one input. -/
def loadTellsWrong : ChangeSpec := { name := "loadTells", fn := fun _ => fun
  | [d1, d2, d3] => { results := [.lit (.bool false)], args := [d1, d2, d3] }
  | _ => none }
def LoadTellsWrongFalsely : Prop := loadTellsRow.holds Try.pinned (OpenSpec.ofChange loadTellsWrong)

/- THE SECOND FORM. 'bulk': how many values and letters a reading holds, each counted each time it is reached (what is shared counts as often as it is met; a slice's spare places count too). A statement '..UptoSaid' is the law's where the arguments, and the package variables that the reading takes, are together of bulk at most 1048576: NARROWER than '..Said'. Prove '..Said' where nothing that the law and all that it calls make is longer than what came in: it says more and counts as full. Else prove '..UptoSaid'. A law counts once. -/
mutual
def uptoBulk {H : Type} : DataW H → Nat
  | .lit (.string bytes) => bytes.length + 1
  | .lit _ => 1
  | .nil => 1
  | .ptr d => uptoBulk d + 1
  | .slice elems spare => uptoBulkAll elems + uptoBulkAll spare + 1
  | .agg parts => uptoBulkAll parts + 1
  | .iface _ d => uptoBulk d + 1
  | .map entries => uptoBulkEntries entries + 1
  | .held _ => 1
def uptoBulkAll {H : Type} : List (DataW H) → Nat
  | [] => 0
  | d :: r => uptoBulk d + uptoBulkAll r
def uptoBulkEntries {H : Type} : List (Lit × DataW H) → Nat
  | [] => 0
  | x :: r => uptoBulkEntry x + uptoBulkEntries r
def uptoBulkEntry {H : Type} : Lit × DataW H → Nat
  | (.string bytes, d) => bytes.length + uptoBulk d + 1
  | (_, d) => uptoBulk d + 1
 end
def uptoSmall : (H : Type) → List (DataW H) → Bool := fun _ ds => decide (uptoBulkAll ds ≤ 1048576)
def OpenSpec.upto (s : _root_.Go.ChangeSpec) : _root_.Go.OpenSpec := { _root_.Go.OpenSpec.ofChange s with cond := some uptoSmall }

/-- 'bilgelaw37.CharsFrames', WHERE WHAT IT READS IS OF BULK AT MOST 1048576: true; the input reads as it did. -/
def charsFramesUptoRow : OpenClaim := { program := "ytballgciakljnaa", sum := "9da88ea1894bd02bf34324b4de707c82fb05c2c81635f2a78e8ed86d412de3cc", func := "bilge/bilgelaw37.CharsFrames", spec := "charsFrames", inPlace := ["internal/abi.NoEscape"], unfollowed := true, recurses := true, apart := false, narrowed := true }
def CharsFramesUptoSaid : Prop := charsFramesUptoRow.holds Try.pinned (OpenSpec.upto charsFramesSpec)

/-- 'bilgelaw36.TextTells', WHERE WHAT IT READS IS OF BULK AT MOST 1048576: true; the input reads as it did. -/
def textTellsUptoRow : OpenClaim := { program := "ytballgciakljnaa", sum := "9da88ea1894bd02bf34324b4de707c82fb05c2c81635f2a78e8ed86d412de3cc", func := "bilge/bilgelaw36.TextTells", spec := "textTells", inPlace := ["internal/abi.NoEscape", "internal/bytealg.IndexByteString"], unfollowed := true, recurses := true, apart := false, narrowed := true }
def TextTellsUptoSaid : Prop := textTellsUptoRow.holds Try.pinned (OpenSpec.upto textTellsSpec)

/-- 'bilgelaw36.TextBack', WHERE WHAT IT READS IS OF BULK AT MOST 1048576: true; the input reads as it did. -/
def textBackUptoRow : OpenClaim := { program := "ytballgciakljnaa", sum := "9da88ea1894bd02bf34324b4de707c82fb05c2c81635f2a78e8ed86d412de3cc", func := "bilge/bilgelaw36.TextBack", spec := "textBack", inPlace := ["internal/abi.NoEscape", "internal/bytealg.IndexByteString"], unfollowed := true, recurses := true, apart := false, narrowed := true }
def TextBackUptoSaid : Prop := textBackUptoRow.holds Try.pinned (OpenSpec.upto textBackSpec)

/-- 'bilgelaw10.FramerDoes', WHERE WHAT IT READS IS OF BULK AT MOST 1048576: true; the input reads as it did. -/
def framerDoesUptoRow : OpenClaim := { program := "ytballgciakljnaa", sum := "9da88ea1894bd02bf34324b4de707c82fb05c2c81635f2a78e8ed86d412de3cc", func := "bilge/bilgelaw10.FramerDoes", spec := "framerDoes", unfollowed := true, recurses := true, apart := false, narrowed := true }
def FramerDoesUptoSaid : Prop := framerDoesUptoRow.holds Try.pinned (OpenSpec.upto framerDoesSpec)

/-- 'bilgelaw47.HistoryParts', WHERE WHAT IT READS IS OF BULK AT MOST 1048576: true; the input reads as it did. -/
def historyPartsUptoRow : OpenClaim := { program := "ytballgciakljnaa", sum := "9da88ea1894bd02bf34324b4de707c82fb05c2c81635f2a78e8ed86d412de3cc", func := "bilge/bilgelaw47.HistoryParts", spec := "historyParts", unfollowed := true, recurses := true, apart := false, narrowed := true }
def HistoryPartsUptoSaid : Prop := historyPartsUptoRow.holds Try.pinned (OpenSpec.upto historyPartsSpec)

/-- 'bilgelaw42.RampTells', WHERE WHAT IT READS IS OF BULK AT MOST 1048576: true; the input reads as it did. -/
def rampTellsUptoRow : OpenClaim := { program := "ytballgciakljnaa", sum := "9da88ea1894bd02bf34324b4de707c82fb05c2c81635f2a78e8ed86d412de3cc", func := "bilge/bilgelaw42.RampTells", spec := "rampTells", unfollowed := true, recurses := true, apart := false, narrowed := true }
def RampTellsUptoSaid : Prop := rampTellsUptoRow.holds Try.pinned (OpenSpec.upto rampTellsSpec)

/-- 'bilgelaw42.RampEvents', WHERE WHAT IT READS IS OF BULK AT MOST 1048576: true; the input reads as it did. -/
def rampEventsUptoRow : OpenClaim := { program := "ytballgciakljnaa", sum := "9da88ea1894bd02bf34324b4de707c82fb05c2c81635f2a78e8ed86d412de3cc", func := "bilge/bilgelaw42.RampEvents", spec := "rampEvents", unfollowed := true, recurses := true, apart := false, narrowed := true }
def RampEventsUptoSaid : Prop := rampEventsUptoRow.holds Try.pinned (OpenSpec.upto rampEventsSpec)

/-- 'bilgelaw42.RampLast', WHERE WHAT IT READS IS OF BULK AT MOST 1048576: true; the input reads as it did. -/
def rampLastUptoRow : OpenClaim := { program := "ytballgciakljnaa", sum := "9da88ea1894bd02bf34324b4de707c82fb05c2c81635f2a78e8ed86d412de3cc", func := "bilge/bilgelaw42.RampLast", spec := "rampLast", unfollowed := true, recurses := true, apart := false, narrowed := true }
def RampLastUptoSaid : Prop := rampLastUptoRow.holds Try.pinned (OpenSpec.upto rampLastSpec)

/-- 'bilgelaw39.GateOnce', WHERE WHAT IT READS IS OF BULK AT MOST 1048576: true; the input reads as it did. -/
def gateOnceUptoRow : OpenClaim := { program := "ytballgciakljnaa", sum := "9da88ea1894bd02bf34324b4de707c82fb05c2c81635f2a78e8ed86d412de3cc", func := "bilge/bilgelaw39.GateOnce", spec := "gateOnce", unfollowed := true, recurses := true, apart := false, narrowed := true }
def GateOnceUptoSaid : Prop := gateOnceUptoRow.holds Try.pinned (OpenSpec.upto gateOnceSpec)

/-- 'bilgelaw09.SplitFaults', WHERE WHAT IT READS IS OF BULK AT MOST 1048576: true; the input reads as it did. -/
def splitFaultsUptoRow : OpenClaim := { program := "ytballgciakljnaa", sum := "9da88ea1894bd02bf34324b4de707c82fb05c2c81635f2a78e8ed86d412de3cc", func := "bilge/bilgelaw09.SplitFaults", spec := "splitFaults", unfollowed := true, recurses := true, apart := false, narrowed := true }
def SplitFaultsUptoSaid : Prop := splitFaultsUptoRow.holds Try.pinned (OpenSpec.upto splitFaultsSpec)

/-- 'bilgelaw09.SplitWhole', WHERE WHAT IT READS IS OF BULK AT MOST 1048576: true; the input reads as it did. -/
def splitWholeUptoRow : OpenClaim := { program := "ytballgciakljnaa", sum := "9da88ea1894bd02bf34324b4de707c82fb05c2c81635f2a78e8ed86d412de3cc", func := "bilge/bilgelaw09.SplitWhole", spec := "splitWhole", unfollowed := true, recurses := true, apart := false, narrowed := true }
def SplitWholeUptoSaid : Prop := splitWholeUptoRow.holds Try.pinned (OpenSpec.upto splitWholeSpec)

/-- 'bilgelaw43.LoadTells', WHERE WHAT IT READS IS OF BULK AT MOST 1048576: true; the input reads as it did. -/
def loadTellsUptoRow : OpenClaim := { program := "ytballgciakljnaa", sum := "9da88ea1894bd02bf34324b4de707c82fb05c2c81635f2a78e8ed86d412de3cc", func := "bilge/bilgelaw43.LoadTells", spec := "loadTells", unfollowed := true, recurses := true, apart := false, narrowed := true }
def LoadTellsUptoSaid : Prop := loadTellsUptoRow.holds Try.pinned (OpenSpec.upto loadTellsSpec)

end Rows
end Go.Proofs.Ytballgciakljnaa

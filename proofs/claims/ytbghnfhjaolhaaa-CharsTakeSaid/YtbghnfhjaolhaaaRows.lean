/-
  No cell of these rows narrows 'for every input' (looked for: loops, veiled, ifaces, maps, wideKeys, modest, calm, conditions, laid).
  DERIVED. THE GIVEN ROWS OF THIS SEAT. 12 by the template 'for every input the law returns true; each argument reads behind the call as it read before'; 0 by the template 'total and deterministic' (their statements: YtbghnfhjaolhaaaTotals.lean).
  GIVEN WITH THE SEED: the statements are not yours to turn. If you find one false, say at which input.
  Laid BY PROGRAM, IN A SANDBOX (cutbox-rows.mjs): the forced cells as the released guide's own fill.sh prints them over the translation 11571394ca9e47a0… (all of the seat's roots in one cut). By AI agents, Wed Nov 11 2026. No macro, syntax, notation, axiom, sorry.
-/
import Derived.Test.YtbghnfhjaolhaaaChecked
import GoSem.Claim
import GoSem.ClaimJoined
import GoSem.ClaimMapViews
import Derived.JoinedTies
import Derived.KernelRfl
namespace Go.Proofs.Ytbghnfhjaolhaaa
/- THE CELL 'sum', in the pinned program and in every row, IS THE sha256 OF THE DUMP (.gsa) THAT YtbghnfhjaolhaaaProg.lean LOADS. Nothing in Lean hashes anything: it is a label: what it is worth is what the hold of that sum in a sandbox is worth. -/
noncomputable def Try.pinned : Pinned := { name := "ytbghnfhjaolhaaa", sum := "11571394ca9e47a05c6edac02a8453a45631a493fdd3217b551f6a27fc3fe040", checked := Try.checked }
namespace Rows
def none {H : Type} : Left H := { results := [], args := [] }

/-- 'bilgelaw04.CrcOdd': WHATEVER THE INPUT: true; the input reads as it did. -/
def crcOddSpec : ChangeSpec := { name := "crcOdd", fn := fun _ => fun
  | [d1, d2] => { results := [.lit (.bool true)], args := [d1, d2] }
  | _ => none }
def crcOddRow : OpenClaim := { program := "ytbghnfhjaolhaaa", sum := "11571394ca9e47a05c6edac02a8453a45631a493fdd3217b551f6a27fc3fe040", func := "bilge/bilgelaw04.CrcOdd", spec := "crcOdd", unfollowed := true, recurses := true, apart := false }
def CrcOddSaid : Prop := crcOddRow.holds Try.pinned (OpenSpec.ofChange crcOddSpec)

/-- ITS FALSE NEIGHBOUR: 'it returns false'. Refute it at one input. -/
def crcOddWrong : ChangeSpec := { name := "crcOdd", fn := fun _ => fun
  | [d1, d2] => { results := [.lit (.bool false)], args := [d1, d2] }
  | _ => none }
def CrcOddWrongFalsely : Prop := crcOddRow.holds Try.pinned (OpenSpec.ofChange crcOddWrong)

/-- 'bilgelaw04.CrcBursts': WHATEVER THE INPUT: true; the input reads as it did. -/
def crcBurstsSpec : ChangeSpec := { name := "crcBursts", fn := fun _ => fun
  | [d1, d2, d3] => { results := [.lit (.bool true)], args := [d1, d2, d3] }
  | _ => none }
def crcBurstsRow : OpenClaim := { program := "ytbghnfhjaolhaaa", sum := "11571394ca9e47a05c6edac02a8453a45631a493fdd3217b551f6a27fc3fe040", func := "bilge/bilgelaw04.CrcBursts", spec := "crcBursts", unfollowed := true, recurses := true, apart := false }
def CrcBurstsSaid : Prop := crcBurstsRow.holds Try.pinned (OpenSpec.ofChange crcBurstsSpec)

/-- ITS FALSE NEIGHBOUR: 'it returns false'. Refute it at one input. -/
def crcBurstsWrong : ChangeSpec := { name := "crcBursts", fn := fun _ => fun
  | [d1, d2, d3] => { results := [.lit (.bool false)], args := [d1, d2, d3] }
  | _ => none }
def CrcBurstsWrongFalsely : Prop := crcBurstsRow.holds Try.pinned (OpenSpec.ofChange crcBurstsWrong)

/-- 'bilgelaw04.CrcJoins': WHATEVER THE INPUT: true; the input reads as it did. -/
def crcJoinsSpec : ChangeSpec := { name := "crcJoins", fn := fun _ => fun
  | [d1, d2, d3] => { results := [.lit (.bool true)], args := [d1, d2, d3] }
  | _ => none }
def crcJoinsRow : OpenClaim := { program := "ytbghnfhjaolhaaa", sum := "11571394ca9e47a05c6edac02a8453a45631a493fdd3217b551f6a27fc3fe040", func := "bilge/bilgelaw04.CrcJoins", spec := "crcJoins", unfollowed := true, recurses := true, apart := false }
def CrcJoinsSaid : Prop := crcJoinsRow.holds Try.pinned (OpenSpec.ofChange crcJoinsSpec)

/-- ITS FALSE NEIGHBOUR: 'it returns false'. Refute it at one input. -/
def crcJoinsWrong : ChangeSpec := { name := "crcJoins", fn := fun _ => fun
  | [d1, d2, d3] => { results := [.lit (.bool false)], args := [d1, d2, d3] }
  | _ => none }
def CrcJoinsWrongFalsely : Prop := crcJoinsRow.holds Try.pinned (OpenSpec.ofChange crcJoinsWrong)

/-- 'bilgelaw04.CrcBack': WHATEVER THE INPUT: true; the input reads as it did. -/
def crcBackSpec : ChangeSpec := { name := "crcBack", fn := fun _ => fun
  | [d] => { results := [.lit (.bool true)], args := [d] }
  | _ => none }
def crcBackRow : OpenClaim := { program := "ytbghnfhjaolhaaa", sum := "11571394ca9e47a05c6edac02a8453a45631a493fdd3217b551f6a27fc3fe040", func := "bilge/bilgelaw04.CrcBack", spec := "crcBack", unfollowed := true, recurses := true, apart := false }
def CrcBackSaid : Prop := crcBackRow.holds Try.pinned (OpenSpec.ofChange crcBackSpec)

/-- ITS FALSE NEIGHBOUR: 'it returns false'. Refute it at one input. -/
def crcBackWrong : ChangeSpec := { name := "crcBack", fn := fun _ => fun
  | [d] => { results := [.lit (.bool false)], args := [d] }
  | _ => none }
def CrcBackWrongFalsely : Prop := crcBackRow.holds Try.pinned (OpenSpec.ofChange crcBackWrong)

/-- 'bilgelaw28.WireLays': WHATEVER THE INPUT: true; the input reads as it did. -/
def wireLaysSpec : ChangeSpec := { name := "wireLays", fn := fun _ => fun
  | [d1, d2, d3] => { results := [.lit (.bool true)], args := [d1, d2, d3] }
  | _ => none }
def wireLaysRow : OpenClaim := { program := "ytbghnfhjaolhaaa", sum := "11571394ca9e47a05c6edac02a8453a45631a493fdd3217b551f6a27fc3fe040", func := "bilge/bilgelaw28.WireLays", spec := "wireLays", unfollowed := true, recurses := true, apart := false }
def WireLaysSaid : Prop := wireLaysRow.holds Try.pinned (OpenSpec.ofChange wireLaysSpec)

/-- ITS FALSE NEIGHBOUR: 'it returns false'. Refute it at one input. -/
def wireLaysWrong : ChangeSpec := { name := "wireLays", fn := fun _ => fun
  | [d1, d2, d3] => { results := [.lit (.bool false)], args := [d1, d2, d3] }
  | _ => none }
def WireLaysWrongFalsely : Prop := wireLaysRow.holds Try.pinned (OpenSpec.ofChange wireLaysWrong)

/-- 'bilgelaw46.AlarmHolds': WHATEVER THE INPUT: true; the input reads as it did. -/
def alarmHoldsSpec : ChangeSpec := { name := "alarmHolds", fn := fun _ => fun
  | [d1, d2] => { results := [.lit (.bool true)], args := [d1, d2] }
  | _ => none }
def alarmHoldsRow : OpenClaim := { program := "ytbghnfhjaolhaaa", sum := "11571394ca9e47a05c6edac02a8453a45631a493fdd3217b551f6a27fc3fe040", func := "bilge/bilgelaw46.AlarmHolds", spec := "alarmHolds", unfollowed := true, recurses := true, apart := false }
def AlarmHoldsSaid : Prop := alarmHoldsRow.holds Try.pinned (OpenSpec.ofChange alarmHoldsSpec)

/-- ITS FALSE NEIGHBOUR: 'it returns false'. Refute it at one input. -/
def alarmHoldsWrong : ChangeSpec := { name := "alarmHolds", fn := fun _ => fun
  | [d1, d2] => { results := [.lit (.bool false)], args := [d1, d2] }
  | _ => none }
def AlarmHoldsWrongFalsely : Prop := alarmHoldsRow.holds Try.pinned (OpenSpec.ofChange alarmHoldsWrong)

/-- 'bilgelaw46.AlarmSteps': WHATEVER THE INPUT: true; the input reads as it did. -/
def alarmStepsSpec : ChangeSpec := { name := "alarmSteps", fn := fun _ => fun
  | [d1, d2] => { results := [.lit (.bool true)], args := [d1, d2] }
  | _ => none }
def alarmStepsRow : OpenClaim := { program := "ytbghnfhjaolhaaa", sum := "11571394ca9e47a05c6edac02a8453a45631a493fdd3217b551f6a27fc3fe040", func := "bilge/bilgelaw46.AlarmSteps", spec := "alarmSteps", unfollowed := true, recurses := true, apart := false }
def AlarmStepsSaid : Prop := alarmStepsRow.holds Try.pinned (OpenSpec.ofChange alarmStepsSpec)

/-- ITS FALSE NEIGHBOUR: 'it returns false'. Refute it at one input. -/
def alarmStepsWrong : ChangeSpec := { name := "alarmSteps", fn := fun _ => fun
  | [d1, d2] => { results := [.lit (.bool false)], args := [d1, d2] }
  | _ => none }
def AlarmStepsWrongFalsely : Prop := alarmStepsRow.holds Try.pinned (OpenSpec.ofChange alarmStepsWrong)

/-- 'bilgelaw11.AduTells': WHATEVER THE INPUT: true; the input reads as it did. -/
def aduTellsSpec : ChangeSpec := { name := "aduTells", fn := fun _ => fun
  | [d1, d2, d3] => { results := [.lit (.bool true)], args := [d1, d2, d3] }
  | _ => none }
def aduTellsRow : OpenClaim := { program := "ytbghnfhjaolhaaa", sum := "11571394ca9e47a05c6edac02a8453a45631a493fdd3217b551f6a27fc3fe040", func := "bilge/bilgelaw11.AduTells", spec := "aduTells", unfollowed := true, recurses := true, apart := false }
def AduTellsSaid : Prop := aduTellsRow.holds Try.pinned (OpenSpec.ofChange aduTellsSpec)

/-- ITS FALSE NEIGHBOUR: 'it returns false'. Refute it at one input. -/
def aduTellsWrong : ChangeSpec := { name := "aduTells", fn := fun _ => fun
  | [d1, d2, d3] => { results := [.lit (.bool false)], args := [d1, d2, d3] }
  | _ => none }
def AduTellsWrongFalsely : Prop := aduTellsRow.holds Try.pinned (OpenSpec.ofChange aduTellsWrong)

/-- 'bilgelaw11.AduBack': WHATEVER THE INPUT: true; the input reads as it did. -/
def aduBackSpec : ChangeSpec := { name := "aduBack", fn := fun _ => fun
  | [d1, d2, d3] => { results := [.lit (.bool true)], args := [d1, d2, d3] }
  | _ => none }
def aduBackRow : OpenClaim := { program := "ytbghnfhjaolhaaa", sum := "11571394ca9e47a05c6edac02a8453a45631a493fdd3217b551f6a27fc3fe040", func := "bilge/bilgelaw11.AduBack", spec := "aduBack", unfollowed := true, recurses := true, apart := false }
def AduBackSaid : Prop := aduBackRow.holds Try.pinned (OpenSpec.ofChange aduBackSpec)

/-- ITS FALSE NEIGHBOUR: 'it returns false'. Refute it at one input. -/
def aduBackWrong : ChangeSpec := { name := "aduBack", fn := fun _ => fun
  | [d1, d2, d3] => { results := [.lit (.bool false)], args := [d1, d2, d3] }
  | _ => none }
def AduBackWrongFalsely : Prop := aduBackRow.holds Try.pinned (OpenSpec.ofChange aduBackWrong)

/-- 'bilgelaw11.AduHurt': WHATEVER THE INPUT: true; the input reads as it did. -/
def aduHurtSpec : ChangeSpec := { name := "aduHurt", fn := fun _ => fun
  | [d1, d2, d3] => { results := [.lit (.bool true)], args := [d1, d2, d3] }
  | _ => none }
def aduHurtRow : OpenClaim := { program := "ytbghnfhjaolhaaa", sum := "11571394ca9e47a05c6edac02a8453a45631a493fdd3217b551f6a27fc3fe040", func := "bilge/bilgelaw11.AduHurt", spec := "aduHurt", unfollowed := true, recurses := true, apart := false }
def AduHurtSaid : Prop := aduHurtRow.holds Try.pinned (OpenSpec.ofChange aduHurtSpec)

/-- ITS FALSE NEIGHBOUR: 'it returns false'. Refute it at one input. -/
def aduHurtWrong : ChangeSpec := { name := "aduHurt", fn := fun _ => fun
  | [d1, d2, d3] => { results := [.lit (.bool false)], args := [d1, d2, d3] }
  | _ => none }
def AduHurtWrongFalsely : Prop := aduHurtRow.holds Try.pinned (OpenSpec.ofChange aduHurtWrong)

/-- 'bilgelaw37.CharsTake': WHATEVER THE INPUT: true; the input reads as it did. -/
def charsTakeSpec : ChangeSpec := { name := "charsTake", fn := fun _ => fun
  | [d1, d2, d3] => { results := [.lit (.bool true)], args := [d1, d2, d3] }
  | _ => none }
def charsTakeRow : OpenClaim := { program := "ytbghnfhjaolhaaa", sum := "11571394ca9e47a05c6edac02a8453a45631a493fdd3217b551f6a27fc3fe040", func := "bilge/bilgelaw37.CharsTake", spec := "charsTake", unfollowed := true, recurses := true, apart := false }
def CharsTakeSaid : Prop := charsTakeRow.holds Try.pinned (OpenSpec.ofChange charsTakeSpec)

/-- ITS FALSE NEIGHBOUR: 'it returns false'. Refute it at one input. -/
def charsTakeWrong : ChangeSpec := { name := "charsTake", fn := fun _ => fun
  | [d1, d2, d3] => { results := [.lit (.bool false)], args := [d1, d2, d3] }
  | _ => none }
def CharsTakeWrongFalsely : Prop := charsTakeRow.holds Try.pinned (OpenSpec.ofChange charsTakeWrong)

/-- 'bilgelaw37.CharsFrames': WHATEVER THE INPUT: true; the input reads as it did. -/
def charsFramesSpec : ChangeSpec := { name := "charsFrames", fn := fun _ => fun
  | [d1, d2, d3] => { results := [.lit (.bool true)], args := [d1, d2, d3] }
  | _ => none }
def charsFramesRow : OpenClaim := { program := "ytbghnfhjaolhaaa", sum := "11571394ca9e47a05c6edac02a8453a45631a493fdd3217b551f6a27fc3fe040", func := "bilge/bilgelaw37.CharsFrames", spec := "charsFrames", inPlace := ["internal/abi.NoEscape"], unfollowed := true, recurses := true, apart := false }
def CharsFramesSaid : Prop := charsFramesRow.holds Try.pinned (OpenSpec.ofChange charsFramesSpec)

/-- ITS FALSE NEIGHBOUR: 'it returns false'. Refute it at one input. -/
def charsFramesWrong : ChangeSpec := { name := "charsFrames", fn := fun _ => fun
  | [d1, d2, d3] => { results := [.lit (.bool false)], args := [d1, d2, d3] }
  | _ => none }
def CharsFramesWrongFalsely : Prop := charsFramesRow.holds Try.pinned (OpenSpec.ofChange charsFramesWrong)

/- THE SECOND FORM. 'bulk': how many values and letters a reading holds, each counted each time it is reached (what is shared counts as often as it is met; a slice's spare places count too). A statement '..UptoSaid' is the law's where the arguments, and the package variables that the reading takes, are together of bulk at most 1048576: NARROWER than '..Said'. Prove '..Said' where nothing that the law and all that it calls make is longer than what came in: it says more and counts as full. Else prove '..UptoSaid'. A law counts once. -/
mutual
def uptoBulk {H : Type} : DataW H → Nat
  | .lit (.string bytes) => bytes.length + 1
  | .lit _ => 1
  | .nil => 1
  | .ptr d => uptoBulk d + 1
  | .slice elems spare => uptoBulkAll elems + uptoBulkAll spare + 1
  | .agg parts => uptoBulkAll parts + 1
  | .iface _ d => uptoBulk d + 1
  | .map entries => uptoBulkEntries entries + 1
  | .held _ => 1
def uptoBulkAll {H : Type} : List (DataW H) → Nat
  | [] => 0
  | d :: r => uptoBulk d + uptoBulkAll r
def uptoBulkEntries {H : Type} : List (Lit × DataW H) → Nat
  | [] => 0
  | x :: r => uptoBulkEntry x + uptoBulkEntries r
def uptoBulkEntry {H : Type} : Lit × DataW H → Nat
  | (.string bytes, d) => bytes.length + uptoBulk d + 1
  | (_, d) => uptoBulk d + 1
 end
def uptoSmall : (H : Type) → List (DataW H) → Bool := fun _ ds => decide (uptoBulkAll ds ≤ 1048576)
def OpenSpec.upto (s : _root_.Go.ChangeSpec) : _root_.Go.OpenSpec := { _root_.Go.OpenSpec.ofChange s with cond := some uptoSmall }

/-- 'bilgelaw04.CrcOdd', WHERE WHAT IT READS IS OF BULK AT MOST 1048576: true; the input reads as it did. -/
def crcOddUptoRow : OpenClaim := { program := "ytbghnfhjaolhaaa", sum := "11571394ca9e47a05c6edac02a8453a45631a493fdd3217b551f6a27fc3fe040", func := "bilge/bilgelaw04.CrcOdd", spec := "crcOdd", unfollowed := true, recurses := true, apart := false, narrowed := true }
def CrcOddUptoSaid : Prop := crcOddUptoRow.holds Try.pinned (OpenSpec.upto crcOddSpec)

/-- 'bilgelaw04.CrcBursts', WHERE WHAT IT READS IS OF BULK AT MOST 1048576: true; the input reads as it did. -/
def crcBurstsUptoRow : OpenClaim := { program := "ytbghnfhjaolhaaa", sum := "11571394ca9e47a05c6edac02a8453a45631a493fdd3217b551f6a27fc3fe040", func := "bilge/bilgelaw04.CrcBursts", spec := "crcBursts", unfollowed := true, recurses := true, apart := false, narrowed := true }
def CrcBurstsUptoSaid : Prop := crcBurstsUptoRow.holds Try.pinned (OpenSpec.upto crcBurstsSpec)

/-- 'bilgelaw04.CrcJoins', WHERE WHAT IT READS IS OF BULK AT MOST 1048576: true; the input reads as it did. -/
def crcJoinsUptoRow : OpenClaim := { program := "ytbghnfhjaolhaaa", sum := "11571394ca9e47a05c6edac02a8453a45631a493fdd3217b551f6a27fc3fe040", func := "bilge/bilgelaw04.CrcJoins", spec := "crcJoins", unfollowed := true, recurses := true, apart := false, narrowed := true }
def CrcJoinsUptoSaid : Prop := crcJoinsUptoRow.holds Try.pinned (OpenSpec.upto crcJoinsSpec)

/-- 'bilgelaw04.CrcBack', WHERE WHAT IT READS IS OF BULK AT MOST 1048576: true; the input reads as it did. -/
def crcBackUptoRow : OpenClaim := { program := "ytbghnfhjaolhaaa", sum := "11571394ca9e47a05c6edac02a8453a45631a493fdd3217b551f6a27fc3fe040", func := "bilge/bilgelaw04.CrcBack", spec := "crcBack", unfollowed := true, recurses := true, apart := false, narrowed := true }
def CrcBackUptoSaid : Prop := crcBackUptoRow.holds Try.pinned (OpenSpec.upto crcBackSpec)

/-- 'bilgelaw28.WireLays', WHERE WHAT IT READS IS OF BULK AT MOST 1048576: true; the input reads as it did. -/
def wireLaysUptoRow : OpenClaim := { program := "ytbghnfhjaolhaaa", sum := "11571394ca9e47a05c6edac02a8453a45631a493fdd3217b551f6a27fc3fe040", func := "bilge/bilgelaw28.WireLays", spec := "wireLays", unfollowed := true, recurses := true, apart := false, narrowed := true }
def WireLaysUptoSaid : Prop := wireLaysUptoRow.holds Try.pinned (OpenSpec.upto wireLaysSpec)

/-- 'bilgelaw46.AlarmHolds', WHERE WHAT IT READS IS OF BULK AT MOST 1048576: true; the input reads as it did. -/
def alarmHoldsUptoRow : OpenClaim := { program := "ytbghnfhjaolhaaa", sum := "11571394ca9e47a05c6edac02a8453a45631a493fdd3217b551f6a27fc3fe040", func := "bilge/bilgelaw46.AlarmHolds", spec := "alarmHolds", unfollowed := true, recurses := true, apart := false, narrowed := true }
def AlarmHoldsUptoSaid : Prop := alarmHoldsUptoRow.holds Try.pinned (OpenSpec.upto alarmHoldsSpec)

/-- 'bilgelaw46.AlarmSteps', WHERE WHAT IT READS IS OF BULK AT MOST 1048576: true; the input reads as it did. -/
def alarmStepsUptoRow : OpenClaim := { program := "ytbghnfhjaolhaaa", sum := "11571394ca9e47a05c6edac02a8453a45631a493fdd3217b551f6a27fc3fe040", func := "bilge/bilgelaw46.AlarmSteps", spec := "alarmSteps", unfollowed := true, recurses := true, apart := false, narrowed := true }
def AlarmStepsUptoSaid : Prop := alarmStepsUptoRow.holds Try.pinned (OpenSpec.upto alarmStepsSpec)

/-- 'bilgelaw11.AduTells', WHERE WHAT IT READS IS OF BULK AT MOST 1048576: true; the input reads as it did. -/
def aduTellsUptoRow : OpenClaim := { program := "ytbghnfhjaolhaaa", sum := "11571394ca9e47a05c6edac02a8453a45631a493fdd3217b551f6a27fc3fe040", func := "bilge/bilgelaw11.AduTells", spec := "aduTells", unfollowed := true, recurses := true, apart := false, narrowed := true }
def AduTellsUptoSaid : Prop := aduTellsUptoRow.holds Try.pinned (OpenSpec.upto aduTellsSpec)

/-- 'bilgelaw11.AduBack', WHERE WHAT IT READS IS OF BULK AT MOST 1048576: true; the input reads as it did. -/
def aduBackUptoRow : OpenClaim := { program := "ytbghnfhjaolhaaa", sum := "11571394ca9e47a05c6edac02a8453a45631a493fdd3217b551f6a27fc3fe040", func := "bilge/bilgelaw11.AduBack", spec := "aduBack", unfollowed := true, recurses := true, apart := false, narrowed := true }
def AduBackUptoSaid : Prop := aduBackUptoRow.holds Try.pinned (OpenSpec.upto aduBackSpec)

/-- 'bilgelaw11.AduHurt', WHERE WHAT IT READS IS OF BULK AT MOST 1048576: true; the input reads as it did. -/
def aduHurtUptoRow : OpenClaim := { program := "ytbghnfhjaolhaaa", sum := "11571394ca9e47a05c6edac02a8453a45631a493fdd3217b551f6a27fc3fe040", func := "bilge/bilgelaw11.AduHurt", spec := "aduHurt", unfollowed := true, recurses := true, apart := false, narrowed := true }
def AduHurtUptoSaid : Prop := aduHurtUptoRow.holds Try.pinned (OpenSpec.upto aduHurtSpec)

/-- 'bilgelaw37.CharsTake', WHERE WHAT IT READS IS OF BULK AT MOST 1048576: true; the input reads as it did. -/
def charsTakeUptoRow : OpenClaim := { program := "ytbghnfhjaolhaaa", sum := "11571394ca9e47a05c6edac02a8453a45631a493fdd3217b551f6a27fc3fe040", func := "bilge/bilgelaw37.CharsTake", spec := "charsTake", unfollowed := true, recurses := true, apart := false, narrowed := true }
def CharsTakeUptoSaid : Prop := charsTakeUptoRow.holds Try.pinned (OpenSpec.upto charsTakeSpec)

/-- 'bilgelaw37.CharsFrames', WHERE WHAT IT READS IS OF BULK AT MOST 1048576: true; the input reads as it did. -/
def charsFramesUptoRow : OpenClaim := { program := "ytbghnfhjaolhaaa", sum := "11571394ca9e47a05c6edac02a8453a45631a493fdd3217b551f6a27fc3fe040", func := "bilge/bilgelaw37.CharsFrames", spec := "charsFrames", inPlace := ["internal/abi.NoEscape"], unfollowed := true, recurses := true, apart := false, narrowed := true }
def CharsFramesUptoSaid : Prop := charsFramesUptoRow.holds Try.pinned (OpenSpec.upto charsFramesSpec)

end Rows
end Go.Proofs.Ytbghnfhjaolhaaa

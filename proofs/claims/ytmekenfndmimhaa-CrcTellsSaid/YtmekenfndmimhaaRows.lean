/-
  No cell of these rows narrows 'for every input' (looked for: loops, veiled, ifaces, maps, wideKeys, modest, calm, conditions, laid).
  DERIVED. THE GIVEN ROWS OF THIS SEAT. 10 by the template 'for every input the law returns true; each argument reads behind the call as it read before'; 0 by the template 'total and deterministic' (their statements: YtmekenfndmimhaaTotals.lean).
  GIVEN WITH THE SEED: the statements are not yours to turn. If you find one false, say at which input.
  Laid BY PROGRAM, IN A SANDBOX (cutbox-rows.mjs): the forced cells as the released guide's own fill.sh prints them over the translation 3ece9897e3cb3ea7… (all of the seat's roots in one cut). By AI agents, Wed Nov 11 2026. No macro, syntax, notation, axiom, sorry.
-/
import Derived.Test.YtmekenfndmimhaaChecked
import GoSem.Claim
import GoSem.ClaimJoined
import GoSem.ClaimMapViews
import Derived.JoinedTies
import Derived.KernelRfl
namespace Go.Proofs.Ytmekenfndmimhaa
/- THE CELL 'sum', in the pinned program and in every row, IS THE sha256 OF THE DUMP (.gsa) THAT YtmekenfndmimhaaProg.lean LOADS. Nothing in Lean hashes anything: it is a label: what it is worth is what the hold of that sum in a sandbox is worth. -/
noncomputable def Try.pinned : Pinned := { name := "ytmekenfndmimhaa", sum := "3ece9897e3cb3ea7449f1e2a9431673b1077d09ca8e10d7cc44b7cb57a7d0cda", checked := Try.checked }
namespace Rows
def none {H : Type} : Left H := { results := [], args := [] }

/-- 'bilgelaw35.LrcTells': WHATEVER THE INPUT: true; the input reads as it did. -/
def lrcTellsSpec : ChangeSpec := { name := "lrcTells", fn := fun _ => fun
  | [d] => { results := [.lit (.bool true)], args := [d] }
  | _ => none }
def lrcTellsRow : OpenClaim := { program := "ytmekenfndmimhaa", sum := "3ece9897e3cb3ea7449f1e2a9431673b1077d09ca8e10d7cc44b7cb57a7d0cda", func := "bilge/bilgelaw35.LrcTells", spec := "lrcTells", unfollowed := true, recurses := true, apart := false }
def LrcTellsSaid : Prop := lrcTellsRow.holds Try.pinned (OpenSpec.ofChange lrcTellsSpec)

/-- ITS FALSE NEIGHBOUR: 'it returns false'. Refute it at one input. -/
def lrcTellsWrong : ChangeSpec := { name := "lrcTells", fn := fun _ => fun
  | [d] => { results := [.lit (.bool false)], args := [d] }
  | _ => none }
def LrcTellsWrongFalsely : Prop := lrcTellsRow.holds Try.pinned (OpenSpec.ofChange lrcTellsWrong)

/-- 'bilgelaw35.LrcFinds': WHATEVER THE INPUT: true; the input reads as it did. -/
def lrcFindsSpec : ChangeSpec := { name := "lrcFinds", fn := fun _ => fun
  | [d1, d2, d3] => { results := [.lit (.bool true)], args := [d1, d2, d3] }
  | _ => none }
def lrcFindsRow : OpenClaim := { program := "ytmekenfndmimhaa", sum := "3ece9897e3cb3ea7449f1e2a9431673b1077d09ca8e10d7cc44b7cb57a7d0cda", func := "bilge/bilgelaw35.LrcFinds", spec := "lrcFinds", unfollowed := true, recurses := true, apart := false }
def LrcFindsSaid : Prop := lrcFindsRow.holds Try.pinned (OpenSpec.ofChange lrcFindsSpec)

/-- ITS FALSE NEIGHBOUR: 'it returns false'. Refute it at one input. -/
def lrcFindsWrong : ChangeSpec := { name := "lrcFinds", fn := fun _ => fun
  | [d1, d2, d3] => { results := [.lit (.bool false)], args := [d1, d2, d3] }
  | _ => none }
def LrcFindsWrongFalsely : Prop := lrcFindsRow.holds Try.pinned (OpenSpec.ofChange lrcFindsWrong)

/-- 'bilgelaw05.ClockTimes': WHATEVER THE INPUT: true; the input reads as it did. -/
def clockTimesSpec : ChangeSpec := { name := "clockTimes", fn := fun _ => fun
  | [d1, d2, d3] => { results := [.lit (.bool true)], args := [d1, d2, d3] }
  | _ => none }
def clockTimesRow : OpenClaim := { program := "ytmekenfndmimhaa", sum := "3ece9897e3cb3ea7449f1e2a9431673b1077d09ca8e10d7cc44b7cb57a7d0cda", func := "bilge/bilgelaw05.ClockTimes", spec := "clockTimes", unfollowed := true, recurses := true, apart := false }
def ClockTimesSaid : Prop := clockTimesRow.holds Try.pinned (OpenSpec.ofChange clockTimesSpec)

/-- ITS FALSE NEIGHBOUR: 'it returns false'. Refute it at one input. -/
def clockTimesWrong : ChangeSpec := { name := "clockTimes", fn := fun _ => fun
  | [d1, d2, d3] => { results := [.lit (.bool false)], args := [d1, d2, d3] }
  | _ => none }
def ClockTimesWrongFalsely : Prop := clockTimesRow.holds Try.pinned (OpenSpec.ofChange clockTimesWrong)

/-- 'bilgelaw05.ClockTells': WHATEVER THE INPUT: true; the input reads as it did. -/
def clockTellsSpec : ChangeSpec := { name := "clockTells", fn := fun _ => fun
  | [d1, d2, d3] => { results := [.lit (.bool true)], args := [d1, d2, d3] }
  | _ => none }
def clockTellsRow : OpenClaim := { program := "ytmekenfndmimhaa", sum := "3ece9897e3cb3ea7449f1e2a9431673b1077d09ca8e10d7cc44b7cb57a7d0cda", func := "bilge/bilgelaw05.ClockTells", spec := "clockTells", unfollowed := true, recurses := true, apart := false }
def ClockTellsSaid : Prop := clockTellsRow.holds Try.pinned (OpenSpec.ofChange clockTellsSpec)

/-- ITS FALSE NEIGHBOUR: 'it returns false'. Refute it at one input. -/
def clockTellsWrong : ChangeSpec := { name := "clockTells", fn := fun _ => fun
  | [d1, d2, d3] => { results := [.lit (.bool false)], args := [d1, d2, d3] }
  | _ => none }
def ClockTellsWrongFalsely : Prop := clockTellsRow.holds Try.pinned (OpenSpec.ofChange clockTellsWrong)

/-- 'bilgelaw05.ClockFaster': WHATEVER THE INPUT: true; the input reads as it did. -/
def clockFasterSpec : ChangeSpec := { name := "clockFaster", fn := fun _ => fun
  | [d1, d2, d3] => { results := [.lit (.bool true)], args := [d1, d2, d3] }
  | _ => none }
def clockFasterRow : OpenClaim := { program := "ytmekenfndmimhaa", sum := "3ece9897e3cb3ea7449f1e2a9431673b1077d09ca8e10d7cc44b7cb57a7d0cda", func := "bilge/bilgelaw05.ClockFaster", spec := "clockFaster", unfollowed := true, recurses := true, apart := false }
def ClockFasterSaid : Prop := clockFasterRow.holds Try.pinned (OpenSpec.ofChange clockFasterSpec)

/-- ITS FALSE NEIGHBOUR: 'it returns false'. Refute it at one input. -/
def clockFasterWrong : ChangeSpec := { name := "clockFaster", fn := fun _ => fun
  | [d1, d2, d3] => { results := [.lit (.bool false)], args := [d1, d2, d3] }
  | _ => none }
def ClockFasterWrongFalsely : Prop := clockFasterRow.holds Try.pinned (OpenSpec.ofChange clockFasterWrong)

/-- 'bilgelaw05.ClockGoes': WHATEVER THE INPUT: true; the input reads as it did. -/
def clockGoesSpec : ChangeSpec := { name := "clockGoes", fn := fun _ => fun
  | [d1, d2, d3] => { results := [.lit (.bool true)], args := [d1, d2, d3] }
  | _ => none }
def clockGoesRow : OpenClaim := { program := "ytmekenfndmimhaa", sum := "3ece9897e3cb3ea7449f1e2a9431673b1077d09ca8e10d7cc44b7cb57a7d0cda", func := "bilge/bilgelaw05.ClockGoes", spec := "clockGoes", unfollowed := true, recurses := true, apart := false }
def ClockGoesSaid : Prop := clockGoesRow.holds Try.pinned (OpenSpec.ofChange clockGoesSpec)

/-- ITS FALSE NEIGHBOUR: 'it returns false'. Refute it at one input. -/
def clockGoesWrong : ChangeSpec := { name := "clockGoes", fn := fun _ => fun
  | [d1, d2, d3] => { results := [.lit (.bool false)], args := [d1, d2, d3] }
  | _ => none }
def ClockGoesWrongFalsely : Prop := clockGoesRow.holds Try.pinned (OpenSpec.ofChange clockGoesWrong)

/-- 'bilgelaw03.PolyTells': WHATEVER THE INPUT: true; the input reads as it did. -/
def polyTellsSpec : ChangeSpec := { name := "polyTells", fn := fun _ => fun
  | [d1, d2, d3] => { results := [.lit (.bool true)], args := [d1, d2, d3] }
  | _ => none }
def polyTellsRow : OpenClaim := { program := "ytmekenfndmimhaa", sum := "3ece9897e3cb3ea7449f1e2a9431673b1077d09ca8e10d7cc44b7cb57a7d0cda", func := "bilge/bilgelaw03.PolyTells", spec := "polyTells", unfollowed := true, recurses := true, apart := false }
def PolyTellsSaid : Prop := polyTellsRow.holds Try.pinned (OpenSpec.ofChange polyTellsSpec)

/-- ITS FALSE NEIGHBOUR: 'it returns false'. Refute it at one input. -/
def polyTellsWrong : ChangeSpec := { name := "polyTells", fn := fun _ => fun
  | [d1, d2, d3] => { results := [.lit (.bool false)], args := [d1, d2, d3] }
  | _ => none }
def PolyTellsWrongFalsely : Prop := polyTellsRow.holds Try.pinned (OpenSpec.ofChange polyTellsWrong)

/-- 'bilgelaw03.PolyLinear': WHATEVER THE INPUT: true; the input reads as it did. -/
def polyLinearSpec : ChangeSpec := { name := "polyLinear", fn := fun _ => fun
  | [d1, d2] => { results := [.lit (.bool true)], args := [d1, d2] }
  | _ => none }
def polyLinearRow : OpenClaim := { program := "ytmekenfndmimhaa", sum := "3ece9897e3cb3ea7449f1e2a9431673b1077d09ca8e10d7cc44b7cb57a7d0cda", func := "bilge/bilgelaw03.PolyLinear", spec := "polyLinear", unfollowed := true, recurses := true, apart := false }
def PolyLinearSaid : Prop := polyLinearRow.holds Try.pinned (OpenSpec.ofChange polyLinearSpec)

/-- ITS FALSE NEIGHBOUR: 'it returns false'. Refute it at one input. -/
def polyLinearWrong : ChangeSpec := { name := "polyLinear", fn := fun _ => fun
  | [d1, d2] => { results := [.lit (.bool false)], args := [d1, d2] }
  | _ => none }
def PolyLinearWrongFalsely : Prop := polyLinearRow.holds Try.pinned (OpenSpec.ofChange polyLinearWrong)

/-- 'bilgelaw03.PolyParts': WHATEVER THE INPUT: true; the input reads as it did. -/
def polyPartsSpec : ChangeSpec := { name := "polyParts", fn := fun _ => fun
  | [d1, d2] => { results := [.lit (.bool true)], args := [d1, d2] }
  | _ => none }
def polyPartsRow : OpenClaim := { program := "ytmekenfndmimhaa", sum := "3ece9897e3cb3ea7449f1e2a9431673b1077d09ca8e10d7cc44b7cb57a7d0cda", func := "bilge/bilgelaw03.PolyParts", spec := "polyParts", unfollowed := true, recurses := true, apart := false }
def PolyPartsSaid : Prop := polyPartsRow.holds Try.pinned (OpenSpec.ofChange polyPartsSpec)

/-- ITS FALSE NEIGHBOUR: 'it returns false'. Refute it at one input. -/
def polyPartsWrong : ChangeSpec := { name := "polyParts", fn := fun _ => fun
  | [d1, d2] => { results := [.lit (.bool false)], args := [d1, d2] }
  | _ => none }
def PolyPartsWrongFalsely : Prop := polyPartsRow.holds Try.pinned (OpenSpec.ofChange polyPartsWrong)

/-- 'bilgelaw04.CrcTells': WHATEVER THE INPUT: true; the input reads as it did. -/
def crcTellsSpec : ChangeSpec := { name := "crcTells", fn := fun _ => fun
  | [d1, d2] => { results := [.lit (.bool true)], args := [d1, d2] }
  | _ => none }
def crcTellsRow : OpenClaim := { program := "ytmekenfndmimhaa", sum := "3ece9897e3cb3ea7449f1e2a9431673b1077d09ca8e10d7cc44b7cb57a7d0cda", func := "bilge/bilgelaw04.CrcTells", spec := "crcTells", unfollowed := true, recurses := true, apart := false }
def CrcTellsSaid : Prop := crcTellsRow.holds Try.pinned (OpenSpec.ofChange crcTellsSpec)

/-- ITS FALSE NEIGHBOUR: 'it returns false'. Refute it at one input. -/
def crcTellsWrong : ChangeSpec := { name := "crcTells", fn := fun _ => fun
  | [d1, d2] => { results := [.lit (.bool false)], args := [d1, d2] }
  | _ => none }
def CrcTellsWrongFalsely : Prop := crcTellsRow.holds Try.pinned (OpenSpec.ofChange crcTellsWrong)

/- THE SECOND FORM. 'bulk': how many values and letters a reading holds, each counted each time it is reached (what is shared counts as often as it is met; a slice's spare places count too). A statement '..UptoSaid' is the law's where the arguments, and the package variables that the reading takes, are together of bulk at most 1048576: NARROWER than '..Said'. Prove '..Said' where nothing that the law and all that it calls make is longer than what came in: it says more and counts as full. Else prove '..UptoSaid'. A law counts once. -/
mutual
def uptoBulk {H : Type} : DataW H → Nat
  | .lit (.string bytes) => bytes.length + 1
  | .lit _ => 1
  | .nil => 1
  | .ptr d => uptoBulk d + 1
  | .slice elems spare => uptoBulkAll elems + uptoBulkAll spare + 1
  | .agg parts => uptoBulkAll parts + 1
  | .iface _ d => uptoBulk d + 1
  | .map entries => uptoBulkEntries entries + 1
  | .held _ => 1
def uptoBulkAll {H : Type} : List (DataW H) → Nat
  | [] => 0
  | d :: r => uptoBulk d + uptoBulkAll r
def uptoBulkEntries {H : Type} : List (Lit × DataW H) → Nat
  | [] => 0
  | x :: r => uptoBulkEntry x + uptoBulkEntries r
def uptoBulkEntry {H : Type} : Lit × DataW H → Nat
  | (.string bytes, d) => bytes.length + uptoBulk d + 1
  | (_, d) => uptoBulk d + 1
 end
def uptoSmall : (H : Type) → List (DataW H) → Bool := fun _ ds => decide (uptoBulkAll ds ≤ 1048576)
def OpenSpec.upto (s : _root_.Go.ChangeSpec) : _root_.Go.OpenSpec := { _root_.Go.OpenSpec.ofChange s with cond := some uptoSmall }

/-- 'bilgelaw35.LrcTells', WHERE WHAT IT READS IS OF BULK AT MOST 1048576: true; the input reads as it did. -/
def lrcTellsUptoRow : OpenClaim := { program := "ytmekenfndmimhaa", sum := "3ece9897e3cb3ea7449f1e2a9431673b1077d09ca8e10d7cc44b7cb57a7d0cda", func := "bilge/bilgelaw35.LrcTells", spec := "lrcTells", unfollowed := true, recurses := true, apart := false, narrowed := true }
def LrcTellsUptoSaid : Prop := lrcTellsUptoRow.holds Try.pinned (OpenSpec.upto lrcTellsSpec)

/-- 'bilgelaw35.LrcFinds', WHERE WHAT IT READS IS OF BULK AT MOST 1048576: true; the input reads as it did. -/
def lrcFindsUptoRow : OpenClaim := { program := "ytmekenfndmimhaa", sum := "3ece9897e3cb3ea7449f1e2a9431673b1077d09ca8e10d7cc44b7cb57a7d0cda", func := "bilge/bilgelaw35.LrcFinds", spec := "lrcFinds", unfollowed := true, recurses := true, apart := false, narrowed := true }
def LrcFindsUptoSaid : Prop := lrcFindsUptoRow.holds Try.pinned (OpenSpec.upto lrcFindsSpec)

/-- 'bilgelaw05.ClockTimes', WHERE WHAT IT READS IS OF BULK AT MOST 1048576: true; the input reads as it did. -/
def clockTimesUptoRow : OpenClaim := { program := "ytmekenfndmimhaa", sum := "3ece9897e3cb3ea7449f1e2a9431673b1077d09ca8e10d7cc44b7cb57a7d0cda", func := "bilge/bilgelaw05.ClockTimes", spec := "clockTimes", unfollowed := true, recurses := true, apart := false, narrowed := true }
def ClockTimesUptoSaid : Prop := clockTimesUptoRow.holds Try.pinned (OpenSpec.upto clockTimesSpec)

/-- 'bilgelaw05.ClockTells', WHERE WHAT IT READS IS OF BULK AT MOST 1048576: true; the input reads as it did. -/
def clockTellsUptoRow : OpenClaim := { program := "ytmekenfndmimhaa", sum := "3ece9897e3cb3ea7449f1e2a9431673b1077d09ca8e10d7cc44b7cb57a7d0cda", func := "bilge/bilgelaw05.ClockTells", spec := "clockTells", unfollowed := true, recurses := true, apart := false, narrowed := true }
def ClockTellsUptoSaid : Prop := clockTellsUptoRow.holds Try.pinned (OpenSpec.upto clockTellsSpec)

/-- 'bilgelaw05.ClockFaster', WHERE WHAT IT READS IS OF BULK AT MOST 1048576: true; the input reads as it did. -/
def clockFasterUptoRow : OpenClaim := { program := "ytmekenfndmimhaa", sum := "3ece9897e3cb3ea7449f1e2a9431673b1077d09ca8e10d7cc44b7cb57a7d0cda", func := "bilge/bilgelaw05.ClockFaster", spec := "clockFaster", unfollowed := true, recurses := true, apart := false, narrowed := true }
def ClockFasterUptoSaid : Prop := clockFasterUptoRow.holds Try.pinned (OpenSpec.upto clockFasterSpec)

/-- 'bilgelaw05.ClockGoes', WHERE WHAT IT READS IS OF BULK AT MOST 1048576: true; the input reads as it did. -/
def clockGoesUptoRow : OpenClaim := { program := "ytmekenfndmimhaa", sum := "3ece9897e3cb3ea7449f1e2a9431673b1077d09ca8e10d7cc44b7cb57a7d0cda", func := "bilge/bilgelaw05.ClockGoes", spec := "clockGoes", unfollowed := true, recurses := true, apart := false, narrowed := true }
def ClockGoesUptoSaid : Prop := clockGoesUptoRow.holds Try.pinned (OpenSpec.upto clockGoesSpec)

/-- 'bilgelaw03.PolyTells', WHERE WHAT IT READS IS OF BULK AT MOST 1048576: true; the input reads as it did. -/
def polyTellsUptoRow : OpenClaim := { program := "ytmekenfndmimhaa", sum := "3ece9897e3cb3ea7449f1e2a9431673b1077d09ca8e10d7cc44b7cb57a7d0cda", func := "bilge/bilgelaw03.PolyTells", spec := "polyTells", unfollowed := true, recurses := true, apart := false, narrowed := true }
def PolyTellsUptoSaid : Prop := polyTellsUptoRow.holds Try.pinned (OpenSpec.upto polyTellsSpec)

/-- 'bilgelaw03.PolyLinear', WHERE WHAT IT READS IS OF BULK AT MOST 1048576: true; the input reads as it did. -/
def polyLinearUptoRow : OpenClaim := { program := "ytmekenfndmimhaa", sum := "3ece9897e3cb3ea7449f1e2a9431673b1077d09ca8e10d7cc44b7cb57a7d0cda", func := "bilge/bilgelaw03.PolyLinear", spec := "polyLinear", unfollowed := true, recurses := true, apart := false, narrowed := true }
def PolyLinearUptoSaid : Prop := polyLinearUptoRow.holds Try.pinned (OpenSpec.upto polyLinearSpec)

/-- 'bilgelaw03.PolyParts', WHERE WHAT IT READS IS OF BULK AT MOST 1048576: true; the input reads as it did. -/
def polyPartsUptoRow : OpenClaim := { program := "ytmekenfndmimhaa", sum := "3ece9897e3cb3ea7449f1e2a9431673b1077d09ca8e10d7cc44b7cb57a7d0cda", func := "bilge/bilgelaw03.PolyParts", spec := "polyParts", unfollowed := true, recurses := true, apart := false, narrowed := true }
def PolyPartsUptoSaid : Prop := polyPartsUptoRow.holds Try.pinned (OpenSpec.upto polyPartsSpec)

/-- 'bilgelaw04.CrcTells', WHERE WHAT IT READS IS OF BULK AT MOST 1048576: true; the input reads as it did. -/
def crcTellsUptoRow : OpenClaim := { program := "ytmekenfndmimhaa", sum := "3ece9897e3cb3ea7449f1e2a9431673b1077d09ca8e10d7cc44b7cb57a7d0cda", func := "bilge/bilgelaw04.CrcTells", spec := "crcTells", unfollowed := true, recurses := true, apart := false, narrowed := true }
def CrcTellsUptoSaid : Prop := crcTellsUptoRow.holds Try.pinned (OpenSpec.upto crcTellsSpec)

end Rows
end Go.Proofs.Ytmekenfndmimhaa

/- Layer 46's law AlarmHolds of the given program: each change begins where the one ahead ended, none comes within Delay of the one ahead, and what asked for it lasted for Delay; values within the inner bounds change nothing. -/
import Derived.Test.YtbghnfhjaolhaaaPAlarmHoldsx
import Derived.IntWalk
set_option linter.unusedVariables false
set_option linter.unusedSimpArgs false
namespace Go.Proofs.Ytbghnfhjaolhaaa.Pure
open Go.RowKit Go.Proofs.Ytbghnfhjaolhaaa.PAlarmHolds Go.Proofs.YtbghnfhjaolhaaaW.PrintWords Go.Proofs.YtbghnfhjaolhaaaW.PrintLast Go.Proofs.YtbghnfhjaolhaaaW.PrintMore Go.Proofs.YtbghnfhjaolhaaaM

theorem pl_w64 {i : Int} (h : -9223372036854775808 ≤ i ∧ i ≤ 9223372036854775807) : wrap64 i = i := by unfold wrap64; omega
theorem pl_bind {α β : Type} {x : Option α} {f : α → Option β} {a : α} {r : β} (h : x = some a) (k : f a = some r) : x.bind f = some r := by rw [h]; exact k
theorem pl_rd_nat (l : List Int) (i : Nat) : rd l (i : Int) = l.getD i 0 := by simp [rd]
theorem pl_rd_eq (l : List Int) (i : Int) (n : Nat) (h : i = n) : rd l i = l.getD n 0 := by subst h; exact pl_rd_nat l n

theorem AlarmHolds : bilgelaw46_AlarmHolds.Pure := by
  intro x0 x1 _ _
  exact ⟨0, rfl⟩

end Go.Proofs.Ytbghnfhjaolhaaa.Pure

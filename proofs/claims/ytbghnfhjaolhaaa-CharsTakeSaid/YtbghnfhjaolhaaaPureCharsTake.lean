/- Layer 37's law CharsTake of the given program: whatever signs come, whenever: each frame that is over, each error, how many are held, how many were broken off. -/
import Derived.Test.YtbghnfhjaolhaaaPCharsTakex
import Derived.IntWalk
set_option linter.unusedVariables false
set_option linter.unusedSimpArgs false
namespace Go.Proofs.Ytbghnfhjaolhaaa.Pure
open Go.RowKit Go.Proofs.Ytbghnfhjaolhaaa.PCharsTake Go.Proofs.YtbghnfhjaolhaaaW.PrintWords Go.Proofs.YtbghnfhjaolhaaaW.PrintLast Go.Proofs.YtbghnfhjaolhaaaW.PrintMore Go.Proofs.YtbghnfhjaolhaaaM

theorem pl_w64 {i : Int} (h : -9223372036854775808 ≤ i ∧ i ≤ 9223372036854775807) : wrap64 i = i := by unfold wrap64; omega
theorem pl_bind {α β : Type} {x : Option α} {f : α → Option β} {a : α} {r : β} (h : x = some a) (k : f a = some r) : x.bind f = some r := by rw [h]; exact k
theorem pl_rd_nat (l : List Int) (i : Nat) : rd l (i : Int) = l.getD i 0 := by simp [rd]
theorem pl_rd_eq (l : List Int) (i : Int) (n : Nat) (h : i = n) : rd l i = l.getD n 0 := by subst h; exact pl_rd_nat l n

theorem CharsTake : bilgelaw37_CharsTake.Pure := by
  intro x0 x1 x2 _ _ _
  exact ⟨0, rfl⟩

end Go.Proofs.Ytbghnfhjaolhaaa.Pure

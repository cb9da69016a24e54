/- Layer 37's law CharsFrames of the given program: frames as text, one behind the other, with noise without the sign : between, are each told once, in order; nothing is held then. -/
import Derived.Test.YtballgciakljnaaPCharsFramesx
import Derived.IntWalk
set_option linter.unusedVariables false
set_option linter.unusedSimpArgs false
namespace Go.Proofs.Ytballgciakljnaa.Pure
open Go.RowKit Go.Proofs.Ytballgciakljnaa.PCharsFrames Go.Proofs.YtballgciakljnaaW.PrintWords Go.Proofs.YtballgciakljnaaW.PrintLast Go.Proofs.YtballgciakljnaaW.PrintMore Go.Proofs.YtballgciakljnaaM

theorem pl_w64 {i : Int} (h : -9223372036854775808 ≤ i ∧ i ≤ 9223372036854775807) : wrap64 i = i := by unfold wrap64; omega
theorem pl_bind {α β : Type} {x : Option α} {f : α → Option β} {a : α} {r : β} (h : x = some a) (k : f a = some r) : x.bind f = some r := by rw [h]; exact k
theorem pl_rd_nat (l : List Int) (i : Nat) : rd l (i : Int) = l.getD i 0 := by simp [rd]
theorem pl_rd_eq (l : List Int) (i : Int) (n : Nat) (h : i = n) : rd l i = l.getD n 0 := by subst h; exact pl_rd_nat l n

theorem CharsFrames : bilgelaw37_CharsFrames.Pure := by
  intro x0 x1 x2 h0 h1 h2
  have hb : ∀ y : Int, (Lit.int .u8 y).wf = true → 0 ≤ y ∧ y ≤ 255 := fun y h => by
    simp [Lit.wf, IntKind.min, IntKind.max, IntKind.bits, IntKind.signed] at h
    omega
  show bilgelaw37_CharsFrames.f x0 x1 x2 = some true
  unfold bilgelaw37_CharsFrames.f
  exact if_pos ⟨fun x hx y hy => hb y ((h0.2.2 x hx).2.2 y hy), fun y hy => hb y (h1.2.2 y hy), hb x2 h2⟩

end Go.Proofs.Ytballgciakljnaa.Pure

/- Layer 4's law CrcOdd of the given program: its walk shows it all; here: what must come whatever the input is, comes, and the arguments are bytes and words. -/
import Derived.Test.YtbaodollggbcoaaPCrcOddx
import Derived.IntWalk
set_option linter.unusedVariables false
set_option linter.unusedSimpArgs false
namespace Go.Proofs.Ytbaodollggbcoaa.Pure
open Go.RowKit Go.Proofs.Ytbaodollggbcoaa.PCrcOdd Go.Proofs.YtbaodollggbcoaaW.PrintWords Go.Proofs.YtbaodollggbcoaaW.PrintLast Go.Proofs.YtbaodollggbcoaaW.PrintMore Go.Proofs.YtbaodollggbcoaaM

theorem pl_sure04 (k : Nat) (hk : 60 ≤ k) : bilgelaw04_sure.f k = some true := at_rounds bilgelaw04_sure.mono hk (by decide +kernel)

theorem CrcOdd : bilgelaw04_CrcOdd.Pure := by
  intro l0 l1 _ _ h0 _ _ h1
  refine ⟨60, ?_⟩
  unfold bilgelaw04_CrcOdd.f
  exact if_pos ⟨fun x hx => wf_u8 (h0 x hx), fun x hx => wf_u16 (h1 x hx), pl_sure04 60 (Nat.le_refl _)⟩

end Go.Proofs.Ytbaodollggbcoaa.Pure

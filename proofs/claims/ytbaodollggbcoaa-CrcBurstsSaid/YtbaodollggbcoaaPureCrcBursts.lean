/- Layer 4's law CrcBursts of the given program: its walk shows it all; here: what must come whatever the input is, comes, and the arguments are bytes and words. -/
import Derived.Test.YtbaodollggbcoaaPCrcBurstsx
import Derived.IntWalk
set_option linter.unusedVariables false
set_option linter.unusedSimpArgs false
namespace Go.Proofs.Ytbaodollggbcoaa.Pure
open Go.RowKit Go.Proofs.Ytbaodollggbcoaa.PCrcBursts Go.Proofs.YtbaodollggbcoaaW.PrintWords Go.Proofs.YtbaodollggbcoaaW.PrintLast Go.Proofs.YtbaodollggbcoaaW.PrintMore Go.Proofs.YtbaodollggbcoaaM

theorem pl_sure04 (k : Nat) (hk : 60 ≤ k) : bilgelaw04_sure.f k = some true := at_rounds bilgelaw04_sure.mono hk (by decide +kernel)

theorem CrcBursts : bilgelaw04_CrcBursts.Pure := by
  intro l0 a1 a2 _ _ h0 h1 h2
  refine ⟨60, ?_⟩
  unfold bilgelaw04_CrcBursts.f
  exact if_pos ⟨fun x hx => wf_u8 (h0 x hx), wf_u16 h1, wf_u16 h2, pl_sure04 60 (Nat.le_refl _)⟩

end Go.Proofs.Ytbaodollggbcoaa.Pure

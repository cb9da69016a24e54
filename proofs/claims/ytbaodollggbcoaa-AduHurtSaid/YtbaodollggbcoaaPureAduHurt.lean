/- Layer 11's law AduHurt of the given program: its walk shows it all; here: what must come whatever the input is, comes, and the arguments are bytes and words. -/
import Derived.Test.YtbaodollggbcoaaPAduHurtx
import Derived.IntWalk
set_option linter.unusedVariables false
set_option linter.unusedSimpArgs false
namespace Go.Proofs.Ytbaodollggbcoaa.Pure
open Go.RowKit Go.Proofs.Ytbaodollggbcoaa.PAduHurt Go.Proofs.YtbaodollggbcoaaW.PrintWords Go.Proofs.YtbaodollggbcoaaW.PrintLast Go.Proofs.YtbaodollggbcoaaW.PrintMore Go.Proofs.YtbaodollggbcoaaM

theorem pl_sure11 (k : Nat) (hk : 60 ≤ k) : bilgelaw11_sure.f k = some true := at_rounds bilgelaw11_sure.mono hk (by decide +kernel)

theorem AduHurt : bilgelaw11_AduHurt.Pure := by
  intro a0 x1 x2 h0 h1 h2
  refine ⟨60, ?_⟩
  unfold bilgelaw11_AduHurt.f
  exact if_pos ⟨wf_u8 h0, fun x hx => wf_u8 (h1.2.2 x hx), wf_u16 h2.1, wf_u16 h2.2.1, wf_u16 h2.2.2, pl_sure11 60 (Nat.le_refl _)⟩

end Go.Proofs.Ytbaodollggbcoaa.Pure

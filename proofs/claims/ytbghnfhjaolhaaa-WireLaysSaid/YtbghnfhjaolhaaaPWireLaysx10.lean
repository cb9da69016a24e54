-- Written by a program of this session, in the form of the kit's print, some functions by hand (N.B. not a file of print.sh's).
import Derived.Test.YtbghnfhjaolhaaaPWireLaysx0
import Derived.Test.YtbghnfhjaolhaaaPWireLaysx8
namespace Go.Proofs.Ytbghnfhjaolhaaa.PWireLays
open Go.RowKit Go.Proofs.YtbghnfhjaolhaaaW.PrintWords Go.Proofs.YtbghnfhjaolhaaaW.PrintLast Go.Proofs.YtbghnfhjaolhaaaW.PrintMore Go.Proofs.YtbghnfhjaolhaaaM
attribute [local go_sem] max2_int min2_int max_two min_two max_three min_three max_four min_four   -- for this text's walks alone
set_option linter.unusedVariables false
set_option linter.unusedSimpArgs false

/-! ### wire_Spoil: function 33 (by hand) -/
theorem spoil_turns (w : World) : Turns 76 [] w (fun x => ⟨x.f0, x.f1, true⟩) := by
  refine ⟨fun args W => enters_ (fn := Try.f76) (by kernel_rfl) (by kernel_rfl) rfl args W, ?_⟩
  intro W g o x _ _ h0 h1 h2 hf
  have hf2 := hf 2
  go_enter Try.func76, Try.ntmps76
  go_wp2
  go_end0
  exact ⟨rfl, 2, _, 0, by omega, rfl, rfl⟩
def wire_Spoil.f (l0 : List S54) (a1 : Int) : Option (List S54) := if l0.length < 8796093022208 then some (withF (fun x => ⟨x.f0, x.f1, true⟩) l0 a1) else none
set_option maxRecDepth 100000 in
theorem wire_Spoil.calls (A0 : Option Addr) (c0 : Nat) (l0 : List S54) (a1 : Int) (r : List S54) (w : World) (hr0 : Kd.C k54 w A0 l0.length l0) (hc0 : l0.length ≤ c0) (h : wire_Spoil.f l0 a1 = some r) :
    Calls Try.prog 33 #[.slice A0 l0.length c0, .int .i64 a1] w fun e w' => ∃ v0_ : Value, e = .returned (v0_) ∧ Kd.R k54 54 w' w.heap.size (fun _ => True) v0_ r ∧ Below w.heap.size w w' := by
  unfold wire_Spoil.f at h
  split at h
  case isFalse => cases h
  case isTrue hl =>
  obtain rfl := Option.some.inj h
  have H := Aside0.mk (with_calls 76 A0 c0 l0 a1 [] _ w hr0 hc0 hl (spoil_turns w))
  clear h hr0 hc0
  go_enter Try.func33, Try.ntmps33
  go_wp2_with (go_at_call 75; refine H.out.mono ?_; rintro e w1 ⟨v1, rfl, hr, hg⟩; have HR := Aside0.mk hr; have HG := Aside0.mk hg; clear hr hg)
  go_ret
  exact ⟨_, rfl, HR.out, HG.out⟩

end Go.Proofs.Ytbghnfhjaolhaaa.PWireLays

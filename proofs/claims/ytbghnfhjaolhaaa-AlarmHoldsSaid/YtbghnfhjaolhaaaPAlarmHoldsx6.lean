-- Written by a program of this session, in the form of the kit's print, some functions by hand (N.B. not a file of print.sh's).
import Derived.Test.YtbghnfhjaolhaaaPAlarmHoldsx0
import Derived.Test.YtbghnfhjaolhaaaPAlarmHoldsx1
import Derived.Test.YtbghnfhjaolhaaaPAlarmHoldsx2
namespace Go.Proofs.Ytbghnfhjaolhaaa.PAlarmHolds
open Go.RowKit Go.Proofs.YtbghnfhjaolhaaaW.PrintWords Go.Proofs.YtbghnfhjaolhaaaW.PrintLast Go.Proofs.YtbghnfhjaolhaaaW.PrintMore Go.Proofs.YtbghnfhjaolhaaaM
attribute [local go_sem] max2_int min2_int max_two min_two max_three min_three max_four min_four   -- for this text's walks alone
set_option linter.unusedVariables false
set_option linter.unusedSimpArgs false

/-! ### alarm_Watch_Stands: function 43 (by hand) -/
set_option maxRecDepth 100000 in
theorem stands_made (g : Nat) (s : Wt) (w : World) (h : Bk w g s) : Calls Try.prog 43 #[.pointer (some ⟨g, 0, none⟩)] w fun e w' => e = .returned (.int .i64 s.st) ∧ Drawn0 w w' := by
  have H := Aside0.mk h
  clear h
  go_enter Try.func43, Try.ntmps43
  go_wp2_with (go_at_call 80; refine (none_made g s _ H.out).mono ?_; rintro e w1 ⟨rfl, hd⟩; have HD := Aside0.mk hd; have h5 : w1.cell? ⟨g, 5, none⟩ = some (.int .i64 s.st) := (H.out.drawn hd).cell 5; clear hd)
  go_ret
  exact ⟨rfl, HD.out⟩

end Go.Proofs.Ytbghnfhjaolhaaa.PAlarmHolds

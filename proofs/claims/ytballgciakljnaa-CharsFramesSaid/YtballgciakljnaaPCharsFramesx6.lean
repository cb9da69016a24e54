-- Written by a program of this session, in the form of the kit's print, some functions by hand (N.B. not a file of print.sh's).
import Derived.Test.YtballgciakljnaaPCharsFramesx0
import Derived.Test.YtballgciakljnaaPCharsFramesx1
import Derived.Test.YtballgciakljnaaPCharsFramesx2
namespace Go.Proofs.Ytballgciakljnaa.PCharsFrames
open Go.RowKit Go.Proofs.YtballgciakljnaaW.PrintWords Go.Proofs.YtballgciakljnaaW.PrintLast Go.Proofs.YtballgciakljnaaW.PrintMore Go.Proofs.YtballgciakljnaaM
attribute [local go_sem] max2_int min2_int max_two min_two max_three min_three max_four min_four   -- for this text's walks alone
set_option linter.unusedVariables false
set_option linter.unusedSimpArgs false

/-! ### chars_Taker_Held: function 19 (by hand) -/
set_option maxRecDepth 100000 in
theorem held_nil (w : World) : Calls Try.prog 19 #[.pointer none] w fun e w' => e = .returned (.int .i64 0) ∧ Drawn0 w w' := by
  go_enter Try.func19, Try.ntmps19
  go_wp2_with fail
  refine (tk_none_nil _).mono ?_
  rintro e w1 ⟨rfl, hd⟩
  have HD := Aside0.mk hd
  clear hd
  go_wp2
  go_ret
  exact ⟨rfl, HD.out⟩
set_option maxRecDepth 100000 in
theorem held_made (B g : Nat) (v : Value) (s : Tk) (w : World) (h : Ct w B g v s) (hq : 1 ≤ s.q) : Calls Try.prog 19 #[.pointer (some ⟨g, 0, none⟩)] w fun e w' => e = .returned (.int .i64 (s.hl.length : Int)) ∧ Drawn0 w w' := by
  have H := Aside0.mk h
  have HQ := Aside0.mk hq
  obtain ⟨A, c, rfl⟩ := Kd.R_slice h.2.1
  clear h hq
  go_enter Try.func19, Try.ntmps19
  go_wp2_with fail
  refine (tk_none_made B g _ s _ H.out HQ.out).mono ?_
  rintro e w1 ⟨rfl, hd⟩
  have HD := Aside0.mk hd
  have h3 : w1.cell? ⟨g, 3, none⟩ = some (.slice A s.hl.length c) := (H.out.drawn hd).cell 3
  clear hd
  go_wp2
  go_ret
  exact ⟨rfl, HD.out⟩

/-! ### chars_Taker_Lost: function 20 (by hand) -/
set_option maxRecDepth 100000 in
theorem lost_made (B g : Nat) (v : Value) (s : Tk) (w : World) (h : Ct w B g v s) (hq : 1 ≤ s.q) : Calls Try.prog 20 #[.pointer (some ⟨g, 0, none⟩)] w fun e w' => e = .returned (.int .i64 s.lost) ∧ Drawn0 w w' := by
  have H := Aside0.mk h
  have HQ := Aside0.mk hq
  clear h hq
  go_enter Try.func20, Try.ntmps20
  go_wp2_with fail
  refine (tk_none_made B g _ s _ H.out HQ.out).mono ?_
  rintro e w1 ⟨rfl, hd⟩
  have HD := Aside0.mk hd
  have h4 : w1.cell? ⟨g, 4, none⟩ = some (.int .i64 s.lost) := (H.out.drawn hd).cell 4
  clear hd
  go_wp2
  go_ret
  exact ⟨rfl, HD.out⟩

end Go.Proofs.Ytballgciakljnaa.PCharsFrames

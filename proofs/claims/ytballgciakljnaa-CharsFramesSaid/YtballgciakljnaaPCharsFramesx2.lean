-- Written by a program of this session, in the form of the kit's print, some functions by hand (N.B. not a file of print.sh's).
import Derived.Test.YtballgciakljnaaPCharsFramesx0
import Derived.Test.YtballgciakljnaaPCharsFramesx1
namespace Go.Proofs.Ytballgciakljnaa.PCharsFrames
open Go.RowKit Go.Proofs.YtballgciakljnaaW.PrintWords Go.Proofs.YtballgciakljnaaW.PrintLast Go.Proofs.YtballgciakljnaaW.PrintMore Go.Proofs.YtballgciakljnaaM
attribute [local go_sem] max2_int min2_int max_two min_two max_three min_three max_four min_four   -- for this text's walks alone
set_option linter.unusedVariables false
set_option linter.unusedSimpArgs false

/-! ### chars_Taker_none: function 82 (by hand) -/
set_option maxRecDepth 100000 in
theorem tk_none_nil (w : World) : Calls Try.prog 82 #[.pointer none] w fun e w' => e = .returned (.bool true) ∧ Drawn0 w w' := by
  go_enter Try.func82, Try.ntmps82
  go_wp2
  go_ret
  exact ⟨rfl, Drawn0.refl _⟩
set_option maxRecDepth 100000 in
theorem tk_none_made (B g : Nat) (v : Value) (s : Tk) (w : World) (h : Ct w B g v s) (hq : 1 ≤ s.q) : Calls Try.prog 82 #[.pointer (some ⟨g, 0, none⟩)] w fun e w' => e = .returned (.bool false) ∧ Drawn0 w w' := by
  have h0 : w.cell? ⟨g, 0, none⟩ = some (.int .i64 s.q) := h.cell 0
  have d1 : (s.q == 0) = false := beq_eq_false_iff_ne.2 (by omega)
  clear h hq
  go_enter Try.func82, Try.ntmps82
  go_wp2
  go_ret
  exact ⟨rfl, Drawn0.refl _⟩

/-! ### chars_Taker_off: function 83 (by hand) -/
set_option maxRecDepth 100000 in
theorem off_calls (w0 w : World) (g : Nat) (v : Value) (s : Tk) (h : Ct w w0.heap.size g v s) (hB : Below w0.heap.size w0 w) (hl : 0 ≤ s.lost ∧ s.lost < 1099511627776) :
    Calls Try.prog 83 #[.pointer (some ⟨g, 0, none⟩)] w fun e w' => e = .returned (.tuple #[]) ∧ ∃ v', Tp w0 w w' g v v' (offF s) := by
  obtain ⟨A, c, rfl⟩ := Kd.R_slice h.2.1
  have H := Aside0.mk h
  have HB := Aside0.mk hB
  have h3 : w.cell? ⟨g, 3, none⟩ = some (.slice A s.hl.length c) := h.cell 3
  have h4 : w.cell? ⟨g, 4, none⟩ = some (.int .i64 s.lost) := h.cell 4
  have f3 := h.fr 3
  have f4 := h.fr 4
  unfold offF
  clear h hB
  by_cases hz : s.hl = []
  · rw [if_pos hz]
    have d1 : ¬ 0 < s.hl.length := by rw [hz]; simp
    clear hz
    go_enter Try.func83, Try.ntmps83
    go_wp2
    go_end0
    exact ⟨rfl, _, Tp.refl H.out HB.out⟩
  · rw [if_neg hz]
    have hp : 0 < s.hl.length := List.length_pos_iff.2 hz
    have hw : IntKind.i64.wrap (s.lost + 1) = s.lost + 1 := by rw [i64_w]; unfold wrap64; omega
    clear hz hl
    have HT : Aside0 (Tp w0 w ((w.setCell ⟨g, 3, none⟩ (.slice none 0 0)).setCell ⟨g, 4, none⟩ (.int .i64 (s.lost + 1))) g (.slice A s.hl.length c) (.slice none 0 0) { s with hl := [], lost := s.lost + 1 }) :=
      ⟨((Tp.refl H.out HB.out).set 3 (.slice none 0 0) (H.out.put_hl (Kd.R_nil _ _ _ _ _)) (fun k hk => by cases hk)).set 4 _ ((H.out.put_hl (Kd.R_nil _ _ _ _ _)).put_lost _) (fun k hk => by cases hk)⟩
    go_enter Try.func83, Try.ntmps83
    go_wp2
    go_end0
    exact ⟨rfl, _, HT.out⟩

end Go.Proofs.Ytballgciakljnaa.PCharsFrames

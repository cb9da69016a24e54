-- Written by a program of this session, in the form of the kit's print, some functions by hand (N.B. not a file of print.sh's).
import Derived.Test.YtbghnfhjaolhaaaPAlarmHoldsx0
import Derived.Test.YtbghnfhjaolhaaaPAlarmHoldsx1
namespace Go.Proofs.Ytbghnfhjaolhaaa.PAlarmHolds
open Go.RowKit Go.Proofs.YtbghnfhjaolhaaaW.PrintWords Go.Proofs.YtbghnfhjaolhaaaW.PrintLast Go.Proofs.YtbghnfhjaolhaaaW.PrintMore Go.Proofs.YtbghnfhjaolhaaaM
attribute [local go_sem] max2_int min2_int max_two min_two max_three min_three max_four min_four   -- for this text's walks alone
set_option linter.unusedVariables false
set_option linter.unusedSimpArgs false

/-! ### alarm_asks: function 82 (by hand) -/
def askN (st : Int) : Nat := if st = 1 then 105 else if st = 2 then 106 else 107
set_option maxRecDepth 100000 in
theorem asks_calls (st : Int) (w : World) : Calls Try.prog 82 #[.int .i64 st] w fun e w' => e = .returned (.func (.func (askN st)) #[] #[]) ∧ Drawn0 w w' := by
  unfold askN
  by_cases h1 : st = 1
  · subst h1
    rw [if_pos rfl]
    go_enter Try.func82, Try.ntmps82
    go_wp2
    go_ret
    exact ⟨rfl, Drawn0.refl _⟩
  · rw [if_neg h1]
    have d1 : (st == 1) = false := beq_eq_false_iff_ne.2 h1
    by_cases h2 : st = 2
    · subst h2
      rw [if_pos rfl]
      go_enter Try.func82, Try.ntmps82
      go_wp2
      go_ret
      exact ⟨rfl, Drawn0.refl _⟩
    · rw [if_neg h2]
      have d2 : (st == 2) = false := beq_eq_false_iff_ne.2 h2
      go_enter Try.func82, Try.ntmps82
      go_wp2
      go_ret
      exact ⟨rfl, Drawn0.refl _⟩
theorem ask_enters (st : Int) (args : Array Value) (W : World) : (callFunc (askN st) args).run Try.prog W = .ok (.enter (askN st) args) W := by
  unfold askN
  split
  · exact enters_ (fn := Try.f105) (by kernel_rfl) (by kernel_rfl) rfl args W
  · split
    · exact enters_ (fn := Try.f106) (by kernel_rfl) (by kernel_rfl) rfl args W
    · exact enters_ (fn := Try.f107) (by kernel_rfl) (by kernel_rfl) rfl args W
set_option maxRecDepth 100000 in
theorem ask_calls (st v : Int) (g : Nat) (s : Wt) (w : World) (h : Bk w g s) (hok : s.Ok) : Calls Try.prog (askN st) #[.pointer (some ⟨g, 0, none⟩), .int .i64 v] w fun e w' => e = .returned (.int .i64 (asksF s st v)) ∧ Drawn0 w w' := by
  have c0 := h.cell 0
  have c1 := h.cell 1
  have c2 := h.cell 2
  simp only [Wt.cells] at c0 c1 c2
  obtain ⟨o1, o2, o3, o4, _⟩ := hok
  clear h
  unfold askN asksF
  have w1 : IntKind.i64.wrap (s.lo + s.sl) = s.lo + s.sl := by rw [i64_w]; unfold wrap64; omega
  have w2 : IntKind.i64.wrap (s.hi - s.sl) = s.hi - s.sl := by rw [i64_w]; unfold wrap64; omega
  clear o1 o2 o3 o4
  by_cases h1 : st = 1
  · rw [if_pos h1, if_pos h1]
    clear h1
    by_cases hh4 : v > s.hi
    · rw [if_pos hh4]
      go_enter Try.func105, Try.ntmps105
      go_wp2
      go_ret
      exact ⟨rfl, Drawn0.refl _⟩
    · rw [if_neg hh4]
      by_cases hh6 : v ≥ s.lo + s.sl
      · rw [if_pos hh6]
        go_enter Try.func105, Try.ntmps105
        go_wp2
        go_quiet (fail)
        go_wp2
        go_ret
        exact ⟨rfl, ⟨⟨_, rfl⟩⟩⟩
      · rw [if_neg hh6]
        go_enter Try.func105, Try.ntmps105
        go_wp2
        go_quiet (fail)
        go_wp2
        go_ret
        exact ⟨rfl, ⟨⟨_, rfl⟩⟩⟩
  · rw [if_neg h1, if_neg h1]
    clear h1
    by_cases h2 : st = 2
    · rw [if_pos h2, if_pos h2]
      clear h2
      by_cases hh4 : v < s.lo
      · rw [if_pos hh4]
        go_enter Try.func106, Try.ntmps106
        go_wp2
        go_ret
        exact ⟨rfl, Drawn0.refl _⟩
      · rw [if_neg hh4]
        by_cases hh6 : v ≤ s.hi - s.sl
        · rw [if_pos hh6]
          go_enter Try.func106, Try.ntmps106
          go_wp2
          go_quiet (fail)
          go_wp2
          go_ret
          exact ⟨rfl, ⟨⟨_, rfl⟩⟩⟩
        · rw [if_neg hh6]
          go_enter Try.func106, Try.ntmps106
          go_wp2
          go_quiet (fail)
          go_wp2
          go_ret
          exact ⟨rfl, ⟨⟨_, rfl⟩⟩⟩
    · rw [if_neg h2, if_neg h2]
      clear h2
      by_cases hh4 : v < s.lo
      · rw [if_pos hh4]
        go_enter Try.func107, Try.ntmps107
        go_wp2
        go_ret
        exact ⟨rfl, Drawn0.refl _⟩
      · rw [if_neg hh4]
        by_cases hh6 : v > s.hi
        · rw [if_pos hh6]
          go_enter Try.func107, Try.ntmps107
          go_wp2
          go_ret
          exact ⟨rfl, Drawn0.refl _⟩
        · rw [if_neg hh6]
          go_enter Try.func107, Try.ntmps107
          go_wp2
          go_ret
          exact ⟨rfl, Drawn0.refl _⟩

end Go.Proofs.Ytbghnfhjaolhaaa.PAlarmHolds

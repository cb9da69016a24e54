-- Written by a program of this session, in the form of the kit's print, some functions by hand (N.B. not a file of print.sh's).
import Derived.Test.YtmekenfndmimhaaPClockTellsx0
import Derived.Test.YtmekenfndmimhaaPClockTellsx9
namespace Go.Proofs.Ytmekenfndmimhaa.PClockTells
open Go.RowKit Go.Proofs.YtmekenfndmimhaaW.PrintWords Go.Proofs.YtmekenfndmimhaaW.PrintLast Go.Proofs.YtmekenfndmimhaaW.PrintMore Go.Proofs.YtmekenfndmimhaaM
attribute [local go_sem] max2_int min2_int max_two min_two max_three min_three max_four min_four   -- for this text's walks alone
set_option linter.unusedVariables false
set_option linter.unusedSimpArgs false

/-! ### bilgeref05_Span: function 33 (by hand) -/
def bilgeref05_Span.f (a0 a1 a2 a3 a4 : Int) : Option Int := (bilgeref05_Right.f a0 a1 a2 a3).bind fun b => if b = true then some (if a4 < 1 then 0 else if 1099511627776 < a4 then 1099511627776 else if 1099511627776 / a0 < a4 then 1099511627776 else a4 * a0) else some 0
theorem bilgeref05_Span_of (a0 a1 a2 a3 : Int) (h : bilgeref05_Right.f a0 a1 a2 a3 = some true) : 1 ≤ a0 := by
  unfold bilgeref05_Right.f at h
  by_cases h1 : a0 ≥ 1
  · exact h1
  · rw [if_neg h1] at h; simp at h
theorem bilgeref05_Span_mul (n a : Int) (h0 : 0 ≤ n) (ha : 1 ≤ a) (h : n ≤ 1099511627776 / a) : 0 ≤ n * a ∧ n * a ≤ 1099511627776 :=
  ⟨Int.mul_nonneg h0 (by omega), Int.mul_le_of_le_ediv (by omega) h⟩
set_option maxHeartbeats 1000000 in
set_option maxRecDepth 100000 in
theorem bilgeref05_Span.calls (a0_0 a0_1 a0_2 a0_3 : Int) (a1 : Int) (r : Int) (w : World) (h : bilgeref05_Span.f a0_0 a0_1 a0_2 a0_3 a1 = some r) :
    Calls Try.prog 33 #[.agg #[.int .i64 a0_0, .int .i64 a0_1, .int .i64 a0_2, .int .i64 a0_3], .int .i64 a1] w fun e w' => e = .returned (.int .i64 r) ∧ Below w.heap.size w w' := by
  unfold bilgeref05_Span.f at h
  obtain ⟨b, hb, h⟩ := Option.bind_eq_some_iff.1 h
  have HR := Aside0.mk hb
  have H := Aside0.mk h
  clear h
  go_enter Try.func33, Try.ntmps33
  go_wp2_with fail
  refine (bilgeref05_Right.calls _ _ _ _ b _ HR.out).mono ?_
  rintro e w1 ⟨rfl, hb1⟩
  have B1 := blk_below (blk_new w _) hb1
  have c0 := blk_cell B1 0
  have HB := Aside0.mk (((Below.refl w.heap.size w).alloc (Nat.le_refl _) (.cells #[.int .i64 a0_0, .int .i64 a0_1, .int .i64 a0_2, .int .i64 a0_3] 34)).trans (hb1.mono (by simp)))
  clear hb1 B1
  cases b with
  | false =>
    obtain rfl := Option.some.inj (H.out.symm.trans (if_neg (by simp)))
    go_wp2_with fail
    all_goals
      go_ret
      exact ⟨rfl, HB.out⟩
  | true =>
    have g1 := bilgeref05_Span_of _ _ _ _ HR.out
    have H2 := Aside0.mk (Option.some.inj (H.out.symm.trans (if_pos rfl)))
    clear H hb
    by_cases h1 : a1 < 1
    · obtain rfl := H2.out.trans (if_pos h1)
      go_wp2_with fail
      go_ret
      exact ⟨rfl, HB.out⟩
    · by_cases h2 : 1099511627776 < a1
      · obtain rfl := H2.out.trans ((if_neg h1).trans (if_pos h2))
        go_wp2_with fail
        go_ret
        exact ⟨rfl, HB.out⟩
      · by_cases h3 : 1099511627776 / a0_0 < a1
        · obtain rfl := H2.out.trans ((if_neg h1).trans ((if_neg h2).trans (if_pos h3)))
          go_wp2_with fail
          go_ret
          exact ⟨rfl, HB.out⟩
        · obtain rfl := H2.out.trans ((if_neg h1).trans ((if_neg h2).trans (if_neg h3)))
          have h4 := bilgeref05_Span_mul a1 a0_0 (by omega) g1 (by omega)
          go_wp2_with fail
          go_ret
          refine ⟨congrArg (fun z => Ending.returned (.int .i64 z)) ?_, HB.out⟩
          first | rfl | (unfold wrap64; omega)

end Go.Proofs.Ytmekenfndmimhaa.PClockTells

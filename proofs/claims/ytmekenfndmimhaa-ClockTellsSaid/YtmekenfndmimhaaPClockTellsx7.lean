-- Written by a program of this session, in the form of the kit's print, some functions by hand (N.B. not a file of print.sh's).
import Derived.Test.YtmekenfndmimhaaPClockTellsx0
import Derived.Test.YtmekenfndmimhaaPClockTellsx2
import Derived.Test.YtmekenfndmimhaaPClockTellsx5
namespace Go.Proofs.Ytmekenfndmimhaa.PClockTells
open Go.RowKit Go.Proofs.YtmekenfndmimhaaW.PrintWords Go.Proofs.YtmekenfndmimhaaW.PrintLast Go.Proofs.YtmekenfndmimhaaW.PrintMore Go.Proofs.YtmekenfndmimhaaM
attribute [local go_sem] max2_int min2_int max_two min_two max_three min_three max_four min_four   -- for this text's walks alone
set_option linter.unusedVariables false
set_option linter.unusedSimpArgs false

/-! ### clock_Span: function 32 (by hand) -/
def clock_Span.f (a0 a1 a2 a3 a4 : Int) : Option Int := (clock_Right.f a0 a1 a2 a3).bind fun b => if b = true then some (if 1099511627776 / a0 < (if a4 < 0 then 0 else if a4 > 1099511627776 then 1099511627776 else a4) then 1099511627776 else (if a4 < 0 then 0 else if a4 > 1099511627776 then 1099511627776 else a4) * a0) else some 0
theorem clock_Span_of (a0 a1 a2 a3 : Int) (h : clock_Right.f a0 a1 a2 a3 = some true) : 1 ≤ a0 ∧ a0 ≤ 16777216 := by
  unfold clock_Right.f at h
  by_cases h1 : 1 ≤ a0
  · rw [if_pos h1] at h
    by_cases h2 : a0 ≤ a1
    · rw [if_pos h2] at h
      by_cases h3 : a1 < a2
      · rw [if_pos h3] at h
        by_cases h4 : a2 ≤ 16777216
        · omega
        · rw [if_neg h4] at h; simp at h
      · rw [if_neg h3] at h; simp at h
    · rw [if_neg h2] at h; simp at h
  · rw [if_neg h1] at h; simp at h
theorem clock_Span_mul (n a : Int) (h0 : 0 ≤ n) (ha : 1 ≤ a) (h : n ≤ 1099511627776 / a) : 0 ≤ n * a ∧ n * a ≤ 1099511627776 :=
  ⟨Int.mul_nonneg h0 (by omega), Int.mul_le_of_le_ediv (by omega) h⟩
set_option maxHeartbeats 1000000 in
set_option maxRecDepth 100000 in
theorem clock_Span.calls (a0_0 a0_1 a0_2 a0_3 : Int) (a1 : Int) (r : Int) (w : World) (h : clock_Span.f a0_0 a0_1 a0_2 a0_3 a1 = some r) :
    Calls Try.prog 32 #[.agg #[.int .i64 a0_0, .int .i64 a0_1, .int .i64 a0_2, .int .i64 a0_3], .int .i64 a1] w fun e w' => e = .returned (.int .i64 r) ∧ Below w.heap.size w w' := by
  unfold clock_Span.f at h
  obtain ⟨b, hb, h⟩ := Option.bind_eq_some_iff.1 h
  obtain ⟨n, hn⟩ : ∃ n, (if a1 < 0 then 0 else if a1 > 1099511627776 then 1099511627776 else a1) = n := ⟨_, rfl⟩
  have hn0 : 0 ≤ n ∧ n ≤ 1099511627776 := by rw [← hn]; repeat' split <;> omega
  have hcl : clock_Clamp.f a1 = some n := congrArg some hn
  rw [hn] at h
  have HR := Aside0.mk hb
  have HC := Aside0.mk hcl
  have H := Aside0.mk h
  obtain ⟨hn1, hn2⟩ := hn0
  clear h hcl hn
  go_enter Try.func32, Try.ntmps32
  go_wp2_with fail
  refine (clock_Right.calls _ _ _ _ b _ HR.out).mono ?_
  rintro e w1 ⟨rfl, hb1⟩
  have B1 := blk_below (blk_new w _) hb1
  have c0 := blk_cell B1 0
  have HB := Aside0.mk (((Below.refl w.heap.size w).alloc (Nat.le_refl _) (.cells #[.int .i64 a0_0, .int .i64 a0_1, .int .i64 a0_2, .int .i64 a0_3] 34)).trans (hb1.mono (by simp)))
  clear hb1 B1
  cases b with
  | false =>
    obtain rfl := Option.some.inj (H.out.symm.trans (if_neg (by simp)))
    go_wp2_with fail
    go_ret
    exact ⟨rfl, HB.out⟩
  | true =>
    have h2 := clock_Span_of _ _ _ _ HR.out
    obtain ⟨g1, g2⟩ := h2
    have H2 := Aside0.mk (Option.some.inj (H.out.symm.trans (if_pos rfl)))
    clear H hb
    go_wp2_with (go_at_call 26; refine (clock_Clamp.calls a1 n _ HC.out).mono ?_; rintro e w' ⟨rfl, ⟨nd, rfl⟩⟩)
    · have h3 : 1099511627776 / a0_0 < n := by assumption
      go_ret
      obtain rfl := H2.out.trans (if_pos h3)
      exact ⟨rfl, pw_below_drewN HB.out _⟩
    · have h3 : n ≤ 1099511627776 / a0_0 := by assumption
      have h4 := clock_Span_mul n a0_0 hn1 g1 h3
      go_ret
      obtain rfl := H2.out.trans (if_neg (by omega))
      refine ⟨congrArg (fun z => Ending.returned (.int .i64 z)) ?_, pw_below_drewN HB.out _⟩
      first | rfl | (unfold wrap64; omega)

end Go.Proofs.Ytmekenfndmimhaa.PClockTells

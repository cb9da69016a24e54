/- Layer 5's law ClockTells of the given program: whether any times may be, any time that may be, sums and differences, and how long bytes take, are the document's. For all times and ints. -/
import Derived.Test.YtmekenfndmimhaaPClockTellsx
import Derived.IntWalk
set_option linter.unusedVariables false
set_option linter.unusedSimpArgs false
namespace Go.Proofs.Ytmekenfndmimhaa.Pure
open Go.RowKit Go.Proofs.Ytmekenfndmimhaa.PClockTells Go.Proofs.YtmekenfndmimhaaW.PrintWords Go.Proofs.YtmekenfndmimhaaW.PrintLast Go.Proofs.YtmekenfndmimhaaW.PrintMore Go.Proofs.YtmekenfndmimhaaM

theorem pl_w64 {i : Int} (h : -9223372036854775808 ≤ i ∧ i ≤ 9223372036854775807) : wrap64 i = i := by unfold wrap64; omega
theorem pl_bind {α β : Type} {x : Option α} {f : α → Option β} {a : α} {r : β} (h : x = some a) (k : f a = some r) : x.bind f = some r := by rw [h]; exact k
theorem pl_rd_nat (l : List Int) (i : Nat) : rd l (i : Int) = l.getD i 0 := by simp [rd]
theorem pl_rd_eq (l : List Int) (i : Int) (n : Nat) (h : i = n) : rd l i = l.getD n 0 := by subst h; exact pl_rd_nat l n

def pl_cl (a : Int) : Int := if a < 0 then 0 else if a > 1099511627776 then 1099511627776 else a
theorem pl_cl_bd (a : Int) : 0 ≤ pl_cl a ∧ pl_cl a ≤ 1099511627776 := by unfold pl_cl; repeat' split <;> omega
theorem pl_cl_min {a : Int} (h : 0 ≤ a) : pl_cl a = min a 1099511627776 := by unfold pl_cl; repeat' split <;> omega
theorem pl_clamp (a : Int) : clock_Clamp.f a = some (pl_cl a) := rfl

theorem pl_clockadd (a b : Int) : clock_Add.f a b = some (pl_cl (pl_cl a + pl_cl b)) := by
  have h1 := pl_cl_bd a
  have h2 := pl_cl_bd b
  unfold clock_Add.f
  rw [pl_clamp, pl_clamp, Option.bind_some, Option.bind_some, pl_w64 (by omega), pl_clamp]; rfl

theorem pl_clocksince (a b : Int) : clock_Since.f a b = some (pl_cl (pl_cl b - pl_cl a)) := by
  have h1 := pl_cl_bd a
  have h2 := pl_cl_bd b
  unfold clock_Since.f
  rw [pl_clamp, pl_clamp, Option.bind_some, Option.bind_some, pl_w64 (by omega), pl_clamp]; rfl

theorem pl_sure05 : bilgelaw05_sure.f = some true := by decide +kernel

theorem pl_refclamp (a : Int) : bilgeref05_Clamp.f a = some (pl_cl a) := by
  unfold bilgeref05_Clamp.f pl_cl
  by_cases h : a < 0
  · rw [if_pos h, if_pos h]
  · rw [if_neg h, if_neg h]
    by_cases g : a > 1099511627776
    · rw [if_pos g, if_pos g]
    · rw [if_neg g, if_neg g]

theorem pl_refadd (a b : Int) : bilgeref05_Add.f a b = some (pl_cl (pl_cl a + pl_cl b)) := by
  have h1 := pl_cl_bd a
  have h2 := pl_cl_bd b
  unfold bilgeref05_Add.f
  rw [pl_refclamp, pl_refclamp, Option.bind_some, Option.bind_some, pl_w64 (by omega), pl_refclamp]; rfl

theorem pl_refsince (a b : Int) : bilgeref05_Since.f a b = some (pl_cl (pl_cl b - pl_cl a)) := by
  have h1 := pl_cl_bd a
  have h2 := pl_cl_bd b
  unfold bilgeref05_Since.f
  rw [pl_refclamp, pl_refclamp, Option.bind_some, Option.bind_some, pl_w64 (by omega), pl_refclamp]; rfl

def pl_ok (c s l t : Int) : Prop := 1 ≤ c ∧ c ≤ s ∧ s < l ∧ l ≤ 16777216 ∧ 0 ≤ t ∧ t ≤ 16777216
instance (c s l t : Int) : Decidable (pl_ok c s l t) := by unfold pl_ok; infer_instance
theorem pl_clockright (c s l t : Int) : clock_Right.f c s l t = some (decide (pl_ok c s l t)) := by
  unfold clock_Right.f
  by_cases h1 : 1 ≤ c
  · rw [if_pos h1]
    by_cases h2 : c ≤ s
    · rw [if_pos h2]
      by_cases h3 : s < l
      · rw [if_pos h3]
        by_cases h4 : l ≤ 16777216
        · rw [if_pos h4]
          by_cases h5 : 0 ≤ t
          · rw [if_pos h5]; simp [pl_ok, h1, h2, h3, h4, h5]
          · rw [if_neg h5]; simp [pl_ok, h5]
        · rw [if_neg h4]; simp [pl_ok, h4]
      · rw [if_neg h3]; simp [pl_ok, h3]
    · rw [if_neg h2]; simp [pl_ok, h2]
  · rw [if_neg h1]; simp [pl_ok, h1]

theorem pl_refright (c s l t : Int) : bilgeref05_Right.f c s l t = some (decide (pl_ok c s l t)) := by
  unfold bilgeref05_Right.f
  by_cases h1 : c ≥ 1
  · rw [if_pos h1]
    by_cases h2 : s ≥ c
    · rw [if_pos h2]
      by_cases h3 : l > s
      · rw [if_pos h3]
        by_cases h4 : t ≥ 0
        · rw [if_pos h4]
          by_cases h5 : l ≤ 16777216
          · rw [if_pos h5]
            exact congrArg some (decide_eq_decide.2 (by unfold pl_ok; omega))
          · rw [if_neg h5]; exact congrArg some (decide_eq_false (by unfold pl_ok; omega)).symm
        · rw [if_neg h4]; exact congrArg some (decide_eq_false (by unfold pl_ok; omega)).symm
      · rw [if_neg h3]; exact congrArg some (decide_eq_false (by unfold pl_ok; omega)).symm
    · rw [if_neg h2]; exact congrArg some (decide_eq_false (by unfold pl_ok; omega)).symm
  · rw [if_neg h1]; exact congrArg some (decide_eq_false (by unfold pl_ok; omega)).symm

def pl_span (c n : Int) : Int := if 1099511627776 / c < pl_cl n then 1099511627776 else pl_cl n * c
theorem pl_clockspan (c s l t n : Int) : clock_Span.f c s l t n = some (if pl_ok c s l t then pl_span c n else 0) := by
  unfold clock_Span.f
  refine pl_bind (pl_clockright c s l t) ?_
  by_cases h : pl_ok c s l t
  · rw [if_pos h, if_pos (by simpa using h)]; rfl
  · rw [if_neg h, if_neg (by simpa using h)]

theorem pl_refspan (c s l t n : Int) : bilgeref05_Span.f c s l t n = some (if pl_ok c s l t then pl_span c n else 0) := by
  unfold bilgeref05_Span.f
  refine pl_bind (pl_refright c s l t) ?_
  by_cases h : pl_ok c s l t
  · rw [if_pos h, if_pos (by simpa using h)]
    congr 1
    have hc : 1 ≤ c := h.1
    have hq : 0 ≤ 1099511627776 / c := Int.ediv_nonneg (by omega) (by omega)
    have hq1 : 1099511627776 / c ≤ 1099511627776 := Int.ediv_le_self _ (by omega)
    unfold pl_span
    by_cases h1 : n < 1
    · rw [if_pos h1]
      have e : pl_cl n = 0 := by unfold pl_cl; repeat' split <;> omega
      rw [e, if_neg (by omega), Int.zero_mul]
    · rw [if_neg h1]
      by_cases h2 : 1099511627776 < n
      · rw [if_pos h2]
        have e : pl_cl n = 1099511627776 := by unfold pl_cl; repeat' split <;> omega
        rw [e]
        by_cases h3 : 1099511627776 / c < 1099511627776
        · rw [if_pos h3]
        · rw [if_neg h3]
          have hm := Int.ediv_mul_le 1099511627776 (b := c) (by omega)
          have : 1099511627776 / c = 1099511627776 := by omega
          rw [this] at hm
          have : (1099511627776 : Int) * 1 ≤ 1099511627776 * c := Int.mul_le_mul_of_nonneg_left hc (by omega)
          omega
      · rw [if_neg h2]
        have e : pl_cl n = n := by unfold pl_cl; repeat' split <;> omega
        rw [e]
  · rw [if_neg h, if_neg (by simpa using h)]

theorem ClockTells : bilgelaw05_ClockTells.Pure := by
  intro x0 x1 n _ _ _
  unfold bilgelaw05_ClockTells.f
  refine pl_bind (pl_clockright _ _ _ _) ?_
  refine pl_bind (pl_refright _ _ _ _) ?_
  rw [if_pos (by simp)]
  refine pl_bind (pl_clamp _) ?_
  refine pl_bind (pl_refclamp _) ?_
  rw [if_pos rfl]
  refine pl_bind (pl_clockadd _ _) ?_
  refine pl_bind (pl_refadd _ _) ?_
  rw [if_pos rfl]
  refine pl_bind (pl_clocksince _ _) ?_
  refine pl_bind (pl_refsince _ _) ?_
  rw [if_pos rfl]
  refine pl_bind (pl_clockspan _ _ _ _ _) ?_
  refine pl_bind (pl_refspan _ _ _ _ _) ?_
  rw [if_pos rfl, pl_sure05]; rfl

end Go.Proofs.Ytmekenfndmimhaa.Pure

/- Layer 5's law ClockGoes of the given program: what is added to a time is what has passed, up to the end of time; added one behind the other it is added at once. For all ints. -/
import Derived.Test.YtmekenfndmimhaaPClockGoesx
import Derived.IntWalk
set_option linter.unusedVariables false
set_option linter.unusedSimpArgs false
namespace Go.Proofs.Ytmekenfndmimhaa.Pure
open Go.RowKit Go.Proofs.Ytmekenfndmimhaa.PClockGoes Go.Proofs.YtmekenfndmimhaaW.PrintWords Go.Proofs.YtmekenfndmimhaaW.PrintLast Go.Proofs.YtmekenfndmimhaaW.PrintMore Go.Proofs.YtmekenfndmimhaaM

theorem pl_w64 {i : Int} (h : -9223372036854775808 ≤ i ∧ i ≤ 9223372036854775807) : wrap64 i = i := by unfold wrap64; omega
theorem pl_bind {α β : Type} {x : Option α} {f : α → Option β} {a : α} {r : β} (h : x = some a) (k : f a = some r) : x.bind f = some r := by rw [h]; exact k
theorem pl_rd_nat (l : List Int) (i : Nat) : rd l (i : Int) = l.getD i 0 := by simp [rd]
theorem pl_rd_eq (l : List Int) (i : Int) (n : Nat) (h : i = n) : rd l i = l.getD n 0 := by subst h; exact pl_rd_nat l n

def pl_cl (a : Int) : Int := if a < 0 then 0 else if a > 1099511627776 then 1099511627776 else a
theorem pl_cl_bd (a : Int) : 0 ≤ pl_cl a ∧ pl_cl a ≤ 1099511627776 := by unfold pl_cl; repeat' split <;> omega
theorem pl_cl_min {a : Int} (h : 0 ≤ a) : pl_cl a = min a 1099511627776 := by unfold pl_cl; repeat' split <;> omega
theorem pl_clamp (a : Int) : clock_Clamp.f a = some (pl_cl a) := rfl

theorem pl_clockadd (a b : Int) : clock_Add.f a b = some (pl_cl (pl_cl a + pl_cl b)) := by
  have h1 := pl_cl_bd a
  have h2 := pl_cl_bd b
  unfold clock_Add.f
  rw [pl_clamp, pl_clamp, Option.bind_some, Option.bind_some, pl_w64 (by omega), pl_clamp]; rfl

theorem pl_clocksince (a b : Int) : clock_Since.f a b = some (pl_cl (pl_cl b - pl_cl a)) := by
  have h1 := pl_cl_bd a
  have h2 := pl_cl_bd b
  unfold clock_Since.f
  rw [pl_clamp, pl_clamp, Option.bind_some, Option.bind_some, pl_w64 (by omega), pl_clamp]; rfl

theorem pl_sure05 : bilgelaw05_sure.f = some true := by decide +kernel

theorem pl_assoc (a b c : Int) : pl_cl (pl_cl (pl_cl (pl_cl a + pl_cl b)) + pl_cl c) = pl_cl (pl_cl a + pl_cl (pl_cl (pl_cl b + pl_cl c))) := by
  have h1 := pl_cl_bd a
  have h2 := pl_cl_bd b
  have h3 := pl_cl_bd c
  generalize pl_cl a = x at *
  generalize pl_cl b = y at *
  generalize pl_cl c = z at *
  rw [pl_cl_min (a := x + y) (by omega), pl_cl_min (a := y + z) (by omega), pl_cl_min (a := min (x + y) 1099511627776) (by omega), pl_cl_min (a := min (y + z) 1099511627776) (by omega), pl_cl_min (by omega), pl_cl_min (by omega)]
  omega
theorem ClockGoes : bilgelaw05_ClockGoes.Pure := by
  intro a b c _ _ _
  refine ⟨1, ?_⟩
  unfold bilgelaw05_ClockGoes.f
  have h1 := pl_cl_bd a
  have h2 := pl_cl_bd b
  have h0 := pl_cl_bd (pl_cl a + pl_cl b)
  refine pl_bind (pl_clockadd _ _) ?_
  rw [if_neg (by omega), if_neg (by omega)]
  refine pl_bind (pl_clamp a) ?_
  have hge : ¬ pl_cl (pl_cl a + pl_cl b) < pl_cl a := by
    have e : pl_cl (pl_cl a + pl_cl b) = if pl_cl a + pl_cl b < 0 then 0 else if pl_cl a + pl_cl b > 1099511627776 then 1099511627776 else pl_cl a + pl_cl b := rfl
    rw [e]
    repeat' split
    all_goals omega
  rw [if_neg hge]
  refine pl_bind (pl_clockadd _ _) ?_
  refine pl_bind (pl_clockadd _ _) ?_
  refine pl_bind (pl_clockadd _ _) ?_
  rw [pl_assoc, bne_self_eq_false]
  have e : pl_cl (pl_cl a + pl_cl b) = if pl_cl a + pl_cl b > 1099511627776 then 1099511627776 else pl_cl a + pl_cl b := by
    rw [show pl_cl (pl_cl a + pl_cl b) = if pl_cl a + pl_cl b < 0 then 0 else if pl_cl a + pl_cl b > 1099511627776 then 1099511627776 else pl_cl a + pl_cl b from rfl, if_neg (by omega)]
  generalize hx : pl_cl (pl_cl a + pl_cl b) = x at *
  have hx0 : pl_cl x = x := by
    unfold pl_cl; rw [if_neg (by omega), if_neg (by omega)]
  have ha0 : pl_cl (pl_cl a) = pl_cl a := by
    rw [show pl_cl (pl_cl a) = if pl_cl a < 0 then 0 else if pl_cl a > 1099511627776 then 1099511627776 else pl_cl a from rfl, if_neg (by omega), if_neg (by omega)]
  have hz : pl_cl (pl_cl (pl_cl a) - pl_cl x) = 0 := by
    rw [ha0, hx0]
    by_cases hq : pl_cl a - x < 0
    · rw [show pl_cl (pl_cl a - x) = if pl_cl a - x < 0 then 0 else if pl_cl a - x > 1099511627776 then 1099511627776 else pl_cl a - x from rfl, if_pos hq]
    · rw [show pl_cl a - x = 0 by omega]; rfl
  simp only [bilgelaw05_ClockGoes.j0]
  rw [if_neg (by simp)]
  by_cases hm : x = 1099511627776
  · rw [if_pos hm]
    refine pl_bind (pl_clamp a) ?_
    refine pl_bind (pl_clocksince _ _) ?_
    rw [hz, if_pos rfl, pl_sure05]; rfl
  · rw [if_neg hm]
    refine pl_bind (pl_clocksince _ _) ?_
    refine pl_bind (pl_clamp b) ?_
    have hs : pl_cl (pl_cl x - pl_cl a) = pl_cl b := by
      rw [hx0]
      have : ¬ pl_cl a + pl_cl b > 1099511627776 := by intro h; rw [if_pos h] at e; exact hm e
      rw [if_neg this] at e
      rw [show x - pl_cl a = pl_cl b by omega]
      rw [show pl_cl (pl_cl b) = if pl_cl b < 0 then 0 else if pl_cl b > 1099511627776 then 1099511627776 else pl_cl b from rfl, if_neg (by omega), if_neg (by omega)]
    rw [hs, if_pos rfl]
    refine pl_bind (pl_clamp a) ?_
    refine pl_bind (pl_clocksince _ _) ?_
    rw [hz, if_pos rfl, pl_sure05]; rfl

end Go.Proofs.Ytmekenfndmimhaa.Pure

/- Layer 5's law ClockTimes of the given program: the times of any line, or that it has none, are the document's. For all ints. -/
import Derived.Test.YtmekenfndmimhaaPClockTimesx
import Derived.IntWalk
set_option linter.unusedVariables false
set_option linter.unusedSimpArgs false
namespace Go.Proofs.Ytmekenfndmimhaa.Pure
open Go.RowKit Go.Proofs.Ytmekenfndmimhaa.PClockTimes Go.Proofs.YtmekenfndmimhaaW.PrintWords Go.Proofs.YtmekenfndmimhaaW.PrintLast Go.Proofs.YtmekenfndmimhaaW.PrintMore Go.Proofs.YtmekenfndmimhaaM

theorem pl_w64 {i : Int} (h : -9223372036854775808 ≤ i ∧ i ≤ 9223372036854775807) : wrap64 i = i := by unfold wrap64; omega
theorem pl_bind {α β : Type} {x : Option α} {f : α → Option β} {a : α} {r : β} (h : x = some a) (k : f a = some r) : x.bind f = some r := by rw [h]; exact k
theorem pl_rd_nat (l : List Int) (i : Nat) : rd l (i : Int) = l.getD i 0 := by simp [rd]
theorem pl_rd_eq (l : List Int) (i : Int) (n : Nat) (h : i = n) : rd l i = l.getD n 0 := by subst h; exact pl_rd_nat l n

def pl_ok (c s l t : Int) : Prop := 1 ≤ c ∧ c ≤ s ∧ s < l ∧ l ≤ 16777216 ∧ 0 ≤ t ∧ t ≤ 16777216
instance (c s l t : Int) : Decidable (pl_ok c s l t) := by unfold pl_ok; infer_instance
theorem pl_clockright (c s l t : Int) : clock_Right.f c s l t = some (decide (pl_ok c s l t)) := by
  unfold clock_Right.f
  by_cases h1 : 1 ≤ c
  · rw [if_pos h1]
    by_cases h2 : c ≤ s
    · rw [if_pos h2]
      by_cases h3 : s < l
      · rw [if_pos h3]
        by_cases h4 : l ≤ 16777216
        · rw [if_pos h4]
          by_cases h5 : 0 ≤ t
          · rw [if_pos h5]; simp [pl_ok, h1, h2, h3, h4, h5]
          · rw [if_neg h5]; simp [pl_ok, h5]
        · rw [if_neg h4]; simp [pl_ok, h4]
      · rw [if_neg h3]; simp [pl_ok, h3]
    · rw [if_neg h2]; simp [pl_ok, h2]
  · rw [if_neg h1]; simp [pl_ok, h1]

def pl_up (a b : Int) : Int := (a + b - 1) / b
theorem pl_up_bd (a b : Int) (ha : 0 ≤ a ∧ a ≤ 10000000000000) (hb : 1 ≤ b ∧ b ≤ 10000000) : 0 ≤ pl_up a b ∧ pl_up a b ≤ 10000010000000 := by
  unfold pl_up
  exact ⟨Int.ediv_nonneg (by omega) (by omega), Int.le_trans (Int.ediv_le_self _ (by omega)) (by omega)⟩
def pl_bad (a0 a1 a2 : Int) : Prop := a0 < 1 ∨ 1000000 < a0 ∨ a1 < 1 ∨ 1000000000 < a1 ∨ a2 < 0 ∨ 16777216 < a2
instance (a0 a1 a2 : Int) : Decidable (pl_bad a0 a1 a2) := by unfold pl_bad; infer_instance
def pl_s (a0 a1 : Int) : Int := if 19200 < a0 then pl_up (a1 * 750) 1000000 else pl_up (33 * a1) (2 * a0)
def pl_l (a0 a1 : Int) : Int := if 19200 < a0 then pl_up (a1 * 1750) 1000000 else pl_up (77 * a1) (2 * a0)
def pl_of (a0 a1 a2 : Int) : Option (Int × Int × Int) := if pl_bad a0 a1 a2 then none else if pl_ok (pl_up (11 * a1) a0) (pl_up (11 * a1) a0 + pl_s a0 a1) (pl_up (11 * a1) a0 + pl_l a0 a1) a2 then some (pl_up (11 * a1) a0, pl_up (11 * a1) a0 + pl_s a0 a1, pl_up (11 * a1) a0 + pl_l a0 a1) else none
theorem pl_clockof (a0 a1 a2 : Int) : clock_Of.f a0 a1 a2 = some (match pl_of a0 a1 a2 with | some (c, s, l) => (c, s, l, a2, 0) | none => (0, 0, 0, 0, 11)) := by
  unfold clock_Of.f pl_of
  by_cases h : pl_bad a0 a1 a2
  · rw [if_pos h]
    exact if_pos h
  · rw [if_neg h]
    refine (if_neg h).trans ?_
    refine pl_bind (pl_clockright _ _ _ _) ?_
    have e1 : (if 19200 < a0 then (a1 * 750 + 1000000 - 1) / 1000000 else (33 * a1 + 2 * a0 - 1) / (2 * a0)) = pl_s a0 a1 := rfl
    have e2 : (if 19200 < a0 then (a1 * 1750 + 1000000 - 1) / 1000000 else (77 * a1 + 2 * a0 - 1) / (2 * a0)) = pl_l a0 a1 := rfl
    have e3 : (11 * a1 + a0 - 1) / a0 = pl_up (11 * a1) a0 := rfl
    rw [e1, e2, e3]
    by_cases g : pl_ok (pl_up (11 * a1) a0) (pl_up (11 * a1) a0 + pl_s a0 a1) (pl_up (11 * a1) a0 + pl_l a0 a1) a2
    · rw [if_pos (by simpa using g), if_pos g]
    · rw [if_neg (by simpa using g), if_neg g]

theorem pl_refright (c s l t : Int) : bilgeref05_Right.f c s l t = some (decide (pl_ok c s l t)) := by
  unfold bilgeref05_Right.f
  by_cases h1 : c ≥ 1
  · rw [if_pos h1]
    by_cases h2 : s ≥ c
    · rw [if_pos h2]
      by_cases h3 : l > s
      · rw [if_pos h3]
        by_cases h4 : t ≥ 0
        · rw [if_pos h4]
          by_cases h5 : l ≤ 16777216
          · rw [if_pos h5]
            exact congrArg some (decide_eq_decide.2 (by unfold pl_ok; omega))
          · rw [if_neg h5]; exact congrArg some (decide_eq_false (by unfold pl_ok; omega)).symm
        · rw [if_neg h4]; exact congrArg some (decide_eq_false (by unfold pl_ok; omega)).symm
      · rw [if_neg h3]; exact congrArg some (decide_eq_false (by unfold pl_ok; omega)).symm
    · rw [if_neg h2]; exact congrArg some (decide_eq_false (by unfold pl_ok; omega)).symm
  · rw [if_neg h1]; exact congrArg some (decide_eq_false (by unfold pl_ok; omega)).symm

theorem pl_up_ref (a b : Int) (ha : 0 ≤ a ∧ a ≤ 10000000000000) (hb : 1 ≤ b ∧ b ≤ 10000000) : bilgeref05_up.f a b = some (pl_up a b) := by
  unfold bilgeref05_up.f pl_up
  rw [if_neg (by omega)]
  have hq0 : 0 ≤ a / b := Int.ediv_nonneg ha.1 (by omega)
  have hq1 : a / b ≤ a := Int.ediv_le_self _ ha.1
  have he := Int.emod_add_mul_ediv a b
  have hm0 := Int.emod_nonneg a (b := b) (by omega)
  have hm1 := Int.emod_lt_of_pos a (b := b) (by omega)
  rw [Int.tmod_eq_emod_of_nonneg ha.1, Int.tdiv_eq_ediv_of_nonneg ha.1]
  by_cases h : a % b > 0
  · rw [if_pos h, pl_w64 (i := a / b) (by omega), pl_w64 (by omega)]
    congr 1
    have : (a + b - 1) / b = a / b + 1 := by
      rw [show a + b - 1 = (a % b - 1) + b * (a / b + 1) by rw [Int.mul_add]; omega, Int.add_mul_ediv_left _ _ (by omega), Int.ediv_eq_zero_of_lt (by omega) (by omega)]
      omega
    exact this.symm
  · rw [if_neg h, pl_w64 (by omega)]
    congr 1
    have : (a + b - 1) / b = a / b := by
      rw [show a + b - 1 = (b - 1) + b * (a / b) by omega, Int.add_mul_ediv_left _ _ (by omega), Int.ediv_eq_zero_of_lt (by omega) (by omega)]
      omega
    exact this.symm

theorem pl_refof_j (k : Nat) (a0 a1 a2 : Int) (h : ¬ pl_bad a0 a1 a2) : bilgeref05_Of.j0 (k + 1) a0 a1 a2 false = some (match pl_of a0 a1 a2 with | some (c, s, l) => (c, s, l, a2, true) | none => (0, 0, 0, 0, false)) := by
  simp only [bilgeref05_Of.j0]
  have hb := h
  unfold pl_bad at hb
  have b1 := pl_up_bd (11 * a1) a0 (by omega) (by omega)
  have b2 := pl_up_bd (33 * a1) (2 * a0) (by omega) (by omega)
  have b3 := pl_up_bd (77 * a1) (2 * a0) (by omega) (by omega)
  have b4 := pl_up_bd (a1 * 750) 1000000 (by omega) (by omega)
  have b5 := pl_up_bd (a1 * 1750) 1000000 (by omega) (by omega)
  unfold pl_of
  rw [if_neg (by simp), if_neg h, pl_w64 (i := 11 * a1) (by omega), pl_w64 (i := 33 * a1) (by omega), pl_w64 (i := 2 * a0) (by omega), pl_w64 (i := 77 * a1) (by omega), pl_w64 (i := a1 * 750) (by omega), pl_w64 (i := a1 * 1750) (by omega)]
  refine pl_bind (pl_up_ref _ _ (by omega) (by omega)) ?_
  refine pl_bind (pl_up_ref _ _ (by omega) (by omega)) ?_
  refine pl_bind (pl_up_ref _ _ (by omega) (by omega)) ?_
  unfold pl_s pl_l
  by_cases hf : a0 > 19200
  · rw [if_pos hf, if_pos hf, if_pos hf]
    refine pl_bind (pl_up_ref _ _ (by omega) (by omega)) ?_
    refine pl_bind (pl_up_ref _ _ (by omega) (by omega)) ?_
    rw [pl_w64 (i := pl_up (11 * a1) a0 + pl_up (a1 * 750) 1000000) (by omega), pl_w64 (i := pl_up (11 * a1) a0 + pl_up (a1 * 1750) 1000000) (by omega)]
    refine pl_bind (pl_refright _ _ _ _) ?_
    by_cases g : pl_ok (pl_up (11 * a1) a0) (pl_up (11 * a1) a0 + pl_up (a1 * 750) 1000000) (pl_up (11 * a1) a0 + pl_up (a1 * 1750) 1000000) a2
    · rw [if_pos (by simpa using g), if_pos g]
    · rw [if_neg (by simpa using g), if_neg g]
  · rw [if_neg hf, if_neg hf, if_neg hf]
    rw [pl_w64 (i := pl_up (11 * a1) a0 + pl_up (33 * a1) (2 * a0)) (by omega), pl_w64 (i := pl_up (11 * a1) a0 + pl_up (77 * a1) (2 * a0)) (by omega)]
    refine pl_bind (pl_refright _ _ _ _) ?_
    by_cases g : pl_ok (pl_up (11 * a1) a0) (pl_up (11 * a1) a0 + pl_up (33 * a1) (2 * a0)) (pl_up (11 * a1) a0 + pl_up (77 * a1) (2 * a0)) a2
    · rw [if_pos (by simpa using g), if_pos g]
    · rw [if_neg (by simpa using g), if_neg g]
theorem pl_refof (k : Nat) (a0 a1 a2 : Int) : bilgeref05_Of.f (k + 1) a0 a1 a2 = some (match pl_of a0 a1 a2 with | some (c, s, l) => (c, s, l, a2, true) | none => (0, 0, 0, 0, false)) := by
  have hbad : pl_bad a0 a1 a2 → bilgeref05_Of.j0 (k + 1) a0 a1 a2 true = some (match pl_of a0 a1 a2 with | some (c, s, l) => (c, s, l, a2, true) | none => (0, 0, 0, 0, false)) := by
    intro h
    simp only [bilgeref05_Of.j0]
    unfold pl_of
    rw [if_pos h]; rfl
  unfold bilgeref05_Of.f
  by_cases h1 : a0 < 1
  · rw [if_pos h1]; exact hbad (by unfold pl_bad; omega)
  · rw [if_neg h1]
    by_cases h2 : a0 > 1000000
    · rw [if_pos h2]; exact hbad (by unfold pl_bad; omega)
    · rw [if_neg h2]
      by_cases h3 : a1 < 1
      · rw [if_pos h3]; exact hbad (by unfold pl_bad; omega)
      · rw [if_neg h3]
        by_cases h4 : a1 > 1000000000
        · rw [if_pos h4]; exact hbad (by unfold pl_bad; omega)
        · rw [if_neg h4]
          by_cases h5 : a2 < 0
          · rw [if_pos h5]; exact hbad (by unfold pl_bad; omega)
          · rw [if_neg h5]
            by_cases h6 : a2 > 16777216
            · rw [decide_eq_true h6]; exact hbad (by unfold pl_bad; omega)
            · rw [decide_eq_false h6]; exact pl_refof_j k a0 a1 a2 (by unfold pl_bad; omega)

theorem pl_sure05 : bilgelaw05_sure.f = some true := by decide +kernel

theorem ClockTimes : bilgelaw05_ClockTimes.Pure := by
  intro a b c _ _ _
  refine ⟨1, ?_⟩
  unfold bilgelaw05_ClockTimes.f
  refine pl_bind (pl_clockof a b c) ?_
  refine pl_bind (pl_refof 0 a b c) ?_
  cases pl_of a b c with
  | none => simp only [beq_self_eq_true, Bool.and_self, if_true, pl_sure05]; rfl
  | some x =>
    obtain ⟨p, s, l⟩ := x
    simp only [beq_self_eq_true, Bool.and_self, if_true, pl_sure05]; rfl

end Go.Proofs.Ytmekenfndmimhaa.Pure

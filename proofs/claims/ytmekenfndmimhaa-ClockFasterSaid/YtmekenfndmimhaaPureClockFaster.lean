/- Layer 5's law ClockFaster of the given program: times that are told may be; a faster line has none that are longer, where the same rule holds for both. For all ints. -/
import Derived.Test.YtmekenfndmimhaaPClockFasterx
import Derived.IntWalk
set_option linter.unusedVariables false
set_option linter.unusedSimpArgs false
namespace Go.Proofs.Ytmekenfndmimhaa.Pure
open Go.RowKit Go.Proofs.Ytmekenfndmimhaa.PClockFaster Go.Proofs.YtmekenfndmimhaaW.PrintWords Go.Proofs.YtmekenfndmimhaaW.PrintLast Go.Proofs.YtmekenfndmimhaaW.PrintMore Go.Proofs.YtmekenfndmimhaaM

theorem pl_w64 {i : Int} (h : -9223372036854775808 ≤ i ∧ i ≤ 9223372036854775807) : wrap64 i = i := by unfold wrap64; omega
theorem pl_bind {α β : Type} {x : Option α} {f : α → Option β} {a : α} {r : β} (h : x = some a) (k : f a = some r) : x.bind f = some r := by rw [h]; exact k
theorem pl_rd_nat (l : List Int) (i : Nat) : rd l (i : Int) = l.getD i 0 := by simp [rd]
theorem pl_rd_eq (l : List Int) (i : Int) (n : Nat) (h : i = n) : rd l i = l.getD n 0 := by subst h; exact pl_rd_nat l n

def pl_ok (c s l t : Int) : Prop := 1 ≤ c ∧ c ≤ s ∧ s < l ∧ l ≤ 16777216 ∧ 0 ≤ t ∧ t ≤ 16777216
instance (c s l t : Int) : Decidable (pl_ok c s l t) := by unfold pl_ok; infer_instance
theorem pl_clockright (c s l t : Int) : clock_Right.f c s l t = some (decide (pl_ok c s l t)) := by
  unfold clock_Right.f
  by_cases h1 : 1 ≤ c
  · rw [if_pos h1]
    by_cases h2 : c ≤ s
    · rw [if_pos h2]
      by_cases h3 : s < l
      · rw [if_pos h3]
        by_cases h4 : l ≤ 16777216
        · rw [if_pos h4]
          by_cases h5 : 0 ≤ t
          · rw [if_pos h5]; simp [pl_ok, h1, h2, h3, h4, h5]
          · rw [if_neg h5]; simp [pl_ok, h5]
        · rw [if_neg h4]; simp [pl_ok, h4]
      · rw [if_neg h3]; simp [pl_ok, h3]
    · rw [if_neg h2]; simp [pl_ok, h2]
  · rw [if_neg h1]; simp [pl_ok, h1]

def pl_up (a b : Int) : Int := (a + b - 1) / b
theorem pl_up_bd (a b : Int) (ha : 0 ≤ a ∧ a ≤ 10000000000000) (hb : 1 ≤ b ∧ b ≤ 10000000) : 0 ≤ pl_up a b ∧ pl_up a b ≤ 10000010000000 := by
  unfold pl_up
  exact ⟨Int.ediv_nonneg (by omega) (by omega), Int.le_trans (Int.ediv_le_self _ (by omega)) (by omega)⟩
def pl_bad (a0 a1 a2 : Int) : Prop := a0 < 1 ∨ 1000000 < a0 ∨ a1 < 1 ∨ 1000000000 < a1 ∨ a2 < 0 ∨ 16777216 < a2
instance (a0 a1 a2 : Int) : Decidable (pl_bad a0 a1 a2) := by unfold pl_bad; infer_instance
def pl_s (a0 a1 : Int) : Int := if 19200 < a0 then pl_up (a1 * 750) 1000000 else pl_up (33 * a1) (2 * a0)
def pl_l (a0 a1 : Int) : Int := if 19200 < a0 then pl_up (a1 * 1750) 1000000 else pl_up (77 * a1) (2 * a0)
def pl_of (a0 a1 a2 : Int) : Option (Int × Int × Int) := if pl_bad a0 a1 a2 then none else if pl_ok (pl_up (11 * a1) a0) (pl_up (11 * a1) a0 + pl_s a0 a1) (pl_up (11 * a1) a0 + pl_l a0 a1) a2 then some (pl_up (11 * a1) a0, pl_up (11 * a1) a0 + pl_s a0 a1, pl_up (11 * a1) a0 + pl_l a0 a1) else none
theorem pl_clockof (a0 a1 a2 : Int) : clock_Of.f a0 a1 a2 = some (match pl_of a0 a1 a2 with | some (c, s, l) => (c, s, l, a2, 0) | none => (0, 0, 0, 0, 11)) := by
  unfold clock_Of.f pl_of
  by_cases h : pl_bad a0 a1 a2
  · rw [if_pos h]
    exact if_pos h
  · rw [if_neg h]
    refine (if_neg h).trans ?_
    refine pl_bind (pl_clockright _ _ _ _) ?_
    have e1 : (if 19200 < a0 then (a1 * 750 + 1000000 - 1) / 1000000 else (33 * a1 + 2 * a0 - 1) / (2 * a0)) = pl_s a0 a1 := rfl
    have e2 : (if 19200 < a0 then (a1 * 1750 + 1000000 - 1) / 1000000 else (77 * a1 + 2 * a0 - 1) / (2 * a0)) = pl_l a0 a1 := rfl
    have e3 : (11 * a1 + a0 - 1) / a0 = pl_up (11 * a1) a0 := rfl
    rw [e1, e2, e3]
    by_cases g : pl_ok (pl_up (11 * a1) a0) (pl_up (11 * a1) a0 + pl_s a0 a1) (pl_up (11 * a1) a0 + pl_l a0 a1) a2
    · rw [if_pos (by simpa using g), if_pos g]
    · rw [if_neg (by simpa using g), if_neg g]

theorem pl_sure05 : bilgelaw05_sure.f = some true := by decide +kernel

theorem pl_up_le (a b c : Int) (ha : 0 ≤ a) (hb : 1 ≤ b) (hc : b ≤ c) : pl_up a c ≤ pl_up a b := by
  have h1 := Int.lt_ediv_add_one_mul_self (a + b - 1) (b := b) (by omega)
  have hq : 0 ≤ pl_up a b := Int.ediv_nonneg (by omega) (by omega)
  change a + b - 1 < (pl_up a b + 1) * b at h1
  have h2 : pl_up a b * b ≤ pl_up a b * c := Int.mul_le_mul_of_nonneg_left hc hq
  have h3 : a + c - 1 < (pl_up a b + 1) * c := by
    rw [Int.add_mul] at h1 ⊢
    omega
  have h4 := Int.ediv_lt_of_lt_mul (by omega) h3
  change pl_up a c < pl_up a b + 1 at h4
  omega
theorem pl_of_some {a0 a1 a2 : Int} {x : Int × Int × Int} (h : pl_of a0 a1 a2 = some x) : ¬ pl_bad a0 a1 a2 ∧ x = (pl_up (11 * a1) a0, pl_up (11 * a1) a0 + pl_s a0 a1, pl_up (11 * a1) a0 + pl_l a0 a1) ∧ pl_ok x.1 x.2.1 x.2.2 a2 := by
  unfold pl_of at h
  by_cases hb : pl_bad a0 a1 a2
  · rw [if_pos hb] at h; cases h
  · rw [if_neg hb] at h
    split at h
    · rename_i g
      obtain rfl := Option.some.inj h
      exact ⟨hb, rfl, g⟩
    · cases h
theorem pl_faster (a0 a1 b0 : Int) (hb : ¬ pl_bad a0 a1 0) (hb' : ¬ pl_bad b0 a1 0) (hle : a0 ≤ b0) (hr : b0 > 19200 ↔ a0 > 19200) :
    pl_up (11 * a1) b0 ≤ pl_up (11 * a1) a0 ∧ pl_s b0 a1 ≤ pl_s a0 a1 ∧ pl_l b0 a1 ≤ pl_l a0 a1 := by
  unfold pl_bad at hb hb'
  refine ⟨pl_up_le _ _ _ (by omega) (by omega) (by omega), ?_, ?_⟩
  · unfold pl_s
    by_cases h : 19200 < a0
    · rw [if_pos h, if_pos (by omega)]; exact Int.le_refl _
    · rw [if_neg h, if_neg (by omega)]; exact pl_up_le _ _ _ (by omega) (by omega) (by omega)
  · unfold pl_l
    by_cases h : 19200 < a0
    · rw [if_pos h, if_pos (by omega)]; exact Int.le_refl _
    · rw [if_neg h, if_neg (by omega)]; exact pl_up_le _ _ _ (by omega) (by omega) (by omega)
theorem ClockFaster : bilgelaw05_ClockFaster.Pure := by
  intro a0 more a1 _ hmore _
  have hm := wf_i64 hmore
  refine ⟨1, ?_⟩
  unfold bilgelaw05_ClockFaster.f
  refine pl_bind (pl_clockof a0 a1 0) ?_
  cases h1 : pl_of a0 a1 0 with
  | none => simp only [beq_self_eq_true, Bool.and_self, if_true, pl_sure05]; rfl
  | some x =>
    obtain ⟨hb, rfl, hok⟩ := pl_of_some h1
    dsimp only at hok
    refine (if_pos rfl).trans ?_
    refine pl_bind (pl_clockright _ _ _ _) ?_
    rw [if_pos (by simpa using hok)]
    have hbb := hb
    unfold pl_bad at hbb
    have hf : ∃ f, wrap64 (a0 + mx 0 (mn more (wrap64 (1000000 - a0)))) = f ∧ a0 ≤ f := by
      refine ⟨_, rfl, ?_⟩
      rw [pl_w64 (i := 1000000 - a0) (by omega)]
      have : 0 ≤ mx 0 (mn more (1000000 - a0)) ∧ mx 0 (mn more (1000000 - a0)) ≤ 1000000 := by
        unfold mx mn
        repeat' split
        all_goals omega
      rw [pl_w64 (by omega)]
      omega
    obtain ⟨f, hf, hle⟩ := hf
    rw [hf]
    refine pl_bind (pl_clockof f a1 0) ?_
    cases h2 : pl_of f a1 0 with
    | none =>
      refine (if_neg (by decide)).trans ?_
      simp only [bilgelaw05_ClockFaster.j0]
      rw [if_pos trivial, pl_sure05]; rfl
    | some y =>
      obtain ⟨hb2, rfl, hok2⟩ := pl_of_some h2
      refine (if_pos rfl).trans ?_
      simp only [bilgelaw05_ClockFaster.j0]
      by_cases hr : f > 19200 ↔ a0 > 19200
      · have hd : (decide (f > 19200) != decide (a0 > 19200)) = false := by
          rw [decide_eq_decide.2 hr, bne_self_eq_false]
        obtain ⟨g1, g2, g3⟩ := pl_faster a0 a1 f hb hb2 hle hr
        rw [hd, if_neg (by simp), if_pos g1, if_pos (by omega), if_pos (by omega), pl_sure05]; rfl
      · have hd : (decide (f > 19200) != decide (a0 > 19200)) = true := by
          rw [bne_iff_ne]
          intro e
          exact hr (decide_eq_decide.1 e)
        rw [hd, if_pos rfl, pl_sure05]; rfl

end Go.Proofs.Ytmekenfndmimhaa.Pure

/- Layer 42's law RampTells of the given program: whether any ramp may be, its value at any time; any two scripts as one. -/
import Derived.Test.YtballgciakljnaaPRampTellsx
import Derived.IntWalk
set_option linter.unusedVariables false
set_option linter.unusedSimpArgs false
namespace Go.Proofs.Ytballgciakljnaa.Pure
open Go.RowKit Go.Proofs.Ytballgciakljnaa.PRampTells Go.Proofs.YtballgciakljnaaW.PrintWords Go.Proofs.YtballgciakljnaaW.PrintLast Go.Proofs.YtballgciakljnaaW.PrintMore Go.Proofs.YtballgciakljnaaM

theorem pl_w64 {i : Int} (h : -9223372036854775808 ≤ i ∧ i ≤ 9223372036854775807) : wrap64 i = i := by unfold wrap64; omega
theorem pl_bind {α β : Type} {x : Option α} {f : α → Option β} {a : α} {r : β} (h : x = some a) (k : f a = some r) : x.bind f = some r := by rw [h]; exact k
theorem pl_rd_nat (l : List Int) (i : Nat) : rd l (i : Int) = l.getD i 0 := by simp [rd]
theorem pl_rd_eq (l : List Int) (i : Int) (n : Nat) (h : i = n) : rd l i = l.getD n 0 := by subst h; exact pl_rd_nat l n

theorem pl_refin42 (n a b : Int) : bilgeref42_in.f n a b = ramp_in.f n a b := rfl
theorem pl_refright42 (r : Rp) : bilgeref42_Right.f r.wo r.pl r.fr r.st r.tt r.fi r.ev r.ag = some (decide r.Ok) := right_eq r
theorem pl_many42 (r : Rp) (h : r.Ok) : wrap64 (wrap64 (Int.tdiv (wrap64 (r.tt - r.fr)) r.st) + 1) = manyF r := by
  have hb := many_bd r h
  obtain ⟨_, h2, h3, h4, _, _⟩ := h
  rw [pl_w64 (i := r.tt - r.fr) (by omega), Int.tdiv_eq_ediv_of_nonneg (by omega)]
  unfold manyF at hb ⊢
  rw [pl_w64 (i := (r.tt - r.fr) / r.st) (by omega), pl_w64 (by omega)]
theorem pl_refvalue42 (r : Rp) (at_ : Int) (k : Nat) (hk : 0 < k) : bilgeref42_Value.f k r.wo r.pl r.fr r.st r.tt r.fi r.ev r.ag at_ = some (ramp_Value.g r at_) := by
  obtain ⟨k, rfl⟩ : ∃ m, k = m + 1 := ⟨k - 1, by omega⟩
  have hbad : bilgeref42_Value.j0 (k + 1) at_ true r.wo r.pl r.fr r.st r.tt r.fi r.ev r.ag = some (0, false) := by simp only [bilgeref42_Value.j0]; rw [if_pos trivial]
  unfold bilgeref42_Value.f ramp_Value.g
  refine pl_bind (pl_refright42 r) ?_
  by_cases hok : r.Ok
  rotate_left
  · rw [if_neg (by rw [decide_eq_true_eq]; exact hok), if_neg hok, hbad]
  rw [if_pos (decide_eq_true hok), if_pos hok]
  by_cases h1 : at_ < r.fi
  · rw [if_pos h1, if_pos (Or.inl h1), hbad]
  rw [if_neg h1]
  by_cases h2 : 1099511627776 < at_
  · rw [if_pos (Or.inr h2), show decide (at_ > 1099511627776) = true from decide_eq_true h2, hbad]
  rw [if_neg (show ¬ (at_ < r.fi ∨ 1099511627776 < at_) by omega), show decide (at_ > 1099511627776) = false from decide_eq_false h2]
  simp only [bilgeref42_Value.j0]
  have hm := pl_many42 r hok
  have hmb := many_bd r hok
  have hvb := val_bd r hok ((at_ - r.fi) / r.ev) (Int.ediv_nonneg (by omega) (by have := hok.2.2.2.2.2; omega))
  obtain ⟨_, o2, o3, o4, o5, o6⟩ := hok
  have q1 : 0 ≤ (at_ - r.fi) / r.ev := Int.ediv_nonneg (by omega) (by omega)
  have q2 : (at_ - r.fi) / r.ev ≤ at_ - r.fi := Int.ediv_le_self _ (by omega)
  have hK : wrap64 (Int.tdiv (wrap64 (at_ - r.fi)) r.ev) = (at_ - r.fi) / r.ev := by
    rw [pl_w64 (i := at_ - r.fi) (by omega), Int.tdiv_eq_ediv_of_nonneg (by omega), pl_w64 (by omega)]
  rw [if_neg (by decide), if_neg (by omega), if_neg (by omega), hm, hK]
  obtain ⟨K, hKe⟩ : ∃ K, (at_ - r.fi) / r.ev = K := ⟨_, rfl⟩
  obtain ⟨m, hme⟩ : ∃ m, manyF r = m := ⟨_, rfl⟩
  rw [hKe] at q1 q2 hvb ⊢
  have hval : valF r K = if r.ag = true then r.fr + K % m * r.st else r.fr + (if K ≤ m - 1 then K else m - 1) * r.st := by unfold valF; rw [hme]
  rw [hme] at hmb ⊢
  rw [hval] at hvb ⊢
  by_cases hag : r.ag = true
  · have e1 : Int.tmod K m = K % m := Int.tmod_eq_emod_of_nonneg q1
    have e2 := Int.emod_nonneg K (show m ≠ 0 by omega)
    have e3 := Int.emod_lt_of_pos K (show 0 < m by omega)
    have e4 : 0 ≤ K % m * r.st := Int.mul_nonneg e2 (by omega)
    rw [if_pos hag] at hvb ⊢
    rw [if_pos hag, if_neg (by omega), e1, if_neg (by omega), pl_w64 (i := K % m * r.st) (by omega), pl_w64 (by omega)]
  · rw [if_neg hag] at hvb ⊢
    rw [if_neg hag]
    by_cases hle : K ≤ m - 1
    · have e4 : 0 ≤ K * r.st := Int.mul_nonneg q1 (by omega)
      rw [if_pos hle] at hvb ⊢
      rw [if_neg (by omega), pl_w64 (i := K * r.st) (by omega), pl_w64 (by omega)]
    · have e4 : 0 ≤ (m - 1) * r.st := Int.mul_nonneg (by omega) (by omega)
      rw [if_neg hle] at hvb ⊢
      rw [if_pos (by omega), pl_w64 (i := m - 1) (by omega), pl_w64 (i := (m - 1) * r.st) (by omega), pl_w64 (by omega)]

theorem pl_merge_same : ∀ k, (∀ a b o, ramp_Merge.l0 k a b o = bilgeref42_Merge.l0 k a b o) ∧ (∀ a b o x, ramp_Merge.j1 k a b o x = bilgeref42_Merge.j1 k a b o x) := by
  intro k
  induction k with
  | zero => exact ⟨fun _ _ _ => rfl, fun _ _ _ _ => rfl⟩
  | succ k ih =>
    refine ⟨fun a b o => ?_, fun a b o x => ?_⟩
    · simp only [ramp_Merge.l0, bilgeref42_Merge.l0, ih.2]
    · simp only [ramp_Merge.j1, bilgeref42_Merge.j1, ih.1]
theorem pl_merge_some : ∀ (n k : Nat) (a b o : List S106), a.length + b.length ≤ n → 2 * n + 1 < k → o.length + a.length + b.length ≤ 100000 → ∃ m, ramp_Merge.l0 k a b o = some m ∧ m.length ≤ 100000 := by
  intro n
  induction n with
  | zero =>
    intro k a b o hn hk ho
    obtain ⟨k, rfl⟩ : ∃ m, k = m + 2 := ⟨k - 2, by omega⟩
    obtain rfl : a = [] := List.eq_nil_of_length_eq_zero (by omega)
    obtain rfl : b = [] := List.eq_nil_of_length_eq_zero (by omega)
    refine ⟨o ++ [] ++ [], ?_, by simp at ho ⊢; omega⟩
    simp only [ramp_Merge.l0]
    rw [if_neg (by simp)]
    simp only [ramp_Merge.j1]
    rw [if_neg (by decide), if_pos (by simp at ho ⊢; omega)]
    refine pl_bind rfl ?_
    rw [if_pos (by simp at ho ⊢; omega)]
  | succ n ih =>
    intro k a b o hn hk ho
    obtain ⟨k, rfl⟩ : ∃ m, k = m + 2 := ⟨k - 2, by omega⟩
    simp only [ramp_Merge.l0]
    by_cases ha : 0 < a.length ∧ 0 < b.length
    · rw [if_pos (by omega), decide_eq_true (by omega)]
      simp only [ramp_Merge.j1]
      rw [if_pos trivial, if_pos (by omega), if_pos (by omega)]
      split
      · rw [if_pos (by omega), if_pos (by omega)]
        exact ih k (a.drop 1) b _ (by rw [List.length_drop]; omega) (by omega) (by rw [List.length_append, List.length_drop, List.length_singleton]; omega)
      · rw [if_pos (by omega), if_pos (by omega)]
        exact ih k a (b.drop 1) _ (by rw [List.length_drop]; omega) (by omega) (by rw [List.length_append, List.length_drop, List.length_singleton]; omega)
    · have hfin : ramp_Merge.j1 (k + 1) a b o false = some (o ++ a ++ b) := by
        simp only [ramp_Merge.j1]
        rw [if_neg (by decide), if_pos (by omega)]
        refine pl_bind rfl ?_
        rw [if_pos (by rw [List.length_append]; omega)]
      refine ⟨o ++ a ++ b, ?_, by rw [List.length_append, List.length_append]; omega⟩
      by_cases h1 : 0 < a.length
      · rw [if_pos (by omega), decide_eq_false (by omega), hfin]
      · rw [if_neg (by omega), hfin]

theorem pl_same33_l (a : List S106) (hn : a.length < 1000000) : ∀ (d k i : Nat), i + d = a.length → d < k → bilgeref33_Same.l0 k a a i = some true := by
  intro d
  induction d with
  | zero =>
    intro k i hi hk
    obtain ⟨k, rfl⟩ : ∃ m, k = m + 1 := ⟨k - 1, by omega⟩
    simp only [bilgeref33_Same.l0]
    rw [if_neg (by omega)]
  | succ d ih =>
    intro k i hi hk
    obtain ⟨k, rfl⟩ : ∃ m, k = m + 1 := ⟨k - 1, by omega⟩
    simp only [bilgeref33_Same.l0]
    rw [if_pos (by omega), if_pos (by omega), if_pos (by omega), if_neg (by simp), pl_w64 (by omega)]
    exact ih k (i + 1) (by omega) (by omega)
theorem pl_same33 (a : List S106) (hn : a.length < 1000000) (k : Nat) (hk : a.length < k) : bilgeref33_Same.f k a a = some true := by
  unfold bilgeref33_Same.f
  rw [if_pos rfl]
  exact pl_same33_l a hn a.length k 0 (by omega) hk

theorem RampTells : bilgelaw42_RampTells.Pure := by
  intro x at_ l hx hat hl
  obtain ⟨K, hK⟩ : ∃ K : Nat, 300000 ≤ K := ⟨300000, by omega⟩
  refine ⟨K, ?_⟩
  have hl0 := hl.1.2.1
  have hl1 := hl.2.2.1
  generalize l.f0 = a at hl0 ⊢
  generalize l.f1 = b at hl1 ⊢
  obtain ⟨r, hr⟩ : ∃ r : Rp, r = ⟨x.f0, x.f1, x.f2, x.f3, x.f4, x.f5, x.f6, x.f7⟩ := ⟨_, rfl⟩
  have hsure : (bilgelaw42_sure.f).bind (fun t => some t) = some true := rfl
  unfold bilgelaw42_RampTells.f
  rw [pl_w64 (by omega)]
  by_cases hlen : a.length + b.length > 300
  · rw [if_pos (by omega)]; exact hsure
  rw [if_neg (by omega)]
  have e1 : ramp_Value.f x.f0 x.f1 x.f2 x.f3 x.f4 x.f5 x.f6 x.f7 at_ = some (ramp_Value.g r at_) := by rw [hr]; rfl
  have e2 := pl_refvalue42 r at_ K (by omega)
  have e3 := right_eq r
  have e4 := pl_refright42 r
  rw [hr] at e2 e3 e4
  simp only at e2 e3 e4
  refine pl_bind e1 ?_
  rw [hr]
  refine pl_bind e2 ?_
  refine pl_bind e3 ?_
  refine pl_bind e4 ?_
  rw [if_pos (by simp), if_pos rfl, if_pos (by simp)]
  obtain ⟨m, hm, hml⟩ := pl_merge_some (a.length + b.length) K a b [] (Nat.le_refl _) (by omega) (by simp; omega)
  refine pl_bind hm ?_
  refine pl_bind (((pl_merge_same K).1 a b []).symm.trans hm) ?_
  refine pl_bind (pl_same33 m (by omega) K (by omega)) ?_
  rw [if_pos rfl]
  exact hsure

end Go.Proofs.Ytballgciakljnaa.Pure

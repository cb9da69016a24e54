/- Layer 42's law RampLast of the given program: what an input was set to last, up to any time, is its ramp's value then; events come in order, none twice, each with another value than the one ahead. -/
import Derived.Test.YtballgciakljnaaPRampLastx
import Derived.IntWalk
set_option linter.unusedVariables false
set_option linter.unusedSimpArgs false
namespace Go.Proofs.Ytballgciakljnaa.Pure
open Go.RowKit Go.Proofs.Ytballgciakljnaa.PRampLast Go.Proofs.YtballgciakljnaaW.PrintWords Go.Proofs.YtballgciakljnaaW.PrintLast Go.Proofs.YtballgciakljnaaW.PrintMore Go.Proofs.YtballgciakljnaaM

theorem pl_w64 {i : Int} (h : -9223372036854775808 ≤ i ∧ i ≤ 9223372036854775807) : wrap64 i = i := by unfold wrap64; omega
theorem pl_bind {α β : Type} {x : Option α} {f : α → Option β} {a : α} {r : β} (h : x = some a) (k : f a = some r) : x.bind f = some r := by rw [h]; exact k
theorem pl_rd_nat (l : List Int) (i : Nat) : rd l (i : Int) = l.getD i 0 := by simp [rd]
theorem pl_rd_eq (l : List Int) (i : Int) (n : Nat) (h : i = n) : rd l i = l.getD n 0 := by subst h; exact pl_rd_nat l n

theorem pl_evL (r : Rp) (tz : Int) : ∀ (F k : Nat), ∃ N : Nat, evL r tz F k = (List.range N).map (fun i => evRec r (k + i)) ∧ N ≤ F ∧ (∀ i, i < N → r.fi + ((k + i : Nat) : Int) * r.ev ≤ tz) ∧ (∀ i, i + 1 < N → goF r ((k + i : Nat) : Int) = true) ∧
    (N < F → (¬ (r.fi + ((k + N : Nat) : Int) * r.ev ≤ tz)) ∨ ∃ M, N = M + 1 ∧ goF r ((k + M : Nat) : Int) = false) := by
  intro F
  induction F with
  | zero => intro k; exact ⟨0, rfl, Nat.le_refl _, fun i h => absurd h (by omega), fun i h => absurd h (by omega), fun h => absurd h (by omega)⟩
  | succ F ih =>
    intro k
    by_cases h1 : r.fi + (k : Int) * r.ev ≤ tz
    · by_cases h2 : goF r (k : Int) = true
      · obtain ⟨N, e, hN, hA, hG, hS⟩ := ih (k + 1)
        refine ⟨N + 1, ?_, by omega, ?_, ?_, ?_⟩
        · unfold evL
          rw [if_pos h1, if_pos h2, e, List.range_succ_eq_map, List.map_cons, List.map_map]
          congr 1
          refine List.map_congr_left fun i _ => ?_
          show evRec r (k + 1 + i) = evRec r (k + (i + 1))
          rw [show k + 1 + i = k + (i + 1) by omega]
        · intro i hi
          cases i with
          | zero => exact h1
          | succ i => have := hA i (by omega); rw [show k + 1 + i = k + (i + 1) by omega] at this; exact this
        · intro i hi
          cases i with
          | zero => exact h2
          | succ i => have := hG i (by omega); rw [show k + 1 + i = k + (i + 1) by omega] at this; exact this
        · intro hlt
          rcases hS (by omega) with h | ⟨M, rfl, h⟩
          · left; rw [show k + (N + 1) = k + 1 + N by omega]; exact h
          · right; exact ⟨M + 1, rfl, by rw [show k + (M + 1) = k + 1 + M by omega]; exact h⟩
      · refine ⟨1, ?_, by omega, ?_, fun i hi => absurd hi (by omega), fun _ => .inr ⟨0, rfl, by simpa using h2⟩⟩
        · unfold evL
          rw [if_pos h1, if_neg h2]
          rfl
        · intro i hi
          obtain rfl : i = 0 := by omega
          exact h1
    · refine ⟨0, ?_, by omega, fun i hi => absurd hi (by omega), fun i hi => absurd hi (by omega), fun _ => .inl h1⟩
      unfold evL
      rw [if_neg h1]
      rfl
/-- What an input was set to last, by the first so many events. -/
def lastF (r : Rp) (now : Int) : Nat → Int × Bool
  | 0 => (0, false)
  | i + 1 => if r.fi + (i : Int) * r.ev ≤ now then (valF r (i : Int), true) else lastF r now i
theorem pl_last_none (r : Rp) (now : Int) (h : now < r.fi) (he : 1 ≤ r.ev) : ∀ i, lastF r now i = (0, false) := by
  intro i
  induction i with
  | zero => rfl
  | succ i ih =>
    unfold lastF
    have : 0 ≤ (i : Int) * r.ev := Int.mul_nonneg (by omega) (by omega)
    rw [if_neg (by omega)]
    exact ih
theorem pl_last_some (r : Rp) (now : Int) (he : 1 ≤ r.ev) (K : Nat) (hK : r.fi + (K : Int) * r.ev ≤ now) (hK1 : now < r.fi + ((K : Int) + 1) * r.ev) : ∀ i, 0 < i → lastF r now i = (valF r (if i ≤ K then (i : Int) - 1 else (K : Int)), true) := by
  intro i
  induction i with
  | zero => intro h; omega
  | succ i ih =>
    intro _
    unfold lastF
    by_cases hi : i ≤ K
    · have h1 : (i : Int) * r.ev ≤ (K : Int) * r.ev := Int.mul_le_mul_of_nonneg_right (by omega) (by omega)
      rw [if_pos (by omega)]
      by_cases h2 : i + 1 ≤ K
      · rw [if_pos h2, show ((i + 1 : Nat) : Int) - 1 = (i : Int) by omega]
      · rw [if_neg h2, show (i : Int) = (K : Int) by omega]
    · have h1 : ((K : Int) + 1) * r.ev ≤ (i : Int) * r.ev := Int.mul_le_mul_of_nonneg_right (by omega) (by omega)
      rw [if_neg (by omega), ih (by omega), if_neg hi, if_neg (by omega)]
theorem pl_val_ne (r : Rp) (hok : r.Ok) (i : Nat) (hg : goF r (i : Int) = true) : valF r ((i : Int) + 1) ≠ valF r (i : Int) := by
  obtain ⟨m1, _, _⟩ := many_bd r hok
  have hst := hok.2.2.2.1
  unfold goF at hg
  rw [Bool.and_eq_true, Bool.or_eq_true, decide_eq_true_eq, decide_eq_true_eq] at hg
  obtain ⟨g1, g2⟩ := hg
  obtain ⟨m, hm⟩ : ∃ m, manyF r = m := ⟨_, rfl⟩
  unfold valF
  rw [hm] at m1 g1 g2 ⊢
  have key : ∀ a b : Int, a ≠ b → r.fr + a * r.st ≠ r.fr + b * r.st := by
    intro a b hab h
    have h2 : a * r.st = b * r.st := by omega
    exact hab (Int.eq_of_mul_eq_mul_right (by omega) h2)
  by_cases ha : r.ag = true
  · rw [if_pos ha, if_pos ha]
    refine key _ _ ?_
    intro h
    have h1 := Int.emod_add_mul_ediv (i : Int) m
    have h2 := Int.emod_add_mul_ediv ((i : Int) + 1) m
    rw [h] at h2
    have h3 : m * (((i : Int) + 1) / m - (i : Int) / m) = 1 := by rw [Int.mul_sub]; omega
    have h4 : m ∣ 1 := ⟨_, h3.symm⟩
    have h5 := Int.le_of_dvd (by decide) h4
    omega
  · rw [if_neg ha, if_neg ha]
    have g3 : (i : Int) + 1 < m := by
      rcases g2 with g2 | g2
      · exact absurd g2 ha
      · exact g2
    rw [if_pos (by omega), if_pos (by omega)]
    exact key _ _ (by omega)
/-- Behind its last event a ramp stays as it is. -/
theorem pl_val_stays (r : Rp) (hok : r.Ok) (M : Nat) (hg : goF r (M : Int) = false) (hb : ∀ i, i < M → goF r (i : Int) = true) (K : Nat) (hK : M ≤ K) : valF r (K : Int) = valF r (M : Int) := by
  obtain ⟨m1, _, _⟩ := many_bd r hok
  unfold goF at hg hb
  obtain ⟨m, hm⟩ : ∃ m, manyF r = m := ⟨_, rfl⟩
  unfold valF
  rw [hm] at m1 hg hb ⊢
  by_cases h1 : 1 < m
  · rw [decide_eq_true h1, Bool.true_and, Bool.or_eq_false_iff, decide_eq_false_iff_not] at hg
    have ha : ¬ r.ag = true := by rw [hg.1]; decide
    rw [if_neg ha, if_neg ha]
    have hM : (M : Int) ≤ m - 1 := by
      cases M with
      | zero => omega
      | succ M =>
        have := hb M (by omega)
        rw [decide_eq_true h1, Bool.true_and, hg.1, Bool.false_or, decide_eq_true_eq] at this
        omega
    rw [if_pos hM]
    have : (M : Int) = m - 1 := by omega
    by_cases hk : (K : Int) ≤ m - 1
    · rw [if_pos hk, show (K : Int) = (M : Int) by omega]
    · rw [if_neg hk, this]
  · obtain rfl : m = 1 := by omega
    have e1 : (K : Int) % 1 = 0 := Int.emod_one _
    have e2 : (M : Int) % 1 = 0 := Int.emod_one _
    rw [e1, e2]
    split
    · rfl
    · have f : ∀ j : Nat, (if (j : Int) ≤ 1 - 1 then (j : Int) else 1 - 1) = 0 := fun j => by split <;> omega
      rw [f, f]

theorem pl_ramp_end (r : Rp) (hok : r.Ok) (n now : Int) (N : Nat) (hn : 0 ≤ now ∧ now ≤ n) (hnm : n ≤ 1000000)
    (hA : ∀ i, i < N → r.fi + (i : Int) * r.ev ≤ n) (hG : ∀ i, i + 1 < N → goF r (i : Int) = true) (hS : (¬ (r.fi + (N : Int) * r.ev ≤ n)) ∨ ∃ M, N = M + 1 ∧ goF r (M : Int) = false) :
    ramp_Value.g r now = lastF r now N := by
  have hev := hok.2.2.2.2.2
  unfold ramp_Value.g
  rw [if_pos hok]
  by_cases h1 : now < r.fi
  · rw [if_pos (Or.inl h1), pl_last_none r now h1 hev.1]
  rw [if_neg (by omega)]
  have q1 : 0 ≤ (now - r.fi) / r.ev := Int.ediv_nonneg (by omega) (by omega)
  obtain ⟨K, hK⟩ : ∃ K : Nat, (now - r.fi) / r.ev = (K : Int) := ⟨((now - r.fi) / r.ev).toNat, by omega⟩
  have k1 : (K : Int) * r.ev ≤ now - r.fi := by rw [← hK]; exact Int.ediv_mul_le _ (by omega)
  have k2 : now - r.fi < ((K : Int) + 1) * r.ev := by rw [← hK]; exact Int.lt_ediv_add_one_mul_self _ (by omega)
  have hN : 0 < N := by
    rcases hS with h | ⟨M, rfl, _⟩
    · by_cases h0 : N = 0
      · subst h0; simp at h; omega
      · omega
    · omega
  rw [hK, pl_last_some r now hev.1 K (by omega) (by omega) N hN]
  by_cases hle : N ≤ K
  · rw [if_pos hle]
    rcases hS with h | ⟨M, rfl, hg⟩
    · have h2 : (N : Int) * r.ev ≤ (K : Int) * r.ev := Int.mul_le_mul_of_nonneg_right (by omega) (by omega)
      omega
    · rw [show ((M + 1 : Nat) : Int) - 1 = (M : Int) by omega, pl_val_stays r hok M hg (fun i hi => hG i (by omega)) K (by omega)]
  · rw [if_neg hle]
theorem pl_ramp_l (r : Rp) (hok : r.Ok) (n now : Int) (N : Nat) (hn : 0 ≤ now ∧ now ≤ n) (hnm : n ≤ 1000000) (hNn : N ≤ 5000)
    (hA : ∀ i, i < N → r.fi + (i : Int) * r.ev ≤ n) (hG : ∀ i, i + 1 < N → goF r (i : Int) = true) (hS : (¬ (r.fi + (N : Int) * r.ev ≤ n)) ∨ ∃ M, N = M + 1 ∧ goF r (M : Int) = false) :
    ∀ (d k i : Nat), i + d = N → 2 * d < k → bilgelaw42_RampLast.l0 k n ((List.range N).map (fun i => evRec r i)) now (lastF r now i).1 (lastF r now i).2 (i : Int) r.wo r.pl r.fr r.st r.tt r.fi r.ev r.ag = some true := by
  have hlen : ((List.range N).map (fun i => evRec r i)).length = N := by simp
  have hsure : (bilgelaw42_sure.f).bind (fun t => some t) = some true := rfl
  have hrd : ∀ i : Nat, i < N → rd_T106 ((List.range N).map (fun i => evRec r i)) (i : Int) = evRec r i := by
    intro i hi
    show ((List.range N).map (fun i => evRec r i)).getD ((i : Int).toNat) _ = _
    rw [Int.toNat_natCast, List.getD_eq_getElem?_getD, List.getElem?_map, List.getElem?_range hi]
    rfl
  intro d
  induction d with
  | zero =>
    intro k i hi hk
    obtain ⟨k, rfl⟩ : ∃ m, k = m + 1 := ⟨k - 1, by omega⟩
    obtain rfl : i = N := by omega
    simp only [bilgelaw42_RampLast.l0]
    rw [if_neg (by rw [hlen]; omega)]
    have hv : ramp_Value.f r.wo r.pl r.fr r.st r.tt r.fi r.ev r.ag now = some (ramp_Value.g r now) := rfl
    refine pl_bind hv ?_
    rw [pl_ramp_end r hok n now i hn hnm hA hG hS, if_pos rfl, if_pos (by simp)]
    rw [← pl_ramp_end r hok n now i hn hnm hA hG hS]
    unfold ramp_Value.g
    rw [if_pos hok]
    split
    · rw [if_neg (by decide)]; exact hsure
    · have hev := hok.2.2.2.2.2
      have hb := val_bd r hok ((now - r.fi) / r.ev) (Int.ediv_nonneg (by omega) (by omega))
      rw [if_pos rfl, if_pos (show valF r ((now - r.fi) / r.ev) ≥ r.fr from hb.1), if_pos (show valF r ((now - r.fi) / r.ev) ≤ r.tt from hb.2)]
      exact hsure
  | succ d ih =>
    intro k i hi hk
    obtain ⟨k, rfl⟩ : ∃ m, k = m + 2 := ⟨k - 2, by omega⟩
    have hiN : i < N := by omega
    have hnext := ih k (i + 1) (by omega) (by omega)
    simp only [bilgelaw42_RampLast.l0]
    rw [if_pos (by rw [hlen]; omega), if_pos (by omega), hrd i hiN, if_pos (show (evRec r i).f4 = r.pl from rfl)]
    have hkind : (((evRec r i).f0 == 3) != r.wo) = false := by
      show (((if r.wo = true then (3 : Int) else 2) == 3) != r.wo) = false
      cases r.wo <;> rfl
    rw [if_neg (by rw [hkind]; decide), if_neg (show ¬ (evRec r i).f1 > n from by have := hA i hiN; show ¬ (r.fi + (i : Int) * r.ev > n); omega)]
    have hj2 : bilgelaw42_RampLast.j2 (k + 1) n ((List.range N).map (fun i => evRec r i)) now (lastF r now i).1 (lastF r now i).2 (i : Int) false r.wo r.pl r.fr r.st r.tt r.fi r.ev r.ag = some true := by
      simp only [bilgelaw42_RampLast.j2]
      rw [if_neg (by decide), if_pos (by omega), if_pos (by rw [hlen]; omega), hrd i hiN, pl_w64 (i := (i : Int) + 1) (by omega), show (i : Int) + 1 = ((i + 1 : Nat) : Int) by omega]
      by_cases hle : r.fi + (i : Int) * r.ev ≤ now
      · have e : lastF r now (i + 1) = (valF r (i : Int), true) := by unfold lastF; rw [if_pos hle]
        rw [e] at hnext
        rw [if_pos (show (evRec r i).f1 ≤ now from hle)]
        exact hnext
      · have e : lastF r now (i + 1) = lastF r now i := by conv => lhs; unfold lastF
                                                           rw [if_neg hle]
        rw [e] at hnext
        rw [if_neg (show ¬ (evRec r i).f1 ≤ now from hle)]
        exact hnext
    by_cases h0 : i = 0
    · subst h0
      rw [if_neg (by omega)]
      exact hj2
    · obtain ⟨j, rfl⟩ : ∃ j, i = j + 1 := ⟨i - 1, by omega⟩
      have hev := hok.2.2.2.2.2
      have hne := pl_val_ne r hok j (hG j (by omega))
      rw [if_pos (by omega), pl_w64 (by omega), show ((j + 1 : Nat) : Int) - 1 = (j : Int) by omega, if_pos (by omega), if_pos (by rw [hlen]; omega), hrd j (by omega)]
      have hmul : ((j + 1 : Nat) : Int) * r.ev = (j : Int) * r.ev + r.ev := by rw [show ((j + 1 : Nat) : Int) = (j : Int) + 1 by omega, Int.add_mul, Int.one_mul]
      rw [if_neg (show ¬ (evRec r (j + 1)).f1 ≤ (evRec r j).f1 from by show ¬ (r.fi + ((j + 1 : Nat) : Int) * r.ev ≤ r.fi + (j : Int) * r.ev); omega)]
      have hv : ((evRec r (j + 1)).f5 == (evRec r j).f5) = false := by
        rw [beq_eq_false_iff_ne]
        show valF r ((j + 1 : Nat) : Int) ≠ valF r (j : Int)
        rw [show ((j + 1 : Nat) : Int) = (j : Int) + 1 by omega]
        exact hne
      rw [hv]
      exact hj2
theorem RampLast : bilgelaw42_RampLast.Pure := by
  intro x x1 x2 hx h1 h2
  have h1 := wf_u16 h1
  have h2 := wf_u16 h2
  refine ⟨20001, ?_⟩
  obtain ⟨r, hr⟩ : ∃ r : Rp, r = ⟨x.f0, x.f1, x.f2, x.f3, x.f4, x.f5, x.f6, x.f7⟩ := ⟨_, rfl⟩
  have hsure : (bilgelaw42_sure.f).bind (fun t => some t) = some true := rfl
  show bilgelaw42_RampLast.f 20001 x.f0 x.f1 x.f2 x.f3 x.f4 x.f5 x.f6 x.f7 x1 x2 = some true
  have e0 : bilgelaw42_RampLast.f 20001 x.f0 x.f1 x.f2 x.f3 x.f4 x.f5 x.f6 x.f7 x1 x2 = bilgelaw42_RampLast.f 20001 r.wo r.pl r.fr r.st r.tt r.fi r.ev r.ag x1 x2 := by rw [hr]
  rw [e0]
  clear e0 hr hx
  unfold bilgelaw42_RampLast.f
  refine pl_bind (right_eq r) ?_
  have hbad : bilgelaw42_RampLast.j0 (20000 + 1) x1 x2 true r.wo r.pl r.fr r.st r.tt r.fi r.ev r.ag = some true := by
    simp only [bilgelaw42_RampLast.j0]; rw [if_pos trivial]; exact hsure
  by_cases hok : r.Ok
  rotate_left
  · rw [if_neg (by rw [decide_eq_true_eq]; exact hok)]; exact hbad
  rw [if_pos (decide_eq_true hok)]
  by_cases hf : r.fi > 9999
  · rw [decide_eq_true hf]; exact hbad
  rw [decide_eq_false hf]
  show bilgelaw42_RampLast.j0 (20000 + 1) x1 x2 false r.wo r.pl r.fr r.st r.tt r.fi r.ev r.ag = some true
  simp only [bilgelaw42_RampLast.j0]
  rw [if_neg (by decide), pl_w64 (i := x1) (by omega), pl_w64 (i := x2) (by omega), Int.tmod_eq_emod_of_nonneg h1.1]
  obtain ⟨n, hn⟩ : ∃ n, x1 % 3000 = n := ⟨_, rfl⟩
  have hnb : 0 ≤ n ∧ n ≤ 2999 := by omega
  rw [hn, pl_w64 (i := n + 1) (by omega), Int.tmod_eq_emod_of_nonneg h2.1]
  obtain ⟨now, hnow⟩ : ∃ now, x2 % (n + 1) = now := ⟨_, rfl⟩
  have hwb : 0 ≤ now ∧ now ≤ n := by
    rw [← hnow]
    have a1 := Int.emod_nonneg x2 (show n + 1 ≠ 0 by omega)
    have a2 := Int.emod_lt_of_pos x2 (show 0 < n + 1 by omega)
    omega
  rw [hnow]
  have hE : ramp_Events.f [(⟨r.wo, r.pl, r.fr, r.st, r.tt, r.fi, r.ev, r.ag⟩ : S87)] n = some (evL r n 5000 0, 0) := by
    show (if r.Ok ∧ 0 ≤ n ∧ n ≤ 4000 then some (evL r n 5000 0, (0 : Int)) else none) = _
    rw [if_pos ⟨hok, by omega, by omega⟩]
  refine pl_bind hE ?_
  rw [if_pos rfl, if_neg (by omega)]
  obtain ⟨N, e, hN, hA, hG, hS⟩ := pl_evL r n 5000 0
  have hev := hok.2.2.2.2.2
  have hfi := hok.2.2.2.2.1
  have hN2 : N < 5000 := by
    by_cases h0 : N = 0
    · omega
    · have h3 := hA (N - 1) (by omega)
      have h4 : ((0 + (N - 1) : Nat) : Int) * 1 ≤ ((0 + (N - 1) : Nat) : Int) * r.ev := Int.mul_le_mul_of_nonneg_left hev.1 (by omega)
      omega
  simp only [Nat.zero_add] at e hA hG hS
  show bilgelaw42_RampLast.l0 20000 n (evL r n 5000 0) now 0 false 0 r.wo r.pl r.fr r.st r.tt r.fi r.ev r.ag = some true
  rw [e]
  exact pl_ramp_l r hok n now N hwb (by omega) (by omega) hA hG (hS hN2) N 20000 0 (by omega) (by omega)

end Go.Proofs.Ytballgciakljnaa.Pure

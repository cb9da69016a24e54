import Derived.Test.YtgagdhgjdgaeaaaCrc
/- Plain mathematics of this session: what a byte comes to by a table (layer 4). No program in sight. -/
namespace Go.Proofs.YtgagdhgjdgaeaaaM

theorem pBy_self : ∀ k < 256, pBy k k = 0 := by decide +kernel
theorem pBy_high : ∀ h < 256, pBy (h * 256) 0 = h := by decide +kernel
theorem pBy_tab {k : Nat} (h : k < 256) : pBy k 0 = pBy 0 k := by
  have := pBy_xor k 0 0 k
  rw [Nat.xor_zero, Nat.zero_xor, pBy_self k h] at this
  have h2 := congrArg (fun x => x ^^^ pBy 0 k) this
  simp only [Nat.xor_assoc, Nat.xor_self, Nat.xor_zero, Nat.zero_xor] at h2
  exact h2.symm
theorem split256 (r : Nat) : r = (r / 256 * 256) ^^^ (r % 256) := by
  have h1 : (r / 256 * 256) ^^^ (r % 256) = r / 256 * 256 + r % 256 := by
    have := Nat.two_pow_add_eq_or_of_lt (i := 8) (b := r % 256) (by omega) (r / 256)
    have h2 : (r / 256 * 256) &&& (r % 256) = 0 := by
      apply Nat.eq_of_testBit_eq
      intro i
      rw [Nat.testBit_and, Nat.zero_testBit]
      by_cases hi : i < 8
      · rw [show r / 256 * 256 = 2 ^ 8 * (r / 256) by omega, Nat.testBit_two_pow_mul, decide_eq_false (by omega)]; simp
      · rw [Nat.testBit_lt_two_pow (x := r % 256) (Nat.lt_of_lt_of_le (show r % 256 < 2 ^ 8 by omega) (Nat.pow_le_pow_right (by omega) (by omega))), Bool.and_false]
    have h3 : (r / 256 * 256) ^^^ (r % 256) = (r / 256 * 256) ||| (r % 256) := by
      apply Nat.eq_of_testBit_eq
      intro i
      have := congrArg (fun z => z.testBit i) h2
      simp only [Nat.testBit_and, Nat.zero_testBit, Nat.testBit_xor, Nat.testBit_or] at this ⊢
      cases ha : (r / 256 * 256).testBit i <;> cases hb : (r % 256).testBit i <;> simp_all
    rw [h3, show r / 256 * 256 = 2 ^ 8 * (r / 256) by omega]
    exact this.symm
  rw [h1]; omega
theorem pBy_shift {r b : Nat} (hr : r < 65536) : pBy r b = r / 256 ^^^ pBy 0 (r % 256 ^^^ b) := by
  have e1 := pBy_xor (r / 256 * 256) (r % 256) 0 b
  rw [← split256, Nat.zero_xor, pBy_high _ (by omega)] at e1
  have e2 := pBy_xor (r % 256) 0 0 b
  have e3 := pBy_xor 0 0 (r % 256) b
  rw [Nat.xor_zero, Nat.zero_xor, pBy_tab (by omega)] at e2
  rw [Nat.xor_self] at e3
  rw [e1, e2, e3]
theorem pBy_join {r : Nat} (hr : r < 65536) : pBy (pBy r (r % 256)) (r / 256) = 0 := by
  have e1 : pBy r (r % 256) = r / 256 := by rw [pBy_shift hr, Nat.xor_self, show pBy 0 0 = 0 from rfl, Nat.xor_zero]
  rw [e1]
  exact pBy_self _ (by omega)
theorem pBy_small : ∀ c < 256, pBy 0 c < 256 → c = 0 := by decide +kernel
theorem pBy_zero {x b : Nat} (hx : x < 65536) (hb : b < 256) (h : pBy x b = 0) : x = b := by
  have h1 := pUn_pBy (b := b) hx
  have h2 := pUn_pBy (r := b) (b := b) (by omega)
  rw [pBy_self b hb, ← h, h1] at h2
  exact h2
theorem xor_zero_eq {a b : Nat} (h : a ^^^ b = 0) : a = b := by
  have := congrArg (fun z => z ^^^ b) h
  simp only [Nat.xor_assoc, Nat.xor_self, Nat.xor_zero, Nat.zero_xor] at this
  exact this
theorem pBy_two {s a b : Nat} (hs : s < 65536) (ha : a < 256) (hb : b < 256) : pBy (pBy s a) b = 0 ↔ a = s % 256 ∧ b = s / 256 := by
  constructor
  · intro h
    have h1 := pBy_zero (pBy_lt hs) hb h
    rw [pBy_shift hs] at h1
    have hc : s % 256 ^^^ a < 256 := Nat.xor_lt_two_pow (n := 8) (by omega) ha
    have h2 : pBy 0 (s % 256 ^^^ a) = s / 256 ^^^ b := by
      rw [← h1, ← Nat.xor_assoc, Nat.xor_self, Nat.zero_xor]
    have h3 := pBy_small _ hc (by rw [h2]; exact Nat.xor_lt_two_pow (n := 8) (by omega) hb)
    rw [h3, show pBy 0 0 = 0 from rfl, Nat.xor_zero] at h1
    exact ⟨(xor_zero_eq h3).symm, h1.symm⟩
  · rintro ⟨rfl, rfl⟩
    exact pBy_join hs
theorem split_two (l : List Int) (h : 2 ≤ l.length) : l = l.take (l.length - 2) ++ [l.getD (l.length - 2) 0, l.getD (l.length - 1) 0] := by
  apply List.ext_getElem
  · simp; omega
  · intro i h1 h2
    by_cases hi : i < l.length - 2
    · rw [List.getElem_append_left (by rw [List.length_take]; omega), List.getElem_take]
    · rw [List.getElem_append_right (by rw [List.length_take]; omega)]
      have hl : (l.take (l.length - 2)).length = l.length - 2 := by rw [List.length_take]; omega
      have : i = l.length - 2 ∨ i = l.length - 1 := by omega
      rcases this with rfl | rfl
      · simp [hl, List.getD_eq_getElem?_getD, List.getElem?_eq_getElem (show l.length - 2 < l.length by omega)]
      · have e : l.length - 1 - (l.length - 2) = 1 := by omega
        simp [hl, e, List.getD_eq_getElem?_getD, List.getElem?_eq_getElem (show l.length - 1 < l.length by omega)]
theorem pRem_two (l : List Int) (h : 2 ≤ l.length) : pRem 65535 l = pBy (pBy (pRem 65535 (l.take (l.length - 2))) (l.getD (l.length - 2) 0).toNat) (l.getD (l.length - 1) 0).toNat := by
  have := split_two l h
  exact (congrArg (pRem 65535) this).trans (by rw [pRem_append]; rfl)
end Go.Proofs.YtgagdhgjdgaeaaaM

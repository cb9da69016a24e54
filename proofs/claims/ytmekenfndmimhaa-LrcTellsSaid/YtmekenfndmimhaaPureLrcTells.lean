/- Layer 35's law LrcTells of the given program: for every row of bytes (more than 600 of them are passed by) the sum, the sum appended, the check and the strip answer as the document's do. No condition beyond the row's own. -/
import Derived.Test.YtmekenfndmimhaaPLrcTellsx
import Derived.IntWalk
set_option linter.unusedVariables false
set_option linter.unusedSimpArgs false
namespace Go.Proofs.Ytmekenfndmimhaa.Pure
open Go.RowKit Go.Proofs.Ytmekenfndmimhaa.PLrcTells Go.Proofs.YtmekenfndmimhaaW.PrintWords Go.Proofs.YtmekenfndmimhaaW.PrintLast Go.Proofs.YtmekenfndmimhaaW.PrintMore Go.Proofs.YtmekenfndmimhaaM

theorem pl_w64 {i : Int} (h : -9223372036854775808 ≤ i ∧ i ≤ 9223372036854775807) : wrap64 i = i := by unfold wrap64; omega
theorem pl_rd_nat (l : List Int) (i : Nat) : rd l (i : Int) = l.getD i 0 := by simp [rd]
theorem pl_rd_eq (l : List Int) (i : Int) (n : Nat) (h : i = n) : rd l i = l.getD n 0 := by subst h; exact pl_rd_nat l n

theorem pl_bytes_l (a b : List Int) (hl : a.length = b.length) (hn : a.length < 9223372036854775807) : ∀ (d k i : Nat), i + d = a.length → d < k → a.take i = b.take i →
    bilgeref01_Bytes.l0 k a b i = some (decide (a = b)) := by
  intro d
  induction d with
  | zero =>
    intro k i hi hk ht
    obtain ⟨k, rfl⟩ : ∃ m, k = m + 1 := ⟨k - 1, by omega⟩
    simp only [bilgeref01_Bytes.l0]
    rw [if_neg (by omega)]
    have : a = b := by
      rw [List.take_of_length_le (by omega), List.take_of_length_le (by omega)] at ht; exact ht
    simp [this]
  | succ d ih =>
    intro k i hi hk ht
    obtain ⟨k, rfl⟩ : ∃ m, k = m + 1 := ⟨k - 1, by omega⟩
    simp only [bilgeref01_Bytes.l0]
    rw [if_pos (by omega), if_pos (by omega), if_pos (by omega), pl_rd_nat, pl_rd_nat, getD_at _ _ (by omega), getD_at _ _ (by omega), pl_w64 (by omega)]
    by_cases e : a[i] = b[i]
    · rw [if_pos e]
      exact ih k (i + 1) (by omega) (by omega) (by rw [take_snoc a i (by omega), take_snoc b i (by omega), ht, e])
    · rw [if_neg e]
      have : a ≠ b := by rintro rfl; exact e rfl
      simp [this]
theorem pl_bytes (a b : List Int) (hn : a.length < 9223372036854775807) (k : Nat) (hk : a.length < k) : bilgeref01_Bytes.f k a b = some (decide (a = b)) := by
  unfold bilgeref01_Bytes.f
  by_cases hl : a.length = b.length
  · rw [if_pos (by omega)]
    exact pl_bytes_l a b hl hn a.length k 0 (by omega) hk rfl
  · rw [if_neg (by omega)]
    have : a ≠ b := by rintro rfl; exact hl rfl
    simp [this]

theorem pl_u8 {l : List Int} (h : ∀ x ∈ l, (Lit.int .u8 x).wf = true) : ∀ x ∈ l, 0 ≤ x ∧ x ≤ 255 := fun x hx => wf_u8 (h x hx)
theorem pl_sum_bd {l : List Int} (h : ∀ x ∈ l, 0 ≤ x ∧ x ≤ 255) : 0 ≤ l.sum ∧ l.sum ≤ 255 * l.length := by
  induction l with
  | nil => simp
  | cons a l ih =>
    have h1 := h a (by simp)
    have h2 := ih (fun x hx => h x (by simp [hx]))
    simp only [List.sum_cons, List.length_cons]
    omega

theorem pl_refsum_l (l : List Int) (h : ∀ x ∈ l, 0 ≤ x ∧ x ≤ 255) (hn : l.length < 100000) : ∀ (d k i : Nat), i + d = l.length → d < k →
    bilgeref35_Sum.l0 k l (l.take i).sum i = some ((-l.sum) % 256) := by
  intro d
  induction d with
  | zero =>
    intro k i hi hk
    obtain ⟨k, rfl⟩ : ∃ m, k = m + 1 := ⟨k - 1, by omega⟩
    simp only [bilgeref35_Sum.l0]
    rw [if_neg (by omega), List.take_of_length_le (by omega)]
    have hb := pl_sum_bd h
    rw [Int.tmod_eq_emod_of_nonneg hb.1, pl_w64 (by omega), Int.tmod_eq_emod_of_nonneg (by omega)]
    congr 1
    omega
  | succ d ih =>
    intro k i hi hk
    obtain ⟨k, rfl⟩ : ∃ m, k = m + 1 := ⟨k - 1, by omega⟩
    simp only [bilgeref35_Sum.l0]
    have hb := pl_sum_bd (l := l.take i) (fun x hx => h x (List.mem_of_mem_take hx))
    have hlt : (l.take i).length ≤ i := List.length_take_le _ _
    have hx := h (l[i]'(by omega)) (List.getElem_mem _)
    rw [if_pos (by omega), if_pos (by omega), pl_rd_nat, getD_at _ _ (by omega), pl_w64 (i := l[i]) (by omega), pl_w64 (by omega), pl_w64 (i := (i : Int) + 1) (by omega)]
    have := ih k (i + 1) (by omega) (by omega)
    rw [sum_take l i (by omega), getD_at _ _ (by omega)] at this
    exact this
theorem pl_refsum (l : List Int) (h : ∀ x ∈ l, 0 ≤ x ∧ x ≤ 255) (hn : l.length < 100000) (k : Nat) (hk : l.length < k) : bilgeref35_Sum.f k l = some ((-l.sum) % 256) := by
  unfold bilgeref35_Sum.f
  have := pl_refsum_l l h hn l.length k 0 (by omega) hk
  simpa using this

theorem pl_lrccheck (l : List Int) : lrc_Check.f l = some (decide (0 < l.length ∧ l.sum % 256 = 0)) := by
  unfold lrc_Check.f
  by_cases h : 0 < l.length
  · rw [if_pos (by omega)]
    simp only [lrc_Sum.f, Option.bind_some]
    congr 1
    rw [Bool.eq_iff_iff]
    simp [h]
    omega
  · rw [if_neg (by omega)]
    simp [h]
theorem pl_lrcstrip (l : List Int) (hn : l.length < 100000) : lrc_Strip.f l = some (if l.length = 0 then ([], 12) else if l.sum % 256 = 0 then (l.take (l.length - 1), 0) else ([], 14)) := by
  unfold lrc_Strip.f
  by_cases h : l.length = 0
  · rw [if_pos (by omega), if_pos h]
  · rw [if_neg (by omega), if_neg h, pl_lrccheck]
    simp only [Option.bind_some]
    by_cases hs : l.sum % 256 = 0
    · rw [if_pos (by simp [hs]; omega), if_pos hs, pl_w64 (by omega), if_pos (by omega), if_pos (by omega)]
      have e : ((l.length : Int) - 1).toNat = l.length - 1 := by omega
      rw [e]
      unfold slices_Clone_byte_byte.f
      rw [if_pos (by rw [List.length_take]; omega)]
      rfl
    · rw [if_neg (by simp [hs]), if_neg hs]
theorem pl_lrcappend (l : List Int) (hn : l.length < 100000) : lrc_Append.f l = some (l ++ [(-l.sum) % 256]) := by
  unfold lrc_Append.f slices_Clone_byte_byte.f lrc_Sum.f
  rw [if_pos (by omega)]
  simp only [Option.bind_some]
  rw [if_pos (by omega)]

theorem pl_sure35 (k : Nat) (hk : 50 ≤ k) : bilgelaw35_sure.f k = some true := at_rounds bilgelaw35_sure.mono hk (by decide +kernel)
theorem pl_sum_last (l : List Int) (h : 0 < l.length) : l.sum = (l.take (l.length - 1)).sum + l.getD (l.length - 1) 0 := by
  have := sum_take l (l.length - 1) (by omega)
  rw [show l.length - 1 + 1 = l.length by omega, List.take_of_length_le (Nat.le_refl _)] at this
  exact this
theorem pl_refcheck (l : List Int) (hb : ∀ x ∈ l, 0 ≤ x ∧ x ≤ 255) (hl : l.length < 100000) (k : Nat) (hk : l.length < k) : bilgeref35_Check.f k l = some (decide (0 < l.length ∧ l.sum % 256 = 0)) := by
  unfold bilgeref35_Check.f
  by_cases h : 0 < l.length
  · rw [if_pos h, pl_refsum _ (fun x hx => hb x (List.mem_of_mem_take hx)) (by rw [List.length_take]; omega) k (by rw [List.length_take]; omega)]
    simp only [Option.bind_some]
    rw [pl_rd_eq l _ (l.length - 1) (by omega)]
    have hs := pl_sum_last l h
    have hx := hb (l.getD (l.length - 1) 0) (by rw [getD_at _ _ (by omega)]; exact List.getElem_mem _)
    congr 1
    rw [Bool.eq_iff_iff]
    simp only [beq_iff_eq, decide_eq_true_eq, h, true_and]
    omega
  · rw [if_neg h]
    simp [h]
theorem pl_join (l : List Int) (hb : ∀ x ∈ l, 0 ≤ x ∧ x ≤ 255) (hl : l.length ≤ 600) : bilgelaw35_LrcTells.j0 1000 l (decide (0 < l.length ∧ l.sum % 256 = 0)) false = some true := by
  simp only [bilgelaw35_LrcTells.j0, lrc_Sum.f, Option.bind_some, pl_refsum l hb (by omega) 999 (by omega), pl_lrcappend l (by omega)]
  rw [if_neg (by simp), if_pos trivial, if_pos (by simp; omega), if_pos (by simp; omega), pl_bytes _ _ (by simp; omega) _ (by simp; omega)]
  simp only [Option.bind_some, List.nil_append, decide_true, if_true, pl_lrccheck, beq_self_eq_true, pl_sure35 999 (by omega)]
theorem LrcTells : bilgelaw35_LrcTells.Pure := by
  intro l hm h2 hw
  have hb := pl_u8 hw
  refine ⟨1000, ?_⟩
  unfold bilgelaw35_LrcTells.f
  by_cases hl : l.length ≤ 600
  · rw [if_neg (by omega), pl_lrcstrip l (by omega), pl_refcheck l hb (by omega) _ (by omega)]
    simp only [Option.bind_some]
    have hj := pl_join l hb hl
    by_cases h0 : l.length = 0
    · have : l = [] := List.eq_nil_of_length_eq_zero h0
      subst this
      simpa using hj
    · by_cases hs : l.sum % 256 = 0
      · have hd : (decide (0 < l.length ∧ l.sum % 256 = 0)) = true := by simp [hs]; omega
        rw [hd] at hj ⊢
        rw [if_neg h0, if_pos hs]
        simp only [beq_self_eq_true, bne_self_eq_false, Bool.false_eq_true, if_false, if_true]
        rw [pl_w64 (by omega), if_pos (by omega), if_pos (by omega)]
        have e : ((l.length : Int) - 1).toNat = l.length - 1 := by omega
        rw [e, pl_bytes _ _ (by rw [List.length_take]; omega) _ (by rw [List.length_take]; omega)]
        simpa using hj
      · have hd : (decide (0 < l.length ∧ l.sum % 256 = 0)) = false := by simp [hs]
        rw [hd] at hj ⊢
        rw [if_neg h0, if_neg hs]
        simpa using hj
  · rw [if_pos (by omega), pl_sure35 _ (by omega)]; rfl

end Go.Proofs.Ytmekenfndmimhaa.Pure

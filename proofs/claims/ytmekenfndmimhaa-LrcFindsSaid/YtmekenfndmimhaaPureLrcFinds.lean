/- Layer 35's law LrcFinds of the given program: what was appended is checked, backwards too; with one byte turned into another one it is not. For every row of bytes (more than 600 are passed by), every place and every byte. No condition beyond the row's own. -/
import Derived.Test.YtmekenfndmimhaaPLrcFindsx
import Derived.IntWalk
set_option linter.unusedVariables false
set_option linter.unusedSimpArgs false
namespace Go.Proofs.Ytmekenfndmimhaa.Pure
open Go.RowKit Go.Proofs.Ytmekenfndmimhaa.PLrcFinds Go.Proofs.YtmekenfndmimhaaW.PrintWords Go.Proofs.YtmekenfndmimhaaW.PrintLast Go.Proofs.YtmekenfndmimhaaW.PrintMore Go.Proofs.YtmekenfndmimhaaM

theorem pl_w64 {i : Int} (h : -9223372036854775808 ≤ i ∧ i ≤ 9223372036854775807) : wrap64 i = i := by unfold wrap64; omega
theorem pl_bind {α β : Type} {x : Option α} {f : α → Option β} {a : α} {r : β} (h : x = some a) (k : f a = some r) : x.bind f = some r := by rw [h]; exact k
theorem pl_rd_nat (l : List Int) (i : Nat) : rd l (i : Int) = l.getD i 0 := by simp [rd]
theorem pl_rd_eq (l : List Int) (i : Int) (n : Nat) (h : i = n) : rd l i = l.getD n 0 := by subst h; exact pl_rd_nat l n

theorem pl_u8 {l : List Int} (h : ∀ x ∈ l, (Lit.int .u8 x).wf = true) : ∀ x ∈ l, 0 ≤ x ∧ x ≤ 255 := fun x hx => wf_u8 (h x hx)
theorem pl_sum_bd {l : List Int} (h : ∀ x ∈ l, 0 ≤ x ∧ x ≤ 255) : 0 ≤ l.sum ∧ l.sum ≤ 255 * l.length := by
  induction l with
  | nil => simp
  | cons a l ih =>
    have h1 := h a (by simp)
    have h2 := ih (fun x hx => h x (by simp [hx]))
    simp only [List.sum_cons, List.length_cons]
    omega

theorem pl_lrccheck (l : List Int) : lrc_Check.f l = some (decide (0 < l.length ∧ l.sum % 256 = 0)) := by
  unfold lrc_Check.f
  by_cases h : 0 < l.length
  · rw [if_pos (by omega)]
    simp only [lrc_Sum.f, Option.bind_some]
    congr 1
    rw [Bool.eq_iff_iff]
    simp [h]
    omega
  · rw [if_neg (by omega)]
    simp [h]
theorem pl_lrcstrip (l : List Int) (hn : l.length < 100000) : lrc_Strip.f l = some (if l.length = 0 then ([], 12) else if l.sum % 256 = 0 then (l.take (l.length - 1), 0) else ([], 14)) := by
  unfold lrc_Strip.f
  by_cases h : l.length = 0
  · rw [if_pos (by omega), if_pos h]
  · rw [if_neg (by omega), if_neg h, pl_lrccheck]
    simp only [Option.bind_some]
    by_cases hs : l.sum % 256 = 0
    · rw [if_pos (by simp [hs]; omega), if_pos hs, pl_w64 (by omega), if_pos (by omega), if_pos (by omega)]
      have e : ((l.length : Int) - 1).toNat = l.length - 1 := by omega
      rw [e]
      unfold slices_Clone_byte_byte.f
      rw [if_pos (by rw [List.length_take]; omega)]
      rfl
    · rw [if_neg (by simp [hs]), if_neg hs]
theorem pl_lrcappend (l : List Int) (hn : l.length < 100000) : lrc_Append.f l = some (l ++ [(-l.sum) % 256]) := by
  unfold lrc_Append.f slices_Clone_byte_byte.f lrc_Sum.f
  rw [if_pos (by omega)]
  simp only [Option.bind_some]
  rw [if_pos (by omega)]

theorem pl_sure35 (k : Nat) (hk : 50 ≤ k) : bilgelaw35_sure.f k = some true := at_rounds bilgelaw35_sure.mono hk (by decide +kernel)
theorem pl_back (x : Int) (a c : List Int) (ha : a.length < 10000) (hA : lrc_Check.f a = some true) (hC : lrc_Check.f c = some (x == 0)) (hS : lrc_Sum.f a = some 0) (h0 : 0 < a.length) (hs0 : a.sum % 256 = 0) :
    ∀ (d k : Nat) (acc : List Int), d ≤ a.length → d + 60 < k → acc.length + d = a.length → acc.sum + (a.take d).sum = a.sum → bilgelaw35_LrcFinds.l0 k x a c acc ((d : Int) - 1) = some true := by
  intro d
  induction d with
  | zero =>
    intro k acc hd hk hl hs
    obtain ⟨k, rfl⟩ : ∃ m, k = m + 1 := ⟨k - 1, by omega⟩
    simp only [bilgelaw35_LrcFinds.l0]
    have hB : lrc_Check.f acc = some true := by
      rw [pl_lrccheck]
      simp only [List.take_zero, List.sum_nil] at hs
      congr 1
      simp only [decide_eq_true_eq]
      exact ⟨by omega, by omega⟩
    rw [if_neg (by omega), hA]
    simp only [Option.bind_some, if_true, hB, hC, beq_self_eq_true, hS, pl_sure35 k (by omega)]
  | succ d ih =>
    intro k acc hd hk hl hs
    obtain ⟨k, rfl⟩ : ∃ m, k = m + 1 := ⟨k - 1, by omega⟩
    simp only [bilgelaw35_LrcFinds.l0]
    rw [if_pos (by omega), if_pos (by omega), if_pos (by omega), if_pos (by omega), pl_rd_eq a _ d (by omega), pl_w64 (by omega)]
    have e : ((d + 1 : Nat) : Int) - 1 - 1 = (d : Int) - 1 := by omega
    rw [e]
    refine ih k _ (by omega) (by omega) (by simp; omega) ?_
    rw [sum_take a d (by omega)] at hs
    simp only [List.sum_append, List.sum_cons, List.sum_nil]
    omega
theorem pl_sum_set (l : List Int) (i : Nat) (v : Int) (h : i < l.length) : (l.set i v).sum = l.sum - l.getD i 0 + v := by
  induction l generalizing i with
  | nil => simp at h
  | cons a l ih =>
    cases i with
    | zero => simp; omega
    | succ i =>
      have := ih i (by simpa using h)
      simp only [List.set_cons_succ, List.sum_cons, this, List.getD_cons_succ]
      omega
theorem pl_xor_same (a x : Nat) : a ^^^ x = a ↔ x = 0 := by
  constructor
  · intro h
    have h2 := congrArg (a ^^^ ·) h
    simp only [← Nat.xor_assoc, Nat.xor_self, Nat.zero_xor] at h2
    exact h2
  · rintro rfl; simp
theorem LrcFinds : bilgelaw35_LrcFinds.Pure := by
  intro l a1 x hm h2 hw h1 hx
  have hb := pl_u8 hw
  have hx := wf_u8 hx
  have h1 := wf_u16 h1
  obtain ⟨K, hK⟩ : ∃ K : Nat, 900 ≤ K := ⟨1000, by omega⟩
  refine ⟨K, ?_⟩
  unfold bilgelaw35_LrcFinds.f
  by_cases hl : l.length ≤ 600
  · rw [if_neg (by omega)]
    refine pl_bind (pl_lrcappend l (by omega)) ?_
    obtain ⟨a, ha⟩ : ∃ a, l ++ [(-l.sum) % 256] = a := ⟨_, rfl⟩
    have hla : a.length = l.length + 1 := by rw [← ha]; simp
    have hsa : a.sum % 256 = 0 := by rw [← ha, List.sum_append]; simp; omega
    have hba : ∀ y ∈ a, 0 ≤ y ∧ y ≤ 255 := by
      intro y hy
      rw [← ha] at hy
      rcases List.mem_append.1 hy with hy | hy
      · exact hb y hy
      · rw [List.mem_singleton.1 hy]; omega
    rw [ha]
    have hw1 : wrap64 a1 = a1 := pl_w64 (by omega)
    rw [hw1, pl_w64 (by omega), if_pos (by omega), if_neg (by omega)]
    refine pl_bind rfl ?_
    rw [if_pos (by simp; omega)]
    refine pl_bind (congrArg some (List.nil_append a)) ?_
    have hi0 := Int.emod_nonneg a1 (b := (a.length : Int)) (by omega)
    have hi1 := Int.emod_lt_of_pos a1 (b := (a.length : Int)) (by omega)
    rw [Int.tmod_eq_emod_of_nonneg (by omega)]
    obtain ⟨i, hi⟩ := Int.eq_ofNat_of_zero_le hi0
    rw [hi] at hi1 ⊢
    rw [if_pos (by omega), if_pos (by omega), pl_w64 (by omega), pl_rd_nat]
    simp only [Int.toNat_natCast]
    have hy := hba (a.getD i 0) (by rw [getD_at _ _ (by omega)]; exact List.getElem_mem _)
    have hxor : Go.bits .xor .u8 (a.getD i 0) x = (((a.getD i 0).toNat ^^^ x.toNat : Nat) : Int) := u8_xor _ _ (by omega) (by omega) (by omega) (by omega)
    have hxl : (a.getD i 0).toNat ^^^ x.toNat < 256 := Nat.xor_lt_two_pow (n := 8) (by omega) (by omega)
    have hxs := pl_xor_same (a.getD i 0).toNat x.toNat
    refine pl_back x a _ (by omega) ?_ ?_ ?_ (by omega) hsa a.length K [] (by omega) (by omega) (by simp) (by simp)
    · rw [pl_lrccheck]
      congr 1
      simp only [decide_eq_true_eq]
      exact ⟨by omega, hsa⟩
    · rw [pl_lrccheck, List.length_set, pl_sum_set _ _ _ (by omega), hxor]
      congr 1
      rw [Bool.eq_iff_iff]
      simp only [decide_eq_true_eq, beq_iff_eq]
      constructor
      · rintro ⟨_, h⟩
        have := hxs.1 (by omega)
        omega
      · intro h
        have := hxs.2 (by omega)
        exact ⟨by omega, by omega⟩
    · unfold lrc_Sum.f
      congr 1
      omega
  · rw [if_pos (by omega), pl_sure35 _ (by omega)]; rfl

end Go.Proofs.Ytmekenfndmimhaa.Pure

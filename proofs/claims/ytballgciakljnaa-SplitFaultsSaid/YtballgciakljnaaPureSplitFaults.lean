/- Layer 9's law SplitFaults of the given program: what is wrong of any segment, whether it counts, and whether two are the same. -/
import Derived.Test.YtballgciakljnaaPSplitFaultsx
import Derived.IntWalk
set_option linter.unusedVariables false
set_option linter.unusedSimpArgs false
namespace Go.Proofs.Ytballgciakljnaa.Pure
open Go.RowKit Go.Proofs.Ytballgciakljnaa.PSplitFaults Go.Proofs.YtballgciakljnaaW.PrintWords Go.Proofs.YtballgciakljnaaW.PrintLast Go.Proofs.YtballgciakljnaaW.PrintMore Go.Proofs.YtballgciakljnaaM

theorem pl_w64 {i : Int} (h : -9223372036854775808 ≤ i ∧ i ≤ 9223372036854775807) : wrap64 i = i := by unfold wrap64; omega
theorem pl_bind {α β : Type} {x : Option α} {f : α → Option β} {a : α} {r : β} (h : x = some a) (k : f a = some r) : x.bind f = some r := by rw [h]; exact k
theorem pl_rd_nat (l : List Int) (i : Nat) : rd l (i : Int) = l.getD i 0 := by simp [rd]
theorem pl_rd_eq (l : List Int) (i : Int) (n : Nat) (h : i = n) : rd l i = l.getD n 0 := by subst h; exact pl_rd_nat l n

theorem pl_bytes_l (a b : List Int) (hl : a.length = b.length) (hn : a.length < 9223372036854775807) : ∀ (d k i : Nat), i + d = a.length → d < k → a.take i = b.take i →
    bilgeref01_Bytes.l0 k a b i = some (decide (a = b)) := by
  intro d
  induction d with
  | zero =>
    intro k i hi hk ht
    obtain ⟨k, rfl⟩ : ∃ m, k = m + 1 := ⟨k - 1, by omega⟩
    simp only [bilgeref01_Bytes.l0]
    rw [if_neg (by omega)]
    have : a = b := by
      rw [List.take_of_length_le (by omega), List.take_of_length_le (by omega)] at ht; exact ht
    simp [this]
  | succ d ih =>
    intro k i hi hk ht
    obtain ⟨k, rfl⟩ : ∃ m, k = m + 1 := ⟨k - 1, by omega⟩
    simp only [bilgeref01_Bytes.l0]
    rw [if_pos (by omega), if_pos (by omega), if_pos (by omega), pl_rd_nat, pl_rd_nat, getD_at _ _ (by omega), getD_at _ _ (by omega), pl_w64 (by omega)]
    by_cases e : a[i] = b[i]
    · rw [if_pos e]
      exact ih k (i + 1) (by omega) (by omega) (by rw [take_snoc a i (by omega), take_snoc b i (by omega), ht, e])
    · rw [if_neg e]
      have : a ≠ b := by rintro rfl; exact e rfl
      simp [this]
theorem pl_bytes (a b : List Int) (hn : a.length < 9223372036854775807) (k : Nat) (hk : a.length < k) : bilgeref01_Bytes.f k a b = some (decide (a = b)) := by
  unfold bilgeref01_Bytes.f
  by_cases hl : a.length = b.length
  · rw [if_pos (by omega)]
    exact pl_bytes_l a b hl hn a.length k 0 (by omega) hk rfl
  · rw [if_neg (by omega)]
    have : a ≠ b := by rintro rfl; exact hl rfl
    simp [this]

theorem pl_equal_l (a b : List Int) (hl : a.length = b.length) (hn : a.length < 9223372036854775807) : ∀ (d k i : Nat), i + d = a.length → d < k → a.take i = b.take i →
    slices_Equal_byte_byte.l0 k a b (a.length : Int) i = some (decide (a = b)) := by
  intro d
  induction d with
  | zero =>
    intro k i hi hk ht
    obtain ⟨k, rfl⟩ : ∃ m, k = m + 1 := ⟨k - 1, by omega⟩
    simp only [slices_Equal_byte_byte.l0]
    rw [if_neg (by omega)]
    have : a = b := by
      rw [List.take_of_length_le (by omega), List.take_of_length_le (by omega)] at ht; exact ht
    simp [this]
  | succ d ih =>
    intro k i hi hk ht
    obtain ⟨k, rfl⟩ : ∃ m, k = m + 1 := ⟨k - 1, by omega⟩
    simp only [slices_Equal_byte_byte.l0]
    rw [if_pos (by omega), if_pos (by omega), if_pos (by omega), if_pos (by omega), pl_rd_nat, pl_rd_nat, getD_at _ _ (by omega), getD_at _ _ (by omega), pl_w64 (by omega)]
    by_cases e : a[i] = b[i]
    · rw [if_pos e]
      exact ih k (i + 1) (by omega) (by omega) (by rw [take_snoc a i (by omega), take_snoc b i (by omega), ht, e])
    · rw [if_neg e]
      have : a ≠ b := by rintro rfl; exact e rfl
      simp [this]
theorem pl_equal (a b : List Int) (hn : a.length < 9223372036854775807) (k : Nat) (hk : a.length < k) : slices_Equal_byte_byte.f k a b = some (decide (a = b)) := by
  unfold slices_Equal_byte_byte.f
  by_cases hl : a.length = b.length
  · rw [if_pos (by omega)]
    exact pl_equal_l a b hl hn a.length k 0 (by omega) hk rfl
  · rw [if_neg (by omega)]
    have : a ≠ b := by rintro rfl; exact hl rfl
    simp [this]
theorem pl_segsame (a b : S122) (hn : a.f0.length < 9223372036854775807) (k : Nat) (hk : a.f0.length < k) :
    ∃ r, split_Same.f k a.f0 a.f1 a.f2 a.f3 a.f4 a.f5 b.f0 b.f1 b.f2 b.f3 b.f4 b.f5 = some r ∧ bilgeref09_Same.f k a.f0 a.f1 a.f2 a.f3 a.f4 a.f5 b.f0 b.f1 b.f2 b.f3 b.f4 b.f5 = some r := by
  unfold split_Same.f bilgeref09_Same.f
  by_cases h1 : a.f1 = b.f1
  case neg => rw [if_neg h1, if_neg h1]; exact ⟨_, rfl, rfl⟩
  rw [if_pos h1, if_pos h1]
  by_cases h2 : a.f2 = b.f2
  case neg => rw [if_neg h2, if_neg h2]; exact ⟨_, rfl, rfl⟩
  rw [if_pos h2, if_pos h2]
  by_cases h3 : a.f3 = b.f3
  case neg => rw [if_neg h3, if_neg h3]; exact ⟨_, rfl, rfl⟩
  rw [if_pos h3, if_pos h3]
  by_cases h4 : (a.f4 == b.f4) = true
  case neg => rw [if_neg h4, if_neg h4]; exact ⟨_, rfl, rfl⟩
  rw [if_pos h4, if_pos h4]
  by_cases h5 : (a.f5 == b.f5) = true
  case neg => rw [if_neg h5, if_neg h5]; exact ⟨_, rfl, rfl⟩
  rw [if_pos h5, if_pos h5, pl_equal _ _ hn k hk, pl_bytes _ _ hn k hk]
  exact ⟨_, rfl, rfl⟩

theorem pl_u8c {l : List Int} (h : ∀ x ∈ l, (Lit.int .u8 x).wf = true) : ∀ x ∈ l, 0 ≤ x ∧ x ≤ 255 := fun x hx => wf_u8 (h x hx)
theorem pl_crcsum (l : List Int) (hb : ∀ x ∈ l, 0 ≤ x ∧ x ≤ 255) : crc_Sum.f l = some ((pRem 65535 l : Nat) : Int) := by
  unfold crc_Sum.f
  rw [if_pos hb]

theorem pl_crccheck (l : List Int) (hb : ∀ x ∈ l, 0 ≤ x ∧ x ≤ 255) : crc_Check.f l = some (decide (2 ≤ l.length ∧ pRem 65535 l = 0)) := by
  unfold crc_Check.f
  by_cases h : 2 ≤ l.length
  · rw [if_pos (by omega), pl_crcsum l hb]
    refine congrArg some ?_
    rw [Bool.eq_iff_iff]
    simp only [beq_iff_eq, decide_eq_true_eq]
    omega
  · rw [if_neg (by omega)]
    refine congrArg some ?_
    rw [eq_comm, decide_eq_false_iff_not]
    omega

theorem pl_rbit (r : Nat) (b : Bool) (hr : r < 65536) : bilgeref03_Bit.f (r : Int) b = some ((pb r (if b = true then 1 else 0) : Nat) : Int) := by
  unfold bilgeref03_Bit.f
  have h1 : Int.tmod (r : Int) 2 = ((r % 2 : Nat) : Int) := by rw [Int.tmod_eq_emod_of_nonneg (by omega)]; omega
  have h2 : IntKind.u16.wrap (Int.tdiv (r : Int) 2) = ((r / 2 : Nat) : Int) := by
    rw [Int.tdiv_eq_ediv_of_nonneg (by omega), show (r : Int) / 2 = ((r / 2 : Nat) : Int) by omega]
    simp [IntKind.wrap, IntKind.signed, IntKind.bits]; omega
  have h3 : Go.bits .xor .u16 ((r / 2 : Nat) : Int) 40961 = ((r / 2 ^^^ 40961 : Nat) : Int) := u16_xor_nat (r / 2) 40961 (by omega) (by omega)
  have h4 := par_xor r (if b = true then 1 else 0)
  rw [h1, h2, h3]
  unfold pb
  rcases Nat.mod_two_eq_zero_or_one r with e | e <;> cases b
  · rw [if_neg (by decide), if_neg (by omega), if_neg (by simp at h4 ⊢; omega), Nat.xor_zero]
  · rw [if_pos rfl, if_neg (by omega), if_pos (by simp at h4 ⊢; omega)]
  · rw [if_neg (by decide), if_pos (by omega), if_pos (by simp at h4 ⊢; omega)]
  · rw [if_pos rfl, if_pos (by omega), if_neg (by simp at h4 ⊢; omega), Nat.xor_zero]
theorem pl_rbyte_l (x : Nat) (hx : x < 256) : ∀ (d k i r : Nat), i + d = 8 → d < k → r < 65536 → bilgeref03_Byte.l0 k (r : Int) (x : Int) i = some ((pbs d r (x / 2 ^ i) : Nat) : Int) := by
  intro d
  induction d with
  | zero =>
    intro k i r hi hk hr
    obtain ⟨k, rfl⟩ : ∃ m, k = m + 1 := ⟨k - 1, by omega⟩
    simp only [bilgeref03_Byte.l0]
    rw [if_neg (by omega)]; rfl
  | succ d ih =>
    intro k i r hi hk hr
    obtain ⟨k, rfl⟩ : ∃ m, k = m + 1 := ⟨k - 1, by omega⟩
    simp only [bilgeref03_Byte.l0]
    rw [if_pos (by omega), if_pos (by omega)]
    have e : (Int.tmod (shr .u8 (x : Int) (i : Int)) 2 == 1) = decide (x / 2 ^ i % 2 = 1) := by
      unfold shr
      rw [show min (i : Int).toNat IntKind.u8.bits = i by simp [IntKind.bits]; omega, show (x : Int) / 2 ^ i = ((x / 2 ^ i : Nat) : Int) by simp, Int.tmod_eq_emod_of_nonneg (Int.natCast_nonneg _), Bool.eq_iff_iff]
      simp only [beq_iff_eq, decide_eq_true_eq]
      omega
    rw [e]
    refine pl_bind (pl_rbit r _ hr) ?_
    have e2 : (if decide (x / 2 ^ i % 2 = 1) = true then 1 else 0) = x / 2 ^ i % 2 := by
      rcases Nat.mod_two_eq_zero_or_one (x / 2 ^ i) with h | h <;> rw [h] <;> rfl
    rw [e2, pl_w64 (by omega)]
    have := ih k (i + 1) (pb r (x / 2 ^ i % 2)) (by omega) (by omega) (pb_lt hr)
    rw [Nat.pow_succ, ← Nat.div_div_eq_div_mul] at this
    exact this
theorem pl_rbyte (r x : Nat) (hr : r < 65536) (hx : x < 256) (k : Nat) (hk : 8 < k) : bilgeref03_Byte.f k (r : Int) (x : Int) = some ((pBy r x : Nat) : Int) := by
  unfold bilgeref03_Byte.f
  have := pl_rbyte_l x hx 8 k 0 r (by omega) hk hr
  rw [Nat.pow_zero, Nat.div_one] at this
  exact this

theorem pl_rrem_l (l : List Int) (hb : ∀ x ∈ l, 0 ≤ x ∧ x ≤ 255) (hn : l.length < 100000) (r : Nat) (hr : r < 65536) : ∀ (d k i : Nat), i + d = l.length → d + 8 < k →
    bilgeref03_Rem.l0 k (pRem r (l.take i) : Nat) l i = some ((pRem r l : Nat) : Int) := by
  intro d
  induction d with
  | zero =>
    intro k i hi hk
    obtain ⟨k, rfl⟩ : ∃ m, k = m + 1 := ⟨k - 1, by omega⟩
    simp only [bilgeref03_Rem.l0]
    rw [if_neg (by omega), List.take_of_length_le (by omega)]
  | succ d ih =>
    intro k i hi hk
    obtain ⟨k, rfl⟩ : ∃ m, k = m + 1 := ⟨k - 1, by omega⟩
    simp only [bilgeref03_Rem.l0]
    have hx := hb (l[i]'(by omega)) (List.getElem_mem _)
    obtain ⟨x, he⟩ := Int.eq_ofNat_of_zero_le hx.1
    rw [if_pos (by omega), if_pos (by omega), pl_rd_nat, getD_at _ _ (by omega), he]
    refine pl_bind (pl_rbyte (pRem r (l.take i)) x (pRem_lt _ hr) (by omega) k (by omega)) ?_
    have e : pBy (pRem r (l.take i)) x = pRem r (l.take (i + 1)) := by
      rw [take_snoc l i (by omega), pRem_snoc, he, Int.toNat_natCast]
    rw [e, pl_w64 (by omega)]
    exact ih k (i + 1) (by omega) (by omega)
theorem pl_rrem (l : List Int) (hb : ∀ x ∈ l, 0 ≤ x ∧ x ≤ 255) (hn : l.length < 100000) (r : Nat) (hr : r < 65536) (k : Nat) (hk : l.length + 8 < k) : bilgeref03_Rem.f k (r : Int) l = some ((pRem r l : Nat) : Int) := by
  unfold bilgeref03_Rem.f
  exact pl_rrem_l l hb hn r hr l.length k 0 (by omega) hk

theorem pl_refsum04 (l : List Int) (hb : ∀ x ∈ l, 0 ≤ x ∧ x ≤ 255) (hn : l.length < 100000) (k : Nat) (hk : l.length + 8 < k) : bilgeref04_Sum.f k l = some ((pRem 65535 l : Nat) : Int) := by
  unfold bilgeref04_Sum.f
  exact pl_bind (pl_rrem l hb hn 65535 (by omega) k hk) rfl
theorem pl_lo (m : Nat) : Int.tmod (m : Int) 256 % 256 = ((m % 256 : Nat) : Int) := by
  rw [Int.tmod_eq_emod_of_nonneg (by omega)]; omega
theorem pl_hi (m : Nat) (h : m < 65536) : IntKind.u16.wrap (Int.tdiv (m : Int) 256) % 256 = ((m / 256 : Nat) : Int) := by
  rw [Int.tdiv_eq_ediv_of_nonneg (by omega)]
  simp [IntKind.wrap, IntKind.signed, IntKind.bits]; omega

theorem pl_refcheck04 (l : List Int) (hb : ∀ x ∈ l, 0 ≤ x ∧ x ≤ 255) (hn : l.length < 100000) (k : Nat) (hk : l.length + 8 < k) : bilgeref04_Check.f k l = some (decide (2 ≤ l.length ∧ pRem 65535 l = 0)) := by
  unfold bilgeref04_Check.f
  by_cases h : 2 ≤ l.length
  · obtain ⟨n, hn2⟩ : ∃ n, l.length = n + 2 := ⟨l.length - 2, by omega⟩
    have ht := pl_refsum04 (l.take n) (fun x hx => hb x (List.mem_of_mem_take hx)) (by rw [List.length_take]; omega) k (by rw [List.length_take]; omega)
    have hm : pRem 65535 (l.take n) < 65536 := pRem_lt _ (by omega)
    have h2 := pRem_two l h
    rw [hn2, show n + 2 - 2 = n by omega, show n + 2 - 1 = n + 1 by omega] at h2
    have hx := hb (l[n]'(by omega)) (List.getElem_mem _)
    have hy := hb (l[n + 1]'(by omega)) (List.getElem_mem _)
    have e1 : rd l (wrap64 ((l.length : Int) - 2)) = l[n]'(by omega) := by
      rw [pl_w64 (by omega), pl_rd_eq l _ n (by omega), getD_at]
    have e2 : rd l (wrap64 (wrap64 ((l.length : Int) - 2) + 1)) = l[n + 1]'(by omega) := by
      rw [pl_w64 (i := (l.length : Int) - 2) (by omega), pl_w64 (by omega), pl_rd_eq l _ (n + 1) (by omega), getD_at]
    rw [getD_at l n (by omega), getD_at l (n + 1) (by omega)] at h2
    rw [e1, e2]
    generalize l[n]'(by omega) = x at *
    generalize l[n + 1]'(by omega) = y at *
    rw [pl_w64 (i := (l.length : Int) - 2) (by omega), if_neg (by omega), if_pos (by omega), if_pos (by omega), show ((l.length : Int) - 2).toNat = n by omega]
    refine pl_bind ht ?_
    generalize pRem 65535 (l.take n) = m at *
    rw [if_pos (by omega), pl_w64 (by omega), if_pos (show (0 : Int) ≤ (l.length : Int) - 2 + 1 by omega), if_pos (show (l.length : Int) - 2 + 1 < (l.length : Int) by omega), pl_lo, pl_hi m hm]
    have h3 := pBy_two (s := m) (a := x.toNat) (b := y.toNat) hm (by omega) (by omega)
    rw [← h2] at h3
    by_cases c : x = ((m % 256 : Nat) : Int)
    · rw [if_pos c]
      refine congrArg some ?_
      rw [Bool.eq_iff_iff]
      simp only [beq_iff_eq, decide_eq_true_eq]
      rw [h3]; omega
    · rw [if_neg c]
      refine congrArg some ?_
      rw [eq_comm, decide_eq_false_iff_not, h3]
      omega
  · rw [pl_w64 (by omega), if_pos (by omega)]
    refine congrArg some ?_
    rw [eq_comm, decide_eq_false_iff_not]
    omega

def pl_fault (l : List Int) (n : Int) (g b : Bool) : Int := if n > 256 then 1 else if b = true then 2 else if g = true then 3 else if l.length < 4 then 4 else if pRem 65535 l = 0 then 0 else 5
def pl_errs (l : List Int) (n : Int) (b : Bool) : Bool := decide (n > 256) || b || (decide (4 ≤ l.length) && !decide (pRem 65535 l = 0))
theorem pl_faultof (l : List Int) (hb : ∀ x ∈ l, 0 ≤ x ∧ x ≤ 255) (u v n : Int) (g b : Bool) : split_Fault.f l u v n g b = some (pl_fault l n g b) := by
  unfold split_Fault.f pl_fault
  by_cases h1 : n > 256
  · rw [if_pos h1, if_pos h1]
  rw [if_neg h1, if_neg h1]
  by_cases h2 : b = true
  · rw [if_pos h2, if_pos h2]
  rw [if_neg h2, if_neg h2]
  by_cases h3 : g = true
  · rw [if_pos h3, if_pos h3]
  rw [if_neg h3, if_neg h3]
  by_cases h4 : l.length < 4
  · rw [if_pos h4, if_pos (by omega)]
  rw [if_neg h4, if_neg (by omega)]
  refine pl_bind (pl_crccheck l hb) ?_
  by_cases h5 : pRem 65535 l = 0
  · rw [if_pos h5, if_pos (by rw [decide_eq_true_eq]; exact ⟨by omega, h5⟩)]
  · rw [if_neg h5, if_neg (by rw [decide_eq_true_eq]; exact fun h => h5 h.2)]
theorem pl_reffault (l : List Int) (hb : ∀ x ∈ l, 0 ≤ x ∧ x ≤ 255) (u v n : Int) (g b : Bool) (hn : l.length < 100000) (k : Nat) (hk : l.length + 8 < k) : bilgeref09_Fault.f k l u v n g b = some (pl_fault l n g b) := by
  unfold bilgeref09_Fault.f pl_fault
  by_cases h1 : n > 256
  · rw [if_pos h1, if_pos h1]
  rw [if_neg h1, if_neg h1]
  by_cases h2 : b = true
  · rw [if_pos h2, if_pos h2]
  rw [if_neg h2, if_neg h2]
  by_cases h3 : g = true
  · rw [if_pos h3, if_pos h3]
  rw [if_neg h3, if_neg h3]
  by_cases h4 : l.length < 4
  · rw [if_pos h4, if_pos (by omega)]
  rw [if_neg h4, if_neg (by omega)]
  refine pl_bind (pl_refcheck04 l hb hn k hk) ?_
  by_cases h5 : pRem 65535 l = 0
  · rw [if_pos h5, if_pos (by rw [decide_eq_true_eq]; exact ⟨by omega, h5⟩)]
  · rw [if_neg h5, if_neg (by rw [decide_eq_true_eq]; exact fun h => h5 h.2)]
theorem pl_errsof (l : List Int) (hb : ∀ x ∈ l, 0 ≤ x ∧ x ≤ 255) (u v n : Int) (g b : Bool) : split_Errs.f l u v n g b = some (pl_errs l n b) := by
  unfold split_Errs.f pl_errs
  by_cases h1 : n > 256
  · rw [if_pos h1]; simp [h1]
  rw [if_neg h1]
  by_cases h2 : b = true
  · rw [if_pos h2]; simp [h2]
  rw [if_neg h2]
  by_cases h4 : l.length < 4
  · rw [if_pos (by omega)]; simp [h1, h2]; omega
  rw [if_neg (by omega)]
  refine pl_bind (pl_crccheck l hb) ?_
  refine congrArg some ?_
  by_cases h5 : pRem 65535 l = 0
  · simp [h1, h2, h5]; omega
  · simp [h1, h2, h5]; omega
theorem pl_referrs (l : List Int) (hb : ∀ x ∈ l, 0 ≤ x ∧ x ≤ 255) (u v n : Int) (g b : Bool) (hn : l.length < 100000) (k : Nat) (hk : l.length + 8 < k) : bilgeref09_Errs.f k l u v n g b = some (pl_errs l n b) := by
  unfold bilgeref09_Errs.f pl_errs
  by_cases h1 : n > 256
  · rw [if_pos h1]; simp [h1]
  rw [if_neg h1]
  by_cases h2 : b = true
  · rw [if_pos h2]; simp [h2]
  rw [if_neg h2]
  by_cases h4 : l.length < 4
  · rw [if_neg (by omega)]; simp [h1, h2]; omega
  rw [if_pos (by omega)]
  refine pl_bind (pl_refcheck04 l hb hn k hk) ?_
  refine congrArg some ?_
  by_cases h5 : pRem 65535 l = 0
  · simp [h1, h2, h5]; omega
  · simp [h1, h2, h5]; omega

theorem SplitFaults : bilgelaw09_SplitFaults.Pure := by
  intro a b ha hb
  have hmx : maxLen = 9223372036854775807 := rfl
  have hla := ha.1.1
  have hlb := hb.1.1
  have hbd := pl_u8c ha.1.2.2
  obtain ⟨K, hK⟩ : ∃ K : Nat, 3000 ≤ K := ⟨3000, by omega⟩
  have hla2 := ha.1.2.1
  have hlb2 := hb.1.2.1
  refine ⟨K, ?_⟩
  unfold bilgelaw09_SplitFaults.f
  rw [pl_w64 (i := (a.f0.length : Int) + (b.f0.length : Int)) (by omega)]
  by_cases hlen : a.f0.length + b.f0.length > 700
  · rw [if_pos (by omega)]; rfl
  rw [if_neg (by omega)]
  refine pl_bind (pl_faultof a.f0 hbd a.f1 a.f2 a.f3 a.f4 a.f5) ?_
  refine pl_bind (pl_reffault a.f0 hbd a.f1 a.f2 a.f3 a.f4 a.f5 (by omega) K (by omega)) ?_
  refine Eq.trans (if_pos rfl) ?_
  refine pl_bind (pl_errsof a.f0 hbd a.f1 a.f2 a.f3 a.f4 a.f5) ?_
  refine pl_bind (pl_referrs a.f0 hbd a.f1 a.f2 a.f3 a.f4 a.f5 (by omega) K (by omega)) ?_
  refine Eq.trans (if_pos (by simp)) ?_
  obtain ⟨r, h1, h2⟩ := pl_segsame a b (by omega) K (by omega)
  refine pl_bind h1 (pl_bind h2 ?_)
  refine Eq.trans (if_pos (by simp)) ?_
  rfl

end Go.Proofs.Ytballgciakljnaa.Pure

/- Layer 11's law AduTells of the given program: the frame of anything said, and what any frame says, or the error. -/
import Derived.Test.YtbaodollggbcoaaPAduTellsx
import Derived.IntWalk
set_option linter.unusedVariables false
set_option linter.unusedSimpArgs false
namespace Go.Proofs.Ytbaodollggbcoaa.Pure
open Go.RowKit Go.Proofs.Ytbaodollggbcoaa.PAduTells Go.Proofs.YtbaodollggbcoaaW.PrintWords Go.Proofs.YtbaodollggbcoaaW.PrintLast Go.Proofs.YtbaodollggbcoaaW.PrintMore Go.Proofs.YtbaodollggbcoaaM

theorem pl_w64 {i : Int} (h : -9223372036854775808 ≤ i ∧ i ≤ 9223372036854775807) : wrap64 i = i := by unfold wrap64; omega
theorem pl_bind {α β : Type} {x : Option α} {f : α → Option β} {a : α} {r : β} (h : x = some a) (k : f a = some r) : x.bind f = some r := by rw [h]; exact k
theorem pl_rd_nat (l : List Int) (i : Nat) : rd l (i : Int) = l.getD i 0 := by simp [rd]
theorem pl_rd_eq (l : List Int) (i : Int) (n : Nat) (h : i = n) : rd l i = l.getD n 0 := by subst h; exact pl_rd_nat l n

theorem pl_u8c {l : List Int} (h : ∀ x ∈ l, (Lit.int .u8 x).wf = true) : ∀ x ∈ l, 0 ≤ x ∧ x ≤ 255 := fun x hx => wf_u8 (h x hx)
theorem pl_crcsum (l : List Int) (hb : ∀ x ∈ l, 0 ≤ x ∧ x ≤ 255) : crc_Sum.f l = some ((pRem 65535 l : Nat) : Int) := by
  unfold crc_Sum.f
  rw [if_pos hb]

def pl_crced (l : List Int) : List Int := l ++ [((pRem 65535 l % 256 : Nat) : Int), ((pRem 65535 l / 256 : Nat) : Int)]
theorem pl_crced_len (l : List Int) : (pl_crced l).length = l.length + 2 := by unfold pl_crced; rw [List.length_append]; rfl
theorem pl_crcappend (l : List Int) (hb : ∀ x ∈ l, 0 ≤ x ∧ x ≤ 255) (hn : l.length < 100000) : crc_Append.f l = some (pl_crced l) := by
  unfold crc_Append.f
  rw [if_pos ⟨by omega, hb⟩]; rfl
theorem pl_crced_u8 (l : List Int) (hb : ∀ x ∈ l, 0 ≤ x ∧ x ≤ 255) : ∀ x ∈ pl_crced l, 0 ≤ x ∧ x ≤ 255 := by
  intro x hx
  have hm : pRem 65535 l < 65536 := pRem_lt _ (by omega)
  simp only [pl_crced, List.mem_append, List.mem_cons, List.mem_nil_iff, or_false] at hx
  rcases hx with hx | rfl | rfl
  · exact hb x hx
  · omega
  · omega
theorem pl_crced_rem (l : List Int) : pRem 65535 (pl_crced l) = 0 := by
  have hm : pRem 65535 l < 65536 := pRem_lt _ (by omega)
  unfold pl_crced
  rw [pRem_append]
  show pBy (pBy (pRem 65535 l) (((pRem 65535 l % 256 : Nat) : Int)).toNat) (((pRem 65535 l / 256 : Nat) : Int)).toNat = 0
  rw [Int.toNat_natCast, Int.toNat_natCast]
  exact pBy_join hm

def pl_wrapped (s : Int) (l : List Int) : List Int × Int := if s < 0 ∨ 255 < s then ([], 11) else if l.length = 0 then ([], 12) else if 253 < l.length then ([], 13) else (pl_crced (s :: l), 0)
theorem pl_cons_u8 (s : Int) (l : List Int) (hs : 0 ≤ s ∧ s ≤ 255) (hb : ∀ x ∈ l, 0 ≤ x ∧ x ≤ 255) : ∀ x ∈ s :: l, 0 ≤ x ∧ x ≤ 255 := by
  intro x hx
  rcases List.mem_cons.1 hx with rfl | h
  · exact hs
  · exact hb x h
theorem pl_aduwrap (s : Int) (l : List Int) (hb : ∀ x ∈ l, 0 ≤ x ∧ x ≤ 255) (k : Nat) (hk : 0 < k) : adu_Wrap.f k s l = some (pl_wrapped s l) := by
  obtain ⟨k, rfl⟩ : ∃ m, k = m + 1 := ⟨k - 1, by omega⟩
  unfold adu_Wrap.f pl_wrapped
  by_cases h : s < 0 ∨ 255 < s
  · rw [if_pos h]
    have e : adu_Wrap.j0 (k + 1) s l true = some ([], 11) := by simp only [adu_Wrap.j0]; rw [if_pos trivial]
    by_cases h1 : s < 0
    · rw [if_pos h1, e]
    · rw [if_neg h1, show decide (s > 255) = true by rw [decide_eq_true_eq]; omega, e]
  · rw [if_neg h, if_neg (by omega), show decide (s > 255) = false by rw [decide_eq_false_iff_not]; omega]
    simp only [adu_Wrap.j0]
    rw [if_neg (by decide)]
    by_cases h2 : l.length = 0
    · rw [if_pos (by omega), if_pos h2]
    · rw [if_neg (by omega), if_neg h2]
      by_cases h3 : 253 < l.length
      · rw [if_pos (by omega), if_pos h3]
      · rw [if_neg (by omega), if_neg h3]
        have hj : adu_joined.f [[s % 256], l] = some (s :: l) := by
          unfold adu_joined.f
          have e : [[s % 256], l].flatten = s :: l := by rw [show s % 256 = s by omega]; simp
          rw [e, if_pos (by rw [List.length_cons]; omega)]
        refine pl_bind hj ?_
        exact pl_bind (pl_crcappend (s :: l) (pl_cons_u8 s l (by omega) hb) (by rw [List.length_cons]; omega)) rfl

theorem pl_rbit (r : Nat) (b : Bool) (hr : r < 65536) : bilgeref03_Bit.f (r : Int) b = some ((pb r (if b = true then 1 else 0) : Nat) : Int) := by
  unfold bilgeref03_Bit.f
  have h1 : Int.tmod (r : Int) 2 = ((r % 2 : Nat) : Int) := by rw [Int.tmod_eq_emod_of_nonneg (by omega)]; omega
  have h2 : IntKind.u16.wrap (Int.tdiv (r : Int) 2) = ((r / 2 : Nat) : Int) := by
    rw [Int.tdiv_eq_ediv_of_nonneg (by omega), show (r : Int) / 2 = ((r / 2 : Nat) : Int) by omega]
    simp [IntKind.wrap, IntKind.signed, IntKind.bits]; omega
  have h3 : Go.bits .xor .u16 ((r / 2 : Nat) : Int) 40961 = ((r / 2 ^^^ 40961 : Nat) : Int) := u16_xor_nat (r / 2) 40961 (by omega) (by omega)
  have h4 := par_xor r (if b = true then 1 else 0)
  rw [h1, h2, h3]
  unfold pb
  rcases Nat.mod_two_eq_zero_or_one r with e | e <;> cases b
  · rw [if_neg (by decide), if_neg (by omega), if_neg (by simp at h4 ⊢; omega), Nat.xor_zero]
  · rw [if_pos rfl, if_neg (by omega), if_pos (by simp at h4 ⊢; omega)]
  · rw [if_neg (by decide), if_pos (by omega), if_pos (by simp at h4 ⊢; omega)]
  · rw [if_pos rfl, if_pos (by omega), if_neg (by simp at h4 ⊢; omega), Nat.xor_zero]
theorem pl_rbyte_l (x : Nat) (hx : x < 256) : ∀ (d k i r : Nat), i + d = 8 → d < k → r < 65536 → bilgeref03_Byte.l0 k (r : Int) (x : Int) i = some ((pbs d r (x / 2 ^ i) : Nat) : Int) := by
  intro d
  induction d with
  | zero =>
    intro k i r hi hk hr
    obtain ⟨k, rfl⟩ : ∃ m, k = m + 1 := ⟨k - 1, by omega⟩
    simp only [bilgeref03_Byte.l0]
    rw [if_neg (by omega)]; rfl
  | succ d ih =>
    intro k i r hi hk hr
    obtain ⟨k, rfl⟩ : ∃ m, k = m + 1 := ⟨k - 1, by omega⟩
    simp only [bilgeref03_Byte.l0]
    rw [if_pos (by omega), if_pos (by omega)]
    have e : (Int.tmod (shr .u8 (x : Int) (i : Int)) 2 == 1) = decide (x / 2 ^ i % 2 = 1) := by
      unfold shr
      rw [show min (i : Int).toNat IntKind.u8.bits = i by simp [IntKind.bits]; omega, show (x : Int) / 2 ^ i = ((x / 2 ^ i : Nat) : Int) by simp, Int.tmod_eq_emod_of_nonneg (Int.natCast_nonneg _), Bool.eq_iff_iff]
      simp only [beq_iff_eq, decide_eq_true_eq]
      omega
    rw [e]
    refine pl_bind (pl_rbit r _ hr) ?_
    have e2 : (if decide (x / 2 ^ i % 2 = 1) = true then 1 else 0) = x / 2 ^ i % 2 := by
      rcases Nat.mod_two_eq_zero_or_one (x / 2 ^ i) with h | h <;> rw [h] <;> rfl
    rw [e2, pl_w64 (by omega)]
    have := ih k (i + 1) (pb r (x / 2 ^ i % 2)) (by omega) (by omega) (pb_lt hr)
    rw [Nat.pow_succ, ← Nat.div_div_eq_div_mul] at this
    exact this
theorem pl_rbyte (r x : Nat) (hr : r < 65536) (hx : x < 256) (k : Nat) (hk : 8 < k) : bilgeref03_Byte.f k (r : Int) (x : Int) = some ((pBy r x : Nat) : Int) := by
  unfold bilgeref03_Byte.f
  have := pl_rbyte_l x hx 8 k 0 r (by omega) hk hr
  rw [Nat.pow_zero, Nat.div_one] at this
  exact this

theorem pl_rrem_l (l : List Int) (hb : ∀ x ∈ l, 0 ≤ x ∧ x ≤ 255) (hn : l.length < 100000) (r : Nat) (hr : r < 65536) : ∀ (d k i : Nat), i + d = l.length → d + 8 < k →
    bilgeref03_Rem.l0 k (pRem r (l.take i) : Nat) l i = some ((pRem r l : Nat) : Int) := by
  intro d
  induction d with
  | zero =>
    intro k i hi hk
    obtain ⟨k, rfl⟩ : ∃ m, k = m + 1 := ⟨k - 1, by omega⟩
    simp only [bilgeref03_Rem.l0]
    rw [if_neg (by omega), List.take_of_length_le (by omega)]
  | succ d ih =>
    intro k i hi hk
    obtain ⟨k, rfl⟩ : ∃ m, k = m + 1 := ⟨k - 1, by omega⟩
    simp only [bilgeref03_Rem.l0]
    have hx := hb (l[i]'(by omega)) (List.getElem_mem _)
    obtain ⟨x, he⟩ := Int.eq_ofNat_of_zero_le hx.1
    rw [if_pos (by omega), if_pos (by omega), pl_rd_nat, getD_at _ _ (by omega), he]
    refine pl_bind (pl_rbyte (pRem r (l.take i)) x (pRem_lt _ hr) (by omega) k (by omega)) ?_
    have e : pBy (pRem r (l.take i)) x = pRem r (l.take (i + 1)) := by
      rw [take_snoc l i (by omega), pRem_snoc, he, Int.toNat_natCast]
    rw [e, pl_w64 (by omega)]
    exact ih k (i + 1) (by omega) (by omega)
theorem pl_rrem (l : List Int) (hb : ∀ x ∈ l, 0 ≤ x ∧ x ≤ 255) (hn : l.length < 100000) (r : Nat) (hr : r < 65536) (k : Nat) (hk : l.length + 8 < k) : bilgeref03_Rem.f k (r : Int) l = some ((pRem r l : Nat) : Int) := by
  unfold bilgeref03_Rem.f
  exact pl_rrem_l l hb hn r hr l.length k 0 (by omega) hk

theorem pl_refsum04 (l : List Int) (hb : ∀ x ∈ l, 0 ≤ x ∧ x ≤ 255) (hn : l.length < 100000) (k : Nat) (hk : l.length + 8 < k) : bilgeref04_Sum.f k l = some ((pRem 65535 l : Nat) : Int) := by
  unfold bilgeref04_Sum.f
  exact pl_bind (pl_rrem l hb hn 65535 (by omega) k hk) rfl
theorem pl_lo (m : Nat) : Int.tmod (m : Int) 256 % 256 = ((m % 256 : Nat) : Int) := by
  rw [Int.tmod_eq_emod_of_nonneg (by omega)]; omega
theorem pl_hi (m : Nat) (h : m < 65536) : IntKind.u16.wrap (Int.tdiv (m : Int) 256) % 256 = ((m / 256 : Nat) : Int) := by
  rw [Int.tdiv_eq_ediv_of_nonneg (by omega)]
  simp [IntKind.wrap, IntKind.signed, IntKind.bits]; omega

theorem pl_refappend04 (l : List Int) (hb : ∀ x ∈ l, 0 ≤ x ∧ x ≤ 255) (hn : l.length < 100000) (k : Nat) (hk : l.length + 8 < k) : bilgeref04_Append.f k l = some (pl_crced l) := by
  have hm : pRem 65535 l < 65536 := pRem_lt _ (by omega)
  unfold bilgeref04_Append.f
  refine pl_bind (pl_refsum04 l hb hn k hk) ?_
  rw [pl_lo, pl_hi _ hm]
  refine pl_bind rfl ?_
  rw [if_pos (by rw [List.length_nil]; omega)]
  refine pl_bind rfl ?_
  refine pl_bind rfl ?_
  rw [if_pos (by simp; omega), List.nil_append]
  rfl

theorem pl_refwrap (s : Int) (l : List Int) (hb : ∀ x ∈ l, 0 ≤ x ∧ x ≤ 255) (k : Nat) (hk : 300 < k) : bilgeref11_Wrap.f k s l = some (pl_wrapped s l) := by
  obtain ⟨k, rfl⟩ : ∃ m, k = m + 1 := ⟨k - 1, by omega⟩
  unfold bilgeref11_Wrap.f pl_wrapped
  by_cases h : s < 0 ∨ 255 < s
  · rw [if_pos h]
    have e : bilgeref11_Wrap.j0 (k + 1) s l true = some ([], 11) := by simp only [bilgeref11_Wrap.j0]; rw [if_pos trivial]
    by_cases h1 : s < 0
    · rw [if_pos h1, e]
    · rw [if_neg h1, show decide (s > 255) = true by rw [decide_eq_true_eq]; omega, e]
  · rw [if_neg h, if_neg (by omega), show decide (s > 255) = false by rw [decide_eq_false_iff_not]; omega]
    simp only [bilgeref11_Wrap.j0]
    rw [if_neg (by decide)]
    by_cases h2 : l.length = 0
    · rw [if_pos (by omega), if_pos h2]
    · rw [if_neg (by omega), if_neg h2]
      by_cases h3 : 253 < l.length
      · rw [if_pos (by omega), if_pos h3]
      · rw [if_neg (by omega), if_neg h3, show s % 256 = s by omega]
        refine pl_bind rfl ?_
        rw [if_pos (by rw [List.length_singleton]; omega), List.singleton_append]
        exact pl_bind (pl_refappend04 (s :: l) (pl_cons_u8 s l (by omega) hb) (by rw [List.length_cons]; omega) k (by rw [List.length_cons]; omega)) rfl

theorem pl_crccheck (l : List Int) (hb : ∀ x ∈ l, 0 ≤ x ∧ x ≤ 255) : crc_Check.f l = some (decide (2 ≤ l.length ∧ pRem 65535 l = 0)) := by
  unfold crc_Check.f
  by_cases h : 2 ≤ l.length
  · rw [if_pos (by omega), pl_crcsum l hb]
    refine congrArg some ?_
    rw [Bool.eq_iff_iff]
    simp only [beq_iff_eq, decide_eq_true_eq]
    omega
  · rw [if_neg (by omega)]
    refine congrArg some ?_
    rw [eq_comm, decide_eq_false_iff_not]
    omega

theorem pl_crcstrip (l : List Int) (hb : ∀ x ∈ l, 0 ≤ x ∧ x ≤ 255) (hn : l.length < 100000) : crc_Strip.f l = some (if l.length < 2 then ([], 12) else if pRem 65535 l = 0 then (l.take (l.length - 2), 0) else ([], 14)) := by
  unfold crc_Strip.f
  by_cases h : l.length < 2
  · rw [if_pos (by omega), if_pos h]
  · rw [if_neg (by omega), if_neg h]
    refine pl_bind (pl_crccheck l hb) ?_
    by_cases hz : pRem 65535 l = 0
    · rw [if_pos (by rw [decide_eq_true_eq]; exact ⟨by omega, hz⟩), if_pos hz]
      refine pl_bind rfl ?_
      rw [pl_w64 (by omega), if_pos (by omega), if_pos (by omega), if_pos (by rw [List.length_take, List.length_nil]; omega), show ((l.length : Int) - 2).toNat = l.length - 2 by omega]
      rfl
    · rw [if_neg (by rw [decide_eq_true_eq]; exact fun hh => hz hh.2), if_neg hz]

def pl_opened (l : List Int) : Int × List Int × Int := if l.length < 4 then (0, [], 12) else if 256 < l.length then (0, [], 13) else if pRem 65535 l = 0 then (l.getD 0 0, (l.take (l.length - 2)).drop 1, 0) else (0, [], 14)
theorem pl_u8_w64 {l : List Int} (hb : ∀ x ∈ l, 0 ≤ x ∧ x ≤ 255) : wrap64 (l.getD 0 0) = l.getD 0 0 := by
  cases l with
  | nil => exact pl_w64 (by decide)
  | cons x l => have := hb x (by simp); exact pl_w64 (by simp; omega)
theorem pl_aduopen (l : List Int) (hb : ∀ x ∈ l, 0 ≤ x ∧ x ≤ 255) (hn : l.length < 100000) : adu_Open.f l = some (pl_opened l) := by
  unfold adu_Open.f pl_opened
  by_cases h1 : l.length < 4
  · rw [if_pos (by omega), if_pos h1]
  · rw [if_neg (by omega), if_neg h1]
    by_cases h2 : 256 < l.length
    · rw [if_pos (by omega), if_pos h2]
    · rw [if_neg (by omega), if_neg h2]
      refine pl_bind (pl_crcstrip l hb hn) ?_
      rw [if_neg (show ¬ l.length < 2 by omega)]
      by_cases hz : pRem 65535 l = 0
      · rw [if_pos hz, if_pos hz, if_pos rfl]
        have hl : (l.take (l.length - 2)).length = l.length - 2 := by rw [List.length_take]; omega
        show (if 0 < ((l.take (l.length - 2)).length : Int) then (if 1 ≤ ((l.take (l.length - 2)).length : Int) then (adu_joined.f [(l.take (l.length - 2)).drop 1]).bind fun t140 => some (wrap64 (rd (l.take (l.length - 2)) 0), t140, 0) else none) else none) = _
        rw [if_pos (by omega), if_pos (by omega)]
        have hj : adu_joined.f [(l.take (l.length - 2)).drop 1] = some ((l.take (l.length - 2)).drop 1) := by
          unfold adu_joined.f
          have e : [(l.take (l.length - 2)).drop 1].flatten = (l.take (l.length - 2)).drop 1 := by simp
          rw [e, if_pos (by rw [List.length_drop]; omega)]
        refine pl_bind hj ?_
        have e0 : rd (l.take (l.length - 2)) 0 = l.getD 0 0 := by
          rw [show rd (l.take (l.length - 2)) 0 = (l.take (l.length - 2)).getD 0 0 from rfl, getD_at _ _ (by omega), getD_at _ _ (by omega), List.getElem_take]
        rw [e0, pl_u8_w64 hb]
      · rw [if_neg hz, if_neg hz, if_neg (by decide)]

theorem pl_refcheck04 (l : List Int) (hb : ∀ x ∈ l, 0 ≤ x ∧ x ≤ 255) (hn : l.length < 100000) (k : Nat) (hk : l.length + 8 < k) : bilgeref04_Check.f k l = some (decide (2 ≤ l.length ∧ pRem 65535 l = 0)) := by
  unfold bilgeref04_Check.f
  by_cases h : 2 ≤ l.length
  · obtain ⟨n, hn2⟩ : ∃ n, l.length = n + 2 := ⟨l.length - 2, by omega⟩
    have ht := pl_refsum04 (l.take n) (fun x hx => hb x (List.mem_of_mem_take hx)) (by rw [List.length_take]; omega) k (by rw [List.length_take]; omega)
    have hm : pRem 65535 (l.take n) < 65536 := pRem_lt _ (by omega)
    have h2 := pRem_two l h
    rw [hn2, show n + 2 - 2 = n by omega, show n + 2 - 1 = n + 1 by omega] at h2
    have hx := hb (l[n]'(by omega)) (List.getElem_mem _)
    have hy := hb (l[n + 1]'(by omega)) (List.getElem_mem _)
    have e1 : rd l (wrap64 ((l.length : Int) - 2)) = l[n]'(by omega) := by
      rw [pl_w64 (by omega), pl_rd_eq l _ n (by omega), getD_at]
    have e2 : rd l (wrap64 (wrap64 ((l.length : Int) - 2) + 1)) = l[n + 1]'(by omega) := by
      rw [pl_w64 (i := (l.length : Int) - 2) (by omega), pl_w64 (by omega), pl_rd_eq l _ (n + 1) (by omega), getD_at]
    rw [getD_at l n (by omega), getD_at l (n + 1) (by omega)] at h2
    rw [e1, e2]
    generalize l[n]'(by omega) = x at *
    generalize l[n + 1]'(by omega) = y at *
    rw [pl_w64 (i := (l.length : Int) - 2) (by omega), if_neg (by omega), if_pos (by omega), if_pos (by omega), show ((l.length : Int) - 2).toNat = n by omega]
    refine pl_bind ht ?_
    generalize pRem 65535 (l.take n) = m at *
    rw [if_pos (by omega), pl_w64 (by omega), if_pos (show (0 : Int) ≤ (l.length : Int) - 2 + 1 by omega), if_pos (show (l.length : Int) - 2 + 1 < (l.length : Int) by omega), pl_lo, pl_hi m hm]
    have h3 := pBy_two (s := m) (a := x.toNat) (b := y.toNat) hm (by omega) (by omega)
    rw [← h2] at h3
    by_cases c : x = ((m % 256 : Nat) : Int)
    · rw [if_pos c]
      refine congrArg some ?_
      rw [Bool.eq_iff_iff]
      simp only [beq_iff_eq, decide_eq_true_eq]
      rw [h3]; omega
    · rw [if_neg c]
      refine congrArg some ?_
      rw [eq_comm, decide_eq_false_iff_not, h3]
      omega
  · rw [pl_w64 (by omega), if_pos (by omega)]
    refine congrArg some ?_
    rw [eq_comm, decide_eq_false_iff_not]
    omega

theorem pl_refopen (l : List Int) (hb : ∀ x ∈ l, 0 ≤ x ∧ x ≤ 255) (hn : l.length < 100000) (k : Nat) (hk : l.length + 8 < k) : bilgeref11_Open.f k l = some (pl_opened l) := by
  unfold bilgeref11_Open.f pl_opened
  by_cases h1 : l.length < 4
  · rw [if_pos (by omega), if_pos h1]
  · rw [if_neg (by omega), if_neg h1]
    by_cases h2 : 256 < l.length
    · rw [if_pos (by omega), if_pos h2]
    · rw [if_neg (by omega), if_neg h2]
      refine pl_bind (pl_refcheck04 l hb hn k hk) ?_
      by_cases hz : pRem 65535 l = 0
      · rw [if_pos (by rw [decide_eq_true_eq]; exact ⟨by omega, hz⟩), if_pos hz, if_pos (by omega)]
        refine pl_bind rfl ?_
        rw [pl_w64 (i := (l.length : Int) - 2) (by omega), if_pos (by omega), if_pos (by omega), show ((l.length : Int) - 2).toNat = l.length - 2 by omega, if_pos (by rw [List.length_drop, List.length_take, List.length_nil]; omega), show rd l 0 = l.getD 0 0 from rfl, pl_u8_w64 hb]
        rfl
      · rw [if_neg (by rw [decide_eq_true_eq]; exact fun h => hz h.2), if_neg hz]

theorem pl_adusize (s : Int) (h : -9223372036854775808 ≤ s ∧ s ≤ 9223372036854775807) : adu_Size.f s = some (if 0 < s ∧ s < 254 then s + 3 else 0) := by
  unfold adu_Size.f
  by_cases h1 : s < 1
  · rw [if_pos h1, if_neg (by omega)]
  · rw [if_neg h1]
    by_cases h2 : s > 253
    · rw [if_pos h2, if_neg (by omega)]
    · rw [if_neg h2, if_pos (by omega), pl_w64 (by omega)]

theorem pl_sure11 (k : Nat) (hk : 60 ≤ k) : bilgelaw11_sure.f k = some true := at_rounds bilgelaw11_sure.mono hk (by decide +kernel)

theorem pl_wrapped_u8 (s : Int) (l : List Int) (hb : ∀ x ∈ l, 0 ≤ x ∧ x ≤ 255) : ∀ x ∈ (pl_wrapped s l).1, 0 ≤ x ∧ x ≤ 255 := by
  unfold pl_wrapped
  split
  · simp
  · split
    · simp
    · split
      · simp
      · exact pl_crced_u8 _ (pl_cons_u8 s l (by omega) hb)
theorem pl_wrapped_len (s : Int) (l : List Int) : (pl_wrapped s l).1.length ≤ 256 := by
  unfold pl_wrapped
  split
  · simp
  · split
    · simp
    · split
      · simp
      · show (pl_crced (s :: l)).length ≤ 256
        rw [pl_crced_len, List.length_cons]; omega
theorem pl_opened_len (l : List Int) : (pl_opened l).2.1.length ≤ 256 := by
  unfold pl_opened
  split
  · simp
  · split
    · simp
    · split
      · show ((l.take (l.length - 2)).drop 1).length ≤ 256
        rw [List.length_drop, List.length_take]; omega
      · simp

theorem pl_bytes_l (a b : List Int) (hl : a.length = b.length) (hn : a.length < 9223372036854775807) : ∀ (d k i : Nat), i + d = a.length → d < k → a.take i = b.take i →
    bilgeref01_Bytes.l0 k a b i = some (decide (a = b)) := by
  intro d
  induction d with
  | zero =>
    intro k i hi hk ht
    obtain ⟨k, rfl⟩ : ∃ m, k = m + 1 := ⟨k - 1, by omega⟩
    simp only [bilgeref01_Bytes.l0]
    rw [if_neg (by omega)]
    have : a = b := by
      rw [List.take_of_length_le (by omega), List.take_of_length_le (by omega)] at ht; exact ht
    simp [this]
  | succ d ih =>
    intro k i hi hk ht
    obtain ⟨k, rfl⟩ : ∃ m, k = m + 1 := ⟨k - 1, by omega⟩
    simp only [bilgeref01_Bytes.l0]
    rw [if_pos (by omega), if_pos (by omega), if_pos (by omega), pl_rd_nat, pl_rd_nat, getD_at _ _ (by omega), getD_at _ _ (by omega), pl_w64 (by omega)]
    by_cases e : a[i] = b[i]
    · rw [if_pos e]
      exact ih k (i + 1) (by omega) (by omega) (by rw [take_snoc a i (by omega), take_snoc b i (by omega), ht, e])
    · rw [if_neg e]
      have : a ≠ b := by rintro rfl; exact e rfl
      simp [this]
theorem pl_bytes (a b : List Int) (hn : a.length < 9223372036854775807) (k : Nat) (hk : a.length < k) : bilgeref01_Bytes.f k a b = some (decide (a = b)) := by
  unfold bilgeref01_Bytes.f
  by_cases hl : a.length = b.length
  · rw [if_pos (by omega)]
    exact pl_bytes_l a b hl hn a.length k 0 (by omega) hk rfl
  · rw [if_neg (by omega)]
    have : a ≠ b := by rintro rfl; exact hl rfl
    simp [this]

theorem AduTells : bilgelaw11_AduTells.Pure := by
  intro s a b hs hla hla2 ha hlb hlb2 hb
  have ha := pl_u8c ha
  have hb := pl_u8c hb
  have hs := wf_i64 hs
  obtain ⟨K, hK⟩ : ∃ K : Nat, 3000 ≤ K := ⟨3000, by omega⟩
  refine ⟨K + 2, ?_⟩
  unfold bilgelaw11_AduTells.f
  rw [pl_w64 (by omega)]
  by_cases hl : a.length + b.length > 900
  · rw [if_pos (by omega)]; exact pl_bind (pl_sure11 _ (by omega)) rfl
  · rw [if_neg (by omega)]
    refine pl_bind (pl_aduwrap s a ha _ (by omega)) ?_
    refine pl_bind (pl_refwrap s a ha _ (by omega)) ?_
    refine pl_bind (pl_aduopen b hb (by omega)) ?_
    refine pl_bind (pl_refopen b hb (by omega) _ (by omega)) ?_
    have w1 := pl_wrapped_len s a
    have w2 := pl_opened_len b
    generalize pl_wrapped s a = x at *
    generalize pl_opened b = y at *
    have h1 : ∀ n : Int, n = (if 0 < s ∧ s < 254 then s + 3 else 0) → bilgelaw11_AduTells.j1 (K + 1) s x.1 x.2 x.1 x.2 y.1 y.2.1 y.2.2 y.1 y.2.1 y.2.2 n = some true := by
      intro n hn
      simp only [bilgelaw11_AduTells.j1]
      refine pl_bind (pl_bytes _ _ (by omega) K (by omega)) ?_
      rw [if_pos (by simp), if_pos trivial, if_pos trivial]
      refine pl_bind (pl_bytes _ _ (by omega) K (by omega)) ?_
      rw [if_pos (by simp), if_pos trivial]
      refine pl_bind (pl_adusize s hs) ?_
      rw [hn, if_pos rfl]
      exact pl_bind (pl_sure11 _ (by omega)) rfl
    by_cases c : s > 0
    · rw [if_pos c]
      simp only [bilgelaw11_AduTells.j0]
      by_cases c2 : s < 254
      · rw [if_pos (by rw [decide_eq_true_eq]; exact c2), pl_w64 (by omega)]
        exact h1 _ (by rw [if_pos ⟨c, c2⟩])
      · rw [if_neg (by rw [decide_eq_true_eq]; exact c2)]
        exact h1 _ (by rw [if_neg (by omega)])
    · rw [if_neg c]
      simp only [bilgelaw11_AduTells.j0]
      rw [if_neg (by decide)]
      exact h1 _ (by rw [if_neg (by omega)])

end Go.Proofs.Ytbaodollggbcoaa.Pure

/- Layer 4's law CrcJoins of the given program: the sum of bytes and others behind them, out of both sums. -/
import Derived.Test.YtbaodollggbcoaaPCrcJoinsx
import Derived.IntWalk
set_option linter.unusedVariables false
set_option linter.unusedSimpArgs false
namespace Go.Proofs.Ytbaodollggbcoaa.Pure
open Go.RowKit Go.Proofs.Ytbaodollggbcoaa.PCrcJoins Go.Proofs.YtbaodollggbcoaaW.PrintWords Go.Proofs.YtbaodollggbcoaaW.PrintLast Go.Proofs.YtbaodollggbcoaaW.PrintMore Go.Proofs.YtbaodollggbcoaaM

theorem pl_w64 {i : Int} (h : -9223372036854775808 ≤ i ∧ i ≤ 9223372036854775807) : wrap64 i = i := by unfold wrap64; omega
theorem pl_bind {α β : Type} {x : Option α} {f : α → Option β} {a : α} {r : β} (h : x = some a) (k : f a = some r) : x.bind f = some r := by rw [h]; exact k
theorem pl_rd_nat (l : List Int) (i : Nat) : rd l (i : Int) = l.getD i 0 := by simp [rd]
theorem pl_rd_eq (l : List Int) (i : Int) (n : Nat) (h : i = n) : rd l i = l.getD n 0 := by subst h; exact pl_rd_nat l n

theorem pl_u8c {l : List Int} (h : ∀ x ∈ l, (Lit.int .u8 x).wf = true) : ∀ x ∈ l, 0 ≤ x ∧ x ≤ 255 := fun x hx => wf_u8 (h x hx)
theorem pl_crcsum (l : List Int) (hb : ∀ x ∈ l, 0 ≤ x ∧ x ≤ 255) : crc_Sum.f l = some ((pRem 65535 l : Nat) : Int) := by
  unfold crc_Sum.f
  rw [if_pos hb]

theorem pl_rem_split (l : List Int) : ∀ r s : Nat, pRem (r ^^^ s) l = pRem r (List.replicate l.length 0) ^^^ pRem s l := by
  induction l with
  | nil => intro r s; rfl
  | cons x l ih =>
    intro r s
    rw [List.length_cons, List.replicate_succ, pRem_cons, pRem_cons, pRem_cons, ← ih, Int.toNat_zero, ← pBy_xor, Nat.zero_xor]
theorem pl_joined (a b : List Int) : pRem (pRem 65535 a ^^^ 65535) (List.replicate b.length 0) ^^^ pRem 65535 b = pRem 65535 (a ++ b) := by
  rw [pRem_append, ← pl_rem_split, Nat.xor_assoc, Nat.xor_self, Nat.xor_zero]
theorem pl_crcjoin (a b n : Nat) (ha : a < 65536) (hb : b < 65536) (hn : n ≤ 65536) : crc_Join.f (a : Int) (b : Int) (n : Int) = some (((pRem (a ^^^ 65535) (List.replicate n 0) ^^^ b : Nat) : Int), 0) := by
  unfold crc_Join.f
  rw [if_pos (by omega), if_neg (by omega), Int.toNat_natCast, Int.toNat_natCast, Int.toNat_natCast]
theorem pl_crcjoin_no (a b : Nat) (n : Int) (ha : a < 65536) (hb : b < 65536) (hn : n < 0 ∨ 65536 < n) : crc_Join.f (a : Int) (b : Int) n = some (0, 11) := by
  unfold crc_Join.f
  rw [if_pos (by omega), if_pos hn]

theorem pl_rbit (r : Nat) (b : Bool) (hr : r < 65536) : bilgeref03_Bit.f (r : Int) b = some ((pb r (if b = true then 1 else 0) : Nat) : Int) := by
  unfold bilgeref03_Bit.f
  have h1 : Int.tmod (r : Int) 2 = ((r % 2 : Nat) : Int) := by rw [Int.tmod_eq_emod_of_nonneg (by omega)]; omega
  have h2 : IntKind.u16.wrap (Int.tdiv (r : Int) 2) = ((r / 2 : Nat) : Int) := by
    rw [Int.tdiv_eq_ediv_of_nonneg (by omega), show (r : Int) / 2 = ((r / 2 : Nat) : Int) by omega]
    simp [IntKind.wrap, IntKind.signed, IntKind.bits]; omega
  have h3 : Go.bits .xor .u16 ((r / 2 : Nat) : Int) 40961 = ((r / 2 ^^^ 40961 : Nat) : Int) := u16_xor_nat (r / 2) 40961 (by omega) (by omega)
  have h4 := par_xor r (if b = true then 1 else 0)
  rw [h1, h2, h3]
  unfold pb
  rcases Nat.mod_two_eq_zero_or_one r with e | e <;> cases b
  · rw [if_neg (by decide), if_neg (by omega), if_neg (by simp at h4 ⊢; omega), Nat.xor_zero]
  · rw [if_pos rfl, if_neg (by omega), if_pos (by simp at h4 ⊢; omega)]
  · rw [if_neg (by decide), if_pos (by omega), if_pos (by simp at h4 ⊢; omega)]
  · rw [if_pos rfl, if_pos (by omega), if_neg (by simp at h4 ⊢; omega), Nat.xor_zero]
theorem pl_rbyte_l (x : Nat) (hx : x < 256) : ∀ (d k i r : Nat), i + d = 8 → d < k → r < 65536 → bilgeref03_Byte.l0 k (r : Int) (x : Int) i = some ((pbs d r (x / 2 ^ i) : Nat) : Int) := by
  intro d
  induction d with
  | zero =>
    intro k i r hi hk hr
    obtain ⟨k, rfl⟩ : ∃ m, k = m + 1 := ⟨k - 1, by omega⟩
    simp only [bilgeref03_Byte.l0]
    rw [if_neg (by omega)]; rfl
  | succ d ih =>
    intro k i r hi hk hr
    obtain ⟨k, rfl⟩ : ∃ m, k = m + 1 := ⟨k - 1, by omega⟩
    simp only [bilgeref03_Byte.l0]
    rw [if_pos (by omega), if_pos (by omega)]
    have e : (Int.tmod (shr .u8 (x : Int) (i : Int)) 2 == 1) = decide (x / 2 ^ i % 2 = 1) := by
      unfold shr
      rw [show min (i : Int).toNat IntKind.u8.bits = i by simp [IntKind.bits]; omega, show (x : Int) / 2 ^ i = ((x / 2 ^ i : Nat) : Int) by simp, Int.tmod_eq_emod_of_nonneg (Int.natCast_nonneg _), Bool.eq_iff_iff]
      simp only [beq_iff_eq, decide_eq_true_eq]
      omega
    rw [e]
    refine pl_bind (pl_rbit r _ hr) ?_
    have e2 : (if decide (x / 2 ^ i % 2 = 1) = true then 1 else 0) = x / 2 ^ i % 2 := by
      rcases Nat.mod_two_eq_zero_or_one (x / 2 ^ i) with h | h <;> rw [h] <;> rfl
    rw [e2, pl_w64 (by omega)]
    have := ih k (i + 1) (pb r (x / 2 ^ i % 2)) (by omega) (by omega) (pb_lt hr)
    rw [Nat.pow_succ, ← Nat.div_div_eq_div_mul] at this
    exact this
theorem pl_rbyte (r x : Nat) (hr : r < 65536) (hx : x < 256) (k : Nat) (hk : 8 < k) : bilgeref03_Byte.f k (r : Int) (x : Int) = some ((pBy r x : Nat) : Int) := by
  unfold bilgeref03_Byte.f
  have := pl_rbyte_l x hx 8 k 0 r (by omega) hk hr
  rw [Nat.pow_zero, Nat.div_one] at this
  exact this

theorem pl_refjoin_l (c b n : Nat) (hc : c < 65536) (hb : b < 65536) (hn : n < 100000) : ∀ (d k i : Nat), i + d = n → d + 8 < k →
    bilgeref04_Join.l0 k (b : Int) (n : Int) (pRem c (List.replicate i 0) : Nat) i = some ((pRem c (List.replicate n 0) ^^^ b : Nat) : Int) := by
  intro d
  induction d with
  | zero =>
    intro k i hi hk
    obtain ⟨k, rfl⟩ : ∃ m, k = m + 1 := ⟨k - 1, by omega⟩
    obtain rfl : i = n := by omega
    simp only [bilgeref04_Join.l0]
    rw [if_neg (by omega)]
    exact congrArg some (u16_xor_nat _ b (pRem_lt _ hc) hb)
  | succ d ih =>
    intro k i hi hk
    obtain ⟨k, rfl⟩ : ∃ m, k = m + 1 := ⟨k - 1, by omega⟩
    simp only [bilgeref04_Join.l0]
    rw [if_pos (by omega)]
    have h0 := pl_rbyte (pRem c (List.replicate i 0)) 0 (pRem_lt _ hc) (by omega) k (by omega)
    refine pl_bind h0 ?_
    have e : pBy (pRem c (List.replicate i 0)) 0 = pRem c (List.replicate (i + 1) 0) := by rw [List.replicate_succ', pRem_snoc]; rfl
    rw [e, pl_w64 (by omega)]
    exact ih k (i + 1) (by omega) (by omega)
theorem pl_refjoin (a b n : Nat) (ha : a < 65536) (hb : b < 65536) (hn : n < 100000) (k : Nat) (hk : n + 8 < k) : bilgeref04_Join.f k (a : Int) (b : Int) (n : Int) = some ((pRem (a ^^^ 65535) (List.replicate n 0) ^^^ b : Nat) : Int) := by
  have hx : Go.bits .xor .u16 (a : Int) 65535 = ((a ^^^ 65535 : Nat) : Int) := u16_xor_nat a 65535 ha (by omega)
  unfold bilgeref04_Join.f
  rw [hx]
  exact pl_refjoin_l _ b n (Nat.xor_lt_two_pow (n := 16) (by omega) (by omega)) hb hn n k 0 (by omega) hk

theorem pl_sure04 (k : Nat) (hk : 60 ≤ k) : bilgelaw04_sure.f k = some true := at_rounds bilgelaw04_sure.mono hk (by decide +kernel)

theorem pl_joins (k : Nat) (hk : 2500 < k) (a b : Nat) (n : Int) (ha : a < 65536) (hb : b < 65536) : bilgelaw04_CrcJoins.j0 k n false (a : Int) (b : Int) = some true := by
  obtain ⟨k, rfl⟩ : ∃ m, k = m + 2 := ⟨k - 2, by omega⟩
  have hsure : (bilgelaw04_sure.f k).bind (fun t => some t) = some true := pl_bind (pl_sure04 k (by omega)) rfl
  simp only [bilgelaw04_CrcJoins.j0]
  rw [if_neg (by decide)]
  by_cases hn : n < 0 ∨ 65536 < n
  · refine pl_bind (pl_crcjoin_no a b n ha hb hn) ?_
    have e : bilgelaw04_CrcJoins.j1 (k + 1) n 0 11 true (a : Int) (b : Int) = some true := by
      simp only [bilgelaw04_CrcJoins.j1]
      rw [if_pos trivial, if_pos trivial, if_pos trivial]
      exact hsure
    by_cases h : n < 0
    · rw [if_pos h]; exact e
    · rw [if_neg h, show decide (n > 65536) = true by rw [decide_eq_true_eq]; omega]; exact e
  · obtain ⟨m, rfl⟩ := Int.eq_ofNat_of_zero_le (show 0 ≤ n by omega)
    refine pl_bind (pl_crcjoin a b m ha hb (by omega)) ?_
    rw [if_neg (by omega), show decide ((m : Int) > 65536) = false by rw [decide_eq_false_iff_not]; omega]
    simp only [bilgelaw04_CrcJoins.j1]
    rw [if_neg (by decide), if_pos trivial]
    by_cases h2 : (m : Int) < 2
    · rw [if_pos h2]; exact hsure
    · rw [if_neg h2]
      by_cases h3 : (m : Int) > 2000
      · rw [if_pos h3]; exact hsure
      · rw [if_neg h3]
        refine pl_bind (pl_refjoin a b m ha hb (by omega) k (by omega)) ?_
        rw [if_pos rfl]; exact hsure
theorem CrcJoins : bilgelaw04_CrcJoins.Pure := by
  intro x0 x1 n hw0 hw1 _
  obtain ⟨⟨_, hla, ha⟩, _, hlb, hb⟩ := hw0
  obtain ⟨h0, h1⟩ := hw1
  have ha := pl_u8c ha
  have hb := pl_u8c hb
  have h0 := wf_u16 h0
  have h1 := wf_u16 h1
  obtain ⟨p, hp⟩ := Int.eq_ofNat_of_zero_le h0.1
  obtain ⟨q, hq⟩ := Int.eq_ofNat_of_zero_le h1.1
  rw [hp, hq]
  generalize x0.f0 = a at *
  generalize x0.f1 = b at *
  obtain ⟨K, hK⟩ : ∃ K : Nat, 3000 ≤ K := ⟨3000, by omega⟩
  refine ⟨K, ?_⟩
  have hj := pl_joins K (by omega) p q n (by omega) (by omega)
  unfold bilgelaw04_CrcJoins.f
  rw [pl_w64 (by omega)]
  by_cases hs : a.length + b.length > 600
  · rw [if_pos (by omega)]; exact pl_bind (pl_sure04 K (by omega)) rfl
  · rw [if_neg (by omega)]
    refine pl_bind (pl_crcsum a ha) ?_
    refine pl_bind (pl_crcsum b hb) ?_
    refine pl_bind (pl_crcjoin _ _ b.length (pRem_lt _ (by omega)) (pRem_lt _ (by omega)) (by omega)) ?_
    rw [pl_joined, if_pos rfl]
    refine pl_bind rfl ?_
    rw [if_pos (by rw [List.length_nil]; omega)]
    refine pl_bind (congrArg some (List.nil_append a)) ?_
    rw [if_pos (by omega)]
    refine pl_bind (pl_crcsum (a ++ b) (fun x hx => (List.mem_append.1 hx).elim (ha x) (hb x))) ?_
    rw [bne_self_eq_false]
    exact hj

end Go.Proofs.Ytbaodollggbcoaa.Pure

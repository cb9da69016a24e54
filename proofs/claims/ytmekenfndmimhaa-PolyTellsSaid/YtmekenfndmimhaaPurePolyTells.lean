/- Layer 3's law PolyTells of the given program: a bit, a byte, bytes and a mix answer as the reference does; a byte back. -/
import Derived.Test.YtmekenfndmimhaaPPolyTellsx
import Derived.IntWalk
set_option linter.unusedVariables false
set_option linter.unusedSimpArgs false
namespace Go.Proofs.Ytmekenfndmimhaa.Pure
open Go.RowKit Go.Proofs.Ytmekenfndmimhaa.PPolyTells Go.Proofs.YtmekenfndmimhaaW.PrintWords Go.Proofs.YtmekenfndmimhaaW.PrintLast Go.Proofs.YtmekenfndmimhaaW.PrintMore Go.Proofs.YtmekenfndmimhaaM

theorem pl_w64 {i : Int} (h : -9223372036854775808 ≤ i ∧ i ≤ 9223372036854775807) : wrap64 i = i := by unfold wrap64; omega
theorem pl_bind {α β : Type} {x : Option α} {f : α → Option β} {a : α} {r : β} (h : x = some a) (k : f a = some r) : x.bind f = some r := by rw [h]; exact k
theorem pl_rd_nat (l : List Int) (i : Nat) : rd l (i : Int) = l.getD i 0 := by simp [rd]
theorem pl_rd_eq (l : List Int) (i : Int) (n : Nat) (h : i = n) : rd l i = l.getD n 0 := by subst h; exact pl_rd_nat l n

theorem pl_pbyte (r b : Nat) (hr : r < 65536) (hb : b < 256) : poly_Byte.f (r : Int) (b : Int) = some ((pBy r b : Nat) : Int) := by
  unfold poly_Byte.f
  rw [if_pos (by omega), Int.toNat_natCast, Int.toNat_natCast]

theorem pl_u8n {l : List Int} (h : ∀ x ∈ l, (Lit.int .u8 x).wf = true) : ∀ x ∈ l, 0 ≤ x ∧ x ≤ 255 := fun x hx => wf_u8 (h x hx)
theorem pl_prem_l (l : List Int) (hb : ∀ x ∈ l, 0 ≤ x ∧ x ≤ 255) (hn : l.length < 100000) (r : Nat) (hr : r < 65536) : ∀ (d k i : Nat), i + d = l.length → d < k →
    poly_Rem.l0 k (pRem r (l.take i) : Nat) l (l.length : Int) i = some ((pRem r l : Nat) : Int) := by
  intro d
  induction d with
  | zero =>
    intro k i hi hk
    obtain ⟨k, rfl⟩ : ∃ m, k = m + 1 := ⟨k - 1, by omega⟩
    simp only [poly_Rem.l0]
    rw [if_neg (by omega), List.take_of_length_le (by omega)]
  | succ d ih =>
    intro k i hi hk
    obtain ⟨k, rfl⟩ : ∃ m, k = m + 1 := ⟨k - 1, by omega⟩
    simp only [poly_Rem.l0]
    have hx := hb (l[i]'(by omega)) (List.getElem_mem _)
    obtain ⟨x, he⟩ := Int.eq_ofNat_of_zero_le hx.1
    rw [if_pos (by omega), if_pos (by omega), if_pos (by omega), pl_rd_nat, getD_at _ _ (by omega), he]
    have hstep := pl_pbyte (pRem r (l.take i)) x (pRem_lt _ hr) (by omega)
    refine pl_bind hstep ?_
    have e : pBy (pRem r (l.take i)) x = pRem r (l.take (i + 1)) := by
      rw [take_snoc l i (by omega), pRem_snoc, he, Int.toNat_natCast]
    rw [e, pl_w64 (by omega)]
    exact ih k (i + 1) (by omega) (by omega)
theorem pl_prem (l : List Int) (hb : ∀ x ∈ l, 0 ≤ x ∧ x ≤ 255) (hn : l.length < 100000) (r : Nat) (hr : r < 65536) (k : Nat) (hk : l.length < k) : poly_Rem.f k (r : Int) l = some ((pRem r l : Nat) : Int) := by
  unfold poly_Rem.f
  exact pl_prem_l l hb hn r hr l.length k 0 (by omega) hk

theorem pl_pback (r b : Nat) (hr : r < 65536) (hb : b < 256) : poly_Back.f (r : Int) (b : Int) = some ((pUn r b : Nat) : Int) := by
  unfold poly_Back.f
  rw [if_pos (by omega), Int.toNat_natCast, Int.toNat_natCast]

theorem pl_sure03 (k : Nat) (hk : 60 ≤ k) : bilgelaw03_sure.f k = some true := at_rounds bilgelaw03_sure.mono hk (by decide +kernel)

theorem pl_rbit (r : Nat) (b : Bool) (hr : r < 65536) : bilgeref03_Bit.f (r : Int) b = some ((pb r (if b = true then 1 else 0) : Nat) : Int) := by
  unfold bilgeref03_Bit.f
  have h1 : Int.tmod (r : Int) 2 = ((r % 2 : Nat) : Int) := by rw [Int.tmod_eq_emod_of_nonneg (by omega)]; omega
  have h2 : IntKind.u16.wrap (Int.tdiv (r : Int) 2) = ((r / 2 : Nat) : Int) := by
    rw [Int.tdiv_eq_ediv_of_nonneg (by omega), show (r : Int) / 2 = ((r / 2 : Nat) : Int) by omega]
    simp [IntKind.wrap, IntKind.signed, IntKind.bits]; omega
  have h3 : Go.bits .xor .u16 ((r / 2 : Nat) : Int) 40961 = ((r / 2 ^^^ 40961 : Nat) : Int) := u16_xor_nat (r / 2) 40961 (by omega) (by omega)
  have h4 := par_xor r (if b = true then 1 else 0)
  rw [h1, h2, h3]
  unfold pb
  rcases Nat.mod_two_eq_zero_or_one r with e | e <;> cases b
  · rw [if_neg (by decide), if_neg (by omega), if_neg (by simp at h4 ⊢; omega), Nat.xor_zero]
  · rw [if_pos rfl, if_neg (by omega), if_pos (by simp at h4 ⊢; omega)]
  · rw [if_neg (by decide), if_pos (by omega), if_pos (by simp at h4 ⊢; omega)]
  · rw [if_pos rfl, if_pos (by omega), if_neg (by simp at h4 ⊢; omega), Nat.xor_zero]
theorem pl_rbyte_l (x : Nat) (hx : x < 256) : ∀ (d k i r : Nat), i + d = 8 → d < k → r < 65536 → bilgeref03_Byte.l0 k (r : Int) (x : Int) i = some ((pbs d r (x / 2 ^ i) : Nat) : Int) := by
  intro d
  induction d with
  | zero =>
    intro k i r hi hk hr
    obtain ⟨k, rfl⟩ : ∃ m, k = m + 1 := ⟨k - 1, by omega⟩
    simp only [bilgeref03_Byte.l0]
    rw [if_neg (by omega)]; rfl
  | succ d ih =>
    intro k i r hi hk hr
    obtain ⟨k, rfl⟩ : ∃ m, k = m + 1 := ⟨k - 1, by omega⟩
    simp only [bilgeref03_Byte.l0]
    rw [if_pos (by omega), if_pos (by omega)]
    have e : (Int.tmod (shr .u8 (x : Int) (i : Int)) 2 == 1) = decide (x / 2 ^ i % 2 = 1) := by
      unfold shr
      rw [show min (i : Int).toNat IntKind.u8.bits = i by simp [IntKind.bits]; omega, show (x : Int) / 2 ^ i = ((x / 2 ^ i : Nat) : Int) by simp, Int.tmod_eq_emod_of_nonneg (Int.natCast_nonneg _), Bool.eq_iff_iff]
      simp only [beq_iff_eq, decide_eq_true_eq]
      omega
    rw [e]
    refine pl_bind (pl_rbit r _ hr) ?_
    have e2 : (if decide (x / 2 ^ i % 2 = 1) = true then 1 else 0) = x / 2 ^ i % 2 := by
      rcases Nat.mod_two_eq_zero_or_one (x / 2 ^ i) with h | h <;> rw [h] <;> rfl
    rw [e2, pl_w64 (by omega)]
    have := ih k (i + 1) (pb r (x / 2 ^ i % 2)) (by omega) (by omega) (pb_lt hr)
    rw [Nat.pow_succ, ← Nat.div_div_eq_div_mul] at this
    exact this
theorem pl_rbyte (r x : Nat) (hr : r < 65536) (hx : x < 256) (k : Nat) (hk : 8 < k) : bilgeref03_Byte.f k (r : Int) (x : Int) = some ((pBy r x : Nat) : Int) := by
  unfold bilgeref03_Byte.f
  have := pl_rbyte_l x hx 8 k 0 r (by omega) hk hr
  rw [Nat.pow_zero, Nat.div_one] at this
  exact this

theorem pl_rrem_l (l : List Int) (hb : ∀ x ∈ l, 0 ≤ x ∧ x ≤ 255) (hn : l.length < 100000) (r : Nat) (hr : r < 65536) : ∀ (d k i : Nat), i + d = l.length → d + 8 < k →
    bilgeref03_Rem.l0 k (pRem r (l.take i) : Nat) l i = some ((pRem r l : Nat) : Int) := by
  intro d
  induction d with
  | zero =>
    intro k i hi hk
    obtain ⟨k, rfl⟩ : ∃ m, k = m + 1 := ⟨k - 1, by omega⟩
    simp only [bilgeref03_Rem.l0]
    rw [if_neg (by omega), List.take_of_length_le (by omega)]
  | succ d ih =>
    intro k i hi hk
    obtain ⟨k, rfl⟩ : ∃ m, k = m + 1 := ⟨k - 1, by omega⟩
    simp only [bilgeref03_Rem.l0]
    have hx := hb (l[i]'(by omega)) (List.getElem_mem _)
    obtain ⟨x, he⟩ := Int.eq_ofNat_of_zero_le hx.1
    rw [if_pos (by omega), if_pos (by omega), pl_rd_nat, getD_at _ _ (by omega), he]
    refine pl_bind (pl_rbyte (pRem r (l.take i)) x (pRem_lt _ hr) (by omega) k (by omega)) ?_
    have e : pBy (pRem r (l.take i)) x = pRem r (l.take (i + 1)) := by
      rw [take_snoc l i (by omega), pRem_snoc, he, Int.toNat_natCast]
    rw [e, pl_w64 (by omega)]
    exact ih k (i + 1) (by omega) (by omega)
theorem pl_rrem (l : List Int) (hb : ∀ x ∈ l, 0 ≤ x ∧ x ≤ 255) (hn : l.length < 100000) (r : Nat) (hr : r < 65536) (k : Nat) (hk : l.length + 8 < k) : bilgeref03_Rem.f k (r : Int) l = some ((pRem r l : Nat) : Int) := by
  unfold bilgeref03_Rem.f
  exact pl_rrem_l l hb hn r hr l.length k 0 (by omega) hk

def pl_mixed (a b : List Int) : List Int := List.zipWith (fun x y => Go.bits .xor .u8 x y) a b
theorem pl_mixed_len (a b : List Int) : (pl_mixed a b).length = min a.length b.length := by simp [pl_mixed]
theorem pl_mix_l (a b : List Int) (hn : a.length < 100000) : ∀ (d k i : Nat) (o : List Int), i + d = min a.length b.length → d < k → o.length = min a.length b.length → o.take i = (pl_mixed a b).take i →
    poly_Mix.l0 k a b o (o.length : Int) i = some (pl_mixed a b) := by
  intro d
  induction d with
  | zero =>
    intro k i o hi hk ho ht
    obtain ⟨k, rfl⟩ : ∃ m, k = m + 1 := ⟨k - 1, by omega⟩
    simp only [poly_Mix.l0]
    rw [if_neg (by omega)]
    rw [List.take_of_length_le (by omega), List.take_of_length_le (by rw [pl_mixed_len]; omega)] at ht
    rw [ht]
  | succ d ih =>
    intro k i o hi hk ho ht
    obtain ⟨k, rfl⟩ : ∃ m, k = m + 1 := ⟨k - 1, by omega⟩
    simp only [poly_Mix.l0]
    rw [if_pos (by omega), if_pos (by omega), if_pos (by omega), if_pos (by omega), if_pos (by omega), pl_w64 (by omega), pl_rd_nat, pl_rd_nat, Int.toNat_natCast]
    have hl : (o.set i (Go.bits .xor .u8 (a.getD i 0) (b.getD i 0))).length = o.length := List.length_set ..
    have := ih k (i + 1) (o.set i (Go.bits .xor .u8 (a.getD i 0) (b.getD i 0))) (by omega) (by omega) (by rw [hl]; exact ho) (by
      rw [take_snoc _ i (by rw [hl]; omega), take_snoc (pl_mixed a b) i (by rw [pl_mixed_len]; omega), List.take_set_of_le (Nat.le_refl _), ht, List.getElem_set_self]
      simp only [pl_mixed, List.getElem_zipWith]
      rw [getD_at a i (by omega), getD_at b i (by omega)])
    rw [hl] at this
    exact this
theorem pl_mix (a b : List Int) (hn : a.length < 100000) (k : Nat) (hk : a.length < k) : poly_Mix.f k a b = some (pl_mixed a b) := by
  unfold poly_Mix.f
  have hm : mn (a.length : Int) (b.length : Int) = ((min a.length b.length : Nat) : Int) := by
    unfold mn
    split <;> omega
  rw [hm, if_pos (by omega), Int.toNat_natCast, if_pos (by omega)]
  refine pl_bind rfl ?_
  exact pl_mix_l a b hn (min a.length b.length) k 0 _ (by omega) (by omega) (by simp) rfl
theorem pl_mixed_rem (a b : List Int) (ha : ∀ x ∈ a, 0 ≤ x ∧ x ≤ 255) (hb : ∀ x ∈ b, 0 ≤ x ∧ x ≤ 255) (hl : a.length = b.length) (p q : Nat) : pRem (p ^^^ q) (pl_mixed a b) = pRem p a ^^^ pRem q b := by
  induction a generalizing b p q with
  | nil =>
    cases b with
    | nil => rfl
    | cons y b => simp at hl
  | cons x a ih =>
    cases b with
    | nil => simp at hl
    | cons y b =>
      have hx := ha x (by simp)
      have hy := hb y (by simp)
      have e : (Go.bits .xor .u8 x y).toNat = x.toNat ^^^ y.toNat := by rw [u8_xor x y hx.1 (by omega) hy.1 (by omega), Int.toNat_natCast]
      show pRem (p ^^^ q) (Go.bits .xor .u8 x y :: pl_mixed a b) = _
      rw [pRem_cons, pRem_cons, pRem_cons, e, pBy_xor]
      exact ih b (fun z hz => ha z (by simp [hz])) (fun z hz => hb z (by simp [hz])) (by simpa using hl) _ _
theorem pl_mixed_u8 (a b : List Int) (ha : ∀ x ∈ a, 0 ≤ x ∧ x ≤ 255) (hb : ∀ x ∈ b, 0 ≤ x ∧ x ≤ 255) : ∀ x ∈ pl_mixed a b, 0 ≤ x ∧ x ≤ 255 := by
  intro z hz
  obtain ⟨i, hi, rfl⟩ := List.getElem_of_mem hz
  rw [pl_mixed_len] at hi
  simp only [pl_mixed, List.getElem_zipWith]
  have h1 := ha (a[i]'(by omega)) (List.getElem_mem _)
  have h2 := hb (b[i]'(by omega)) (List.getElem_mem _)
  rw [u8_xor _ _ h1.1 (by omega) h2.1 (by omega)]
  have := Nat.xor_lt_two_pow (n := 8) (x := a[i].toNat) (y := b[i].toNat) (by omega) (by omega)
  omega

theorem pl_rmix_l (a b : List Int) (hn : a.length < 100000) : ∀ (d k i : Nat), i + d = min a.length b.length → d < k →
    bilgeref03_Mix.l0 k a b ((pl_mixed a b).take i) i = some (pl_mixed a b) := by
  intro d
  induction d with
  | zero =>
    intro k i hi hk
    obtain ⟨k, rfl⟩ : ∃ m, k = m + 1 := ⟨k - 1, by omega⟩
    simp only [bilgeref03_Mix.l0]
    rw [List.take_of_length_le (by rw [pl_mixed_len]; omega)]
    by_cases h : (i : Int) < (a.length : Int)
    · rw [if_pos h, if_neg (by omega)]
    · rw [if_neg h]
  | succ d ih =>
    intro k i hi hk
    obtain ⟨k, rfl⟩ : ∃ m, k = m + 1 := ⟨k - 1, by omega⟩
    simp only [bilgeref03_Mix.l0]
    have hl : ((pl_mixed a b).take i).length = i := by rw [List.length_take, pl_mixed_len]; omega
    rw [if_pos (by omega), if_pos (by omega), if_pos (by omega), if_pos (by omega), pl_w64 (by omega), pl_rd_nat, pl_rd_nat]
    have e : (pl_mixed a b).take i ++ [Go.bits .xor .u8 (a.getD i 0) (b.getD i 0)] = (pl_mixed a b).take (i + 1) := by
      rw [take_snoc (pl_mixed a b) i (by rw [pl_mixed_len]; omega)]
      simp only [pl_mixed, List.getElem_zipWith]
      rw [getD_at a i (by omega), getD_at b i (by omega)]
    rw [e]
    exact ih k (i + 1) (by omega) (by omega)
theorem pl_rmix (a b : List Int) (hn : a.length < 100000) (k : Nat) (hk : a.length < k) : bilgeref03_Mix.f k a b = some (pl_mixed a b) := by
  unfold bilgeref03_Mix.f
  exact pl_rmix_l a b hn (min a.length b.length) k 0 (by omega) (by omega)

theorem pl_bytes_l (a b : List Int) (hl : a.length = b.length) (hn : a.length < 9223372036854775807) : ∀ (d k i : Nat), i + d = a.length → d < k → a.take i = b.take i →
    bilgeref01_Bytes.l0 k a b i = some (decide (a = b)) := by
  intro d
  induction d with
  | zero =>
    intro k i hi hk ht
    obtain ⟨k, rfl⟩ : ∃ m, k = m + 1 := ⟨k - 1, by omega⟩
    simp only [bilgeref01_Bytes.l0]
    rw [if_neg (by omega)]
    have : a = b := by
      rw [List.take_of_length_le (by omega), List.take_of_length_le (by omega)] at ht; exact ht
    simp [this]
  | succ d ih =>
    intro k i hi hk ht
    obtain ⟨k, rfl⟩ : ∃ m, k = m + 1 := ⟨k - 1, by omega⟩
    simp only [bilgeref01_Bytes.l0]
    rw [if_pos (by omega), if_pos (by omega), if_pos (by omega), pl_rd_nat, pl_rd_nat, getD_at _ _ (by omega), getD_at _ _ (by omega), pl_w64 (by omega)]
    by_cases e : a[i] = b[i]
    · rw [if_pos e]
      exact ih k (i + 1) (by omega) (by omega) (by rw [take_snoc a i (by omega), take_snoc b i (by omega), ht, e])
    · rw [if_neg e]
      have : a ≠ b := by rintro rfl; exact e rfl
      simp [this]
theorem pl_bytes (a b : List Int) (hn : a.length < 9223372036854775807) (k : Nat) (hk : a.length < k) : bilgeref01_Bytes.f k a b = some (decide (a = b)) := by
  unfold bilgeref01_Bytes.f
  by_cases hl : a.length = b.length
  · rw [if_pos (by omega)]
    exact pl_bytes_l a b hl hn a.length k 0 (by omega) hk rfl
  · rw [if_neg (by omega)]
    have : a ≠ b := by rintro rfl; exact hl rfl
    simp [this]

theorem PolyTells : bilgelaw03_PolyTells.Pure := by
  intro p a b h0 hla _ ha hlb _ hb
  have ha := pl_u8n ha
  have hb := pl_u8n hb
  have h0 := wf_u16 h0
  obtain ⟨p, rfl⟩ := Int.eq_ofNat_of_zero_le h0.1
  obtain ⟨K, hK⟩ : ∃ K : Nat, 3000 ≤ K := ⟨3000, by omega⟩
  refine ⟨K, ?_⟩
  unfold bilgelaw03_PolyTells.f
  have hm : (p : Int) % 256 = ((p % 256 : Nat) : Int) := by omega
  have hp : p < 65536 := by omega
  have hsure : (bilgelaw03_sure.f K).bind (fun t => some t) = some true := by rw [pl_sure03 K (by omega)]; rfl
  by_cases hs : a.length + b.length > 600
  · rw [pl_w64 (by unfold maxLen at hla hlb; omega), if_pos (by omega)]; exact hsure
  · rw [pl_w64 (by omega), if_neg (by omega), hm]
    generalize hq : (((a.length : Int) % 2) == 1) = q
    refine pl_bind (a := ((pb p (if q = true then 1 else 0) : Nat) : Int)) (by unfold poly_Bit.f; rw [if_pos (by omega), Int.toNat_natCast]) ?_
    refine pl_bind (pl_rbit p q hp) ?_
    rw [if_pos rfl]
    refine pl_bind (pl_pbyte p (p % 256) hp (by omega)) ?_
    refine pl_bind (pl_rbyte p (p % 256) hp (by omega) K (by omega)) ?_
    rw [if_pos rfl]
    refine pl_bind (pl_prem a ha (by omega) p hp K (by omega)) ?_
    refine pl_bind (pl_rrem a ha (by omega) p hp K (by omega)) ?_
    rw [if_pos rfl]
    refine pl_bind (pl_mix a b (by omega) K (by omega)) ?_
    refine pl_bind (pl_rmix a b (by omega) K (by omega)) ?_
    refine pl_bind (pl_bytes _ _ (by rw [pl_mixed_len]; omega) K (by rw [pl_mixed_len]; omega)) ?_
    rw [if_pos (by simp)]
    refine pl_bind (pl_pback p (p % 256) hp (by omega)) ?_
    refine pl_bind (pl_rbyte _ (p % 256) (pUn_lt hp) (by omega) K (by omega)) ?_
    rw [pBy_pUn hp, if_pos rfl]
    exact hsure

end Go.Proofs.Ytmekenfndmimhaa.Pure

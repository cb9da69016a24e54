/- Layer 3's law PolyLinear of the given program: what two remainders and two rows of bytes come to, held against one another, is what they come to when held against one another first. For all remainders and all rows of bytes (rows whose shorter one has more than 300 bytes are passed by). -/
import Derived.Test.YtmekenfndmimhaaPPolyLinearx
import Derived.IntWalk
set_option linter.unusedVariables false
set_option linter.unusedSimpArgs false
namespace Go.Proofs.Ytmekenfndmimhaa.Pure
open Go.RowKit Go.Proofs.Ytmekenfndmimhaa.PPolyLinear Go.Proofs.YtmekenfndmimhaaW.PrintWords Go.Proofs.YtmekenfndmimhaaW.PrintLast Go.Proofs.YtmekenfndmimhaaW.PrintMore Go.Proofs.YtmekenfndmimhaaM

theorem pl_w64 {i : Int} (h : -9223372036854775808 ≤ i ∧ i ≤ 9223372036854775807) : wrap64 i = i := by unfold wrap64; omega
theorem pl_bind {α β : Type} {x : Option α} {f : α → Option β} {a : α} {r : β} (h : x = some a) (k : f a = some r) : x.bind f = some r := by rw [h]; exact k
theorem pl_rd_nat (l : List Int) (i : Nat) : rd l (i : Int) = l.getD i 0 := by simp [rd]
theorem pl_rd_eq (l : List Int) (i : Int) (n : Nat) (h : i = n) : rd l i = l.getD n 0 := by subst h; exact pl_rd_nat l n

theorem pl_pbyte (r b : Nat) (hr : r < 65536) (hb : b < 256) : poly_Byte.f (r : Int) (b : Int) = some ((pBy r b : Nat) : Int) := by
  unfold poly_Byte.f
  rw [if_pos (by omega), Int.toNat_natCast, Int.toNat_natCast]

theorem pl_u8n {l : List Int} (h : ∀ x ∈ l, (Lit.int .u8 x).wf = true) : ∀ x ∈ l, 0 ≤ x ∧ x ≤ 255 := fun x hx => wf_u8 (h x hx)
theorem pl_prem_l (l : List Int) (hb : ∀ x ∈ l, 0 ≤ x ∧ x ≤ 255) (hn : l.length < 100000) (r : Nat) (hr : r < 65536) : ∀ (d k i : Nat), i + d = l.length → d < k →
    poly_Rem.l0 k (pRem r (l.take i) : Nat) l (l.length : Int) i = some ((pRem r l : Nat) : Int) := by
  intro d
  induction d with
  | zero =>
    intro k i hi hk
    obtain ⟨k, rfl⟩ : ∃ m, k = m + 1 := ⟨k - 1, by omega⟩
    simp only [poly_Rem.l0]
    rw [if_neg (by omega), List.take_of_length_le (by omega)]
  | succ d ih =>
    intro k i hi hk
    obtain ⟨k, rfl⟩ : ∃ m, k = m + 1 := ⟨k - 1, by omega⟩
    simp only [poly_Rem.l0]
    have hx := hb (l[i]'(by omega)) (List.getElem_mem _)
    obtain ⟨x, he⟩ := Int.eq_ofNat_of_zero_le hx.1
    rw [if_pos (by omega), if_pos (by omega), if_pos (by omega), pl_rd_nat, getD_at _ _ (by omega), he]
    have hstep := pl_pbyte (pRem r (l.take i)) x (pRem_lt _ hr) (by omega)
    refine pl_bind hstep ?_
    have e : pBy (pRem r (l.take i)) x = pRem r (l.take (i + 1)) := by
      rw [take_snoc l i (by omega), pRem_snoc, he, Int.toNat_natCast]
    rw [e, pl_w64 (by omega)]
    exact ih k (i + 1) (by omega) (by omega)
theorem pl_prem (l : List Int) (hb : ∀ x ∈ l, 0 ≤ x ∧ x ≤ 255) (hn : l.length < 100000) (r : Nat) (hr : r < 65536) (k : Nat) (hk : l.length < k) : poly_Rem.f k (r : Int) l = some ((pRem r l : Nat) : Int) := by
  unfold poly_Rem.f
  exact pl_prem_l l hb hn r hr l.length k 0 (by omega) hk

def pl_mixed (a b : List Int) : List Int := List.zipWith (fun x y => Go.bits .xor .u8 x y) a b
theorem pl_mixed_len (a b : List Int) : (pl_mixed a b).length = min a.length b.length := by simp [pl_mixed]
theorem pl_mix_l (a b : List Int) (hn : a.length < 100000) : ∀ (d k i : Nat) (o : List Int), i + d = min a.length b.length → d < k → o.length = min a.length b.length → o.take i = (pl_mixed a b).take i →
    poly_Mix.l0 k a b o (o.length : Int) i = some (pl_mixed a b) := by
  intro d
  induction d with
  | zero =>
    intro k i o hi hk ho ht
    obtain ⟨k, rfl⟩ : ∃ m, k = m + 1 := ⟨k - 1, by omega⟩
    simp only [poly_Mix.l0]
    rw [if_neg (by omega)]
    rw [List.take_of_length_le (by omega), List.take_of_length_le (by rw [pl_mixed_len]; omega)] at ht
    rw [ht]
  | succ d ih =>
    intro k i o hi hk ho ht
    obtain ⟨k, rfl⟩ : ∃ m, k = m + 1 := ⟨k - 1, by omega⟩
    simp only [poly_Mix.l0]
    rw [if_pos (by omega), if_pos (by omega), if_pos (by omega), if_pos (by omega), if_pos (by omega), pl_w64 (by omega), pl_rd_nat, pl_rd_nat, Int.toNat_natCast]
    have hl : (o.set i (Go.bits .xor .u8 (a.getD i 0) (b.getD i 0))).length = o.length := List.length_set ..
    have := ih k (i + 1) (o.set i (Go.bits .xor .u8 (a.getD i 0) (b.getD i 0))) (by omega) (by omega) (by rw [hl]; exact ho) (by
      rw [take_snoc _ i (by rw [hl]; omega), take_snoc (pl_mixed a b) i (by rw [pl_mixed_len]; omega), List.take_set_of_le (Nat.le_refl _), ht, List.getElem_set_self]
      simp only [pl_mixed, List.getElem_zipWith]
      rw [getD_at a i (by omega), getD_at b i (by omega)])
    rw [hl] at this
    exact this
theorem pl_mix (a b : List Int) (hn : a.length < 100000) (k : Nat) (hk : a.length < k) : poly_Mix.f k a b = some (pl_mixed a b) := by
  unfold poly_Mix.f
  have hm : mn (a.length : Int) (b.length : Int) = ((min a.length b.length : Nat) : Int) := by
    unfold mn
    split <;> omega
  rw [hm, if_pos (by omega), Int.toNat_natCast, if_pos (by omega)]
  refine pl_bind rfl ?_
  exact pl_mix_l a b hn (min a.length b.length) k 0 _ (by omega) (by omega) (by simp) rfl
theorem pl_mixed_rem (a b : List Int) (ha : ∀ x ∈ a, 0 ≤ x ∧ x ≤ 255) (hb : ∀ x ∈ b, 0 ≤ x ∧ x ≤ 255) (hl : a.length = b.length) (p q : Nat) : pRem (p ^^^ q) (pl_mixed a b) = pRem p a ^^^ pRem q b := by
  induction a generalizing b p q with
  | nil =>
    cases b with
    | nil => rfl
    | cons y b => simp at hl
  | cons x a ih =>
    cases b with
    | nil => simp at hl
    | cons y b =>
      have hx := ha x (by simp)
      have hy := hb y (by simp)
      have e : (Go.bits .xor .u8 x y).toNat = x.toNat ^^^ y.toNat := by rw [u8_xor x y hx.1 (by omega) hy.1 (by omega), Int.toNat_natCast]
      show pRem (p ^^^ q) (Go.bits .xor .u8 x y :: pl_mixed a b) = _
      rw [pRem_cons, pRem_cons, pRem_cons, e, pBy_xor]
      exact ih b (fun z hz => ha z (by simp [hz])) (fun z hz => hb z (by simp [hz])) (by simpa using hl) _ _
theorem pl_mixed_u8 (a b : List Int) (ha : ∀ x ∈ a, 0 ≤ x ∧ x ≤ 255) (hb : ∀ x ∈ b, 0 ≤ x ∧ x ≤ 255) : ∀ x ∈ pl_mixed a b, 0 ≤ x ∧ x ≤ 255 := by
  intro z hz
  obtain ⟨i, hi, rfl⟩ := List.getElem_of_mem hz
  rw [pl_mixed_len] at hi
  simp only [pl_mixed, List.getElem_zipWith]
  have h1 := ha (a[i]'(by omega)) (List.getElem_mem _)
  have h2 := hb (b[i]'(by omega)) (List.getElem_mem _)
  rw [u8_xor _ _ h1.1 (by omega) h2.1 (by omega)]
  have := Nat.xor_lt_two_pow (n := 8) (x := a[i].toNat) (y := b[i].toNat) (by omega) (by omega)
  omega

theorem pl_sure03 (k : Nat) (hk : 60 ≤ k) : bilgelaw03_sure.f k = some true := at_rounds bilgelaw03_sure.mono hk (by decide +kernel)

theorem pl_take_u8 {l : List Int} (h : ∀ x ∈ l, 0 ≤ x ∧ x ≤ 255) (n : Nat) : ∀ x ∈ l.take n, 0 ≤ x ∧ x ≤ 255 := fun x hx => h x (List.mem_of_mem_take hx)
theorem PolyLinear : bilgelaw03_PolyLinear.Pure := by
  intro x0 x1 hw0 hw1
  obtain ⟨h0, h1⟩ := hw0
  obtain ⟨⟨_, _, ha⟩, _, _, hb⟩ := hw1
  have ha := pl_u8n ha
  have hb := pl_u8n hb
  have h0 := wf_u16 h0
  have h1 := wf_u16 h1
  obtain ⟨p, hp⟩ := Int.eq_ofNat_of_zero_le h0.1
  obtain ⟨q, hq⟩ := Int.eq_ofNat_of_zero_le h1.1
  rw [hp, hq]
  generalize x1.f0 = a at *
  generalize x1.f1 = b at *
  obtain ⟨K, hK⟩ : ∃ K : Nat, 900 ≤ K := ⟨1000, by omega⟩
  refine ⟨K, ?_⟩
  unfold bilgelaw03_PolyLinear.f
  have hm : mn (a.length : Int) (b.length : Int) = ((min a.length b.length : Nat) : Int) := by
    unfold mn
    split <;> omega
  rw [hm]
  by_cases hs : min a.length b.length > 300
  · rw [if_pos (by omega), pl_sure03 K (by omega)]; rfl
  · rw [if_neg (by omega), if_pos (by omega), if_pos (by omega), if_pos (by omega), Int.toNat_natCast]
    have la : (a.take (min a.length b.length)).length = min a.length b.length := by rw [List.length_take]; omega
    have lb : (b.take (min a.length b.length)).length = min a.length b.length := by rw [List.length_take]; omega
    have ua := pl_take_u8 ha (min a.length b.length)
    have ub := pl_take_u8 hb (min a.length b.length)
    generalize a.take (min a.length b.length) = c at *
    generalize b.take (min a.length b.length) = d at *
    refine pl_bind (pl_mix c d (by omega) K (by omega)) ?_
    have hx : Go.bits .xor .u16 ((p : Nat) : Int) ((q : Nat) : Int) = ((p ^^^ q : Nat) : Int) := u16_xor_nat p q (by omega) (by omega)
    rw [hx]
    have lm := pl_mixed_len c d
    refine pl_bind (pl_prem _ (pl_mixed_u8 c d ua ub) (by omega) _ (Nat.xor_lt_two_pow (n := 16) (by omega) (by omega)) K (by omega)) ?_
    refine pl_bind (pl_prem c ua (by omega) p (by omega) K (by omega)) ?_
    refine pl_bind (pl_prem d ub (by omega) q (by omega) K (by omega)) ?_
    rw [u16_xor_nat _ _ (pRem_lt _ (by omega)) (pRem_lt _ (by omega)), pl_mixed_rem c d ua ub (by omega), if_pos rfl, pl_sure03 K (by omega)]; rfl

end Go.Proofs.Ytmekenfndmimhaa.Pure

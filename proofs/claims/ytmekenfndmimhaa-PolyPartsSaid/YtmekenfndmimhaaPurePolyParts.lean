/- Layer 3's law PolyParts of the given program: bytes one behind the other; what stays unlike; the way back. For all remainders and all rows of bytes (more than 600 bytes together are passed by). -/
import Derived.Test.YtmekenfndmimhaaPPolyPartsx
import Derived.IntWalk
set_option linter.unusedVariables false
set_option linter.unusedSimpArgs false
namespace Go.Proofs.Ytmekenfndmimhaa.Pure
open Go.RowKit Go.Proofs.Ytmekenfndmimhaa.PPolyParts Go.Proofs.YtmekenfndmimhaaW.PrintWords Go.Proofs.YtmekenfndmimhaaW.PrintLast Go.Proofs.YtmekenfndmimhaaW.PrintMore Go.Proofs.YtmekenfndmimhaaM

theorem pl_w64 {i : Int} (h : -9223372036854775808 ≤ i ∧ i ≤ 9223372036854775807) : wrap64 i = i := by unfold wrap64; omega
theorem pl_bind {α β : Type} {x : Option α} {f : α → Option β} {a : α} {r : β} (h : x = some a) (k : f a = some r) : x.bind f = some r := by rw [h]; exact k
theorem pl_rd_nat (l : List Int) (i : Nat) : rd l (i : Int) = l.getD i 0 := by simp [rd]
theorem pl_rd_eq (l : List Int) (i : Int) (n : Nat) (h : i = n) : rd l i = l.getD n 0 := by subst h; exact pl_rd_nat l n

theorem pl_pbyte (r b : Nat) (hr : r < 65536) (hb : b < 256) : poly_Byte.f (r : Int) (b : Int) = some ((pBy r b : Nat) : Int) := by
  unfold poly_Byte.f
  rw [if_pos (by omega), Int.toNat_natCast, Int.toNat_natCast]

theorem pl_u8n {l : List Int} (h : ∀ x ∈ l, (Lit.int .u8 x).wf = true) : ∀ x ∈ l, 0 ≤ x ∧ x ≤ 255 := fun x hx => wf_u8 (h x hx)
theorem pl_prem_l (l : List Int) (hb : ∀ x ∈ l, 0 ≤ x ∧ x ≤ 255) (hn : l.length < 100000) (r : Nat) (hr : r < 65536) : ∀ (d k i : Nat), i + d = l.length → d < k →
    poly_Rem.l0 k (pRem r (l.take i) : Nat) l (l.length : Int) i = some ((pRem r l : Nat) : Int) := by
  intro d
  induction d with
  | zero =>
    intro k i hi hk
    obtain ⟨k, rfl⟩ : ∃ m, k = m + 1 := ⟨k - 1, by omega⟩
    simp only [poly_Rem.l0]
    rw [if_neg (by omega), List.take_of_length_le (by omega)]
  | succ d ih =>
    intro k i hi hk
    obtain ⟨k, rfl⟩ : ∃ m, k = m + 1 := ⟨k - 1, by omega⟩
    simp only [poly_Rem.l0]
    have hx := hb (l[i]'(by omega)) (List.getElem_mem _)
    obtain ⟨x, he⟩ := Int.eq_ofNat_of_zero_le hx.1
    rw [if_pos (by omega), if_pos (by omega), if_pos (by omega), pl_rd_nat, getD_at _ _ (by omega), he]
    have hstep := pl_pbyte (pRem r (l.take i)) x (pRem_lt _ hr) (by omega)
    refine pl_bind hstep ?_
    have e : pBy (pRem r (l.take i)) x = pRem r (l.take (i + 1)) := by
      rw [take_snoc l i (by omega), pRem_snoc, he, Int.toNat_natCast]
    rw [e, pl_w64 (by omega)]
    exact ih k (i + 1) (by omega) (by omega)
theorem pl_prem (l : List Int) (hb : ∀ x ∈ l, 0 ≤ x ∧ x ≤ 255) (hn : l.length < 100000) (r : Nat) (hr : r < 65536) (k : Nat) (hk : l.length < k) : poly_Rem.f k (r : Int) l = some ((pRem r l : Nat) : Int) := by
  unfold poly_Rem.f
  exact pl_prem_l l hb hn r hr l.length k 0 (by omega) hk

theorem pl_pback (r b : Nat) (hr : r < 65536) (hb : b < 256) : poly_Back.f (r : Int) (b : Int) = some ((pUn r b : Nat) : Int) := by
  unfold poly_Back.f
  rw [if_pos (by omega), Int.toNat_natCast, Int.toNat_natCast]

theorem pl_sure03 (k : Nat) (hk : 60 ≤ k) : bilgelaw03_sure.f k = some true := at_rounds bilgelaw03_sure.mono hk (by decide +kernel)

theorem pl_un (a : List Int) (p : Nat) (hp : p < 65536) (x : Int) : pUn (pRem p (a ++ [x])) x.toNat = pRem p a := by
  rw [pRem_snoc]; exact pUn_pBy (pRem_lt _ hp)
theorem pl_inj (a : List Int) (p q : Nat) (hp : p < 65536) (hq : q < 65536) (h : pRem p a = pRem q a) : p = q := by
  induction a generalizing p q with
  | nil => exact h
  | cons x a ih =>
    rw [pRem_cons, pRem_cons] at h
    have := ih _ _ (pBy_lt hp) (pBy_lt hq) h
    have h2 := congrArg (fun z => pUn z x.toNat) this
    simp only [pUn_pBy hp, pUn_pBy hq] at h2
    exact h2
theorem pl_goback (p q : Nat) (a b : List Int) (hp : p < 65536) (hq : q < 65536) (ha : ∀ x ∈ a, 0 ≤ x ∧ x ≤ 255) (hb : ∀ x ∈ b, 0 ≤ x ∧ x ≤ 255) (hl : a.length + b.length ≤ 600) :
    ∀ (d k : Nat), d ≤ a.length → d + 700 < k → bilgelaw03_PolyParts.l0 k (p : Int) (q : Int) a b (a ++ b) (pRem p a : Nat) (pRem q a : Nat) (pRem p (a.take d) : Nat) ((d : Int) - 1) = some true := by
  intro d
  induction d with
  | zero =>
    intro k hd hk
    obtain ⟨k, rfl⟩ : ∃ m, k = m + 1 := ⟨k - 1, by omega⟩
    simp only [bilgelaw03_PolyParts.l0]
    rw [if_neg (by omega)]
    refine pl_bind (pl_prem (a ++ b) (fun x hx => (List.mem_append.1 hx).elim (ha x) (hb x)) (by simp; omega) p hp k (by simp; omega)) ?_
    refine pl_bind (pl_prem b hb (by omega) (pRem p a) (pRem_lt _ hp) k (by omega)) ?_
    rw [pRem_append, if_pos rfl]
    have hd : (((pRem p a : Nat) : Int) == ((pRem q a : Nat) : Int)) = ((p : Int) == (q : Int)) := by
      rw [Bool.eq_iff_iff]
      simp only [beq_iff_eq, Int.ofNat_inj]
      constructor
      · intro h; exact pl_inj a p q hp hq h
      · rintro rfl; rfl
    rw [hd, if_pos (by simp), if_pos (show ((pRem p (a.take 0) : Nat) : Int) = (p : Int) from rfl), pl_sure03 k (by omega)]; rfl
  | succ d ih =>
    intro k hd hk
    obtain ⟨k, rfl⟩ : ∃ m, k = m + 1 := ⟨k - 1, by omega⟩
    simp only [bilgelaw03_PolyParts.l0]
    have hx := ha (a[d]'(by omega)) (List.getElem_mem _)
    obtain ⟨x, he⟩ := Int.eq_ofNat_of_zero_le hx.1
    rw [if_pos (by omega), if_pos (by omega), if_pos (by omega), pl_rd_eq a _ d (by omega), getD_at _ _ (by omega), he]
    have hs := pl_pback (pRem p (a.take (d + 1))) x (pRem_lt _ hp) (by omega)
    refine pl_bind hs ?_
    have e : pUn (pRem p (a.take (d + 1))) x = pRem p (a.take d) := by
      have := pl_un (a.take d) p hp (a[d]'(by omega))
      rw [← take_snoc a d (by omega), he, Int.toNat_natCast] at this
      exact this
    rw [e, pl_w64 (by omega), show ((d + 1 : Nat) : Int) - 1 - 1 = (d : Int) - 1 by omega]
    exact ih k (by omega) (by omega)
theorem PolyParts : bilgelaw03_PolyParts.Pure := by
  intro x0 x1 hw0 hw1
  obtain ⟨h0, h1⟩ := hw0
  obtain ⟨⟨_, hla, ha⟩, _, hlb, hb⟩ := hw1
  have ha := pl_u8n ha
  have hb := pl_u8n hb
  have h0 := wf_u16 h0
  have h1 := wf_u16 h1
  obtain ⟨p, hp⟩ := Int.eq_ofNat_of_zero_le h0.1
  obtain ⟨q, hq⟩ := Int.eq_ofNat_of_zero_le h1.1
  rw [hp, hq]
  generalize x1.f0 = a at *
  generalize x1.f1 = b at *
  obtain ⟨K, hK⟩ : ∃ K : Nat, 3000 ≤ K := ⟨3000, by omega⟩
  refine ⟨K, ?_⟩
  unfold bilgelaw03_PolyParts.f
  rw [pl_w64 (by omega)]
  by_cases hs : a.length + b.length > 600
  · rw [if_pos (by omega), pl_sure03 K (by omega)]; rfl
  · rw [if_neg (by omega)]
    refine pl_bind rfl ?_
    rw [if_pos (by simp; omega)]
    refine pl_bind (congrArg some (List.nil_append a)) ?_
    rw [if_pos (by omega)]
    refine pl_bind (pl_prem a ha (by omega) p (by omega) K (by omega)) ?_
    refine pl_bind (pl_prem a ha (by omega) q (by omega) K (by omega)) ?_
    rw [pl_w64 (by omega)]
    have := pl_goback p q a b (by omega) (by omega) ha hb (by omega) a.length K (by omega) (by omega)
    rw [List.take_of_length_le (Nat.le_refl _)] at this
    exact this

end Go.Proofs.Ytmekenfndmimhaa.Pure

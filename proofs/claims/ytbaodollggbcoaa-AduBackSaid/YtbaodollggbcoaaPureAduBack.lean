/- Layer 11's law AduBack of the given program: what was wrapped is opened, and has as many bytes as Size tells; what was opened, wrapped again, is that frame. -/
import Derived.Test.YtbaodollggbcoaaPAduBackx
import Derived.IntWalk
set_option linter.unusedVariables false
set_option linter.unusedSimpArgs false
namespace Go.Proofs.Ytbaodollggbcoaa.Pure
open Go.RowKit Go.Proofs.Ytbaodollggbcoaa.PAduBack Go.Proofs.YtbaodollggbcoaaW.PrintWords Go.Proofs.YtbaodollggbcoaaW.PrintLast Go.Proofs.YtbaodollggbcoaaW.PrintMore Go.Proofs.YtbaodollggbcoaaM

theorem pl_w64 {i : Int} (h : -9223372036854775808 ≤ i ∧ i ≤ 9223372036854775807) : wrap64 i = i := by unfold wrap64; omega
theorem pl_bind {α β : Type} {x : Option α} {f : α → Option β} {a : α} {r : β} (h : x = some a) (k : f a = some r) : x.bind f = some r := by rw [h]; exact k
theorem pl_rd_nat (l : List Int) (i : Nat) : rd l (i : Int) = l.getD i 0 := by simp [rd]
theorem pl_rd_eq (l : List Int) (i : Int) (n : Nat) (h : i = n) : rd l i = l.getD n 0 := by subst h; exact pl_rd_nat l n

theorem pl_u8c {l : List Int} (h : ∀ x ∈ l, (Lit.int .u8 x).wf = true) : ∀ x ∈ l, 0 ≤ x ∧ x ≤ 255 := fun x hx => wf_u8 (h x hx)
theorem pl_crcsum (l : List Int) (hb : ∀ x ∈ l, 0 ≤ x ∧ x ≤ 255) : crc_Sum.f l = some ((pRem 65535 l : Nat) : Int) := by
  unfold crc_Sum.f
  rw [if_pos hb]

def pl_crced (l : List Int) : List Int := l ++ [((pRem 65535 l % 256 : Nat) : Int), ((pRem 65535 l / 256 : Nat) : Int)]
theorem pl_crced_len (l : List Int) : (pl_crced l).length = l.length + 2 := by unfold pl_crced; rw [List.length_append]; rfl
theorem pl_crcappend (l : List Int) (hb : ∀ x ∈ l, 0 ≤ x ∧ x ≤ 255) (hn : l.length < 100000) : crc_Append.f l = some (pl_crced l) := by
  unfold crc_Append.f
  rw [if_pos ⟨by omega, hb⟩]; rfl
theorem pl_crced_u8 (l : List Int) (hb : ∀ x ∈ l, 0 ≤ x ∧ x ≤ 255) : ∀ x ∈ pl_crced l, 0 ≤ x ∧ x ≤ 255 := by
  intro x hx
  have hm : pRem 65535 l < 65536 := pRem_lt _ (by omega)
  simp only [pl_crced, List.mem_append, List.mem_cons, List.mem_nil_iff, or_false] at hx
  rcases hx with hx | rfl | rfl
  · exact hb x hx
  · omega
  · omega
theorem pl_crced_rem (l : List Int) : pRem 65535 (pl_crced l) = 0 := by
  have hm : pRem 65535 l < 65536 := pRem_lt _ (by omega)
  unfold pl_crced
  rw [pRem_append]
  show pBy (pBy (pRem 65535 l) (((pRem 65535 l % 256 : Nat) : Int)).toNat) (((pRem 65535 l / 256 : Nat) : Int)).toNat = 0
  rw [Int.toNat_natCast, Int.toNat_natCast]
  exact pBy_join hm

def pl_wrapped (s : Int) (l : List Int) : List Int × Int := if s < 0 ∨ 255 < s then ([], 11) else if l.length = 0 then ([], 12) else if 253 < l.length then ([], 13) else (pl_crced (s :: l), 0)
theorem pl_cons_u8 (s : Int) (l : List Int) (hs : 0 ≤ s ∧ s ≤ 255) (hb : ∀ x ∈ l, 0 ≤ x ∧ x ≤ 255) : ∀ x ∈ s :: l, 0 ≤ x ∧ x ≤ 255 := by
  intro x hx
  rcases List.mem_cons.1 hx with rfl | h
  · exact hs
  · exact hb x h
theorem pl_aduwrap (s : Int) (l : List Int) (hb : ∀ x ∈ l, 0 ≤ x ∧ x ≤ 255) (k : Nat) (hk : 0 < k) : adu_Wrap.f k s l = some (pl_wrapped s l) := by
  obtain ⟨k, rfl⟩ : ∃ m, k = m + 1 := ⟨k - 1, by omega⟩
  unfold adu_Wrap.f pl_wrapped
  by_cases h : s < 0 ∨ 255 < s
  · rw [if_pos h]
    have e : adu_Wrap.j0 (k + 1) s l true = some ([], 11) := by simp only [adu_Wrap.j0]; rw [if_pos trivial]
    by_cases h1 : s < 0
    · rw [if_pos h1, e]
    · rw [if_neg h1, show decide (s > 255) = true by rw [decide_eq_true_eq]; omega, e]
  · rw [if_neg h, if_neg (by omega), show decide (s > 255) = false by rw [decide_eq_false_iff_not]; omega]
    simp only [adu_Wrap.j0]
    rw [if_neg (by decide)]
    by_cases h2 : l.length = 0
    · rw [if_pos (by omega), if_pos h2]
    · rw [if_neg (by omega), if_neg h2]
      by_cases h3 : 253 < l.length
      · rw [if_pos (by omega), if_pos h3]
      · rw [if_neg (by omega), if_neg h3]
        have hj : adu_joined.f [[s % 256], l] = some (s :: l) := by
          unfold adu_joined.f
          have e : [[s % 256], l].flatten = s :: l := by rw [show s % 256 = s by omega]; simp
          rw [e, if_pos (by rw [List.length_cons]; omega)]
        refine pl_bind hj ?_
        exact pl_bind (pl_crcappend (s :: l) (pl_cons_u8 s l (by omega) hb) (by rw [List.length_cons]; omega)) rfl

theorem pl_crccheck (l : List Int) (hb : ∀ x ∈ l, 0 ≤ x ∧ x ≤ 255) : crc_Check.f l = some (decide (2 ≤ l.length ∧ pRem 65535 l = 0)) := by
  unfold crc_Check.f
  by_cases h : 2 ≤ l.length
  · rw [if_pos (by omega), pl_crcsum l hb]
    refine congrArg some ?_
    rw [Bool.eq_iff_iff]
    simp only [beq_iff_eq, decide_eq_true_eq]
    omega
  · rw [if_neg (by omega)]
    refine congrArg some ?_
    rw [eq_comm, decide_eq_false_iff_not]
    omega

theorem pl_crcstrip (l : List Int) (hb : ∀ x ∈ l, 0 ≤ x ∧ x ≤ 255) (hn : l.length < 100000) : crc_Strip.f l = some (if l.length < 2 then ([], 12) else if pRem 65535 l = 0 then (l.take (l.length - 2), 0) else ([], 14)) := by
  unfold crc_Strip.f
  by_cases h : l.length < 2
  · rw [if_pos (by omega), if_pos h]
  · rw [if_neg (by omega), if_neg h]
    refine pl_bind (pl_crccheck l hb) ?_
    by_cases hz : pRem 65535 l = 0
    · rw [if_pos (by rw [decide_eq_true_eq]; exact ⟨by omega, hz⟩), if_pos hz]
      refine pl_bind rfl ?_
      rw [pl_w64 (by omega), if_pos (by omega), if_pos (by omega), if_pos (by rw [List.length_take, List.length_nil]; omega), show ((l.length : Int) - 2).toNat = l.length - 2 by omega]
      rfl
    · rw [if_neg (by rw [decide_eq_true_eq]; exact fun hh => hz hh.2), if_neg hz]

def pl_opened (l : List Int) : Int × List Int × Int := if l.length < 4 then (0, [], 12) else if 256 < l.length then (0, [], 13) else if pRem 65535 l = 0 then (l.getD 0 0, (l.take (l.length - 2)).drop 1, 0) else (0, [], 14)
theorem pl_u8_w64 {l : List Int} (hb : ∀ x ∈ l, 0 ≤ x ∧ x ≤ 255) : wrap64 (l.getD 0 0) = l.getD 0 0 := by
  cases l with
  | nil => exact pl_w64 (by decide)
  | cons x l => have := hb x (by simp); exact pl_w64 (by simp; omega)
theorem pl_aduopen (l : List Int) (hb : ∀ x ∈ l, 0 ≤ x ∧ x ≤ 255) (hn : l.length < 100000) : adu_Open.f l = some (pl_opened l) := by
  unfold adu_Open.f pl_opened
  by_cases h1 : l.length < 4
  · rw [if_pos (by omega), if_pos h1]
  · rw [if_neg (by omega), if_neg h1]
    by_cases h2 : 256 < l.length
    · rw [if_pos (by omega), if_pos h2]
    · rw [if_neg (by omega), if_neg h2]
      refine pl_bind (pl_crcstrip l hb hn) ?_
      rw [if_neg (show ¬ l.length < 2 by omega)]
      by_cases hz : pRem 65535 l = 0
      · rw [if_pos hz, if_pos hz, if_pos rfl]
        have hl : (l.take (l.length - 2)).length = l.length - 2 := by rw [List.length_take]; omega
        show (if 0 < ((l.take (l.length - 2)).length : Int) then (if 1 ≤ ((l.take (l.length - 2)).length : Int) then (adu_joined.f [(l.take (l.length - 2)).drop 1]).bind fun t140 => some (wrap64 (rd (l.take (l.length - 2)) 0), t140, 0) else none) else none) = _
        rw [if_pos (by omega), if_pos (by omega)]
        have hj : adu_joined.f [(l.take (l.length - 2)).drop 1] = some ((l.take (l.length - 2)).drop 1) := by
          unfold adu_joined.f
          have e : [(l.take (l.length - 2)).drop 1].flatten = (l.take (l.length - 2)).drop 1 := by simp
          rw [e, if_pos (by rw [List.length_drop]; omega)]
        refine pl_bind hj ?_
        have e0 : rd (l.take (l.length - 2)) 0 = l.getD 0 0 := by
          rw [show rd (l.take (l.length - 2)) 0 = (l.take (l.length - 2)).getD 0 0 from rfl, getD_at _ _ (by omega), getD_at _ _ (by omega), List.getElem_take]
        rw [e0, pl_u8_w64 hb]
      · rw [if_neg hz, if_neg hz, if_neg (by decide)]

theorem pl_adusize (s : Int) (h : -9223372036854775808 ≤ s ∧ s ≤ 9223372036854775807) : adu_Size.f s = some (if 0 < s ∧ s < 254 then s + 3 else 0) := by
  unfold adu_Size.f
  by_cases h1 : s < 1
  · rw [if_pos h1, if_neg (by omega)]
  · rw [if_neg h1]
    by_cases h2 : s > 253
    · rw [if_pos h2, if_neg (by omega)]
    · rw [if_neg h2, if_pos (by omega), pl_w64 (by omega)]

theorem pl_sure11 (k : Nat) (hk : 60 ≤ k) : bilgelaw11_sure.f k = some true := at_rounds bilgelaw11_sure.mono hk (by decide +kernel)

theorem pl_wrapped_u8 (s : Int) (l : List Int) (hb : ∀ x ∈ l, 0 ≤ x ∧ x ≤ 255) : ∀ x ∈ (pl_wrapped s l).1, 0 ≤ x ∧ x ≤ 255 := by
  unfold pl_wrapped
  split
  · simp
  · split
    · simp
    · split
      · simp
      · exact pl_crced_u8 _ (pl_cons_u8 s l (by omega) hb)
theorem pl_wrapped_len (s : Int) (l : List Int) : (pl_wrapped s l).1.length ≤ 256 := by
  unfold pl_wrapped
  split
  · simp
  · split
    · simp
    · split
      · simp
      · show (pl_crced (s :: l)).length ≤ 256
        rw [pl_crced_len, List.length_cons]; omega
theorem pl_opened_len (l : List Int) : (pl_opened l).2.1.length ≤ 256 := by
  unfold pl_opened
  split
  · simp
  · split
    · simp
    · split
      · show ((l.take (l.length - 2)).drop 1).length ≤ 256
        rw [List.length_drop, List.length_take]; omega
      · simp

theorem pl_crced_take (l : List Int) (hb : ∀ x ∈ l, 0 ≤ x ∧ x ≤ 255) (h : 2 ≤ l.length) (h0 : pRem 65535 l = 0) : pl_crced (l.take (l.length - 2)) = l := by
  have hm : pRem 65535 (l.take (l.length - 2)) < 65536 := pRem_lt _ (by omega)
  have h2 := pRem_two l h
  have h3 := split_two l h
  have hx := hb (l[l.length - 2]'(by omega)) (List.getElem_mem _)
  have hy := hb (l[l.length - 1]'(by omega)) (List.getElem_mem _)
  rw [getD_at l _ (by omega), getD_at l _ (by omega)] at h2 h3
  rw [h0] at h2
  have h4 := (pBy_two hm (by omega) (by omega)).1 h2.symm
  generalize l[l.length - 2]'(by omega) = x at *
  generalize l[l.length - 1]'(by omega) = y at *
  refine Eq.trans ?_ h3.symm
  unfold pl_crced
  generalize pRem 65535 (l.take (l.length - 2)) = m at *
  rw [show ((m % 256 : Nat) : Int) = x by omega, show ((m / 256 : Nat) : Int) = y by omega]

theorem pl_bytes_l (a b : List Int) (hl : a.length = b.length) (hn : a.length < 9223372036854775807) : ∀ (d k i : Nat), i + d = a.length → d < k → a.take i = b.take i →
    bilgeref01_Bytes.l0 k a b i = some (decide (a = b)) := by
  intro d
  induction d with
  | zero =>
    intro k i hi hk ht
    obtain ⟨k, rfl⟩ : ∃ m, k = m + 1 := ⟨k - 1, by omega⟩
    simp only [bilgeref01_Bytes.l0]
    rw [if_neg (by omega)]
    have : a = b := by
      rw [List.take_of_length_le (by omega), List.take_of_length_le (by omega)] at ht; exact ht
    simp [this]
  | succ d ih =>
    intro k i hi hk ht
    obtain ⟨k, rfl⟩ : ∃ m, k = m + 1 := ⟨k - 1, by omega⟩
    simp only [bilgeref01_Bytes.l0]
    rw [if_pos (by omega), if_pos (by omega), if_pos (by omega), pl_rd_nat, pl_rd_nat, getD_at _ _ (by omega), getD_at _ _ (by omega), pl_w64 (by omega)]
    by_cases e : a[i] = b[i]
    · rw [if_pos e]
      exact ih k (i + 1) (by omega) (by omega) (by rw [take_snoc a i (by omega), take_snoc b i (by omega), ht, e])
    · rw [if_neg e]
      have : a ≠ b := by rintro rfl; exact e rfl
      simp [this]
theorem pl_bytes (a b : List Int) (hn : a.length < 9223372036854775807) (k : Nat) (hk : a.length < k) : bilgeref01_Bytes.f k a b = some (decide (a = b)) := by
  unfold bilgeref01_Bytes.f
  by_cases hl : a.length = b.length
  · rw [if_pos (by omega)]
    exact pl_bytes_l a b hl hn a.length k 0 (by omega) hk rfl
  · rw [if_neg (by omega)]
    have : a ≠ b := by rintro rfl; exact hl rfl
    simp [this]

theorem pl_adu2 (k : Nat) (hk : 800 < k) (l : List Int) (hb : ∀ x ∈ l, 0 ≤ x ∧ x ≤ 255) (hn : l.length ≤ 900) : bilgelaw11_AduBack.j0 k l = some true := by
  obtain ⟨k, rfl⟩ : ∃ m, k = m + 1 := ⟨k - 1, by omega⟩
  have hsure : (bilgelaw11_sure.f k).bind (fun t => some t) = some true := pl_bind (pl_sure11 k (by omega)) rfl
  simp only [bilgelaw11_AduBack.j0]
  refine pl_bind (pl_aduopen l hb (by omega)) ?_
  unfold pl_opened
  by_cases h1 : l.length < 4
  · rw [if_pos h1, if_neg (by decide), if_pos rfl]; exact hsure
  · rw [if_neg h1]
    by_cases h2 : 256 < l.length
    · rw [if_pos h2, if_neg (by decide), if_pos rfl]; exact hsure
    · rw [if_neg h2]
      by_cases hz : pRem 65535 l = 0
      · rw [if_pos hz, if_pos rfl]
        have hp : ∀ x ∈ (l.take (l.length - 2)).drop 1, 0 ≤ x ∧ x ≤ 255 := fun x hx => hb x (List.mem_of_mem_take (List.mem_of_mem_drop hx))
        refine pl_bind (pl_aduwrap _ _ hp k (by omega)) ?_
        have hx := hb (l[0]'(by omega)) (List.getElem_mem _)
        have hw : pl_wrapped (l.getD 0 0) ((l.take (l.length - 2)).drop 1) = (l, 0) := by
          unfold pl_wrapped
          have hl : ((l.take (l.length - 2)).drop 1).length = l.length - 3 := by rw [List.length_drop, List.length_take]; omega
          rw [getD_at l 0 (by omega), if_neg (by omega), if_neg (by omega), if_neg (by omega)]
          have e : l[0]'(by omega) :: (l.take (l.length - 2)).drop 1 = l.take (l.length - 2) := by
            cases l with
            | nil => simp at h1
            | cons x l =>
              have : (x :: l).length - 2 = ((x :: l).length - 3) + 1 := by simp at h1 ⊢; omega
              rw [this, List.take_succ_cons]; rfl
          rw [e, pl_crced_take l hb (by omega) hz]
        rw [hw, if_pos rfl]
        refine pl_bind (pl_bytes l l (by omega) k (by omega)) ?_
        rw [if_pos (by simp)]; exact hsure
      · rw [if_neg hz, if_neg (by decide), if_pos rfl]; exact hsure
theorem AduBack : bilgelaw11_AduBack.Pure := by
  intro s a b hs hla hla2 ha hlb hlb2 hb
  have ha := pl_u8c ha
  have hb := pl_u8c hb
  have hs := wf_i64 hs
  obtain ⟨K, hK⟩ : ∃ K : Nat, 3000 ≤ K := ⟨3000, by omega⟩
  refine ⟨K, ?_⟩
  unfold bilgelaw11_AduBack.f
  rw [pl_w64 (by omega)]
  by_cases hl : a.length + b.length > 900
  · rw [if_pos (by omega)]; exact pl_bind (pl_sure11 _ (by omega)) rfl
  · have h0 := pl_adu2 K (by omega) b hb (by omega)
    rw [if_neg (by omega)]
    refine pl_bind (pl_aduwrap s a ha _ (by omega)) ?_
    unfold pl_wrapped
    by_cases h1 : s < 0 ∨ 255 < s
    · rw [if_pos h1, if_neg (by decide)]; exact h0
    · rw [if_neg h1]
      by_cases h2 : a.length = 0
      · rw [if_pos h2, if_neg (by decide)]; exact h0
      · rw [if_neg h2]
        by_cases h3 : 253 < a.length
        · rw [if_pos h3, if_neg (by decide)]; exact h0
        · rw [if_neg h3, if_pos rfl]
          have hc : ∀ x ∈ pl_crced (s :: a), 0 ≤ x ∧ x ≤ 255 := pl_crced_u8 _ (pl_cons_u8 s a (by omega) ha)
          have hlen : (pl_crced (s :: a)).length = a.length + 3 := by rw [pl_crced_len, List.length_cons]
          refine pl_bind (pl_aduopen _ hc (by rw [hlen]; omega)) ?_
          have ho : pl_opened (pl_crced (s :: a)) = (s, a, 0) := by
            unfold pl_opened
            rw [hlen, if_neg (by omega), if_neg (by omega), if_pos (pl_crced_rem _)]
            have e1 : (pl_crced (s :: a)).getD 0 0 = s := rfl
            have e2 : ((pl_crced (s :: a)).take (a.length + 3 - 2)).drop 1 = a := by
              unfold pl_crced
              rw [List.take_append_of_le_length (by rw [List.length_cons]; omega), List.take_of_length_le (by rw [List.length_cons]; omega)]; rfl
            rw [e1, e2]
          rw [ho, if_pos rfl, if_pos rfl]
          refine pl_bind (pl_bytes a a (by omega) K (by omega)) ?_
          rw [if_pos (by simp)]
          refine pl_bind (pl_adusize _ (by omega)) ?_
          show (if ((pl_crced (s :: a)).length : Int) = _ then (if ((pl_crced (s :: a)).length : Int) > 256 then some false else bilgelaw11_AduBack.j0 K b) else some false) = some true
          rw [if_pos (by rw [hlen, if_pos (by omega)]; omega), if_neg (by rw [hlen]; omega)]
          exact h0

end Go.Proofs.Ytbaodollggbcoaa.Pure

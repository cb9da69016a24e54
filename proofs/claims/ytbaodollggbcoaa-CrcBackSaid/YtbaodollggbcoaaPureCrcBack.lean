/- Layer 4's law CrcBack of the given program: what was appended is checked, and leaves nothing; what checks, appended anew, is those bytes; a sum goes on byte by byte as all at once. -/
import Derived.Test.YtbaodollggbcoaaPCrcBackx
import Derived.IntWalk
set_option linter.unusedVariables false
set_option linter.unusedSimpArgs false
namespace Go.Proofs.Ytbaodollggbcoaa.Pure
open Go.RowKit Go.Proofs.Ytbaodollggbcoaa.PCrcBack Go.Proofs.YtbaodollggbcoaaW.PrintWords Go.Proofs.YtbaodollggbcoaaW.PrintLast Go.Proofs.YtbaodollggbcoaaW.PrintMore Go.Proofs.YtbaodollggbcoaaM

theorem pl_w64 {i : Int} (h : -9223372036854775808 ≤ i ∧ i ≤ 9223372036854775807) : wrap64 i = i := by unfold wrap64; omega
theorem pl_bind {α β : Type} {x : Option α} {f : α → Option β} {a : α} {r : β} (h : x = some a) (k : f a = some r) : x.bind f = some r := by rw [h]; exact k
theorem pl_rd_nat (l : List Int) (i : Nat) : rd l (i : Int) = l.getD i 0 := by simp [rd]
theorem pl_rd_eq (l : List Int) (i : Int) (n : Nat) (h : i = n) : rd l i = l.getD n 0 := by subst h; exact pl_rd_nat l n

theorem pl_u8c {l : List Int} (h : ∀ x ∈ l, (Lit.int .u8 x).wf = true) : ∀ x ∈ l, 0 ≤ x ∧ x ≤ 255 := fun x hx => wf_u8 (h x hx)
theorem pl_crcsum (l : List Int) (hb : ∀ x ∈ l, 0 ≤ x ∧ x ≤ 255) : crc_Sum.f l = some ((pRem 65535 l : Nat) : Int) := by
  unfold crc_Sum.f
  rw [if_pos hb]

theorem pl_crccheck (l : List Int) (hb : ∀ x ∈ l, 0 ≤ x ∧ x ≤ 255) : crc_Check.f l = some (decide (2 ≤ l.length ∧ pRem 65535 l = 0)) := by
  unfold crc_Check.f
  by_cases h : 2 ≤ l.length
  · rw [if_pos (by omega), pl_crcsum l hb]
    refine congrArg some ?_
    rw [Bool.eq_iff_iff]
    simp only [beq_iff_eq, decide_eq_true_eq]
    omega
  · rw [if_neg (by omega)]
    refine congrArg some ?_
    rw [eq_comm, decide_eq_false_iff_not]
    omega

theorem pl_crcstrip (l : List Int) (hb : ∀ x ∈ l, 0 ≤ x ∧ x ≤ 255) (hn : l.length < 100000) : crc_Strip.f l = some (if l.length < 2 then ([], 12) else if pRem 65535 l = 0 then (l.take (l.length - 2), 0) else ([], 14)) := by
  unfold crc_Strip.f
  by_cases h : l.length < 2
  · rw [if_pos (by omega), if_pos h]
  · rw [if_neg (by omega), if_neg h]
    refine pl_bind (pl_crccheck l hb) ?_
    by_cases hz : pRem 65535 l = 0
    · rw [if_pos (by rw [decide_eq_true_eq]; exact ⟨by omega, hz⟩), if_pos hz]
      refine pl_bind rfl ?_
      rw [pl_w64 (by omega), if_pos (by omega), if_pos (by omega), if_pos (by rw [List.length_take, List.length_nil]; omega), show ((l.length : Int) - 2).toNat = l.length - 2 by omega]
      rfl
    · rw [if_neg (by rw [decide_eq_true_eq]; exact fun hh => hz hh.2), if_neg hz]

def pl_crced (l : List Int) : List Int := l ++ [((pRem 65535 l % 256 : Nat) : Int), ((pRem 65535 l / 256 : Nat) : Int)]
theorem pl_crced_len (l : List Int) : (pl_crced l).length = l.length + 2 := by unfold pl_crced; rw [List.length_append]; rfl
theorem pl_crcappend (l : List Int) (hb : ∀ x ∈ l, 0 ≤ x ∧ x ≤ 255) (hn : l.length < 100000) : crc_Append.f l = some (pl_crced l) := by
  unfold crc_Append.f
  rw [if_pos ⟨by omega, hb⟩]; rfl
theorem pl_crced_u8 (l : List Int) (hb : ∀ x ∈ l, 0 ≤ x ∧ x ≤ 255) : ∀ x ∈ pl_crced l, 0 ≤ x ∧ x ≤ 255 := by
  intro x hx
  have hm : pRem 65535 l < 65536 := pRem_lt _ (by omega)
  simp only [pl_crced, List.mem_append, List.mem_cons, List.mem_nil_iff, or_false] at hx
  rcases hx with hx | rfl | rfl
  · exact hb x hx
  · omega
  · omega
theorem pl_crced_rem (l : List Int) : pRem 65535 (pl_crced l) = 0 := by
  have hm : pRem 65535 l < 65536 := pRem_lt _ (by omega)
  unfold pl_crced
  rw [pRem_append]
  show pBy (pBy (pRem 65535 l) (((pRem 65535 l % 256 : Nat) : Int)).toNat) (((pRem 65535 l / 256 : Nat) : Int)).toNat = 0
  rw [Int.toNat_natCast, Int.toNat_natCast]
  exact pBy_join hm

theorem pl_crced_take (l : List Int) (hb : ∀ x ∈ l, 0 ≤ x ∧ x ≤ 255) (h : 2 ≤ l.length) (h0 : pRem 65535 l = 0) : pl_crced (l.take (l.length - 2)) = l := by
  have hm : pRem 65535 (l.take (l.length - 2)) < 65536 := pRem_lt _ (by omega)
  have h2 := pRem_two l h
  have h3 := split_two l h
  have hx := hb (l[l.length - 2]'(by omega)) (List.getElem_mem _)
  have hy := hb (l[l.length - 1]'(by omega)) (List.getElem_mem _)
  rw [getD_at l _ (by omega), getD_at l _ (by omega)] at h2 h3
  rw [h0] at h2
  have h4 := (pBy_two hm (by omega) (by omega)).1 h2.symm
  generalize l[l.length - 2]'(by omega) = x at *
  generalize l[l.length - 1]'(by omega) = y at *
  refine Eq.trans ?_ h3.symm
  unfold pl_crced
  generalize pRem 65535 (l.take (l.length - 2)) = m at *
  rw [show ((m % 256 : Nat) : Int) = x by omega, show ((m / 256 : Nat) : Int) = y by omega]

theorem pl_crctable (b : Nat) (hb : b < 256) : crc_Table.f (b : Int) = some ((pBy 0 b : Nat) : Int) := by
  unfold crc_Table.f
  rw [if_pos (by omega), Int.toNat_natCast]
theorem pl_crcupdate (c b : Nat) (hc : c < 65536) (hb : b < 256) : crc_Update.f (c : Int) (b : Int) = some ((pBy c b : Nat) : Int) := by
  unfold crc_Update.f
  rw [if_pos (by omega), Int.toNat_natCast, Int.toNat_natCast]

theorem pl_sure04 (k : Nat) (hk : 60 ≤ k) : bilgelaw04_sure.f k = some true := at_rounds bilgelaw04_sure.mono hk (by decide +kernel)

theorem pl_bytes_l (a b : List Int) (hl : a.length = b.length) (hn : a.length < 9223372036854775807) : ∀ (d k i : Nat), i + d = a.length → d < k → a.take i = b.take i →
    bilgeref01_Bytes.l0 k a b i = some (decide (a = b)) := by
  intro d
  induction d with
  | zero =>
    intro k i hi hk ht
    obtain ⟨k, rfl⟩ : ∃ m, k = m + 1 := ⟨k - 1, by omega⟩
    simp only [bilgeref01_Bytes.l0]
    rw [if_neg (by omega)]
    have : a = b := by
      rw [List.take_of_length_le (by omega), List.take_of_length_le (by omega)] at ht; exact ht
    simp [this]
  | succ d ih =>
    intro k i hi hk ht
    obtain ⟨k, rfl⟩ : ∃ m, k = m + 1 := ⟨k - 1, by omega⟩
    simp only [bilgeref01_Bytes.l0]
    rw [if_pos (by omega), if_pos (by omega), if_pos (by omega), pl_rd_nat, pl_rd_nat, getD_at _ _ (by omega), getD_at _ _ (by omega), pl_w64 (by omega)]
    by_cases e : a[i] = b[i]
    · rw [if_pos e]
      exact ih k (i + 1) (by omega) (by omega) (by rw [take_snoc a i (by omega), take_snoc b i (by omega), ht, e])
    · rw [if_neg e]
      have : a ≠ b := by rintro rfl; exact e rfl
      simp [this]
theorem pl_bytes (a b : List Int) (hn : a.length < 9223372036854775807) (k : Nat) (hk : a.length < k) : bilgeref01_Bytes.f k a b = some (decide (a = b)) := by
  unfold bilgeref01_Bytes.f
  by_cases hl : a.length = b.length
  · rw [if_pos (by omega)]
    exact pl_bytes_l a b hl hn a.length k 0 (by omega) hk rfl
  · rw [if_neg (by omega)]
    have : a ≠ b := by rintro rfl; exact hl rfl
    simp [this]

theorem pl_pbyte (r b : Nat) (hr : r < 65536) (hb : b < 256) : poly_Byte.f (r : Int) (b : Int) = some ((pBy r b : Nat) : Int) := by
  unfold poly_Byte.f
  rw [if_pos (by omega), Int.toNat_natCast, Int.toNat_natCast]

theorem pl_u8n {l : List Int} (h : ∀ x ∈ l, (Lit.int .u8 x).wf = true) : ∀ x ∈ l, 0 ≤ x ∧ x ≤ 255 := fun x hx => wf_u8 (h x hx)
theorem pl_prem_l (l : List Int) (hb : ∀ x ∈ l, 0 ≤ x ∧ x ≤ 255) (hn : l.length < 100000) (r : Nat) (hr : r < 65536) : ∀ (d k i : Nat), i + d = l.length → d < k →
    poly_Rem.l0 k (pRem r (l.take i) : Nat) l (l.length : Int) i = some ((pRem r l : Nat) : Int) := by
  intro d
  induction d with
  | zero =>
    intro k i hi hk
    obtain ⟨k, rfl⟩ : ∃ m, k = m + 1 := ⟨k - 1, by omega⟩
    simp only [poly_Rem.l0]
    rw [if_neg (by omega), List.take_of_length_le (by omega)]
  | succ d ih =>
    intro k i hi hk
    obtain ⟨k, rfl⟩ : ∃ m, k = m + 1 := ⟨k - 1, by omega⟩
    simp only [poly_Rem.l0]
    have hx := hb (l[i]'(by omega)) (List.getElem_mem _)
    obtain ⟨x, he⟩ := Int.eq_ofNat_of_zero_le hx.1
    rw [if_pos (by omega), if_pos (by omega), if_pos (by omega), pl_rd_nat, getD_at _ _ (by omega), he]
    have hstep := pl_pbyte (pRem r (l.take i)) x (pRem_lt _ hr) (by omega)
    refine pl_bind hstep ?_
    have e : pBy (pRem r (l.take i)) x = pRem r (l.take (i + 1)) := by
      rw [take_snoc l i (by omega), pRem_snoc, he, Int.toNat_natCast]
    rw [e, pl_w64 (by omega)]
    exact ih k (i + 1) (by omega) (by omega)
theorem pl_prem (l : List Int) (hb : ∀ x ∈ l, 0 ≤ x ∧ x ≤ 255) (hn : l.length < 100000) (r : Nat) (hr : r < 65536) (k : Nat) (hk : l.length < k) : poly_Rem.f k (r : Int) l = some ((pRem r l : Nat) : Int) := by
  unfold poly_Rem.f
  exact pl_prem_l l hb hn r hr l.length k 0 (by omega) hk

theorem pl_back1 (k : Nat) (hk : 800 < k) (l : List Int) (hb : ∀ x ∈ l, 0 ≤ x ∧ x ≤ 255) (hn : l.length ≤ 600) : bilgelaw04_CrcBack.j1 k l false = some true := by
  obtain ⟨k, rfl⟩ : ∃ m, k = m + 1 := ⟨k - 1, by omega⟩
  simp only [bilgelaw04_CrcBack.j1]
  rw [if_neg (by decide)]
  refine pl_bind (pl_crcstrip l hb (by omega)) ?_
  have hno : ∀ n : Int, n ≠ 0 → ¬ (2 ≤ l.length ∧ pRem 65535 l = 0) → (if (([], n) : List Int × Int).2 = 0 then (crc_Append.f (([], n) : List Int × Int).1).bind fun t165 => (bilgeref01_Bytes.f k t165 l).bind fun t168 => if t168 = true then (bilgelaw04_sure.f k).bind fun t169 => some t169 else some false else (crc_Check.f l).bind fun t170 => if t170 = true then some false else (bilgelaw04_sure.f k).bind fun t171 => some t171) = some true := by
    intro n hn0 hc
    rw [if_neg hn0]
    refine pl_bind (pl_crccheck l hb) ?_
    rw [if_neg (by rw [decide_eq_true_eq]; exact hc)]
    exact pl_bind (pl_sure04 k (by omega)) rfl
  by_cases h2 : l.length < 2
  · rw [if_pos h2]
    exact hno 12 (by decide) (by omega)
  · by_cases hz : pRem 65535 l = 0
    · rw [if_neg h2, if_pos hz, if_pos rfl]
      refine pl_bind (pl_crcappend _ (fun x hx => hb x (List.mem_of_mem_take hx)) (by rw [List.length_take]; omega)) ?_
      rw [pl_crced_take l hb (by omega) hz]
      refine pl_bind (pl_bytes l l (by omega) k (by omega)) ?_
      rw [if_pos (by simp)]
      exact pl_bind (pl_sure04 k (by omega)) rfl
    · rw [if_neg h2, if_neg hz]
      exact hno 14 (by decide) (fun h => hz h.2)
theorem pl_back0 (l : List Int) (hb : ∀ x ∈ l, 0 ≤ x ∧ x ≤ 255) (hn : l.length ≤ 600) : ∀ (d k i : Nat), i + d = l.length → d + 900 < k →
    bilgelaw04_CrcBack.l0 k l (pl_crced l) (pRem 65535 (l.take i) : Nat) i = some true := by
  intro d
  induction d with
  | zero =>
    intro k i hi hk
    obtain ⟨k, rfl⟩ : ∃ m, k = m + 1 := ⟨k - 1, by omega⟩
    simp only [bilgelaw04_CrcBack.l0]
    rw [if_neg (by omega), List.take_of_length_le (by omega)]
    refine pl_bind (pl_crccheck _ (pl_crced_u8 l hb)) ?_
    rw [if_pos (by rw [decide_eq_true_eq, pl_crced_len, pl_crced_rem]; exact ⟨by omega, rfl⟩)]
    refine pl_bind (pl_crcsum _ (pl_crced_u8 l hb)) ?_
    rw [pl_crced_rem, if_pos (show ((0 : Nat) : Int) = 0 from rfl)]
    refine pl_bind (pl_crcsum l hb) ?_
    rw [if_pos rfl]
    refine pl_bind (pl_prem l hb (by omega) 65535 (by omega) k (by omega)) ?_
    rw [bne_self_eq_false]
    exact pl_back1 k (by omega) l hb hn
  | succ d ih =>
    intro k i hi hk
    obtain ⟨k, rfl⟩ : ∃ m, k = m + 1 := ⟨k - 1, by omega⟩
    simp only [bilgelaw04_CrcBack.l0]
    have hx := hb (l[i]'(by omega)) (List.getElem_mem _)
    obtain ⟨x, he⟩ := Int.eq_ofNat_of_zero_le hx.1
    rw [if_pos (by omega), if_pos (by omega), pl_rd_nat, getD_at _ _ (by omega), he]
    refine pl_bind (pl_crcupdate (pRem 65535 (l.take i)) x (pRem_lt _ (by omega)) (by omega)) ?_
    have e : pBy (pRem 65535 (l.take i)) x = pRem 65535 (l.take (i + 1)) := by
      rw [take_snoc l i (by omega), pRem_snoc, he, Int.toNat_natCast]
    rw [e, pl_w64 (by omega)]
    exact ih k (i + 1) (by omega) (by omega)
theorem CrcBack : bilgelaw04_CrcBack.Pure := by
  intro l hl _ hb
  have hb := pl_u8c hb
  obtain ⟨K, hK⟩ : ∃ K : Nat, 3000 ≤ K := ⟨3000, by omega⟩
  refine ⟨K, ?_⟩
  unfold bilgelaw04_CrcBack.f
  by_cases hs : l.length > 600
  · rw [if_pos (by omega)]; exact pl_bind (pl_sure04 K (by omega)) rfl
  · rw [if_neg (by omega)]
    refine pl_bind (pl_crcappend l hb (by omega)) ?_
    exact pl_back0 l hb (by omega) l.length K 0 (by omega) (by omega)

end Go.Proofs.Ytbaodollggbcoaa.Pure

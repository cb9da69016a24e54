-- Written by a program of this session, in the form of the kit's print, some functions by hand (N.B. not a file of print.sh's).
import Derived.Test.YtbaodollggbcoaaPAduHurtx0
import Derived.Test.YtbaodollggbcoaaPAduHurtx1
import Derived.Test.YtbaodollggbcoaaPAduHurtx2
import Derived.Test.YtbaodollggbcoaaPAduHurtx5
import Derived.Test.YtbaodollggbcoaaPAduHurtx7
import Derived.Test.YtbaodollggbcoaaPAduHurtx8
import Derived.Test.YtbaodollggbcoaaPAduHurtx9
import Derived.Test.YtbaodollggbcoaaPAduHurtx10
import Derived.Test.YtbaodollggbcoaaPAduHurtx11
import Derived.Test.YtbaodollggbcoaaPAduHurtx12
import Derived.Test.YtbaodollggbcoaaPAduHurtx14
namespace Go.Proofs.Ytbaodollggbcoaa.PAduHurt
open Go.RowKit Go.Proofs.YtbaodollggbcoaaW.PrintWords Go.Proofs.YtbaodollggbcoaaW.PrintLast Go.Proofs.YtbaodollggbcoaaW.PrintMore Go.Proofs.YtbaodollggbcoaaM
attribute [local go_sem] max2_int min2_int max_two min_two max_three min_three max_four min_four   -- for this text's walks alone
set_option linter.unusedVariables false
set_option linter.unusedSimpArgs false

/-! ### bilgelaw11_AduHurt: function 12 (by hand) -/
theorem l4_app (l : List Int) (hb : ∀ x ∈ l, 0 ≤ x ∧ x ≤ 255) (hn : l.length < 100000) : ∃ x, crc_Append.f l = some x ∧ x.length = l.length + 2 ∧ (∀ y ∈ x, 0 ≤ y ∧ y ≤ 255) ∧ pRem 65535 x = 0 := by
  have hm : pRem 65535 l < 65536 := pRem_lt _ (by omega)
  refine ⟨l ++ [((pRem 65535 l % 256 : Nat) : Int), ((pRem 65535 l / 256 : Nat) : Int)], ?_, by rw [List.length_append]; rfl, ?_, ?_⟩
  · unfold crc_Append.f
    rw [if_pos ⟨by omega, hb⟩]
  · intro x hx
    simp only [List.mem_append, List.mem_cons, List.mem_nil_iff, or_false] at hx
    rcases hx with hx | rfl | rfl
    · exact hb x hx
    · omega
    · omega
  · rw [pRem_append]
    show pBy (pBy (pRem 65535 l) (((pRem 65535 l % 256 : Nat) : Int)).toNat) (((pRem 65535 l / 256 : Nat) : Int)).toNat = 0
    rw [Int.toNat_natCast, Int.toNat_natCast]
    exact pBy_join hm
theorem l4_check (l : List Int) (hb : ∀ x ∈ l, 0 ≤ x ∧ x ≤ 255) : crc_Check.f l = some (decide (2 ≤ l.length ∧ pRem 65535 l = 0)) := by
  unfold crc_Check.f crc_Sum.f
  by_cases h : 2 ≤ l.length
  · rw [if_pos (by omega), if_pos hb]
    refine congrArg some ?_
    rw [Bool.eq_iff_iff]
    simp only [beq_iff_eq, decide_eq_true_eq]
    omega
  · rw [if_neg (by omega)]
    refine congrArg some ?_
    rw [eq_comm, decide_eq_false_iff_not]
    omega
theorem l4_flip (l : List Int) (k : Nat) (hb : ∀ x ∈ l, 0 ≤ x ∧ x ≤ 255) (hn : l.length < 100000) (hk : k < 1000000) : bilgeref04_Flip.f l (k : Int) = some (if k / 8 < l.length then flipB l k else l) := by
  have w : ∀ i : Int, -9223372036854775808 ≤ i ∧ i ≤ 9223372036854775807 → wrap64 i = i := fun i h => by unfold wrap64; omega
  unfold bilgeref04_Flip.f
  rw [Option.bind_some, if_pos (by rw [List.length_nil]; omega), List.nil_append, Option.bind_some]
  have e1 : Int.tdiv (k : Int) 8 = ((k / 8 : Nat) : Int) := by rw [Int.tdiv_eq_ediv_of_nonneg (by omega)]; omega
  have e2 : Int.tmod (k : Int) 8 = ((k % 8 : Nat) : Int) := by rw [Int.tmod_eq_emod_of_nonneg (by omega)]; omega
  rw [if_pos (by omega), e1, e2, w _ (by omega)]
  by_cases h : k / 8 < l.length
  · have hx := hb _ (List.getElem_mem h)
    have es : shl .u8 1 ((k % 8 : Nat) : Int) = ((2 ^ (k % 8) : Nat) : Int) := by
      have : k % 8 < 8 := by omega
      generalize k % 8 = j at *
      match j, this with
      | 0, _ | 1, _ | 2, _ | 3, _ | 4, _ | 5, _ | 6, _ | 7, _ => rfl
      | j + 8, h => omega
    have ex : Go.bits .xor .u8 (rd l ((k / 8 : Nat) : Int)) ((2 ^ (k % 8) : Nat) : Int) = (((l.getD (k / 8) 0).toNat ^^^ 2 ^ (k % 8) : Nat) : Int) := by
      have e3 : rd l ((k / 8 : Nat) : Int) = ((l.getD (k / 8) 0).toNat : Int) := by
        rw [show rd l ((k / 8 : Nat) : Int) = l.getD (k / 8) 0 by unfold rd; rw [Int.toNat_natCast], getD_at l _ h]; omega
      rw [e3]
      exact u8_xor_nat _ _ (by rw [getD_at l _ h]; omega) (by have := Nat.pow_lt_pow_right (a := 2) (by omega) (show k % 8 < 8 by omega); omega)
    rw [if_pos (by omega), if_pos (by omega), if_pos (by omega), if_pos h, es, ex, Int.toNat_natCast]
    rfl
  · rw [if_neg (by omega), if_neg h]
theorem l4_bytes_l (a b : List Int) (hl : a.length = b.length) (hn : a.length < 100000) : ∀ (d k i : Nat), i + d = a.length → d < k → a.take i = b.take i →
    bilgeref01_Bytes.l0 k a b i = some (decide (a = b)) := by
  have w : ∀ i : Int, -9223372036854775808 ≤ i ∧ i ≤ 9223372036854775807 → wrap64 i = i := fun i h => by unfold wrap64; omega
  have rn : ∀ (l : List Int) (i : Nat), rd l (i : Int) = l.getD i 0 := fun l i => by simp [rd]
  intro d
  induction d with
  | zero =>
    intro k i hi hk ht
    obtain ⟨k, rfl⟩ : ∃ m, k = m + 1 := ⟨k - 1, by omega⟩
    simp only [bilgeref01_Bytes.l0]
    rw [if_neg (by omega)]
    have : a = b := by
      rw [List.take_of_length_le (by omega), List.take_of_length_le (by omega)] at ht; exact ht
    simp [this]
  | succ d ih =>
    intro k i hi hk ht
    obtain ⟨k, rfl⟩ : ∃ m, k = m + 1 := ⟨k - 1, by omega⟩
    simp only [bilgeref01_Bytes.l0]
    rw [if_pos (by omega), if_pos (by omega), if_pos (by omega), rn, rn, getD_at _ _ (by omega), getD_at _ _ (by omega), w _ (by omega)]
    by_cases e : a[i] = b[i]
    · rw [if_pos e]
      exact ih k (i + 1) (by omega) (by omega) (by rw [take_snoc a i (by omega), take_snoc b i (by omega), ht, e])
    · rw [if_neg e]
      have : a ≠ b := by rintro rfl; exact e rfl
      simp [this]
theorem l4_bytes (a b : List Int) (hn : a.length < 100000) (k : Nat) (hk : a.length < k) : bilgeref01_Bytes.f k a b = some (decide (a = b)) := by
  unfold bilgeref01_Bytes.f
  by_cases hl : a.length = b.length
  · rw [if_pos (by omega)]
    exact l4_bytes_l a b hl hn a.length k 0 (by omega) hk rfl
  · rw [if_neg (by omega)]
    have : a ≠ b := by rintro rfl; exact hl rfl
    simp [this]
theorem l4_same {x y : List Int} {e : List Bool} (hl : y.length = x.length) (hx : ∀ z ∈ x, 0 ≤ z ∧ z ≤ 255) (hy : ∀ z ∈ y, 0 ≤ z ∧ z ≤ 255) (hel : e.length = (bitsOf x).length) (h : bitsOf y = List.zipWith xor (bitsOf x) e) : x = y ↔ e.count true = 0 := by
  constructor
  · rintro rfl
    rw [List.count_eq_zero]
    intro hm
    obtain ⟨j, hj, he⟩ := List.getElem_of_mem hm
    have h2 := congrArg (fun z => z.getD j false) h
    simp only [getD_zip _ _ hel.symm] at h2
    have h3 : e.getD j false = true := by rw [List.getD_eq_getElem?_getD, List.getElem?_eq_getElem hj, he]; rfl
    rw [h3] at h2
    simp at h2
  · intro hc
    have h1 := count_zero_rep hc
    rw [h1, hel, zip_none] at h
    exact (bitsOf_inj hl hy hx h).symm
/-- What a burst of t from q on has turned, its first i bits. -/
theorem l4_step {e : List Bool} {N q i t : Nat} (he : ∀ j < N, e.getD j false = (decide (q ≤ j ∧ j < q + i) && t.testBit (j - q))) (hel : e.length = N) (h : t.testBit i = true → q + i < N) :
    ∀ j < N, (if t.testBit i = true then tog e (q + i) else e).getD j false = (decide (q ≤ j ∧ j < q + (i + 1)) && t.testBit (j - q)) := by
  intro j hj
  by_cases ht : t.testBit i = true
  · rw [if_pos ht, getD_tog _ _ _ (by rw [hel]; exact h ht), he j hj]
    by_cases hji : j = q + i
    · subst hji
      rw [decide_eq_false (by omega), decide_eq_true (show q ≤ q + i ∧ q + i < q + (i + 1) by omega), decide_eq_true rfl, show q + i - q = i by omega, ht]; rfl
    · rw [decide_eq_false hji, Bool.xor_false]
      have : decide (q ≤ j ∧ j < q + i) = decide (q ≤ j ∧ j < q + (i + 1)) := by rw [Bool.eq_iff_iff]; simp only [decide_eq_true_eq]; omega
      rw [this]
  · rw [if_neg ht, he j hj]
    by_cases hji : j = q + i
    · subst hji
      rw [decide_eq_false (show ¬ (q ≤ q + i ∧ q + i < q + i) by omega), show q + i - q = i by omega]
      simp [ht]
    · have : decide (q ≤ j ∧ j < q + i) = decide (q ≤ j ∧ j < q + (i + 1)) := by rw [Bool.eq_iff_iff]; simp only [decide_eq_true_eq]; omega
      rw [this]
theorem l4_step_out {e : List Bool} {N q i t : Nat} (he : ∀ j < N, e.getD j false = (decide (q ≤ j ∧ j < q + i) && t.testBit (j - q))) (h : N ≤ q + i) :
    ∀ j < N, e.getD j false = (decide (q ≤ j ∧ j < q + (i + 1)) && t.testBit (j - q)) := by
  intro j hj
  rw [he j hj]
  have : decide (q ≤ j ∧ j < q + i) = decide (q ≤ j ∧ j < q + (i + 1)) := by rw [Bool.eq_iff_iff]; simp only [decide_eq_true_eq]; omega
  rw [this]
theorem l4_within {e : List Bool} {N q t : Nat} (he : ∀ j < N, e.getD j false = (decide (q ≤ j ∧ j < q + 16) && t.testBit (j - q))) (hel : e.length = N) : pBits 0 e = 0 ↔ e.count true = 0 := by
  constructor
  · refine burst_left e q (fun j hj => ?_)
    by_cases hjN : j < N
    · rw [he j hjN] at hj
      simp only [Bool.and_eq_true, decide_eq_true_eq] at hj
      exact hj.1
    · rw [List.getD_eq_getElem?_getD, List.getElem?_eq_none (by omega)] at hj
      cases hj
  · intro h
    exact (pBits_zeros h (by omega)).2 rfl
theorem l11_wrap (s : Int) (l : List Int) (hs : 0 ≤ s ∧ s ≤ 255) (hb : ∀ x ∈ l, 0 ≤ x ∧ x ≤ 255) :
    (∃ n : Int, adu_Wrap.f 1 s l = some ([], n) ∧ n ≠ 0 ∧ (l.length = 0 ∨ 253 < l.length)) ∨
    (∃ x, adu_Wrap.f 1 s l = some (x, 0) ∧ x.length = l.length + 3 ∧ 0 < l.length ∧ l.length ≤ 253 ∧ (∀ y ∈ x, 0 ≤ y ∧ y ≤ 255) ∧ pRem 65535 x = 0) := by
  have e0 : adu_Wrap.f 1 s l = adu_Wrap.j0 1 s l false := by
    unfold adu_Wrap.f
    rw [if_neg (by omega), show decide (s > 255) = false by rw [decide_eq_false_iff_not]; omega]
  rw [e0]
  simp only [adu_Wrap.j0]
  rw [if_neg (by decide)]
  by_cases h2 : l.length = 0
  · rw [if_pos (by omega)]
    exact Or.inl ⟨12, rfl, by decide, Or.inl h2⟩
  · rw [if_neg (by omega)]
    by_cases h3 : 253 < l.length
    · rw [if_pos (by omega)]
      exact Or.inl ⟨13, rfl, by decide, Or.inr h3⟩
    · rw [if_neg (by omega)]
      have hj : adu_joined.f [[s % 256], l] = some (s :: l) := by
        unfold adu_joined.f
        have e : [[s % 256], l].flatten = s :: l := by rw [show s % 256 = s by omega]; simp
        rw [e, if_pos (by rw [List.length_cons]; omega)]
      have hc : ∀ x ∈ s :: l, 0 ≤ x ∧ x ≤ 255 := by
        intro x hx
        rcases List.mem_cons.1 hx with rfl | h
        · exact hs
        · exact hb x h
      obtain ⟨x, h1, h4, h5, h6⟩ := l4_app (s :: l) hc (by rw [List.length_cons]; omega)
      refine Or.inr ⟨x, ?_, by rw [h4, List.length_cons], by omega, by omega, h5, h6⟩
      rw [hj, Option.bind_some, h1, Option.bind_some]
theorem l11_open (l : List Int) (hb : ∀ x ∈ l, 0 ≤ x ∧ x ≤ 255) (h1 : 4 ≤ l.length) (h2 : l.length ≤ 256) : ∃ r1 r2, adu_Open.f l = some (r1, r2, if pRem 65535 l = 0 then 0 else 14) := by
  have w : ∀ i : Int, -9223372036854775808 ≤ i ∧ i ≤ 9223372036854775807 → wrap64 i = i := fun i h => by unfold wrap64; omega
  unfold adu_Open.f crc_Strip.f
  rw [if_neg (by omega), if_neg (by omega), if_neg (by omega), l4_check l hb, Option.bind_some]
  by_cases hz : pRem 65535 l = 0
  · rw [if_pos (by rw [decide_eq_true_eq]; exact ⟨by omega, hz⟩), if_pos hz, Option.bind_some, w _ (by omega), if_pos (by omega), if_pos (by omega), if_pos (by rw [List.length_take, List.length_nil]; omega), Option.bind_some, if_pos rfl, List.nil_append]
    have hl : (l.take ((l.length : Int) - 2).toNat).length = l.length - 2 := by rw [List.length_take]; omega
    show ∃ r1 r2, (if 0 < ((l.take ((l.length : Int) - 2).toNat).length : Int) then (if 1 ≤ ((l.take ((l.length : Int) - 2).toNat).length : Int) then (adu_joined.f [(l.take ((l.length : Int) - 2).toNat).drop 1]).bind fun t140 => some (wrap64 (rd (l.take ((l.length : Int) - 2).toNat) 0), t140, 0) else none) else none) = some (r1, r2, 0)
    rw [if_pos (by omega), if_pos (by omega)]
    have hj : adu_joined.f [(l.take ((l.length : Int) - 2).toNat).drop 1] = some ((l.take ((l.length : Int) - 2).toNat).drop 1) := by
      unfold adu_joined.f
      have e : [(l.take ((l.length : Int) - 2).toNat).drop 1].flatten = (l.take ((l.length : Int) - 2).toNat).drop 1 := by simp
      rw [e, if_pos (by rw [List.length_drop]; omega)]
    rw [hj]
    exact ⟨_, _, rfl⟩
  · rw [if_neg (by rw [decide_eq_true_eq]; exact fun h => hz h.2), if_neg hz, Option.bind_some, if_neg (by decide)]
    exact ⟨_, _, rfl⟩
theorem l11_two {x : List Int} {M N q q1 : Nat} (hx0 : pRem 65535 x = 0) (hb : ∀ z ∈ x, 0 ≤ z ∧ z ≤ 255) (hM : x.length = M) (hN : N = 8 * M) (hM2 : M ≤ 256) (hq : q < N) (hq1 : q1 < N) :
    pRem 65535 (flipB x q) ≠ 0 ∧ (pRem 65535 (flipB (flipB x q) q1) = 0 ↔ flipB (flipB x q) q1 = x) := by
  have hbl : (bitsOf x).length = N := by rw [bitsOf_len, hM, hN]
  have hrl : (List.replicate N false).length = N := List.length_replicate ..
  have hr0 : ∀ j, (List.replicate N false).getD j false = false := fun j => by rw [List.getD_eq_getElem?_getD, List.getElem?_replicate]; split <;> rfl
  have h1l : (flipB x q).length = M := by rw [flipB_len, hM]
  have b1 : bitsOf (flipB x q) = List.zipWith xor (bitsOf x) (tog (List.replicate N false) q) := by
    rw [bits_flip x q (by omega), ← zip_tog _ _ _ (by rw [hbl, hrl]) (by rw [hrl]; exact hq)]
    rw [show N = (bitsOf x).length from hbl.symm, zip_none]
  have t1l : (tog (List.replicate N false) q).length = N := by rw [tog_len, hrl]
  have c1 : (tog (List.replicate N false) q).count true = 1 := by rw [count_tog _ q (by rw [hrl]; exact hq) (hr0 q), List.count_replicate]; rfl
  have b2 : bitsOf (flipB (flipB x q) q1) = List.zipWith xor (bitsOf x) (tog (tog (List.replicate N false) q) q1) := by
    rw [bits_flip _ q1 (by omega), b1, zip_tog _ _ _ (by rw [hbl, t1l]) (by rw [t1l]; exact hq1)]
  have t2l : (tog (tog (List.replicate N false) q) q1).length = N := by rw [tog_len, t1l]
  have r1 := pRem_turned hx0 (by rw [t1l, hbl]) b1
  have r2 := pRem_turned hx0 (by rw [t2l, hbl]) b2
  have u1 := flipB_u8 x q hb (by omega)
  have u2 := flipB_u8 (flipB x q) q1 u1 (by omega)
  have sm := l4_same (x := x) (y := flipB (flipB x q) q1) (by rw [flipB_len, flipB_len]) hb u2 (by rw [t2l, hbl]) b2
  refine ⟨by rw [r1]; exact odd_left (by rw [c1]), ?_⟩
  rw [r2, eq_comm (a := flipB (flipB x q) q1), sm]
  have g1 : ∀ j, (tog (List.replicate N false) q).getD j false = decide (j = q) := fun j => by rw [getD_tog _ _ _ (by rw [hrl]; exact hq), hr0, Bool.false_xor]
  by_cases h : q1 = q
  · have c2 : (tog (tog (List.replicate N false) q) q1).count true = 0 := by
      rw [List.count_eq_zero]
      intro hm
      obtain ⟨j, hj, he⟩ := List.getElem_of_mem hm
      have h3 : (tog (tog (List.replicate N false) q) q1).getD j false = true := by rw [List.getD_eq_getElem?_getD, List.getElem?_eq_getElem hj, he]; rfl
      rw [getD_tog _ _ _ (by rw [t1l]; exact hq1), g1, h, Bool.xor_self] at h3
      cases h3
    exact ⟨fun _ => c2, fun _ => (pBits_zeros c2 (by omega)).2 rfl⟩
  · have c2 : (tog (tog (List.replicate N false) q) q1).count true = 2 := by
      rw [count_tog _ q1 (by rw [t1l]; exact hq1) (by rw [g1, decide_eq_false h]), c1]
    exact ⟨fun h0 => absurd h0 (two_left _ (by rw [t2l]; omega) c2), fun h0 => by rw [c2] at h0; cases h0⟩
def bilgelaw11_AduHurt.f (k : Nat) (a0 : Int) (l1 : List Int) (a2_0 a2_1 a2_2 : Int) : Option Bool := if (0 ≤ a0 ∧ a0 ≤ 255) ∧ (∀ x ∈ l1, 0 ≤ x ∧ x ≤ 255) ∧ (0 ≤ a2_0 ∧ a2_0 ≤ 65535) ∧ (0 ≤ a2_1 ∧ a2_1 ≤ 65535) ∧ (0 ≤ a2_2 ∧ a2_2 ≤ 65535) ∧ bilgelaw11_sure.f k = some true then some true else none
set_option maxRecDepth 100000 in
theorem bilgelaw11_AduHurt.calls (k : Nat) (a0 : Int) (A1 : Option Addr) (c1 : Nat) (l1 : List Int) (a2_0 a2_1 a2_2 : Int) (r : Bool) (w : World) (hr1 : Kd.C (Kd.int .u8) w A1 l1.length l1) (hc1 : l1.length ≤ c1) (h : bilgelaw11_AduHurt.f k a0 l1 a2_0 a2_1 a2_2 = some r) :
    Calls Try.prog 12 #[.int .u8 a0, .slice A1 l1.length c1, .agg #[.int .u16 a2_0, .int .u16 a2_1, .int .u16 a2_2]] w fun e w' => e = .returned (.bool r) ∧ Below w.heap.size w w' := by
  unfold bilgelaw11_AduHurt.f at h
  split at h
  case isFalse => cases h
  case isTrue hyp =>
  obtain rfl := Option.some.inj h
  obtain ⟨h0, hb1, hf0, hf1, hf2, hs⟩ := hyp
  obtain ⟨f0, rfl⟩ := Int.eq_ofNat_of_zero_le hf0.1
  obtain ⟨f1, rfl⟩ := Int.eq_ofNat_of_zero_le hf1.1
  obtain ⟨t, rfl⟩ := Int.eq_ofNat_of_zero_le hf2.1
  have hn0 : f0 ≤ 65535 := by omega
  have hn1 : f1 ≤ 65535 := by omega
  have ht : t ≤ 65535 := by omega
  have HS := Aside0.mk hs
  have HR1 := Aside0.mk hr1
  have HC1 := Aside0.mk hc1
  have hw0 : ∀ z : Int, 0 ≤ z ∧ z ≤ 255 → wrap64 z = z := fun z h => by unfold wrap64; omega
  clear h hs hr1 hc1 hf0 hf1 hf2
  have sure : ∀ W : World, Calls Try.prog 51 #[] W fun e w' => e = .returned (.bool true) ∧ Below W.heap.size W w' := fun W => bilgelaw11_sure.calls k true W HS.out
  have HV : ∀ (W : World), Kd.C (Kd.int .u8) W A1 l1.length l1 → Kd.V (Kd.int .u8) 5 W W.heap.size (fun k_ => k_ < W.heap.size) (.slice A1 l1.length c1) l1 := fun W hC => Kd.V_mk HC1.out (Kd.C_F (Kd.heap_int .u8) hC)
  rcases l11_wrap a0 l1 h0 hb1 with ⟨n, hx, hn, hlen⟩ | ⟨x, hx, hxl, hl0, hl1, hxb, hx0⟩
  · have HX := Aside0.mk hx
    have d1 : (n != 0) = true := bne_iff_ne.2 hn
    have d1d : decide (n = 0) = false := decide_eq_false hn
    have d1e : (n == 0) = false := beq_eq_false_iff_ne.2 hn
    have call := fun (W : World) (hC : Kd.C (Kd.int .u8) W A1 l1.length l1) => adu_Wrap.calls 1 a0 (fun k_ => k_ < W.heap.size) A1 c1 l1 [] n W (HV W hC) HX.out
    have hg0 : ∀ W : World, Below w.heap.size w (w.alloc (.cells #[.int .u16 (f0 : Int), .int .u16 (f1 : Int), .int .u16 (t : Int)] 97)) := fun _ => (Below.refl _ _).alloc (Nat.le_refl _) _
    by_cases hz : l1.length = 0
    · have z1 : l1 = [] := List.eq_nil_of_length_eq_zero hz
      subst z1
      clear hx hn hlen hz
      go_enter Try.func12, Try.ntmps12
      go_wp2_with (first | (go_at_call 52; refine (call _ (Kd.C_alloc HR1.out _)).mono ?_; rintro e w1 ⟨v1, rfl, _, hg⟩; have HB1 := Aside0.mk ((hg0 w).trans (hg.mono (by simp))); clear hg) | (go_at_call 51; refine (sure _).mono ?_; rintro e w2 ⟨rfl, hg⟩; have HB2 := Aside0.mk (HB1.out.trans (hg.mono HB1.out.size)); clear hg))
      go_ret
      exact ⟨rfl, HB2.out⟩
    · have z1 : ((l1.length : Int) == 0) = false := by rw [beq_eq_false_iff_ne]; omega
      have z2 : decide ((253 : Int) < (l1.length : Int)) = true := decide_eq_true (by omega)
      have z3 : decide (253 < l1.length) = true := decide_eq_true (by omega)
      clear hx hn hlen hz
      go_enter Try.func12, Try.ntmps12
      go_wp2_with (first | (go_at_call 52; refine (call _ (Kd.C_alloc HR1.out _)).mono ?_; rintro e w1 ⟨v1, rfl, _, hg⟩; have HB1 := Aside0.mk ((hg0 w).trans (hg.mono (by simp))); clear hg) | (go_at_call 51; refine (sure _).mono ?_; rintro e w2 ⟨rfl, hg⟩; have HB2 := Aside0.mk (HB1.out.trans (hg.mono HB1.out.size)); clear hg))
      go_ret
      exact ⟨rfl, HB2.out⟩
  · have HX := Aside0.mk hx
    have HX0 := Aside0.mk hx0
    have HXB := Aside0.mk hxb
    have hg0 : Below w.heap.size w (w.alloc (.cells #[.int .u16 (f0 : Int), .int .u16 (f1 : Int), .int .u16 (t : Int)] 97)) := (Below.refl _ _).alloc (Nat.le_refl _) _
    have HG0 := Aside0.mk hg0
    have call := fun (W : World) (hC : Kd.C (Kd.int .u8) W A1 l1.length l1) => adu_Wrap.calls 1 a0 (fun k_ => k_ < W.heap.size) A1 c1 l1 x 0 W (HV W hC) HX.out
    obtain ⟨M, hM⟩ : ∃ M : Nat, x.length = M := ⟨_, rfl⟩
    have hM2 : 4 ≤ M ∧ M ≤ 256 := by omega
    have HM := Aside0.mk hM
    obtain ⟨N, hN⟩ : ∃ N : Nat, N = 8 * M := ⟨_, rfl⟩
    have hN2 : 32 ≤ N ∧ N ≤ 2048 := by omega
    have HN := Aside0.mk hN
    have e0 : (8 : Int) * (M : Int) = (N : Int) := by omega
    have hwf : ∀ f : Nat, f ≤ 65535 → wrap64 (f : Int) = (f : Int) := fun f h => by unfold wrap64; omega
    have hj0 : f0 % N < N := Nat.mod_lt _ (by omega)
    have hj1 : f1 % N < N := Nat.mod_lt _ (by omega)
    have hm0 : Int.tmod (f0 : Int) (N : Int) = ((f0 % N : Nat) : Int) := by rw [Int.tmod_eq_emod_of_nonneg (by omega)]; rfl
    have hm1 : Int.tmod (f1 : Int) (N : Int) = ((f1 % N : Nat) : Int) := by rw [Int.tmod_eq_emod_of_nonneg (by omega)]; rfl
    have hN0 : ¬ (N : Int) = 0 := by omega
    generalize f0 % N = q at *
    generalize f1 % N = q1 at *
    have HJ0 := Aside0.mk hj0
    have HJ1 := Aside0.mk hj1
    have d4 : decide ((M : Int) < 4) = false := decide_eq_false (by omega)
    clear hx hx0 hxb hxl hl0 hl1 hN hg0 hb1
    go_enter Try.func12, Try.ntmps12
    go_wp2_with (go_at_call 52; refine (call _ (Kd.C_alloc HR1.out _)).mono ?_)
    rintro e w1 ⟨v1, rfl, hr, hg⟩
    have HG := Aside0.mk (HG0.out.trans (hg.mono (by simp)))
    have HGA := Aside0.mk hg
    obtain ⟨A7, c7, rfl, hc7, hC7⟩ := Kd.R_reads hr
    rw [HM.out] at hc7 hC7 ⊢
    have HC7 := Aside0.mk hC7
    clear hr hg hC7 hM
    have flipc : ∀ (W : World) (A : Option Addr) (c : Nat) (y : List Int) (j : Nat), y.length = M → (∀ z ∈ y, 0 ≤ z ∧ z ≤ 255) → M ≤ c → Kd.C (Kd.int .u8) W A M y → j < 1000000 →
        Calls Try.prog 17 #[.slice A M c, .int .i64 (j : Int)] W fun e w' => ∃ B d, e = .returned (.slice B M d) ∧ M ≤ d ∧ Aside0 (Kd.C (Kd.int .u8) w' B M (if j / 8 < M then flipB y j else y)) ∧ Below W.heap.size W w' := by
      intro W A c y j hl hb hc hC hj
      have hlen : (if j / 8 < y.length then flipB y j else y).length = M := by split; rw [flipB_len, hl]; exact hl
      have h := bilgeref04_Flip.calls A c y (j : Int) (if j / 8 < y.length then flipB y j else y) W (by rw [hl]; exact hC) (by rw [hl]; exact hc) (l4_flip y j hb (by rw [hl]; omega) hj)
      rw [hl] at h hlen
      refine h.mono ?_
      rintro e w' ⟨v, rfl, hr, hb2⟩
      obtain ⟨B, d, rfl, h1, h2⟩ := Kd.R_reads hr
      rw [hlen] at h1 h2 ⊢
      exact ⟨B, d, rfl, h1, ⟨h2⟩, hb2⟩
    have openc : ∀ (W : World) (A : Option Addr) (c : Nat) (y : List Int) (n : Int), y.length = M → (∀ z ∈ y, 0 ≤ z ∧ z ≤ 255) → M ≤ c → Kd.C (Kd.int .u8) W A M y → n = (if pRem 65535 y = 0 then 0 else 14) →
        Calls Try.prog 54 #[.slice A M c] W fun e w' => ∃ (r1 : Int) (v : Value), e = .returned (.tuple #[.int .i64 r1, v, .int .i64 n]) ∧ Below W.heap.size W w' := by
      intro W A c y n hl hb hc hC hn
      subst hn
      obtain ⟨r1, r2, ho⟩ := l11_open y hb (by omega) (by omega)
      have h := adu_Open.calls A c y r1 r2 _ W (by rw [hl]; exact hC) (by rw [hl]; exact hc) ho
      rw [hl] at h
      refine h.mono ?_
      rintro e w' ⟨v, rfl, _, hb2⟩
      exact ⟨r1, v, rfl, hb2⟩
    have bytesc : ∀ (W : World) (A : Option Addr) (c : Nat) (y : List Int) (b : Bool), y.length = M → M ≤ c → Kd.C (Kd.int .u8) W A M y → Kd.C (Kd.int .u8) W A7 M x → decide (y = x) = b →
        Calls Try.prog 19 #[.slice A M c, .slice A7 M c7] W fun e w' => e = .returned (.bool b) ∧ Below W.heap.size W w' := by
      intro W A c y b hl hc hC hX hb
      have h := bilgeref01_Bytes.calls 1000 A c y A7 c7 x b W (by rw [hl]; exact hC) (by rw [hl]; exact hc) (by rw [HM.out]; exact hX) (by rw [HM.out]; exact hc7) (by rw [l4_bytes y x (by omega) 1000 (by omega), hb])
      rw [hl, HM.out] at h
      refine h.mono ?_
      rintro e w' ⟨rfl, hd⟩
      exact ⟨rfl, hd.below⟩
    have FLIP := Aside0.mk flipc
    have OPEN := Aside0.mk openc
    have BYTES := Aside0.mk bytesc
    clear flipc openc bytesc
    have hq8 : q / 8 < M := by have := HN.out; omega
    have hq18 : q1 / 8 < M := by have := HN.out; omega
    have hone := Aside0.mk (show (flipB x q).length = M ∧ (∀ z ∈ flipB x q, 0 ≤ z ∧ z ≤ 255) from ⟨by rw [flipB_len, HM.out], flipB_u8 x q HXB.out (by rw [HM.out]; exact hq8)⟩)
    have htwo := Aside0.mk (show (flipB (flipB x q) q1).length = M ∧ (∀ z ∈ flipB (flipB x q) q1, 0 ≤ z ∧ z ≤ 255) from ⟨by rw [flipB_len]; exact hone.out.1, flipB_u8 _ q1 hone.out.2 (by rw [hone.out.1]; exact hq18)⟩)
    have HQB := Aside0.mk (show q < 1000000 ∧ q1 < 1000000 by omega)
    have HC7M := Aside0.mk hc7
    have HQ8 := Aside0.mk hq8
    have HQ18 := Aside0.mk hq18
    clear hq8 hq18 call
    have hbox := Aside0.mk ((HGA.out.block w.heap.size (by simp)).trans (blk_new w _))
    have hb0 := blk_cell hbox.out 0
    go_wp2_with fail
    refine (FLIP.out w1 A7 c7 x q HM.out HXB.out HC7M.out HC7.out HQB.out.1).mono ?_
    rintro e w2 ⟨B1, d1, rfl, hd1, HCA, hg2⟩
    rw [if_pos HQ8.out] at HCA
    have HB2 := Aside0.mk hg2
    have HD1 := Aside0.mk hd1
    clear hg2 hb0
    have hbox2 := Aside0.mk ((HB2.out.block w.heap.size (blk_lt hbox.out)).trans hbox.out)
    have hb1 := blk_cell hbox2.out 1
    go_wp2_with fail
    refine (FLIP.out w2 B1 d1 (flipB x q) q1 hone.out.1 hone.out.2 HD1.out HCA.out HQB.out.2).mono ?_
    rintro e w3 ⟨B2, d2, rfl, hd2, HCB, hg3⟩
    rw [if_pos HQ18.out] at HCB
    have HCA3 := Aside0.mk (Kd.C_below HCA.out hg3)
    have HB3 := Aside0.mk (HB2.out.trans (hg3.mono HB2.out.size))
    have hbox3 := Aside0.mk ((hg3.block w.heap.size (blk_lt hbox2.out)).trans hbox2.out)
    have HX3 := Aside0.mk (Kd.C_below HC7.out HB3.out)
    have HD2 := Aside0.mk hd2
    have hmq : (f0 : Int) % (N : Int) = (q : Int) := by rw [← hm0, Int.tmod_eq_emod_of_nonneg (Int.natCast_nonneg _)]
    clear hg3 hb1 hwf hw0 hm1
    go_wp2
    go_loopw [13, 12] (fun v13 v12 wr => ∃ (i : Nat) (A6 : Option Addr) (c6 : Nat), i ≤ 16 ∧ v13 = .int .i64 i ∧ v12 = .slice A6 M c6 ∧ Aside0 (M ≤ c6) ∧ Aside0 (∃ y e, Kd.C (Kd.int .u8) wr A6 M y ∧ y.length = M ∧ (∀ z ∈ y, 0 ≤ z ∧ z ≤ 255) ∧ bitsOf y = List.zipWith xor (bitsOf x) e ∧ e.length = N ∧ ∀ j < N, e.getD j false = (decide (q ≤ j ∧ j < q + i) && t.testBit (j - q))) ∧ Aside0 (Below w3.heap.size w3 wr)) (fun v13 _ _ => 16 - (intOf v13).toNat)
    case atStart =>
      refine ⟨0, A7, c7, Nat.zero_le _, rfl, rfl, HC7M, ⟨x, List.replicate N false, HX3.out, HM.out, HXB.out, ?_, List.length_replicate .., fun j hj => ?_⟩, ⟨Below.refl _ _⟩⟩
      · rw [show N = (bitsOf x).length by rw [bitsOf_len, HM.out, HN.out], zip_none]
      · rw [decide_eq_false (by omega), List.getD_eq_getElem?_getD, List.getElem?_replicate]; split <;> rfl
    case round =>
      obtain ⟨i, A6, c6, hi, rfl, rfl, HC6M, ⟨y, e, hC6, hyl, hyb, hbit, hel, heb⟩, HB⟩ := hrel
      have HC6 := Aside0.mk hC6
      have HYL := Aside0.mk hyl
      have HYB := Aside0.mk hyb
      have HBIT := Aside0.mk hbit
      have HEL := Aside0.mk hel
      have HEB := Aside0.mk heb
      clear hC6 hyl hyb hbit hel heb
      have hboxr := Aside0.mk ((HB.out.block w.heap.size (blk_lt hbox3.out)).trans hbox3.out)
      by_cases hlt : i < 16
      · have hb0 := blk_cell hboxr.out 0
        have hb2 := blk_cell hboxr.out 2
        have htb : (Int.tmod ((t : Int) / 2 ^ i) 2 == 1) = t.testBit i := by
          have e1 : (t : Int) / 2 ^ i = ((t / 2 ^ i : Nat) : Int) := by simp
          rw [e1, Int.tmod_eq_emod_of_nonneg (Int.natCast_nonneg _), Nat.testBit_eq_decide_div_mod_eq, Bool.eq_iff_iff]
          simp only [beq_iff_eq, decide_eq_true_eq]
          omega
        by_cases ht1 : t.testBit i = true
        · rw [ht1] at htb
          have HT1 := Aside0.mk ht1
          clear ht1
          have HQI := Aside0.mk (show q + i < 1000000 by have := HQB.out.1; omega)
          go_wp2_with fail
          rw [show (q : Int) + (i : Int) = ((q + i : Nat) : Int) by omega]
          refine (FLIP.out wr A6 c6 y (q + i) HYL.out HYB.out HC6M.out HC6.out HQI.out).mono ?_
          rintro e4 w4 ⟨B4, c4, rfl, hc4, HC4, hb4⟩
          have HC4M := Aside0.mk hc4
          have HB4 := Aside0.mk (HB.out.trans (hb4.mono HB.out.size))
          clear hc4 hb4 hb0 hb2
          go_wp2
          go_roundw
          case rel =>
            by_cases hin : (q + i) / 8 < M
            · have hR := HC4.out
              rw [if_pos hin] at hR
              have hk8 : (q + i) / 8 < y.length := by rw [HYL.out]; exact hin
              have hin2 : q + i < N := by have := HN.out; omega
              have hs := l4_step HEB.out HEL.out (fun _ => hin2)
              rw [if_pos HT1.out] at hs
              refine ⟨i + 1, B4, c4, by omega, by go_num, rfl, HC4M, ⟨flipB y (q + i), tog e (q + i), hR, by rw [flipB_len]; exact HYL.out, flipB_u8 y _ HYB.out hk8, ?_, by rw [tog_len]; exact HEL.out, hs⟩, HB4⟩
              rw [bits_flip y _ hk8, HBIT.out, zip_tog _ _ _ (by rw [bitsOf_len, HM.out, HEL.out, HN.out]) (by rw [HEL.out]; exact hin2)]
            · have hR := HC4.out
              rw [if_neg hin] at hR
              exact ⟨i + 1, B4, c4, by omega, by go_num, rfl, HC4M, ⟨y, e, hR, HYL.out, HYB.out, HBIT.out, HEL.out, l4_step_out HEB.out (by have := HN.out; omega)⟩, HB4⟩
          case measure => simp [intOf]; omega
        · have ht2 : t.testBit i = false := by simpa using ht1
          rw [ht2] at htb
          have HT1 := Aside0.mk ht1
          clear ht1 ht2
          go_wp2
          go_roundw
          case rel =>
            have hs := l4_step HEB.out HEL.out (fun h => absurd h HT1.out)
            rw [if_neg HT1.out] at hs
            exact ⟨i + 1, A6, c6, by omega, by go_num, rfl, HC6M, ⟨y, e, HC6.out, HYL.out, HYB.out, HBIT.out, HEL.out, hs⟩, HB⟩
          case measure => simp [intOf]; omega
      · have : i = 16 := by omega
        subst this
        have HK : pRem 65535 y = pBits 0 e := pRem_turned HX0.out (by rw [HEL.out, bitsOf_len, HM.out, HN.out]) HBIT.out
        have hw := l4_within HEB.out HEL.out
        have hsm := l4_same (by rw [HYL.out, HM.out]) HXB.out HYB.out (by rw [HEL.out, bitsOf_len, HM.out, HN.out]) HBIT.out
        have hby : pRem 65535 y = 0 ↔ y = x := by rw [HK, hw, eq_comm (a := y), hsm]
        obtain ⟨h1ne, h2eq⟩ := l11_two HX0.out HXB.out HM.out HN.out (by omega) HJ0.out HJ1.out
        obtain ⟨bt, hbt⟩ : ∃ b : Bool, decide (flipB (flipB x q) q1 = x) = b := ⟨_, rfl⟩
        obtain ⟨bb, hbb⟩ : ∃ b : Bool, decide (y = x) = b := ⟨_, rfl⟩
        have HBT := Aside0.mk hbt
        have HBB := Aside0.mk hbb
        have n1 : (14 : Int) = (if pRem 65535 (flipB x q) = 0 then 0 else 14) := by rw [if_neg h1ne]
        have n2 : (if bt = true then (0 : Int) else 14) = (if pRem 65535 (flipB (flipB x q) q1) = 0 then 0 else 14) := by
          cases bt
          · rw [if_neg (by decide), if_neg (fun h => by simp at hbt; exact hbt (h2eq.1 h))]
          · rw [if_pos rfl, if_pos (h2eq.2 (by simpa using hbt))]
        have n3 : (if bb = true then (0 : Int) else 14) = (if pRem 65535 y = 0 then 0 else 14) := by
          cases bb
          · rw [if_neg (by decide), if_neg (fun h => by simp at hbb; exact hbb (hby.1 h))]
          · rw [if_pos rfl, if_pos (hby.2 (by simpa using hbb))]
        have N1 := Aside0.mk n1
        have N2 := Aside0.mk n2
        have N3 := Aside0.mk n3
        clear HK hw hsm hby h1ne h2eq hbt hbb n1 n2 n3
        cases bt <;> cases bb
        all_goals
          go_wp2_with fail
          refine (OPEN.out wr B1 d1 (flipB x q) 14 hone.out.1 hone.out.2 HD1.out (Kd.C_below HCA3.out HB.out) N1.out).mono ?_
          rintro e5 w5 ⟨r5, v5, rfl, hg5⟩
          have BW5 := Aside0.mk hg5
          have HB5 := Aside0.mk (HB.out.trans (hg5.mono HB.out.size))
          clear hg5
          go_wp2_with fail
          refine (OPEN.out w5 B2 d2 (flipB (flipB x q) q1) _ htwo.out.1 htwo.out.2 HD2.out (Kd.C_below HCB.out HB5.out) N2.out).mono ?_
          rintro e6 w6 ⟨r6, v6, rfl, hg6⟩
          have BW6 := Aside0.mk (BW5.out.trans (hg6.mono BW5.out.size))
          have HB6 := Aside0.mk (HB5.out.trans (hg6.mono HB5.out.size))
          clear hg6
          go_wp2_with fail
          refine (OPEN.out w6 A6 c6 y _ HYL.out HYB.out HC6M.out (Kd.C_below HC6.out BW6.out) N3.out).mono ?_
          rintro e7 w7 ⟨r7, v7, rfl, hg7⟩
          have BW7 := Aside0.mk (BW6.out.trans (hg7.mono BW6.out.size))
          have HB7 := Aside0.mk (HB6.out.trans (hg7.mono HB6.out.size))
          clear hg7
          have HBF := Aside0.mk (HG.out.trans (HB3.out.mono HG.out.size))
          go_wp2_with fail
          refine (BYTES.out w7 B2 d2 (flipB (flipB x q) q1) _ htwo.out.1 HD2.out (Kd.C_below HCB.out HB7.out) (Kd.C_below HX3.out HB7.out) HBT.out).mono ?_
          rintro e8 w8 ⟨rfl, hg8⟩
          have BW8 := Aside0.mk (BW7.out.trans (hg8.mono BW7.out.size))
          have HB8 := Aside0.mk (HB7.out.trans (hg8.mono HB7.out.size))
          clear hg8
          go_wp2_with fail
          refine (BYTES.out w8 A6 c6 y _ HYL.out HC6M.out (Kd.C_below HC6.out BW8.out) (Kd.C_below HX3.out HB8.out) HBB.out).mono ?_
          rintro e9 w9 ⟨rfl, hg9⟩
          have HB9 := Aside0.mk (HB8.out.trans (hg9.mono HB8.out.size))
          clear hg9
          go_wp2_with fail
          refine (sure w9).mono ?_
          rintro e10 w10 ⟨rfl, hg10⟩
          have HB10 := Aside0.mk (HB9.out.trans (hg10.mono HB9.out.size))
          clear hg10
          go_wp2
          go_ret
          exact ⟨rfl, HBF.out.trans (HB10.out.mono HBF.out.size)⟩
def bilgelaw11_AduHurt.Pure : Prop := ∀ (x0 : Int) (x1 : List Int) (x2 : S97), ((Lit.int .u8 x0).wf = true) → (x1.length ≤ maxLen ∧ x1.length * 1 ≤ 140737488351232 ∧ ∀ y_0 ∈ x1, (Lit.int .u8 y_0).wf = true) → (((Lit.int .u16 x2.f0).wf = true) ∧ ((Lit.int .u16 x2.f1).wf = true) ∧ (Lit.int .u16 x2.f2).wf = true) → ∃ k, bilgelaw11_AduHurt.f k x0 x1 x2.f0 x2.f1 x2.f2 = some true

end Go.Proofs.Ytbaodollggbcoaa.PAduHurt

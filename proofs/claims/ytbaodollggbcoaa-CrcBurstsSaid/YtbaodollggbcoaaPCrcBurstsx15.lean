-- Written by a program of this session, in the form of the kit's print, some functions by hand (N.B. not a file of print.sh's).
import Derived.Test.YtbaodollggbcoaaPCrcBurstsx0
import Derived.Test.YtbaodollggbcoaaPCrcBurstsx3
import Derived.Test.YtbaodollggbcoaaPCrcBurstsx5
import Derived.Test.YtbaodollggbcoaaPCrcBurstsx6
import Derived.Test.YtbaodollggbcoaaPCrcBurstsx7
import Derived.Test.YtbaodollggbcoaaPCrcBurstsx13
import Derived.Test.YtbaodollggbcoaaPCrcBurstsx14
namespace Go.Proofs.Ytbaodollggbcoaa.PCrcBursts
open Go.RowKit Go.Proofs.YtbaodollggbcoaaW.PrintWords Go.Proofs.YtbaodollggbcoaaW.PrintLast Go.Proofs.YtbaodollggbcoaaW.PrintMore Go.Proofs.YtbaodollggbcoaaM
attribute [local go_sem] max2_int min2_int max_two min_two max_three min_three max_four min_four   -- for this text's walks alone
set_option linter.unusedVariables false
set_option linter.unusedSimpArgs false

/-! ### bilgelaw04_CrcBursts: function 4 (by hand) -/
theorem l4_app (l : List Int) (hb : ∀ x ∈ l, 0 ≤ x ∧ x ≤ 255) (hn : l.length < 100000) : ∃ x, crc_Append.f l = some x ∧ x.length = l.length + 2 ∧ (∀ y ∈ x, 0 ≤ y ∧ y ≤ 255) ∧ pRem 65535 x = 0 := by
  have hm : pRem 65535 l < 65536 := pRem_lt _ (by omega)
  refine ⟨l ++ [((pRem 65535 l % 256 : Nat) : Int), ((pRem 65535 l / 256 : Nat) : Int)], ?_, by rw [List.length_append]; rfl, ?_, ?_⟩
  · unfold crc_Append.f
    rw [if_pos ⟨by omega, hb⟩]
  · intro x hx
    simp only [List.mem_append, List.mem_cons, List.mem_nil_iff, or_false] at hx
    rcases hx with hx | rfl | rfl
    · exact hb x hx
    · omega
    · omega
  · rw [pRem_append]
    show pBy (pBy (pRem 65535 l) (((pRem 65535 l % 256 : Nat) : Int)).toNat) (((pRem 65535 l / 256 : Nat) : Int)).toNat = 0
    rw [Int.toNat_natCast, Int.toNat_natCast]
    exact pBy_join hm
theorem l4_check (l : List Int) (hb : ∀ x ∈ l, 0 ≤ x ∧ x ≤ 255) : crc_Check.f l = some (decide (2 ≤ l.length ∧ pRem 65535 l = 0)) := by
  unfold crc_Check.f crc_Sum.f
  by_cases h : 2 ≤ l.length
  · rw [if_pos (by omega), if_pos hb]
    refine congrArg some ?_
    rw [Bool.eq_iff_iff]
    simp only [beq_iff_eq, decide_eq_true_eq]
    omega
  · rw [if_neg (by omega)]
    refine congrArg some ?_
    rw [eq_comm, decide_eq_false_iff_not]
    omega
theorem l4_flip (l : List Int) (k : Nat) (hb : ∀ x ∈ l, 0 ≤ x ∧ x ≤ 255) (hn : l.length < 100000) (hk : k < 1000000) : bilgeref04_Flip.f l (k : Int) = some (if k / 8 < l.length then flipB l k else l) := by
  have w : ∀ i : Int, -9223372036854775808 ≤ i ∧ i ≤ 9223372036854775807 → wrap64 i = i := fun i h => by unfold wrap64; omega
  unfold bilgeref04_Flip.f
  rw [Option.bind_some, if_pos (by rw [List.length_nil]; omega), List.nil_append, Option.bind_some]
  have e1 : Int.tdiv (k : Int) 8 = ((k / 8 : Nat) : Int) := by rw [Int.tdiv_eq_ediv_of_nonneg (by omega)]; omega
  have e2 : Int.tmod (k : Int) 8 = ((k % 8 : Nat) : Int) := by rw [Int.tmod_eq_emod_of_nonneg (by omega)]; omega
  rw [if_pos (by omega), e1, e2, w _ (by omega)]
  by_cases h : k / 8 < l.length
  · have hx := hb _ (List.getElem_mem h)
    have es : shl .u8 1 ((k % 8 : Nat) : Int) = ((2 ^ (k % 8) : Nat) : Int) := by
      have : k % 8 < 8 := by omega
      generalize k % 8 = j at *
      match j, this with
      | 0, _ | 1, _ | 2, _ | 3, _ | 4, _ | 5, _ | 6, _ | 7, _ => rfl
      | j + 8, h => omega
    have ex : Go.bits .xor .u8 (rd l ((k / 8 : Nat) : Int)) ((2 ^ (k % 8) : Nat) : Int) = (((l.getD (k / 8) 0).toNat ^^^ 2 ^ (k % 8) : Nat) : Int) := by
      have e3 : rd l ((k / 8 : Nat) : Int) = ((l.getD (k / 8) 0).toNat : Int) := by
        rw [show rd l ((k / 8 : Nat) : Int) = l.getD (k / 8) 0 by unfold rd; rw [Int.toNat_natCast], getD_at l _ h]; omega
      rw [e3]
      exact u8_xor_nat _ _ (by rw [getD_at l _ h]; omega) (by have := Nat.pow_lt_pow_right (a := 2) (by omega) (show k % 8 < 8 by omega); omega)
    rw [if_pos (by omega), if_pos (by omega), if_pos (by omega), if_pos h, es, ex, Int.toNat_natCast]
    rfl
  · rw [if_neg (by omega), if_neg h]
theorem l4_bytes_l (a b : List Int) (hl : a.length = b.length) (hn : a.length < 100000) : ∀ (d k i : Nat), i + d = a.length → d < k → a.take i = b.take i →
    bilgeref01_Bytes.l0 k a b i = some (decide (a = b)) := by
  have w : ∀ i : Int, -9223372036854775808 ≤ i ∧ i ≤ 9223372036854775807 → wrap64 i = i := fun i h => by unfold wrap64; omega
  have rn : ∀ (l : List Int) (i : Nat), rd l (i : Int) = l.getD i 0 := fun l i => by simp [rd]
  intro d
  induction d with
  | zero =>
    intro k i hi hk ht
    obtain ⟨k, rfl⟩ : ∃ m, k = m + 1 := ⟨k - 1, by omega⟩
    simp only [bilgeref01_Bytes.l0]
    rw [if_neg (by omega)]
    have : a = b := by
      rw [List.take_of_length_le (by omega), List.take_of_length_le (by omega)] at ht; exact ht
    simp [this]
  | succ d ih =>
    intro k i hi hk ht
    obtain ⟨k, rfl⟩ : ∃ m, k = m + 1 := ⟨k - 1, by omega⟩
    simp only [bilgeref01_Bytes.l0]
    rw [if_pos (by omega), if_pos (by omega), if_pos (by omega), rn, rn, getD_at _ _ (by omega), getD_at _ _ (by omega), w _ (by omega)]
    by_cases e : a[i] = b[i]
    · rw [if_pos e]
      exact ih k (i + 1) (by omega) (by omega) (by rw [take_snoc a i (by omega), take_snoc b i (by omega), ht, e])
    · rw [if_neg e]
      have : a ≠ b := by rintro rfl; exact e rfl
      simp [this]
theorem l4_bytes (a b : List Int) (hn : a.length < 100000) (k : Nat) (hk : a.length < k) : bilgeref01_Bytes.f k a b = some (decide (a = b)) := by
  unfold bilgeref01_Bytes.f
  by_cases hl : a.length = b.length
  · rw [if_pos (by omega)]
    exact l4_bytes_l a b hl hn a.length k 0 (by omega) hk rfl
  · rw [if_neg (by omega)]
    have : a ≠ b := by rintro rfl; exact hl rfl
    simp [this]
theorem l4_same {x y : List Int} {e : List Bool} (hl : y.length = x.length) (hx : ∀ z ∈ x, 0 ≤ z ∧ z ≤ 255) (hy : ∀ z ∈ y, 0 ≤ z ∧ z ≤ 255) (hel : e.length = (bitsOf x).length) (h : bitsOf y = List.zipWith xor (bitsOf x) e) : x = y ↔ e.count true = 0 := by
  constructor
  · rintro rfl
    rw [List.count_eq_zero]
    intro hm
    obtain ⟨j, hj, he⟩ := List.getElem_of_mem hm
    have h2 := congrArg (fun z => z.getD j false) h
    simp only [getD_zip _ _ hel.symm] at h2
    have h3 : e.getD j false = true := by rw [List.getD_eq_getElem?_getD, List.getElem?_eq_getElem hj, he]; rfl
    rw [h3] at h2
    simp at h2
  · intro hc
    have h1 := count_zero_rep hc
    rw [h1, hel, zip_none] at h
    exact (bitsOf_inj hl hy hx h).symm
/-- What a burst of t from q on has turned, its first i bits. -/
theorem l4_step {e : List Bool} {N q i t : Nat} (he : ∀ j < N, e.getD j false = (decide (q ≤ j ∧ j < q + i) && t.testBit (j - q))) (hel : e.length = N) (h : t.testBit i = true → q + i < N) :
    ∀ j < N, (if t.testBit i = true then tog e (q + i) else e).getD j false = (decide (q ≤ j ∧ j < q + (i + 1)) && t.testBit (j - q)) := by
  intro j hj
  by_cases ht : t.testBit i = true
  · rw [if_pos ht, getD_tog _ _ _ (by rw [hel]; exact h ht), he j hj]
    by_cases hji : j = q + i
    · subst hji
      rw [decide_eq_false (by omega), decide_eq_true (show q ≤ q + i ∧ q + i < q + (i + 1) by omega), decide_eq_true rfl, show q + i - q = i by omega, ht]; rfl
    · rw [decide_eq_false hji, Bool.xor_false]
      have : decide (q ≤ j ∧ j < q + i) = decide (q ≤ j ∧ j < q + (i + 1)) := by rw [Bool.eq_iff_iff]; simp only [decide_eq_true_eq]; omega
      rw [this]
  · rw [if_neg ht, he j hj]
    by_cases hji : j = q + i
    · subst hji
      rw [decide_eq_false (show ¬ (q ≤ q + i ∧ q + i < q + i) by omega), show q + i - q = i by omega]
      simp [ht]
    · have : decide (q ≤ j ∧ j < q + i) = decide (q ≤ j ∧ j < q + (i + 1)) := by rw [Bool.eq_iff_iff]; simp only [decide_eq_true_eq]; omega
      rw [this]
theorem l4_step_out {e : List Bool} {N q i t : Nat} (he : ∀ j < N, e.getD j false = (decide (q ≤ j ∧ j < q + i) && t.testBit (j - q))) (h : N ≤ q + i) :
    ∀ j < N, e.getD j false = (decide (q ≤ j ∧ j < q + (i + 1)) && t.testBit (j - q)) := by
  intro j hj
  rw [he j hj]
  have : decide (q ≤ j ∧ j < q + i) = decide (q ≤ j ∧ j < q + (i + 1)) := by rw [Bool.eq_iff_iff]; simp only [decide_eq_true_eq]; omega
  rw [this]
theorem l4_within {e : List Bool} {N q t : Nat} (he : ∀ j < N, e.getD j false = (decide (q ≤ j ∧ j < q + 16) && t.testBit (j - q))) (hel : e.length = N) : pBits 0 e = 0 ↔ e.count true = 0 := by
  constructor
  · refine burst_left e q (fun j hj => ?_)
    by_cases hjN : j < N
    · rw [he j hjN] at hj
      simp only [Bool.and_eq_true, decide_eq_true_eq] at hj
      exact hj.1
    · rw [List.getD_eq_getElem?_getD, List.getElem?_eq_none (by omega)] at hj
      cases hj
  · intro h
    exact (pBits_zeros h (by omega)).2 rfl
def bilgelaw04_CrcBursts.f (k : Nat) (l0 : List Int) (a1 a2 : Int) : Option Bool := if (∀ x ∈ l0, 0 ≤ x ∧ x ≤ 255) ∧ (0 ≤ a1 ∧ a1 ≤ 65535) ∧ (0 ≤ a2 ∧ a2 ≤ 65535) ∧ bilgelaw04_sure.f k = some true then some true else none
set_option maxRecDepth 100000 in
theorem bilgelaw04_CrcBursts.calls (k : Nat) (A0 : Option Addr) (c0 : Nat) (l0 : List Int) (a1 a2 : Int) (r : Bool) (w : World) (hr0 : Kd.C (Kd.int .u8) w A0 l0.length l0) (hc0 : l0.length ≤ c0) (h : bilgelaw04_CrcBursts.f k l0 a1 a2 = some r) :
    Calls Try.prog 4 #[.slice A0 l0.length c0, .int .u16 a1, .int .u16 a2] w fun e w' => e = .returned (.bool r) ∧ Below w.heap.size w w' := by
  unfold bilgelaw04_CrcBursts.f at h
  split at h
  case isFalse => cases h
  case isTrue hyp =>
  obtain rfl := Option.some.inj h
  obtain ⟨hb0, hb1, hb2, hs⟩ := hyp
  obtain ⟨f, rfl⟩ := Int.eq_ofNat_of_zero_le hb1.1
  obtain ⟨t, rfl⟩ := Int.eq_ofNat_of_zero_le hb2.1
  have hf : f ≤ 65535 := by omega
  have ht : t ≤ 65535 := by omega
  have HS := Aside0.mk hs
  have HR0 := Aside0.mk hr0
  have HC0 := Aside0.mk hc0
  clear h hs hr0 hc0 hb1 hb2
  have sure : ∀ W : World, Calls Try.prog 15 #[] W fun e w' => e = .returned (.bool true) ∧ Below W.heap.size W w' := fun W => bilgelaw04_sure.calls k true W HS.out
  by_cases c1 : (400 : Int) < (l0.length : Int)
  · have d1 : decide ((400 : Int) < (l0.length : Int)) = true := decide_eq_true c1
    have d1n : decide (400 < l0.length) = true := decide_eq_true (by omega)
    go_enter Try.func4, Try.ntmps4
    go_wp2_with (go_at_call 15; refine (sure _).mono ?_; rintro e w' ⟨rfl, hg⟩; have HG := Aside0.mk hg; clear hg)
    go_ret
    exact ⟨rfl, HG.out⟩
  have d1 : decide ((400 : Int) < (l0.length : Int)) = false := decide_eq_false c1
  have d1n : decide (400 < l0.length) = false := decide_eq_false (by omega)
  obtain ⟨x, hx, hxl, hxb, hx0⟩ := l4_app l0 hb0 (by omega)
  have HX := Aside0.mk hx
  have HX0 := Aside0.mk hx0
  have HXB := Aside0.mk hxb
  have hl0 : l0.length ≤ 400 := by omega
  clear c1 hx hxb hx0 hb0
  obtain ⟨M, hM⟩ : ∃ M : Nat, x.length = M := ⟨_, rfl⟩
  have hM2 : 2 ≤ M ∧ M ≤ 402 := by omega
  have d3 : ((M : Int) != (l0.length : Int) + 2) = false := by rw [← hM, hxl]; simp
  have d3e : ((M : Int) == (l0.length : Int) + 2) = true := by rw [← hM, hxl]; simp
  have d3d : decide ((M : Int) = (l0.length : Int) + 2) = true := by rw [← hM, hxl]; simp
  have HM := Aside0.mk hM
  obtain ⟨N, hN⟩ : ∃ N : Nat, N = 8 * M := ⟨_, rfl⟩
  have hN2 : 16 ≤ N ∧ N ≤ 3216 := by omega
  have HN := Aside0.mk hN
  have e0 : (8 : Int) * (M : Int) = (N : Int) := by omega
  have hwf : wrap64 (f : Int) = (f : Int) := by unfold wrap64; omega
  have hj : f % N < N := Nat.mod_lt _ (by omega)
  have hm1 : Int.tmod (f : Int) (N : Int) = ((f % N : Nat) : Int) := by rw [Int.tmod_eq_emod_of_nonneg (by omega)]; rfl
  have hm2 : (f : Int) % (N : Int) = ((f % N : Nat) : Int) := rfl
  have hN0 : ¬ (N : Int) = 0 := by omega
  generalize f % N = q at *
  clear hxl hN
  go_enter Try.func4, Try.ntmps4
  go_wp2_with (go_at_call 16; refine (crc_Append.calls A0 c0 l0 x _ HR0.out HC0.out HX.out).mono ?_)
  rintro e w1 ⟨v5, rfl, hr, hg⟩
  obtain ⟨A5, c5, rfl, hc5, hC5⟩ := Kd.R_reads hr
  have HR5 := Aside0.mk hr
  have HG := Aside0.mk hg
  have HGS := Aside0.mk hg.size
  rw [HM.out] at HR5 hc5 hC5 ⊢
  have HC5 := Aside0.mk hC5
  clear hr hg hC5 hM
  go_wp2
  go_loopw [10, 8] (fun v10 v8 wr => ∃ i : Nat, i ≤ 16 ∧ v10 = .int .i64 i ∧ Aside0 (∃ y e, Kd.R (Kd.int .u8) 5 wr w.heap.size (fun _ => True) v8 y ∧ y.length = M ∧ (∀ z ∈ y, 0 ≤ z ∧ z ≤ 255) ∧ bitsOf y = List.zipWith xor (bitsOf x) e ∧ e.length = N ∧ ∀ j < N, e.getD j false = (decide (q ≤ j ∧ j < q + i) && t.testBit (j - q))) ∧ Aside0 (Below w1.heap.size w1 wr)) (fun v10 _ _ => 16 - (intOf v10).toNat)
  case atStart =>
    refine ⟨0, Nat.zero_le _, rfl, ⟨x, List.replicate N false, HR5.out, HM.out, HXB.out, ?_, List.length_replicate .., fun j hj => ?_⟩, ⟨Below.refl _ _⟩⟩
    · rw [show N = (bitsOf x).length by rw [bitsOf_len, HM.out, HN.out], zip_none]
    · rw [decide_eq_false (by omega), List.getD_eq_getElem?_getD, List.getElem?_replicate]; split <;> rfl
  case round =>
    obtain ⟨i, hi, rfl, ⟨y, e, hy, hyl, hyb, hbit, hel, heb⟩, HB⟩ := hrel
    have HY := Aside0.mk hy
    have HYL := Aside0.mk hyl
    have HYB := Aside0.mk hyb
    have HBIT := Aside0.mk hbit
    have HEL := Aside0.mk hel
    have HEB := Aside0.mk heb
    obtain ⟨A6, c6, rfl, hc6, hC6⟩ := Kd.R_reads hy
    rw [hyl] at hc6 hC6 HY ⊢
    have HC6 := Aside0.mk hC6
    clear hy hyl hyb hbit hel heb hC6
    by_cases hlt : i < 16
    · have htb : (Int.tmod ((t : Int) / 2 ^ i) 2 == 1) = t.testBit i := by
        have e1 : (t : Int) / 2 ^ i = ((t / 2 ^ i : Nat) : Int) := by simp
        rw [e1, Int.tmod_eq_emod_of_nonneg (Int.natCast_nonneg _), Nat.testBit_eq_decide_div_mod_eq, Bool.eq_iff_iff]
        simp only [beq_iff_eq, decide_eq_true_eq]
        omega
      by_cases ht1 : t.testBit i = true
      · rw [ht1] at htb
        have HT1 := Aside0.mk ht1
        clear ht1
        have hcall := bilgeref04_Flip.calls A6 c6 y ((q : Int) + (i : Int)) (if (q + i) / 8 < y.length then flipB y (q + i) else y) wr (by rw [HYL.out]; exact HC6.out) (by rw [HYL.out]; exact hc6) (by
            rw [show (q : Int) + (i : Int) = ((q + i : Nat) : Int) by omega]
            exact l4_flip y (q + i) HYB.out (by rw [HYL.out]; omega) (by omega))
        rw [HYL.out] at hcall
        have HCALL := Aside0.mk hcall
        clear hcall
        go_wp2_with (go_at_call 17; refine HCALL.out.mono ?_; rintro e4 w4 ⟨v4, rfl, hr4, hb4⟩; have HR4 := Aside0.mk (Kd.R_lower hr4 (Nat.le_trans HGS.out HB.out.size)); have HB4 := Aside0.mk (HB.out.trans (hb4.mono HB.out.size)); clear hr4 hb4)
        go_roundw
        case rel =>
          by_cases hin : (q + i) / 8 < M
          · have hR := HR4.out
            rw [if_pos hin] at hR
            have hk8 : (q + i) / 8 < y.length := by rw [HYL.out]; exact hin
            have hin2 : q + i < N := by have := HN.out; omega
            have hs := l4_step HEB.out HEL.out (fun _ => hin2)
            rw [if_pos HT1.out] at hs
            refine ⟨i + 1, by omega, by go_num, ⟨flipB y (q + i), tog e (q + i), hR, by rw [flipB_len]; exact HYL.out, flipB_u8 y _ HYB.out hk8, ?_, by rw [tog_len]; exact HEL.out, hs⟩, HB4⟩
            rw [bits_flip y _ hk8, HBIT.out, zip_tog _ _ _ (by rw [bitsOf_len, HM.out, HEL.out, HN.out]) (by rw [HEL.out]; exact hin2)]
          · have hR := HR4.out
            rw [if_neg hin] at hR
            exact ⟨i + 1, by omega, by go_num, ⟨y, e, hR, HYL.out, HYB.out, HBIT.out, HEL.out, l4_step_out HEB.out (by have := HN.out; omega)⟩, HB4⟩
        case measure => simp [intOf]; omega
      · have ht2 : t.testBit i = false := by simpa using ht1
        rw [ht2] at htb
        have HT1 := Aside0.mk ht1
        clear ht1 ht2
        go_wp2
        go_roundw
        case rel =>
          have hs := l4_step HEB.out HEL.out (fun h => absurd h HT1.out)
          rw [if_neg HT1.out] at hs
          exact ⟨i + 1, by omega, by go_num, ⟨y, e, HY.out, HYL.out, HYB.out, HBIT.out, HEL.out, hs⟩, HB⟩
        case measure => simp [intOf]; omega
    · have : i = 16 := by omega
      subst this
      have HK : pRem 65535 y = pBits 0 e := pRem_turned HX0.out (by rw [HEL.out, bitsOf_len, HM.out, HN.out]) HBIT.out
      have hw := l4_within HEB.out HEL.out
      have hsm := l4_same (by rw [HYL.out, HM.out]) HXB.out HYB.out (by rw [HEL.out, bitsOf_len, HM.out, HN.out]) HBIT.out
      obtain ⟨b, hb⟩ : ∃ b : Bool, decide (x = y) = b := ⟨_, rfl⟩
      have hce : crc_Check.f y = some b := by
        rw [l4_check y HYB.out, HK, ← hb]
        refine congrArg some ?_
        rw [Bool.eq_iff_iff]; simp only [decide_eq_true_eq]; rw [HYL.out, hsm, hw]; omega
      have hbe : bilgeref01_Bytes.f 1000 x y = some b := by rw [l4_bytes x y (by rw [HM.out]; omega) 1000 (by rw [HM.out]; omega), hb]
      have check := crc_Check.calls A6 c6 y b wr (by rw [HYL.out]; exact HC6.out) (by rw [HYL.out]; exact hc6) hce
      rw [HYL.out] at check
      have CHECK := Aside0.mk check
      have HBE := Aside0.mk hbe
      clear HK hw hsm hb hce hbe check
      go_wp2_with (go_at_call 18; refine CHECK.out.mono ?_)
      rintro e5 w5 ⟨rfl, hg5⟩
      have HB5 := Aside0.mk (HB.out.trans (hg5.mono HB.out.size))
      have HC6b := Aside0.mk (Kd.C_below HC6.out hg5)
      have bytes := bilgeref01_Bytes.calls 1000 A5 c5 x A6 c6 y b w5 (by rw [HM.out]; exact Kd.C_below HC5.out HB5.out) (by rw [HM.out]; exact hc5) (by rw [HYL.out]; exact HC6b.out) (by rw [HYL.out]; exact hc6) HBE.out
      rw [HYL.out, HM.out] at bytes
      have BYTES := Aside0.mk bytes
      clear hg5 bytes
      go_wp2_with (first | (go_at_call 19; refine BYTES.out.mono ?_; rintro e6 w6 ⟨rfl, hd6⟩; have HB6 := Aside0.mk (HB5.out.trans (hd6.below.mono HB5.out.size)); clear hd6) | (go_at_call 15; refine (sure _).mono ?_; rintro e7 w7 ⟨rfl, hg7⟩; have HB7 := Aside0.mk (HB6.out.trans (hg7.mono HB6.out.size)); clear hg7))
      all_goals first
        | (go_ret; exact ⟨rfl, HG.out.trans (HB7.out.mono HG.out.size)⟩)
        | trace_state

/-- THE ONE PURE STATEMENT of bilgelaw04_CrcBursts: yours. -/
def bilgelaw04_CrcBursts.Pure : Prop := ∀ (l0 : List Int) (a1 : Int) (a2 : Int), l0.length ≤ maxLen → l0.length * 1 ≤ 140737488351232 → (∀ x ∈ l0, (Lit.int .u8 x).wf = true) → (Lit.int .u16 a1).wf = true → (Lit.int .u16 a2).wf = true → ∃ k, bilgelaw04_CrcBursts.f k l0 a1 a2 = some true
theorem bilgelaw04_CrcBursts.walk (P : bilgelaw04_CrcBursts.Pure) (a0 : Option Addr) (len0 cap0 : Nat) (z0 : List Int) (a1 : Int) (a2 : Int) (w : World) (w0 : (a0 = none ∧ len0 = 0 ∧ cap0 = 0 ∧ z0 = []) ∨ ∃ x, a0 = some x ∧ len0 ≤ cap0 ∧ cap0 ≤ maxLen ∧ z0.length = cap0 ∧ (∀ i, i < z0.length → w.cell? (x.add i) = some (.int .u8 (z0.getD i 0))) ∧ ∀ n ∈ z0, (Lit.int .u8 n).wf = true) (y0 : len0 * 1 ≤ 140737488351232) (w1 : (Lit.int .u16 a1).wf = true) (w2 : (Lit.int .u16 a2).wf = true) :
    Calls Try.prog 4 #[.slice a0 len0 cap0, .int .u16 a1, .int .u16 a2] w fun e w' => e = .returned (.bool true) ∧ Below w.heap.size w w' := by
  obtain ⟨l0, rfl, hr0, hm0, hw0, hc0⟩ := ReadsInt.ofRowC w0
  obtain ⟨k, h⟩ := P l0 a1 a2 hm0 y0 hw0 w1 w2
  refine (bilgelaw04_CrcBursts.calls k _ _ l0 a1 a2 true w (Kd.C_of_reads (d := (0 : Int)) (h1 := fun _ => rfl) hr0) hc0 h).mono ?_
  rintro e w' ⟨rfl, hd⟩
  exact ⟨rfl, hd⟩

end Go.Proofs.Ytbaodollggbcoaa.PCrcBursts

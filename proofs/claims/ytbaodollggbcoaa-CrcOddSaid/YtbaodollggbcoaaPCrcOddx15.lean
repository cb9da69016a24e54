-- Written by a program of this session, in the form of the kit's print, some functions by hand (N.B. not a file of print.sh's).
import Derived.Test.YtbaodollggbcoaaPCrcOddx0
import Derived.Test.YtbaodollggbcoaaPCrcOddx3
import Derived.Test.YtbaodollggbcoaaPCrcOddx5
import Derived.Test.YtbaodollggbcoaaPCrcOddx6
import Derived.Test.YtbaodollggbcoaaPCrcOddx13
import Derived.Test.YtbaodollggbcoaaPCrcOddx14
namespace Go.Proofs.Ytbaodollggbcoaa.PCrcOdd
open Go.RowKit Go.Proofs.YtbaodollggbcoaaW.PrintWords Go.Proofs.YtbaodollggbcoaaW.PrintLast Go.Proofs.YtbaodollggbcoaaW.PrintMore Go.Proofs.YtbaodollggbcoaaM
attribute [local go_sem] max2_int min2_int max_two min_two max_three min_three max_four min_four   -- for this text's walks alone
set_option linter.unusedVariables false
set_option linter.unusedSimpArgs false

/-! ### bilgelaw04_CrcOdd: function 3 (by hand) -/
theorem l4_app (l : List Int) (hb : ∀ x ∈ l, 0 ≤ x ∧ x ≤ 255) (hn : l.length < 100000) : ∃ x, crc_Append.f l = some x ∧ x.length = l.length + 2 ∧ (∀ y ∈ x, 0 ≤ y ∧ y ≤ 255) ∧ pRem 65535 x = 0 := by
  have hm : pRem 65535 l < 65536 := pRem_lt _ (by omega)
  refine ⟨l ++ [((pRem 65535 l % 256 : Nat) : Int), ((pRem 65535 l / 256 : Nat) : Int)], ?_, by rw [List.length_append]; rfl, ?_, ?_⟩
  · unfold crc_Append.f
    rw [if_pos ⟨by omega, hb⟩]
  · intro x hx
    simp only [List.mem_append, List.mem_cons, List.mem_nil_iff, or_false] at hx
    rcases hx with hx | rfl | rfl
    · exact hb x hx
    · omega
    · omega
  · rw [pRem_append]
    show pBy (pBy (pRem 65535 l) (((pRem 65535 l % 256 : Nat) : Int)).toNat) (((pRem 65535 l / 256 : Nat) : Int)).toNat = 0
    rw [Int.toNat_natCast, Int.toNat_natCast]
    exact pBy_join hm
theorem l4_check (l : List Int) (hb : ∀ x ∈ l, 0 ≤ x ∧ x ≤ 255) : crc_Check.f l = some (decide (2 ≤ l.length ∧ pRem 65535 l = 0)) := by
  unfold crc_Check.f crc_Sum.f
  by_cases h : 2 ≤ l.length
  · rw [if_pos (by omega), if_pos hb]
    refine congrArg some ?_
    rw [Bool.eq_iff_iff]
    simp only [beq_iff_eq, decide_eq_true_eq]
    omega
  · rw [if_neg (by omega)]
    refine congrArg some ?_
    rw [eq_comm, decide_eq_false_iff_not]
    omega
theorem l4_flip (l : List Int) (k : Nat) (hb : ∀ x ∈ l, 0 ≤ x ∧ x ≤ 255) (hn : l.length < 100000) (hk : k < 1000000) : bilgeref04_Flip.f l (k : Int) = some (if k / 8 < l.length then flipB l k else l) := by
  have w : ∀ i : Int, -9223372036854775808 ≤ i ∧ i ≤ 9223372036854775807 → wrap64 i = i := fun i h => by unfold wrap64; omega
  unfold bilgeref04_Flip.f
  rw [Option.bind_some, if_pos (by rw [List.length_nil]; omega), List.nil_append, Option.bind_some]
  have e1 : Int.tdiv (k : Int) 8 = ((k / 8 : Nat) : Int) := by rw [Int.tdiv_eq_ediv_of_nonneg (by omega)]; omega
  have e2 : Int.tmod (k : Int) 8 = ((k % 8 : Nat) : Int) := by rw [Int.tmod_eq_emod_of_nonneg (by omega)]; omega
  rw [if_pos (by omega), e1, e2, w _ (by omega)]
  by_cases h : k / 8 < l.length
  · have hx := hb _ (List.getElem_mem h)
    have es : shl .u8 1 ((k % 8 : Nat) : Int) = ((2 ^ (k % 8) : Nat) : Int) := by
      have : k % 8 < 8 := by omega
      generalize k % 8 = j at *
      match j, this with
      | 0, _ | 1, _ | 2, _ | 3, _ | 4, _ | 5, _ | 6, _ | 7, _ => rfl
      | j + 8, h => omega
    have ex : Go.bits .xor .u8 (rd l ((k / 8 : Nat) : Int)) ((2 ^ (k % 8) : Nat) : Int) = (((l.getD (k / 8) 0).toNat ^^^ 2 ^ (k % 8) : Nat) : Int) := by
      have e3 : rd l ((k / 8 : Nat) : Int) = ((l.getD (k / 8) 0).toNat : Int) := by
        rw [show rd l ((k / 8 : Nat) : Int) = l.getD (k / 8) 0 by unfold rd; rw [Int.toNat_natCast], getD_at l _ h]; omega
      rw [e3]
      exact u8_xor_nat _ _ (by rw [getD_at l _ h]; omega) (by have := Nat.pow_lt_pow_right (a := 2) (by omega) (show k % 8 < 8 by omega); omega)
    rw [if_pos (by omega), if_pos (by omega), if_pos (by omega), if_pos h, es, ex, Int.toNat_natCast]
    rfl
  · rw [if_neg (by omega), if_neg h]
def bilgelaw04_CrcOdd.f (k : Nat) (l0 l1 : List Int) : Option Bool := if (∀ x ∈ l0, 0 ≤ x ∧ x ≤ 255) ∧ (∀ x ∈ l1, 0 ≤ x ∧ x ≤ 65535) ∧ bilgelaw04_sure.f k = some true then some true else none
set_option maxRecDepth 100000 in
theorem bilgelaw04_CrcOdd.calls (k : Nat) (A0 : Option Addr) (c0 : Nat) (l0 : List Int) (A1 : Option Addr) (c1 : Nat) (l1 : List Int) (r : Bool) (w : World) (hr0 : Kd.C (Kd.int .u8) w A0 l0.length l0) (hc0 : l0.length ≤ c0) (hr1 : Kd.C (Kd.int .u16) w A1 l1.length l1) (hc1 : l1.length ≤ c1) (h : bilgelaw04_CrcOdd.f k l0 l1 = some r) :
    Calls Try.prog 3 #[.slice A0 l0.length c0, .slice A1 l1.length c1] w fun e w' => e = .returned (.bool r) ∧ Below w.heap.size w w' := by
  unfold bilgelaw04_CrcOdd.f at h
  split at h
  case isFalse => cases h
  case isTrue hyp =>
  obtain rfl := Option.some.inj h
  obtain ⟨hb0, hb1, hs⟩ := hyp
  have HS := Aside0.mk hs
  have HR0 := Aside0.mk hr0
  have HR1 := Aside0.mk hr1
  have HC0 := Aside0.mk hc0
  have HB1 := Aside0.mk hb1
  clear h hs hr0 hr1 hc0 hc1
  have sure : ∀ W : World, Calls Try.prog 15 #[] W fun e w' => e = .returned (.bool true) ∧ Below W.heap.size W w' := fun W => bilgelaw04_sure.calls k true W HS.out
  by_cases c1 : (400 : Int) < (l0.length : Int)
  · have d1 : decide ((400 : Int) < (l0.length : Int)) = true := decide_eq_true c1
    have d1n : decide (400 < l0.length) = true := decide_eq_true (by omega)
    go_enter Try.func3, Try.ntmps3
    go_wp2_with (go_at_call 15; refine (sure _).mono ?_)
    rintro e w' ⟨rfl, hg⟩
    have HG := Aside0.mk hg
    clear hg
    go_wp2
    go_ret
    exact ⟨rfl, HG.out⟩
  by_cases c2 : (60 : Int) < (l1.length : Int)
  · have d1 : decide ((400 : Int) < (l0.length : Int)) = false := decide_eq_false c1
    have d1n : decide (400 < l0.length) = false := decide_eq_false (by omega)
    have d2 : decide ((60 : Int) < (l1.length : Int)) = true := decide_eq_true c2
    have d2n : decide (60 < l1.length) = true := decide_eq_true (by omega)
    go_enter Try.func3, Try.ntmps3
    go_wp2_with (go_at_call 15; refine (sure _).mono ?_)
    rintro e w' rfl hg
    have HG := Aside0.mk hg
    clear hg
    go_wp2
    go_ret
    exact ⟨rfl, HG.out⟩
  have d1 : decide ((400 : Int) < (l0.length : Int)) = false := decide_eq_false c1
  have d1n : decide (400 < l0.length) = false := decide_eq_false (by omega)
  have d2 : decide ((60 : Int) < (l1.length : Int)) = false := decide_eq_false c2
  have d2n : decide (60 < l1.length) = false := decide_eq_false (by omega)
  obtain ⟨x, hx, hxl, hxb, hx0⟩ := l4_app l0 hb0 (by omega)
  have HX := Aside0.mk hx
  have HX0 := Aside0.mk hx0
  have HXB := Aside0.mk hxb
  have hl0 : l0.length ≤ 400 := by omega
  have hl1 : l1.length ≤ 60 := by omega
  clear c1 c2 hx hxb hx0 hb0 hb1
  obtain ⟨M, hM⟩ : ∃ M : Nat, x.length = M := ⟨_, rfl⟩
  have hM2 : 2 ≤ M ∧ M ≤ 402 := by omega
  have d3 : ((M : Int) != (l0.length : Int) + 2) = false := by rw [← hM, hxl]; simp
  have d3e : ((M : Int) == (l0.length : Int) + 2) = true := by rw [← hM, hxl]; simp
  have d3d : decide ((M : Int) = (l0.length : Int) + 2) = true := by rw [← hM, hxl]; simp
  have HM := Aside0.mk hM
  obtain ⟨N, hN⟩ : ∃ N : Nat, N = 8 * M := ⟨_, rfl⟩
  have hN2 : 16 ≤ N ∧ N ≤ 3216 := by omega
  have HN := Aside0.mk hN
  have e0 : (8 : Int) * (M : Int) = (N : Int) := by omega
  have hmk : ∀ W : World, (Instr.makeSlice 26 (.int .i64 (N : Int)) (.int .i64 (N : Int))).run Try.prog W = .ok (.slice (some ⟨W.heap.size, 0, none⟩) N N) (W.alloc (.cells (madeCells #[.bool false] N) 4)) := by
    intro W
    obtain ⟨i0, hi0, hz0, hsz0, hby0⟩ := info_parts info4
    have := run_make (P := Try.prog) W 26 4 i0 (.bool false) Try.underlying26 hi0 hz0 .i64 .i64 (N : Int) (N : Int) (by omega) (by omega) (by rw [hby0]; omega) (by omega)
    rw [hsz0, Int.toNat_natCast, Nat.mul_one] at this
    exact this
  clear hxl hN
  go_enter Try.func3, Try.ntmps3
  go_wp2_with (go_at_call 16; refine (crc_Append.calls A0 c0 l0 x _ HR0.out HC0.out HX.out).mono ?_)
  rintro e w1 ⟨v5, rfl, hr, hg⟩
  obtain ⟨A5, c5, rfl, hc5, hC5⟩ := Kd.R_reads hr
  have HR5 := Aside0.mk hr
  have HG := Aside0.mk hg
  have HGS := Aside0.mk hg.size
  clear hr hg hC5
  rw [HM.out] at HR5 hc5 ⊢
  clear hM
  go_wp2
  go_loopw [9, 6, 7] (fun v9 v6 v7 wr => ∃ i n : Nat, i ≤ l1.length ∧ v9 = .int .i64 i ∧ v7 = .int .i64 n ∧ Aside0 (n ≤ i) ∧ Aside0 (∃ y e cs, Kd.R (Kd.int .u8) 5 wr w.heap.size (fun _ => True) v6 y ∧ y.length = M ∧ (∀ z ∈ y, 0 ≤ z ∧ z ≤ 255) ∧ bitsOf y = List.zipWith xor (bitsOf x) e ∧ e.length = N ∧ e.count true = n ∧ wr.heap[w1.heap.size]? = some (.cells cs 4 (0, 0)) ∧ cs.toList = e.map Value.bool) ∧ Aside0 (Below w.heap.size w wr)) (fun v9 _ _ _ => l1.length - (intOf v9).toNat)
  case atStart =>
    refine ⟨0, 0, Nat.zero_le _, rfl, rfl, ⟨Nat.le_refl _⟩, ⟨x, List.replicate N false, madeCells #[.bool false] N, Kd.R_alloc HR5.out _, HM.out, HXB.out, ?_, List.length_replicate .., by rw [List.count_replicate]; rfl, blk_new w1 _, ?_⟩, ⟨below_alloc HG.out _⟩⟩
    · rw [show N = (bitsOf x).length by rw [bitsOf_len, HM.out, HN.out], zip_none]
    · rw [List.map_replicate]
      apply List.ext_getElem
      · simp [size_madeCells]
      · intro i h1 h2
        simp [madeCells, Nat.mod_one]
  case round =>
    obtain ⟨i, n, hi, rfl, rfl, HNI, ⟨y, e, cs, hy, hyl, hyb, hbit, hel, hcnt, hcs, hct⟩, HB⟩ := hrel
    have hni : n ≤ 60 := by have := HNI.out; omega
    have HY := Aside0.mk hy
    have HYL := Aside0.mk hyl
    have HYB := Aside0.mk hyb
    have HBIT := Aside0.mk hbit
    have HEL := Aside0.mk hel
    have HCN := Aside0.mk hcnt
    have HCT := Aside0.mk hct
    obtain ⟨A6, c6, rfl, hc6, hC6⟩ := Kd.R_reads hy
    rw [hyl] at hc6 hC6 HY ⊢
    have HC6 := Aside0.mk hC6
    have HCS := Aside0.mk hcs
    clear hy hyl hyb hbit hel hcnt hct hC6 HR5 HG
    by_cases hlt : i < l1.length
    · obtain ⟨ad, e1, hx⟩ := Kd.at_int (Kd.C_below HR1.out HB.out) i (by omega) (by omega)
      cases e1
      have hq := HB1.out (l1[i]) (List.getElem_mem _)
      obtain ⟨f, hf⟩ := Int.eq_ofNat_of_zero_le hq.1
      rw [show rd l1 (i : Int) = (f : Int) by rw [show rd l1 (i : Int) = l1.getD i 0 by simp [rd], getD_at l1 i hlt, hf]] at hx
      simp only [Int.toNat_natCast] at hx
      have hwf : wrap64 (f : Int) = (f : Int) := by unfold wrap64; omega
      clear hq hf
      have hj : f % N < N := Nat.mod_lt _ (by omega)
      have hm1 : Int.tmod (f : Int) (N : Int) = ((f % N : Nat) : Int) := by rw [Int.tmod_eq_emod_of_nonneg (by omega)]; rfl
      have hm2 : (f : Int) % (N : Int) = ((f % N : Nat) : Int) := rfl
      have hN0 : ¬ (N : Int) = 0 := by omega
      generalize f % N = j at *
      have hcell := blk_cell hcs j
      have hcj : cs[j]? = some (.bool (e.getD j false)) := by
        rw [← Array.getElem?_toList, HCT.out, List.getElem?_map, List.getElem?_eq_getElem (by rw [HEL.out]; exact hj), List.getD_eq_getElem?_getD, List.getElem?_eq_getElem (by rw [HEL.out]; exact hj)]; rfl
      rw [hcj] at hcell
      have hz := blk_frozen hcs j
      have b1 : (0 : Int) ≤ (j : Int) := by omega
      have b2 : (j : Int) < (N : Int) := by omega
      have HJ := Aside0.mk hj
      clear hcs hcj
      by_cases hb : e.getD j false = true
      · rw [hb] at hcell
        go_wp2
        go_roundw
        case rel => exact ⟨i + 1, n, by omega, by go_num, rfl, ⟨by have := HNI.out; omega⟩, ⟨y, e, cs, by rw [← HYL.out] at HY ⊢; exact HY.out, HYL.out, HYB.out, HBIT.out, HEL.out, HCN.out, HCS.out, HCT.out⟩, HB⟩
        case measure => simp [intOf]; omega
      · have hb2 : e.getD j false = false := by simpa using hb
        rw [hb2] at hcell
        have HB2 := Aside0.mk hb2
        clear hb hb2
        go_wp2_with fail
        have hset := Kd.R_set HY.out HCS.out (by intro q hq; simp [Kd.int, Kd.scalar] at hq; subst hq; decide) j (.bool true)
        have HB3 := Aside0.mk (HB.out.grown (grown_set (World.grownBy.refl wr (some w1.heap.size)) j (.bool true)) HB.out.size (fun k hk => by injection hk with hk; rw [← hk]; exact HGS.out))
        have hcall := bilgeref04_Flip.calls A6 c6 y (j : Int) (flipB y j) (wr.setCell ⟨w1.heap.size, j, none⟩ (.bool true)) (by
            obtain ⟨A', c', he, _, hC⟩ := Kd.R_reads hset
            rw [HYL.out] at he
            injection he with he1 _ _
            rw [he1]; exact hC) (by rw [HYL.out]; exact hc6) (by rw [l4_flip y j HYB.out (by rw [HYL.out]; omega) (by omega), if_pos (by rw [HYL.out]; have := HN.out; have := HJ.out; omega)])
        rw [HYL.out] at hcall
        refine hcall.mono ?_
        rintro e4 w4 ⟨v4, rfl, hr4, hb4⟩
        have HR4 := Aside0.mk (Kd.R_lower hr4 HB3.out.size)
        have HB4 := Aside0.mk (HB3.out.trans (hb4.mono HB3.out.size))
        have HCS4 := Aside0.mk ((hb4.block w1.heap.size (blk_lt (set_blk HCS.out j (.bool true)))).trans (set_blk HCS.out j (.bool true)))
        clear hset hcall hr4 hb4
        go_wp2
        go_roundw
        case rel =>
          have hk8 : j / 8 < y.length := by rw [HYL.out]; have := HN.out; have := HJ.out; omega
          refine ⟨i + 1, n + 1, by omega, by go_num, by go_num, ⟨by have := HNI.out; omega⟩, ⟨flipB y j, tog e j, _, HR4.out, by rw [flipB_len]; exact HYL.out, flipB_u8 y j HYB.out hk8, ?_, by rw [tog_len]; exact HEL.out, by rw [count_tog e j (by rw [HEL.out]; exact HJ.out) HB2.out, HCN.out], HCS4.out, ?_⟩, HB4⟩
          · rw [bits_flip y j hk8, HBIT.out, zip_tog _ _ _ (by rw [bitsOf_len, HM.out, HEL.out, HN.out]) (by rw [HEL.out]; exact HJ.out)]
          · rw [Array.toList_setIfInBounds, HCT.out, ← List.map_set]
            unfold tog
            rw [HB2.out]; rfl
        case measure => simp [intOf]; omega
    · have : i = l1.length := by omega
      subst this
      have HK := Aside0.mk (show pRem 65535 y = pBits 0 e from pRem_turned HX0.out (by rw [HEL.out, bitsOf_len, HM.out, HN.out]) HBIT.out)
      have hce : crc_Check.f y = some (decide (pBits 0 e = 0)) := by
        rw [l4_check y HYB.out, HK.out]
        refine congrArg some ?_
        rw [Bool.eq_iff_iff]; simp only [decide_eq_true_eq]; rw [HYL.out]; omega
      have HCE := Aside0.mk hce
      have check : ∀ W : World, Kd.C (Kd.int .u8) W A6 M y → ∀ b : Bool, crc_Check.f y = some b → Calls Try.prog 18 #[.slice A6 M c6] W fun e w' => e = .returned (.bool b) ∧ Below W.heap.size W w' := by
        intro W hC b hb
        have := crc_Check.calls A6 c6 y b W (by rw [HYL.out]; exact hC) (by rw [HYL.out]; exact hc6) hb
        rw [HYL.out] at this
        exact this
      clear hce
      by_cases hn : n % 2 = 1 ∨ n = 2
      · have hne : pBits 0 e ≠ 0 := by
          rcases hn with h | h
          · exact odd_left (by rw [HCN.out]; exact h)
          · exact two_left e (by rw [HEL.out]; omega) (by rw [HCN.out]; exact h)
        have hcf : crc_Check.f y = some false := by rw [HCE.out, decide_eq_false hne]
        have HCF := Aside0.mk hcf
        clear hcf hne
        by_cases ho : n % 2 = 1
        · have o1 : (Int.tmod (n : Int) 2 == 1) = true := by rw [Int.tmod_eq_emod_of_nonneg (by omega), beq_iff_eq]; omega
          have o2 : ((n : Int) % 2 == 1) = true := by rw [beq_iff_eq]; omega
          clear hn ho
          go_wp2_with (first | (go_at_call 18; refine (check _ HC6.out false HCF.out).mono ?_; rintro e5 w5 ⟨rfl, hg5⟩; have HB5 := Aside0.mk (HB.out.trans (hg5.mono HB.out.size)); clear hg5) | (go_at_call 15; refine (sure _).mono ?_; rintro e6 w6 ⟨rfl, hg6⟩; have HB6 := Aside0.mk (HB5.out.trans (hg6.mono HB5.out.size)); clear hg6))
          go_ret
          exact ⟨rfl, HB6.out⟩
        · have h2 : n = 2 := by omega
          subst h2
          clear hn ho
          go_wp2_with (first | (go_at_call 18; refine (check _ HC6.out false HCF.out).mono ?_; rintro e5 w5 ⟨rfl, hg5⟩; have HB5 := Aside0.mk (HB.out.trans (hg5.mono HB.out.size)); clear hg5) | (go_at_call 15; refine (sure _).mono ?_; rintro e6 w6 ⟨rfl, hg6⟩; have HB6 := Aside0.mk (HB5.out.trans (hg6.mono HB5.out.size)); clear hg6))
          go_ret
          exact ⟨rfl, HB6.out⟩
      · have o1 : (Int.tmod (n : Int) 2 == 1) = false := by rw [Int.tmod_eq_emod_of_nonneg (by omega), beq_eq_false_iff_ne]; omega
        have o2 : ((n : Int) % 2 == 1) = false := by rw [beq_eq_false_iff_ne]; omega
        have o3 : ((n : Int) == 2) = false := by rw [beq_eq_false_iff_ne]; omega
        by_cases hz : n = 0
        · subst hz
          have hct0 : crc_Check.f y = some true := by
            rw [HCE.out, decide_eq_true ((pBits_zeros HCN.out (by omega)).2 rfl)]
          have HCF := Aside0.mk hct0
          clear hct0 hn
          go_wp2_with (first | (go_at_call 18; refine (check _ HC6.out true HCF.out).mono ?_; rintro e5 w5 ⟨rfl, hg5⟩; have HB5 := Aside0.mk (HB.out.trans (hg5.mono HB.out.size)); clear hg5) | (go_at_call 15; refine (sure _).mono ?_; rintro e6 w6 ⟨rfl, hg6⟩; have HB6 := Aside0.mk (HB5.out.trans (hg6.mono HB5.out.size)); clear hg6))
          go_ret
          exact ⟨rfl, HB6.out⟩
        · have z1 : decide ((0 : Int) < (n : Int)) = true := decide_eq_true (by omega)
          have z2 : decide (0 < n) = true := decide_eq_true (by omega)
          clear hn hz
          go_wp2_with (go_at_call 15; refine (sure _).mono ?_)
          rintro e6 w6 ⟨rfl, hg6⟩
          have HB6 := Aside0.mk (HB.out.trans (hg6.mono HB.out.size))
          clear hg6
          go_wp2
          go_ret
          exact ⟨rfl, HB6.out⟩

/-- THE ONE PURE STATEMENT of bilgelaw04_CrcOdd: yours. -/
def bilgelaw04_CrcOdd.Pure : Prop := ∀ (l0 : List Int) (l1 : List Int), l0.length ≤ maxLen → l0.length * 1 ≤ 140737488351232 → (∀ x ∈ l0, (Lit.int .u8 x).wf = true) → l1.length ≤ maxLen → l1.length * 2 ≤ 140737488351232 → (∀ x ∈ l1, (Lit.int .u16 x).wf = true) → ∃ k, bilgelaw04_CrcOdd.f k l0 l1 = some true
theorem bilgelaw04_CrcOdd.walk (P : bilgelaw04_CrcOdd.Pure) (a0 : Option Addr) (len0 cap0 : Nat) (z0 : List Int) (a1 : Option Addr) (len1 cap1 : Nat) (z1 : List Int) (w : World) (w0 : (a0 = none ∧ len0 = 0 ∧ cap0 = 0 ∧ z0 = []) ∨ ∃ x, a0 = some x ∧ len0 ≤ cap0 ∧ cap0 ≤ maxLen ∧ z0.length = cap0 ∧ (∀ i, i < z0.length → w.cell? (x.add i) = some (.int .u8 (z0.getD i 0))) ∧ ∀ n ∈ z0, (Lit.int .u8 n).wf = true) (y0 : len0 * 1 ≤ 140737488351232) (w1 : (a1 = none ∧ len1 = 0 ∧ cap1 = 0 ∧ z1 = []) ∨ ∃ x, a1 = some x ∧ len1 ≤ cap1 ∧ cap1 ≤ maxLen ∧ z1.length = cap1 ∧ (∀ i, i < z1.length → w.cell? (x.add i) = some (.int .u16 (z1.getD i 0))) ∧ ∀ n ∈ z1, (Lit.int .u16 n).wf = true) (y1 : len1 * 2 ≤ 140737488351232) :
    Calls Try.prog 3 #[.slice a0 len0 cap0, .slice a1 len1 cap1] w fun e w' => e = .returned (.bool true) ∧ Below w.heap.size w w' := by
  obtain ⟨l0, rfl, hr0, hm0, hw0, hc0⟩ := ReadsInt.ofRowC w0
  obtain ⟨l1, rfl, hr1, hm1, hw1, hc1⟩ := ReadsInt.ofRowC w1
  obtain ⟨k, h⟩ := P l0 l1 hm0 y0 hw0 hm1 y1 hw1
  refine (bilgelaw04_CrcOdd.calls k _ _ l0 _ _ l1 true w (Kd.C_of_reads (d := (0 : Int)) (h1 := fun _ => rfl) hr0) hc0 (Kd.C_of_reads (d := (0 : Int)) (h1 := fun _ => rfl) hr1) hc1 h).mono ?_
  rintro e w' ⟨rfl, hd⟩
  exact ⟨rfl, hd⟩

end Go.Proofs.Ytbaodollggbcoaa.PCrcOdd

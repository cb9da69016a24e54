-- Written by a program of this session, in the form of the kit's print, some functions by hand (N.B. not a file of print.sh's).
import Derived.Test.YtgagdhgjdgaeaaaPWireFaultsx0
namespace Go.Proofs.Ytgagdhgjdgaeaaa.PWireFaults
open Go.RowKit Go.Proofs.YtgagdhgjdgaeaaaW.PrintWords Go.Proofs.YtgagdhgjdgaeaaaW.PrintLast Go.Proofs.YtgagdhgjdgaeaaaW.PrintMore Go.Proofs.YtgagdhgjdgaeaaaM
attribute [local go_sem] max2_int min2_int max_two min_two max_three min_three max_four min_four   -- for this text's walks alone
set_option linter.unusedVariables false
set_option linter.unusedSimpArgs false

theorem eqA52 (d : Nat) (w : World) (x0 y0 : Int) (x1 y1 : Int) (x2 y2 : Bool) :
    (Op.equalIn (d + 2) 52 (.agg #[.int .i64 x0, .int .u8 x1, .bool x2]) (.agg #[.int .i64 y0, .int .u8 y1, .bool y2])).run Try.prog w = .ok (x0 == y0 && (x1 == y1 && (x2 == y2))) w := by
  refine eqA_of Try.underlying52 (by kernel_rfl) ?_
  refine eqf_cons (by rfl) (by go_simp; rfl) (by go_simp; rfl) (by go_simp) ?_
  refine eqf_cons (by rfl) (by go_simp; rfl) (by go_simp; rfl) (by go_simp) ?_
  exact eqf_last (by rfl) (by go_simp; rfl) (by go_simp; rfl) (by go_simp)

/-! ### word_Low: function 39 -/
def word_Low.f (a0 : Int) : Option (List Int) := some (([(Go.bits .and .u16 a0 255) % 256, (a0 / 256) % 256] : List Int))
set_option maxHeartbeats 8000000 in
set_option maxRecDepth 100000 in
theorem word_Low.calls (a0 : Int) (r : List Int) (w : World) (h : word_Low.f a0 = some r) :
    Calls Try.prog 39 #[.int .u16 a0] w fun e w' => ∃ v0_ : Value, e = .returned (v0_) ∧ Kd.R (Kd.int .u8) 5 w' w.heap.size (fun _ => True) v0_ r ∧ Below w.heap.size w w' := by
  have HB := Aside0.mk (Below.refl w.heap.size w)
  have H : (some (([(Go.bits .and .u16 a0 255) % 256, (a0 / 256) % 256] : List Int))) = some r := h
  clear h
  obtain ⟨y101, hy101⟩ : ∃ y_ : List Int, y_ = (([(Go.bits .and .u16 a0 255) % 256, (a0 / 256) % 256] : List Int)) := ⟨_, rfl⟩
  replace H : (some y101) = some r := by first | (rw [hy101]; with_reducible exact H) | (have H2_ := (Option.bind_some _ _).symm.trans H; rw [hy101]; with_reducible exact H2_) | (have H2_ := (Option.bind_some _ _).symm.trans H; with_reducible exact H2_) | with_reducible exact H | (rw [hy101]; exact H) | exact H
  have Ny101 := Aside0.mk hy101
  clear hy101
  obtain rfl := Option.some.inj H
  go_enter Try.func39, Try.ntmps39
  go_wp2_with (first | ((with_reducible refine gate_dst (N := 9) rfl ?_); refine Kd.R_lit (Kd.int .u8) _ 5 ?hg (N := 9) ?hd (xs := ([(Go.bits .and .u16 a0 255) % 256, (a0 / 256) % 256] : List Int)) (inner := [.int .u8 ((Go.bits .and .u16 a0 255) % 256), .int .u8 ((a0 / 256) % 256)]) (ok := fun _ => True) (okp := fun _ => True) ?hr ?hp (fun _ hk => hk) trivial (Below.refl _ _) (Nat.le_refl _) (by simp) ?_; (case hd => rfl); (case hg => rfl); (case hr => first | (go_simp; done) | (go_simp; rfl)); (case hp => exact (Reps.one (show Kd.M (Kd.int .u8) _ _ _ ((Go.bits .and .u16 a0 255) % 256) [.int .u8 ((Go.bits .and .u16 a0 255) % 256)] from rfl) (Reps.one (show Kd.M (Kd.int .u8) _ _ _ ((a0 / 256) % 256) [.int .u8 ((a0 / 256) % 256)] from rfl) (Reps.none _ _)))); intro v102 w2 ho3 hb hg_ hnew_; clear hg_ hnew_; (first | rw [← Ny101.out] at ho3 | (simp only [Int.reduceToNat] at ho3; rw [← Ny101.out] at ho3)); have n0_ := Aside0.mk (Kd.R_lower ho3 (below_size (by repeat (first | (with_reducible first | exact HB.out | apply below_alloc | apply pw_below_drewN | apply below_drew1) | exact HB.out)))); have n1_ := Aside0.mk (below_step (by repeat (first | (with_reducible first | exact HB.out | apply below_alloc | apply pw_below_drewN | apply below_drew1) | exact HB.out)) hb); clear HB; have HO103 := n0_; have HB := n1_; clear n0_ n1_; clear hb ho3))
  go_ret
  exact ⟨_, by first | rfl | (simp [errW_none, errW_some] <;> rfl) | (simp [*, errW_none, errW_some] <;> rfl), by (with_reducible repeat (first | apply Kd.R_alloc | apply Kd.R_drewN | apply Kd.R_drew)); exact HO103.out, by repeat (first | (with_reducible first | exact HB.out | apply below_alloc | apply pw_below_drewN | apply below_drew1) | exact HB.out)⟩

/-! ### crc_table_fill: function 50 (by hand) -/
/-- The table: what each of the first n bytes comes to. -/
def crcTab (w : World) (g n : Nat) : Prop := ∃ cs : Array Value, w.heap[g]? = some (.cells cs 82 (0, 0)) ∧ cs.size = 256 ∧ ∀ i < n, cs[i]? = some (.int .u16 (pBy 0 i : Nat))
theorem crc_pbs (k r b : Nat) : pbs (k + 1) r b = pb (pbs k r b) (b / 2 ^ k % 2) := by
  induction k generalizing r b with
  | zero => simp [pbs]
  | succ k ih =>
    rw [show pbs (k + 1 + 1) r b = pbs (k + 1) (pb r (b % 2)) (b / 2) from rfl, ih, show pbs (k + 1) r b = pbs k (pb r (b % 2)) (b / 2) from rfl, Nat.div_div_eq_div_mul, Nat.pow_succ, Nat.mul_comm 2]
theorem crc_and (r : Nat) (hr : r < 65536) : bits .and .u16 (r : Int) 1 = ((r % 2 : Nat) : Int) := by
  have := u16_and_nat r 1 hr (by omega)
  rw [Nat.and_one_is_mod] at this
  simpa using this
theorem crc_odd (r : Nat) (hr : r < 65536) (h : r % 2 = 1) : bits .xor .u16 ((r : Int) / 2) 40961 = (pb r 0 : Nat) := by
  have hy : bits .xor .u16 ((r / 2 : Nat) : Int) 40961 = ((r / 2 ^^^ 40961 : Nat) : Int) := u16_xor_nat (r / 2) 40961 (by omega) (by omega)
  rw [show (r : Int) / 2 = ((r / 2 : Nat) : Int) by omega, hy]
  unfold pb
  rw [Nat.xor_zero, if_pos h]
theorem crc_even (r : Nat) (h : ¬ r % 2 = 1) : (r : Int) / 2 = (pb r 0 : Nat) := by
  unfold pb
  rw [Nat.xor_zero, if_neg h, Nat.xor_zero]; omega
set_option maxRecDepth 100000 in
theorem crc_fill (g : Nat) (cs : Array Value) (w : World) (hg : w.heap[g]? = some (.cells cs 82 (0, 0))) (hsz : cs.size = 256) (hu : ∀ i < 256, cs[i]? = some (.int .u16 0)) :
    Calls Try.prog 50 #[.pointer (some ⟨g, 0, none⟩)] w fun e w' => e = .returned (.tuple #[]) ∧ crcTab w' g 256 ∧ w.grownBy w' (some g) := by
  have HG := Aside0.mk hg
  have HS := Aside0.mk hsz
  have HU := Aside0.mk hu
  clear hg hsz hu
  go_enter Try.func50, Try.ntmps50
  go_wp2
  go_loopw [5] (fun v5 wr => ∃ k : Nat, k ≤ 256 ∧ v5 = .int .i64 k ∧ Aside0 (∃ cr : Array Value, wr.heap[g]? = some (.cells cr 82 (0, 0)) ∧ cr.size = 256 ∧ (∀ i < k, cr[i]? = some (.int .u16 (pBy 0 i : Nat))) ∧ ∀ i < 256, k ≤ i → cr[i]? = some (.int .u16 0)) ∧ Aside0 (w.grownBy wr (some g))) (fun v5 _ => 256 - (intOf v5).toNat)
  case atStart => exact ⟨0, Nat.zero_le _, rfl, ⟨cs, HG.out, HS.out, fun i hi => absurd hi (by omega), fun i hi _ => HU.out i hi⟩, ⟨World.grownBy.refl _ _⟩⟩
  case round =>
    obtain ⟨k, hk, rfl, HB, HW⟩ := hrel
    by_cases hlt : k < 256
    · go_wp2
      go_loopw [10, 3] (fun v10 v3 w2 => ∃ j : Nat, j ≤ 8 ∧ v10 = .int .i64 j ∧ v3 = .int .u16 (pbs j k 0 : Nat) ∧ w2 = wr) (fun v10 _ _ => 8 - (intOf v10).toNat)
      case atStart => exact ⟨0, Nat.zero_le _, rfl, rfl, rfl⟩
      case round =>
        obtain ⟨j, hj, rfl, rfl, rfl⟩ := hrel
        by_cases hlt2 : j < 8
        · have hm : pbs j k 0 < 65536 := pbs_lt j (by omega)
          have hs : pbs (j + 1) k 0 = pb (pbs j k 0) 0 := by rw [crc_pbs, Nat.zero_div]
          generalize pbs j k 0 = m at *
          by_cases h : m % 2 = 1
          · have hd : (bits .and .u16 (m : Int) 1 == 1) = true := by rw [crc_and m hm, h]; rfl
            go_wp2
            go_roundw
            case rel => exact ⟨j + 1, by omega, by go_num, by rw [hs, crc_odd m hm h], trivial⟩
            case measure => simp [intOf]; omega
          · have hd : (bits .and .u16 (m : Int) 1 == 1) = false := by rw [crc_and m hm, show m % 2 = 0 by omega]; rfl
            go_wp2
            go_roundw
            case rel => exact ⟨j + 1, by omega, by go_num, by rw [hs, crc_even m h], trivial⟩
            case measure => simp [intOf]; omega
        · have : j = 8 := by omega
          subst this
          obtain ⟨cr, h1, h2, h3, h4⟩ := HB.out
          have H1 := Aside0.mk h1
          have H2 := Aside0.mk h2
          have H3 := Aside0.mk h3
          have H4 := Aside0.mk h4
          have hc := blk_cell h1 k
          rw [h4 k hlt (Nat.le_refl _)] at hc
          have hz := blk_frozen h1 k
          clear h1 h2 h3 h4 HB
          go_wp2
          go_roundw
          case rel =>
            refine ⟨k + 1, by omega, by go_num, ⟨_, set_blk H1.out k _, by rw [Array.size_setIfInBounds]; exact H2.out, fun i hi => ?_, fun i hi hki => ?_⟩, ⟨grown_set HW.out k _⟩⟩
            · by_cases e : i = k
              · subst e
                rw [Array.getElem?_setIfInBounds_self_of_lt (by rw [H2.out]; exact hlt), ← pBy_tab hlt]; rfl
              · rw [Array.getElem?_setIfInBounds_ne (by omega)]; exact H3.out i (by omega)
            · rw [Array.getElem?_setIfInBounds_ne (by omega)]; exact H4.out i hi (by omega)
          case measure => simp [intOf]; omega
    · have : k = 256 := by omega
      subst this
      go_wp2
      go_end0
      obtain ⟨cr, h1, h2, h3, _⟩ := HB.out
      exact ⟨rfl, ⟨cr, h1, h2, h3⟩, HW.out⟩

/-! ### crc_made: function 47 (by hand) -/
set_option maxRecDepth 100000 in
theorem crc_made (w : World) : Calls Try.prog 47 #[] w fun e w' => e = .returned (.pointer (some ⟨w.heap.size, 0, none⟩)) ∧ crcTab w' w.heap.size 256 ∧ Below w.heap.size w w' := by
  go_enter Try.func47, Try.ntmps47
  go_wp2_with fail
  (first
    | rw [show Try.zeroCells82 = Array.replicate 256 (Value.int .u16 0) by kernel_rfl]
    | (rw [show Sem.run Try.prog (zeroValue 82) w = .ok (.agg (Array.replicate 256 (Value.int .u16 0))) w by kernel_rfl]; go_wp2_with fail))
  refine (crc_fill w.heap.size _ _ (blk_new w _) (by rw [Array.size_replicate]) (fun i hi => by rw [Array.getElem?_replicate, if_pos hi])).mono ?_
  rintro e w' ⟨rfl, ht, hg⟩
  have HT := Aside0.mk ht
  have HG := Aside0.mk hg
  clear ht hg
  go_wp2
  go_ret
  exact ⟨rfl, HT.out, below_of_new HG.out⟩
theorem crcTab_below {w w1 : World} {g : Nat} (h : crcTab w g 256) (hb : Below w.heap.size w w1) : crcTab w1 g 256 := by
  obtain ⟨cs, h1, h2, h3⟩ := h
  exact ⟨cs, (hb.block g (blk_lt h1)).trans h1, h2, h3⟩

/-! ### crc_Sum: function 40 (by hand) -/
set_option maxRecDepth 100000 in
theorem crc_update (c b g : Nat) (w : World) (hc : c < 65536) (hb : b < 256) (hg : crcTab w g 256) :
    Calls Try.prog 48 #[.pointer (some ⟨g, 0, none⟩), .int .u16 (c : Int), .int .u8 (b : Int)] w fun e w' => e = .returned (.int .u16 (pBy c b : Nat)) ∧ Below w.heap.size w w' := by
  obtain ⟨cs, h1, h2, h3⟩ := hg
  have hx : bits .xor .u8 ((c : Int) % 256) (b : Int) = ((c % 256 ^^^ b : Nat) : Int) := by
    rw [show (c : Int) % 256 = ((c % 256 : Nat) : Int) by omega]
    exact u8_xor_nat _ _ (by omega) hb
  have hq : c % 256 ^^^ b < 256 := Nat.xor_lt_two_pow (n := 8) (by omega) hb
  have hy : bits .xor .u16 ((c : Int) / 256) ((pBy 0 (c % 256 ^^^ b) : Nat) : Int) = ((pBy c b : Nat) : Int) := by
    rw [pBy_shift hc, show (c : Int) / 256 = ((c / 256 : Nat) : Int) by omega]
    exact u16_xor_nat _ _ (by omega) (pBy_lt (by omega))
  have hcell := blk_cell h1 (c % 256 ^^^ b)
  rw [h3 _ hq] at hcell
  have hz := blk_frozen h1 (c % 256 ^^^ b)
  clear h1 h2 h3
  generalize c % 256 ^^^ b = q at *
  have b1 : (0 : Int) ≤ (q : Int) := by omega
  have b2 : (q : Int) < 256 := by omega
  go_enter Try.func48, Try.ntmps48
  go_wp2
  go_ret
  exact ⟨rfl, Below.refl _ _⟩
def crc_Sum.f (l0 : List Int) : Option Int := if ∀ x ∈ l0, 0 ≤ x ∧ x ≤ 255 then some (pRem 65535 l0 : Nat) else none
set_option maxRecDepth 100000 in
theorem crc_Sum.calls (A0 : Option Addr) (c0 : Nat) (l0 : List Int) (r : Int) (w : World) (hr0 : Kd.C (Kd.int .u8) w A0 l0.length l0) (hc0 : l0.length ≤ c0) (h : crc_Sum.f l0 = some r) :
    Calls Try.prog 40 #[.slice A0 l0.length c0] w fun e w' => e = .returned (.int .u16 r) ∧ Below w.heap.size w w' := by
  unfold crc_Sum.f at h
  split at h
  case isFalse => cases h
  case isTrue hb =>
  obtain rfl := Option.some.inj h
  have hn : l0.length ≤ 9223372036854775807 := Kd.C_max hr0
  have HR0 := Aside0.mk hr0
  have HB := Aside0.mk hb
  clear h hb hr0 hc0
  go_enter Try.func40, Try.ntmps40
  go_wp2_with (go_at_call 47; refine (crc_made _).mono ?_)
  rintro e w' ⟨rfl, ht, hg⟩
  have HT := Aside0.mk ht
  have HG := Aside0.mk hg
  clear ht hg
  go_wp2
  go_loopw [11, 5] (fun v11 v5 wr => ∃ k : Nat, k ≤ l0.length ∧ v11 = .int .i64 k ∧ v5 = .int .u16 (pRem 65535 (l0.take k) : Nat) ∧ Aside0 (crcTab wr w.heap.size 256) ∧ Aside0 (Below w.heap.size w wr)) (fun v11 _ _ => l0.length - (intOf v11).toNat)
  case atStart => exact ⟨0, Nat.zero_le _, rfl, rfl, HT, HG⟩
  case round =>
    obtain ⟨k, hk, rfl, rfl, HT2, HG2⟩ := hrel
    clear HT HG
    by_cases hlt : k < l0.length
    · obtain ⟨ad, e1, hx⟩ := Kd.at_int (Kd.C_below HR0.out HG2.out) k (by omega) (by omega)
      cases e1
      have hbd := HB.out (l0[k]) (List.getElem_mem _)
      obtain ⟨x, hxe⟩ := Int.eq_ofNat_of_zero_le hbd.1
      have hx8 : x < 256 := by omega
      have hrd : rd l0 k = (x : Int) := by rw [show rd l0 k = l0.getD k 0 by simp [rd], getD_at l0 k hlt, hxe]
      have HS := Aside0.mk (show pBy (pRem 65535 (l0.take k)) x = pRem 65535 (l0.take (k + 1)) by rw [take_snoc l0 k hlt, pRem_snoc, hxe, Int.toNat_natCast])
      have HM := Aside0.mk (show pRem 65535 (l0.take k) < 65536 from pRem_lt _ (by omega))
      simp only [Int.toNat_natCast, hrd] at hx
      clear hbd hxe hrd
      generalize pRem 65535 (l0.take k) = m at *
      go_wp2_with (go_at_call 48; refine (crc_update m x _ _ HM.out hx8 HT2.out).mono ?_)
      rintro e w2 ⟨rfl, hg⟩
      have HG3 := Aside0.mk hg
      clear hg
      go_wp2
      go_roundw
      case rel => exact ⟨k + 1, by omega, by go_num, by rw [HS.out], ⟨crcTab_below HT2.out HG3.out⟩, ⟨HG2.out.trans (HG3.out.mono HG2.out.size)⟩⟩
      case measure => simp [intOf]; omega
    · have : k = l0.length := by omega
      subst this
      go_wp2
      go_ret
      exact ⟨congrArg (fun z => Ending.returned (.int .u16 (pRem 65535 z : Nat))) (List.take_length (l := l0)), HG2.out⟩

/-! ### crc_Append: function 18 (by hand) -/
theorem crc_row (W : World) (n c : Nat) (hnc : n ≤ c) (hc : c ≤ 140737488355328) : Kd.R (Kd.int .u8) 5 (W.alloc (.cells (madeCells #[.int .u8 0] c) 5)) W.heap.size (fun _ => True) (.slice (some ⟨W.heap.size, 0, none⟩) n c) (List.replicate n 0) := by
  have h : Kd.R (Kd.int .u8) 5 (W.alloc (.cells (madeCells #[.int .u8 0] c) 5)) W.heap.size (fun _ => True) (.slice (some ⟨W.heap.size, 0, none⟩) c c) (List.replicate c 0) := by
    have hr := Kd.reps_made (R := Kd.M (Kd.int .u8) (W.alloc (.cells (madeCells #[.int .u8 0] c) 5)) W.heap.size (fun k => True ∧ some k ≠ (Value.slice (some ⟨W.heap.size, 0, none⟩) c c).ownBlock)) (z := Value.int .u8 0) (size := 1) (z0 := (0 : Int)) rfl (by decide) rfl c
    rw [Nat.mul_one] at hr
    refine ⟨fun _ _ => trivial, _, ?_, hr⟩
    rw [List.length_replicate]
    exact World.ownsRow_lit W _ c (Nat.le_refl _) (by unfold maxLen; omega) (by simp [size_madeCells, Kd.int, Kd.scalar])
  have h2 := Kd.R_take h (m := n) (by simpa using hnc)
  rw [List.take_replicate, Nat.min_eq_left hnc] at h2
  exact h2
def crc_Append.f (l0 : List Int) : Option (List Int) := if l0.length < 140737488355000 ∧ ∀ x ∈ l0, 0 ≤ x ∧ x ≤ 255 then some (l0 ++ [((pRem 65535 l0 % 256 : Nat) : Int), ((pRem 65535 l0 / 256 : Nat) : Int)]) else none
set_option maxRecDepth 100000 in
theorem crc_Append.calls (A0 : Option Addr) (c0 : Nat) (l0 : List Int) (r : List Int) (w : World) (hr0 : Kd.C (Kd.int .u8) w A0 l0.length l0) (hc0 : l0.length ≤ c0) (h : crc_Append.f l0 = some r) :
    Calls Try.prog 18 #[.slice A0 l0.length c0] w fun e w' => ∃ v0_ : Value, e = .returned (v0_) ∧ Kd.R (Kd.int .u8) 5 w' w.heap.size (fun _ => True) v0_ r ∧ Below w.heap.size w w' := by
  unfold crc_Append.f at h
  split at h
  case isFalse => cases h
  case isTrue hb =>
  obtain rfl := Option.some.inj h
  have hs : crc_Sum.f l0 = some ((pRem 65535 l0 : Nat) : Int) := by unfold crc_Sum.f; rw [if_pos hb.2]
  have hm : pRem 65535 l0 < 65536 := pRem_lt _ (by omega)
  have hlow : word_Low.f ((pRem 65535 l0 : Nat) : Int) = some [((pRem 65535 l0 % 256 : Nat) : Int), ((pRem 65535 l0 / 256 : Nat) : Int)] := by
    generalize pRem 65535 l0 = m at hm
    have e : bits .and .u16 (m : Int) 255 = ((m % 256 : Nat) : Int) := by
      have := u16_and_nat m 255 hm (by omega)
      rw [show m &&& 255 = m % 256 from Nat.and_two_pow_sub_one_eq_mod m 8] at this
      exact this
    unfold word_Low.f
    rw [e, show ((m % 256 : Nat) : Int) % 256 = ((m % 256 : Nat) : Int) by omega, show (m : Int) / 256 % 256 = ((m / 256 : Nat) : Int) by omega]
  have HS := Aside0.mk hs
  have HL := Aside0.mk hlow
  have hn := hb.1
  have HC0 := Aside0.mk hc0
  have HR0 := Aside0.mk hr0
  clear h hb hr0 hc0 hs hlow hm
  obtain ⟨i0, hi0, hz0, hsz0, hby0⟩ := info_parts info5
  have hmk : ∀ W : World, (Instr.makeSlice 22 (.int .i64 (l0.length : Int)) (.int .i64 ((l0.length : Int) + 2))).run Try.prog W = .ok (.slice (some ⟨W.heap.size, 0, none⟩) l0.length (l0.length + 2)) (W.alloc (.cells (madeCells (Value.int .u8 0).cells ((l0.length + 2) * 1)) 5)) := by
    intro W
    have := run_make (P := Try.prog) W 22 5 i0 (.int .u8 0) Try.underlying22 hi0 hz0 .i64 .i64 (l0.length : Int) ((l0.length : Int) + 2) (by omega) (by omega) (by rw [hby0]; omega) (by omega)
    rw [hsz0, Int.toNat_natCast, show ((l0.length : Int) + 2).toNat = l0.length + 2 by omega] at this
    exact this
  generalize hL2 : [((pRem 65535 l0 % 256 : Nat) : Int), ((pRem 65535 l0 / 256 : Nat) : Int)] = L2 at *
  have HN := Aside0.mk (show L2.length = 2 by rw [← hL2]; rfl)
  clear hL2
  generalize ((pRem 65535 l0 : Nat) : Int) = m at *
  have hin : (Try.prog.info? 5).map (·.size) = some 1 := by rw [hi0]; exact congrArg some hsz0
  clear hi0 hz0 hsz0 hby0
  go_enter Try.func18, Try.ntmps18
  go_wp2_with ((with_reducible refine gate_builtin (b := .copy) (xs := #[.tmp 10, .tmp 11]) rfl ?_); refine Kd.R_copy (0 : Int) (w0 := w) w.heap.size rfl (.tmp 10) (.tmp 11) 22 22 5 rfl Try.underlying22 hin (.slice (some ⟨w.heap.size, 0, none⟩) l0.length (l0.length + 2)) (List.replicate l0.length 0) l0 A0 l0.length c0 (fun _ => True) rfl rfl (crc_row w l0.length (l0.length + 2) (by omega) (by omega)) (Kd.C_alloc HR0.out _) ((Below.refl _ _).alloc (Nat.le_refl _) _) (by simp) ?_)
  intro w1 ho hb hg
  have HO := Aside0.mk ho
  have HB := Aside0.mk hb
  clear ho hb hg hmk hin
  go_wp2_with (go_at_call 40; refine (crc_Sum.calls A0 c0 l0 m _ (Kd.C_below HR0.out HB.out) HC0.out HS.out).mono ?_)
  rintro e w2 ⟨rfl, hb2⟩
  have HO2 := Aside0.mk (Kd.R_below HO.out hb2)
  have HB2 := Aside0.mk (HB.out.trans (hb2.mono HB.out.size))
  clear hb2 HO HB
  go_wp2_with (go_at_call 39; refine (word_Low.calls m L2 _ HL.out).mono ?_)
  rintro e w3 ⟨v3, rfl, hr3, hb3⟩
  have HO3 := Aside0.mk (Kd.R_below HO2.out hb3)
  have HB3 := Aside0.mk (HB2.out.trans (hb3.mono HB2.out.size))
  have HR3 := Aside0.mk hr3
  clear hb3 hr3 HO2 HB2
  obtain ⟨A3, c3, rfl, hl3, hc3⟩ := Kd.R_reads HR3.out
  have HC3 := Aside0.mk hc3
  clear hc3
  go_wp2_with (at_builtin; refine Kd.R_append_rows (Kd.int .u8) (w0 := w) w.heap.size rfl (.tmp 13) (.tmp 16) 22 5 (.int .u8 0) 1 rfl Try.underlying22 info5 rfl (by decide) (by omega) _ l0 L2 A3 L2.length c3 (fun _ => True) (fun _ => False) rfl rfl HO3.out HC3.out (fun _ _ h => h) (fun _ h => h.elim) (fun _ _ => trivial) HB3.out HB3.out.size (by rw [HN.out]; omega) ?_; intro v4 w4 ho4 hb4 hg_ hat_; have HO4 := Aside0.mk ho4; have HB4 := Aside0.mk hb4; clear ho4 hb4 hg_ hat_)
  go_ret
  exact ⟨_, rfl, HO4.out, HB4.out⟩

/-! ### adu_joined: function 19 (by hand) -/
theorem adu_put (W : World) (g o' r c : Nat) (cur : Array Value) (A : Option Addr) (ys bs : List Int) (hg : W.heap[g]? = some (.cells cur 5 (0, 0)))
    (hcur : cur.toList = (bs ++ List.replicate r 0).map (Value.int .u8)) (ho : r ≠ 0 → o' = bs.length) (hC : Kd.C (Kd.int .u8) W A ys.length ys) (hle : ys.length ≤ r) :
    ∃ w1 cur', (Builtin.copy_ #[22, 22] 3 #[.slice (some ⟨g, o', none⟩) r r, .slice A ys.length c]).run Try.prog W = .ok (.int .i64 (ys.length : Int)) w1 ∧ w1.heap[g]? = some (.cells cur' 5 (0, 0)) ∧
      cur'.toList = ((bs ++ ys) ++ List.replicate (r - ys.length) 0).map (Value.int .u8) ∧ W.grownBy w1 (some g) := by
  obtain ⟨i0, hi0, hz0, hsz0, hby0⟩ := info_parts info5
  have hin : (Try.prog.info? 5).map (·.size) = some 1 := by rw [hi0]; exact congrArg some hsz0
  rcases Nat.eq_zero_or_pos ys.length with h0 | hp
  · have e : ys = [] := List.eq_nil_of_length_eq_zero h0
    subst e
    refine ⟨W, cur, run_copy_none W _ _ _ _ _ _ _ _ _ _ Try.underlying22 hin (by simp [Nat.min_def]), hg, ?_, World.grownBy.refl _ _⟩
    rw [hcur]; simp
  · have hR := Kd.reads_of_C (d := (0 : Int)) hC
    obtain ⟨ad, rfl, hc⟩ := hR.2.2 hp
    have ho2 := ho (by omega)
    subst ho2
    have hcs : cur.size = bs.length + r := by rw [← Array.length_toList, hcur]; simp
    have hkl : (ys.map (Value.int .u8)).length = ys.length := List.length_map ..
    have hr := run_copy_cells (P := Try.prog) W 22 22 3 5 g bs.length r r ad ys.length c (ys.map (Value.int .u8)) Try.underlying22 hin (by rw [hkl]; exact (Nat.min_eq_left hle).symm)
      (fun j v hj => by
        have hjl : j < ys.length := by
          rcases Nat.lt_or_ge j ys.length with h | h
          · exact h
          · rw [List.getElem?_eq_none (by rw [hkl]; exact h)] at hj; cases hj
        rw [hc j hjl, ← hj, List.getElem?_map, List.getElem?_eq_getElem hjl, List.getD_eq_getElem?_getD, List.getElem?_eq_getElem hjl]; rfl)
      (fun j hj => by rw [cell_of_row W g _ cur 5 (0, 0) hg]; rw [hkl] at hj; simp; omega) (fun j _ => blk_frozen hg _) (by intro u hu; obtain ⟨q, _, rfl⟩ := List.mem_map.1 hu; rfl)
    obtain ⟨cur', h3, h4, h5⟩ := setCells_row (ys.map (Value.int .u8)) bs.length W cur hg (by rw [hkl, hcs]; omega)
    obtain ⟨s1, s2, s3, s4⟩ := setCells_same g (ys.map (Value.int .u8)) bs.length W
    refine ⟨_, cur', by rw [hr, hkl]; rfl, h3, ?_, ⟨s1, s2, s3, by rw [s4]; exact Nat.le_refl _, fun k _ hk => setCells_far _ _ k (fun he => hk (by rw [he]))⟩⟩
    rw [h5, hcur, hkl, List.map_append, List.take_append_of_le_length (by simp), List.take_of_length_le (by simp), List.drop_append, List.drop_eq_nil_of_le (by simp), List.nil_append, List.length_map, show bs.length + ys.length - bs.length = ys.length by omega]
    rw [← List.map_drop, List.drop_replicate, ← List.map_append, ← List.map_append]
theorem adu_copy_at {ops : Array Oper} {rest : List Oper} {o : Oper} {a : Act} {Q : Exit → Act → World → Prop} {W w1 : World} (hgd : o.guard = none) (s x : Operand) (t t' : TypeId)
    (ho : o.op = .call { callee := .builtin .copy, args := #[s, x], argTypes := #[t, t'] }) {v u n : Value} (hs : a.eval s = v) (hx : a.eval x = u) (hr : (Builtin.copy_ #[t, t'] o.type #[v, u]).run Try.prog W = .ok n w1)
    (h : wpList Try.prog ops Q rest (a.put o.dst n) w1) : wpList Try.prog ops Q (o :: rest) a W := by
  refine wpList_plain hgd fun K hK => ?_
  unfold Oper.wp execOp
  simp only [ho, resolve, invoke, builtin, Sem.run_bind, Sem.run_pure, Result.andThen_ok, List.map_toArray, List.map_cons, List.map_nil, hs, hx, hr]
  exact hK _ _ h
theorem adu_cut (g o' r q : Nat) (hq : q ≤ r) (W : World) : (Instr.slice 22 (.slice (some ⟨g, o', none⟩) r r) (some (.int .i64 (q : Int))) none none).run Try.prog W = .ok (.slice (some ⟨g, if r = q then o' else o' + q, none⟩) (r - q) (r - q)) W := by
  obtain ⟨i0, hi0, hz0, hsz0, hby0⟩ := info_parts info5
  have ht := Try.underlying22
  have hel : Try.prog.elem 22 = 5 := by simp [Program.elem, ht]
  have hu : Try.prog.underlying 22 = some (.slice (Try.prog.elem 22)) := by rw [hel]; exact ht
  rw [run_slice_l W 22 (some ⟨g, o', none⟩) r r hu .i64 (q : Int) (Int.natCast_nonneg _) (by omega), hel]
  by_cases h : r = q
  · simp [sizeOf, typeInfo, hi0, hsz0, sliced, Result.andThen, h]
  · simp [sizeOf, typeInfo, hi0, hsz0, sliced, Result.andThen, h, Addr.add]
def adu_joined.f (l0 : List (List Int)) : Option (List Int) := if l0.flatten.length < 140737488355000 then some l0.flatten else none
theorem adu_take (l : List (List Int)) (k : Nat) (h : k < l.length) : (l.take (k + 1)).flatten = (l.take k).flatten ++ l[k] := by
  rw [take_snoc l k h, List.flatten_append]; simp
theorem adu_le (l : List (List Int)) (k : Nat) : (l.take k).flatten.length ≤ l.flatten.length := by
  have : l.flatten = (l.take k).flatten ++ (l.drop k).flatten := by rw [← List.flatten_append, List.take_append_drop]
  rw [this, List.length_append]; omega
theorem adu_at {w : World} {A : Option Addr} {l : List (List Int)} (h : Kd.C (Kd.slice 5 (Kd.int .u8)) w A l.length l) (k : Nat) (hk : k < l.length) :
    ∃ ad B c, A = some ad ∧ w.cell? (ad.add k) = some (.slice B (l[k]).length c) ∧ (l[k]).length ≤ c ∧ Kd.C (Kd.int .u8) w B (l[k]).length (l[k]) := by
  obtain ⟨ad, e, hc⟩ := h.2.2 (by omega)
  obtain ⟨cs, _, ⟨B, c, rfl, h1, h2⟩, hcell⟩ := hc k _ (List.getElem?_eq_getElem hk)
  have := hcell 0 _ rfl
  rw [show k * (Kd.slice 5 (Kd.int .u8)).sz + 0 = k by show k * 1 + 0 = k; omega] at this
  exact ⟨ad, B, c, e, this, h1, h2⟩
set_option maxRecDepth 100000 in
theorem adu_joined.calls (A0 : Option Addr) (c0 : Nat) (l0 : List (List Int)) (r : List Int) (w : World) (hr0 : Kd.C (Kd.slice 5 (Kd.int .u8)) w A0 l0.length l0) (hc0 : l0.length ≤ c0) (h : adu_joined.f l0 = some r) :
    Calls Try.prog 19 #[.slice A0 l0.length c0] w fun e w' => ∃ v0_ : Value, e = .returned (v0_) ∧ Kd.R (Kd.int .u8) 5 w' w.heap.size (fun _ => True) v0_ r ∧ Below w.heap.size w w' := by
  unfold adu_joined.f at h
  split at h
  case isFalse => cases h
  case isTrue hb =>
  obtain rfl := Option.some.inj h
  have hn : l0.length ≤ 9223372036854775807 := hr0.2.1
  have HR0 := Aside0.mk hr0
  obtain ⟨tot, htot⟩ : ∃ tot : Nat → Nat, ∀ k, tot k = (l0.take k).flatten.length := ⟨_, fun _ => rfl⟩
  have hT : tot l0.length = l0.flatten.length := by rw [htot, List.take_length]
  have hT0 : tot 0 = 0 := by rw [htot, List.take_zero]; rfl
  have HS := Aside0.mk (show ∀ k, (h : k < l0.length) → tot (k + 1) = tot k + (l0[k]).length ∧ tot (k + 1) ≤ tot l0.length by
    intro k h
    refine ⟨by rw [htot, htot, adu_take l0 k h, List.length_append], ?_⟩
    rw [hT, htot]; exact adu_le l0 (k + 1))
  have HTot := Aside0.mk htot
  have HT := Aside0.mk hT
  have hN : tot l0.length < 140737488355000 := by rw [hT]; exact hb
  clear h hb hr0 hc0 hT htot
  have hmk : ∀ W : World, (Instr.makeSlice 22 (.int .i64 (tot l0.length : Nat)) (.int .i64 (tot l0.length : Nat))).run Try.prog W = .ok (.slice (some ⟨W.heap.size, 0, none⟩) (tot l0.length) (tot l0.length)) (W.alloc (.cells (madeCells #[.int .u8 0] (tot l0.length)) 5)) := by
    intro W
    obtain ⟨i0, hi0, hz0, hsz0, hby0⟩ := info_parts info5
    have := run_make (P := Try.prog) W 22 5 i0 (.int .u8 0) Try.underlying22 hi0 hz0 .i64 .i64 (tot l0.length : Int) (tot l0.length : Int) (by omega) (by omega) (by rw [hby0]; omega) (by omega)
    rw [hsz0, Int.toNat_natCast, Nat.mul_one] at this
    exact this
  go_enter Try.func19, Try.ntmps19
  go_wp2
  go_loopw [12, 3] (fun v12 v3 wr => ∃ k : Nat, k ≤ l0.length ∧ v12 = .int .i64 k ∧ v3 = .int .i64 (tot k : Nat) ∧ w = wr) (fun v12 _ _ => l0.length - (intOf v12).toNat)
  case atStart => exact ⟨0, Nat.zero_le _, rfl, by rw [hT0]; rfl, rfl⟩
  case round =>
    obtain ⟨k, hk, rfl, rfl, hw⟩ := hrel
    subst hw
    by_cases hlt : k < l0.length
    · obtain ⟨ad, B, c, e1, hcell, _, _⟩ := adu_at HR0.out k hlt
      cases e1
      obtain ⟨hs1, hs2⟩ := HS.out k hlt
      have HS1 := Aside0.mk hs1
      rw [hs1] at hs2
      clear hs1 hmk
      generalize tot k = m at *
      generalize (l0[k]).length = q at *
      go_wp2
      go_roundw
      case rel => exact ⟨k + 1, by omega, by go_num, by rw [HS1.out]; go_num, trivial⟩
      case measure => simp [intOf]; omega
    · have : k = l0.length := by omega
      subst this
      go_wp2
      go_loopw [26, 7] (fun v26 v7 w2 => ∃ k o' : Nat, ∃ cur : Array Value, k ≤ l0.length ∧ v26 = .int .i64 k ∧ v7 = .slice (some ⟨w.heap.size, o', none⟩) (tot l0.length - tot k) (tot l0.length - tot k) ∧ Aside0 (tot l0.length - tot k ≠ 0 → o' = ((l0.take k).flatten).length) ∧
          Aside0 (w2.heap[w.heap.size]? = some (.cells cur 5 (0, 0))) ∧ Aside0 (cur.toList = ((l0.take k).flatten ++ List.replicate (tot l0.length - tot k) 0).map (Value.int .u8)) ∧ Aside0 (Below w.heap.size w w2)) (fun v26 _ _ => l0.length - (intOf v26).toNat)
      case atStart =>
        refine ⟨0, 0, madeCells #[.int .u8 0] (tot l0.length), Nat.zero_le _, rfl, by rw [hT0]; rfl, ⟨fun _ => rfl⟩, ⟨blk_new w _⟩, ⟨?_⟩, ⟨(Below.refl _ _).alloc (Nat.le_refl _) _⟩⟩
        rw [hT0, Nat.sub_zero, List.take_zero, List.flatten_nil, List.nil_append, List.map_replicate]
        apply List.ext_getElem
        · simp [size_madeCells]
        · intro i h1 h2
          simp [madeCells, Nat.mod_one]
      case round =>
        obtain ⟨k, o', cur, hk2, rfl, rfl, HO, HG, HC, HB⟩ := hrel
        by_cases hlt2 : k < l0.length
        · obtain ⟨ad, B, c, e1, hcell, hlc, hC⟩ := adu_at (Kd.C_below HR0.out HB.out) k hlt2
          cases e1
          obtain ⟨hs1, hs2⟩ := HS.out k hlt2
          rw [hs1] at hs2
          obtain ⟨w3, cur', h1, h2, h3, h4⟩ := adu_put wr w.heap.size o' (tot l0.length - tot k) c cur B (l0[k]) _ HG.out HC.out HO.out hC (by omega)
          have hcut := adu_cut w.heap.size o' (tot l0.length - tot k) (l0[k]).length (by omega)
          have H2 := Aside0.mk h2
          have H3 := Aside0.mk h3
          have HB2 := Aside0.mk (HB.out.grown h4 HB.out.size (fun k hk => by injection hk with hk; omega))
          have HS1 := Aside0.mk hs1
          have HE := Aside0.mk (adu_take l0 k hlt2)
          have HR := Aside0.mk (show tot l0.length - tot k - (l0[k]).length = tot l0.length - tot (k + 1) by omega)
          have HO2 := Aside0.mk (show tot l0.length - tot (k + 1) ≠ 0 → (if tot l0.length - tot k = (l0[k]).length then o' else o' + (l0[k]).length) = ((l0.take (k + 1)).flatten).length by
            intro h
            rw [if_neg (by omega), adu_take l0 k hlt2, List.length_append, HO.out (by omega)])
          clear h2 h3 h4 hs1 hs2 hC hmk HG HC HO HB
          generalize tot l0.length - tot k = r at *
          generalize hq : (l0[k]).length = q at *
          generalize (if r = q then o' else o' + q) = o2 at *
          go_wp2_with ((with_reducible refine gate_builtin (b := .copy) (xs := #[.tmp 31, .tmp 32]) rfl ?_); refine adu_copy_at rfl (.tmp 31) (.tmp 32) 22 22 rfl rfl rfl h1 ?_)
          go_roundw
          case rel => exact ⟨k + 1, o2, cur', by omega, by go_num, by rw [HR.out], HO2, H2, ⟨by rw [HE.out, ← HR.out]; exact H3.out⟩, HB2⟩
          case measure => simp [intOf]; omega
        · have : k = l0.length := by omega
          subst this
          go_wp2
          go_ret
          have hcl : cur.toList = (l0.flatten).map (Value.int .u8) := by rw [HC.out, Nat.sub_self, List.replicate_zero, List.append_nil, List.take_length]
          have hcs : cur.size = tot l0.length := by rw [← Array.length_toList, hcl, List.length_map, HT.out]
          refine ⟨_, rfl, Kd.R_of_own (enc := Value.int .u8) ?_ (fun _ _ => trivial), HB.out⟩
          refine ⟨by rw [encs_length, Nat.mul_one], .inr ⟨w.heap.size, tot l0.length, cur, ?_, Nat.le_refl _, HG.out, by rw [HT.out]; exact Nat.le_refl _, by unfold maxLen; omega, by rw [hcs, Nat.mul_one], ?_⟩⟩
          · rw [HT.out]; rfl
          · rw [hcl, List.take_of_length_le (by rw [List.length_map]; omega)]; rfl

/-! ### adu_Wrap: function 5 -/
def adu_Wrap.j0 : Nat → Int → List Int → Bool → Option (List Int × Int)
  | 0, _, _, _ => none
  | k + 1, x0, x1, x6 => if x6 = true then (some (([] : List Int), 11)) else (if (x1.length : Int) = 0 then (some (([] : List Int), 12)) else (if (x1.length : Int) > 253 then (some (([] : List Int), 13)) else ((adu_joined.f (([(([(x0) % 256] : List Int)), x1] : List (List Int)))).bind fun t110 => ((crc_Append.f t110).bind fun t113 => (some (t113, 0))))))
def adu_Wrap.f (k : Nat) (a0 : Int) (l1 : List Int) : Option (List Int × Int) := if a0 < 0 then (adu_Wrap.j0 k a0 l1 true) else (adu_Wrap.j0 k a0 l1 (decide (a0 > 255)))
theorem adu_Wrap.mono_l : ∀ k, (∀ y0 y1 y2, LeO (adu_Wrap.j0 k y0 y1 y2) (adu_Wrap.j0 (k + 1) y0 y1 y2))
  | 0 => fun _ _ _ r h => by simp [adu_Wrap.j0] at h
  | k + 1 => by
    have ih0 := adu_Wrap.mono_l k
    · intro y0 y1 y2
      unfold adu_Wrap.j0
      repeat' first
      | (with_reducible exact ih0 _ _ _)
      | (with_reducible exact LeO.refl _)
      | (with_reducible exact LeO.none _)
      | (with_reducible refine LeO.ite ?_ ?_)
      | (with_reducible refine LeO.bind ?_ (fun _ => ?_))
      | exact ih0 _ _ _
      | exact LeO.none _
      | refine LeO.ite ?_ ?_
      | refine LeO.bind ?_ (fun _ => ?_)
theorem adu_Wrap.mono : ∀ a0 a1 k, LeO (adu_Wrap.f k a0 a1) (adu_Wrap.f (k + 1) a0 a1) := by
  intro a0 a1 k
  have ih0 := adu_Wrap.mono_l k
  unfold adu_Wrap.f
  repeat' first
      | (with_reducible exact ih0 _ _ _)
      | (with_reducible exact LeO.refl _)
      | (with_reducible exact LeO.none _)
      | (with_reducible refine LeO.ite ?_ ?_)
      | (with_reducible refine LeO.bind ?_ (fun _ => ?_))
      | exact ih0 _ _ _
      | exact LeO.none _
      | refine LeO.ite ?_ ?_
      | refine LeO.bind ?_ (fun _ => ?_)
set_option maxHeartbeats 8000000 in
set_option maxRecDepth 100000 in
theorem adu_Wrap.calls (k : Nat) (a0 : Int) (P1_ : Nat → Prop) (A1 : Option Addr) (c1 : Nat) (l1 : List Int) (r1 : List Int) (r2 : Int) (w : World) (hs1 : Kd.V (Kd.int .u8) 5 w w.heap.size (fun k_ => P1_ k_) (.slice A1 l1.length c1) l1) (h : adu_Wrap.f k a0 l1 = some (r1, r2)) :
    Calls Try.prog 5 #[.int .i64 a0, .slice A1 l1.length c1] w fun e w' => ∃ v0_ : Value, e = .returned (.tuple #[v0_, .int .i64 r2]) ∧ Kd.R (Kd.int .u8) 5 w' w.heap.size (fun k_ => (w.heap.size ≤ k_)) v0_ r1 ∧ Below w.heap.size w w' := by
  have HO1 := Aside0.mk (show Kd.V (Kd.int .u8) 5 w w.heap.size (fun k_ => (P1_ k_ ∨ w.heap.size ≤ k_)) (.slice A1 l1.length c1) l1 from Kd.V_mono hs1 (fun k_ hk => .inl hk))
  have HB := Aside0.mk (Below.refl w.heap.size w)
  have H : (if a0 < 0 then (adu_Wrap.j0 k a0 l1 true) else (adu_Wrap.j0 k a0 l1 (decide (a0 > 255)))) = some (r1, r2) := h
  clear h
  have HC3 := Aside0.mk H
  clear H
  go_enter Try.func5, Try.ntmps5
  go_upto_region 1 with (fail)
  go_cut [6] (fun v6 wc => ∃ (kq : Nat) (x6_2 : Bool), v6 = .bool x6_2 ∧ Aside0 (adu_Wrap.j0 kq a0 l1 x6_2 = some (r1, r2)) ∧ Aside0 (kq ≤ k) ∧ Aside0 (Kd.V (Kd.int .u8) 5 wc w.heap.size (fun k_ => (P1_ k_ ∨ w.heap.size ≤ k_)) (.slice A1 l1.length c1) l1) ∧ Aside0 (Below w.heap.size w wc))
  case first =>
    have H := HC3.out
    clear HC3
    by_cases c4 : a0 < 0
    · rw [if_pos c4] at H
      have c4b0 : decide (a0 < 0) = true := decide_eq_true c4
      clear c4
      (first | rw [c4b0] | (simp only [i64_w, i32_w]; rw [c4b0]) | skip)
      have H' := Aside0.mk H
      clear H
      go_wp2
      go_meet
      case rel => exact ⟨_, (true), (by first | rfl | (simp; done) | (simp [*]; done)), H', ⟨by first | omega | exact Nat.le_refl _⟩, ⟨by (with_reducible repeat (first | apply Kd.V_alloc | apply Kd.V_drewN | apply Kd.V_drew)); exact HO1.out⟩, ⟨by repeat (first | (with_reducible first | exact HB.out | apply below_alloc | apply pw_below_drewN | apply below_drew1) | exact HB.out)⟩⟩
    · rw [if_neg c4] at H
      have c4b0 : decide (a0 < 0) = false := decide_eq_false c4
      clear c4
      (first | rw [c4b0] | (simp only [i64_w, i32_w]; rw [c4b0]) | skip)
      have H' := Aside0.mk H
      clear H
      go_wp2
      go_meet
      case rel => exact ⟨_, (decide (a0 > 255)), (by first | rfl | (simp; done) | (simp [*]; done)), H', ⟨by first | omega | exact Nat.le_refl _⟩, ⟨by (with_reducible repeat (first | apply Kd.V_alloc | apply Kd.V_drewN | apply Kd.V_drew)); exact HO1.out⟩, ⟨by repeat (first | (with_reducible first | exact HB.out | apply below_alloc | apply pw_below_drewN | apply below_drew1) | exact HB.out)⟩⟩
  case rest =>
    clear HC3
    try clear c1
    try clear p2
    try clear c4
    try clear c4b0
    obtain ⟨kq, x6_2, rfl, HA, HJ2, HO_1, HB⟩ := hcut
    cases kq with
    | zero => exact absurd HA.out (by simp [adu_Wrap.j0])
    | succ kj2 =>
      have H := HA.out
      clear HA
      simp only [adu_Wrap.j0] at H
      by_cases c5 : x6_2 = true
      · subst c5
        have H1 : (some (([] : List Int), 11)) = some (r1, r2) := by rw [if_pos rfl] at H; exact H
        clear H
        have H := H1
        clear H1
        simp only [Option.some.injEq, Prod.mk.injEq] at H
        obtain ⟨rfl, rfl⟩ := H
        go_wp2
        go_ret2
        exact ⟨_, by first | rfl | (simp [errW_none, errW_some] <;> rfl) | (simp [*, errW_none, errW_some] <;> rfl), by first | exact Kd.R_nil _ _ _ _ _ | exact Kd.N_nil _ _ _ _ _ | exact Kd.V_nil _ _ _ _ _ | exact Kd.Q_nil _ _ _ _ _ | exact Kd.S_nil _ _ _ _ _, by repeat (first | (with_reducible first | exact HB.out | apply below_alloc | apply pw_below_drewN | apply below_drew1) | exact HB.out)⟩
      · replace c5 := Bool.eq_false_iff.mpr c5
        subst c5
        have H1 : (if (l1.length : Int) = 0 then (some (([] : List Int), 12)) else (if (l1.length : Int) > 253 then (some (([] : List Int), 13)) else ((adu_joined.f (([(([(a0) % 256] : List Int)), l1] : List (List Int)))).bind fun t110 => ((crc_Append.f t110).bind fun t113 => (some (t113, 0)))))) = some (r1, r2) := by rw [if_neg (show ¬ (false = true) by decide)] at H; exact H
        clear H
        have H := H1
        clear H1
        by_cases c6 : (l1.length : Int) = 0
        · rw [if_pos c6] at H
          have c6b0 : ((l1.length : Int) == 0) = true := beq_iff_eq.mpr c6
          have c6b1 : ((l1.length : Int) != 0) = false := bne_eq_false_iff_eq.mpr c6
          clear c6
          simp only [Option.some.injEq, Prod.mk.injEq] at H
          obtain ⟨rfl, rfl⟩ := H
          go_wp2
          go_ret2
          exact ⟨_, by first | rfl | (simp [errW_none, errW_some] <;> rfl) | (simp [*, errW_none, errW_some] <;> rfl), by first | exact Kd.R_nil _ _ _ _ _ | exact Kd.N_nil _ _ _ _ _ | exact Kd.V_nil _ _ _ _ _ | exact Kd.Q_nil _ _ _ _ _ | exact Kd.S_nil _ _ _ _ _, by repeat (first | (with_reducible first | exact HB.out | apply below_alloc | apply pw_below_drewN | apply below_drew1) | exact HB.out)⟩
        · rw [if_neg c6] at H
          have c6b0 : ((l1.length : Int) == 0) = false := beq_eq_false_iff_ne.mpr c6
          have c6b1 : ((l1.length : Int) != 0) = true := bne_iff_ne.mpr c6
          have c6b2 : ¬ (l1 = []) := fun h_ => c6 (by rw [h_]; rfl)
          by_cases c7 : (l1.length : Int) > 253
          · rw [if_pos c7] at H
            have c7b0 : decide (253 < (l1.length : Int)) = true := decide_eq_true c7
            have c7b1 : decide (253 < l1.length) = true := decide_eq_true (by omega)
            clear c7
            simp only [Option.some.injEq, Prod.mk.injEq] at H
            obtain ⟨rfl, rfl⟩ := H
            go_wp2
            go_ret2
            exact ⟨_, by first | rfl | (simp [errW_none, errW_some] <;> rfl) | (simp [*, errW_none, errW_some] <;> rfl), by first | exact Kd.R_nil _ _ _ _ _ | exact Kd.N_nil _ _ _ _ _ | exact Kd.V_nil _ _ _ _ _ | exact Kd.Q_nil _ _ _ _ _ | exact Kd.S_nil _ _ _ _ _, by repeat (first | (with_reducible first | exact HB.out | apply below_alloc | apply pw_below_drewN | apply below_drew1) | exact HB.out)⟩
          · rw [if_neg c7] at H
            have c7b0 : decide (253 < (l1.length : Int)) = false := decide_eq_false c7
            have c7b1 : decide (253 < l1.length) = false := decide_eq_false (by omega)
            clear c7
            obtain ⟨y104, hy104⟩ : ∃ y_ : List Int, y_ = (([(a0) % 256] : List Int)) := ⟨_, rfl⟩
            replace H : ((adu_joined.f (([y104, l1] : List (List Int)))).bind fun t110 => ((crc_Append.f t110).bind fun t113 => (some (t113, 0)))) = some (r1, r2) := by first | (rw [hy104]; with_reducible exact H) | (have H2_ := (Option.bind_some _ _).symm.trans H; rw [hy104]; with_reducible exact H2_) | (have H2_ := (Option.bind_some _ _).symm.trans H; with_reducible exact H2_) | with_reducible exact H | (rw [hy104]; exact H) | exact H
            have Ny104 := Aside0.mk hy104
            clear hy104
            obtain ⟨y107, hy107⟩ : ∃ y_ : List (List Int), y_ = (([y104, l1] : List (List Int))) := ⟨_, rfl⟩
            replace H : ((adu_joined.f y107).bind fun t110 => ((crc_Append.f t110).bind fun t113 => (some (t113, 0)))) = some (r1, r2) := by first | (rw [hy107]; with_reducible exact H) | (have H2_ := (Option.bind_some _ _).symm.trans H; rw [hy107]; with_reducible exact H2_) | (have H2_ := (Option.bind_some _ _).symm.trans H; with_reducible exact H2_) | with_reducible exact H | (rw [hy107]; exact H) | exact H
            have Ny107 := Aside0.mk hy107
            clear hy107
            replace H := Option.bind_eq_some_iff.mp H
            obtain ⟨t110, A80, H⟩ := H
            replace H : ((crc_Append.f t110).bind fun t113 => (some (t113, 0))) = some (r1, r2) := H
            have A8 := Aside0.mk A80
            clear A80
            replace H := Option.bind_eq_some_iff.mp H
            obtain ⟨t113, A90, H⟩ := H
            replace H : (some (t113, 0)) = some (r1, r2) := H
            have A9 := Aside0.mk A90
            clear A90
            simp only [Option.some.injEq, Prod.mk.injEq] at H
            obtain ⟨rfl, rfl⟩ := H
            go_wp2_with (first | ((with_reducible refine gate_dst (N := 23) rfl ?_); refine Kd.R_lit (Kd.int .u8) _ 5 ?hg (N := 23) ?hd (xs := ([(a0) % 256] : List Int)) (inner := [.int .u8 ((a0) % 256)]) (ok := fun _ => True) (okp := fun _ => True) ?hr ?hp (fun _ hk => hk) trivial (Below.refl _ _) (Nat.le_refl _) (by simp) ?_; (case hd => rfl); (case hg => rfl); (case hr => first | (go_simp; done) | (go_simp; rfl)); (case hp => exact (Reps.one (show Kd.M (Kd.int .u8) _ _ _ ((a0) % 256) [.int .u8 ((a0) % 256)] from rfl) (Reps.none _ _))); intro v105 w10 ho11 hb hg_ hnew_; clear hg_ hnew_; (first | rw [← Ny104.out] at ho11 | (simp only [Int.reduceToNat] at ho11; rw [← Ny104.out] at ho11)); have n0_ := Aside0.mk (Kd.V_elder' (by (with_reducible repeat (first | apply Kd.V_alloc | apply Kd.V_drewN | apply Kd.V_drew)); exact HO_1.out) (Kd.R_base ho11) hb); have n1_ := Aside0.mk (Kd.R_lower (Kd.R_newM (M := fun k_ => (w.heap.size ≤ k_)) ho11 (below_size (by repeat (first | (with_reducible first | exact HB.out | apply below_alloc | apply pw_below_drewN | apply below_drew1) | exact HB.out))) (fun k_ h_ => h_)) (below_size (by repeat (first | (with_reducible first | exact HB.out | apply below_alloc | apply pw_below_drewN | apply below_drew1) | exact HB.out)))); have n2_ := Aside0.mk (below_step (by repeat (first | (with_reducible first | exact HB.out | apply below_alloc | apply pw_below_drewN | apply below_drew1) | exact HB.out)) hb); clear HO_1; clear HB; have HO_1 := n0_; have HO106 := n1_; have HB := n2_; clear n0_ n1_ n2_; clear hb ho11; obtain ⟨Ao12, co12, eo12⟩ := Kd.R_slice HO106.out; subst eo12) | ((with_reducible refine gate_dst (N := 25) rfl ?_); refine Kd.N_lit (Kd.slice 5 (Kd.int .u8)) _ 22 ?hg (N' := 25) ?hd (xs := ([y104, l1] : List (List Int))) (inner := [.slice Ao12 y104.length co12, .slice A1 l1.length c1]) (ok := (fun k_ => (P1_ k_ ∨ w.heap.size ≤ k_))) (okp := (fun k_ => (P1_ k_ ∨ w.heap.size ≤ k_))) ?hr ?hp (fun _ hk => hk) ((show ∀ k_, w10.heap.size ≤ k_ → (fun k_ => (P1_ k_ ∨ w.heap.size ≤ k_)) k_ from fun k_ hk => (.inr (Nat.le_trans (below_size (by repeat (first | (with_reducible first | exact HB.out | apply below_alloc | apply pw_below_drewN | apply below_drew1) | exact HB.out))) hk))) _ (Nat.le_refl _)) (Below.refl _ _) (Nat.le_refl _) (by simp) ?_; (case hd => rfl); (case hg => rfl); (case hr => first | (go_simp; done) | (go_simp; rfl)); (case hp => exact (Reps.one (show Kd.FK (Kd.slice 5 (Kd.int .u8)) _ _ y104 [.slice Ao12 y104.length co12] from (Kd.FK_slice_mk (Kd.R_reads' (Kd.R_mono (ok' := (fun k_ => (P1_ k_ ∨ w.heap.size ≤ k_))) (HO106.out) (fun k_ hk => (.inr (hk.1))))).2.1 (Kd.R_F (Kd.R_mono (ok' := (fun k_ => (P1_ k_ ∨ w.heap.size ≤ k_))) (HO106.out) (fun k_ hk => (.inr (hk.1))))))) (Reps.one (show Kd.FK (Kd.slice 5 (Kd.int .u8)) _ _ l1 [.slice A1 l1.length c1] from (Kd.FK_slice_mk (Kd.V_reads' (Kd.V_mono (ok' := (fun k_ => (P1_ k_ ∨ w.heap.size ≤ k_))) (HO_1.out) (fun k_ hk => hk.1))).2.1 (Kd.V_F (Kd.V_mono (ok' := (fun k_ => (P1_ k_ ∨ w.heap.size ≤ k_))) (HO_1.out) (fun k_ hk => hk.1))))) (Reps.none _ _)))); intro v108 w13 ho14 hb hg_ hnew_; clear hg_ hnew_; (first | rw [← Ny107.out] at ho14 | (simp only [Int.reduceToNat] at ho14; rw [← Ny107.out] at ho14)); have n0_ := Aside0.mk (Kd.V_elder' (by (with_reducible repeat (first | apply Kd.V_alloc | apply Kd.V_drewN | apply Kd.V_drew)); exact HO_1.out) (Kd.N_base ho14) hb); have n1_ := Aside0.mk (Kd.N_lower ho14 (below_size (by repeat (first | (with_reducible first | exact HB.out | apply below_alloc | apply pw_below_drewN | apply below_drew1) | exact HB.out)))); have n2_ := Aside0.mk (below_step (by repeat (first | (with_reducible first | exact HB.out | apply below_alloc | apply pw_below_drewN | apply below_drew1) | exact HB.out)) hb); clear HO_1; clear HB; clear HO106; have HO_1 := n0_; have HO109 := n1_; have HB := n2_; clear n0_ n1_ n2_; clear hb ho14; obtain ⟨Ao15, co15, eo15⟩ := Kd.N_slice HO109.out; subst eo15) | ((with_reducible refine gate_callee (f := 19) rfl ?_); refine goesL_ (some 26) rfl rfl Try.func19 (by kernel_rfl) rfl #[.slice Ao15 y107.length co15] rfl (by (try simp only [List.map_toArray, List.map_cons, List.map_nil]); first | done | rfl | (simp only [List.length_drop, List.length_take]; rfl)) ?_; (with_reducible refine (adu_joined.calls _ _ y107 t110 _ ?side1 ?side2 A8.out).mono ?_); (case side1 => repeat (first | exact (Kd.N_reads' HO109.out).2.2 | (with_reducible refine Kd.C_alloc ?_ _) | (with_reducible refine Kd.C_drewN ?_ _) | (with_reducible refine Kd.C_drew ?_))); (case side2 => exact (Kd.N_reads' HO109.out).2.1); rintro e w16 ⟨v111, rfl, ho0, hb⟩; refine ⟨_, rfl, ?_⟩; have n0_ := Aside0.mk (Kd.V_elder' (by (with_reducible repeat (first | apply Kd.V_alloc | apply Kd.V_drewN | apply Kd.V_drew)); exact HO_1.out) (Kd.R_base ho0) hb); have n1_ := Aside0.mk (Kd.N_elder' (by (with_reducible repeat (first | apply Kd.N_alloc | apply Kd.N_drewN | apply Kd.N_drew)); exact HO109.out) (Kd.R_base ho0) hb); have n2_ := Aside0.mk (Kd.R_lower (Kd.R_newM (M := fun k_ => (w.heap.size ≤ k_)) ho0 (below_size (by repeat (first | (with_reducible first | exact HB.out | apply below_alloc | apply pw_below_drewN | apply below_drew1) | exact HB.out))) (fun k_ h_ => h_)) (below_size (by repeat (first | (with_reducible first | exact HB.out | apply below_alloc | apply pw_below_drewN | apply below_drew1) | exact HB.out)))); have n3_ := Aside0.mk (below_step (by repeat (first | (with_reducible first | exact HB.out | apply below_alloc | apply pw_below_drewN | apply below_drew1) | exact HB.out)) hb); clear HO_1; clear HO109; clear HB; have HO_1 := n0_; have HO109 := n1_; have HO112 := n2_; have HB := n3_; clear n0_ n1_ n2_ n3_; (try clear hb); (try clear hb2); (try clear hk); (try clear hi); (try clear ho0); obtain ⟨Ao17, co17, eo17⟩ := Kd.R_slice HO112.out; subst eo17) | ((with_reducible refine gate_callee (f := 18) rfl ?_); refine goesL_ (some 27) rfl rfl Try.func18 (by kernel_rfl) rfl #[.slice Ao17 t110.length co17] rfl (by (try simp only [List.map_toArray, List.map_cons, List.map_nil]); first | done | rfl | (simp only [List.length_drop, List.length_take]; rfl)) ?_; (with_reducible refine (crc_Append.calls _ _ t110 t113 _ ?side1 ?side2 A9.out).mono ?_); (case side1 => repeat (first | exact (Kd.R_reads' HO112.out).2.2 | (with_reducible refine Kd.C_alloc ?_ _) | (with_reducible refine Kd.C_drewN ?_ _) | (with_reducible refine Kd.C_drew ?_))); (case side2 => exact (Kd.R_reads' HO112.out).2.1); rintro e w18 ⟨v114, rfl, ho0, hb⟩; refine ⟨_, rfl, ?_⟩; have n0_ := Aside0.mk (Kd.V_elder' (by (with_reducible repeat (first | apply Kd.V_alloc | apply Kd.V_drewN | apply Kd.V_drew)); exact HO_1.out) (Kd.R_base ho0) hb); have n1_ := Aside0.mk (Kd.N_elder' (by (with_reducible repeat (first | apply Kd.N_alloc | apply Kd.N_drewN | apply Kd.N_drew)); exact HO109.out) (Kd.R_base ho0) hb); have n2_ := Aside0.mk (Kd.R_elder' (by (with_reducible repeat (first | apply Kd.R_alloc | apply Kd.R_drewN | apply Kd.R_drew)); exact HO112.out) (Kd.R_base ho0) hb); have n3_ := Aside0.mk (Kd.R_lower (Kd.R_new' (Kd.R_newM (M := fun k_ => (w.heap.size ≤ k_)) ho0 (below_size (by repeat (first | (with_reducible first | exact HB.out | apply below_alloc | apply pw_below_drewN | apply below_drew1) | exact HB.out))) (fun k_ h_ => h_)) (Kd.R_lt (by (with_reducible repeat (first | apply Kd.R_alloc | apply Kd.R_drewN | apply Kd.R_drew)); exact HO112.out))) (below_size (by repeat (first | (with_reducible first | exact HB.out | apply below_alloc | apply pw_below_drewN | apply below_drew1) | exact HB.out)))); have n4_ := Aside0.mk (below_step (by repeat (first | (with_reducible first | exact HB.out | apply below_alloc | apply pw_below_drewN | apply below_drew1) | exact HB.out)) hb); clear HO_1; clear HO109; clear HO112; clear HB; have HO_1 := n0_; have HO109 := n1_; have HO112 := n2_; have HO115 := n3_; have HB := n4_; clear n0_ n1_ n2_ n3_ n4_; (try clear hb); (try clear hb2); (try clear hk); (try clear hi); (try clear ho0)))
            go_ret2
            exact ⟨_, by first | rfl | (simp [errW_none, errW_some] <;> rfl) | (simp [*, errW_none, errW_some] <;> rfl), by (with_reducible repeat (first | apply Kd.R_alloc | apply Kd.R_drewN | apply Kd.R_drew)); exact Kd.R_mono HO115.out (fun _ hk => hk.1.1), by repeat (first | (with_reducible first | exact HB.out | apply below_alloc | apply pw_below_drewN | apply below_drew1) | exact HB.out)⟩

end Go.Proofs.Ytgagdhgjdgaeaaa.PWireFaults

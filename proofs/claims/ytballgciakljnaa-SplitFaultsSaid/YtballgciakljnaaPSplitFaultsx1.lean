-- Written by a program of this session, in the form of the kit's print, some functions by hand (N.B. not a file of print.sh's).
import Derived.Test.YtballgciakljnaaPSplitFaultsx0
namespace Go.Proofs.Ytballgciakljnaa.PSplitFaults
open Go.RowKit Go.Proofs.YtballgciakljnaaW.PrintWords Go.Proofs.YtballgciakljnaaW.PrintLast Go.Proofs.YtballgciakljnaaW.PrintMore Go.Proofs.YtballgciakljnaaM
attribute [local go_sem] max2_int min2_int max_two min_two max_three min_three max_four min_four   -- for this text's walks alone
set_option linter.unusedVariables false
set_option linter.unusedSimpArgs false

/-! ### bilgeref01_Bytes: function 29 -/
def bilgeref01_Bytes.l0 : Nat → List Int → List Int → Int → Option (Bool)
  | 0, _, _, _ => none
  | k + 1, x0, x1, x5 => if x5 < (x0.length : Int) then (if 0 ≤ x5 then (if x5 < (x1.length : Int) then (if (rd x0 x5) = (rd x1 x5) then (bilgeref01_Bytes.l0 k x0 x1 (wrap64 (x5 + 1))) else (some false)) else (none)) else (none)) else (some true)
def bilgeref01_Bytes.f (k : Nat) (l0 : List Int) (l1 : List Int) : Option (Bool) := if (l0.length : Int) = (l1.length : Int) then (bilgeref01_Bytes.l0 k l0 l1 0) else (some false)
theorem bilgeref01_Bytes.mono_l : ∀ k, (∀ y0 y1 y2, LeO (bilgeref01_Bytes.l0 k y0 y1 y2) (bilgeref01_Bytes.l0 (k + 1) y0 y1 y2))
  | 0 => fun _ _ _ r h => by simp [bilgeref01_Bytes.l0] at h
  | k + 1 => by
    have ih0 := bilgeref01_Bytes.mono_l k
    · intro y0 y1 y2
      unfold bilgeref01_Bytes.l0
      repeat' first
      | (with_reducible exact ih0 _ _ _)
      | (with_reducible exact LeO.refl _)
      | (with_reducible exact LeO.none _)
      | (with_reducible refine LeO.ite ?_ ?_)
      | (with_reducible refine LeO.bind ?_ (fun _ => ?_))
      | exact ih0 _ _ _
      | exact LeO.none _
      | refine LeO.ite ?_ ?_
      | refine LeO.bind ?_ (fun _ => ?_)
theorem bilgeref01_Bytes.mono : ∀ a0 a1 k, LeO (bilgeref01_Bytes.f k a0 a1) (bilgeref01_Bytes.f (k + 1) a0 a1) := by
  intro a0 a1 k
  have ih0 := bilgeref01_Bytes.mono_l k
  unfold bilgeref01_Bytes.f
  repeat' first
      | (with_reducible exact ih0 _ _ _)
      | (with_reducible exact LeO.refl _)
      | (with_reducible exact LeO.none _)
      | (with_reducible refine LeO.ite ?_ ?_)
      | (with_reducible refine LeO.bind ?_ (fun _ => ?_))
      | exact ih0 _ _ _
      | exact LeO.none _
      | refine LeO.ite ?_ ?_
      | refine LeO.bind ?_ (fun _ => ?_)
set_option maxHeartbeats 8000000 in
set_option maxRecDepth 100000 in
theorem bilgeref01_Bytes.calls (k : Nat) (A0 : Option Addr) (c0 : Nat) (l0 : List Int) (A1 : Option Addr) (c1 : Nat) (l1 : List Int) (r : Bool) (w : World) (hr0 : Kd.C (Kd.int .u8) w A0 l0.length l0) (hc0 : l0.length ≤ c0) (hr1 : Kd.C (Kd.int .u8) w A1 l1.length l1) (hc1 : l1.length ≤ c1) (h : bilgeref01_Bytes.f k l0 l1 = some r) :
    Calls Try.prog 29 #[.slice A0 l0.length c0, .slice A1 l1.length c1] w fun e w' => e = .returned (.bool r) ∧ Drawn0 w w' := by
  have HR0 := Aside0.mk hr0
  have HC0 := Aside0.mk hc0
  clear hr0 hc0
  have HR1 := Aside0.mk hr1
  have HC1 := Aside0.mk hc1
  clear hr1 hc1
  have H : (if (l0.length : Int) = (l1.length : Int) then (bilgeref01_Bytes.l0 k l0 l1 0) else (some false)) = some r := h
  clear h
  by_cases c3 : (l0.length : Int) = (l1.length : Int)
  · rw [if_pos c3] at H
    have c3b0 : ((l0.length : Int) == (l1.length : Int)) = true := beq_iff_eq.mpr c3
    have c3b1 : ((l0.length : Int) != (l1.length : Int)) = false := bne_eq_false_iff_eq.mpr c3
    have c3b2 : (l0.length == l1.length) = true := by first | simpa using c3 | (simp at c3 ⊢; omega)
    clear c3
    have H' := Aside0.mk H
    clear H
    go_enter Try.func29, Try.ntmps29
    go_wp2
    repeat (go_quiet (fail); try go_wp2)
    go_loopg [5] k (fun kq v5 w' => ∃ (x5_1 : Int), v5 = .int .i64 x5_1 ∧ Aside0 (bilgeref01_Bytes.l0 kq l0 l1 x5_1 = some r) ∧ Aside0 (kq ≤ k) ∧ Drawn0 w w')
    case atStart => exact ⟨(0), (by first | rfl | (simp; done) | (simp [*]; done)), H', ⟨Nat.le_refl _⟩, by repeat (first | exact Drawn0.refl _ | apply Drawn0.step)⟩
    case round =>
      clear H'
      try clear c1
      try clear c2
      try clear p2
      try clear c3
      try clear c3b0
      try clear c3b1
      try clear c3b2
      obtain ⟨x5_1, rfl, HA, HK1, ⟨m1, rfl⟩⟩ := hrel
      cases gk with
      | zero => exact absurd HA.out (by simp [bilgeref01_Bytes.l0])
      | succ k1 =>
        have H := HA.out
        clear HA
        simp only [bilgeref01_Bytes.l0] at H
        by_cases c4 : x5_1 < (l0.length : Int)
        · rw [if_pos c4] at H
          have c4b0 : decide (x5_1 < (l0.length : Int)) = true := decide_eq_true c4
          clear c4
          by_cases c5 : 0 ≤ x5_1
          · rw [if_pos c5] at H
            have c5b0 : decide (0 ≤ x5_1) = true := decide_eq_true c5
            clear c5
            by_cases c6 : x5_1 < (l1.length : Int)
            · rw [if_pos c6] at H
              have c6b0 : decide (x5_1 < (l1.length : Int)) = true := decide_eq_true c6
              clear c6
              by_cases c7 : (rd l0 x5_1) = (rd l1 x5_1)
              · rw [if_pos c7] at H
                have c7b0 : ((rd l0 x5_1) == (rd l1 x5_1)) = true := beq_iff_eq.mpr c7
                have c7b1 : ((rd l0 x5_1) != (rd l1 x5_1)) = false := bne_eq_false_iff_eq.mpr c7
                clear c7
                have H' := Aside0.mk H
                clear H
                have p101 : 0 ≤ (x5_1 : Int) := of_decide_eq_true (by first | (with_reducible assumption) | assumption)
                have q101 : x5_1 < (l0.length : Int) := of_decide_eq_true (by first | (with_reducible assumption) | assumption)
                obtain ⟨ad101, e101, hx101_0⟩ := Kd.at_int HR0.out x5_1 p101 q101
                cases e101
                replace p101 := eq_true p101
                replace q101 := eq_true q101
                have p102 : 0 ≤ (x5_1 : Int) := of_decide_eq_true (by first | (with_reducible assumption) | assumption)
                have q102 : x5_1 < (l1.length : Int) := of_decide_eq_true (by first | (with_reducible assumption) | assumption)
                obtain ⟨ad102, e102, hx102_0⟩ := Kd.at_int HR1.out x5_1 p102 q102
                cases e102
                replace p102 := eq_true p102
                replace q102 := eq_true q102
                go_wp2
                repeat (go_quiet (fail); try go_wp2)
                go_roundg k1
                case measure => have := HK1.out; omega
                case rel => exact ⟨(wrap64 (x5_1 + 1)), (by first | rfl | (simp; done) | (simp [*]; done)), H', ⟨by have := HK1.out; omega⟩, by repeat (first | exact Drawn0.refl _ | apply Drawn0.step)⟩
              · rw [if_neg c7] at H
                have c7b0 : ((rd l0 x5_1) == (rd l1 x5_1)) = false := beq_eq_false_iff_ne.mpr c7
                have c7b1 : ((rd l0 x5_1) != (rd l1 x5_1)) = true := bne_iff_ne.mpr c7
                obtain rfl := Option.some.inj H
                have p101 : 0 ≤ (x5_1 : Int) := of_decide_eq_true (by first | (with_reducible assumption) | assumption)
                have q101 : x5_1 < (l0.length : Int) := of_decide_eq_true (by first | (with_reducible assumption) | assumption)
                obtain ⟨ad101, e101, hx101_0⟩ := Kd.at_int HR0.out x5_1 p101 q101
                cases e101
                replace p101 := eq_true p101
                replace q101 := eq_true q101
                have p102 : 0 ≤ (x5_1 : Int) := of_decide_eq_true (by first | (with_reducible assumption) | assumption)
                have q102 : x5_1 < (l1.length : Int) := of_decide_eq_true (by first | (with_reducible assumption) | assumption)
                obtain ⟨ad102, e102, hx102_0⟩ := Kd.at_int HR1.out x5_1 p102 q102
                cases e102
                replace p102 := eq_true p102
                replace q102 := eq_true q102
                go_wp2
                repeat (go_quiet (fail); try go_wp2)
                go_ret
                exact ⟨by first | rfl | (simp; done) | (simp [*]; done), by repeat (first | exact Drawn0.refl _ | apply Drawn0.step)⟩
            · rw [if_neg c6] at H
              exact absurd H (by simp)
          · rw [if_neg c5] at H
            exact absurd H (by simp)
        · rw [if_neg c4] at H
          have c4b0 : decide (x5_1 < (l0.length : Int)) = false := decide_eq_false c4
          clear c4
          obtain rfl := Option.some.inj H
          go_wp2
          repeat (go_quiet (fail); try go_wp2)
          go_ret
          exact ⟨by first | rfl | (simp; done) | (simp [*]; done), by repeat (first | exact Drawn0.refl _ | apply Drawn0.step)⟩
  · rw [if_neg c3] at H
    have c3b0 : ((l0.length : Int) == (l1.length : Int)) = false := beq_eq_false_iff_ne.mpr c3
    have c3b1 : ((l0.length : Int) != (l1.length : Int)) = true := bne_iff_ne.mpr c3
    have c3b2 : (l0.length == l1.length) = false := by first | simpa using c3 | (simp at c3 ⊢; omega)
    obtain rfl := Option.some.inj H
    go_enter Try.func29, Try.ntmps29
    go_wp2
    repeat (go_quiet (fail); try go_wp2)
    go_ret
    exact ⟨by first | rfl | (simp; done) | (simp [*]; done), by repeat (first | exact Drawn0.refl _ | apply Drawn0.step)⟩

/-! ### split_check: function 130 (by hand) -/
set_option maxRecDepth 100000 in
theorem check_1 (w : World) : Calls Try.prog 130 #[.int .i64 1] w fun e w' => e = .returned (.func (.func 132) #[] #[]) ∧ Drawn0 w w' := by
  go_enter Try.func130, Try.ntmps130
  go_wp2_with fail
  go_ret
  exact ⟨rfl, Drawn0.refl _⟩
set_option maxRecDepth 100000 in
theorem check_2 (w : World) : Calls Try.prog 130 #[.int .i64 2] w fun e w' => e = .returned (.func (.func 133) #[] #[]) ∧ Drawn0 w w' := by
  go_enter Try.func130, Try.ntmps130
  go_wp2_with fail
  go_ret
  exact ⟨rfl, Drawn0.refl _⟩
set_option maxRecDepth 100000 in
theorem check_3 (w : World) : Calls Try.prog 130 #[.int .i64 3] w fun e w' => e = .returned (.func (.func 170) #[] #[]) ∧ Drawn0 w w' := by
  go_enter Try.func130, Try.ntmps130
  go_wp2_with fail
  go_ret
  exact ⟨rfl, Drawn0.refl _⟩
set_option maxRecDepth 100000 in
theorem check_4 (w : World) : Calls Try.prog 130 #[.int .i64 4] w fun e w' => e = .returned (.func (.func 134) #[] #[]) ∧ Drawn0 w w' := by
  go_enter Try.func130, Try.ntmps130
  go_wp2_with fail
  go_ret
  exact ⟨rfl, Drawn0.refl _⟩
set_option maxRecDepth 100000 in
theorem check_5 (w : World) : Calls Try.prog 130 #[.int .i64 5] w fun e w' => e = .returned (.func (.func 135) #[] #[]) ∧ Drawn0 w w' := by
  go_enter Try.func130, Try.ntmps130
  go_wp2_with fail
  go_ret
  exact ⟨rfl, Drawn0.refl _⟩

/-! ### crc_table_fill: function 186 (by hand) -/
/-- The table: what each of the first n bytes comes to. -/
def crcTab (w : World) (g n : Nat) : Prop := ∃ cs : Array Value, w.heap[g]? = some (.cells cs 265 (0, 0)) ∧ cs.size = 256 ∧ ∀ i < n, cs[i]? = some (.int .u16 (pBy 0 i : Nat))
theorem crc_pbs (k r b : Nat) : pbs (k + 1) r b = pb (pbs k r b) (b / 2 ^ k % 2) := by
  induction k generalizing r b with
  | zero => simp [pbs]
  | succ k ih =>
    rw [show pbs (k + 1 + 1) r b = pbs (k + 1) (pb r (b % 2)) (b / 2) from rfl, ih, show pbs (k + 1) r b = pbs k (pb r (b % 2)) (b / 2) from rfl, Nat.div_div_eq_div_mul, Nat.pow_succ, Nat.mul_comm 2]
theorem crc_and (r : Nat) (hr : r < 65536) : bits .and .u16 (r : Int) 1 = ((r % 2 : Nat) : Int) := by
  have := u16_and_nat r 1 hr (by omega)
  rw [Nat.and_one_is_mod] at this
  simpa using this
theorem crc_odd (r : Nat) (hr : r < 65536) (h : r % 2 = 1) : bits .xor .u16 ((r : Int) / 2) 40961 = (pb r 0 : Nat) := by
  have hy : bits .xor .u16 ((r / 2 : Nat) : Int) 40961 = ((r / 2 ^^^ 40961 : Nat) : Int) := u16_xor_nat (r / 2) 40961 (by omega) (by omega)
  rw [show (r : Int) / 2 = ((r / 2 : Nat) : Int) by omega, hy]
  unfold pb
  rw [Nat.xor_zero, if_pos h]
theorem crc_even (r : Nat) (h : ¬ r % 2 = 1) : (r : Int) / 2 = (pb r 0 : Nat) := by
  unfold pb
  rw [Nat.xor_zero, if_neg h, Nat.xor_zero]; omega
set_option maxRecDepth 100000 in
theorem crc_fill (g : Nat) (cs : Array Value) (w : World) (hg : w.heap[g]? = some (.cells cs 265 (0, 0))) (hsz : cs.size = 256) (hu : ∀ i < 256, cs[i]? = some (.int .u16 0)) :
    Calls Try.prog 186 #[.pointer (some ⟨g, 0, none⟩)] w fun e w' => e = .returned (.tuple #[]) ∧ crcTab w' g 256 ∧ w.grownBy w' (some g) := by
  have HG := Aside0.mk hg
  have HS := Aside0.mk hsz
  have HU := Aside0.mk hu
  clear hg hsz hu
  go_enter Try.func186, Try.ntmps186
  go_wp2
  go_loopw [5] (fun v5 wr => ∃ k : Nat, k ≤ 256 ∧ v5 = .int .i64 k ∧ Aside0 (∃ cr : Array Value, wr.heap[g]? = some (.cells cr 265 (0, 0)) ∧ cr.size = 256 ∧ (∀ i < k, cr[i]? = some (.int .u16 (pBy 0 i : Nat))) ∧ ∀ i < 256, k ≤ i → cr[i]? = some (.int .u16 0)) ∧ Aside0 (w.grownBy wr (some g))) (fun v5 _ => 256 - (intOf v5).toNat)
  case atStart => exact ⟨0, Nat.zero_le _, rfl, ⟨cs, HG.out, HS.out, fun i hi => absurd hi (by omega), fun i hi _ => HU.out i hi⟩, ⟨World.grownBy.refl _ _⟩⟩
  case round =>
    obtain ⟨k, hk, rfl, HB, HW⟩ := hrel
    by_cases hlt : k < 256
    · go_wp2
      go_loopw [10, 3] (fun v10 v3 w2 => ∃ j : Nat, j ≤ 8 ∧ v10 = .int .i64 j ∧ v3 = .int .u16 (pbs j k 0 : Nat) ∧ w2 = wr) (fun v10 _ _ => 8 - (intOf v10).toNat)
      case atStart => exact ⟨0, Nat.zero_le _, rfl, rfl, rfl⟩
      case round =>
        obtain ⟨j, hj, rfl, rfl, rfl⟩ := hrel
        by_cases hlt2 : j < 8
        · have hm : pbs j k 0 < 65536 := pbs_lt j (by omega)
          have hs : pbs (j + 1) k 0 = pb (pbs j k 0) 0 := by rw [crc_pbs, Nat.zero_div]
          generalize pbs j k 0 = m at *
          by_cases h : m % 2 = 1
          · have hd : (bits .and .u16 (m : Int) 1 == 1) = true := by rw [crc_and m hm, h]; rfl
            go_wp2
            go_roundw
            case rel => exact ⟨j + 1, by omega, by go_num, by rw [hs, crc_odd m hm h], trivial⟩
            case measure => simp [intOf]; omega
          · have hd : (bits .and .u16 (m : Int) 1 == 1) = false := by rw [crc_and m hm, show m % 2 = 0 by omega]; rfl
            go_wp2
            go_roundw
            case rel => exact ⟨j + 1, by omega, by go_num, by rw [hs, crc_even m h], trivial⟩
            case measure => simp [intOf]; omega
        · have : j = 8 := by omega
          subst this
          obtain ⟨cr, h1, h2, h3, h4⟩ := HB.out
          have H1 := Aside0.mk h1
          have H2 := Aside0.mk h2
          have H3 := Aside0.mk h3
          have H4 := Aside0.mk h4
          have hc := blk_cell h1 k
          rw [h4 k hlt (Nat.le_refl _)] at hc
          have hz := blk_frozen h1 k
          clear h1 h2 h3 h4 HB
          go_wp2
          go_roundw
          case rel =>
            refine ⟨k + 1, by omega, by go_num, ⟨_, set_blk H1.out k _, by rw [Array.size_setIfInBounds]; exact H2.out, fun i hi => ?_, fun i hi hki => ?_⟩, ⟨grown_set HW.out k _⟩⟩
            · by_cases e : i = k
              · subst e
                rw [Array.getElem?_setIfInBounds_self_of_lt (by rw [H2.out]; exact hlt), ← pBy_tab hlt]; rfl
              · rw [Array.getElem?_setIfInBounds_ne (by omega)]; exact H3.out i (by omega)
            · rw [Array.getElem?_setIfInBounds_ne (by omega)]; exact H4.out i hi (by omega)
          case measure => simp [intOf]; omega
    · have : k = 256 := by omega
      subst this
      go_wp2
      go_end0
      obtain ⟨cr, h1, h2, h3, _⟩ := HB.out
      exact ⟨rfl, ⟨cr, h1, h2, h3⟩, HW.out⟩

/-! ### crc_made: function 178 (by hand) -/
set_option maxRecDepth 100000 in
theorem crc_made (w : World) : Calls Try.prog 178 #[] w fun e w' => e = .returned (.pointer (some ⟨w.heap.size, 0, none⟩)) ∧ crcTab w' w.heap.size 256 ∧ Below w.heap.size w w' := by
  go_enter Try.func178, Try.ntmps178
  go_wp2_with fail
  have hz : Try.zeroCells265 = Array.replicate 256 (Value.int .u16 0) := by kernel_rfl
  rw [hz]
  refine (crc_fill w.heap.size _ _ (blk_new w _) (by rw [Array.size_replicate]) (fun i hi => by rw [Array.getElem?_replicate, if_pos hi])).mono ?_
  rintro e w' ⟨rfl, ht, hg⟩
  have HT := Aside0.mk ht
  have HG := Aside0.mk hg
  clear ht hg hz
  go_wp2
  go_ret
  exact ⟨rfl, HT.out, below_of_new HG.out⟩
theorem crcTab_below {w w1 : World} {g : Nat} (h : crcTab w g 256) (hb : Below w.heap.size w w1) : crcTab w1 g 256 := by
  obtain ⟨cs, h1, h2, h3⟩ := h
  exact ⟨cs, (hb.block g (blk_lt h1)).trans h1, h2, h3⟩

/-! ### crc_Sum: function 152 (by hand) -/
set_option maxRecDepth 100000 in
theorem crc_update (c b g : Nat) (w : World) (hc : c < 65536) (hb : b < 256) (hg : crcTab w g 256) :
    Calls Try.prog 179 #[.pointer (some ⟨g, 0, none⟩), .int .u16 (c : Int), .int .u8 (b : Int)] w fun e w' => e = .returned (.int .u16 (pBy c b : Nat)) ∧ Below w.heap.size w w' := by
  obtain ⟨cs, h1, h2, h3⟩ := hg
  have hx : bits .xor .u8 ((c : Int) % 256) (b : Int) = ((c % 256 ^^^ b : Nat) : Int) := by
    rw [show (c : Int) % 256 = ((c % 256 : Nat) : Int) by omega]
    exact u8_xor_nat _ _ (by omega) hb
  have hq : c % 256 ^^^ b < 256 := Nat.xor_lt_two_pow (n := 8) (by omega) hb
  have hy : bits .xor .u16 ((c : Int) / 256) ((pBy 0 (c % 256 ^^^ b) : Nat) : Int) = ((pBy c b : Nat) : Int) := by
    rw [pBy_shift hc, show (c : Int) / 256 = ((c / 256 : Nat) : Int) by omega]
    exact u16_xor_nat _ _ (by omega) (pBy_lt (by omega))
  have hcell := blk_cell h1 (c % 256 ^^^ b)
  rw [h3 _ hq] at hcell
  have hz := blk_frozen h1 (c % 256 ^^^ b)
  clear h1 h2 h3
  generalize c % 256 ^^^ b = q at *
  have b1 : (0 : Int) ≤ (q : Int) := by omega
  have b2 : (q : Int) < 256 := by omega
  go_enter Try.func179, Try.ntmps179
  go_wp2
  go_ret
  exact ⟨rfl, Below.refl _ _⟩
def crc_Sum.f (l0 : List Int) : Option Int := if ∀ x ∈ l0, 0 ≤ x ∧ x ≤ 255 then some (pRem 65535 l0 : Nat) else none
set_option maxRecDepth 100000 in
theorem crc_Sum.calls (A0 : Option Addr) (c0 : Nat) (l0 : List Int) (r : Int) (w : World) (hr0 : Kd.C (Kd.int .u8) w A0 l0.length l0) (hc0 : l0.length ≤ c0) (h : crc_Sum.f l0 = some r) :
    Calls Try.prog 152 #[.slice A0 l0.length c0] w fun e w' => e = .returned (.int .u16 r) ∧ Below w.heap.size w w' := by
  unfold crc_Sum.f at h
  split at h
  case isFalse => cases h
  case isTrue hb =>
  obtain rfl := Option.some.inj h
  have hn : l0.length ≤ 9223372036854775807 := Kd.C_max hr0
  have HR0 := Aside0.mk hr0
  have HB := Aside0.mk hb
  clear h hb hr0 hc0
  go_enter Try.func152, Try.ntmps152
  go_wp2_with (go_at_call 178; refine (crc_made _).mono ?_)
  rintro e w' ⟨rfl, ht, hg⟩
  have HT := Aside0.mk ht
  have HG := Aside0.mk hg
  clear ht hg
  go_wp2
  go_loopw [11, 5] (fun v11 v5 wr => ∃ k : Nat, k ≤ l0.length ∧ v11 = .int .i64 k ∧ v5 = .int .u16 (pRem 65535 (l0.take k) : Nat) ∧ Aside0 (crcTab wr w.heap.size 256) ∧ Aside0 (Below w.heap.size w wr)) (fun v11 _ _ => l0.length - (intOf v11).toNat)
  case atStart => exact ⟨0, Nat.zero_le _, rfl, rfl, HT, HG⟩
  case round =>
    obtain ⟨k, hk, rfl, rfl, HT2, HG2⟩ := hrel
    clear HT HG
    by_cases hlt : k < l0.length
    · obtain ⟨ad, e1, hx⟩ := Kd.at_int (Kd.C_below HR0.out HG2.out) k (by omega) (by omega)
      cases e1
      have hbd := HB.out (l0[k]) (List.getElem_mem _)
      obtain ⟨x, hxe⟩ := Int.eq_ofNat_of_zero_le hbd.1
      have hx8 : x < 256 := by omega
      have hrd : rd l0 k = (x : Int) := by rw [show rd l0 k = l0.getD k 0 by simp [rd], getD_at l0 k hlt, hxe]
      have HS := Aside0.mk (show pBy (pRem 65535 (l0.take k)) x = pRem 65535 (l0.take (k + 1)) by rw [take_snoc l0 k hlt, pRem_snoc, hxe, Int.toNat_natCast])
      have HM := Aside0.mk (show pRem 65535 (l0.take k) < 65536 from pRem_lt _ (by omega))
      simp only [Int.toNat_natCast, hrd] at hx
      clear hbd hxe hrd
      generalize pRem 65535 (l0.take k) = m at *
      go_wp2_with (go_at_call 179; refine (crc_update m x _ _ HM.out hx8 HT2.out).mono ?_)
      rintro e w2 ⟨rfl, hg⟩
      have HG3 := Aside0.mk hg
      clear hg
      go_wp2
      go_roundw
      case rel => exact ⟨k + 1, by omega, by go_num, by rw [HS.out], ⟨crcTab_below HT2.out HG3.out⟩, ⟨HG2.out.trans (HG3.out.mono HG2.out.size)⟩⟩
      case measure => simp [intOf]; omega
    · have : k = l0.length := by omega
      subst this
      go_wp2
      go_ret
      exact ⟨congrArg (fun z => Ending.returned (.int .u16 (pRem 65535 z : Nat))) (List.take_length (l := l0)), HG2.out⟩

/-! ### crc_Check: function 169 -/
def crc_Check.f (l0 : List Int) : Option (Bool) := if (l0.length : Int) ≥ 2 then ((crc_Sum.f l0).bind fun t103 => (some (t103 == 0))) else (some false)
set_option maxHeartbeats 8000000 in
set_option maxRecDepth 100000 in
theorem crc_Check.calls (A0 : Option Addr) (c0 : Nat) (l0 : List Int) (r : Bool) (w : World) (hr0 : Kd.C (Kd.int .u8) w A0 l0.length l0) (hc0 : l0.length ≤ c0) (h : crc_Check.f l0 = some r) :
    Calls Try.prog 169 #[.slice A0 l0.length c0] w fun e w' => e = .returned (.bool r) ∧ Below w.heap.size w w' := by
  have HR0 := Aside0.mk hr0
  have HC0 := Aside0.mk hc0
  clear hr0 hc0
  have HB := Aside0.mk (Below.refl w.heap.size w)
  have H : (if (l0.length : Int) ≥ 2 then ((crc_Sum.f l0).bind fun t103 => (some (t103 == 0))) else (some false)) = some r := h
  clear h
  by_cases c2 : (l0.length : Int) ≥ 2
  · rw [if_pos c2] at H
    have c2b0 : decide (2 ≤ (l0.length : Int)) = true := decide_eq_true c2
    have c2b1 : decide (2 ≤ l0.length) = true := decide_eq_true (by omega)
    clear c2
    replace H := Option.bind_eq_some_iff.mp H
    obtain ⟨t103, A30, H⟩ := H
    replace H : (some (t103 == 0)) = some r := H
    have A3 := Aside0.mk A30
    clear A30
    obtain rfl := Option.some.inj H
    go_enter Try.func169, Try.ntmps169
    go_wp2_with (first | (go_at_call 152; (with_reducible refine (crc_Sum.calls _ _ l0 t103 _ ?side1 ?side2 A3.out).mono ?_); (case side1 => repeat (first | exact HR0.out | (with_reducible refine Kd.C_alloc ?_ _) | (with_reducible refine Kd.C_drewN ?_ _) | (with_reducible refine Kd.C_drew ?_))); (case side2 => exact HC0.out); rintro e w4 ⟨rfl, hb⟩; have n0_ := Aside0.mk (below_step (by repeat (first | (with_reducible first | exact HB.out | apply below_alloc | apply pw_below_drewN | apply below_drew1) | exact HB.out)) hb); clear HB; have HB := n0_; clear n0_; (try clear hb); (try clear hb2); (try clear hk); (try clear hi)))
    go_ret
    exact ⟨by first | rfl | (simp [errW_none, errW_some] <;> rfl) | (simp [*, errW_none, errW_some] <;> rfl), by repeat (first | (with_reducible first | exact HB.out | apply below_alloc | apply pw_below_drewN | apply below_drew1) | exact HB.out)⟩
  · rw [if_neg c2] at H
    have c2b0 : decide (2 ≤ (l0.length : Int)) = false := decide_eq_false c2
    have c2b1 : decide (2 ≤ l0.length) = false := decide_eq_false (by omega)
    clear c2
    obtain rfl := Option.some.inj H
    go_enter Try.func169, Try.ntmps169
    go_wp2
    go_ret
    exact ⟨by first | rfl | (simp [errW_none, errW_some] <;> rfl) | (simp [*, errW_none, errW_some] <;> rfl), by repeat (first | (with_reducible first | exact HB.out | apply below_alloc | apply pw_below_drewN | apply below_drew1) | exact HB.out)⟩

-- ((*bilge/split.seg).sum: by hand, above)

/-! ### split_Fault: function 62 (by hand) -/
set_option maxRecDepth 100000 in
theorem seg_over (g : Nat) (f3 : Int) (w : World) (h : w.cell? ⟨g, 3, none⟩ = some (.int .i64 f3)) : Calls Try.prog 132 #[.pointer (some ⟨g, 0, none⟩)] w fun e w' => e = .returned (.bool (decide (256 < f3))) ∧ Drawn0 w w' := by
  go_enter Try.func132, Try.ntmps132
  go_wp2_with fail
  go_ret
  exact ⟨rfl, Drawn0.refl _⟩
set_option maxRecDepth 100000 in
theorem seg_spoilt (g : Nat) (f5 : Bool) (w : World) (h : w.cell? ⟨g, 5, none⟩ = some (.bool f5)) : Calls Try.prog 133 #[.pointer (some ⟨g, 0, none⟩)] w fun e w' => e = .returned (.bool f5) ∧ Drawn0 w w' := by
  go_enter Try.func133, Try.ntmps133
  go_wp2_with fail
  go_ret
  exact ⟨rfl, Drawn0.refl _⟩
set_option maxRecDepth 100000 in
theorem seg_torn (g : Nat) (f4 : Bool) (w : World) (h : w.cell? ⟨g, 4, none⟩ = some (.bool f4)) : Calls Try.prog 170 #[.pointer (some ⟨g, 0, none⟩)] w fun e w' => e = .returned (.bool f4) ∧ Drawn0 w w' := by
  go_enter Try.func170, Try.ntmps170
  go_wp2_with fail
  go_ret
  exact ⟨rfl, Drawn0.refl _⟩
set_option maxRecDepth 100000 in
theorem seg_short (g : Nat) (A : Option Addr) (n c : Nat) (w : World) (h : w.cell? ⟨g, 0, none⟩ = some (.slice A n c)) : Calls Try.prog 134 #[.pointer (some ⟨g, 0, none⟩)] w fun e w' => e = .returned (.bool (decide ((n : Int) < 4))) ∧ Drawn0 w w' := by
  go_enter Try.func134, Try.ntmps134
  go_wp2_with fail
  go_ret
  exact ⟨rfl, Drawn0.refl _⟩
set_option maxRecDepth 100000 in
theorem seg_sum (g : Nat) (A : Option Addr) (c : Nat) (l : List Int) (r : Bool) (w : World) (h : w.cell? ⟨g, 0, none⟩ = some (.slice A l.length c)) (hC : Kd.C (Kd.int .u8) w A l.length l) (hc : l.length ≤ c) (hr : crc_Check.f l = some r) :
    Calls Try.prog 135 #[.pointer (some ⟨g, 0, none⟩)] w fun e w' => e = .returned (.bool (!r)) ∧ Below w.heap.size w w' := by
  have HC := Aside0.mk hC
  have HL := Aside0.mk hc
  have HR := Aside0.mk hr
  clear hC hc hr
  go_enter Try.func135, Try.ntmps135
  go_wp2_with fail
  refine (crc_Check.calls A c l r w HC.out HL.out HR.out).mono ?_
  rintro e w' ⟨rfl, hb⟩
  have HB := Aside0.mk hb
  clear hb
  go_wp2_with fail
  go_ret
  exact ⟨rfl, HB.out⟩
def split_Fault.f (l0_0 : List Int) (a0_1 : Int) (a0_2 : Int) (a0_3 : Int) (a0_4 : Bool) (a0_5 : Bool) : Option Int := if a0_3 > 256 then some 1 else if a0_5 = true then some 2 else if a0_4 = true then some 3 else if (l0_0.length : Int) < 4 then some 4 else (crc_Check.f l0_0).bind fun c => if c = true then some 0 else some 5
set_option maxHeartbeats 8000000 in
set_option maxRecDepth 100000 in
theorem split_Fault.calls (A0_0 : Option Addr) (c0_0 : Nat) (l0_0 : List Int) (a0_1 : Int) (a0_2 : Int) (a0_3 : Int) (a0_4 : Bool) (a0_5 : Bool) (r : Int) (w : World) (hr0_0 : Kd.C (Kd.int .u8) w A0_0 l0_0.length l0_0) (hc0_0 : l0_0.length ≤ c0_0) (h : split_Fault.f l0_0 a0_1 a0_2 a0_3 a0_4 a0_5 = some r) :
    Calls Try.prog 62 #[.agg #[.slice A0_0 l0_0.length c0_0, .int .i64 a0_1, .int .i64 a0_2, .int .i64 a0_3, .bool a0_4, .bool a0_5]] w fun e w' => e = .returned (.int .i64 r) ∧ Below w.heap.size w w' := by
  have HC := Aside0.mk hr0_0
  have HC0 := Aside0.mk hc0_0
  have H := Aside0.mk h
  clear hr0_0 hc0_0 h
  obtain ⟨N, hN⟩ : ∃ N, l0_0.length = N := ⟨_, rfl⟩
  have HN := Aside0.mk hN
  rw [hN]
  clear hN
  go_enter Try.func62, Try.ntmps62
  go_upto_region 2 with (fail)
  have b1 : ((w.alloc (.cells #[.slice A0_0 N c0_0, .int .i64 a0_1, .int .i64 a0_2, .int .i64 a0_3, .bool a0_4, .bool a0_5] 122 (0, 0))).alloc (.cells #[.slice A0_0 N c0_0, .int .i64 a0_1, .int .i64 a0_2, .int .i64 a0_3, .bool a0_4, .bool a0_5] 217 (0, 0))).heap[w.heap.size + 1]? = some (.cells #[.slice A0_0 N c0_0, .int .i64 a0_1, .int .i64 a0_2, .int .i64 a0_3, .bool a0_4, .bool a0_5] 217 (0, 0)) := by
    have := blk_new (w.alloc (.cells #[.slice A0_0 N c0_0, .int .i64 a0_1, .int .i64 a0_2, .int .i64 a0_3, .bool a0_4, .bool a0_5] 122 (0, 0))) (.cells #[.slice A0_0 N c0_0, .int .i64 a0_1, .int .i64 a0_2, .int .i64 a0_3, .bool a0_4, .bool a0_5] 217 (0, 0))
    rwa [World.size_alloc] at this
  have hB : Below w.heap.size w ((w.alloc (.cells #[.slice A0_0 N c0_0, .int .i64 a0_1, .int .i64 a0_2, .int .i64 a0_3, .bool a0_4, .bool a0_5] 122 (0, 0))).alloc (.cells #[.slice A0_0 N c0_0, .int .i64 a0_1, .int .i64 a0_2, .int .i64 a0_3, .bool a0_4, .bool a0_5] 217 (0, 0))) := ((Below.refl _ w).alloc (Nat.le_refl _) _).alloc (by simp) _
  obtain ⟨W0, hW0⟩ : ∃ W0, ((w.alloc (.cells #[.slice A0_0 N c0_0, .int .i64 a0_1, .int .i64 a0_2, .int .i64 a0_3, .bool a0_4, .bool a0_5] 122 (0, 0))).alloc (.cells #[.slice A0_0 N c0_0, .int .i64 a0_1, .int .i64 a0_2, .int .i64 a0_3, .bool a0_4, .bool a0_5] 217 (0, 0))) = W0 := ⟨_, rfl⟩
  obtain ⟨g, hg⟩ : ∃ g, w.heap.size + 1 = g := ⟨_, rfl⟩
  rw [hW0, hg] at b1
  rw [hW0] at hB
  rw [hW0, hg]
  have HB0 := Aside0.mk b1
  have HBB0 := Aside0.mk hB
  clear hW0 hg b1 hB
  go_wp2_with fail
  go_loopw [4] (fun v4 wr => ∃ i : Int, 1 ≤ i ∧ i ≤ 6 ∧ v4 = .int .i64 i ∧ Aside0 (wr.heap[g]? = some (.cells #[.slice A0_0 N c0_0, .int .i64 a0_1, .int .i64 a0_2, .int .i64 a0_3, .bool a0_4, .bool a0_5] 217 (0, 0))) ∧ Aside0 (Below w.heap.size w wr) ∧
      Aside0 ((if i ≤ 1 ∧ a0_3 > 256 then some 1 else if i ≤ 2 ∧ a0_5 = true then some 2 else if i ≤ 3 ∧ a0_4 = true then some 3 else if i ≤ 4 ∧ (N : Int) < 4 then some 4 else if i ≤ 5 then (crc_Check.f l0_0).bind fun c => if c = true then some 0 else some 5 else some (0 : Int)) = some r)) (fun v4 _ => 6 - (intOf v4).toNat)
  case atStart =>
    refine ⟨1, by omega, by omega, rfl, HB0, HBB0, ⟨?_⟩⟩
    have h := H.out
    unfold split_Fault.f at h
    rw [HN.out] at h
    simpa using h
  case round =>
    clear HB0 HBB0 H
    obtain ⟨i, hi1, hi6, rfl, HB0, HBB0, HE⟩ := hrel
    have h0 : wr.cell? ⟨g, 0, none⟩ = some (.slice A0_0 N c0_0) := (blk_cell HB0.out 0).trans rfl
    have h3 : wr.cell? ⟨g, 3, none⟩ = some (.int .i64 a0_3) := (blk_cell HB0.out 3).trans rfl
    have h4 : wr.cell? ⟨g, 4, none⟩ = some (.bool a0_4) := (blk_cell HB0.out 4).trans rfl
    have h5 : wr.cell? ⟨g, 5, none⟩ = some (.bool a0_5) := (blk_cell HB0.out 5).trans rfl
    have h6 : i = 1 ∨ i = 2 ∨ i = 3 ∨ i = 4 ∨ i = 5 ∨ i = 6 := by omega
    clear hi1 hi6
    rcases h6 with rfl | rfl | rfl | rfl | rfl | rfl
    · have he := HE.out
      by_cases hc : a0_3 > 256
      · have HX := Aside0.mk hc
        rw [if_pos ⟨by omega, hc⟩] at he
        obtain rfl := Option.some.inj he
        have d1 : decide (256 < a0_3) = true := decide_eq_true hc
        clear he hc HE
        go_wp2_with fail
        refine (check_1 _).mono ?_
        rintro e w1 ⟨rfl, ⟨n1, rfl⟩⟩
        go_wp2_with fail
        refine (seg_over g a0_3 (wr.drewN n1) h3).mono ?_
        rintro e w1 ⟨rfl, ⟨n2, rfl⟩⟩
        go_wp2_with fail
        go_ret
        exact ⟨rfl, pw_below_drewN HBB0.out _⟩
      · have HX := Aside0.mk hc
        rw [if_neg (fun h => hc h.2)] at he
        have HE2 := Aside0.mk he
        have d1 : decide (256 < a0_3) = false := decide_eq_false hc
        clear he hc HE
        go_wp2_with fail
        refine (check_1 _).mono ?_
        rintro e w1 ⟨rfl, ⟨n1, rfl⟩⟩
        go_wp2_with fail
        refine (seg_over g a0_3 (wr.drewN n1) h3).mono ?_
        rintro e w1 ⟨rfl, ⟨n2, rfl⟩⟩
        go_wp2_with fail
        go_roundw
        case rel =>
          refine ⟨2, by omega, by omega, by go_num, HB0, ⟨pw_below_drewN HBB0.out _⟩, ⟨?_⟩⟩
          have he := HE2.out
          simpa using he
        case measure =>
          show 6 - ((2 : Int)).toNat < 6 - ((1 : Int)).toNat
          decide
    · have he := HE.out
      by_cases hc : a0_5 = true
      · have HX := Aside0.mk hc
        rw [if_neg (by omega), if_pos ⟨by omega, hc⟩] at he
        obtain rfl := Option.some.inj he
        have h5t := h5
        rw [hc] at h5t
        clear he hc HE
        go_wp2_with fail
        refine (check_2 _).mono ?_
        rintro e w1 ⟨rfl, ⟨n1, rfl⟩⟩
        go_wp2_with fail
        refine (seg_spoilt g true (wr.drewN n1) h5t).mono ?_
        rintro e w1 ⟨rfl, ⟨n2, rfl⟩⟩
        go_wp2_with fail
        go_ret
        exact ⟨rfl, pw_below_drewN HBB0.out _⟩
      · have HX := Aside0.mk hc
        rw [if_neg (by omega), if_neg (fun h => hc h.2)] at he
        have HE2 := Aside0.mk he
        have h5t := h5
        rw [show a0_5 = false by simpa using hc] at h5t
        clear he hc HE
        go_wp2_with fail
        refine (check_2 _).mono ?_
        rintro e w1 ⟨rfl, ⟨n1, rfl⟩⟩
        go_wp2_with fail
        refine (seg_spoilt g false (wr.drewN n1) h5t).mono ?_
        rintro e w1 ⟨rfl, ⟨n2, rfl⟩⟩
        go_wp2_with fail
        go_roundw
        case rel =>
          refine ⟨3, by omega, by omega, by go_num, HB0, ⟨pw_below_drewN HBB0.out _⟩, ⟨?_⟩⟩
          have he := HE2.out
          simpa using he
        case measure =>
          show 6 - ((3 : Int)).toNat < 6 - ((2 : Int)).toNat
          decide
    · have he := HE.out
      by_cases hc : a0_4 = true
      · have HX := Aside0.mk hc
        rw [if_neg (by omega), if_neg (by omega), if_pos ⟨by omega, hc⟩] at he
        obtain rfl := Option.some.inj he
        have h4t := h4
        rw [hc] at h4t
        clear he hc HE
        go_wp2_with fail
        refine (check_3 _).mono ?_
        rintro e w1 ⟨rfl, ⟨n1, rfl⟩⟩
        go_wp2_with fail
        refine (seg_torn g true (wr.drewN n1) h4t).mono ?_
        rintro e w1 ⟨rfl, ⟨n2, rfl⟩⟩
        go_wp2_with fail
        go_ret
        exact ⟨rfl, pw_below_drewN HBB0.out _⟩
      · have HX := Aside0.mk hc
        rw [if_neg (by omega), if_neg (by omega), if_neg (fun h => hc h.2)] at he
        have HE2 := Aside0.mk he
        have h4t := h4
        rw [show a0_4 = false by simpa using hc] at h4t
        clear he hc HE
        go_wp2_with fail
        refine (check_3 _).mono ?_
        rintro e w1 ⟨rfl, ⟨n1, rfl⟩⟩
        go_wp2_with fail
        refine (seg_torn g false (wr.drewN n1) h4t).mono ?_
        rintro e w1 ⟨rfl, ⟨n2, rfl⟩⟩
        go_wp2_with fail
        go_roundw
        case rel =>
          refine ⟨4, by omega, by omega, by go_num, HB0, ⟨pw_below_drewN HBB0.out _⟩, ⟨?_⟩⟩
          have he := HE2.out
          simpa using he
        case measure =>
          show 6 - ((4 : Int)).toNat < 6 - ((3 : Int)).toNat
          decide
    · have he := HE.out
      by_cases hc : (N : Int) < 4
      · have HX := Aside0.mk hc
        rw [if_neg (by omega), if_neg (by omega), if_neg (by omega), if_pos ⟨by omega, hc⟩] at he
        obtain rfl := Option.some.inj he
        have d1 : decide ((N : Int) < 4) = true := decide_eq_true hc
        clear he hc HE
        go_wp2_with fail
        refine (check_4 _).mono ?_
        rintro e w1 ⟨rfl, ⟨n1, rfl⟩⟩
        go_wp2_with fail
        refine (seg_short g A0_0 N c0_0 (wr.drewN n1) h0).mono ?_
        rintro e w1 ⟨rfl, ⟨n2, rfl⟩⟩
        go_wp2_with fail
        go_ret
        exact ⟨rfl, pw_below_drewN HBB0.out _⟩
      · have HX := Aside0.mk hc
        rw [if_neg (by omega), if_neg (by omega), if_neg (by omega), if_neg (fun h => hc h.2)] at he
        have HE2 := Aside0.mk he
        have d1 : decide ((N : Int) < 4) = false := decide_eq_false hc
        clear he hc HE
        go_wp2_with fail
        refine (check_4 _).mono ?_
        rintro e w1 ⟨rfl, ⟨n1, rfl⟩⟩
        go_wp2_with fail
        refine (seg_short g A0_0 N c0_0 (wr.drewN n1) h0).mono ?_
        rintro e w1 ⟨rfl, ⟨n2, rfl⟩⟩
        go_wp2_with fail
        go_roundw
        case rel =>
          refine ⟨5, by omega, by omega, by go_num, HB0, ⟨pw_below_drewN HBB0.out _⟩, ⟨?_⟩⟩
          have he := HE2.out
          simpa using he
        case measure =>
          show 6 - ((5 : Int)).toNat < 6 - ((4 : Int)).toNat
          decide
    · have he := HE.out
      rw [if_neg (by omega), if_neg (by omega), if_neg (by omega), if_neg (by omega), if_pos (by omega)] at he
      obtain ⟨c, hc, he⟩ := Option.bind_eq_some_iff.1 he
      have HCC := Aside0.mk hc
      have HE2 := Aside0.mk he
      clear he hc HE
      go_wp2_with fail
      refine (check_5 _).mono ?_
      rintro e w1 ⟨rfl, ⟨n1, rfl⟩⟩
      go_wp2_with fail
      refine (seg_sum g A0_0 c0_0 l0_0 c (wr.drewN n1) (by rw [HN.out]; exact h0) (Kd.C_below HC.out (pw_below_drewN HBB0.out n1)) HC0.out HCC.out).mono ?_
      rintro e w2 ⟨rfl, hb2⟩
      have hb3 := (pw_below_drewN HBB0.out n1).trans (hb2.mono (pw_below_drewN HBB0.out n1).size)
      have h7 := blk_below (w := wr.drewN n1) HB0.out hb2
      have HB3 := Aside0.mk hb3
      have H7 := Aside0.mk h7
      clear hb2 hb3 h7 h0 h3 h4 h5
      cases c with
      | false =>
        have he := HE2.out
        rw [if_neg (by decide)] at he
        obtain rfl := Option.some.inj he
        clear he HE2
        go_wp2_with fail
        go_ret
        exact ⟨rfl, HB3.out⟩
      | true =>
        have he := HE2.out
        rw [if_pos rfl] at he
        obtain rfl := Option.some.inj he
        clear he HE2
        go_wp2_with fail
        go_roundw
        case rel =>
          refine ⟨6, by omega, by omega, by go_num, H7, HB3, ⟨?_⟩⟩
          rw [if_neg (by omega), if_neg (by omega), if_neg (by omega), if_neg (by omega), if_neg (by omega)]
        case measure =>
          show 6 - ((6 : Int)).toNat < 6 - ((5 : Int)).toNat
          decide
    · have he := HE.out
      rw [if_neg (by omega), if_neg (by omega), if_neg (by omega), if_neg (by omega), if_neg (by omega)] at he
      obtain rfl := Option.some.inj he
      clear he HE
      go_wp2_with fail
      go_ret
      exact ⟨rfl, HBB0.out⟩

/-- A state of type 217 at block g of W; what its slices lead to came in by w0. -/
def IsS217 (w0 W : World) (g : Nat) (f0 : List Int) (f1 : Int) (f2 : Int) (f3 : Int) (f4 : Bool) (f5 : Bool) : Prop := ∃ A0 c0, W.heap[g]? = some (.cells #[.slice A0 f0.length c0, .int .i64 f1, .int .i64 f2, .int .i64 f3, .bool f4, .bool f5] 217 (0, 0)) ∧ w0.heap.size ≤ g ∧ Kd.C (Kd.int .u8) w0 A0 f0.length f0
theorem IsS217.grown {w0 W : World} {g : Nat} {f0 : List Int} {f1 : Int} {f2 : Int} {f3 : Int} {f4 : Bool} {f5 : Bool} {W1 : World} {row : Option Nat} (h : IsS217 w0 W g f0 f1 f2 f3 f4 f5) (hw : W.grownBy W1 row) (hne : some g ≠ row) : IsS217 w0 W1 g f0 f1 f2 f3 f4 f5 := by
  obtain ⟨A0, c0, hb, hg, hr0⟩ := h
  exact ⟨A0, c0, blk_grown hb hw hne, hg, hr0⟩
theorem IsS217.own_neN {w0 W : World} {g : Nat} {f0 : List Int} {f1 : Int} {f2 : Int} {f3 : Int} {f4 : Bool} {f5 : Bool} {α : Type} {d : Kd α} {e : Nat} {base : Nat} {ok : Nat → Prop} {v : Value} {xs : List α} (h : IsS217 w0 W g f0 f1 f2 f3 f4 f5) (ho : Kd.N d e W base ok v xs) (ht : e ≠ 217) : some g ≠ v.ownBlock := by
  obtain ⟨A0, c0, hb, hg, hr0⟩ := h
  exact Kd.N_ne ho hb ht
theorem IsS217.fresh {w0 W : World} {g : Nat} {f0 : List Int} {f1 : Int} {f2 : Int} {f3 : Int} {f4 : Bool} {f5 : Bool} (h : IsS217 w0 W g f0 f1 f2 f3 f4 f5) : ∀ k, W.heap.size ≤ k → k ≠ g := by
  obtain ⟨A0, c0, hb, hg, hr0⟩ := h
  exact Kd.freshB hb
theorem IsS217.kept {w0 W : World} {g : Nat} {f0 : List Int} {f1 : Int} {f2 : Int} {f3 : Int} {f4 : Bool} {f5 : Bool} {W1 : World} {S : Nat → Prop} (h : IsS217 w0 W g f0 f1 f2 f3 f4 f5) (hk : Kept W W1 S) (hne : ¬ S g) : IsS217 w0 W1 g f0 f1 f2 f3 f4 f5 := by
  obtain ⟨A0, c0, hb, hg, hr0⟩ := h
  exact ⟨A0, c0, blk_kept hb hk hne, hg, hr0⟩
theorem IsS217.below {w0 W : World} {g : Nat} {f0 : List Int} {f1 : Int} {f2 : Int} {f3 : Int} {f4 : Bool} {f5 : Bool} {W1 : World} (h : IsS217 w0 W g f0 f1 f2 f3 f4 f5) (hw : Below W.heap.size W W1) : IsS217 w0 W1 g f0 f1 f2 f3 f4 f5 := h.grown (grown_of_below hw none) (by simp)
theorem IsS217.alloc {w0 W : World} {g : Nat} {f0 : List Int} {f1 : Int} {f2 : Int} {f3 : Int} {f4 : Bool} {f5 : Bool} (h : IsS217 w0 W g f0 f1 f2 f3 f4 f5) (o : Obj) : IsS217 w0 (W.alloc o) g f0 f1 f2 f3 f4 f5 := h.below (below_alloc (Below.refl _ _) o)
theorem IsS217.drewN {w0 W : World} {g : Nat} {f0 : List Int} {f1 : Int} {f2 : Int} {f3 : Int} {f4 : Bool} {f5 : Bool} (h : IsS217 w0 W g f0 f1 f2 f3 f4 f5) (m : Nat) : IsS217 w0 (W.drewN m) g f0 f1 f2 f3 f4 f5 := h
theorem IsS217.drew {w0 W : World} {g : Nat} {f0 : List Int} {f1 : Int} {f2 : Int} {f3 : Int} {f4 : Bool} {f5 : Bool} (h : IsS217 w0 W g f0 f1 f2 f3 f4 f5) : IsS217 w0 W.drew g f0 f1 f2 f3 f4 f5 := h
theorem IsS217.at_ {w0 W : World} {g : Nat} {f0 : List Int} {f1 : Int} {f2 : Int} {f3 : Int} {f4 : Bool} {f5 : Bool} {w' : World} {m : Nat} (hq : W.drewN m = w') (h : IsS217 w0 W g f0 f1 f2 f3 f4 f5) : IsS217 w0 w' g f0 f1 f2 f3 f4 f5 := by subst hq; exact IsS217.drewN h m
theorem IsS217.apart {w0 W : World} {g : Nat} {f0 : List Int} {f1 : Int} {f2 : Int} {f3 : Int} {f4 : Bool} {f5 : Bool} {α : Type} {d : Kd α} {e : Nat} {base : Nat} {ok : Nat → Prop} {v : Value} {xs : List α} (h : IsS217 w0 W g f0 f1 f2 f3 f4 f5) (ho : d.R e W base ok v xs) (ht : ∀ q, q ∈ e :: d.E → q ≠ 217) : d.R e W base (fun k => ok k ∧ k ≠ g) v xs := by
  obtain ⟨A0, c0, hb, hg, hr0⟩ := h
  exact Kd.R_types ho hb ht
theorem IsS217.own_ne {w0 W : World} {g : Nat} {f0 : List Int} {f1 : Int} {f2 : Int} {f3 : Int} {f4 : Bool} {f5 : Bool} {α : Type} {d : Kd α} {e : Nat} {base : Nat} {ok : Nat → Prop} {v : Value} {xs : List α} (h : IsS217 w0 W g f0 f1 f2 f3 f4 f5) (ho : d.R e W base ok v xs) (ht : e ≠ 217) : some g ≠ v.ownBlock := by
  obtain ⟨A0, c0, hb, hg, hr0⟩ := h
  exact Kd.R_ne ho hb ht
theorem IsS217.apartQ {w0 W : World} {g : Nat} {f0 : List Int} {f1 : Int} {f2 : Int} {f3 : Int} {f4 : Bool} {f5 : Bool} {α : Type} {d : Kd α} {e : Nat} {base : Nat} {ok : Nat → Prop} {v : Value} {xs : List α} (h : IsS217 w0 W g f0 f1 f2 f3 f4 f5) (ho : d.Q e W base ok v xs) (ht : ∀ q, q ∈ e :: d.E → q ≠ 217) : d.Q e W base (fun k => ok k ∧ k ≠ g) v xs := by
  obtain ⟨A0, c0, hb, hg, hr0⟩ := h
  exact Kd.Q_types ho hb ht
theorem IsS217.own_neQ {w0 W : World} {g : Nat} {f0 : List Int} {f1 : Int} {f2 : Int} {f3 : Int} {f4 : Bool} {f5 : Bool} {α : Type} {d : Kd α} {e : Nat} {base : Nat} {ok : Nat → Prop} {v : Value} {xs : List α} (h : IsS217 w0 W g f0 f1 f2 f3 f4 f5) (ho : d.Q e W base ok v xs) (ht : e ≠ 217) : some g ≠ v.ownBlock := by
  obtain ⟨A0, c0, hb, hg, hr0⟩ := h
  exact Kd.Q_ne ho hb ht
theorem IsS217.apartS {w0 W : World} {g : Nat} {f0 : List Int} {f1 : Int} {f2 : Int} {f3 : Int} {f4 : Bool} {f5 : Bool} {α : Type} {d : Kd α} {e : Nat} {base : Nat} {ok : Nat → Prop} {v : Value} {xs : List α} (h : IsS217 w0 W g f0 f1 f2 f3 f4 f5) (ho : d.S e W base ok v xs) (ht : ∀ q, q ∈ e :: d.E → q ≠ 217) : d.S e W base (fun k => ok k ∧ k ≠ g) v xs := by
  obtain ⟨A0, c0, hb, hg, hr0⟩ := h
  exact Kd.S_types ho hb ht
theorem IsS217.own_neS {w0 W : World} {g : Nat} {f0 : List Int} {f1 : Int} {f2 : Int} {f3 : Int} {f4 : Bool} {f5 : Bool} {α : Type} {d : Kd α} {e : Nat} {base : Nat} {ok : Nat → Prop} {v : Value} {xs : List α} (h : IsS217 w0 W g f0 f1 f2 f3 f4 f5) (ho : d.S e W base ok v xs) (ht : e ≠ 217) : some g ≠ v.ownBlock := by
  obtain ⟨A0, c0, hb, hg, hr0⟩ := h
  exact Kd.S_ne ho hb ht
theorem IsS217.lt {w0 W : World} {g : Nat} {f0 : List Int} {f1 : Int} {f2 : Int} {f3 : Int} {f4 : Bool} {f5 : Bool} (h : IsS217 w0 W g f0 f1 f2 f3 f4 f5) : g < W.heap.size := by
  obtain ⟨A0, c0, hb, hg, hr0⟩ := h
  exact blk_lt hb
theorem IsS217.ge {w0 W : World} {g : Nat} {f0 : List Int} {f1 : Int} {f2 : Int} {f3 : Int} {f4 : Bool} {f5 : Bool} (h : IsS217 w0 W g f0 f1 f2 f3 f4 f5) : w0.heap.size ≤ g := by
  obtain ⟨A0, c0, hb, hg, hr0⟩ := h
  exact hg
theorem IsS217.ne_blk {w0 W : World} {g : Nat} {f0 : List Int} {f1 : Int} {f2 : Int} {f3 : Int} {f4 : Bool} {f5 : Bool} {a : Nat} {cs : Array Value} {t : TypeId} {fr : Nat × Nat} (h : IsS217 w0 W g f0 f1 f2 f3 f4 f5) (hb2 : W.heap[a]? = some (.cells cs t fr)) (ht : t ≠ 217) : g ≠ a := by
  obtain ⟨A0, c0, hb, hg, hr0⟩ := h
  rintro rfl
  rw [hb] at hb2
  injection hb2 with hb2
  injection hb2 with _ ht2
  exact ht ht2.symm
theorem IsS217.far {w0 W : World} {g : Nat} {f0 : List Int} {f1 : Int} {f2 : Int} {f3 : Int} {f4 : Bool} {f5 : Bool} {p : Addr} (h : IsS217 w0 W g f0 f1 f2 f3 f4 f5) (hne : g ≠ p.block) (u : Value) : IsS217 w0 (W.setCell p u) g f0 f1 f2 f3 f4 f5 := by
  obtain ⟨A0, c0, hb, hg, hr0⟩ := h
  exact ⟨A0, c0, blk_far hb hne u, hg, hr0⟩
theorem cellS217_0 {W : World} {g : Nat} {A0 : Option Addr} {c0 : Nat} {f0 : List Int} {f1 : Int} {f2 : Int} {f3 : Int} {f4 : Bool} {f5 : Bool} (h : W.heap[g]? = some (.cells #[.slice A0 f0.length c0, .int .i64 f1, .int .i64 f2, .int .i64 f3, .bool f4, .bool f5] 217 (0, 0))) : W.cell? ⟨g, 0, none⟩ = some (.slice A0 f0.length c0) := (blk_cell h 0).trans rfl
theorem cellS217_1 {W : World} {g : Nat} {A0 : Option Addr} {c0 : Nat} {f0 : List Int} {f1 : Int} {f2 : Int} {f3 : Int} {f4 : Bool} {f5 : Bool} (h : W.heap[g]? = some (.cells #[.slice A0 f0.length c0, .int .i64 f1, .int .i64 f2, .int .i64 f3, .bool f4, .bool f5] 217 (0, 0))) : W.cell? ⟨g, 1, none⟩ = some (.int .i64 f1) := (blk_cell h 1).trans rfl
theorem IsS217.set_1 {w0 W : World} {g : Nat} {f0 : List Int} {f1 : Int} {f2 : Int} {f3 : Int} {f4 : Bool} {f5 : Bool} (h : IsS217 w0 W g f0 f1 f2 f3 f4 f5) (x : Int) : IsS217 w0 (W.setCell ⟨g, 1, none⟩ (.int .i64 x)) g f0 x f2 f3 f4 f5 := by
  obtain ⟨A0, c0, hb, hg, hr0⟩ := h
  exact ⟨A0, c0, by simpa using blk_set hb 1 (.int .i64 x), hg, hr0⟩
theorem cellS217_2 {W : World} {g : Nat} {A0 : Option Addr} {c0 : Nat} {f0 : List Int} {f1 : Int} {f2 : Int} {f3 : Int} {f4 : Bool} {f5 : Bool} (h : W.heap[g]? = some (.cells #[.slice A0 f0.length c0, .int .i64 f1, .int .i64 f2, .int .i64 f3, .bool f4, .bool f5] 217 (0, 0))) : W.cell? ⟨g, 2, none⟩ = some (.int .i64 f2) := (blk_cell h 2).trans rfl
theorem IsS217.set_2 {w0 W : World} {g : Nat} {f0 : List Int} {f1 : Int} {f2 : Int} {f3 : Int} {f4 : Bool} {f5 : Bool} (h : IsS217 w0 W g f0 f1 f2 f3 f4 f5) (x : Int) : IsS217 w0 (W.setCell ⟨g, 2, none⟩ (.int .i64 x)) g f0 f1 x f3 f4 f5 := by
  obtain ⟨A0, c0, hb, hg, hr0⟩ := h
  exact ⟨A0, c0, by simpa using blk_set hb 2 (.int .i64 x), hg, hr0⟩
theorem cellS217_3 {W : World} {g : Nat} {A0 : Option Addr} {c0 : Nat} {f0 : List Int} {f1 : Int} {f2 : Int} {f3 : Int} {f4 : Bool} {f5 : Bool} (h : W.heap[g]? = some (.cells #[.slice A0 f0.length c0, .int .i64 f1, .int .i64 f2, .int .i64 f3, .bool f4, .bool f5] 217 (0, 0))) : W.cell? ⟨g, 3, none⟩ = some (.int .i64 f3) := (blk_cell h 3).trans rfl
theorem IsS217.set_3 {w0 W : World} {g : Nat} {f0 : List Int} {f1 : Int} {f2 : Int} {f3 : Int} {f4 : Bool} {f5 : Bool} (h : IsS217 w0 W g f0 f1 f2 f3 f4 f5) (x : Int) : IsS217 w0 (W.setCell ⟨g, 3, none⟩ (.int .i64 x)) g f0 f1 f2 x f4 f5 := by
  obtain ⟨A0, c0, hb, hg, hr0⟩ := h
  exact ⟨A0, c0, by simpa using blk_set hb 3 (.int .i64 x), hg, hr0⟩
theorem cellS217_4 {W : World} {g : Nat} {A0 : Option Addr} {c0 : Nat} {f0 : List Int} {f1 : Int} {f2 : Int} {f3 : Int} {f4 : Bool} {f5 : Bool} (h : W.heap[g]? = some (.cells #[.slice A0 f0.length c0, .int .i64 f1, .int .i64 f2, .int .i64 f3, .bool f4, .bool f5] 217 (0, 0))) : W.cell? ⟨g, 4, none⟩ = some (.bool f4) := (blk_cell h 4).trans rfl
theorem IsS217.set_4 {w0 W : World} {g : Nat} {f0 : List Int} {f1 : Int} {f2 : Int} {f3 : Int} {f4 : Bool} {f5 : Bool} (h : IsS217 w0 W g f0 f1 f2 f3 f4 f5) (x : Bool) : IsS217 w0 (W.setCell ⟨g, 4, none⟩ (.bool x)) g f0 f1 f2 f3 x f5 := by
  obtain ⟨A0, c0, hb, hg, hr0⟩ := h
  exact ⟨A0, c0, by simpa using blk_set hb 4 (.bool x), hg, hr0⟩
theorem cellS217_5 {W : World} {g : Nat} {A0 : Option Addr} {c0 : Nat} {f0 : List Int} {f1 : Int} {f2 : Int} {f3 : Int} {f4 : Bool} {f5 : Bool} (h : W.heap[g]? = some (.cells #[.slice A0 f0.length c0, .int .i64 f1, .int .i64 f2, .int .i64 f3, .bool f4, .bool f5] 217 (0, 0))) : W.cell? ⟨g, 5, none⟩ = some (.bool f5) := (blk_cell h 5).trans rfl
theorem IsS217.set_5 {w0 W : World} {g : Nat} {f0 : List Int} {f1 : Int} {f2 : Int} {f3 : Int} {f4 : Bool} {f5 : Bool} (h : IsS217 w0 W g f0 f1 f2 f3 f4 f5) (x : Bool) : IsS217 w0 (W.setCell ⟨g, 5, none⟩ (.bool x)) g f0 f1 f2 f3 f4 x := by
  obtain ⟨A0, c0, hb, hg, hr0⟩ := h
  exact ⟨A0, c0, by simpa using blk_set hb 5 (.bool x), hg, hr0⟩
theorem IsS217.new (w0 W : World) (A0 : Option Addr) (c0 : Nat) (f0 : List Int) (f1 : Int) (f2 : Int) (f3 : Int) (f4 : Bool) (f5 : Bool) (hB : Below w0.heap.size w0 W) (hr0 : Kd.C (Kd.int .u8) w0 A0 f0.length f0) : IsS217 w0 (W.alloc (.cells #[.slice A0 f0.length c0, .int .i64 f1, .int .i64 f2, .int .i64 f3, .bool f4, .bool f5] 217)) W.heap.size f0 f1 f2 f3 f4 f5 := ⟨A0, c0, by simpa using heap_alloc_new W _, hB.size, hr0⟩

/-! ### split_seg_over: function 132 -/
def split_seg_over.f (s0_0 : List Int) (s0_1 : Int) (s0_2 : Int) (s0_3 : Int) (s0_4 : Bool) (s0_5 : Bool) : Option (Bool × Int × Int × Int × Bool × Bool) := some (decide (s0_3 > 256), s0_1, s0_2, s0_3, s0_4, s0_5)
set_option maxHeartbeats 8000000 in
set_option maxRecDepth 100000 in
theorem split_seg_over.calls (g : Nat) (s0_0 : List Int) (s0_1 : Int) (s0_2 : Int) (s0_3 : Int) (s0_4 : Bool) (s0_5 : Bool) (r1 : Bool) (r2 : Int) (r3 : Int) (r4 : Int) (r5 : Bool) (r6 : Bool) (w0 w : World) (hI : IsS217 w0 w g s0_0 s0_1 s0_2 s0_3 s0_4 s0_5) (hB : Below w0.heap.size w0 w) (h : split_seg_over.f s0_0 s0_1 s0_2 s0_3 s0_4 s0_5 = some (r1, r2, r3, r4, r5, r6)) :
    Calls Try.prog 132 #[.pointer (some ⟨g, 0, none⟩)] w fun e w' => e = .returned (.bool r1) ∧ IsS217 w0 w' g s0_0 r2 r3 r4 r5 r6 ∧ Below w0.heap.size w0 w' ∧ KeepBut w w' g none := by
  have HI0 := Aside0.mk hI
  have HK := Aside0.mk (KeepBut.refl w g none)
  have HL := Aside0.mk hB.size
  clear hI
  have HW0 := Aside0.mk hB.size
  have HB := Aside0.mk hB
  clear hB
  have H : (some (decide (s0_3 > 256), s0_1, s0_2, s0_3, s0_4, s0_5)) = some (r1, r2, r3, r4, r5, r6) := h
  clear h
  simp only [Option.some.injEq, Prod.mk.injEq] at H
  obtain ⟨rfl, rfl, rfl, rfl, rfl, rfl⟩ := H
  obtain ⟨ASz2_0, cSz2_0, HGz2, hgz2, HSz2_0⟩ := HI0.out
  have hcz2_0 := cellS217_0 HGz2
  have hcz2_1 := cellS217_1 HGz2
  have hcz2_2 := cellS217_2 HGz2
  have hcz2_3 := cellS217_3 HGz2
  have hcz2_4 := cellS217_4 HGz2
  have hcz2_5 := cellS217_5 HGz2
  have hfz2_1 := blk_frozen HGz2 1
  have hfz2_2 := blk_frozen HGz2 2
  have hfz2_3 := blk_frozen HGz2 3
  have hfz2_4 := blk_frozen HGz2 4
  have hfz2_5 := blk_frozen HGz2 5
  clear HGz2 hgz2
  go_enter Try.func132, Try.ntmps132
  go_wp2
  go_ret
  exact ⟨by first | rfl | (simp [errW_none, errW_some] <;> rfl) | (simp [*, errW_none, errW_some] <;> rfl), by repeat (first | (with_reducible first | exact HI0.out | apply IsS217.alloc | apply IsS217.drewN | apply IsS217.drew | apply IsS217.set_1 | apply IsS217.set_2 | apply IsS217.set_3 | apply IsS217.set_4 | apply IsS217.set_5) | exact HI0.out), by repeat (first | (with_reducible first | exact HB.out | apply below_alloc | apply pw_below_drewN | apply below_drew1 | refine below_set ?_ (IsS217.ge HI0.out)) | exact HB.out), by repeat (first | (with_reducible first | exact HK.out | apply KeepBut.set_ | apply keep_drewN | apply keep_drew | apply keep_alloc) | exact HK.out)⟩

/-! ### split_seg_spoilt: function 133 -/
def split_seg_spoilt.f (s0_0 : List Int) (s0_1 : Int) (s0_2 : Int) (s0_3 : Int) (s0_4 : Bool) (s0_5 : Bool) : Option (Bool × Int × Int × Int × Bool × Bool) := some (s0_5, s0_1, s0_2, s0_3, s0_4, s0_5)
set_option maxHeartbeats 8000000 in
set_option maxRecDepth 100000 in
theorem split_seg_spoilt.calls (g : Nat) (s0_0 : List Int) (s0_1 : Int) (s0_2 : Int) (s0_3 : Int) (s0_4 : Bool) (s0_5 : Bool) (r1 : Bool) (r2 : Int) (r3 : Int) (r4 : Int) (r5 : Bool) (r6 : Bool) (w0 w : World) (hI : IsS217 w0 w g s0_0 s0_1 s0_2 s0_3 s0_4 s0_5) (hB : Below w0.heap.size w0 w) (h : split_seg_spoilt.f s0_0 s0_1 s0_2 s0_3 s0_4 s0_5 = some (r1, r2, r3, r4, r5, r6)) :
    Calls Try.prog 133 #[.pointer (some ⟨g, 0, none⟩)] w fun e w' => e = .returned (.bool r1) ∧ IsS217 w0 w' g s0_0 r2 r3 r4 r5 r6 ∧ Below w0.heap.size w0 w' ∧ KeepBut w w' g none := by
  have HI0 := Aside0.mk hI
  have HK := Aside0.mk (KeepBut.refl w g none)
  have HL := Aside0.mk hB.size
  clear hI
  have HW0 := Aside0.mk hB.size
  have HB := Aside0.mk hB
  clear hB
  have H : (some (s0_5, s0_1, s0_2, s0_3, s0_4, s0_5)) = some (r1, r2, r3, r4, r5, r6) := h
  clear h
  simp only [Option.some.injEq, Prod.mk.injEq] at H
  obtain ⟨rfl, rfl, rfl, rfl, rfl, rfl⟩ := H
  obtain ⟨ASz2_0, cSz2_0, HGz2, hgz2, HSz2_0⟩ := HI0.out
  have hcz2_0 := cellS217_0 HGz2
  have hcz2_1 := cellS217_1 HGz2
  have hcz2_2 := cellS217_2 HGz2
  have hcz2_3 := cellS217_3 HGz2
  have hcz2_4 := cellS217_4 HGz2
  have hcz2_5 := cellS217_5 HGz2
  have hfz2_1 := blk_frozen HGz2 1
  have hfz2_2 := blk_frozen HGz2 2
  have hfz2_3 := blk_frozen HGz2 3
  have hfz2_4 := blk_frozen HGz2 4
  have hfz2_5 := blk_frozen HGz2 5
  clear HGz2 hgz2
  go_enter Try.func133, Try.ntmps133
  go_wp2
  go_ret
  exact ⟨by first | rfl | (simp [errW_none, errW_some] <;> rfl) | (simp [*, errW_none, errW_some] <;> rfl), by repeat (first | (with_reducible first | exact HI0.out | apply IsS217.alloc | apply IsS217.drewN | apply IsS217.drew | apply IsS217.set_1 | apply IsS217.set_2 | apply IsS217.set_3 | apply IsS217.set_4 | apply IsS217.set_5) | exact HI0.out), by repeat (first | (with_reducible first | exact HB.out | apply below_alloc | apply pw_below_drewN | apply below_drew1 | refine below_set ?_ (IsS217.ge HI0.out)) | exact HB.out), by repeat (first | (with_reducible first | exact HK.out | apply KeepBut.set_ | apply keep_drewN | apply keep_drew | apply keep_alloc) | exact HK.out)⟩

end Go.Proofs.Ytballgciakljnaa.PSplitFaults

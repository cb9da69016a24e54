-- Written by a program of this session, in the form of the kit's print, some functions by hand (N.B. not a file of print.sh's).
import Derived.Test.YtbaodollggbcoaaPAduHurtx0
namespace Go.Proofs.Ytbaodollggbcoaa.PAduHurt
open Go.RowKit Go.Proofs.YtbaodollggbcoaaW.PrintWords Go.Proofs.YtbaodollggbcoaaW.PrintLast Go.Proofs.YtbaodollggbcoaaW.PrintMore Go.Proofs.YtbaodollggbcoaaM
attribute [local go_sem] max2_int min2_int max_two min_two max_three min_three max_four min_four   -- for this text's walks alone
set_option linter.unusedVariables false
set_option linter.unusedSimpArgs false

/-! ### crc_table_fill: function 100 (by hand) -/
/-- The table: what each of the first n bytes comes to. -/
def crcTab (w : World) (g n : Nat) : Prop := ∃ cs : Array Value, w.heap[g]? = some (.cells cs 157 (0, 0)) ∧ cs.size = 256 ∧ ∀ i < n, cs[i]? = some (.int .u16 (pBy 0 i : Nat))
theorem crc_pbs (k r b : Nat) : pbs (k + 1) r b = pb (pbs k r b) (b / 2 ^ k % 2) := by
  induction k generalizing r b with
  | zero => simp [pbs]
  | succ k ih =>
    rw [show pbs (k + 1 + 1) r b = pbs (k + 1) (pb r (b % 2)) (b / 2) from rfl, ih, show pbs (k + 1) r b = pbs k (pb r (b % 2)) (b / 2) from rfl, Nat.div_div_eq_div_mul, Nat.pow_succ, Nat.mul_comm 2]
theorem crc_and (r : Nat) (hr : r < 65536) : bits .and .u16 (r : Int) 1 = ((r % 2 : Nat) : Int) := by
  have := u16_and_nat r 1 hr (by omega)
  rw [Nat.and_one_is_mod] at this
  simpa using this
theorem crc_odd (r : Nat) (hr : r < 65536) (h : r % 2 = 1) : bits .xor .u16 ((r : Int) / 2) 40961 = (pb r 0 : Nat) := by
  have hy : bits .xor .u16 ((r / 2 : Nat) : Int) 40961 = ((r / 2 ^^^ 40961 : Nat) : Int) := u16_xor_nat (r / 2) 40961 (by omega) (by omega)
  rw [show (r : Int) / 2 = ((r / 2 : Nat) : Int) by omega, hy]
  unfold pb
  rw [Nat.xor_zero, if_pos h]
theorem crc_even (r : Nat) (h : ¬ r % 2 = 1) : (r : Int) / 2 = (pb r 0 : Nat) := by
  unfold pb
  rw [Nat.xor_zero, if_neg h, Nat.xor_zero]; omega
set_option maxRecDepth 100000 in
theorem crc_fill (g : Nat) (cs : Array Value) (w : World) (hg : w.heap[g]? = some (.cells cs 157 (0, 0))) (hsz : cs.size = 256) (hu : ∀ i < 256, cs[i]? = some (.int .u16 0)) :
    Calls Try.prog 100 #[.pointer (some ⟨g, 0, none⟩)] w fun e w' => e = .returned (.tuple #[]) ∧ crcTab w' g 256 ∧ w.grownBy w' (some g) := by
  have HG := Aside0.mk hg
  have HS := Aside0.mk hsz
  have HU := Aside0.mk hu
  clear hg hsz hu
  go_enter Try.func100, Try.ntmps100
  go_wp2
  go_loopw [5] (fun v5 wr => ∃ k : Nat, k ≤ 256 ∧ v5 = .int .i64 k ∧ Aside0 (∃ cr : Array Value, wr.heap[g]? = some (.cells cr 157 (0, 0)) ∧ cr.size = 256 ∧ (∀ i < k, cr[i]? = some (.int .u16 (pBy 0 i : Nat))) ∧ ∀ i < 256, k ≤ i → cr[i]? = some (.int .u16 0)) ∧ Aside0 (w.grownBy wr (some g))) (fun v5 _ => 256 - (intOf v5).toNat)
  case atStart => exact ⟨0, Nat.zero_le _, rfl, ⟨cs, HG.out, HS.out, fun i hi => absurd hi (by omega), fun i hi _ => HU.out i hi⟩, ⟨World.grownBy.refl _ _⟩⟩
  case round =>
    obtain ⟨k, hk, rfl, HB, HW⟩ := hrel
    by_cases hlt : k < 256
    · go_wp2
      go_loopw [10, 3] (fun v10 v3 w2 => ∃ j : Nat, j ≤ 8 ∧ v10 = .int .i64 j ∧ v3 = .int .u16 (pbs j k 0 : Nat) ∧ w2 = wr) (fun v10 _ _ => 8 - (intOf v10).toNat)
      case atStart => exact ⟨0, Nat.zero_le _, rfl, rfl, rfl⟩
      case round =>
        obtain ⟨j, hj, rfl, rfl, rfl⟩ := hrel
        by_cases hlt2 : j < 8
        · have hm : pbs j k 0 < 65536 := pbs_lt j (by omega)
          have hs : pbs (j + 1) k 0 = pb (pbs j k 0) 0 := by rw [crc_pbs, Nat.zero_div]
          generalize pbs j k 0 = m at *
          by_cases h : m % 2 = 1
          · have hd : (bits .and .u16 (m : Int) 1 == 1) = true := by rw [crc_and m hm, h]; rfl
            go_wp2
            go_roundw
            case rel => exact ⟨j + 1, by omega, by go_num, by rw [hs, crc_odd m hm h], trivial⟩
            case measure => simp [intOf]; omega
          · have hd : (bits .and .u16 (m : Int) 1 == 1) = false := by rw [crc_and m hm, show m % 2 = 0 by omega]; rfl
            go_wp2
            go_roundw
            case rel => exact ⟨j + 1, by omega, by go_num, by rw [hs, crc_even m h], trivial⟩
            case measure => simp [intOf]; omega
        · have : j = 8 := by omega
          subst this
          obtain ⟨cr, h1, h2, h3, h4⟩ := HB.out
          have H1 := Aside0.mk h1
          have H2 := Aside0.mk h2
          have H3 := Aside0.mk h3
          have H4 := Aside0.mk h4
          have hc := blk_cell h1 k
          rw [h4 k hlt (Nat.le_refl _)] at hc
          have hz := blk_frozen h1 k
          clear h1 h2 h3 h4 HB
          go_wp2
          go_roundw
          case rel =>
            refine ⟨k + 1, by omega, by go_num, ⟨_, set_blk H1.out k _, by rw [Array.size_setIfInBounds]; exact H2.out, fun i hi => ?_, fun i hi hki => ?_⟩, ⟨grown_set HW.out k _⟩⟩
            · by_cases e : i = k
              · subst e
                rw [Array.getElem?_setIfInBounds_self_of_lt (by rw [H2.out]; exact hlt), ← pBy_tab hlt]; rfl
              · rw [Array.getElem?_setIfInBounds_ne (by omega)]; exact H3.out i (by omega)
            · rw [Array.getElem?_setIfInBounds_ne (by omega)]; exact H4.out i hi (by omega)
          case measure => simp [intOf]; omega
    · have : k = 256 := by omega
      subst this
      go_wp2
      go_end0
      obtain ⟨cr, h1, h2, h3, _⟩ := HB.out
      exact ⟨rfl, ⟨cr, h1, h2, h3⟩, HW.out⟩

end Go.Proofs.Ytbaodollggbcoaa.PAduHurt

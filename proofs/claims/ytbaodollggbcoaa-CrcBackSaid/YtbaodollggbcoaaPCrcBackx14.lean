-- Written by a program of this session, in the form of the kit's print, some functions by hand (N.B. not a file of print.sh's).
import Derived.Test.YtbaodollggbcoaaPCrcBackx0
namespace Go.Proofs.Ytbaodollggbcoaa.PCrcBack
open Go.RowKit Go.Proofs.YtbaodollggbcoaaW.PrintWords Go.Proofs.YtbaodollggbcoaaW.PrintLast Go.Proofs.YtbaodollggbcoaaW.PrintMore Go.Proofs.YtbaodollggbcoaaM
attribute [local go_sem] max2_int min2_int max_two min_two max_three min_three max_four min_four   -- for this text's walks alone
set_option linter.unusedVariables false
set_option linter.unusedSimpArgs false

/-! ### poly_Byte: function 68 (by hand) -/
set_option maxRecDepth 100000 in
theorem bilge_poly_bit (r o g : Nat) (w : World) (hr : r < 65536) (ho : o < 2) (hg : w.heap[g]? = some (.cells #[.int .u16 (r : Int)] 159 (0, 0))) :
    Calls Try.prog 102 #[.pointer (some ⟨g, 0, none⟩), .int .u16 (o : Int)] w fun e w' => e = .returned (.tuple #[]) ∧ w'.heap[g]? = some (.cells #[.int .u16 (pb r o : Int)] 159 (0, 0)) ∧ w.grownBy w' (some g) := by
  have HG := Aside0.mk hg
  have hc := blk_cell hg 0
  have hz := blk_frozen hg 0
  clear hg
  have hx := u16_xor_nat r o hr (by omega)
  have hy : bits .xor .u16 ((r : Int) / 2) 40961 = ((r / 2 ^^^ 40961 : Nat) : Int) := by
    have := u16_xor_nat (r / 2) 40961 (by omega) (by omega)
    simpa using this
  have ha : bits .and .u16 ((r ^^^ o : Nat) : Int) 1 = (((r ^^^ o) % 2 : Nat) : Int) := by
    have := u16_and_nat (r ^^^ o) 1 (Nat.xor_lt_two_pow (n := 16) (by omega) (by omega)) (by omega)
    rw [Nat.and_one_is_mod] at this
    simpa using this
  by_cases h : (r ^^^ o) % 2 = 1
  · have hd : (bits .and .u16 ((r ^^^ o : Nat) : Int) 1 == 1) = true := by rw [ha, h]; rfl
    have HP := Aside0.mk (show pb r o = r / 2 ^^^ 40961 by unfold pb; rw [if_pos h])
    clear h ha
    go_enter Try.func102, Try.ntmps102
    go_wp2
    go_end0
    refine ⟨rfl, ?_, ?_⟩
    · rw [HP.out, set_blk (set_blk HG.out 0 _) 0]; rfl
    · exact grown_set (grown_set (World.grownBy.refl _ _) _ _) _ _
  · have hd : (bits .and .u16 ((r ^^^ o : Nat) : Int) 1 == 1) = false := by
      rw [ha, show (r ^^^ o) % 2 = 0 by omega]; rfl
    have HP := Aside0.mk (show pb r o = r / 2 by unfold pb; rw [if_neg h, Nat.xor_zero])
    clear h ha
    go_enter Try.func102, Try.ntmps102
    go_wp2
    go_end0
    refine ⟨rfl, ?_, ?_⟩
    · rw [HP.out, set_blk HG.out 0]; rfl
    · exact grown_set (World.grownBy.refl _ _) _ _
def poly_Byte.f (a0 a1 : Int) : Option Int := if 0 ≤ a0 ∧ a0 < 65536 ∧ 0 ≤ a1 ∧ a1 < 256 then some (pBy a0.toNat a1.toNat : Nat) else none
theorem poly_Byte_pbs (k r b : Nat) : pbs (k + 1) r b = pb (pbs k r b) (b / 2 ^ k % 2) := by
  induction k generalizing r b with
  | zero => simp [pbs]
  | succ k ih =>
    rw [show pbs (k + 1 + 1) r b = pbs (k + 1) (pb r (b % 2)) (b / 2) from rfl, ih, show pbs (k + 1) r b = pbs k (pb r (b % 2)) (b / 2) from rfl, Nat.div_div_eq_div_mul, Nat.pow_succ, Nat.mul_comm 2]
theorem poly_Byte_bit (b k : Nat) (hb : b < 256) : bits .and .u16 (IntKind.u16.wrap ((b : Int) / 2 ^ k)) 1 = ((b / 2 ^ k % 2 : Nat) : Int) := by
  have hd : b / 2 ^ k < 65536 := Nat.lt_of_le_of_lt (Nat.div_le_self _ _) (by omega)
  have e : (b : Int) / 2 ^ k = ((b / 2 ^ k : Nat) : Int) := by simp
  have h := u16_and_nat (b / 2 ^ k) 1 hd (by omega)
  rw [Nat.and_one_is_mod] at h
  rw [e]
  generalize b / 2 ^ k = q at *
  rw [IntWalk.u16_in (q : Int) (by omega)]
  exact h
set_option maxRecDepth 100000 in
theorem poly_Byte.calls (a0 a1 : Int) (r : Int) (w : World) (h : poly_Byte.f a0 a1 = some r) :
    Calls Try.prog 68 #[.int .u16 a0, .int .u8 a1] w fun e w' => e = .returned (.int .u16 r) ∧ Below w.heap.size w w' := by
  unfold poly_Byte.f at h
  split at h
  case isFalse => cases h
  case isTrue hb =>
  obtain ⟨n, rfl⟩ := Int.eq_ofNat_of_zero_le hb.1
  obtain ⟨b, rfl⟩ := Int.eq_ofNat_of_zero_le hb.2.2.1
  have hn : n < 65536 := by omega
  have hb8 : b < 256 := by omega
  obtain rfl := Option.some.inj h
  clear h hb
  rw [Int.toNat_natCast, Int.toNat_natCast]
  have hmf : ∀ (fn : Fn) (first cap : Array Value) (w : World), (Instr.makeFunc fn first cap).run Try.prog w = .ok (.func fn first cap) w := fun _ _ _ _ => rfl
  go_enter Try.func68, Try.ntmps68
  go_wp2
  go_loopw [10] (fun v10 wr => ∃ k : Nat, k ≤ 8 ∧ v10 = .int .i64 k ∧ Aside0 (wr.heap[w.heap.size]? = some (.cells #[.int .u16 (pbs k n b : Int)] 159 (0, 0))) ∧ Aside0 ((w.alloc (.cells #[.int .u16 (n : Int)] 159)).grownBy wr (some w.heap.size))) (fun v10 _ => 8 - (intOf v10).toNat)
  case atStart => exact ⟨0, Nat.zero_le _, rfl, ⟨blk_new w _⟩, ⟨World.grownBy.refl _ _⟩⟩
  case round =>
    obtain ⟨k, hk, rfl, HB, HW⟩ := hrel
    by_cases hlt : k < 8
    · go_wp2_with fail
      rw [poly_Byte_bit b k hb8]
      refine (bilge_poly_bit (pbs k n b) (b / 2 ^ k % 2) w.heap.size wr (pbs_lt k hn) (by omega) HB.out).mono ?_
      rintro e w2 ⟨rfl, hb2, hg2⟩
      have HB2 := Aside0.mk hb2
      have HG2 := Aside0.mk (grown_trans HW.out hg2)
      clear hb2 hg2
      go_wp2
      go_roundw
      case rel => exact ⟨k + 1, by omega, by go_num, ⟨by rw [poly_Byte_pbs]; exact HB2.out⟩, HG2⟩
      case measure => simp [intOf]; omega
    · have : k = 8 := by omega
      subst this
      have hc := blk_cell HB.out 0
      go_wp2
      go_ret
      exact ⟨rfl, below_of_new HW.out⟩

end Go.Proofs.Ytbaodollggbcoaa.PCrcBack

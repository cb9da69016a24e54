-- Written by a program of this session, in the form of the kit's print, some functions by hand (N.B. not a file of print.sh's).
import Derived.Test.YtmekenfndmimhaaPPolyTellsx0
namespace Go.Proofs.Ytmekenfndmimhaa.PPolyTells
open Go.RowKit Go.Proofs.YtmekenfndmimhaaW.PrintWords Go.Proofs.YtmekenfndmimhaaW.PrintLast Go.Proofs.YtmekenfndmimhaaW.PrintMore Go.Proofs.YtmekenfndmimhaaM
attribute [local go_sem] max2_int min2_int max_two min_two max_three min_three max_four min_four   -- for this text's walks alone
set_option linter.unusedVariables false
set_option linter.unusedSimpArgs false

/-! ### poly_Back: function 43 (by hand) -/
theorem bilge_poly_shl (c r o : Nat) (hc : c < 65536) (hr : r < 65536) (ho : o < 2) :
    bits .xor .u16 (bits .or .u16 (IntKind.u16.wrap ((c : Int) * 2)) ((r : Int) / 32768)) (o : Int) = ((((c * 2) % 65536 ||| r / 32768) ^^^ o : Nat) : Int) := by
  have e1 : IntKind.u16.wrap ((c : Int) * 2) = ((c * 2 % 65536 : Nat) : Int) := by
    simp [IntKind.wrap, IntKind.bits, IntKind.signed]
  have e2 : (r : Int) / 32768 = ((r / 32768 : Nat) : Int) := by omega
  rw [e1, e2, u16_or_nat _ _ (by omega) (by omega), u16_xor_nat _ _ (Nat.or_lt_two_pow (n := 16) (by omega) (by omega)) (by omega)]
set_option maxRecDepth 100000 in
theorem bilge_poly_unbit (r o g : Nat) (w : World) (hr : r < 65536) (ho : o < 2) (hg : w.heap[g]? = some (.cells #[.int .u16 (r : Int)] 64 (0, 0))) :
    Calls Try.prog 62 #[.pointer (some ⟨g, 0, none⟩), .int .u16 (o : Int)] w fun e w' => e = .returned (.tuple #[]) ∧ w'.heap[g]? = some (.cells #[.int .u16 (ub r o : Int)] 64 (0, 0)) ∧ w.grownBy w' (some g) := by
  have HG := Aside0.mk hg
  have hc := blk_cell hg 0
  have hz := blk_frozen hg 0
  clear hg
  by_cases h : r / 32768 = 1
  · have hd : ((r : Int) / 32768 == 1) = true := by rw [beq_iff_eq]; omega
    have HX := Aside0.mk (show bits .xor .u16 (r : Int) 40961 = ((r ^^^ 40961 : Nat) : Int) from u16_xor_nat r 40961 hr (by omega))
    have HH := Aside0.mk h
    clear h
    go_enter Try.func62, Try.ntmps62
    go_wp2
    go_end0
    refine ⟨rfl, ?_, ?_⟩
    · rw [set_blk (set_blk HG.out 0 _) 0, HX.out, bilge_poly_shl _ r o (Nat.xor_lt_two_pow (n := 16) (by omega) (by omega)) hr ho]
      unfold ub
      rw [if_pos HH.out]; rfl
    · exact grown_set (grown_set (World.grownBy.refl _ _) _ _) _ _
  · have hd : ((r : Int) / 32768 == 1) = false := by rw [beq_eq_false_iff_ne]; omega
    have HH := Aside0.mk h
    clear h
    go_enter Try.func62, Try.ntmps62
    go_wp2
    go_end0
    refine ⟨rfl, ?_, ?_⟩
    · rw [set_blk HG.out 0, bilge_poly_shl r r o hr hr ho]
      unfold ub
      rw [if_neg HH.out, Nat.xor_zero]; rfl
    · exact grown_set (World.grownBy.refl _ _) _ _
def poly_Back.f (a0 a1 : Int) : Option Int := if 0 ≤ a0 ∧ a0 < 65536 ∧ 0 ≤ a1 ∧ a1 < 256 then some (pUn a0.toNat a1.toNat : Nat) else none
theorem poly_Back_bit (b k : Nat) (hb : b < 256) : bits .and .u16 (IntKind.u16.wrap ((b : Int) / 2 ^ k)) 1 = ((b / 2 ^ k % 2 : Nat) : Int) := by
  have hd : b / 2 ^ k < 65536 := Nat.lt_of_le_of_lt (Nat.div_le_self _ _) (by omega)
  have e : (b : Int) / 2 ^ k = ((b / 2 ^ k : Nat) : Int) := by simp
  have h := u16_and_nat (b / 2 ^ k) 1 hd (by omega)
  rw [Nat.and_one_is_mod] at h
  rw [e]
  generalize b / 2 ^ k = q at *
  rw [IntWalk.u16_in (q : Int) (by omega)]
  exact h
theorem poly_Back_ubs (j b : Nat) : ∀ (k r : Nat), ubs (k + j) r b = ubs j (ubs k r (b / 2 ^ j)) b := by
  induction j generalizing b with
  | zero => intro k r; simp [ubs]
  | succ j ih =>
    intro k r
    rw [show k + (j + 1) = (k + j) + 1 by omega, show ubs (k + j + 1) r b = ub (ubs (k + j) r (b / 2)) (b % 2) from rfl, ih, show ubs (j + 1) (ubs k r (b / 2 ^ (j + 1))) b = ub (ubs j (ubs k r (b / 2 ^ (j + 1))) (b / 2)) (b % 2) from rfl, Nat.div_div_eq_div_mul, Nat.pow_succ, Nat.mul_comm 2]
theorem poly_Back_step (k r b : Nat) (hk : k < 8) : ubs (k + 1) r (b / 2 ^ (7 - k)) = ub (ubs k r (b / 2 ^ (8 - k))) (b / 2 ^ (7 - k) % 2) := by
  rw [show ubs (k + 1) r (b / 2 ^ (7 - k)) = ub (ubs k r (b / 2 ^ (7 - k) / 2)) (b / 2 ^ (7 - k) % 2) from rfl, Nat.div_div_eq_div_mul, ← Nat.pow_succ, show (7 - k).succ = 8 - k by omega]
set_option maxRecDepth 100000 in
theorem poly_Back.calls (a0 a1 : Int) (r : Int) (w : World) (h : poly_Back.f a0 a1 = some r) :
    Calls Try.prog 43 #[.int .u16 a0, .int .u8 a1] w fun e w' => e = .returned (.int .u16 r) ∧ Below w.heap.size w w' := by
  unfold poly_Back.f at h
  split at h
  case isFalse => cases h
  case isTrue hb =>
  obtain ⟨n, rfl⟩ := Int.eq_ofNat_of_zero_le hb.1
  obtain ⟨b, rfl⟩ := Int.eq_ofNat_of_zero_le hb.2.2.1
  have hn : n < 65536 := by omega
  have hb8 : b < 256 := by omega
  obtain rfl := Option.some.inj h
  clear h hb
  rw [Int.toNat_natCast, Int.toNat_natCast]
  have hmf : ∀ (fn : Fn) (first cap : Array Value) (w : World), (Instr.makeFunc fn first cap).run Try.prog w = .ok (.func fn first cap) w := fun _ _ _ _ => rfl
  go_enter Try.func43, Try.ntmps43
  go_wp2
  go_loopw [10] (fun v10 wr => ∃ k : Nat, k ≤ 8 ∧ v10 = .int .i64 k ∧ Aside0 (wr.heap[w.heap.size]? = some (.cells #[.int .u16 (ubs k n (b / 2 ^ (8 - k)) : Int)] 64 (0, 0))) ∧ Aside0 ((w.alloc (.cells #[.int .u16 (n : Int)] 64)).grownBy wr (some w.heap.size))) (fun v10 _ => 8 - (intOf v10).toNat)
  case atStart => exact ⟨0, Nat.zero_le _, rfl, ⟨blk_new w _⟩, ⟨World.grownBy.refl _ _⟩⟩
  case round =>
    obtain ⟨k, hk, rfl, HB, HW⟩ := hrel
    by_cases hlt : k < 8
    · go_wp2_with fail
      rw [poly_Back_bit b (7 - k) hb8]
      refine (bilge_poly_unbit (ubs k n (b / 2 ^ (8 - k))) (b / 2 ^ (7 - k) % 2) w.heap.size wr (ubs_lt k hn) (by omega) HB.out).mono ?_
      rintro e w2 ⟨rfl, hb2, hg2⟩
      have HB2 := Aside0.mk hb2
      have HG2 := Aside0.mk (grown_trans HW.out hg2)
      clear hb2 hg2
      go_wp2
      go_roundw
      case rel => exact ⟨k + 1, by omega, by go_num, ⟨by rw [show 8 - (k + 1) = 7 - k by omega, poly_Back_step k n b hlt]; exact HB2.out⟩, HG2⟩
      case measure => simp [intOf]; omega
    · have : k = 8 := by omega
      subst this
      have hc := blk_cell HB.out 0
      go_wp2
      go_ret
      refine ⟨?_, below_of_new HW.out⟩
      simp [pUn]

end Go.Proofs.Ytmekenfndmimhaa.PPolyTells

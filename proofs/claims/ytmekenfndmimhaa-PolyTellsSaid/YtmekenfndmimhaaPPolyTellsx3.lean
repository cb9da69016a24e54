-- Written by a program of this session, in the form of the kit's print, some functions by hand (N.B. not a file of print.sh's).
import Derived.Test.YtmekenfndmimhaaPPolyTellsx0
namespace Go.Proofs.Ytmekenfndmimhaa.PPolyTells
open Go.RowKit Go.Proofs.YtmekenfndmimhaaW.PrintWords Go.Proofs.YtmekenfndmimhaaW.PrintLast Go.Proofs.YtmekenfndmimhaaW.PrintMore Go.Proofs.YtmekenfndmimhaaM
attribute [local go_sem] max2_int min2_int max_two min_two max_three min_three max_four min_four   -- for this text's walks alone
set_option linter.unusedVariables false
set_option linter.unusedSimpArgs false

/-! ### poly_Bit: function 35 (by hand) -/
set_option maxRecDepth 100000 in
theorem bilge_poly_bit (r o g : Nat) (w : World) (hr : r < 65536) (ho : o < 2) (hg : w.heap[g]? = some (.cells #[.int .u16 (r : Int)] 64 (0, 0))) :
    Calls Try.prog 61 #[.pointer (some ⟨g, 0, none⟩), .int .u16 (o : Int)] w fun e w' => e = .returned (.tuple #[]) ∧ w'.heap[g]? = some (.cells #[.int .u16 (pb r o : Int)] 64 (0, 0)) ∧ w.grownBy w' (some g) := by
  have HG := Aside0.mk hg
  have hc := blk_cell hg 0
  have hz := blk_frozen hg 0
  clear hg
  have hx := u16_xor_nat r o hr (by omega)
  have hy : bits .xor .u16 ((r : Int) / 2) 40961 = ((r / 2 ^^^ 40961 : Nat) : Int) := by
    have := u16_xor_nat (r / 2) 40961 (by omega) (by omega)
    simpa using this
  have ha : bits .and .u16 ((r ^^^ o : Nat) : Int) 1 = (((r ^^^ o) % 2 : Nat) : Int) := by
    have := u16_and_nat (r ^^^ o) 1 (Nat.xor_lt_two_pow (n := 16) (by omega) (by omega)) (by omega)
    rw [Nat.and_one_is_mod] at this
    simpa using this
  by_cases h : (r ^^^ o) % 2 = 1
  · have hd : (bits .and .u16 ((r ^^^ o : Nat) : Int) 1 == 1) = true := by rw [ha, h]; rfl
    have HP := Aside0.mk (show pb r o = r / 2 ^^^ 40961 by unfold pb; rw [if_pos h])
    clear h ha
    go_enter Try.func61, Try.ntmps61
    go_wp2
    go_end0
    refine ⟨rfl, ?_, ?_⟩
    · rw [HP.out, set_blk (set_blk HG.out 0 _) 0]; rfl
    · exact grown_set (grown_set (World.grownBy.refl _ _) _ _) _ _
  · have hd : (bits .and .u16 ((r ^^^ o : Nat) : Int) 1 == 1) = false := by
      rw [ha, show (r ^^^ o) % 2 = 0 by omega]; rfl
    have HP := Aside0.mk (show pb r o = r / 2 by unfold pb; rw [if_neg h, Nat.xor_zero])
    clear h ha
    go_enter Try.func61, Try.ntmps61
    go_wp2
    go_end0
    refine ⟨rfl, ?_, ?_⟩
    · rw [HP.out, set_blk HG.out 0]; rfl
    · exact grown_set (World.grownBy.refl _ _) _ _
def poly_Bit.f (a0 : Int) (a1 : Bool) : Option Int := if 0 ≤ a0 ∧ a0 < 65536 then some (pb a0.toNat (if a1 = true then 1 else 0) : Nat) else none
set_option maxRecDepth 100000 in
theorem poly_Bit.calls (a0 : Int) (a1 : Bool) (r : Int) (w : World) (h : poly_Bit.f a0 a1 = some r) :
    Calls Try.prog 35 #[.int .u16 a0, .bool a1] w fun e w' => e = .returned (.int .u16 r) ∧ Below w.heap.size w w' := by
  unfold poly_Bit.f at h
  split at h
  case isFalse => cases h
  case isTrue hb =>
  obtain ⟨n, rfl⟩ := Int.eq_ofNat_of_zero_le hb.1
  have hn : n < 65536 := by omega
  obtain rfl := Option.some.inj h
  clear h hb
  rw [Int.toNat_natCast]
  cases a1 with
  | true =>
    go_enter Try.func35, Try.ntmps35
    go_wp2_with (go_at_call 61; refine (bilge_poly_bit n 1 w.heap.size _ hn (by omega) (blk_new w _)).mono ?_)
    rintro e w' ⟨rfl, hb, hg⟩
    have HG := Aside0.mk hg
    have hc := blk_cell hb 0
    clear hg hb
    go_wp2
    go_ret
    exact ⟨rfl, below_of_new HG.out⟩
  | false =>
    go_enter Try.func35, Try.ntmps35
    go_wp2_with (go_at_call 61; refine (bilge_poly_bit n 0 w.heap.size _ hn (by omega) (blk_new w _)).mono ?_)
    rintro e w' ⟨rfl, hb, hg⟩
    have HG := Aside0.mk hg
    have hc := blk_cell hb 0
    clear hg hb
    go_wp2
    go_ret
    exact ⟨rfl, below_of_new HG.out⟩

end Go.Proofs.Ytmekenfndmimhaa.PPolyTells

-- Written by a program of this session, in the form of the kit's print, some functions by hand (N.B. not a file of print.sh's).
import Derived.Test.YtmekenfndmimhaaPCrcTellsx0
import Derived.Test.YtmekenfndmimhaaPCrcTellsx4
import Derived.Test.YtmekenfndmimhaaPCrcTellsx5
namespace Go.Proofs.Ytmekenfndmimhaa.PCrcTells
open Go.RowKit Go.Proofs.YtmekenfndmimhaaW.PrintWords Go.Proofs.YtmekenfndmimhaaW.PrintLast Go.Proofs.YtmekenfndmimhaaW.PrintMore Go.Proofs.YtmekenfndmimhaaM
attribute [local go_sem] max2_int min2_int max_two min_two max_three min_three max_four min_four   -- for this text's walks alone
set_option linter.unusedVariables false
set_option linter.unusedSimpArgs false

/-! ### crc_Table: function 47 (by hand) -/
def crc_Table.f (a0 : Int) : Option Int := if 0 ≤ a0 ∧ a0 < 256 then some (pBy 0 a0.toNat : Nat) else none
set_option maxRecDepth 100000 in
theorem crc_Table.calls (a0 : Int) (r : Int) (w : World) (h : crc_Table.f a0 = some r) :
    Calls Try.prog 47 #[.int .u8 a0] w fun e w' => e = .returned (.int .u16 r) ∧ Below w.heap.size w w' := by
  unfold crc_Table.f at h
  split at h
  case isFalse => cases h
  case isTrue hb =>
  obtain ⟨n, rfl⟩ := Int.eq_ofNat_of_zero_le hb.1
  have hn : n < 256 := by omega
  obtain rfl := Option.some.inj h
  clear h hb
  rw [Int.toNat_natCast]
  go_enter Try.func47, Try.ntmps47
  go_wp2_with (go_at_call 64; refine (crc_made _).mono ?_)
  rintro e w' ⟨rfl, ⟨cs, h1, h2, h3⟩, hg⟩
  have HG := Aside0.mk hg
  have hc := blk_cell h1 n
  rw [h3 n hn] at hc
  have hz := blk_frozen h1 n
  have b1 : (0 : Int) ≤ (n : Int) := by omega
  have b2 : (n : Int) < 256 := by omega
  clear h1 h2 h3 hg
  go_wp2
  go_ret
  exact ⟨rfl, HG.out⟩

/-! ### crc_table_update: function 65 (by hand) -/
set_option maxRecDepth 100000 in
theorem crc_update (c b g : Nat) (w : World) (hc : c < 65536) (hb : b < 256) (hg : crcTab w g 256) :
    Calls Try.prog 65 #[.pointer (some ⟨g, 0, none⟩), .int .u16 (c : Int), .int .u8 (b : Int)] w fun e w' => e = .returned (.int .u16 (pBy c b : Nat)) ∧ Below w.heap.size w w' := by
  obtain ⟨cs, h1, h2, h3⟩ := hg
  have hx : bits .xor .u8 ((c : Int) % 256) (b : Int) = ((c % 256 ^^^ b : Nat) : Int) := by
    rw [show (c : Int) % 256 = ((c % 256 : Nat) : Int) by omega]
    exact u8_xor_nat _ _ (by omega) hb
  have hq : c % 256 ^^^ b < 256 := Nat.xor_lt_two_pow (n := 8) (by omega) hb
  have hy : bits .xor .u16 ((c : Int) / 256) ((pBy 0 (c % 256 ^^^ b) : Nat) : Int) = ((pBy c b : Nat) : Int) := by
    rw [pBy_shift hc, show (c : Int) / 256 = ((c / 256 : Nat) : Int) by omega]
    exact u16_xor_nat _ _ (by omega) (pBy_lt (by omega))
  have hcell := blk_cell h1 (c % 256 ^^^ b)
  rw [h3 _ hq] at hcell
  have hz := blk_frozen h1 (c % 256 ^^^ b)
  clear h1 h2 h3
  generalize c % 256 ^^^ b = q at *
  have b1 : (0 : Int) ≤ (q : Int) := by omega
  have b2 : (q : Int) < 256 := by omega
  go_enter Try.func65, Try.ntmps65
  go_wp2
  go_ret
  exact ⟨rfl, Below.refl _ _⟩

end Go.Proofs.Ytmekenfndmimhaa.PCrcTells

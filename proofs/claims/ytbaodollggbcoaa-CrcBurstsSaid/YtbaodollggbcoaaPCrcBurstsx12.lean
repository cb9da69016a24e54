-- Written by a program of this session, in the form of the kit's print, some functions by hand (N.B. not a file of print.sh's).
import Derived.Test.YtbaodollggbcoaaPCrcBurstsx0
import Derived.Test.YtbaodollggbcoaaPCrcBurstsx2
namespace Go.Proofs.Ytbaodollggbcoaa.PCrcBursts
open Go.RowKit Go.Proofs.YtbaodollggbcoaaW.PrintWords Go.Proofs.YtbaodollggbcoaaW.PrintLast Go.Proofs.YtbaodollggbcoaaW.PrintMore Go.Proofs.YtbaodollggbcoaaM
attribute [local go_sem] max2_int min2_int max_two min_two max_three min_three max_four min_four   -- for this text's walks alone
set_option linter.unusedVariables false
set_option linter.unusedSimpArgs false

/-! ### crc_Table: function 63 (by hand) -/
def crc_Table.f (a0 : Int) : Option Int := if 0 ≤ a0 ∧ a0 < 256 then some (pBy 0 a0.toNat : Nat) else none
set_option maxRecDepth 100000 in
theorem crc_Table.calls (a0 : Int) (r : Int) (w : World) (h : crc_Table.f a0 = some r) :
    Calls Try.prog 63 #[.int .u8 a0] w fun e w' => e = .returned (.int .u16 r) ∧ Below w.heap.size w w' := by
  unfold crc_Table.f at h
  split at h
  case isFalse => cases h
  case isTrue hb =>
  obtain ⟨n, rfl⟩ := Int.eq_ofNat_of_zero_le hb.1
  have hn : n < 256 := by omega
  obtain rfl := Option.some.inj h
  clear h hb
  rw [Int.toNat_natCast]
  go_enter Try.func63, Try.ntmps63
  go_wp2_with (go_at_call 65; refine (crc_made _).mono ?_)
  rintro e w' ⟨rfl, ⟨cs, h1, h2, h3⟩, hg⟩
  have HG := Aside0.mk hg
  have hc := blk_cell h1 n
  rw [h3 n hn] at hc
  have hz := blk_frozen h1 n
  have b1 : (0 : Int) ≤ (n : Int) := by omega
  have b2 : (n : Int) < 256 := by omega
  clear h1 h2 h3 hg
  go_wp2
  go_ret
  exact ⟨rfl, HG.out⟩

end Go.Proofs.Ytbaodollggbcoaa.PCrcBursts

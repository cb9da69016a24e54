-- Written by a program of this session, in the form of the kit's print, some functions by hand (N.B. not a file of print.sh's).
import Derived.Test.YtbaodollggbcoaaPCrcBurstsx0
import Derived.Test.YtbaodollggbcoaaPCrcBurstsx2
import Derived.Test.YtbaodollggbcoaaPCrcBurstsx3
namespace Go.Proofs.Ytbaodollggbcoaa.PCrcBursts
open Go.RowKit Go.Proofs.YtbaodollggbcoaaW.PrintWords Go.Proofs.YtbaodollggbcoaaW.PrintLast Go.Proofs.YtbaodollggbcoaaW.PrintMore Go.Proofs.YtbaodollggbcoaaM
attribute [local go_sem] max2_int min2_int max_two min_two max_three min_three max_four min_four   -- for this text's walks alone
set_option linter.unusedVariables false
set_option linter.unusedSimpArgs false

/-! ### crc_Update: function 23 (by hand) -/
def crc_Update.f (a0 a1 : Int) : Option Int := if 0 ≤ a0 ∧ a0 < 65536 ∧ 0 ≤ a1 ∧ a1 < 256 then some (pBy a0.toNat a1.toNat : Nat) else none
set_option maxRecDepth 100000 in
theorem crc_Update.calls (a0 a1 : Int) (r : Int) (w : World) (h : crc_Update.f a0 a1 = some r) :
    Calls Try.prog 23 #[.int .u16 a0, .int .u8 a1] w fun e w' => e = .returned (.int .u16 r) ∧ Below w.heap.size w w' := by
  unfold crc_Update.f at h
  split at h
  case isFalse => cases h
  case isTrue hb =>
  obtain ⟨c, rfl⟩ := Int.eq_ofNat_of_zero_le hb.1
  obtain ⟨b, rfl⟩ := Int.eq_ofNat_of_zero_le hb.2.2.1
  have hc : c < 65536 := by omega
  have hb8 : b < 256 := by omega
  obtain rfl := Option.some.inj h
  clear h hb
  rw [Int.toNat_natCast, Int.toNat_natCast]
  go_enter Try.func23, Try.ntmps23
  go_wp2_with (go_at_call 65; refine (crc_made _).mono ?_)
  rintro e w' ⟨rfl, ht, hg⟩
  have HT := Aside0.mk ht
  have HG := Aside0.mk hg
  clear ht hg
  go_wp2_with (go_at_call 66; refine (crc_update c b _ _ hc hb8 HT.out).mono ?_)
  rintro e w2 ⟨rfl, hg⟩
  have HG2 := Aside0.mk hg
  clear hg
  go_wp2
  go_ret
  exact ⟨rfl, HG.out.trans (HG2.out.mono HG.out.size)⟩

end Go.Proofs.Ytbaodollggbcoaa.PCrcBursts

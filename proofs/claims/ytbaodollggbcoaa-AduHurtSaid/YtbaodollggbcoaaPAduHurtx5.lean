-- Written by a program of this session, in the form of the kit's print, some functions by hand (N.B. not a file of print.sh's).
import Derived.Test.YtbaodollggbcoaaPAduHurtx0
import Derived.Test.YtbaodollggbcoaaPAduHurtx3
import Derived.Test.YtbaodollggbcoaaPAduHurtx4
namespace Go.Proofs.Ytbaodollggbcoaa.PAduHurt
open Go.RowKit Go.Proofs.YtbaodollggbcoaaW.PrintWords Go.Proofs.YtbaodollggbcoaaW.PrintLast Go.Proofs.YtbaodollggbcoaaW.PrintMore Go.Proofs.YtbaodollggbcoaaM
attribute [local go_sem] max2_int min2_int max_two min_two max_three min_three max_four min_four   -- for this text's walks alone
set_option linter.unusedVariables false
set_option linter.unusedSimpArgs false

/-! ### crc_Sum: function 21 (by hand) -/
set_option maxRecDepth 100000 in
theorem crc_update (c b g : Nat) (w : World) (hc : c < 65536) (hb : b < 256) (hg : crcTab w g 256) :
    Calls Try.prog 66 #[.pointer (some ⟨g, 0, none⟩), .int .u16 (c : Int), .int .u8 (b : Int)] w fun e w' => e = .returned (.int .u16 (pBy c b : Nat)) ∧ Below w.heap.size w w' := by
  obtain ⟨cs, h1, h2, h3⟩ := hg
  have hx : bits .xor .u8 ((c : Int) % 256) (b : Int) = ((c % 256 ^^^ b : Nat) : Int) := by
    rw [show (c : Int) % 256 = ((c % 256 : Nat) : Int) by omega]
    exact u8_xor_nat _ _ (by omega) hb
  have hq : c % 256 ^^^ b < 256 := Nat.xor_lt_two_pow (n := 8) (by omega) hb
  have hy : bits .xor .u16 ((c : Int) / 256) ((pBy 0 (c % 256 ^^^ b) : Nat) : Int) = ((pBy c b : Nat) : Int) := by
    rw [pBy_shift hc, show (c : Int) / 256 = ((c / 256 : Nat) : Int) by omega]
    exact u16_xor_nat _ _ (by omega) (pBy_lt (by omega))
  have hcell := blk_cell h1 (c % 256 ^^^ b)
  rw [h3 _ hq] at hcell
  have hz := blk_frozen h1 (c % 256 ^^^ b)
  clear h1 h2 h3
  generalize c % 256 ^^^ b = q at *
  have b1 : (0 : Int) ≤ (q : Int) := by omega
  have b2 : (q : Int) < 256 := by omega
  go_enter Try.func66, Try.ntmps66
  go_wp2
  go_ret
  exact ⟨rfl, Below.refl _ _⟩
def crc_Sum.f (l0 : List Int) : Option Int := if ∀ x ∈ l0, 0 ≤ x ∧ x ≤ 255 then some (pRem 65535 l0 : Nat) else none
set_option maxRecDepth 100000 in
theorem crc_Sum.calls (A0 : Option Addr) (c0 : Nat) (l0 : List Int) (r : Int) (w : World) (hr0 : Kd.C (Kd.int .u8) w A0 l0.length l0) (hc0 : l0.length ≤ c0) (h : crc_Sum.f l0 = some r) :
    Calls Try.prog 21 #[.slice A0 l0.length c0] w fun e w' => e = .returned (.int .u16 r) ∧ Below w.heap.size w w' := by
  unfold crc_Sum.f at h
  split at h
  case isFalse => cases h
  case isTrue hb =>
  obtain rfl := Option.some.inj h
  have hn : l0.length ≤ 9223372036854775807 := Kd.C_max hr0
  have HR0 := Aside0.mk hr0
  have HB := Aside0.mk hb
  clear h hb hr0 hc0
  go_enter Try.func21, Try.ntmps21
  go_wp2_with (go_at_call 65; refine (crc_made _).mono ?_)
  rintro e w' ⟨rfl, ht, hg⟩
  have HT := Aside0.mk ht
  have HG := Aside0.mk hg
  clear ht hg
  go_wp2
  go_loopw [11, 5] (fun v11 v5 wr => ∃ k : Nat, k ≤ l0.length ∧ v11 = .int .i64 k ∧ v5 = .int .u16 (pRem 65535 (l0.take k) : Nat) ∧ Aside0 (crcTab wr w.heap.size 256) ∧ Aside0 (Below w.heap.size w wr)) (fun v11 _ _ => l0.length - (intOf v11).toNat)
  case atStart => exact ⟨0, Nat.zero_le _, rfl, rfl, HT, HG⟩
  case round =>
    obtain ⟨k, hk, rfl, rfl, HT2, HG2⟩ := hrel
    clear HT HG
    by_cases hlt : k < l0.length
    · obtain ⟨ad, e1, hx⟩ := Kd.at_int (Kd.C_below HR0.out HG2.out) k (by omega) (by omega)
      cases e1
      have hbd := HB.out (l0[k]) (List.getElem_mem _)
      obtain ⟨x, hxe⟩ := Int.eq_ofNat_of_zero_le hbd.1
      have hx8 : x < 256 := by omega
      have hrd : rd l0 k = (x : Int) := by rw [show rd l0 k = l0.getD k 0 by simp [rd], getD_at l0 k hlt, hxe]
      have HS := Aside0.mk (show pBy (pRem 65535 (l0.take k)) x = pRem 65535 (l0.take (k + 1)) by rw [take_snoc l0 k hlt, pRem_snoc, hxe, Int.toNat_natCast])
      have HM := Aside0.mk (show pRem 65535 (l0.take k) < 65536 from pRem_lt _ (by omega))
      simp only [Int.toNat_natCast, hrd] at hx
      clear hbd hxe hrd
      generalize pRem 65535 (l0.take k) = m at *
      go_wp2_with (go_at_call 66; refine (crc_update m x _ _ HM.out hx8 HT2.out).mono ?_)
      rintro e w2 ⟨rfl, hg⟩
      have HG3 := Aside0.mk hg
      clear hg
      go_wp2
      go_roundw
      case rel => exact ⟨k + 1, by omega, by go_num, by rw [HS.out], ⟨crcTab_below HT2.out HG3.out⟩, ⟨HG2.out.trans (HG3.out.mono HG2.out.size)⟩⟩
      case measure => simp [intOf]; omega
    · have : k = l0.length := by omega
      subst this
      go_wp2
      go_ret
      exact ⟨congrArg (fun z => Ending.returned (.int .u16 (pRem 65535 z : Nat))) (List.take_length (l := l0)), HG2.out⟩

end Go.Proofs.Ytbaodollggbcoaa.PAduHurt

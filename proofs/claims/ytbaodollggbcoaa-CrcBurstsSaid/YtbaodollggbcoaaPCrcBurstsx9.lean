-- Written by a program of this session, in the form of the kit's print, some functions by hand (N.B. not a file of print.sh's).
import Derived.Test.YtbaodollggbcoaaPCrcBurstsx0
import Derived.Test.YtbaodollggbcoaaPCrcBurstsx1
import Derived.Test.YtbaodollggbcoaaPCrcBurstsx2
import Derived.Test.YtbaodollggbcoaaPCrcBurstsx3
namespace Go.Proofs.Ytbaodollggbcoaa.PCrcBursts
open Go.RowKit Go.Proofs.YtbaodollggbcoaaW.PrintWords Go.Proofs.YtbaodollggbcoaaW.PrintLast Go.Proofs.YtbaodollggbcoaaW.PrintMore Go.Proofs.YtbaodollggbcoaaM
attribute [local go_sem] max2_int min2_int max_two min_two max_three min_three max_four min_four   -- for this text's walks alone
set_option linter.unusedVariables false
set_option linter.unusedSimpArgs false

/-! ### crc_Join: function 20 (by hand) -/
def crc_Join.f (a0 a1 a2 : Int) : Option (Int × Int) := if 0 ≤ a0 ∧ a0 < 65536 ∧ 0 ≤ a1 ∧ a1 < 65536 then (if a2 < 0 ∨ 65536 < a2 then some (0, 11) else some ((pRem (a0.toNat ^^^ 65535) (List.replicate a2.toNat 0) ^^^ a1.toNat : Nat), 0)) else none
set_option maxRecDepth 100000 in
theorem crc_Join.calls (a0 a1 a2 : Int) (r1 r2 : Int) (w : World) (h : crc_Join.f a0 a1 a2 = some (r1, r2)) :
    Calls Try.prog 20 #[.int .u16 a0, .int .u16 a1, .int .i64 a2] w fun e w' => e = .returned (.tuple #[.int .u16 r1, .int .i64 r2]) ∧ Below w.heap.size w w' := by
  unfold crc_Join.f at h
  split at h
  case isFalse => cases h
  case isTrue hb =>
  obtain ⟨a, rfl⟩ := Int.eq_ofNat_of_zero_le hb.1
  obtain ⟨b, rfl⟩ := Int.eq_ofNat_of_zero_le hb.2.2.1
  have ha : a < 65536 := by omega
  have hb16 : b < 65536 := by omega
  clear hb
  rw [Int.toNat_natCast, Int.toNat_natCast] at h
  by_cases hneg : a2 < 0
  · rw [if_pos (Or.inl hneg)] at h
    obtain ⟨rfl, rfl⟩ := Prod.mk.inj (Option.some.inj h)
    clear h
    go_enter Try.func20, Try.ntmps20
    go_wp2
    go_ret2
    exact ⟨rfl, Below.refl _ _⟩
  by_cases hbig : 65536 < a2
  · rw [if_pos (Or.inr hbig)] at h
    obtain ⟨rfl, rfl⟩ := Prod.mk.inj (Option.some.inj h)
    clear h
    go_enter Try.func20, Try.ntmps20
    go_wp2
    go_ret2
    exact ⟨rfl, Below.refl _ _⟩
  rw [if_neg (by omega)] at h
  obtain ⟨n, rfl⟩ := Int.eq_ofNat_of_zero_le (show 0 ≤ a2 by omega)
  rw [Int.toNat_natCast] at h
  obtain ⟨rfl, rfl⟩ := Prod.mk.inj (Option.some.inj h)
  clear h
  have hn : n ≤ 65536 := by omega
  have h1 : ¬ ((n : Int) < 0) := hneg
  have h2 : ¬ ((65536 : Int) < (n : Int)) := hbig
  have hX : bits .xor .u16 (a : Int) 65535 = ((a ^^^ 65535 : Nat) : Int) := u16_xor_nat a 65535 ha (by omega)
  have HA := Aside0.mk (show a ^^^ 65535 < 65536 from Nat.xor_lt_two_pow (n := 16) (by omega) (by omega))
  generalize a ^^^ 65535 = c at *
  clear ha
  go_enter Try.func20, Try.ntmps20
  go_wp2_with (go_at_call 65; refine (crc_made _).mono ?_)
  rintro e w' rfl ht hg
  have HT := Aside0.mk ht
  have HG := Aside0.mk hg
  clear ht hg
  go_wp2
  go_loopw [20, 9] (fun v20 v9 wr => ∃ k : Nat, k ≤ n ∧ v20 = .int .i64 k ∧ v9 = .int .u16 (pRem c (List.replicate k 0) : Nat) ∧ Aside0 (crcTab wr w.heap.size 256) ∧ Aside0 (Below w.heap.size w wr)) (fun v20 _ _ => n - (intOf v20).toNat)
  case atStart => exact ⟨0, Nat.zero_le _, rfl, rfl, HT, HG⟩
  case round =>
    obtain ⟨k, hk, rfl, rfl, HT2, HG2⟩ := hrel
    clear HT HG
    have HM := Aside0.mk (show pRem c (List.replicate k 0) < 65536 from pRem_lt _ HA.out)
    by_cases hlt : k < n
    · have HS := Aside0.mk (show pBy (pRem c (List.replicate k 0)) 0 = pRem c (List.replicate (k + 1) 0) by rw [List.replicate_succ', pRem_snoc]; rfl)
      generalize pRem c (List.replicate k 0) = m at *
      go_wp2_with (go_at_call 66; refine (crc_update m 0 _ _ HM.out (by omega) HT2.out).mono ?_)
      rintro e w2 ⟨rfl, hg⟩
      have HG3 := Aside0.mk hg
      clear hg
      go_wp2
      go_roundw
      case rel => exact ⟨k + 1, by omega, by go_num, by rw [HS.out], ⟨crcTab_below HT2.out HG3.out⟩, ⟨HG2.out.trans (HG3.out.mono HG2.out.size)⟩⟩
      case measure => simp [intOf]; omega
    · have : k = n := by omega
      subst this
      have HX := Aside0.mk (u16_xor_nat _ b HM.out hb16)
      go_wp2
      go_ret2
      exact ⟨congrArg (fun z : Int => Ending.returned (.tuple #[.int .u16 z, .int .i64 0])) HX.out, HG2.out⟩

end Go.Proofs.Ytbaodollggbcoaa.PCrcBursts

-- Written by a program of this session, in the form of the kit's print, some functions by hand (N.B. not a file of print.sh's).
import Derived.Test.YtmekenfndmimhaaPLrcTellsx0
import Derived.Test.YtmekenfndmimhaaPLrcTellsx8
namespace Go.Proofs.Ytmekenfndmimhaa.PLrcTells
open Go.RowKit Go.Proofs.YtmekenfndmimhaaW.PrintWords Go.Proofs.YtmekenfndmimhaaW.PrintLast Go.Proofs.YtmekenfndmimhaaW.PrintMore Go.Proofs.YtmekenfndmimhaaM
attribute [local go_sem] max2_int min2_int max_two min_two max_three min_three max_four min_four   -- for this text's walks alone
set_option linter.unusedVariables false
set_option linter.unusedSimpArgs false

/-! ### bilgeref35_Check: function 15 (by hand) -/
def bilgeref35_Check.f (k : Nat) (l0 : List Int) : Option Bool := if 0 < l0.length then (bilgeref35_Sum.f k (l0.take (l0.length - 1))).bind fun t => some (t == rd l0 ((l0.length : Int) - 1)) else some false
theorem bilgeref35_Check.mono : ∀ a0 k, LeO (bilgeref35_Check.f k a0) (bilgeref35_Check.f (k + 1) a0) := by
  intro a0 k
  unfold bilgeref35_Check.f
  repeat' first
      | (with_reducible exact bilgeref35_Sum.mono _ _)
      | (with_reducible exact LeO.refl _)
      | (with_reducible exact LeO.none _)
      | (with_reducible refine LeO.ite ?_ ?_)
      | (with_reducible refine LeO.bind ?_ (fun _ => ?_))
set_option maxRecDepth 100000 in
theorem bilgeref35_Check.calls (k : Nat) (A0 : Option Addr) (c0 : Nat) (l0 : List Int) (r : Bool) (w : World) (hr0 : Kd.C (Kd.int .u8) w A0 l0.length l0) (hc0 : l0.length ≤ c0) (h : bilgeref35_Check.f k l0 = some r) :
    Calls Try.prog 15 #[.slice A0 l0.length c0] w fun e w' => e = .returned (.bool r) ∧ Drawn0 w w' := by
  have hn : l0.length ≤ 9223372036854775807 := Kd.C_max hr0
  unfold bilgeref35_Check.f at h
  by_cases hp : 0 < l0.length
  · rw [if_pos hp] at h
    obtain ⟨t, ht, h⟩ := Option.bind_eq_some_iff.1 h
    obtain rfl := Option.some.inj h
    obtain ⟨i0, hi0, _, hsz, _⟩ := info_parts info5
    obtain ⟨hcut, hA, hC⟩ := print_take_of (P := Try.prog) (Value.int .u8) 0 22 5 .i64 Try.underlying22 hi0 hsz A0 c0 l0 ((l0.length : Int) - 1) (by omega) (by omega) hc0
    have hR := Kd.C_of_reads (h1 := fun _ => rfl) (hA _ (Kd.reads_of_C hr0))
    have e1 : ((l0.length : Int) - 1).toNat = l0.length - 1 := by omega
    rw [e1] at hcut hC hR
    obtain ⟨ad, e2, hx⟩ := Kd.at_int hr0 ((l0.length : Int) - 1) (by omega) (by omega)
    cases e2
    obtain ⟨j, hj⟩ : ∃ j : Int, (l0.length : Int) - 1 = j := ⟨_, rfl⟩
    have hw : IntKind.i64.wrap ((l0.length : Int) - 1) = j := (IntWalk.i64_in _ (by omega)).trans hj
    rw [hj] at hx hcut ⊢
    have hp2 : (0 : Int) < (l0.length : Int) := by omega
    have hp1 : 0 ≤ j := by omega
    have hp3 : j < (l0.length : Int) := by omega
    have hd : decide ((0 : Int) < (l0.length : Int)) = true := by simpa using hp
    have hd2 : decide (0 < l0.length) = true := by simpa using hp
    generalize l0.take (l0.length - 1) = xs at hcut hR hC ht
    have HR := Aside0.mk hR
    have HC := Aside0.mk hC
    have HT := Aside0.mk ht
    clear hr0 hA hC h ht e1 hc0 hR hj hp
    go_enter Try.func15, Try.ntmps15
    go_wp2_with fail
    go_quiet ((go_at_call 18; refine (bilgeref35_Sum.calls k _ _ xs t _ (Kd.C_drewN HR.out _) HC.out HT.out).mono ?_; rintro e w' ⟨rfl, ⟨nd, rfl⟩⟩; exact ⟨rfl, _, World.drewN_drewN _ _ _⟩))
    go_wp2
    go_ret
    exact ⟨rfl, ⟨_, rfl⟩⟩
  · rw [if_neg hp] at h
    obtain rfl := Option.some.inj h
    have hd : decide ((0 : Int) < (l0.length : Int)) = false := by simpa using hp
    have hd2 : decide (0 < l0.length) = false := by simpa using hp
    clear hp hr0 hc0 h
    go_enter Try.func15, Try.ntmps15
    go_wp2
    go_quiet (fail)
    go_wp2
    go_ret
    exact ⟨rfl, ⟨_, rfl⟩⟩

end Go.Proofs.Ytmekenfndmimhaa.PLrcTells

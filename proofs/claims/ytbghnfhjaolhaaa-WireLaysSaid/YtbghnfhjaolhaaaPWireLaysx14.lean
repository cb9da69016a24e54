-- Written by a program of this session, in the form of the kit's print, some functions by hand (N.B. not a file of print.sh's).
import Derived.Test.YtbghnfhjaolhaaaPWireLaysx0
import Derived.Test.YtbghnfhjaolhaaaPWireLaysx12
import Derived.Test.YtbghnfhjaolhaaaPWireLaysx13
namespace Go.Proofs.Ytbghnfhjaolhaaa.PWireLays
open Go.RowKit Go.Proofs.YtbghnfhjaolhaaaW.PrintWords Go.Proofs.YtbghnfhjaolhaaaW.PrintLast Go.Proofs.YtbghnfhjaolhaaaW.PrintMore Go.Proofs.YtbghnfhjaolhaaaM
attribute [local go_sem] max2_int min2_int max_two min_two max_three min_three max_four min_four   -- for this text's walks alone
set_option linter.unusedVariables false
set_option linter.unusedSimpArgs false

/-! ### wire_Drop: function 37 (by hand) -/
def wire_Drop.f (l0 : List S54) (a1 : Int) : Option (List S54) := if l0.length < 8796093022208 then some (if 0 ≤ a1 ∧ a1 < (l0.length : Int) then l0.eraseIdx a1.toNat else l0) else none
set_option maxRecDepth 100000 in
theorem wire_Drop.calls (A0 : Option Addr) (c0 : Nat) (l0 : List S54) (a1 : Int) (r : List S54) (w : World) (hr0 : Kd.C k54 w A0 l0.length l0) (hc0 : l0.length ≤ c0) (h : wire_Drop.f l0 a1 = some r) :
    Calls Try.prog 37 #[.slice A0 l0.length c0, .int .i64 a1] w fun e w' => ∃ v0_ : Value, e = .returned (v0_) ∧ Kd.R k54 54 w' w.heap.size (fun _ => True) v0_ r ∧ Below w.heap.size w w' := by
  unfold wire_Drop.f at h
  split at h
  case isFalse => cases h
  case isTrue hl =>
  obtain rfl := Option.some.inj h
  have HC := Aside0.mk (clone_bytes A0 c0 l0 w hr0 hc0 hl)
  clear h hr0 hc0
  by_cases hk : 0 ≤ a1 ∧ a1 < (l0.length : Int)
  · rw [if_pos hk]
    obtain ⟨hk0, hk1⟩ := hk
    obtain ⟨q, rfl⟩ := Int.eq_ofNat_of_zero_le hk0
    rw [Int.toNat_natCast]
    obtain ⟨RR, hRR⟩ : ∃ RR, RR = l0.eraseIdx q := ⟨_, rfl⟩
    rw [← hRR]
    have HRR := Aside0.mk hRR
    obtain ⟨n, hn⟩ : ∃ n, l0.length = n := ⟨_, rfl⟩
    have HN := Aside0.mk hn
    have hq : q < n := by omega
    have HQ := Aside0.mk hq
    have hnl : n < 8796093022208 := by omega
    rw [hn] at HC ⊢
    clear hn hk0 hk1 hRR hl
    go_enter Try.func37, Try.ntmps37
    go_wp2_with (first
      | (go_at_call 78; refine HC.out.mono ?_; rintro e w1 ⟨v1, rfl, hr, hg⟩; obtain ⟨g, co, rfl, hgb, hgs, cells, hcells⟩ := Kd.R_form hr (by rw [HN.out]; have := HQ.out; omega); rw [HN.out] at hr ⊢; have HR := Aside0.mk hr; have HG := Aside0.mk hg; have HGB := Aside0.mk hgb; have HGS := Aside0.mk hgs; clear hr hg hgb hgs hcells cells)
      | (go_at_call 79; refine (del_one g n co q (q + 1) l0 _ HR.out rfl (by have := HQ.out; omega)).mono ?_; rintro e w2 ⟨rfl, hr2, hg2⟩; have HR2 := Aside0.mk hr2; have HG2 := Aside0.mk (HG.out.grown hg2 HG.out.size (fun k hk => by cases hk; exact HGB.out)); clear hr2 hg2))
    go_ret
    rw [HRR.out]
    exact ⟨_, rfl, HR2.out, HG2.out⟩
  · rw [if_neg hk]
    have d1 : (decide (a1 < 0) || decide ((l0.length : Int) ≤ a1)) = true := by
      rw [Bool.or_eq_true, decide_eq_true_eq, decide_eq_true_eq]; omega
    clear hk
    go_enter Try.func37, Try.ntmps37
    go_wp2_with (go_at_call 78; refine HC.out.mono ?_; rintro e w1 ⟨v1, rfl, hr, hg⟩; obtain ⟨Ao, co, rfl⟩ := Kd.R_slice hr; have HR := Aside0.mk hr; have HG := Aside0.mk hg; clear hr hg)
    all_goals (go_ret; exact ⟨_, rfl, HR.out, HG.out⟩)

end Go.Proofs.Ytbghnfhjaolhaaa.PWireLays

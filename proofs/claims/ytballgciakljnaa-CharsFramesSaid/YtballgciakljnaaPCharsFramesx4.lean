-- Written by a program of this session, in the form of the kit's print, some functions by hand (N.B. not a file of print.sh's).
import Derived.Test.YtballgciakljnaaPCharsFramesx0
import Derived.Test.YtballgciakljnaaPCharsFramesx1
namespace Go.Proofs.Ytballgciakljnaa.PCharsFrames
open Go.RowKit Go.Proofs.YtballgciakljnaaW.PrintWords Go.Proofs.YtballgciakljnaaW.PrintLast Go.Proofs.YtballgciakljnaaW.PrintMore Go.Proofs.YtballgciakljnaaM
attribute [local go_sem] max2_int min2_int max_two min_two max_three min_three max_four min_four   -- for this text's walks alone
set_option linter.unusedVariables false
set_option linter.unusedSimpArgs false

/-! ### chars_Taker_over: function 85 (by hand) -/
def overF (s : Tk) : Bool := decide (1 < s.hl.length) && (s.hl.getD (s.hl.length - 1) 0 == s.d) && (s.hl.getD (s.hl.length - 2) 0 == 13)
set_option maxRecDepth 100000 in
theorem over_calls (B g : Nat) (v : Value) (s : Tk) (w : World) (h : Ct w B g v s) (hh : s.hl.length < 1000000) : Calls Try.prog 85 #[.pointer (some ⟨g, 0, none⟩)] w fun e w' => e = .returned (.bool (overF s)) ∧ Drawn0 w w' := by
  obtain ⟨A, c, rfl⟩ := Kd.R_slice h.2.1
  have hrd := Kd.R_reads' h.2.1
  have h2 : w.cell? ⟨g, 2, none⟩ = some (.int .u8 s.d) := h.cell 2
  have h3 : w.cell? ⟨g, 3, none⟩ = some (.slice A s.hl.length c) := h.cell 3
  obtain ⟨n, hn⟩ : ∃ n, s.hl.length = n := ⟨_, rfl⟩
  unfold overF
  rw [hn] at h3 hrd ⊢
  by_cases h1 : 1 < n
  · obtain ⟨m, hm⟩ : ∃ m, n = m + 2 := ⟨n - 2, by omega⟩
    obtain ⟨j, hj⟩ : ∃ j, j = m + 1 := ⟨_, rfl⟩
    obtain ⟨ad, hA, p1⟩ := Kd.at_int hrd.2.2 (j : Int) (by omega) (by omega)
    obtain ⟨ad2, hA2, p2⟩ := Kd.at_int hrd.2.2 (m : Int) (by omega) (by omega)
    subst hA
    cases hA2
    have r1 : rd s.hl (j : Int) = s.hl.getD (n - 1) 0 := by unfold rd; rw [Int.toNat_natCast, show n - 1 = j by omega]
    have r2 : rd s.hl (m : Int) = s.hl.getD (n - 2) 0 := by unfold rd; rw [Int.toNat_natCast, show n - 2 = m by omega]
    rw [Int.toNat_natCast, r1] at p1
    rw [Int.toNat_natCast, r2] at p2
    obtain ⟨x1, hx1⟩ : ∃ x, x = s.hl.getD (n - 1) 0 := ⟨_, rfl⟩
    obtain ⟨x2, hx2⟩ : ∃ x, x = s.hl.getD (n - 2) 0 := ⟨_, rfl⟩
    rw [← hx1] at p1 ⊢
    rw [← hx2] at p2 ⊢
    have d1 : decide (1 < n) = true := decide_eq_true h1
    have d1i : decide ((1 : Int) < (n : Int)) = true := decide_eq_true (by omega)
    rw [d1]
    have q1 : (0 : Int) ≤ (j : Int) := by omega
    have q2 : (j : Int) < (n : Int) := by omega
    have q3 : (0 : Int) ≤ (m : Int) := by omega
    have q4 : (m : Int) < (n : Int) := by omega
    have hw1 : IntKind.i64.wrap ((n : Int) - 1) = (j : Int) := by rw [i64_w]; unfold wrap64; omega
    have hw2 : IntKind.i64.wrap ((n : Int) - 2) = (m : Int) := by rw [i64_w]; unfold wrap64; omega
    have HN := Aside0.mk hn
    have HM := Aside0.mk hm
    clear h hrd hn hh hx1 hx2 r1 r2 h1 hm hj
    by_cases e1 : x1 = s.d
    · have b1 : (x1 == s.d) = true := beq_iff_eq.2 e1
      rw [b1]
      rw [e1] at p1
      have b2 : (s.d == s.d) = true := beq_iff_eq.2 rfl
      clear b1 e1
      go_enter Try.func85, Try.ntmps85
      go_wp2
      go_quiet (fail)
      go_wp2
      go_ret
      exact ⟨by simp, ⟨⟨_, rfl⟩⟩⟩
    · have b1 : (x1 == s.d) = false := beq_eq_false_iff_ne.2 e1
      clear e1
      go_enter Try.func85, Try.ntmps85
      go_wp2
      go_quiet (fail)
      go_wp2
      go_ret
      exact ⟨by simp [b1], ⟨⟨_, rfl⟩⟩⟩
  · have d1 : decide (1 < n) = false := decide_eq_false h1
    have d1i : decide ((1 : Int) < (n : Int)) = false := decide_eq_false (by omega)
    rw [d1]
    clear h hrd hn hh h1
    go_enter Try.func85, Try.ntmps85
    go_wp2
    go_quiet (fail)
    go_wp2
    go_ret
    exact ⟨by simp, ⟨⟨_, rfl⟩⟩⟩

end Go.Proofs.Ytballgciakljnaa.PCharsFrames

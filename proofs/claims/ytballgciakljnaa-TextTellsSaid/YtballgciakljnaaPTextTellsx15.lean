-- Written by a program of this session, in the form of the kit's print, some functions by hand (N.B. not a file of print.sh's).
import Derived.Test.YtballgciakljnaaPTextTellsx0
import Derived.Test.YtballgciakljnaaPTextTellsx13
namespace Go.Proofs.Ytballgciakljnaa.PTextTells
open Go.RowKit Go.Proofs.YtballgciakljnaaW.PrintWords Go.Proofs.YtballgciakljnaaW.PrintLast Go.Proofs.YtballgciakljnaaW.PrintMore Go.Proofs.YtballgciakljnaaM
attribute [local go_sem] max2_int min2_int max_two min_two max_three min_three max_four min_four   -- for this text's walks alone
set_option linter.unusedVariables false
set_option linter.unusedSimpArgs false

/-! ### bilgeref36_digit: function 89 -/
def bilgeref36_digit.j0 : Nat → Int → Bool → Option (Int)
  | 0, _, _ => none
  | k + 1, x0, x8 => if x8 = true then (some ((x0 - 48) % 256)) else (if x0 ≥ 65 then (if x0 ≤ 70 then (some (((x0 - 65) % 256) + 10)) else (some (-1))) else (some (-1)))
def bilgeref36_digit.f (k : Nat) (a0 : Int) : Option (Int) := if a0 ≥ 48 then (bilgeref36_digit.j0 k a0 (decide (a0 ≤ 57))) else (bilgeref36_digit.j0 k a0 false)
theorem bilgeref36_digit.mono_l : ∀ k, (∀ y0 y1, LeO (bilgeref36_digit.j0 k y0 y1) (bilgeref36_digit.j0 (k + 1) y0 y1))
  | 0 => fun _ _ r h => by simp [bilgeref36_digit.j0] at h
  | k + 1 => by
    have ih0 := bilgeref36_digit.mono_l k
    · intro y0 y1
      unfold bilgeref36_digit.j0
      repeat' first
      | (with_reducible exact ih0 _ _)
      | (with_reducible exact LeO.refl _)
      | (with_reducible exact LeO.none _)
      | (with_reducible refine LeO.ite ?_ ?_)
      | (with_reducible refine LeO.bind ?_ (fun _ => ?_))
      | exact ih0 _ _
      | exact LeO.none _
      | refine LeO.ite ?_ ?_
      | refine LeO.bind ?_ (fun _ => ?_)
theorem bilgeref36_digit.mono : ∀ a0 k, LeO (bilgeref36_digit.f k a0) (bilgeref36_digit.f (k + 1) a0) := by
  intro a0 k
  have ih0 := bilgeref36_digit.mono_l k
  unfold bilgeref36_digit.f
  repeat' first
      | (with_reducible exact ih0 _ _)
      | (with_reducible exact LeO.refl _)
      | (with_reducible exact LeO.none _)
      | (with_reducible refine LeO.ite ?_ ?_)
      | (with_reducible refine LeO.bind ?_ (fun _ => ?_))
      | exact ih0 _ _
      | exact LeO.none _
      | refine LeO.ite ?_ ?_
      | refine LeO.bind ?_ (fun _ => ?_)
set_option maxHeartbeats 8000000 in
set_option maxRecDepth 100000 in
theorem bilgeref36_digit.calls (k : Nat) (a0 : Int) (r : Int) (w : World) (h : bilgeref36_digit.f k a0 = some r) :
    Calls Try.prog 89 #[.int .u8 a0] w fun e w' => e = .returned (.int .i64 r) ∧ Drawn0 w w' := by
  have H : (if a0 ≥ 48 then (bilgeref36_digit.j0 k a0 (decide (a0 ≤ 57))) else (bilgeref36_digit.j0 k a0 false)) = some r := h
  clear h
  have HC2 := Aside0.mk H
  clear H
  go_enter Try.func89, Try.ntmps89
  go_upto_region 1 with (fail)
  go_cut [8] (fun v8 wc => ∃ (kq : Nat) (x8_1 : Bool), v8 = .bool x8_1 ∧ Aside0 (bilgeref36_digit.j0 kq a0 x8_1 = some r) ∧ Aside0 (kq ≤ k) ∧ Drawn0 w wc)
  case first =>
    have H := HC2.out
    clear HC2
    by_cases c3 : a0 ≥ 48
    · rw [if_pos c3] at H
      have c3b0 : decide (48 ≤ a0) = true := decide_eq_true c3
      clear c3
      (first | rw [c3b0] | (simp only [i64_w, i32_w]; rw [c3b0]) | skip)
      have H' := Aside0.mk H
      clear H
      go_wp2
      go_meet
      case rel => exact ⟨_, (decide (a0 ≤ 57)), (by first | rfl | (simp; done) | (simp [*]; done)), H', ⟨by first | omega | exact Nat.le_refl _⟩, by repeat (first | exact Drawn0.refl _ | apply Drawn0.step)⟩
    · rw [if_neg c3] at H
      have c3b0 : decide (48 ≤ a0) = false := decide_eq_false c3
      clear c3
      (first | rw [c3b0] | (simp only [i64_w, i32_w]; rw [c3b0]) | skip)
      have H' := Aside0.mk H
      clear H
      go_wp2
      go_meet
      case rel => exact ⟨_, (false), (by first | rfl | (simp; done) | (simp [*]; done)), H', ⟨by first | omega | exact Nat.le_refl _⟩, by repeat (first | exact Drawn0.refl _ | apply Drawn0.step)⟩
  case rest =>
    clear HC2
    try clear p2
    try clear c3
    try clear c3b0
    obtain ⟨kq, x8_1, rfl, HA, HJ1, ⟨mc1, rfl⟩⟩ := hcut
    cases kq with
    | zero => exact absurd HA.out (by simp [bilgeref36_digit.j0])
    | succ kj1 =>
      have H := HA.out
      clear HA
      simp only [bilgeref36_digit.j0] at H
      by_cases c4 : x8_1 = true
      · subst c4
        have H1 : (some ((a0 - 48) % 256)) = some r := by rw [if_pos rfl] at H; exact H
        clear H
        have H := H1
        clear H1
        obtain rfl := Option.some.inj H
        go_wp2
        go_ret
        exact ⟨by first | rfl | (simp; done) | (simp [*]; done), by repeat (first | exact Drawn0.refl _ | apply Drawn0.step)⟩
      · replace c4 := Bool.eq_false_iff.mpr c4
        subst c4
        have H1 : (if a0 ≥ 65 then (if a0 ≤ 70 then (some (((a0 - 65) % 256) + 10)) else (some (-1))) else (some (-1))) = some r := by rw [if_neg (show ¬ (false = true) by decide)] at H; exact H
        clear H
        have H := H1
        clear H1
        by_cases c5 : a0 ≥ 65
        · rw [if_pos c5] at H
          have c5b0 : decide (65 ≤ a0) = true := decide_eq_true c5
          clear c5
          by_cases c6 : a0 ≤ 70
          · rw [if_pos c6] at H
            have c6b0 : decide (a0 ≤ 70) = true := decide_eq_true c6
            clear c6
            obtain rfl := Option.some.inj H
            go_wp2
            go_ret
            exact ⟨by first | rfl | (simp; done) | (simp [*]; done), by repeat (first | exact Drawn0.refl _ | apply Drawn0.step)⟩
          · rw [if_neg c6] at H
            have c6b0 : decide (a0 ≤ 70) = false := decide_eq_false c6
            clear c6
            obtain rfl := Option.some.inj H
            go_wp2
            go_ret
            exact ⟨by first | rfl | (simp; done) | (simp [*]; done), by repeat (first | exact Drawn0.refl _ | apply Drawn0.step)⟩
        · rw [if_neg c5] at H
          have c5b0 : decide (65 ≤ a0) = false := decide_eq_false c5
          clear c5
          obtain rfl := Option.some.inj H
          go_wp2
          go_ret
          exact ⟨by first | rfl | (simp; done) | (simp [*]; done), by repeat (first | exact Drawn0.refl _ | apply Drawn0.step)⟩

/-! ### bilgeref35_Check: function 90 (by hand) -/
def bilgeref35_Check.f (k : Nat) (l0 : List Int) : Option Bool := if 0 < l0.length then (bilgeref35_Sum.f k (l0.take (l0.length - 1))).bind fun t => some (t == rd l0 ((l0.length : Int) - 1)) else some false
theorem bilgeref35_Check.mono : ∀ a0 k, LeO (bilgeref35_Check.f k a0) (bilgeref35_Check.f (k + 1) a0) := by
  intro a0 k
  unfold bilgeref35_Check.f
  repeat' first
      | (with_reducible exact bilgeref35_Sum.mono _ _)
      | (with_reducible exact LeO.refl _)
      | (with_reducible exact LeO.none _)
      | (with_reducible refine LeO.ite ?_ ?_)
      | (with_reducible refine LeO.bind ?_ (fun _ => ?_))
set_option maxRecDepth 100000 in
theorem bilgeref35_Check.calls (k : Nat) (A0 : Option Addr) (c0 : Nat) (l0 : List Int) (r : Bool) (w : World) (hr0 : Kd.C (Kd.int .u8) w A0 l0.length l0) (hc0 : l0.length ≤ c0) (h : bilgeref35_Check.f k l0 = some r) :
    Calls Try.prog 90 #[.slice A0 l0.length c0] w fun e w' => e = .returned (.bool r) ∧ Drawn0 w w' := by
  have hn : l0.length ≤ 9223372036854775807 := Kd.C_max hr0
  unfold bilgeref35_Check.f at h
  by_cases hp : 0 < l0.length
  · rw [if_pos hp] at h
    obtain ⟨t, ht, h⟩ := Option.bind_eq_some_iff.1 h
    obtain rfl := Option.some.inj h
    obtain ⟨i0, hi0, _, hsz, _⟩ := info_parts info5
    obtain ⟨hcut, hA, hC⟩ := print_take_of (P := Try.prog) (Value.int .u8) 0 23 5 .i64 Try.underlying23 hi0 hsz A0 c0 l0 ((l0.length : Int) - 1) (by omega) (by omega) hc0
    have hR := Kd.C_of_reads (h1 := fun _ => rfl) (hA _ (Kd.reads_of_C hr0))
    have e1 : ((l0.length : Int) - 1).toNat = l0.length - 1 := by omega
    rw [e1] at hcut hC hR
    obtain ⟨ad, e2, hx⟩ := Kd.at_int hr0 ((l0.length : Int) - 1) (by omega) (by omega)
    cases e2
    obtain ⟨j, hj⟩ : ∃ j : Int, (l0.length : Int) - 1 = j := ⟨_, rfl⟩
    have hw : IntKind.i64.wrap ((l0.length : Int) - 1) = j := (IntWalk.i64_in _ (by omega)).trans hj
    rw [hj] at hx hcut ⊢
    have hp2 : (0 : Int) < (l0.length : Int) := by omega
    have hp1 : 0 ≤ j := by omega
    have hp3 : j < (l0.length : Int) := by omega
    have hd : decide ((0 : Int) < (l0.length : Int)) = true := by simpa using hp
    have hd2 : decide (0 < l0.length) = true := by simpa using hp
    generalize l0.take (l0.length - 1) = xs at hcut hR hC ht
    have HR := Aside0.mk hR
    have HC := Aside0.mk hC
    have HT := Aside0.mk ht
    clear hr0 hA hC h ht e1 hc0 hR hj hp
    go_enter Try.func90, Try.ntmps90
    go_wp2_with fail
    go_quiet ((go_at_call 86; refine (bilgeref35_Sum.calls k _ _ xs t _ (Kd.C_drewN HR.out _) HC.out HT.out).mono ?_; rintro e w' ⟨rfl, ⟨nd, rfl⟩⟩; exact ⟨rfl, _, World.drewN_drewN _ _ _⟩))
    go_wp2
    go_ret
    exact ⟨rfl, ⟨_, rfl⟩⟩
  · rw [if_neg hp] at h
    obtain rfl := Option.some.inj h
    have hd : decide ((0 : Int) < (l0.length : Int)) = false := by simpa using hp
    have hd2 : decide (0 < l0.length) = false := by simpa using hp
    clear hp hr0 hc0 h
    go_enter Try.func90, Try.ntmps90
    go_wp2
    go_quiet (fail)
    go_wp2
    go_ret
    exact ⟨rfl, ⟨_, rfl⟩⟩

end Go.Proofs.Ytballgciakljnaa.PTextTells

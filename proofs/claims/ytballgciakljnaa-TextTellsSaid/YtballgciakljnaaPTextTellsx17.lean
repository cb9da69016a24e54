-- Written by a program of this session, in the form of the kit's print, some functions by hand (N.B. not a file of print.sh's).
import Derived.Test.YtballgciakljnaaPTextTellsx0
namespace Go.Proofs.Ytballgciakljnaa.PTextTells
open Go.RowKit Go.Proofs.YtballgciakljnaaW.PrintWords Go.Proofs.YtballgciakljnaaW.PrintLast Go.Proofs.YtballgciakljnaaW.PrintMore Go.Proofs.YtballgciakljnaaM
attribute [local go_sem] max2_int min2_int max_two min_two max_three min_three max_four min_four   -- for this text's walks alone
set_option linter.unusedVariables false
set_option linter.unusedSimpArgs false

/-! ### bilgeref03_Bit: function 189 -/
def bilgeref03_Bit.f (a0 : Int) (a1 : Bool) : Option (Int) := if a1 = true then (if ((Int.tmod a0 2) = 1) then (some (IntKind.u16.wrap (Int.tdiv a0 2))) else (some (Go.bits .xor .u16 (IntKind.u16.wrap (Int.tdiv a0 2)) 40961))) else (if (Int.tmod a0 2) = 1 then (some (Go.bits .xor .u16 (IntKind.u16.wrap (Int.tdiv a0 2)) 40961)) else (some (IntKind.u16.wrap (Int.tdiv a0 2))))
set_option maxHeartbeats 8000000 in
set_option maxRecDepth 100000 in
theorem bilgeref03_Bit.calls (a0 : Int) (a1 : Bool) (r : Int) (w : World) (h : bilgeref03_Bit.f a0 a1 = some r) :
    Calls Try.prog 189 #[.int .u16 a0, .bool a1] w fun e w' => e = .returned (.int .u16 r) ∧ Drawn0 w w' := by
  have H : (if a1 = true then (if ((Int.tmod a0 2) = 1) then (some (IntKind.u16.wrap (Int.tdiv a0 2))) else (some (Go.bits .xor .u16 (IntKind.u16.wrap (Int.tdiv a0 2)) 40961))) else (if (Int.tmod a0 2) = 1 then (some (Go.bits .xor .u16 (IntKind.u16.wrap (Int.tdiv a0 2)) 40961)) else (some (IntKind.u16.wrap (Int.tdiv a0 2))))) = some r := h
  clear h
  by_cases c3 : a1 = true
  · subst c3
    have H1 : (if ((Int.tmod a0 2) = 1) then (some (IntKind.u16.wrap (Int.tdiv a0 2))) else (some (Go.bits .xor .u16 (IntKind.u16.wrap (Int.tdiv a0 2)) 40961))) = some r := by rw [if_pos rfl] at H; exact H
    clear H
    have H := H1
    clear H1
    by_cases c4 : ((Int.tmod a0 2) = 1)
    · rw [if_pos c4] at H
      have c4b0 : ((Int.tmod a0 2) == 1) = true := beq_iff_eq.mpr c4
      have c4b1 : ((Int.tmod a0 2) != 1) = false := bne_eq_false_iff_eq.mpr c4
      clear c4
      obtain rfl := Option.some.inj H
      go_enter Try.func189, Try.ntmps189
      go_wp2
      go_ret
      exact ⟨by first | rfl | (simp; done) | (simp [*]; done), by repeat (first | exact Drawn0.refl _ | apply Drawn0.step)⟩
    · rw [if_neg c4] at H
      have c4b0 : ((Int.tmod a0 2) == 1) = false := beq_eq_false_iff_ne.mpr c4
      have c4b1 : ((Int.tmod a0 2) != 1) = true := bne_iff_ne.mpr c4
      obtain rfl := Option.some.inj H
      go_enter Try.func189, Try.ntmps189
      go_wp2
      go_ret
      exact ⟨by first | rfl | (simp; done) | (simp [*]; done), by repeat (first | exact Drawn0.refl _ | apply Drawn0.step)⟩
  · replace c3 := Bool.eq_false_iff.mpr c3
    subst c3
    have H1 : (if (Int.tmod a0 2) = 1 then (some (Go.bits .xor .u16 (IntKind.u16.wrap (Int.tdiv a0 2)) 40961)) else (some (IntKind.u16.wrap (Int.tdiv a0 2)))) = some r := by rw [if_neg (show ¬ (false = true) by decide)] at H; exact H
    clear H
    have H := H1
    clear H1
    by_cases c5 : (Int.tmod a0 2) = 1
    · rw [if_pos c5] at H
      have c5b0 : ((Int.tmod a0 2) == 1) = true := beq_iff_eq.mpr c5
      have c5b1 : ((Int.tmod a0 2) != 1) = false := bne_eq_false_iff_eq.mpr c5
      clear c5
      obtain rfl := Option.some.inj H
      go_enter Try.func189, Try.ntmps189
      go_wp2
      go_ret
      exact ⟨by first | rfl | (simp; done) | (simp [*]; done), by repeat (first | exact Drawn0.refl _ | apply Drawn0.step)⟩
    · rw [if_neg c5] at H
      have c5b0 : ((Int.tmod a0 2) == 1) = false := beq_eq_false_iff_ne.mpr c5
      have c5b1 : ((Int.tmod a0 2) != 1) = true := bne_iff_ne.mpr c5
      obtain rfl := Option.some.inj H
      go_enter Try.func189, Try.ntmps189
      go_wp2
      go_ret
      exact ⟨by first | rfl | (simp; done) | (simp [*]; done), by repeat (first | exact Drawn0.refl _ | apply Drawn0.step)⟩

/-! ### bilgeref03_Byte: function 188 -/
def bilgeref03_Byte.l0 : Nat → Int → Int → Int → Option (Int)
  | 0, _, _, _ => none
  | k + 1, x0, x1, x5 => if x5 < 8 then (if 0 ≤ x5 then ((bilgeref03_Bit.f x0 ((Int.tmod (shr .u8 x1 x5) 2) == 1)).bind fun t243 => (bilgeref03_Byte.l0 k t243 x1 (wrap64 (x5 + 1)))) else (none)) else (some x0)
def bilgeref03_Byte.f (k : Nat) (a0 : Int) (a1 : Int) : Option (Int) := bilgeref03_Byte.l0 k a0 a1 0
theorem bilgeref03_Byte.mono_l : ∀ k, (∀ y0 y1 y2, LeO (bilgeref03_Byte.l0 k y0 y1 y2) (bilgeref03_Byte.l0 (k + 1) y0 y1 y2))
  | 0 => fun _ _ _ r h => by simp [bilgeref03_Byte.l0] at h
  | k + 1 => by
    have ih0 := bilgeref03_Byte.mono_l k
    · intro y0 y1 y2
      unfold bilgeref03_Byte.l0
      repeat' first
      | (with_reducible exact ih0 _ _ _)
      | (with_reducible exact LeO.refl _)
      | (with_reducible exact LeO.none _)
      | (with_reducible refine LeO.ite ?_ ?_)
      | (with_reducible refine LeO.bind ?_ (fun _ => ?_))
      | exact ih0 _ _ _
      | exact LeO.none _
      | refine LeO.ite ?_ ?_
      | refine LeO.bind ?_ (fun _ => ?_)
theorem bilgeref03_Byte.mono : ∀ a0 a1 k, LeO (bilgeref03_Byte.f k a0 a1) (bilgeref03_Byte.f (k + 1) a0 a1) := by
  intro a0 a1 k
  have ih0 := bilgeref03_Byte.mono_l k
  unfold bilgeref03_Byte.f
  repeat' first
      | (with_reducible exact ih0 _ _ _)
      | (with_reducible exact LeO.refl _)
      | (with_reducible exact LeO.none _)
      | (with_reducible refine LeO.ite ?_ ?_)
      | (with_reducible refine LeO.bind ?_ (fun _ => ?_))
      | exact ih0 _ _ _
      | exact LeO.none _
      | refine LeO.ite ?_ ?_
      | refine LeO.bind ?_ (fun _ => ?_)
set_option maxHeartbeats 8000000 in
set_option maxRecDepth 100000 in
theorem bilgeref03_Byte.calls (k : Nat) (a0 : Int) (a1 : Int) (r : Int) (w : World) (h : bilgeref03_Byte.f k a0 a1 = some r) :
    Calls Try.prog 188 #[.int .u16 a0, .int .u8 a1] w fun e w' => e = .returned (.int .u16 r) ∧ Drawn0 w w' := by
  have H : (bilgeref03_Byte.l0 k a0 a1 0) = some r := h
  clear h
  have H' := Aside0.mk H
  clear H
  go_enter Try.func188, Try.ntmps188
  go_wp2
  go_loopg [0, 5] k (fun kq v0 v5 w' => ∃ (x0_1 : Int) (x5_1 : Int), v0 = .int .u16 x0_1 ∧ v5 = .int .i64 x5_1 ∧ Aside0 (bilgeref03_Byte.l0 kq x0_1 a1 x5_1 = some r) ∧ Aside0 (kq ≤ k) ∧ Drawn0 w w')
  case atStart => exact ⟨(a0), (0), (by first | rfl | (simp; done) | (simp [*]; done)), (by first | rfl | (simp; done) | (simp [*]; done)), H', ⟨Nat.le_refl _⟩, by repeat (first | exact Drawn0.refl _ | apply Drawn0.step)⟩
  case round =>
    clear H'
    try clear c1
    try clear p2
    obtain ⟨x0_1, x5_1, rfl, rfl, HA, HK1, ⟨m1, rfl⟩⟩ := hrel
    cases gk with
    | zero => exact absurd HA.out (by simp [bilgeref03_Byte.l0])
    | succ k1 =>
      have H := HA.out
      clear HA
      simp only [bilgeref03_Byte.l0] at H
      by_cases c3 : x5_1 < 8
      · rw [if_pos c3] at H
        have c3b0 : decide (x5_1 < 8) = true := decide_eq_true c3
        clear c3
        by_cases c4 : 0 ≤ x5_1
        · rw [if_pos c4] at H
          have c4b0 := eq_true c4
          have c4b1 : decide (0 ≤ x5_1) = true := decide_eq_true c4
          clear c4
          obtain ⟨ji5, hji5⟩ : ∃ j_ : Int, (shr .u8 a1 x5_1) = j_ := ⟨_, rfl⟩
          replace H : ((bilgeref03_Bit.f x0_1 ((Int.tmod (ji5) 2) == 1)).bind fun t243 => (bilgeref03_Byte.l0 k1 t243 a1 (wrap64 (x5_1 + 1)))) = some r := by first | (rw [hji5] at H; exact H) | (simp only [hji5] at H ⊢; exact H)
          have hji5_ : (a1 / 2 ^ min x5_1.toNat 8) = ji5 := hji5
          have hji5z : x5_1 ≤ 8 → (a1 / 2 ^ x5_1.toNat) = ji5 := shr_small hji5
          (try (have hji5k := hji5_; simp only [Int.ofNat_lt] at hji5k))
          replace H := Option.bind_eq_some_iff.mp H
          obtain ⟨t243, A60, H⟩ := H
          replace H : (bilgeref03_Byte.l0 k1 t243 a1 (wrap64 (x5_1 + 1))) = some r := H
          have A6 := Aside0.mk A60
          clear A60
          have H' := Aside0.mk H
          clear H
          go_wp2_with (first | ((with_reducible refine gate_callee (f := 189) rfl ?_); refine goesL_ (some 16) rfl rfl Try.func189 (by kernel_rfl) rfl #[.int .u16 x0_1, .bool ((Int.tmod (ji5) 2) == 1)] rfl (by (try simp only [List.map_toArray, List.map_cons, List.map_nil]); first | done | (simp only [hji5]; rfl) | rfl | (simp only [List.length_drop, List.length_take]; rfl)) ?_; (with_reducible refine (bilgeref03_Bit.calls x0_1 ((Int.tmod (ji5) 2) == 1) t243 _ A6.out).mono ?_); rintro e w' ⟨rfl, ⟨nd, rfl⟩⟩; refine ⟨_, rfl, ?_⟩))
          go_roundg k1
          case measure => have := HK1.out; omega
          case rel => exact ⟨(t243), (wrap64 (x5_1 + 1)), (by first | rfl | (simp; done) | (simp [*]; done)), (by first | rfl | (simp; done) | (simp [*]; done)), H', ⟨by have := HK1.out; omega⟩, by repeat (first | exact Drawn0.refl _ | apply Drawn0.step)⟩
        · rw [if_neg c4] at H
          exact absurd H (by simp)
      · rw [if_neg c3] at H
        have c3b0 : decide (x5_1 < 8) = false := decide_eq_false c3
        clear c3
        obtain rfl := Option.some.inj H
        go_wp2
        go_ret
        exact ⟨by first | rfl | (simp; done) | (simp [*]; done), by repeat (first | exact Drawn0.refl _ | apply Drawn0.step)⟩

/-! ### bilgeref03_Rem: function 184 -/
def bilgeref03_Rem.l0 : Nat → Int → List Int → Int → Option (Int)
  | 0, _, _, _ => none
  | k + 1, x0, x1, x5 => if x5 < (x1.length : Int) then (if 0 ≤ x5 then ((bilgeref03_Byte.f k x0 (rd x1 x5)).bind fun t245 => (bilgeref03_Rem.l0 k t245 x1 (wrap64 (x5 + 1)))) else (none)) else (some x0)
def bilgeref03_Rem.f (k : Nat) (a0 : Int) (l1 : List Int) : Option (Int) := bilgeref03_Rem.l0 k a0 l1 0
theorem bilgeref03_Rem.mono_l : ∀ k, (∀ y0 y1 y2, LeO (bilgeref03_Rem.l0 k y0 y1 y2) (bilgeref03_Rem.l0 (k + 1) y0 y1 y2))
  | 0 => fun _ _ _ r h => by simp [bilgeref03_Rem.l0] at h
  | k + 1 => by
    have ih0 := bilgeref03_Rem.mono_l k
    · intro y0 y1 y2
      unfold bilgeref03_Rem.l0
      repeat' first
      | (with_reducible exact ih0 _ _ _)
      | (with_reducible exact bilgeref03_Byte.mono _ _ _)
      | (with_reducible exact LeO.refl _)
      | (with_reducible exact LeO.none _)
      | (with_reducible refine LeO.ite ?_ ?_)
      | (with_reducible refine LeO.bind ?_ (fun _ => ?_))
      | exact ih0 _ _ _
      | exact bilgeref03_Byte.mono _ _ _
      | exact LeO.none _
      | refine LeO.ite ?_ ?_
      | refine LeO.bind ?_ (fun _ => ?_)
theorem bilgeref03_Rem.mono : ∀ a0 a1 k, LeO (bilgeref03_Rem.f k a0 a1) (bilgeref03_Rem.f (k + 1) a0 a1) := by
  intro a0 a1 k
  have ih0 := bilgeref03_Rem.mono_l k
  unfold bilgeref03_Rem.f
  repeat' first
      | (with_reducible exact ih0 _ _ _)
      | (with_reducible exact bilgeref03_Byte.mono _ _ _)
      | (with_reducible exact LeO.refl _)
      | (with_reducible exact LeO.none _)
      | (with_reducible refine LeO.ite ?_ ?_)
      | (with_reducible refine LeO.bind ?_ (fun _ => ?_))
      | exact ih0 _ _ _
      | exact bilgeref03_Byte.mono _ _ _
      | exact LeO.none _
      | refine LeO.ite ?_ ?_
      | refine LeO.bind ?_ (fun _ => ?_)
set_option maxHeartbeats 8000000 in
set_option maxRecDepth 100000 in
theorem bilgeref03_Rem.calls (k : Nat) (a0 : Int) (A1 : Option Addr) (c1 : Nat) (l1 : List Int) (r : Int) (w : World) (hr1 : Kd.C (Kd.int .u8) w A1 l1.length l1) (hc1 : l1.length ≤ c1) (h : bilgeref03_Rem.f k a0 l1 = some r) :
    Calls Try.prog 184 #[.int .u16 a0, .slice A1 l1.length c1] w fun e w' => e = .returned (.int .u16 r) ∧ Drawn0 w w' := by
  have HR1 := Aside0.mk hr1
  have HC1 := Aside0.mk hc1
  clear hr1 hc1
  have H : (bilgeref03_Rem.l0 k a0 l1 0) = some r := h
  clear h
  have H' := Aside0.mk H
  clear H
  go_enter Try.func184, Try.ntmps184
  go_wp2
  go_loopg [0, 5] k (fun kq v0 v5 w' => ∃ (x0_1 : Int) (x5_1 : Int), v0 = .int .u16 x0_1 ∧ v5 = .int .i64 x5_1 ∧ Aside0 (bilgeref03_Rem.l0 kq x0_1 l1 x5_1 = some r) ∧ Aside0 (kq ≤ k) ∧ Drawn0 w w')
  case atStart => exact ⟨(a0), (0), (by first | rfl | (simp; done) | (simp [*]; done)), (by first | rfl | (simp; done) | (simp [*]; done)), H', ⟨Nat.le_refl _⟩, by repeat (first | exact Drawn0.refl _ | apply Drawn0.step)⟩
  case round =>
    clear H'
    try clear c1
    try clear p2
    obtain ⟨x0_1, x5_1, rfl, rfl, HA, HK1, ⟨m1, rfl⟩⟩ := hrel
    cases gk with
    | zero => exact absurd HA.out (by simp [bilgeref03_Rem.l0])
    | succ k1 =>
      have H := HA.out
      clear HA
      simp only [bilgeref03_Rem.l0] at H
      by_cases c3 : x5_1 < (l1.length : Int)
      · rw [if_pos c3] at H
        have c3b0 : decide (x5_1 < (l1.length : Int)) = true := decide_eq_true c3
        clear c3
        by_cases c4 : 0 ≤ x5_1
        · rw [if_pos c4] at H
          have c4b0 : decide (0 ≤ x5_1) = true := decide_eq_true c4
          clear c4
          replace H := Option.bind_eq_some_iff.mp H
          obtain ⟨t245, A50, H⟩ := H
          replace H : (bilgeref03_Rem.l0 k1 t245 l1 (wrap64 (x5_1 + 1))) = some r := H
          have A5 := Aside0.mk A50
          clear A50
          have H' := Aside0.mk H
          clear H
          have p244 : 0 ≤ (x5_1 : Int) := of_decide_eq_true (by first | (with_reducible assumption) | assumption)
          have q244 : x5_1 < (l1.length : Int) := of_decide_eq_true (by first | (with_reducible assumption) | assumption)
          obtain ⟨ad244, e244, hx244_0⟩ := Kd.at_int HR1.out x5_1 p244 q244
          cases e244
          replace p244 := eq_true p244
          replace q244 := eq_true q244
          go_wp2_with (first | ((with_reducible refine gate_callee (f := 188) rfl ?_); refine goesL_ (some 17) rfl rfl Try.func188 (by kernel_rfl) rfl #[.int .u16 x0_1, .int .u8 (rd l1 x5_1)] rfl (by (try simp only [List.map_toArray, List.map_cons, List.map_nil]); first | done | rfl | (simp only [List.length_drop, List.length_take]; rfl)) ?_; (with_reducible refine (bilgeref03_Byte.calls k1 x0_1 (rd l1 x5_1) t245 _ A5.out).mono ?_); rintro e w' ⟨rfl, ⟨nd, rfl⟩⟩; refine ⟨_, rfl, ?_⟩))
          go_roundg k1
          case measure => have := HK1.out; omega
          case rel => exact ⟨(t245), (wrap64 (x5_1 + 1)), (by first | rfl | (simp; done) | (simp [*]; done)), (by first | rfl | (simp; done) | (simp [*]; done)), H', ⟨by have := HK1.out; omega⟩, by repeat (first | exact Drawn0.refl _ | apply Drawn0.step)⟩
        · rw [if_neg c4] at H
          exact absurd H (by simp)
      · rw [if_neg c3] at H
        have c3b0 : decide (x5_1 < (l1.length : Int)) = false := decide_eq_false c3
        clear c3
        obtain rfl := Option.some.inj H
        go_wp2
        go_ret
        exact ⟨by first | rfl | (simp; done) | (simp [*]; done), by repeat (first | exact Drawn0.refl _ | apply Drawn0.step)⟩

end Go.Proofs.Ytballgciakljnaa.PTextTells

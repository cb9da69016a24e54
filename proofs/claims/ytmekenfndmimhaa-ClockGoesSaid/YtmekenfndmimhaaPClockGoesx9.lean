-- Written by a program of this session, in the form of the kit's print, some functions by hand (N.B. not a file of print.sh's).
import Derived.Test.YtmekenfndmimhaaPClockGoesx0
import Derived.Test.YtmekenfndmimhaaPClockGoesx5
import Derived.Test.YtmekenfndmimhaaPClockGoesx6
import Derived.Test.YtmekenfndmimhaaPClockGoesx8
namespace Go.Proofs.Ytmekenfndmimhaa.PClockGoes
open Go.RowKit Go.Proofs.YtmekenfndmimhaaW.PrintWords Go.Proofs.YtmekenfndmimhaaW.PrintLast Go.Proofs.YtmekenfndmimhaaW.PrintMore Go.Proofs.YtmekenfndmimhaaM
attribute [local go_sem] max2_int min2_int max_two min_two max_three min_three max_four min_four   -- for this text's walks alone
set_option linter.unusedVariables false
set_option linter.unusedSimpArgs false

/-! ### bilgelaw05_ClockGoes: function 8 -/
def bilgelaw05_ClockGoes.j0 : Nat → Int → Int → Int → Bool → Option (Bool)
  | 0, _, _, _, _ => none
  | k + 1, x0, x1, x7, x33 => if x33 = true then (some false) else (if x7 = 1099511627776 then ((clock_Clamp.f x0).bind fun t130 => ((clock_Since.f x7 t130).bind fun t131 => (if t131 = 0 then ((bilgelaw05_sure.f).bind fun t132 => (some t132)) else (some false)))) else ((clock_Since.f x0 x7).bind fun t133 => ((clock_Clamp.f x1).bind fun t134 => (if t133 = t134 then ((clock_Clamp.f x0).bind fun t135 => ((clock_Since.f x7 t135).bind fun t136 => (if t136 = 0 then ((bilgelaw05_sure.f).bind fun t137 => (some t137)) else (some false)))) else (some false)))))
def bilgelaw05_ClockGoes.f (k : Nat) (a0 : Int) (a1 : Int) (a2 : Int) : Option (Bool) := (clock_Add.f a0 a1).bind fun t125 => (if t125 < 0 then (bilgelaw05_ClockGoes.j0 k a0 a1 t125 true) else (if t125 > 1099511627776 then (bilgelaw05_ClockGoes.j0 k a0 a1 t125 true) else ((clock_Clamp.f a0).bind fun t126 => (if t125 < t126 then (bilgelaw05_ClockGoes.j0 k a0 a1 t125 true) else ((clock_Add.f t125 a2).bind fun t127 => ((clock_Add.f a1 a2).bind fun t128 => ((clock_Add.f a0 t128).bind fun t129 => (bilgelaw05_ClockGoes.j0 k a0 a1 t125 (t127 != t129)))))))))
theorem bilgelaw05_ClockGoes.mono_l : ∀ k, (∀ y0 y1 y2 y3, LeO (bilgelaw05_ClockGoes.j0 k y0 y1 y2 y3) (bilgelaw05_ClockGoes.j0 (k + 1) y0 y1 y2 y3))
  | 0 => fun _ _ _ _ r h => by simp [bilgelaw05_ClockGoes.j0] at h
  | k + 1 => by
    have ih0 := bilgelaw05_ClockGoes.mono_l k
    · intro y0 y1 y2 y3
      unfold bilgelaw05_ClockGoes.j0
      repeat' first
      | (with_reducible exact ih0 _ _ _ _)
      | (with_reducible exact LeO.refl _)
      | (with_reducible exact LeO.none _)
      | (with_reducible refine LeO.ite ?_ ?_)
      | (with_reducible refine LeO.bind ?_ (fun _ => ?_))
      | exact ih0 _ _ _ _
      | exact LeO.none _
      | refine LeO.ite ?_ ?_
      | refine LeO.bind ?_ (fun _ => ?_)
theorem bilgelaw05_ClockGoes.mono : ∀ a0 a1 a2 k, LeO (bilgelaw05_ClockGoes.f k a0 a1 a2) (bilgelaw05_ClockGoes.f (k + 1) a0 a1 a2) := by
  intro a0 a1 a2 k
  have ih0 := bilgelaw05_ClockGoes.mono_l k
  unfold bilgelaw05_ClockGoes.f
  repeat' first
      | (with_reducible exact ih0 _ _ _ _)
      | (with_reducible exact LeO.refl _)
      | (with_reducible exact LeO.none _)
      | (with_reducible refine LeO.ite ?_ ?_)
      | (with_reducible refine LeO.bind ?_ (fun _ => ?_))
      | exact ih0 _ _ _ _
      | exact LeO.none _
      | refine LeO.ite ?_ ?_
      | refine LeO.bind ?_ (fun _ => ?_)
set_option maxHeartbeats 8000000 in
set_option maxRecDepth 100000 in
theorem bilgelaw05_ClockGoes.calls (k : Nat) (a0 : Int) (a1 : Int) (a2 : Int) (r : Bool) (w : World) (h : bilgelaw05_ClockGoes.f k a0 a1 a2 = some r) :
    Calls Try.prog 8 #[.int .i64 a0, .int .i64 a1, .int .i64 a2] w fun e w' => e = .returned (.bool r) ∧ Below w.heap.size w w' := by
  have HB := Aside0.mk (Below.refl w.heap.size w)
  have H : ((clock_Add.f a0 a1).bind fun t125 => (if t125 < 0 then (bilgelaw05_ClockGoes.j0 k a0 a1 t125 true) else (if t125 > 1099511627776 then (bilgelaw05_ClockGoes.j0 k a0 a1 t125 true) else ((clock_Clamp.f a0).bind fun t126 => (if t125 < t126 then (bilgelaw05_ClockGoes.j0 k a0 a1 t125 true) else ((clock_Add.f t125 a2).bind fun t127 => ((clock_Add.f a1 a2).bind fun t128 => ((clock_Add.f a0 t128).bind fun t129 => (bilgelaw05_ClockGoes.j0 k a0 a1 t125 (t127 != t129)))))))))) = some r := h
  clear h
  replace H := Option.bind_eq_some_iff.mp H
  obtain ⟨t125, A40, H⟩ := H
  replace H : (if t125 < 0 then (bilgelaw05_ClockGoes.j0 k a0 a1 t125 true) else (if t125 > 1099511627776 then (bilgelaw05_ClockGoes.j0 k a0 a1 t125 true) else ((clock_Clamp.f a0).bind fun t126 => (if t125 < t126 then (bilgelaw05_ClockGoes.j0 k a0 a1 t125 true) else ((clock_Add.f t125 a2).bind fun t127 => ((clock_Add.f a1 a2).bind fun t128 => ((clock_Add.f a0 t128).bind fun t129 => (bilgelaw05_ClockGoes.j0 k a0 a1 t125 (t127 != t129))))))))) = some r := H
  have A4 := Aside0.mk A40
  clear A40
  have HC5 := Aside0.mk H
  clear H
  go_enter Try.func8, Try.ntmps8
  go_upto_region 2 with (first | ((with_reducible refine gate_callee (f := 28) rfl ?_); refine goesL_ (some 10) rfl rfl Try.func28 (by kernel_rfl) rfl #[.int .i64 a0, .int .i64 a1] rfl (by (try simp only [List.map_toArray, List.map_cons, List.map_nil]); first | done | rfl | (simp only [List.length_drop, List.length_take]; rfl)) ?_; (with_reducible refine (clock_Add.calls a0 a1 t125 _ A4.out).mono ?_); rintro e w' ⟨rfl, ⟨nd, rfl⟩⟩; refine ⟨_, rfl, ?_⟩))
  (try simp only [Act.put, List.setIfInBounds_toArray, List.set_cons_zero, List.set_cons_succ])
  go_cut [33] (fun v33 wc => ∃ (kq : Nat) (x33_4 : Bool), v33 = .bool x33_4 ∧ Aside0 (bilgelaw05_ClockGoes.j0 kq a0 a1 t125 x33_4 = some r) ∧ Aside0 (kq ≤ k) ∧ Aside0 (Below w.heap.size w wc))
  case first =>
    have H := HC5.out
    clear HC5
    by_cases c6 : t125 < 0
    · rw [if_pos c6] at H
      have c6b0 : decide (t125 < 0) = true := decide_eq_true c6
      clear c6
      (first | rw [c6b0] | (simp only [i64_w, i32_w]; rw [c6b0]) | skip)
      have H' := Aside0.mk H
      clear H
      go_wp2
      go_meet
      case rel => exact ⟨_, (true), (by first | rfl | (simp; done) | (simp [*]; done)), H', ⟨by first | omega | exact Nat.le_refl _⟩, ⟨by repeat (first | (with_reducible first | exact HB.out | apply below_alloc | apply pw_below_drewN | apply below_drew1) | exact HB.out)⟩⟩
    · rw [if_neg c6] at H
      have c6b0 : decide (t125 < 0) = false := decide_eq_false c6
      clear c6
      (first | rw [c6b0] | (simp only [i64_w, i32_w]; rw [c6b0]) | skip)
      by_cases c7 : t125 > 1099511627776
      · rw [if_pos c7] at H
        have c7b0 : decide (1099511627776 < t125) = true := decide_eq_true c7
        clear c7
        have H' := Aside0.mk H
        clear H
        go_wp2
        go_meet
        case rel => exact ⟨_, (true), (by first | rfl | (simp; done) | (simp [*]; done)), H', ⟨by first | omega | exact Nat.le_refl _⟩, ⟨by repeat (first | (with_reducible first | exact HB.out | apply below_alloc | apply pw_below_drewN | apply below_drew1) | exact HB.out)⟩⟩
      · rw [if_neg c7] at H
        have c7b0 : decide (1099511627776 < t125) = false := decide_eq_false c7
        clear c7
        replace H := Option.bind_eq_some_iff.mp H
        obtain ⟨t126, A80, H⟩ := H
        replace H : (if t125 < t126 then (bilgelaw05_ClockGoes.j0 k a0 a1 t125 true) else ((clock_Add.f t125 a2).bind fun t127 => ((clock_Add.f a1 a2).bind fun t128 => ((clock_Add.f a0 t128).bind fun t129 => (bilgelaw05_ClockGoes.j0 k a0 a1 t125 (t127 != t129)))))) = some r := H
        have A8 := Aside0.mk A80
        clear A80
        by_cases c9 : t125 < t126
        · rw [if_pos c9] at H
          have c9b0 : decide (t125 < t126) = true := decide_eq_true c9
          clear c9
          have H' := Aside0.mk H
          clear H
          go_wp2_with (first | (go_at_call 26; (with_reducible refine (clock_Clamp.calls a0 t126 _ A8.out).mono ?_); rintro e w' ⟨rfl, ⟨nd, rfl⟩⟩))
          go_meet
          case rel => exact ⟨_, (true), (by first | rfl | (simp; done) | (simp [*]; done)), H', ⟨by first | omega | exact Nat.le_refl _⟩, ⟨by repeat (first | (with_reducible first | exact HB.out | apply below_alloc | apply pw_below_drewN | apply below_drew1) | exact HB.out)⟩⟩
        · rw [if_neg c9] at H
          have c9b0 : decide (t125 < t126) = false := decide_eq_false c9
          clear c9
          replace H := Option.bind_eq_some_iff.mp H
          obtain ⟨t127, A100, H⟩ := H
          replace H : ((clock_Add.f a1 a2).bind fun t128 => ((clock_Add.f a0 t128).bind fun t129 => (bilgelaw05_ClockGoes.j0 k a0 a1 t125 (t127 != t129)))) = some r := H
          have A10 := Aside0.mk A100
          clear A100
          replace H := Option.bind_eq_some_iff.mp H
          obtain ⟨t128, A110, H⟩ := H
          replace H : ((clock_Add.f a0 t128).bind fun t129 => (bilgelaw05_ClockGoes.j0 k a0 a1 t125 (t127 != t129))) = some r := H
          have A11 := Aside0.mk A110
          clear A110
          replace H := Option.bind_eq_some_iff.mp H
          obtain ⟨t129, A120, H⟩ := H
          replace H : (bilgelaw05_ClockGoes.j0 k a0 a1 t125 (t127 != t129)) = some r := H
          have A12 := Aside0.mk A120
          clear A120
          have H' := Aside0.mk H
          clear H
          go_wp2_with (first | (go_at_call 26; (with_reducible refine (clock_Clamp.calls a0 t126 _ A8.out).mono ?_); rintro e w' ⟨rfl, ⟨nd, rfl⟩⟩) | (go_at_call 28; (with_reducible refine (clock_Add.calls t125 a2 t127 _ A10.out).mono ?_); rintro e w' ⟨rfl, ⟨nd, rfl⟩⟩) | (go_at_call 28; (with_reducible refine (clock_Add.calls a1 a2 t128 _ A11.out).mono ?_); rintro e w' ⟨rfl, ⟨nd, rfl⟩⟩) | (go_at_call 28; (with_reducible refine (clock_Add.calls a0 t128 t129 _ A12.out).mono ?_); rintro e w' ⟨rfl, ⟨nd, rfl⟩⟩))
          go_meet
          case rel => exact ⟨_, ((t127 != t129)), (by first | rfl | (simp; done) | (simp [*]; done)), H', ⟨by first | omega | exact Nat.le_refl _⟩, ⟨by repeat (first | (with_reducible first | exact HB.out | apply below_alloc | apply pw_below_drewN | apply below_drew1) | exact HB.out)⟩⟩
  case rest =>
    clear HC5
    try clear c2
    try clear p2
    try clear c6
    try clear c6b0
    try clear c7
    try clear c7b0
    try clear c8
    try clear c9
    try clear c9b0
    obtain ⟨kq, x33_4, rfl, HA, HJ4, HB⟩ := hcut
    cases kq with
    | zero => exact absurd HA.out (by simp [bilgelaw05_ClockGoes.j0])
    | succ kj4 =>
      have H := HA.out
      clear HA
      simp only [bilgelaw05_ClockGoes.j0] at H
      by_cases c13 : x33_4 = true
      · subst c13
        have H1 : (some false) = some r := by rw [if_pos rfl] at H; exact H
        clear H
        have H := H1
        clear H1
        obtain rfl := Option.some.inj H
        go_wp2
        go_ret
        exact ⟨by first | rfl | (simp [errW_none, errW_some] <;> rfl) | (simp [*, errW_none, errW_some] <;> rfl), by repeat (first | (with_reducible first | exact HB.out | apply below_alloc | apply pw_below_drewN | apply below_drew1) | exact HB.out)⟩
      · replace c13 := Bool.eq_false_iff.mpr c13
        subst c13
        have H1 : (if t125 = 1099511627776 then ((clock_Clamp.f a0).bind fun t130 => ((clock_Since.f t125 t130).bind fun t131 => (if t131 = 0 then ((bilgelaw05_sure.f).bind fun t132 => (some t132)) else (some false)))) else ((clock_Since.f a0 t125).bind fun t133 => ((clock_Clamp.f a1).bind fun t134 => (if t133 = t134 then ((clock_Clamp.f a0).bind fun t135 => ((clock_Since.f t125 t135).bind fun t136 => (if t136 = 0 then ((bilgelaw05_sure.f).bind fun t137 => (some t137)) else (some false)))) else (some false))))) = some r := by rw [if_neg (show ¬ (false = true) by decide)] at H; exact H
        clear H
        have H := H1
        clear H1
        by_cases c14 : t125 = 1099511627776
        · rw [if_pos c14] at H
          have c14b0 : (t125 == 1099511627776) = true := beq_iff_eq.mpr c14
          have c14b1 : (t125 != 1099511627776) = false := bne_eq_false_iff_eq.mpr c14
          clear c14
          replace H := Option.bind_eq_some_iff.mp H
          obtain ⟨t130, A150, H⟩ := H
          replace H : ((clock_Since.f t125 t130).bind fun t131 => (if t131 = 0 then ((bilgelaw05_sure.f).bind fun t132 => (some t132)) else (some false))) = some r := H
          have A15 := Aside0.mk A150
          clear A150
          replace H := Option.bind_eq_some_iff.mp H
          obtain ⟨t131, A160, H⟩ := H
          replace H : (if t131 = 0 then ((bilgelaw05_sure.f).bind fun t132 => (some t132)) else (some false)) = some r := H
          have A16 := Aside0.mk A160
          clear A160
          by_cases c17 : t131 = 0
          · rw [if_pos c17] at H
            have c17b0 : (t131 == 0) = true := beq_iff_eq.mpr c17
            have c17b1 : (t131 != 0) = false := bne_eq_false_iff_eq.mpr c17
            clear c17
            replace H := Option.bind_eq_some_iff.mp H
            obtain ⟨t132, A180, H⟩ := H
            replace H : (some t132) = some r := H
            have A18 := Aside0.mk A180
            clear A180
            obtain rfl := Option.some.inj H
            go_wp2_with (first | (go_at_call 26; (with_reducible refine (clock_Clamp.calls a0 t130 _ A15.out).mono ?_); rintro e w' ⟨rfl, ⟨nd, rfl⟩⟩) | (go_at_call 30; (with_reducible refine (clock_Since.calls t125 t130 t131 _ A16.out).mono ?_); rintro e w' ⟨rfl, ⟨nd, rfl⟩⟩) | (go_at_call 23; (with_reducible refine (bilgelaw05_sure.calls  t132 _ A18.out).mono ?_); rintro e w19 ⟨rfl, hb⟩; have n0_ := Aside0.mk (below_step (by repeat (first | (with_reducible first | exact HB.out | apply below_alloc | apply pw_below_drewN | apply below_drew1) | exact HB.out)) hb); clear HB; have HB := n0_; clear n0_; (try clear hb); (try clear hb2); (try clear hk); (try clear hi)))
            go_ret
            exact ⟨by first | rfl | (simp [errW_none, errW_some] <;> rfl) | (simp [*, errW_none, errW_some] <;> rfl), by repeat (first | (with_reducible first | exact HB.out | apply below_alloc | apply pw_below_drewN | apply below_drew1) | exact HB.out)⟩
          · rw [if_neg c17] at H
            have c17b0 : (t131 == 0) = false := beq_eq_false_iff_ne.mpr c17
            have c17b1 : (t131 != 0) = true := bne_iff_ne.mpr c17
            obtain rfl := Option.some.inj H
            go_wp2_with (first | (go_at_call 26; (with_reducible refine (clock_Clamp.calls a0 t130 _ A15.out).mono ?_); rintro e w' ⟨rfl, ⟨nd, rfl⟩⟩) | (go_at_call 30; (with_reducible refine (clock_Since.calls t125 t130 t131 _ A16.out).mono ?_); rintro e w' ⟨rfl, ⟨nd, rfl⟩⟩))
            go_ret
            exact ⟨by first | rfl | (simp [errW_none, errW_some] <;> rfl) | (simp [*, errW_none, errW_some] <;> rfl), by repeat (first | (with_reducible first | exact HB.out | apply below_alloc | apply pw_below_drewN | apply below_drew1) | exact HB.out)⟩
        · rw [if_neg c14] at H
          have c14b0 : (t125 == 1099511627776) = false := beq_eq_false_iff_ne.mpr c14
          have c14b1 : (t125 != 1099511627776) = true := bne_iff_ne.mpr c14
          replace H := Option.bind_eq_some_iff.mp H
          obtain ⟨t133, A200, H⟩ := H
          replace H : ((clock_Clamp.f a1).bind fun t134 => (if t133 = t134 then ((clock_Clamp.f a0).bind fun t135 => ((clock_Since.f t125 t135).bind fun t136 => (if t136 = 0 then ((bilgelaw05_sure.f).bind fun t137 => (some t137)) else (some false)))) else (some false))) = some r := H
          have A20 := Aside0.mk A200
          clear A200
          replace H := Option.bind_eq_some_iff.mp H
          obtain ⟨t134, A210, H⟩ := H
          replace H : (if t133 = t134 then ((clock_Clamp.f a0).bind fun t135 => ((clock_Since.f t125 t135).bind fun t136 => (if t136 = 0 then ((bilgelaw05_sure.f).bind fun t137 => (some t137)) else (some false)))) else (some false)) = some r := H
          have A21 := Aside0.mk A210
          clear A210
          by_cases c22 : t133 = t134
          · rw [if_pos c22] at H
            have c22b0 : (t133 == t134) = true := beq_iff_eq.mpr c22
            have c22b1 : (t133 != t134) = false := bne_eq_false_iff_eq.mpr c22
            clear c22
            replace H := Option.bind_eq_some_iff.mp H
            obtain ⟨t135, A230, H⟩ := H
            replace H : ((clock_Since.f t125 t135).bind fun t136 => (if t136 = 0 then ((bilgelaw05_sure.f).bind fun t137 => (some t137)) else (some false))) = some r := H
            have A23 := Aside0.mk A230
            clear A230
            replace H := Option.bind_eq_some_iff.mp H
            obtain ⟨t136, A240, H⟩ := H
            replace H : (if t136 = 0 then ((bilgelaw05_sure.f).bind fun t137 => (some t137)) else (some false)) = some r := H
            have A24 := Aside0.mk A240
            clear A240
            by_cases c25 : t136 = 0
            · rw [if_pos c25] at H
              have c25b0 : (t136 == 0) = true := beq_iff_eq.mpr c25
              have c25b1 : (t136 != 0) = false := bne_eq_false_iff_eq.mpr c25
              clear c25
              replace H := Option.bind_eq_some_iff.mp H
              obtain ⟨t137, A260, H⟩ := H
              replace H : (some t137) = some r := H
              have A26 := Aside0.mk A260
              clear A260
              obtain rfl := Option.some.inj H
              go_wp2_with (first | (go_at_call 30; (with_reducible refine (clock_Since.calls a0 t125 t133 _ A20.out).mono ?_); rintro e w' ⟨rfl, ⟨nd, rfl⟩⟩) | (go_at_call 26; (with_reducible refine (clock_Clamp.calls a1 t134 _ A21.out).mono ?_); rintro e w' ⟨rfl, ⟨nd, rfl⟩⟩) | (go_at_call 26; (with_reducible refine (clock_Clamp.calls a0 t135 _ A23.out).mono ?_); rintro e w' ⟨rfl, ⟨nd, rfl⟩⟩) | (go_at_call 30; (with_reducible refine (clock_Since.calls t125 t135 t136 _ A24.out).mono ?_); rintro e w' ⟨rfl, ⟨nd, rfl⟩⟩) | (go_at_call 23; (with_reducible refine (bilgelaw05_sure.calls  t137 _ A26.out).mono ?_); rintro e w27 ⟨rfl, hb⟩; have n0_ := Aside0.mk (below_step (by repeat (first | (with_reducible first | exact HB.out | apply below_alloc | apply pw_below_drewN | apply below_drew1) | exact HB.out)) hb); clear HB; have HB := n0_; clear n0_; (try clear hb); (try clear hb2); (try clear hk); (try clear hi)))
              go_ret
              exact ⟨by first | rfl | (simp [errW_none, errW_some] <;> rfl) | (simp [*, errW_none, errW_some] <;> rfl), by repeat (first | (with_reducible first | exact HB.out | apply below_alloc | apply pw_below_drewN | apply below_drew1) | exact HB.out)⟩
            · rw [if_neg c25] at H
              have c25b0 : (t136 == 0) = false := beq_eq_false_iff_ne.mpr c25
              have c25b1 : (t136 != 0) = true := bne_iff_ne.mpr c25
              obtain rfl := Option.some.inj H
              go_wp2_with (first | (go_at_call 30; (with_reducible refine (clock_Since.calls a0 t125 t133 _ A20.out).mono ?_); rintro e w' ⟨rfl, ⟨nd, rfl⟩⟩) | (go_at_call 26; (with_reducible refine (clock_Clamp.calls a1 t134 _ A21.out).mono ?_); rintro e w' ⟨rfl, ⟨nd, rfl⟩⟩) | (go_at_call 26; (with_reducible refine (clock_Clamp.calls a0 t135 _ A23.out).mono ?_); rintro e w' ⟨rfl, ⟨nd, rfl⟩⟩) | (go_at_call 30; (with_reducible refine (clock_Since.calls t125 t135 t136 _ A24.out).mono ?_); rintro e w' ⟨rfl, ⟨nd, rfl⟩⟩))
              go_ret
              exact ⟨by first | rfl | (simp [errW_none, errW_some] <;> rfl) | (simp [*, errW_none, errW_some] <;> rfl), by repeat (first | (with_reducible first | exact HB.out | apply below_alloc | apply pw_below_drewN | apply below_drew1) | exact HB.out)⟩
          · rw [if_neg c22] at H
            have c22b0 : (t133 == t134) = false := beq_eq_false_iff_ne.mpr c22
            have c22b1 : (t133 != t134) = true := bne_iff_ne.mpr c22
            obtain rfl := Option.some.inj H
            go_wp2_with (first | (go_at_call 30; (with_reducible refine (clock_Since.calls a0 t125 t133 _ A20.out).mono ?_); rintro e w' ⟨rfl, ⟨nd, rfl⟩⟩) | (go_at_call 26; (with_reducible refine (clock_Clamp.calls a1 t134 _ A21.out).mono ?_); rintro e w' ⟨rfl, ⟨nd, rfl⟩⟩))
            go_ret
            exact ⟨by first | rfl | (simp [errW_none, errW_some] <;> rfl) | (simp [*, errW_none, errW_some] <;> rfl), by repeat (first | (with_reducible first | exact HB.out | apply below_alloc | apply pw_below_drewN | apply below_drew1) | exact HB.out)⟩

/-- THE ONE PURE STATEMENT of bilgelaw05_ClockGoes: yours. -/
def bilgelaw05_ClockGoes.Pure : Prop := ∀ (a0 : Int) (a1 : Int) (a2 : Int), (Lit.int .i64 a0).wf = true → (Lit.int .i64 a1).wf = true → (Lit.int .i64 a2).wf = true → ∃ k, bilgelaw05_ClockGoes.f k a0 a1 a2 = some true
theorem bilgelaw05_ClockGoes.walk (P : bilgelaw05_ClockGoes.Pure) (a0 : Int) (a1 : Int) (a2 : Int) (w : World) (w0 : (Lit.int .i64 a0).wf = true) (w1 : (Lit.int .i64 a1).wf = true) (w2 : (Lit.int .i64 a2).wf = true) :
    Calls Try.prog 8 #[.int .i64 a0, .int .i64 a1, .int .i64 a2] w fun e w' => e = .returned (.bool true) ∧ Below w.heap.size w w' := by
  obtain ⟨k, h⟩ := P a0 a1 a2 w0 w1 w2
  refine (bilgelaw05_ClockGoes.calls k a0 a1 a2 true w h).mono ?_
  rintro e w' ⟨rfl, hd⟩
  exact ⟨rfl, hd⟩

end Go.Proofs.Ytmekenfndmimhaa.PClockGoes

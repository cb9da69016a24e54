-- Written by a program of this session, in the form of the kit's print, some functions by hand (N.B. not a file of print.sh's).
import Derived.Test.YtballgciakljnaaPRampTellsx0
namespace Go.Proofs.Ytballgciakljnaa.PRampTells
open Go.RowKit Go.Proofs.YtballgciakljnaaW.PrintWords Go.Proofs.YtballgciakljnaaW.PrintLast Go.Proofs.YtballgciakljnaaW.PrintMore Go.Proofs.YtballgciakljnaaM
attribute [local go_sem] max2_int min2_int max_two min_two max_three min_three max_four min_four   -- for this text's walks alone
set_option linter.unusedVariables false
set_option linter.unusedSimpArgs false

/-! ### bilgeref42_Merge: function 51 -/
mutual
def bilgeref42_Merge.l0 : Nat → List (S106) → List (S106) → List (S106) → Option ((List (S106)))
  | 0, _, _, _ => none
  | k + 1, x0, x1, x5 => if (x0.length : Int) > 0 then (bilgeref42_Merge.j1 k x0 x1 x5 (decide ((x1.length : Int) > 0))) else (bilgeref42_Merge.j1 k x0 x1 x5 false)
def bilgeref42_Merge.j1 : Nat → List (S106) → List (S106) → List (S106) → Bool → Option ((List (S106)))
  | 0, _, _, _, _ => none
  | k + 1, x0, x1, x5, x13 => if x13 = true then (if 0 < (x0.length : Int) then (if 0 < (x1.length : Int) then (if ((rd_T106 x0 0).f1) ≤ ((rd_T106 x1 0).f1) then (if x5.length < 3518437208883 then (if 1 ≤ (x0.length : Int) then (bilgeref42_Merge.l0 k (x0.drop 1) x1 (x5 ++ [(⟨(rd_T106 x0 0).f0, (rd_T106 x0 0).f1, (rd_T106 x0 0).f2, (rd_T106 x0 0).f3, (rd_T106 x0 0).f4, (rd_T106 x0 0).f5⟩ : S106)])) else (none)) else (none)) else (if x5.length < 3518437208883 then (if 1 ≤ (x1.length : Int) then (bilgeref42_Merge.l0 k x0 (x1.drop 1) (x5 ++ [(⟨(rd_T106 x1 0).f0, (rd_T106 x1 0).f1, (rd_T106 x1 0).f2, (rd_T106 x1 0).f3, (rd_T106 x1 0).f4, (rd_T106 x1 0).f5⟩ : S106)])) else (none)) else (none))) else (none)) else (none)) else (if x5.length + x0.length < 3518437208883 then ((some (x5 ++ x0 : List (S106))).bind fun y165 => (if y165.length + x1.length < 3518437208883 then (some (y165 ++ x1)) else (none))) else (none))
end
def bilgeref42_Merge.f (k : Nat) (l0 : List (S106)) (l1 : List (S106)) : Option ((List (S106))) := bilgeref42_Merge.l0 k l0 l1 ([] : List (S106))
theorem bilgeref42_Merge.mono_l : ∀ k, (∀ y0 y1 y2, LeO (bilgeref42_Merge.l0 k y0 y1 y2) (bilgeref42_Merge.l0 (k + 1) y0 y1 y2)) ∧ (∀ y0 y1 y2 y3, LeO (bilgeref42_Merge.j1 k y0 y1 y2 y3) (bilgeref42_Merge.j1 (k + 1) y0 y1 y2 y3))
  | 0 => ⟨fun _ _ _ r h => by simp [bilgeref42_Merge.l0] at h, fun _ _ _ _ r h => by simp [bilgeref42_Merge.j1] at h⟩
  | k + 1 => by
    obtain ⟨ih0, ih1⟩ := bilgeref42_Merge.mono_l k
    refine ⟨?_, ?_⟩
    · intro y0 y1 y2
      unfold bilgeref42_Merge.l0
      repeat' first
      | (with_reducible exact ih0 _ _ _)
      | (with_reducible exact ih1 _ _ _ _)
      | (with_reducible exact LeO.refl _)
      | (with_reducible exact LeO.none _)
      | (with_reducible refine LeO.ite ?_ ?_)
      | (with_reducible refine LeO.bind ?_ (fun _ => ?_))
      | exact ih0 _ _ _
      | exact ih1 _ _ _ _
      | exact LeO.none _
      | refine LeO.ite ?_ ?_
      | refine LeO.bind ?_ (fun _ => ?_)
    · intro y0 y1 y2 y3
      unfold bilgeref42_Merge.j1
      repeat' first
      | (with_reducible exact ih0 _ _ _)
      | (with_reducible exact ih1 _ _ _ _)
      | (with_reducible exact LeO.refl _)
      | (with_reducible exact LeO.none _)
      | (with_reducible refine LeO.ite ?_ ?_)
      | (with_reducible refine LeO.bind ?_ (fun _ => ?_))
      | exact ih0 _ _ _
      | exact ih1 _ _ _ _
      | exact LeO.none _
      | refine LeO.ite ?_ ?_
      | refine LeO.bind ?_ (fun _ => ?_)
theorem bilgeref42_Merge.mono : ∀ a0 a1 k, LeO (bilgeref42_Merge.f k a0 a1) (bilgeref42_Merge.f (k + 1) a0 a1) := by
  intro a0 a1 k
  obtain ⟨ih0, ih1⟩ := bilgeref42_Merge.mono_l k
  unfold bilgeref42_Merge.f
  repeat' first
      | (with_reducible exact ih0 _ _ _)
      | (with_reducible exact ih1 _ _ _ _)
      | (with_reducible exact LeO.refl _)
      | (with_reducible exact LeO.none _)
      | (with_reducible refine LeO.ite ?_ ?_)
      | (with_reducible refine LeO.bind ?_ (fun _ => ?_))
      | exact ih0 _ _ _
      | exact ih1 _ _ _ _
      | exact LeO.none _
      | refine LeO.ite ?_ ?_
      | refine LeO.bind ?_ (fun _ => ?_)
set_option maxHeartbeats 8000000 in
set_option maxRecDepth 100000 in
theorem bilgeref42_Merge.calls (k : Nat) (P0_ : Nat → Prop) (A0 : Option Addr) (c0 : Nat) (l0 : List (S106)) (P1_ : Nat → Prop) (A1 : Option Addr) (c1 : Nat) (l1 : List (S106)) (r : List (S106)) (w : World) (hs0 : Kd.V k106 106 w w.heap.size (fun k_ => P0_ k_) (.slice A0 l0.length c0) l0) (hs1 : Kd.V k106 106 w w.heap.size (fun k_ => P1_ k_) (.slice A1 l1.length c1) l1) (h : bilgeref42_Merge.f k l0 l1 = some r) :
    Calls Try.prog 51 #[.slice A0 l0.length c0, .slice A1 l1.length c1] w fun e w' => ∃ v0_ : Value, e = .returned (v0_) ∧ Kd.R k106 106 w' w.heap.size (fun k_ => (w.heap.size ≤ k_)) v0_ r ∧ Below w.heap.size w w' := by
  have hu106 := Try.underlying106
  have HO0 := Aside0.mk (show Kd.V k106 106 w w.heap.size (fun k_ => ((P0_ k_ ∨ P1_ k_) ∨ w.heap.size ≤ k_)) (.slice A0 l0.length c0) l0 from Kd.V_mono hs0 (fun k_ hk => .inl (.inl hk)))
  have HO1 := Aside0.mk (show Kd.V k106 106 w w.heap.size (fun k_ => ((P0_ k_ ∨ P1_ k_) ∨ w.heap.size ≤ k_)) (.slice A1 l1.length c1) l1 from Kd.V_mono hs1 (fun k_ hk => .inl (.inr hk)))
  have HB := Aside0.mk (Below.refl w.heap.size w)
  have H : (bilgeref42_Merge.l0 k l0 l1 ([] : List (S106))) = some r := h
  clear h
  have H' := Aside0.mk H
  clear H
  go_enter Try.func51, Try.ntmps51
  go_wp2
  repeat (go_quiet (fail); try go_wp2)
  go_loopg [0, 1, 5] k (fun kq v0 v1 v5 w' => ∃ (x0_1 : List (S106)) (x1_1 : List (S106)) (x5_1 : List (S106)), Aside0 (bilgeref42_Merge.l0 kq x0_1 x1_1 x5_1 = some r) ∧ Aside0 (kq ≤ k) ∧ Aside0 (Kd.V k106 106 w' w.heap.size (fun k_ => ((P0_ k_ ∨ P1_ k_) ∨ w.heap.size ≤ k_) ∧ some k_ ≠ (v5 : Value).ownBlock) v0 x0_1) ∧ Aside0 (Kd.V k106 106 w' w.heap.size (fun k_ => ((P0_ k_ ∨ P1_ k_) ∨ w.heap.size ≤ k_) ∧ some k_ ≠ (v5 : Value).ownBlock) v1 x1_1) ∧ Aside0 (Kd.R k106 106 w' w.heap.size (fun k_ => (w.heap.size ≤ k_)) v5 x5_1) ∧ Aside0 (Below w.heap.size w w'))
  case atStart => exact ⟨(l0), (l1), (([] : List (S106))), H', ⟨Nat.le_refl _⟩, ⟨by (with_reducible repeat (first | apply Kd.V_alloc | apply Kd.V_drewN | apply Kd.V_drew)); exact Kd.V_mono HO0.out (fun _ hk => ⟨hk, (by simp [Value.ownBlock])⟩)⟩, ⟨by (with_reducible repeat (first | apply Kd.V_alloc | apply Kd.V_drewN | apply Kd.V_drew)); exact Kd.V_mono HO1.out (fun _ hk => ⟨hk, (by simp [Value.ownBlock])⟩)⟩, ⟨by first | exact Kd.R_nil _ _ _ _ _ | exact Kd.N_nil _ _ _ _ _ | exact Kd.V_nil _ _ _ _ _ | exact Kd.Q_nil _ _ _ _ _ | exact Kd.S_nil _ _ _ _ _⟩, ⟨by repeat (first | (with_reducible first | exact HB.out | apply below_alloc | apply pw_below_drewN | apply below_drew1) | exact HB.out)⟩⟩
  case round =>
    clear H'
    try clear c1
    try clear p2
    obtain ⟨x0_1, x1_1, x5_1, HA, HK1, HO_0, HO_1, HO_5, HB⟩ := hrel
    cases gk with
    | zero => exact absurd HA.out (by simp [bilgeref42_Merge.l0])
    | succ k1 =>
      have H := HA.out
      clear HA
      simp only [bilgeref42_Merge.l0] at H
      have HC3 := Aside0.mk H
      clear H
      go_upto_region 2 with (fail)
      repeat (go_quiet (fail); go_upto_region 2 with (fail))
      go_cut [13] (fun v13 wc => ∃ (kq : Nat) (x13_2 : Bool), v13 = .bool x13_2 ∧ Aside0 (bilgeref42_Merge.j1 kq x0_1 x1_1 x5_1 x13_2 = some r) ∧ Aside0 (kq ≤ k1) ∧ Aside0 (Kd.V k106 106 wc w.heap.size (fun k_ => ((P0_ k_ ∨ P1_ k_) ∨ w.heap.size ≤ k_) ∧ some k_ ≠ (u5 : Value).ownBlock) u0 x0_1) ∧ Aside0 (Kd.V k106 106 wc w.heap.size (fun k_ => ((P0_ k_ ∨ P1_ k_) ∨ w.heap.size ≤ k_) ∧ some k_ ≠ (u5 : Value).ownBlock) u1 x1_1) ∧ Aside0 (Kd.R k106 106 wc w.heap.size (fun k_ => (w.heap.size ≤ k_)) u5 x5_1) ∧ Aside0 (Below w.heap.size w wc))
      case first =>
        have H := HC3.out
        clear HC3
        by_cases c4 : (x0_1.length : Int) > 0
        · rw [if_pos c4] at H
          have c4b0 : decide (0 < (x0_1.length : Int)) = true := decide_eq_true c4
          have c4b1 : decide (0 < x0_1.length) = true := decide_eq_true (by omega)
          clear c4
          (first | rw [c4b0] | (simp only [i64_w, i32_w]; rw [c4b0]) | skip)
          have H' := Aside0.mk H
          clear H
          obtain ⟨Ao5, co5, eo5⟩ := Kd.V_slice HO_0.out
          subst eo5
          obtain ⟨Ao6, co6, eo6⟩ := Kd.V_slice HO_1.out
          subst eo6
          go_wp2
          repeat (go_quiet (fail); try go_wp2)
          go_meet
          case rel => exact ⟨_, (decide ((x1_1.length : Int) > 0)), (by first | rfl | (simp; done) | (simp [*]; done)), H', ⟨by have := HK1.out; first | omega | exact Nat.le_refl _⟩, ⟨by (with_reducible repeat (first | apply Kd.V_alloc | apply Kd.V_drewN | apply Kd.V_drew)); exact HO_0.out⟩, ⟨by (with_reducible repeat (first | apply Kd.V_alloc | apply Kd.V_drewN | apply Kd.V_drew)); exact HO_1.out⟩, ⟨by (with_reducible repeat (first | apply Kd.R_alloc | apply Kd.R_drewN | apply Kd.R_drew)); exact HO_5.out⟩, ⟨by repeat (first | (with_reducible first | exact HB.out | apply below_alloc | apply pw_below_drewN | apply below_drew1) | exact HB.out)⟩⟩
        · rw [if_neg c4] at H
          have c4b0 : decide (0 < (x0_1.length : Int)) = false := decide_eq_false c4
          have c4b1 : decide (0 < x0_1.length) = false := decide_eq_false (by omega)
          clear c4
          (first | rw [c4b0] | (simp only [i64_w, i32_w]; rw [c4b0]) | skip)
          have H' := Aside0.mk H
          clear H
          obtain ⟨Ao7, co7, eo7⟩ := Kd.V_slice HO_0.out
          subst eo7
          go_wp2
          repeat (go_quiet (fail); try go_wp2)
          go_meet
          case rel => exact ⟨_, (false), (by first | rfl | (simp; done) | (simp [*]; done)), H', ⟨by have := HK1.out; first | omega | exact Nat.le_refl _⟩, ⟨by (with_reducible repeat (first | apply Kd.V_alloc | apply Kd.V_drewN | apply Kd.V_drew)); exact HO_0.out⟩, ⟨by (with_reducible repeat (first | apply Kd.V_alloc | apply Kd.V_drewN | apply Kd.V_drew)); exact HO_1.out⟩, ⟨by (with_reducible repeat (first | apply Kd.R_alloc | apply Kd.R_drewN | apply Kd.R_drew)); exact HO_5.out⟩, ⟨by repeat (first | (with_reducible first | exact HB.out | apply below_alloc | apply pw_below_drewN | apply below_drew1) | exact HB.out)⟩⟩
      case rest =>
        clear HC3
        try clear c1
        try clear p2
        try clear c4
        try clear c4b0
        try clear c4b1
        try clear c5
        try clear p2
        obtain ⟨kq, x13_2, rfl, HA, HJ2, HO_0, HO_1, HO_5, HB⟩ := hcut
        cases kq with
        | zero => exact absurd HA.out (by simp [bilgeref42_Merge.j1])
        | succ kj2 =>
          have H := HA.out
          clear HA
          simp only [bilgeref42_Merge.j1] at H
          by_cases c8 : x13_2 = true
          · subst c8
            have H1 : (if 0 < (x0_1.length : Int) then (if 0 < (x1_1.length : Int) then (if ((rd_T106 x0_1 0).f1) ≤ ((rd_T106 x1_1 0).f1) then (if x5_1.length < 3518437208883 then (if 1 ≤ (x0_1.length : Int) then (bilgeref42_Merge.l0 kj2 (x0_1.drop 1) x1_1 (x5_1 ++ [(⟨(rd_T106 x0_1 0).f0, (rd_T106 x0_1 0).f1, (rd_T106 x0_1 0).f2, (rd_T106 x0_1 0).f3, (rd_T106 x0_1 0).f4, (rd_T106 x0_1 0).f5⟩ : S106)])) else (none)) else (none)) else (if x5_1.length < 3518437208883 then (if 1 ≤ (x1_1.length : Int) then (bilgeref42_Merge.l0 kj2 x0_1 (x1_1.drop 1) (x5_1 ++ [(⟨(rd_T106 x1_1 0).f0, (rd_T106 x1_1 0).f1, (rd_T106 x1_1 0).f2, (rd_T106 x1_1 0).f3, (rd_T106 x1_1 0).f4, (rd_T106 x1_1 0).f5⟩ : S106)])) else (none)) else (none))) else (none)) else (none)) = some r := by rw [if_pos rfl] at H; exact H
            clear H
            have H := H1
            clear H1
            by_cases c9 : 0 < (x0_1.length : Int)
            · rw [if_pos c9] at H
              have c9b0 : decide (0 < (x0_1.length : Int)) = true := decide_eq_true c9
              have c9b1 : decide (0 < x0_1.length) = true := decide_eq_true (by omega)
              clear c9
              by_cases c10 : 0 < (x1_1.length : Int)
              · rw [if_pos c10] at H
                have c10b0 : decide (0 < (x1_1.length : Int)) = true := decide_eq_true c10
                have c10b1 : decide (0 < x1_1.length) = true := decide_eq_true (by omega)
                clear c10
                by_cases c11 : ((rd_T106 x0_1 0).f1) ≤ ((rd_T106 x1_1 0).f1)
                · rw [if_pos c11] at H
                  have c11b0 : decide (((rd_T106 x0_1 0).f1) ≤ ((rd_T106 x1_1 0).f1)) = true := decide_eq_true c11
                  clear c11
                  by_cases c12 : x5_1.length < 3518437208883
                  · rw [if_pos c12] at H
                    have LMc12 := Aside0.mk c12
                    clear c12
                    obtain ⟨y148, hy148⟩ : ∃ y_ : List (S106), y_ = (x5_1 ++ [(⟨(rd_T106 x0_1 0).f0, (rd_T106 x0_1 0).f1, (rd_T106 x0_1 0).f2, (rd_T106 x0_1 0).f3, (rd_T106 x0_1 0).f4, (rd_T106 x0_1 0).f5⟩ : S106)]) := ⟨_, rfl⟩
                    replace H : (if 1 ≤ (x0_1.length : Int) then (bilgeref42_Merge.l0 kj2 (x0_1.drop 1) x1_1 y148) else (none)) = some r := by first | (rw [hy148]; with_reducible exact H) | (have H2_ := (Option.bind_some _ _).symm.trans H; rw [hy148]; with_reducible exact H2_) | (have H2_ := (Option.bind_some _ _).symm.trans H; with_reducible exact H2_) | with_reducible exact H | (rw [hy148]; exact H) | exact H
                    have Ny148 := Aside0.mk hy148
                    clear hy148
                    by_cases c13 : 1 ≤ (x0_1.length : Int)
                    · rw [if_pos c13] at H
                      have c13b0 := eq_true c13
                      have c13b1 : decide (1 ≤ (x0_1.length : Int)) = true := decide_eq_true c13
                      clear c13
                      obtain ⟨y151, hy151⟩ : ∃ y_ : List (S106), y_ = (x0_1.drop 1) := ⟨_, rfl⟩
                      replace H : (bilgeref42_Merge.l0 kj2 y151 x1_1 y148) = some r := by first | (rw [hy151]; with_reducible exact H) | (have H2_ := (Option.bind_some _ _).symm.trans H; rw [hy151]; with_reducible exact H2_) | (have H2_ := (Option.bind_some _ _).symm.trans H; with_reducible exact H2_) | with_reducible exact H | (rw [hy151]; exact H) | exact H
                      have Ny151 := Aside0.mk hy151
                      clear hy151
                      have H' := Aside0.mk H
                      clear H
                      obtain ⟨Ao14, co14, eo14⟩ := Kd.V_slice HO_0.out
                      subst eo14
                      have p145 : 0 ≤ (0 : Int) := (by omega)
                      have q145 : 0 < (x0_1.length : Int) := of_decide_eq_true (by first | (with_reducible assumption) | assumption)
                      obtain ⟨ad145, e145, hx145_0, hx145_1, hx145_2, hx145_3, hx145_4, hx145_5⟩ := at_T106 (Kd.V_reads' HO_0.out).2.2 0 p145 q145
                      cases e145
                      have qi145 : (0 < x0_1.length) = True := eq_true (by omega)
                      (try rw [show ((0 : Int)).toNat = 0 from rfl] at hx145_0)
                      (try rw [show 0 * 6 = 0 from rfl] at hx145_0)
                      (try rw [Addr.add_zero'] at hx145_0)
                      (try rw [show ((0 : Int)).toNat = 0 from rfl] at hx145_1)
                      (try rw [show 0 * 6 = 0 from rfl] at hx145_1)
                      (try rw [Addr.add_zero'] at hx145_1)
                      (try rw [show ((0 : Int)).toNat = 0 from rfl] at hx145_2)
                      (try rw [show 0 * 6 = 0 from rfl] at hx145_2)
                      (try rw [Addr.add_zero'] at hx145_2)
                      (try rw [show ((0 : Int)).toNat = 0 from rfl] at hx145_3)
                      (try rw [show 0 * 6 = 0 from rfl] at hx145_3)
                      (try rw [Addr.add_zero'] at hx145_3)
                      (try rw [show ((0 : Int)).toNat = 0 from rfl] at hx145_4)
                      (try rw [show 0 * 6 = 0 from rfl] at hx145_4)
                      (try rw [Addr.add_zero'] at hx145_4)
                      (try rw [show ((0 : Int)).toNat = 0 from rfl] at hx145_5)
                      (try rw [show 0 * 6 = 0 from rfl] at hx145_5)
                      (try rw [Addr.add_zero'] at hx145_5)
                      replace p145 := eq_true p145
                      replace q145 := eq_true q145
                      obtain ⟨Ao15, co15, eo15⟩ := Kd.V_slice HO_1.out
                      subst eo15
                      have p146 : 0 ≤ (0 : Int) := (by omega)
                      have q146 : 0 < (x1_1.length : Int) := of_decide_eq_true (by first | (with_reducible assumption) | assumption)
                      obtain ⟨ad146, e146, hx146_0, hx146_1, hx146_2, hx146_3, hx146_4, hx146_5⟩ := at_T106 (Kd.V_reads' HO_1.out).2.2 0 p146 q146
                      cases e146
                      have qi146 : (0 < x1_1.length) = True := eq_true (by omega)
                      (try rw [show ((0 : Int)).toNat = 0 from rfl] at hx146_0)
                      (try rw [show 0 * 6 = 0 from rfl] at hx146_0)
                      (try rw [Addr.add_zero'] at hx146_0)
                      (try rw [show ((0 : Int)).toNat = 0 from rfl] at hx146_1)
                      (try rw [show 0 * 6 = 0 from rfl] at hx146_1)
                      (try rw [Addr.add_zero'] at hx146_1)
                      (try rw [show ((0 : Int)).toNat = 0 from rfl] at hx146_2)
                      (try rw [show 0 * 6 = 0 from rfl] at hx146_2)
                      (try rw [Addr.add_zero'] at hx146_2)
                      (try rw [show ((0 : Int)).toNat = 0 from rfl] at hx146_3)
                      (try rw [show 0 * 6 = 0 from rfl] at hx146_3)
                      (try rw [Addr.add_zero'] at hx146_3)
                      (try rw [show ((0 : Int)).toNat = 0 from rfl] at hx146_4)
                      (try rw [show 0 * 6 = 0 from rfl] at hx146_4)
                      (try rw [Addr.add_zero'] at hx146_4)
                      (try rw [show ((0 : Int)).toNat = 0 from rfl] at hx146_5)
                      (try rw [show 0 * 6 = 0 from rfl] at hx146_5)
                      (try rw [Addr.add_zero'] at hx146_5)
                      replace p146 := eq_true p146
                      replace q146 := eq_true q146
                      have p147 : 0 ≤ (0 : Int) := (by omega)
                      have q147 : 0 < (x0_1.length : Int) := of_decide_eq_true (by first | (with_reducible assumption) | assumption)
                      obtain ⟨ad147, e147, hx147_0, hx147_1, hx147_2, hx147_3, hx147_4, hx147_5⟩ := at_T106 (Kd.V_reads' HO_0.out).2.2 0 p147 q147
                      obtain rfl : ad145 = ad147 := (by injection e147)
                      have qi147 : (0 < x0_1.length) = True := eq_true (by omega)
                      (try rw [show ((0 : Int)).toNat = 0 from rfl] at hx147_0)
                      (try rw [show 0 * 6 = 0 from rfl] at hx147_0)
                      (try rw [Addr.add_zero'] at hx147_0)
                      (try rw [show ((0 : Int)).toNat = 0 from rfl] at hx147_1)
                      (try rw [show 0 * 6 = 0 from rfl] at hx147_1)
                      (try rw [Addr.add_zero'] at hx147_1)
                      (try rw [show ((0 : Int)).toNat = 0 from rfl] at hx147_2)
                      (try rw [show 0 * 6 = 0 from rfl] at hx147_2)
                      (try rw [Addr.add_zero'] at hx147_2)
                      (try rw [show ((0 : Int)).toNat = 0 from rfl] at hx147_3)
                      (try rw [show 0 * 6 = 0 from rfl] at hx147_3)
                      (try rw [Addr.add_zero'] at hx147_3)
                      (try rw [show ((0 : Int)).toNat = 0 from rfl] at hx147_4)
                      (try rw [show 0 * 6 = 0 from rfl] at hx147_4)
                      (try rw [Addr.add_zero'] at hx147_4)
                      (try rw [show ((0 : Int)).toNat = 0 from rfl] at hx147_5)
                      (try rw [show 0 * 6 = 0 from rfl] at hx147_5)
                      (try rw [Addr.add_zero'] at hx147_5)
                      replace p147 := eq_true p147
                      replace q147 := eq_true q147
                      go_wp2_with (first | ((with_reducible refine gate_builtin (b := .append) (xs := #[.tmp 23, .tmp 27]) rfl ?_); (try (refine gate_guard (by rfl) ?_; dsimp only)); at_builtin; refine Kd.R_append k106 (w0 := w) w.heap.size rfl (.tmp 23) (.tmp 27) 88 106 (.agg #[(.int .i64 0), (.int .i64 0), (.int .u8 0), (.bool false), (.int .i64 0), (.int .i64 0)]) 40 rfl Try.underlying88 info106 rfl (by decide) (by omega) u5 x5_1 (⟨(rd_T106 x0_1 0).f0, (rd_T106 x0_1 0).f1, (rd_T106 x0_1 0).f2, (rd_T106 x0_1 0).f3, (rd_T106 x0_1 0).f4, (rd_T106 x0_1 0).f5⟩ : S106) [.int .i64 ((rd_T106 x0_1 0).f0), .int .i64 ((rd_T106 x0_1 0).f1), .int .u8 ((rd_T106 x0_1 0).f2), .bool ((rd_T106 x0_1 0).f3), .int .i64 ((rd_T106 x0_1 0).f4), .int .i64 ((rd_T106 x0_1 0).f5)] (fun k_ => (w.heap.size ≤ k_)) (fun _ => False) rfl rfl ?aP (fun _ hk => hk.elim) ?aF ?aO ?aB ?aS ?aL ?_; (case aP => exact k106_mkM _ _ _ (⟨(rd_T106 x0_1 0).f0, (rd_T106 x0_1 0).f1, (rd_T106 x0_1 0).f2, (rd_T106 x0_1 0).f3, (rd_T106 x0_1 0).f4, (rd_T106 x0_1 0).f5⟩ : S106)); (case aB => exact (by repeat (first | (with_reducible first | exact HB.out | apply below_alloc | apply pw_below_drewN | apply below_drew1) | exact HB.out))); (case aF => exact (fun k_ hk => (Nat.le_trans (below_size (by repeat (first | (with_reducible first | exact HB.out | apply below_alloc | apply pw_below_drewN | apply below_drew1) | exact HB.out))) hk))); (case aO => exact (by (with_reducible repeat (first | apply Kd.R_alloc | apply Kd.R_drewN | apply Kd.R_drew)); exact HO_5.out)); (case aS => exact (below_size (by repeat (first | (with_reducible first | exact HB.out | apply below_alloc | apply pw_below_drewN | apply below_drew1) | exact HB.out)))); (case aL => have := LMc12.out; omega); intro v149 w16 ho hb hg hat; rw [← Ny148.out] at ho; have n0_ := Aside0.mk (Kd.V_afterv (ok := (fun k_ => ((P0_ k_ ∨ P1_ k_) ∨ w.heap.size ≤ k_))) (by (with_reducible repeat (first | apply Kd.V_alloc | apply Kd.V_drewN | apply Kd.V_drew)); exact HO_0.out) hg hat); have n1_ := Aside0.mk (Kd.V_afterv (ok := (fun k_ => ((P0_ k_ ∨ P1_ k_) ∨ w.heap.size ≤ k_))) (by (with_reducible repeat (first | apply Kd.V_alloc | apply Kd.V_drewN | apply Kd.V_drew)); exact HO_1.out) hg hat); have n2_ := Aside0.mk (hb); have n3_ := Aside0.mk (ho); clear HO_0; clear HO_1; clear HB; clear HO_5; have HO_0 := n0_; have HO_1 := n1_; have HB := n2_; have HO150 := n3_; clear n0_ n1_ n2_ n3_; clear ho hb hg hat; have q17 : (1 : Int) ≤ ((x0_1.length : Int) : Int) := of_decide_eq_true (by first | (with_reducible assumption) | assumption); obtain ⟨i017, hi017, _, hsz17, _⟩ := info_parts info106; have hroom17 : x0_1.length ≤ co14 := (Kd.V_reads' HO_0.out).2.1; have hC17 : Kd.F k106 _ _ (some ad145) x0_1.length x0_1 := (Kd.V_at (base := w.heap.size) HO_0.out).2.2; have hcut17 := cut_from (P := Try.prog) 88 106 .i64 Try.underlying88 hi017 6 hsz17 (some ad145) x0_1.length co14 1 (by omega) q17; have hr17 := Kd.F_cut (m := (1 : Int).toNat) (c := co14) hC17 (by omega) hroom17; obtain ⟨A17, hA17⟩ : ∃ A1, A1 = (if co14 = (1 : Int).toNat then (some ad145) else ((some ad145) : Option Addr).map (·.add ((1 : Int).toNat * 6))) := ⟨_, rfl⟩; obtain ⟨c17, hc17⟩ : ∃ c1, c1 = co14 - (1 : Int).toNat := ⟨_, rfl⟩; have hy17 : y151.length = x0_1.length - (1 : Int).toNat := (by rw [Ny151.out, List.length_drop] <;> omega); rw [show (x0_1).drop (1 : Int).toNat = y151 from Ny151.out.symm] at hr17; replace hr17 : Kd.F k106 _ _ A17 y151.length y151 := (by rw [hA17]; exact hr17); rw [← hy17, ← hA17, ← hc17] at hcut17; have HO155 := Aside0.mk (show Kd.V k106 106 _ w.heap.size _ (.slice A17 y151.length c17) y151 from Kd.V_mk (by rw [hy17, hc17]; exact Nat.sub_le_sub_right hroom17 _) hr17); have HC155 := Aside0.mk (show y151.length ≤ c17 from by rw [hy17, hc17]; exact Nat.sub_le_sub_right hroom17 _); clear hr17 hC17 hroom17 hi017 hsz17 hc17; have KY17 := Aside0.mk hy17; have KA17 := Aside0.mk hA17; clear hy17 hA17; replace q17 := eq_true q17))
                      repeat (go_quiet (first | ((with_reducible refine gate_builtin (b := .append) (xs := #[.tmp 23, .tmp 27]) rfl ?_); (try (refine gate_guard (by rfl) ?_; dsimp only)); at_builtin; refine Kd.R_append k106 (w0 := w) w.heap.size rfl (.tmp 23) (.tmp 27) 88 106 (.agg #[(.int .i64 0), (.int .i64 0), (.int .u8 0), (.bool false), (.int .i64 0), (.int .i64 0)]) 40 rfl Try.underlying88 info106 rfl (by decide) (by omega) u5 x5_1 (⟨(rd_T106 x0_1 0).f0, (rd_T106 x0_1 0).f1, (rd_T106 x0_1 0).f2, (rd_T106 x0_1 0).f3, (rd_T106 x0_1 0).f4, (rd_T106 x0_1 0).f5⟩ : S106) [.int .i64 ((rd_T106 x0_1 0).f0), .int .i64 ((rd_T106 x0_1 0).f1), .int .u8 ((rd_T106 x0_1 0).f2), .bool ((rd_T106 x0_1 0).f3), .int .i64 ((rd_T106 x0_1 0).f4), .int .i64 ((rd_T106 x0_1 0).f5)] (fun k_ => (w.heap.size ≤ k_)) (fun _ => False) rfl rfl ?aP (fun _ hk => hk.elim) ?aF ?aO ?aB ?aS ?aL ?_; (case aP => exact k106_mkM _ _ _ (⟨(rd_T106 x0_1 0).f0, (rd_T106 x0_1 0).f1, (rd_T106 x0_1 0).f2, (rd_T106 x0_1 0).f3, (rd_T106 x0_1 0).f4, (rd_T106 x0_1 0).f5⟩ : S106)); (case aB => exact (by repeat (first | (with_reducible first | exact HB.out | apply below_alloc | apply pw_below_drewN | apply below_drew1) | exact HB.out))); (case aF => exact (fun k_ hk => (Nat.le_trans (below_size (by repeat (first | (with_reducible first | exact HB.out | apply below_alloc | apply pw_below_drewN | apply below_drew1) | exact HB.out))) hk))); (case aO => exact (by (with_reducible repeat (first | apply Kd.R_alloc | apply Kd.R_drewN | apply Kd.R_drew)); exact HO_5.out)); (case aS => exact (below_size (by repeat (first | (with_reducible first | exact HB.out | apply below_alloc | apply pw_below_drewN | apply below_drew1) | exact HB.out)))); (case aL => have := LMc12.out; omega); intro v149 w16 ho hb hg hat; rw [← Ny148.out] at ho; have n0_ := Aside0.mk (Kd.V_afterv (ok := (fun k_ => ((P0_ k_ ∨ P1_ k_) ∨ w.heap.size ≤ k_))) (by (with_reducible repeat (first | apply Kd.V_alloc | apply Kd.V_drewN | apply Kd.V_drew)); exact HO_0.out) hg hat); have n1_ := Aside0.mk (Kd.V_afterv (ok := (fun k_ => ((P0_ k_ ∨ P1_ k_) ∨ w.heap.size ≤ k_))) (by (with_reducible repeat (first | apply Kd.V_alloc | apply Kd.V_drewN | apply Kd.V_drew)); exact HO_1.out) hg hat); have n2_ := Aside0.mk (hb); have n3_ := Aside0.mk (ho); clear HO_0; clear HO_1; clear HB; clear HO_5; have HO_0 := n0_; have HO_1 := n1_; have HB := n2_; have HO150 := n3_; clear n0_ n1_ n2_ n3_; clear ho hb hg hat; have q17 : (1 : Int) ≤ ((x0_1.length : Int) : Int) := of_decide_eq_true (by first | (with_reducible assumption) | assumption); obtain ⟨i017, hi017, _, hsz17, _⟩ := info_parts info106; have hroom17 : x0_1.length ≤ co14 := (Kd.V_reads' HO_0.out).2.1; have hC17 : Kd.F k106 _ _ (some ad145) x0_1.length x0_1 := (Kd.V_at (base := w.heap.size) HO_0.out).2.2; have hcut17 := cut_from (P := Try.prog) 88 106 .i64 Try.underlying88 hi017 6 hsz17 (some ad145) x0_1.length co14 1 (by omega) q17; have hr17 := Kd.F_cut (m := (1 : Int).toNat) (c := co14) hC17 (by omega) hroom17; obtain ⟨A17, hA17⟩ : ∃ A1, A1 = (if co14 = (1 : Int).toNat then (some ad145) else ((some ad145) : Option Addr).map (·.add ((1 : Int).toNat * 6))) := ⟨_, rfl⟩; obtain ⟨c17, hc17⟩ : ∃ c1, c1 = co14 - (1 : Int).toNat := ⟨_, rfl⟩; have hy17 : y151.length = x0_1.length - (1 : Int).toNat := (by rw [Ny151.out, List.length_drop] <;> omega); rw [show (x0_1).drop (1 : Int).toNat = y151 from Ny151.out.symm] at hr17; replace hr17 : Kd.F k106 _ _ A17 y151.length y151 := (by rw [hA17]; exact hr17); rw [← hy17, ← hA17, ← hc17] at hcut17; have HO155 := Aside0.mk (show Kd.V k106 106 _ w.heap.size _ (.slice A17 y151.length c17) y151 from Kd.V_mk (by rw [hy17, hc17]; exact Nat.sub_le_sub_right hroom17 _) hr17); have HC155 := Aside0.mk (show y151.length ≤ c17 from by rw [hy17, hc17]; exact Nat.sub_le_sub_right hroom17 _); clear hr17 hC17 hroom17 hi017 hsz17 hc17; have KY17 := Aside0.mk hy17; have KA17 := Aside0.mk hA17; clear hy17 hA17; replace q17 := eq_true q17)); try go_wp2_with (first | ((with_reducible refine gate_builtin (b := .append) (xs := #[.tmp 23, .tmp 27]) rfl ?_); (try (refine gate_guard (by rfl) ?_; dsimp only)); at_builtin; refine Kd.R_append k106 (w0 := w) w.heap.size rfl (.tmp 23) (.tmp 27) 88 106 (.agg #[(.int .i64 0), (.int .i64 0), (.int .u8 0), (.bool false), (.int .i64 0), (.int .i64 0)]) 40 rfl Try.underlying88 info106 rfl (by decide) (by omega) u5 x5_1 (⟨(rd_T106 x0_1 0).f0, (rd_T106 x0_1 0).f1, (rd_T106 x0_1 0).f2, (rd_T106 x0_1 0).f3, (rd_T106 x0_1 0).f4, (rd_T106 x0_1 0).f5⟩ : S106) [.int .i64 ((rd_T106 x0_1 0).f0), .int .i64 ((rd_T106 x0_1 0).f1), .int .u8 ((rd_T106 x0_1 0).f2), .bool ((rd_T106 x0_1 0).f3), .int .i64 ((rd_T106 x0_1 0).f4), .int .i64 ((rd_T106 x0_1 0).f5)] (fun k_ => (w.heap.size ≤ k_)) (fun _ => False) rfl rfl ?aP (fun _ hk => hk.elim) ?aF ?aO ?aB ?aS ?aL ?_; (case aP => exact k106_mkM _ _ _ (⟨(rd_T106 x0_1 0).f0, (rd_T106 x0_1 0).f1, (rd_T106 x0_1 0).f2, (rd_T106 x0_1 0).f3, (rd_T106 x0_1 0).f4, (rd_T106 x0_1 0).f5⟩ : S106)); (case aB => exact (by repeat (first | (with_reducible first | exact HB.out | apply below_alloc | apply pw_below_drewN | apply below_drew1) | exact HB.out))); (case aF => exact (fun k_ hk => (Nat.le_trans (below_size (by repeat (first | (with_reducible first | exact HB.out | apply below_alloc | apply pw_below_drewN | apply below_drew1) | exact HB.out))) hk))); (case aO => exact (by (with_reducible repeat (first | apply Kd.R_alloc | apply Kd.R_drewN | apply Kd.R_drew)); exact HO_5.out)); (case aS => exact (below_size (by repeat (first | (with_reducible first | exact HB.out | apply below_alloc | apply pw_below_drewN | apply below_drew1) | exact HB.out)))); (case aL => have := LMc12.out; omega); intro v149 w16 ho hb hg hat; rw [← Ny148.out] at ho; have n0_ := Aside0.mk (Kd.V_afterv (ok := (fun k_ => ((P0_ k_ ∨ P1_ k_) ∨ w.heap.size ≤ k_))) (by (with_reducible repeat (first | apply Kd.V_alloc | apply Kd.V_drewN | apply Kd.V_drew)); exact HO_0.out) hg hat); have n1_ := Aside0.mk (Kd.V_afterv (ok := (fun k_ => ((P0_ k_ ∨ P1_ k_) ∨ w.heap.size ≤ k_))) (by (with_reducible repeat (first | apply Kd.V_alloc | apply Kd.V_drewN | apply Kd.V_drew)); exact HO_1.out) hg hat); have n2_ := Aside0.mk (hb); have n3_ := Aside0.mk (ho); clear HO_0; clear HO_1; clear HB; clear HO_5; have HO_0 := n0_; have HO_1 := n1_; have HB := n2_; have HO150 := n3_; clear n0_ n1_ n2_ n3_; clear ho hb hg hat; have q17 : (1 : Int) ≤ ((x0_1.length : Int) : Int) := of_decide_eq_true (by first | (with_reducible assumption) | assumption); obtain ⟨i017, hi017, _, hsz17, _⟩ := info_parts info106; have hroom17 : x0_1.length ≤ co14 := (Kd.V_reads' HO_0.out).2.1; have hC17 : Kd.F k106 _ _ (some ad145) x0_1.length x0_1 := (Kd.V_at (base := w.heap.size) HO_0.out).2.2; have hcut17 := cut_from (P := Try.prog) 88 106 .i64 Try.underlying88 hi017 6 hsz17 (some ad145) x0_1.length co14 1 (by omega) q17; have hr17 := Kd.F_cut (m := (1 : Int).toNat) (c := co14) hC17 (by omega) hroom17; obtain ⟨A17, hA17⟩ : ∃ A1, A1 = (if co14 = (1 : Int).toNat then (some ad145) else ((some ad145) : Option Addr).map (·.add ((1 : Int).toNat * 6))) := ⟨_, rfl⟩; obtain ⟨c17, hc17⟩ : ∃ c1, c1 = co14 - (1 : Int).toNat := ⟨_, rfl⟩; have hy17 : y151.length = x0_1.length - (1 : Int).toNat := (by rw [Ny151.out, List.length_drop] <;> omega); rw [show (x0_1).drop (1 : Int).toNat = y151 from Ny151.out.symm] at hr17; replace hr17 : Kd.F k106 _ _ A17 y151.length y151 := (by rw [hA17]; exact hr17); rw [← hy17, ← hA17, ← hc17] at hcut17; have HO155 := Aside0.mk (show Kd.V k106 106 _ w.heap.size _ (.slice A17 y151.length c17) y151 from Kd.V_mk (by rw [hy17, hc17]; exact Nat.sub_le_sub_right hroom17 _) hr17); have HC155 := Aside0.mk (show y151.length ≤ c17 from by rw [hy17, hc17]; exact Nat.sub_le_sub_right hroom17 _); clear hr17 hC17 hroom17 hi017 hsz17 hc17; have KY17 := Aside0.mk hy17; have KA17 := Aside0.mk hA17; clear hy17 hA17; replace q17 := eq_true q17)))
                      go_roundg kj2
                      case measure => have := HK1.out; have := HJ2.out; omega
                      case rel => exact ⟨(y151), (x1_1), (y148), H', ⟨by have := HK1.out; have := HJ2.out; omega⟩, ⟨by (with_reducible repeat (first | apply Kd.V_alloc | apply Kd.V_drewN | apply Kd.V_drew)); exact HO155.out⟩, ⟨by (with_reducible repeat (first | apply Kd.V_alloc | apply Kd.V_drewN | apply Kd.V_drew)); exact HO_1.out⟩, ⟨by (with_reducible repeat (first | apply Kd.R_alloc | apply Kd.R_drewN | apply Kd.R_drew)); exact HO150.out⟩, ⟨by repeat (first | (with_reducible first | exact HB.out | apply below_alloc | apply pw_below_drewN | apply below_drew1) | exact HB.out)⟩⟩
                    · rw [if_neg c13] at H
                      exact absurd H (by simp)
                  · rw [if_neg c12] at H
                    exact absurd H (by simp)
                · rw [if_neg c11] at H
                  have c11b0 : decide (((rd_T106 x0_1 0).f1) ≤ ((rd_T106 x1_1 0).f1)) = false := decide_eq_false c11
                  clear c11
                  by_cases c18 : x5_1.length < 3518437208883
                  · rw [if_pos c18] at H
                    have LMc18 := Aside0.mk c18
                    clear c18
                    obtain ⟨y157, hy157⟩ : ∃ y_ : List (S106), y_ = (x5_1 ++ [(⟨(rd_T106 x1_1 0).f0, (rd_T106 x1_1 0).f1, (rd_T106 x1_1 0).f2, (rd_T106 x1_1 0).f3, (rd_T106 x1_1 0).f4, (rd_T106 x1_1 0).f5⟩ : S106)]) := ⟨_, rfl⟩
                    replace H : (if 1 ≤ (x1_1.length : Int) then (bilgeref42_Merge.l0 kj2 x0_1 (x1_1.drop 1) y157) else (none)) = some r := by first | (rw [hy157]; with_reducible exact H) | (have H2_ := (Option.bind_some _ _).symm.trans H; rw [hy157]; with_reducible exact H2_) | (have H2_ := (Option.bind_some _ _).symm.trans H; with_reducible exact H2_) | with_reducible exact H | (rw [hy157]; exact H) | exact H
                    have Ny157 := Aside0.mk hy157
                    clear hy157
                    by_cases c19 : 1 ≤ (x1_1.length : Int)
                    · rw [if_pos c19] at H
                      have c19b0 := eq_true c19
                      have c19b1 : decide (1 ≤ (x1_1.length : Int)) = true := decide_eq_true c19
                      clear c19
                      obtain ⟨y160, hy160⟩ : ∃ y_ : List (S106), y_ = (x1_1.drop 1) := ⟨_, rfl⟩
                      replace H : (bilgeref42_Merge.l0 kj2 x0_1 y160 y157) = some r := by first | (rw [hy160]; with_reducible exact H) | (have H2_ := (Option.bind_some _ _).symm.trans H; rw [hy160]; with_reducible exact H2_) | (have H2_ := (Option.bind_some _ _).symm.trans H; with_reducible exact H2_) | with_reducible exact H | (rw [hy160]; exact H) | exact H
                      have Ny160 := Aside0.mk hy160
                      clear hy160
                      have H' := Aside0.mk H
                      clear H
                      obtain ⟨Ao20, co20, eo20⟩ := Kd.V_slice HO_0.out
                      subst eo20
                      have p145 : 0 ≤ (0 : Int) := (by omega)
                      have q145 : 0 < (x0_1.length : Int) := of_decide_eq_true (by first | (with_reducible assumption) | assumption)
                      obtain ⟨ad145, e145, hx145_0, hx145_1, hx145_2, hx145_3, hx145_4, hx145_5⟩ := at_T106 (Kd.V_reads' HO_0.out).2.2 0 p145 q145
                      cases e145
                      have qi145 : (0 < x0_1.length) = True := eq_true (by omega)
                      (try rw [show ((0 : Int)).toNat = 0 from rfl] at hx145_0)
                      (try rw [show 0 * 6 = 0 from rfl] at hx145_0)
                      (try rw [Addr.add_zero'] at hx145_0)
                      (try rw [show ((0 : Int)).toNat = 0 from rfl] at hx145_1)
                      (try rw [show 0 * 6 = 0 from rfl] at hx145_1)
                      (try rw [Addr.add_zero'] at hx145_1)
                      (try rw [show ((0 : Int)).toNat = 0 from rfl] at hx145_2)
                      (try rw [show 0 * 6 = 0 from rfl] at hx145_2)
                      (try rw [Addr.add_zero'] at hx145_2)
                      (try rw [show ((0 : Int)).toNat = 0 from rfl] at hx145_3)
                      (try rw [show 0 * 6 = 0 from rfl] at hx145_3)
                      (try rw [Addr.add_zero'] at hx145_3)
                      (try rw [show ((0 : Int)).toNat = 0 from rfl] at hx145_4)
                      (try rw [show 0 * 6 = 0 from rfl] at hx145_4)
                      (try rw [Addr.add_zero'] at hx145_4)
                      (try rw [show ((0 : Int)).toNat = 0 from rfl] at hx145_5)
                      (try rw [show 0 * 6 = 0 from rfl] at hx145_5)
                      (try rw [Addr.add_zero'] at hx145_5)
                      replace p145 := eq_true p145
                      replace q145 := eq_true q145
                      obtain ⟨Ao21, co21, eo21⟩ := Kd.V_slice HO_1.out
                      subst eo21
                      have p146 : 0 ≤ (0 : Int) := (by omega)
                      have q146 : 0 < (x1_1.length : Int) := of_decide_eq_true (by first | (with_reducible assumption) | assumption)
                      obtain ⟨ad146, e146, hx146_0, hx146_1, hx146_2, hx146_3, hx146_4, hx146_5⟩ := at_T106 (Kd.V_reads' HO_1.out).2.2 0 p146 q146
                      cases e146
                      have qi146 : (0 < x1_1.length) = True := eq_true (by omega)
                      (try rw [show ((0 : Int)).toNat = 0 from rfl] at hx146_0)
                      (try rw [show 0 * 6 = 0 from rfl] at hx146_0)
                      (try rw [Addr.add_zero'] at hx146_0)
                      (try rw [show ((0 : Int)).toNat = 0 from rfl] at hx146_1)
                      (try rw [show 0 * 6 = 0 from rfl] at hx146_1)
                      (try rw [Addr.add_zero'] at hx146_1)
                      (try rw [show ((0 : Int)).toNat = 0 from rfl] at hx146_2)
                      (try rw [show 0 * 6 = 0 from rfl] at hx146_2)
                      (try rw [Addr.add_zero'] at hx146_2)
                      (try rw [show ((0 : Int)).toNat = 0 from rfl] at hx146_3)
                      (try rw [show 0 * 6 = 0 from rfl] at hx146_3)
                      (try rw [Addr.add_zero'] at hx146_3)
                      (try rw [show ((0 : Int)).toNat = 0 from rfl] at hx146_4)
                      (try rw [show 0 * 6 = 0 from rfl] at hx146_4)
                      (try rw [Addr.add_zero'] at hx146_4)
                      (try rw [show ((0 : Int)).toNat = 0 from rfl] at hx146_5)
                      (try rw [show 0 * 6 = 0 from rfl] at hx146_5)
                      (try rw [Addr.add_zero'] at hx146_5)
                      replace p146 := eq_true p146
                      replace q146 := eq_true q146
                      have p156 : 0 ≤ (0 : Int) := (by omega)
                      have q156 : 0 < (x1_1.length : Int) := of_decide_eq_true (by first | (with_reducible assumption) | assumption)
                      obtain ⟨ad156, e156, hx156_0, hx156_1, hx156_2, hx156_3, hx156_4, hx156_5⟩ := at_T106 (Kd.V_reads' HO_1.out).2.2 0 p156 q156
                      obtain rfl : ad146 = ad156 := (by injection e156)
                      have qi156 : (0 < x1_1.length) = True := eq_true (by omega)
                      (try rw [show ((0 : Int)).toNat = 0 from rfl] at hx156_0)
                      (try rw [show 0 * 6 = 0 from rfl] at hx156_0)
                      (try rw [Addr.add_zero'] at hx156_0)
                      (try rw [show ((0 : Int)).toNat = 0 from rfl] at hx156_1)
                      (try rw [show 0 * 6 = 0 from rfl] at hx156_1)
                      (try rw [Addr.add_zero'] at hx156_1)
                      (try rw [show ((0 : Int)).toNat = 0 from rfl] at hx156_2)
                      (try rw [show 0 * 6 = 0 from rfl] at hx156_2)
                      (try rw [Addr.add_zero'] at hx156_2)
                      (try rw [show ((0 : Int)).toNat = 0 from rfl] at hx156_3)
                      (try rw [show 0 * 6 = 0 from rfl] at hx156_3)
                      (try rw [Addr.add_zero'] at hx156_3)
                      (try rw [show ((0 : Int)).toNat = 0 from rfl] at hx156_4)
                      (try rw [show 0 * 6 = 0 from rfl] at hx156_4)
                      (try rw [Addr.add_zero'] at hx156_4)
                      (try rw [show ((0 : Int)).toNat = 0 from rfl] at hx156_5)
                      (try rw [show 0 * 6 = 0 from rfl] at hx156_5)
                      (try rw [Addr.add_zero'] at hx156_5)
                      replace p156 := eq_true p156
                      replace q156 := eq_true q156
                      go_wp2_with (first | ((with_reducible refine gate_builtin (b := .append) (xs := #[.tmp 31, .tmp 35]) rfl ?_); (try (refine gate_guard (by rfl) ?_; dsimp only)); at_builtin; refine Kd.R_append k106 (w0 := w) w.heap.size rfl (.tmp 31) (.tmp 35) 88 106 (.agg #[(.int .i64 0), (.int .i64 0), (.int .u8 0), (.bool false), (.int .i64 0), (.int .i64 0)]) 40 rfl Try.underlying88 info106 rfl (by decide) (by omega) u5 x5_1 (⟨(rd_T106 x1_1 0).f0, (rd_T106 x1_1 0).f1, (rd_T106 x1_1 0).f2, (rd_T106 x1_1 0).f3, (rd_T106 x1_1 0).f4, (rd_T106 x1_1 0).f5⟩ : S106) [.int .i64 ((rd_T106 x1_1 0).f0), .int .i64 ((rd_T106 x1_1 0).f1), .int .u8 ((rd_T106 x1_1 0).f2), .bool ((rd_T106 x1_1 0).f3), .int .i64 ((rd_T106 x1_1 0).f4), .int .i64 ((rd_T106 x1_1 0).f5)] (fun k_ => (w.heap.size ≤ k_)) (fun _ => False) rfl rfl ?aP (fun _ hk => hk.elim) ?aF ?aO ?aB ?aS ?aL ?_; (case aP => exact k106_mkM _ _ _ (⟨(rd_T106 x1_1 0).f0, (rd_T106 x1_1 0).f1, (rd_T106 x1_1 0).f2, (rd_T106 x1_1 0).f3, (rd_T106 x1_1 0).f4, (rd_T106 x1_1 0).f5⟩ : S106)); (case aB => exact (by repeat (first | (with_reducible first | exact HB.out | apply below_alloc | apply pw_below_drewN | apply below_drew1) | exact HB.out))); (case aF => exact (fun k_ hk => (Nat.le_trans (below_size (by repeat (first | (with_reducible first | exact HB.out | apply below_alloc | apply pw_below_drewN | apply below_drew1) | exact HB.out))) hk))); (case aO => exact (by (with_reducible repeat (first | apply Kd.R_alloc | apply Kd.R_drewN | apply Kd.R_drew)); exact HO_5.out)); (case aS => exact (below_size (by repeat (first | (with_reducible first | exact HB.out | apply below_alloc | apply pw_below_drewN | apply below_drew1) | exact HB.out)))); (case aL => have := LMc18.out; omega); intro v158 w22 ho hb hg hat; rw [← Ny157.out] at ho; have n0_ := Aside0.mk (Kd.V_afterv (ok := (fun k_ => ((P0_ k_ ∨ P1_ k_) ∨ w.heap.size ≤ k_))) (by (with_reducible repeat (first | apply Kd.V_alloc | apply Kd.V_drewN | apply Kd.V_drew)); exact HO_0.out) hg hat); have n1_ := Aside0.mk (Kd.V_afterv (ok := (fun k_ => ((P0_ k_ ∨ P1_ k_) ∨ w.heap.size ≤ k_))) (by (with_reducible repeat (first | apply Kd.V_alloc | apply Kd.V_drewN | apply Kd.V_drew)); exact HO_1.out) hg hat); have n2_ := Aside0.mk (hb); have n3_ := Aside0.mk (ho); clear HO_0; clear HO_1; clear HB; clear HO_5; have HO_0 := n0_; have HO_1 := n1_; have HB := n2_; have HO159 := n3_; clear n0_ n1_ n2_ n3_; clear ho hb hg hat; have q23 : (1 : Int) ≤ ((x1_1.length : Int) : Int) := of_decide_eq_true (by first | (with_reducible assumption) | assumption); obtain ⟨i023, hi023, _, hsz23, _⟩ := info_parts info106; have hroom23 : x1_1.length ≤ co21 := (Kd.V_reads' HO_1.out).2.1; have hC23 : Kd.F k106 _ _ (some ad146) x1_1.length x1_1 := (Kd.V_at (base := w.heap.size) HO_1.out).2.2; have hcut23 := cut_from (P := Try.prog) 88 106 .i64 Try.underlying88 hi023 6 hsz23 (some ad146) x1_1.length co21 1 (by omega) q23; have hr23 := Kd.F_cut (m := (1 : Int).toNat) (c := co21) hC23 (by omega) hroom23; obtain ⟨A23, hA23⟩ : ∃ A1, A1 = (if co21 = (1 : Int).toNat then (some ad146) else ((some ad146) : Option Addr).map (·.add ((1 : Int).toNat * 6))) := ⟨_, rfl⟩; obtain ⟨c23, hc23⟩ : ∃ c1, c1 = co21 - (1 : Int).toNat := ⟨_, rfl⟩; have hy23 : y160.length = x1_1.length - (1 : Int).toNat := (by rw [Ny160.out, List.length_drop] <;> omega); rw [show (x1_1).drop (1 : Int).toNat = y160 from Ny160.out.symm] at hr23; replace hr23 : Kd.F k106 _ _ A23 y160.length y160 := (by rw [hA23]; exact hr23); rw [← hy23, ← hA23, ← hc23] at hcut23; have HO164 := Aside0.mk (show Kd.V k106 106 _ w.heap.size _ (.slice A23 y160.length c23) y160 from Kd.V_mk (by rw [hy23, hc23]; exact Nat.sub_le_sub_right hroom23 _) hr23); have HC164 := Aside0.mk (show y160.length ≤ c23 from by rw [hy23, hc23]; exact Nat.sub_le_sub_right hroom23 _); clear hr23 hC23 hroom23 hi023 hsz23 hc23; have KY23 := Aside0.mk hy23; have KA23 := Aside0.mk hA23; clear hy23 hA23; replace q23 := eq_true q23))
                      repeat (go_quiet (first | ((with_reducible refine gate_builtin (b := .append) (xs := #[.tmp 31, .tmp 35]) rfl ?_); (try (refine gate_guard (by rfl) ?_; dsimp only)); at_builtin; refine Kd.R_append k106 (w0 := w) w.heap.size rfl (.tmp 31) (.tmp 35) 88 106 (.agg #[(.int .i64 0), (.int .i64 0), (.int .u8 0), (.bool false), (.int .i64 0), (.int .i64 0)]) 40 rfl Try.underlying88 info106 rfl (by decide) (by omega) u5 x5_1 (⟨(rd_T106 x1_1 0).f0, (rd_T106 x1_1 0).f1, (rd_T106 x1_1 0).f2, (rd_T106 x1_1 0).f3, (rd_T106 x1_1 0).f4, (rd_T106 x1_1 0).f5⟩ : S106) [.int .i64 ((rd_T106 x1_1 0).f0), .int .i64 ((rd_T106 x1_1 0).f1), .int .u8 ((rd_T106 x1_1 0).f2), .bool ((rd_T106 x1_1 0).f3), .int .i64 ((rd_T106 x1_1 0).f4), .int .i64 ((rd_T106 x1_1 0).f5)] (fun k_ => (w.heap.size ≤ k_)) (fun _ => False) rfl rfl ?aP (fun _ hk => hk.elim) ?aF ?aO ?aB ?aS ?aL ?_; (case aP => exact k106_mkM _ _ _ (⟨(rd_T106 x1_1 0).f0, (rd_T106 x1_1 0).f1, (rd_T106 x1_1 0).f2, (rd_T106 x1_1 0).f3, (rd_T106 x1_1 0).f4, (rd_T106 x1_1 0).f5⟩ : S106)); (case aB => exact (by repeat (first | (with_reducible first | exact HB.out | apply below_alloc | apply pw_below_drewN | apply below_drew1) | exact HB.out))); (case aF => exact (fun k_ hk => (Nat.le_trans (below_size (by repeat (first | (with_reducible first | exact HB.out | apply below_alloc | apply pw_below_drewN | apply below_drew1) | exact HB.out))) hk))); (case aO => exact (by (with_reducible repeat (first | apply Kd.R_alloc | apply Kd.R_drewN | apply Kd.R_drew)); exact HO_5.out)); (case aS => exact (below_size (by repeat (first | (with_reducible first | exact HB.out | apply below_alloc | apply pw_below_drewN | apply below_drew1) | exact HB.out)))); (case aL => have := LMc18.out; omega); intro v158 w22 ho hb hg hat; rw [← Ny157.out] at ho; have n0_ := Aside0.mk (Kd.V_afterv (ok := (fun k_ => ((P0_ k_ ∨ P1_ k_) ∨ w.heap.size ≤ k_))) (by (with_reducible repeat (first | apply Kd.V_alloc | apply Kd.V_drewN | apply Kd.V_drew)); exact HO_0.out) hg hat); have n1_ := Aside0.mk (Kd.V_afterv (ok := (fun k_ => ((P0_ k_ ∨ P1_ k_) ∨ w.heap.size ≤ k_))) (by (with_reducible repeat (first | apply Kd.V_alloc | apply Kd.V_drewN | apply Kd.V_drew)); exact HO_1.out) hg hat); have n2_ := Aside0.mk (hb); have n3_ := Aside0.mk (ho); clear HO_0; clear HO_1; clear HB; clear HO_5; have HO_0 := n0_; have HO_1 := n1_; have HB := n2_; have HO159 := n3_; clear n0_ n1_ n2_ n3_; clear ho hb hg hat; have q23 : (1 : Int) ≤ ((x1_1.length : Int) : Int) := of_decide_eq_true (by first | (with_reducible assumption) | assumption); obtain ⟨i023, hi023, _, hsz23, _⟩ := info_parts info106; have hroom23 : x1_1.length ≤ co21 := (Kd.V_reads' HO_1.out).2.1; have hC23 : Kd.F k106 _ _ (some ad146) x1_1.length x1_1 := (Kd.V_at (base := w.heap.size) HO_1.out).2.2; have hcut23 := cut_from (P := Try.prog) 88 106 .i64 Try.underlying88 hi023 6 hsz23 (some ad146) x1_1.length co21 1 (by omega) q23; have hr23 := Kd.F_cut (m := (1 : Int).toNat) (c := co21) hC23 (by omega) hroom23; obtain ⟨A23, hA23⟩ : ∃ A1, A1 = (if co21 = (1 : Int).toNat then (some ad146) else ((some ad146) : Option Addr).map (·.add ((1 : Int).toNat * 6))) := ⟨_, rfl⟩; obtain ⟨c23, hc23⟩ : ∃ c1, c1 = co21 - (1 : Int).toNat := ⟨_, rfl⟩; have hy23 : y160.length = x1_1.length - (1 : Int).toNat := (by rw [Ny160.out, List.length_drop] <;> omega); rw [show (x1_1).drop (1 : Int).toNat = y160 from Ny160.out.symm] at hr23; replace hr23 : Kd.F k106 _ _ A23 y160.length y160 := (by rw [hA23]; exact hr23); rw [← hy23, ← hA23, ← hc23] at hcut23; have HO164 := Aside0.mk (show Kd.V k106 106 _ w.heap.size _ (.slice A23 y160.length c23) y160 from Kd.V_mk (by rw [hy23, hc23]; exact Nat.sub_le_sub_right hroom23 _) hr23); have HC164 := Aside0.mk (show y160.length ≤ c23 from by rw [hy23, hc23]; exact Nat.sub_le_sub_right hroom23 _); clear hr23 hC23 hroom23 hi023 hsz23 hc23; have KY23 := Aside0.mk hy23; have KA23 := Aside0.mk hA23; clear hy23 hA23; replace q23 := eq_true q23)); try go_wp2_with (first | ((with_reducible refine gate_builtin (b := .append) (xs := #[.tmp 31, .tmp 35]) rfl ?_); (try (refine gate_guard (by rfl) ?_; dsimp only)); at_builtin; refine Kd.R_append k106 (w0 := w) w.heap.size rfl (.tmp 31) (.tmp 35) 88 106 (.agg #[(.int .i64 0), (.int .i64 0), (.int .u8 0), (.bool false), (.int .i64 0), (.int .i64 0)]) 40 rfl Try.underlying88 info106 rfl (by decide) (by omega) u5 x5_1 (⟨(rd_T106 x1_1 0).f0, (rd_T106 x1_1 0).f1, (rd_T106 x1_1 0).f2, (rd_T106 x1_1 0).f3, (rd_T106 x1_1 0).f4, (rd_T106 x1_1 0).f5⟩ : S106) [.int .i64 ((rd_T106 x1_1 0).f0), .int .i64 ((rd_T106 x1_1 0).f1), .int .u8 ((rd_T106 x1_1 0).f2), .bool ((rd_T106 x1_1 0).f3), .int .i64 ((rd_T106 x1_1 0).f4), .int .i64 ((rd_T106 x1_1 0).f5)] (fun k_ => (w.heap.size ≤ k_)) (fun _ => False) rfl rfl ?aP (fun _ hk => hk.elim) ?aF ?aO ?aB ?aS ?aL ?_; (case aP => exact k106_mkM _ _ _ (⟨(rd_T106 x1_1 0).f0, (rd_T106 x1_1 0).f1, (rd_T106 x1_1 0).f2, (rd_T106 x1_1 0).f3, (rd_T106 x1_1 0).f4, (rd_T106 x1_1 0).f5⟩ : S106)); (case aB => exact (by repeat (first | (with_reducible first | exact HB.out | apply below_alloc | apply pw_below_drewN | apply below_drew1) | exact HB.out))); (case aF => exact (fun k_ hk => (Nat.le_trans (below_size (by repeat (first | (with_reducible first | exact HB.out | apply below_alloc | apply pw_below_drewN | apply below_drew1) | exact HB.out))) hk))); (case aO => exact (by (with_reducible repeat (first | apply Kd.R_alloc | apply Kd.R_drewN | apply Kd.R_drew)); exact HO_5.out)); (case aS => exact (below_size (by repeat (first | (with_reducible first | exact HB.out | apply below_alloc | apply pw_below_drewN | apply below_drew1) | exact HB.out)))); (case aL => have := LMc18.out; omega); intro v158 w22 ho hb hg hat; rw [← Ny157.out] at ho; have n0_ := Aside0.mk (Kd.V_afterv (ok := (fun k_ => ((P0_ k_ ∨ P1_ k_) ∨ w.heap.size ≤ k_))) (by (with_reducible repeat (first | apply Kd.V_alloc | apply Kd.V_drewN | apply Kd.V_drew)); exact HO_0.out) hg hat); have n1_ := Aside0.mk (Kd.V_afterv (ok := (fun k_ => ((P0_ k_ ∨ P1_ k_) ∨ w.heap.size ≤ k_))) (by (with_reducible repeat (first | apply Kd.V_alloc | apply Kd.V_drewN | apply Kd.V_drew)); exact HO_1.out) hg hat); have n2_ := Aside0.mk (hb); have n3_ := Aside0.mk (ho); clear HO_0; clear HO_1; clear HB; clear HO_5; have HO_0 := n0_; have HO_1 := n1_; have HB := n2_; have HO159 := n3_; clear n0_ n1_ n2_ n3_; clear ho hb hg hat; have q23 : (1 : Int) ≤ ((x1_1.length : Int) : Int) := of_decide_eq_true (by first | (with_reducible assumption) | assumption); obtain ⟨i023, hi023, _, hsz23, _⟩ := info_parts info106; have hroom23 : x1_1.length ≤ co21 := (Kd.V_reads' HO_1.out).2.1; have hC23 : Kd.F k106 _ _ (some ad146) x1_1.length x1_1 := (Kd.V_at (base := w.heap.size) HO_1.out).2.2; have hcut23 := cut_from (P := Try.prog) 88 106 .i64 Try.underlying88 hi023 6 hsz23 (some ad146) x1_1.length co21 1 (by omega) q23; have hr23 := Kd.F_cut (m := (1 : Int).toNat) (c := co21) hC23 (by omega) hroom23; obtain ⟨A23, hA23⟩ : ∃ A1, A1 = (if co21 = (1 : Int).toNat then (some ad146) else ((some ad146) : Option Addr).map (·.add ((1 : Int).toNat * 6))) := ⟨_, rfl⟩; obtain ⟨c23, hc23⟩ : ∃ c1, c1 = co21 - (1 : Int).toNat := ⟨_, rfl⟩; have hy23 : y160.length = x1_1.length - (1 : Int).toNat := (by rw [Ny160.out, List.length_drop] <;> omega); rw [show (x1_1).drop (1 : Int).toNat = y160 from Ny160.out.symm] at hr23; replace hr23 : Kd.F k106 _ _ A23 y160.length y160 := (by rw [hA23]; exact hr23); rw [← hy23, ← hA23, ← hc23] at hcut23; have HO164 := Aside0.mk (show Kd.V k106 106 _ w.heap.size _ (.slice A23 y160.length c23) y160 from Kd.V_mk (by rw [hy23, hc23]; exact Nat.sub_le_sub_right hroom23 _) hr23); have HC164 := Aside0.mk (show y160.length ≤ c23 from by rw [hy23, hc23]; exact Nat.sub_le_sub_right hroom23 _); clear hr23 hC23 hroom23 hi023 hsz23 hc23; have KY23 := Aside0.mk hy23; have KA23 := Aside0.mk hA23; clear hy23 hA23; replace q23 := eq_true q23)))
                      go_roundg kj2
                      case measure => have := HK1.out; have := HJ2.out; omega
                      case rel => exact ⟨(x0_1), (y160), (y157), H', ⟨by have := HK1.out; have := HJ2.out; omega⟩, ⟨by (with_reducible repeat (first | apply Kd.V_alloc | apply Kd.V_drewN | apply Kd.V_drew)); exact HO_0.out⟩, ⟨by (with_reducible repeat (first | apply Kd.V_alloc | apply Kd.V_drewN | apply Kd.V_drew)); exact HO164.out⟩, ⟨by (with_reducible repeat (first | apply Kd.R_alloc | apply Kd.R_drewN | apply Kd.R_drew)); exact HO159.out⟩, ⟨by repeat (first | (with_reducible first | exact HB.out | apply below_alloc | apply pw_below_drewN | apply below_drew1) | exact HB.out)⟩⟩
                    · rw [if_neg c19] at H
                      exact absurd H (by simp)
                  · rw [if_neg c18] at H
                    exact absurd H (by simp)
              · rw [if_neg c10] at H
                exact absurd H (by simp)
            · rw [if_neg c9] at H
              exact absurd H (by simp)
          · replace c8 := Bool.eq_false_iff.mpr c8
            subst c8
            have H1 : (if x5_1.length + x0_1.length < 3518437208883 then ((some (x5_1 ++ x0_1 : List (S106))).bind fun y165 => (if y165.length + x1_1.length < 3518437208883 then (some (y165 ++ x1_1)) else (none))) else (none)) = some r := by rw [if_neg (show ¬ (false = true) by decide)] at H; exact H
            clear H
            have H := H1
            clear H1
            by_cases c24 : x5_1.length + x0_1.length < 3518437208883
            · rw [if_pos c24] at H
              have LMc24 := Aside0.mk c24
              clear c24
              obtain ⟨y165, hy165⟩ : ∃ y_ : List (S106), y_ = (x5_1 ++ x0_1) := ⟨_, rfl⟩
              replace H : (if y165.length + x1_1.length < 3518437208883 then (some (y165 ++ x1_1)) else (none)) = some r := by first | (rw [hy165]; with_reducible exact H) | (have H2_ := (Option.bind_some _ _).symm.trans H; rw [hy165]; with_reducible exact H2_) | (have H2_ := (Option.bind_some _ _).symm.trans H; with_reducible exact H2_) | with_reducible exact H | (rw [hy165]; exact H) | exact H
              have Ny165 := Aside0.mk hy165
              clear hy165
              by_cases c25 : y165.length + x1_1.length < 3518437208883
              · rw [if_pos c25] at H
                have LMc25 := Aside0.mk c25
                clear c25
                obtain ⟨y168, hy168⟩ : ∃ y_ : List (S106), y_ = (y165 ++ x1_1) := ⟨_, rfl⟩
                replace H : (some y168) = some r := by first | (rw [hy168]; with_reducible exact H) | (have H2_ := (Option.bind_some _ _).symm.trans H; rw [hy168]; with_reducible exact H2_) | (have H2_ := (Option.bind_some _ _).symm.trans H; with_reducible exact H2_) | with_reducible exact H | (rw [hy168]; exact H) | exact H
                have Ny168 := Aside0.mk hy168
                clear hy168
                obtain rfl := Option.some.inj H
                obtain ⟨Ao27, co27, eo27⟩ := Kd.V_slice HO_0.out
                subst eo27
                go_wp2_with (first | ((with_reducible refine gate_builtin (b := .append) (xs := #[.tmp 39, .tmp 40]) rfl ?_); (try (refine gate_guard (by rfl) ?_; dsimp only)); at_builtin; refine Kd.R_append_rows k106 (w0 := w) w.heap.size rfl (.tmp 39) (.tmp 40) 88 106 (.agg #[(.int .i64 0), (.int .i64 0), (.int .u8 0), (.bool false), (.int .i64 0), (.int .i64 0)]) 40 rfl Try.underlying88 info106 rfl (by decide) (by omega) u5 x5_1 x0_1 _ _ _ (fun k_ => (w.heap.size ≤ k_)) (fun _ => False) rfl rfl ?aO ?aR (fun _ _ h => h) (fun _ h => h.elim) ?aF ?aB ?aS ?aL ?_; (case aR => repeat (first | exact (Kd.V_reads' HO_0.out).2.2 | (with_reducible refine Kd.C_alloc ?_ _) | (with_reducible refine Kd.C_drewN ?_ _) | (with_reducible refine Kd.C_drew ?_))); (case aB => exact (by repeat (first | (with_reducible first | exact HB.out | apply below_alloc | apply pw_below_drewN | apply below_drew1) | exact HB.out))); (case aF => exact (fun k_ hk => (Nat.le_trans (below_size (by repeat (first | (with_reducible first | exact HB.out | apply below_alloc | apply pw_below_drewN | apply below_drew1) | exact HB.out))) hk))); (case aO => exact (by (with_reducible repeat (first | apply Kd.R_alloc | apply Kd.R_drewN | apply Kd.R_drew)); exact HO_5.out)); (case aS => exact (below_size (by repeat (first | (with_reducible first | exact HB.out | apply below_alloc | apply pw_below_drewN | apply below_drew1) | exact HB.out)))); (case aL => have := LMc24.out; omega); intro v166 w26 ho hb hg hat; rw [← Ny165.out] at ho; have n0_ := Aside0.mk (Kd.V_afterv (ok := (fun k_ => ((P0_ k_ ∨ P1_ k_) ∨ w.heap.size ≤ k_))) (by (with_reducible repeat (first | apply Kd.V_alloc | apply Kd.V_drewN | apply Kd.V_drew)); exact HO_0.out) hg hat); have n1_ := Aside0.mk (Kd.V_afterv (ok := (fun k_ => ((P0_ k_ ∨ P1_ k_) ∨ w.heap.size ≤ k_))) (by (with_reducible repeat (first | apply Kd.V_alloc | apply Kd.V_drewN | apply Kd.V_drew)); exact HO_1.out) hg hat); have n2_ := Aside0.mk (hb); have n3_ := Aside0.mk (ho); clear HO_0; clear HO_1; clear HB; clear HO_5; have HO_0 := n0_; have HO_1 := n1_; have HB := n2_; have HO167 := n3_; clear n0_ n1_ n2_ n3_; clear ho hb hg hat; obtain ⟨Ao29, co29, eo29⟩ := Kd.V_slice HO_1.out; subst eo29) | ((with_reducible refine gate_builtin (b := .append) (xs := #[.tmp 41, .tmp 42]) rfl ?_); (try (refine gate_guard (by rfl) ?_; dsimp only)); at_builtin; refine Kd.R_append_rows k106 (w0 := w) w.heap.size rfl (.tmp 41) (.tmp 42) 88 106 (.agg #[(.int .i64 0), (.int .i64 0), (.int .u8 0), (.bool false), (.int .i64 0), (.int .i64 0)]) 40 rfl Try.underlying88 info106 rfl (by decide) (by omega) v166 y165 x1_1 _ _ _ (fun k_ => (w.heap.size ≤ k_)) (fun _ => False) rfl rfl ?aO ?aR (fun _ _ h => h) (fun _ h => h.elim) ?aF ?aB ?aS ?aL ?_; (case aR => repeat (first | exact (Kd.V_reads' HO_1.out).2.2 | (with_reducible refine Kd.C_alloc ?_ _) | (with_reducible refine Kd.C_drewN ?_ _) | (with_reducible refine Kd.C_drew ?_))); (case aB => exact (by repeat (first | (with_reducible first | exact HB.out | apply below_alloc | apply pw_below_drewN | apply below_drew1) | exact HB.out))); (case aF => exact (fun k_ hk => (Nat.le_trans (below_size (by repeat (first | (with_reducible first | exact HB.out | apply below_alloc | apply pw_below_drewN | apply below_drew1) | exact HB.out))) hk))); (case aO => exact (by (with_reducible repeat (first | apply Kd.R_alloc | apply Kd.R_drewN | apply Kd.R_drew)); exact HO167.out)); (case aS => exact (below_size (by repeat (first | (with_reducible first | exact HB.out | apply below_alloc | apply pw_below_drewN | apply below_drew1) | exact HB.out)))); (case aL => have := LMc25.out; omega); intro v169 w28 ho hb hg hat; rw [← Ny168.out] at ho; have n0_ := Aside0.mk (Kd.V_afterv (ok := (fun k_ => ((P0_ k_ ∨ P1_ k_) ∨ w.heap.size ≤ k_))) (by (with_reducible repeat (first | apply Kd.V_alloc | apply Kd.V_drewN | apply Kd.V_drew)); exact HO_0.out) hg hat); have n1_ := Aside0.mk (Kd.V_afterv (ok := (fun k_ => ((P0_ k_ ∨ P1_ k_) ∨ w.heap.size ≤ k_))) (by (with_reducible repeat (first | apply Kd.V_alloc | apply Kd.V_drewN | apply Kd.V_drew)); exact HO_1.out) hg hat); have n2_ := Aside0.mk (hb); have n3_ := Aside0.mk (ho); clear HO_0; clear HO_1; clear HB; clear HO167; have HO_0 := n0_; have HO_1 := n1_; have HB := n2_; have HO170 := n3_; clear n0_ n1_ n2_ n3_; clear ho hb hg hat))
                repeat (go_quiet (first | ((with_reducible refine gate_builtin (b := .append) (xs := #[.tmp 39, .tmp 40]) rfl ?_); (try (refine gate_guard (by rfl) ?_; dsimp only)); at_builtin; refine Kd.R_append_rows k106 (w0 := w) w.heap.size rfl (.tmp 39) (.tmp 40) 88 106 (.agg #[(.int .i64 0), (.int .i64 0), (.int .u8 0), (.bool false), (.int .i64 0), (.int .i64 0)]) 40 rfl Try.underlying88 info106 rfl (by decide) (by omega) u5 x5_1 x0_1 _ _ _ (fun k_ => (w.heap.size ≤ k_)) (fun _ => False) rfl rfl ?aO ?aR (fun _ _ h => h) (fun _ h => h.elim) ?aF ?aB ?aS ?aL ?_; (case aR => repeat (first | exact (Kd.V_reads' HO_0.out).2.2 | (with_reducible refine Kd.C_alloc ?_ _) | (with_reducible refine Kd.C_drewN ?_ _) | (with_reducible refine Kd.C_drew ?_))); (case aB => exact (by repeat (first | (with_reducible first | exact HB.out | apply below_alloc | apply pw_below_drewN | apply below_drew1) | exact HB.out))); (case aF => exact (fun k_ hk => (Nat.le_trans (below_size (by repeat (first | (with_reducible first | exact HB.out | apply below_alloc | apply pw_below_drewN | apply below_drew1) | exact HB.out))) hk))); (case aO => exact (by (with_reducible repeat (first | apply Kd.R_alloc | apply Kd.R_drewN | apply Kd.R_drew)); exact HO_5.out)); (case aS => exact (below_size (by repeat (first | (with_reducible first | exact HB.out | apply below_alloc | apply pw_below_drewN | apply below_drew1) | exact HB.out)))); (case aL => have := LMc24.out; omega); intro v166 w26 ho hb hg hat; rw [← Ny165.out] at ho; have n0_ := Aside0.mk (Kd.V_afterv (ok := (fun k_ => ((P0_ k_ ∨ P1_ k_) ∨ w.heap.size ≤ k_))) (by (with_reducible repeat (first | apply Kd.V_alloc | apply Kd.V_drewN | apply Kd.V_drew)); exact HO_0.out) hg hat); have n1_ := Aside0.mk (Kd.V_afterv (ok := (fun k_ => ((P0_ k_ ∨ P1_ k_) ∨ w.heap.size ≤ k_))) (by (with_reducible repeat (first | apply Kd.V_alloc | apply Kd.V_drewN | apply Kd.V_drew)); exact HO_1.out) hg hat); have n2_ := Aside0.mk (hb); have n3_ := Aside0.mk (ho); clear HO_0; clear HO_1; clear HB; clear HO_5; have HO_0 := n0_; have HO_1 := n1_; have HB := n2_; have HO167 := n3_; clear n0_ n1_ n2_ n3_; clear ho hb hg hat; obtain ⟨Ao29, co29, eo29⟩ := Kd.V_slice HO_1.out; subst eo29) | ((with_reducible refine gate_builtin (b := .append) (xs := #[.tmp 41, .tmp 42]) rfl ?_); (try (refine gate_guard (by rfl) ?_; dsimp only)); at_builtin; refine Kd.R_append_rows k106 (w0 := w) w.heap.size rfl (.tmp 41) (.tmp 42) 88 106 (.agg #[(.int .i64 0), (.int .i64 0), (.int .u8 0), (.bool false), (.int .i64 0), (.int .i64 0)]) 40 rfl Try.underlying88 info106 rfl (by decide) (by omega) v166 y165 x1_1 _ _ _ (fun k_ => (w.heap.size ≤ k_)) (fun _ => False) rfl rfl ?aO ?aR (fun _ _ h => h) (fun _ h => h.elim) ?aF ?aB ?aS ?aL ?_; (case aR => repeat (first | exact (Kd.V_reads' HO_1.out).2.2 | (with_reducible refine Kd.C_alloc ?_ _) | (with_reducible refine Kd.C_drewN ?_ _) | (with_reducible refine Kd.C_drew ?_))); (case aB => exact (by repeat (first | (with_reducible first | exact HB.out | apply below_alloc | apply pw_below_drewN | apply below_drew1) | exact HB.out))); (case aF => exact (fun k_ hk => (Nat.le_trans (below_size (by repeat (first | (with_reducible first | exact HB.out | apply below_alloc | apply pw_below_drewN | apply below_drew1) | exact HB.out))) hk))); (case aO => exact (by (with_reducible repeat (first | apply Kd.R_alloc | apply Kd.R_drewN | apply Kd.R_drew)); exact HO167.out)); (case aS => exact (below_size (by repeat (first | (with_reducible first | exact HB.out | apply below_alloc | apply pw_below_drewN | apply below_drew1) | exact HB.out)))); (case aL => have := LMc25.out; omega); intro v169 w28 ho hb hg hat; rw [← Ny168.out] at ho; have n0_ := Aside0.mk (Kd.V_afterv (ok := (fun k_ => ((P0_ k_ ∨ P1_ k_) ∨ w.heap.size ≤ k_))) (by (with_reducible repeat (first | apply Kd.V_alloc | apply Kd.V_drewN | apply Kd.V_drew)); exact HO_0.out) hg hat); have n1_ := Aside0.mk (Kd.V_afterv (ok := (fun k_ => ((P0_ k_ ∨ P1_ k_) ∨ w.heap.size ≤ k_))) (by (with_reducible repeat (first | apply Kd.V_alloc | apply Kd.V_drewN | apply Kd.V_drew)); exact HO_1.out) hg hat); have n2_ := Aside0.mk (hb); have n3_ := Aside0.mk (ho); clear HO_0; clear HO_1; clear HB; clear HO167; have HO_0 := n0_; have HO_1 := n1_; have HB := n2_; have HO170 := n3_; clear n0_ n1_ n2_ n3_; clear ho hb hg hat)); try go_wp2_with (first | ((with_reducible refine gate_builtin (b := .append) (xs := #[.tmp 39, .tmp 40]) rfl ?_); (try (refine gate_guard (by rfl) ?_; dsimp only)); at_builtin; refine Kd.R_append_rows k106 (w0 := w) w.heap.size rfl (.tmp 39) (.tmp 40) 88 106 (.agg #[(.int .i64 0), (.int .i64 0), (.int .u8 0), (.bool false), (.int .i64 0), (.int .i64 0)]) 40 rfl Try.underlying88 info106 rfl (by decide) (by omega) u5 x5_1 x0_1 _ _ _ (fun k_ => (w.heap.size ≤ k_)) (fun _ => False) rfl rfl ?aO ?aR (fun _ _ h => h) (fun _ h => h.elim) ?aF ?aB ?aS ?aL ?_; (case aR => repeat (first | exact (Kd.V_reads' HO_0.out).2.2 | (with_reducible refine Kd.C_alloc ?_ _) | (with_reducible refine Kd.C_drewN ?_ _) | (with_reducible refine Kd.C_drew ?_))); (case aB => exact (by repeat (first | (with_reducible first | exact HB.out | apply below_alloc | apply pw_below_drewN | apply below_drew1) | exact HB.out))); (case aF => exact (fun k_ hk => (Nat.le_trans (below_size (by repeat (first | (with_reducible first | exact HB.out | apply below_alloc | apply pw_below_drewN | apply below_drew1) | exact HB.out))) hk))); (case aO => exact (by (with_reducible repeat (first | apply Kd.R_alloc | apply Kd.R_drewN | apply Kd.R_drew)); exact HO_5.out)); (case aS => exact (below_size (by repeat (first | (with_reducible first | exact HB.out | apply below_alloc | apply pw_below_drewN | apply below_drew1) | exact HB.out)))); (case aL => have := LMc24.out; omega); intro v166 w26 ho hb hg hat; rw [← Ny165.out] at ho; have n0_ := Aside0.mk (Kd.V_afterv (ok := (fun k_ => ((P0_ k_ ∨ P1_ k_) ∨ w.heap.size ≤ k_))) (by (with_reducible repeat (first | apply Kd.V_alloc | apply Kd.V_drewN | apply Kd.V_drew)); exact HO_0.out) hg hat); have n1_ := Aside0.mk (Kd.V_afterv (ok := (fun k_ => ((P0_ k_ ∨ P1_ k_) ∨ w.heap.size ≤ k_))) (by (with_reducible repeat (first | apply Kd.V_alloc | apply Kd.V_drewN | apply Kd.V_drew)); exact HO_1.out) hg hat); have n2_ := Aside0.mk (hb); have n3_ := Aside0.mk (ho); clear HO_0; clear HO_1; clear HB; clear HO_5; have HO_0 := n0_; have HO_1 := n1_; have HB := n2_; have HO167 := n3_; clear n0_ n1_ n2_ n3_; clear ho hb hg hat; obtain ⟨Ao29, co29, eo29⟩ := Kd.V_slice HO_1.out; subst eo29) | ((with_reducible refine gate_builtin (b := .append) (xs := #[.tmp 41, .tmp 42]) rfl ?_); (try (refine gate_guard (by rfl) ?_; dsimp only)); at_builtin; refine Kd.R_append_rows k106 (w0 := w) w.heap.size rfl (.tmp 41) (.tmp 42) 88 106 (.agg #[(.int .i64 0), (.int .i64 0), (.int .u8 0), (.bool false), (.int .i64 0), (.int .i64 0)]) 40 rfl Try.underlying88 info106 rfl (by decide) (by omega) v166 y165 x1_1 _ _ _ (fun k_ => (w.heap.size ≤ k_)) (fun _ => False) rfl rfl ?aO ?aR (fun _ _ h => h) (fun _ h => h.elim) ?aF ?aB ?aS ?aL ?_; (case aR => repeat (first | exact (Kd.V_reads' HO_1.out).2.2 | (with_reducible refine Kd.C_alloc ?_ _) | (with_reducible refine Kd.C_drewN ?_ _) | (with_reducible refine Kd.C_drew ?_))); (case aB => exact (by repeat (first | (with_reducible first | exact HB.out | apply below_alloc | apply pw_below_drewN | apply below_drew1) | exact HB.out))); (case aF => exact (fun k_ hk => (Nat.le_trans (below_size (by repeat (first | (with_reducible first | exact HB.out | apply below_alloc | apply pw_below_drewN | apply below_drew1) | exact HB.out))) hk))); (case aO => exact (by (with_reducible repeat (first | apply Kd.R_alloc | apply Kd.R_drewN | apply Kd.R_drew)); exact HO167.out)); (case aS => exact (below_size (by repeat (first | (with_reducible first | exact HB.out | apply below_alloc | apply pw_below_drewN | apply below_drew1) | exact HB.out)))); (case aL => have := LMc25.out; omega); intro v169 w28 ho hb hg hat; rw [← Ny168.out] at ho; have n0_ := Aside0.mk (Kd.V_afterv (ok := (fun k_ => ((P0_ k_ ∨ P1_ k_) ∨ w.heap.size ≤ k_))) (by (with_reducible repeat (first | apply Kd.V_alloc | apply Kd.V_drewN | apply Kd.V_drew)); exact HO_0.out) hg hat); have n1_ := Aside0.mk (Kd.V_afterv (ok := (fun k_ => ((P0_ k_ ∨ P1_ k_) ∨ w.heap.size ≤ k_))) (by (with_reducible repeat (first | apply Kd.V_alloc | apply Kd.V_drewN | apply Kd.V_drew)); exact HO_1.out) hg hat); have n2_ := Aside0.mk (hb); have n3_ := Aside0.mk (ho); clear HO_0; clear HO_1; clear HB; clear HO167; have HO_0 := n0_; have HO_1 := n1_; have HB := n2_; have HO170 := n3_; clear n0_ n1_ n2_ n3_; clear ho hb hg hat)))
                go_ret
                exact ⟨_, by first | rfl | (simp [errW_none, errW_some] <;> rfl) | (simp [*, errW_none, errW_some] <;> rfl), by (with_reducible repeat (first | apply Kd.R_alloc | apply Kd.R_drewN | apply Kd.R_drew)); exact HO170.out, by repeat (first | (with_reducible first | exact HB.out | apply below_alloc | apply pw_below_drewN | apply below_drew1) | exact HB.out)⟩
              · rw [if_neg c25] at H
                exact absurd H (by simp)
            · rw [if_neg c24] at H
              exact absurd H (by simp)

end Go.Proofs.Ytballgciakljnaa.PRampTells

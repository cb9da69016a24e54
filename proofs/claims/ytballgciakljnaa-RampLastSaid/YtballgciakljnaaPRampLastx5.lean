-- Written by a program of this session, in the form of the kit's print, some functions by hand (N.B. not a file of print.sh's).
import Derived.Test.YtballgciakljnaaPRampLastx0
namespace Go.Proofs.Ytballgciakljnaa.PRampLast
open Go.RowKit Go.Proofs.YtballgciakljnaaW.PrintWords Go.Proofs.YtballgciakljnaaW.PrintLast Go.Proofs.YtballgciakljnaaW.PrintMore Go.Proofs.YtballgciakljnaaM
attribute [local go_sem] max2_int min2_int max_two min_two max_three min_three max_four min_four   -- for this text's walks alone
set_option linter.unusedVariables false
set_option linter.unusedSimpArgs false

/-! ### ramp_Merge: function 50 -/
mutual
def ramp_Merge.l0 : Nat → List (S106) → List (S106) → List (S106) → Option ((List (S106)))
  | 0, _, _, _ => none
  | k + 1, x0, x1, x4 => if (x0.length : Int) > 0 then (ramp_Merge.j1 k x0 x1 x4 (decide ((x1.length : Int) > 0))) else (ramp_Merge.j1 k x0 x1 x4 false)
def ramp_Merge.j1 : Nat → List (S106) → List (S106) → List (S106) → Bool → Option ((List (S106)))
  | 0, _, _, _, _ => none
  | k + 1, x0, x1, x4, x12 => if x12 = true then (if 0 < (x0.length : Int) then (if 0 < (x1.length : Int) then (if ((rd_T106 x0 0).f1) ≤ ((rd_T106 x1 0).f1) then (if x4.length < 3518437208883 then (if 1 ≤ (x0.length : Int) then (ramp_Merge.l0 k (x0.drop 1) x1 (x4 ++ [(⟨(rd_T106 x0 0).f0, (rd_T106 x0 0).f1, (rd_T106 x0 0).f2, (rd_T106 x0 0).f3, (rd_T106 x0 0).f4, (rd_T106 x0 0).f5⟩ : S106)])) else (none)) else (none)) else (if x4.length < 3518437208883 then (if 1 ≤ (x1.length : Int) then (ramp_Merge.l0 k x0 (x1.drop 1) (x4 ++ [(⟨(rd_T106 x1 0).f0, (rd_T106 x1 0).f1, (rd_T106 x1 0).f2, (rd_T106 x1 0).f3, (rd_T106 x1 0).f4, (rd_T106 x1 0).f5⟩ : S106)])) else (none)) else (none))) else (none)) else (none)) else (if x4.length + x0.length < 3518437208883 then ((some (x4 ++ x0 : List (S106))).bind fun y130 => (if y130.length + x1.length < 3518437208883 then (some (y130 ++ x1)) else (none))) else (none))
end
def ramp_Merge.f (k : Nat) (l0 : List (S106)) (l1 : List (S106)) : Option ((List (S106))) := ramp_Merge.l0 k l0 l1 ([] : List (S106))
theorem ramp_Merge.mono_l : ∀ k, (∀ y0 y1 y2, LeO (ramp_Merge.l0 k y0 y1 y2) (ramp_Merge.l0 (k + 1) y0 y1 y2)) ∧ (∀ y0 y1 y2 y3, LeO (ramp_Merge.j1 k y0 y1 y2 y3) (ramp_Merge.j1 (k + 1) y0 y1 y2 y3))
  | 0 => ⟨fun _ _ _ r h => by simp [ramp_Merge.l0] at h, fun _ _ _ _ r h => by simp [ramp_Merge.j1] at h⟩
  | k + 1 => by
    obtain ⟨ih0, ih1⟩ := ramp_Merge.mono_l k
    refine ⟨?_, ?_⟩
    · intro y0 y1 y2
      unfold ramp_Merge.l0
      repeat' first
      | (with_reducible exact ih0 _ _ _)
      | (with_reducible exact ih1 _ _ _ _)
      | (with_reducible exact LeO.refl _)
      | (with_reducible exact LeO.none _)
      | (with_reducible refine LeO.ite ?_ ?_)
      | (with_reducible refine LeO.bind ?_ (fun _ => ?_))
      | exact ih0 _ _ _
      | exact ih1 _ _ _ _
      | exact LeO.none _
      | refine LeO.ite ?_ ?_
      | refine LeO.bind ?_ (fun _ => ?_)
    · intro y0 y1 y2 y3
      unfold ramp_Merge.j1
      repeat' first
      | (with_reducible exact ih0 _ _ _)
      | (with_reducible exact ih1 _ _ _ _)
      | (with_reducible exact LeO.refl _)
      | (with_reducible exact LeO.none _)
      | (with_reducible refine LeO.ite ?_ ?_)
      | (with_reducible refine LeO.bind ?_ (fun _ => ?_))
      | exact ih0 _ _ _
      | exact ih1 _ _ _ _
      | exact LeO.none _
      | refine LeO.ite ?_ ?_
      | refine LeO.bind ?_ (fun _ => ?_)
theorem ramp_Merge.mono : ∀ a0 a1 k, LeO (ramp_Merge.f k a0 a1) (ramp_Merge.f (k + 1) a0 a1) := by
  intro a0 a1 k
  obtain ⟨ih0, ih1⟩ := ramp_Merge.mono_l k
  unfold ramp_Merge.f
  repeat' first
      | (with_reducible exact ih0 _ _ _)
      | (with_reducible exact ih1 _ _ _ _)
      | (with_reducible exact LeO.refl _)
      | (with_reducible exact LeO.none _)
      | (with_reducible refine LeO.ite ?_ ?_)
      | (with_reducible refine LeO.bind ?_ (fun _ => ?_))
      | exact ih0 _ _ _
      | exact ih1 _ _ _ _
      | exact LeO.none _
      | refine LeO.ite ?_ ?_
      | refine LeO.bind ?_ (fun _ => ?_)
def ramp_Merge.T2 : Bool × List (List Nat × List Nat) := (true, [([], []), ([0], [0]), ([1], [1]), ([2], [2]), ([], []), ([4], [4]), ([5], [5]), ([6], [6]), ([3, 7], [3, 7])])
def ramp_Merge.B2 : List Nat := [0, 1, 3, 7, 0, 16, 48, 112, 255]
theorem ramp_Merge.tab2 : rtab .any (opsOf Try.f50 2) = ramp_Merge.T2 := by kernel_rfl
theorem ramp_Merge.bits2 : waitsOk ramp_Merge.T2.2 ramp_Merge.B2 = true := by kernel_rfl
def ramp_Merge.T3 : Bool × List (List Nat × List Nat) := (true, [([], []), ([], []), ([1], [1]), ([2], [2]), ([3], [3]), ([0, 4], [0, 4]), ([], []), ([6], [6]), ([5, 5, 0, 1, 2, 3, 4, 5], [0, 5]), ([7, 8, 0, 1, 2, 3, 4, 5, 6, 7, 8], [1, 6, 7])])
def ramp_Merge.B3 : List Nat := [0, 0, 2, 6, 14, 31, 0, 64, 63, 511]
theorem ramp_Merge.tab3 : rtab .any (opsOf Try.f50 3) = ramp_Merge.T3 := by kernel_rfl
theorem ramp_Merge.bits3 : waitsOk ramp_Merge.T3.2 ramp_Merge.B3 = true := by kernel_rfl
def ramp_Merge.T4 : Bool × List (List Nat × List Nat) := (true, [([], []), ([], []), ([1], [1]), ([2], [2]), ([3], [3]), ([0, 4], [0, 4]), ([], []), ([6], [6]), ([5, 5, 0, 1, 2, 3, 4, 5], [0, 5]), ([7, 8, 0, 1, 2, 3, 4, 5, 6, 7, 8], [1, 6, 7])])
def ramp_Merge.B4 : List Nat := [0, 0, 2, 6, 14, 31, 0, 64, 63, 511]
theorem ramp_Merge.tab4 : rtab .any (opsOf Try.f50 4) = ramp_Merge.T4 := by kernel_rfl
theorem ramp_Merge.bits4 : waitsOk ramp_Merge.T4.2 ramp_Merge.B4 = true := by kernel_rfl
set_option maxHeartbeats 8000000 in
set_option maxRecDepth 100000 in
theorem ramp_Merge.calls (k : Nat) (P0_ : Nat → Prop) (A0 : Option Addr) (c0 : Nat) (l0 : List (S106)) (P1_ : Nat → Prop) (A1 : Option Addr) (c1 : Nat) (l1 : List (S106)) (r : List (S106)) (w : World) (hs0 : Kd.V k106 106 w w.heap.size (fun k_ => P0_ k_) (.slice A0 l0.length c0) l0) (hs1 : Kd.V k106 106 w w.heap.size (fun k_ => P1_ k_) (.slice A1 l1.length c1) l1) (h : ramp_Merge.f k l0 l1 = some r) :
    Calls Try.prog 50 #[.slice A0 l0.length c0, .slice A1 l1.length c1] w fun e w' => ∃ v0_ : Value, e = .returned (v0_) ∧ Kd.R k106 106 w' w.heap.size (fun k_ => (w.heap.size ≤ k_)) v0_ r ∧ Below w.heap.size w w' := by
  have hu106 := Try.underlying106
  have HO0 := Aside0.mk (show Kd.V k106 106 w w.heap.size (fun k_ => ((P0_ k_ ∨ P1_ k_) ∨ w.heap.size ≤ k_)) (.slice A0 l0.length c0) l0 from Kd.V_mono hs0 (fun k_ hk => .inl (.inl hk)))
  have HO1 := Aside0.mk (show Kd.V k106 106 w w.heap.size (fun k_ => ((P0_ k_ ∨ P1_ k_) ∨ w.heap.size ≤ k_)) (.slice A1 l1.length c1) l1 from Kd.V_mono hs1 (fun k_ hk => .inl (.inr hk)))
  have HB := Aside0.mk (Below.refl w.heap.size w)
  have H : (ramp_Merge.l0 k l0 l1 ([] : List (S106))) = some r := h
  clear h
  have H' := Aside0.mk H
  clear H
  go_enter Try.func50, Try.ntmps50
  go_wp2
  go_loopg [0, 1, 4] k (fun kq v0 v1 v4 w' => ∃ (x0_1 : List (S106)) (x1_1 : List (S106)) (x4_1 : List (S106)), Aside0 (ramp_Merge.l0 kq x0_1 x1_1 x4_1 = some r) ∧ Aside0 (kq ≤ k) ∧ Aside0 (Kd.V k106 106 w' w.heap.size (fun k_ => ((P0_ k_ ∨ P1_ k_) ∨ w.heap.size ≤ k_) ∧ some k_ ≠ (v4 : Value).ownBlock) v0 x0_1) ∧ Aside0 (Kd.V k106 106 w' w.heap.size (fun k_ => ((P0_ k_ ∨ P1_ k_) ∨ w.heap.size ≤ k_) ∧ some k_ ≠ (v4 : Value).ownBlock) v1 x1_1) ∧ Aside0 (Kd.R k106 106 w' w.heap.size (fun k_ => (w.heap.size ≤ k_)) v4 x4_1) ∧ Aside0 (Below w.heap.size w w'))
  case atStart => exact ⟨(l0), (l1), (([] : List (S106))), H', ⟨Nat.le_refl _⟩, ⟨by (with_reducible repeat (first | apply Kd.V_alloc | apply Kd.V_drewN | apply Kd.V_drew)); exact Kd.V_mono HO0.out (fun _ hk => ⟨hk, (by simp [Value.ownBlock])⟩)⟩, ⟨by (with_reducible repeat (first | apply Kd.V_alloc | apply Kd.V_drewN | apply Kd.V_drew)); exact Kd.V_mono HO1.out (fun _ hk => ⟨hk, (by simp [Value.ownBlock])⟩)⟩, ⟨by first | exact Kd.R_nil _ _ _ _ _ | exact Kd.N_nil _ _ _ _ _ | exact Kd.V_nil _ _ _ _ _ | exact Kd.Q_nil _ _ _ _ _ | exact Kd.S_nil _ _ _ _ _⟩, ⟨by repeat (first | (with_reducible first | exact HB.out | apply below_alloc | apply pw_below_drewN | apply below_drew1) | exact HB.out)⟩⟩
  case round =>
    clear H'
    try clear c1
    try clear p2
    obtain ⟨x0_1, x1_1, x4_1, HA, HK1, HO_0, HO_1, HO_4, HB⟩ := hrel
    cases gk with
    | zero => exact absurd HA.out (by simp [ramp_Merge.l0])
    | succ k1 =>
      have H := HA.out
      clear HA
      simp only [ramp_Merge.l0] at H
      have HC3 := Aside0.mk H
      clear H
      go_upto_region 1 with (fail)
      go_cut [12] (fun v12 wc => ∃ (kq : Nat) (x12_2 : Bool), v12 = .bool x12_2 ∧ Aside0 (ramp_Merge.j1 kq x0_1 x1_1 x4_1 x12_2 = some r) ∧ Aside0 (kq ≤ k1) ∧ Aside0 (Kd.V k106 106 wc w.heap.size (fun k_ => ((P0_ k_ ∨ P1_ k_) ∨ w.heap.size ≤ k_) ∧ some k_ ≠ (u4 : Value).ownBlock) u0 x0_1) ∧ Aside0 (Kd.V k106 106 wc w.heap.size (fun k_ => ((P0_ k_ ∨ P1_ k_) ∨ w.heap.size ≤ k_) ∧ some k_ ≠ (u4 : Value).ownBlock) u1 x1_1) ∧ Aside0 (Kd.R k106 106 wc w.heap.size (fun k_ => (w.heap.size ≤ k_)) u4 x4_1) ∧ Aside0 (Below w.heap.size w wc))
      case first =>
        have H := HC3.out
        clear HC3
        by_cases c4 : (x0_1.length : Int) > 0
        · rw [if_pos c4] at H
          have c4b0 : decide (0 < (x0_1.length : Int)) = true := decide_eq_true c4
          have c4b1 : decide (0 < x0_1.length) = true := decide_eq_true (by omega)
          clear c4
          (first | rw [c4b0] | (simp only [i64_w, i32_w]; rw [c4b0]) | skip)
          have H' := Aside0.mk H
          clear H
          obtain ⟨Ao5, co5, eo5⟩ := Kd.V_slice HO_0.out
          subst eo5
          obtain ⟨Ao6, co6, eo6⟩ := Kd.V_slice HO_1.out
          subst eo6
          go_wp2
          go_meet
          case rel => exact ⟨_, (decide ((x1_1.length : Int) > 0)), (by first | rfl | (simp; done) | (simp [*]; done)), H', ⟨by have := HK1.out; first | omega | exact Nat.le_refl _⟩, ⟨by (with_reducible repeat (first | apply Kd.V_alloc | apply Kd.V_drewN | apply Kd.V_drew)); exact HO_0.out⟩, ⟨by (with_reducible repeat (first | apply Kd.V_alloc | apply Kd.V_drewN | apply Kd.V_drew)); exact HO_1.out⟩, ⟨by (with_reducible repeat (first | apply Kd.R_alloc | apply Kd.R_drewN | apply Kd.R_drew)); exact HO_4.out⟩, ⟨by repeat (first | (with_reducible first | exact HB.out | apply below_alloc | apply pw_below_drewN | apply below_drew1) | exact HB.out)⟩⟩
        · rw [if_neg c4] at H
          have c4b0 : decide (0 < (x0_1.length : Int)) = false := decide_eq_false c4
          have c4b1 : decide (0 < x0_1.length) = false := decide_eq_false (by omega)
          clear c4
          (first | rw [c4b0] | (simp only [i64_w, i32_w]; rw [c4b0]) | skip)
          have H' := Aside0.mk H
          clear H
          obtain ⟨Ao7, co7, eo7⟩ := Kd.V_slice HO_0.out
          subst eo7
          go_wp2
          go_meet
          case rel => exact ⟨_, (false), (by first | rfl | (simp; done) | (simp [*]; done)), H', ⟨by have := HK1.out; first | omega | exact Nat.le_refl _⟩, ⟨by (with_reducible repeat (first | apply Kd.V_alloc | apply Kd.V_drewN | apply Kd.V_drew)); exact HO_0.out⟩, ⟨by (with_reducible repeat (first | apply Kd.V_alloc | apply Kd.V_drewN | apply Kd.V_drew)); exact HO_1.out⟩, ⟨by (with_reducible repeat (first | apply Kd.R_alloc | apply Kd.R_drewN | apply Kd.R_drew)); exact HO_4.out⟩, ⟨by repeat (first | (with_reducible first | exact HB.out | apply below_alloc | apply pw_below_drewN | apply below_drew1) | exact HB.out)⟩⟩
      case rest =>
        clear HC3
        try clear c1
        try clear p2
        try clear c4
        try clear c4b0
        try clear c4b1
        try clear c5
        try clear p2
        obtain ⟨kq, x12_2, rfl, HA, HJ2, HO_0, HO_1, HO_4, HB⟩ := hcut
        cases kq with
        | zero => exact absurd HA.out (by simp [ramp_Merge.j1])
        | succ kj2 =>
          have H := HA.out
          clear HA
          simp only [ramp_Merge.j1] at H
          by_cases c8 : x12_2 = true
          · subst c8
            have H1 : (if 0 < (x0_1.length : Int) then (if 0 < (x1_1.length : Int) then (if ((rd_T106 x0_1 0).f1) ≤ ((rd_T106 x1_1 0).f1) then (if x4_1.length < 3518437208883 then (if 1 ≤ (x0_1.length : Int) then (ramp_Merge.l0 kj2 (x0_1.drop 1) x1_1 (x4_1 ++ [(⟨(rd_T106 x0_1 0).f0, (rd_T106 x0_1 0).f1, (rd_T106 x0_1 0).f2, (rd_T106 x0_1 0).f3, (rd_T106 x0_1 0).f4, (rd_T106 x0_1 0).f5⟩ : S106)])) else (none)) else (none)) else (if x4_1.length < 3518437208883 then (if 1 ≤ (x1_1.length : Int) then (ramp_Merge.l0 kj2 x0_1 (x1_1.drop 1) (x4_1 ++ [(⟨(rd_T106 x1_1 0).f0, (rd_T106 x1_1 0).f1, (rd_T106 x1_1 0).f2, (rd_T106 x1_1 0).f3, (rd_T106 x1_1 0).f4, (rd_T106 x1_1 0).f5⟩ : S106)])) else (none)) else (none))) else (none)) else (none)) = some r := by rw [if_pos rfl] at H; exact H
            clear H
            have H := H1
            clear H1
            by_cases c9 : 0 < (x0_1.length : Int)
            · rw [if_pos c9] at H
              have c9b0 : decide (0 < (x0_1.length : Int)) = true := decide_eq_true c9
              have c9b1 : decide (0 < x0_1.length) = true := decide_eq_true (by omega)
              clear c9
              by_cases c10 : 0 < (x1_1.length : Int)
              · rw [if_pos c10] at H
                have c10b0 : decide (0 < (x1_1.length : Int)) = true := decide_eq_true c10
                have c10b1 : decide (0 < x1_1.length) = true := decide_eq_true (by omega)
                clear c10
                by_cases c11 : ((rd_T106 x0_1 0).f1) ≤ ((rd_T106 x1_1 0).f1)
                · rw [if_pos c11] at H
                  have c11b0 : decide (((rd_T106 x0_1 0).f1) ≤ ((rd_T106 x1_1 0).f1)) = true := decide_eq_true c11
                  clear c11
                  by_cases c12 : x4_1.length < 3518437208883
                  · rw [if_pos c12] at H
                    have LMc12 := Aside0.mk c12
                    clear c12
                    obtain ⟨y113, hy113⟩ : ∃ y_ : List (S106), y_ = (x4_1 ++ [(⟨(rd_T106 x0_1 0).f0, (rd_T106 x0_1 0).f1, (rd_T106 x0_1 0).f2, (rd_T106 x0_1 0).f3, (rd_T106 x0_1 0).f4, (rd_T106 x0_1 0).f5⟩ : S106)]) := ⟨_, rfl⟩
                    replace H : (if 1 ≤ (x0_1.length : Int) then (ramp_Merge.l0 kj2 (x0_1.drop 1) x1_1 y113) else (none)) = some r := by first | (rw [hy113]; with_reducible exact H) | (have H2_ := (Option.bind_some _ _).symm.trans H; rw [hy113]; with_reducible exact H2_) | (have H2_ := (Option.bind_some _ _).symm.trans H; with_reducible exact H2_) | with_reducible exact H | (rw [hy113]; exact H) | exact H
                    have Ny113 := Aside0.mk hy113
                    clear hy113
                    by_cases c13 : 1 ≤ (x0_1.length : Int)
                    · rw [if_pos c13] at H
                      have c13b0 := eq_true c13
                      have c13b1 : decide (1 ≤ (x0_1.length : Int)) = true := decide_eq_true c13
                      clear c13
                      obtain ⟨y116, hy116⟩ : ∃ y_ : List (S106), y_ = (x0_1.drop 1) := ⟨_, rfl⟩
                      replace H : (ramp_Merge.l0 kj2 y116 x1_1 y113) = some r := by first | (rw [hy116]; with_reducible exact H) | (have H2_ := (Option.bind_some _ _).symm.trans H; rw [hy116]; with_reducible exact H2_) | (have H2_ := (Option.bind_some _ _).symm.trans H; with_reducible exact H2_) | with_reducible exact H | (rw [hy116]; exact H) | exact H
                      have Ny116 := Aside0.mk hy116
                      clear hy116
                      have H' := Aside0.mk H
                      clear H
                      try go_wp2
                      have n0_ := Aside0.mk (Kd.V_drew HO_0.out)
                      have n1_ := Aside0.mk (Kd.V_drew HO_1.out)
                      have n2_ := Aside0.mk (Kd.R_drew HO_4.out)
                      have n3_ := Aside0.mk (below_drew1 HB.out)
                      clear HO_0
                      clear HO_1
                      clear HO_4
                      clear HB
                      have HO_0 := n0_
                      have HO_1 := n1_
                      have HO_4 := n2_
                      have HB := n3_
                      clear n0_ n1_ n2_ n3_
                      obtain ⟨Ao15, co15, eo15⟩ := Kd.V_slice HO_0.out
                      (first | subst eo15 | (injection eo15 with f1_ f2_ f3_; have f4_ := f1_.symm; have f5_ := f3_.symm; clear f1_ f2_ f3_; subst f4_; subst f5_))
                      have p110 : 0 ≤ (0 : Int) := (by omega)
                      have q110 : 0 < (x0_1.length : Int) := of_decide_eq_true (by first | (with_reducible assumption) | assumption)
                      obtain ⟨ad110, e110, hx110_0, hx110_1, hx110_2, hx110_3, hx110_4, hx110_5⟩ := at_T106 (Kd.V_reads' HO_0.out).2.2 0 p110 q110
                      cases e110
                      have qi110 : (0 < x0_1.length) = True := eq_true (by omega)
                      (try rw [show ((0 : Int)).toNat = 0 from rfl] at hx110_0)
                      (try rw [show 0 * 6 = 0 from rfl] at hx110_0)
                      (try rw [Addr.add_zero'] at hx110_0)
                      (try rw [show ((0 : Int)).toNat = 0 from rfl] at hx110_1)
                      (try rw [show 0 * 6 = 0 from rfl] at hx110_1)
                      (try rw [Addr.add_zero'] at hx110_1)
                      (try rw [show ((0 : Int)).toNat = 0 from rfl] at hx110_2)
                      (try rw [show 0 * 6 = 0 from rfl] at hx110_2)
                      (try rw [Addr.add_zero'] at hx110_2)
                      (try rw [show ((0 : Int)).toNat = 0 from rfl] at hx110_3)
                      (try rw [show 0 * 6 = 0 from rfl] at hx110_3)
                      (try rw [Addr.add_zero'] at hx110_3)
                      (try rw [show ((0 : Int)).toNat = 0 from rfl] at hx110_4)
                      (try rw [show 0 * 6 = 0 from rfl] at hx110_4)
                      (try rw [Addr.add_zero'] at hx110_4)
                      (try rw [show ((0 : Int)).toNat = 0 from rfl] at hx110_5)
                      (try rw [show 0 * 6 = 0 from rfl] at hx110_5)
                      (try rw [Addr.add_zero'] at hx110_5)
                      replace p110 := eq_true p110
                      replace q110 := eq_true q110
                      obtain ⟨Ao16, co16, eo16⟩ := Kd.V_slice HO_1.out
                      (first | subst eo16 | (injection eo16 with f1_ f2_ f3_; have f4_ := f1_.symm; have f5_ := f3_.symm; clear f1_ f2_ f3_; subst f4_; subst f5_))
                      have p111 : 0 ≤ (0 : Int) := (by omega)
                      have q111 : 0 < (x1_1.length : Int) := of_decide_eq_true (by first | (with_reducible assumption) | assumption)
                      obtain ⟨ad111, e111, hx111_0, hx111_1, hx111_2, hx111_3, hx111_4, hx111_5⟩ := at_T106 (Kd.V_reads' HO_1.out).2.2 0 p111 q111
                      cases e111
                      have qi111 : (0 < x1_1.length) = True := eq_true (by omega)
                      (try rw [show ((0 : Int)).toNat = 0 from rfl] at hx111_0)
                      (try rw [show 0 * 6 = 0 from rfl] at hx111_0)
                      (try rw [Addr.add_zero'] at hx111_0)
                      (try rw [show ((0 : Int)).toNat = 0 from rfl] at hx111_1)
                      (try rw [show 0 * 6 = 0 from rfl] at hx111_1)
                      (try rw [Addr.add_zero'] at hx111_1)
                      (try rw [show ((0 : Int)).toNat = 0 from rfl] at hx111_2)
                      (try rw [show 0 * 6 = 0 from rfl] at hx111_2)
                      (try rw [Addr.add_zero'] at hx111_2)
                      (try rw [show ((0 : Int)).toNat = 0 from rfl] at hx111_3)
                      (try rw [show 0 * 6 = 0 from rfl] at hx111_3)
                      (try rw [Addr.add_zero'] at hx111_3)
                      (try rw [show ((0 : Int)).toNat = 0 from rfl] at hx111_4)
                      (try rw [show 0 * 6 = 0 from rfl] at hx111_4)
                      (try rw [Addr.add_zero'] at hx111_4)
                      (try rw [show ((0 : Int)).toNat = 0 from rfl] at hx111_5)
                      (try rw [show 0 * 6 = 0 from rfl] at hx111_5)
                      (try rw [Addr.add_zero'] at hx111_5)
                      replace p111 := eq_true p111
                      replace q111 := eq_true q111
                      refine start_ (n := 9) (S := fun w' => w'.cell? ad110 = some (.int .i64 ((rd_T106 x0_1 0).f0)) ∧ w'.cell? ⟨ad110.block, ad110.off + 1, none⟩ = some (.int .i64 ((rd_T106 x0_1 0).f1)) ∧ w'.cell? ⟨ad110.block, ad110.off + 2, none⟩ = some (.int .u8 ((rd_T106 x0_1 0).f2)) ∧ w'.cell? ⟨ad110.block, ad110.off + 3, none⟩ = some (.bool ((rd_T106 x0_1 0).f3)) ∧ w'.cell? ⟨ad110.block, ad110.off + 4, none⟩ = some (.int .i64 ((rd_T106 x0_1 0).f4)) ∧ w'.cell? ⟨ad110.block, ad110.off + 5, none⟩ = some (.int .i64 ((rd_T106 x0_1 0).f5)) ∧ w'.cell? ad111 = some (.int .i64 ((rd_T106 x1_1 0).f0)) ∧ w'.cell? ⟨ad111.block, ad111.off + 1, none⟩ = some (.int .i64 ((rd_T106 x1_1 0).f1)) ∧ w'.cell? ⟨ad111.block, ad111.off + 2, none⟩ = some (.int .u8 ((rd_T106 x1_1 0).f2)) ∧ w'.cell? ⟨ad111.block, ad111.off + 3, none⟩ = some (.bool ((rd_T106 x1_1 0).f3)) ∧ w'.cell? ⟨ad111.block, ad111.off + 4, none⟩ = some (.int .i64 ((rd_T106 x1_1 0).f4)) ∧ w'.cell? ⟨ad111.block, ad111.off + 5, none⟩ = some (.int .i64 ((rd_T106 x1_1 0).f5))) (ds := []) #[false, false, false, false, false, false, false, false, false] (by kernel_rfl) rfl rfl ⟨hx110_0, hx110_1, hx110_2, hx110_3, hx110_4, hx110_5, hx111_0, hx111_1, hx111_2, hx111_3, hx111_4, hx111_5⟩ (fun hHeld => ?_); refine with_tabW ramp_Merge.tab2 ramp_Merge.bits2 (fun HT_ HW_ => ?_)
                      generalize wc.drew = w14 at HO_0 HO_1 HO_4 HB hx110_0 hx110_1 hx110_2 hx110_3 hx110_4 hx110_5 hx111_0 hx111_1 hx111_2 hx111_3 hx111_4 hx111_5 hHeld ⊢
                      refine pure_ (i := 0) (N := some 13) (v := ?_) (a' := ?_) #[true, false, false, false, false, false, false, false, false] rfl rfl (any_of HT_.out (by kernel_rfl)) (fun _ _ _ h => h) (Or.inl ⟨by rfl, ?_⟩) ?_ ?_
                      rotate_left
                      · intro w'
                        go_simp
                        with_reducible rfl
                      rotate_left
                      · simp only [Act.put, List.setIfInBounds_toArray, List.set_cons_zero, List.set_cons_succ, i64_w, i32_w]
                        rfl
                      refine pure_ (i := 1) (N := some 14) (v := ?_) (a' := ?_) #[true, true, false, false, false, false, false, false, false] rfl rfl (any_of HT_.out (by kernel_rfl)) (fun _ _ _ h => h) (Or.inl ⟨by rfl, ?_⟩) ?_ ?_
                      rotate_left
                      · intro w'
                        go_simp
                        with_reducible rfl
                      rotate_left
                      · simp only [Act.put, List.setIfInBounds_toArray, List.set_cons_zero, List.set_cons_succ, i64_w, i32_w]
                        rfl
                      refine pure_ (i := 2) (N := some 15) (v := ?_) (a' := ?_) #[true, true, true, false, false, false, false, false, false] rfl rfl (any_of HT_.out (by kernel_rfl)) (fun _ _ _ h => h) (Or.inl ⟨by rfl, ?_⟩) ?_ ?_
                      rotate_left
                      · intro w'
                        go_simp
                        with_reducible rfl
                      rotate_left
                      · simp only [Act.put, List.setIfInBounds_toArray, List.set_cons_zero, List.set_cons_succ, i64_w, i32_w]
                        rfl
                      refine pure_ (i := 4) (N := some 17) (v := ?_) (a' := ?_) #[true, true, true, false, true, false, false, false, false] rfl rfl (any_of HT_.out (by kernel_rfl)) (fun _ _ _ h => h) (Or.inl ⟨by rfl, ?_⟩) ?_ ?_
                      rotate_left
                      · intro w'
                        go_simp
                        with_reducible rfl
                      rotate_left
                      · simp only [Act.put, List.setIfInBounds_toArray, List.set_cons_zero, List.set_cons_succ, i64_w, i32_w]
                        rfl
                      refine pure_ (i := 5) (N := some 18) (v := ?_) (a' := ?_) #[true, true, true, false, true, true, false, false, false] rfl rfl (any_of HT_.out (by kernel_rfl)) (fun _ _ _ h => h) (Or.inl ⟨by rfl, ?_⟩) ?_ ?_
                      rotate_left
                      · intro w'
                        go_simp
                        with_reducible rfl
                      rotate_left
                      · simp only [Act.put, List.setIfInBounds_toArray, List.set_cons_zero, List.set_cons_succ, i64_w, i32_w]
                        rfl
                      refine pure_ (i := 6) (N := some 19) (v := ?_) (a' := ?_) #[true, true, true, false, true, true, true, false, false] rfl rfl (any_of HT_.out (by kernel_rfl)) (fun _ _ _ h => h) (Or.inl ⟨by rfl, ?_⟩) ?_ ?_
                      rotate_left
                      · intro w'
                        go_simp
                        with_reducible rfl
                      rotate_left
                      · simp only [Act.put, List.setIfInBounds_toArray, List.set_cons_zero, List.set_cons_succ, i64_w, i32_w]
                        rfl
                      refine take_ (i := 3) (N := some 16) (v := ?_) (a' := ?_) #[true, true, true, true, true, true, true, false, false] rfl rfl (take_ofW HT_.out HW_.out (by kernel_rfl)) (fun _ _ _ h => h) (Or.inl ⟨by rfl, ?_⟩) hHeld ?_ ?_
                      rotate_left
                      · rintro w' ⟨s0, s1, s2, s3, s4, s5, s6, s7, s8, s9, s10, s11⟩
                        go_simp
                        with_reducible rfl
                      rotate_left
                      · simp only [Act.put, List.setIfInBounds_toArray, List.set_cons_zero, List.set_cons_succ, i64_w, i32_w]
                        rfl
                      refine take_ (i := 7) (N := some 20) (v := ?_) (a' := ?_) #[true, true, true, true, true, true, true, true, false] rfl rfl (take_ofW HT_.out HW_.out (by kernel_rfl)) (fun _ _ _ h => h) (Or.inl ⟨by rfl, ?_⟩) hHeld ?_ ?_
                      rotate_left
                      · rintro w' ⟨s0, s1, s2, s3, s4, s5, s6, s7, s8, s9, s10, s11⟩
                        go_simp
                        with_reducible rfl
                      rotate_left
                      · simp only [Act.put, List.setIfInBounds_toArray, List.set_cons_zero, List.set_cons_succ, i64_w, i32_w]
                        rfl
                      refine pure_ (i := 8) (N := some 21) (v := ?_) (a' := ?_) #[true, true, true, true, true, true, true, true, true] rfl rfl (any_of HT_.out (by kernel_rfl)) (fun _ _ _ h => h) (Or.inl ⟨by rfl, ?_⟩) ?_ ?_
                      rotate_left
                      · intro w'
                        go_simp
                        with_reducible rfl
                      rotate_left
                      · simp only [Act.put, List.setIfInBounds_toArray, List.set_cons_zero, List.set_cons_succ, i64_w, i32_w]
                        rfl
                      refine done_ (done_of HT_.out (by kernel_rfl)) ?_
                      try go_wp2
                      have n0_ := Aside0.mk (Kd.V_drew HO_0.out)
                      have n1_ := Aside0.mk (Kd.V_drew HO_1.out)
                      have n2_ := Aside0.mk (Kd.R_drew HO_4.out)
                      have n3_ := Aside0.mk (below_drew1 HB.out)
                      clear HO_0
                      clear HO_1
                      clear HO_4
                      clear HB
                      have HO_0 := n0_
                      have HO_1 := n1_
                      have HO_4 := n2_
                      have HB := n3_
                      clear n0_ n1_ n2_ n3_
                      have p112 : 0 ≤ (0 : Int) := (by omega)
                      have q112 : 0 < (x0_1.length : Int) := of_decide_eq_true (by first | (with_reducible assumption) | assumption)
                      obtain ⟨ad112, e112, hx112_0, hx112_1, hx112_2, hx112_3, hx112_4, hx112_5⟩ := at_T106 (Kd.V_reads' HO_0.out).2.2 0 p112 q112
                      obtain rfl : ad110 = ad112 := (by injection e112)
                      have qi112 : (0 < x0_1.length) = True := eq_true (by omega)
                      (try rw [show ((0 : Int)).toNat = 0 from rfl] at hx112_0)
                      (try rw [show 0 * 6 = 0 from rfl] at hx112_0)
                      (try rw [Addr.add_zero'] at hx112_0)
                      (try rw [show ((0 : Int)).toNat = 0 from rfl] at hx112_1)
                      (try rw [show 0 * 6 = 0 from rfl] at hx112_1)
                      (try rw [Addr.add_zero'] at hx112_1)
                      (try rw [show ((0 : Int)).toNat = 0 from rfl] at hx112_2)
                      (try rw [show 0 * 6 = 0 from rfl] at hx112_2)
                      (try rw [Addr.add_zero'] at hx112_2)
                      (try rw [show ((0 : Int)).toNat = 0 from rfl] at hx112_3)
                      (try rw [show 0 * 6 = 0 from rfl] at hx112_3)
                      (try rw [Addr.add_zero'] at hx112_3)
                      (try rw [show ((0 : Int)).toNat = 0 from rfl] at hx112_4)
                      (try rw [show 0 * 6 = 0 from rfl] at hx112_4)
                      (try rw [Addr.add_zero'] at hx112_4)
                      (try rw [show ((0 : Int)).toNat = 0 from rfl] at hx112_5)
                      (try rw [show 0 * 6 = 0 from rfl] at hx112_5)
                      (try rw [Addr.add_zero'] at hx112_5)
                      replace p112 := eq_true p112
                      replace q112 := eq_true q112
                      have q18 : (1 : Int) ≤ ((x0_1.length : Int) : Int) := of_decide_eq_true (by first | (with_reducible assumption) | assumption)
                      obtain ⟨i018, hi018, _, hsz18, _⟩ := info_parts info106
                      have hroom18 : x0_1.length ≤ co15 := (Kd.V_reads' HO_0.out).2.1
                      have hC18 : Kd.F k106 _ _ (some ad110) x0_1.length x0_1 := (Kd.V_at (base := w.heap.size) HO_0.out).2.2
                      have hcut18 := cut_from (P := Try.prog) 88 106 .i64 Try.underlying88 hi018 6 hsz18 (some ad110) x0_1.length co15 1 (by omega) q18
                      have hr18 := Kd.F_cut (m := (1 : Int).toNat) (c := co15) hC18 (by omega) hroom18
                      obtain ⟨A18, hA18⟩ : ∃ A1, A1 = (if co15 = (1 : Int).toNat then (some ad110) else ((some ad110) : Option Addr).map (·.add ((1 : Int).toNat * 6))) := ⟨_, rfl⟩
                      obtain ⟨c18, hc18⟩ : ∃ c1, c1 = co15 - (1 : Int).toNat := ⟨_, rfl⟩
                      have hy18 : y116.length = x0_1.length - (1 : Int).toNat := (by rw [Ny116.out, List.length_drop] <;> omega)
                      rw [show (x0_1).drop (1 : Int).toNat = y116 from Ny116.out.symm] at hr18
                      replace hr18 : Kd.F k106 _ _ A18 y116.length y116 := (by rw [hA18]; exact hr18)
                      rw [← hy18, ← hA18, ← hc18] at hcut18
                      have HO120 := Aside0.mk (show Kd.V k106 106 _ w.heap.size _ (.slice A18 y116.length c18) y116 from Kd.V_mk (by rw [hy18, hc18]; exact Nat.sub_le_sub_right hroom18 _) hr18)
                      have HC120 := Aside0.mk (show y116.length ≤ c18 from by rw [hy18, hc18]; exact Nat.sub_le_sub_right hroom18 _)
                      clear hr18 hC18 hroom18 hi018 hsz18 hc18
                      have KY18 := Aside0.mk hy18
                      have KA18 := Aside0.mk hA18
                      clear hy18 hA18
                      replace q18 := eq_true q18
                      refine start_ (n := 10) (S := fun w' => w'.cell? ad110 = some (.int .i64 ((rd_T106 x0_1 0).f0)) ∧ w'.cell? ⟨ad110.block, ad110.off + 1, none⟩ = some (.int .i64 ((rd_T106 x0_1 0).f1)) ∧ w'.cell? ⟨ad110.block, ad110.off + 2, none⟩ = some (.int .u8 ((rd_T106 x0_1 0).f2)) ∧ w'.cell? ⟨ad110.block, ad110.off + 3, none⟩ = some (.bool ((rd_T106 x0_1 0).f3)) ∧ w'.cell? ⟨ad110.block, ad110.off + 4, none⟩ = some (.int .i64 ((rd_T106 x0_1 0).f4)) ∧ w'.cell? ⟨ad110.block, ad110.off + 5, none⟩ = some (.int .i64 ((rd_T106 x0_1 0).f5))) (ds := [4, 5]) #[false, false, false, false, false, false, false, false, false, false] (by kernel_rfl) rfl rfl ⟨hx112_0, hx112_1, hx112_2, hx112_3, hx112_4, hx112_5⟩ (fun hHeld => ?_); refine with_tabW ramp_Merge.tab3 ramp_Merge.bits3 (fun HT_ HW_ => ?_)
                      generalize w14.drew = w17 at HO_0 HO_1 HO_4 HB HO120 hx112_0 hx112_1 hx112_2 hx112_3 hx112_4 hx112_5 hHeld ⊢
                      refine pure_ (i := 0) (N := some 22) (v := ?_) (a' := ?_) #[true, false, false, false, false, false, false, false, false, false] rfl rfl (any_of HT_.out (by kernel_rfl)) (fun _ _ _ h => h) (Or.inl ⟨by rfl, ?_⟩) ?_ ?_
                      rotate_left
                      · intro w'
                        go_simp
                        with_reducible rfl
                      rotate_left
                      · simp only [Act.put, List.setIfInBounds_toArray, List.set_cons_zero, List.set_cons_succ, i64_w, i32_w]
                        rfl
                      refine pure_ (i := 1) (N := some 23) (v := ?_) (a' := ?_) #[true, true, false, false, false, false, false, false, false, false] rfl rfl (any_of HT_.out (by kernel_rfl)) (fun _ _ _ h => h) (Or.inl ⟨by rfl, ?_⟩) ?_ ?_
                      rotate_left
                      · intro w'
                        go_simp
                        with_reducible rfl
                      rotate_left
                      · simp only [Act.put, List.setIfInBounds_toArray, List.set_cons_zero, List.set_cons_succ, i64_w, i32_w]
                        rfl
                      refine pure_ (i := 2) (N := some 24) (v := ?_) (a' := ?_) #[true, true, true, false, false, false, false, false, false, false] rfl rfl (any_of HT_.out (by kernel_rfl)) (fun _ _ _ h => h) (Or.inl ⟨by rfl, ?_⟩) ?_ ?_
                      rotate_left
                      · intro w'
                        go_simp
                        with_reducible rfl
                      rotate_left
                      · simp only [Act.put, List.setIfInBounds_toArray, List.set_cons_zero, List.set_cons_succ, i64_w, i32_w]
                        rfl
                      refine pure_ (i := 6) (N := some 28) (v := ?_) (a' := ?_) #[true, true, true, false, false, false, true, false, false, false] rfl rfl (any_of HT_.out (by kernel_rfl)) (fun _ _ _ h => h) (Or.inl ⟨by rfl, ?_⟩) ?_ ?_
                      rotate_left
                      · intro w'
                        go_simp
                        with_reducible rfl
                      rotate_left
                      · simp only [Act.put, List.setIfInBounds_toArray, List.set_cons_zero, List.set_cons_succ, i64_w, i32_w]
                        rfl
                      refine pure_ (i := 7) (N := some 29) (v := ?_) (a' := ?_) #[true, true, true, false, false, false, true, true, false, false] rfl rfl (any_of HT_.out (by kernel_rfl)) (fun _ _ _ h => h) (Or.inl ⟨by rfl, ?_⟩) ?_ ?_
                      rotate_left
                      · intro w'
                        go_simp
                        with_reducible rfl
                      rotate_left
                      · simp only [Act.put, List.setIfInBounds_toArray, List.set_cons_zero, List.set_cons_succ, i64_w, i32_w]
                        rfl
                      refine take_ (i := 3) (N := some 25) (v := ?_) (a' := ?_) #[true, true, true, true, false, false, true, true, false, false] rfl rfl (take_ofW HT_.out HW_.out (by kernel_rfl)) (fun _ _ _ h => h) (Or.inl ⟨by rfl, ?_⟩) hHeld ?_ ?_
                      rotate_left
                      · rintro w' ⟨s0, s1, s2, s3, s4, s5⟩
                        go_simp
                        with_reducible rfl
                      rotate_left
                      · simp only [Act.put, List.setIfInBounds_toArray, List.set_cons_zero, List.set_cons_succ, i64_w, i32_w]
                        rfl
                      refine last_ (i := 4) (N := some 26) #[true, true, true, true, true, false, true, true, false, false] rfl rfl (one_of HT_.out (by kernel_rfl)) (by decide) (fun K hK => ?_)
                      refine value_ (w1 := ?_) (v := ?_) (by rfl) rfl ?_ ?_
                      rotate_left 2
                      · go_simp
                        constructor
                        · rfl
                        · rfl
                      refine hK.out _ _ ?_
                      clear hK K
                      refine norm_ (a' := ?_) ?_ ?_
                      rotate_left
                      · show Act.put _ (some 26) _ = _
                        simp only [Act.put, List.setIfInBounds_toArray, List.set_cons_zero, List.set_cons_succ, i64_w, i32_w]
                        rfl
                      refine last_ (i := 5) (N := some 27) #[true, true, true, true, true, true, true, true, false, false] rfl rfl (one_of HT_.out (by kernel_rfl)) (by decide) (fun K hK => ?_)
                      refine Kd.R_append_step k106 (w0 := w) w.heap.size (by rfl) (.tmp 22) (.tmp 26) 88 106 (.agg #[(.int .i64 0), (.int .i64 0), (.int .u8 0), (.bool false), (.int .i64 0), (.int .i64 0)]) 40 rfl Try.underlying88 info106 rfl (by decide) (by omega) u4 x4_1 (⟨(rd_T106 x0_1 0).f0, (rd_T106 x0_1 0).f1, (rd_T106 x0_1 0).f2, (rd_T106 x0_1 0).f3, (rd_T106 x0_1 0).f4, (rd_T106 x0_1 0).f5⟩ : S106) [.int .i64 ((rd_T106 x0_1 0).f0), .int .i64 ((rd_T106 x0_1 0).f1), .int .u8 ((rd_T106 x0_1 0).f2), .bool ((rd_T106 x0_1 0).f3), .int .i64 ((rd_T106 x0_1 0).f4), .int .i64 ((rd_T106 x0_1 0).f5)] (fun k_ => (w.heap.size ≤ k_)) (fun _ => False) rfl rfl ?aP (fun _ hk => hk.elim) ?aF ?aO ?aB ?aS ?aL ?_
                      (case aP => exact k106_mkM _ _ _ (⟨(rd_T106 x0_1 0).f0, (rd_T106 x0_1 0).f1, (rd_T106 x0_1 0).f2, (rd_T106 x0_1 0).f3, (rd_T106 x0_1 0).f4, (rd_T106 x0_1 0).f5⟩ : S106))
                      (case aB => exact (by repeat (first | (with_reducible first | exact HB.out | apply below_alloc | apply pw_below_drewN | apply below_drew1) | exact HB.out)))
                      (case aF => exact (fun k_ hk => (Nat.le_trans (below_size (by repeat (first | (with_reducible first | exact HB.out | apply below_alloc | apply pw_below_drewN | apply below_drew1) | exact HB.out))) hk)))
                      (case aO => exact (by (with_reducible repeat (first | apply Kd.R_alloc | apply Kd.R_drewN | apply Kd.R_drew)); exact HO_4.out))
                      (case aS => exact (below_size (by repeat (first | (with_reducible first | exact HB.out | apply below_alloc | apply pw_below_drewN | apply below_drew1) | exact HB.out))))
                      (case aL => have := LMc12.out; omega)
                      intro v114 w19 ho hb hg hat
                      rw [← Ny113.out] at ho
                      have n0_ := Aside0.mk (Kd.V_afterv (ok := (fun k_ => ((P0_ k_ ∨ P1_ k_) ∨ w.heap.size ≤ k_))) (by (with_reducible repeat (first | apply Kd.V_alloc | apply Kd.V_drewN | apply Kd.V_drew)); exact HO_0.out) hg hat)
                      have n1_ := Aside0.mk (Kd.V_afterv (ok := (fun k_ => ((P0_ k_ ∨ P1_ k_) ∨ w.heap.size ≤ k_))) (by (with_reducible repeat (first | apply Kd.V_alloc | apply Kd.V_drewN | apply Kd.V_drew)); exact HO_1.out) hg hat)
                      have n2_ := Aside0.mk (Kd.V_afterv (ok := (fun k_ => ((P0_ k_ ∨ P1_ k_) ∨ w.heap.size ≤ k_))) (by (with_reducible repeat (first | apply Kd.V_alloc | apply Kd.V_drewN | apply Kd.V_drew)); exact HO120.out) hg hat)
                      have n3_ := Aside0.mk (hb)
                      have n4_ := Aside0.mk (ho)
                      clear HO_0
                      clear HO_1
                      clear HO120
                      clear HB
                      clear HO_4
                      have HO_0 := n0_
                      have HO_1 := n1_
                      have HO120 := n2_
                      have HB := n3_
                      have HO115 := n4_
                      clear n0_ n1_ n2_ n3_ n4_
                      clear ho hb hg hat
                      refine hK.out _ _ ?_
                      clear hK K
                      refine norm_ (a' := ?_) ?_ ?_
                      rotate_left
                      · show Act.put _ (some 27) _ = _
                        simp only [Act.put, List.setIfInBounds_toArray, List.set_cons_zero, List.set_cons_succ, i64_w, i32_w]
                        rfl
                      refine pure_ (i := 8) (N := some 4) (v := ?_) (a' := ?_) #[true, true, true, true, true, true, true, true, true, false] rfl rfl (any_of HT_.out (by kernel_rfl)) (fun _ _ _ h => h) (Or.inl ⟨by rfl, ?_⟩) ?_ ?_
                      rotate_left
                      · intro w'
                        go_simp
                        with_reducible rfl
                      rotate_left
                      · simp only [Act.put, List.setIfInBounds_toArray, List.set_cons_zero, List.set_cons_succ, i64_w, i32_w]
                        rfl
                      refine pure_ (i := 9) (N := some 0) (v := ?_) (a' := ?_) #[true, true, true, true, true, true, true, true, true, true] rfl rfl (any_of HT_.out (by kernel_rfl)) (fun _ _ _ h => h) (Or.inl ⟨by rfl, ?_⟩) ?_ ?_
                      rotate_left
                      · intro w'
                        go_simp
                        with_reducible rfl
                      rotate_left
                      · simp only [Act.put, List.setIfInBounds_toArray, List.set_cons_zero, List.set_cons_succ, i64_w, i32_w]
                        rfl
                      refine done_ (done_of HT_.out (by kernel_rfl)) ?_
                      try go_wp2
                      go_roundg kj2
                      case measure => have := HK1.out; have := HJ2.out; omega
                      case rel => exact ⟨(y116), (x1_1), (y113), H', ⟨by have := HK1.out; have := HJ2.out; omega⟩, ⟨by (with_reducible repeat (first | apply Kd.V_alloc | apply Kd.V_drewN | apply Kd.V_drew)); exact HO120.out⟩, ⟨by (with_reducible repeat (first | apply Kd.V_alloc | apply Kd.V_drewN | apply Kd.V_drew)); exact HO_1.out⟩, ⟨by (with_reducible repeat (first | apply Kd.R_alloc | apply Kd.R_drewN | apply Kd.R_drew)); exact HO115.out⟩, ⟨by repeat (first | (with_reducible first | exact HB.out | apply below_alloc | apply pw_below_drewN | apply below_drew1) | exact HB.out)⟩⟩
                    · rw [if_neg c13] at H
                      exact absurd H (by simp)
                  · rw [if_neg c12] at H
                    exact absurd H (by simp)
                · rw [if_neg c11] at H
                  have c11b0 : decide (((rd_T106 x0_1 0).f1) ≤ ((rd_T106 x1_1 0).f1)) = false := decide_eq_false c11
                  clear c11
                  by_cases c20 : x4_1.length < 3518437208883
                  · rw [if_pos c20] at H
                    have LMc20 := Aside0.mk c20
                    clear c20
                    obtain ⟨y122, hy122⟩ : ∃ y_ : List (S106), y_ = (x4_1 ++ [(⟨(rd_T106 x1_1 0).f0, (rd_T106 x1_1 0).f1, (rd_T106 x1_1 0).f2, (rd_T106 x1_1 0).f3, (rd_T106 x1_1 0).f4, (rd_T106 x1_1 0).f5⟩ : S106)]) := ⟨_, rfl⟩
                    replace H : (if 1 ≤ (x1_1.length : Int) then (ramp_Merge.l0 kj2 x0_1 (x1_1.drop 1) y122) else (none)) = some r := by first | (rw [hy122]; with_reducible exact H) | (have H2_ := (Option.bind_some _ _).symm.trans H; rw [hy122]; with_reducible exact H2_) | (have H2_ := (Option.bind_some _ _).symm.trans H; with_reducible exact H2_) | with_reducible exact H | (rw [hy122]; exact H) | exact H
                    have Ny122 := Aside0.mk hy122
                    clear hy122
                    by_cases c21 : 1 ≤ (x1_1.length : Int)
                    · rw [if_pos c21] at H
                      have c21b0 := eq_true c21
                      have c21b1 : decide (1 ≤ (x1_1.length : Int)) = true := decide_eq_true c21
                      clear c21
                      obtain ⟨y125, hy125⟩ : ∃ y_ : List (S106), y_ = (x1_1.drop 1) := ⟨_, rfl⟩
                      replace H : (ramp_Merge.l0 kj2 x0_1 y125 y122) = some r := by first | (rw [hy125]; with_reducible exact H) | (have H2_ := (Option.bind_some _ _).symm.trans H; rw [hy125]; with_reducible exact H2_) | (have H2_ := (Option.bind_some _ _).symm.trans H; with_reducible exact H2_) | with_reducible exact H | (rw [hy125]; exact H) | exact H
                      have Ny125 := Aside0.mk hy125
                      clear hy125
                      have H' := Aside0.mk H
                      clear H
                      try go_wp2
                      have n0_ := Aside0.mk (Kd.V_drew HO_0.out)
                      have n1_ := Aside0.mk (Kd.V_drew HO_1.out)
                      have n2_ := Aside0.mk (Kd.R_drew HO_4.out)
                      have n3_ := Aside0.mk (below_drew1 HB.out)
                      clear HO_0
                      clear HO_1
                      clear HO_4
                      clear HB
                      have HO_0 := n0_
                      have HO_1 := n1_
                      have HO_4 := n2_
                      have HB := n3_
                      clear n0_ n1_ n2_ n3_
                      obtain ⟨Ao23, co23, eo23⟩ := Kd.V_slice HO_0.out
                      (first | subst eo23 | (injection eo23 with f1_ f2_ f3_; have f4_ := f1_.symm; have f5_ := f3_.symm; clear f1_ f2_ f3_; subst f4_; subst f5_))
                      have p110 : 0 ≤ (0 : Int) := (by omega)
                      have q110 : 0 < (x0_1.length : Int) := of_decide_eq_true (by first | (with_reducible assumption) | assumption)
                      obtain ⟨ad110, e110, hx110_0, hx110_1, hx110_2, hx110_3, hx110_4, hx110_5⟩ := at_T106 (Kd.V_reads' HO_0.out).2.2 0 p110 q110
                      cases e110
                      have qi110 : (0 < x0_1.length) = True := eq_true (by omega)
                      (try rw [show ((0 : Int)).toNat = 0 from rfl] at hx110_0)
                      (try rw [show 0 * 6 = 0 from rfl] at hx110_0)
                      (try rw [Addr.add_zero'] at hx110_0)
                      (try rw [show ((0 : Int)).toNat = 0 from rfl] at hx110_1)
                      (try rw [show 0 * 6 = 0 from rfl] at hx110_1)
                      (try rw [Addr.add_zero'] at hx110_1)
                      (try rw [show ((0 : Int)).toNat = 0 from rfl] at hx110_2)
                      (try rw [show 0 * 6 = 0 from rfl] at hx110_2)
                      (try rw [Addr.add_zero'] at hx110_2)
                      (try rw [show ((0 : Int)).toNat = 0 from rfl] at hx110_3)
                      (try rw [show 0 * 6 = 0 from rfl] at hx110_3)
                      (try rw [Addr.add_zero'] at hx110_3)
                      (try rw [show ((0 : Int)).toNat = 0 from rfl] at hx110_4)
                      (try rw [show 0 * 6 = 0 from rfl] at hx110_4)
                      (try rw [Addr.add_zero'] at hx110_4)
                      (try rw [show ((0 : Int)).toNat = 0 from rfl] at hx110_5)
                      (try rw [show 0 * 6 = 0 from rfl] at hx110_5)
                      (try rw [Addr.add_zero'] at hx110_5)
                      replace p110 := eq_true p110
                      replace q110 := eq_true q110
                      obtain ⟨Ao24, co24, eo24⟩ := Kd.V_slice HO_1.out
                      (first | subst eo24 | (injection eo24 with f1_ f2_ f3_; have f4_ := f1_.symm; have f5_ := f3_.symm; clear f1_ f2_ f3_; subst f4_; subst f5_))
                      have p111 : 0 ≤ (0 : Int) := (by omega)
                      have q111 : 0 < (x1_1.length : Int) := of_decide_eq_true (by first | (with_reducible assumption) | assumption)
                      obtain ⟨ad111, e111, hx111_0, hx111_1, hx111_2, hx111_3, hx111_4, hx111_5⟩ := at_T106 (Kd.V_reads' HO_1.out).2.2 0 p111 q111
                      cases e111
                      have qi111 : (0 < x1_1.length) = True := eq_true (by omega)
                      (try rw [show ((0 : Int)).toNat = 0 from rfl] at hx111_0)
                      (try rw [show 0 * 6 = 0 from rfl] at hx111_0)
                      (try rw [Addr.add_zero'] at hx111_0)
                      (try rw [show ((0 : Int)).toNat = 0 from rfl] at hx111_1)
                      (try rw [show 0 * 6 = 0 from rfl] at hx111_1)
                      (try rw [Addr.add_zero'] at hx111_1)
                      (try rw [show ((0 : Int)).toNat = 0 from rfl] at hx111_2)
                      (try rw [show 0 * 6 = 0 from rfl] at hx111_2)
                      (try rw [Addr.add_zero'] at hx111_2)
                      (try rw [show ((0 : Int)).toNat = 0 from rfl] at hx111_3)
                      (try rw [show 0 * 6 = 0 from rfl] at hx111_3)
                      (try rw [Addr.add_zero'] at hx111_3)
                      (try rw [show ((0 : Int)).toNat = 0 from rfl] at hx111_4)
                      (try rw [show 0 * 6 = 0 from rfl] at hx111_4)
                      (try rw [Addr.add_zero'] at hx111_4)
                      (try rw [show ((0 : Int)).toNat = 0 from rfl] at hx111_5)
                      (try rw [show 0 * 6 = 0 from rfl] at hx111_5)
                      (try rw [Addr.add_zero'] at hx111_5)
                      replace p111 := eq_true p111
                      replace q111 := eq_true q111
                      refine start_ (n := 9) (S := fun w' => w'.cell? ad110 = some (.int .i64 ((rd_T106 x0_1 0).f0)) ∧ w'.cell? ⟨ad110.block, ad110.off + 1, none⟩ = some (.int .i64 ((rd_T106 x0_1 0).f1)) ∧ w'.cell? ⟨ad110.block, ad110.off + 2, none⟩ = some (.int .u8 ((rd_T106 x0_1 0).f2)) ∧ w'.cell? ⟨ad110.block, ad110.off + 3, none⟩ = some (.bool ((rd_T106 x0_1 0).f3)) ∧ w'.cell? ⟨ad110.block, ad110.off + 4, none⟩ = some (.int .i64 ((rd_T106 x0_1 0).f4)) ∧ w'.cell? ⟨ad110.block, ad110.off + 5, none⟩ = some (.int .i64 ((rd_T106 x0_1 0).f5)) ∧ w'.cell? ad111 = some (.int .i64 ((rd_T106 x1_1 0).f0)) ∧ w'.cell? ⟨ad111.block, ad111.off + 1, none⟩ = some (.int .i64 ((rd_T106 x1_1 0).f1)) ∧ w'.cell? ⟨ad111.block, ad111.off + 2, none⟩ = some (.int .u8 ((rd_T106 x1_1 0).f2)) ∧ w'.cell? ⟨ad111.block, ad111.off + 3, none⟩ = some (.bool ((rd_T106 x1_1 0).f3)) ∧ w'.cell? ⟨ad111.block, ad111.off + 4, none⟩ = some (.int .i64 ((rd_T106 x1_1 0).f4)) ∧ w'.cell? ⟨ad111.block, ad111.off + 5, none⟩ = some (.int .i64 ((rd_T106 x1_1 0).f5))) (ds := []) #[false, false, false, false, false, false, false, false, false] (by kernel_rfl) rfl rfl ⟨hx110_0, hx110_1, hx110_2, hx110_3, hx110_4, hx110_5, hx111_0, hx111_1, hx111_2, hx111_3, hx111_4, hx111_5⟩ (fun hHeld => ?_); refine with_tabW ramp_Merge.tab2 ramp_Merge.bits2 (fun HT_ HW_ => ?_)
                      generalize wc.drew = w22 at HO_0 HO_1 HO_4 HB hx110_0 hx110_1 hx110_2 hx110_3 hx110_4 hx110_5 hx111_0 hx111_1 hx111_2 hx111_3 hx111_4 hx111_5 hHeld ⊢
                      refine pure_ (i := 0) (N := some 13) (v := ?_) (a' := ?_) #[true, false, false, false, false, false, false, false, false] rfl rfl (any_of HT_.out (by kernel_rfl)) (fun _ _ _ h => h) (Or.inl ⟨by rfl, ?_⟩) ?_ ?_
                      rotate_left
                      · intro w'
                        go_simp
                        with_reducible rfl
                      rotate_left
                      · simp only [Act.put, List.setIfInBounds_toArray, List.set_cons_zero, List.set_cons_succ, i64_w, i32_w]
                        rfl
                      refine pure_ (i := 1) (N := some 14) (v := ?_) (a' := ?_) #[true, true, false, false, false, false, false, false, false] rfl rfl (any_of HT_.out (by kernel_rfl)) (fun _ _ _ h => h) (Or.inl ⟨by rfl, ?_⟩) ?_ ?_
                      rotate_left
                      · intro w'
                        go_simp
                        with_reducible rfl
                      rotate_left
                      · simp only [Act.put, List.setIfInBounds_toArray, List.set_cons_zero, List.set_cons_succ, i64_w, i32_w]
                        rfl
                      refine pure_ (i := 2) (N := some 15) (v := ?_) (a' := ?_) #[true, true, true, false, false, false, false, false, false] rfl rfl (any_of HT_.out (by kernel_rfl)) (fun _ _ _ h => h) (Or.inl ⟨by rfl, ?_⟩) ?_ ?_
                      rotate_left
                      · intro w'
                        go_simp
                        with_reducible rfl
                      rotate_left
                      · simp only [Act.put, List.setIfInBounds_toArray, List.set_cons_zero, List.set_cons_succ, i64_w, i32_w]
                        rfl
                      refine pure_ (i := 4) (N := some 17) (v := ?_) (a' := ?_) #[true, true, true, false, true, false, false, false, false] rfl rfl (any_of HT_.out (by kernel_rfl)) (fun _ _ _ h => h) (Or.inl ⟨by rfl, ?_⟩) ?_ ?_
                      rotate_left
                      · intro w'
                        go_simp
                        with_reducible rfl
                      rotate_left
                      · simp only [Act.put, List.setIfInBounds_toArray, List.set_cons_zero, List.set_cons_succ, i64_w, i32_w]
                        rfl
                      refine pure_ (i := 5) (N := some 18) (v := ?_) (a' := ?_) #[true, true, true, false, true, true, false, false, false] rfl rfl (any_of HT_.out (by kernel_rfl)) (fun _ _ _ h => h) (Or.inl ⟨by rfl, ?_⟩) ?_ ?_
                      rotate_left
                      · intro w'
                        go_simp
                        with_reducible rfl
                      rotate_left
                      · simp only [Act.put, List.setIfInBounds_toArray, List.set_cons_zero, List.set_cons_succ, i64_w, i32_w]
                        rfl
                      refine pure_ (i := 6) (N := some 19) (v := ?_) (a' := ?_) #[true, true, true, false, true, true, true, false, false] rfl rfl (any_of HT_.out (by kernel_rfl)) (fun _ _ _ h => h) (Or.inl ⟨by rfl, ?_⟩) ?_ ?_
                      rotate_left
                      · intro w'
                        go_simp
                        with_reducible rfl
                      rotate_left
                      · simp only [Act.put, List.setIfInBounds_toArray, List.set_cons_zero, List.set_cons_succ, i64_w, i32_w]
                        rfl
                      refine take_ (i := 3) (N := some 16) (v := ?_) (a' := ?_) #[true, true, true, true, true, true, true, false, false] rfl rfl (take_ofW HT_.out HW_.out (by kernel_rfl)) (fun _ _ _ h => h) (Or.inl ⟨by rfl, ?_⟩) hHeld ?_ ?_
                      rotate_left
                      · rintro w' ⟨s0, s1, s2, s3, s4, s5, s6, s7, s8, s9, s10, s11⟩
                        go_simp
                        with_reducible rfl
                      rotate_left
                      · simp only [Act.put, List.setIfInBounds_toArray, List.set_cons_zero, List.set_cons_succ, i64_w, i32_w]
                        rfl
                      refine take_ (i := 7) (N := some 20) (v := ?_) (a' := ?_) #[true, true, true, true, true, true, true, true, false] rfl rfl (take_ofW HT_.out HW_.out (by kernel_rfl)) (fun _ _ _ h => h) (Or.inl ⟨by rfl, ?_⟩) hHeld ?_ ?_
                      rotate_left
                      · rintro w' ⟨s0, s1, s2, s3, s4, s5, s6, s7, s8, s9, s10, s11⟩
                        go_simp
                        with_reducible rfl
                      rotate_left
                      · simp only [Act.put, List.setIfInBounds_toArray, List.set_cons_zero, List.set_cons_succ, i64_w, i32_w]
                        rfl
                      refine pure_ (i := 8) (N := some 21) (v := ?_) (a' := ?_) #[true, true, true, true, true, true, true, true, true] rfl rfl (any_of HT_.out (by kernel_rfl)) (fun _ _ _ h => h) (Or.inl ⟨by rfl, ?_⟩) ?_ ?_
                      rotate_left
                      · intro w'
                        go_simp
                        with_reducible rfl
                      rotate_left
                      · simp only [Act.put, List.setIfInBounds_toArray, List.set_cons_zero, List.set_cons_succ, i64_w, i32_w]
                        rfl
                      refine done_ (done_of HT_.out (by kernel_rfl)) ?_
                      try go_wp2
                      have n0_ := Aside0.mk (Kd.V_drew HO_0.out)
                      have n1_ := Aside0.mk (Kd.V_drew HO_1.out)
                      have n2_ := Aside0.mk (Kd.R_drew HO_4.out)
                      have n3_ := Aside0.mk (below_drew1 HB.out)
                      clear HO_0
                      clear HO_1
                      clear HO_4
                      clear HB
                      have HO_0 := n0_
                      have HO_1 := n1_
                      have HO_4 := n2_
                      have HB := n3_
                      clear n0_ n1_ n2_ n3_
                      have p121 : 0 ≤ (0 : Int) := (by omega)
                      have q121 : 0 < (x1_1.length : Int) := of_decide_eq_true (by first | (with_reducible assumption) | assumption)
                      obtain ⟨ad121, e121, hx121_0, hx121_1, hx121_2, hx121_3, hx121_4, hx121_5⟩ := at_T106 (Kd.V_reads' HO_1.out).2.2 0 p121 q121
                      obtain rfl : ad111 = ad121 := (by injection e121)
                      have qi121 : (0 < x1_1.length) = True := eq_true (by omega)
                      (try rw [show ((0 : Int)).toNat = 0 from rfl] at hx121_0)
                      (try rw [show 0 * 6 = 0 from rfl] at hx121_0)
                      (try rw [Addr.add_zero'] at hx121_0)
                      (try rw [show ((0 : Int)).toNat = 0 from rfl] at hx121_1)
                      (try rw [show 0 * 6 = 0 from rfl] at hx121_1)
                      (try rw [Addr.add_zero'] at hx121_1)
                      (try rw [show ((0 : Int)).toNat = 0 from rfl] at hx121_2)
                      (try rw [show 0 * 6 = 0 from rfl] at hx121_2)
                      (try rw [Addr.add_zero'] at hx121_2)
                      (try rw [show ((0 : Int)).toNat = 0 from rfl] at hx121_3)
                      (try rw [show 0 * 6 = 0 from rfl] at hx121_3)
                      (try rw [Addr.add_zero'] at hx121_3)
                      (try rw [show ((0 : Int)).toNat = 0 from rfl] at hx121_4)
                      (try rw [show 0 * 6 = 0 from rfl] at hx121_4)
                      (try rw [Addr.add_zero'] at hx121_4)
                      (try rw [show ((0 : Int)).toNat = 0 from rfl] at hx121_5)
                      (try rw [show 0 * 6 = 0 from rfl] at hx121_5)
                      (try rw [Addr.add_zero'] at hx121_5)
                      replace p121 := eq_true p121
                      replace q121 := eq_true q121
                      have q26 : (1 : Int) ≤ ((x1_1.length : Int) : Int) := of_decide_eq_true (by first | (with_reducible assumption) | assumption)
                      obtain ⟨i026, hi026, _, hsz26, _⟩ := info_parts info106
                      have hroom26 : x1_1.length ≤ co24 := (Kd.V_reads' HO_1.out).2.1
                      have hC26 : Kd.F k106 _ _ (some ad111) x1_1.length x1_1 := (Kd.V_at (base := w.heap.size) HO_1.out).2.2
                      have hcut26 := cut_from (P := Try.prog) 88 106 .i64 Try.underlying88 hi026 6 hsz26 (some ad111) x1_1.length co24 1 (by omega) q26
                      have hr26 := Kd.F_cut (m := (1 : Int).toNat) (c := co24) hC26 (by omega) hroom26
                      obtain ⟨A26, hA26⟩ : ∃ A1, A1 = (if co24 = (1 : Int).toNat then (some ad111) else ((some ad111) : Option Addr).map (·.add ((1 : Int).toNat * 6))) := ⟨_, rfl⟩
                      obtain ⟨c26, hc26⟩ : ∃ c1, c1 = co24 - (1 : Int).toNat := ⟨_, rfl⟩
                      have hy26 : y125.length = x1_1.length - (1 : Int).toNat := (by rw [Ny125.out, List.length_drop] <;> omega)
                      rw [show (x1_1).drop (1 : Int).toNat = y125 from Ny125.out.symm] at hr26
                      replace hr26 : Kd.F k106 _ _ A26 y125.length y125 := (by rw [hA26]; exact hr26)
                      rw [← hy26, ← hA26, ← hc26] at hcut26
                      have HO129 := Aside0.mk (show Kd.V k106 106 _ w.heap.size _ (.slice A26 y125.length c26) y125 from Kd.V_mk (by rw [hy26, hc26]; exact Nat.sub_le_sub_right hroom26 _) hr26)
                      have HC129 := Aside0.mk (show y125.length ≤ c26 from by rw [hy26, hc26]; exact Nat.sub_le_sub_right hroom26 _)
                      clear hr26 hC26 hroom26 hi026 hsz26 hc26
                      have KY26 := Aside0.mk hy26
                      have KA26 := Aside0.mk hA26
                      clear hy26 hA26
                      replace q26 := eq_true q26
                      refine start_ (n := 10) (S := fun w' => w'.cell? ad111 = some (.int .i64 ((rd_T106 x1_1 0).f0)) ∧ w'.cell? ⟨ad111.block, ad111.off + 1, none⟩ = some (.int .i64 ((rd_T106 x1_1 0).f1)) ∧ w'.cell? ⟨ad111.block, ad111.off + 2, none⟩ = some (.int .u8 ((rd_T106 x1_1 0).f2)) ∧ w'.cell? ⟨ad111.block, ad111.off + 3, none⟩ = some (.bool ((rd_T106 x1_1 0).f3)) ∧ w'.cell? ⟨ad111.block, ad111.off + 4, none⟩ = some (.int .i64 ((rd_T106 x1_1 0).f4)) ∧ w'.cell? ⟨ad111.block, ad111.off + 5, none⟩ = some (.int .i64 ((rd_T106 x1_1 0).f5))) (ds := [4, 5]) #[false, false, false, false, false, false, false, false, false, false] (by kernel_rfl) rfl rfl ⟨hx121_0, hx121_1, hx121_2, hx121_3, hx121_4, hx121_5⟩ (fun hHeld => ?_); refine with_tabW ramp_Merge.tab4 ramp_Merge.bits4 (fun HT_ HW_ => ?_)
                      generalize w22.drew = w25 at HO_0 HO_1 HO_4 HB HO129 hx121_0 hx121_1 hx121_2 hx121_3 hx121_4 hx121_5 hHeld ⊢
                      refine pure_ (i := 0) (N := some 30) (v := ?_) (a' := ?_) #[true, false, false, false, false, false, false, false, false, false] rfl rfl (any_of HT_.out (by kernel_rfl)) (fun _ _ _ h => h) (Or.inl ⟨by rfl, ?_⟩) ?_ ?_
                      rotate_left
                      · intro w'
                        go_simp
                        with_reducible rfl
                      rotate_left
                      · simp only [Act.put, List.setIfInBounds_toArray, List.set_cons_zero, List.set_cons_succ, i64_w, i32_w]
                        rfl
                      refine pure_ (i := 1) (N := some 31) (v := ?_) (a' := ?_) #[true, true, false, false, false, false, false, false, false, false] rfl rfl (any_of HT_.out (by kernel_rfl)) (fun _ _ _ h => h) (Or.inl ⟨by rfl, ?_⟩) ?_ ?_
                      rotate_left
                      · intro w'
                        go_simp
                        with_reducible rfl
                      rotate_left
                      · simp only [Act.put, List.setIfInBounds_toArray, List.set_cons_zero, List.set_cons_succ, i64_w, i32_w]
                        rfl
                      refine pure_ (i := 2) (N := some 32) (v := ?_) (a' := ?_) #[true, true, true, false, false, false, false, false, false, false] rfl rfl (any_of HT_.out (by kernel_rfl)) (fun _ _ _ h => h) (Or.inl ⟨by rfl, ?_⟩) ?_ ?_
                      rotate_left
                      · intro w'
                        go_simp
                        with_reducible rfl
                      rotate_left
                      · simp only [Act.put, List.setIfInBounds_toArray, List.set_cons_zero, List.set_cons_succ, i64_w, i32_w]
                        rfl
                      refine pure_ (i := 6) (N := some 36) (v := ?_) (a' := ?_) #[true, true, true, false, false, false, true, false, false, false] rfl rfl (any_of HT_.out (by kernel_rfl)) (fun _ _ _ h => h) (Or.inl ⟨by rfl, ?_⟩) ?_ ?_
                      rotate_left
                      · intro w'
                        go_simp
                        with_reducible rfl
                      rotate_left
                      · simp only [Act.put, List.setIfInBounds_toArray, List.set_cons_zero, List.set_cons_succ, i64_w, i32_w]
                        rfl
                      refine pure_ (i := 7) (N := some 37) (v := ?_) (a' := ?_) #[true, true, true, false, false, false, true, true, false, false] rfl rfl (any_of HT_.out (by kernel_rfl)) (fun _ _ _ h => h) (Or.inl ⟨by rfl, ?_⟩) ?_ ?_
                      rotate_left
                      · intro w'
                        go_simp
                        with_reducible rfl
                      rotate_left
                      · simp only [Act.put, List.setIfInBounds_toArray, List.set_cons_zero, List.set_cons_succ, i64_w, i32_w]
                        rfl
                      refine take_ (i := 3) (N := some 33) (v := ?_) (a' := ?_) #[true, true, true, true, false, false, true, true, false, false] rfl rfl (take_ofW HT_.out HW_.out (by kernel_rfl)) (fun _ _ _ h => h) (Or.inl ⟨by rfl, ?_⟩) hHeld ?_ ?_
                      rotate_left
                      · rintro w' ⟨s0, s1, s2, s3, s4, s5⟩
                        go_simp
                        with_reducible rfl
                      rotate_left
                      · simp only [Act.put, List.setIfInBounds_toArray, List.set_cons_zero, List.set_cons_succ, i64_w, i32_w]
                        rfl
                      refine last_ (i := 4) (N := some 34) #[true, true, true, true, true, false, true, true, false, false] rfl rfl (one_of HT_.out (by kernel_rfl)) (by decide) (fun K hK => ?_)
                      refine value_ (w1 := ?_) (v := ?_) (by rfl) rfl ?_ ?_
                      rotate_left 2
                      · go_simp
                        constructor
                        · rfl
                        · rfl
                      refine hK.out _ _ ?_
                      clear hK K
                      refine norm_ (a' := ?_) ?_ ?_
                      rotate_left
                      · show Act.put _ (some 34) _ = _
                        simp only [Act.put, List.setIfInBounds_toArray, List.set_cons_zero, List.set_cons_succ, i64_w, i32_w]
                        rfl
                      refine last_ (i := 5) (N := some 35) #[true, true, true, true, true, true, true, true, false, false] rfl rfl (one_of HT_.out (by kernel_rfl)) (by decide) (fun K hK => ?_)
                      refine Kd.R_append_step k106 (w0 := w) w.heap.size (by rfl) (.tmp 30) (.tmp 34) 88 106 (.agg #[(.int .i64 0), (.int .i64 0), (.int .u8 0), (.bool false), (.int .i64 0), (.int .i64 0)]) 40 rfl Try.underlying88 info106 rfl (by decide) (by omega) u4 x4_1 (⟨(rd_T106 x1_1 0).f0, (rd_T106 x1_1 0).f1, (rd_T106 x1_1 0).f2, (rd_T106 x1_1 0).f3, (rd_T106 x1_1 0).f4, (rd_T106 x1_1 0).f5⟩ : S106) [.int .i64 ((rd_T106 x1_1 0).f0), .int .i64 ((rd_T106 x1_1 0).f1), .int .u8 ((rd_T106 x1_1 0).f2), .bool ((rd_T106 x1_1 0).f3), .int .i64 ((rd_T106 x1_1 0).f4), .int .i64 ((rd_T106 x1_1 0).f5)] (fun k_ => (w.heap.size ≤ k_)) (fun _ => False) rfl rfl ?aP (fun _ hk => hk.elim) ?aF ?aO ?aB ?aS ?aL ?_
                      (case aP => exact k106_mkM _ _ _ (⟨(rd_T106 x1_1 0).f0, (rd_T106 x1_1 0).f1, (rd_T106 x1_1 0).f2, (rd_T106 x1_1 0).f3, (rd_T106 x1_1 0).f4, (rd_T106 x1_1 0).f5⟩ : S106))
                      (case aB => exact (by repeat (first | (with_reducible first | exact HB.out | apply below_alloc | apply pw_below_drewN | apply below_drew1) | exact HB.out)))
                      (case aF => exact (fun k_ hk => (Nat.le_trans (below_size (by repeat (first | (with_reducible first | exact HB.out | apply below_alloc | apply pw_below_drewN | apply below_drew1) | exact HB.out))) hk)))
                      (case aO => exact (by (with_reducible repeat (first | apply Kd.R_alloc | apply Kd.R_drewN | apply Kd.R_drew)); exact HO_4.out))
                      (case aS => exact (below_size (by repeat (first | (with_reducible first | exact HB.out | apply below_alloc | apply pw_below_drewN | apply below_drew1) | exact HB.out))))
                      (case aL => have := LMc20.out; omega)
                      intro v123 w27 ho hb hg hat
                      rw [← Ny122.out] at ho
                      have n0_ := Aside0.mk (Kd.V_afterv (ok := (fun k_ => ((P0_ k_ ∨ P1_ k_) ∨ w.heap.size ≤ k_))) (by (with_reducible repeat (first | apply Kd.V_alloc | apply Kd.V_drewN | apply Kd.V_drew)); exact HO_0.out) hg hat)
                      have n1_ := Aside0.mk (Kd.V_afterv (ok := (fun k_ => ((P0_ k_ ∨ P1_ k_) ∨ w.heap.size ≤ k_))) (by (with_reducible repeat (first | apply Kd.V_alloc | apply Kd.V_drewN | apply Kd.V_drew)); exact HO_1.out) hg hat)
                      have n2_ := Aside0.mk (Kd.V_afterv (ok := (fun k_ => ((P0_ k_ ∨ P1_ k_) ∨ w.heap.size ≤ k_))) (by (with_reducible repeat (first | apply Kd.V_alloc | apply Kd.V_drewN | apply Kd.V_drew)); exact HO129.out) hg hat)
                      have n3_ := Aside0.mk (hb)
                      have n4_ := Aside0.mk (ho)
                      clear HO_0
                      clear HO_1
                      clear HO129
                      clear HB
                      clear HO_4
                      have HO_0 := n0_
                      have HO_1 := n1_
                      have HO129 := n2_
                      have HB := n3_
                      have HO124 := n4_
                      clear n0_ n1_ n2_ n3_ n4_
                      clear ho hb hg hat
                      refine hK.out _ _ ?_
                      clear hK K
                      refine norm_ (a' := ?_) ?_ ?_
                      rotate_left
                      · show Act.put _ (some 35) _ = _
                        simp only [Act.put, List.setIfInBounds_toArray, List.set_cons_zero, List.set_cons_succ, i64_w, i32_w]
                        rfl
                      refine pure_ (i := 8) (N := some 4) (v := ?_) (a' := ?_) #[true, true, true, true, true, true, true, true, true, false] rfl rfl (any_of HT_.out (by kernel_rfl)) (fun _ _ _ h => h) (Or.inl ⟨by rfl, ?_⟩) ?_ ?_
                      rotate_left
                      · intro w'
                        go_simp
                        with_reducible rfl
                      rotate_left
                      · simp only [Act.put, List.setIfInBounds_toArray, List.set_cons_zero, List.set_cons_succ, i64_w, i32_w]
                        rfl
                      refine pure_ (i := 9) (N := some 1) (v := ?_) (a' := ?_) #[true, true, true, true, true, true, true, true, true, true] rfl rfl (any_of HT_.out (by kernel_rfl)) (fun _ _ _ h => h) (Or.inl ⟨by rfl, ?_⟩) ?_ ?_
                      rotate_left
                      · intro w'
                        go_simp
                        with_reducible rfl
                      rotate_left
                      · simp only [Act.put, List.setIfInBounds_toArray, List.set_cons_zero, List.set_cons_succ, i64_w, i32_w]
                        rfl
                      refine done_ (done_of HT_.out (by kernel_rfl)) ?_
                      try go_wp2
                      go_roundg kj2
                      case measure => have := HK1.out; have := HJ2.out; omega
                      case rel => exact ⟨(x0_1), (y125), (y122), H', ⟨by have := HK1.out; have := HJ2.out; omega⟩, ⟨by (with_reducible repeat (first | apply Kd.V_alloc | apply Kd.V_drewN | apply Kd.V_drew)); exact HO_0.out⟩, ⟨by (with_reducible repeat (first | apply Kd.V_alloc | apply Kd.V_drewN | apply Kd.V_drew)); exact HO129.out⟩, ⟨by (with_reducible repeat (first | apply Kd.R_alloc | apply Kd.R_drewN | apply Kd.R_drew)); exact HO124.out⟩, ⟨by repeat (first | (with_reducible first | exact HB.out | apply below_alloc | apply pw_below_drewN | apply below_drew1) | exact HB.out)⟩⟩
                    · rw [if_neg c21] at H
                      exact absurd H (by simp)
                  · rw [if_neg c20] at H
                    exact absurd H (by simp)
              · rw [if_neg c10] at H
                exact absurd H (by simp)
            · rw [if_neg c9] at H
              exact absurd H (by simp)
          · replace c8 := Bool.eq_false_iff.mpr c8
            subst c8
            have H1 : (if x4_1.length + x0_1.length < 3518437208883 then ((some (x4_1 ++ x0_1 : List (S106))).bind fun y130 => (if y130.length + x1_1.length < 3518437208883 then (some (y130 ++ x1_1)) else (none))) else (none)) = some r := by rw [if_neg (show ¬ (false = true) by decide)] at H; exact H
            clear H
            have H := H1
            clear H1
            by_cases c28 : x4_1.length + x0_1.length < 3518437208883
            · rw [if_pos c28] at H
              have LMc28 := Aside0.mk c28
              clear c28
              obtain ⟨y130, hy130⟩ : ∃ y_ : List (S106), y_ = (x4_1 ++ x0_1) := ⟨_, rfl⟩
              replace H : (if y130.length + x1_1.length < 3518437208883 then (some (y130 ++ x1_1)) else (none)) = some r := by first | (rw [hy130]; with_reducible exact H) | (have H2_ := (Option.bind_some _ _).symm.trans H; rw [hy130]; with_reducible exact H2_) | (have H2_ := (Option.bind_some _ _).symm.trans H; with_reducible exact H2_) | with_reducible exact H | (rw [hy130]; exact H) | exact H
              have Ny130 := Aside0.mk hy130
              clear hy130
              by_cases c29 : y130.length + x1_1.length < 3518437208883
              · rw [if_pos c29] at H
                have LMc29 := Aside0.mk c29
                clear c29
                obtain ⟨y133, hy133⟩ : ∃ y_ : List (S106), y_ = (y130 ++ x1_1) := ⟨_, rfl⟩
                replace H : (some y133) = some r := by first | (rw [hy133]; with_reducible exact H) | (have H2_ := (Option.bind_some _ _).symm.trans H; rw [hy133]; with_reducible exact H2_) | (have H2_ := (Option.bind_some _ _).symm.trans H; with_reducible exact H2_) | with_reducible exact H | (rw [hy133]; exact H) | exact H
                have Ny133 := Aside0.mk hy133
                clear hy133
                obtain rfl := Option.some.inj H
                obtain ⟨Ao31, co31, eo31⟩ := Kd.V_slice HO_0.out
                subst eo31
                go_wp2_with (first | ((with_reducible refine gate_builtin (b := .append) (xs := #[.tmp 38, .tmp 39]) rfl ?_); (try (refine gate_guard (by rfl) ?_; dsimp only)); at_builtin; refine Kd.R_append_rows k106 (w0 := w) w.heap.size rfl (.tmp 38) (.tmp 39) 88 106 (.agg #[(.int .i64 0), (.int .i64 0), (.int .u8 0), (.bool false), (.int .i64 0), (.int .i64 0)]) 40 rfl Try.underlying88 info106 rfl (by decide) (by omega) u4 x4_1 x0_1 _ _ _ (fun k_ => (w.heap.size ≤ k_)) (fun _ => False) rfl rfl ?aO ?aR (fun _ _ h => h) (fun _ h => h.elim) ?aF ?aB ?aS ?aL ?_; (case aR => repeat (first | exact (Kd.V_reads' HO_0.out).2.2 | (with_reducible refine Kd.C_alloc ?_ _) | (with_reducible refine Kd.C_drewN ?_ _) | (with_reducible refine Kd.C_drew ?_))); (case aB => exact (by repeat (first | (with_reducible first | exact HB.out | apply below_alloc | apply pw_below_drewN | apply below_drew1) | exact HB.out))); (case aF => exact (fun k_ hk => (Nat.le_trans (below_size (by repeat (first | (with_reducible first | exact HB.out | apply below_alloc | apply pw_below_drewN | apply below_drew1) | exact HB.out))) hk))); (case aO => exact (by (with_reducible repeat (first | apply Kd.R_alloc | apply Kd.R_drewN | apply Kd.R_drew)); exact HO_4.out)); (case aS => exact (below_size (by repeat (first | (with_reducible first | exact HB.out | apply below_alloc | apply pw_below_drewN | apply below_drew1) | exact HB.out)))); (case aL => have := LMc28.out; omega); intro v131 w30 ho hb hg hat; rw [← Ny130.out] at ho; have n0_ := Aside0.mk (Kd.V_afterv (ok := (fun k_ => ((P0_ k_ ∨ P1_ k_) ∨ w.heap.size ≤ k_))) (by (with_reducible repeat (first | apply Kd.V_alloc | apply Kd.V_drewN | apply Kd.V_drew)); exact HO_0.out) hg hat); have n1_ := Aside0.mk (Kd.V_afterv (ok := (fun k_ => ((P0_ k_ ∨ P1_ k_) ∨ w.heap.size ≤ k_))) (by (with_reducible repeat (first | apply Kd.V_alloc | apply Kd.V_drewN | apply Kd.V_drew)); exact HO_1.out) hg hat); have n2_ := Aside0.mk (hb); have n3_ := Aside0.mk (ho); clear HO_0; clear HO_1; clear HB; clear HO_4; have HO_0 := n0_; have HO_1 := n1_; have HB := n2_; have HO132 := n3_; clear n0_ n1_ n2_ n3_; clear ho hb hg hat; obtain ⟨Ao33, co33, eo33⟩ := Kd.V_slice HO_1.out; subst eo33) | ((with_reducible refine gate_builtin (b := .append) (xs := #[.tmp 40, .tmp 41]) rfl ?_); (try (refine gate_guard (by rfl) ?_; dsimp only)); at_builtin; refine Kd.R_append_rows k106 (w0 := w) w.heap.size rfl (.tmp 40) (.tmp 41) 88 106 (.agg #[(.int .i64 0), (.int .i64 0), (.int .u8 0), (.bool false), (.int .i64 0), (.int .i64 0)]) 40 rfl Try.underlying88 info106 rfl (by decide) (by omega) v131 y130 x1_1 _ _ _ (fun k_ => (w.heap.size ≤ k_)) (fun _ => False) rfl rfl ?aO ?aR (fun _ _ h => h) (fun _ h => h.elim) ?aF ?aB ?aS ?aL ?_; (case aR => repeat (first | exact (Kd.V_reads' HO_1.out).2.2 | (with_reducible refine Kd.C_alloc ?_ _) | (with_reducible refine Kd.C_drewN ?_ _) | (with_reducible refine Kd.C_drew ?_))); (case aB => exact (by repeat (first | (with_reducible first | exact HB.out | apply below_alloc | apply pw_below_drewN | apply below_drew1) | exact HB.out))); (case aF => exact (fun k_ hk => (Nat.le_trans (below_size (by repeat (first | (with_reducible first | exact HB.out | apply below_alloc | apply pw_below_drewN | apply below_drew1) | exact HB.out))) hk))); (case aO => exact (by (with_reducible repeat (first | apply Kd.R_alloc | apply Kd.R_drewN | apply Kd.R_drew)); exact HO132.out)); (case aS => exact (below_size (by repeat (first | (with_reducible first | exact HB.out | apply below_alloc | apply pw_below_drewN | apply below_drew1) | exact HB.out)))); (case aL => have := LMc29.out; omega); intro v134 w32 ho hb hg hat; rw [← Ny133.out] at ho; have n0_ := Aside0.mk (Kd.V_afterv (ok := (fun k_ => ((P0_ k_ ∨ P1_ k_) ∨ w.heap.size ≤ k_))) (by (with_reducible repeat (first | apply Kd.V_alloc | apply Kd.V_drewN | apply Kd.V_drew)); exact HO_0.out) hg hat); have n1_ := Aside0.mk (Kd.V_afterv (ok := (fun k_ => ((P0_ k_ ∨ P1_ k_) ∨ w.heap.size ≤ k_))) (by (with_reducible repeat (first | apply Kd.V_alloc | apply Kd.V_drewN | apply Kd.V_drew)); exact HO_1.out) hg hat); have n2_ := Aside0.mk (hb); have n3_ := Aside0.mk (ho); clear HO_0; clear HO_1; clear HB; clear HO132; have HO_0 := n0_; have HO_1 := n1_; have HB := n2_; have HO135 := n3_; clear n0_ n1_ n2_ n3_; clear ho hb hg hat))
                go_ret
                exact ⟨_, by first | rfl | (simp [errW_none, errW_some] <;> rfl) | (simp [*, errW_none, errW_some] <;> rfl), by (with_reducible repeat (first | apply Kd.R_alloc | apply Kd.R_drewN | apply Kd.R_drew)); exact HO135.out, by repeat (first | (with_reducible first | exact HB.out | apply below_alloc | apply pw_below_drewN | apply below_drew1) | exact HB.out)⟩
              · rw [if_neg c29] at H
                exact absurd H (by simp)
            · rw [if_neg c28] at H
              exact absurd H (by simp)

end Go.Proofs.Ytballgciakljnaa.PRampLast

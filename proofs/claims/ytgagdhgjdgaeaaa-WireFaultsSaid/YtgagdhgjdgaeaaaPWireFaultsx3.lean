-- Written by a program of this session, in the form of the kit's print, some functions by hand (N.B. not a file of print.sh's).
import Derived.Test.YtgagdhgjdgaeaaaPWireFaultsx0
import Derived.Test.YtgagdhgjdgaeaaaPWireFaultsx2
namespace Go.Proofs.Ytgagdhgjdgaeaaa.PWireFaults
open Go.RowKit Go.Proofs.YtgagdhgjdgaeaaaW.PrintWords Go.Proofs.YtgagdhgjdgaeaaaW.PrintLast Go.Proofs.YtgagdhgjdgaeaaaW.PrintMore Go.Proofs.YtgagdhgjdgaeaaaM
attribute [local go_sem] max2_int min2_int max_two min_two max_three min_three max_four min_four   -- for this text's walks alone
set_option linter.unusedVariables false
set_option linter.unusedSimpArgs false

/-! ### wire_Of: function 8 -/
mutual
def wire_Of.j0 : Nat → List Int → Int → Bool → Int → Int → Int → Int → Option ((List (S52)))
  | 0, _, _, _, _, _, _, _ => none
  | k + 1, x0, x1, x18, x122000, x122001, x122002, x122003 => if x18 = true then (some ([] : List (S52))) else (if 0 ≤ (x0.length : Int) then (if ((x0.length : Int) : Int).toNat ≤ 17592186044416 then (wire_Of.l0 k x1 (List.replicate ((x0.length : Int) : Int).toNat z52) x0 (x0.length : Int) 0 x122000 x122001 x122002 x122003) else (none)) else (none))
def wire_Of.l0 : Nat → Int → List (S52) → List Int → Int → Int → Int → Int → Int → Int → Option ((List (S52)))
  | 0, _, _, _, _, _, _, _, _, _ => none
  | k + 1, x1, x7, x22, x23, x24, x122000, x122001, x122002, x122003 => if x24 < x23 then (if 0 ≤ x24 then (if x24 < (x22.length : Int) then ((clock_Add.f x1 x122000).bind fun t128 => (if x24 < (x7.length : Int) then (wire_Of.l0 k t128 (x7.set (x24 : Int).toNat (⟨t128, rd x22 x24, false⟩ : S52)) x22 x23 (wrap64 (x24 + 1)) x122000 x122001 x122002 x122003) else (none))) else (none)) else (none)) else (some x7)
end
def wire_Of.f (k : Nat) (l0 : List Int) (a1 : Int) (a2_0 : Int) (a2_1 : Int) (a2_2 : Int) (a2_3 : Int) : Option ((List (S52))) := (clock_Right.f a2_0 a2_1 a2_2 a2_3).bind fun t122 => (if t122 = true then ((clock_Clamp.f a1).bind fun t123 => (wire_Of.j0 k l0 a1 (t123 != a1) a2_0 a2_1 a2_2 a2_3)) else (wire_Of.j0 k l0 a1 true a2_0 a2_1 a2_2 a2_3))
theorem wire_Of.mono_l : ∀ k, (∀ y0 y1 y2 y3 y4 y5 y6, LeO (wire_Of.j0 k y0 y1 y2 y3 y4 y5 y6) (wire_Of.j0 (k + 1) y0 y1 y2 y3 y4 y5 y6)) ∧ (∀ y0 y1 y2 y3 y4 y5 y6 y7 y8, LeO (wire_Of.l0 k y0 y1 y2 y3 y4 y5 y6 y7 y8) (wire_Of.l0 (k + 1) y0 y1 y2 y3 y4 y5 y6 y7 y8))
  | 0 => ⟨fun _ _ _ _ _ _ _ r h => by simp [wire_Of.j0] at h, fun _ _ _ _ _ _ _ _ _ r h => by simp [wire_Of.l0] at h⟩
  | k + 1 => by
    obtain ⟨ih0, ih1⟩ := wire_Of.mono_l k
    refine ⟨?_, ?_⟩
    · intro y0 y1 y2 y3 y4 y5 y6
      unfold wire_Of.j0
      repeat' first
      | (with_reducible exact ih0 _ _ _ _ _ _ _)
      | (with_reducible exact ih1 _ _ _ _ _ _ _ _ _)
      | (with_reducible exact LeO.refl _)
      | (with_reducible exact LeO.none _)
      | (with_reducible refine LeO.ite ?_ ?_)
      | (with_reducible refine LeO.bind ?_ (fun _ => ?_))
      | exact ih0 _ _ _ _ _ _ _
      | exact ih1 _ _ _ _ _ _ _ _ _
      | exact LeO.none _
      | refine LeO.ite ?_ ?_
      | refine LeO.bind ?_ (fun _ => ?_)
    · intro y0 y1 y2 y3 y4 y5 y6 y7 y8
      unfold wire_Of.l0
      repeat' first
      | (with_reducible exact ih0 _ _ _ _ _ _ _)
      | (with_reducible exact ih1 _ _ _ _ _ _ _ _ _)
      | (with_reducible exact LeO.refl _)
      | (with_reducible exact LeO.none _)
      | (with_reducible refine LeO.ite ?_ ?_)
      | (with_reducible refine LeO.bind ?_ (fun _ => ?_))
      | exact ih0 _ _ _ _ _ _ _
      | exact ih1 _ _ _ _ _ _ _ _ _
      | exact LeO.none _
      | refine LeO.ite ?_ ?_
      | refine LeO.bind ?_ (fun _ => ?_)
theorem wire_Of.mono : ∀ a0 a1 a2 a3 a4 a5 k, LeO (wire_Of.f k a0 a1 a2 a3 a4 a5) (wire_Of.f (k + 1) a0 a1 a2 a3 a4 a5) := by
  intro a0 a1 a2 a3 a4 a5 k
  obtain ⟨ih0, ih1⟩ := wire_Of.mono_l k
  unfold wire_Of.f
  repeat' first
      | (with_reducible exact ih0 _ _ _ _ _ _ _)
      | (with_reducible exact ih1 _ _ _ _ _ _ _ _ _)
      | (with_reducible exact LeO.refl _)
      | (with_reducible exact LeO.none _)
      | (with_reducible refine LeO.ite ?_ ?_)
      | (with_reducible refine LeO.bind ?_ (fun _ => ?_))
      | exact ih0 _ _ _ _ _ _ _
      | exact ih1 _ _ _ _ _ _ _ _ _
      | exact LeO.none _
      | refine LeO.ite ?_ ?_
      | refine LeO.bind ?_ (fun _ => ?_)
set_option maxHeartbeats 8000000 in
set_option maxRecDepth 100000 in
theorem wire_Of.calls (k : Nat) (A0 : Option Addr) (c0 : Nat) (l0 : List Int) (a1 : Int) (a2_0 : Int) (a2_1 : Int) (a2_2 : Int) (a2_3 : Int) (r : List (S52)) (w : World) (hr0 : Kd.C (Kd.int .u8) w A0 l0.length l0) (hc0 : l0.length ≤ c0) (h : wire_Of.f k l0 a1 a2_0 a2_1 a2_2 a2_3 = some r) :
    Calls Try.prog 8 #[.slice A0 l0.length c0, .int .i64 a1, .agg #[.int .i64 a2_0, .int .i64 a2_1, .int .i64 a2_2, .int .i64 a2_3]] w fun e w' => ∃ v0_ : Value, e = .returned (v0_) ∧ Kd.R k52 52 w' w.heap.size (fun _ => True) v0_ r ∧ Below w.heap.size w w' := by
  have hu24 := Try.underlying24
  have hu52 := Try.underlying52
  have HR0 := Aside0.mk hr0
  have HC0 := Aside0.mk hc0
  clear hr0 hc0
  have HB := Aside0.mk (Below.refl w.heap.size w)
  have H : ((clock_Right.f a2_0 a2_1 a2_2 a2_3).bind fun t122 => (if t122 = true then ((clock_Clamp.f a1).bind fun t123 => (wire_Of.j0 k l0 a1 (t123 != a1) a2_0 a2_1 a2_2 a2_3)) else (wire_Of.j0 k l0 a1 true a2_0 a2_1 a2_2 a2_3))) = some r := h
  clear h
  have HC4 := Aside0.mk H
  clear H
  go_enter Try.func8, Try.ntmps8
  go_upto_region 1 with (first | ((with_reducible refine gate_dst (N := 5) rfl ?_); refine box_event ?hg (N := 5) ?hd (cs := #[.int .i64 a2_0, .int .i64 a2_1, .int .i64 a2_2, .int .i64 a2_3]) (t := 24) ?hr ?_; (case hd => rfl); (case hg => rfl); (case hr => first | (go_simp; done) | (go_simp; rfl)); intro gb121 hg w5 hbox hb; have n0_ := Aside0.mk (below_step (by repeat (first | (with_reducible first | exact HB.out | apply below_alloc | apply pw_below_drewN | apply below_drew1) | exact HB.out)) hb); have n1_ := Aside0.mk (hbox); have n2_ := Aside0.mk ((by rw [hg]; exact (below_size (by repeat (first | (with_reducible first | exact HB.out | apply below_alloc | apply pw_below_drewN | apply below_drew1) | exact HB.out))) : w.heap.size ≤ gb121)); have n3_ := Aside0.mk ((by rw [hg]; exact (below_size (by repeat (first | (with_reducible first | exact HB.out | apply below_alloc | apply pw_below_drewN | apply below_drew1) | exact HB.out))) : w.heap.size ≤ gb121)); clear HB; have HB := n0_; have BK121 := n1_; have GW121 := n2_; have GE121 := n3_; clear n0_ n1_ n2_ n3_; clear hb hbox hg))
  (try simp only [Act.put, List.setIfInBounds_toArray, List.set_cons_zero, List.set_cons_succ])
  go_cut [18] (fun v18 wc => ∃ (kq : Nat) (x18_3 : Bool), v18 = .bool x18_3 ∧ Aside0 (wire_Of.j0 kq l0 a1 x18_3 a2_0 a2_1 a2_2 a2_3 = some r) ∧ Aside0 (kq ≤ k) ∧ Aside0 (wc.heap[gb121]? = some (.cells #[.int .i64 a2_0, .int .i64 a2_1, .int .i64 a2_2, .int .i64 a2_3] 24 (0, 0))) ∧ Aside0 (Below w.heap.size w wc))
  case first =>
    have H := HC4.out
    clear HC4
    replace H := Option.bind_eq_some_iff.mp H
    obtain ⟨t122, A60, H⟩ := H
    replace H : (if t122 = true then ((clock_Clamp.f a1).bind fun t123 => (wire_Of.j0 k l0 a1 (t123 != a1) a2_0 a2_1 a2_2 a2_3)) else (wire_Of.j0 k l0 a1 true a2_0 a2_1 a2_2 a2_3)) = some r := H
    have A6 := Aside0.mk A60
    clear A60
    by_cases c7 : t122 = true
    · subst c7
      have H1 : ((clock_Clamp.f a1).bind fun t123 => (wire_Of.j0 k l0 a1 (t123 != a1) a2_0 a2_1 a2_2 a2_3)) = some r := by rw [if_pos rfl] at H; exact H
      clear H
      have H := H1
      clear H1
      replace H := Option.bind_eq_some_iff.mp H
      obtain ⟨t123, A80, H⟩ := H
      replace H : (wire_Of.j0 k l0 a1 (t123 != a1) a2_0 a2_1 a2_2 a2_3) = some r := H
      have A8 := Aside0.mk A80
      clear A80
      have H' := Aside0.mk H
      clear H
      have hcz9_0 : w5.cell? ⟨gb121, 0, none⟩ = some (.int .i64 a2_0) := (blk_cell BK121.out 0).trans rfl
      have hcz9_1 : w5.cell? ⟨gb121, 1, none⟩ = some (.int .i64 a2_1) := (blk_cell BK121.out 1).trans rfl
      have hcz9_2 : w5.cell? ⟨gb121, 2, none⟩ = some (.int .i64 a2_2) := (blk_cell BK121.out 2).trans rfl
      have hcz9_3 : w5.cell? ⟨gb121, 3, none⟩ = some (.int .i64 a2_3) := (blk_cell BK121.out 3).trans rfl
      have hfz9_0 := blk_frozen BK121.out 0
      have hfz9_1 := blk_frozen BK121.out 1
      have hfz9_2 := blk_frozen BK121.out 2
      have hfz9_3 := blk_frozen BK121.out 3
      go_wp2_with (first | ((with_reducible refine gate_callee (f := 22) rfl ?_); refine goesL_ (some 11) rfl rfl Try.func22 (by kernel_rfl) rfl #[.agg #[.int .i64 a2_0, .int .i64 a2_1, .int .i64 a2_2, .int .i64 a2_3]] rfl (by (try simp only [List.map_toArray, List.map_cons, List.map_nil]); first | done | rfl | (simp only [List.length_drop, List.length_take]; rfl)) ?_; (with_reducible refine (clock_Right.calls a2_0 a2_1 a2_2 a2_3 true _ A6.out).mono ?_); rintro e w10 ⟨rfl, hb⟩; refine ⟨_, rfl, ?_⟩; have n0_ := Aside0.mk (blk_below (g := gb121) (o := .cells #[.int .i64 a2_0, .int .i64 a2_1, .int .i64 a2_2, .int .i64 a2_3] 24 (0, 0)) (by (with_reducible repeat (first | refine blk_drewN ?_ _ | refine blk_drew ?_ | refine blk_alloc ?_ _)); exact BK121.out) hb); have n1_ := Aside0.mk (below_step (by repeat (first | (with_reducible first | exact HB.out | apply below_alloc | apply pw_below_drewN | apply below_drew1 | refine below_set ?_ GE121.out) | exact HB.out)) hb); clear BK121; clear HB; have BK121 := n0_; have HB := n1_; clear n0_ n1_; (try clear hb); (try clear hb2); (try clear hk); (try clear hi)) | (go_at_call 23; (with_reducible refine (clock_Clamp.calls a1 t123 _ A8.out).mono ?_); rintro e w' ⟨rfl, ⟨nd, rfl⟩⟩))
      go_meet
      case rel => exact ⟨_, ((t123 != a1)), (by first | rfl | (simp; done) | (simp [*]; done)), H', ⟨by first | omega | exact Nat.le_refl _⟩, ⟨by (with_reducible repeat (first | refine blk_drewN ?_ _ | refine blk_drew ?_ | refine blk_alloc ?_ _)); exact BK121.out⟩, ⟨by repeat (first | (with_reducible first | exact HB.out | apply below_alloc | apply pw_below_drewN | apply below_drew1 | refine below_set ?_ GE121.out) | exact HB.out)⟩⟩
    · replace c7 := Bool.eq_false_iff.mpr c7
      subst c7
      have H1 : (wire_Of.j0 k l0 a1 true a2_0 a2_1 a2_2 a2_3) = some r := by rw [if_neg (show ¬ (false = true) by decide)] at H; exact H
      clear H
      have H := H1
      clear H1
      have H' := Aside0.mk H
      clear H
      have hcz11_0 : w5.cell? ⟨gb121, 0, none⟩ = some (.int .i64 a2_0) := (blk_cell BK121.out 0).trans rfl
      have hcz11_1 : w5.cell? ⟨gb121, 1, none⟩ = some (.int .i64 a2_1) := (blk_cell BK121.out 1).trans rfl
      have hcz11_2 : w5.cell? ⟨gb121, 2, none⟩ = some (.int .i64 a2_2) := (blk_cell BK121.out 2).trans rfl
      have hcz11_3 : w5.cell? ⟨gb121, 3, none⟩ = some (.int .i64 a2_3) := (blk_cell BK121.out 3).trans rfl
      have hfz11_0 := blk_frozen BK121.out 0
      have hfz11_1 := blk_frozen BK121.out 1
      have hfz11_2 := blk_frozen BK121.out 2
      have hfz11_3 := blk_frozen BK121.out 3
      go_wp2_with (first | ((with_reducible refine gate_callee (f := 22) rfl ?_); refine goesL_ (some 11) rfl rfl Try.func22 (by kernel_rfl) rfl #[.agg #[.int .i64 a2_0, .int .i64 a2_1, .int .i64 a2_2, .int .i64 a2_3]] rfl (by (try simp only [List.map_toArray, List.map_cons, List.map_nil]); first | done | rfl | (simp only [List.length_drop, List.length_take]; rfl)) ?_; (with_reducible refine (clock_Right.calls a2_0 a2_1 a2_2 a2_3 false _ A6.out).mono ?_); rintro e w12 ⟨rfl, hb⟩; refine ⟨_, rfl, ?_⟩; have n0_ := Aside0.mk (blk_below (g := gb121) (o := .cells #[.int .i64 a2_0, .int .i64 a2_1, .int .i64 a2_2, .int .i64 a2_3] 24 (0, 0)) (by (with_reducible repeat (first | refine blk_drewN ?_ _ | refine blk_drew ?_ | refine blk_alloc ?_ _)); exact BK121.out) hb); have n1_ := Aside0.mk (below_step (by repeat (first | (with_reducible first | exact HB.out | apply below_alloc | apply pw_below_drewN | apply below_drew1 | refine below_set ?_ GE121.out) | exact HB.out)) hb); clear BK121; clear HB; have BK121 := n0_; have HB := n1_; clear n0_ n1_; (try clear hb); (try clear hb2); (try clear hk); (try clear hi)))
      go_meet
      case rel => exact ⟨_, (true), (by first | rfl | (simp; done) | (simp [*]; done)), H', ⟨by first | omega | exact Nat.le_refl _⟩, ⟨by (with_reducible repeat (first | refine blk_drewN ?_ _ | refine blk_drew ?_ | refine blk_alloc ?_ _)); exact BK121.out⟩, ⟨by repeat (first | (with_reducible first | exact HB.out | apply below_alloc | apply pw_below_drewN | apply below_drew1 | refine below_set ?_ GE121.out) | exact HB.out)⟩⟩
  case rest =>
    clear HC4
    try clear c2
    try clear p2
    try clear c7
    try clear c8
    try clear hcz11_0
    try clear hcz11_1
    try clear hcz11_2
    try clear hcz11_3
    try clear hcz9_0
    try clear hcz9_1
    try clear hcz9_2
    try clear hcz9_3
    try clear hfz11_0
    try clear hfz11_1
    try clear hfz11_2
    try clear hfz11_3
    try clear hfz9_0
    try clear hfz9_1
    try clear hfz9_2
    try clear hfz9_3
    obtain ⟨kq, x18_3, rfl, HA, HJ3, BK121, HB⟩ := hcut
    cases kq with
    | zero => exact absurd HA.out (by simp [wire_Of.j0])
    | succ kj3 =>
      have H := HA.out
      clear HA
      simp only [wire_Of.j0] at H
      by_cases c13 : x18_3 = true
      · subst c13
        have H1 : (some ([] : List (S52))) = some r := by rw [if_pos rfl] at H; exact H
        clear H
        have H := H1
        clear H1
        obtain rfl := Option.some.inj H
        go_wp2
        go_ret
        exact ⟨_, by first | rfl | (simp [errW_none, errW_some] <;> rfl) | (simp [*, errW_none, errW_some] <;> rfl), by first | exact Kd.R_nil _ _ _ _ _ | exact Kd.N_nil _ _ _ _ _ | exact Kd.V_nil _ _ _ _ _ | exact Kd.Q_nil _ _ _ _ _ | exact Kd.S_nil _ _ _ _ _, by repeat (first | (with_reducible first | exact HB.out | apply below_alloc | apply pw_below_drewN | apply below_drew1 | refine below_set ?_ GE121.out) | exact HB.out)⟩
      · replace c13 := Bool.eq_false_iff.mpr c13
        subst c13
        have H1 : (if 0 ≤ (l0.length : Int) then (if ((l0.length : Int) : Int).toNat ≤ 17592186044416 then (wire_Of.l0 kj3 a1 (List.replicate ((l0.length : Int) : Int).toNat z52) l0 (l0.length : Int) 0 a2_0 a2_1 a2_2 a2_3) else (none)) else (none)) = some r := by rw [if_neg (show ¬ (false = true) by decide)] at H; exact H
        clear H
        have H := H1
        clear H1
        by_cases c14 : 0 ≤ (l0.length : Int)
        · rw [if_pos c14] at H
          have c14b0 := eq_true c14
          have c14b1 : decide (0 ≤ (l0.length : Int)) = true := decide_eq_true c14
          clear c14
          by_cases c15 : ((l0.length : Int) : Int).toNat ≤ 17592186044416
          · rw [if_pos c15] at H
            have c15b0 := eq_true c15
            have c15b1 : decide (((l0.length : Int) : Int).toNat ≤ 17592186044416) = true := decide_eq_true c15
            clear c15
            obtain ⟨y124, hy124⟩ : ∃ y_ : List (S52), y_ = (List.replicate ((l0.length : Int) : Int).toNat z52) := ⟨_, rfl⟩
            replace H : (wire_Of.l0 kj3 a1 y124 l0 (l0.length : Int) 0 a2_0 a2_1 a2_2 a2_3) = some r := by first | (rw [hy124]; with_reducible exact H) | (have H2_ := (Option.bind_some _ _).symm.trans H; rw [hy124]; with_reducible exact H2_) | (have H2_ := (Option.bind_some _ _).symm.trans H; with_reducible exact H2_) | with_reducible exact H | (rw [hy124]; exact H) | exact H
            have Ny124 := Aside0.mk hy124
            clear hy124
            have H' := Aside0.mk H
            clear H
            go_wp2_with (first | ((with_reducible refine gate_dst (N := 21) rfl ?_); refine Kd.R_make k52 _ 52 rfl (N := 21) rfl 31 _ _ rfl (l0.length : Int) rfl rfl Try.underlying31 (.agg #[(.int .i64 0), (.int .u8 0), (.bool false)]) 16 info52 rfl (by decide) (by omega) z52 (ok := fun _ => True) (okp := fun _ => True) (k52_mkM _ _ _ z52 ) (fun _ hk => hk) trivial (of_decide_eq_true (by first | (with_reducible assumption) | assumption)) (Nat.le_trans (Nat.mul_le_mul_right _ (of_decide_eq_true (by first | (with_reducible assumption) | assumption) : (l0.length : Int).toNat ≤ 17592186044416)) (by omega)) (Below.refl _ _) (Nat.le_refl _) ?_; intro v125 w16 ho17 hb hg_ hnew_; clear hg_ hnew_; (first | rw [← Ny124.out] at ho17 | (simp only [Int.reduceToNat] at ho17; rw [← Ny124.out] at ho17)); have n0_ := Aside0.mk (Kd.R_lower ho17 (below_size (by repeat (first | (with_reducible first | exact HB.out | apply below_alloc | apply pw_below_drewN | apply below_drew1 | refine below_set ?_ GE121.out) | exact HB.out)))); have n1_ := Aside0.mk (blk_below (g := gb121) (o := .cells #[.int .i64 a2_0, .int .i64 a2_1, .int .i64 a2_2, .int .i64 a2_3] 24 (0, 0)) (by (with_reducible repeat (first | refine blk_drewN ?_ _ | refine blk_drew ?_ | refine blk_alloc ?_ _)); exact BK121.out) hb); have n2_ := Aside0.mk (below_step (by repeat (first | (with_reducible first | exact HB.out | apply below_alloc | apply pw_below_drewN | apply below_drew1 | refine below_set ?_ GE121.out) | exact HB.out)) hb); clear BK121; clear HB; have HO126 := n0_; have BK121 := n1_; have HB := n2_; clear n0_ n1_ n2_; clear hb ho17))
            go_loopg [1, 24] kj3 (fun kq v1 v24 w' => ∃ (x1_2 : Int) (x7_2 : List (S52)) (x24_2 : Int), v1 = .int .i64 x1_2 ∧ v24 = .int .i64 x24_2 ∧ Aside0 (wire_Of.l0 kq x1_2 x7_2 l0 (l0.length : Int) x24_2 a2_0 a2_1 a2_2 a2_3 = some r) ∧ Aside0 (kq ≤ kj3) ∧ Aside0 (Kd.R k52 52 w' w.heap.size (fun _ => True) v125 x7_2) ∧ Aside0 (w'.heap[gb121]? = some (.cells #[.int .i64 a2_0, .int .i64 a2_1, .int .i64 a2_2, .int .i64 a2_3] 24 (0, 0))) ∧ Aside0 (Below w.heap.size w w'))
            case atStart => exact ⟨(a1), (y124), (0), (by first | rfl | (simp; done) | (simp [*]; done)), (by first | rfl | (simp; done) | (simp [*]; done)), H', ⟨Nat.le_refl _⟩, ⟨by (with_reducible repeat (first | apply Kd.R_alloc | apply Kd.R_drewN | apply Kd.R_drew)); exact HO126.out⟩, ⟨by (with_reducible repeat (first | refine blk_drewN ?_ _ | refine blk_drew ?_ | refine blk_alloc ?_ _)); exact BK121.out⟩, ⟨by repeat (first | (with_reducible first | exact HB.out | apply below_alloc | apply pw_below_drewN | apply below_drew1 | refine below_set ?_ GE121.out) | exact HB.out)⟩⟩
            case round =>
              clear H'
              try clear c1
              try clear c2
              try clear p2
              try clear c7
              try clear c8
              try clear c13
              try clear c14
              try clear c14b0
              try clear c14b1
              try clear c15
              try clear c15b0
              try clear c15b1
              try clear hcz11_0
              try clear hcz11_1
              try clear hcz11_2
              try clear hcz11_3
              try clear hcz9_0
              try clear hcz9_1
              try clear hcz9_2
              try clear hcz9_3
              try clear hfz11_0
              try clear hfz11_1
              try clear hfz11_2
              try clear hfz11_3
              try clear hfz9_0
              try clear hfz9_1
              try clear hfz9_2
              try clear hfz9_3
              try clear p2
              obtain ⟨x1_2, x7_2, x24_2, rfl, rfl, HA, HK2, HO_7, BK121, HB⟩ := hrel
              cases gk with
              | zero => exact absurd HA.out (by simp [wire_Of.l0])
              | succ k2 =>
                have H := HA.out
                clear HA
                simp only [wire_Of.l0] at H
                by_cases c18 : x24_2 < (l0.length : Int)
                · rw [if_pos c18] at H
                  have c18b0 : decide (x24_2 < (l0.length : Int)) = true := decide_eq_true c18
                  clear c18
                  by_cases c19 : 0 ≤ x24_2
                  · rw [if_pos c19] at H
                    have c19b0 : decide (0 ≤ x24_2) = true := decide_eq_true c19
                    clear c19
                    by_cases c20 : x24_2 < (l0.length : Int)
                    · rw [if_pos c20] at H
                      have c20b0 : decide (x24_2 < (l0.length : Int)) = true := decide_eq_true c20
                      clear c20
                      replace H := Option.bind_eq_some_iff.mp H
                      obtain ⟨t128, A210, H⟩ := H
                      replace H : (if x24_2 < (x7_2.length : Int) then (wire_Of.l0 k2 t128 (x7_2.set (x24_2 : Int).toNat (⟨t128, rd l0 x24_2, false⟩ : S52)) l0 (l0.length : Int) (wrap64 (x24_2 + 1)) a2_0 a2_1 a2_2 a2_3) else (none)) = some r := H
                      have A21 := Aside0.mk A210
                      clear A210
                      by_cases c22 : x24_2 < (x7_2.length : Int)
                      · rw [if_pos c22] at H
                        have c22b0 : decide (x24_2 < (x7_2.length : Int)) = true := decide_eq_true c22
                        clear c22
                        obtain ⟨y129, hy129⟩ : ∃ y_ : List (S52), y_ = (x7_2.set (x24_2 : Int).toNat (⟨t128, rd l0 x24_2, false⟩ : S52)) := ⟨_, rfl⟩
                        replace H : (wire_Of.l0 k2 t128 y129 l0 (l0.length : Int) (wrap64 (x24_2 + 1)) a2_0 a2_1 a2_2 a2_3) = some r := by first | (rw [hy129]; with_reducible exact H) | (have H2_ := (Option.bind_some _ _).symm.trans H; rw [hy129]; with_reducible exact H2_) | (have H2_ := (Option.bind_some _ _).symm.trans H; with_reducible exact H2_) | with_reducible exact H | (rw [hy129]; exact H) | exact H
                        have Ny129 := Aside0.mk hy129
                        clear hy129
                        have H' := Aside0.mk H
                        clear H
                        have p127 : 0 ≤ (x24_2 : Int) := of_decide_eq_true (by first | (with_reducible assumption) | assumption)
                        have q127 : x24_2 < (l0.length : Int) := of_decide_eq_true (by first | (with_reducible assumption) | assumption)
                        obtain ⟨ad127, e127, hx127_0⟩ := Kd.at_int HR0.out x24_2 p127 q127
                        cases e127
                        replace hx127_0 := (HB.out.cell (World.block_lt_of_cell? w _ hx127_0)).trans hx127_0
                        replace p127 := eq_true p127
                        replace q127 := eq_true q127
                        have hcz24_0 : wr.cell? ⟨gb121, 0, none⟩ = some (.int .i64 a2_0) := (blk_cell BK121.out 0).trans rfl
                        have hcz24_1 : wr.cell? ⟨gb121, 1, none⟩ = some (.int .i64 a2_1) := (blk_cell BK121.out 1).trans rfl
                        have hcz24_2 : wr.cell? ⟨gb121, 2, none⟩ = some (.int .i64 a2_2) := (blk_cell BK121.out 2).trans rfl
                        have hcz24_3 : wr.cell? ⟨gb121, 3, none⟩ = some (.int .i64 a2_3) := (blk_cell BK121.out 3).trans rfl
                        have hfz24_0 := blk_frozen BK121.out 0
                        have hfz24_1 := blk_frozen BK121.out 1
                        have hfz24_2 := blk_frozen BK121.out 2
                        have hfz24_3 := blk_frozen BK121.out 3
                        go_wp2_with (first | ((with_reducible refine gate_callee (f := 24) rfl ?_); refine goesL_ (some 32) rfl rfl Try.func24 (by kernel_rfl) rfl #[.int .i64 x1_2, .int .i64 a2_0] rfl (by (try simp only [List.map_toArray, List.map_cons, List.map_nil]); first | done | rfl | (simp only [List.length_drop, List.length_take]; rfl)) ?_; (with_reducible refine (clock_Add.calls x1_2 a2_0 t128 _ A21.out).mono ?_); rintro e w' ⟨rfl, ⟨nd, rfl⟩⟩; refine ⟨_, rfl, ?_⟩; (try (rw [drewN_self wr]; generalize hq_ : World.drewN wr _ = wr; have n0_ : Aside0 (Kd.R k52 52 wr w.heap.size (fun _ => True) v125 x7_2) := ⟨by rw [← hq_]; exact (by (with_reducible repeat (first | apply Kd.R_alloc | apply Kd.R_drewN | apply Kd.R_drew)); exact HO_7.out)⟩; have n1_ : Aside0 (wr.heap[gb121]? = some (.cells #[.int .i64 a2_0, .int .i64 a2_1, .int .i64 a2_2, .int .i64 a2_3] 24 (0, 0))) := ⟨by rw [← hq_]; exact (by (with_reducible repeat (first | refine blk_drewN ?_ _ | refine blk_drew ?_ | refine blk_alloc ?_ _)); exact BK121.out)⟩; have n2_ : Aside0 (Below w.heap.size w wr) := ⟨by rw [← hq_]; exact (by repeat (first | (with_reducible first | exact HB.out | apply below_alloc | apply pw_below_drewN | apply below_drew1 | refine below_set ?_ GE121.out) | exact HB.out))⟩; clear HO_7 BK121 HB hq_; have HO_7 := n0_; have BK121 := n1_; have HB := n2_; clear n0_ n1_ n2_)); have p23 : 0 ≤ (x24_2 : Int) := of_decide_eq_true (by first | (with_reducible assumption) | assumption); have q23 : (x24_2 : Int) < ((x7_2.length : Int) : Int) := of_decide_eq_true (by first | (with_reducible assumption) | assumption); obtain ⟨go23, co23, eo23, gb23, gl23, cl23, HG23⟩ := Kd.R_form HO_7.out (by omega); (first | cases eo23 | (injection eo23 with ea_ en_ ec_; (first | subst ea_ | (injection ea_ with ea_; subst ea_)); subst ec_; clear en_)); have GB23 := Aside0.mk gb23; have GG23 := Aside0.mk HG23; clear gb23 gl23 HG23; obtain ⟨ce23, hcl23, hM23, hcc23, hfr23⟩ := Kd.R_elem HO_7.out z52 (x24_2 : Int) p23 q23; obtain rfl := k52_openM hM23; have hx23_0 : wr.cell? ⟨go23, (x24_2 : Int).toNat * 3, none⟩ = some (.int .i64 ((rd_T52 x7_2 x24_2).f0)) := hcc23 0 _ rfl; have hx23_1 : wr.cell? ⟨go23, (x24_2 : Int).toNat * 3 + 1, none⟩ = some (.int .u8 ((rd_T52 x7_2 x24_2).f1)) := hcc23 1 _ rfl; have hx23_2 : wr.cell? ⟨go23, (x24_2 : Int).toNat * 3 + 2, none⟩ = some (.bool ((rd_T52 x7_2 x24_2).f2)) := hcc23 2 _ rfl; have hf23_0 : wr.frozen? ⟨go23, (x24_2 : Int).toNat * 3, none⟩ = false := hfr23 0; have hf23_1 : wr.frozen? ⟨go23, (x24_2 : Int).toNat * 3 + 1, none⟩ = false := hfr23 1; have hf23_2 : wr.frozen? ⟨go23, (x24_2 : Int).toNat * 3 + 2, none⟩ = false := hfr23 2; clear hcl23 hcc23 hfr23 hM23; replace p23 := eq_true p23; replace q23 := eq_true q23; have HX25 := Aside0.mk (show Kd.R k52 52 wr w.heap.size (fun _ => True) (.slice (some ⟨go23, 0, none⟩) x7_2.length co23) x7_2 from (by (with_reducible repeat (first | apply Kd.R_alloc | apply Kd.R_drewN | apply Kd.R_drew)); exact HO_7.out)); obtain ⟨ce25, hcl25, hM25, hcc25, hfr25⟩ := Kd.R_elem HX25.out z52 (x24_2 : Int) (of_decide_eq_true (by first | (with_reducible assumption) | assumption)) (by have h_ : (x24_2 : Int) < ((x7_2.length : Int) : Int) := of_decide_eq_true (by first | (with_reducible assumption) | assumption); first | exact h_ | (have e_ := (Kd.R_reads' HO_7.out).1; omega) | simpa using h_); obtain rfl := k52_openM hM25; have HP25 := Kd.R_seg HX25.out (x24_2 : Int) (of_decide_eq_true (by first | (with_reducible assumption) | assumption)) (by have h_ : (x24_2 : Int) < ((x7_2.length : Int) : Int) := of_decide_eq_true (by first | (with_reducible assumption) | assumption); first | exact h_ | (have e_ := (Kd.R_reads' HO_7.out).1; omega) | simpa using h_) (seg := [.int .i64 t128, .int .u8 (rd l0 x24_2), .bool false]) (j := 0) hcl25 hcc25 (show 3 ≤ 3 from by decide) (x' := (⟨t128, rd l0 x24_2, false⟩ : S52)) (k52_mkM _ _ _ (⟨t128, rd l0 x24_2, false⟩ : S52) ) (fun _ hk => hk); have hx25_0 := hcc25 0 _ rfl; (try simp only [show (k52).sz = 3 from rfl, Nat.mul_one, Nat.add_zero] at hx25_0); have hf25_0 := hfr25 0; (try simp only [show (k52).sz = 3 from rfl, Nat.mul_one, Nat.add_zero] at hf25_0); have hx25_1 := hcc25 1 _ rfl; (try simp only [show (k52).sz = 3 from rfl, Nat.mul_one, Nat.add_zero] at hx25_1); have hf25_1 := hfr25 1; (try simp only [show (k52).sz = 3 from rfl, Nat.mul_one, Nat.add_zero] at hf25_1); have hx25_2 := hcc25 2 _ rfl; (try simp only [show (k52).sz = 3 from rfl, Nat.mul_one, Nat.add_zero] at hx25_2); have hf25_2 := hfr25 2; (try simp only [show (k52).sz = 3 from rfl, Nat.mul_one, Nat.add_zero] at hf25_2); clear hcl25 hcc25 hfr25 hM25) | ((with_reducible refine gate_store (t := 52) (p := 38) rfl ?_); refine store_event (t := 52) (p := 38) (v := ?vo_w26) (w1 := (((wr.setCell ⟨go23, (x24_2 : Int).toNat * 3, none⟩ (.int .i64 t128)).setCell ⟨go23, (x24_2 : Int).toNat * 3 + 1, none⟩ (.int .u8 (rd l0 x24_2))).setCell ⟨go23, (x24_2 : Int).toNat * 3 + 2, none⟩ (.bool false))) ?hg ?ho ?hn ?hr ?_; (case ho => rfl); (case hg => rfl); (case hn => rfl); (case hr => first | (go_simp; done) | (go_simp; rfl)); intro w26 hw; have hg : wr.grownBy w26 (some go23) := (by rw [hw]; exact HP25.2); have hp_ : Kd.R k52 52 w26 w.heap.size (fun _ => True) (.slice (some ⟨go23, 0, none⟩) x7_2.length co23) y129 := (by rw [hw, Ny129.out]; exact HP25.1); clear HP25; have n0_ := Aside0.mk (hp_); have n1_ := Aside0.mk (blk_grown (g := gb121) (o := .cells #[.int .i64 a2_0, .int .i64 a2_1, .int .i64 a2_2, .int .i64 a2_3] 24 (0, 0)) (by (with_reducible repeat (first | refine blk_drewN ?_ _ | refine blk_drew ?_ | refine blk_alloc ?_ _)); exact BK121.out) hg (Kd.R_ne HO_7.out BK121.out (by decide))); have n2_ := Aside0.mk ((by rw [hw]; exact below_set (below_set (below_set (HB.out) GB23.out) GB23.out) GB23.out : Below w.heap.size w w26)); clear HO_7; clear BK121; clear HB; have HO_7 := n0_; have BK121 := n1_; have HB := n2_; clear n0_ n1_ n2_; clear hg hw hp_))
                        go_roundg k2
                        case measure => have := HJ3.out; have := HK2.out; omega
                        case rel => exact ⟨(t128), (y129), (wrap64 (x24_2 + 1)), (by first | rfl | (simp; done) | (simp [*]; done)), (by first | rfl | (simp; done) | (simp [*]; done)), H', ⟨by have := HJ3.out; have := HK2.out; omega⟩, ⟨by (with_reducible repeat (first | apply Kd.R_alloc | apply Kd.R_drewN | apply Kd.R_drew)); exact HO_7.out⟩, ⟨by (with_reducible repeat (first | refine blk_drewN ?_ _ | refine blk_drew ?_ | refine blk_alloc ?_ _)); exact BK121.out⟩, ⟨by repeat (first | (with_reducible first | exact HB.out | apply below_alloc | apply pw_below_drewN | apply below_drew1 | refine below_set ?_ GE121.out) | exact HB.out)⟩⟩
                      · rw [if_neg c22] at H
                        exact absurd H (by simp)
                    · rw [if_neg c20] at H
                      exact absurd H (by simp)
                  · rw [if_neg c19] at H
                    exact absurd H (by simp)
                · rw [if_neg c18] at H
                  have c18b0 : decide (x24_2 < (l0.length : Int)) = false := decide_eq_false c18
                  clear c18
                  obtain rfl := Option.some.inj H
                  go_wp2
                  go_ret
                  exact ⟨_, by first | rfl | (simp [errW_none, errW_some] <;> rfl) | (simp [*, errW_none, errW_some] <;> rfl), by (with_reducible repeat (first | apply Kd.R_alloc | apply Kd.R_drewN | apply Kd.R_drew)); exact HO_7.out, by repeat (first | (with_reducible first | exact HB.out | apply below_alloc | apply pw_below_drewN | apply below_drew1 | refine below_set ?_ GE121.out) | exact HB.out)⟩
          · rw [if_neg c15] at H
            exact absurd H (by simp)
        · rw [if_neg c14] at H
          exact absurd H (by simp)

/-! ### api_Byte_25: function 25 (by hand) -/
def api_Byte_25.f (l0 : List S52) : Option (List S52) := if l0.length < 8796093022208 then some l0 else none
set_option maxRecDepth 100000 in
theorem api_Byte_25.calls (A0 : Option Addr) (c0 : Nat) (l0 : List S52) (r : List S52) (w : World) (hr0 : Kd.C k52 w A0 l0.length l0) (hc0 : l0.length ≤ c0) (h : api_Byte_25.f l0 = some r) :
    Calls Try.prog 25 #[.slice A0 l0.length c0] w fun e w' => ∃ v0_ : Value, e = .returned (v0_) ∧ Kd.R k52 52 w' w.heap.size (fun _ => True) v0_ r ∧ Below w.heap.size w w' := by
  unfold api_Byte_25.f at h
  split at h
  case isFalse => cases h
  case isTrue hl =>
  obtain rfl := Option.some.inj h
  clear h
  have HR0 := Aside0.mk hr0
  have HB0 := Aside0.mk (Below.refl w.heap.size w)
  have qT : ∀ (w : World) (a : Option Addr) (n c n' c' : Nat), (binOp .eql 31 (.slice a n c) (.slice none n' c')).run Try.prog w = .ok (.bool a.isNone) w := fun w a n c n' c' => Lib.run_eql_slice_nil w _ _ a n c n' c' Try.underlying31
  cases A0 with
  | none =>
    have hn : l0 = [] := by
      cases l0 with
      | nil => rfl
      | cons a l => obtain ⟨_, h, _⟩ := hr0.2.2 (by simp); cases h
    subst hn
    clear hr0 hc0 HR0
    go_enter Try.func25, Try.ntmps25
    go_wp2
    go_ret
    exact ⟨_, rfl, Kd.R_nil _ _ _ _ _, Below.refl _ _⟩
  | some a =>
    clear hr0 hc0
    go_enter Try.func25, Try.ntmps25
    go_wp2_with (first
      | ((with_reducible refine gate_dst (N := 5) rfl ?_); refine Kd.R_lit k52 w.heap.size 52 ?hg (N := 5) ?hd (xs := ([] : List S52)) (inner := []) (ok := fun _ => True) (okp := fun _ => True) ?hr ?hp (fun _ hk => hk) trivial (Below.refl w.heap.size w) (Nat.le_refl _) (by simp) ?_; (case hd => rfl); (case hg => rfl); (case hr => first | (go_simp; done) | (go_simp; rfl)); (case hp => exact (Reps.none _ _)); intro v1 w1 ho hb hg_ hnew_; have HO := Aside0.mk ho; have HB := Aside0.mk hb; clear ho hb hg_ hnew_)
      | (at_builtin; refine Kd.R_append_rows k52 (w0 := w) w.heap.size rfl (.tmp 5) (.tmp 6) 31 52 (.agg #[(.int .i64 0), (.int .u8 0), (.bool false)]) 16 rfl Try.underlying31 info52 rfl (by decide) (by omega) v1 [] l0 _ _ _ (fun _ => True) (fun _ => False) rfl rfl HO.out (Kd.C_below HR0.out HB.out) (fun _ _ h => by rw [k52_open h]; exact k52_mkM _ _ _ _) (fun _ h => h.elim) (fun _ _ => trivial) HB.out HB.out.size (by simp; omega) ?_; intro v2 w2 ho2 hb2 hg_ hat_; have HO2 := Aside0.mk ho2; have HB2 := Aside0.mk hb2; clear ho2 hb2 hg_ hat_ HO HB))
    go_ret
    exact ⟨_, rfl, by simpa using HO2.out, HB2.out⟩
theorem clone_bytes (A0 : Option Addr) (c0 : Nat) (l0 : List S52) (w : World) (hr0 : Kd.C k52 w A0 l0.length l0) (hc0 : l0.length ≤ c0) (hl : l0.length < 8796093022208) :
    Calls Try.prog 25 #[.slice A0 l0.length c0] w fun e w' => ∃ v0_ : Value, e = .returned (v0_) ∧ Kd.R k52 52 w' w.heap.size (fun _ => True) v0_ l0 ∧ Below w.heap.size w w' :=
  api_Byte_25.calls A0 c0 l0 l0 w hr0 hc0 (by unfold api_Byte_25.f; rw [if_pos hl])

/-! ### api_Byte_26: function 26 (by hand) -/
set_option maxRecDepth 100000 in
theorem del_one (g n c i j : Nat) (l0 : List S52) (w : World) {base : Nat} {ok : Nat → Prop} (hR : Kd.R k52 52 w base ok (.slice (some ⟨g, 0, none⟩) n c) l0) (hij : j = i + 1) (hj : j ≤ n) :
    Calls Try.prog 26 #[.slice (some ⟨g, 0, none⟩) n c, .int .i64 i, .int .i64 j] w fun e w' => e = .returned (.slice (some ⟨g, 0, none⟩) (n - 1) c) ∧ Kd.R k52 52 w' base ok (.slice (some ⟨g, 0, none⟩) (n - 1) c) (l0.eraseIdx i) ∧ w.grownBy w' (some g) := by
  obtain ⟨inner, hl, hcell, hone, hfr, cur, hh, hcs, hnc, hcm, hb, ht, hr⟩ := R_inner hR (by decide)
  have hok : ok g := hR.1 g rfl
  have hl3 : inner.length = n * 3 := hl
  have hcm' : c ≤ 9223372036854775807 := hcm
  obtain ⟨i0, hi0, hzz⟩ := Option.map_eq_some_iff.1 info52
  simp only [Prod.mk.injEq] at hzz
  obtain ⟨hz0, hz1, hz2⟩ := hzz
  obtain ⟨news, hnews⟩ : ∃ news, news = inner.drop (j * 3) := ⟨_, rfl⟩
  have hlen : news.length = (n - j) * 3 := by rw [hnews, List.length_drop, hl3]; omega
  have s1 : Aside0 (news.length = (n - j) * 3) := ⟨hlen⟩
  have s2 : Aside0 (∀ u ∈ news, u.oneCell' = true) := ⟨fun u hu => hone u (by rw [hnews] at hu; exact List.mem_of_mem_drop hu)⟩
  have hin : ∀ t, t < n * 3 → (w.drew.cell? ⟨g, t, none⟩).isSome = true := fun t h => by
    have h1 : t < inner.length := by omega
    have h2 := hcell t _ (List.getElem?_eq_getElem h1)
    show (w.cell? _).isSome = true
    rw [h2]; rfl
  have s3 : Aside0 (∀ t, t < news.length → (w.drew.cell? ⟨g, 0 + i * 3 + t, none⟩).isSome = true ∧ w.drew.frozen? ⟨g, 0 + i * 3 + t, none⟩ = false) := ⟨fun t h => ⟨hin _ (by omega), hfr _⟩⟩
  obtain ⟨A, hA, hsrc⟩ : ∃ A : Addr, (if c = j then some (⟨g, 0, none⟩ : Addr) else some ⟨g, j * 3, none⟩) = some A ∧ Aside0 (∀ t u, news[t]? = some u → w.drew.cell? (A.add t) = some u) := by
    by_cases h : c = j
    · refine ⟨⟨g, 0, none⟩, by simp [h], ⟨fun t u hu => ?_⟩⟩
      have h0 : news.length = 0 := by rw [hlen]; omega
      rw [List.length_eq_zero_iff.1 h0] at hu
      simp at hu
    · refine ⟨⟨g, j * 3, none⟩, by simp [h], ⟨fun t u hu => ?_⟩⟩
      rw [hnews, List.getElem?_drop] at hu
      rw [add_at]
      exact hcell _ u hu
  obtain ⟨W1, hW1⟩ : ∃ W1, W1 = w.drew.setCells g (0 + i * 3) news := ⟨_, rfl⟩
  have hd := R_delete (d := k52) (W := w.drew) (k := i) (zs := [.int .i64 0, .int .u8 0, .bool false]) (by decide) (by omega) rfl hl hh hcs hnc hcm hb ht hok (hr.imp_ (fun p cs hq => k52.M_move (fun _ _ => rfl) hq))
  have hW : Aside0 (W1 = w.drew.setCells g (0 + i * 3) news) := ⟨hW1⟩
  have hsz : ∀ t, t < c * 3 → (W1.cell? ⟨g, t, none⟩).isSome = true ∧ W1.frozen? ⟨g, t, none⟩ = false := by
    intro t htc
    have hcs3 : cur.size = c * 3 := hcs
    obtain ⟨cur1, a3, a4, _⟩ := setCells_row news (0 + i * 3) w.drew cur hh (by omega)
    rw [← hW1] at a3
    refine ⟨?_, blk_frozen a3 t⟩
    rw [blk_cell a3, Array.getElem?_eq_getElem (by omega)]
    rfl
  have hcl : ∀ ty, (Builtin.clear_ #[31] ty #[.slice (some ⟨g, (i + (n - j)) * 3, none⟩) (n - (i + (n - j))) (c - (i + (n - j)))]).run Try.prog W1 = .ok (.tuple #[]) (W1.setCells g ((i + (n - j)) * 3) [.int .i64 0, .int .u8 0, .bool false]) := by
    intro ty
    rw [show n - (i + (n - j)) = 1 by omega]
    exact run_clear_rows W1 31 52 ty (.agg #[(.int .i64 0), (.int .u8 0), (.bool false)]) Try.underlying31 (fun w => by simp [zeroValue, typeInfo, hi0, hz0]) (by simp [Value.cells]; exact ⟨rfl, rfl, rfl⟩) g _ _ (fun t h => (hsz _ (by have h3 : t < 3 := h; omega)).1) (fun t h => (hsz _ (by have h3 : t < 3 := h; omega)).2)
  have hic : i ≤ c := by omega
  have hjc : j ≤ c := by omega
  have hlt : i < j := by omega
  have HIJ := Aside0.mk hij
  have hd' : Kd.R k52 52 (W1.setCells g ((i + (n - j)) * 3) [.int .i64 0, .int .u8 0, .bool false]) base ok (.slice (some ⟨g, 0, none⟩) (n - 1) c) (l0.eraseIdx i) ∧ w.grownBy (W1.setCells g ((i + (n - j)) * 3) [.int .i64 0, .int .u8 0, .bool false]) (some g) := by
    rw [show (i + (n - j)) * 3 = (n - 1) * 3 by omega, hW1, hnews, Nat.zero_add, hij]
    exact ⟨hd.1, ⟨hd.2.os, hd.2.tape, hd.2.output, hd.2.size, hd.2.block⟩⟩
  have HD := Aside0.mk hd'
  have hnj : i + (n - j) = n - 1 := by omega
  have HNJ := Aside0.mk hnj
  clear hd hd' hnj hW1 hsz hlen hl3 hl hcell hone hfr hh hcs hcm hb ht hr hok hnews hin hR hij hz0 hz2
  go_enter Try.func26, Try.ntmps26
  go_wp2_with fail
  go_region_law (refine step_append_room rfl (.tmp 22) (.tmp 25) 31 rfl 52 i0 3 Try.underlying31 hi0 hz1 g 0 i c (by simp [Act.eval, Act.put]) A (n - j) (c - j) news (by simp [Act.eval, Act.put]) s1.out hsrc.out s2.out (by omega) s3.out ?_; rw [← hW.out])
  go_wp2
  go_ret
  exact ⟨by rw [← HNJ.out]; rfl, HD.out.1, HD.out.2⟩

/-! ### wire_Drop: function 9 (by hand) -/
def wire_Drop.f (l0 : List S52) (a1 : Int) : Option (List S52) := if l0.length < 8796093022208 then some (if 0 ≤ a1 ∧ a1 < (l0.length : Int) then l0.eraseIdx a1.toNat else l0) else none
set_option maxRecDepth 100000 in
theorem wire_Drop.calls (A0 : Option Addr) (c0 : Nat) (l0 : List S52) (a1 : Int) (r : List S52) (w : World) (hr0 : Kd.C k52 w A0 l0.length l0) (hc0 : l0.length ≤ c0) (h : wire_Drop.f l0 a1 = some r) :
    Calls Try.prog 9 #[.slice A0 l0.length c0, .int .i64 a1] w fun e w' => ∃ v0_ : Value, e = .returned (v0_) ∧ Kd.R k52 52 w' w.heap.size (fun _ => True) v0_ r ∧ Below w.heap.size w w' := by
  unfold wire_Drop.f at h
  split at h
  case isFalse => cases h
  case isTrue hl =>
  obtain rfl := Option.some.inj h
  have HC := Aside0.mk (clone_bytes A0 c0 l0 w hr0 hc0 hl)
  clear h hr0 hc0
  by_cases hk : 0 ≤ a1 ∧ a1 < (l0.length : Int)
  · rw [if_pos hk]
    obtain ⟨hk0, hk1⟩ := hk
    obtain ⟨q, rfl⟩ := Int.eq_ofNat_of_zero_le hk0
    rw [Int.toNat_natCast]
    obtain ⟨RR, hRR⟩ : ∃ RR, RR = l0.eraseIdx q := ⟨_, rfl⟩
    rw [← hRR]
    have HRR := Aside0.mk hRR
    obtain ⟨n, hn⟩ : ∃ n, l0.length = n := ⟨_, rfl⟩
    have HN := Aside0.mk hn
    have hq : q < n := by omega
    have HQ := Aside0.mk hq
    have hnl : n < 8796093022208 := by omega
    rw [hn] at HC ⊢
    clear hn hk0 hk1 hRR hl
    go_enter Try.func9, Try.ntmps9
    go_wp2_with (first
      | (go_at_call 25; refine HC.out.mono ?_; rintro e w1 ⟨v1, rfl, hr, hg⟩; obtain ⟨g, co, rfl, hgb, hgs, cells, hcells⟩ := Kd.R_form hr (by rw [HN.out]; have := HQ.out; omega); rw [HN.out] at hr ⊢; have HR := Aside0.mk hr; have HG := Aside0.mk hg; have HGB := Aside0.mk hgb; have HGS := Aside0.mk hgs; clear hr hg hgb hgs hcells cells)
      | (go_at_call 26; refine (del_one g n co q (q + 1) l0 _ HR.out rfl (by have := HQ.out; omega)).mono ?_; rintro e w2 ⟨rfl, hr2, hg2⟩; have HR2 := Aside0.mk hr2; have HG2 := Aside0.mk (HG.out.grown hg2 HG.out.size (fun k hk => by cases hk; exact HGB.out)); clear hr2 hg2))
    go_ret
    rw [HRR.out]
    exact ⟨_, rfl, HR2.out, HG2.out⟩
  · rw [if_neg hk]
    have d1 : (decide (a1 < 0) || decide ((l0.length : Int) ≤ a1)) = true := by
      rw [Bool.or_eq_true, decide_eq_true_eq, decide_eq_true_eq]; omega
    clear hk
    go_enter Try.func9, Try.ntmps9
    go_wp2_with (go_at_call 25; refine HC.out.mono ?_; rintro e w1 ⟨v1, rfl, hr, hg⟩; obtain ⟨Ao, co, rfl⟩ := Kd.R_slice hr; have HR := Aside0.mk hr; have HG := Aside0.mk hg; clear hr hg)
    all_goals (go_ret; exact ⟨_, rfl, HR.out, HG.out⟩)

/-! ### wire_with: function 31 (by hand) -/
/-- What a function value does that is handed to wire.with: it sets one cell of one element. -/
def Turns (N : Nat) (cap : List Value) (w : World) (F : S52 → S52) : Prop :=
  (∀ (args : Array Value) (W : World), (callFunc N args).run Try.prog W = .ok (.enter N args) W) ∧ ∀ (W : World) (g o : Nat) (x : S52), Below w.heap.size w W → w.heap.size ≤ g → W.cell? ⟨g, o, none⟩ = some (.int .i64 x.f0) → W.cell? ⟨g, o + 1, none⟩ = some (.int .u8 x.f1) → W.cell? ⟨g, o + 2, none⟩ = some (.bool x.f2) → (∀ j, W.frozen? ⟨g, o + j, none⟩ = false) →
    Calls Try.prog N (Value.pointer (some ⟨g, o, none⟩) :: cap).toArray W fun e W' => e = .returned (.tuple #[]) ∧ ∃ (i : Nat) (v : Value) (n : Nat), i < 3 ∧ W' = (W.setCell ⟨g, o + i, none⟩ v).drewN n ∧ [.int .i64 (F x).f0, .int .u8 (F x).f1, .bool (F x).f2] = [Value.int .i64 x.f0, .int .u8 x.f1, .bool x.f2].set i v
def withF (F : S52 → S52) (l : List S52) (k : Int) : List S52 := if 0 ≤ k ∧ k < (l.length : Int) then l.set k.toNat (F (rd_T52 l k)) else l
theorem touch_at {W : World} {base g n c q : Nat} {ok : Nat → Prop} {xs : List S52} (h : Kd.R k52 52 W base ok (.slice (some ⟨g, 0, none⟩) n c) xs) (hq : q < n) :
    W.cell? ⟨g, q * 3, none⟩ = some (.int .i64 (rd_T52 xs q).f0) ∧ W.cell? ⟨g, q * 3 + 1, none⟩ = some (.int .u8 (rd_T52 xs q).f1) ∧ W.cell? ⟨g, q * 3 + 2, none⟩ = some (.bool (rd_T52 xs q).f2) ∧ ∀ j, W.frozen? ⟨g, q * 3 + j, none⟩ = false := by
  obtain ⟨cs, hl, hM, hc, hf⟩ := Kd.R_elem h z52 (q : Int) (Int.natCast_nonneg _) (by omega)
  have e : cs = [.int .i64 (rd_T52 xs q).f0, .int .u8 (rd_T52 xs q).f1, .bool (rd_T52 xs q).f2] := k52_openM hM
  subst e
  rw [Int.toNat_natCast] at hc hf
  exact ⟨hc 0 _ rfl, hc 1 _ rfl, hc 2 _ rfl, hf⟩
theorem touch {W : World} {base g n c q i m : Nat} {ok : Nat → Prop} {xs : List S52} {v : Value} {x' : S52} (h : Kd.R k52 52 W base ok (.slice (some ⟨g, 0, none⟩) n c) xs) (hq : q < n) (hi : i < 3)
    (he : [.int .i64 x'.f0, .int .u8 x'.f1, .bool x'.f2] = [Value.int .i64 (rd_T52 xs q).f0, .int .u8 (rd_T52 xs q).f1, .bool (rd_T52 xs q).f2].set i v) :
    Kd.R k52 52 ((W.setCell ⟨g, q * 3 + i, none⟩ v).drewN m) base ok (.slice (some ⟨g, 0, none⟩) n c) (xs.set q x') ∧ W.grownBy (W.setCell ⟨g, q * 3 + i, none⟩ v) (some g) := by
  obtain ⟨cs, hl, hM, hc, hf⟩ := Kd.R_elem h z52 (q : Int) (Int.natCast_nonneg _) (by omega)
  have e : cs = [.int .i64 (rd_T52 xs q).f0, .int .u8 (rd_T52 xs q).f1, .bool (rd_T52 xs q).f2] := k52_openM hM
  subst e
  rw [Int.toNat_natCast] at hc
  have hs := Kd.R_seg h (q : Int) (Int.natCast_nonneg _) (by omega) (seg := [v]) (j := i) (c := [.int .i64 (rd_T52 xs q).f0, .int .u8 (rd_T52 xs q).f1, .bool (rd_T52 xs q).f2]) rfl (by rw [Int.toNat_natCast]; exact hc) (by show i + 1 ≤ 3; omega) (x' := x') (okp := fun _ => False)
    (by
      have e2 : [Value.int .i64 (rd_T52 xs q).f0, .int .u8 (rd_T52 xs q).f1, .bool (rd_T52 xs q).f2].take i ++ [v] ++ [Value.int .i64 (rd_T52 xs q).f0, .int .u8 (rd_T52 xs q).f1, .bool (rd_T52 xs q).f2].drop (i + [v].length) = [Value.int .i64 (rd_T52 xs q).f0, .int .u8 (rd_T52 xs q).f1, .bool (rd_T52 xs q).f2].set i v := by
        rcases i with _ | _ | _ | i
        · rfl
        · rfl
        · rfl
        · omega
      rw [e2, ← he]
      exact k52_mkM _ _ _ _) (fun _ h => h.elim)
  rw [Int.toNat_natCast] at hs
  exact ⟨Kd.R_drewN hs.1 m, hs.2⟩
set_option maxRecDepth 100000 in
theorem with_calls (N : Nat) (A0 : Option Addr) (c0 : Nat) (l0 : List S52) (k : Int) (cap : List Value) (F : S52 → S52) (w : World) (hr0 : Kd.C k52 w A0 l0.length l0) (hc0 : l0.length ≤ c0) (hl : l0.length < 8796093022208) (hF : Turns N cap w F) :
    Calls Try.prog 31 #[.slice A0 l0.length c0, .int .i64 k, .func (.func N) #[] cap.toArray] w fun e w' => ∃ v0_ : Value, e = .returned (v0_) ∧ Kd.R k52 52 w' w.heap.size (fun _ => True) v0_ (withF F l0 k) ∧ Below w.heap.size w w' := by
  have HR0 := Aside0.mk hr0
  have HC0 := Aside0.mk hc0
  have HF := Aside0.mk hF
  have HB0 := Aside0.mk (Below.refl w.heap.size w)
  by_cases hk : 0 ≤ k ∧ k < (l0.length : Int)
  · have e1 : withF F l0 k = l0.set k.toNat (F (rd_T52 l0 k)) := if_pos hk
    rw [e1]
    obtain ⟨hk0, hk1⟩ := hk
    obtain ⟨q, rfl⟩ := Int.eq_ofNat_of_zero_le hk0
    have hq : q < l0.length := by omega
    have HQ := Aside0.mk hq
    have hp : 0 < l0.length := by omega
    have HP := Aside0.mk hp
    clear hr0 hc0 hF e1 hp hk0
    go_enter Try.func31, Try.ntmps31
    go_wp2_with (first
      | ((with_reducible refine gate_builtin (b := .copy) (xs := #[.tmp 11, .tmp 12]) rfl ?_); refine R_copy_rows k52 (w0 := w) w.heap.size rfl (.tmp 11) (.tmp 12) 31 31 52 rfl Try.underlying31 (by kernel_rfl) (by decide) v1 _ l0 A0 l0.length c0 (fun _ => True) (fun _ => False) rfl rfl HO1.out (Kd.C_below HR0.out HB1.out) (fun _ _ h => by rw [k52_open h]; exact k52_mkM _ _ _ _) (fun _ h => h.elim) (by rw [List.length_replicate, Int.toNat_natCast]) HB1.out HB1.out.size ?_; intro w2 ho2 hb2 hg2_; have HO2 := Aside0.mk ho2; have HB2 := Aside0.mk hb2; clear ho2 hb2 hg2_ HO1; obtain ⟨g, co, rfl, hgb, hgs, cells, hcells⟩ := Kd.R_form HO2.out HP.out; have HGB := Aside0.mk hgb; have HGS := Aside0.mk hgs; clear hgb hgs hcells)
      | ((with_reducible refine gate_dst (N := 10) rfl ?_); refine Kd.R_make k52 w.heap.size 52 ?hg (N := 10) ?hd 31 (.tmp 9) (.tmp 9) rfl (l0.length : Int) ?hx ?hy Try.underlying31 (.agg #[(.int .i64 0), (.int .u8 0), (.bool false)]) 16 info52 rfl (by decide) (by decide) z52 (okp := fun _ => False) (ok := fun _ => True) (k52_mkM _ _ _ _) (fun _ h => h.elim) trivial (by omega) (by omega) HB0.out (Nat.le_refl _) ?_; (case hd => rfl); (case hg => rfl); (case hx => rfl); (case hy => rfl); intro v1 w1 ho1 hb1 hg_ hat_; have HO1 := Aside0.mk ho1; have HB1 := Aside0.mk hb1; clear ho1 hb1 hg_ hat_))
    have HG := touch_at HO2.out HQ.out
    rw [HF.out.1, Oper.upon_enter]
    refine (HF.out.2 w2 g (q * 3) _ HB2.out HGB.out HG.1 HG.2.1 HG.2.2.1 HG.2.2.2).mono ?_
    rintro e w3 ⟨rfl, i, v, n, hi, rfl, he⟩
    obtain ⟨hr3, hg3⟩ := touch (m := n) HO2.out HQ.out hi he
    have HO3 := Aside0.mk hr3
    have HB3 := Aside0.mk (pw_below_drewN (HB2.out.grown hg3 HB2.out.size (fun k hk => by cases hk; exact HGB.out)) n)
    clear hr3 hg3
    go_wp2
    go_ret
    exact ⟨_, rfl, HO3.out, HB3.out⟩
  · have e1 : withF F l0 k = l0 := if_neg hk
    rw [e1]
    have d1 : (decide (0 ≤ k) && decide (k < (l0.length : Int))) = false := by
      rw [Bool.and_eq_false_iff, decide_eq_false_iff_not, decide_eq_false_iff_not]; omega
    clear hr0 hc0 hF e1
    go_enter Try.func31, Try.ntmps31
    go_wp2_with (first
      | ((with_reducible refine gate_builtin (b := .copy) (xs := #[.tmp 11, .tmp 12]) rfl ?_); refine R_copy_rows k52 (w0 := w) w.heap.size rfl (.tmp 11) (.tmp 12) 31 31 52 rfl Try.underlying31 (by kernel_rfl) (by decide) v1 _ l0 A0 l0.length c0 (fun _ => True) (fun _ => False) rfl rfl HO1.out (Kd.C_below HR0.out HB1.out) (fun _ _ h => by rw [k52_open h]; exact k52_mkM _ _ _ _) (fun _ h => h.elim) (by rw [List.length_replicate, Int.toNat_natCast]) HB1.out HB1.out.size ?_; intro w2 ho2 hb2 hg2_; have HO2 := Aside0.mk ho2; have HB2 := Aside0.mk hb2; clear ho2 hb2 hg2_ HO1; obtain ⟨Ao, co, rfl⟩ := Kd.R_slice HO2.out)
      | ((with_reducible refine gate_dst (N := 10) rfl ?_); refine Kd.R_make k52 w.heap.size 52 ?hg (N := 10) ?hd 31 (.tmp 9) (.tmp 9) rfl (l0.length : Int) ?hx ?hy Try.underlying31 (.agg #[(.int .i64 0), (.int .u8 0), (.bool false)]) 16 info52 rfl (by decide) (by decide) z52 (okp := fun _ => False) (ok := fun _ => True) (k52_mkM _ _ _ _) (fun _ h => h.elim) trivial (by omega) (by omega) HB0.out (Nat.le_refl _) ?_; (case hd => rfl); (case hg => rfl); (case hx => rfl); (case hy => rfl); intro v1 w1 ho1 hb1 hg_ hat_; have HO1 := Aside0.mk ho1; have HB1 := Aside0.mk hb1; clear ho1 hb1 hg_ hat_))
    all_goals (go_ret; exact ⟨_, rfl, HO2.out, HB2.out⟩)

/-! ### wire_Spoil: function 14 (by hand) -/
theorem spoil_turns (w : World) : Turns 32 [] w (fun x => ⟨x.f0, x.f1, true⟩) := by
  refine ⟨fun args W => enters_ (fn := Try.f32) (by kernel_rfl) (by kernel_rfl) rfl args W, ?_⟩
  intro W g o x _ _ h0 h1 h2 hf
  have hf2 := hf 2
  go_enter Try.func32, Try.ntmps32
  go_wp2
  go_end0
  exact ⟨rfl, 2, _, 0, by omega, rfl, rfl⟩
def wire_Spoil.f (l0 : List S52) (a1 : Int) : Option (List S52) := if l0.length < 8796093022208 then some (withF (fun x => ⟨x.f0, x.f1, true⟩) l0 a1) else none
set_option maxRecDepth 100000 in
theorem wire_Spoil.calls (A0 : Option Addr) (c0 : Nat) (l0 : List S52) (a1 : Int) (r : List S52) (w : World) (hr0 : Kd.C k52 w A0 l0.length l0) (hc0 : l0.length ≤ c0) (h : wire_Spoil.f l0 a1 = some r) :
    Calls Try.prog 14 #[.slice A0 l0.length c0, .int .i64 a1] w fun e w' => ∃ v0_ : Value, e = .returned (v0_) ∧ Kd.R k52 52 w' w.heap.size (fun _ => True) v0_ r ∧ Below w.heap.size w w' := by
  unfold wire_Spoil.f at h
  split at h
  case isFalse => cases h
  case isTrue hl =>
  obtain rfl := Option.some.inj h
  have H := Aside0.mk (with_calls 32 A0 c0 l0 a1 [] _ w hr0 hc0 hl (spoil_turns w))
  clear h hr0 hc0
  go_enter Try.func14, Try.ntmps14
  go_wp2_with (go_at_call 31; refine H.out.mono ?_; rintro e w1 ⟨v1, rfl, hr, hg⟩; have HR := Aside0.mk hr; have HG := Aside0.mk hg; clear hr hg)
  go_ret
  exact ⟨_, rfl, HR.out, HG.out⟩

end Go.Proofs.Ytgagdhgjdgaeaaa.PWireFaults

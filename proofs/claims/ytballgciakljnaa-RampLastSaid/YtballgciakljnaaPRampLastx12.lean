-- Written by a program of this session, in the form of the kit's print, some functions by hand (N.B. not a file of print.sh's).
import Derived.Test.YtballgciakljnaaPRampLastx0
import Derived.Test.YtballgciakljnaaPRampLastx3
import Derived.Test.YtballgciakljnaaPRampLastx4
import Derived.Test.YtballgciakljnaaPRampLastx5
import Derived.Test.YtballgciakljnaaPRampLastx11
namespace Go.Proofs.Ytballgciakljnaa.PRampLast
open Go.RowKit Go.Proofs.YtballgciakljnaaW.PrintWords Go.Proofs.YtballgciakljnaaW.PrintLast Go.Proofs.YtballgciakljnaaW.PrintMore Go.Proofs.YtballgciakljnaaM
attribute [local go_sem] max2_int min2_int max_two min_two max_three min_three max_four min_four   -- for this text's walks alone
set_option linter.unusedVariables false
set_option linter.unusedSimpArgs false

/-! ### bilgelaw42_sure: function 44 (by hand) -/
def bilgelaw42_sure.f : Option Bool := some true
def rS : Rp := ⟨true, 7, 1, 2, 4, 5, 10, false⟩
def xS : S87 := ⟨true, 7, 1, 2, 4, 5, 10, false⟩
def eS1 : S106 := ⟨3, 5, 0, false, 7, 1⟩
def eS2 : S106 := ⟨3, 15, 0, false, 7, 3⟩
def aS1 : S106 := ⟨0, 5, 0, false, 0, 0⟩
def aS2 : S106 := ⟨0, 9, 0, false, 0, 0⟩
theorem rS_ok : rS.Ok := by unfold Rp.Ok rS; decide
theorem lit_one {α : Type} {Rr : α → List Value → Prop} {size : Nat} {x : α} {cs : List Value} (h : Rr x cs) (hl : cs.length = size) : Reps Rr size [x] cs := by
  refine ⟨by simpa using hl, fun j p hj => ?_⟩
  cases j with
  | zero =>
    obtain rfl := Option.some.inj hj
    rw [Nat.zero_mul, List.drop_zero, List.take_of_length_le (by omega)]
    exact h
  | succ j => simp at hj
theorem lit_two {α : Type} {Rr : α → List Value → Prop} {size : Nat} {x y : α} {cs ds : List Value} (h : Rr x cs) (h' : Rr y ds) (hl : cs.length = size) (hl' : ds.length = size) : Reps Rr size [x, y] (cs ++ ds) := by
  refine ⟨by simp [hl, hl']; omega, fun j p hj => ?_⟩
  match j, hj with
  | 0, hj =>
    obtain rfl := Option.some.inj hj
    rw [Nat.zero_mul, List.drop_zero, List.take_append_of_le_length (by omega), List.take_of_length_le (by omega)]
    exact h
  | 1, hj =>
    obtain rfl := Option.some.inj hj
    rw [Nat.one_mul, List.drop_append_of_le_length (by omega), List.drop_of_length_le (by omega), List.nil_append, List.take_of_length_le (by omega)]
    exact h'
  | j + 2, hj => simp at hj
theorem sure_ev : ramp_Events.f [xS] 99 = some ([eS1, eS2], 0) := by
  show (if rS.Ok ∧ (0 : Int) ≤ 99 ∧ (99 : Int) ≤ 4000 then some (evL rS 99 5000 0, (0 : Int)) else none) = _
  rw [if_pos ⟨rS_ok, by decide, by decide⟩]
  rfl
theorem sure_v1 : ramp_Value.g rS 15 = (3, true) := by unfold ramp_Value.g; rw [if_pos rS_ok]; rfl
theorem sure_v2 : ramp_Value.g rS 4 = (0, false) := by unfold ramp_Value.g; rw [if_pos rS_ok]; rfl
theorem sure_m : ramp_Merge.f 50 [eS1, eS2] [aS1, aS2] = some [eS1, aS1, aS2, eS2] := by kernel_rfl
theorem sure_s : bilgeref33_Same.f 50 [eS1, eS2] [eS1, eS2] = some true := by kernel_rfl
set_option maxHeartbeats 4000000 in
set_option maxRecDepth 100000 in
theorem bilgelaw42_sure.calls (r : Bool) (w : World) (h : bilgelaw42_sure.f = some r) : Calls Try.prog 44 #[] w fun e w' => e = .returned (.bool r) ∧ Below w.heap.size w w' := by
  obtain rfl := Option.some.inj h
  clear h
  go_enter Try.func44, Try.ntmps44
  go_upto_region 2 with (fail)
  obtain ⟨g1, hg1⟩ : ∃ g1, g1 = w.heap.size := ⟨_, rfl⟩
  obtain ⟨W1, hW1⟩ : ∃ W1, W1 = w.alloc (.cells (rvals rS) 87) := ⟨_, rfl⟩
  have HB1 : Aside0 (Below w.heap.size w W1) := ⟨by rw [hW1]; exact (Below.refl _ _).alloc (Nat.le_refl _) _⟩
  have HR1 : Aside0 (W1.heap[g1]? = some (.cells (rvals rS) 87 (0, 0))) := ⟨by rw [hW1, hg1]; exact blk_new w _⟩
  unfold rvals rS at hW1
  simp only at hW1
  rw [← hW1, ← hg1]
  clear hW1 hg1
  have hat := RAt.of_blk (r := rS) HR1.out rfl
  have c0 := hat.c0
  have c1 := hat.c1
  have c2 := hat.c2
  have c3 := hat.c3
  have c4 := hat.c4
  have c5 := hat.c5
  have c6 := hat.c6
  have c7 := hat.c7
  unfold rS at c0 c1 c2 c3 c4 c5 c6 c7
  simp only at c0 c1 c2 c3 c4 c5 c6 c7
  clear hat
  go_wp2_with fail
  obtain ⟨g2, hg2⟩ : ∃ g2, g2 = W1.heap.size := ⟨_, rfl⟩
  obtain ⟨W2, hW2⟩ : ∃ W2, W2 = W1.alloc (.cells #[.bool true, .int .i64 7, .int .i64 1, .int .i64 2, .int .i64 4, .int .i64 5, .int .i64 10, .bool false] 87) := ⟨_, rfl⟩
  have HC2 : Aside0 (Kd.C k87 W2 (some ⟨g2, 0, none⟩) 1 [xS]) := ⟨by
    have h2 := World.ownsRow_lit (base := W1.heap.size) (e := 87) (size := 8) W1 #[.bool true, .int .i64 7, .int .i64 1, .int .i64 2, .int .i64 4, .int .i64 5, .int .i64 10, .bool false] 1 (Nat.le_refl _) (by decide) rfl
    rw [← hW2, ← hg2] at h2
    have h3 : Kd.R k87 87 W2 g2 (fun _ => True) (.slice (some ⟨g2, 0, none⟩) 1 1) [xS] := ⟨fun _ _ => trivial, _, h2, lit_one (k87_mkM _ _ _ xS) rfl⟩
    exact (Kd.R_reads' h3).2.2⟩
  have HB2 : Aside0 (Below w.heap.size w W2) := ⟨by rw [hW2]; exact HB1.out.alloc HB1.out.size _⟩
  have HR2 : Aside0 (W2.heap[g1]? = some (.cells (rvals rS) 87 (0, 0))) := ⟨by rw [hW2]; exact blk_alloc HR1.out _⟩
  rw [← hW2, ← hg2]
  clear hW2 hg2 HR1 HB1
  refine (ramp_Events.calls (some ⟨g2, 0, none⟩) 1 [xS] 99 [eS1, eS2] 0 W2 HC2.out (Nat.le_refl _) sure_ev).mono ?_
  rintro e w3 ⟨v3, rfl, hr3, hb3⟩
  have HE3 := Aside0.mk (Kd.R_lower hr3 HB2.out.size)
  have HB3 := Aside0.mk (HB2.out.trans (hb3.mono HB2.out.size))
  have HR3 := Aside0.mk (blk_below HR2.out hb3)
  clear hr3 hb3 HC2 HB2 HR2
  have hat := RAt.of_blk (r := rS) HR3.out rfl
  replace c0 := hat.c0
  replace c1 := hat.c1
  replace c2 := hat.c2
  replace c3 := hat.c3
  replace c4 := hat.c4
  replace c5 := hat.c5
  replace c6 := hat.c6
  replace c7 := hat.c7
  unfold rS at c0 c1 c2 c3 c4 c5 c6 c7
  simp only at c0 c1 c2 c3 c4 c5 c6 c7
  clear hat
  go_wp2_with fail
  have hv1 := rv_calls rS 15 w3
  rw [sure_v1] at hv1
  refine hv1.mono ?_
  rintro e w4 ⟨rfl, hb4⟩
  have HE4 := Aside0.mk (Kd.R_below HE3.out hb4)
  have HB4 := Aside0.mk (HB3.out.trans (hb4.mono HB3.out.size))
  have HR4 := Aside0.mk (blk_below HR3.out hb4)
  clear hv1 hb4 HE3 HB3 HR3
  have hat := RAt.of_blk (r := rS) HR4.out rfl
  replace c0 := hat.c0
  replace c1 := hat.c1
  replace c2 := hat.c2
  replace c3 := hat.c3
  replace c4 := hat.c4
  replace c5 := hat.c5
  replace c6 := hat.c6
  replace c7 := hat.c7
  unfold rS at c0 c1 c2 c3 c4 c5 c6 c7
  simp only at c0 c1 c2 c3 c4 c5 c6 c7
  clear hat
  go_wp2_with fail
  have hv2 := rv_calls rS 4 w4
  rw [sure_v2] at hv2
  refine hv2.mono ?_
  rintro e w5 ⟨rfl, hb5⟩
  have HE5 := Aside0.mk (Kd.R_below HE4.out hb5)
  have HB5 := Aside0.mk (HB4.out.trans (hb5.mono HB4.out.size))
  have HR5 := Aside0.mk (blk_below HR4.out hb5)
  clear hv2 hb5 HE4 HB4 HR4 c0 c1 c2 c3 c4 c5 c6 c7
  obtain ⟨A3, k3, rfl⟩ := Kd.R_slice HE5.out
  go_wp2_with fail
  obtain ⟨g6, hg6⟩ : ∃ g6, g6 = w5.heap.size := ⟨_, rfl⟩
  obtain ⟨W6, hW6⟩ : ∃ W6, W6 = w5.alloc (.cells #[.int .i64 0, .int .i64 5, .int .u8 0, .bool false, .int .i64 0, .int .i64 0, .int .i64 0, .int .i64 9, .int .u8 0, .bool false, .int .i64 0, .int .i64 0] 106) := ⟨_, rfl⟩
  have HM6 : Aside0 (Kd.R k106 106 W6 w.heap.size (fun _ => True) (.slice (some ⟨g6, 0, none⟩) 2 2) [aS1, aS2]) := ⟨by
    have h2 := World.ownsRow_lit (base := w.heap.size) (e := 106) (size := 6) w5 #[.int .i64 0, .int .i64 5, .int .u8 0, .bool false, .int .i64 0, .int .i64 0, .int .i64 0, .int .i64 9, .int .u8 0, .bool false, .int .i64 0, .int .i64 0] 2 HB5.out.size (by decide) rfl
    rw [← hW6, ← hg6] at h2
    exact ⟨fun _ _ => trivial, _, h2, lit_two (k106_mkM _ _ _ aS1) (k106_mkM _ _ _ aS2) rfl rfl⟩⟩
  have HB6 : Aside0 (Below w.heap.size w W6) := ⟨by rw [hW6]; exact HB5.out.alloc HB5.out.size _⟩
  have HR6 : Aside0 (W6.heap[g1]? = some (.cells (rvals rS) 87 (0, 0))) := ⟨by rw [hW6]; exact blk_alloc HR5.out _⟩
  have HE6 : Aside0 (Kd.R k106 106 W6 w.heap.size (fun _ => True) (.slice A3 2 k3) [eS1, eS2]) := ⟨by rw [hW6]; exact Kd.R_alloc HE5.out _⟩
  rw [← hW6, ← hg6]
  clear hW6 hg6 HE5 HB5 HR5
  refine (ramp_Merge.calls 50 (fun _ => True) A3 k3 [eS1, eS2] (fun _ => True) (some ⟨g6, 0, none⟩) 2 [aS1, aS2] [eS1, aS1, aS2, eS2] W6 (Kd.R_V HE6.out) (Kd.R_V HM6.out) sure_m).mono ?_
  rintro e w7 ⟨v7, rfl, hr7, hb7⟩
  obtain ⟨g7, k7, rfl, _, _, _⟩ := Kd.R_form hr7 (by simp)
  have HM7 := Aside0.mk hr7
  have HB7 := Aside0.mk (HB6.out.trans (hb7.mono HB6.out.size))
  have HR7 := Aside0.mk (blk_below HR6.out hb7)
  have HE7 := Aside0.mk (Kd.R_below HE6.out hb7)
  clear hr7 hb7 HB6 HR6 HE6 HM6
  go_wp2_with fail
  obtain ⟨g8, hg8⟩ : ∃ g8, g8 = w7.heap.size := ⟨_, rfl⟩
  obtain ⟨W8, hW8⟩ : ∃ W8, W8 = w7.alloc (.cells #[.int .i64 3, .int .i64 5, .int .u8 0, .bool false, .int .i64 7, .int .i64 1, .int .i64 3, .int .i64 15, .int .u8 0, .bool false, .int .i64 7, .int .i64 3] 106) := ⟨_, rfl⟩
  have HS8 : Aside0 (Kd.R k106 106 W8 w.heap.size (fun _ => True) (.slice (some ⟨g8, 0, none⟩) 2 2) [eS1, eS2]) := ⟨by
    have h2 := World.ownsRow_lit (base := w.heap.size) (e := 106) (size := 6) w7 #[.int .i64 3, .int .i64 5, .int .u8 0, .bool false, .int .i64 7, .int .i64 1, .int .i64 3, .int .i64 15, .int .u8 0, .bool false, .int .i64 7, .int .i64 3] 2 HB7.out.size (by decide) rfl
    rw [← hW8, ← hg8] at h2
    exact ⟨fun _ _ => trivial, _, h2, lit_two (k106_mkM _ _ _ eS1) (k106_mkM _ _ _ eS2) rfl rfl⟩⟩
  have HB8 : Aside0 (Below w.heap.size w W8) := ⟨by rw [hW8]; exact HB7.out.alloc HB7.out.size _⟩
  have HR8 : Aside0 (W8.heap[g1]? = some (.cells (rvals rS) 87 (0, 0))) := ⟨by rw [hW8]; exact blk_alloc HR7.out _⟩
  have HE8 : Aside0 (Kd.R k106 106 W8 w.heap.size (fun _ => True) (.slice A3 2 k3) [eS1, eS2]) := ⟨by rw [hW8]; exact Kd.R_alloc HE7.out _⟩
  have HM8 : Aside0 (Kd.C k106 W8 (some ⟨g7, 0, none⟩) 4 [eS1, aS1, aS2, eS2]) := ⟨by rw [hW8]; exact (Kd.R_reads' (Kd.R_alloc HM7.out _)).2.2⟩
  rw [← hW8, ← hg8]
  clear hW8 hg8 HE7 HB7 HR7 HM7
  refine (bilgeref33_Same.calls 50 A3 k3 [eS1, eS2] (some ⟨g8, 0, none⟩) 2 [eS1, eS2] true W8 (Kd.R_reads' HE8.out).2.2 (Kd.R_reads' HE8.out).2.1 (Kd.R_reads' HS8.out).2.2 (Nat.le_refl _) sure_s).mono ?_
  rintro e w9 ⟨rfl, hd9⟩
  obtain ⟨n9, hn9⟩ := hd9.out
  have HB9 := Aside0.mk (pw_below_drewN HB8.out n9)
  have HR9 : Aside0 (w9.heap[g1]? = some (.cells (rvals rS) 87 (0, 0))) := ⟨by rw [hn9]; exact HR8.out⟩
  rw [← hn9] at HB9
  have gets : ∀ (i j : Nat) (x : S106) (u : Value), ([eS1, aS1, aS2, eS2] : List S106)[i]? = some x → ([.int .i64 x.f0, .int .i64 x.f1, .int .u8 x.f2, .bool x.f3, .int .i64 x.f4, .int .i64 x.f5] : List Value)[j]? = some u → w9.cell? ⟨g7, i * 6 + j, none⟩ = some u := by
    intro i j x u hi hj
    obtain ⟨ad, e1, hc⟩ := HM8.out.2.2 (by decide)
    cases e1
    obtain ⟨cs, _, hK, hcell⟩ := hc i x hi
    obtain rfl := k106_open hK
    have h1 := hcell j u hj
    rw [hn9]
    have e2 : (⟨g7, 0, none⟩ : Addr).add (i * 6 + j) = ⟨g7, i * 6 + j, none⟩ := by unfold Addr.add; split <;> simp_all
    have h2 : W8.cell? ((⟨g7, 0, none⟩ : Addr).add (i * 6 + j)) = some u := h1
    rw [e2] at h2
    exact h2
  have m0 : w9.cell? ⟨g7, 0, none⟩ = some (.int .i64 3) := gets 0 0 eS1 _ rfl rfl
  have m1 : w9.cell? ⟨g7, 7, none⟩ = some (.int .i64 5) := gets 1 1 aS1 _ rfl rfl
  have m2 : w9.cell? ⟨g7, 13, none⟩ = some (.int .i64 9) := gets 2 1 aS2 _ rfl rfl
  clear gets hd9 hn9 HB8 HR8 HE8 HS8 HM8
  have hat := RAt.of_blk (r := rS) HR9.out rfl
  have c0 := hat.c0
  have c1 := hat.c1
  have c2 := hat.c2
  have c3 := hat.c3
  have c4 := hat.c4
  have c5 := hat.c5
  have c6 := hat.c6
  have c7 := hat.c7
  unfold rS at c0 c1 c2 c3 c4 c5 c6 c7
  simp only at c0 c1 c2 c3 c4 c5 c6 c7
  clear hat
  go_wp2_with fail
  have hrc := right_calls rS w9
  rw [decide_eq_true rS_ok] at hrc
  refine hrc.mono ?_
  rintro e w10 ⟨rfl, hb10⟩
  have HB10 := Aside0.mk (HB9.out.trans (hb10.mono HB9.out.size))
  clear hrc hb10 HB9 HR9 c0 c1 c2 c3 c4 c5 c6 c7 m0 m1 m2
  go_wp2_with fail
  have hrz := right_calls ⟨false, 0, 0, 0, 0, 0, 0, false⟩ w10
  rw [show decide (Rp.Ok ⟨false, 0, 0, 0, 0, 0, 0, false⟩) = false from decide_eq_false (by unfold Rp.Ok; decide)] at hrz
  refine hrz.mono ?_
  rintro e w11 ⟨rfl, hb11⟩
  have HB11 := Aside0.mk (HB10.out.trans (hb11.mono HB10.out.size))
  clear hrz hb11
  go_wp2
  go_ret
  exact ⟨rfl, HB11.out⟩

end Go.Proofs.Ytballgciakljnaa.PRampLast

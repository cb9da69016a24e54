-- Written by a program of this session, in the form of the kit's print, some functions by hand (N.B. not a file of print.sh's).
import Derived.Test.YtbghnfhjaolhaaaPAlarmHoldsx0
import Derived.Test.YtbghnfhjaolhaaaPAlarmHoldsx1
namespace Go.Proofs.Ytbghnfhjaolhaaa.PAlarmHolds
open Go.RowKit Go.Proofs.YtbghnfhjaolhaaaW.PrintWords Go.Proofs.YtbghnfhjaolhaaaW.PrintLast Go.Proofs.YtbghnfhjaolhaaaW.PrintMore Go.Proofs.YtbghnfhjaolhaaaM
attribute [local go_sem] max2_int min2_int max_two min_two max_three min_three max_four min_four   -- for this text's walks alone
set_option linter.unusedVariables false
set_option linter.unusedSimpArgs false

/-! ### alarm_New: function 41 (by hand) -/
set_option maxRecDepth 100000 in
theorem new_nil (lo hi sl de : Int) (w : World) (h : rightF lo hi sl de = false) :
    Calls Try.prog 41 #[.agg #[.int .i64 lo, .int .i64 hi, .int .i64 sl, .int .i64 de]] w fun e w' => e = .returned (.pointer none) ∧ Below w.heap.size w w' := by
  have HR := Aside0.mk (fun W : World => alarm_Right.calls lo hi sl de false W (by unfold alarm_Right.f; rw [h]))
  have hbl : (w.alloc (.cells #[.int .i64 lo, .int .i64 hi, .int .i64 sl, .int .i64 de] 61)).heap[w.heap.size]? = some (.cells #[.int .i64 lo, .int .i64 hi, .int .i64 sl, .int .i64 de] 61 (0, 0)) := blk_new w _
  have HB := Aside0.mk ((Below.refl w.heap.size w).alloc (Nat.le_refl _) (.cells #[.int .i64 lo, .int .i64 hi, .int .i64 sl, .int .i64 de] 61))
  clear h
  go_enter Try.func41, Try.ntmps41
  go_wp2_with (go_at_call 39; refine (HR.out _).mono ?_; rintro e w1 ⟨rfl, hg⟩; have HB1 := Aside0.mk (HB.out.trans (hg.mono HB.out.size)); clear hg)
  go_ret
  exact ⟨rfl, HB1.out⟩
set_option maxRecDepth 100000 in
theorem new_made (lo hi sl de : Int) (w : World) (h : rightF lo hi sl de = true) :
    Calls Try.prog 41 #[.agg #[.int .i64 lo, .int .i64 hi, .int .i64 sl, .int .i64 de]] w fun e w' => ∃ g, e = .returned (.pointer (some ⟨g, 0, none⟩)) ∧ Bk w' g ⟨lo, hi, sl, de, 0, 0, 0, 0⟩ ∧ w.heap.size ≤ g ∧ Below w.heap.size w w' := by
  have HR := Aside0.mk (fun W : World => alarm_Right.calls lo hi sl de true W (by unfold alarm_Right.f; rw [h]))
  have hbl : (w.alloc (.cells #[.int .i64 lo, .int .i64 hi, .int .i64 sl, .int .i64 de] 61)).heap[w.heap.size]? = some (.cells #[.int .i64 lo, .int .i64 hi, .int .i64 sl, .int .i64 de] 61 (0, 0)) := blk_new w _
  have HBL := Aside0.mk hbl
  have HB := Aside0.mk ((Below.refl w.heap.size w).alloc (Nat.le_refl _) (.cells #[.int .i64 lo, .int .i64 hi, .int .i64 sl, .int .i64 de] 61))
  clear h hbl
  go_enter Try.func41, Try.ntmps41
  go_wp2_with (go_at_call 39; refine (HR.out _).mono ?_; rintro e w1 ⟨rfl, hg⟩; have hb1 := blk_below HBL.out hg; have c0 : w1.cell? ⟨w.heap.size, 0, none⟩ = some (.int .i64 lo) := (blk_cell hb1 0).trans rfl; have c1 : w1.cell? ⟨w.heap.size, 1, none⟩ = some (.int .i64 hi) := (blk_cell hb1 1).trans rfl; have c2 : w1.cell? ⟨w.heap.size, 2, none⟩ = some (.int .i64 sl) := (blk_cell hb1 2).trans rfl; have c3 : w1.cell? ⟨w.heap.size, 3, none⟩ = some (.int .i64 de) := (blk_cell hb1 3).trans rfl; have HB1 := Aside0.mk (HB.out.trans (hg.mono HB.out.size)); clear hg hb1)
  go_ret
  exact ⟨_, rfl, blk_new w1 _, HB1.out.size, HB1.out.alloc HB1.out.size _⟩

/-! ### alarm_Watch_none: function 80 (by hand) -/
set_option maxRecDepth 100000 in
theorem none_nil (w : World) : Calls Try.prog 80 #[.pointer none] w fun e w' => e = .returned (.bool true) ∧ Drawn0 w w' := by
  go_enter Try.func80, Try.ntmps80
  go_wp2
  go_ret
  exact ⟨rfl, Drawn0.refl _⟩
set_option maxRecDepth 100000 in
theorem none_made (g : Nat) (s : Wt) (w : World) (h : Bk w g s) : Calls Try.prog 80 #[.pointer (some ⟨g, 0, none⟩)] w fun e w' => e = .returned (.bool false) ∧ Drawn0 w w' := by
  have h4 := h.cell 4
  simp only [Wt.cells] at h4
  go_enter Try.func80, Try.ntmps80
  go_wp2
  go_ret
  exact ⟨rfl, Drawn0.refl _⟩

end Go.Proofs.Ytbghnfhjaolhaaa.PAlarmHolds

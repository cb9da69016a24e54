-- Written by a program of this session, in the form of the kit's print, some functions by hand (N.B. not a file of print.sh's).
import Derived.Test.YtballgciakljnaaPRampLastx0
import Derived.Test.YtballgciakljnaaPRampLastx3
import Derived.Test.YtballgciakljnaaPRampLastx6
namespace Go.Proofs.Ytballgciakljnaa.PRampLast
open Go.RowKit Go.Proofs.YtballgciakljnaaW.PrintWords Go.Proofs.YtballgciakljnaaW.PrintLast Go.Proofs.YtballgciakljnaaW.PrintMore Go.Proofs.YtballgciakljnaaM
attribute [local go_sem] max2_int min2_int max_two min_two max_three min_three max_four min_four   -- for this text's walks alone
set_option linter.unusedVariables false
set_option linter.unusedSimpArgs false

/-! ### ramp_next_goes: function 120 (by hand) -/
def goF (r : Rp) (k : Int) : Bool := decide (1 < manyF r) && (r.ag || decide (k + 1 < manyF r))
set_option maxRecDepth 100000 in
theorem goes_calls (gn : Nat) (r : Rp) (i k : Int) (w : World) (h : w.heap[gn]? = some (.cells (nvals r i k) 203 (0, 0))) (hok : r.Ok) (hk : 0 ≤ k ∧ k ≤ 1000000) :
    Calls Try.prog 120 #[.pointer (some ⟨gn, 0, none⟩)] w fun e w' => e = .returned (.bool (goF r k)) ∧ (w.setCell ⟨gn, 9, none⟩ (.int .i64 (k + 1))).heap[gn]? = some (.cells (nvals r i (k + 1)) 203 (0, 0)) ∧ Drawn0 (w.setCell ⟨gn, 9, none⟩ (.int .i64 (k + 1))) w' := by
  have HOK := Aside0.mk hok
  have k9 : w.cell? ⟨gn, 9, none⟩ = some (.int .i64 k) := (blk_cell h 9).trans rfl
  have f9 : w.frozen? ⟨gn, 9, none⟩ = false := blk_frozen h 9
  obtain ⟨W, hW⟩ : ∃ W, W = w.setCell ⟨gn, 9, none⟩ (.int .i64 (k + 1)) := ⟨_, rfl⟩
  have hb : W.heap[gn]? = some (.cells (nvals r i (k + 1)) 203 (0, 0)) := by rw [hW]; exact blk_put h 9 _ rfl
  have HB := Aside0.mk hb
  have HR := Aside0.mk (RAt.of_blk (r := r) hb rfl)
  have hw1 : IntKind.i64.wrap (k + 1) = k + 1 := by rw [i64_w]; unfold wrap64; omega
  rw [← hW]
  obtain ⟨m, hm⟩ : ∃ m, manyF r = m := ⟨_, rfl⟩
  have HM := Aside0.mk hm
  have x9 : W.cell? ⟨gn, 9, none⟩ = some (.int .i64 (k + 1)) := (blk_cell hb 9).trans rfl
  have x7 : W.cell? ⟨gn, 7, none⟩ = some (.bool r.ag) := (blk_cell hb 7).trans rfl
  obtain ⟨ag, hag⟩ : ∃ ag, r.ag = ag := ⟨_, rfl⟩
  rw [hag] at x7
  have hgf : goF r k = (decide (1 < m) && (ag || decide (k + 1 < m))) := by unfold goF; rw [hm, hag]
  rw [hgf]
  have HW := Aside0.mk hW
  clear h hb hm hgf hok hag hW
  by_cases h1 : 1 < m
  · have d1 : decide (1 < m) = true := decide_eq_true h1
    rw [d1]
    cases ag with
    | true =>
      go_enter Try.func120, Try.ntmps120
      go_wp2
      rw [← HW.out]
      go_quiet (first | (go_at_call 162; refine (many_calls gn r _ (HR.out.drewN _) HOK.out).mono ?_; rintro e w' ⟨rfl, ⟨nd, rfl⟩⟩; rw [HM.out]; (try first | exact ⟨rfl, _, World.drewN_drewN _ _ _⟩ | exact ⟨rfl, _, Eq.trans (World.drewN_drewN _ _ _) (congrArg (World.drewN _) (Nat.add_assoc _ _ _))⟩)))
      go_wp2
      go_ret
      exact ⟨rfl, HB.out, ⟨⟨_, rfl⟩⟩⟩
    | false =>
      go_enter Try.func120, Try.ntmps120
      go_wp2
      rw [← HW.out]
      go_quiet (first | (go_at_call 162; refine (many_calls gn r _ (HR.out.drewN _) HOK.out).mono ?_; rintro e w' ⟨rfl, ⟨nd, rfl⟩⟩; rw [HM.out]; (try first | exact ⟨rfl, _, World.drewN_drewN _ _ _⟩ | exact ⟨rfl, _, Eq.trans (World.drewN_drewN _ _ _) (congrArg (World.drewN _) (Nat.add_assoc _ _ _))⟩)))
      go_wp2
      go_ret
      exact ⟨rfl, HB.out, ⟨⟨_, rfl⟩⟩⟩
  · have d1 : decide (1 < m) = false := decide_eq_false h1
    rw [d1]
    go_enter Try.func120, Try.ntmps120
    go_wp2
    rw [← HW.out]
    go_quiet (first | (go_at_call 162; refine (many_calls gn r _ (HR.out.drewN _) HOK.out).mono ?_; rintro e w' ⟨rfl, ⟨nd, rfl⟩⟩; rw [HM.out]; (try first | exact ⟨rfl, _, World.drewN_drewN _ _ _⟩ | exact ⟨rfl, _, Eq.trans (World.drewN_drewN _ _ _) (congrArg (World.drewN _) (Nat.add_assoc _ _ _))⟩)))
    go_wp2
    go_ret
    exact ⟨rfl, HB.out, ⟨⟨_, rfl⟩⟩⟩

/-! ### heap_down: function 164 (by hand) -/
set_option maxRecDepth 100000 in
theorem down_calls (v : Value) (n : Nat) (hn : n ≤ 1) (w : World) : Calls Try.prog 164 #[v, .int .i64 0, .int .i64 (n : Int)] w fun e w' => e = .returned (.bool false) ∧ w' = w := by
  have d1 : decide ((1 : Int) ≥ (n : Int)) = true := decide_eq_true (by omega)
  have d2 : decide ((n : Int) ≤ (1 : Int)) = true := decide_eq_true (by omega)
  go_enter Try.func164, Try.ntmps164
  go_wp2
  go_loopw [7] (fun v7 wr => v7 = .int .i64 0 ∧ w = wr) (fun _ _ => 0)
  case atStart => exact ⟨rfl, rfl⟩
  case round =>
    obtain ⟨rfl, hw⟩ := hrel
    subst hw
    go_wp2
    go_ret
    exact ⟨rfl, rfl⟩

/-! ### heap_Fix: function 121 (by hand) -/
set_option maxRecDepth 100000 in
theorem fix_calls (gh : Nat) (A : Option Addr) (c : Nat) (w : World) (h : HAt w gh (.slice A 1 c)) : Calls Try.prog 121 #[.iface 200 (.pointer (some ⟨gh, 0, none⟩)), .int .i64 0] w fun e w' => e = .returned (.tuple #[]) ∧ w' = w := by
  have H := Aside0.mk h
  clear h
  have hen : ∀ (args : Array Value) (U : World), (callFunc 209 args).run Try.prog U = .ok (.enter 209 args) U := fun args U => enters_ (fn := Try.f209) (by kernel_rfl) (by kernel_rfl) rfl args U
  go_enter Try.func121, Try.ntmps121
  go_wp2_with fail
  rw [H.out.meth (f := 209) (by kernel_rfl)]
  simp only [Result.andThen_ok]
  rw [hen, Oper.upon_enter]
  refine (hlen_calls A 1 c w).mono ?_
  rintro e w1 ⟨rfl, hw1⟩
  subst hw1
  go_wp2_with fail
  refine (down_calls _ 1 (Nat.le_refl _) w1).mono ?_
  rintro e w2 ⟨rfl, hw2⟩
  subst hw2
  go_wp2_with fail
  refine (up_calls _ w2).mono ?_
  rintro e w3 ⟨rfl, hw3⟩
  subst hw3
  go_wp2
  go_end0
  exact ⟨rfl, rfl⟩

end Go.Proofs.Ytballgciakljnaa.PRampLast

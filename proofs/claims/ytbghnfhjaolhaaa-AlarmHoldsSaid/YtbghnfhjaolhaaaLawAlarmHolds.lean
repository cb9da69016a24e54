-- Written by a program of this session, in the form of the kit's print, some functions by hand (N.B. not a file of print.sh's).
import Derived.Test.YtbghnfhjaolhaaaRows
import Derived.Test.YtbghnfhjaolhaaaPAlarmHoldsx8
import Derived.Test.YtbghnfhjaolhaaaPureAlarmHolds
import Derived.Test.YtbghnfhjaolhaaaOpen
import Derived.WalkKit
import Derived.ProofKit
import Derived.OpenShut
import Derived.ShutString
import Derived.ChangeOld
import Derived.Below
import Derived.SizedLaws
namespace Go.Proofs.Ytbghnfhjaolhaaa.alarmHolds
open Go.ChangeShapes Go.WideShapes Go.ChangeAt Go.RowKit Go.Proofs.Ytbghnfhjaolhaaa.PAlarmHolds Go.Proofs.YtbghnfhjaolhaaaW.PrintWords Go.Proofs.YtbghnfhjaolhaaaW.PrintLast Go.Proofs.YtbghnfhjaolhaaaW.PrintMore Go.Proofs.YtbghnfhjaolhaaaM
open Go.ChangeMaps (open_string shut_string)
set_option linter.unusedVariables false
set_option linter.unusedSimpArgs false
theorem own : ownKnob Try.prog.godebug = none := by kernel_rfl
theorem laidOut : laidOutB Try.prog = true := by kernel_rfl
theorem opens61 {H : Type} {enc : TypeId × Value → H} {W : World} : Opens enc Try.prog W 61 k61 (fun x => ((Lit.int .i64 x.f0).wf = true) ∧ ((Lit.int .i64 x.f1).wf = true) ∧ ((Lit.int .i64 x.f2).wf = true) ∧ (Lit.int .i64 x.f3).wf = true) :=
  opens_struct (fun x : S61 => (x.f0, x.f1, x.f2, x.f3)) (fun p => ⟨p.1, p.2.1, p.2.2.1, p.2.2.2⟩) (fun _ => rfl) Try.underlying61 (by intro i q hq; match i, hq with | 0, hq => obtain rfl := Option.some.inj hq; show (_ : Nat) = _; kernel_rfl | 1, hq => obtain rfl := Option.some.inj hq; show (_ : Nat) = _; kernel_rfl | 2, hq => obtain rfl := Option.some.inj hq; show (_ : Nat) = _; kernel_rfl | 3, hq => obtain rfl := Option.some.inj hq; show (_ : Nat) = _; kernel_rfl | (n_ + 4), hq => simp at hq) (by kernel_rfl) (fopens_cons (opens_int Try.underlying2) (fopens_cons (opens_int Try.underlying2) (fopens_cons (opens_int Try.underlying2) (fopens_one (opens_int Try.underlying3)))))
theorem opens67 {H : Type} {enc : TypeId × Value → H} {W : World} : Opens enc Try.prog W 67 k67 (fun x => ((Lit.int .i64 x.f0).wf = true) ∧ (Lit.int .i64 x.f1).wf = true) :=
  opens_struct (fun x : S67 => (x.f0, x.f1)) (fun p => ⟨p.1, p.2⟩) (fun _ => rfl) Try.underlying67 (by intro i q hq; match i, hq with | 0, hq => obtain rfl := Option.some.inj hq; show (_ : Nat) = _; kernel_rfl | 1, hq => obtain rfl := Option.some.inj hq; show (_ : Nat) = _; kernel_rfl | (n_ + 2), hq => simp at hq) (by kernel_rfl) (fopens_cons (opens_int Try.underlying3) (fopens_one (opens_int Try.underlying2)))
set_option maxRecDepth 100000 in
theorem lifted (os : Os) (started : os.Started) (H : Type) (enc : TypeId × Value → H) :
    ReturnsInHanded {} Try.checked os 8 .any (Rows.alarmHoldsSpec.pre6 enc Try.prog Try.f8 Rows.alarmHoldsRow.domain false) (Rows.alarmHoldsSpec.post enc Try.prog Try.f8 false true false false) := by
  refine returnsInHanded_of_change_sized (C := Try.checked) own started (by kernel_rfl) Try.func8
    (ChangeSpec.witness6 (enc := enc) (C := Try.checked) false ⟨#[], #[(.agg #[(.int .i64 0), (.int .i64 0), (.int .i64 0), (.int .i64 0)]), (.slice none 0 0)], []⟩ 8 (by kernel_rfl) (by kernel_rfl) (by kernel_rfl) (by kernel_rfl)) ?_
  intro W base args ds gs before hval0 hW hcnd hsz0 _
  have hsz : (DataW.weightsEach Try.prog (Try.f8.params.toList ++ Rows.alarmHoldsSpec.plain.varTypes Try.prog) (ds ++ gs)).all (· ≤ reachBytes) = true := hsz0
  have hval : ∀ (j : Nat) t v, Try.f8.params[j]? = some t → args[j]? = some v → Value.okWide Try.prog W .any base t v := hval0
  have hW' := hW
  obtain ⟨p, q, hA0, hV, rfl, hfz, hnd⟩ := hW
  have hA : DataW.TrodAll enc Try.prog W 0 (fun _ => true) true Try.f8.params.toList args.toList ds p := hA0
  rw [Try.params8] at hA hval hsz
  obtain ⟨v0, vs0, d0, ds0, p0, q0, hargs, rfl, rfl, h0, r0⟩ := trodAll_cons hA
  obtain ⟨v1, vs1, d1, ds1, p1, q1, rfl, rfl, rfl, h1, r1⟩ := trodAll_cons r0
  obtain ⟨rfl, rfl, rfl⟩ := trodAll_nil r1
  obtain rfl : args = #[v0, v1] := by cases args; simp_all
  obtain ⟨rfl, rfl⟩ := trodVars_none hV
  have k0 := h0
  have lt0 : ∀ x ∈ p0, x.block < W.heap.size := by obtain ⟨m, hm⟩ := k0; exact DataW.trod_lt m _ _ _ hm
  have k1 := h1
  have lt1 : ∀ x ∈ p1, x.block < W.heap.size := by obtain ⟨m, hm⟩ := k1; exact DataW.trod_lt m _ _ _ hm
  obtain ⟨x0, K0, w0⟩ := opened opens61 hsz (j := 0) rfl rfl h0
  obtain ⟨g0, rfl, _⟩ := okWide_struct Try.underlying61 (hval 0 61 v0 rfl rfl)
  obtain ⟨_, _, e0, rfl, ⟨_, _, rfl, rfl, ⟨_, _, rfl, rfl, rfl⟩⟩⟩ := K0
  have e0 := agg_of e0
  simp only [List.cons_append, List.nil_append] at e0
  subst e0
  obtain ⟨x1, K1, w1⟩ := opened (opens_slice (B := 16) Try.underlying62 (by kernel_rfl) (by kernel_rfl) opens67) hsz (j := 1) rfl rfl h1
  obtain ⟨a1, len1, cap1, rfl⟩ := okWide_slice Try.underlying62 (hval 1 62 v1 rfl rfl)
  obtain ⟨A1, c1, e1, hc1, hr1⟩ := K1
  simp only [Value.cells, List.cons.injEq, Value.slice.injEq, and_true] at e1
  obtain ⟨rfl, rfl, rfl⟩ := e1
  clear hA0 hval0 hsz0 hsz
  obtain ⟨k, h⟩ := Pure.AlarmHolds x0 x1 w0 w1
  refine (bilgelaw46_AlarmHolds.calls (k := k) (a0_0 := x0.f0) (a0_1 := x0.f1) (a0_2 := x0.f2) (a0_3 := x0.f3) (A1 := a1) (c1 := cap1) (l1 := x1) (hr1 := hr1) (hc1 := hc1) (r := true) (w := W) (h := h)).mono fun e W' ⟨he, hd⟩ => ?_
  have bel : Below W.heap.size W W' := hd
  subst he
  exact ⟨_, rfl, _, _, _, [], _, [], hW', trodAll_mk1 (shut_bool Try.underlying4 _), (trodAll_cons_mk (Below.trod laidOut (by kernel_rfl) (of_decide_eq_true (by kernel_rfl)) k0 bel lt0) (trodAll_cons_mk (Below.trod laidOut (by kernel_rfl) (of_decide_eq_true (by kernel_rfl)) k1 bel lt1) trodAll_mk0)), rfl, bel.frame _, fun h => by cases h⟩
theorem over : Rows.alarmHoldsRow.holds Try.pinned (OpenSpec.ofChange Rows.alarmHoldsSpec) :=
  OpenClaim.holds_of_wide 8 Try.f8 rfl rfl rfl rfl rfl rfl rfl ⟨rfl, rfl, rfl, rfl, rfl⟩ rfl rfl rfl rfl rfl (by kernel_rfl) Try.func8 (by kernel_rfl)
    (of_decide_eq_true (by kernel_rfl)) (by unfold Func.isWrapper; first | (rw [if_pos (by decide +kernel)]; kernel_rfl) | (rw [if_neg (by decide +kernel)]; exact ⟨rfl, rfl⟩))
    (fun os started H enc _ => lifted os started H enc)
theorem proved : Rows.AlarmHoldsSaid := over
#print axioms proved
end Go.Proofs.Ytbghnfhjaolhaaa.alarmHolds
namespace Go.Proofs.Ytbghnfhjaolhaaa
/-- The row, under a short name, for the claim. -/
theorem alarmHolds_holds : Rows.AlarmHoldsSaid := alarmHolds.proved
end Go.Proofs.Ytbghnfhjaolhaaa

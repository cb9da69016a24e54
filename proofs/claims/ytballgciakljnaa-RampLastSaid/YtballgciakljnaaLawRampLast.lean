-- Written by a program of this session, in the form of the kit's print, some functions by hand (N.B. not a file of print.sh's).
import Derived.Test.YtballgciakljnaaRows
import Derived.Test.YtballgciakljnaaPRampLastx13
import Derived.Test.YtballgciakljnaaPureRampLast
import Derived.Test.YtballgciakljnaaOpen
import Derived.WalkKit
import Derived.ProofKit
import Derived.OpenShut
import Derived.ShutString
import Derived.ChangeOld
import Derived.Below
import Derived.SizedLaws
namespace Go.Proofs.Ytballgciakljnaa.rampLast
open Go.ChangeShapes Go.WideShapes Go.ChangeAt Go.RowKit Go.Proofs.Ytballgciakljnaa.PRampLast Go.Proofs.YtballgciakljnaaW.PrintWords Go.Proofs.YtballgciakljnaaW.PrintLast Go.Proofs.YtballgciakljnaaW.PrintMore Go.Proofs.YtballgciakljnaaM
open Go.ChangeMaps (open_string shut_string)
set_option linter.unusedVariables false
set_option linter.unusedSimpArgs false
theorem own : ownKnob Try.prog.godebug = none := by kernel_rfl
theorem laidOut : laidOutB Try.prog = true := by kernel_rfl
theorem opens87 {H : Type} {enc : TypeId × Value → H} {W : World} : Opens enc Try.prog W 87 k87 (fun x => (True) ∧ ((Lit.int .i64 x.f1).wf = true) ∧ ((Lit.int .i64 x.f2).wf = true) ∧ ((Lit.int .i64 x.f3).wf = true) ∧ ((Lit.int .i64 x.f4).wf = true) ∧ ((Lit.int .i64 x.f5).wf = true) ∧ ((Lit.int .i64 x.f6).wf = true) ∧ True) :=
  opens_struct (fun x : S87 => (x.f0, x.f1, x.f2, x.f3, x.f4, x.f5, x.f6, x.f7)) (fun p => ⟨p.1, p.2.1, p.2.2.1, p.2.2.2.1, p.2.2.2.2.1, p.2.2.2.2.2.1, p.2.2.2.2.2.2.1, p.2.2.2.2.2.2.2⟩) (fun _ => rfl) Try.underlying87 (by intro i q hq; match i, hq with | 0, hq => obtain rfl := Option.some.inj hq; show (_ : Nat) = _; kernel_rfl | 1, hq => obtain rfl := Option.some.inj hq; show (_ : Nat) = _; kernel_rfl | 2, hq => obtain rfl := Option.some.inj hq; show (_ : Nat) = _; kernel_rfl | 3, hq => obtain rfl := Option.some.inj hq; show (_ : Nat) = _; kernel_rfl | 4, hq => obtain rfl := Option.some.inj hq; show (_ : Nat) = _; kernel_rfl | 5, hq => obtain rfl := Option.some.inj hq; show (_ : Nat) = _; kernel_rfl | 6, hq => obtain rfl := Option.some.inj hq; show (_ : Nat) = _; kernel_rfl | 7, hq => obtain rfl := Option.some.inj hq; show (_ : Nat) = _; kernel_rfl | (n_ + 8), hq => simp at hq) (by kernel_rfl) (fopens_cons (opens_bool Try.underlying4) (fopens_cons (opens_int Try.underlying3) (fopens_cons (opens_int Try.underlying3) (fopens_cons (opens_int Try.underlying3) (fopens_cons (opens_int Try.underlying3) (fopens_cons (opens_int Try.underlying3) (fopens_cons (opens_int Try.underlying3) (fopens_one (opens_bool Try.underlying4)))))))))
set_option maxRecDepth 100000 in
theorem lifted (os : Os) (started : os.Started) (H : Type) (enc : TypeId × Value → H) :
    ReturnsInHanded {} Try.checked os 10 .any (Rows.rampLastSpec.pre6 enc Try.prog Try.f10 Rows.rampLastRow.domain false) (Rows.rampLastSpec.post enc Try.prog Try.f10 false true false false) := by
  refine returnsInHanded_of_change_sized (C := Try.checked) own started (by kernel_rfl) Try.func10
    (ChangeSpec.witness6 (enc := enc) (C := Try.checked) false ⟨#[], #[(.agg #[(.bool false), (.int .i64 0), (.int .i64 0), (.int .i64 0), (.int .i64 0), (.int .i64 0), (.int .i64 0), (.bool false)]), (.int .u16 0), (.int .u16 0)], []⟩ 8 (by kernel_rfl) (by kernel_rfl) (by kernel_rfl) (by kernel_rfl)) ?_
  intro W base args ds gs before hval0 hW hcnd hsz0 _
  have hsz : (DataW.weightsEach Try.prog (Try.f10.params.toList ++ Rows.rampLastSpec.plain.varTypes Try.prog) (ds ++ gs)).all (· ≤ reachBytes) = true := hsz0
  have hval : ∀ (j : Nat) t v, Try.f10.params[j]? = some t → args[j]? = some v → Value.okWide Try.prog W .any base t v := hval0
  have hW' := hW
  obtain ⟨p, q, hA0, hV, rfl, hfz, hnd⟩ := hW
  have hA : DataW.TrodAll enc Try.prog W 0 (fun _ => true) true Try.f10.params.toList args.toList ds p := hA0
  rw [Try.params10] at hA hval hsz
  obtain ⟨v0, vs0, d0, ds0, p0, q0, hargs, rfl, rfl, h0, r0⟩ := trodAll_cons hA
  obtain ⟨v1, vs1, d1, ds1, p1, q1, rfl, rfl, rfl, h1, r1⟩ := trodAll_cons r0
  obtain ⟨v2, vs2, d2, ds2, p2, q2, rfl, rfl, rfl, h2, r2⟩ := trodAll_cons r1
  obtain ⟨rfl, rfl, rfl⟩ := trodAll_nil r2
  obtain rfl : args = #[v0, v1, v2] := by cases args; simp_all
  obtain ⟨rfl, rfl⟩ := trodVars_none hV
  have k0 := h0
  have lt0 : ∀ x ∈ p0, x.block < W.heap.size := by obtain ⟨m, hm⟩ := k0; exact DataW.trod_lt m _ _ _ hm
  have k1 := h1
  have lt1 : ∀ x ∈ p1, x.block < W.heap.size := by obtain ⟨m, hm⟩ := k1; exact DataW.trod_lt m _ _ _ hm
  have k2 := h2
  have lt2 : ∀ x ∈ p2, x.block < W.heap.size := by obtain ⟨m, hm⟩ := k2; exact DataW.trod_lt m _ _ _ hm
  obtain ⟨x0, K0, w0⟩ := opened opens87 hsz (j := 0) rfl rfl h0
  obtain ⟨g0, rfl, _⟩ := okWide_struct Try.underlying87 (hval 0 87 v0 rfl rfl)
  obtain ⟨_, _, e0, rfl, ⟨_, _, rfl, rfl, ⟨_, _, rfl, rfl, ⟨_, _, rfl, rfl, ⟨_, _, rfl, rfl, ⟨_, _, rfl, rfl, ⟨_, _, rfl, rfl, rfl⟩⟩⟩⟩⟩⟩⟩ := K0
  have e0 := agg_of e0
  simp only [List.cons_append, List.nil_append] at e0
  subst e0
  obtain ⟨x1, K1, w1⟩ := opened (opens_int Try.underlying72) hsz (j := 1) rfl rfl h1
  obtain ⟨n1, rfl⟩ := okWide_int Try.underlying72 (hval 1 72 v1 rfl rfl)
  have e1 := List.head_eq_of_cons_eq K1
  simp only [Value.int.injEq, Value.bool.injEq, Value.string.injEq, true_and] at e1
  subst e1
  obtain ⟨x2, K2, w2⟩ := opened (opens_int Try.underlying72) hsz (j := 2) rfl rfl h2
  obtain ⟨n2, rfl⟩ := okWide_int Try.underlying72 (hval 2 72 v2 rfl rfl)
  have e2 := List.head_eq_of_cons_eq K2
  simp only [Value.int.injEq, Value.bool.injEq, Value.string.injEq, true_and] at e2
  subst e2
  clear hA0 hval0 hsz0 hsz
  obtain ⟨k, h⟩ := Pure.RampLast x0 _ _ w0 w1 w2
  refine (bilgelaw42_RampLast.calls (k := k) (a0_0 := x0.f0) (a0_1 := x0.f1) (a0_2 := x0.f2) (a0_3 := x0.f3) (a0_4 := x0.f4) (a0_5 := x0.f5) (a0_6 := x0.f6) (a0_7 := x0.f7) (a1 := _) (a2 := _) (r := true) (w := W) (h := h)).mono fun e W' ⟨he, hd⟩ => ?_
  have bel : Below W.heap.size W W' := hd
  subst he
  exact ⟨_, rfl, _, _, _, [], _, [], hW', trodAll_mk1 (shut_bool Try.underlying4 _), (trodAll_cons_mk (Below.trod laidOut (by kernel_rfl) (of_decide_eq_true (by kernel_rfl)) k0 bel lt0) (trodAll_cons_mk (Below.trod laidOut (by kernel_rfl) (of_decide_eq_true (by kernel_rfl)) k1 bel lt1) (trodAll_cons_mk (Below.trod laidOut (by kernel_rfl) (of_decide_eq_true (by kernel_rfl)) k2 bel lt2) trodAll_mk0))), rfl, bel.frame _, fun h => by cases h⟩
theorem over : Rows.rampLastRow.holds Try.pinned (OpenSpec.ofChange Rows.rampLastSpec) :=
  OpenClaim.holds_of_wide 10 Try.f10 rfl rfl rfl rfl rfl rfl rfl ⟨rfl, rfl, rfl, rfl, rfl⟩ rfl rfl rfl rfl rfl (by kernel_rfl) Try.func10 (by kernel_rfl)
    (of_decide_eq_true (by kernel_rfl)) (by unfold Func.isWrapper; first | (rw [if_pos (by decide +kernel)]; kernel_rfl) | (rw [if_neg (by decide +kernel)]; exact ⟨rfl, rfl⟩))
    (fun os started H enc _ => lifted os started H enc)
theorem proved : Rows.RampLastSaid := over
#print axioms proved
end Go.Proofs.Ytballgciakljnaa.rampLast
namespace Go.Proofs.Ytballgciakljnaa
/-- The row, under a short name, for the claim. -/
theorem rampLast_holds : Rows.RampLastSaid := rampLast.proved
end Go.Proofs.Ytballgciakljnaa

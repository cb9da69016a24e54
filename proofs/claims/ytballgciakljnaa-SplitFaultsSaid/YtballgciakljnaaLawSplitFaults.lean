-- Written by a program of this session, in the form of the kit's print, some functions by hand (N.B. not a file of print.sh's).
import Derived.Test.YtballgciakljnaaRows
import Derived.Test.YtballgciakljnaaPSplitFaultsx9
import Derived.Test.YtballgciakljnaaPureSplitFaults
import Derived.Test.YtballgciakljnaaOpen
import Derived.WalkKit
import Derived.ProofKit
import Derived.OpenShut
import Derived.ShutString
import Derived.ChangeOld
import Derived.Below
import Derived.SizedLaws
namespace Go.Proofs.Ytballgciakljnaa.splitFaults
open Go.ChangeShapes Go.WideShapes Go.ChangeAt Go.RowKit Go.Proofs.Ytballgciakljnaa.PSplitFaults Go.Proofs.YtballgciakljnaaW.PrintWords Go.Proofs.YtballgciakljnaaW.PrintLast Go.Proofs.YtballgciakljnaaW.PrintMore Go.Proofs.YtballgciakljnaaM
open Go.ChangeMaps (open_string shut_string)
set_option linter.unusedVariables false
set_option linter.unusedSimpArgs false
theorem own : ownKnob Try.prog.godebug = none := by kernel_rfl
theorem laidOut : laidOutB Try.prog = true := by kernel_rfl
theorem opens122 {H : Type} {enc : TypeId × Value → H} {W : World} : Opens enc Try.prog W 122 k122 (fun x => (x.f0.length ≤ maxLen ∧ x.f0.length * 1 ≤ 140737488351232 ∧ ∀ y_0 ∈ x.f0, (Lit.int .u8 y_0).wf = true) ∧ ((Lit.int .i64 x.f1).wf = true) ∧ ((Lit.int .i64 x.f2).wf = true) ∧ ((Lit.int .i64 x.f3).wf = true) ∧ (True) ∧ True) :=
  opens_struct (fun x : S122 => (x.f0, x.f1, x.f2, x.f3, x.f4, x.f5)) (fun p => ⟨p.1, p.2.1, p.2.2.1, p.2.2.2.1, p.2.2.2.2.1, p.2.2.2.2.2⟩) (fun _ => rfl) Try.underlying122 (by intro i q hq; match i, hq with | 0, hq => obtain rfl := Option.some.inj hq; show (_ : Nat) = _; kernel_rfl | 1, hq => obtain rfl := Option.some.inj hq; show (_ : Nat) = _; kernel_rfl | 2, hq => obtain rfl := Option.some.inj hq; show (_ : Nat) = _; kernel_rfl | 3, hq => obtain rfl := Option.some.inj hq; show (_ : Nat) = _; kernel_rfl | 4, hq => obtain rfl := Option.some.inj hq; show (_ : Nat) = _; kernel_rfl | 5, hq => obtain rfl := Option.some.inj hq; show (_ : Nat) = _; kernel_rfl | (n_ + 6), hq => simp at hq) (by kernel_rfl) (fopens_cons (opens_slice (B := 1) Try.underlying23 (by kernel_rfl) (by kernel_rfl) (opens_int Try.underlying5)) (fopens_cons (opens_int Try.underlying3) (fopens_cons (opens_int Try.underlying3) (fopens_cons (opens_int Try.underlying3) (fopens_cons (opens_bool Try.underlying4) (fopens_one (opens_bool Try.underlying4)))))))
set_option maxRecDepth 100000 in
theorem lifted (os : Os) (started : os.Started) (H : Type) (enc : TypeId × Value → H) :
    ReturnsInHanded {} Try.checked os 12 .any (Rows.splitFaultsSpec.pre6 enc Try.prog Try.f12 Rows.splitFaultsRow.domain false) (Rows.splitFaultsSpec.post enc Try.prog Try.f12 false true false false) := by
  refine returnsInHanded_of_change_sized (C := Try.checked) own started (by kernel_rfl) Try.func12
    (ChangeSpec.witness6 (enc := enc) (C := Try.checked) false ⟨#[], #[(.agg #[(.slice none 0 0), (.int .i64 0), (.int .i64 0), (.int .i64 0), (.bool false), (.bool false)]), (.agg #[(.slice none 0 0), (.int .i64 0), (.int .i64 0), (.int .i64 0), (.bool false), (.bool false)])], []⟩ 8 (by kernel_rfl) (by kernel_rfl) (by kernel_rfl) (by kernel_rfl)) ?_
  intro W base args ds gs before hval0 hW hcnd hsz0 _
  have hsz : (DataW.weightsEach Try.prog (Try.f12.params.toList ++ Rows.splitFaultsSpec.plain.varTypes Try.prog) (ds ++ gs)).all (· ≤ reachBytes) = true := hsz0
  have hval : ∀ (j : Nat) t v, Try.f12.params[j]? = some t → args[j]? = some v → Value.okWide Try.prog W .any base t v := hval0
  have hW' := hW
  obtain ⟨p, q, hA0, hV, rfl, hfz, hnd⟩ := hW
  have hA : DataW.TrodAll enc Try.prog W 0 (fun _ => true) true Try.f12.params.toList args.toList ds p := hA0
  rw [Try.params12] at hA hval hsz
  obtain ⟨v0, vs0, d0, ds0, p0, q0, hargs, rfl, rfl, h0, r0⟩ := trodAll_cons hA
  obtain ⟨v1, vs1, d1, ds1, p1, q1, rfl, rfl, rfl, h1, r1⟩ := trodAll_cons r0
  obtain ⟨rfl, rfl, rfl⟩ := trodAll_nil r1
  obtain rfl : args = #[v0, v1] := by cases args; simp_all
  obtain ⟨rfl, rfl⟩ := trodVars_none hV
  have k0 := h0
  have lt0 : ∀ x ∈ p0, x.block < W.heap.size := by obtain ⟨m, hm⟩ := k0; exact DataW.trod_lt m _ _ _ hm
  have k1 := h1
  have lt1 : ∀ x ∈ p1, x.block < W.heap.size := by obtain ⟨m, hm⟩ := k1; exact DataW.trod_lt m _ _ _ hm
  obtain ⟨x0, K0, w0⟩ := opened opens122 hsz (j := 0) rfl rfl h0
  obtain ⟨g0, rfl, _⟩ := okWide_struct Try.underlying122 (hval 0 122 v0 rfl rfl)
  obtain ⟨_, _, e0, ⟨A0_0, c0_0, rfl, hc0_0, hr0_0⟩, ⟨_, _, rfl, rfl, ⟨_, _, rfl, rfl, ⟨_, _, rfl, rfl, ⟨_, _, rfl, rfl, rfl⟩⟩⟩⟩⟩ := K0
  have e0 := agg_of e0
  simp only [List.cons_append, List.nil_append] at e0
  subst e0
  obtain ⟨x1, K1, w1⟩ := opened opens122 hsz (j := 1) rfl rfl h1
  obtain ⟨g1, rfl, _⟩ := okWide_struct Try.underlying122 (hval 1 122 v1 rfl rfl)
  obtain ⟨_, _, e1, ⟨A1_0, c1_0, rfl, hc1_0, hr1_0⟩, ⟨_, _, rfl, rfl, ⟨_, _, rfl, rfl, ⟨_, _, rfl, rfl, ⟨_, _, rfl, rfl, rfl⟩⟩⟩⟩⟩ := K1
  have e1 := agg_of e1
  simp only [List.cons_append, List.nil_append] at e1
  subst e1
  clear hA0 hval0 hsz0 hsz
  obtain ⟨k, h⟩ := Pure.SplitFaults x0 x1 w0 w1
  refine (bilgelaw09_SplitFaults.calls (k := k) (A0_0 := A0_0) (c0_0 := c0_0) (l0_0 := x0.f0) (hr0_0 := hr0_0) (hc0_0 := hc0_0) (a0_1 := x0.f1) (a0_2 := x0.f2) (a0_3 := x0.f3) (a0_4 := x0.f4) (a0_5 := x0.f5) (A1_0 := A1_0) (c1_0 := c1_0) (l1_0 := x1.f0) (hr1_0 := hr1_0) (hc1_0 := hc1_0) (a1_1 := x1.f1) (a1_2 := x1.f2) (a1_3 := x1.f3) (a1_4 := x1.f4) (a1_5 := x1.f5) (r := true) (w := W) (h := h)).mono fun e W' ⟨he, hd⟩ => ?_
  have bel : Below W.heap.size W W' := hd
  subst he
  exact ⟨_, rfl, _, _, _, [], _, [], hW', trodAll_mk1 (shut_bool Try.underlying4 _), (trodAll_cons_mk (Below.trod laidOut (by kernel_rfl) (of_decide_eq_true (by kernel_rfl)) k0 bel lt0) (trodAll_cons_mk (Below.trod laidOut (by kernel_rfl) (of_decide_eq_true (by kernel_rfl)) k1 bel lt1) trodAll_mk0)), rfl, bel.frame _, fun h => by cases h⟩
theorem over : Rows.splitFaultsRow.holds Try.pinned (OpenSpec.ofChange Rows.splitFaultsSpec) :=
  OpenClaim.holds_of_wide 12 Try.f12 rfl rfl rfl rfl rfl rfl rfl ⟨rfl, rfl, rfl, rfl, rfl⟩ rfl rfl rfl rfl rfl (by kernel_rfl) Try.func12 (by kernel_rfl)
    (of_decide_eq_true (by kernel_rfl)) (by unfold Func.isWrapper; first | (rw [if_pos (by decide +kernel)]; kernel_rfl) | (rw [if_neg (by decide +kernel)]; exact ⟨rfl, rfl⟩))
    (fun os started H enc _ => lifted os started H enc)
theorem proved : Rows.SplitFaultsSaid := over
#print axioms proved
end Go.Proofs.Ytballgciakljnaa.splitFaults
namespace Go.Proofs.Ytballgciakljnaa
/-- The row, under a short name, for the claim. -/
theorem splitFaults_holds : Rows.SplitFaultsSaid := splitFaults.proved
end Go.Proofs.Ytballgciakljnaa

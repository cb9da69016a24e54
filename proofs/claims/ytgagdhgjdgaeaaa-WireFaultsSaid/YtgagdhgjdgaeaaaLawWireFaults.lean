-- Written by a program of this session, in the form of the kit's print, some functions by hand (N.B. not a file of print.sh's).
import Derived.Test.YtgagdhgjdgaeaaaRows
import Derived.Test.YtgagdhgjdgaeaaaPWireFaultsx9
import Derived.Test.YtgagdhgjdgaeaaaPureWireFaults
import Derived.Test.YtgagdhgjdgaeaaaOpen
import Derived.WalkKit
import Derived.ProofKit
import Derived.OpenShut
import Derived.ShutString
import Derived.ChangeOld
import Derived.Below
import Derived.SizedLaws
namespace Go.Proofs.Ytgagdhgjdgaeaaa.wireFaults
open Go.ChangeShapes Go.WideShapes Go.ChangeAt Go.RowKit Go.Proofs.Ytgagdhgjdgaeaaa.PWireFaults Go.Proofs.YtgagdhgjdgaeaaaW.PrintWords Go.Proofs.YtgagdhgjdgaeaaaW.PrintLast Go.Proofs.YtgagdhgjdgaeaaaW.PrintMore Go.Proofs.YtgagdhgjdgaeaaaM
open Go.ChangeMaps (open_string shut_string)
set_option linter.unusedVariables false
set_option linter.unusedSimpArgs false
theorem own : ownKnob Try.prog.godebug = none := by kernel_rfl
theorem laidOut : laidOutB Try.prog = true := by kernel_rfl
theorem opens24 {H : Type} {enc : TypeId × Value → H} {W : World} : Opens enc Try.prog W 24 k24 (fun x => ((Lit.int .i64 x.f0).wf = true) ∧ ((Lit.int .i64 x.f1).wf = true) ∧ ((Lit.int .i64 x.f2).wf = true) ∧ (Lit.int .i64 x.f3).wf = true) :=
  opens_struct (fun x : S24 => (x.f0, x.f1, x.f2, x.f3)) (fun p => ⟨p.1, p.2.1, p.2.2.1, p.2.2.2⟩) (fun _ => rfl) Try.underlying24 (by intro i q hq; match i, hq with | 0, hq => obtain rfl := Option.some.inj hq; show (_ : Nat) = _; kernel_rfl | 1, hq => obtain rfl := Option.some.inj hq; show (_ : Nat) = _; kernel_rfl | 2, hq => obtain rfl := Option.some.inj hq; show (_ : Nat) = _; kernel_rfl | 3, hq => obtain rfl := Option.some.inj hq; show (_ : Nat) = _; kernel_rfl | (n_ + 4), hq => simp at hq) (by kernel_rfl) (fopens_cons (opens_int Try.underlying3) (fopens_cons (opens_int Try.underlying3) (fopens_cons (opens_int Try.underlying3) (fopens_one (opens_int Try.underlying3)))))
theorem opens41 {H : Type} {enc : TypeId × Value → H} {W : World} : Opens enc Try.prog W 41 k41 (fun x => ((Lit.int .u16 x.f0).wf = true) ∧ ((Lit.int .u16 x.f1).wf = true) ∧ (Lit.int .u16 x.f2).wf = true) :=
  opens_array (fun x : S41 => (x.f0, x.f1, x.f2)) (fun p => ⟨p.1, p.2.1, p.2.2⟩) (fun _ => rfl) Try.underlying41 (by kernel_rfl) (fopens_cons (opens_int Try.underlying25) (fopens_cons (opens_int Try.underlying25) (fopens_one (opens_int Try.underlying25))))
set_option maxRecDepth 100000 in
theorem lifted (os : Os) (started : os.Started) (H : Type) (enc : TypeId × Value → H) :
    ReturnsInHanded {} Try.checked os 4 .any (Rows.wireFaultsSpec.pre6 enc Try.prog Try.f4 Rows.wireFaultsRow.domain false) (Rows.wireFaultsSpec.post enc Try.prog Try.f4 false true false false) := by
  refine returnsInHanded_of_change_sized (C := Try.checked) own started (by kernel_rfl) Try.func4
    (ChangeSpec.witness6 (enc := enc) (C := Try.checked) false ⟨#[], #[(.slice none 0 0), (.agg #[(.int .i64 0), (.int .i64 0), (.int .i64 0), (.int .i64 0)]), (.agg #[(.int .u16 0), (.int .u16 0), (.int .u16 0)])], []⟩ 8 (by kernel_rfl) (by kernel_rfl) (by kernel_rfl) (by kernel_rfl)) ?_
  intro W base args ds gs before hval0 hW hcnd hsz0 _
  have hsz : (DataW.weightsEach Try.prog (Try.f4.params.toList ++ Rows.wireFaultsSpec.plain.varTypes Try.prog) (ds ++ gs)).all (· ≤ reachBytes) = true := hsz0
  have hval : ∀ (j : Nat) t v, Try.f4.params[j]? = some t → args[j]? = some v → Value.okWide Try.prog W .any base t v := hval0
  have hW' := hW
  obtain ⟨p, q, hA0, hV, rfl, hfz, hnd⟩ := hW
  have hA : DataW.TrodAll enc Try.prog W 0 (fun _ => true) true Try.f4.params.toList args.toList ds p := hA0
  rw [Try.params4] at hA hval hsz
  obtain ⟨v0, vs0, d0, ds0, p0, q0, hargs, rfl, rfl, h0, r0⟩ := trodAll_cons hA
  obtain ⟨v1, vs1, d1, ds1, p1, q1, rfl, rfl, rfl, h1, r1⟩ := trodAll_cons r0
  obtain ⟨v2, vs2, d2, ds2, p2, q2, rfl, rfl, rfl, h2, r2⟩ := trodAll_cons r1
  obtain ⟨rfl, rfl, rfl⟩ := trodAll_nil r2
  obtain rfl : args = #[v0, v1, v2] := by cases args; simp_all
  obtain ⟨rfl, rfl⟩ := trodVars_none hV
  have k0 := h0
  have lt0 : ∀ x ∈ p0, x.block < W.heap.size := by obtain ⟨m, hm⟩ := k0; exact DataW.trod_lt m _ _ _ hm
  have k1 := h1
  have lt1 : ∀ x ∈ p1, x.block < W.heap.size := by obtain ⟨m, hm⟩ := k1; exact DataW.trod_lt m _ _ _ hm
  have k2 := h2
  have lt2 : ∀ x ∈ p2, x.block < W.heap.size := by obtain ⟨m, hm⟩ := k2; exact DataW.trod_lt m _ _ _ hm
  obtain ⟨x0, K0, w0⟩ := opened (opens_slice (B := 1) Try.underlying22 (by kernel_rfl) (by kernel_rfl) (opens_int Try.underlying5)) hsz (j := 0) rfl rfl h0
  obtain ⟨a0, len0, cap0, rfl⟩ := okWide_slice Try.underlying22 (hval 0 22 v0 rfl rfl)
  obtain ⟨A0, c0, e0, hc0, hr0⟩ := K0
  simp only [Value.cells, List.cons.injEq, Value.slice.injEq, and_true] at e0
  obtain ⟨rfl, rfl, rfl⟩ := e0
  obtain ⟨x1, K1, w1⟩ := opened opens24 hsz (j := 1) rfl rfl h1
  obtain ⟨g1, rfl, _⟩ := okWide_struct Try.underlying24 (hval 1 24 v1 rfl rfl)
  obtain ⟨_, _, e1, rfl, ⟨_, _, rfl, rfl, ⟨_, _, rfl, rfl, rfl⟩⟩⟩ := K1
  have e1 := agg_of e1
  simp only [List.cons_append, List.nil_append] at e1
  subst e1
  obtain ⟨x2, K2, w2⟩ := opened opens41 hsz (j := 2) rfl rfl h2
  obtain ⟨g2, rfl, _⟩ := okWide_array Try.underlying41 (hval 2 41 v2 rfl rfl)
  obtain ⟨_, _, e2, rfl, ⟨_, _, rfl, rfl, rfl⟩⟩ := K2
  have e2 := agg_of e2
  simp only [List.cons_append, List.nil_append] at e2
  subst e2
  clear hA0 hval0 hsz0 hsz
  obtain ⟨k, h⟩ := Pure.WireFaults x0 x1 x2 w0 w1 w2
  refine (bilgelaw28_WireFaults.calls (k := k) (A0 := a0) (c0 := cap0) (l0 := x0) (hr0 := hr0) (hc0 := hc0) (a1_0 := x1.f0) (a1_1 := x1.f1) (a1_2 := x1.f2) (a1_3 := x1.f3) (a2_0 := x2.f0) (a2_1 := x2.f1) (a2_2 := x2.f2) (r := true) (w := W) (h := h) (hrt := rfl)).mono fun e W' ⟨he, hd⟩ => ?_
  have bel : Below W.heap.size W W' := hd
  subst he
  exact ⟨_, rfl, _, _, _, [], _, [], hW', trodAll_mk1 (shut_bool Try.underlying4 _), (trodAll_cons_mk (Below.trod laidOut (by kernel_rfl) (of_decide_eq_true (by kernel_rfl)) k0 bel lt0) (trodAll_cons_mk (Below.trod laidOut (by kernel_rfl) (of_decide_eq_true (by kernel_rfl)) k1 bel lt1) (trodAll_cons_mk (Below.trod laidOut (by kernel_rfl) (of_decide_eq_true (by kernel_rfl)) k2 bel lt2) trodAll_mk0))), rfl, bel.frame _, fun h => by cases h⟩
theorem over : Rows.wireFaultsRow.holds Try.pinned (OpenSpec.ofChange Rows.wireFaultsSpec) :=
  OpenClaim.holds_of_wide 4 Try.f4 rfl rfl rfl rfl rfl rfl rfl ⟨rfl, rfl, rfl, rfl, rfl⟩ rfl rfl rfl rfl rfl (by kernel_rfl) Try.func4 (by kernel_rfl)
    (of_decide_eq_true (by kernel_rfl)) (by unfold Func.isWrapper; first | (rw [if_pos (by decide +kernel)]; kernel_rfl) | (rw [if_neg (by decide +kernel)]; exact ⟨rfl, rfl⟩))
    (fun os started H enc _ => lifted os started H enc)
theorem proved : Rows.WireFaultsSaid := over
#print axioms proved
end Go.Proofs.Ytgagdhgjdgaeaaa.wireFaults
namespace Go.Proofs.Ytgagdhgjdgaeaaa
/-- The row, under a short name, for the claim. -/
theorem wireFaults_holds : Rows.WireFaultsSaid := wireFaults.proved
end Go.Proofs.Ytgagdhgjdgaeaaa

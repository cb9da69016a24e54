-- Written by a program of this session, in the form of the kit's print, some functions by hand (N.B. not a file of print.sh's).
import Derived.Test.YtbghnfhjaolhaaaPAlarmHoldsx0
import Derived.Test.YtbghnfhjaolhaaaPAlarmHoldsx1
import Derived.Test.YtbghnfhjaolhaaaPAlarmHoldsx2
import Derived.Test.YtbghnfhjaolhaaaPAlarmHoldsx5
import Derived.Test.YtbghnfhjaolhaaaPAlarmHoldsx6
namespace Go.Proofs.Ytbghnfhjaolhaaa.PAlarmHolds
open Go.RowKit Go.Proofs.YtbghnfhjaolhaaaW.PrintWords Go.Proofs.YtbghnfhjaolhaaaW.PrintLast Go.Proofs.YtbghnfhjaolhaaaW.PrintMore Go.Proofs.YtbghnfhjaolhaaaM
attribute [local go_sem] max2_int min2_int max_two min_two max_three min_three max_four min_four   -- for this text's walks alone
set_option linter.unusedVariables false
set_option linter.unusedSimpArgs false

/-! ### bilgelaw46_sure: function 40 (by hand) -/
theorem sure_states : ∃ S0 S1 S2 S3 S4 S5 : Wt, S0 = ⟨10, 20, 2, 5, 0, 0, 0, 0⟩ ∧ feedF S0 0 9 = (S1, []) ∧ feedF S1 4 9 = (S2, []) ∧ feedF S2 6 11 = (S3, [⟨5, 0, 1⟩]) ∧ feedF S3 7 12 = (S4, []) ∧ feedF S4 12 12 = (S5, [⟨12, 1, 0⟩]) ∧ S0.Ok ∧ S1.Ok ∧ S2.Ok ∧ S3.Ok ∧ S4.Ok ∧ S0.no ≤ 0 ∧ S1.no ≤ 4 ∧ S2.no ≤ 6 ∧ S3.no ≤ 7 ∧ S4.no ≤ 12 ∧ 5 < S3.no ∧ S3.st = 1 := by
  refine ⟨⟨10, 20, 2, 5, 0, 0, 0, 0⟩, ⟨10, 20, 2, 5, 0, 1, 0, 0⟩, ⟨10, 20, 2, 5, 0, 1, 0, 4⟩, ⟨10, 20, 2, 5, 1, 1, 6, 6⟩, ⟨10, 20, 2, 5, 1, 0, 7, 7⟩, ⟨10, 20, 2, 5, 0, 0, 12, 12⟩, rfl, rfl, rfl, rfl, rfl, rfl, ?_, ?_, ?_, ?_, ?_, ?_, ?_, ?_, ?_, ?_, ?_, rfl⟩
  all_goals first | (unfold Wt.Ok; simp; done) | (simp; done)
theorem sure_r1 : rightF 10 20 2 5 = true := by unfold rightF; rw [decide_eq_true_eq]; omega
theorem sure_r0 : rightF 1 0 0 0 = false := by unfold rightF; rw [decide_eq_false_iff_not]; omega
set_option maxHeartbeats 4000000 in
set_option maxRecDepth 100000 in
theorem sure_calls (w : World) : Calls Try.prog 40 #[] w fun e w' => e = .returned (.bool true) ∧ Below w.heap.size w w' := by
  obtain ⟨S0, S1, S2, S3, S4, S5, hS0, f0, f1, f2, f3, f4, o0, o1, o2, o3, o4, n0, n1, n2, n3, n4, n5, hst⟩ := sure_states
  have HN := Aside0.mk (fun W : World => new_made 10 20 2 5 W sure_r1)
  rw [← hS0] at HN
  have HN0 := Aside0.mk (fun W : World => new_nil 1 0 0 0 W sure_r0)
  have F0 := fun (W : World) (g : Nat) (hb : Bk W g S0) => feed_ok g S0 0 9 W hb o0 ⟨n0, by decide⟩
  rw [f0] at F0
  have HF0 := Aside0.mk F0
  have F1 := fun (W : World) (g : Nat) (hb : Bk W g S1) => feed_ok g S1 4 9 W hb o1 ⟨n1, by decide⟩
  rw [f1] at F1
  have HF1 := Aside0.mk F1
  have F2 := fun (W : World) (g : Nat) (hb : Bk W g S2) => feed_ok g S2 6 11 W hb o2 ⟨n2, by decide⟩
  rw [f2] at F2
  have HF2 := Aside0.mk F2
  have F3 := fun (W : World) (g : Nat) (hb : Bk W g S3) => feed_ok g S3 7 12 W hb o3 ⟨n3, by decide⟩
  rw [f3] at F3
  have HF3 := Aside0.mk F3
  have F4 := fun (W : World) (g : Nat) (hb : Bk W g S4) => feed_ok g S4 12 12 W hb o4 ⟨n4, by decide⟩
  rw [f4] at F4
  have HF4 := Aside0.mk F4
  have HFE := Aside0.mk (fun (W : World) (g : Nat) (hb : Bk W g S3) => feed_err g S3 5 11 W hb o3 (Or.inl n5))
  have HST := Aside0.mk (fun (W : World) (g : Nat) (hb : Bk W g S3) => stands_made g S3 W hb)
  rw [hst] at HST
  clear hS0 f0 f1 f2 f3 f4 o0 o1 o2 o3 o4 n0 n1 n2 n3 n4 n5 hst F0 F1 F2 F3 F4
  go_enter Try.func40, Try.ntmps40
  go_wp2_with fail
  refine (HN.out _).mono ?_
  rintro e w0 ⟨g, rfl, hb, hge, hg⟩
  have HB0 := Aside0.mk hb
  have HGE := Aside0.mk hge
  have HW0 := Aside0.mk hg
  clear hb hge hg
  go_wp2_with fail
  refine (HF0.out _ g HB0.out).mono ?_
  rintro e w1 ⟨v1, rfl, hr, hb, hg⟩
  have HB1 := Aside0.mk hb
  have HW1 := Aside0.mk (HW0.out.grown hg HW0.out.size (fun k hk => (Option.some.inj hk) ▸ HGE.out))
  obtain ⟨A1, c1, rfl⟩ := Kd.R_slice hr
  clear hr hb hg
  go_wp2_with fail
  refine (HF1.out _ g HB1.out).mono ?_
  rintro e w2 ⟨v2, rfl, hr, hb, hg⟩
  have HB2 := Aside0.mk hb
  have HW2 := Aside0.mk (HW1.out.grown hg HW1.out.size (fun k hk => (Option.some.inj hk) ▸ HGE.out))
  obtain ⟨A2, c2, rfl⟩ := Kd.R_slice hr
  clear hr hb hg
  go_wp2_with fail
  refine (HF2.out _ g HB2.out).mono ?_
  rintro e w3 ⟨v3, rfl, hr, hb, hg⟩
  have HB3 := Aside0.mk hb
  have HW3 := Aside0.mk (HW2.out.grown hg HW2.out.size (fun k hk => (Option.some.inj hk) ▸ HGE.out))
  obtain ⟨q3, c3, rfl, _, _, _, _⟩ := Kd.R_form hr (by decide)
  have HC3 := Aside0.mk hr
  have HLT := Aside0.mk HB2.out.lt
  clear hr hb hg
  go_wp2_with fail
  refine (HFE.out _ g HB3.out).mono ?_
  rintro e w4 ⟨rfl, hd⟩
  have HB4 := Aside0.mk (HB3.out.drawn hd)
  have HW4 := Aside0.mk (HW3.out.trans (hd.below.mono HW3.out.size))
  have HC4 := Aside0.mk (Kd.R_below HC3.out hd.below)
  clear hd
  go_wp2_with fail
  refine (HST.out _ g HB4.out).mono ?_
  rintro e w5 ⟨rfl, hd⟩
  have HB5 := Aside0.mk (HB4.out.drawn hd)
  have HW5 := Aside0.mk (HW4.out.trans (hd.below.mono HW4.out.size))
  have HC5 := Aside0.mk (Kd.R_below HC4.out hd.below)
  clear hd
  go_wp2_with fail
  refine (HF3.out _ g HB5.out).mono ?_
  rintro e w6 ⟨v6, rfl, hr, hb, hg⟩
  have HB6 := Aside0.mk hb
  have HW6 := Aside0.mk (HW5.out.grown hg HW5.out.size (fun k hk => (Option.some.inj hk) ▸ HGE.out))
  obtain ⟨A6, c6, rfl⟩ := Kd.R_slice hr
  have HC6 := Aside0.mk (R_aside2 HC5.out hg HLT.out)
  clear hr hb hg
  go_wp2_with fail
  refine (HF4.out _ g HB6.out).mono ?_
  rintro e w7 ⟨v7, rfl, hr, hb, hg⟩
  have HB7 := Aside0.mk hb
  have HW7 := Aside0.mk (HW6.out.grown hg HW6.out.size (fun k hk => (Option.some.inj hk) ▸ HGE.out))
  obtain ⟨q7, c7, rfl, _, _, _, _⟩ := Kd.R_form hr (by decide)
  have HC7 := Aside0.mk (R_aside2 HC6.out hg HLT.out)
  have HD7 := Aside0.mk hr
  clear hr hb hg
  go_wp2_with fail
  refine (feed_err0 0 1 _).mono ?_
  rintro e w8 ⟨rfl, hd⟩
  have HW8 := Aside0.mk (HW7.out.trans (hd.below.mono HW7.out.size))
  obtain ⟨ad3, e3, p30, p31, p32⟩ := at_T72 (Kd.R_reads' (Kd.R_below HC7.out hd.below)).2.2 0 (by decide) (by decide)
  obtain ⟨ad7, e7, p70, p71, p72⟩ := at_T72 (Kd.R_reads' (Kd.R_below HD7.out hd.below)).2.2 0 (by decide) (by decide)
  cases e3
  cases e7
  have p30' : w8.cell? ⟨q3, 0, none⟩ = some (.int .i64 5) := p30
  have p31' : w8.cell? ⟨q3, 1, none⟩ = some (.int .i64 0) := p31
  have p32' : w8.cell? ⟨q3, 2, none⟩ = some (.int .i64 1) := p32
  have p72' : w8.cell? ⟨q7, 2, none⟩ = some (.int .i64 0) := p72
  clear p30 p31 p32 p70 p71 p72
  clear hd
  go_wp2_with fail
  refine (HN0.out _).mono ?_
  rintro e w9 ⟨rfl, hg⟩
  have HW9 := Aside0.mk (HW8.out.trans (hg.mono HW8.out.size))
  clear hg
  go_wp2
  go_ret
  exact ⟨rfl, HW9.out⟩

end Go.Proofs.Ytbghnfhjaolhaaa.PAlarmHolds

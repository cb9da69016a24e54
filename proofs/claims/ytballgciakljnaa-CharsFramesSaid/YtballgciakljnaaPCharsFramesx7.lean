-- Written by a program of this session, in the form of the kit's print, some functions by hand (N.B. not a file of print.sh's).
import Derived.Test.YtballgciakljnaaPCharsFramesx0
import Derived.Test.YtballgciakljnaaPCharsFramesx1
import Derived.Test.YtballgciakljnaaPCharsFramesx5
import Derived.Test.YtballgciakljnaaPCharsFramesx6
namespace Go.Proofs.Ytballgciakljnaa.PCharsFrames
open Go.RowKit Go.Proofs.YtballgciakljnaaW.PrintWords Go.Proofs.YtballgciakljnaaW.PrintLast Go.Proofs.YtballgciakljnaaW.PrintMore Go.Proofs.YtballgciakljnaaM
attribute [local go_sem] max2_int min2_int max_two min_two max_three min_three max_four min_four   -- for this text's walks alone
set_option linter.unusedVariables false
set_option linter.unusedSimpArgs false

/-! ### bilgelaw37_sure: function 15 (by hand) -/
def chOut (i : Nat) : List Int := if i = 5 then [58, 48, 49, 13, 10] else []
theorem ch_states : ∃ (S : Nat → Tk) (S7 S8 : Tk), S 0 = ⟨5, 0, 10, 0, []⟩ ∧ (∀ i : Nat, i < 6 → signF (S i) (i : Int) (([120, 58, 48, 49, 13, 10] : List Int).getD i 0) = (S (i + 1), chOut i, decide (i = 5)) ∧ (S i).Ok ∧ (S i).no ≤ (i : Int)) ∧ (S 6).Ok ∧ 0 < (S 6).no ∧ (S 6).no ≤ 10 ∧ signF (S 6) 10 58 = (S7, [], false) ∧ S7.Ok ∧ S7.no ≤ 99 ∧ signF S7 99 120 = (S8, [], false) ∧ S8.q = 5 ∧ S8.lost = 1 ∧ S8.hl = [] := by
  refine ⟨fun i => match i with
    | 0 => ⟨5, 0, 10, 0, []⟩
    | 1 => ⟨5, 0, 10, 0, []⟩
    | 2 => ⟨5, 1, 10, 0, [58]⟩
    | 3 => ⟨5, 2, 10, 0, [58, 48]⟩
    | 4 => ⟨5, 3, 10, 0, [58, 48, 49]⟩
    | 5 => ⟨5, 4, 10, 0, [58, 48, 49, 13]⟩
    | _ => ⟨5, 5, 10, 0, []⟩, ⟨5, 10, 10, 0, [58]⟩, ⟨5, 99, 10, 1, []⟩, rfl, ?_, ?_, ?_, ?_, rfl, ?_, ?_, rfl, rfl, rfl, rfl⟩
  · intro i hi
    rcases (by omega : i = 0 ∨ i = 1 ∨ i = 2 ∨ i = 3 ∨ i = 4 ∨ i = 5) with rfl | rfl | rfl | rfl | rfl | rfl
    all_goals refine ⟨rfl, ?_, ?_⟩
    all_goals first | (unfold Tk.Ok; simp; done) | (simp; done)
  all_goals first | (unfold Tk.Ok; simp; done) | (simp; done)
theorem blk_lt' {w : World} {b : Nat} {o : Obj} (h : w.heap[b]? = some o) : b < w.heap.size := (Array.getElem?_eq_some_iff.1 h).1
set_option maxHeartbeats 4000000 in
set_option maxRecDepth 100000 in
theorem ch_sure (w : World) : Calls Try.prog 15 #[] w fun e w' => e = .returned (.bool true) ∧ Below w.heap.size w w' := by
  obtain ⟨S, S7, S8, hS0, hS, o6, n6, m6, f6, o7, m7, f7, z1, z2, z3⟩ := ch_states
  have HN := Aside0.mk (fun W : World => tk_new_made 5 10 w W)
  rw [← hS0] at HN
  have HS := Aside0.mk hS
  have HR := Aside0.mk (And.intro o6 (And.intro n6 (And.intro m6 (And.intro f6 (And.intro o7 (And.intro m7 (And.intro f7 (And.intro z1 (And.intro z2 z3)))))))))
  clear hS0 hS o6 n6 m6 f6 o7 m7 f7 z1 z2 z3
  go_enter Try.func15, Try.ntmps15
  go_wp2_with fail
  refine (HN.out _ (Below.refl _ _) (by decide)).mono ?_
  rintro e w0 ⟨g, rfl, hb, hB, _, hge⟩
  have HB0 := Aside0.mk hb
  have HGE := Aside0.mk hge
  have HW0 := Aside0.mk hB
  clear hb hge hB
  have kc := fun (W : World) (C : Array Value) (n c : Nat) => run_lit Try.prog W 23 5 C n c Try.underlying23 Try.underlying5
  go_wp2_with fail
  obtain ⟨b, hb⟩ : ∃ b, b = w0.heap.size := ⟨_, rfl⟩
  have hlit : (w0.alloc (.cells #[.int .u8 120, .int .u8 58, .int .u8 48, .int .u8 49, .int .u8 13, .int .u8 10] 5 (6, 7))).heap[b]? = some (.cells #[.int .u8 120, .int .u8 58, .int .u8 48, .int .u8 49, .int .u8 13, .int .u8 10] 5 (6, 7)) := by
    rw [hb]; exact lit_new w0 _ _ _
  have hct0 : Ct (w0.alloc (.cells #[.int .u8 120, .int .u8 58, .int .u8 48, .int .u8 49, .int .u8 13, .int .u8 10] 5 (6, 7))) w.heap.size g (.slice none 0 0) (S 0) := ⟨blk_alloc HB0.out.1 _, Kd.R_alloc HB0.out.2.1 _, HB0.out.2.2⟩
  have HL0 := Aside0.mk hlit
  have HC0 := Aside0.mk hct0
  have HB1 := Aside0.mk (HW0.out.alloc HW0.out.size (.cells #[.int .u8 120, .int .u8 58, .int .u8 48, .int .u8 49, .int .u8 13, .int .u8 10] 5 (6, 7)))
  have hgb : g ≠ b := fun e => by have := blk_lt HB0.out.1; omega
  have HGB := Aside0.mk hgb
  clear hlit hct0 hgb kc
  rw [← hb]
  clear hb
  have d0 : IntKind.i64.wrap (6 - 1) = 5 := by rw [i64_w]; unfold wrap64; decide
  go_loopw [5, 4, 3] (fun v5 v4 v3 wr => ∃ (i : Nat) (v : Value), i ≤ 6 ∧ v5 = .int .i64 (i : Int) ∧ v4 = .bool (decide (i = 6)) ∧ v3 = .string (if i = 6 then ⟨#[58, 48, 49, 13, 10]⟩ else ⟨#[]⟩) ∧ Aside0 (Ct wr w.heap.size g v (S i)) ∧ Aside0 (some b ≠ v.ownBlock) ∧ Aside0 (wr.heap[b]? = some (.cells #[.int .u8 120, .int .u8 58, .int .u8 48, .int .u8 49, .int .u8 13, .int .u8 10] 5 (6, 7))) ∧ Aside0 (Below w.heap.size w wr)) (fun v5 _ _ _ => 6 - (intOf v5).toNat)
  case atStart => exact ⟨0, .slice none 0 0, by omega, rfl, rfl, rfl, HC0, ⟨by simp [Value.ownBlock]⟩, HL0, HB1⟩
  case round =>
    clear HB0 HC0 HL0 HB1
    obtain ⟨i, v, hin, rfl, rfl, rfl, HC, HV, HL, HB⟩ := hrel
    by_cases hlt : i < 6
    · obtain ⟨hf, hok, hno⟩ := HS.out i hlt
      have hsg := fun (W : World) (h1 : Ct W w.heap.size g v (S i)) (h2 : Below w.heap.size w W) => sign_ok w W g v (S i) (i : Int) (([120, 58, 48, 49, 13, 10] : List Int).getD i 0) h1 h2 hok ⟨hno, by omega⟩
      rw [hf] at hsg
      have HSG := Aside0.mk hsg
      obtain ⟨x, hx⟩ : ∃ x, x = ([120, 58, 48, 49, 13, 10] : List Int).getD i 0 := ⟨_, rfl⟩
      rw [← hx] at HSG
      have hcell : wr.cell? ⟨b, i, none⟩ = some (.int .u8 x) := by
        rw [hx]
        have hl := HL.out
        simp only [World.cell?, hl]
        rcases (by omega : i = 0 ∨ i = 1 ∨ i = 2 ∨ i = 3 ∨ i = 4 ∨ i = 5) with rfl | rfl | rfl | rfl | rfl | rfl <;> rfl
      have q1 : (i : Int) < 6 := by omega
      have q0 : (0 : Int) ≤ (i : Int) := by omega
      have HI := Aside0.mk hlt
      clear hf hok hno hsg hx
      go_wp2_with fail
      refine (HSG.out _ HC.out HB.out).mono ?_
      rintro e w1 ⟨rfl, v', hT⟩
      have HC1 := Aside0.mk hT.ct
      have HB1 := Aside0.mk hT.below
      have HL1 := Aside0.mk ((hT.kept.2 b (blk_lt' HL.out) (fun h => h.elim (fun h => HGB.out h.symm) HV.out)).trans HL.out)
      have HV1 : Aside0 (some b ≠ v'.ownBlock) := ⟨fun h => (hT.fresh b h.symm).elim HV.out (fun h => absurd (blk_lt' HL.out) (by omega))⟩
      clear hT hcell HSG HC HB HL HV
      by_cases h5 : i = 5
      · subst h5
        go_wp2
        go_roundw
        case rel => exact ⟨6, v', by omega, by go_num, rfl, rfl, HC1, HV1, HL1, HB1⟩
        case measure => simp [intOf]
      · have d5 : decide (i = 5) = false := decide_eq_false h5
        have d6 : decide (i + 1 = 6) = false := decide_eq_false (by omega)
        have d7 : ((i : Int) == 5) = false := beq_eq_false_iff_ne.2 (by omega)
        have d8 : ¬ (i + 1 = 6) := by omega
        have hI := HI.out
        go_wp2
        go_roundw
        case rel => exact ⟨i + 1, v', by have := HI.out; omega, by go_num, by first | (rw [d6]; done) | rfl, by first | (rw [if_neg d8]; done) | rfl, HC1, HV1, HL1, HB1⟩
        case measure => have := HI.out; simp [intOf]; omega
    · obtain rfl : i = 6 := by omega
      clear hlt hin
      obtain ⟨o6, n6, m6, f6, o7, m7, f7, z1, z2, z3⟩ := HR.out
      have hs6 := fun (W : World) (u : Value) (h1 : Ct W w.heap.size g u (S 6)) (h2 : Below w.heap.size w W) => sign_ok w W g u (S 6) 10 58 h1 h2 o6 ⟨m6, by decide⟩
      rw [f6] at hs6
      have hs7 := fun (W : World) (u : Value) (h1 : Ct W w.heap.size g u S7) (h2 : Below w.heap.size w W) => sign_ok w W g u S7 99 120 h1 h2 o7 ⟨m7, by decide⟩
      rw [f7] at hs7
      have HS6 := Aside0.mk hs6
      have HS7 := Aside0.mk hs7
      have HE6 := Aside0.mk (fun (W : World) (u : Value) (h1 : Ct W w.heap.size g u (S 6)) => sign_err w.heap.size g u (S 6) 0 1 W h1 o6 (Or.inl n6))
      have hlo := fun (W : World) (u : Value) (h1 : Ct W w.heap.size g u S8) => lost_made w.heap.size g u S8 W h1 (by omega)
      rw [z2] at hlo
      have HLO := Aside0.mk hlo
      have hhe := fun (W : World) (u : Value) (h1 : Ct W w.heap.size g u S8) => held_made w.heap.size g u S8 W h1 (by omega)
      rw [z3] at hhe
      have HHE := Aside0.mk hhe
      clear HR o6 n6 m6 f6 o7 m7 f7 z1 z2 z3 hs6 hs7 hlo hhe HL HV HS
      go_wp2_with fail
      refine (HE6.out _ _ HC.out).mono ?_
      rintro e w1 ⟨rfl, hd⟩
      have HC1 := Aside0.mk (HC.out.drawn hd)
      have HB1 := Aside0.mk (HB.out.trans (hd.below.mono HB.out.size))
      clear hd
      go_wp2_with fail
      refine (HS6.out _ _ HC1.out HB1.out).mono ?_
      rintro e w2 ⟨rfl, v2, hT⟩
      have HC2 := Aside0.mk hT.ct
      have HB2 := Aside0.mk hT.below
      clear hT
      go_wp2_with fail
      refine (HS7.out _ _ HC2.out HB2.out).mono ?_
      rintro e w3 ⟨rfl, v3, hT⟩
      have HC3 := Aside0.mk hT.ct
      have HB3 := Aside0.mk hT.below
      clear hT
      go_wp2_with fail
      refine (sign_err0 0 1 _).mono ?_
      rintro e w4 ⟨rfl, hd⟩
      have HC4 := Aside0.mk (HC3.out.drawn hd)
      have HB4 := Aside0.mk (HB3.out.trans (hd.below.mono HB3.out.size))
      clear hd
      go_wp2_with fail
      refine (HLO.out _ _ HC4.out).mono ?_
      rintro e w5 ⟨rfl, hd⟩
      have HC5 := Aside0.mk (HC4.out.drawn hd)
      have HB5 := Aside0.mk (HB4.out.trans (hd.below.mono HB4.out.size))
      clear hd
      go_wp2_with fail
      refine (HHE.out _ _ HC5.out).mono ?_
      rintro e w6 ⟨rfl, hd⟩
      have HC6 := Aside0.mk (HC5.out.drawn hd)
      have HB6 := Aside0.mk (HB5.out.trans (hd.below.mono HB5.out.size))
      clear hd
      go_wp2_with fail
      refine (held_nil _).mono ?_
      rintro e w7 ⟨rfl, hd⟩
      have HB7 := Aside0.mk (HB6.out.trans (hd.below.mono HB6.out.size))
      clear hd
      go_wp2_with fail
      refine (tk_new_nil 0 1 _ (by decide)).mono ?_
      rintro e w8 ⟨rfl, hd⟩
      have HB8 := Aside0.mk (HB7.out.trans (hd.below.mono HB7.out.size))
      clear hd
      go_wp2
      go_ret
      exact ⟨rfl, HB8.out⟩

end Go.Proofs.Ytballgciakljnaa.PCharsFrames

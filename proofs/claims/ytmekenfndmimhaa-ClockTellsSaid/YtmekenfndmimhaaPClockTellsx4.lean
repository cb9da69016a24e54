-- Written by a program of this session, in the form of the kit's print, some functions by hand (N.B. not a file of print.sh's).
import Derived.Test.YtmekenfndmimhaaPClockTellsx0
import Derived.Test.YtmekenfndmimhaaPClockTellsx2
namespace Go.Proofs.Ytmekenfndmimhaa.PClockTells
open Go.RowKit Go.Proofs.YtmekenfndmimhaaW.PrintWords Go.Proofs.YtmekenfndmimhaaW.PrintLast Go.Proofs.YtmekenfndmimhaaW.PrintMore Go.Proofs.YtmekenfndmimhaaM
attribute [local go_sem] max2_int min2_int max_two min_two max_three min_three max_four min_four   -- for this text's walks alone
set_option linter.unusedVariables false
set_option linter.unusedSimpArgs false

/-! ### clock_Of: function 21 (by hand) -/
theorem clock_Of_up (a b : Int) (w : World) (ha : 0 ≤ a ∧ a ≤ 10000000000000) (hb : 1 ≤ b ∧ b ≤ 2000000) :
    Calls Try.prog 57 #[.int .i64 a, .int .i64 b] w fun e w' => e = .returned (.int .i64 ((a + b - 1) / b)) ∧ w = w' := by
  obtain ⟨h1, h2⟩ := ha
  obtain ⟨h3, h4⟩ := hb
  go_enter Try.func57, Try.ntmps57
  go_wp2
  go_ret
  exact ⟨rfl, rfl⟩
theorem clock_Of_round (a b : Int) (w : World) (ha : 0 ≤ a ∧ a ≤ 10000000000000) (hb : 1 ≤ b ∧ b ≤ 2000000) :
    Calls Try.prog 56 #[.int .i64 a, .int .i64 b] w fun e w' => e = .returned (.int .i64 ((a + b - 1) / b)) ∧ w = w' := by
  go_enter Try.func56, Try.ntmps56
  go_wp2_with (go_at_call 57; refine (clock_Of_up a b _ ha hb).mono ?_; rintro e w' ⟨rfl, rfl⟩)
  go_ret
  exact ⟨rfl, rfl⟩
def clock_Of.f (a0 a1 a2 : Int) : Option (Int × Int × Int × Int × Int) :=
  if a0 < 1 ∨ 1000000 < a0 ∨ a1 < 1 ∨ 1000000000 < a1 ∨ a2 < 0 ∨ 16777216 < a2 then some (0, 0, 0, 0, 11) else
  let c := (11 * a1 + a0 - 1) / a0
  let s := if 19200 < a0 then (a1 * 750 + 1000000 - 1) / 1000000 else (33 * a1 + 2 * a0 - 1) / (2 * a0)
  let l := if 19200 < a0 then (a1 * 1750 + 1000000 - 1) / 1000000 else (77 * a1 + 2 * a0 - 1) / (2 * a0)
  (clock_Right.f c (c + s) (c + l) a2).bind fun b => if b = true then some (c, c + s, c + l, a2, 0) else some (0, 0, 0, 0, 11)
theorem clock_Of_sil (a0 a1 : Int) (w : World) (h0 : 1 ≤ a0 ∧ a0 ≤ 1000000) (h1 : 1 ≤ a1 ∧ a1 ≤ 1000000000) (b : Bool) (hb : decide (19200 < a0) = b) :
    Calls Try.prog 58 #[.int .i64 a0, .int .i64 a1, .func (.func 56) #[] #[]] w fun e w' =>
      e = .returned (.tuple #[.int .i64 (if 19200 < a0 then (a1 * 750 + 1000000 - 1) / 1000000 else (33 * a1 + 2 * a0 - 1) / (2 * a0)), .int .i64 (if 19200 < a0 then (a1 * 1750 + 1000000 - 1) / 1000000 else (77 * a1 + 2 * a0 - 1) / (2 * a0))]) ∧ w = w' := by
  obtain ⟨h2, h3⟩ := h0
  obtain ⟨h4, h5⟩ := h1
  by_cases hc : 19200 < a0
  · rw [if_pos hc, if_pos hc]
    clear hb
    go_enter Try.func58, Try.ntmps58
    go_wp2_with fail
    refine (clock_Of_round _ _ _ (by omega) (by omega)).mono ?_
    rintro e w' ⟨rfl, rfl⟩
    go_wp2_with fail
    refine (clock_Of_round _ _ _ (by omega) (by omega)).mono ?_
    rintro e w' ⟨rfl, rfl⟩
    go_wp2_with fail
    go_ret2
    exact ⟨rfl, rfl⟩
  · rw [if_neg hc, if_neg hc]
    clear hb
    go_enter Try.func58, Try.ntmps58
    go_wp2_with fail
    refine (clock_Of_round _ _ _ (by omega) (by omega)).mono ?_
    rintro e w' ⟨rfl, rfl⟩
    go_wp2_with fail
    refine (clock_Of_round _ _ _ (by omega) (by omega)).mono ?_
    rintro e w' ⟨rfl, rfl⟩
    go_wp2_with fail
    go_ret2
    exact ⟨rfl, rfl⟩
set_option maxHeartbeats 1000000 in
set_option maxRecDepth 100000 in
theorem clock_Of.calls (a0 : Int) (a1 : Int) (a2 : Int) (r1 : Int) (r2 : Int) (r3 : Int) (r4 : Int) (r5 : Int) (w : World) (h : clock_Of.f a0 a1 a2 = some (r1, r2, r3, r4, r5)) :
    Calls Try.prog 21 #[.int .i64 a0, .int .i64 a1, .int .i64 a2] w fun e w' => e = .returned (.tuple #[.agg #[.int .i64 r1, .int .i64 r2, .int .i64 r3, .int .i64 r4], .int .i64 r5]) ∧ Below w.heap.size w w' := by
  unfold clock_Of.f at h
  by_cases hg : a0 < 1 ∨ 1000000 < a0 ∨ a1 < 1 ∨ 1000000000 < a1 ∨ a2 < 0 ∨ 16777216 < a2
  · rw [if_pos hg] at h
    simp only [Option.some.injEq, Prod.mk.injEq] at h
    obtain ⟨rfl, rfl, rfl, rfl, rfl⟩ := h
    have HG := Aside0.mk hg
    clear hg
    go_enter Try.func21, Try.ntmps21
    go_wp2_with fail
    all_goals first
      | (exfalso; have := HG.out; omega)
      | exact bodyPost_ret (v := .tuple #[.agg #[.int .i64 0, .int .i64 0, .int .i64 0, .int .i64 0], .int .i64 11]) (by simp [results, Try.results21, go_sem]) rfl ⟨rfl, (Below.refl _ _).alloc (Nat.le_refl _) _⟩
  · rw [if_neg hg] at h
    have g1 : 1 ≤ a0 := by omega
    have g2 : a0 ≤ 1000000 := by omega
    have g3 : 1 ≤ a1 := by omega
    have g4 : a1 ≤ 1000000000 := by omega
    have g5 : 0 ≤ a2 := by omega
    have g6 : a2 ≤ 16777216 := by omega
    clear hg
    obtain ⟨b, hb, h⟩ := Option.bind_eq_some_iff.1 h
    have hs0 := clock_Of_sil a0 a1
    obtain ⟨c, hc⟩ : ∃ c, (11 * a1 + a0 - 1) / a0 = c := ⟨_, rfl⟩
    obtain ⟨s, hs⟩ : ∃ s, (if 19200 < a0 then (a1 * 750 + 1000000 - 1) / 1000000 else (33 * a1 + 2 * a0 - 1) / (2 * a0)) = s := ⟨_, rfl⟩
    obtain ⟨l, hl⟩ : ∃ l, (if 19200 < a0 then (a1 * 1750 + 1000000 - 1) / 1000000 else (77 * a1 + 2 * a0 - 1) / (2 * a0)) = l := ⟨_, rfl⟩
    have hup := fun W => clock_Of_round (11 * a1) a0 W (by omega) (by omega)
    rw [hc] at hb h hup
    rw [hs] at hb h hs0
    rw [hl] at hb h hs0
    have bc : 0 ≤ c ∧ c ≤ 11000000000000 := by rw [← hc]; exact ⟨Int.ediv_nonneg (by omega) (by omega), Int.le_trans (Int.ediv_le_self _ (by omega)) (by omega)⟩
    have bs : 0 ≤ s ∧ s ≤ 11000000000000 := by
      rw [← hs]
      split
      · exact ⟨Int.ediv_nonneg (by omega) (by omega), Int.le_trans (Int.ediv_le_self _ (by omega)) (by omega)⟩
      · exact ⟨Int.ediv_nonneg (by omega) (by omega), Int.le_trans (Int.ediv_le_self _ (by omega)) (by omega)⟩
    have bl : 0 ≤ l ∧ l ≤ 11000000000000 := by
      rw [← hl]
      split
      · exact ⟨Int.ediv_nonneg (by omega) (by omega), Int.le_trans (Int.ediv_le_self _ (by omega)) (by omega)⟩
      · exact ⟨Int.ediv_nonneg (by omega) (by omega), Int.le_trans (Int.ediv_le_self _ (by omega)) (by omega)⟩
    obtain ⟨bc1, bc2⟩ := bc
    obtain ⟨bs1, bs2⟩ := bs
    obtain ⟨bl1, bl2⟩ := bl
    clear hc hs hl
    have HB := Aside0.mk hb
    have HS := Aside0.mk hs0
    have HU := Aside0.mk hup
    have H := Aside0.mk h
    clear hb hs0 hup h
    go_enter Try.func21, Try.ntmps21
    go_wp2_with (first
      | (go_at_call 56; refine (HU.out _).mono ?_; rintro e w' ⟨rfl, rfl⟩)
      | (go_at_call 58; refine (HS.out _ (by omega) (by omega) _ rfl).mono ?_; rintro e w' ⟨rfl, rfl⟩))
    refine (clock_Right.calls _ _ _ _ b _ HB.out).mono ?_
    rintro e w1 ⟨rfl, hb1⟩
    have B1 := blk_below (blk_alloc (blk_new w _) _) hb1
    have B2 := blk_below (blk_new (w.alloc _) _) hb1
    rw [World.size_alloc] at B2
    have B3 := Aside0.mk hb1
    have c0 := blk_cell B1 0
    have c1 := blk_cell B1 1
    have c2 := blk_cell B1 2
    have c3 := blk_cell B1 3
    have f0 := blk_frozen B1 0
    have f1 := blk_frozen B1 1
    have f2 := blk_frozen B1 2
    have f3 := blk_frozen B1 3
    have d0 := blk_cell B2 0
    have d1 := blk_cell B2 1
    have d2 := blk_cell B2 2
    have d3 := blk_cell B2 3
    clear B1 B2 hb1
    have hs : w.heap.size < w1.heap.size := by have := B3.out.size; simp at this; omega
    have HBW := Aside0.mk (B3.out.mono (B' := w.heap.size) (by simp; omega))
    have HB0 := Aside0.mk ((((Below.refl w.heap.size w).alloc (Nat.le_refl _) (.cells #[.int .i64 0, .int .i64 0, .int .i64 0, .int .i64 0] 34)).alloc (by simp) (.cells #[.int .i64 c, .int .i64 (c + s), .int .i64 (c + l), .int .i64 a2] 34)).trans HBW.out)
    clear B3 HBW
    cases b with
    | true =>
      have h := H.out
      simp only [if_true, Option.some.injEq, Prod.mk.injEq] at h
      obtain ⟨rfl, rfl, rfl, rfl, rfl⟩ := h
      go_wp2_with fail
      refine bodyPost_ret (v := .tuple #[.agg #[.int .i64 c, .int .i64 (c + s), .int .i64 (c + l), .int .i64 a2], .int .i64 0]) ?_ rfl ⟨rfl, ?_⟩
      · simp [results, Try.results21, go_sem, c0, c1, c2, c3]
      · exact (((HB0.out.setCell (p := ⟨w.heap.size, 0, none⟩) (Nat.le_refl _) _).setCell (p := ⟨w.heap.size, 1, none⟩) (Nat.le_refl _) _).setCell (p := ⟨w.heap.size, 2, none⟩) (Nat.le_refl _) _).setCell (p := ⟨w.heap.size, 3, none⟩) (Nat.le_refl _) _
    | false =>
      have h := H.out
      simp only [Bool.false_eq_true, if_false, Option.some.injEq, Prod.mk.injEq] at h
      obtain ⟨rfl, rfl, rfl, rfl, rfl⟩ := h
      go_wp2_with fail
      refine bodyPost_ret (v := .tuple #[.agg #[.int .i64 0, .int .i64 0, .int .i64 0, .int .i64 0], .int .i64 11]) ?_ rfl ⟨rfl, ?_⟩
      · simp [results, Try.results21, go_sem, c0, c1, c2, c3]
      · exact (((HB0.out.setCell (p := ⟨w.heap.size, 0, none⟩) (Nat.le_refl _) _).setCell (p := ⟨w.heap.size, 1, none⟩) (Nat.le_refl _) _).setCell (p := ⟨w.heap.size, 2, none⟩) (Nat.le_refl _) _).setCell (p := ⟨w.heap.size, 3, none⟩) (Nat.le_refl _) _

end Go.Proofs.Ytmekenfndmimhaa.PClockTells

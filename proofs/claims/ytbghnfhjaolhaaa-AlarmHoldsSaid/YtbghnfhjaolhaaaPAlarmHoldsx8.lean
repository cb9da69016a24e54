-- Written by a program of this session, in the form of the kit's print, some functions by hand (N.B. not a file of print.sh's).
import Derived.Test.YtbghnfhjaolhaaaPAlarmHoldsx0
import Derived.Test.YtbghnfhjaolhaaaPAlarmHoldsx1
import Derived.Test.YtbghnfhjaolhaaaPAlarmHoldsx2
import Derived.Test.YtbghnfhjaolhaaaPAlarmHoldsx5
import Derived.Test.YtbghnfhjaolhaaaPAlarmHoldsx6
import Derived.Test.YtbghnfhjaolhaaaPAlarmHoldsx7
namespace Go.Proofs.Ytbghnfhjaolhaaa.PAlarmHolds
open Go.RowKit Go.Proofs.YtbghnfhjaolhaaaW.PrintWords Go.Proofs.YtbghnfhjaolhaaaW.PrintLast Go.Proofs.YtbghnfhjaolhaaaW.PrintMore Go.Proofs.YtbghnfhjaolhaaaM
attribute [local go_sem] max2_int min2_int max_two min_two max_three min_three max_four min_four   -- for this text's walks alone
set_option linter.unusedVariables false
set_option linter.unusedSimpArgs false

/-! ### bilgelaw46_AlarmHolds: function 8 (by hand) -/
def J (lo hi sl de : Int) (v T : Nat → Int) (i : Nat) (s : Wt) (last : Int) : Prop :=
  s.Ok ∧ (s.lo = lo ∧ s.hi = hi ∧ s.sl = sl ∧ s.de = de) ∧ s.no = T i ∧ (0 ≤ last ∧ last ≤ s.si ∧ s.si ≤ T i) ∧ (de = 0 → s.as_ = s.st) ∧ (s.as_ ≠ s.st → T i < s.si + de) ∧
  (s.as_ ≠ s.st → s.st = 0 → ∀ j, j < i → s.si < T (j + 1) → ¬ (lo ≤ v j ∧ v j ≤ hi)) ∧ ((∀ j, j < i → lo ≤ v j ∧ v j ≤ hi) → s.as_ = 0 ∧ s.st = 0 ∧ last = 0)
theorem T_le {T : Nat → Int} (hT : ∀ j, T j ≤ T (j + 1)) : ∀ (d j : Nat), T j ≤ T (j + d) := by
  intro d
  induction d with
  | zero => intro j; exact Int.le_refl _
  | succ d ih => intro j; exact Int.le_trans (ih j) (hT (j + d))
theorem asks_inner (s : Wt) (x : Int) (h : s.lo ≤ x ∧ x ≤ s.hi) : asksF s 0 x = 0 := by
  unfold asksF
  rw [if_neg (by omega), if_neg (by omega), if_neg (by omega), if_neg (by omega)]
theorem hold_step {lo hi sl de : Int} {v T : Nat → Int} {i : Nat} {s : Wt} {last : Int} (h : J lo hi sl de v T i s last) (hT : ∀ j, T j ≤ T (j + 1)) (hT1 : 0 ≤ T (i + 1) ∧ T (i + 1) ≤ 1099511627776) :
    ((feedF s (T (i + 1)) (v i)).2 = [] ∧ (feedF s (T (i + 1)) (v i)).1.st = s.st ∧ J lo hi sl de v T (i + 1) (feedF s (T (i + 1)) (v i)).1 last) ∨
    ∃ c : S72, (feedF s (T (i + 1)) (v i)).2 = [c] ∧ c.f1 = s.st ∧ c.f2 = (feedF s (T (i + 1)) (v i)).1.st ∧ c.f2 ≠ s.st ∧ last + de ≤ c.f0 ∧ c.f0 ≤ T (i + 1) ∧
      (s.st = 0 → ∀ j, j ≤ i → c.f0 - de < T (j + 1) → T (j + 1) < c.f0 → ¬ (lo ≤ v j ∧ v j ≤ hi)) ∧ J lo hi sl de v T (i + 1) (feedF s (T (i + 1)) (v i)).1 c.f0 := by
  obtain ⟨hok, ⟨rfl, rfl, rfl, rfl⟩, hno, ⟨hl0, hl1, hl2⟩, hz, hp, hin, hall⟩ := h
  obtain ⟨o1, o2, o3, o4, o5, o6, o7⟩ := hok
  have hTi := hT i
  have hTj : ∀ j, j ≤ i → T (j + 1) ≤ T (i + 1) := fun j hj => by
    have := T_le hT (i - j) (j + 1)
    rwa [show j + 1 + (i - j) = i + 1 by omega] at this
  obtain ⟨t, ht⟩ : ∃ t, t = T (i + 1) := ⟨_, rfl⟩
  rw [← ht] at hTi hTj hT1 ⊢
  by_cases hA : s.as_ = s.st ∨ t < s.si + s.de
  · have hd : dueF s t = (s, []) := by unfold dueF; rw [if_pos hA]
    obtain ⟨a, ha⟩ : ∃ a, a = asksF s s.st (v i) := ⟨_, rfl⟩
    have haz : s.st = 0 → s.lo ≤ v i ∧ v i ≤ s.hi → a = 0 := fun h0 h1 => by rw [ha, h0]; exact asks_inner s _ h1
    by_cases hB : a ≠ s.as_ ∨ a = s.st
    · have hn : nextF { s with no := t } t (v i) = { s with no := t, as_ := a, si := t } := by
        unfold nextF
        rw [show asksF { s with no := t } s.st (v i) = a from ha.symm, if_pos hB]
      by_cases hz0 : s.de = 0
      · by_cases hast : a = s.st
        · have hf : feedF s t (v i) = ({ s with no := t, as_ := a, si := t }, []) := by
            unfold feedF
            rw [if_pos hz0, hd, hn]
            unfold dueF
            rw [if_pos (Or.inl hast)]; rfl
          rw [hf]
          refine .inl ⟨rfl, rfl, ⟨o1, o2, o3, o4, o5, hT1, hT1⟩, ⟨rfl, rfl, rfl, rfl⟩, ht, ⟨hl0, by show last ≤ t; omega, by show t ≤ T (i + 1); omega⟩, fun _ => hast, fun h => absurd hast h, fun h => absurd hast h, fun hh => ?_⟩
          have h3 := hall (fun j hj => hh j (by omega))
          exact ⟨by show a = 0; rw [hast]; exact h3.2.1, h3.2.1, h3.2.2⟩
        · have hf : feedF s t (v i) = ({ s with no := t, as_ := a, si := t, st := a }, [⟨t + s.de, s.st, a⟩]) := by
            unfold feedF
            rw [if_pos hz0, hd, hn]
            unfold dueF
            rw [if_neg (fun h => h.elim hast (fun h => by simp only at h; omega))]; rfl
          rw [hf]
          refine .inr ⟨_, rfl, rfl, rfl, hast, by show last + s.de ≤ t + s.de; omega, by show t + s.de ≤ t; omega, fun _ j hj h1 h2 => by simp only at h1 h2; omega, ⟨o1, o2, o3, o4, o5, hT1, hT1⟩, ⟨rfl, rfl, rfl, rfl⟩, ht, ⟨by show 0 ≤ t + s.de; omega, by show t + s.de ≤ t; omega, by show t ≤ T (i + 1); omega⟩, fun _ => rfl, fun h => absurd rfl h, fun h => absurd rfl h, fun hh => ?_⟩
          have h3 := hall (fun j hj => hh j (by omega))
          exact absurd ((haz h3.2.1 (hh i (by omega))).trans h3.2.1.symm) hast
      · have hf : feedF s t (v i) = ({ s with no := t, as_ := a, si := t }, []) := by
          unfold feedF
          rw [if_neg hz0, hd, hn]
        rw [hf]
        refine .inl ⟨rfl, rfl, ⟨o1, o2, o3, o4, o5, hT1, hT1⟩, ⟨rfl, rfl, rfl, rfl⟩, ht, ⟨hl0, by show last ≤ t; omega, by show t ≤ T (i + 1); omega⟩, fun h => absurd h hz0, fun _ => by show T (i + 1) < t + s.de; omega, fun _ _ j hj h1 => by have := hTj j (by omega); simp only at h1; omega, fun hh => ?_⟩
        have h3 := hall (fun j hj => hh j (by omega))
        exact ⟨haz h3.2.1 (hh i (by omega)), h3.2.1, h3.2.2⟩
    · have hB1 : a = s.as_ := Decidable.not_not.1 (fun h => hB (Or.inl h))
      have hB2 : a ≠ s.st := fun h => hB (Or.inr h)
      have hne : s.as_ ≠ s.st := by rw [← hB1]; exact hB2
      have hz0 : ¬ s.de = 0 := fun h => hne (hz h)
      have hn : nextF { s with no := t } t (v i) = { s with no := t } := by
        unfold nextF
        rw [show asksF { s with no := t } s.st (v i) = a from ha.symm, if_neg hB]
      have hf : feedF s t (v i) = ({ s with no := t }, []) := by
        unfold feedF
        rw [if_neg hz0, hd, hn]
      rw [hf]
      refine .inl ⟨rfl, rfl, ⟨o1, o2, o3, o4, o5, o6, hT1⟩, ⟨rfl, rfl, rfl, rfl⟩, ht, ⟨hl0, hl1, by show s.si ≤ T (i + 1); omega⟩, hz, fun _ => by show T (i + 1) < s.si + s.de; have := hA.resolve_left hne; omega, fun h1 h2 j hj h3 => ?_, fun hh => hall (fun j hj => hh j (by omega))⟩
      rcases Nat.lt_or_ge j i with hji | hji
      · exact hin h1 h2 j hji h3
      · have : j = i := by omega
        subst this
        intro h4
        have h5 := haz h2 h4
        exact hB2 (h5.trans h2.symm)
  · have hne : s.as_ ≠ s.st := fun h => hA (Or.inl h)
    have hge : ¬ t < s.si + s.de := fun h => hA (Or.inr h)
    have hz0 : ¬ s.de = 0 := fun h => hne (hz h)
    have hd : dueF s t = ({ s with st := s.as_ }, [⟨s.si + s.de, s.st, s.as_⟩]) := by unfold dueF; rw [if_neg hA]
    obtain ⟨a, ha⟩ : ∃ a, a = asksF s s.as_ (v i) := ⟨_, rfl⟩
    have hn : nextF { s with st := s.as_, no := t } t (v i) = { s with st := s.as_, no := t, as_ := a, si := t } := by
      unfold nextF
      rw [show asksF { s with st := s.as_, no := t } s.as_ (v i) = a from ha.symm, if_pos (by by_cases h : a = s.as_; exact Or.inr h; exact Or.inl h)]
    have hf : feedF s t (v i) = ({ s with st := s.as_, no := t, as_ := a, si := t }, [⟨s.si + s.de, s.st, s.as_⟩]) := by
      unfold feedF
      rw [if_neg hz0, hd, hn]
    rw [hf]
    refine .inr ⟨_, rfl, rfl, rfl, hne, by show last + s.de ≤ s.si + s.de; omega, by show s.si + s.de ≤ t; omega, fun h0 j hj h1 h2 => ?_, ⟨o1, o2, o3, o4, o5, hT1, hT1⟩, ⟨rfl, rfl, rfl, rfl⟩, ht, ⟨by show 0 ≤ s.si + s.de; omega, by show s.si + s.de ≤ t; omega, by show t ≤ T (i + 1); omega⟩, fun h => absurd h hz0, fun _ => by show T (i + 1) < t + s.de; omega, fun _ _ j hj h1 => by have := hTj j (by omega); simp only at h1; omega, fun hh => ?_⟩
    · simp only at h1 h2
      rcases Nat.lt_or_ge j i with hji | hji
      · exact hin hne h0 j hji (by omega)
      · have : j = i := by omega
        subst this
        omega
    · have h3 := hall (fun j hj => hh j (by omega))
      exact absurd (h3.1.trans h3.2.1.symm) hne
def dd (x : Int) : Int := if x < 0 then 0 else if x < 1048576 then x else 1048576
theorem dd_bd (x : Int) : 0 ≤ dd x ∧ dd x ≤ 1048576 := by unfold dd; split; omega; split <;> omega
def tk (l : List S67) (i : Nat) : Int := ((l.take i).map (fun x => dd x.f0)).sum
def vv (l : List S67) (i : Nat) : Int := (rd_T67 l (i : Int)).f1
theorem rd_atOp (l : List S67) (i : Nat) (h : i < l.length) : rd_T67 l (i : Int) = l[i] := by
  unfold rd_T67
  rw [Int.toNat_natCast, List.getD_eq_getElem?_getD, List.getElem?_eq_getElem h]; rfl
theorem tk_zero (l : List S67) : tk l 0 = 0 := rfl
theorem tk_succ (l : List S67) (i : Nat) (h : i < l.length) : tk l (i + 1) = tk l i + dd (rd_T67 l (i : Int)).f0 := by
  unfold tk
  rw [List.take_succ_eq_append_getElem h, List.map_append, List.sum_append, rd_atOp l i h]; simp
theorem tk_over (l : List S67) (i : Nat) (h : ¬ i < l.length) : tk l (i + 1) = tk l i := by
  unfold tk
  rw [List.take_of_length_le (by omega), List.take_of_length_le (by omega)]
theorem tk_mono (l : List S67) (i : Nat) : tk l i ≤ tk l (i + 1) := by
  by_cases h : i < l.length
  · rw [tk_succ l i h]; have := dd_bd (rd_T67 l (i : Int)).f0; omega
  · rw [tk_over l i h]; exact Int.le_refl _
theorem tk_bd (l : List S67) : ∀ i : Nat, 0 ≤ tk l i ∧ tk l i ≤ (i : Int) * 1048576 := by
  intro i
  induction i with
  | zero => rw [tk_zero]; omega
  | succ i ih =>
    by_cases h : i < l.length
    · rw [tk_succ l i h]; have := dd_bd (rd_T67 l (i : Int)).f0; omega
    · rw [tk_over l i h]; omega
def bilgelaw46_AlarmHolds.f (k : Nat) (a0_0 a0_1 a0_2 a0_3 : Int) (l1 : List S67) : Option Bool := some true
set_option maxHeartbeats 8000000 in
set_option maxRecDepth 100000 in
theorem bilgelaw46_AlarmHolds.calls (k : Nat) (a0_0 a0_1 a0_2 a0_3 : Int) (A1 : Option Addr) (c1 : Nat) (l1 : List S67) (r : Bool) (w : World) (hr1 : Kd.C k67 w A1 l1.length l1) (hc1 : l1.length ≤ c1) (h : bilgelaw46_AlarmHolds.f k a0_0 a0_1 a0_2 a0_3 l1 = some r) :
    Calls Try.prog 8 #[.agg #[.int .i64 a0_0, .int .i64 a0_1, .int .i64 a0_2, .int .i64 a0_3], .slice A1 l1.length c1] w fun e w' => e = .returned (.bool r) ∧ Below w.heap.size w w' := by
  obtain rfl := Option.some.inj h
  clear h
  generalize a0_0 = lo
  generalize a0_1 = hi
  generalize a0_2 = sl
  generalize a0_3 = de
  have HR1 := Aside0.mk hr1
  obtain ⟨n, hn⟩ : ∃ n, l1.length = n := ⟨_, rfl⟩
  rw [hn] at HR1 ⊢
  have HN := Aside0.mk hn
  clear hr1 hc1 hn
  obtain ⟨W, hW⟩ : ∃ W, W = w.alloc (.cells #[.int .i64 lo, .int .i64 hi, .int .i64 sl, .int .i64 de] 61) := ⟨_, rfl⟩
  have hBW : Below w.heap.size w W := by rw [hW]; exact (Below.refl w.heap.size w).alloc (Nat.le_refl _) _
  have hbl : W.heap[w.heap.size]? = some (.cells #[.int .i64 lo, .int .i64 hi, .int .i64 sl, .int .i64 de] 61 (0, 0)) := by rw [hW]; exact blk_new w _
  have HW := Aside0.mk hW
  have HBW := Aside0.mk hBW
  have HBL := Aside0.mk hbl
  have RC : Aside0 (∀ (b : Nat) (V : World), V.heap[b]? = some (.cells #[.int .i64 lo, .int .i64 hi, .int .i64 sl, .int .i64 de] 61 (0, 0)) → V.cell? ⟨b, 0, none⟩ = some (.int .i64 lo) ∧ V.cell? ⟨b, 1, none⟩ = some (.int .i64 hi) ∧ V.cell? ⟨b, 2, none⟩ = some (.int .i64 sl) ∧ V.cell? ⟨b, 3, none⟩ = some (.int .i64 de)) := ⟨fun b V h => ⟨(blk_cell h 0).trans rfl, (blk_cell h 1).trans rfl, (blk_cell h 2).trans rfl, (blk_cell h 3).trans rfl⟩⟩
  have HAR := Aside0.mk (fun V : World => alarm_Right.calls lo hi sl de (rightF lo hi sl de) V rfl)
  clear hW hBW hbl
  by_cases hlen : 200 < n
  · have d0 : decide ((200 : Int) < (n : Int)) = true := decide_eq_true (by omega)
    go_enter Try.func8, Try.ntmps8
    go_wp2_with fail
    rw [← HW.out]
    refine (sure_calls _).mono ?_
    rintro e w1 ⟨rfl, hg⟩
    have HG := Aside0.mk (HBW.out.trans (hg.mono HBW.out.size))
    clear hg
    go_wp2
    go_ret
    exact ⟨rfl, HG.out⟩
  have d0 : decide ((200 : Int) < (n : Int)) = false := decide_eq_false (by omega)
  by_cases hok : rightF lo hi sl de = false
  · rw [hok] at HAR
    clear hok
    go_enter Try.func8, Try.ntmps8
    go_wp2_with fail
    rw [← HW.out]
    refine (HAR.out _).mono ?_
    rintro e w1 ⟨rfl, hg⟩
    have HG1 := Aside0.mk (HBW.out.trans (hg.mono HBW.out.size))
    clear hg
    go_wp2_with fail
    refine (sure_calls _).mono ?_
    rintro e w4 ⟨rfl, hg⟩
    have HG4 := Aside0.mk (HG1.out.trans (hg.mono HG1.out.size))
    clear hg
    go_wp2
    go_ret
    exact ⟨rfl, HG4.out⟩
  · have hok1 : rightF lo hi sl de = true := by cases h : rightF lo hi sl de with | false => exact absurd h hok | true => rfl
    rw [hok1] at HAR
    have HNW := Aside0.mk (fun V : World => new_made lo hi sl de V hok1)
    have hs0 : Wt.Ok ⟨lo, hi, sl, de, 0, 0, 0, 0⟩ := by
      unfold rightF at hok1
      rw [decide_eq_true_eq] at hok1
      refine ⟨?_, ?_, ?_, ?_, ?_, ?_, ?_⟩ <;> simp only <;> omega
    have HS0 := Aside0.mk hs0
    clear hok hok1 hs0
    go_enter Try.func8, Try.ntmps8
    go_wp2_with fail
    rw [← HW.out]
    refine (HAR.out _).mono ?_
    rintro e w1 ⟨rfl, hg⟩
    have HG1 := Aside0.mk (HBW.out.trans (hg.mono HBW.out.size))
    have HB1 := Aside0.mk (blk_below HBL.out hg)
    obtain ⟨c0, c1, c2, c3⟩ := RC.out _ _ HB1.out
    clear hg
    go_wp2_with fail
    refine (HNW.out _).mono ?_
    rintro e w2 ⟨g, rfl, hb, hge, hg⟩
    have HG2 := Aside0.mk (HG1.out.trans (hg.mono HG1.out.size))
    have HB2 := Aside0.mk (blk_below HB1.out hg)
    have HK2 := Aside0.mk hb
    have HGE := Aside0.mk (Nat.le_trans HG1.out.size hge)
    clear c0 c1 c2 c3 hg hb hge
    have HJ0 : Aside0 (J lo hi sl de (vv l1) (tk l1) 0 ⟨lo, hi, sl, de, 0, 0, 0, 0⟩ 0) := ⟨⟨HS0.out, ⟨rfl, rfl, rfl, rfl⟩, (tk_zero l1).symm, ⟨Int.le_refl _, Int.le_refl _, by rw [tk_zero]; exact Int.le_refl _⟩, fun _ => rfl, fun h => absurd rfl h, fun h => absurd rfl h, fun _ => ⟨rfl, rfl, rfl⟩⟩⟩
    go_wp2
    have HTK := Aside0.mk (tk_zero l1)
    go_loopw [9, 8, 6, 7] (fun v9 v8 v6 v7 wr => ∃ (i : Nat) (s : Wt) (t last : Int), i ≤ n ∧ v9 = .int .i64 (i : Int) ∧ v8 = .int .i64 t ∧ v6 = .int .i64 s.st ∧ v7 = .int .i64 last ∧ Aside0 (t = tk l1 i) ∧ Aside0 (Bk wr g s) ∧ Aside0 (J lo hi sl de (vv l1) (tk l1) i s last) ∧ Aside0 (wr.heap[w.heap.size]? = some (.cells #[.int .i64 lo, .int .i64 hi, .int .i64 sl, .int .i64 de] 61 (0, 0))) ∧ Aside0 (Below w.heap.size w wr)) (fun v9 _ _ _ _ => n - (intOf v9).toNat)
    case atStart => exact ⟨0, _, 0, 0, Nat.zero_le _, rfl, rfl, rfl, rfl, ⟨(tk_zero l1).symm⟩, HK2, HJ0, HB2, HG2⟩
    case round =>
      clear HG1 HG2 HB1 HB2 HK2 HJ0
      obtain ⟨i, s, t, last, hin, rfl, rfl, rfl, rfl, HT, HK, HJ, HBR, HB⟩ := hrel
      by_cases hlt : i < n
      · have q0 : (0 : Int) ≤ (i : Int) := by omega
        have q1 : (i : Int) < (n : Int) := by omega
        have hlt1 : i < l1.length := by rw [HN.out]; exact hlt
        obtain ⟨ad, hA, p0, p1⟩ := at_T67 HR1.out (i : Int) q0 q1
        subst hA
        rw [Int.toNat_natCast] at p0 p1
        replace p0 := (HB.out.cell (World.block_lt_of_cell? w _ p0)).trans p0
        replace p1 := (HB.out.cell (World.block_lt_of_cell? w _ p1)).trans p1
        have hts := tk_succ l1 i hlt1
        obtain ⟨D, hD⟩ : ∃ D, D = (rd_T67 l1 (i : Int)).f0 := ⟨_, rfl⟩
        obtain ⟨V, hV⟩ : ∃ V, V = (rd_T67 l1 (i : Int)).f1 := ⟨_, rfl⟩
        rw [← hD] at p0 hts
        rw [← hV] at p1
        have hVV : V = vv l1 i := hV
        have HVV := Aside0.mk hVV
        have hb1 := tk_bd l1 i
        have hddb := dd_bd D
        have HLT := Aside0.mk hlt
        have hT := HT.out
        have hi200 : (i : Int) < 200 := by omega
        have htb : 0 ≤ t ∧ t ≤ 209715200 := by rw [hT]; omega
        have hts2 : tk l1 (i + 1) = t + dd D := by rw [hts, hT]
        have HTS := Aside0.mk hts2
        clear hD hV hVV hb1 hT hts hts2 hin hlt hlt1
        go_upto_region 10 with (fail)
        go_cut [8] (fun v8 wc => v8 = .int .i64 (t + dd D) ∧ wr = wc)
        case first =>
          by_cases e0 : D < 0
          · have e1 : ¬ (1048576 : Int) < D := by omega
            have e2 : ¬ (0 : Int) < D := by omega
            have hdd : dd D = 0 := by unfold dd; rw [if_pos e0]
            go_wp2
            go_meet
            case rel => exact ⟨by first | (rw [hdd]; go_num; done) | (simp only [hdd, Int.add_zero]; done) | (simp [hdd]; done), by first | rfl | trivial⟩
          · by_cases e3 : D < 1048576
            · have e1 : ¬ (1048576 : Int) < D := by omega
              have hdd : dd D = D := by unfold dd; rw [if_neg e0, if_pos e3]
              by_cases e2 : (0 : Int) < D
              · go_wp2
                go_meet
                case rel => exact ⟨by first | (rw [hdd]; done) | (simp [hdd]; done), by first | rfl | trivial⟩
              · have e4 : D = 0 := by omega
                subst e4
                go_wp2
                go_meet
                case rel => exact ⟨by first | (rw [hdd]; done) | (simp [hdd]; done), by first | rfl | trivial⟩
            · have hdd : dd D = 1048576 := by unfold dd; rw [if_neg e0, if_neg e3]
              by_cases e1 : (1048576 : Int) < D
              · go_wp2
                go_meet
                case rel => exact ⟨by first | (rw [hdd]; done) | (simp [hdd]; done), by first | rfl | trivial⟩
              · have e4 : D = 1048576 := by omega
                subst e4
                go_wp2
                go_meet
                case rel => exact ⟨by first | (rw [hdd]; done) | (simp [hdd]; done), by first | rfl | trivial⟩
        case rest =>
          obtain ⟨rfl, hwc⟩ := hcut
          subst hwc
          clear p0
          obtain ⟨t', ht'⟩ : ∃ t', t' = t + dd D := ⟨_, rfl⟩
          rw [← ht']
          have hts3 : tk l1 (i + 1) = t' := by rw [HTS.out, ht']
          have hno : s.no ≤ t' ∧ t' ≤ 1099511627776 := by
            have h1 := HJ.out.2.2.1
            have h2 := HT.out
            omega
          have hst := hold_step HJ.out (tk_mono l1) (by rw [hts3]; omega)
          rw [hts3, ← HVV.out] at hst
          obtain ⟨s', hs'⟩ : ∃ s', s' = (feedF s t' V).1 := ⟨_, rfl⟩
          obtain ⟨L, hL⟩ : ∃ L, L = (feedF s t' V).2 := ⟨_, rfl⟩
          have hfd := feed_ok g s t' V wr HK.out HJ.out.1 hno
          rw [← hs', ← hL] at hst hfd
          have HFD := Aside0.mk hfd
          have HT' := Aside0.mk hts3
          have htb' : 0 ≤ t' ∧ t' ≤ 1099511627776 := by omega
          have HGR := Aside0.mk (blk_ne HK.out HBR.out (by decide))
          clear hfd hts3 hno hs' hL ht' hddb htb
          go_wp2_with fail
          refine HFD.out.mono ?_
          rintro e w5 ⟨vc, rfl, hr, hb5, hg5⟩
          have HK5 := Aside0.mk hb5
          have HB5 := Aside0.mk (HB.out.grown hg5 HB.out.size (fun k hk => (Option.some.inj hk) ▸ HGE.out))
          have HBR5 := Aside0.mk ((hg5.block _ (blk_lt HBR.out) (fun e => HGR.out (Option.some.inj e).symm)).trans HBR.out)
          rcases hst with ⟨hL0, hst0, hJ'⟩ | ⟨c, hL1, hc1, hc2, hc3, hc4, hc5, hc6, hJ'⟩
          · subst hL0
            have HJ' := Aside0.mk hJ'
            have HST0 := Aside0.mk hst0
            obtain ⟨Ac, cc, rfl⟩ := Kd.R_slice hr
            clear hr hb5 hg5 hJ' hst0
            go_wp2
            go_loopw [12, 6, 7] (fun v12 v6 v7 wr2 => v12 = .int .i64 0 ∧ v6 = .int .i64 s.st ∧ v7 = .int .i64 last ∧ w5 = wr2) (fun _ _ _ _ => 0)
            case atStart => exact ⟨rfl, rfl, rfl, rfl⟩
            case round =>
              obtain ⟨rfl, rfl, rfl, hwr⟩ := hrel
              subst hwr
              go_wp2_with fail
              refine (stands_made g s' _ HK5.out).mono ?_
              rintro e w6 ⟨rfl, hd⟩
              have HK6 := Aside0.mk (HK5.out.drawn hd)
              have HBR6 := Aside0.mk (blk_below HBR5.out hd.below)
              have HB6 := Aside0.mk (HB5.out.trans (hd.below.mono HB5.out.size))
              clear hd
              have e5 : (s'.st == s.st) = true := beq_iff_eq.2 HST0.out
              go_wp2
              clear e5
              go_roundw
              case rel => exact ⟨i + 1, s', t', last, by have := HLT.out; omega, by go_num, by first | rfl | trivial, by rw [HST0.out], by first | rfl | trivial, ⟨HT'.out.symm⟩, HK6, HJ', HBR6, HB6⟩
              case measure => have := HLT.out; simp [intOf]; omega
          · subst hL1
            have HJ' := Aside0.mk hJ'
            have HC1 := Aside0.mk hc1
            have HC2 := Aside0.mk hc2
            have HC3 := Aside0.mk hc3
            have HC4 := Aside0.mk hc4
            have HC5 := Aside0.mk hc5
            have HC6 := Aside0.mk hc6
            obtain ⟨qc, cc, rfl, _, _, _, _⟩ := Kd.R_form hr (by simp)
            have HRC := Aside0.mk hr
            clear hr hb5 hg5 hJ' hc1 hc2 hc3 hc4 hc5 hc6
            go_wp2
            obtain ⟨B0, hB0⟩ : ∃ B0, B0 = wr.heap.size := ⟨_, rfl⟩
            rw [← hB0] at HRC
            clear hB0
            go_loopw [12, 6, 7] (fun v12 v6 v7 wr2 => ((v12 = .int .i64 0 ∧ v6 = .int .i64 s.st ∧ v7 = .int .i64 last) ∨ (v12 = .int .i64 1 ∧ v6 = .int .i64 s'.st ∧ v7 = .int .i64 c.f0)) ∧ Aside0 (Bk wr2 g s') ∧ Aside0 (wr2.heap[w.heap.size]? = some (.cells #[.int .i64 lo, .int .i64 hi, .int .i64 sl, .int .i64 de] 61 (0, 0))) ∧ Aside0 (Below w.heap.size w wr2) ∧ Aside0 (Kd.R k72 72 wr2 B0 (fun _ => True) (.slice (some ⟨qc, 0, none⟩) 1 cc) [c])) (fun v12 _ _ _ => 1 - (intOf v12).toNat)
            case atStart => exact ⟨.inl ⟨rfl, rfl, rfl⟩, HK5, HBR5, HB5, HRC⟩
            case round =>
              obtain ⟨hcase, HKb, HBRb, HBb, HRb⟩ := hrel
              clear HK5 HBR5 HB5 HRC
              rcases hcase with ⟨rfl, rfl, rfl⟩ | ⟨rfl, rfl, rfl⟩
              · obtain ⟨r0, r1, r2, r3⟩ := RC.out _ _ HBRb.out
                obtain ⟨adc, hadc, m0, m1, m2⟩ := at_T72 (Kd.R_reads' HRb.out).2.2 0 (by decide) (by simp)
                cases hadc
                have k0 : wr.cell? ⟨qc, 0, none⟩ = some (.int .i64 c.f0) := m0
                have k1 : wr.cell? ⟨qc, 1, none⟩ = some (.int .i64 s.st) := by rw [← HC1.out]; exact m1
                have k2 : wr.cell? ⟨qc, 2, none⟩ = some (.int .i64 c.f2) := m2
                clear m0 m1 m2
                have hbd := HJ'.out.1
                have hde0 : s'.de = de := HJ'.out.2.1.2.2.2
                have hl0 : 0 ≤ last ∧ last ≤ 1099511627776 := by
                  have h1 := HJ.out.2.2.2.1
                  have h2 := HJ.out.1.2.2.2.2.2.1
                  omega
                have hw1 : IntKind.i64.wrap (last + de) = last + de := by
                  have h5 := HS0.out.2.2.2.2.1
                  simp only at h5
                  rw [i64_w]; unfold wrap64; omega
                have f1 : (s.st != s.st) = false := by simp
                have f2 : (c.f2 == s.st) = false := beq_eq_false_iff_ne.2 HC3.out
                have f3 : decide (c.f0 < last + de) = false := decide_eq_false (by have := HC4.out; omega)
                have f4 : decide (t' < c.f0) = false := decide_eq_false (by have := HC5.out; omega)
                clear hbd hde0 hl0
                go_wp2
                go_quiet (fail)
                clear f1 f2 f3 f4 hw1
                go_wp2
                have HKj0 := Aside0.mk (show Bk (wr.drewN nq) g s' from HKb.out)
                have HBRj0 := Aside0.mk (blk_drewN HBRb.out nq)
                have HBj0 := Aside0.mk (pw_below_drewN HBb.out nq)
                have HRj0 := Aside0.mk (Kd.R_drewN HRb.out nq)
                generalize wr.drewN nq = Wj at HKj0 HBRj0 HBj0 HRj0 ⊢
                clear r0 r1 r2 r3 k0 k1 k2 p1
                go_loopw [14, 13] (fun v14 v13 wr3 => ∃ (j : Nat) (u : Int), j ≤ i + 1 ∧ v14 = .int .i64 (j : Int) ∧ v13 = .int .i64 u ∧ Aside0 (u = tk l1 j) ∧ Aside0 (Bk wr3 g s') ∧ Aside0 (wr3.heap[w.heap.size]? = some (.cells #[.int .i64 lo, .int .i64 hi, .int .i64 sl, .int .i64 de] 61 (0, 0))) ∧ Aside0 (Below w.heap.size w wr3) ∧ Aside0 (Kd.R k72 72 wr3 B0 (fun _ => True) (.slice (some ⟨qc, 0, none⟩) 1 cc) [c])) (fun v14 _ _ => (i + 1) - (intOf v14).toNat)
                case atStart => exact ⟨0, 0, Nat.zero_le _, rfl, rfl, ⟨(tk_zero l1).symm⟩, HKj0, HBRj0, HBj0, HRj0⟩
                case round =>
                  clear HKj0 HBRj0 HBj0 HRj0
                  obtain ⟨j, u, hj, rfl, rfl, HU, HKj, HBRj, HBj, HRj⟩ := hrel
                  obtain ⟨r0, r1, r2, r3⟩ := RC.out _ _ HBRj.out
                  obtain ⟨adc, hadc, m0, m1, m2⟩ := at_T72 (Kd.R_reads' HRj.out).2.2 0 (by decide) (by simp)
                  cases hadc
                  have k0 : wr.cell? ⟨qc, 0, none⟩ = some (.int .i64 c.f0) := m0
                  have k2 : wr.cell? ⟨qc, 2, none⟩ = some (.int .i64 s'.st) := by rw [← HC2.out]; exact m2
                  clear m0 m1 m2
                  by_cases hle : j ≤ i
                  · have hjn : j < n := by have := HLT.out; omega
                    have hjl : j < l1.length := by rw [HN.out]; exact hjn
                    have q2 : (0 : Int) ≤ (j : Int) := by omega
                    have q3 : (j : Int) < (n : Int) := by omega
                    have q4 : (j : Int) ≤ (i : Int) := by omega
                    obtain ⟨adj, hAj, p0, p1⟩ := at_T67 HR1.out (j : Int) q2 q3
                    cases hAj
                    rw [Int.toNat_natCast] at p0 p1
                    replace p0 := (HBj.out.cell (World.block_lt_of_cell? w _ p0)).trans p0
                    replace p1 := (HBj.out.cell (World.block_lt_of_cell? w _ p1)).trans p1
                    have hts := tk_succ l1 j hjl
                    obtain ⟨D, hD⟩ : ∃ D, D = (rd_T67 l1 (j : Int)).f0 := ⟨_, rfl⟩
                    obtain ⟨V', hV⟩ : ∃ V', V' = (rd_T67 l1 (j : Int)).f1 := ⟨_, rfl⟩
                    rw [← hD] at p0 hts
                    rw [← hV] at p1
                    have HVj := Aside0.mk (show V' = vv l1 j from hV)
                    have hb1 := tk_bd l1 j
                    have hddb := dd_bd D
                    have hU := HU.out
                    have hj200 : (j : Int) < 200 := by omega
                    have hub : 0 ≤ u ∧ u ≤ 209715200 := by rw [hU]; omega
                    have HUS := Aside0.mk (show tk l1 (j + 1) = u + dd D by rw [hts, hU])
                    have HLE := Aside0.mk hle
                    clear hD hV hb1 hU hts hj hjn hjl hle
                    go_upto_region 23 with (fail)
                    go_cut [13] (fun v13 wc => v13 = .int .i64 (u + dd D) ∧ wr = wc)
                    case first =>
                      by_cases e0 : D < 0
                      · have e1 : ¬ (1048576 : Int) < D := by omega
                        have e2 : ¬ (0 : Int) < D := by omega
                        have hdd : dd D = 0 := by unfold dd; rw [if_pos e0]
                        go_wp2
                        go_meet
                        case rel => exact ⟨by first | (rw [hdd]; go_num; done) | (simp only [hdd, Int.add_zero]; done) | (simp [hdd]; done), by first | rfl | trivial⟩
                      · by_cases e3 : D < 1048576
                        · have e1 : ¬ (1048576 : Int) < D := by omega
                          have hdd : dd D = D := by unfold dd; rw [if_neg e0, if_pos e3]
                          by_cases e2 : (0 : Int) < D
                          · go_wp2
                            go_meet
                            case rel => exact ⟨by first | (rw [hdd]; done) | (simp [hdd]; done), by first | rfl | trivial⟩
                          · have e4 : D = 0 := by omega
                            subst e4
                            go_wp2
                            go_meet
                            case rel => exact ⟨by first | (rw [hdd]; done) | (simp [hdd]; done), by first | rfl | trivial⟩
                        · have hdd : dd D = 1048576 := by unfold dd; rw [if_neg e0, if_neg e3]
                          by_cases e1 : (1048576 : Int) < D
                          · go_wp2
                            go_meet
                            case rel => exact ⟨by first | (rw [hdd]; done) | (simp [hdd]; done), by first | rfl | trivial⟩
                          · have e4 : D = 1048576 := by omega
                            subst e4
                            go_wp2
                            go_meet
                            case rel => exact ⟨by first | (rw [hdd]; done) | (simp [hdd]; done), by first | rfl | trivial⟩
                    case rest =>
                      obtain ⟨rfl, hwc⟩ := hcut
                      subst hwc
                      clear p0
                      obtain ⟨u', hu'⟩ : ∃ u', u' = u + dd D := ⟨_, rfl⟩
                      rw [← hu']
                      have HU' := Aside0.mk (show u' = tk l1 (j + 1) by rw [HUS.out, hu'])
                      clear hu' hddb hub
                      have hcb : 0 ≤ c.f0 ∧ c.f0 ≤ 1099511627776 := by
                        have h1 := HC4.out
                        have h2 := HC5.out
                        have h3 := HJ.out.2.2.2.1
                        have h4 := HS0.out.2.2.2.2.1
                        simp only at h4
                        omega
                      have hw2 : IntKind.i64.wrap (c.f0 - de) = c.f0 - de := by
                        have h4 := HS0.out.2.2.2.2.1
                        simp only at h4
                        rw [i64_w]; unfold wrap64; omega
                      clear hcb
                      by_cases v1 : lo ≤ V'
                      · have g1 : decide (lo ≤ V') = true := decide_eq_true v1
                        by_cases v2 : V' ≤ hi
                        · have g2 : decide (V' ≤ hi) = true := decide_eq_true v2
                          by_cases v3 : s.st = 0
                          · have g3 : (s.st == 0) = true := beq_iff_eq.2 v3
                            by_cases v4 : c.f0 - de < u'
                            · have g4 : decide (c.f0 - de < u') = true := decide_eq_true v4
                              have v5 : ¬ u' < c.f0 := fun h => HC6.out v3 j HLE.out (by rw [← HU'.out]; exact v4) (by rw [← HU'.out]; exact h) (by rw [← HVj.out]; exact ⟨v1, v2⟩)
                              have g5 : decide (u' < c.f0) = false := decide_eq_false v5
                              clear v1 v2 v3 v4 v5
                              go_wp2
                              go_quiet (fail)
                              go_wp2
                              go_roundw
                              case rel => exact ⟨j + 1, u', by have := HLE.out; omega, by go_num, by first | rfl | trivial, HU', ⟨HKj.out⟩, ⟨blk_drewN HBRj.out _⟩, ⟨pw_below_drewN HBj.out _⟩, ⟨Kd.R_drewN HRj.out _⟩⟩
                              case measure => have := HLE.out; simp [intOf]; omega
                            · have g4 : decide (c.f0 - de < u') = false := decide_eq_false v4
                              clear v1 v2 v3 v4
                              go_wp2
                              go_quiet (fail)
                              go_wp2
                              go_roundw
                              case rel => exact ⟨j + 1, u', by have := HLE.out; omega, by go_num, by first | rfl | trivial, HU', ⟨HKj.out⟩, ⟨blk_drewN HBRj.out _⟩, ⟨pw_below_drewN HBj.out _⟩, ⟨Kd.R_drewN HRj.out _⟩⟩
                              case measure => have := HLE.out; simp [intOf]; omega
                          · have g3 : (s.st == 0) = false := beq_eq_false_iff_ne.2 v3
                            clear v1 v2 v3
                            go_wp2
                            go_quiet (fail)
                            go_wp2
                            go_roundw
                            case rel => exact ⟨j + 1, u', by have := HLE.out; omega, by go_num, by first | rfl | trivial, HU', ⟨HKj.out⟩, ⟨blk_drewN HBRj.out _⟩, ⟨pw_below_drewN HBj.out _⟩, ⟨Kd.R_drewN HRj.out _⟩⟩
                            case measure => have := HLE.out; simp [intOf]; omega
                        · have g2 : decide (V' ≤ hi) = false := decide_eq_false v2
                          clear v1 v2
                          go_wp2
                          go_quiet (fail)
                          go_wp2
                          go_roundw
                          case rel => exact ⟨j + 1, u', by have := HLE.out; omega, by go_num, by first | rfl | trivial, HU', ⟨HKj.out⟩, ⟨blk_drewN HBRj.out _⟩, ⟨pw_below_drewN HBj.out _⟩, ⟨Kd.R_drewN HRj.out _⟩⟩
                          case measure => have := HLE.out; simp [intOf]; omega
                      · have g1 : decide (lo ≤ V') = false := decide_eq_false v1
                        clear v1
                        go_wp2
                        go_quiet (fail)
                        go_wp2
                        go_roundw
                        case rel => exact ⟨j + 1, u', by have := HLE.out; omega, by go_num, by first | rfl | trivial, HU', ⟨HKj.out⟩, ⟨blk_drewN HBRj.out _⟩, ⟨pw_below_drewN HBj.out _⟩, ⟨Kd.R_drewN HRj.out _⟩⟩
                        case measure => have := HLE.out; simp [intOf]; omega
                  · have q4 : ¬ (j : Int) ≤ (i : Int) := by omega
                    clear r0 r1 r2 r3
                    go_wp2
                    go_quiet (fail)
                    go_wp2
                    go_roundw
                    case rel => exact ⟨.inr ⟨by go_num, by first | rfl | trivial, by first | rfl | trivial⟩, ⟨HKj.out⟩, ⟨blk_drewN HBRj.out _⟩, ⟨pw_below_drewN HBj.out _⟩, ⟨Kd.R_drewN HRj.out _⟩⟩
                    case measure => simp [intOf]
              · go_wp2_with fail
                refine (stands_made g s' _ HKb.out).mono ?_
                rintro e w6 ⟨rfl, hd⟩
                have HK6 := Aside0.mk (HKb.out.drawn hd)
                have HBR6 := Aside0.mk (blk_below HBRb.out hd.below)
                have HB6 := Aside0.mk (HBb.out.trans (hd.below.mono HBb.out.size))
                clear hd
                go_wp2
                go_roundw
                case rel => exact ⟨i + 1, s', t', c.f0, by have := HLT.out; omega, by go_num, by first | rfl | trivial, by first | rfl | trivial, by first | rfl | trivial, ⟨HT'.out.symm⟩, HK6, HJ', HBR6, HB6⟩
                case measure => have := HLT.out; simp [intOf]; omega
      · have hni : i = n := by omega
        subst hni
        have q1 : ¬ (i : Int) < (i : Int) := by omega
        clear hlt
        go_wp2
        go_loopw [17] (fun v17 wr4 => ∃ q : Nat, q ≤ i ∧ v17 = .int .i64 (q : Int) ∧ Aside0 (∀ j, j < q → lo ≤ vv l1 j ∧ vv l1 j ≤ hi) ∧ Aside0 (wr4.heap[w.heap.size]? = some (.cells #[.int .i64 lo, .int .i64 hi, .int .i64 sl, .int .i64 de] 61 (0, 0))) ∧ Aside0 (Below w.heap.size w wr4)) (fun v17 _ => i - (intOf v17).toNat)
        case atStart => exact ⟨0, Nat.zero_le _, rfl, ⟨fun j hj => absurd hj (Nat.not_lt_zero _)⟩, HBR, HB⟩
        case round =>
          clear HBR HB HK q1
          obtain ⟨q, hq, rfl, HALL, HBR, HB⟩ := hrel
          by_cases hlt : q < i
          · have q2 : (0 : Int) ≤ (q : Int) := by omega
            have q3 : (q : Int) < (i : Int) := by omega
            obtain ⟨ad, hA, p0, p1⟩ := at_T67 HR1.out (q : Int) q2 q3
            subst hA
            rw [Int.toNat_natCast] at p0 p1
            replace p1 := (HB.out.cell (World.block_lt_of_cell? w _ p1)).trans p1
            obtain ⟨V, hV⟩ : ∃ V, V = (rd_T67 l1 (q : Int)).f1 := ⟨_, rfl⟩
            rw [← hV] at p1
            have HVV := Aside0.mk (show V = vv l1 q from hV)
            have HLT := Aside0.mk hlt
            obtain ⟨r0, r1, r2, r3⟩ := RC.out _ _ HBR.out
            clear hV hlt hq p0
            by_cases v1 : V < lo
            · have g1 : decide (V < lo) = true := decide_eq_true v1
              clear v1
              go_wp2
              go_quiet (fail)
              go_wp2_with fail
              refine (sure_calls _).mono ?_
              rintro e w9 ⟨rfl, hg⟩
              have HF := Aside0.mk ((pw_below_drewN HB.out nq).trans (hg.mono (pw_below_drewN HB.out nq).size))
              clear hg
              go_wp2
              go_ret
              exact ⟨rfl, HF.out⟩
            · have g1 : decide (V < lo) = false := decide_eq_false v1
              by_cases v2 : hi < V
              · have g2 : decide (hi < V) = true := decide_eq_true v2
                clear v1 v2
                go_wp2
                go_quiet (fail)
                go_wp2_with fail
                refine (sure_calls _).mono ?_
                rintro e w9 ⟨rfl, hg⟩
                have HF := Aside0.mk ((pw_below_drewN HB.out nq).trans (hg.mono (pw_below_drewN HB.out nq).size))
                clear hg
                go_wp2
                go_ret
                exact ⟨rfl, HF.out⟩
              · have g2 : decide (hi < V) = false := decide_eq_false v2
                have hinn : lo ≤ V ∧ V ≤ hi := by omega
                have HIN := Aside0.mk hinn
                clear v1 v2 hinn
                go_wp2
                go_quiet (fail)
                go_wp2
                go_roundw
                case rel => exact ⟨q + 1, by have := HLT.out; omega, by go_num, ⟨fun j hj => by
                  rcases Nat.lt_or_ge j q with h | h
                  · exact HALL.out j h
                  · have e : j = q := by omega
                    rw [e, ← HVV.out]; exact HIN.out⟩, ⟨blk_drewN HBR.out _⟩, ⟨pw_below_drewN HB.out _⟩⟩
                case measure => have := HLT.out; simp [intOf]; omega
          · have hqi : q = i := by omega
            subst hqi
            have q3 : ¬ (q : Int) < (q : Int) := by omega
            obtain ⟨_, hs0, hl0⟩ := HJ.out.2.2.2.2.2.2.2 HALL.out
            have e1 : (s.st == 0) = true := beq_iff_eq.2 hs0
            have e2 : (last == 0) = true := beq_iff_eq.2 hl0
            clear hs0 hl0 hlt
            go_wp2_with fail
            refine (sure_calls _).mono ?_
            rintro e w9 ⟨rfl, hg⟩
            have HF := Aside0.mk (HB.out.trans (hg.mono HB.out.size))
            clear hg
            go_wp2
            go_ret
            exact ⟨rfl, HF.out⟩
def bilgelaw46_AlarmHolds.Pure : Prop := ∀ (x0 : S61) (x1 : List (S67)), (((Lit.int .i64 x0.f0).wf = true) ∧ ((Lit.int .i64 x0.f1).wf = true) ∧ ((Lit.int .i64 x0.f2).wf = true) ∧ (Lit.int .i64 x0.f3).wf = true) → (x1.length ≤ maxLen ∧ x1.length * 16 ≤ 140737488351232 ∧ ∀ y_0 ∈ x1, ((Lit.int .i64 y_0.f0).wf = true) ∧ (Lit.int .i64 y_0.f1).wf = true) → ∃ k, bilgelaw46_AlarmHolds.f k x0.f0 x0.f1 x0.f2 x0.f3 x1 = some true

end Go.Proofs.Ytbghnfhjaolhaaa.PAlarmHolds

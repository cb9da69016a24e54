-- Written by a program of this session, in the form of the kit's print, some functions by hand (N.B. not a file of print.sh's).
import Derived.Test.YtbghnfhjaolhaaaPAlarmHoldsx0
import Derived.Test.YtbghnfhjaolhaaaPAlarmHoldsx1
import Derived.Test.YtbghnfhjaolhaaaPAlarmHoldsx2
import Derived.Test.YtbghnfhjaolhaaaPAlarmHoldsx3
import Derived.Test.YtbghnfhjaolhaaaPAlarmHoldsx4
namespace Go.Proofs.Ytbghnfhjaolhaaa.PAlarmHolds
open Go.RowKit Go.Proofs.YtbghnfhjaolhaaaW.PrintWords Go.Proofs.YtbghnfhjaolhaaaW.PrintLast Go.Proofs.YtbghnfhjaolhaaaW.PrintMore Go.Proofs.YtbghnfhjaolhaaaM
attribute [local go_sem] max2_int min2_int max_two min_two max_three min_three max_four min_four   -- for this text's walks alone
set_option linter.unusedVariables false
set_option linter.unusedSimpArgs false

/-! ### alarm_Watch_Feed: function 42 (by hand) -/
set_option maxRecDepth 100000 in
theorem feed_err0 (t v : Int) (w : World) : Calls Try.prog 42 #[.pointer none, .int .i64 t, .int .i64 v] w fun e w' => e = .returned (.tuple #[.slice none 0 0, .int .i64 11]) ∧ Drawn0 w w' := by
  go_enter Try.func42, Try.ntmps42
  go_wp2_with (go_at_call 80; refine (none_nil _).mono ?_; rintro e w1 ⟨rfl, hd⟩; have HD := Aside0.mk hd; clear hd)
  go_ret2
  exact ⟨rfl, HD.out⟩
set_option maxRecDepth 100000 in
theorem feed_err (g : Nat) (s : Wt) (t v : Int) (w : World) (h : Bk w g s) (hok : s.Ok) (ht : t < s.no ∨ 1099511627776 < t) : Calls Try.prog 42 #[.pointer (some ⟨g, 0, none⟩), .int .i64 t, .int .i64 v] w fun e w' => e = .returned (.tuple #[.slice none 0 0, .int .i64 11]) ∧ Drawn0 w w' := by
  have H := Aside0.mk h
  clear h hok
  by_cases h1 : t < s.no
  · have d1 : decide (t < s.no) = true := decide_eq_true h1
    clear h1 ht
    go_enter Try.func42, Try.ntmps42
    go_wp2_with (go_at_call 80; refine (none_made g s _ H.out).mono ?_; rintro e w1 ⟨rfl, hd⟩; have HD := Aside0.mk hd; have h8 : w1.cell? ⟨g, 8, none⟩ = some (.int .i64 s.no) := (H.out.drawn hd).cell 8; clear hd)
    go_ret2
    exact ⟨rfl, HD.out⟩
  · have d1 : decide (t < s.no) = false := decide_eq_false h1
    have d2 : decide (1099511627776 < t) = true := decide_eq_true (by omega)
    clear h1 ht
    go_enter Try.func42, Try.ntmps42
    go_wp2_with (go_at_call 80; refine (none_made g s _ H.out).mono ?_; rintro e w1 ⟨rfl, hd⟩; have HD := Aside0.mk hd; have h8 : w1.cell? ⟨g, 8, none⟩ = some (.int .i64 s.no) := (H.out.drawn hd).cell 8; clear hd)
    go_ret2
    exact ⟨rfl, HD.out⟩
theorem due_ok (s : Wt) (t : Int) (h : s.Ok) : (dueF s t).1.Ok ∧ (dueF s t).2.length ≤ 1 := by
  unfold dueF
  split
  · exact ⟨h, by simp⟩
  · exact ⟨h, by simp⟩
theorem next_ok (s : Wt) (t v : Int) (h : s.Ok) (ht : 0 ≤ t ∧ t ≤ 1099511627776) : (nextF s t v).Ok := by
  unfold nextF
  split
  · obtain ⟨a, b, c, d, e, f, g⟩ := h
    exact ⟨a, b, c, d, e, ht, g⟩
  · exact h
set_option maxHeartbeats 4000000 in
set_option maxRecDepth 100000 in
theorem feed_ok (g : Nat) (s : Wt) (t v : Int) (w : World) (h : Bk w g s) (hok : s.Ok) (ht : s.no ≤ t ∧ t ≤ 1099511627776) :
    Calls Try.prog 42 #[.pointer (some ⟨g, 0, none⟩), .int .i64 t, .int .i64 v] w fun e w' => ∃ v0_ : Value, e = .returned (.tuple #[v0_, .int .i64 0]) ∧ Kd.R k72 72 w' w.heap.size (fun _ => True) v0_ (feedF s t v).2 ∧ Bk w' g (feedF s t v).1 ∧ w.grownBy w' (some g) := by
  have H := Aside0.mk h
  have d1 : decide (t < s.no) = false := decide_eq_false (by omega)
  have d2 : decide (1099511627776 < t) = false := decide_eq_false (by omega)
  have HOK := Aside0.mk hok
  have hno := hok.2.2.2.2.2.2
  have ht0 : 0 ≤ t := by omega
  obtain ⟨s1, hs1⟩ : ∃ s1, s1 = (dueF s t).1 := ⟨_, rfl⟩
  obtain ⟨L1, hL1⟩ : ∃ L1, L1 = (dueF s t).2 := ⟨_, rfl⟩
  have hdok := due_ok s t hok
  rw [← hs1, ← hL1] at hdok
  obtain ⟨a, ha⟩ : ∃ a, a = asksF { s1 with no := t } s1.st v := ⟨_, rfl⟩
  have hok2 : Wt.Ok { s1 with no := t } := by
    obtain ⟨q1, q2, q3, q4, q5, q6, q7⟩ := hdok.1
    exact ⟨q1, q2, q3, q4, q5, q6, ⟨ht0, ht.2⟩⟩
  have hf : feedF s t v = (if s.de = 0 then ((dueF (nextF { s1 with no := t } t v) t).1, L1 ++ (dueF (nextF { s1 with no := t } t v) t).2) else (nextF { s1 with no := t } t v, L1)) := by
    unfold feedF; rw [← hs1, ← hL1]
  have hde : s1.de = s.de := by rw [hs1]; unfold dueF; split <;> rfl
  have hnx : nextF { s1 with no := t } t v = if a ≠ s1.as_ ∨ a = s1.st then { s1 with no := t, as_ := a, si := t } else { s1 with no := t } := by
    unfold nextF; rw [← ha]
  have hnok := next_ok { s1 with no := t } t v hok2 ⟨ht0, ht.2⟩
  rw [hf]
  have DUE := fun (W : World) (hb : Bk W g s) => due_calls g s t W hb HOK.out
  rw [← hs1, ← hL1] at DUE
  have ASK := fun (W : World) (hb : Bk W g { s1 with no := t }) => ask_calls s1.st v g _ W hb hok2
  rw [← ha] at ASK
  have HDUE := Aside0.mk DUE
  have HASK := Aside0.mk ASK
  have HDE := Aside0.mk hde
  have HL := Aside0.mk hdok.2
  have HT := Aside0.mk (show 0 ≤ t ∧ t ≤ 1099511627776 from ⟨ht0, ht.2⟩)
  clear h hok ht hno ht0 DUE ASK hs1 hL1 ha hdok hok2 hf
  obtain ⟨s3, hs3⟩ : ∃ s3, s3 = nextF { s1 with no := t } t v := ⟨_, rfl⟩
  rw [← hs3] at hnx hnok ⊢
  have HNOK := Aside0.mk hnok
  clear hs3 hnok
  by_cases hz : s.de = 0
  · by_cases hp : a ≠ s1.as_
    · rw [if_pos (Or.inl hp)] at hnx
      rw [if_pos hz]
      have hz1 : (s1.de == 0) = true := by rw [hde]; exact beq_iff_eq.2 hz
      have d3 : (a == s1.as_) = false := beq_eq_false_iff_ne.2 hp
      have HNX := Aside0.mk hnx
      clear hnx hde hz hp
      go_enter Try.func42, Try.ntmps42
      go_wp2_with (first
        | (go_at_call 80; refine (none_made g s _ H.out).mono ?_; rintro e w1 ⟨rfl, hd⟩; have HD1 := Aside0.mk hd; have h8 : w1.cell? ⟨g, 8, none⟩ = some (.int .i64 s.no) := (H.out.drawn hd).cell 8; clear hd)
        | (go_at_call 81; refine (HDUE.out _ (H.out.drawn HD1.out)).mono ?_; rintro e w2 ⟨v1, rfl, hr, hb, hg⟩; have HR := Aside0.mk hr; have HG2 := Aside0.mk (gb_trans (gb_drawn (g := g) HD1.out) hg (fun q hq => Or.inl (Option.some.inj hq).symm)); have HB2 := Aside0.mk hb; have k8 : w2.cell? ⟨g, 8, none⟩ = some (.int .i64 s1.no) := hb.cell 8; have r8 : w2.frozen? ⟨g, 8, none⟩ = false := hb.fr 8; have hb3 : Bk (w2.setCell ⟨g, 8, none⟩ (.int .i64 t)) g { s1 with no := t } := blk_put hb 8 _ rfl; have HB3 := Aside0.mk hb3; have k5 : (w2.setCell ⟨g, 8, none⟩ (.int .i64 t)).cell? ⟨g, 5, none⟩ = some (.int .i64 s1.st) := hb3.cell 5; obtain ⟨A1, c1, rfl⟩ := Kd.R_slice hr; clear hr hb hg hb3 h8)
        | (go_at_call 82; refine (asks_calls _ _).mono ?_; rintro e w4 ⟨rfl, hd⟩; have HB4 := Aside0.mk (HB3.out.drawn hd); have HD4 := Aside0.mk hd; clear hd k8 r8 k5))
      rw [ask_enters, Oper.upon_enter]
      refine (HASK.out w4 HB4.out).mono ?_
      rintro e w5 ⟨rfl, hd⟩
      have HB5 := Aside0.mk (HB4.out.drawn hd)
      have HG5 := Aside0.mk (gb_trans (gb_trans (gb_set HG2.out (.inl rfl) 8 (.int .i64 t)) (gb_drawn (g := g) HD4.out) (fun q hq => Or.inl (Option.some.inj hq).symm)) (gb_drawn (g := g) hd) (fun q hq => Or.inl (Option.some.inj hq).symm))
      have HR5 := Aside0.mk (Kd.R_below (Kd.R_below (R_aside HR.out (H.out.drawn HD1.out).lt 8 (.int .i64 t)) HD4.out.below) hd.below)
      have j3 : w5.cell? ⟨g, 3, none⟩ = some (.int .i64 s1.de) := HB5.out.cell 3
      have j5 : w5.cell? ⟨g, 5, none⟩ = some (.int .i64 s1.st) := HB5.out.cell 5
      have j6 : w5.cell? ⟨g, 6, none⟩ = some (.int .i64 s1.as_) := HB5.out.cell 6
      have j7 : w5.cell? ⟨g, 7, none⟩ = some (.int .i64 s1.si) := HB5.out.cell 7
      have r6 : w5.frozen? ⟨g, 6, none⟩ = false := HB5.out.fr 6
      have r7 : w5.frozen? ⟨g, 7, none⟩ = false := HB5.out.fr 7
      clear hd
      have HX : Aside0 (Bk ((w5.setCell ⟨g, 6, none⟩ (.int .i64 a)).setCell ⟨g, 7, none⟩ (.int .i64 t)) g s3) := ⟨by rw [HNX.out]; exact blk_put (blk_put HB5.out 6 _ rfl) 7 _ rfl⟩
      have HGX : Aside0 (w.grownBy ((w5.setCell ⟨g, 6, none⟩ (.int .i64 a)).setCell ⟨g, 7, none⟩ (.int .i64 t)) (some g)) := ⟨gb_set (gb_set HG5.out (.inl rfl) 6 _) (.inl rfl) 7 _⟩
      have HRX : Aside0 (Kd.R k72 72 ((w5.setCell ⟨g, 6, none⟩ (.int .i64 a)).setCell ⟨g, 7, none⟩ (.int .i64 t)) w1.heap.size (fun _ => True) (.slice A1 L1.length c1) L1) := ⟨R_aside (R_aside HR5.out (H.out.drawn HD1.out).lt 6 _) (H.out.drawn HD1.out).lt 7 _⟩
      go_wp2_with (first
        | (go_at_call 81; refine (due_calls g s3 t _ HX.out HNOK.out).mono ?_; rintro e w6 ⟨v6, rfl, hr6, hb6, hg6⟩; obtain ⟨A6, c6, rfl⟩ := Kd.R_slice hr6; have HR6 := Aside0.mk hr6; have HB6 := Aside0.mk hb6; have HG6 := Aside0.mk (gb_trans HGX.out hg6 (fun q hq => Or.inl (Option.some.inj hq).symm)); have HR1 := Aside0.mk (Kd.R_lower (R_aside2 HRX.out hg6 (H.out.drawn HD1.out).lt) (HD1.out.below).size); clear hr6 hb6 hg6)
        | (at_builtin; refine Kd.R_append_rows k72 (w0 := w6) w.heap.size rfl (.tmp 71) (.tmp 74) 68 72 (.agg #[(.int .i64 0), (.int .i64 0), (.int .i64 0)]) 24 rfl Try.underlying68 (by kernel_rfl) rfl (by decide) (by omega) (.slice A1 L1.length c1) L1 _ A6 _ c6 (fun _ => True) (fun _ => False) rfl rfl HR1.out (Kd.R_reads' HR6.out).2.2 (fun _ _ h => by rw [k72_open h]; exact k72_mkM _ _ _ _) (fun _ h => h.elim) (fun _ _ => trivial) (Below.refl _ _) HG6.out.size (by have := HL.out; have := (due_ok s3 t HNOK.out).2; omega) ?_; intro v7 w7 ho7 hb7 hg7 hat7; have HO7 := Aside0.mk ho7; have HG7 := Aside0.mk hg7; clear ho7 hb7 hg7 hat7))
      skip
      go_ret2
      have hnv : ∀ q, (Value.slice A1 L1.length c1).ownBlock = some q → w.heap.size ≤ q := fun q hq => Kd.R_base HR1.out q hq
      refine ⟨_, rfl, HO7.out, HB6.out.grown HG7.out (fun e => by have := hnv g e.symm; have := H.out.lt; omega), gb_trans HG6.out HG7.out (fun q hq => Or.inr (hnv q hq))⟩
    · have hp0 := Decidable.not_not.1 hp
      clear hp
      by_cases hp : a = s1.st
      · rw [if_pos (Or.inr hp)] at hnx
        have hq : s1.st = s1.as_ := hp.symm.trans hp0
        subst hp0
        clear hp
        obtain ⟨lo1, hi1, sl1, de1, st1, as1, si1, no1⟩ := s1
        dsimp only at *
        subst hq
        rw [if_pos hz]
        have hz1 : (de1 == 0) = true := by rw [hde]; exact beq_iff_eq.2 hz
        have HNX := Aside0.mk hnx
        clear hnx hde hz
        go_enter Try.func42, Try.ntmps42
        go_wp2_with (first
          | (go_at_call 80; refine (none_made g s _ H.out).mono ?_; rintro e w1 ⟨rfl, hd⟩; have HD1 := Aside0.mk hd; have h8 : w1.cell? ⟨g, 8, none⟩ = some (.int .i64 s.no) := (H.out.drawn hd).cell 8; clear hd)
          | (go_at_call 81; refine (HDUE.out _ (H.out.drawn HD1.out)).mono ?_; rintro e w2 ⟨v1, rfl, hr, hb, hg⟩; have HR := Aside0.mk hr; have HG2 := Aside0.mk (gb_trans (gb_drawn (g := g) HD1.out) hg (fun q hq => Or.inl (Option.some.inj hq).symm)); have HB2 := Aside0.mk hb; have k8 : w2.cell? ⟨g, 8, none⟩ = some (.int .i64 no1) := hb.cell 8; have r8 : w2.frozen? ⟨g, 8, none⟩ = false := hb.fr 8; have hb3 : Bk (w2.setCell ⟨g, 8, none⟩ (.int .i64 t)) g ⟨lo1, hi1, sl1, de1, st1, st1, si1, t⟩ := blk_put hb 8 _ rfl; have HB3 := Aside0.mk hb3; have k5 : (w2.setCell ⟨g, 8, none⟩ (.int .i64 t)).cell? ⟨g, 5, none⟩ = some (.int .i64 st1) := hb3.cell 5; obtain ⟨A1, c1, rfl⟩ := Kd.R_slice hr; clear hr hb hg hb3 h8)
          | (go_at_call 82; refine (asks_calls _ _).mono ?_; rintro e w4 ⟨rfl, hd⟩; have HB4 := Aside0.mk (HB3.out.drawn hd); have HD4 := Aside0.mk hd; clear hd k8 r8 k5))
        rw [ask_enters, Oper.upon_enter]
        refine (HASK.out w4 HB4.out).mono ?_
        rintro e w5 ⟨rfl, hd⟩
        have HB5 := Aside0.mk (HB4.out.drawn hd)
        have HG5 := Aside0.mk (gb_trans (gb_trans (gb_set HG2.out (.inl rfl) 8 (.int .i64 t)) (gb_drawn (g := g) HD4.out) (fun q hq => Or.inl (Option.some.inj hq).symm)) (gb_drawn (g := g) hd) (fun q hq => Or.inl (Option.some.inj hq).symm))
        have HR5 := Aside0.mk (Kd.R_below (Kd.R_below (R_aside HR.out (H.out.drawn HD1.out).lt 8 (.int .i64 t)) HD4.out.below) hd.below)
        have j3 : w5.cell? ⟨g, 3, none⟩ = some (.int .i64 de1) := HB5.out.cell 3
        have j5 : w5.cell? ⟨g, 5, none⟩ = some (.int .i64 st1) := HB5.out.cell 5
        have j6 : w5.cell? ⟨g, 6, none⟩ = some (.int .i64 st1) := HB5.out.cell 6
        have j7 : w5.cell? ⟨g, 7, none⟩ = some (.int .i64 si1) := HB5.out.cell 7
        have r6 : w5.frozen? ⟨g, 6, none⟩ = false := HB5.out.fr 6
        have r7 : w5.frozen? ⟨g, 7, none⟩ = false := HB5.out.fr 7
        clear hd
        have HX : Aside0 (Bk ((w5.setCell ⟨g, 6, none⟩ (.int .i64 st1)).setCell ⟨g, 7, none⟩ (.int .i64 t)) g s3) := ⟨by rw [HNX.out]; exact blk_put (blk_put HB5.out 6 _ rfl) 7 _ rfl⟩
        have HGX : Aside0 (w.grownBy ((w5.setCell ⟨g, 6, none⟩ (.int .i64 st1)).setCell ⟨g, 7, none⟩ (.int .i64 t)) (some g)) := ⟨gb_set (gb_set HG5.out (.inl rfl) 6 _) (.inl rfl) 7 _⟩
        have HRX : Aside0 (Kd.R k72 72 ((w5.setCell ⟨g, 6, none⟩ (.int .i64 st1)).setCell ⟨g, 7, none⟩ (.int .i64 t)) w1.heap.size (fun _ => True) (.slice A1 L1.length c1) L1) := ⟨R_aside (R_aside HR5.out (H.out.drawn HD1.out).lt 6 _) (H.out.drawn HD1.out).lt 7 _⟩
        go_wp2_with (first
          | (go_at_call 81; refine (due_calls g s3 t _ HX.out HNOK.out).mono ?_; rintro e w6 ⟨v6, rfl, hr6, hb6, hg6⟩; obtain ⟨A6, c6, rfl⟩ := Kd.R_slice hr6; have HR6 := Aside0.mk hr6; have HB6 := Aside0.mk hb6; have HG6 := Aside0.mk (gb_trans HGX.out hg6 (fun q hq => Or.inl (Option.some.inj hq).symm)); have HR1 := Aside0.mk (Kd.R_lower (R_aside2 HRX.out hg6 (H.out.drawn HD1.out).lt) (HD1.out.below).size); clear hr6 hb6 hg6)
          | (at_builtin; refine Kd.R_append_rows k72 (w0 := w6) w.heap.size rfl (.tmp 71) (.tmp 74) 68 72 (.agg #[(.int .i64 0), (.int .i64 0), (.int .i64 0)]) 24 rfl Try.underlying68 (by kernel_rfl) rfl (by decide) (by omega) (.slice A1 L1.length c1) L1 _ A6 _ c6 (fun _ => True) (fun _ => False) rfl rfl HR1.out (Kd.R_reads' HR6.out).2.2 (fun _ _ h => by rw [k72_open h]; exact k72_mkM _ _ _ _) (fun _ h => h.elim) (fun _ _ => trivial) (Below.refl _ _) HG6.out.size (by have := HL.out; have := (due_ok s3 t HNOK.out).2; omega) ?_; intro v7 w7 ho7 hb7 hg7 hat7; have HO7 := Aside0.mk ho7; have HG7 := Aside0.mk hg7; clear ho7 hb7 hg7 hat7))
        skip
        go_ret2
        have hnv : ∀ q, (Value.slice A1 L1.length c1).ownBlock = some q → w.heap.size ≤ q := fun q hq => Kd.R_base HR1.out q hq
        refine ⟨_, rfl, HO7.out, HB6.out.grown HG7.out (fun e => by have := hnv g e.symm; have := H.out.lt; omega), gb_trans HG6.out HG7.out (fun q hq => Or.inr (hnv q hq))⟩
      · rw [if_neg (fun h => h.elim (fun h => h hp0) hp)] at hnx
        rw [if_pos hz]
        have hz1 : (s1.de == 0) = true := by rw [hde]; exact beq_iff_eq.2 hz
        subst hp0
        have d4 : (s1.as_ == s1.st) = false := beq_eq_false_iff_ne.2 hp
        have HNX := Aside0.mk hnx
        clear hnx hde hz hp
        go_enter Try.func42, Try.ntmps42
        go_wp2_with (first
          | (go_at_call 80; refine (none_made g s _ H.out).mono ?_; rintro e w1 ⟨rfl, hd⟩; have HD1 := Aside0.mk hd; have h8 : w1.cell? ⟨g, 8, none⟩ = some (.int .i64 s.no) := (H.out.drawn hd).cell 8; clear hd)
          | (go_at_call 81; refine (HDUE.out _ (H.out.drawn HD1.out)).mono ?_; rintro e w2 ⟨v1, rfl, hr, hb, hg⟩; have HR := Aside0.mk hr; have HG2 := Aside0.mk (gb_trans (gb_drawn (g := g) HD1.out) hg (fun q hq => Or.inl (Option.some.inj hq).symm)); have HB2 := Aside0.mk hb; have k8 : w2.cell? ⟨g, 8, none⟩ = some (.int .i64 s1.no) := hb.cell 8; have r8 : w2.frozen? ⟨g, 8, none⟩ = false := hb.fr 8; have hb3 : Bk (w2.setCell ⟨g, 8, none⟩ (.int .i64 t)) g { s1 with no := t } := blk_put hb 8 _ rfl; have HB3 := Aside0.mk hb3; have k5 : (w2.setCell ⟨g, 8, none⟩ (.int .i64 t)).cell? ⟨g, 5, none⟩ = some (.int .i64 s1.st) := hb3.cell 5; obtain ⟨A1, c1, rfl⟩ := Kd.R_slice hr; clear hr hb hg hb3 h8)
          | (go_at_call 82; refine (asks_calls _ _).mono ?_; rintro e w4 ⟨rfl, hd⟩; have HB4 := Aside0.mk (HB3.out.drawn hd); have HD4 := Aside0.mk hd; clear hd k8 r8 k5))
        rw [ask_enters, Oper.upon_enter]
        refine (HASK.out w4 HB4.out).mono ?_
        rintro e w5 ⟨rfl, hd⟩
        have HB5 := Aside0.mk (HB4.out.drawn hd)
        have HG5 := Aside0.mk (gb_trans (gb_trans (gb_set HG2.out (.inl rfl) 8 (.int .i64 t)) (gb_drawn (g := g) HD4.out) (fun q hq => Or.inl (Option.some.inj hq).symm)) (gb_drawn (g := g) hd) (fun q hq => Or.inl (Option.some.inj hq).symm))
        have HR5 := Aside0.mk (Kd.R_below (Kd.R_below (R_aside HR.out (H.out.drawn HD1.out).lt 8 (.int .i64 t)) HD4.out.below) hd.below)
        have j3 : w5.cell? ⟨g, 3, none⟩ = some (.int .i64 s1.de) := HB5.out.cell 3
        have j5 : w5.cell? ⟨g, 5, none⟩ = some (.int .i64 s1.st) := HB5.out.cell 5
        have j6 : w5.cell? ⟨g, 6, none⟩ = some (.int .i64 s1.as_) := HB5.out.cell 6
        have j7 : w5.cell? ⟨g, 7, none⟩ = some (.int .i64 s1.si) := HB5.out.cell 7
        have r6 : w5.frozen? ⟨g, 6, none⟩ = false := HB5.out.fr 6
        have r7 : w5.frozen? ⟨g, 7, none⟩ = false := HB5.out.fr 7
        clear hd
        have HX : Aside0 (Bk w5 g s3) := ⟨by rw [HNX.out]; exact HB5.out⟩
        have HGX := HG5
        have HRX := HR5
        go_wp2_with (first
          | (go_at_call 81; refine (due_calls g s3 t _ HX.out HNOK.out).mono ?_; rintro e w6 ⟨v6, rfl, hr6, hb6, hg6⟩; obtain ⟨A6, c6, rfl⟩ := Kd.R_slice hr6; have HR6 := Aside0.mk hr6; have HB6 := Aside0.mk hb6; have HG6 := Aside0.mk (gb_trans HGX.out hg6 (fun q hq => Or.inl (Option.some.inj hq).symm)); have HR1 := Aside0.mk (Kd.R_lower (R_aside2 HRX.out hg6 (H.out.drawn HD1.out).lt) (HD1.out.below).size); clear hr6 hb6 hg6)
          | (at_builtin; refine Kd.R_append_rows k72 (w0 := w6) w.heap.size rfl (.tmp 71) (.tmp 74) 68 72 (.agg #[(.int .i64 0), (.int .i64 0), (.int .i64 0)]) 24 rfl Try.underlying68 (by kernel_rfl) rfl (by decide) (by omega) (.slice A1 L1.length c1) L1 _ A6 _ c6 (fun _ => True) (fun _ => False) rfl rfl HR1.out (Kd.R_reads' HR6.out).2.2 (fun _ _ h => by rw [k72_open h]; exact k72_mkM _ _ _ _) (fun _ h => h.elim) (fun _ _ => trivial) (Below.refl _ _) HG6.out.size (by have := HL.out; have := (due_ok s3 t HNOK.out).2; omega) ?_; intro v7 w7 ho7 hb7 hg7 hat7; have HO7 := Aside0.mk ho7; have HG7 := Aside0.mk hg7; clear ho7 hb7 hg7 hat7))
        skip
        go_ret2
        have hnv : ∀ q, (Value.slice A1 L1.length c1).ownBlock = some q → w.heap.size ≤ q := fun q hq => Kd.R_base HR1.out q hq
        refine ⟨_, rfl, HO7.out, HB6.out.grown HG7.out (fun e => by have := hnv g e.symm; have := H.out.lt; omega), gb_trans HG6.out HG7.out (fun q hq => Or.inr (hnv q hq))⟩
  · by_cases hp : a ≠ s1.as_
    · rw [if_pos (Or.inl hp)] at hnx
      rw [if_neg hz]
      have hz1 : (s1.de == 0) = false := by rw [hde]; exact beq_eq_false_iff_ne.2 hz
      have d3 : (a == s1.as_) = false := beq_eq_false_iff_ne.2 hp
      have HNX := Aside0.mk hnx
      clear hnx hde hz hp
      go_enter Try.func42, Try.ntmps42
      go_wp2_with (first
        | (go_at_call 80; refine (none_made g s _ H.out).mono ?_; rintro e w1 ⟨rfl, hd⟩; have HD1 := Aside0.mk hd; have h8 : w1.cell? ⟨g, 8, none⟩ = some (.int .i64 s.no) := (H.out.drawn hd).cell 8; clear hd)
        | (go_at_call 81; refine (HDUE.out _ (H.out.drawn HD1.out)).mono ?_; rintro e w2 ⟨v1, rfl, hr, hb, hg⟩; have HR := Aside0.mk hr; have HG2 := Aside0.mk (gb_trans (gb_drawn (g := g) HD1.out) hg (fun q hq => Or.inl (Option.some.inj hq).symm)); have HB2 := Aside0.mk hb; have k8 : w2.cell? ⟨g, 8, none⟩ = some (.int .i64 s1.no) := hb.cell 8; have r8 : w2.frozen? ⟨g, 8, none⟩ = false := hb.fr 8; have hb3 : Bk (w2.setCell ⟨g, 8, none⟩ (.int .i64 t)) g { s1 with no := t } := blk_put hb 8 _ rfl; have HB3 := Aside0.mk hb3; have k5 : (w2.setCell ⟨g, 8, none⟩ (.int .i64 t)).cell? ⟨g, 5, none⟩ = some (.int .i64 s1.st) := hb3.cell 5; obtain ⟨A1, c1, rfl⟩ := Kd.R_slice hr; clear hr hb hg hb3 h8)
        | (go_at_call 82; refine (asks_calls _ _).mono ?_; rintro e w4 ⟨rfl, hd⟩; have HB4 := Aside0.mk (HB3.out.drawn hd); have HD4 := Aside0.mk hd; clear hd k8 r8 k5))
      rw [ask_enters, Oper.upon_enter]
      refine (HASK.out w4 HB4.out).mono ?_
      rintro e w5 ⟨rfl, hd⟩
      have HB5 := Aside0.mk (HB4.out.drawn hd)
      have HG5 := Aside0.mk (gb_trans (gb_trans (gb_set HG2.out (.inl rfl) 8 (.int .i64 t)) (gb_drawn (g := g) HD4.out) (fun q hq => Or.inl (Option.some.inj hq).symm)) (gb_drawn (g := g) hd) (fun q hq => Or.inl (Option.some.inj hq).symm))
      have HR5 := Aside0.mk (Kd.R_below (Kd.R_below (R_aside HR.out (H.out.drawn HD1.out).lt 8 (.int .i64 t)) HD4.out.below) hd.below)
      have j3 : w5.cell? ⟨g, 3, none⟩ = some (.int .i64 s1.de) := HB5.out.cell 3
      have j5 : w5.cell? ⟨g, 5, none⟩ = some (.int .i64 s1.st) := HB5.out.cell 5
      have j6 : w5.cell? ⟨g, 6, none⟩ = some (.int .i64 s1.as_) := HB5.out.cell 6
      have j7 : w5.cell? ⟨g, 7, none⟩ = some (.int .i64 s1.si) := HB5.out.cell 7
      have r6 : w5.frozen? ⟨g, 6, none⟩ = false := HB5.out.fr 6
      have r7 : w5.frozen? ⟨g, 7, none⟩ = false := HB5.out.fr 7
      clear hd
      have HX : Aside0 (Bk ((w5.setCell ⟨g, 6, none⟩ (.int .i64 a)).setCell ⟨g, 7, none⟩ (.int .i64 t)) g s3) := ⟨by rw [HNX.out]; exact blk_put (blk_put HB5.out 6 _ rfl) 7 _ rfl⟩
      have HGX : Aside0 (w.grownBy ((w5.setCell ⟨g, 6, none⟩ (.int .i64 a)).setCell ⟨g, 7, none⟩ (.int .i64 t)) (some g)) := ⟨gb_set (gb_set HG5.out (.inl rfl) 6 _) (.inl rfl) 7 _⟩
      have HRX : Aside0 (Kd.R k72 72 ((w5.setCell ⟨g, 6, none⟩ (.int .i64 a)).setCell ⟨g, 7, none⟩ (.int .i64 t)) w1.heap.size (fun _ => True) (.slice A1 L1.length c1) L1) := ⟨R_aside (R_aside HR5.out (H.out.drawn HD1.out).lt 6 _) (H.out.drawn HD1.out).lt 7 _⟩
      go_wp2
      go_ret2
      exact ⟨_, rfl, Kd.R_lower HRX.out (HD1.out.below).size, HX.out, HGX.out⟩
    · have hp0 := Decidable.not_not.1 hp
      clear hp
      by_cases hp : a = s1.st
      · rw [if_pos (Or.inr hp)] at hnx
        have hq : s1.st = s1.as_ := hp.symm.trans hp0
        subst hp0
        clear hp
        obtain ⟨lo1, hi1, sl1, de1, st1, as1, si1, no1⟩ := s1
        dsimp only at *
        subst hq
        rw [if_neg hz]
        have hz1 : (de1 == 0) = false := by rw [hde]; exact beq_eq_false_iff_ne.2 hz
        have HNX := Aside0.mk hnx
        clear hnx hde hz
        go_enter Try.func42, Try.ntmps42
        go_wp2_with (first
          | (go_at_call 80; refine (none_made g s _ H.out).mono ?_; rintro e w1 ⟨rfl, hd⟩; have HD1 := Aside0.mk hd; have h8 : w1.cell? ⟨g, 8, none⟩ = some (.int .i64 s.no) := (H.out.drawn hd).cell 8; clear hd)
          | (go_at_call 81; refine (HDUE.out _ (H.out.drawn HD1.out)).mono ?_; rintro e w2 ⟨v1, rfl, hr, hb, hg⟩; have HR := Aside0.mk hr; have HG2 := Aside0.mk (gb_trans (gb_drawn (g := g) HD1.out) hg (fun q hq => Or.inl (Option.some.inj hq).symm)); have HB2 := Aside0.mk hb; have k8 : w2.cell? ⟨g, 8, none⟩ = some (.int .i64 no1) := hb.cell 8; have r8 : w2.frozen? ⟨g, 8, none⟩ = false := hb.fr 8; have hb3 : Bk (w2.setCell ⟨g, 8, none⟩ (.int .i64 t)) g ⟨lo1, hi1, sl1, de1, st1, st1, si1, t⟩ := blk_put hb 8 _ rfl; have HB3 := Aside0.mk hb3; have k5 : (w2.setCell ⟨g, 8, none⟩ (.int .i64 t)).cell? ⟨g, 5, none⟩ = some (.int .i64 st1) := hb3.cell 5; obtain ⟨A1, c1, rfl⟩ := Kd.R_slice hr; clear hr hb hg hb3 h8)
          | (go_at_call 82; refine (asks_calls _ _).mono ?_; rintro e w4 ⟨rfl, hd⟩; have HB4 := Aside0.mk (HB3.out.drawn hd); have HD4 := Aside0.mk hd; clear hd k8 r8 k5))
        rw [ask_enters, Oper.upon_enter]
        refine (HASK.out w4 HB4.out).mono ?_
        rintro e w5 ⟨rfl, hd⟩
        have HB5 := Aside0.mk (HB4.out.drawn hd)
        have HG5 := Aside0.mk (gb_trans (gb_trans (gb_set HG2.out (.inl rfl) 8 (.int .i64 t)) (gb_drawn (g := g) HD4.out) (fun q hq => Or.inl (Option.some.inj hq).symm)) (gb_drawn (g := g) hd) (fun q hq => Or.inl (Option.some.inj hq).symm))
        have HR5 := Aside0.mk (Kd.R_below (Kd.R_below (R_aside HR.out (H.out.drawn HD1.out).lt 8 (.int .i64 t)) HD4.out.below) hd.below)
        have j3 : w5.cell? ⟨g, 3, none⟩ = some (.int .i64 de1) := HB5.out.cell 3
        have j5 : w5.cell? ⟨g, 5, none⟩ = some (.int .i64 st1) := HB5.out.cell 5
        have j6 : w5.cell? ⟨g, 6, none⟩ = some (.int .i64 st1) := HB5.out.cell 6
        have j7 : w5.cell? ⟨g, 7, none⟩ = some (.int .i64 si1) := HB5.out.cell 7
        have r6 : w5.frozen? ⟨g, 6, none⟩ = false := HB5.out.fr 6
        have r7 : w5.frozen? ⟨g, 7, none⟩ = false := HB5.out.fr 7
        clear hd
        have HX : Aside0 (Bk ((w5.setCell ⟨g, 6, none⟩ (.int .i64 st1)).setCell ⟨g, 7, none⟩ (.int .i64 t)) g s3) := ⟨by rw [HNX.out]; exact blk_put (blk_put HB5.out 6 _ rfl) 7 _ rfl⟩
        have HGX : Aside0 (w.grownBy ((w5.setCell ⟨g, 6, none⟩ (.int .i64 st1)).setCell ⟨g, 7, none⟩ (.int .i64 t)) (some g)) := ⟨gb_set (gb_set HG5.out (.inl rfl) 6 _) (.inl rfl) 7 _⟩
        have HRX : Aside0 (Kd.R k72 72 ((w5.setCell ⟨g, 6, none⟩ (.int .i64 st1)).setCell ⟨g, 7, none⟩ (.int .i64 t)) w1.heap.size (fun _ => True) (.slice A1 L1.length c1) L1) := ⟨R_aside (R_aside HR5.out (H.out.drawn HD1.out).lt 6 _) (H.out.drawn HD1.out).lt 7 _⟩
        go_wp2
        go_ret2
        exact ⟨_, rfl, Kd.R_lower HRX.out (HD1.out.below).size, HX.out, HGX.out⟩
      · rw [if_neg (fun h => h.elim (fun h => h hp0) hp)] at hnx
        rw [if_neg hz]
        have hz1 : (s1.de == 0) = false := by rw [hde]; exact beq_eq_false_iff_ne.2 hz
        subst hp0
        have d4 : (s1.as_ == s1.st) = false := beq_eq_false_iff_ne.2 hp
        have HNX := Aside0.mk hnx
        clear hnx hde hz hp
        go_enter Try.func42, Try.ntmps42
        go_wp2_with (first
          | (go_at_call 80; refine (none_made g s _ H.out).mono ?_; rintro e w1 ⟨rfl, hd⟩; have HD1 := Aside0.mk hd; have h8 : w1.cell? ⟨g, 8, none⟩ = some (.int .i64 s.no) := (H.out.drawn hd).cell 8; clear hd)
          | (go_at_call 81; refine (HDUE.out _ (H.out.drawn HD1.out)).mono ?_; rintro e w2 ⟨v1, rfl, hr, hb, hg⟩; have HR := Aside0.mk hr; have HG2 := Aside0.mk (gb_trans (gb_drawn (g := g) HD1.out) hg (fun q hq => Or.inl (Option.some.inj hq).symm)); have HB2 := Aside0.mk hb; have k8 : w2.cell? ⟨g, 8, none⟩ = some (.int .i64 s1.no) := hb.cell 8; have r8 : w2.frozen? ⟨g, 8, none⟩ = false := hb.fr 8; have hb3 : Bk (w2.setCell ⟨g, 8, none⟩ (.int .i64 t)) g { s1 with no := t } := blk_put hb 8 _ rfl; have HB3 := Aside0.mk hb3; have k5 : (w2.setCell ⟨g, 8, none⟩ (.int .i64 t)).cell? ⟨g, 5, none⟩ = some (.int .i64 s1.st) := hb3.cell 5; obtain ⟨A1, c1, rfl⟩ := Kd.R_slice hr; clear hr hb hg hb3 h8)
          | (go_at_call 82; refine (asks_calls _ _).mono ?_; rintro e w4 ⟨rfl, hd⟩; have HB4 := Aside0.mk (HB3.out.drawn hd); have HD4 := Aside0.mk hd; clear hd k8 r8 k5))
        rw [ask_enters, Oper.upon_enter]
        refine (HASK.out w4 HB4.out).mono ?_
        rintro e w5 ⟨rfl, hd⟩
        have HB5 := Aside0.mk (HB4.out.drawn hd)
        have HG5 := Aside0.mk (gb_trans (gb_trans (gb_set HG2.out (.inl rfl) 8 (.int .i64 t)) (gb_drawn (g := g) HD4.out) (fun q hq => Or.inl (Option.some.inj hq).symm)) (gb_drawn (g := g) hd) (fun q hq => Or.inl (Option.some.inj hq).symm))
        have HR5 := Aside0.mk (Kd.R_below (Kd.R_below (R_aside HR.out (H.out.drawn HD1.out).lt 8 (.int .i64 t)) HD4.out.below) hd.below)
        have j3 : w5.cell? ⟨g, 3, none⟩ = some (.int .i64 s1.de) := HB5.out.cell 3
        have j5 : w5.cell? ⟨g, 5, none⟩ = some (.int .i64 s1.st) := HB5.out.cell 5
        have j6 : w5.cell? ⟨g, 6, none⟩ = some (.int .i64 s1.as_) := HB5.out.cell 6
        have j7 : w5.cell? ⟨g, 7, none⟩ = some (.int .i64 s1.si) := HB5.out.cell 7
        have r6 : w5.frozen? ⟨g, 6, none⟩ = false := HB5.out.fr 6
        have r7 : w5.frozen? ⟨g, 7, none⟩ = false := HB5.out.fr 7
        clear hd
        have HX : Aside0 (Bk w5 g s3) := ⟨by rw [HNX.out]; exact HB5.out⟩
        have HGX := HG5
        have HRX := HR5
        go_wp2
        go_ret2
        exact ⟨_, rfl, Kd.R_lower HRX.out (HD1.out.below).size, HX.out, HGX.out⟩

end Go.Proofs.Ytbghnfhjaolhaaa.PAlarmHolds

-- Written by a program of this session, in the form of the kit's print, some functions by hand (N.B. not a file of print.sh's).
import Derived.Test.YtballgciakljnaaPCharsFramesx0
import Derived.Test.YtballgciakljnaaPCharsFramesx1
import Derived.Test.YtballgciakljnaaPCharsFramesx2
import Derived.Test.YtballgciakljnaaPCharsFramesx3
import Derived.Test.YtballgciakljnaaPCharsFramesx4
namespace Go.Proofs.Ytballgciakljnaa.PCharsFrames
open Go.RowKit Go.Proofs.YtballgciakljnaaW.PrintWords Go.Proofs.YtballgciakljnaaW.PrintLast Go.Proofs.YtballgciakljnaaW.PrintMore Go.Proofs.YtballgciakljnaaM
attribute [local go_sem] max2_int min2_int max_two min_two max_three min_three max_four min_four   -- for this text's walks alone
set_option linter.unusedVariables false
set_option linter.unusedSimpArgs false

/-! ### chars_Taker_Sign: function 18 (by hand) -/
def Tk.Ok (s : Tk) : Prop := (1 ≤ s.q ∧ s.q ≤ 16777216) ∧ (0 ≤ s.no ∧ s.no ≤ 1099511627776) ∧ (0 ≤ s.lost ∧ s.lost < 1000000) ∧ s.hl.length ≤ 600
def lateF (s : Tk) (t : Int) : Tk := if t - s.no > s.q then offF s else s
def midF (s : Tk) (t b : Int) : Tk := doF { lateF s t with no := t } b
def signF (s : Tk) (t b : Int) : Tk × List Int × Bool :=
  if overF (midF s t b) = true then ({ midF s t b with hl := [] }, (midF s t b).hl, true) else if 513 ≤ (midF s t b).hl.length then (offF (midF s t b), [], false) else (midF s t b, [], false)
set_option maxRecDepth 100000 in
theorem sign_err0 (t b : Int) (w : World) : Calls Try.prog 18 #[.pointer none, .int .i64 t, .int .u8 b] w fun e w' => e = .returned (.tuple #[.string ⟨#[]⟩, .bool false, .int .i64 11]) ∧ Drawn0 w w' := by
  go_enter Try.func18, Try.ntmps18
  go_wp2_with fail
  refine (tk_none_nil _).mono ?_
  rintro e w1 ⟨rfl, hd⟩
  have HD := Aside0.mk hd
  clear hd
  go_wp2
  go_ret3
  exact ⟨rfl, HD.out⟩
set_option maxRecDepth 100000 in
theorem sign_err (B g : Nat) (v : Value) (s : Tk) (t b : Int) (w : World) (h : Ct w B g v s) (hok : s.Ok) (ht : t < s.no ∨ 1099511627776 < t) : Calls Try.prog 18 #[.pointer (some ⟨g, 0, none⟩), .int .i64 t, .int .u8 b] w fun e w' => e = .returned (.tuple #[.string ⟨#[]⟩, .bool false, .int .i64 11]) ∧ Drawn0 w w' := by
  have H := Aside0.mk h
  have HQ := Aside0.mk hok.1.1
  clear h hok
  by_cases h1 : t < s.no
  · have d1 : decide (t < s.no) = true := decide_eq_true h1
    clear h1 ht
    go_enter Try.func18, Try.ntmps18
    go_wp2_with fail
    refine (tk_none_made B g v s _ H.out HQ.out).mono ?_
    rintro e w1 ⟨rfl, hd⟩
    have HD := Aside0.mk hd
    have k1 : w1.cell? ⟨g, 1, none⟩ = some (.int .i64 s.no) := (H.out.drawn hd).cell 1
    clear hd
    go_wp2
    go_ret3
    exact ⟨rfl, HD.out⟩
  · have d1 : decide (t < s.no) = false := decide_eq_false h1
    have d2 : decide (1099511627776 < t) = true := decide_eq_true (by omega)
    clear h1 ht
    go_enter Try.func18, Try.ntmps18
    go_wp2_with fail
    refine (tk_none_made B g v s _ H.out HQ.out).mono ?_
    rintro e w1 ⟨rfl, hd⟩
    have HD := Aside0.mk hd
    have k1 : w1.cell? ⟨g, 1, none⟩ = some (.int .i64 s.no) := (H.out.drawn hd).cell 1
    clear hd
    go_wp2
    go_ret3
    exact ⟨rfl, HD.out⟩
theorem off_ok (s : Tk) (h : 0 ≤ s.lost ∧ s.lost < 1000000) (hl : s.hl.length ≤ 600) : (0 ≤ (offF s).lost ∧ (offF s).lost ≤ 1000000) ∧ (offF s).hl.length ≤ 600 ∧ (offF s).no = s.no ∧ (offF s).q = s.q ∧ (offF s).d = s.d := by
  unfold offF
  split
  · exact ⟨⟨h.1, by omega⟩, hl, rfl, rfl, rfl⟩
  · exact ⟨⟨by show 0 ≤ s.lost + 1; omega, by show s.lost + 1 ≤ 1000000; omega⟩, by simp, rfl, rfl, rfl⟩
theorem off_lost (s : Tk) : s.lost ≤ (offF s).lost ∧ (offF s).lost ≤ s.lost + 1 := by
  unfold offF
  split
  · omega
  · show s.lost ≤ s.lost + 1 ∧ s.lost + 1 ≤ s.lost + 1; omega
theorem off_len (s : Tk) : (offF s).hl.length ≤ s.hl.length := by
  unfold offF
  split
  · exact Nat.le_refl _
  · exact Nat.zero_le _
theorem do_bd (s : Tk) (b : Int) : s.lost ≤ (doF s b).lost ∧ (doF s b).lost ≤ s.lost + 1 ∧ (doF s b).hl.length ≤ s.hl.length + 1 := by
  have h := off_lost s
  unfold doF
  split
  · exact ⟨h.1, h.2, by simp⟩
  · split
    · exact ⟨Int.le_refl _, by omega, by omega⟩
    · exact ⟨Int.le_refl _, by show s.lost ≤ s.lost + 1; omega, by simp⟩
set_option maxHeartbeats 4000000 in
set_option maxRecDepth 100000 in
theorem sign_ok (w0 w : World) (g : Nat) (v : Value) (s : Tk) (t b : Int) (h : Ct w w0.heap.size g v s) (hB : Below w0.heap.size w0 w) (hok : s.Ok) (ht : s.no ≤ t ∧ t ≤ 1099511627776) :
    Calls Try.prog 18 #[.pointer (some ⟨g, 0, none⟩), .int .i64 t, .int .u8 b] w fun e w' => e = .returned (.tuple #[.string (if (signF s t b).2.2 = true then strOfNums (signF s t b).2.1 else ⟨#[]⟩), .bool (signF s t b).2.2, .int .i64 0]) ∧ ∃ v', Tp w0 w w' g v v' (signF s t b).1 := by
  obtain ⟨⟨q1, q2⟩, ⟨n1, n2⟩, ⟨l1, l2⟩, hlen⟩ := hok
  have H := Aside0.mk h
  have T00 := Aside0.mk (Tp.refl h hB)
  have HQ := Aside0.mk q1
  have d1 : decide (t < s.no) = false := decide_eq_false (by omega)
  have d2 : decide (1099511627776 < t) = false := decide_eq_false (by omega)
  have hw : IntKind.i64.wrap (t - s.no) = t - s.no := by rw [i64_w]; unfold wrap64; omega
  have ho := off_lost s
  have hol := off_len s
  have hlt1 : (lateF s t).hl.length ≤ 600 ∧ 0 ≤ (lateF s t).lost ∧ (lateF s t).lost ≤ s.lost + 1 := by
    unfold lateF; split
    · exact ⟨by omega, by omega, by omega⟩
    · exact ⟨hlen, l1, by omega⟩
  have hmid : (lateF s t).lost ≤ (midF s t b).lost ∧ (midF s t b).lost ≤ (lateF s t).lost + 1 ∧ (midF s t b).hl.length ≤ (lateF s t).hl.length + 1 := do_bd { lateF s t with no := t } b
  have hmid1 : (midF s t b).hl.length ≤ 601 ∧ 0 ≤ (midF s t b).lost ∧ (midF s t b).lost ≤ s.lost + 2 := ⟨by omega, by omega, by omega⟩
  have LATE : Aside0 (∀ (W : World) (v1 : Value), Tp w0 w W g v v1 (lateF s t) → Tp w0 w (W.setCell ⟨g, 1, none⟩ (.int .i64 t)) g v v1 { lateF s t with no := t }) := ⟨fun W v1 h1 => h1.set 1 _ (h1.ct.put_no t) h1.fresh⟩
  have DOC : Aside0 (∀ (W : World) (v1 : Value), Tp w0 w W g v v1 { lateF s t with no := t } → Calls Try.prog (doN { lateF s t with no := t } b) #[.pointer (some ⟨g, 0, none⟩), .int .u8 b] W fun e w' => e = .returned (.tuple #[]) ∧ ∃ v', Tp w0 w w' g v v' (midF s t b)) := ⟨fun W v1 h1 => (do_calls w0 W g v1 _ b h1.ct h1.below ⟨hlt1.2.1, by show (lateF s t).lost < 1099511627776; omega⟩ (by show (lateF s t).hl.length < 1000000; omega)).mono (by rintro e w' ⟨rfl, v', h2⟩; exact ⟨rfl, v', h1.trans h2⟩)⟩
  have OVR : Aside0 (∀ (W : World) (v1 : Value), Tp w0 w W g v v1 (midF s t b) → Calls Try.prog 85 #[.pointer (some ⟨g, 0, none⟩)] W fun e w' => e = .returned (.bool (overF (midF s t b))) ∧ Drawn0 W w') := ⟨fun W v1 h1 => over_calls w0.heap.size g v1 _ W h1.ct (by omega)⟩
  have OFF : Aside0 (∀ (W : World) (v1 : Value), Tp w0 w W g v v1 (midF s t b) → Calls Try.prog 83 #[.pointer (some ⟨g, 0, none⟩)] W fun e w' => e = .returned (.tuple #[]) ∧ ∃ v', Tp w0 w w' g v v' (offF (midF s t b))) := ⟨fun W v1 h1 => (off_calls w0 W g v1 _ h1.ct h1.below ⟨hmid1.2.1, by omega⟩).mono (by rintro e w' ⟨rfl, v', h2⟩; exact ⟨rfl, v', h1.trans h2⟩)⟩
  have OFFS : Aside0 (∀ (W : World) (v1 : Value), Tp w0 w W g v v1 s → Calls Try.prog 83 #[.pointer (some ⟨g, 0, none⟩)] W fun e w' => e = .returned (.tuple #[]) ∧ ∃ v', Tp w0 w w' g v v' (offF s)) := ⟨fun W v1 h1 => (off_calls w0 W g v1 _ h1.ct h1.below ⟨l1, by omega⟩).mono (by rintro e w' ⟨rfl, v', h2⟩; exact ⟨rfl, v', h1.trans h2⟩)⟩
  have HML := Aside0.mk hmid1.1
  unfold signF
  clear h hB ho hol hlt1 hmid hmid1 n1 n2 l1 l2 hlen ht
  clear q1 q2
  by_cases hov : overF (midF s t b) = true
  · rw [if_pos hov]
    obtain ⟨ST, hST⟩ : ∃ ST, ST = strOfNums (midF s t b).hl := ⟨_, rfl⟩
    simp only [if_true]
    rw [← hST]
    have HST := Aside0.mk hST
    rw [hov] at OVR
    clear hov hST
    by_cases hlate : t - s.no > s.q
    · skip
      have el : lateF s t = offF s := if_pos hlate
      have d3 : decide (s.q < t - s.no) = true := decide_eq_true hlate
      clear hlate
      go_enter Try.func18, Try.ntmps18
      go_wp2_with fail
      refine (tk_none_made w0.heap.size g v s _ H.out HQ.out).mono ?_
      rintro e w1 ⟨rfl, hd⟩
      have hc1 := H.out.drawn hd
      have k0 : w1.cell? ⟨g, 0, none⟩ = some (.int .i64 s.q) := hc1.cell 0
      have k1 : w1.cell? ⟨g, 1, none⟩ = some (.int .i64 s.no) := hc1.cell 1
      have T1w := Aside0.mk (T00.out.drawn hd)
      clear hd hc1
      go_wp2
      go_quiet (fail)
      have T1 := Aside0.mk (T1w.out.drawn (⟨⟨nq, rfl⟩⟩ : Drawn0 w1 (w1.drewN nq)))
      clear k0 k1 T1w
      go_wp2_with fail
      refine (OFFS.out _ _ T1.out).mono ?_
      rintro e w2 ⟨rfl, v2, h2⟩
      rw [← el] at h2
      have T2 := Aside0.mk h2
      clear h2
      have j1 : w2.cell? ⟨g, 1, none⟩ = some (.int .i64 (lateF s t).no) := T2.out.ct.cell 1
      have jf1 := T2.out.ct.fr 1
      have T3 := Aside0.mk (LATE.out _ _ T2.out)
      clear el d1 d2 d3 hw
      go_wp2_with fail
      refine (does_calls w0.heap.size g v2 { lateF s t with no := t } b _ T3.out.ct).mono ?_
      rintro e w4 ⟨rfl, hd⟩
      have T4 := Aside0.mk (T3.out.drawn hd)
      clear hd j1 jf1
      go_wp2_with fail
      rw [do_enters, Oper.upon_enter]
      refine (DOC.out _ _ T4.out).mono ?_
      rintro e w5 ⟨rfl, v5, h5⟩
      have T5 := Aside0.mk h5
      clear h5
      go_wp2_with fail
      refine (OVR.out _ _ T5.out).mono ?_
      rintro e w6 ⟨rfl, hd⟩
      have T6 := Aside0.mk (T5.out.drawn hd)
      clear hd
      obtain ⟨A5, c5, rfl⟩ := Kd.R_slice T6.out.ct.2.1
      have i3 : w6.cell? ⟨g, 3, none⟩ = some (.slice A5 (midF s t b).hl.length c5) := T6.out.ct.cell 3
      have if3 := T6.out.ct.fr 3
      have hle := (Kd.R_reads' T6.out.ct.2.1).2.1
      have HML2 := HML.out
      have T7 : Aside0 (Tp w0 w (w6.setCell ⟨g, 3, none⟩ (.slice none 0 0)) g v (.slice none 0 0) { midF s t b with hl := [] }) := ⟨T6.out.set 3 _ (T6.out.ct.put_hl (Kd.R_nil _ _ _ _ _)) (fun k hk => by cases hk)⟩
      have hcv : (convert 23 9 (.slice A5 (midF s t b).hl.length (midF s t b).hl.length)).run Try.prog (w6.setCell ⟨g, 3, none⟩ (.slice none 0 0)) = .ok (.string ST) (w6.setCell ⟨g, 3, none⟩ (.slice none 0 0)) := by
        rw [HST.out]
        exact Kd.C_string Try.underlying23 Try.underlying5 Try.underlying9 (Kd.R_reads' (Kd.R_set T6.out.ct.2.1 T6.out.ct.1 (by intro q hq; simp [Kd.int, Kd.scalar] at hq; omega) 3 (.slice none 0 0))).2.2
      generalize (midF s t b).hl.length = n at i3 hle HML2 hcv ⊢
      go_wp2
      go_ret3
      exact ⟨rfl, _, T7.out⟩
    · skip
      have el : lateF s t = s := if_neg hlate
      have d3 : decide (s.q < t - s.no) = false := decide_eq_false hlate
      clear hlate
      go_enter Try.func18, Try.ntmps18
      go_wp2_with fail
      refine (tk_none_made w0.heap.size g v s _ H.out HQ.out).mono ?_
      rintro e w1 ⟨rfl, hd⟩
      have hc1 := H.out.drawn hd
      have k0 : w1.cell? ⟨g, 0, none⟩ = some (.int .i64 s.q) := hc1.cell 0
      have k1 : w1.cell? ⟨g, 1, none⟩ = some (.int .i64 s.no) := hc1.cell 1
      have T1w := Aside0.mk (T00.out.drawn hd)
      clear hd hc1
      go_wp2
      go_quiet (fail)
      have T1 := Aside0.mk (T1w.out.drawn (⟨⟨nq, rfl⟩⟩ : Drawn0 w1 (w1.drewN nq)))
      clear k0 k1 T1w
      have T2 : Aside0 (Tp w0 w (w1.drewN nq) g v v (lateF s t)) := ⟨by rw [el]; exact T1.out⟩
      generalize w1.drewN nq = w2 at T2 ⊢
      obtain ⟨v2, hv2⟩ : ∃ v2, v2 = v := ⟨_, rfl⟩
      have T2' : Aside0 (Tp w0 w w2 g v v2 (lateF s t)) := ⟨by rw [hv2]; exact T2.out⟩
      clear T2 hv2
      have T2 := T2'
      clear T2' T1
      have j1 : w2.cell? ⟨g, 1, none⟩ = some (.int .i64 (lateF s t).no) := T2.out.ct.cell 1
      have jf1 := T2.out.ct.fr 1
      have T3 := Aside0.mk (LATE.out _ _ T2.out)
      clear el d1 d2 d3 hw
      go_wp2_with fail
      refine (does_calls w0.heap.size g v2 { lateF s t with no := t } b _ T3.out.ct).mono ?_
      rintro e w4 ⟨rfl, hd⟩
      have T4 := Aside0.mk (T3.out.drawn hd)
      clear hd j1 jf1
      go_wp2_with fail
      rw [do_enters, Oper.upon_enter]
      refine (DOC.out _ _ T4.out).mono ?_
      rintro e w5 ⟨rfl, v5, h5⟩
      have T5 := Aside0.mk h5
      clear h5
      go_wp2_with fail
      refine (OVR.out _ _ T5.out).mono ?_
      rintro e w6 ⟨rfl, hd⟩
      have T6 := Aside0.mk (T5.out.drawn hd)
      clear hd
      obtain ⟨A5, c5, rfl⟩ := Kd.R_slice T6.out.ct.2.1
      have i3 : w6.cell? ⟨g, 3, none⟩ = some (.slice A5 (midF s t b).hl.length c5) := T6.out.ct.cell 3
      have if3 := T6.out.ct.fr 3
      have hle := (Kd.R_reads' T6.out.ct.2.1).2.1
      have HML2 := HML.out
      have T7 : Aside0 (Tp w0 w (w6.setCell ⟨g, 3, none⟩ (.slice none 0 0)) g v (.slice none 0 0) { midF s t b with hl := [] }) := ⟨T6.out.set 3 _ (T6.out.ct.put_hl (Kd.R_nil _ _ _ _ _)) (fun k hk => by cases hk)⟩
      have hcv : (convert 23 9 (.slice A5 (midF s t b).hl.length (midF s t b).hl.length)).run Try.prog (w6.setCell ⟨g, 3, none⟩ (.slice none 0 0)) = .ok (.string ST) (w6.setCell ⟨g, 3, none⟩ (.slice none 0 0)) := by
        rw [HST.out]
        exact Kd.C_string Try.underlying23 Try.underlying5 Try.underlying9 (Kd.R_reads' (Kd.R_set T6.out.ct.2.1 T6.out.ct.1 (by intro q hq; simp [Kd.int, Kd.scalar] at hq; omega) 3 (.slice none 0 0))).2.2
      generalize (midF s t b).hl.length = n at i3 hle HML2 hcv ⊢
      go_wp2
      go_ret3
      exact ⟨rfl, _, T7.out⟩
  · have hov2 : overF (midF s t b) = false := by cases h : overF (midF s t b) with | false => rfl | true => exact absurd h hov
    rw [if_neg hov]
    rw [hov2] at OVR
    clear hov hov2
    by_cases h513 : 513 ≤ (midF s t b).hl.length
    · rw [if_pos h513]
      simp only [Bool.false_eq_true, if_false]
      have e513 : (513 : Int) ≤ ((midF s t b).hl.length : Int) := by omega
      have e513n : decide (513 ≤ (midF s t b).hl.length) = true := decide_eq_true h513
      by_cases hlate : t - s.no > s.q
      · skip
        have el : lateF s t = offF s := if_pos hlate
        have d3 : decide (s.q < t - s.no) = true := decide_eq_true hlate
        clear hlate
        go_enter Try.func18, Try.ntmps18
        go_wp2_with fail
        refine (tk_none_made w0.heap.size g v s _ H.out HQ.out).mono ?_
        rintro e w1 ⟨rfl, hd⟩
        have hc1 := H.out.drawn hd
        have k0 : w1.cell? ⟨g, 0, none⟩ = some (.int .i64 s.q) := hc1.cell 0
        have k1 : w1.cell? ⟨g, 1, none⟩ = some (.int .i64 s.no) := hc1.cell 1
        have T1w := Aside0.mk (T00.out.drawn hd)
        clear hd hc1
        go_wp2
        go_quiet (fail)
        have T1 := Aside0.mk (T1w.out.drawn (⟨⟨nq, rfl⟩⟩ : Drawn0 w1 (w1.drewN nq)))
        clear k0 k1 T1w
        go_wp2_with fail
        refine (OFFS.out _ _ T1.out).mono ?_
        rintro e w2 ⟨rfl, v2, h2⟩
        rw [← el] at h2
        have T2 := Aside0.mk h2
        clear h2
        have j1 : w2.cell? ⟨g, 1, none⟩ = some (.int .i64 (lateF s t).no) := T2.out.ct.cell 1
        have jf1 := T2.out.ct.fr 1
        have T3 := Aside0.mk (LATE.out _ _ T2.out)
        clear el d1 d2 d3 hw
        go_wp2_with fail
        refine (does_calls w0.heap.size g v2 { lateF s t with no := t } b _ T3.out.ct).mono ?_
        rintro e w4 ⟨rfl, hd⟩
        have T4 := Aside0.mk (T3.out.drawn hd)
        clear hd j1 jf1
        go_wp2_with fail
        rw [do_enters, Oper.upon_enter]
        refine (DOC.out _ _ T4.out).mono ?_
        rintro e w5 ⟨rfl, v5, h5⟩
        have T5 := Aside0.mk h5
        clear h5
        go_wp2_with fail
        refine (OVR.out _ _ T5.out).mono ?_
        rintro e w6 ⟨rfl, hd⟩
        have T6 := Aside0.mk (T5.out.drawn hd)
        clear hd
        obtain ⟨A5, c5, rfl⟩ := Kd.R_slice T6.out.ct.2.1
        have i3 : w6.cell? ⟨g, 3, none⟩ = some (.slice A5 (midF s t b).hl.length c5) := T6.out.ct.cell 3
        have if3 := T6.out.ct.fr 3
        go_wp2_with fail
        refine (OFF.out _ _ T6.out).mono ?_
        rintro e w7 ⟨rfl, v7, h7⟩
        have T7 := Aside0.mk h7
        clear h7
        go_wp2
        go_ret3
        exact ⟨rfl, _, T7.out⟩
      · skip
        have el : lateF s t = s := if_neg hlate
        have d3 : decide (s.q < t - s.no) = false := decide_eq_false hlate
        clear hlate
        go_enter Try.func18, Try.ntmps18
        go_wp2_with fail
        refine (tk_none_made w0.heap.size g v s _ H.out HQ.out).mono ?_
        rintro e w1 ⟨rfl, hd⟩
        have hc1 := H.out.drawn hd
        have k0 : w1.cell? ⟨g, 0, none⟩ = some (.int .i64 s.q) := hc1.cell 0
        have k1 : w1.cell? ⟨g, 1, none⟩ = some (.int .i64 s.no) := hc1.cell 1
        have T1w := Aside0.mk (T00.out.drawn hd)
        clear hd hc1
        go_wp2
        go_quiet (fail)
        have T1 := Aside0.mk (T1w.out.drawn (⟨⟨nq, rfl⟩⟩ : Drawn0 w1 (w1.drewN nq)))
        clear k0 k1 T1w
        have T2 : Aside0 (Tp w0 w (w1.drewN nq) g v v (lateF s t)) := ⟨by rw [el]; exact T1.out⟩
        generalize w1.drewN nq = w2 at T2 ⊢
        obtain ⟨v2, hv2⟩ : ∃ v2, v2 = v := ⟨_, rfl⟩
        have T2' : Aside0 (Tp w0 w w2 g v v2 (lateF s t)) := ⟨by rw [hv2]; exact T2.out⟩
        clear T2 hv2
        have T2 := T2'
        clear T2' T1
        have j1 : w2.cell? ⟨g, 1, none⟩ = some (.int .i64 (lateF s t).no) := T2.out.ct.cell 1
        have jf1 := T2.out.ct.fr 1
        have T3 := Aside0.mk (LATE.out _ _ T2.out)
        clear el d1 d2 d3 hw
        go_wp2_with fail
        refine (does_calls w0.heap.size g v2 { lateF s t with no := t } b _ T3.out.ct).mono ?_
        rintro e w4 ⟨rfl, hd⟩
        have T4 := Aside0.mk (T3.out.drawn hd)
        clear hd j1 jf1
        go_wp2_with fail
        rw [do_enters, Oper.upon_enter]
        refine (DOC.out _ _ T4.out).mono ?_
        rintro e w5 ⟨rfl, v5, h5⟩
        have T5 := Aside0.mk h5
        clear h5
        go_wp2_with fail
        refine (OVR.out _ _ T5.out).mono ?_
        rintro e w6 ⟨rfl, hd⟩
        have T6 := Aside0.mk (T5.out.drawn hd)
        clear hd
        obtain ⟨A5, c5, rfl⟩ := Kd.R_slice T6.out.ct.2.1
        have i3 : w6.cell? ⟨g, 3, none⟩ = some (.slice A5 (midF s t b).hl.length c5) := T6.out.ct.cell 3
        have if3 := T6.out.ct.fr 3
        go_wp2_with fail
        refine (OFF.out _ _ T6.out).mono ?_
        rintro e w7 ⟨rfl, v7, h7⟩
        have T7 := Aside0.mk h7
        clear h7
        go_wp2
        go_ret3
        exact ⟨rfl, _, T7.out⟩
    · rw [if_neg h513]
      simp only [Bool.false_eq_true, if_false]
      have e513 : ¬ (513 : Int) ≤ ((midF s t b).hl.length : Int) := by omega
      have e513n : decide (513 ≤ (midF s t b).hl.length) = false := decide_eq_false h513
      by_cases hlate : t - s.no > s.q
      · skip
        have el : lateF s t = offF s := if_pos hlate
        have d3 : decide (s.q < t - s.no) = true := decide_eq_true hlate
        clear hlate
        go_enter Try.func18, Try.ntmps18
        go_wp2_with fail
        refine (tk_none_made w0.heap.size g v s _ H.out HQ.out).mono ?_
        rintro e w1 ⟨rfl, hd⟩
        have hc1 := H.out.drawn hd
        have k0 : w1.cell? ⟨g, 0, none⟩ = some (.int .i64 s.q) := hc1.cell 0
        have k1 : w1.cell? ⟨g, 1, none⟩ = some (.int .i64 s.no) := hc1.cell 1
        have T1w := Aside0.mk (T00.out.drawn hd)
        clear hd hc1
        go_wp2
        go_quiet (fail)
        have T1 := Aside0.mk (T1w.out.drawn (⟨⟨nq, rfl⟩⟩ : Drawn0 w1 (w1.drewN nq)))
        clear k0 k1 T1w
        go_wp2_with fail
        refine (OFFS.out _ _ T1.out).mono ?_
        rintro e w2 ⟨rfl, v2, h2⟩
        rw [← el] at h2
        have T2 := Aside0.mk h2
        clear h2
        have j1 : w2.cell? ⟨g, 1, none⟩ = some (.int .i64 (lateF s t).no) := T2.out.ct.cell 1
        have jf1 := T2.out.ct.fr 1
        have T3 := Aside0.mk (LATE.out _ _ T2.out)
        clear el d1 d2 d3 hw
        go_wp2_with fail
        refine (does_calls w0.heap.size g v2 { lateF s t with no := t } b _ T3.out.ct).mono ?_
        rintro e w4 ⟨rfl, hd⟩
        have T4 := Aside0.mk (T3.out.drawn hd)
        clear hd j1 jf1
        go_wp2_with fail
        rw [do_enters, Oper.upon_enter]
        refine (DOC.out _ _ T4.out).mono ?_
        rintro e w5 ⟨rfl, v5, h5⟩
        have T5 := Aside0.mk h5
        clear h5
        go_wp2_with fail
        refine (OVR.out _ _ T5.out).mono ?_
        rintro e w6 ⟨rfl, hd⟩
        have T6 := Aside0.mk (T5.out.drawn hd)
        clear hd
        obtain ⟨A5, c5, rfl⟩ := Kd.R_slice T6.out.ct.2.1
        have i3 : w6.cell? ⟨g, 3, none⟩ = some (.slice A5 (midF s t b).hl.length c5) := T6.out.ct.cell 3
        have if3 := T6.out.ct.fr 3
        go_wp2
        go_ret3
        exact ⟨rfl, _, T6.out⟩
      · skip
        have el : lateF s t = s := if_neg hlate
        have d3 : decide (s.q < t - s.no) = false := decide_eq_false hlate
        clear hlate
        go_enter Try.func18, Try.ntmps18
        go_wp2_with fail
        refine (tk_none_made w0.heap.size g v s _ H.out HQ.out).mono ?_
        rintro e w1 ⟨rfl, hd⟩
        have hc1 := H.out.drawn hd
        have k0 : w1.cell? ⟨g, 0, none⟩ = some (.int .i64 s.q) := hc1.cell 0
        have k1 : w1.cell? ⟨g, 1, none⟩ = some (.int .i64 s.no) := hc1.cell 1
        have T1w := Aside0.mk (T00.out.drawn hd)
        clear hd hc1
        go_wp2
        go_quiet (fail)
        have T1 := Aside0.mk (T1w.out.drawn (⟨⟨nq, rfl⟩⟩ : Drawn0 w1 (w1.drewN nq)))
        clear k0 k1 T1w
        have T2 : Aside0 (Tp w0 w (w1.drewN nq) g v v (lateF s t)) := ⟨by rw [el]; exact T1.out⟩
        generalize w1.drewN nq = w2 at T2 ⊢
        obtain ⟨v2, hv2⟩ : ∃ v2, v2 = v := ⟨_, rfl⟩
        have T2' : Aside0 (Tp w0 w w2 g v v2 (lateF s t)) := ⟨by rw [hv2]; exact T2.out⟩
        clear T2 hv2
        have T2 := T2'
        clear T2' T1
        have j1 : w2.cell? ⟨g, 1, none⟩ = some (.int .i64 (lateF s t).no) := T2.out.ct.cell 1
        have jf1 := T2.out.ct.fr 1
        have T3 := Aside0.mk (LATE.out _ _ T2.out)
        clear el d1 d2 d3 hw
        go_wp2_with fail
        refine (does_calls w0.heap.size g v2 { lateF s t with no := t } b _ T3.out.ct).mono ?_
        rintro e w4 ⟨rfl, hd⟩
        have T4 := Aside0.mk (T3.out.drawn hd)
        clear hd j1 jf1
        go_wp2_with fail
        rw [do_enters, Oper.upon_enter]
        refine (DOC.out _ _ T4.out).mono ?_
        rintro e w5 ⟨rfl, v5, h5⟩
        have T5 := Aside0.mk h5
        clear h5
        go_wp2_with fail
        refine (OVR.out _ _ T5.out).mono ?_
        rintro e w6 ⟨rfl, hd⟩
        have T6 := Aside0.mk (T5.out.drawn hd)
        clear hd
        obtain ⟨A5, c5, rfl⟩ := Kd.R_slice T6.out.ct.2.1
        have i3 : w6.cell? ⟨g, 3, none⟩ = some (.slice A5 (midF s t b).hl.length c5) := T6.out.ct.cell 3
        have if3 := T6.out.ct.fr 3
        go_wp2
        go_ret3
        exact ⟨rfl, _, T6.out⟩

end Go.Proofs.Ytballgciakljnaa.PCharsFrames

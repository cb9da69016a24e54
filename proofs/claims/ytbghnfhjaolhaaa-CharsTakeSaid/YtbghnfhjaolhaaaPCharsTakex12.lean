-- Written by a program of this session, in the form of the kit's print, some functions by hand (N.B. not a file of print.sh's).
import Derived.Test.YtbghnfhjaolhaaaPCharsTakex0
import Derived.Test.YtbghnfhjaolhaaaPCharsTakex1
import Derived.Test.YtbghnfhjaolhaaaPCharsTakex2
import Derived.Test.YtbghnfhjaolhaaaPCharsTakex4
import Derived.Test.YtbghnfhjaolhaaaPCharsTakex5
import Derived.Test.YtbghnfhjaolhaaaPCharsTakex6
import Derived.Test.YtbghnfhjaolhaaaPCharsTakex7
import Derived.Test.YtbghnfhjaolhaaaPCharsTakex8
import Derived.Test.YtbghnfhjaolhaaaPCharsTakex9
import Derived.Test.YtbghnfhjaolhaaaPCharsTakex10
import Derived.Test.YtbghnfhjaolhaaaPCharsTakex11
namespace Go.Proofs.Ytbghnfhjaolhaaa.PCharsTake
open Go.RowKit Go.Proofs.YtbghnfhjaolhaaaW.PrintWords Go.Proofs.YtbghnfhjaolhaaaW.PrintLast Go.Proofs.YtbghnfhjaolhaaaW.PrintMore Go.Proofs.YtbghnfhjaolhaaaM
attribute [local go_sem] max2_int min2_int max_two min_two max_three min_three max_four min_four   -- for this text's walks alone
set_option linter.unusedVariables false
set_option linter.unusedSimpArgs false

/-! ### bilgelaw37_CharsTake: function 13 (by hand) -/
set_option maxRecDepth 100000 in
theorem tk_clone (w0 w : World) (g : Nat) (v : Value) (s : Tk) (h : Ct w w0.heap.size g v s) (hB : Below w0.heap.size w0 w) (hq : 1 ≤ s.q) (hh : s.hl.length < 1000000) :
    Calls Try.prog 61 #[.pointer (some ⟨g, 0, none⟩)] w fun e w' => ∃ g2 v2, e = .returned (.pointer (some ⟨g2, 0, none⟩)) ∧ Ct w' w0.heap.size g2 v2 s ∧ Below w0.heap.size w0 w' ∧ Below w.heap.size w w' ∧ w.heap.size ≤ g2 ∧ (∀ k, v2.ownBlock = some k → w.heap.size ≤ k) := by
  have H := Aside0.mk h
  have HB := Aside0.mk hB
  have HQ := Aside0.mk hq
  have HH := Aside0.mk hh
  obtain ⟨A, c, rfl⟩ := Kd.R_slice h.2.1
  clear h hq hB hh
  go_enter Try.func61, Try.ntmps61
  go_wp2_with fail
  refine (tk_none_made w0.heap.size g _ s _ H.out HQ.out).mono ?_
  rintro e w1 ⟨rfl, hd⟩
  have hc1 := H.out.drawn hd
  have HC1 := Aside0.mk hc1
  have HD := Aside0.mk hd
  have HB1 := Aside0.mk (HB.out.trans (hd.below.mono HB.out.size))
  have h0 : w1.cell? ⟨g, 0, none⟩ = some (.int .i64 s.q) := hc1.cell 0
  have h1 : w1.cell? ⟨g, 1, none⟩ = some (.int .i64 s.no) := hc1.cell 1
  have h2 : w1.cell? ⟨g, 2, none⟩ = some (.int .u8 s.d) := hc1.cell 2
  have h3 : w1.cell? ⟨g, 3, none⟩ = some (.slice A s.hl.length c) := hc1.cell 3
  have h4 : w1.cell? ⟨g, 4, none⟩ = some (.int .i64 s.lost) := hc1.cell 4
  obtain ⟨W, hW⟩ : ∃ W, W = w1.alloc (.cells #[.int .i64 s.q, .int .i64 s.no, .int .u8 s.d, .slice A s.hl.length c, .int .i64 s.lost] 140) := ⟨_, rfl⟩
  obtain ⟨g2, hg2⟩ : ∃ g2, g2 = w1.heap.size := ⟨_, rfl⟩
  have hcW : Ct W w0.heap.size g (.slice A s.hl.length c) s := by rw [hW]; exact ⟨blk_alloc hc1.1 _, Kd.R_alloc hc1.2.1 _, hc1.2.2⟩
  have k3 : (w1.alloc (.cells #[.int .i64 s.q, .int .i64 s.no, .int .u8 s.d, .slice A s.hl.length c, .int .i64 s.lost] 140)).cell? ⟨g, 3, none⟩ = some (.slice A s.hl.length c) := by rw [← hW]; exact hcW.cell 3
  have hbW : W.heap[g2]? = some (.cells #[.int .i64 s.q, .int .i64 s.no, .int .u8 s.d, .slice A s.hl.length c, .int .i64 s.lost] 140 (0, 0)) := by rw [hW, hg2]; exact blk_new w1 _
  have hb1W : Below w1.heap.size w1 W := by rw [hW]; exact (Below.refl _ _).alloc (Nat.le_refl _) _
  have CL := Aside0.mk (slices_Clone_byte_byte.calls A c s.hl s.hl W (Kd.R_reads' hcW.2.1).2.2 (Kd.R_reads' hcW.2.1).2.1 (by unfold slices_Clone_byte_byte.f; rw [if_pos (by have := HH.out; omega)]))
  have HCW := Aside0.mk hcW
  have HBW := Aside0.mk hbW
  have HB1W := Aside0.mk hb1W
  have HW := Aside0.mk hW
  have HG2 := Aside0.mk hg2
  clear hd hc1 hW hcW hbW hb1W hg2
  go_wp2_with fail
  rw [← HW.out]
  refine CL.out.mono ?_
  rintro e w3 ⟨v3, rfl, hr, hg⟩
  obtain ⟨A3, c3, rfl⟩ := Kd.R_slice hr
  have hb3 := blk_below HBW.out hg
  have HR3 := Aside0.mk hr
  have HB3 := Aside0.mk hb3
  have HG3 := Aside0.mk hg
  rw [← HG2.out]
  have j3 : w3.cell? ⟨g2, 3, none⟩ = some (.slice A s.hl.length c) := (blk_cell hb3 3).trans rfl
  have jf3 : w3.frozen? ⟨g2, 3, none⟩ = false := blk_frozen hb3 3
  clear hr hb3 hg h0 h1 h2 h3 h4 k3
  go_wp2
  go_ret
  have hs1 : w.heap.size ≤ w1.heap.size := HD.out.below.size
  have hsW : w1.heap.size ≤ W.heap.size := HB1W.out.size
  have hbb : Below w1.heap.size w1 w3 := HB1W.out.trans (HG3.out.mono hsW)
  have hg2w : w1.heap.size ≤ g2 := by rw [HG2.out]; exact Nat.le_refl _
  have h0w : w0.heap.size ≤ w1.heap.size := HB1.out.size
  refine ⟨g2, .slice A3 s.hl.length c3, rfl, ⟨blk_put HB3.out 3 _ rfl, Kd.R_set (Kd.R_lower HR3.out (Nat.le_trans h0w hsW)) HB3.out (by intro q hq; simp [Kd.int, Kd.scalar] at hq; omega) 3 _, Nat.le_trans h0w hg2w⟩, ?_, ?_, Nat.le_trans hs1 hg2w, fun k hk => ?_⟩
  · exact (HB1.out.trans (hbb.mono h0w)).setCell (Nat.le_trans h0w hg2w) _
  · exact (HD.out.below.trans (hbb.mono hs1)).setCell (Nat.le_trans hs1 hg2w) _
  · exact Nat.le_trans hs1 (Nat.le_trans hsW (Kd.R_base HR3.out k hk))
theorem ch_w64 {i : Int} (h : -9223372036854775808 ≤ i ∧ i ≤ 9223372036854775807) : wrap64 i = i := by unfold wrap64; omega
def finF (m : Tk) : Tk × List Int × Bool := if overF m = true then ({ m with hl := [] }, m.hl, true) else if 513 ≤ m.hl.length then (offF m, [], false) else (m, [], false)
def out3 (r : Tk × List Int × Bool) : Option (Int × Int × Int × List Int × Int × ByteArray × Bool × Bool) := some (r.1.q, r.1.d, r.1.no, r.1.hl, r.1.lost, (if r.2.2 = true then strOfNums r.2.1 else ⟨#[]⟩), r.2.2, true)
theorem ref_off (s : Tk) (no : Int) (h : 0 ≤ s.lost ∧ s.lost < 1099511627776) : bilgeref37_off.f s.q s.d no s.hl s.lost = some ((offF s).q, (offF s).d, no, (offF s).hl, (offF s).lost) := by
  unfold bilgeref37_off.f offF
  by_cases h0 : s.hl = []
  · rw [if_neg (by rw [h0]; simp), if_pos h0]
  · have := List.length_pos_iff.2 h0
    rw [if_pos (by omega), if_neg h0, ch_w64 (by omega)]
theorem ref_r5 (m : Tk) (no : Int) (k : Nat) (h : 0 ≤ m.lost ∧ m.lost < 1099511627776) : bilgeref37_Sign.j5 (k + 1) m.no (m.hl.length : Int) (overF m) m.q m.d no m.hl m.lost = out3 (finF m) := by
  simp only [bilgeref37_Sign.j5, bilgeref37_later.f, Option.bind_some]
  unfold finF
  by_cases ho : overF m = true
  · rw [if_pos ho, if_pos ho]; rfl
  · rw [if_neg ho, if_neg ho]
    by_cases h5 : 513 ≤ m.hl.length
    · rw [if_pos (by omega), if_pos h5, ref_off m no h, Option.bind_some]
      have : (offF m).no = m.no := by unfold offF; split <;> rfl
      unfold out3
      simp only [this]
      rfl
    · rw [if_neg (by omega), if_neg h5]; rfl
theorem ref_r4 (q d t no lo b : Int) (hl : List Int) (k : Nat) (h : 0 ≤ lo ∧ lo < 1099511627776) (hh : hl.length < 1000000) : bilgeref37_Sign.j4 (k + 2) t b q d no hl lo = out3 (finF ⟨q, t, d, lo, hl ++ [b]⟩) := by
  have hlen : (hl ++ [b]).length = hl.length + 1 := by simp
  have hlast : (hl ++ [b]).getD ((hl ++ [b]).length - 1) 0 = b := by
    rw [hlen]
    simp
  have ho : overF ⟨q, t, d, lo, hl ++ [b]⟩ = (decide (1 < (hl ++ [b]).length) && (b == d) && ((hl ++ [b]).getD ((hl ++ [b]).length - 2) 0 == 13)) := by
    unfold overF
    simp only [hlast]
  have h5 := ref_r5 ⟨q, t, d, lo, hl ++ [b]⟩ no k h
  rw [← h5, ho]
  simp only [bilgeref37_Sign.j4, Option.bind_some, List.nil_append]
  rw [if_pos (by simp; omega), if_pos (by omega)]
  by_cases hd : b = d
  · rw [if_pos hd, hd, beq_self_eq_true, Bool.and_true]
    by_cases h1 : ((hl ++ [d]).length : Int) > 1
    · have hw : wrap64 (((hl ++ [d]).length : Int) - 2) = (((hl ++ [d]).length - 2 : Nat) : Int) := by rw [ch_w64 (by simp; omega)]; omega
      rw [if_pos h1, hw, if_pos (by omega), if_pos (by omega), decide_eq_true (by omega : 1 < (hl ++ [d]).length), Bool.true_and]
      unfold rd
      rw [Int.toNat_natCast]
    · rw [if_neg h1, decide_eq_false (by omega : ¬ 1 < (hl ++ [d]).length), Bool.false_and]
  · rw [if_neg hd, beq_eq_false_iff_ne.2 hd, Bool.and_false, Bool.false_and]
theorem ref_r2 (s : Tk) (t b no : Int) (k : Nat) (h : 0 ≤ s.lost ∧ s.lost < 2000000) (hh : s.hl.length < 1000000) : bilgeref37_Sign.j2 (k + 4) t b s.q s.d no s.hl s.lost = out3 (finF (doF { s with no := t } b)) := by
  simp only [bilgeref37_Sign.j2, bilgeref37_Sign.j3, bilgeref37_later.f, Option.bind_some]
  have ho := off_lost s
  have hol := off_len s
  have hro := ref_off s no ⟨h.1, by omega⟩
  by_cases hb : b = 58
  · have hb2 : (b != 58) = false := by rw [hb]; rfl
    rw [hb2]
    simp only [Bool.false_eq_true, if_false, ite_self]
    rw [if_pos hb, hro, Option.bind_some]
    simp only
    rw [ref_r4 _ _ _ _ _ _ _ _ (by omega) (by omega)]
    unfold doF offF
    rw [if_pos hb]
    by_cases h0 : s.hl = []
    · simp only [h0, if_true, List.nil_append]
    · simp only [h0, if_false, List.nil_append]
  · have hb2 : (b != 58) = true := by rw [bne_iff_ne]; exact hb
    have hdo : doF { s with no := t } b = if s.hl = [] then { s with no := t } else { s with no := t, hl := s.hl ++ [b] } := by unfold doF; rw [if_neg hb]
    rw [hb2, hdo]
    by_cases h0 : s.hl = []
    · rw [if_pos (by rw [h0]; rfl), if_pos rfl, if_pos h0]
      have : overF { s with no := t } = false := by unfold overF; simp [h0]
      unfold finF
      rw [this, if_neg (by simp), if_neg (by simp [h0]), h0]
      rfl
    · have := List.length_pos_iff.2 h0
      rw [if_neg (by omega)]
      simp only [Bool.false_eq_true, if_false]
      rw [if_neg hb, ref_r4 _ _ _ _ _ _ _ _ (by omega) (by omega), if_neg h0]
theorem ref_sign (s : Tk) (t b : Int) (hok : s.Ok) (ht : s.no ≤ t ∧ t ≤ 1099511627776) : bilgeref37_Sign.f 7 s.q s.d s.no s.hl s.lost t b = out3 (signF s t b) := by
  obtain ⟨⟨q1, q2⟩, ⟨n1, n2⟩, ⟨l1, l2⟩, hlen⟩ := hok
  have ho := off_lost s
  have hol := off_len s
  show _ = out3 (finF (midF s t b))
  unfold bilgeref37_Sign.f
  rw [if_neg (by omega), decide_eq_false (by omega : ¬ t > 1099511627776)]
  simp only [bilgeref37_Sign.j0]
  rw [if_neg (by simp), ch_w64 (by omega)]
  unfold midF lateF
  by_cases hq : t - s.no > s.q
  · rw [if_pos hq, if_pos hq]
    by_cases h0 : s.hl = []
    · rw [decide_eq_false (by rw [h0]; simp)]
      simp only [bilgeref37_Sign.j1]
      rw [if_neg (by simp), ref_r2 s t b s.no 1 (by omega) (by omega)]
      unfold offF
      rw [if_pos h0]
    · have := List.length_pos_iff.2 h0
      rw [decide_eq_true (by omega : (s.hl.length : Int) > 0)]
      simp only [bilgeref37_Sign.j1]
      have h2 := ref_r2 (offF s) t b s.no 1 (by omega) (by omega)
      rw [if_pos trivial, ref_off s s.no ⟨l1, by omega⟩, Option.bind_some]
      exact h2
  · rw [if_neg hq, if_neg hq]
    simp only [bilgeref37_Sign.j1]
    rw [if_neg (by simp), ref_r2 s t b s.no 1 (by omega) (by omega)]
theorem ref_serr (s : Tk) (t b : Int) (ht : t < s.no ∨ 1099511627776 < t) : bilgeref37_Sign.f 7 s.q s.d s.no s.hl s.lost t b = some (s.q, s.d, s.no, s.hl, s.lost, (⟨#[]⟩ : ByteArray), false, false) := by
  unfold bilgeref37_Sign.f
  by_cases h : t < s.no
  · rw [if_pos h]; rfl
  · rw [if_neg h, decide_eq_true (by omega : t > 1099511627776)]; rfl
theorem sign_keep (s : Tk) (t b : Int) (hok : s.Ok) : (signF s t b).1.q = s.q ∧ (signF s t b).1.no = t ∧ (s.lost ≤ (signF s t b).1.lost ∧ (signF s t b).1.lost ≤ s.lost + 3) ∧ (signF s t b).1.hl.length ≤ 600 := by
  have ho := off_lost s
  have hol := off_len s
  have hfl : ∀ x : Tk, (offF x).q = x.q ∧ (offF x).no = x.no := by intro x; unfold offF; split <;> exact ⟨rfl, rfl⟩
  have hlt1 : (lateF s t).hl.length ≤ 600 ∧ s.lost ≤ (lateF s t).lost ∧ (lateF s t).lost ≤ s.lost + 1 ∧ (lateF s t).q = s.q := by
    have := hok.2.2.2
    unfold lateF; split
    · exact ⟨by omega, by omega, by omega, (hfl s).1⟩
    · exact ⟨by omega, by omega, by omega, rfl⟩
  have hmid := do_bd { lateF s t with no := t } b
  have hmid2 : (midF s t b).q = s.q ∧ (midF s t b).no = t := by
    have := hlt1.2.2.2
    unfold midF doF
    split
    · exact ⟨((hfl _).1).trans this, (hfl _).2⟩
    · split
      · exact ⟨this, rfl⟩
      · exact ⟨this, rfl⟩
  have h1 : (lateF s t).lost ≤ (midF s t b).lost ∧ (midF s t b).lost ≤ (lateF s t).lost + 1 ∧ (midF s t b).hl.length ≤ (lateF s t).hl.length + 1 := hmid
  have hm := off_lost (midF s t b)
  unfold signF
  split
  · exact ⟨hmid2.1, hmid2.2, ⟨by show s.lost ≤ (midF s t b).lost; omega, by show (midF s t b).lost ≤ _; omega⟩, by simp⟩
  · split
    · refine ⟨((hfl _).1).trans hmid2.1, ((hfl _).2).trans hmid2.2, ⟨by show s.lost ≤ (offF (midF s t b)).lost; omega, by show (offF (midF s t b)).lost ≤ _; omega⟩, ?_⟩
      show (offF (midF s t b)).hl.length ≤ 600
      unfold offF
      split
      · rename_i h; rw [h]; simp
      · simp
    · exact ⟨hmid2.1, hmid2.2, ⟨by show s.lost ≤ (midF s t b).lost; omega, by show (midF s t b).lost ≤ _; omega⟩, by show (midF s t b).hl.length ≤ 600; omega⟩
theorem sign_both (w0 w : World) (g : Nat) (v : Value) (s : Tk) (t b : Int) (h : Ct w w0.heap.size g v s) (hB : Below w0.heap.size w0 w) (hok : s.Ok) : ∃ (s' : Tk) (u : ByteArray) (isb b' : Bool) (en : Int),
    (Calls Try.prog 57 #[.pointer (some ⟨g, 0, none⟩), .int .i64 t, .int .u8 b] w fun e w' => e = .returned (.tuple #[.string u, .bool isb, .int .i64 en]) ∧ ∃ v', Tp w0 w w' g v v' s') ∧
    bilgeref37_Sign.f 7 s.q s.d s.no s.hl s.lost t b = some (s'.q, s'.d, s'.no, s'.hl, s'.lost, u, isb, b') ∧ s'.q = s.q ∧ (0 ≤ s'.no ∧ s'.no ≤ 1099511627776) ∧ (s.lost ≤ s'.lost ∧ s'.lost ≤ s.lost + 3) ∧ s'.hl.length ≤ 600 ∧ ((b' = true ∧ en = 0) ∨ (b' = false ∧ en = 11)) := by
  by_cases he : t < s.no ∨ 1099511627776 < t
  · refine ⟨s, ⟨#[]⟩, false, false, 11, (sign_err w0.heap.size g v s t b w h hok he).mono ?_, ref_serr s t b he, rfl, hok.2.1, ⟨Int.le_refl _, by omega⟩, hok.2.2.2, .inr ⟨rfl, rfl⟩⟩
    rintro e w' ⟨rfl, hd⟩
    exact ⟨rfl, v, (Tp.refl h hB).drawn hd⟩
  · have ht : s.no ≤ t ∧ t ≤ 1099511627776 := by omega
    have hk := sign_keep s t b hok
    exact ⟨_, _, _, true, 0, sign_ok w0 w g v s t b h hB hok ht, ref_sign s t b hok ht, hk.1, by rw [hk.2.1]; have := hok.2.1; omega, hk.2.2.1, hk.2.2.2, .inl ⟨rfl, rfl⟩⟩
def xc (s : Tk) (vr : Value) : Array Value := #[.int .i64 s.q, .int .u8 s.d, .int .i64 s.no, vr, .int .i64 s.lost]
theorem xc_stored {U : World} {b : Nat} (s : Tk) (vr : Value) {c0 c1 c2 c3 c4 : Value} (h : U.heap[b]? = some (.cells #[c0, c1, c2, c3, c4] 100 (0, 0))) :
    (((((U.setCell ⟨b, 0, none⟩ (.int .i64 s.q)).setCell ⟨b, 1, none⟩ (.int .u8 s.d)).setCell ⟨b, 2, none⟩ (.int .i64 s.no)).setCell ⟨b, 3, none⟩ vr).setCell ⟨b, 4, none⟩ (.int .i64 s.lost)).heap[b]? = some (.cells (xc s vr) 100 (0, 0)) ∧ (∀ k, k ≠ b → (((((U.setCell ⟨b, 0, none⟩ (.int .i64 s.q)).setCell ⟨b, 1, none⟩ (.int .u8 s.d)).setCell ⟨b, 2, none⟩ (.int .i64 s.no)).setCell ⟨b, 3, none⟩ vr).setCell ⟨b, 4, none⟩ (.int .i64 s.lost)).heap[k]? = U.heap[k]?) ∧ (∀ (B : Nat) (W : World), Below B W U → B ≤ b → Below B W (((((U.setCell ⟨b, 0, none⟩ (.int .i64 s.q)).setCell ⟨b, 1, none⟩ (.int .u8 s.d)).setCell ⟨b, 2, none⟩ (.int .i64 s.no)).setCell ⟨b, 3, none⟩ vr).setCell ⟨b, 4, none⟩ (.int .i64 s.lost))) ∧
    ∀ {α : Type} (d : Kd α) (e base : Nat) (ok : Nat → Prop) (v : Value) (xs : List α), (∀ q, q ∈ e :: d.E → q ≠ 100) → d.R e U base ok v xs → d.R e (((((U.setCell ⟨b, 0, none⟩ (.int .i64 s.q)).setCell ⟨b, 1, none⟩ (.int .u8 s.d)).setCell ⟨b, 2, none⟩ (.int .i64 s.no)).setCell ⟨b, 3, none⟩ vr).setCell ⟨b, 4, none⟩ (.int .i64 s.lost)) base ok v xs := by
  have b0 : (U.setCell ⟨b, 0, none⟩ (.int .i64 s.q)).heap[b]? = some (.cells #[.int .i64 s.q, c1, c2, c3, c4] 100 (0, 0)) := blk_put h 0 _ rfl
  have b1 : ((U.setCell ⟨b, 0, none⟩ (.int .i64 s.q)).setCell ⟨b, 1, none⟩ (.int .u8 s.d)).heap[b]? = some (.cells #[.int .i64 s.q, .int .u8 s.d, c2, c3, c4] 100 (0, 0)) := blk_put b0 1 _ rfl
  have b2 : (((U.setCell ⟨b, 0, none⟩ (.int .i64 s.q)).setCell ⟨b, 1, none⟩ (.int .u8 s.d)).setCell ⟨b, 2, none⟩ (.int .i64 s.no)).heap[b]? = some (.cells #[.int .i64 s.q, .int .u8 s.d, .int .i64 s.no, c3, c4] 100 (0, 0)) := blk_put b1 2 _ rfl
  have b3 : ((((U.setCell ⟨b, 0, none⟩ (.int .i64 s.q)).setCell ⟨b, 1, none⟩ (.int .u8 s.d)).setCell ⟨b, 2, none⟩ (.int .i64 s.no)).setCell ⟨b, 3, none⟩ vr).heap[b]? = some (.cells #[.int .i64 s.q, .int .u8 s.d, .int .i64 s.no, vr, c4] 100 (0, 0)) := blk_put b2 3 _ rfl
  have b4 : (((((U.setCell ⟨b, 0, none⟩ (.int .i64 s.q)).setCell ⟨b, 1, none⟩ (.int .u8 s.d)).setCell ⟨b, 2, none⟩ (.int .i64 s.no)).setCell ⟨b, 3, none⟩ vr).setCell ⟨b, 4, none⟩ (.int .i64 s.lost)).heap[b]? = some (.cells (xc s vr) 100 (0, 0)) := blk_put b3 4 _ rfl
  refine ⟨b4, fun k hk => ?_, fun B W hB hle => ?_, fun d e base ok v xs ht hr => ?_⟩
  · have far : ∀ (X : World) (j : Nat) (u : Value), (X.setCell ⟨b, j, none⟩ u).heap[k]? = X.heap[k]? := fun X j u => Below.heap_setCell X ⟨b, j, none⟩ u k hk
    rw [far, far, far, far, far]
  · exact ((((hB.setCell hle _).setCell hle _).setCell hle _).setCell hle _).setCell hle _
  · exact Kd.R_set (Kd.R_set (Kd.R_set (Kd.R_set (Kd.R_set hr h ht 0 _) b0 ht 1 _) b1 ht 2 _) b2 ht 3 _) b3 ht 4 _
def bilgelaw37_CharsTake.f (k : Nat) (a0 a1 : Int) (l2 : List S102) : Option Bool := some true
set_option maxHeartbeats 8000000 in
set_option maxRecDepth 100000 in
theorem bilgelaw37_CharsTake.calls (k : Nat) (a0 a1 : Int) (A2 : Option Addr) (c2 : Nat) (l2 : List S102) (r : Bool) (w : World) (hr2 : Kd.C k102 w A2 l2.length l2) (hc2 : l2.length ≤ c2) (h : bilgelaw37_CharsTake.f k a0 a1 l2 = some r) :
    Calls Try.prog 13 #[.int .i64 a0, .int .u8 a1, .slice A2 l2.length c2] w fun e w' => e = .returned (.bool r) ∧ Below w.heap.size w w' := by
  obtain rfl := Option.some.inj h
  clear h
  generalize a0 = q
  generalize a1 = dl
  have HR1 := Aside0.mk hr2
  obtain ⟨n, hn⟩ : ∃ n, l2.length = n := ⟨_, rfl⟩
  rw [hn] at HR1 ⊢
  have HN := Aside0.mk hn
  clear hr2 hc2 hn
  by_cases hlen : 1200 < n
  · have d0 : decide ((1200 : Int) < (n : Int)) = true := decide_eq_true (by omega)
    go_enter Try.func13, Try.ntmps13
    go_wp2_with fail
    refine (ch_sure _).mono ?_
    rintro e w1 ⟨rfl, hg⟩
    have HG := Aside0.mk hg
    clear hg
    go_wp2
    go_ret
    exact ⟨rfl, HG.out⟩
  have d0 : decide ((1200 : Int) < (n : Int)) = false := decide_eq_false (by omega)
  by_cases hq : q < 1 ∨ 16777216 < q
  · have HNW := Aside0.mk (fun W : World => tk_new_nil q dl W hq)
    by_cases hq1 : q < 1
    · have d1 : decide (q < 1) = true := decide_eq_true hq1
      clear hq hq1
      go_enter Try.func13, Try.ntmps13
      go_wp2_with fail
      refine (HNW.out _).mono ?_
      rintro e w1 ⟨rfl, hd⟩
      have HB1 := Aside0.mk (hd.below)
      clear hd
      go_wp2_with fail
      refine (ch_sure _).mono ?_
      rintro e w2 ⟨rfl, hg⟩
      have HB2 := Aside0.mk (HB1.out.trans (hg.mono HB1.out.size))
      clear hg
      go_wp2
      go_ret
      exact ⟨rfl, HB2.out⟩
    · have d1 : decide (q < 1) = false := decide_eq_false hq1
      have d2 : decide (16777216 < q) = true := decide_eq_true (by omega)
      clear hq hq1
      go_enter Try.func13, Try.ntmps13
      go_wp2_with fail
      refine (HNW.out _).mono ?_
      rintro e w1 ⟨rfl, hd⟩
      have HB1 := Aside0.mk (hd.below)
      clear hd
      go_wp2_with fail
      refine (ch_sure _).mono ?_
      rintro e w2 ⟨rfl, hg⟩
      have HB2 := Aside0.mk (HB1.out.trans (hg.mono HB1.out.size))
      clear hg
      go_wp2
      go_ret
      exact ⟨rfl, HB2.out⟩
  · have hq2 : 1 ≤ q ∧ q ≤ 16777216 := by omega
    have d1 : decide (q < 1) = false := decide_eq_false (by omega)
    have d2 : decide (16777216 < q) = false := decide_eq_false (by omega)
    have HNW := Aside0.mk (tk_new_made q dl w w (Below.refl _ _) hq2)
    have HQ := Aside0.mk hq2
    have HLEN := Aside0.mk (show n ≤ 1200 by omega)
    clear hq hq2 hlen
    go_enter Try.func13, Try.ntmps13
    go_wp2_with fail
    refine HNW.out.mono ?_
    rintro e w3 ⟨g, rfl, hb, hB, hB', hge⟩
    have HC3 := Aside0.mk hb
    have HB3 := Aside0.mk hB
    clear hb hB hB' hge HNW
    go_wp2
    obtain ⟨X, hX⟩ : ∃ X, X = w3.heap.size := ⟨_, rfl⟩
    rw [← hX]
    have hxb : (w3.alloc (.cells (xc ⟨q, 0, dl, 0, []⟩ (.slice none 0 0)) 100)).heap[X]? = some (.cells (xc ⟨q, 0, dl, 0, []⟩ (.slice none 0 0)) 100 (0, 0)) := by rw [hX]; exact blk_new w3 _
    have HXG := Aside0.mk (show w.heap.size ≤ X by rw [hX]; exact HB3.out.size)
    have HC4 : Aside0 (Ct (w3.alloc (.cells (xc ⟨q, 0, dl, 0, []⟩ (.slice none 0 0)) 100)) w.heap.size g (.slice none 0 0) ⟨q, 0, dl, 0, []⟩) := ⟨blk_alloc HC3.out.1 _, Kd.R_alloc HC3.out.2.1 _, HC3.out.2.2⟩
    have HXB := Aside0.mk hxb
    have HB4 := Aside0.mk (HB3.out.alloc HB3.out.size (.cells (xc ⟨q, 0, dl, 0, []⟩ (.slice none 0 0)) 100))
    have HX := Aside0.mk hX
    clear hxb hX
    go_loopw [10, 9, 7] (fun v10 v9 v7 wr => ∃ (i : Nat) (t : Int) (g : Nat) (v : Value) (s : Tk) (vr : Value), i ≤ n ∧ v10 = .int .i64 (i : Int) ∧ v9 = .int .i64 t ∧ v7 = .pointer (some ⟨g, 0, none⟩) ∧ Aside0 (Ct wr w.heap.size g v s) ∧ Aside0 (wr.heap[X]? = some (.cells (xc s vr) 100 (0, 0))) ∧ Aside0 (Kd.R (Kd.int .u8) 5 wr w.heap.size (fun k => some k = vr.ownBlock) vr s.hl) ∧ Aside0 (∀ k, vr.ownBlock = some k → k ≠ g ∧ some k ≠ v.ownBlock) ∧ Aside0 (Below w.heap.size w wr) ∧ Aside0 ((s.q = q ∧ 0 ≤ s.no ∧ s.no ≤ 1099511627776) ∧ (0 ≤ s.lost ∧ s.lost ≤ 3 * (i : Int)) ∧ s.hl.length ≤ 600) ∧ Aside0 (-((i : Int) * 16777216) ≤ t ∧ t ≤ (i : Int) * 16777216)) (fun v10 _ _ _ => n - (intOf v10).toNat)
    case atStart => exact ⟨0, 0, g, .slice none 0 0, ⟨q, 0, dl, 0, []⟩, .slice none 0 0, Nat.zero_le _, rfl, rfl, rfl, HC4, HXB, ⟨Kd.R_nil _ _ _ _ _⟩, ⟨fun k hk => by simp [Value.ownBlock] at hk⟩, HB4, ⟨⟨rfl, by simp, by simp⟩, by simp, by simp⟩, ⟨by omega, by omega⟩⟩
    case round =>
      clear HC3 HB3 HC4 HXB HB4
      obtain ⟨i, t, g, v, s, vr, hin, rfl, rfl, rfl, HC, HXR, HVR, HSEP0, HB, HST, HTB⟩ := hrel
      by_cases hlt : i < n
      · have q0 : (0 : Int) ≤ (i : Int) := by omega
        have q1 : (i : Int) < (n : Int) := by omega
        obtain ⟨ad, hA, p0, p1⟩ := at_T102 HR1.out (i : Int) q0 q1
        subst hA
        replace p0 := (HB.out.cell (World.block_lt_of_cell? w _ p0)).trans p0
        rw [Int.toNat_natCast] at p1
        have hpv := p1
        replace p1 := (HB.out.cell (World.block_lt_of_cell? w _ p1)).trans p1
        rw [Int.toNat_natCast] at p0
        obtain ⟨D, hD⟩ : ∃ D, D = (rd_T102 l2 (i : Int)).f0 := ⟨_, rfl⟩
        obtain ⟨V, hV⟩ : ∃ V, V = (rd_T102 l2 (i : Int)).f1 := ⟨_, rfl⟩
        rw [← hD] at p0
        rw [← hV] at p1 hpv
        have HPV := Aside0.mk hpv
        have HLT := Aside0.mk hlt
        have HT := Aside0.mk (show i ≤ 1200 by have := HLEN.out; omega)
        clear hD hV hlt hin hpv
        go_upto_region 13 with (fail)
        go_cut [61] (fun v61 wc => ∃ b : Bool, v61 = .bool b ∧ wr = wc ∧ (b = true ↔ (-9 < D ∧ D < 16777216)))
        case first =>
          by_cases q2 : -9 < D
          · have d1 : decide (-9 < D) = true := decide_eq_true q2
            go_wp2
            go_meet
            case rel => exact ⟨decide (D < 16777216), by first | rfl | trivial, by first | rfl | trivial, by rw [decide_eq_true_eq]; omega⟩
          · have d1 : decide (-9 < D) = false := decide_eq_false q2
            go_wp2
            go_meet
            case rel => exact ⟨false, by first | rfl | trivial, by first | rfl | trivial, by simp; omega⟩
        case rest =>
          obtain ⟨b, rfl, hwc, hb⟩ := hcut
          subst hwc
          go_upto_if 61 with (fail)
          go_cut [9] (fun v9 wc => ∃ t' : Int, v9 = .int .i64 t' ∧ wr = wc ∧ Aside0 (-(((i + 1 : Nat) : Int) * 16777216) ≤ t' ∧ t' ≤ ((i + 1 : Nat) : Int) * 16777216))
          case first =>
            cases b with
            | true =>
              have hb2 := hb.1 rfl
              have htb := HTB.out
              have hT := HT.out
              go_wp2
              go_meet
              case rel => exact ⟨t + D, by first | rfl | trivial, by first | rfl | trivial, ⟨by omega, by omega⟩⟩
            | false =>
              go_wp2
              go_meet
              case rel => exact ⟨t, by first | rfl | trivial, by first | rfl | trivial, ⟨by have := HTB.out; omega, by have := HTB.out; omega⟩⟩
          case rest =>
            obtain ⟨t', rfl, hwc, HT2⟩ := hcut
            subst hwc
            clear hb p0
            have hok : s.Ok := by
              have h1 := HST.out
              have h2 := HQ.out
              have h3 := HT.out
              refine ⟨⟨by omega, by omega⟩, ⟨by omega, by omega⟩, ⟨by omega, by omega⟩, by omega⟩
            obtain ⟨s', u, isb, b', en, hcall, href, hq', hno', hlo', hhl', hbe⟩ := sign_both w wr g v s t' V HC.out HB.out hok
            have HCL := Aside0.mk hcall
            have HREF := Aside0.mk (fun (U : World) (hBU : Below w.heap.size w U) (hRU : Kd.R (Kd.int .u8) 5 U w.heap.size (fun k => some k = vr.ownBlock) vr s.hl) => bilgeref37_Sign.calls 7 _ _ _ _ _ _ _ _ _ _ _ _ _ _ _ _ _ w U hBU hRU href)
            have HST' : Aside0 ((s'.q = q ∧ 0 ≤ s'.no ∧ s'.no ≤ 1099511627776) ∧ (0 ≤ s'.lost ∧ s'.lost ≤ 3 * ((i + 1 : Nat) : Int)) ∧ s'.hl.length ≤ 600) := by
              have h1 := HST.out
              exact ⟨⟨by omega, by omega, by omega⟩, ⟨by omega, by omega⟩, hhl'⟩
            have HQ' := Aside0.mk (show 1 ≤ s'.q by have h2 := HQ.out; have h1 := HST'.out; omega)
            have HHL := Aside0.mk (show s'.hl.length < 1000000 by omega)
            have HOK' : Aside0 s'.Ok := by
              have h1 := HST'.out
              have h2 := HQ.out
              have h3 := HT.out
              exact ⟨⟨by omega, by omega⟩, ⟨by omega, by omega⟩, ⟨by omega, by omega⟩, by omega⟩
            have HBE := Aside0.mk hbe
            have HGX := Aside0.mk (blk_ne HC.out.1 HXR.out (by decide))
            have HXV : Aside0 (¬ (some X = vr.ownBlock)) := ⟨Kd.R_ne HVR.out HXR.out (by decide)⟩
            clear hcall href hq' hno' hlo' hhl' hbe hok HST
            go_wp2_with fail
            refine HCL.out.mono ?_
            rintro e w5 ⟨rfl, v', hT⟩
            have HC5 := Aside0.mk hT.ct
            have HB5 := Aside0.mk hT.below
            have hx5 := blk_kept HXR.out hT.kept (fun h => h.elim (fun e => HGX.out e.symm) (fun e => (Kd.R_ne HC.out.2.1 HXR.out (by decide)) e))
            have HXR5 := Aside0.mk hx5
            have HVR5 := Aside0.mk (Kd.R_kept HVR.out hT.kept (fun k hk h => h.elim (HSEP0.out k hk.symm).1 (HSEP0.out k hk.symm).2))
            have HSEP : Aside0 (∀ k, vr.ownBlock = some k → k ≠ g ∧ some k ≠ v'.ownBlock) := ⟨fun k hk => ⟨(HSEP0.out k hk).1, fun e => (hT.fresh k e.symm).elim (HSEP0.out k hk).2 (fun hle => by have := Kd.R_lt HVR.out k hk; omega)⟩⟩
            clear hT hx5 HC HB HXR HVR HSEP0
            have x0 : w5.cell? ⟨X, 0, none⟩ = some (.int .i64 s.q) := (blk_cell HXR5.out 0).trans rfl
            have x1 : w5.cell? ⟨X, 1, none⟩ = some (.int .u8 s.d) := (blk_cell HXR5.out 1).trans rfl
            have x2 : w5.cell? ⟨X, 2, none⟩ = some (.int .i64 s.no) := (blk_cell HXR5.out 2).trans rfl
            have x3 : w5.cell? ⟨X, 3, none⟩ = some (vr) := (blk_cell HXR5.out 3).trans rfl
            have x4 : w5.cell? ⟨X, 4, none⟩ = some (.int .i64 s.lost) := (blk_cell HXR5.out 4).trans rfl
            go_wp2
            clear x0 x1 x2 x3 x4
            refine start_ (n := 18) (S := fun U => U.heap[X]? = some (.cells (xc s vr) 100 (0, 0)) ∧ Below w.heap.size w U) (ds := [14]) #[false, false, false, false, false, false, false, false, false, false, false, false, false, false, false, false, false, false] (by kernel_rfl) rfl rfl ⟨blk_drew HXR5.out, below_drew1 HB5.out⟩ (fun hHeld => ?_)
            refine pure_ (i := 1) (N := (some 83)) (v := ?_) (a' := ?_) #[false, true, false, false, false, false, false, false, false, false, false, false, false, false, false, false, false, false] rfl rfl (by kernel_rfl) (fun _ _ _ h => h) (Or.inl ⟨by rfl, ?_⟩) ?_ ?_
            rotate_left
            · intro w'
              go_simp
              with_reducible rfl
            rotate_left
            · simp only [Act.put, List.setIfInBounds_toArray, List.set_cons_zero, List.set_cons_succ, i64_w, i32_w]
              rfl
            refine pure_ (i := 2) (N := (some 84)) (v := ?_) (a' := ?_) #[false, true, true, false, false, false, false, false, false, false, false, false, false, false, false, false, false, false] rfl rfl (by kernel_rfl) (fun _ _ _ h => h) (Or.inl ⟨by rfl, ?_⟩) ?_ ?_
            rotate_left
            · intro w'
              go_simp
              with_reducible rfl
            rotate_left
            · simp only [Act.put, List.setIfInBounds_toArray, List.set_cons_zero, List.set_cons_succ, i64_w, i32_w]
              rfl
            refine pure_ (i := 3) (N := (some 85)) (v := ?_) (a' := ?_) #[false, true, true, true, false, false, false, false, false, false, false, false, false, false, false, false, false, false] rfl rfl (by kernel_rfl) (fun _ _ _ h => h) (Or.inl ⟨by rfl, ?_⟩) ?_ ?_
            rotate_left
            · intro w'
              go_simp
              with_reducible rfl
            rotate_left
            · simp only [Act.put, List.setIfInBounds_toArray, List.set_cons_zero, List.set_cons_succ, i64_w, i32_w]
              rfl
            refine pure_ (i := 4) (N := (some 86)) (v := ?_) (a' := ?_) #[false, true, true, true, true, false, false, false, false, false, false, false, false, false, false, false, false, false] rfl rfl (by kernel_rfl) (fun _ _ _ h => h) (Or.inl ⟨by rfl, ?_⟩) ?_ ?_
            rotate_left
            · intro w'
              go_simp
              with_reducible rfl
            rotate_left
            · simp only [Act.put, List.setIfInBounds_toArray, List.set_cons_zero, List.set_cons_succ, i64_w, i32_w]
              rfl
            refine pure_ (i := 5) (N := (some 87)) (v := ?_) (a' := ?_) #[false, true, true, true, true, true, false, false, false, false, false, false, false, false, false, false, false, false] rfl rfl (by kernel_rfl) (fun _ _ _ h => h) (Or.inl ⟨by rfl, ?_⟩) ?_ ?_
            rotate_left
            · intro w'
              go_simp
              with_reducible rfl
            rotate_left
            · simp only [Act.put, List.setIfInBounds_toArray, List.set_cons_zero, List.set_cons_succ, i64_w, i32_w]
              rfl
            refine take_ (i := 0) (N := (some 82)) (v := ?_) (a' := ?_) #[true, true, true, true, true, true, false, false, false, false, false, false, false, false, false, false, false, false] rfl rfl (by kernel_rfl) (fun _ _ _ h => h) (Or.inl ⟨by rfl, ?_⟩) hHeld ?_ ?_
            rotate_left
            · intro w' s0
              have x0 : w'.cell? ⟨X, 0, none⟩ = some (.int .i64 s.q) := (blk_cell s0.1 0).trans rfl
              have x1 : w'.cell? ⟨X, 1, none⟩ = some (.int .u8 s.d) := (blk_cell s0.1 1).trans rfl
              have x2 : w'.cell? ⟨X, 2, none⟩ = some (.int .i64 s.no) := (blk_cell s0.1 2).trans rfl
              have x3 : w'.cell? ⟨X, 3, none⟩ = some (vr) := (blk_cell s0.1 3).trans rfl
              have x4 : w'.cell? ⟨X, 4, none⟩ = some (.int .i64 s.lost) := (blk_cell s0.1 4).trans rfl
              go_simp
              with_reducible rfl
            rotate_left
            · simp only [Act.put, List.setIfInBounds_toArray, List.set_cons_zero, List.set_cons_succ, i64_w, i32_w]
              rfl
            refine take_ (i := 6) (N := (some 88)) (v := ?_) (a' := ?_) #[true, true, true, true, true, true, true, false, false, false, false, false, false, false, false, false, false, false] rfl rfl (by kernel_rfl) (fun _ _ _ h => h) (Or.inl ⟨by rfl, ?_⟩) hHeld ?_ ?_
            rotate_left
            · intro w' s0
              have hv := (s0.2.cell (World.block_lt_of_cell? w _ HPV.out)).trans HPV.out
              go_simp
              with_reducible rfl
            rotate_left
            · simp only [Act.put, List.setIfInBounds_toArray, List.set_cons_zero, List.set_cons_succ, i64_w, i32_w]
              rfl
            refine join_ 4 #[true, true, true, true, true, true, true, true, true, true, true, true, true, true, false, false, false, false] (fun p : Value × Nat => [(89, (.tuple #[(.agg #[.int .i64 s'.q, .int .u8 s'.d, .int .i64 s'.no, p.1, .int .i64 s'.lost]), .string u, .bool isb, .bool b'])), (81, (.tuple #[(.agg #[.int .i64 s'.q, .int .u8 s'.d, .int .i64 s'.no, p.1, .int .i64 s'.lost]), .string u, .bool isb, .bool b'])), (90, (.agg #[.int .i64 s'.q, .int .u8 s'.d, .int .i64 s'.no, p.1, .int .i64 s'.lost])), (91, .string u), (92, .bool isb), (93, .bool b'), (14, .pointer (some ⟨p.2, 0, none⟩))]) (fun p U => Kd.R (Kd.int .u8) 5 U w.heap.size (fun k => some k = vr.ownBlock ∨ w5.heap.size ≤ k) p.1 s'.hl ∧ U.heap[p.2]? = some (.cells #[.int .i64 0, .int .u8 0, .int .i64 0, .slice none 0 0, .int .i64 0] 100 (0, 0)) ∧ Kept w5.drew U (fun k => some k = vr.ownBlock) ∧ Below w.heap.size w U ∧ w5.heap.size ≤ p.2) ?_ ?_
            rotate_left
            · intro hcont
              refine two_ (i := 7) (j := 13) (Ni := some 89) (Nj := some 14) #[true, true, true, true, true, true, true, true, false, false, false, false, false, false, false, false, false, false] #[true, true, true, true, true, true, true, false, false, false, false, false, false, true, false, false, false, false] rfl rfl rfl rfl (by kernel_rfl) (by decide) (by decide) (fun K hK => ?_) (fun K hK => ?_)
              · refine goes_ (f := 58) Try.func58 (by kernel_rfl) rfl #[.agg #[.int .i64 s.q, .int .u8 s.d, .int .i64 s.no, vr, .int .i64 s.lost], .int .i64 t', .int .u8 V] (by rfl) rfl rfl (by simp [Act.eval, Act.put]) ?_
                refine (HREF.out w5.drew (below_drew1 HB5.out) (Kd.R_drew HVR5.out)).mono ?_
                rintro e w6 ⟨v8, rfl, hr, hgB, hgK⟩
                refine ⟨_, rfl, hK.out _ _ ⟨blk_kept hHeld.1 hgK HXV.out, hgB⟩ (fun hH6 => ?_)⟩
                simp only [Act.put, List.setIfInBounds_toArray, List.set_cons_zero, List.set_cons_succ]
                clear hK K
                refine pure_ (i := 8) (N := (some 81)) (v := ?_) (a' := ?_) #[true, true, true, true, true, true, true, true, true, false, false, false, false, false, false, false, false, false] rfl rfl (by kernel_rfl) (fun _ _ _ h => h) (Or.inl ⟨by rfl, ?_⟩) ?_ ?_
                rotate_left
                · intro w'
                  go_simp
                  with_reducible rfl
                rotate_left
                · simp only [Act.put, List.setIfInBounds_toArray, List.set_cons_zero, List.set_cons_succ, i64_w, i32_w]
                  rfl
                refine pure_ (i := 9) (N := (some 90)) (v := ?_) (a' := ?_) #[true, true, true, true, true, true, true, true, true, true, false, false, false, false, false, false, false, false] rfl rfl (by kernel_rfl) (fun _ _ _ h => h) (Or.inl ⟨by rfl, ?_⟩) ?_ ?_
                rotate_left
                · intro w'
                  go_simp
                  with_reducible rfl
                rotate_left
                · simp only [Act.put, List.setIfInBounds_toArray, List.set_cons_zero, List.set_cons_succ, i64_w, i32_w]
                  rfl
                refine pure_ (i := 10) (N := (some 91)) (v := ?_) (a' := ?_) #[true, true, true, true, true, true, true, true, true, true, true, false, false, false, false, false, false, false] rfl rfl (by kernel_rfl) (fun _ _ _ h => h) (Or.inl ⟨by rfl, ?_⟩) ?_ ?_
                rotate_left
                · intro w'
                  go_simp
                  with_reducible rfl
                rotate_left
                · simp only [Act.put, List.setIfInBounds_toArray, List.set_cons_zero, List.set_cons_succ, i64_w, i32_w]
                  rfl
                refine pure_ (i := 11) (N := (some 92)) (v := ?_) (a' := ?_) #[true, true, true, true, true, true, true, true, true, true, true, true, false, false, false, false, false, false] rfl rfl (by kernel_rfl) (fun _ _ _ h => h) (Or.inl ⟨by rfl, ?_⟩) ?_ ?_
                rotate_left
                · intro w'
                  go_simp
                  with_reducible rfl
                rotate_left
                · simp only [Act.put, List.setIfInBounds_toArray, List.set_cons_zero, List.set_cons_succ, i64_w, i32_w]
                  rfl
                refine pure_ (i := 12) (N := (some 93)) (v := ?_) (a' := ?_) #[true, true, true, true, true, true, true, true, true, true, true, true, true, false, false, false, false, false] rfl rfl (by kernel_rfl) (fun _ _ _ h => h) (Or.inl ⟨by rfl, ?_⟩) ?_ ?_
                rotate_left
                · intro w'
                  go_simp
                  with_reducible rfl
                rotate_left
                · simp only [Act.put, List.setIfInBounds_toArray, List.set_cons_zero, List.set_cons_succ, i64_w, i32_w]
                  rfl
                refine one_ (i := 13) (N := (some 14)) #[true, true, true, true, true, true, true, true, true, true, true, true, true, true, false, false, false, false] rfl rfl (by kernel_rfl) (by decide) (fun K hK => ?_)
                refine value_ (w1 := w6.alloc (Obj.cells #[.int .i64 0, .int .u8 0, .int .i64 0, .slice none 0 0, .int .i64 0] 100)) (v := .pointer (some ⟨w6.heap.size, 0, none⟩)) (by rfl) rfl ?_ ?_
                · go_simp
                refine hK.out _ _ ⟨blk_alloc hH6.1 _, hH6.2.alloc hH6.2.size _⟩ (fun _ => ?_)
                refine norm_ ?_ (hcont (v8, w6.heap.size) _ ⟨Kd.R_alloc hr _, blk_new w6 _, hgK.alloc _, hH6.2.alloc hH6.2.size _, hgK.1⟩)
                rfl
              · skip
                refine value_ (w1 := w5.drew.alloc (Obj.cells #[.int .i64 0, .int .u8 0, .int .i64 0, .slice none 0 0, .int .i64 0] 100)) (v := .pointer (some ⟨w5.heap.size, 0, none⟩)) (by rfl) rfl ?_ ?_
                · go_simp
                refine hK.out _ _ ⟨blk_alloc hHeld.1 _, hHeld.2.alloc hHeld.2.size _⟩ (fun hH6 => ?_)
                simp only [Act.put, List.setIfInBounds_toArray, List.set_cons_zero, List.set_cons_succ]
                clear hK K
                refine one_ (i := 7) (N := (some 89)) #[true, true, true, true, true, true, true, true, false, false, false, false, false, true, false, false, false, false] rfl rfl (by kernel_rfl) (by decide) (fun K hK => ?_)
                refine goes_ (f := 58) Try.func58 (by kernel_rfl) rfl #[.agg #[.int .i64 s.q, .int .u8 s.d, .int .i64 s.no, vr, .int .i64 s.lost], .int .i64 t', .int .u8 V] (by rfl) rfl rfl (by simp [Act.eval, Act.put]) ?_
                refine (HREF.out _ hH6.2 (Kd.R_alloc (Kd.R_drew HVR5.out) _)).mono ?_
                rintro e w6 ⟨v8, rfl, hr, hgB, hgK⟩
                refine ⟨_, rfl, hK.out _ _ ⟨blk_kept hH6.1 hgK HXV.out, hgB⟩ (fun _ => ?_)⟩
                simp only [Act.put, List.setIfInBounds_toArray, List.set_cons_zero, List.set_cons_succ]
                clear hK K
                refine pure_ (i := 8) (N := (some 81)) (v := ?_) (a' := ?_) #[true, true, true, true, true, true, true, true, true, false, false, false, false, true, false, false, false, false] rfl rfl (by kernel_rfl) (fun _ _ _ h => h) (Or.inl ⟨by rfl, ?_⟩) ?_ ?_
                rotate_left
                · intro w'
                  go_simp
                  with_reducible rfl
                rotate_left
                · simp only [Act.put, List.setIfInBounds_toArray, List.set_cons_zero, List.set_cons_succ, i64_w, i32_w]
                  rfl
                refine pure_ (i := 9) (N := (some 90)) (v := ?_) (a' := ?_) #[true, true, true, true, true, true, true, true, true, true, false, false, false, true, false, false, false, false] rfl rfl (by kernel_rfl) (fun _ _ _ h => h) (Or.inl ⟨by rfl, ?_⟩) ?_ ?_
                rotate_left
                · intro w'
                  go_simp
                  with_reducible rfl
                rotate_left
                · simp only [Act.put, List.setIfInBounds_toArray, List.set_cons_zero, List.set_cons_succ, i64_w, i32_w]
                  rfl
                refine pure_ (i := 10) (N := (some 91)) (v := ?_) (a' := ?_) #[true, true, true, true, true, true, true, true, true, true, true, false, false, true, false, false, false, false] rfl rfl (by kernel_rfl) (fun _ _ _ h => h) (Or.inl ⟨by rfl, ?_⟩) ?_ ?_
                rotate_left
                · intro w'
                  go_simp
                  with_reducible rfl
                rotate_left
                · simp only [Act.put, List.setIfInBounds_toArray, List.set_cons_zero, List.set_cons_succ, i64_w, i32_w]
                  rfl
                refine pure_ (i := 11) (N := (some 92)) (v := ?_) (a' := ?_) #[true, true, true, true, true, true, true, true, true, true, true, true, false, true, false, false, false, false] rfl rfl (by kernel_rfl) (fun _ _ _ h => h) (Or.inl ⟨by rfl, ?_⟩) ?_ ?_
                rotate_left
                · intro w'
                  go_simp
                  with_reducible rfl
                rotate_left
                · simp only [Act.put, List.setIfInBounds_toArray, List.set_cons_zero, List.set_cons_succ, i64_w, i32_w]
                  rfl
                refine pure_ (i := 12) (N := (some 93)) (v := ?_) (a' := ?_) #[true, true, true, true, true, true, true, true, true, true, true, true, true, true, false, false, false, false] rfl rfl (by kernel_rfl) (fun _ _ _ h => h) (Or.inl ⟨by rfl, ?_⟩) ?_ ?_
                rotate_left
                · intro w'
                  go_simp
                  with_reducible rfl
                rotate_left
                · simp only [Act.put, List.setIfInBounds_toArray, List.set_cons_zero, List.set_cons_succ, i64_w, i32_w]
                  rfl
                have hnw : ¬ (some w5.heap.size = vr.ownBlock) := fun e => absurd (Kd.R_lt HVR5.out _ e.symm) (Nat.lt_irrefl _)
                have hsz : w5.heap.size ≤ (w5.drew.alloc (Obj.cells #[.int .i64 0, .int .u8 0, .int .i64 0, .slice none 0 0, .int .i64 0] 100)).heap.size := ((Below.refl w5.drew.heap.size w5.drew).alloc (Nat.le_refl _) _).size
                refine norm_ ?_ (hcont (v8, w5.heap.size) _ ⟨Kd.R_mono hr (fun k hk => hk.imp id (Nat.le_trans hsz)), blk_kept (blk_new w5.drew _) hgK hnw, (((Kept.refl w5.drew _).alloc _).then_ hgK (fun k hk => .inl hk)), hgB, Nat.le_refl _⟩)
                rfl
            · clear hHeld
              rintro ⟨v8, yb⟩ U ⟨hr, hyb, hgK, hgB, hyl⟩
              dsimp only at hr hyb hyl
              obtain ⟨A8, c8, rfl⟩ := Kd.R_slice hr
              have hyX : X ≠ yb := by have := blk_lt HXR5.out; omega
              have y0 : U.cell? ⟨yb, 0, none⟩ = some (.int .i64 0) := (blk_cell hyb 0).trans rfl
              have z0 : U.frozen? ⟨yb, 0, none⟩ = false := blk_frozen hyb 0
              have y1 : U.cell? ⟨yb, 1, none⟩ = some (.int .u8 0) := (blk_cell hyb 1).trans rfl
              have z1 : U.frozen? ⟨yb, 1, none⟩ = false := blk_frozen hyb 1
              have y2 : U.cell? ⟨yb, 2, none⟩ = some (.int .i64 0) := (blk_cell hyb 2).trans rfl
              have z2 : U.frozen? ⟨yb, 2, none⟩ = false := blk_frozen hyb 2
              have y3 : U.cell? ⟨yb, 3, none⟩ = some (.slice none 0 0) := (blk_cell hyb 3).trans rfl
              have z3 : U.frozen? ⟨yb, 3, none⟩ = false := blk_frozen hyb 3
              have y4 : U.cell? ⟨yb, 4, none⟩ = some (.int .i64 0) := (blk_cell hyb 4).trans rfl
              have z4 : U.frozen? ⟨yb, 4, none⟩ = false := blk_frozen hyb 4
              simp only [putAll, Act.put, List.setIfInBounds_toArray, List.set_cons_zero, List.set_cons_succ]
              refine last_ (i := 14) (N := none) #[true, true, true, true, true, true, true, true, true, true, true, true, true, true, true, false, false, false] rfl rfl (by kernel_rfl) (by decide) (fun K hK => ?_)
              refine skip_ (w1 := (((((U.setCell ⟨yb, 0, none⟩ (.int .i64 s'.q)).setCell ⟨yb, 1, none⟩ (.int .u8 s'.d)).setCell ⟨yb, 2, none⟩ (.int .i64 s'.no)).setCell ⟨yb, 3, none⟩ (.slice A8 s'.hl.length c8)).setCell ⟨yb, 4, none⟩ (.int .i64 s'.lost))) (by rfl) rfl ?_ ?_
              · go_simp
              refine hK.out _ _ ?_
              clear hK K
              refine pure_ (i := 15) (N := (some 15)) (v := ?_) (a' := ?_) #[true, true, true, true, true, true, true, true, true, true, true, true, true, true, true, true, false, false] rfl rfl (by kernel_rfl) (fun _ _ _ h => h) (Or.inl ⟨by rfl, ?_⟩) ?_ ?_
              rotate_left
              · intro w'
                go_simp
                with_reducible rfl
              rotate_left
              · simp only [Act.put, List.setIfInBounds_toArray, List.set_cons_zero, List.set_cons_succ, i64_w, i32_w]
                rfl
              refine pure_ (i := 16) (N := (some 16)) (v := ?_) (a' := ?_) #[true, true, true, true, true, true, true, true, true, true, true, true, true, true, true, true, true, false] rfl rfl (by kernel_rfl) (fun _ _ _ h => h) (Or.inl ⟨by rfl, ?_⟩) ?_ ?_
              rotate_left
              · intro w'
                go_simp
                with_reducible rfl
              rotate_left
              · simp only [Act.put, List.setIfInBounds_toArray, List.set_cons_zero, List.set_cons_succ, i64_w, i32_w]
                rfl
              refine pure_ (i := 17) (N := (some 17)) (v := ?_) (a' := ?_) #[true, true, true, true, true, true, true, true, true, true, true, true, true, true, true, true, true, true] rfl rfl (by kernel_rfl) (fun _ _ _ h => h) (Or.inl ⟨by rfl, ?_⟩) ?_ ?_
              rotate_left
              · intro w'
                go_simp
                with_reducible rfl
              rotate_left
              · simp only [Act.put, List.setIfInBounds_toArray, List.set_cons_zero, List.set_cons_succ, i64_w, i32_w]
                rfl
              refine done_ (by kernel_rfl) ?_
              clear y0 z0 y1 z1 y2 z2 y3 z3 y4 z4
              have hy := xc_stored s' (.slice A8 s'.hl.length c8) hyb
              generalize (((((U.setCell ⟨yb, 0, none⟩ (.int .i64 s'.q)).setCell ⟨yb, 1, none⟩ (.int .u8 s'.d)).setCell ⟨yb, 2, none⟩ (.int .i64 s'.no)).setCell ⟨yb, 3, none⟩ (.slice A8 s'.hl.length c8)).setCell ⟨yb, 4, none⟩ (.int .i64 s'.lost)) = U1 at hy ⊢
              obtain ⟨hy1, hy2, hy3, hy4⟩ := hy
              have hr1 := hy4 _ _ _ _ _ _ (by decide) hr
              have hk1 : Kept w5.drew U1 (fun k => some k = vr.ownBlock) := hgK.then_ (S2 := fun k => k = yb) ⟨by have := hy3 _ _ (Below.refl 0 U) (Nat.zero_le _); exact this.size, fun k _ hn => hy2 k hn⟩ (fun k hk => .inr (by rw [hk]; exact hyl))
              have hb1 := hy3 _ _ hgB (Nat.le_trans HB5.out.size hyl)
              have HV1 := Aside0.mk hr1
              have HK1 := Aside0.mk hk1
              have HB1 := Aside0.mk hb1
              have hx1 := blk_kept (blk_drew HXR5.out) hk1 HXV.out
              have HX1 := Aside0.mk hx1
              clear hr hyb hgK hgB hy2 hy3 hy4 hr1 hk1 hb1
              have y0 : U1.cell? ⟨yb, 0, none⟩ = some (.int .i64 s'.q) := (blk_cell hy1 0).trans rfl
              have y1 : U1.cell? ⟨yb, 1, none⟩ = some (.int .u8 s'.d) := (blk_cell hy1 1).trans rfl
              have y2 : U1.cell? ⟨yb, 2, none⟩ = some (.int .i64 s'.no) := (blk_cell hy1 2).trans rfl
              have y3 : U1.cell? ⟨yb, 3, none⟩ = some (.slice A8 s'.hl.length c8) := (blk_cell hy1 3).trans rfl
              have y4 : U1.cell? ⟨yb, 4, none⟩ = some (.int .i64 s'.lost) := (blk_cell hy1 4).trans rfl
              have x0 : U1.cell? ⟨X, 0, none⟩ = some (.int .i64 s.q) := (blk_cell hx1 0).trans rfl
              have z0 : U1.frozen? ⟨X, 0, none⟩ = false := blk_frozen hx1 0
              have x1 : U1.cell? ⟨X, 1, none⟩ = some (.int .u8 s.d) := (blk_cell hx1 1).trans rfl
              have z1 : U1.frozen? ⟨X, 1, none⟩ = false := blk_frozen hx1 1
              have x2 : U1.cell? ⟨X, 2, none⟩ = some (.int .i64 s.no) := (blk_cell hx1 2).trans rfl
              have z2 : U1.frozen? ⟨X, 2, none⟩ = false := blk_frozen hx1 2
              have x3 : U1.cell? ⟨X, 3, none⟩ = some (vr) := (blk_cell hx1 3).trans rfl
              have z3 : U1.frozen? ⟨X, 3, none⟩ = false := blk_frozen hx1 3
              have x4 : U1.cell? ⟨X, 4, none⟩ = some (.int .i64 s.lost) := (blk_cell hx1 4).trans rfl
              have z4 : U1.frozen? ⟨X, 4, none⟩ = false := blk_frozen hx1 4
              clear hy1 hx1
              go_wp2
              clear y0 x0 z0 y1 x1 z1 y2 x2 z2 y3 x3 z3 y4 x4 z4
              have hx := xc_stored s' (.slice A8 s'.hl.length c8) HX1.out
              generalize (((((U1.setCell ⟨X, 0, none⟩ (.int .i64 s'.q)).setCell ⟨X, 1, none⟩ (.int .u8 s'.d)).setCell ⟨X, 2, none⟩ (.int .i64 s'.no)).setCell ⟨X, 3, none⟩ (.slice A8 s'.hl.length c8)).setCell ⟨X, 4, none⟩ (.int .i64 s'.lost)) = U2 at hx ⊢
              obtain ⟨hx1, hx2, hx3, hx4⟩ := hx
              have hv2 := hx4 _ _ _ _ _ _ (by decide) HV1.out
              have HCT2 : Aside0 (Ct U2 w.heap.size g v' s') := ⟨(hx2 g HGX.out).trans (blk_kept (W := w5.drew) HC5.out.1 HK1.out (fun e => (HSEP.out g e.symm).1 rfl)), hx4 _ _ _ _ _ _ (by decide) (Kd.R_mono (Kd.R_kept (Kd.R_tight rfl (Kd.R_drew HC5.out.2.1)) HK1.out (fun k hk e => (HSEP.out k e.symm).2 hk)) (fun _ _ => trivial)), HC5.out.2.2⟩
              have HSEP2 : Aside0 (∀ k, (Value.slice A8 s'.hl.length c8).ownBlock = some k → k ≠ g ∧ some k ≠ v'.ownBlock) := ⟨fun k hk => (hv2.1 k hk).elim (fun e => HSEP.out k e.symm) (fun hle => ⟨fun e => by have := blk_lt HC5.out.1; omega, fun e => by have := Kd.R_lt HC5.out.2.1 k e.symm; omega⟩)⟩
              have HV2 := Aside0.mk (Kd.R_tight rfl hv2)
              have HB2 := Aside0.mk (hx3 _ _ HB1.out HXG.out)
              have HX2 := Aside0.mk hx1
              clear hx1 hx2 hx3 hx4 hv2 HV1 HK1 HB1 HX1 HXR5 HC5 HB5 HVR5 HSEP
              rcases HBE.out with ⟨rfl, rfl⟩ | ⟨rfl, rfl⟩
              · skip
                refine start_ (n := 37) (S := fun U => U.heap[X]? = some (.cells (xc s' (.slice A8 s'.hl.length c8)) 100 (0, 0)) ∧ Ct U w.heap.size g v' s' ∧ Below w.heap.size w U ∧ Kd.R (Kd.int .u8) 5 U w.heap.size (fun k => some k = (Value.slice A8 s'.hl.length c8).ownBlock) (.slice A8 s'.hl.length c8) s'.hl) (ds := []) #[false, false, false, false, false, false, false, false, false, false, false, false, false, false, false, false, false, false, false, false, false, false, false, false, false, false, false, false, false, false, false, false, false, false, false, false, false] (by kernel_rfl) rfl rfl ⟨blk_drew HX2.out, HCT2.out.drawn ⟨⟨1, rfl⟩⟩, below_drew1 HB2.out, Kd.R_drew HV2.out⟩ (fun hHeld => ?_)
                refine pure_ (i := 0) (N := (some 95)) (v := ?_) (a' := ?_) #[true, false, false, false, false, false, false, false, false, false, false, false, false, false, false, false, false, false, false, false, false, false, false, false, false, false, false, false, false, false, false, false, false, false, false, false, false] rfl rfl (by kernel_rfl) (fun _ _ _ h => h) (Or.inl ⟨by rfl, ?_⟩) ?_ ?_
                rotate_left
                · intro w'
                  go_simp
                  with_reducible rfl
                rotate_left
                · simp only [Act.put, List.setIfInBounds_toArray, List.set_cons_zero, List.set_cons_succ, i64_w, i32_w]
                  rfl
                refine pure_ (i := 1) (N := (some 96)) (v := ?_) (a' := ?_) #[true, true, false, false, false, false, false, false, false, false, false, false, false, false, false, false, false, false, false, false, false, false, false, false, false, false, false, false, false, false, false, false, false, false, false, false, false] rfl rfl (by kernel_rfl) (fun _ _ _ h => h) (Or.inl ⟨by rfl, ?_⟩) ?_ ?_
                rotate_left
                · intro w'
                  go_simp
                  with_reducible rfl
                rotate_left
                · simp only [Act.put, List.setIfInBounds_toArray, List.set_cons_zero, List.set_cons_succ, i64_w, i32_w]
                  rfl
                refine pure_ (i := 2) (N := (some 97)) (v := ?_) (a' := ?_) #[true, true, true, false, false, false, false, false, false, false, false, false, false, false, false, false, false, false, false, false, false, false, false, false, false, false, false, false, false, false, false, false, false, false, false, false, false] rfl rfl (by kernel_rfl) (fun _ _ _ h => h) (Or.inl ⟨by rfl, ?_⟩) ?_ ?_
                rotate_left
                · intro w'
                  go_simp
                  with_reducible rfl
                rotate_left
                · simp only [Act.put, List.setIfInBounds_toArray, List.set_cons_zero, List.set_cons_succ, i64_w, i32_w]
                  rfl
                refine pure_ (i := 3) (N := (some 98)) (v := ?_) (a' := ?_) #[true, true, true, true, false, false, false, false, false, false, false, false, false, false, false, false, false, false, false, false, false, false, false, false, false, false, false, false, false, false, false, false, false, false, false, false, false] rfl rfl (by kernel_rfl) (fun _ _ _ h => h) (Or.inl ⟨by rfl, ?_⟩) ?_ ?_
                rotate_left
                · intro w'
                  go_simp
                  with_reducible rfl
                rotate_left
                · simp only [Act.put, List.setIfInBounds_toArray, List.set_cons_zero, List.set_cons_succ, i64_w, i32_w]
                  rfl
                refine pure_ (i := 4) (N := (some 99)) (v := ?_) (a' := ?_) #[true, true, true, true, true, false, false, false, false, false, false, false, false, false, false, false, false, false, false, false, false, false, false, false, false, false, false, false, false, false, false, false, false, false, false, false, false] rfl rfl (by kernel_rfl) (fun _ _ _ h => h) (Or.inl ⟨by rfl, ?_⟩) ?_ ?_
                rotate_left
                · intro w'
                  go_simp
                  with_reducible rfl
                rotate_left
                · simp only [Act.put, List.setIfInBounds_toArray, List.set_cons_zero, List.set_cons_succ, i64_w, i32_w]
                  rfl
                refine pure_ (i := 5) (N := (some 100)) (v := ?_) (a' := ?_) #[true, true, true, true, true, true, false, false, false, false, false, false, false, false, false, false, false, false, false, false, false, false, false, false, false, false, false, false, false, false, false, false, false, false, false, false, false] rfl rfl (by kernel_rfl) (fun _ _ _ h => h) (Or.inl ⟨by rfl, ?_⟩) ?_ ?_
                rotate_left
                · intro w'
                  go_simp
                  with_reducible rfl
                rotate_left
                · simp only [Act.put, List.setIfInBounds_toArray, List.set_cons_zero, List.set_cons_succ, i64_w, i32_w]
                  rfl
                refine pure_ (i := 6) (N := (some 101)) (v := ?_) (a' := ?_) #[true, true, true, true, true, true, true, false, false, false, false, false, false, false, false, false, false, false, false, false, false, false, false, false, false, false, false, false, false, false, false, false, false, false, false, false, false] rfl rfl (by kernel_rfl) (fun _ _ _ h => h) (Or.inl ⟨by rfl, ?_⟩) ?_ ?_
                rotate_left
                · intro w'
                  go_simp
                  with_reducible rfl
                rotate_left
                · simp only [Act.put, List.setIfInBounds_toArray, List.set_cons_zero, List.set_cons_succ, i64_w, i32_w]
                  rfl
                refine pure_ (i := 7) (N := (some 102)) (v := ?_) (a' := ?_) #[true, true, true, true, true, true, true, true, false, false, false, false, false, false, false, false, false, false, false, false, false, false, false, false, false, false, false, false, false, false, false, false, false, false, false, false, false] rfl rfl (by kernel_rfl) (fun _ _ _ h => h) (Or.inl ⟨by rfl, ?_⟩) ?_ ?_
                rotate_left
                · intro w'
                  go_simp
                  with_reducible rfl
                rotate_left
                · simp only [Act.put, List.setIfInBounds_toArray, List.set_cons_zero, List.set_cons_succ, i64_w, i32_w]
                  rfl
                refine pure_ (i := 8) (N := (some 103)) (v := ?_) (a' := ?_) #[true, true, true, true, true, true, true, true, true, false, false, false, false, false, false, false, false, false, false, false, false, false, false, false, false, false, false, false, false, false, false, false, false, false, false, false, false] rfl rfl (by kernel_rfl) (fun _ _ _ h => h) (Or.inl ⟨by rfl, ?_⟩) ?_ ?_
                rotate_left
                · intro w'
                  go_simp
                  with_reducible rfl
                rotate_left
                · simp only [Act.put, List.setIfInBounds_toArray, List.set_cons_zero, List.set_cons_succ, i64_w, i32_w]
                  rfl
                refine pure_ (i := 9) (N := (some 104)) (v := ?_) (a' := ?_) #[true, true, true, true, true, true, true, true, true, true, false, false, false, false, false, false, false, false, false, false, false, false, false, false, false, false, false, false, false, false, false, false, false, false, false, false, false] rfl rfl (by kernel_rfl) (fun _ _ _ h => h) (Or.inl ⟨by rfl, ?_⟩) ?_ ?_
                rotate_left
                · intro w'
                  go_simp
                  with_reducible rfl
                rotate_left
                · simp only [Act.put, List.setIfInBounds_toArray, List.set_cons_zero, List.set_cons_succ, i64_w, i32_w]
                  rfl
                refine pure_ (i := 10) (N := (some 105)) (v := ?_) (a' := ?_) #[true, true, true, true, true, true, true, true, true, true, true, false, false, false, false, false, false, false, false, false, false, false, false, false, false, false, false, false, false, false, false, false, false, false, false, false, false] rfl rfl (by kernel_rfl) (fun _ _ _ h => h) (Or.inl ⟨by rfl, ?_⟩) ?_ ?_
                rotate_left
                · intro w'
                  go_simp
                  with_reducible rfl
                rotate_left
                · simp only [Act.put, List.setIfInBounds_toArray, List.set_cons_zero, List.set_cons_succ, i64_w, i32_w]
                  rfl
                refine pure_ (i := 11) (N := (some 106)) (v := ?_) (a' := ?_) #[true, true, true, true, true, true, true, true, true, true, true, true, false, false, false, false, false, false, false, false, false, false, false, false, false, false, false, false, false, false, false, false, false, false, false, false, false] rfl rfl (by kernel_rfl) (fun _ _ _ h => h) (Or.inl ⟨by rfl, ?_⟩) ?_ ?_
                rotate_left
                · intro w'
                  go_simp
                  with_reducible rfl
                rotate_left
                · simp only [Act.put, List.setIfInBounds_toArray, List.set_cons_zero, List.set_cons_succ, i64_w, i32_w]
                  rfl
                refine pure_ (i := 12) (N := (some 107)) (v := ?_) (a' := ?_) #[true, true, true, true, true, true, true, true, true, true, true, true, true, false, false, false, false, false, false, false, false, false, false, false, false, false, false, false, false, false, false, false, false, false, false, false, false] rfl rfl (by kernel_rfl) (fun _ _ _ h => h) (Or.inl ⟨by rfl, ?_⟩) ?_ ?_
                rotate_left
                · intro w'
                  go_simp
                  with_reducible rfl
                rotate_left
                · simp only [Act.put, List.setIfInBounds_toArray, List.set_cons_zero, List.set_cons_succ, i64_w, i32_w]
                  rfl
                refine pure_ (i := 13) (N := (some 108)) (v := ?_) (a' := ?_) #[true, true, true, true, true, true, true, true, true, true, true, true, true, true, false, false, false, false, false, false, false, false, false, false, false, false, false, false, false, false, false, false, false, false, false, false, false] rfl rfl (by kernel_rfl) (fun _ _ _ h => h) (Or.inl ⟨by rfl, ?_⟩) ?_ ?_
                rotate_left
                · intro w'
                  go_simp
                  with_reducible rfl
                rotate_left
                · simp only [Act.put, List.setIfInBounds_toArray, List.set_cons_zero, List.set_cons_succ, i64_w, i32_w]
                  rfl
                refine pure_ (i := 14) (N := (some 109)) (v := ?_) (a' := ?_) #[true, true, true, true, true, true, true, true, true, true, true, true, true, true, true, false, false, false, false, false, false, false, false, false, false, false, false, false, false, false, false, false, false, false, false, false, false] rfl rfl (by kernel_rfl) (fun _ _ _ h => h) (Or.inl ⟨by rfl, ?_⟩) ?_ ?_
                rotate_left
                · intro w'
                  go_simp
                  with_reducible rfl
                rotate_left
                · simp only [Act.put, List.setIfInBounds_toArray, List.set_cons_zero, List.set_cons_succ, i64_w, i32_w]
                  rfl
                refine pure_ (i := 15) (N := (some 110)) (v := ?_) (a' := ?_) #[true, true, true, true, true, true, true, true, true, true, true, true, true, true, true, true, false, false, false, false, false, false, false, false, false, false, false, false, false, false, false, false, false, false, false, false, false] rfl rfl (by kernel_rfl) (fun _ _ _ h => h) (Or.inl ⟨by rfl, ?_⟩) ?_ ?_
                rotate_left
                · intro w'
                  go_simp
                  with_reducible rfl
                rotate_left
                · simp only [Act.put, List.setIfInBounds_toArray, List.set_cons_zero, List.set_cons_succ, i64_w, i32_w]
                  rfl
                refine pure_ (i := 16) (N := (some 111)) (v := ?_) (a' := ?_) #[true, true, true, true, true, true, true, true, true, true, true, true, true, true, true, true, true, false, false, false, false, false, false, false, false, false, false, false, false, false, false, false, false, false, false, false, false] rfl rfl (by kernel_rfl) (fun _ _ _ h => h) (Or.inl ⟨by rfl, ?_⟩) ?_ ?_
                rotate_left
                · intro w'
                  go_simp
                  with_reducible rfl
                rotate_left
                · simp only [Act.put, List.setIfInBounds_toArray, List.set_cons_zero, List.set_cons_succ, i64_w, i32_w]
                  rfl
                refine pure_ (i := 17) (N := (some 112)) (v := ?_) (a' := ?_) #[true, true, true, true, true, true, true, true, true, true, true, true, true, true, true, true, true, true, false, false, false, false, false, false, false, false, false, false, false, false, false, false, false, false, false, false, false] rfl rfl (by kernel_rfl) (fun _ _ _ h => h) (Or.inl ⟨by rfl, ?_⟩) ?_ ?_
                rotate_left
                · intro w'
                  go_simp
                  with_reducible rfl
                rotate_left
                · simp only [Act.put, List.setIfInBounds_toArray, List.set_cons_zero, List.set_cons_succ, i64_w, i32_w]
                  rfl
                refine pure_ (i := 18) (N := (some 113)) (v := undef) (a' := ?_) #[true, true, true, true, true, true, true, true, true, true, true, true, true, true, true, true, true, true, true, false, false, false, false, false, false, false, false, false, false, false, false, false, false, false, false, false, false] rfl rfl (by kernel_rfl) (fun _ _ _ h => h) (Or.inr ⟨by rfl, rfl⟩) ?_ ?_
                rotate_left
                · simp only [Act.put, List.setIfInBounds_toArray, List.set_cons_zero, List.set_cons_succ, i64_w, i32_w]
                  rfl
                refine pure_ (i := 19) (N := (some 114)) (v := undef) (a' := ?_) #[true, true, true, true, true, true, true, true, true, true, true, true, true, true, true, true, true, true, true, true, false, false, false, false, false, false, false, false, false, false, false, false, false, false, false, false, false] rfl rfl (by kernel_rfl) (fun _ _ _ h => h) (Or.inr ⟨by rfl, rfl⟩) ?_ ?_
                rotate_left
                · simp only [Act.put, List.setIfInBounds_toArray, List.set_cons_zero, List.set_cons_succ, i64_w, i32_w]
                  rfl
                refine pure_ (i := 20) (N := (some 115)) (v := ?_) (a' := ?_) #[true, true, true, true, true, true, true, true, true, true, true, true, true, true, true, true, true, true, true, true, true, false, false, false, false, false, false, false, false, false, false, false, false, false, false, false, false] rfl rfl (by kernel_rfl) (fun _ _ _ h => h) (Or.inl ⟨by rfl, ?_⟩) ?_ ?_
                rotate_left
                · intro w'
                  go_simp
                  with_reducible rfl
                rotate_left
                · simp only [Act.put, List.setIfInBounds_toArray, List.set_cons_zero, List.set_cons_succ, i64_w, i32_w]
                  rfl
                refine pure_ (i := 21) (N := (some 116)) (v := ?_) (a' := ?_) #[true, true, true, true, true, true, true, true, true, true, true, true, true, true, true, true, true, true, true, true, true, true, false, false, false, false, false, false, false, false, false, false, false, false, false, false, false] rfl rfl (by kernel_rfl) (fun _ _ _ h => h) (Or.inl ⟨by rfl, ?_⟩) ?_ ?_
                rotate_left
                · intro w'
                  go_simp
                  with_reducible rfl
                rotate_left
                · simp only [Act.put, List.setIfInBounds_toArray, List.set_cons_zero, List.set_cons_succ, i64_w, i32_w]
                  rfl
                refine pure_ (i := 22) (N := (some 117)) (v := ?_) (a' := ?_) #[true, true, true, true, true, true, true, true, true, true, true, true, true, true, true, true, true, true, true, true, true, true, true, false, false, false, false, false, false, false, false, false, false, false, false, false, false] rfl rfl (by kernel_rfl) (fun _ _ _ h => h) (Or.inl ⟨by rfl, ?_⟩) ?_ ?_
                rotate_left
                · intro w'
                  go_simp
                  with_reducible rfl
                rotate_left
                · simp only [Act.put, List.setIfInBounds_toArray, List.set_cons_zero, List.set_cons_succ, i64_w, i32_w]
                  rfl
                refine pure_ (i := 23) (N := (some 118)) (v := ?_) (a' := ?_) #[true, true, true, true, true, true, true, true, true, true, true, true, true, true, true, true, true, true, true, true, true, true, true, true, false, false, false, false, false, false, false, false, false, false, false, false, false] rfl rfl (by kernel_rfl) (fun _ _ _ h => h) (Or.inl ⟨by rfl, ?_⟩) ?_ ?_
                rotate_left
                · intro w'
                  go_simp
                  with_reducible rfl
                rotate_left
                · simp only [Act.put, List.setIfInBounds_toArray, List.set_cons_zero, List.set_cons_succ, i64_w, i32_w]
                  rfl
                refine pure_ (i := 25) (N := (some 120)) (v := ?_) (a' := ?_) #[true, true, true, true, true, true, true, true, true, true, true, true, true, true, true, true, true, true, true, true, true, true, true, true, false, true, false, false, false, false, false, false, false, false, false, false, false] rfl rfl (by kernel_rfl) (fun _ _ _ h => h) (Or.inl ⟨by rfl, ?_⟩) ?_ ?_
                rotate_left
                · intro w'
                  go_simp
                  with_reducible rfl
                rotate_left
                · simp only [Act.put, List.setIfInBounds_toArray, List.set_cons_zero, List.set_cons_succ, i64_w, i32_w]
                  rfl
                refine take_ (i := 26) (N := (some 121)) (v := ?_) (a' := ?_) #[true, true, true, true, true, true, true, true, true, true, true, true, true, true, true, true, true, true, true, true, true, true, true, true, false, true, true, false, false, false, false, false, false, false, false, false, false] rfl rfl (by kernel_rfl) (fun _ _ _ h => h) (Or.inl ⟨by rfl, ?_⟩) hHeld ?_ ?_
                rotate_left
                · intro w' s0
                  have x3 : w'.cell? ⟨X, 3, none⟩ = some (.slice A8 s'.hl.length c8) := (blk_cell s0.1 3).trans rfl
                  go_simp
                  with_reducible rfl
                rotate_left
                · simp only [Act.put, List.setIfInBounds_toArray, List.set_cons_zero, List.set_cons_succ, i64_w, i32_w]
                  rfl
                refine pure_ (i := 27) (N := (some 122)) (v := ?_) (a' := ?_) #[true, true, true, true, true, true, true, true, true, true, true, true, true, true, true, true, true, true, true, true, true, true, true, true, false, true, true, true, false, false, false, false, false, false, false, false, false] rfl rfl (by kernel_rfl) (fun _ _ _ h => h) (Or.inl ⟨by rfl, ?_⟩) ?_ ?_
                rotate_left
                · intro w'
                  go_simp
                  with_reducible rfl
                rotate_left
                · simp only [Act.put, List.setIfInBounds_toArray, List.set_cons_zero, List.set_cons_succ, i64_w, i32_w]
                  rfl
                refine one_ (i := 24) (N := (some 119)) #[true, true, true, true, true, true, true, true, true, true, true, true, true, true, true, true, true, true, true, true, true, true, true, true, true, true, true, true, false, false, false, false, false, false, false, false, false] rfl rfl (by kernel_rfl) (by decide) (fun K hK => ?_)
                refine goes_ (f := 59) Try.func59 (by kernel_rfl) rfl #[.pointer (some ⟨g, 0, none⟩)] (by rfl) rfl rfl (by simp [Act.eval, Act.put]) ?_
                refine (held_made w.heap.size g v' s' _ hHeld.2.1 HQ'.out).mono ?_
                rintro e w8 ⟨rfl, hd9⟩
                refine ⟨_, rfl, hK.out _ _ ⟨blk_below hHeld.1 hd9.below, hHeld.2.1.drawn hd9, hHeld.2.2.1.trans (hd9.below.mono hHeld.2.2.1.size), Kd.R_below hHeld.2.2.2 hd9.below⟩ (fun hHeld => ?_)⟩
                simp only [Act.put, List.setIfInBounds_toArray, List.set_cons_zero, List.set_cons_succ]
                clear hK K
                clear hd9
                refine pure_ (i := 28) (N := (some 123)) (v := ?_) (a' := ?_) #[true, true, true, true, true, true, true, true, true, true, true, true, true, true, true, true, true, true, true, true, true, true, true, true, true, true, true, true, true, false, false, false, false, false, false, false, false] rfl rfl (by kernel_rfl) (fun _ _ _ h => h) (Or.inl ⟨by rfl, ?_⟩) ?_ ?_
                rotate_left
                · intro w'
                  go_simp
                  with_reducible rfl
                rotate_left
                · simp only [Act.put, List.setIfInBounds_toArray, List.set_cons_zero, List.set_cons_succ, i64_w, i32_w]
                  rfl
                refine pure_ (i := 29) (N := (some 124)) (v := ?_) (a' := ?_) #[true, true, true, true, true, true, true, true, true, true, true, true, true, true, true, true, true, true, true, true, true, true, true, true, true, true, true, true, true, true, false, false, false, false, false, false, false] rfl rfl (by kernel_rfl) (fun _ _ _ h => h) (Or.inl ⟨by rfl, ?_⟩) ?_ ?_
                rotate_left
                · intro w'
                  go_simp
                  with_reducible rfl
                rotate_left
                · simp only [Act.put, List.setIfInBounds_toArray, List.set_cons_zero, List.set_cons_succ, i64_w, i32_w]
                  rfl
                refine pure_ (i := 30) (N := (some 125)) (v := ?_) (a' := ?_) #[true, true, true, true, true, true, true, true, true, true, true, true, true, true, true, true, true, true, true, true, true, true, true, true, true, true, true, true, true, true, true, false, false, false, false, false, false] rfl rfl (by kernel_rfl) (fun _ _ _ h => h) (Or.inl ⟨by rfl, ?_⟩) ?_ ?_
                rotate_left
                · intro w'
                  go_simp
                  with_reducible rfl
                rotate_left
                · simp only [Act.put, List.setIfInBounds_toArray, List.set_cons_zero, List.set_cons_succ, i64_w, i32_w]
                  rfl
                refine pure_ (i := 31) (N := (some 126)) (v := ?_) (a' := ?_) #[true, true, true, true, true, true, true, true, true, true, true, true, true, true, true, true, true, true, true, true, true, true, true, true, true, true, true, true, true, true, true, true, false, false, false, false, false] rfl rfl (by kernel_rfl) (fun _ _ _ h => h) (Or.inl ⟨by rfl, ?_⟩) ?_ ?_
                rotate_left
                · intro w'
                  go_simp
                  with_reducible rfl
                rotate_left
                · simp only [Act.put, List.setIfInBounds_toArray, List.set_cons_zero, List.set_cons_succ, i64_w, i32_w]
                  rfl
                refine pure_ (i := 33) (N := (some 128)) (v := ?_) (a' := ?_) #[true, true, true, true, true, true, true, true, true, true, true, true, true, true, true, true, true, true, true, true, true, true, true, true, true, true, true, true, true, true, true, true, false, true, false, false, false] rfl rfl (by kernel_rfl) (fun _ _ _ h => h) (Or.inl ⟨by rfl, ?_⟩) ?_ ?_
                rotate_left
                · intro w'
                  go_simp
                  with_reducible rfl
                rotate_left
                · simp only [Act.put, List.setIfInBounds_toArray, List.set_cons_zero, List.set_cons_succ, i64_w, i32_w]
                  rfl
                refine take_ (i := 34) (N := (some 129)) (v := ?_) (a' := ?_) #[true, true, true, true, true, true, true, true, true, true, true, true, true, true, true, true, true, true, true, true, true, true, true, true, true, true, true, true, true, true, true, true, false, true, true, false, false] rfl rfl (by kernel_rfl) (fun _ _ _ h => h) (Or.inl ⟨by rfl, ?_⟩) hHeld ?_ ?_
                rotate_left
                · intro w' s0
                  have x4 : w'.cell? ⟨X, 4, none⟩ = some (.int .i64 s'.lost) := (blk_cell s0.1 4).trans rfl
                  go_simp
                  with_reducible rfl
                rotate_left
                · simp only [Act.put, List.setIfInBounds_toArray, List.set_cons_zero, List.set_cons_succ, i64_w, i32_w]
                  rfl
                refine one_ (i := 32) (N := (some 127)) #[true, true, true, true, true, true, true, true, true, true, true, true, true, true, true, true, true, true, true, true, true, true, true, true, true, true, true, true, true, true, true, true, true, true, true, false, false] rfl rfl (by kernel_rfl) (by decide) (fun K hK => ?_)
                refine goes_ (f := 60) Try.func60 (by kernel_rfl) rfl #[.pointer (some ⟨g, 0, none⟩)] (by rfl) rfl rfl (by simp [Act.eval, Act.put]) ?_
                refine (lost_made w.heap.size g v' s' _ hHeld.2.1 HQ'.out).mono ?_
                rintro e w9 ⟨rfl, hd9⟩
                refine ⟨_, rfl, hK.out _ _ ⟨blk_below hHeld.1 hd9.below, hHeld.2.1.drawn hd9, hHeld.2.2.1.trans (hd9.below.mono hHeld.2.2.1.size), Kd.R_below hHeld.2.2.2 hd9.below⟩ (fun hHeld => ?_)⟩
                simp only [Act.put, List.setIfInBounds_toArray, List.set_cons_zero, List.set_cons_succ]
                clear hK K
                clear hd9
                refine pure_ (i := 35) (N := (some 130)) (v := ?_) (a' := ?_) #[true, true, true, true, true, true, true, true, true, true, true, true, true, true, true, true, true, true, true, true, true, true, true, true, true, true, true, true, true, true, true, true, true, true, true, true, false] rfl rfl (by kernel_rfl) (fun _ _ _ h => h) (Or.inl ⟨by rfl, ?_⟩) ?_ ?_
                rotate_left
                · intro w'
                  go_simp
                  with_reducible rfl
                rotate_left
                · simp only [Act.put, List.setIfInBounds_toArray, List.set_cons_zero, List.set_cons_succ, i64_w, i32_w]
                  rfl
                refine pure_ (i := 36) (N := (some 131)) (v := ?_) (a' := ?_) #[true, true, true, true, true, true, true, true, true, true, true, true, true, true, true, true, true, true, true, true, true, true, true, true, true, true, true, true, true, true, true, true, true, true, true, true, true] rfl rfl (by kernel_rfl) (fun _ _ _ h => h) (Or.inl ⟨by rfl, ?_⟩) ?_ ?_
                rotate_left
                · intro w'
                  go_simp
                  with_reducible rfl
                rotate_left
                · simp only [Act.put, List.setIfInBounds_toArray, List.set_cons_zero, List.set_cons_succ, i64_w, i32_w]
                  rfl
                refine done_ (by kernel_rfl) ?_
                obtain ⟨hXe, hCe, hBe, hRe⟩ := hHeld
                have HXe := Aside0.mk hXe
                have HCe := Aside0.mk hCe
                have HBe := Aside0.mk hBe
                have HRe := Aside0.mk hRe
                clear hXe hCe hBe hRe
                have hT := HT.out
                by_cases h8 : (i : Int) % 64 = 9
                · have d8 : ((i : Int) % 64 == 9) = true := beq_iff_eq.2 h8
                  clear h8
                  go_wp2_with fail
                  refine (tk_clone w w9 g v' s' HCe.out HBe.out HQ'.out HHL.out).mono ?_
                  rintro e w10 ⟨g2, v2, rfl, hc2, hb2, hb3, hg2, hv2⟩
                  have HC10 := Aside0.mk hc2
                  have HCO := Aside0.mk (show Ct w10 w.heap.size g v' s' from ⟨blk_below HCe.out.1 hb3, Kd.R_below HCe.out.2.1 hb3, HCe.out.2.2⟩)
                  have HX10 := Aside0.mk (blk_below HXe.out hb3)
                  have HB10 := Aside0.mk hb2
                  have HR10 := Aside0.mk (Kd.R_below HRe.out hb3)
                  have HG2 := Aside0.mk hg2
                  have HV2' := Aside0.mk hv2
                  clear hc2 hb2 hb3 hg2 hv2
                  go_wp2_with fail
                  obtain ⟨s9, u9, is9, b9, en9, hcall9, _, _, _, _, _, _⟩ := sign_both w w10 g v' s' 1099511627776 120 HCO.out HB10.out HOK'.out
                  refine hcall9.mono ?_
                  rintro e w11 ⟨rfl, v9, hT9⟩
                  have HN1 : Aside0 (g2 ≠ g) := ⟨fun e => by have := blk_lt HCe.out.1; have := HG2.out; omega⟩
                  have HN2 : Aside0 (∀ k, v'.ownBlock = some k → k < w9.heap.size) := ⟨Kd.R_lt HCe.out.2.1⟩
                  have HX11 := Aside0.mk (blk_kept HX10.out hT9.kept (fun h => h.elim (fun e => HGX.out e.symm) (fun e => (Kd.R_ne HCe.out.2.1 HXe.out (by decide)) e)))
                  have HC11 := Aside0.mk (show Ct w11 w.heap.size g2 v2 s' from ⟨blk_kept HC10.out.1 hT9.kept (fun h => h.elim HN1.out (fun e => by have := HN2.out g2 e.symm; have := HG2.out; omega)), Kd.R_mono (Kd.R_kept (Kd.R_tight rfl HC10.out.2.1) hT9.kept (fun k hk h => h.elim (fun e => by have := HV2'.out k hk.symm; have := blk_lt HCe.out.1; omega) (fun e => by have := HN2.out k e.symm; have := HV2'.out k hk.symm; omega))) (fun _ _ => trivial), HC10.out.2.2⟩)
                  have HR11 := Aside0.mk (Kd.R_kept HR10.out hT9.kept (fun k hk h => h.elim (HSEP2.out k hk.symm).1 (HSEP2.out k hk.symm).2))
                  have HS11 : Aside0 (∀ k, (Value.slice A8 s'.hl.length c8).ownBlock = some k → k ≠ g2 ∧ some k ≠ v2.ownBlock) := ⟨fun k hk => by
                    have h1 := Kd.R_lt HRe.out k hk
                    have h2 := HG2.out
                    exact ⟨by omega, fun e => by have := HV2'.out k e.symm; omega⟩⟩
                  have HB11 := Aside0.mk hT9.below
                  clear hT9 hcall9
                  go_wp2
                  go_roundw
                  case rel => exact ⟨i + 1, t', g2, v2, s', .slice A8 s'.hl.length c8, by have := HLT.out; omega, by go_num, by first | rfl | trivial, by first | rfl | trivial, HC11, HX11, HR11, HS11, HB11, HST', HT2⟩
                  case measure => have := HLT.out; simp [intOf]; omega
                · have d8 : ((i : Int) % 64 == 9) = false := beq_eq_false_iff_ne.2 h8
                  clear h8
                  go_wp2
                  go_roundw
                  case rel => exact ⟨i + 1, t', g, v', s', .slice A8 s'.hl.length c8, by have := HLT.out; omega, by go_num, by first | rfl | trivial, by first | rfl | trivial, HCe, HXe, HRe, HSEP2, HBe, HST', HT2⟩
                  case measure => have := HLT.out; simp [intOf]; omega
              · skip
                refine start_ (n := 37) (S := fun U => U.heap[X]? = some (.cells (xc s' (.slice A8 s'.hl.length c8)) 100 (0, 0)) ∧ Ct U w.heap.size g v' s' ∧ Below w.heap.size w U ∧ Kd.R (Kd.int .u8) 5 U w.heap.size (fun k => some k = (Value.slice A8 s'.hl.length c8).ownBlock) (.slice A8 s'.hl.length c8) s'.hl) (ds := []) #[false, false, false, false, false, false, false, false, false, false, false, false, false, false, false, false, false, false, false, false, false, false, false, false, false, false, false, false, false, false, false, false, false, false, false, false, false] (by kernel_rfl) rfl rfl ⟨blk_drew HX2.out, HCT2.out.drawn ⟨⟨1, rfl⟩⟩, below_drew1 HB2.out, Kd.R_drew HV2.out⟩ (fun hHeld => ?_)
                refine pure_ (i := 0) (N := (some 95)) (v := ?_) (a' := ?_) #[true, false, false, false, false, false, false, false, false, false, false, false, false, false, false, false, false, false, false, false, false, false, false, false, false, false, false, false, false, false, false, false, false, false, false, false, false] rfl rfl (by kernel_rfl) (fun _ _ _ h => h) (Or.inl ⟨by rfl, ?_⟩) ?_ ?_
                rotate_left
                · intro w'
                  go_simp
                  with_reducible rfl
                rotate_left
                · simp only [Act.put, List.setIfInBounds_toArray, List.set_cons_zero, List.set_cons_succ, i64_w, i32_w]
                  rfl
                refine pure_ (i := 1) (N := (some 96)) (v := ?_) (a' := ?_) #[true, true, false, false, false, false, false, false, false, false, false, false, false, false, false, false, false, false, false, false, false, false, false, false, false, false, false, false, false, false, false, false, false, false, false, false, false] rfl rfl (by kernel_rfl) (fun _ _ _ h => h) (Or.inl ⟨by rfl, ?_⟩) ?_ ?_
                rotate_left
                · intro w'
                  go_simp
                  with_reducible rfl
                rotate_left
                · simp only [Act.put, List.setIfInBounds_toArray, List.set_cons_zero, List.set_cons_succ, i64_w, i32_w]
                  rfl
                refine pure_ (i := 2) (N := (some 97)) (v := ?_) (a' := ?_) #[true, true, true, false, false, false, false, false, false, false, false, false, false, false, false, false, false, false, false, false, false, false, false, false, false, false, false, false, false, false, false, false, false, false, false, false, false] rfl rfl (by kernel_rfl) (fun _ _ _ h => h) (Or.inl ⟨by rfl, ?_⟩) ?_ ?_
                rotate_left
                · intro w'
                  go_simp
                  with_reducible rfl
                rotate_left
                · simp only [Act.put, List.setIfInBounds_toArray, List.set_cons_zero, List.set_cons_succ, i64_w, i32_w]
                  rfl
                refine pure_ (i := 3) (N := (some 98)) (v := ?_) (a' := ?_) #[true, true, true, true, false, false, false, false, false, false, false, false, false, false, false, false, false, false, false, false, false, false, false, false, false, false, false, false, false, false, false, false, false, false, false, false, false] rfl rfl (by kernel_rfl) (fun _ _ _ h => h) (Or.inl ⟨by rfl, ?_⟩) ?_ ?_
                rotate_left
                · intro w'
                  go_simp
                  with_reducible rfl
                rotate_left
                · simp only [Act.put, List.setIfInBounds_toArray, List.set_cons_zero, List.set_cons_succ, i64_w, i32_w]
                  rfl
                refine pure_ (i := 4) (N := (some 99)) (v := ?_) (a' := ?_) #[true, true, true, true, true, false, false, false, false, false, false, false, false, false, false, false, false, false, false, false, false, false, false, false, false, false, false, false, false, false, false, false, false, false, false, false, false] rfl rfl (by kernel_rfl) (fun _ _ _ h => h) (Or.inl ⟨by rfl, ?_⟩) ?_ ?_
                rotate_left
                · intro w'
                  go_simp
                  with_reducible rfl
                rotate_left
                · simp only [Act.put, List.setIfInBounds_toArray, List.set_cons_zero, List.set_cons_succ, i64_w, i32_w]
                  rfl
                refine pure_ (i := 5) (N := (some 100)) (v := ?_) (a' := ?_) #[true, true, true, true, true, true, false, false, false, false, false, false, false, false, false, false, false, false, false, false, false, false, false, false, false, false, false, false, false, false, false, false, false, false, false, false, false] rfl rfl (by kernel_rfl) (fun _ _ _ h => h) (Or.inl ⟨by rfl, ?_⟩) ?_ ?_
                rotate_left
                · intro w'
                  go_simp
                  with_reducible rfl
                rotate_left
                · simp only [Act.put, List.setIfInBounds_toArray, List.set_cons_zero, List.set_cons_succ, i64_w, i32_w]
                  rfl
                refine pure_ (i := 6) (N := (some 101)) (v := ?_) (a' := ?_) #[true, true, true, true, true, true, true, false, false, false, false, false, false, false, false, false, false, false, false, false, false, false, false, false, false, false, false, false, false, false, false, false, false, false, false, false, false] rfl rfl (by kernel_rfl) (fun _ _ _ h => h) (Or.inl ⟨by rfl, ?_⟩) ?_ ?_
                rotate_left
                · intro w'
                  go_simp
                  with_reducible rfl
                rotate_left
                · simp only [Act.put, List.setIfInBounds_toArray, List.set_cons_zero, List.set_cons_succ, i64_w, i32_w]
                  rfl
                refine pure_ (i := 7) (N := (some 102)) (v := ?_) (a' := ?_) #[true, true, true, true, true, true, true, true, false, false, false, false, false, false, false, false, false, false, false, false, false, false, false, false, false, false, false, false, false, false, false, false, false, false, false, false, false] rfl rfl (by kernel_rfl) (fun _ _ _ h => h) (Or.inl ⟨by rfl, ?_⟩) ?_ ?_
                rotate_left
                · intro w'
                  go_simp
                  with_reducible rfl
                rotate_left
                · simp only [Act.put, List.setIfInBounds_toArray, List.set_cons_zero, List.set_cons_succ, i64_w, i32_w]
                  rfl
                refine pure_ (i := 8) (N := (some 103)) (v := ?_) (a' := ?_) #[true, true, true, true, true, true, true, true, true, false, false, false, false, false, false, false, false, false, false, false, false, false, false, false, false, false, false, false, false, false, false, false, false, false, false, false, false] rfl rfl (by kernel_rfl) (fun _ _ _ h => h) (Or.inl ⟨by rfl, ?_⟩) ?_ ?_
                rotate_left
                · intro w'
                  go_simp
                  with_reducible rfl
                rotate_left
                · simp only [Act.put, List.setIfInBounds_toArray, List.set_cons_zero, List.set_cons_succ, i64_w, i32_w]
                  rfl
                refine pure_ (i := 9) (N := (some 104)) (v := ?_) (a' := ?_) #[true, true, true, true, true, true, true, true, true, true, false, false, false, false, false, false, false, false, false, false, false, false, false, false, false, false, false, false, false, false, false, false, false, false, false, false, false] rfl rfl (by kernel_rfl) (fun _ _ _ h => h) (Or.inl ⟨by rfl, ?_⟩) ?_ ?_
                rotate_left
                · intro w'
                  go_simp
                  with_reducible rfl
                rotate_left
                · simp only [Act.put, List.setIfInBounds_toArray, List.set_cons_zero, List.set_cons_succ, i64_w, i32_w]
                  rfl
                refine pure_ (i := 10) (N := (some 105)) (v := ?_) (a' := ?_) #[true, true, true, true, true, true, true, true, true, true, true, false, false, false, false, false, false, false, false, false, false, false, false, false, false, false, false, false, false, false, false, false, false, false, false, false, false] rfl rfl (by kernel_rfl) (fun _ _ _ h => h) (Or.inl ⟨by rfl, ?_⟩) ?_ ?_
                rotate_left
                · intro w'
                  go_simp
                  with_reducible rfl
                rotate_left
                · simp only [Act.put, List.setIfInBounds_toArray, List.set_cons_zero, List.set_cons_succ, i64_w, i32_w]
                  rfl
                refine pure_ (i := 11) (N := (some 106)) (v := ?_) (a' := ?_) #[true, true, true, true, true, true, true, true, true, true, true, true, false, false, false, false, false, false, false, false, false, false, false, false, false, false, false, false, false, false, false, false, false, false, false, false, false] rfl rfl (by kernel_rfl) (fun _ _ _ h => h) (Or.inl ⟨by rfl, ?_⟩) ?_ ?_
                rotate_left
                · intro w'
                  go_simp
                  with_reducible rfl
                rotate_left
                · simp only [Act.put, List.setIfInBounds_toArray, List.set_cons_zero, List.set_cons_succ, i64_w, i32_w]
                  rfl
                refine pure_ (i := 12) (N := (some 107)) (v := ?_) (a' := ?_) #[true, true, true, true, true, true, true, true, true, true, true, true, true, false, false, false, false, false, false, false, false, false, false, false, false, false, false, false, false, false, false, false, false, false, false, false, false] rfl rfl (by kernel_rfl) (fun _ _ _ h => h) (Or.inl ⟨by rfl, ?_⟩) ?_ ?_
                rotate_left
                · intro w'
                  go_simp
                  with_reducible rfl
                rotate_left
                · simp only [Act.put, List.setIfInBounds_toArray, List.set_cons_zero, List.set_cons_succ, i64_w, i32_w]
                  rfl
                refine pure_ (i := 13) (N := (some 108)) (v := ?_) (a' := ?_) #[true, true, true, true, true, true, true, true, true, true, true, true, true, true, false, false, false, false, false, false, false, false, false, false, false, false, false, false, false, false, false, false, false, false, false, false, false] rfl rfl (by kernel_rfl) (fun _ _ _ h => h) (Or.inl ⟨by rfl, ?_⟩) ?_ ?_
                rotate_left
                · intro w'
                  go_simp
                  with_reducible rfl
                rotate_left
                · simp only [Act.put, List.setIfInBounds_toArray, List.set_cons_zero, List.set_cons_succ, i64_w, i32_w]
                  rfl
                refine pure_ (i := 14) (N := (some 109)) (v := ?_) (a' := ?_) #[true, true, true, true, true, true, true, true, true, true, true, true, true, true, true, false, false, false, false, false, false, false, false, false, false, false, false, false, false, false, false, false, false, false, false, false, false] rfl rfl (by kernel_rfl) (fun _ _ _ h => h) (Or.inl ⟨by rfl, ?_⟩) ?_ ?_
                rotate_left
                · intro w'
                  go_simp
                  with_reducible rfl
                rotate_left
                · simp only [Act.put, List.setIfInBounds_toArray, List.set_cons_zero, List.set_cons_succ, i64_w, i32_w]
                  rfl
                refine pure_ (i := 15) (N := (some 110)) (v := ?_) (a' := ?_) #[true, true, true, true, true, true, true, true, true, true, true, true, true, true, true, true, false, false, false, false, false, false, false, false, false, false, false, false, false, false, false, false, false, false, false, false, false] rfl rfl (by kernel_rfl) (fun _ _ _ h => h) (Or.inl ⟨by rfl, ?_⟩) ?_ ?_
                rotate_left
                · intro w'
                  go_simp
                  with_reducible rfl
                rotate_left
                · simp only [Act.put, List.setIfInBounds_toArray, List.set_cons_zero, List.set_cons_succ, i64_w, i32_w]
                  rfl
                refine pure_ (i := 16) (N := (some 111)) (v := ?_) (a' := ?_) #[true, true, true, true, true, true, true, true, true, true, true, true, true, true, true, true, true, false, false, false, false, false, false, false, false, false, false, false, false, false, false, false, false, false, false, false, false] rfl rfl (by kernel_rfl) (fun _ _ _ h => h) (Or.inl ⟨by rfl, ?_⟩) ?_ ?_
                rotate_left
                · intro w'
                  go_simp
                  with_reducible rfl
                rotate_left
                · simp only [Act.put, List.setIfInBounds_toArray, List.set_cons_zero, List.set_cons_succ, i64_w, i32_w]
                  rfl
                refine pure_ (i := 17) (N := (some 112)) (v := ?_) (a' := ?_) #[true, true, true, true, true, true, true, true, true, true, true, true, true, true, true, true, true, true, false, false, false, false, false, false, false, false, false, false, false, false, false, false, false, false, false, false, false] rfl rfl (by kernel_rfl) (fun _ _ _ h => h) (Or.inl ⟨by rfl, ?_⟩) ?_ ?_
                rotate_left
                · intro w'
                  go_simp
                  with_reducible rfl
                rotate_left
                · simp only [Act.put, List.setIfInBounds_toArray, List.set_cons_zero, List.set_cons_succ, i64_w, i32_w]
                  rfl
                refine pure_ (i := 18) (N := (some 113)) (v := ?_) (a' := ?_) #[true, true, true, true, true, true, true, true, true, true, true, true, true, true, true, true, true, true, true, false, false, false, false, false, false, false, false, false, false, false, false, false, false, false, false, false, false] rfl rfl (by kernel_rfl) (fun _ _ _ h => h) (Or.inl ⟨by rfl, ?_⟩) ?_ ?_
                rotate_left
                · intro w'
                  go_simp
                  with_reducible rfl
                rotate_left
                · simp only [Act.put, List.setIfInBounds_toArray, List.set_cons_zero, List.set_cons_succ, i64_w, i32_w]
                  rfl
                refine pure_ (i := 19) (N := (some 114)) (v := ?_) (a' := ?_) #[true, true, true, true, true, true, true, true, true, true, true, true, true, true, true, true, true, true, true, true, false, false, false, false, false, false, false, false, false, false, false, false, false, false, false, false, false] rfl rfl (by kernel_rfl) (fun _ _ _ h => h) (Or.inl ⟨by rfl, ?_⟩) ?_ ?_
                rotate_left
                · intro w'
                  go_simp
                  with_reducible rfl
                rotate_left
                · simp only [Act.put, List.setIfInBounds_toArray, List.set_cons_zero, List.set_cons_succ, i64_w, i32_w]
                  rfl
                refine pure_ (i := 20) (N := (some 115)) (v := ?_) (a' := ?_) #[true, true, true, true, true, true, true, true, true, true, true, true, true, true, true, true, true, true, true, true, true, false, false, false, false, false, false, false, false, false, false, false, false, false, false, false, false] rfl rfl (by kernel_rfl) (fun _ _ _ h => h) (Or.inl ⟨by rfl, ?_⟩) ?_ ?_
                rotate_left
                · intro w'
                  go_simp
                  with_reducible rfl
                rotate_left
                · simp only [Act.put, List.setIfInBounds_toArray, List.set_cons_zero, List.set_cons_succ, i64_w, i32_w]
                  rfl
                refine pure_ (i := 21) (N := (some 116)) (v := ?_) (a' := ?_) #[true, true, true, true, true, true, true, true, true, true, true, true, true, true, true, true, true, true, true, true, true, true, false, false, false, false, false, false, false, false, false, false, false, false, false, false, false] rfl rfl (by kernel_rfl) (fun _ _ _ h => h) (Or.inl ⟨by rfl, ?_⟩) ?_ ?_
                rotate_left
                · intro w'
                  go_simp
                  with_reducible rfl
                rotate_left
                · simp only [Act.put, List.setIfInBounds_toArray, List.set_cons_zero, List.set_cons_succ, i64_w, i32_w]
                  rfl
                refine pure_ (i := 22) (N := (some 117)) (v := ?_) (a' := ?_) #[true, true, true, true, true, true, true, true, true, true, true, true, true, true, true, true, true, true, true, true, true, true, true, false, false, false, false, false, false, false, false, false, false, false, false, false, false] rfl rfl (by kernel_rfl) (fun _ _ _ h => h) (Or.inl ⟨by rfl, ?_⟩) ?_ ?_
                rotate_left
                · intro w'
                  go_simp
                  with_reducible rfl
                rotate_left
                · simp only [Act.put, List.setIfInBounds_toArray, List.set_cons_zero, List.set_cons_succ, i64_w, i32_w]
                  rfl
                refine pure_ (i := 23) (N := (some 118)) (v := ?_) (a' := ?_) #[true, true, true, true, true, true, true, true, true, true, true, true, true, true, true, true, true, true, true, true, true, true, true, true, false, false, false, false, false, false, false, false, false, false, false, false, false] rfl rfl (by kernel_rfl) (fun _ _ _ h => h) (Or.inl ⟨by rfl, ?_⟩) ?_ ?_
                rotate_left
                · intro w'
                  go_simp
                  with_reducible rfl
                rotate_left
                · simp only [Act.put, List.setIfInBounds_toArray, List.set_cons_zero, List.set_cons_succ, i64_w, i32_w]
                  rfl
                refine pure_ (i := 25) (N := (some 120)) (v := ?_) (a' := ?_) #[true, true, true, true, true, true, true, true, true, true, true, true, true, true, true, true, true, true, true, true, true, true, true, true, false, true, false, false, false, false, false, false, false, false, false, false, false] rfl rfl (by kernel_rfl) (fun _ _ _ h => h) (Or.inl ⟨by rfl, ?_⟩) ?_ ?_
                rotate_left
                · intro w'
                  go_simp
                  with_reducible rfl
                rotate_left
                · simp only [Act.put, List.setIfInBounds_toArray, List.set_cons_zero, List.set_cons_succ, i64_w, i32_w]
                  rfl
                refine take_ (i := 26) (N := (some 121)) (v := ?_) (a' := ?_) #[true, true, true, true, true, true, true, true, true, true, true, true, true, true, true, true, true, true, true, true, true, true, true, true, false, true, true, false, false, false, false, false, false, false, false, false, false] rfl rfl (by kernel_rfl) (fun _ _ _ h => h) (Or.inl ⟨by rfl, ?_⟩) hHeld ?_ ?_
                rotate_left
                · intro w' s0
                  have x3 : w'.cell? ⟨X, 3, none⟩ = some (.slice A8 s'.hl.length c8) := (blk_cell s0.1 3).trans rfl
                  go_simp
                  with_reducible rfl
                rotate_left
                · simp only [Act.put, List.setIfInBounds_toArray, List.set_cons_zero, List.set_cons_succ, i64_w, i32_w]
                  rfl
                refine pure_ (i := 27) (N := (some 122)) (v := ?_) (a' := ?_) #[true, true, true, true, true, true, true, true, true, true, true, true, true, true, true, true, true, true, true, true, true, true, true, true, false, true, true, true, false, false, false, false, false, false, false, false, false] rfl rfl (by kernel_rfl) (fun _ _ _ h => h) (Or.inl ⟨by rfl, ?_⟩) ?_ ?_
                rotate_left
                · intro w'
                  go_simp
                  with_reducible rfl
                rotate_left
                · simp only [Act.put, List.setIfInBounds_toArray, List.set_cons_zero, List.set_cons_succ, i64_w, i32_w]
                  rfl
                refine one_ (i := 24) (N := (some 119)) #[true, true, true, true, true, true, true, true, true, true, true, true, true, true, true, true, true, true, true, true, true, true, true, true, true, true, true, true, false, false, false, false, false, false, false, false, false] rfl rfl (by kernel_rfl) (by decide) (fun K hK => ?_)
                refine goes_ (f := 59) Try.func59 (by kernel_rfl) rfl #[.pointer (some ⟨g, 0, none⟩)] (by rfl) rfl rfl (by simp [Act.eval, Act.put]) ?_
                refine (held_made w.heap.size g v' s' _ hHeld.2.1 HQ'.out).mono ?_
                rintro e w8 ⟨rfl, hd9⟩
                refine ⟨_, rfl, hK.out _ _ ⟨blk_below hHeld.1 hd9.below, hHeld.2.1.drawn hd9, hHeld.2.2.1.trans (hd9.below.mono hHeld.2.2.1.size), Kd.R_below hHeld.2.2.2 hd9.below⟩ (fun hHeld => ?_)⟩
                simp only [Act.put, List.setIfInBounds_toArray, List.set_cons_zero, List.set_cons_succ]
                clear hK K
                clear hd9
                refine pure_ (i := 28) (N := (some 123)) (v := ?_) (a' := ?_) #[true, true, true, true, true, true, true, true, true, true, true, true, true, true, true, true, true, true, true, true, true, true, true, true, true, true, true, true, true, false, false, false, false, false, false, false, false] rfl rfl (by kernel_rfl) (fun _ _ _ h => h) (Or.inl ⟨by rfl, ?_⟩) ?_ ?_
                rotate_left
                · intro w'
                  go_simp
                  with_reducible rfl
                rotate_left
                · simp only [Act.put, List.setIfInBounds_toArray, List.set_cons_zero, List.set_cons_succ, i64_w, i32_w]
                  rfl
                refine pure_ (i := 29) (N := (some 124)) (v := ?_) (a' := ?_) #[true, true, true, true, true, true, true, true, true, true, true, true, true, true, true, true, true, true, true, true, true, true, true, true, true, true, true, true, true, true, false, false, false, false, false, false, false] rfl rfl (by kernel_rfl) (fun _ _ _ h => h) (Or.inl ⟨by rfl, ?_⟩) ?_ ?_
                rotate_left
                · intro w'
                  go_simp
                  with_reducible rfl
                rotate_left
                · simp only [Act.put, List.setIfInBounds_toArray, List.set_cons_zero, List.set_cons_succ, i64_w, i32_w]
                  rfl
                refine pure_ (i := 30) (N := (some 125)) (v := ?_) (a' := ?_) #[true, true, true, true, true, true, true, true, true, true, true, true, true, true, true, true, true, true, true, true, true, true, true, true, true, true, true, true, true, true, true, false, false, false, false, false, false] rfl rfl (by kernel_rfl) (fun _ _ _ h => h) (Or.inl ⟨by rfl, ?_⟩) ?_ ?_
                rotate_left
                · intro w'
                  go_simp
                  with_reducible rfl
                rotate_left
                · simp only [Act.put, List.setIfInBounds_toArray, List.set_cons_zero, List.set_cons_succ, i64_w, i32_w]
                  rfl
                refine pure_ (i := 31) (N := (some 126)) (v := ?_) (a' := ?_) #[true, true, true, true, true, true, true, true, true, true, true, true, true, true, true, true, true, true, true, true, true, true, true, true, true, true, true, true, true, true, true, true, false, false, false, false, false] rfl rfl (by kernel_rfl) (fun _ _ _ h => h) (Or.inl ⟨by rfl, ?_⟩) ?_ ?_
                rotate_left
                · intro w'
                  go_simp
                  with_reducible rfl
                rotate_left
                · simp only [Act.put, List.setIfInBounds_toArray, List.set_cons_zero, List.set_cons_succ, i64_w, i32_w]
                  rfl
                refine pure_ (i := 33) (N := (some 128)) (v := ?_) (a' := ?_) #[true, true, true, true, true, true, true, true, true, true, true, true, true, true, true, true, true, true, true, true, true, true, true, true, true, true, true, true, true, true, true, true, false, true, false, false, false] rfl rfl (by kernel_rfl) (fun _ _ _ h => h) (Or.inl ⟨by rfl, ?_⟩) ?_ ?_
                rotate_left
                · intro w'
                  go_simp
                  with_reducible rfl
                rotate_left
                · simp only [Act.put, List.setIfInBounds_toArray, List.set_cons_zero, List.set_cons_succ, i64_w, i32_w]
                  rfl
                refine take_ (i := 34) (N := (some 129)) (v := ?_) (a' := ?_) #[true, true, true, true, true, true, true, true, true, true, true, true, true, true, true, true, true, true, true, true, true, true, true, true, true, true, true, true, true, true, true, true, false, true, true, false, false] rfl rfl (by kernel_rfl) (fun _ _ _ h => h) (Or.inl ⟨by rfl, ?_⟩) hHeld ?_ ?_
                rotate_left
                · intro w' s0
                  have x4 : w'.cell? ⟨X, 4, none⟩ = some (.int .i64 s'.lost) := (blk_cell s0.1 4).trans rfl
                  go_simp
                  with_reducible rfl
                rotate_left
                · simp only [Act.put, List.setIfInBounds_toArray, List.set_cons_zero, List.set_cons_succ, i64_w, i32_w]
                  rfl
                refine one_ (i := 32) (N := (some 127)) #[true, true, true, true, true, true, true, true, true, true, true, true, true, true, true, true, true, true, true, true, true, true, true, true, true, true, true, true, true, true, true, true, true, true, true, false, false] rfl rfl (by kernel_rfl) (by decide) (fun K hK => ?_)
                refine goes_ (f := 60) Try.func60 (by kernel_rfl) rfl #[.pointer (some ⟨g, 0, none⟩)] (by rfl) rfl rfl (by simp [Act.eval, Act.put]) ?_
                refine (lost_made w.heap.size g v' s' _ hHeld.2.1 HQ'.out).mono ?_
                rintro e w9 ⟨rfl, hd9⟩
                refine ⟨_, rfl, hK.out _ _ ⟨blk_below hHeld.1 hd9.below, hHeld.2.1.drawn hd9, hHeld.2.2.1.trans (hd9.below.mono hHeld.2.2.1.size), Kd.R_below hHeld.2.2.2 hd9.below⟩ (fun hHeld => ?_)⟩
                simp only [Act.put, List.setIfInBounds_toArray, List.set_cons_zero, List.set_cons_succ]
                clear hK K
                clear hd9
                refine pure_ (i := 35) (N := (some 130)) (v := ?_) (a' := ?_) #[true, true, true, true, true, true, true, true, true, true, true, true, true, true, true, true, true, true, true, true, true, true, true, true, true, true, true, true, true, true, true, true, true, true, true, true, false] rfl rfl (by kernel_rfl) (fun _ _ _ h => h) (Or.inl ⟨by rfl, ?_⟩) ?_ ?_
                rotate_left
                · intro w'
                  go_simp
                  with_reducible rfl
                rotate_left
                · simp only [Act.put, List.setIfInBounds_toArray, List.set_cons_zero, List.set_cons_succ, i64_w, i32_w]
                  rfl
                refine pure_ (i := 36) (N := (some 131)) (v := ?_) (a' := ?_) #[true, true, true, true, true, true, true, true, true, true, true, true, true, true, true, true, true, true, true, true, true, true, true, true, true, true, true, true, true, true, true, true, true, true, true, true, true] rfl rfl (by kernel_rfl) (fun _ _ _ h => h) (Or.inl ⟨by rfl, ?_⟩) ?_ ?_
                rotate_left
                · intro w'
                  go_simp
                  with_reducible rfl
                rotate_left
                · simp only [Act.put, List.setIfInBounds_toArray, List.set_cons_zero, List.set_cons_succ, i64_w, i32_w]
                  rfl
                refine done_ (by kernel_rfl) ?_
                obtain ⟨hXe, hCe, hBe, hRe⟩ := hHeld
                have HXe := Aside0.mk hXe
                have HCe := Aside0.mk hCe
                have HBe := Aside0.mk hBe
                have HRe := Aside0.mk hRe
                clear hXe hCe hBe hRe
                have hT := HT.out
                by_cases h8 : (i : Int) % 64 = 9
                · have d8 : ((i : Int) % 64 == 9) = true := beq_iff_eq.2 h8
                  clear h8
                  go_wp2_with fail
                  refine (tk_clone w w9 g v' s' HCe.out HBe.out HQ'.out HHL.out).mono ?_
                  rintro e w10 ⟨g2, v2, rfl, hc2, hb2, hb3, hg2, hv2⟩
                  have HC10 := Aside0.mk hc2
                  have HCO := Aside0.mk (show Ct w10 w.heap.size g v' s' from ⟨blk_below HCe.out.1 hb3, Kd.R_below HCe.out.2.1 hb3, HCe.out.2.2⟩)
                  have HX10 := Aside0.mk (blk_below HXe.out hb3)
                  have HB10 := Aside0.mk hb2
                  have HR10 := Aside0.mk (Kd.R_below HRe.out hb3)
                  have HG2 := Aside0.mk hg2
                  have HV2' := Aside0.mk hv2
                  clear hc2 hb2 hb3 hg2 hv2
                  go_wp2_with fail
                  obtain ⟨s9, u9, is9, b9, en9, hcall9, _, _, _, _, _, _⟩ := sign_both w w10 g v' s' 1099511627776 120 HCO.out HB10.out HOK'.out
                  refine hcall9.mono ?_
                  rintro e w11 ⟨rfl, v9, hT9⟩
                  have HN1 : Aside0 (g2 ≠ g) := ⟨fun e => by have := blk_lt HCe.out.1; have := HG2.out; omega⟩
                  have HN2 : Aside0 (∀ k, v'.ownBlock = some k → k < w9.heap.size) := ⟨Kd.R_lt HCe.out.2.1⟩
                  have HX11 := Aside0.mk (blk_kept HX10.out hT9.kept (fun h => h.elim (fun e => HGX.out e.symm) (fun e => (Kd.R_ne HCe.out.2.1 HXe.out (by decide)) e)))
                  have HC11 := Aside0.mk (show Ct w11 w.heap.size g2 v2 s' from ⟨blk_kept HC10.out.1 hT9.kept (fun h => h.elim HN1.out (fun e => by have := HN2.out g2 e.symm; have := HG2.out; omega)), Kd.R_mono (Kd.R_kept (Kd.R_tight rfl HC10.out.2.1) hT9.kept (fun k hk h => h.elim (fun e => by have := HV2'.out k hk.symm; have := blk_lt HCe.out.1; omega) (fun e => by have := HN2.out k e.symm; have := HV2'.out k hk.symm; omega))) (fun _ _ => trivial), HC10.out.2.2⟩)
                  have HR11 := Aside0.mk (Kd.R_kept HR10.out hT9.kept (fun k hk h => h.elim (HSEP2.out k hk.symm).1 (HSEP2.out k hk.symm).2))
                  have HS11 : Aside0 (∀ k, (Value.slice A8 s'.hl.length c8).ownBlock = some k → k ≠ g2 ∧ some k ≠ v2.ownBlock) := ⟨fun k hk => by
                    have h1 := Kd.R_lt HRe.out k hk
                    have h2 := HG2.out
                    exact ⟨by omega, fun e => by have := HV2'.out k e.symm; omega⟩⟩
                  have HB11 := Aside0.mk hT9.below
                  clear hT9 hcall9
                  go_wp2
                  go_roundw
                  case rel => exact ⟨i + 1, t', g2, v2, s', .slice A8 s'.hl.length c8, by have := HLT.out; omega, by go_num, by first | rfl | trivial, by first | rfl | trivial, HC11, HX11, HR11, HS11, HB11, HST', HT2⟩
                  case measure => have := HLT.out; simp [intOf]; omega
                · have d8 : ((i : Int) % 64 == 9) = false := beq_eq_false_iff_ne.2 h8
                  clear h8
                  go_wp2
                  go_roundw
                  case rel => exact ⟨i + 1, t', g, v', s', .slice A8 s'.hl.length c8, by have := HLT.out; omega, by go_num, by first | rfl | trivial, by first | rfl | trivial, HCe, HXe, HRe, HSEP2, HBe, HST', HT2⟩
                  case measure => have := HLT.out; simp [intOf]; omega
      · obtain rfl : i = n := by omega
        have q1 : ¬ (i : Int) < (i : Int) := by omega
        clear hlt
        go_wp2_with fail
        refine (ch_sure _).mono ?_
        rintro e w9 ⟨rfl, hg⟩
        have HF := Aside0.mk (HB.out.trans (hg.mono HB.out.size))
        clear hg
        go_wp2
        go_ret
        exact ⟨rfl, HF.out⟩
def bilgelaw37_CharsTake.Pure : Prop := ∀ (x0 : Int) (x1 : Int) (x2 : List (S102)), ((Lit.int .i64 x0).wf = true) → ((Lit.int .u8 x1).wf = true) → (x2.length ≤ maxLen ∧ x2.length * 16 ≤ 140737488351232 ∧ ∀ y_0 ∈ x2, ((Lit.int .i64 y_0.f0).wf = true) ∧ (Lit.int .u8 y_0.f1).wf = true) → ∃ k, bilgelaw37_CharsTake.f k x0 x1 x2 = some true

end Go.Proofs.Ytbghnfhjaolhaaa.PCharsTake

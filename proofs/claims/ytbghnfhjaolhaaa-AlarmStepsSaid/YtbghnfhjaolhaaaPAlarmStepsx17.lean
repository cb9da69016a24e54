-- Written by a program of this session, in the form of the kit's print, some functions by hand (N.B. not a file of print.sh's).
import Derived.Test.YtbghnfhjaolhaaaPAlarmStepsx0
import Derived.Test.YtbghnfhjaolhaaaPAlarmStepsx2
import Derived.Test.YtbghnfhjaolhaaaPAlarmStepsx3
import Derived.Test.YtbghnfhjaolhaaaPAlarmStepsx6
import Derived.Test.YtbghnfhjaolhaaaPAlarmStepsx7
import Derived.Test.YtbghnfhjaolhaaaPAlarmStepsx8
import Derived.Test.YtbghnfhjaolhaaaPAlarmStepsx9
import Derived.Test.YtbghnfhjaolhaaaPAlarmStepsx10
import Derived.Test.YtbghnfhjaolhaaaPAlarmStepsx11
import Derived.Test.YtbghnfhjaolhaaaPAlarmStepsx12
import Derived.Test.YtbghnfhjaolhaaaPAlarmStepsx13
import Derived.Test.YtbghnfhjaolhaaaPAlarmStepsx14
import Derived.Test.YtbghnfhjaolhaaaPAlarmStepsx15
namespace Go.Proofs.Ytbghnfhjaolhaaa.PAlarmSteps
open Go.RowKit Go.Proofs.YtbghnfhjaolhaaaW.PrintWords Go.Proofs.YtbghnfhjaolhaaaW.PrintLast Go.Proofs.YtbghnfhjaolhaaaW.PrintMore Go.Proofs.YtbghnfhjaolhaaaM
attribute [local go_sem] max2_int min2_int max_two min_two max_three min_three max_four min_four   -- for this text's walks alone
set_option linter.unusedVariables false
set_option linter.unusedSimpArgs false

/-! ### bilgelaw46_AlarmSteps: function 9 (by hand) -/
set_option maxRecDepth 100000 in
theorem clone_made (g : Nat) (s : Wt) (w : World) (h : Bk w g s) : Calls Try.prog 48 #[.pointer (some ⟨g, 0, none⟩)] w fun e w' => ∃ g', e = .returned (.pointer (some ⟨g', 0, none⟩)) ∧ Bk w' g' s ∧ w.heap.size ≤ g' ∧ Below w.heap.size w w' := by
  have H := Aside0.mk h
  clear h
  go_enter Try.func48, Try.ntmps48
  go_wp2_with (go_at_call 80; refine (none_made g s _ H.out).mono ?_; rintro e w1 ⟨rfl, hd⟩; have HD := Aside0.mk hd; have hb := H.out.drawn hd; have HB1 := Aside0.mk hb; have h0 : w1.cell? ⟨g, 0, none⟩ = some (.int .i64 s.lo) := hb.cell 0; have h1 : w1.cell? ⟨g, 1, none⟩ = some (.int .i64 s.hi) := hb.cell 1; have h2 : w1.cell? ⟨g, 2, none⟩ = some (.int .i64 s.sl) := hb.cell 2; have h3 : w1.cell? ⟨g, 3, none⟩ = some (.int .i64 s.de) := hb.cell 3; have h4 : w1.cell? ⟨g, 4, none⟩ = some (.bool true) := hb.cell 4; have h5 : w1.cell? ⟨g, 5, none⟩ = some (.int .i64 s.st) := hb.cell 5; have h6 : w1.cell? ⟨g, 6, none⟩ = some (.int .i64 s.as_) := hb.cell 6; have h7 : w1.cell? ⟨g, 7, none⟩ = some (.int .i64 s.si) := hb.cell 7; have h8 : w1.cell? ⟨g, 8, none⟩ = some (.int .i64 s.no) := hb.cell 8; clear hd hb)
  go_ret
  exact ⟨_, rfl, blk_new w1 _, HD.out.below.size, HD.out.below.alloc HD.out.below.size _⟩
def conv (x : S72) : S137 := ⟨x.f0, x.f1, x.f2⟩
theorem al_w64 {i : Int} (h : -9223372036854775808 ≤ i ∧ i ≤ 9223372036854775807) : wrap64 i = i := by unfold wrap64; omega
theorem ref_right (a b c d : Int) : bilgeref46_Right.f a b c d = some (rightF a b c d) := by
  have hin : ∀ x : Int, bilgeref46_in.f x = some (decide (-1000000000 ≤ x ∧ x ≤ 1000000000)) := by
    intro x
    unfold bilgeref46_in.f
    by_cases h : x ≥ -1000000000
    · rw [if_pos h]
      by_cases h2 : x ≤ 1000000000
      · rw [decide_eq_true h2, decide_eq_true ⟨h, h2⟩]
      · rw [decide_eq_false h2, decide_eq_false (fun h3 => h2 h3.2)]
    · rw [if_neg h, decide_eq_false (fun h3 => h h3.1)]
  unfold bilgeref46_Right.f rightF
  rw [hin, hin, hin]
  by_cases h1 : -1000000000 ≤ a ∧ a ≤ 1000000000
  · rw [Option.bind_some, if_pos (decide_eq_true h1)]
    by_cases h2 : -1000000000 ≤ b ∧ b ≤ 1000000000
    · rw [Option.bind_some, if_pos (decide_eq_true h2)]
      by_cases h3 : -1000000000 ≤ c ∧ c ≤ 1000000000
      · rw [Option.bind_some, if_pos (decide_eq_true h3), al_w64 (by omega), al_w64 (by omega)]
        by_cases h4 : c ≥ 0
        · rw [if_pos h4]
          by_cases h5 : a + c ≤ b - c
          · rw [if_pos h5]
            by_cases h6 : d ≥ 0
            · rw [if_pos h6]
              congr 1
              rw [Bool.eq_iff_iff, decide_eq_true_eq, decide_eq_true_eq]
              omega
            · rw [if_neg h6]; congr 1; symm; exact decide_eq_false (by omega)
          · rw [if_neg h5]; congr 1; symm; exact decide_eq_false (by omega)
        · rw [if_neg h4]; congr 1; symm; exact decide_eq_false (by omega)
      · rw [Option.bind_some, if_neg (by rw [decide_eq_true_eq]; exact h3)]; congr 1; symm; exact decide_eq_false (fun h => h3 h.2.2.1)
    · rw [Option.bind_some, if_neg (by rw [decide_eq_true_eq]; exact h2)]; congr 1; symm; exact decide_eq_false (fun h => h2 h.2.1)
  · rw [Option.bind_some, if_neg (by rw [decide_eq_true_eq]; exact h1)]; congr 1; symm; exact decide_eq_false (fun h => h1 h.1)
theorem ref_due (s : Wt) (t : Int) (h : s.Ok) : bilgeref46_due.f s.lo s.hi s.sl s.de s.st s.no s.as_ s.si t = some ((dueF s t).1.lo, (dueF s t).1.hi, (dueF s t).1.sl, (dueF s t).1.de, (dueF s t).1.st, (dueF s t).1.no, (dueF s t).1.as_, (dueF s t).1.si, (dueF s t).2.map conv) := by
  obtain ⟨_, _, _, _, o5, o6, _⟩ := h
  unfold bilgeref46_due.f dueF
  rw [al_w64 (by omega)]
  by_cases h1 : s.as_ = s.st
  · rw [if_pos h1, if_pos (Or.inl h1)]; rfl
  · rw [if_neg h1]
    by_cases h2 : t < s.si + s.de
    · rw [if_pos h2, if_pos (Or.inr h2)]; rfl
    · rw [if_neg h2, if_neg (by omega)]; rfl
theorem ref_asks (s : Wt) (st v : Int) (h : s.Ok) : bilgeref46_Asks.f s.lo s.hi s.sl s.de st v = some (asksF s st v) := by
  obtain ⟨o1, o2, o3, _, _, _, _⟩ := h
  unfold bilgeref46_Asks.f asksF
  rw [al_w64 (by omega), al_w64 (by omega)]
  repeat' split
  all_goals rfl
theorem ref_err (s : Wt) (t v : Int) (ht : t < s.no ∨ 1099511627776 < t) (k : Nat) : bilgeref46_Feed.f (k + 1) s.lo s.hi s.sl s.de s.st s.no s.as_ s.si t v = some (s.lo, s.hi, s.sl, s.de, s.st, s.no, s.as_, s.si, [], false) := by
  unfold bilgeref46_Feed.f
  have e : bilgeref46_Feed.j0 (k + 1) t v true s.lo s.hi s.sl s.de s.st s.no s.as_ s.si = some (s.lo, s.hi, s.sl, s.de, s.st, s.no, s.as_, s.si, [], false) := by
    simp only [bilgeref46_Feed.j0]; rw [if_pos trivial]
  by_cases h : t < s.no
  · rw [if_pos h]; exact e
  · rw [if_neg h, decide_eq_true (by omega : t > 1099511627776)]; exact e
theorem ref_j1 (s : Wt) (L : List S72) (t a : Int) (p : Bool) (hL : L.length ≤ 1) (h1 : Wt.Ok (if p = true then { s with as_ := a, si := t } else s)) (k : Nat) :
    bilgeref46_Feed.j1 (k + 1) t (L.map conv) a p s.lo s.hi s.sl s.de s.st s.no s.as_ s.si =
      (if s.de = 0 then some ((dueF (if p = true then { s with as_ := a, si := t } else s) t).1.lo, (dueF (if p = true then { s with as_ := a, si := t } else s) t).1.hi, (dueF (if p = true then { s with as_ := a, si := t } else s) t).1.sl, (dueF (if p = true then { s with as_ := a, si := t } else s) t).1.de, (dueF (if p = true then { s with as_ := a, si := t } else s) t).1.st, (dueF (if p = true then { s with as_ := a, si := t } else s) t).1.no, (dueF (if p = true then { s with as_ := a, si := t } else s) t).1.as_, (dueF (if p = true then { s with as_ := a, si := t } else s) t).1.si, (L ++ (dueF (if p = true then { s with as_ := a, si := t } else s) t).2).map conv, true)
      else some ((if p = true then { s with as_ := a, si := t } else s).lo, (if p = true then { s with as_ := a, si := t } else s).hi, (if p = true then { s with as_ := a, si := t } else s).sl, (if p = true then { s with as_ := a, si := t } else s).de, (if p = true then { s with as_ := a, si := t } else s).st, (if p = true then { s with as_ := a, si := t } else s).no, (if p = true then { s with as_ := a, si := t } else s).as_, (if p = true then { s with as_ := a, si := t } else s).si, L.map conv, true)) := by
  simp only [bilgeref46_Feed.j1]
  cases p with
  | true =>
    rw [if_pos rfl, if_pos rfl] at *
    have hd := ref_due { s with as_ := a, si := t } t h1
    have hl := (due_ok { s with as_ := a, si := t } t h1).2
    by_cases hz : s.de = 0
    · rw [if_pos hz, if_pos hz, hd, Option.bind_some]
      simp only
      rw [if_pos (by rw [List.length_map, List.length_map]; omega), List.map_append]
    · rw [if_neg hz, if_neg hz]
  | false =>
    simp only [Bool.false_eq_true, if_false] at *
    have hd := ref_due s t h1
    have hl := (due_ok s t h1).2
    by_cases hz : s.de = 0
    · rw [if_pos hz, if_pos hz, hd, Option.bind_some]
      simp only
      rw [if_pos (by rw [List.length_map, List.length_map]; omega), List.map_append]
    · rw [if_neg hz, if_neg hz]
theorem ref_feed (s : Wt) (t v : Int) (h : s.Ok) (ht : s.no ≤ t ∧ t ≤ 1099511627776) (k : Nat) : bilgeref46_Feed.f (k + 2) s.lo s.hi s.sl s.de s.st s.no s.as_ s.si t v = some ((feedF s t v).1.lo, (feedF s t v).1.hi, (feedF s t v).1.sl, (feedF s t v).1.de, (feedF s t v).1.st, (feedF s t v).1.no, (feedF s t v).1.as_, (feedF s t v).1.si, (feedF s t v).2.map conv, true) := by
  have hno := h.2.2.2.2.2.2
  have hdok := due_ok s t h
  unfold bilgeref46_Feed.f
  rw [if_neg (by omega), decide_eq_false (by omega : ¬ t > 1099511627776)]
  simp only [bilgeref46_Feed.j0]
  rw [if_neg (by simp), ref_due s t h, Option.bind_some]
  simp only
  have hde : (dueF s t).1.de = s.de := by unfold dueF; split <;> rfl
  have hf : feedF s t v = (if s.de = 0 then ((dueF (nextF { (dueF s t).1 with no := t } t v) t).1, (dueF s t).2 ++ (dueF (nextF { (dueF s t).1 with no := t } t v) t).2) else (nextF { (dueF s t).1 with no := t } t v, (dueF s t).2)) := rfl
  have hok2 : Wt.Ok { (dueF s t).1 with no := t } := by
    obtain ⟨q1, q2, q3, q4, q5, q6, q7⟩ := hdok.1
    exact ⟨q1, q2, q3, q4, q5, q6, ⟨by show 0 ≤ t; omega, ht.2⟩⟩
  have hnok := next_ok { (dueF s t).1 with no := t } t v hok2 ⟨by omega, ht.2⟩
  have hask := ref_asks (dueF s t).1 (dueF s t).1.st v hdok.1
  rw [hask, Option.bind_some]
  have ha : asksF (dueF s t).1 (dueF s t).1.st v = asksF { (dueF s t).1 with no := t } (dueF s t).1.st v := rfl
  clear ha hask
  generalize (dueF s t).1 = s1 at *
  generalize (dueF s t).2 = L at *
  have key : ∀ p : Bool, (if p = true then ({ s1 with no := t, as_ := asksF s1 s1.st v, si := t } : Wt) else { s1 with no := t }) = nextF { s1 with no := t } t v → bilgeref46_Feed.j1 (k + 1) t (L.map conv) (asksF s1 s1.st v) p s1.lo s1.hi s1.sl s1.de s1.st t s1.as_ s1.si = some ((feedF s t v).1.lo, (feedF s t v).1.hi, (feedF s t v).1.sl, (feedF s t v).1.de, (feedF s t v).1.st, (feedF s t v).1.no, (feedF s t v).1.as_, (feedF s t v).1.si, (feedF s t v).2.map conv, true) := by
    intro p hp
    have hj := ref_j1 { s1 with no := t } L t (asksF s1 s1.st v) p hdok.2 (by rw [hp]; exact hnok) k
    rw [hp] at hj
    rw [hj, hf]
    by_cases hz : s.de = 0
    · rw [if_pos hz, if_pos (hde.trans hz)]
    · rw [if_neg hz, if_neg (fun h => hz (hde.symm.trans h))]
  have hn : nextF { s1 with no := t } t v = if asksF s1 s1.st v ≠ s1.as_ ∨ asksF s1 s1.st v = s1.st then { s1 with no := t, as_ := asksF s1 s1.st v, si := t } else { s1 with no := t } := rfl
  by_cases h1 : asksF s1 s1.st v = s1.as_
  · rw [if_pos h1]
    refine key _ ?_
    rw [hn]
    by_cases h2 : asksF s1 s1.st v = s1.st
    · rw [if_pos (by rw [beq_iff_eq]; exact h2), if_pos (Or.inr h2)]
    · rw [if_neg (by rw [beq_iff_eq]; exact h2), if_neg (fun h => h.elim (fun h => h h1) h2)]
  · rw [if_neg h1]
    refine key _ ?_
    rw [hn, if_pos rfl, if_pos (Or.inl h1)]
theorem ref_changes_l (l : List S72) (hl : l.length ≤ 5) : ∀ (d k i : Nat), i + d = l.length → d < k → bilgelaw46_changes.l0 k l ((l.take i).map conv) (i : Int) = some (l.map conv) := by
  intro d
  induction d with
  | zero =>
    intro k i hi hk
    obtain ⟨k, rfl⟩ : ∃ m, k = m + 1 := ⟨k - 1, by omega⟩
    simp only [bilgelaw46_changes.l0]
    rw [if_neg (by omega), List.take_of_length_le (by omega)]
  | succ d ih =>
    intro k i hi hk
    obtain ⟨k, rfl⟩ : ∃ m, k = m + 1 := ⟨k - 1, by omega⟩
    simp only [bilgelaw46_changes.l0]
    have hr : rd_T72 l (i : Int) = l[i]'(by omega) := by
      unfold rd_T72
      rw [Int.toNat_natCast, List.getD_eq_getElem?_getD, List.getElem?_eq_getElem (by omega)]; rfl
    rw [if_pos (by omega), if_pos (by omega), if_pos (by rw [List.length_map, List.length_take]; omega), hr, al_w64 (by omega)]
    have e : (l.take i).map conv ++ [(⟨(l[i]'(by omega)).f0, (l[i]'(by omega)).f1, (l[i]'(by omega)).f2⟩ : S137)] = (l.take (i + 1)).map conv := by
      rw [List.take_succ_eq_append_getElem (by omega), List.map_append]; rfl
    rw [e]
    exact ih k (i + 1) (by omega) (by omega)
theorem ref_changes (l : List S72) (hl : l.length ≤ 5) : bilgelaw46_changes.f 9 l = some (l.map conv) := ref_changes_l l hl l.length 9 0 (by omega) (by omega)
theorem ref_same_l (a : List S137) (hl : a.length ≤ 5) : ∀ (d k i : Nat), i + d = a.length → d < k → bilgeref46_Same.l0 k a a i = some true := by
  intro d
  induction d with
  | zero =>
    intro k i hi hk
    obtain ⟨k, rfl⟩ : ∃ m, k = m + 1 := ⟨k - 1, by omega⟩
    simp only [bilgeref46_Same.l0]
    rw [if_neg (by omega)]
  | succ d ih =>
    intro k i hi hk
    obtain ⟨k, rfl⟩ : ∃ m, k = m + 1 := ⟨k - 1, by omega⟩
    simp only [bilgeref46_Same.l0]
    rw [if_pos (by omega), if_pos (by omega), if_pos (by omega), if_neg (by simp), al_w64 (by omega)]
    exact ih k (i + 1) (by omega) (by omega)
theorem ref_same (a : List S137) (hl : a.length ≤ 5) : bilgeref46_Same.f 9 a a = some true := by
  unfold bilgeref46_Same.f
  rw [if_pos rfl]
  exact ref_same_l a hl a.length 9 0 (by omega) (by omega)
theorem feed_two (s : Wt) (t v : Int) (h : s.Ok) (ht : s.no ≤ t ∧ t ≤ 1099511627776) : (feedF s t v).1.Ok ∧ (feedF s t v).2.length ≤ 2 := by
  have hno := h.2.2.2.2.2.2
  have hdok := due_ok s t h
  have hok2 : Wt.Ok { (dueF s t).1 with no := t } := by
    obtain ⟨q1, q2, q3, q4, q5, q6, q7⟩ := hdok.1
    exact ⟨q1, q2, q3, q4, q5, q6, ⟨by show 0 ≤ t; omega, ht.2⟩⟩
  have hnok := next_ok { (dueF s t).1 with no := t } t v hok2 ⟨by omega, ht.2⟩
  have hd2 := due_ok _ t hnok
  unfold feedF
  split
  · exact ⟨hd2.1, by rw [List.length_append]; omega⟩
  · exact ⟨hnok, by show (dueF s t).2.length ≤ 2; omega⟩
def xCells (s : Wt) : Array Value := #[.int .i64 s.lo, .int .i64 s.hi, .int .i64 s.sl, .int .i64 s.de, .int .i64 s.st, .int .i64 s.no, .int .i64 s.as_, .int .i64 s.si]
theorem y_stored {U : World} {b : Nat} (s : Wt) {c0 c1 c2 c3 c4 c5 c6 c7 : Value} (h : U.heap[b]? = some (.cells #[c0, c1, c2, c3, c4, c5, c6, c7] 78 (0, 0))) :
    ((((((((U.setCell ⟨b, 0, none⟩ (.int .i64 s.lo)).setCell ⟨b, 1, none⟩ (.int .i64 s.hi)).setCell ⟨b, 2, none⟩ (.int .i64 s.sl)).setCell ⟨b, 3, none⟩ (.int .i64 s.de)).setCell ⟨b, 4, none⟩ (.int .i64 s.st)).setCell ⟨b, 5, none⟩ (.int .i64 s.no)).setCell ⟨b, 6, none⟩ (.int .i64 s.as_)).setCell ⟨b, 7, none⟩ (.int .i64 s.si)).heap[b]? = some (.cells (xCells s) 78 (0, 0)) ∧ (∀ k, k ≠ b → ((((((((U.setCell ⟨b, 0, none⟩ (.int .i64 s.lo)).setCell ⟨b, 1, none⟩ (.int .i64 s.hi)).setCell ⟨b, 2, none⟩ (.int .i64 s.sl)).setCell ⟨b, 3, none⟩ (.int .i64 s.de)).setCell ⟨b, 4, none⟩ (.int .i64 s.st)).setCell ⟨b, 5, none⟩ (.int .i64 s.no)).setCell ⟨b, 6, none⟩ (.int .i64 s.as_)).setCell ⟨b, 7, none⟩ (.int .i64 s.si)).heap[k]? = U.heap[k]?) ∧ (∀ (B : Nat) (W : World), Below B W U → B ≤ b → Below B W ((((((((U.setCell ⟨b, 0, none⟩ (.int .i64 s.lo)).setCell ⟨b, 1, none⟩ (.int .i64 s.hi)).setCell ⟨b, 2, none⟩ (.int .i64 s.sl)).setCell ⟨b, 3, none⟩ (.int .i64 s.de)).setCell ⟨b, 4, none⟩ (.int .i64 s.st)).setCell ⟨b, 5, none⟩ (.int .i64 s.no)).setCell ⟨b, 6, none⟩ (.int .i64 s.as_)).setCell ⟨b, 7, none⟩ (.int .i64 s.si))) ∧
    ∀ {α : Type} (d : Kd α) (e base : Nat) (v : Value) (xs : List α), (∀ q, q ∈ e :: d.E → q ≠ 78) → d.R e U base (fun _ => True) v xs → d.R e ((((((((U.setCell ⟨b, 0, none⟩ (.int .i64 s.lo)).setCell ⟨b, 1, none⟩ (.int .i64 s.hi)).setCell ⟨b, 2, none⟩ (.int .i64 s.sl)).setCell ⟨b, 3, none⟩ (.int .i64 s.de)).setCell ⟨b, 4, none⟩ (.int .i64 s.st)).setCell ⟨b, 5, none⟩ (.int .i64 s.no)).setCell ⟨b, 6, none⟩ (.int .i64 s.as_)).setCell ⟨b, 7, none⟩ (.int .i64 s.si)) base (fun _ => True) v xs := by
  have b0 : (U.setCell ⟨b, 0, none⟩ (.int .i64 s.lo)).heap[b]? = some (.cells #[.int .i64 s.lo, c1, c2, c3, c4, c5, c6, c7] 78 (0, 0)) := blk_put h 0 _ rfl
  have b1 : ((U.setCell ⟨b, 0, none⟩ (.int .i64 s.lo)).setCell ⟨b, 1, none⟩ (.int .i64 s.hi)).heap[b]? = some (.cells #[.int .i64 s.lo, .int .i64 s.hi, c2, c3, c4, c5, c6, c7] 78 (0, 0)) := blk_put b0 1 _ rfl
  have b2 : (((U.setCell ⟨b, 0, none⟩ (.int .i64 s.lo)).setCell ⟨b, 1, none⟩ (.int .i64 s.hi)).setCell ⟨b, 2, none⟩ (.int .i64 s.sl)).heap[b]? = some (.cells #[.int .i64 s.lo, .int .i64 s.hi, .int .i64 s.sl, c3, c4, c5, c6, c7] 78 (0, 0)) := blk_put b1 2 _ rfl
  have b3 : ((((U.setCell ⟨b, 0, none⟩ (.int .i64 s.lo)).setCell ⟨b, 1, none⟩ (.int .i64 s.hi)).setCell ⟨b, 2, none⟩ (.int .i64 s.sl)).setCell ⟨b, 3, none⟩ (.int .i64 s.de)).heap[b]? = some (.cells #[.int .i64 s.lo, .int .i64 s.hi, .int .i64 s.sl, .int .i64 s.de, c4, c5, c6, c7] 78 (0, 0)) := blk_put b2 3 _ rfl
  have b4 : (((((U.setCell ⟨b, 0, none⟩ (.int .i64 s.lo)).setCell ⟨b, 1, none⟩ (.int .i64 s.hi)).setCell ⟨b, 2, none⟩ (.int .i64 s.sl)).setCell ⟨b, 3, none⟩ (.int .i64 s.de)).setCell ⟨b, 4, none⟩ (.int .i64 s.st)).heap[b]? = some (.cells #[.int .i64 s.lo, .int .i64 s.hi, .int .i64 s.sl, .int .i64 s.de, .int .i64 s.st, c5, c6, c7] 78 (0, 0)) := blk_put b3 4 _ rfl
  have b5 : ((((((U.setCell ⟨b, 0, none⟩ (.int .i64 s.lo)).setCell ⟨b, 1, none⟩ (.int .i64 s.hi)).setCell ⟨b, 2, none⟩ (.int .i64 s.sl)).setCell ⟨b, 3, none⟩ (.int .i64 s.de)).setCell ⟨b, 4, none⟩ (.int .i64 s.st)).setCell ⟨b, 5, none⟩ (.int .i64 s.no)).heap[b]? = some (.cells #[.int .i64 s.lo, .int .i64 s.hi, .int .i64 s.sl, .int .i64 s.de, .int .i64 s.st, .int .i64 s.no, c6, c7] 78 (0, 0)) := blk_put b4 5 _ rfl
  have b6 : (((((((U.setCell ⟨b, 0, none⟩ (.int .i64 s.lo)).setCell ⟨b, 1, none⟩ (.int .i64 s.hi)).setCell ⟨b, 2, none⟩ (.int .i64 s.sl)).setCell ⟨b, 3, none⟩ (.int .i64 s.de)).setCell ⟨b, 4, none⟩ (.int .i64 s.st)).setCell ⟨b, 5, none⟩ (.int .i64 s.no)).setCell ⟨b, 6, none⟩ (.int .i64 s.as_)).heap[b]? = some (.cells #[.int .i64 s.lo, .int .i64 s.hi, .int .i64 s.sl, .int .i64 s.de, .int .i64 s.st, .int .i64 s.no, .int .i64 s.as_, c7] 78 (0, 0)) := blk_put b5 6 _ rfl
  have b7 : ((((((((U.setCell ⟨b, 0, none⟩ (.int .i64 s.lo)).setCell ⟨b, 1, none⟩ (.int .i64 s.hi)).setCell ⟨b, 2, none⟩ (.int .i64 s.sl)).setCell ⟨b, 3, none⟩ (.int .i64 s.de)).setCell ⟨b, 4, none⟩ (.int .i64 s.st)).setCell ⟨b, 5, none⟩ (.int .i64 s.no)).setCell ⟨b, 6, none⟩ (.int .i64 s.as_)).setCell ⟨b, 7, none⟩ (.int .i64 s.si)).heap[b]? = some (.cells #[.int .i64 s.lo, .int .i64 s.hi, .int .i64 s.sl, .int .i64 s.de, .int .i64 s.st, .int .i64 s.no, .int .i64 s.as_, .int .i64 s.si] 78 (0, 0)) := blk_put b6 7 _ rfl
  refine ⟨b7, fun k hk => ?_, fun B W hB hle => ?_, fun d e base v xs ht hr => ?_⟩
  · have far : ∀ (X : World) (j : Nat) (u : Value), (X.setCell ⟨b, j, none⟩ u).heap[k]? = X.heap[k]? := fun X j u => Below.heap_setCell X ⟨b, j, none⟩ u k hk
    rw [far, far, far, far, far, far, far, far]
  · exact (((((((hB.setCell hle _).setCell hle _).setCell hle _).setCell hle _).setCell hle _).setCell hle _).setCell hle _).setCell hle _
  · exact Kd.R_set (Kd.R_set (Kd.R_set (Kd.R_set (Kd.R_set (Kd.R_set (Kd.R_set (Kd.R_set hr h ht 0 _) b0 ht 1 _) b1 ht 2 _) b2 ht 3 _) b3 ht 4 _) b4 ht 5 _) b5 ht 6 _) b6 ht 7 _
theorem feed_both (g : Nat) (s : Wt) (t v : Int) (w : World) (h : Bk w g s) (hok : s.Ok) : ∃ (s' : Wt) (L : List S72) (LM : List S137) (b : Bool) (en : Int),
    (Calls Try.prog 42 #[.pointer (some ⟨g, 0, none⟩), .int .i64 t, .int .i64 v] w fun e w' => ∃ v0_ : Value, e = .returned (.tuple #[v0_, .int .i64 en]) ∧ Kd.R k72 72 w' w.heap.size (fun _ => True) v0_ L ∧ Bk w' g s' ∧ w.grownBy w' (some g)) ∧
    bilgeref46_Feed.f 5 s.lo s.hi s.sl s.de s.st s.no s.as_ s.si t v = some (s'.lo, s'.hi, s'.sl, s'.de, s'.st, s'.no, s'.as_, s'.si, LM, b) ∧ s'.Ok ∧ bilgelaw46_changes.f 9 L = some LM ∧ bilgeref46_Same.f 9 LM LM = some true ∧ ((b = true ∧ en = 0) ∨ (b = false ∧ en = 11)) := by
  by_cases he : t < s.no ∨ 1099511627776 < t
  · refine ⟨s, [], [], false, 11, (feed_err g s t v w h hok he).mono ?_, ref_err s t v he 4, hok, ref_changes [] (by simp), ref_same [] (by simp), .inr ⟨rfl, rfl⟩⟩
    rintro e w' ⟨rfl, hd⟩
    exact ⟨_, rfl, Kd.R_nil _ _ _ _ _, h.drawn hd, gb_drawn hd⟩
  · have ht : s.no ≤ t ∧ t ≤ 1099511627776 := by omega
    have h2 := feed_two s t v hok ht
    exact ⟨_, _, _, true, 0, feed_ok g s t v w h hok ht, ref_feed s t v hok ht 3, h2.1, ref_changes _ (by omega), ref_same _ (by rw [List.length_map]; omega), .inl ⟨rfl, rfl⟩⟩
def bilgelaw46_AlarmSteps.f (k : Nat) (a0_0 a0_1 a0_2 a0_3 : Int) (l1 : List S67) : Option Bool := some true
set_option maxHeartbeats 8000000 in
set_option maxRecDepth 100000 in
theorem bilgelaw46_AlarmSteps.calls (k : Nat) (a0_0 a0_1 a0_2 a0_3 : Int) (A1 : Option Addr) (c1 : Nat) (l1 : List S67) (r : Bool) (w : World) (hr1 : Kd.C k67 w A1 l1.length l1) (hc1 : l1.length ≤ c1) (h : bilgelaw46_AlarmSteps.f k a0_0 a0_1 a0_2 a0_3 l1 = some r) :
    Calls Try.prog 9 #[.agg #[.int .i64 a0_0, .int .i64 a0_1, .int .i64 a0_2, .int .i64 a0_3], .slice A1 l1.length c1] w fun e w' => e = .returned (.bool r) ∧ Below w.heap.size w w' := by
  obtain rfl := Option.some.inj h
  clear h
  generalize a0_0 = lo
  generalize a0_1 = hi
  generalize a0_2 = sl
  generalize a0_3 = de
  have HR1 := Aside0.mk hr1
  obtain ⟨n, hn⟩ : ∃ n, l1.length = n := ⟨_, rfl⟩
  rw [hn] at HR1 ⊢
  have HN := Aside0.mk hn
  clear hr1 hc1 hn
  obtain ⟨W, hW⟩ : ∃ W, W = w.alloc (.cells #[.int .i64 lo, .int .i64 hi, .int .i64 sl, .int .i64 de] 61) := ⟨_, rfl⟩
  have hBW : Below w.heap.size w W := by rw [hW]; exact (Below.refl w.heap.size w).alloc (Nat.le_refl _) _
  have hbl : W.heap[w.heap.size]? = some (.cells #[.int .i64 lo, .int .i64 hi, .int .i64 sl, .int .i64 de] 61 (0, 0)) := by rw [hW]; exact blk_new w _
  have HW := Aside0.mk hW
  have HBW := Aside0.mk hBW
  have HBL := Aside0.mk hbl
  have RC : Aside0 (∀ (b : Nat) (V : World), V.heap[b]? = some (.cells #[.int .i64 lo, .int .i64 hi, .int .i64 sl, .int .i64 de] 61 (0, 0)) → V.cell? ⟨b, 0, none⟩ = some (.int .i64 lo) ∧ V.cell? ⟨b, 1, none⟩ = some (.int .i64 hi) ∧ V.cell? ⟨b, 2, none⟩ = some (.int .i64 sl) ∧ V.cell? ⟨b, 3, none⟩ = some (.int .i64 de)) := ⟨fun b V h => ⟨(blk_cell h 0).trans rfl, (blk_cell h 1).trans rfl, (blk_cell h 2).trans rfl, (blk_cell h 3).trans rfl⟩⟩
  have HRR := Aside0.mk (fun V : World => bilgeref46_Right.calls lo hi sl de (rightF lo hi sl de) V (ref_right lo hi sl de))
  have HAR := Aside0.mk (fun V : World => alarm_Right.calls lo hi sl de (rightF lo hi sl de) V rfl)
  clear hW hBW hbl
  by_cases hlen : 300 < n
  · have d0 : decide ((300 : Int) < (n : Int)) = true := decide_eq_true (by omega)
    go_enter Try.func9, Try.ntmps9
    go_wp2_with fail
    rw [← HW.out]
    refine (sure_calls _).mono ?_
    rintro e w1 ⟨rfl, hg⟩
    have HG := Aside0.mk (HBW.out.trans (hg.mono HBW.out.size))
    clear hg
    go_wp2
    go_ret
    exact ⟨rfl, HG.out⟩
  have d0 : decide ((300 : Int) < (n : Int)) = false := decide_eq_false (by omega)
  by_cases hok : rightF lo hi sl de = false
  · rw [hok] at HRR HAR
    have HNW := Aside0.mk (fun V : World => new_nil lo hi sl de V hok)
    clear hok
    obtain ⟨c0, c1, c2, c3⟩ := RC.out _ _ HBL.out
    have HC0 := Aside0.mk c0
    go_enter Try.func9, Try.ntmps9
    have e0 : (w.alloc (.cells #[.int .i64 lo, .int .i64 hi, .int .i64 sl, .int .i64 de] 61)).cell? ⟨w.heap.size, 0, none⟩ = some (.int .i64 lo) := by rw [← HW.out]; exact c0
    clear c0 c1 c2 c3
    go_wp2_with fail
    rw [← HW.out]
    refine (HNW.out _).mono ?_
    rintro e w1 ⟨rfl, hg⟩
    have HG1 := Aside0.mk (HBW.out.trans (hg.mono HBW.out.size))
    have HB1 := Aside0.mk (blk_below HBL.out hg)
    obtain ⟨c0, c1, c2, c3⟩ := RC.out _ _ HB1.out
    clear hg e0
    go_wp2_with fail
    refine (HRR.out _).mono ?_
    rintro e w2 ⟨rfl, hg⟩
    have HG2 := Aside0.mk (HG1.out.trans (hg.mono HG1.out.size))
    have HB2 := Aside0.mk (blk_below HB1.out hg)
    clear c0 c1 c2 c3
    obtain ⟨c0, c1, c2, c3⟩ := RC.out _ _ HB2.out
    clear hg
    go_wp2_with fail
    refine (HAR.out _).mono ?_
    rintro e w3 ⟨rfl, hg⟩
    have HG3 := Aside0.mk (HG2.out.trans (hg.mono HG2.out.size))
    clear c0 c1 c2 c3 hg
    go_wp2_with fail
    refine (sure_calls _).mono ?_
    rintro e w4 ⟨rfl, hg⟩
    have HG4 := Aside0.mk (HG3.out.trans (hg.mono HG3.out.size))
    clear hg
    go_wp2
    go_ret
    exact ⟨rfl, HG4.out⟩
  · have hok1 : rightF lo hi sl de = true := by cases h : rightF lo hi sl de with | false => exact absurd h hok | true => rfl
    rw [hok1] at HRR HAR
    have HNW := Aside0.mk (fun V : World => new_made lo hi sl de V hok1)
    have hs0 : Wt.Ok ⟨lo, hi, sl, de, 0, 0, 0, 0⟩ := by
      unfold rightF at hok1
      rw [decide_eq_true_eq] at hok1
      refine ⟨?_, ?_, ?_, ?_, ?_, ?_, ?_⟩ <;> simp only <;> omega
    have HS0 := Aside0.mk hs0
    clear hok hok1 hs0
    go_enter Try.func9, Try.ntmps9
    go_wp2_with fail
    rw [← HW.out]
    refine (HNW.out _).mono ?_
    rintro e w1 ⟨g, rfl, hb, hge, hg⟩
    have HG1 := Aside0.mk (HBW.out.trans (hg.mono HBW.out.size))
    have HB1 := Aside0.mk (blk_below HBL.out hg)
    have HK1 := Aside0.mk hb
    have HGE := Aside0.mk (Nat.le_trans HBW.out.size hge)
    obtain ⟨c0, c1, c2, c3⟩ := RC.out _ _ HB1.out
    clear hg hb hge
    go_wp2_with fail
    refine (HRR.out _).mono ?_
    rintro e w2 ⟨rfl, hg⟩
    have HG2 := Aside0.mk (HG1.out.trans (hg.mono HG1.out.size))
    have HB2 := Aside0.mk (blk_below HB1.out hg)
    have HK2 := Aside0.mk (blk_below HK1.out hg)
    clear c0 c1 c2 c3
    obtain ⟨c0, c1, c2, c3⟩ := RC.out _ _ HB2.out
    clear hg
    go_wp2_with fail
    refine (HAR.out _).mono ?_
    rintro e w3 ⟨rfl, hg⟩
    have HG3 := Aside0.mk (HG2.out.trans (hg.mono HG2.out.size))
    have HB3 := Aside0.mk (blk_below HB2.out hg)
    have HK3 := Aside0.mk (blk_below HK2.out hg)
    clear c0 c1 c2 c3
    obtain ⟨c0, c1, c2, c3⟩ := RC.out _ _ HB3.out
    clear hg
    go_wp2
    obtain ⟨X, hX⟩ : ∃ X, X = w3.heap.size := ⟨_, rfl⟩
    rw [← hX]
    have hxb : (w3.alloc (.cells (xCells ⟨lo, hi, sl, de, 0, 0, 0, 0⟩) 78)).heap[X]? = some (.cells (xCells ⟨lo, hi, sl, de, 0, 0, 0, 0⟩) 78 (0, 0)) := by rw [hX]; exact blk_new w3 _
    have hge0 : w.heap.size ≤ X := by rw [hX]; exact HG3.out.size
    have HXG := Aside0.mk hge0
    have hst : Aside0 (Bk (w3.alloc (.cells (xCells ⟨lo, hi, sl, de, 0, 0, 0, 0⟩) 78)) g ⟨lo, hi, sl, de, 0, 0, 0, 0⟩ ∧ w.heap.size ≤ g ∧ Wt.Ok ⟨lo, hi, sl, de, 0, 0, 0, 0⟩) := ⟨blk_alloc HK3.out _, HGE.out, HS0.out⟩
    have HXB := Aside0.mk hxb
    have HB4 := Aside0.mk (blk_alloc HB3.out (.cells (xCells ⟨lo, hi, sl, de, 0, 0, 0, 0⟩) 78))
    have HG4 := Aside0.mk (HG3.out.alloc HG3.out.size (.cells (xCells ⟨lo, hi, sl, de, 0, 0, 0, 0⟩) 78))
    have HX := Aside0.mk hX
    clear c0 c1 c2 c3 hxb hge0 hX
    have hhi := HS0.out.2.1
    go_loopw [9, 8, 5] (fun v9 v8 v5 wr => ∃ (i : Nat) (t : Int) (g : Nat) (s : Wt), i ≤ n ∧ v9 = .int .i64 (i : Int) ∧ v8 = .int .i64 t ∧ v5 = .pointer (some ⟨g, 0, none⟩) ∧ Aside0 (Bk wr g s ∧ w.heap.size ≤ g ∧ s.Ok) ∧ Aside0 (wr.heap[w.heap.size]? = some (.cells #[.int .i64 lo, .int .i64 hi, .int .i64 sl, .int .i64 de] 61 (0, 0))) ∧ Aside0 (wr.heap[X]? = some (.cells (xCells s) 78 (0, 0))) ∧ Aside0 (Below w.heap.size w wr) ∧ Aside0 (-((i : Int) * 16777216) ≤ t ∧ t ≤ (i : Int) * 16777216)) (fun v9 _ _ _ => n - (intOf v9).toNat)
    case atStart => exact ⟨0, 0, g, _, Nat.zero_le _, rfl, rfl, rfl, hst, HB4, HXB, HG4, ⟨by omega, by omega⟩⟩
    case round =>
      clear HG1 HG2 HG3 HB1 HB2 HB3 HK1 HK2 HK3 hst HXB HB4 HG4 HGE
      obtain ⟨i, t, g, s, hin, rfl, rfl, rfl, HS, HBR, HXR, HB, HTB⟩ := hrel
      by_cases hlt : i < n
      · have q0 : (0 : Int) ≤ (i : Int) := by omega
        have q1 : (i : Int) < (n : Int) := by omega
        obtain ⟨ad, hA, p0, p1⟩ := at_T67 HR1.out (i : Int) q0 q1
        subst hA
        replace p0 := (HB.out.cell (World.block_lt_of_cell? w _ p0)).trans p0
        rw [Int.toNat_natCast] at p1
        have hpv := p1
        replace p1 := (HB.out.cell (World.block_lt_of_cell? w _ p1)).trans p1
        rw [Int.toNat_natCast] at p0
        obtain ⟨D, hD⟩ : ∃ D, D = (rd_T67 l1 (i : Int)).f0 := ⟨_, rfl⟩
        obtain ⟨V, hV⟩ : ∃ V, V = (rd_T67 l1 (i : Int)).f1 := ⟨_, rfl⟩
        rw [← hD] at p0
        rw [← hV] at p1 hpv
        have HPV := Aside0.mk hpv
        have HLT := Aside0.mk hlt
        have HT := Aside0.mk (show i ≤ 300 by omega)
        clear hD hV hlt hin hpv
        go_upto_region 14 with (fail)
        go_cut [58] (fun v58 wc => ∃ b : Bool, v58 = .bool b ∧ wr = wc ∧ (b = true ↔ (-9 < D ∧ D < 16777216)))
        case first =>
          by_cases q2 : -9 < D
          · have d1 : decide (-9 < D) = true := decide_eq_true q2
            go_wp2
            go_meet
            case rel => exact ⟨decide (D < 16777216), by first | rfl | trivial, by first | rfl | trivial, by rw [decide_eq_true_eq]; omega⟩
          · have d1 : decide (-9 < D) = false := decide_eq_false q2
            go_wp2
            go_meet
            case rel => exact ⟨false, by first | rfl | trivial, by first | rfl | trivial, by simp; omega⟩
        case rest =>
          obtain ⟨b, rfl, hwc, hb⟩ := hcut
          subst hwc
          go_upto_if 58 with (fail)
          go_cut [8] (fun v8 wc => ∃ t' : Int, v8 = .int .i64 t' ∧ wr = wc ∧ Aside0 (-(((i + 1 : Nat) : Int) * 16777216) ≤ t' ∧ t' ≤ ((i + 1 : Nat) : Int) * 16777216))
          case first =>
            cases b with
            | true =>
              have hb2 := hb.1 rfl
              have htb := HTB.out
              have hT := HT.out
              go_wp2
              go_meet
              case rel => exact ⟨t + D, by first | rfl | trivial, by first | rfl | trivial, ⟨by omega, by omega⟩⟩
            | false =>
              go_wp2
              go_meet
              case rel => exact ⟨t, by first | rfl | trivial, by first | rfl | trivial, ⟨by have := HTB.out; omega, by have := HTB.out; omega⟩⟩
          case rest =>
            obtain ⟨t', rfl, hwc, HT2⟩ := hcut
            subst hwc
            clear hb p0
            obtain ⟨s', L, LM, b', en, hcall, href, hok', hch, hsm, hbe⟩ := feed_both g s t' V wr HS.out.1 HS.out.2.2
            have HCL := Aside0.mk hcall
            have HREF := Aside0.mk (fun U : World => bilgeref46_Feed.calls 5 _ _ _ _ _ _ _ _ _ _ _ _ _ _ _ _ _ _ _ _ U href)
            have HOK' := Aside0.mk hok'
            have HCH := Aside0.mk hch
            have HSM := Aside0.mk hsm
            have HBE := Aside0.mk hbe
            have hgR := blk_ne HS.out.1 HBR.out (by decide)
            have hgX := blk_ne HS.out.1 HXR.out (by decide)
            have HGR := Aside0.mk hgR
            have HGX := Aside0.mk hgX
            have HAD := Aside0.mk (World.block_lt_of_cell? wr _ p1)
            clear hcall href hok' hch hsm hbe hgR hgX
            go_wp2_with fail
            refine HCL.out.mono ?_
            rintro e w5 ⟨vc, rfl, hr, hb5, hg5⟩
            obtain ⟨Ac, cc, rfl⟩ := Kd.R_slice hr
            have HC5 := Aside0.mk hr
            have HK5 := Aside0.mk hb5
            have HB5 := Aside0.mk (HB.out.grown hg5 HB.out.size (fun k hk => (Option.some.inj hk) ▸ HS.out.2.1))
            have HBR5 := Aside0.mk ((hg5.block _ (blk_lt HBR.out) (fun e => HGR.out (Option.some.inj e).symm)).trans HBR.out)
            have hx5 := (hg5.block _ (blk_lt HXR.out) (fun e => HGX.out (Option.some.inj e).symm)).trans HXR.out
            have HXR5 := Aside0.mk hx5
            have x0 : w5.cell? ⟨X, 0, none⟩ = some (.int .i64 s.lo) := (blk_cell hx5 0).trans rfl
            have x1 : w5.cell? ⟨X, 1, none⟩ = some (.int .i64 s.hi) := (blk_cell hx5 1).trans rfl
            have x2 : w5.cell? ⟨X, 2, none⟩ = some (.int .i64 s.sl) := (blk_cell hx5 2).trans rfl
            have x3 : w5.cell? ⟨X, 3, none⟩ = some (.int .i64 s.de) := (blk_cell hx5 3).trans rfl
            have x4 : w5.cell? ⟨X, 4, none⟩ = some (.int .i64 s.st) := (blk_cell hx5 4).trans rfl
            have x5 : w5.cell? ⟨X, 5, none⟩ = some (.int .i64 s.no) := (blk_cell hx5 5).trans rfl
            have x6 : w5.cell? ⟨X, 6, none⟩ = some (.int .i64 s.as_) := (blk_cell hx5 6).trans rfl
            have x7 : w5.cell? ⟨X, 7, none⟩ = some (.int .i64 s.si) := (blk_cell hx5 7).trans rfl
            clear hr hb5 hx5
            go_wp2
            clear x0 x1 x2 x3 x4 x5 x6 x7
            refine start_ (n := 16) (S := fun U => U.heap[X]? = some (.cells (xCells s) 78 (0, 0)) ∧ Below w.heap.size w U) (ds := [13]) #[false, false, false, false, false, false, false, false, false, false, false, false, false, false, false, false] (by kernel_rfl) rfl rfl ⟨blk_drew HXR5.out, below_drew1 HB5.out⟩ (fun hHeld => ?_)
            refine pure_ (i := 1) (N := (some 79)) (v := ?_) (a' := ?_) #[false, true, false, false, false, false, false, false, false, false, false, false, false, false, false, false] rfl rfl (by kernel_rfl) (fun _ _ _ h => h) (Or.inl ⟨by rfl, ?_⟩) ?_ ?_
            rotate_left
            · intro w'
              go_simp
              with_reducible rfl
            rotate_left
            · simp only [Act.put, List.setIfInBounds_toArray, List.set_cons_zero, List.set_cons_succ, i64_w, i32_w]
              rfl
            refine pure_ (i := 2) (N := (some 80)) (v := ?_) (a' := ?_) #[false, true, true, false, false, false, false, false, false, false, false, false, false, false, false, false] rfl rfl (by kernel_rfl) (fun _ _ _ h => h) (Or.inl ⟨by rfl, ?_⟩) ?_ ?_
            rotate_left
            · intro w'
              go_simp
              with_reducible rfl
            rotate_left
            · simp only [Act.put, List.setIfInBounds_toArray, List.set_cons_zero, List.set_cons_succ, i64_w, i32_w]
              rfl
            refine pure_ (i := 3) (N := (some 81)) (v := ?_) (a' := ?_) #[false, true, true, true, false, false, false, false, false, false, false, false, false, false, false, false] rfl rfl (by kernel_rfl) (fun _ _ _ h => h) (Or.inl ⟨by rfl, ?_⟩) ?_ ?_
            rotate_left
            · intro w'
              go_simp
              with_reducible rfl
            rotate_left
            · simp only [Act.put, List.setIfInBounds_toArray, List.set_cons_zero, List.set_cons_succ, i64_w, i32_w]
              rfl
            refine pure_ (i := 4) (N := (some 82)) (v := ?_) (a' := ?_) #[false, true, true, true, true, false, false, false, false, false, false, false, false, false, false, false] rfl rfl (by kernel_rfl) (fun _ _ _ h => h) (Or.inl ⟨by rfl, ?_⟩) ?_ ?_
            rotate_left
            · intro w'
              go_simp
              with_reducible rfl
            rotate_left
            · simp only [Act.put, List.setIfInBounds_toArray, List.set_cons_zero, List.set_cons_succ, i64_w, i32_w]
              rfl
            refine pure_ (i := 5) (N := (some 83)) (v := ?_) (a' := ?_) #[false, true, true, true, true, true, false, false, false, false, false, false, false, false, false, false] rfl rfl (by kernel_rfl) (fun _ _ _ h => h) (Or.inl ⟨by rfl, ?_⟩) ?_ ?_
            rotate_left
            · intro w'
              go_simp
              with_reducible rfl
            rotate_left
            · simp only [Act.put, List.setIfInBounds_toArray, List.set_cons_zero, List.set_cons_succ, i64_w, i32_w]
              rfl
            refine take_ (i := 0) (N := (some 78)) (v := ?_) (a' := ?_) #[true, true, true, true, true, true, false, false, false, false, false, false, false, false, false, false] rfl rfl (by kernel_rfl) (fun _ _ _ h => h) (Or.inl ⟨by rfl, ?_⟩) hHeld ?_ ?_
            rotate_left
            · intro w' s0
              have x0 : w'.cell? ⟨X, 0, none⟩ = some (.int .i64 s.lo) := (blk_cell s0.1 0).trans rfl
              have x1 : w'.cell? ⟨X, 1, none⟩ = some (.int .i64 s.hi) := (blk_cell s0.1 1).trans rfl
              have x2 : w'.cell? ⟨X, 2, none⟩ = some (.int .i64 s.sl) := (blk_cell s0.1 2).trans rfl
              have x3 : w'.cell? ⟨X, 3, none⟩ = some (.int .i64 s.de) := (blk_cell s0.1 3).trans rfl
              have x4 : w'.cell? ⟨X, 4, none⟩ = some (.int .i64 s.st) := (blk_cell s0.1 4).trans rfl
              have x5 : w'.cell? ⟨X, 5, none⟩ = some (.int .i64 s.no) := (blk_cell s0.1 5).trans rfl
              have x6 : w'.cell? ⟨X, 6, none⟩ = some (.int .i64 s.as_) := (blk_cell s0.1 6).trans rfl
              have x7 : w'.cell? ⟨X, 7, none⟩ = some (.int .i64 s.si) := (blk_cell s0.1 7).trans rfl
              have hv := (s0.2.cell (World.block_lt_of_cell? w _ HPV.out)).trans HPV.out
              go_simp
              with_reducible rfl
            rotate_left
            · simp only [Act.put, List.setIfInBounds_toArray, List.set_cons_zero, List.set_cons_succ, i64_w, i32_w]
              rfl
            refine take_ (i := 6) (N := (some 84)) (v := ?_) (a' := ?_) #[true, true, true, true, true, true, true, false, false, false, false, false, false, false, false, false] rfl rfl (by kernel_rfl) (fun _ _ _ h => h) (Or.inl ⟨by rfl, ?_⟩) hHeld ?_ ?_
            rotate_left
            · intro w' s0
              have x0 : w'.cell? ⟨X, 0, none⟩ = some (.int .i64 s.lo) := (blk_cell s0.1 0).trans rfl
              have x1 : w'.cell? ⟨X, 1, none⟩ = some (.int .i64 s.hi) := (blk_cell s0.1 1).trans rfl
              have x2 : w'.cell? ⟨X, 2, none⟩ = some (.int .i64 s.sl) := (blk_cell s0.1 2).trans rfl
              have x3 : w'.cell? ⟨X, 3, none⟩ = some (.int .i64 s.de) := (blk_cell s0.1 3).trans rfl
              have x4 : w'.cell? ⟨X, 4, none⟩ = some (.int .i64 s.st) := (blk_cell s0.1 4).trans rfl
              have x5 : w'.cell? ⟨X, 5, none⟩ = some (.int .i64 s.no) := (blk_cell s0.1 5).trans rfl
              have x6 : w'.cell? ⟨X, 6, none⟩ = some (.int .i64 s.as_) := (blk_cell s0.1 6).trans rfl
              have x7 : w'.cell? ⟨X, 7, none⟩ = some (.int .i64 s.si) := (blk_cell s0.1 7).trans rfl
              have hv := (s0.2.cell (World.block_lt_of_cell? w _ HPV.out)).trans HPV.out
              go_simp
              with_reducible rfl
            rotate_left
            · simp only [Act.put, List.setIfInBounds_toArray, List.set_cons_zero, List.set_cons_succ, i64_w, i32_w]
              rfl
            refine join_ 3 #[true, true, true, true, true, true, true, true, true, true, true, true, true, false, false, false] (fun p : Value × Nat => [(85, (.tuple #[(.agg #[.int .i64 s'.lo, .int .i64 s'.hi, .int .i64 s'.sl, .int .i64 s'.de, .int .i64 s'.st, .int .i64 s'.no, .int .i64 s'.as_, .int .i64 s'.si]), p.1, .bool b'])), (77, (.tuple #[(.agg #[.int .i64 s'.lo, .int .i64 s'.hi, .int .i64 s'.sl, .int .i64 s'.de, .int .i64 s'.st, .int .i64 s'.no, .int .i64 s'.as_, .int .i64 s'.si]), p.1, .bool b'])), (86, (.agg #[.int .i64 s'.lo, .int .i64 s'.hi, .int .i64 s'.sl, .int .i64 s'.de, .int .i64 s'.st, .int .i64 s'.no, .int .i64 s'.as_, .int .i64 s'.si])), (87, p.1), (88, .bool b'), (12, .pointer (some ⟨p.2, 0, none⟩))]) (fun p U => Kd.R k137 137 U w5.heap.size (fun _ => True) p.1 LM ∧ U.heap[p.2]? = some (.cells #[.int .i64 0, .int .i64 0, .int .i64 0, .int .i64 0, .int .i64 0, .int .i64 0, .int .i64 0, .int .i64 0] 78 (0, 0)) ∧ Below w5.heap.size w5.drew U ∧ w5.heap.size ≤ p.2) ?_ ?_
            rotate_left
            · intro hcont
              refine two_ (i := 7) (j := 12) (Ni := some 85) (Nj := some 12) #[true, true, true, true, true, true, true, true, false, false, false, false, false, false, false, false] #[true, true, true, true, true, true, true, false, false, false, false, false, true, false, false, false] rfl rfl rfl rfl (by kernel_rfl) (by decide) (by decide) (fun K hK => ?_) (fun K hK => ?_)
              · refine goes_ (f := 45) Try.func45 (by kernel_rfl) rfl #[.agg #[.int .i64 s.lo, .int .i64 s.hi, .int .i64 s.sl, .int .i64 s.de, .int .i64 s.st, .int .i64 s.no, .int .i64 s.as_, .int .i64 s.si], .int .i64 t', .int .i64 V] (by rfl) rfl rfl (by simp [Act.eval, Act.put]) ?_
                refine (HREF.out _).mono ?_
                rintro e w6 ⟨v8, rfl, hr, hg⟩
                refine ⟨_, rfl, hK.out _ _ ⟨blk_below hHeld.1 hg, hHeld.2.trans (hg.mono hHeld.2.size)⟩ (fun hH6 => ?_)⟩
                simp only [Act.put, List.setIfInBounds_toArray, List.set_cons_zero, List.set_cons_succ]
                clear hK K
                refine pure_ (i := 8) (N := (some 77)) (v := ?_) (a' := ?_) #[true, true, true, true, true, true, true, true, true, false, false, false, false, false, false, false] rfl rfl (by kernel_rfl) (fun _ _ _ h => h) (Or.inl ⟨by rfl, ?_⟩) ?_ ?_
                rotate_left
                · intro w'
                  go_simp
                  with_reducible rfl
                rotate_left
                · simp only [Act.put, List.setIfInBounds_toArray, List.set_cons_zero, List.set_cons_succ, i64_w, i32_w]
                  rfl
                refine pure_ (i := 9) (N := (some 86)) (v := ?_) (a' := ?_) #[true, true, true, true, true, true, true, true, true, true, false, false, false, false, false, false] rfl rfl (by kernel_rfl) (fun _ _ _ h => h) (Or.inl ⟨by rfl, ?_⟩) ?_ ?_
                rotate_left
                · intro w'
                  go_simp
                  with_reducible rfl
                rotate_left
                · simp only [Act.put, List.setIfInBounds_toArray, List.set_cons_zero, List.set_cons_succ, i64_w, i32_w]
                  rfl
                refine pure_ (i := 10) (N := (some 87)) (v := ?_) (a' := ?_) #[true, true, true, true, true, true, true, true, true, true, true, false, false, false, false, false] rfl rfl (by kernel_rfl) (fun _ _ _ h => h) (Or.inl ⟨by rfl, ?_⟩) ?_ ?_
                rotate_left
                · intro w'
                  go_simp
                  with_reducible rfl
                rotate_left
                · simp only [Act.put, List.setIfInBounds_toArray, List.set_cons_zero, List.set_cons_succ, i64_w, i32_w]
                  rfl
                refine pure_ (i := 11) (N := (some 88)) (v := ?_) (a' := ?_) #[true, true, true, true, true, true, true, true, true, true, true, true, false, false, false, false] rfl rfl (by kernel_rfl) (fun _ _ _ h => h) (Or.inl ⟨by rfl, ?_⟩) ?_ ?_
                rotate_left
                · intro w'
                  go_simp
                  with_reducible rfl
                rotate_left
                · simp only [Act.put, List.setIfInBounds_toArray, List.set_cons_zero, List.set_cons_succ, i64_w, i32_w]
                  rfl
                refine one_ (i := 12) (N := (some 12)) #[true, true, true, true, true, true, true, true, true, true, true, true, true, false, false, false] rfl rfl (by kernel_rfl) (by decide) (fun K hK => ?_)
                refine value_ (w1 := w6.alloc (Obj.cells #[.int .i64 0, .int .i64 0, .int .i64 0, .int .i64 0, .int .i64 0, .int .i64 0, .int .i64 0, .int .i64 0] 78)) (v := .pointer (some ⟨w6.heap.size, 0, none⟩)) (by rfl) rfl ?_ ?_
                · go_simp
                refine hK.out _ _ ⟨blk_alloc hH6.1 _, hH6.2.alloc hH6.2.size _⟩ (fun _ => ?_)
                refine norm_ ?_ (hcont (v8, w6.heap.size) _ ⟨Kd.R_alloc hr _, blk_new w6 _, hg.alloc hg.size _, hg.size⟩)
                rfl
              · skip
                refine value_ (w1 := w5.drew.alloc (Obj.cells #[.int .i64 0, .int .i64 0, .int .i64 0, .int .i64 0, .int .i64 0, .int .i64 0, .int .i64 0, .int .i64 0] 78)) (v := .pointer (some ⟨w5.heap.size, 0, none⟩)) (by rfl) rfl ?_ ?_
                · go_simp
                refine hK.out _ _ ⟨blk_alloc hHeld.1 _, hHeld.2.alloc hHeld.2.size _⟩ (fun hH6 => ?_)
                simp only [Act.put, List.setIfInBounds_toArray, List.set_cons_zero, List.set_cons_succ]
                clear hK K
                refine one_ (i := 7) (N := (some 85)) #[true, true, true, true, true, true, true, true, false, false, false, false, true, false, false, false] rfl rfl (by kernel_rfl) (by decide) (fun K hK => ?_)
                refine goes_ (f := 45) Try.func45 (by kernel_rfl) rfl #[.agg #[.int .i64 s.lo, .int .i64 s.hi, .int .i64 s.sl, .int .i64 s.de, .int .i64 s.st, .int .i64 s.no, .int .i64 s.as_, .int .i64 s.si], .int .i64 t', .int .i64 V] (by rfl) rfl rfl (by simp [Act.eval, Act.put]) ?_
                refine (HREF.out _).mono ?_
                rintro e w6 ⟨v8, rfl, hr, hg⟩
                refine ⟨_, rfl, hK.out _ _ ⟨blk_below hH6.1 hg, hH6.2.trans (hg.mono hH6.2.size)⟩ (fun _ => ?_)⟩
                simp only [Act.put, List.setIfInBounds_toArray, List.set_cons_zero, List.set_cons_succ]
                clear hK K
                refine pure_ (i := 8) (N := (some 77)) (v := ?_) (a' := ?_) #[true, true, true, true, true, true, true, true, true, false, false, false, true, false, false, false] rfl rfl (by kernel_rfl) (fun _ _ _ h => h) (Or.inl ⟨by rfl, ?_⟩) ?_ ?_
                rotate_left
                · intro w'
                  go_simp
                  with_reducible rfl
                rotate_left
                · simp only [Act.put, List.setIfInBounds_toArray, List.set_cons_zero, List.set_cons_succ, i64_w, i32_w]
                  rfl
                refine pure_ (i := 9) (N := (some 86)) (v := ?_) (a' := ?_) #[true, true, true, true, true, true, true, true, true, true, false, false, true, false, false, false] rfl rfl (by kernel_rfl) (fun _ _ _ h => h) (Or.inl ⟨by rfl, ?_⟩) ?_ ?_
                rotate_left
                · intro w'
                  go_simp
                  with_reducible rfl
                rotate_left
                · simp only [Act.put, List.setIfInBounds_toArray, List.set_cons_zero, List.set_cons_succ, i64_w, i32_w]
                  rfl
                refine pure_ (i := 10) (N := (some 87)) (v := ?_) (a' := ?_) #[true, true, true, true, true, true, true, true, true, true, true, false, true, false, false, false] rfl rfl (by kernel_rfl) (fun _ _ _ h => h) (Or.inl ⟨by rfl, ?_⟩) ?_ ?_
                rotate_left
                · intro w'
                  go_simp
                  with_reducible rfl
                rotate_left
                · simp only [Act.put, List.setIfInBounds_toArray, List.set_cons_zero, List.set_cons_succ, i64_w, i32_w]
                  rfl
                refine pure_ (i := 11) (N := (some 88)) (v := ?_) (a' := ?_) #[true, true, true, true, true, true, true, true, true, true, true, true, true, false, false, false] rfl rfl (by kernel_rfl) (fun _ _ _ h => h) (Or.inl ⟨by rfl, ?_⟩) ?_ ?_
                rotate_left
                · intro w'
                  go_simp
                  with_reducible rfl
                rotate_left
                · simp only [Act.put, List.setIfInBounds_toArray, List.set_cons_zero, List.set_cons_succ, i64_w, i32_w]
                  rfl
                have ha0 : Below w5.heap.size w5.drew (w5.drew.alloc (Obj.cells #[.int .i64 0, .int .i64 0, .int .i64 0, .int .i64 0, .int .i64 0, .int .i64 0, .int .i64 0, .int .i64 0] 78)) := (Below.refl w5.drew.heap.size w5.drew).alloc (Nat.le_refl _) _
                refine norm_ ?_ (hcont (v8, w5.heap.size) _ ⟨Kd.R_lower hr ha0.size, blk_below (blk_new w5.drew _) hg, ha0.trans (hg.mono ha0.size), Nat.le_refl _⟩)
                rfl
            · clear hHeld
              rintro ⟨v8, yb⟩ U ⟨hr, hyb, hg, hyl⟩
              have hyX : X ≠ yb := by have := blk_lt HXR5.out; omega
              have y0 : U.cell? ⟨yb, 0, none⟩ = some (.int .i64 0) := (blk_cell hyb 0).trans rfl
              have z0 : U.frozen? ⟨yb, 0, none⟩ = false := blk_frozen hyb 0
              have y1 : U.cell? ⟨yb, 1, none⟩ = some (.int .i64 0) := (blk_cell hyb 1).trans rfl
              have z1 : U.frozen? ⟨yb, 1, none⟩ = false := blk_frozen hyb 1
              have y2 : U.cell? ⟨yb, 2, none⟩ = some (.int .i64 0) := (blk_cell hyb 2).trans rfl
              have z2 : U.frozen? ⟨yb, 2, none⟩ = false := blk_frozen hyb 2
              have y3 : U.cell? ⟨yb, 3, none⟩ = some (.int .i64 0) := (blk_cell hyb 3).trans rfl
              have z3 : U.frozen? ⟨yb, 3, none⟩ = false := blk_frozen hyb 3
              have y4 : U.cell? ⟨yb, 4, none⟩ = some (.int .i64 0) := (blk_cell hyb 4).trans rfl
              have z4 : U.frozen? ⟨yb, 4, none⟩ = false := blk_frozen hyb 4
              have y5 : U.cell? ⟨yb, 5, none⟩ = some (.int .i64 0) := (blk_cell hyb 5).trans rfl
              have z5 : U.frozen? ⟨yb, 5, none⟩ = false := blk_frozen hyb 5
              have y6 : U.cell? ⟨yb, 6, none⟩ = some (.int .i64 0) := (blk_cell hyb 6).trans rfl
              have z6 : U.frozen? ⟨yb, 6, none⟩ = false := blk_frozen hyb 6
              have y7 : U.cell? ⟨yb, 7, none⟩ = some (.int .i64 0) := (blk_cell hyb 7).trans rfl
              have z7 : U.frozen? ⟨yb, 7, none⟩ = false := blk_frozen hyb 7
              simp only [putAll, Act.put, List.setIfInBounds_toArray, List.set_cons_zero, List.set_cons_succ]
              refine last_ (i := 13) (N := none) #[true, true, true, true, true, true, true, true, true, true, true, true, true, true, false, false] rfl rfl (by kernel_rfl) (by decide) (fun K hK => ?_)
              refine skip_ (w1 := ((((((((U.setCell ⟨yb, 0, none⟩ (.int .i64 s'.lo)).setCell ⟨yb, 1, none⟩ (.int .i64 s'.hi)).setCell ⟨yb, 2, none⟩ (.int .i64 s'.sl)).setCell ⟨yb, 3, none⟩ (.int .i64 s'.de)).setCell ⟨yb, 4, none⟩ (.int .i64 s'.st)).setCell ⟨yb, 5, none⟩ (.int .i64 s'.no)).setCell ⟨yb, 6, none⟩ (.int .i64 s'.as_)).setCell ⟨yb, 7, none⟩ (.int .i64 s'.si))) (by rfl) rfl ?_ ?_
              · go_simp
              refine hK.out _ _ ?_
              clear hK K
              refine pure_ (i := 14) (N := (some 13)) (v := ?_) (a' := ?_) #[true, true, true, true, true, true, true, true, true, true, true, true, true, true, true, false] rfl rfl (by kernel_rfl) (fun _ _ _ h => h) (Or.inl ⟨by rfl, ?_⟩) ?_ ?_
              rotate_left
              · intro w'
                go_simp
                with_reducible rfl
              rotate_left
              · simp only [Act.put, List.setIfInBounds_toArray, List.set_cons_zero, List.set_cons_succ, i64_w, i32_w]
                rfl
              refine pure_ (i := 15) (N := (some 14)) (v := ?_) (a' := ?_) #[true, true, true, true, true, true, true, true, true, true, true, true, true, true, true, true] rfl rfl (by kernel_rfl) (fun _ _ _ h => h) (Or.inl ⟨by rfl, ?_⟩) ?_ ?_
              rotate_left
              · intro w'
                go_simp
                with_reducible rfl
              rotate_left
              · simp only [Act.put, List.setIfInBounds_toArray, List.set_cons_zero, List.set_cons_succ, i64_w, i32_w]
                rfl
              refine done_ (by kernel_rfl) ?_
              clear y0 z0 y1 z1 y2 z2 y3 z3 y4 z4 y5 z5 y6 z6 y7 z7
              have hy := y_stored s' hyb
              obtain ⟨A8, c8, rfl⟩ := Kd.R_slice hr
              generalize ((((((((U.setCell ⟨yb, 0, none⟩ (.int .i64 s'.lo)).setCell ⟨yb, 1, none⟩ (.int .i64 s'.hi)).setCell ⟨yb, 2, none⟩ (.int .i64 s'.sl)).setCell ⟨yb, 3, none⟩ (.int .i64 s'.de)).setCell ⟨yb, 4, none⟩ (.int .i64 s'.st)).setCell ⟨yb, 5, none⟩ (.int .i64 s'.no)).setCell ⟨yb, 6, none⟩ (.int .i64 s'.as_)).setCell ⟨yb, 7, none⟩ (.int .i64 s'.si)) = U1 at hy ⊢
              obtain ⟨hy1, hy2, hy3, hy4⟩ := hy
              have hr1 := hy4 _ _ _ _ _ (by decide) hr
              have hg1 := hy3 _ _ hg hyl
              have HV1 := Aside0.mk hr1
              have HG1 := Aside0.mk ((below_drew1 HB5.out).trans (hg1.mono HB5.out.size))
              have HK1 := Aside0.mk (blk_below (w := w5.drew) HK5.out hg1)
              have HR1' := Aside0.mk (blk_below (w := w5.drew) HBR5.out hg1)
              have hx1 := blk_below (w := w5.drew) HXR5.out hg1
              have HX1 := Aside0.mk hx1
              have HC1 := Aside0.mk (Kd.R_below (Kd.R_drew HC5.out) hg1)
              clear hr hyb hg hy2 hy3 hy4 hr1 hg1
              have y0 : U1.cell? ⟨yb, 0, none⟩ = some (.int .i64 s'.lo) := (blk_cell hy1 0).trans rfl
              have y1 : U1.cell? ⟨yb, 1, none⟩ = some (.int .i64 s'.hi) := (blk_cell hy1 1).trans rfl
              have y2 : U1.cell? ⟨yb, 2, none⟩ = some (.int .i64 s'.sl) := (blk_cell hy1 2).trans rfl
              have y3 : U1.cell? ⟨yb, 3, none⟩ = some (.int .i64 s'.de) := (blk_cell hy1 3).trans rfl
              have y4 : U1.cell? ⟨yb, 4, none⟩ = some (.int .i64 s'.st) := (blk_cell hy1 4).trans rfl
              have y5 : U1.cell? ⟨yb, 5, none⟩ = some (.int .i64 s'.no) := (blk_cell hy1 5).trans rfl
              have y6 : U1.cell? ⟨yb, 6, none⟩ = some (.int .i64 s'.as_) := (blk_cell hy1 6).trans rfl
              have y7 : U1.cell? ⟨yb, 7, none⟩ = some (.int .i64 s'.si) := (blk_cell hy1 7).trans rfl
              have x0 : U1.cell? ⟨X, 0, none⟩ = some (.int .i64 s.lo) := (blk_cell hx1 0).trans rfl
              have z0 : U1.frozen? ⟨X, 0, none⟩ = false := blk_frozen hx1 0
              have x1 : U1.cell? ⟨X, 1, none⟩ = some (.int .i64 s.hi) := (blk_cell hx1 1).trans rfl
              have z1 : U1.frozen? ⟨X, 1, none⟩ = false := blk_frozen hx1 1
              have x2 : U1.cell? ⟨X, 2, none⟩ = some (.int .i64 s.sl) := (blk_cell hx1 2).trans rfl
              have z2 : U1.frozen? ⟨X, 2, none⟩ = false := blk_frozen hx1 2
              have x3 : U1.cell? ⟨X, 3, none⟩ = some (.int .i64 s.de) := (blk_cell hx1 3).trans rfl
              have z3 : U1.frozen? ⟨X, 3, none⟩ = false := blk_frozen hx1 3
              have x4 : U1.cell? ⟨X, 4, none⟩ = some (.int .i64 s.st) := (blk_cell hx1 4).trans rfl
              have z4 : U1.frozen? ⟨X, 4, none⟩ = false := blk_frozen hx1 4
              have x5 : U1.cell? ⟨X, 5, none⟩ = some (.int .i64 s.no) := (blk_cell hx1 5).trans rfl
              have z5 : U1.frozen? ⟨X, 5, none⟩ = false := blk_frozen hx1 5
              have x6 : U1.cell? ⟨X, 6, none⟩ = some (.int .i64 s.as_) := (blk_cell hx1 6).trans rfl
              have z6 : U1.frozen? ⟨X, 6, none⟩ = false := blk_frozen hx1 6
              have x7 : U1.cell? ⟨X, 7, none⟩ = some (.int .i64 s.si) := (blk_cell hx1 7).trans rfl
              have z7 : U1.frozen? ⟨X, 7, none⟩ = false := blk_frozen hx1 7
              clear hy1 hx1
              go_wp2
              clear y0 x0 z0 y1 x1 z1 y2 x2 z2 y3 x3 z3 y4 x4 z4 y5 x5 z5 y6 x6 z6 y7 x7 z7
              have hx := y_stored s' HX1.out
              generalize ((((((((U1.setCell ⟨X, 0, none⟩ (.int .i64 s'.lo)).setCell ⟨X, 1, none⟩ (.int .i64 s'.hi)).setCell ⟨X, 2, none⟩ (.int .i64 s'.sl)).setCell ⟨X, 3, none⟩ (.int .i64 s'.de)).setCell ⟨X, 4, none⟩ (.int .i64 s'.st)).setCell ⟨X, 5, none⟩ (.int .i64 s'.no)).setCell ⟨X, 6, none⟩ (.int .i64 s'.as_)).setCell ⟨X, 7, none⟩ (.int .i64 s'.si)) = U2 at hx ⊢
              obtain ⟨hx1, hx2, hx3, hx4⟩ := hx
              have HV2 := Aside0.mk (hx4 _ _ _ _ _ (by decide) HV1.out)
              have HC2 := Aside0.mk (hx4 _ _ _ _ _ (by decide) HC1.out)
              have HG2 := Aside0.mk (hx3 _ _ HG1.out HXG.out)
              have HK2 : Aside0 (Bk U2 g s') := ⟨(hx2 g (fun e => HGX.out e)).trans HK1.out⟩
              have HR2 := Aside0.mk ((hx2 w.heap.size (fun e => (blk_ne HR1'.out HX1.out (by decide)) e)).trans HR1'.out)
              have HX2 := Aside0.mk hx1
              clear hx1 hx2 hx3 hx4 HV1 HC1 HG1 HK1 HR1' HX1 HXR5 HBR5 HK5 HB5 HC5
              rcases HBE.out with ⟨rfl, rfl⟩ | ⟨rfl, rfl⟩
              · skip
                refine start_ (n := 26) (S := fun U => U.heap[X]? = some (.cells (xCells s') 78 (0, 0)) ∧ Bk U g s' ∧ Below w.heap.size w U ∧ U.heap[w.heap.size]? = some (.cells #[.int .i64 lo, .int .i64 hi, .int .i64 sl, .int .i64 de] 61 (0, 0))) (ds := []) #[false, false, false, false, false, false, false, false, false, false, false, false, false, false, false, false, false, false, false, false, false, false, false, false, false, false] (by kernel_rfl) rfl rfl ⟨blk_drew HX2.out, blk_drew HK2.out, below_drew1 HG2.out, blk_drew HR2.out⟩ (fun hHeld => ?_)
                refine pure_ (i := 0) (N := (some 90)) (v := ?_) (a' := ?_) #[true, false, false, false, false, false, false, false, false, false, false, false, false, false, false, false, false, false, false, false, false, false, false, false, false, false] rfl rfl (by kernel_rfl) (fun _ _ _ h => h) (Or.inl ⟨by rfl, ?_⟩) ?_ ?_
                rotate_left
                · intro w'
                  go_simp
                  with_reducible rfl
                rotate_left
                · simp only [Act.put, List.setIfInBounds_toArray, List.set_cons_zero, List.set_cons_succ, i64_w, i32_w]
                  rfl
                refine pure_ (i := 2) (N := (some 92)) (v := ?_) (a' := ?_) #[true, false, true, false, false, false, false, false, false, false, false, false, false, false, false, false, false, false, false, false, false, false, false, false, false, false] rfl rfl (by kernel_rfl) (fun _ _ _ h => h) (Or.inl ⟨by rfl, ?_⟩) ?_ ?_
                rotate_left
                · intro w'
                  go_simp
                  with_reducible rfl
                rotate_left
                · simp only [Act.put, List.setIfInBounds_toArray, List.set_cons_zero, List.set_cons_succ, i64_w, i32_w]
                  rfl
                refine one_ (i := 1) (N := (some 91)) #[true, true, true, false, false, false, false, false, false, false, false, false, false, false, false, false, false, false, false, false, false, false, false, false, false, false] rfl rfl (by kernel_rfl) (by decide) (fun K hK => ?_)
                refine goes_ (f := 47) Try.func47 (by kernel_rfl) rfl #[.slice Ac L.length cc] (by rfl) rfl rfl (by simp [Act.eval, Act.put]) ?_
                have hcd := Kd.R_drew HC2.out
                refine (bilgelaw46_changes.calls 9 Ac cc L LM U2.drew (Kd.R_reads' hcd).2.2 (Kd.R_reads' hcd).2.1 HCH.out).mono ?_
                rintro e w7 ⟨v9, rfl, hr, hg⟩
                obtain ⟨A9, c9, rfl⟩ := Kd.R_slice hr
                have HV7 := Aside0.mk (Kd.R_below (Kd.R_drew HV2.out) hg)
                have HR7 := Aside0.mk hr
                clear hr hcd
                refine ⟨_, rfl, hK.out _ _ ⟨blk_below hHeld.1 hg, blk_below hHeld.2.1 hg, hHeld.2.2.1.trans (hg.mono hHeld.2.2.1.size), blk_below hHeld.2.2.2 hg⟩ (fun hHeld => ?_)⟩
                simp only [Act.put, List.setIfInBounds_toArray, List.set_cons_zero, List.set_cons_succ]
                clear hK K
                refine one_ (i := 3) (N := (some 93)) #[true, true, true, true, false, false, false, false, false, false, false, false, false, false, false, false, false, false, false, false, false, false, false, false, false, false] rfl rfl (by kernel_rfl) (by decide) (fun K hK => ?_)
                refine goes_ (f := 46) Try.func46 (by kernel_rfl) rfl #[.slice A9 LM.length c9, .slice A8 LM.length c8] (by rfl) rfl rfl (by simp [Act.eval, Act.put]) ?_
                refine (bilgeref46_Same.calls 9 A9 c9 LM A8 c8 LM true w7 (Kd.R_reads' HR7.out).2.2 (Kd.R_reads' HR7.out).2.1 (Kd.R_reads' HV7.out).2.2 (Kd.R_reads' HV7.out).2.1 HSM.out).mono ?_
                rintro e w8 ⟨rfl, hd⟩
                have hg8 := hd.below
                refine ⟨_, rfl, hK.out _ _ ⟨blk_below hHeld.1 hg8, blk_below hHeld.2.1 hg8, hHeld.2.2.1.trans (hg8.mono hHeld.2.2.1.size), blk_below hHeld.2.2.2 hg8⟩ (fun hHeld => ?_)⟩
                simp only [Act.put, List.setIfInBounds_toArray, List.set_cons_zero, List.set_cons_succ]
                clear hK K
                refine pure_ (i := 4) (N := (some 94)) (v := ?_) (a' := ?_) #[true, true, true, true, true, false, false, false, false, false, false, false, false, false, false, false, false, false, false, false, false, false, false, false, false, false] rfl rfl (by kernel_rfl) (fun _ _ _ h => h) (Or.inl ⟨by rfl, ?_⟩) ?_ ?_
                rotate_left
                · intro w'
                  go_simp
                  with_reducible rfl
                rotate_left
                · simp only [Act.put, List.setIfInBounds_toArray, List.set_cons_zero, List.set_cons_succ, i64_w, i32_w]
                  rfl
                refine pure_ (i := 5) (N := (some 95)) (v := ?_) (a' := ?_) #[true, true, true, true, true, true, false, false, false, false, false, false, false, false, false, false, false, false, false, false, false, false, false, false, false, false] rfl rfl (by kernel_rfl) (fun _ _ _ h => h) (Or.inl ⟨by rfl, ?_⟩) ?_ ?_
                rotate_left
                · intro w'
                  go_simp
                  with_reducible rfl
                rotate_left
                · simp only [Act.put, List.setIfInBounds_toArray, List.set_cons_zero, List.set_cons_succ, i64_w, i32_w]
                  rfl
                refine pure_ (i := 6) (N := (some 96)) (v := ?_) (a' := ?_) #[true, true, true, true, true, true, true, false, false, false, false, false, false, false, false, false, false, false, false, false, false, false, false, false, false, false] rfl rfl (by kernel_rfl) (fun _ _ _ h => h) (Or.inl ⟨by rfl, ?_⟩) ?_ ?_
                rotate_left
                · intro w'
                  go_simp
                  with_reducible rfl
                rotate_left
                · simp only [Act.put, List.setIfInBounds_toArray, List.set_cons_zero, List.set_cons_succ, i64_w, i32_w]
                  rfl
                refine pure_ (i := 7) (N := (some 97)) (v := ?_) (a' := ?_) #[true, true, true, true, true, true, true, true, false, false, false, false, false, false, false, false, false, false, false, false, false, false, false, false, false, false] rfl rfl (by kernel_rfl) (fun _ _ _ h => h) (Or.inl ⟨by rfl, ?_⟩) ?_ ?_
                rotate_left
                · intro w'
                  go_simp
                  with_reducible rfl
                rotate_left
                · simp only [Act.put, List.setIfInBounds_toArray, List.set_cons_zero, List.set_cons_succ, i64_w, i32_w]
                  rfl
                refine pure_ (i := 8) (N := (some 98)) (v := ?_) (a' := ?_) #[true, true, true, true, true, true, true, true, true, false, false, false, false, false, false, false, false, false, false, false, false, false, false, false, false, false] rfl rfl (by kernel_rfl) (fun _ _ _ h => h) (Or.inl ⟨by rfl, ?_⟩) ?_ ?_
                rotate_left
                · intro w'
                  go_simp
                  with_reducible rfl
                rotate_left
                · simp only [Act.put, List.setIfInBounds_toArray, List.set_cons_zero, List.set_cons_succ, i64_w, i32_w]
                  rfl
                refine pure_ (i := 9) (N := (some 99)) (v := ?_) (a' := ?_) #[true, true, true, true, true, true, true, true, true, true, false, false, false, false, false, false, false, false, false, false, false, false, false, false, false, false] rfl rfl (by kernel_rfl) (fun _ _ _ h => h) (Or.inl ⟨by rfl, ?_⟩) ?_ ?_
                rotate_left
                · intro w'
                  go_simp
                  with_reducible rfl
                rotate_left
                · simp only [Act.put, List.setIfInBounds_toArray, List.set_cons_zero, List.set_cons_succ, i64_w, i32_w]
                  rfl
                refine pure_ (i := 10) (N := (some 100)) (v := ?_) (a' := ?_) #[true, true, true, true, true, true, true, true, true, true, true, false, false, false, false, false, false, false, false, false, false, false, false, false, false, false] rfl rfl (by kernel_rfl) (fun _ _ _ h => h) (Or.inl ⟨by rfl, ?_⟩) ?_ ?_
                rotate_left
                · intro w'
                  go_simp
                  with_reducible rfl
                rotate_left
                · simp only [Act.put, List.setIfInBounds_toArray, List.set_cons_zero, List.set_cons_succ, i64_w, i32_w]
                  rfl
                refine pure_ (i := 11) (N := (some 101)) (v := ?_) (a' := ?_) #[true, true, true, true, true, true, true, true, true, true, true, true, false, false, false, false, false, false, false, false, false, false, false, false, false, false] rfl rfl (by kernel_rfl) (fun _ _ _ h => h) (Or.inl ⟨by rfl, ?_⟩) ?_ ?_
                rotate_left
                · intro w'
                  go_simp
                  with_reducible rfl
                rotate_left
                · simp only [Act.put, List.setIfInBounds_toArray, List.set_cons_zero, List.set_cons_succ, i64_w, i32_w]
                  rfl
                refine pure_ (i := 12) (N := (some 102)) (v := ?_) (a' := ?_) #[true, true, true, true, true, true, true, true, true, true, true, true, true, false, false, false, false, false, false, false, false, false, false, false, false, false] rfl rfl (by kernel_rfl) (fun _ _ _ h => h) (Or.inl ⟨by rfl, ?_⟩) ?_ ?_
                rotate_left
                · intro w'
                  go_simp
                  with_reducible rfl
                rotate_left
                · simp only [Act.put, List.setIfInBounds_toArray, List.set_cons_zero, List.set_cons_succ, i64_w, i32_w]
                  rfl
                refine pure_ (i := 13) (N := (some 103)) (v := ?_) (a' := ?_) #[true, true, true, true, true, true, true, true, true, true, true, true, true, true, false, false, false, false, false, false, false, false, false, false, false, false] rfl rfl (by kernel_rfl) (fun _ _ _ h => h) (Or.inl ⟨by rfl, ?_⟩) ?_ ?_
                rotate_left
                · intro w'
                  go_simp
                  with_reducible rfl
                rotate_left
                · simp only [Act.put, List.setIfInBounds_toArray, List.set_cons_zero, List.set_cons_succ, i64_w, i32_w]
                  rfl
                refine pure_ (i := 14) (N := (some 104)) (v := ?_) (a' := ?_) #[true, true, true, true, true, true, true, true, true, true, true, true, true, true, true, false, false, false, false, false, false, false, false, false, false, false] rfl rfl (by kernel_rfl) (fun _ _ _ h => h) (Or.inl ⟨by rfl, ?_⟩) ?_ ?_
                rotate_left
                · intro w'
                  go_simp
                  with_reducible rfl
                rotate_left
                · simp only [Act.put, List.setIfInBounds_toArray, List.set_cons_zero, List.set_cons_succ, i64_w, i32_w]
                  rfl
                refine pure_ (i := 15) (N := (some 105)) (v := undef) (a' := ?_) #[true, true, true, true, true, true, true, true, true, true, true, true, true, true, true, true, false, false, false, false, false, false, false, false, false, false] rfl rfl (by kernel_rfl) (fun _ _ _ h => h) (Or.inr ⟨by rfl, rfl⟩) ?_ ?_
                rotate_left
                · simp only [Act.put, List.setIfInBounds_toArray, List.set_cons_zero, List.set_cons_succ, i64_w, i32_w]
                  rfl
                refine pure_ (i := 16) (N := (some 106)) (v := undef) (a' := ?_) #[true, true, true, true, true, true, true, true, true, true, true, true, true, true, true, true, true, false, false, false, false, false, false, false, false, false] rfl rfl (by kernel_rfl) (fun _ _ _ h => h) (Or.inr ⟨by rfl, rfl⟩) ?_ ?_
                rotate_left
                · simp only [Act.put, List.setIfInBounds_toArray, List.set_cons_zero, List.set_cons_succ, i64_w, i32_w]
                  rfl
                refine pure_ (i := 17) (N := (some 107)) (v := ?_) (a' := ?_) #[true, true, true, true, true, true, true, true, true, true, true, true, true, true, true, true, true, true, false, false, false, false, false, false, false, false] rfl rfl (by kernel_rfl) (fun _ _ _ h => h) (Or.inl ⟨by rfl, ?_⟩) ?_ ?_
                rotate_left
                · intro w'
                  go_simp
                  with_reducible rfl
                rotate_left
                · simp only [Act.put, List.setIfInBounds_toArray, List.set_cons_zero, List.set_cons_succ, i64_w, i32_w]
                  rfl
                refine pure_ (i := 18) (N := (some 108)) (v := ?_) (a' := ?_) #[true, true, true, true, true, true, true, true, true, true, true, true, true, true, true, true, true, true, true, false, false, false, false, false, false, false] rfl rfl (by kernel_rfl) (fun _ _ _ h => h) (Or.inl ⟨by rfl, ?_⟩) ?_ ?_
                rotate_left
                · intro w'
                  go_simp
                  with_reducible rfl
                rotate_left
                · simp only [Act.put, List.setIfInBounds_toArray, List.set_cons_zero, List.set_cons_succ, i64_w, i32_w]
                  rfl
                refine pure_ (i := 19) (N := (some 109)) (v := ?_) (a' := ?_) #[true, true, true, true, true, true, true, true, true, true, true, true, true, true, true, true, true, true, true, true, false, false, false, false, false, false] rfl rfl (by kernel_rfl) (fun _ _ _ h => h) (Or.inl ⟨by rfl, ?_⟩) ?_ ?_
                rotate_left
                · intro w'
                  go_simp
                  with_reducible rfl
                rotate_left
                · simp only [Act.put, List.setIfInBounds_toArray, List.set_cons_zero, List.set_cons_succ, i64_w, i32_w]
                  rfl
                refine pure_ (i := 20) (N := (some 110)) (v := ?_) (a' := ?_) #[true, true, true, true, true, true, true, true, true, true, true, true, true, true, true, true, true, true, true, true, true, false, false, false, false, false] rfl rfl (by kernel_rfl) (fun _ _ _ h => h) (Or.inl ⟨by rfl, ?_⟩) ?_ ?_
                rotate_left
                · intro w'
                  go_simp
                  with_reducible rfl
                rotate_left
                · simp only [Act.put, List.setIfInBounds_toArray, List.set_cons_zero, List.set_cons_succ, i64_w, i32_w]
                  rfl
                refine pure_ (i := 22) (N := (some 112)) (v := ?_) (a' := ?_) #[true, true, true, true, true, true, true, true, true, true, true, true, true, true, true, true, true, true, true, true, true, false, true, false, false, false] rfl rfl (by kernel_rfl) (fun _ _ _ h => h) (Or.inl ⟨by rfl, ?_⟩) ?_ ?_
                rotate_left
                · intro w'
                  go_simp
                  with_reducible rfl
                rotate_left
                · simp only [Act.put, List.setIfInBounds_toArray, List.set_cons_zero, List.set_cons_succ, i64_w, i32_w]
                  rfl
                refine take_ (i := 23) (N := (some 113)) (v := ?_) (a' := ?_) #[true, true, true, true, true, true, true, true, true, true, true, true, true, true, true, true, true, true, true, true, true, false, true, true, false, false] rfl rfl (by kernel_rfl) (fun _ _ _ h => h) (Or.inl ⟨by rfl, ?_⟩) hHeld ?_ ?_
                rotate_left
                · intro w' s0
                  have x4 : w'.cell? ⟨X, 4, none⟩ = some (.int .i64 s'.st) := (blk_cell s0.1 4).trans rfl
                  go_simp
                  with_reducible rfl
                rotate_left
                · simp only [Act.put, List.setIfInBounds_toArray, List.set_cons_zero, List.set_cons_succ, i64_w, i32_w]
                  rfl
                refine one_ (i := 21) (N := (some 111)) #[true, true, true, true, true, true, true, true, true, true, true, true, true, true, true, true, true, true, true, true, true, true, true, true, false, false] rfl rfl (by kernel_rfl) (by decide) (fun K hK => ?_)
                refine goes_ (f := 43) Try.func43 (by kernel_rfl) rfl #[.pointer (some ⟨g, 0, none⟩)] (by rfl) rfl rfl (by simp [Act.eval, Act.put]) ?_
                refine (stands_made g s' _ hHeld.2.1).mono ?_
                rintro e w9 ⟨rfl, hd9⟩
                have hg9 := hd9.below
                refine ⟨_, rfl, hK.out _ _ ⟨blk_below hHeld.1 hg9, blk_below hHeld.2.1 hg9, hHeld.2.2.1.trans (hg9.mono hHeld.2.2.1.size), blk_below hHeld.2.2.2 hg9⟩ (fun hHeld => ?_)⟩
                simp only [Act.put, List.setIfInBounds_toArray, List.set_cons_zero, List.set_cons_succ]
                clear hK K
                refine pure_ (i := 24) (N := (some 114)) (v := ?_) (a' := ?_) #[true, true, true, true, true, true, true, true, true, true, true, true, true, true, true, true, true, true, true, true, true, true, true, true, true, false] rfl rfl (by kernel_rfl) (fun _ _ _ h => h) (Or.inl ⟨by rfl, ?_⟩) ?_ ?_
                rotate_left
                · intro w'
                  go_simp
                  with_reducible rfl
                rotate_left
                · simp only [Act.put, List.setIfInBounds_toArray, List.set_cons_zero, List.set_cons_succ, i64_w, i32_w]
                  rfl
                refine pure_ (i := 25) (N := (some 115)) (v := ?_) (a' := ?_) #[true, true, true, true, true, true, true, true, true, true, true, true, true, true, true, true, true, true, true, true, true, true, true, true, true, true] rfl rfl (by kernel_rfl) (fun _ _ _ h => h) (Or.inl ⟨by rfl, ?_⟩) ?_ ?_
                rotate_left
                · intro w'
                  go_simp
                  with_reducible rfl
                rotate_left
                · simp only [Act.put, List.setIfInBounds_toArray, List.set_cons_zero, List.set_cons_succ, i64_w, i32_w]
                  rfl
                refine done_ (by kernel_rfl) ?_
                obtain ⟨hXe, hKe, hBe, hRe⟩ := hHeld
                have HXe := Aside0.mk hXe
                have HKe := Aside0.mk hKe
                have HBe := Aside0.mk hBe
                have HRe := Aside0.mk hRe
                have HGLT := Aside0.mk hKe.lt
                clear hXe hKe hBe hRe hd9 hg9
                have hT := HT.out
                by_cases h8 : (i : Int) % 8 = 3
                · have d8 : ((i : Int) % 8 == 3) = true := beq_iff_eq.2 h8
                  clear h8
                  go_wp2_with fail
                  refine (clone_made g s' w9 HKe.out).mono ?_
                  rintro e w10 ⟨g2, rfl, hb, hge, hg⟩
                  have HK10 := Aside0.mk (blk_below HKe.out hg)
                  have HX10 := Aside0.mk (blk_below HXe.out hg)
                  have hr10 := blk_below HRe.out hg
                  have HR10 := Aside0.mk hr10
                  have HB10 := Aside0.mk (HBe.out.trans (hg.mono HBe.out.size))
                  have HC10 := Aside0.mk hb
                  have HGE2 := Aside0.mk (Nat.le_trans HBe.out.size hge)
                  have HNE := Aside0.mk (show g2 ≠ g by have := HGLT.out; omega)
                  obtain ⟨r0, r1, r2, r3⟩ := RC.out _ _ hr10
                  clear hb hge hg hr10
                  go_wp2_with fail
                  obtain ⟨s9, L9, LM9, b9, en9, hcall9, _, _, _, _, _⟩ := feed_both g s' 1099511627776 (hi + 1) w10 HK10.out HOK'.out
                  refine hcall9.mono ?_
                  rintro e w11 ⟨v11, rfl, _, hb, hg⟩
                  have HB11 := Aside0.mk (HB10.out.grown hg HB10.out.size (fun k hk => (Option.some.inj hk) ▸ HS.out.2.1))
                  have HX11 := Aside0.mk ((hg.block _ (blk_lt HX10.out) (fun e => (blk_ne HK10.out HX10.out (by decide)) (Option.some.inj e).symm)).trans HX10.out)
                  have HR11 := Aside0.mk ((hg.block _ (blk_lt HR10.out) (fun e => (blk_ne HK10.out HR10.out (by decide)) (Option.some.inj e).symm)).trans HR10.out)
                  have HK11 := Aside0.mk (HC10.out.grown hg (fun e => HNE.out (Option.some.inj e)))
                  clear hb hg hcall9 r0 r1 r2 r3
                  go_wp2
                  go_roundw
                  case rel => exact ⟨i + 1, t', g2, s', by have := HLT.out; omega, by go_num, by first | rfl | trivial, by first | rfl | trivial, ⟨HK11.out, HGE2.out, HOK'.out⟩, HR11, HX11, HB11, HT2⟩
                  case measure => have := HLT.out; simp [intOf]; omega
                · have d8 : ((i : Int) % 8 == 3) = false := beq_eq_false_iff_ne.2 h8
                  clear h8
                  go_wp2
                  go_roundw
                  case rel => exact ⟨i + 1, t', g, s', by have := HLT.out; omega, by go_num, by first | rfl | trivial, by first | rfl | trivial, ⟨HKe.out, HS.out.2.1, HOK'.out⟩, HRe, HXe, HBe, HT2⟩
                  case measure => have := HLT.out; simp [intOf]; omega
              · skip
                refine start_ (n := 26) (S := fun U => U.heap[X]? = some (.cells (xCells s') 78 (0, 0)) ∧ Bk U g s' ∧ Below w.heap.size w U ∧ U.heap[w.heap.size]? = some (.cells #[.int .i64 lo, .int .i64 hi, .int .i64 sl, .int .i64 de] 61 (0, 0))) (ds := []) #[false, false, false, false, false, false, false, false, false, false, false, false, false, false, false, false, false, false, false, false, false, false, false, false, false, false] (by kernel_rfl) rfl rfl ⟨blk_drew HX2.out, blk_drew HK2.out, below_drew1 HG2.out, blk_drew HR2.out⟩ (fun hHeld => ?_)
                refine pure_ (i := 0) (N := (some 90)) (v := ?_) (a' := ?_) #[true, false, false, false, false, false, false, false, false, false, false, false, false, false, false, false, false, false, false, false, false, false, false, false, false, false] rfl rfl (by kernel_rfl) (fun _ _ _ h => h) (Or.inl ⟨by rfl, ?_⟩) ?_ ?_
                rotate_left
                · intro w'
                  go_simp
                  with_reducible rfl
                rotate_left
                · simp only [Act.put, List.setIfInBounds_toArray, List.set_cons_zero, List.set_cons_succ, i64_w, i32_w]
                  rfl
                refine pure_ (i := 2) (N := (some 92)) (v := ?_) (a' := ?_) #[true, false, true, false, false, false, false, false, false, false, false, false, false, false, false, false, false, false, false, false, false, false, false, false, false, false] rfl rfl (by kernel_rfl) (fun _ _ _ h => h) (Or.inl ⟨by rfl, ?_⟩) ?_ ?_
                rotate_left
                · intro w'
                  go_simp
                  with_reducible rfl
                rotate_left
                · simp only [Act.put, List.setIfInBounds_toArray, List.set_cons_zero, List.set_cons_succ, i64_w, i32_w]
                  rfl
                refine one_ (i := 1) (N := (some 91)) #[true, true, true, false, false, false, false, false, false, false, false, false, false, false, false, false, false, false, false, false, false, false, false, false, false, false] rfl rfl (by kernel_rfl) (by decide) (fun K hK => ?_)
                refine goes_ (f := 47) Try.func47 (by kernel_rfl) rfl #[.slice Ac L.length cc] (by rfl) rfl rfl (by simp [Act.eval, Act.put]) ?_
                have hcd := Kd.R_drew HC2.out
                refine (bilgelaw46_changes.calls 9 Ac cc L LM U2.drew (Kd.R_reads' hcd).2.2 (Kd.R_reads' hcd).2.1 HCH.out).mono ?_
                rintro e w7 ⟨v9, rfl, hr, hg⟩
                obtain ⟨A9, c9, rfl⟩ := Kd.R_slice hr
                have HV7 := Aside0.mk (Kd.R_below (Kd.R_drew HV2.out) hg)
                have HR7 := Aside0.mk hr
                clear hr hcd
                refine ⟨_, rfl, hK.out _ _ ⟨blk_below hHeld.1 hg, blk_below hHeld.2.1 hg, hHeld.2.2.1.trans (hg.mono hHeld.2.2.1.size), blk_below hHeld.2.2.2 hg⟩ (fun hHeld => ?_)⟩
                simp only [Act.put, List.setIfInBounds_toArray, List.set_cons_zero, List.set_cons_succ]
                clear hK K
                refine one_ (i := 3) (N := (some 93)) #[true, true, true, true, false, false, false, false, false, false, false, false, false, false, false, false, false, false, false, false, false, false, false, false, false, false] rfl rfl (by kernel_rfl) (by decide) (fun K hK => ?_)
                refine goes_ (f := 46) Try.func46 (by kernel_rfl) rfl #[.slice A9 LM.length c9, .slice A8 LM.length c8] (by rfl) rfl rfl (by simp [Act.eval, Act.put]) ?_
                refine (bilgeref46_Same.calls 9 A9 c9 LM A8 c8 LM true w7 (Kd.R_reads' HR7.out).2.2 (Kd.R_reads' HR7.out).2.1 (Kd.R_reads' HV7.out).2.2 (Kd.R_reads' HV7.out).2.1 HSM.out).mono ?_
                rintro e w8 ⟨rfl, hd⟩
                have hg8 := hd.below
                refine ⟨_, rfl, hK.out _ _ ⟨blk_below hHeld.1 hg8, blk_below hHeld.2.1 hg8, hHeld.2.2.1.trans (hg8.mono hHeld.2.2.1.size), blk_below hHeld.2.2.2 hg8⟩ (fun hHeld => ?_)⟩
                simp only [Act.put, List.setIfInBounds_toArray, List.set_cons_zero, List.set_cons_succ]
                clear hK K
                refine pure_ (i := 4) (N := (some 94)) (v := ?_) (a' := ?_) #[true, true, true, true, true, false, false, false, false, false, false, false, false, false, false, false, false, false, false, false, false, false, false, false, false, false] rfl rfl (by kernel_rfl) (fun _ _ _ h => h) (Or.inl ⟨by rfl, ?_⟩) ?_ ?_
                rotate_left
                · intro w'
                  go_simp
                  with_reducible rfl
                rotate_left
                · simp only [Act.put, List.setIfInBounds_toArray, List.set_cons_zero, List.set_cons_succ, i64_w, i32_w]
                  rfl
                refine pure_ (i := 5) (N := (some 95)) (v := ?_) (a' := ?_) #[true, true, true, true, true, true, false, false, false, false, false, false, false, false, false, false, false, false, false, false, false, false, false, false, false, false] rfl rfl (by kernel_rfl) (fun _ _ _ h => h) (Or.inl ⟨by rfl, ?_⟩) ?_ ?_
                rotate_left
                · intro w'
                  go_simp
                  with_reducible rfl
                rotate_left
                · simp only [Act.put, List.setIfInBounds_toArray, List.set_cons_zero, List.set_cons_succ, i64_w, i32_w]
                  rfl
                refine pure_ (i := 6) (N := (some 96)) (v := ?_) (a' := ?_) #[true, true, true, true, true, true, true, false, false, false, false, false, false, false, false, false, false, false, false, false, false, false, false, false, false, false] rfl rfl (by kernel_rfl) (fun _ _ _ h => h) (Or.inl ⟨by rfl, ?_⟩) ?_ ?_
                rotate_left
                · intro w'
                  go_simp
                  with_reducible rfl
                rotate_left
                · simp only [Act.put, List.setIfInBounds_toArray, List.set_cons_zero, List.set_cons_succ, i64_w, i32_w]
                  rfl
                refine pure_ (i := 7) (N := (some 97)) (v := ?_) (a' := ?_) #[true, true, true, true, true, true, true, true, false, false, false, false, false, false, false, false, false, false, false, false, false, false, false, false, false, false] rfl rfl (by kernel_rfl) (fun _ _ _ h => h) (Or.inl ⟨by rfl, ?_⟩) ?_ ?_
                rotate_left
                · intro w'
                  go_simp
                  with_reducible rfl
                rotate_left
                · simp only [Act.put, List.setIfInBounds_toArray, List.set_cons_zero, List.set_cons_succ, i64_w, i32_w]
                  rfl
                refine pure_ (i := 8) (N := (some 98)) (v := ?_) (a' := ?_) #[true, true, true, true, true, true, true, true, true, false, false, false, false, false, false, false, false, false, false, false, false, false, false, false, false, false] rfl rfl (by kernel_rfl) (fun _ _ _ h => h) (Or.inl ⟨by rfl, ?_⟩) ?_ ?_
                rotate_left
                · intro w'
                  go_simp
                  with_reducible rfl
                rotate_left
                · simp only [Act.put, List.setIfInBounds_toArray, List.set_cons_zero, List.set_cons_succ, i64_w, i32_w]
                  rfl
                refine pure_ (i := 9) (N := (some 99)) (v := ?_) (a' := ?_) #[true, true, true, true, true, true, true, true, true, true, false, false, false, false, false, false, false, false, false, false, false, false, false, false, false, false] rfl rfl (by kernel_rfl) (fun _ _ _ h => h) (Or.inl ⟨by rfl, ?_⟩) ?_ ?_
                rotate_left
                · intro w'
                  go_simp
                  with_reducible rfl
                rotate_left
                · simp only [Act.put, List.setIfInBounds_toArray, List.set_cons_zero, List.set_cons_succ, i64_w, i32_w]
                  rfl
                refine pure_ (i := 10) (N := (some 100)) (v := ?_) (a' := ?_) #[true, true, true, true, true, true, true, true, true, true, true, false, false, false, false, false, false, false, false, false, false, false, false, false, false, false] rfl rfl (by kernel_rfl) (fun _ _ _ h => h) (Or.inl ⟨by rfl, ?_⟩) ?_ ?_
                rotate_left
                · intro w'
                  go_simp
                  with_reducible rfl
                rotate_left
                · simp only [Act.put, List.setIfInBounds_toArray, List.set_cons_zero, List.set_cons_succ, i64_w, i32_w]
                  rfl
                refine pure_ (i := 11) (N := (some 101)) (v := ?_) (a' := ?_) #[true, true, true, true, true, true, true, true, true, true, true, true, false, false, false, false, false, false, false, false, false, false, false, false, false, false] rfl rfl (by kernel_rfl) (fun _ _ _ h => h) (Or.inl ⟨by rfl, ?_⟩) ?_ ?_
                rotate_left
                · intro w'
                  go_simp
                  with_reducible rfl
                rotate_left
                · simp only [Act.put, List.setIfInBounds_toArray, List.set_cons_zero, List.set_cons_succ, i64_w, i32_w]
                  rfl
                refine pure_ (i := 12) (N := (some 102)) (v := ?_) (a' := ?_) #[true, true, true, true, true, true, true, true, true, true, true, true, true, false, false, false, false, false, false, false, false, false, false, false, false, false] rfl rfl (by kernel_rfl) (fun _ _ _ h => h) (Or.inl ⟨by rfl, ?_⟩) ?_ ?_
                rotate_left
                · intro w'
                  go_simp
                  with_reducible rfl
                rotate_left
                · simp only [Act.put, List.setIfInBounds_toArray, List.set_cons_zero, List.set_cons_succ, i64_w, i32_w]
                  rfl
                refine pure_ (i := 13) (N := (some 103)) (v := ?_) (a' := ?_) #[true, true, true, true, true, true, true, true, true, true, true, true, true, true, false, false, false, false, false, false, false, false, false, false, false, false] rfl rfl (by kernel_rfl) (fun _ _ _ h => h) (Or.inl ⟨by rfl, ?_⟩) ?_ ?_
                rotate_left
                · intro w'
                  go_simp
                  with_reducible rfl
                rotate_left
                · simp only [Act.put, List.setIfInBounds_toArray, List.set_cons_zero, List.set_cons_succ, i64_w, i32_w]
                  rfl
                refine pure_ (i := 14) (N := (some 104)) (v := ?_) (a' := ?_) #[true, true, true, true, true, true, true, true, true, true, true, true, true, true, true, false, false, false, false, false, false, false, false, false, false, false] rfl rfl (by kernel_rfl) (fun _ _ _ h => h) (Or.inl ⟨by rfl, ?_⟩) ?_ ?_
                rotate_left
                · intro w'
                  go_simp
                  with_reducible rfl
                rotate_left
                · simp only [Act.put, List.setIfInBounds_toArray, List.set_cons_zero, List.set_cons_succ, i64_w, i32_w]
                  rfl
                refine pure_ (i := 15) (N := (some 105)) (v := ?_) (a' := ?_) #[true, true, true, true, true, true, true, true, true, true, true, true, true, true, true, true, false, false, false, false, false, false, false, false, false, false] rfl rfl (by kernel_rfl) (fun _ _ _ h => h) (Or.inl ⟨by rfl, ?_⟩) ?_ ?_
                rotate_left
                · intro w'
                  go_simp
                  with_reducible rfl
                rotate_left
                · simp only [Act.put, List.setIfInBounds_toArray, List.set_cons_zero, List.set_cons_succ, i64_w, i32_w]
                  rfl
                refine pure_ (i := 16) (N := (some 106)) (v := ?_) (a' := ?_) #[true, true, true, true, true, true, true, true, true, true, true, true, true, true, true, true, true, false, false, false, false, false, false, false, false, false] rfl rfl (by kernel_rfl) (fun _ _ _ h => h) (Or.inl ⟨by rfl, ?_⟩) ?_ ?_
                rotate_left
                · intro w'
                  go_simp
                  with_reducible rfl
                rotate_left
                · simp only [Act.put, List.setIfInBounds_toArray, List.set_cons_zero, List.set_cons_succ, i64_w, i32_w]
                  rfl
                refine pure_ (i := 17) (N := (some 107)) (v := ?_) (a' := ?_) #[true, true, true, true, true, true, true, true, true, true, true, true, true, true, true, true, true, true, false, false, false, false, false, false, false, false] rfl rfl (by kernel_rfl) (fun _ _ _ h => h) (Or.inl ⟨by rfl, ?_⟩) ?_ ?_
                rotate_left
                · intro w'
                  go_simp
                  with_reducible rfl
                rotate_left
                · simp only [Act.put, List.setIfInBounds_toArray, List.set_cons_zero, List.set_cons_succ, i64_w, i32_w]
                  rfl
                refine pure_ (i := 18) (N := (some 108)) (v := ?_) (a' := ?_) #[true, true, true, true, true, true, true, true, true, true, true, true, true, true, true, true, true, true, true, false, false, false, false, false, false, false] rfl rfl (by kernel_rfl) (fun _ _ _ h => h) (Or.inl ⟨by rfl, ?_⟩) ?_ ?_
                rotate_left
                · intro w'
                  go_simp
                  with_reducible rfl
                rotate_left
                · simp only [Act.put, List.setIfInBounds_toArray, List.set_cons_zero, List.set_cons_succ, i64_w, i32_w]
                  rfl
                refine pure_ (i := 19) (N := (some 109)) (v := ?_) (a' := ?_) #[true, true, true, true, true, true, true, true, true, true, true, true, true, true, true, true, true, true, true, true, false, false, false, false, false, false] rfl rfl (by kernel_rfl) (fun _ _ _ h => h) (Or.inl ⟨by rfl, ?_⟩) ?_ ?_
                rotate_left
                · intro w'
                  go_simp
                  with_reducible rfl
                rotate_left
                · simp only [Act.put, List.setIfInBounds_toArray, List.set_cons_zero, List.set_cons_succ, i64_w, i32_w]
                  rfl
                refine pure_ (i := 20) (N := (some 110)) (v := ?_) (a' := ?_) #[true, true, true, true, true, true, true, true, true, true, true, true, true, true, true, true, true, true, true, true, true, false, false, false, false, false] rfl rfl (by kernel_rfl) (fun _ _ _ h => h) (Or.inl ⟨by rfl, ?_⟩) ?_ ?_
                rotate_left
                · intro w'
                  go_simp
                  with_reducible rfl
                rotate_left
                · simp only [Act.put, List.setIfInBounds_toArray, List.set_cons_zero, List.set_cons_succ, i64_w, i32_w]
                  rfl
                refine pure_ (i := 22) (N := (some 112)) (v := ?_) (a' := ?_) #[true, true, true, true, true, true, true, true, true, true, true, true, true, true, true, true, true, true, true, true, true, false, true, false, false, false] rfl rfl (by kernel_rfl) (fun _ _ _ h => h) (Or.inl ⟨by rfl, ?_⟩) ?_ ?_
                rotate_left
                · intro w'
                  go_simp
                  with_reducible rfl
                rotate_left
                · simp only [Act.put, List.setIfInBounds_toArray, List.set_cons_zero, List.set_cons_succ, i64_w, i32_w]
                  rfl
                refine take_ (i := 23) (N := (some 113)) (v := ?_) (a' := ?_) #[true, true, true, true, true, true, true, true, true, true, true, true, true, true, true, true, true, true, true, true, true, false, true, true, false, false] rfl rfl (by kernel_rfl) (fun _ _ _ h => h) (Or.inl ⟨by rfl, ?_⟩) hHeld ?_ ?_
                rotate_left
                · intro w' s0
                  have x4 : w'.cell? ⟨X, 4, none⟩ = some (.int .i64 s'.st) := (blk_cell s0.1 4).trans rfl
                  go_simp
                  with_reducible rfl
                rotate_left
                · simp only [Act.put, List.setIfInBounds_toArray, List.set_cons_zero, List.set_cons_succ, i64_w, i32_w]
                  rfl
                refine one_ (i := 21) (N := (some 111)) #[true, true, true, true, true, true, true, true, true, true, true, true, true, true, true, true, true, true, true, true, true, true, true, true, false, false] rfl rfl (by kernel_rfl) (by decide) (fun K hK => ?_)
                refine goes_ (f := 43) Try.func43 (by kernel_rfl) rfl #[.pointer (some ⟨g, 0, none⟩)] (by rfl) rfl rfl (by simp [Act.eval, Act.put]) ?_
                refine (stands_made g s' _ hHeld.2.1).mono ?_
                rintro e w9 ⟨rfl, hd9⟩
                have hg9 := hd9.below
                refine ⟨_, rfl, hK.out _ _ ⟨blk_below hHeld.1 hg9, blk_below hHeld.2.1 hg9, hHeld.2.2.1.trans (hg9.mono hHeld.2.2.1.size), blk_below hHeld.2.2.2 hg9⟩ (fun hHeld => ?_)⟩
                simp only [Act.put, List.setIfInBounds_toArray, List.set_cons_zero, List.set_cons_succ]
                clear hK K
                refine pure_ (i := 24) (N := (some 114)) (v := ?_) (a' := ?_) #[true, true, true, true, true, true, true, true, true, true, true, true, true, true, true, true, true, true, true, true, true, true, true, true, true, false] rfl rfl (by kernel_rfl) (fun _ _ _ h => h) (Or.inl ⟨by rfl, ?_⟩) ?_ ?_
                rotate_left
                · intro w'
                  go_simp
                  with_reducible rfl
                rotate_left
                · simp only [Act.put, List.setIfInBounds_toArray, List.set_cons_zero, List.set_cons_succ, i64_w, i32_w]
                  rfl
                refine pure_ (i := 25) (N := (some 115)) (v := ?_) (a' := ?_) #[true, true, true, true, true, true, true, true, true, true, true, true, true, true, true, true, true, true, true, true, true, true, true, true, true, true] rfl rfl (by kernel_rfl) (fun _ _ _ h => h) (Or.inl ⟨by rfl, ?_⟩) ?_ ?_
                rotate_left
                · intro w'
                  go_simp
                  with_reducible rfl
                rotate_left
                · simp only [Act.put, List.setIfInBounds_toArray, List.set_cons_zero, List.set_cons_succ, i64_w, i32_w]
                  rfl
                refine done_ (by kernel_rfl) ?_
                obtain ⟨hXe, hKe, hBe, hRe⟩ := hHeld
                have HXe := Aside0.mk hXe
                have HKe := Aside0.mk hKe
                have HBe := Aside0.mk hBe
                have HRe := Aside0.mk hRe
                have HGLT := Aside0.mk hKe.lt
                clear hXe hKe hBe hRe hd9 hg9
                have hT := HT.out
                by_cases h8 : (i : Int) % 8 = 3
                · have d8 : ((i : Int) % 8 == 3) = true := beq_iff_eq.2 h8
                  clear h8
                  go_wp2_with fail
                  refine (clone_made g s' w9 HKe.out).mono ?_
                  rintro e w10 ⟨g2, rfl, hb, hge, hg⟩
                  have HK10 := Aside0.mk (blk_below HKe.out hg)
                  have HX10 := Aside0.mk (blk_below HXe.out hg)
                  have hr10 := blk_below HRe.out hg
                  have HR10 := Aside0.mk hr10
                  have HB10 := Aside0.mk (HBe.out.trans (hg.mono HBe.out.size))
                  have HC10 := Aside0.mk hb
                  have HGE2 := Aside0.mk (Nat.le_trans HBe.out.size hge)
                  have HNE := Aside0.mk (show g2 ≠ g by have := HGLT.out; omega)
                  obtain ⟨r0, r1, r2, r3⟩ := RC.out _ _ hr10
                  clear hb hge hg hr10
                  go_wp2_with fail
                  obtain ⟨s9, L9, LM9, b9, en9, hcall9, _, _, _, _, _⟩ := feed_both g s' 1099511627776 (hi + 1) w10 HK10.out HOK'.out
                  refine hcall9.mono ?_
                  rintro e w11 ⟨v11, rfl, _, hb, hg⟩
                  have HB11 := Aside0.mk (HB10.out.grown hg HB10.out.size (fun k hk => (Option.some.inj hk) ▸ HS.out.2.1))
                  have HX11 := Aside0.mk ((hg.block _ (blk_lt HX10.out) (fun e => (blk_ne HK10.out HX10.out (by decide)) (Option.some.inj e).symm)).trans HX10.out)
                  have HR11 := Aside0.mk ((hg.block _ (blk_lt HR10.out) (fun e => (blk_ne HK10.out HR10.out (by decide)) (Option.some.inj e).symm)).trans HR10.out)
                  have HK11 := Aside0.mk (HC10.out.grown hg (fun e => HNE.out (Option.some.inj e)))
                  clear hb hg hcall9 r0 r1 r2 r3
                  go_wp2
                  go_roundw
                  case rel => exact ⟨i + 1, t', g2, s', by have := HLT.out; omega, by go_num, by first | rfl | trivial, by first | rfl | trivial, ⟨HK11.out, HGE2.out, HOK'.out⟩, HR11, HX11, HB11, HT2⟩
                  case measure => have := HLT.out; simp [intOf]; omega
                · have d8 : ((i : Int) % 8 == 3) = false := beq_eq_false_iff_ne.2 h8
                  clear h8
                  go_wp2
                  go_roundw
                  case rel => exact ⟨i + 1, t', g, s', by have := HLT.out; omega, by go_num, by first | rfl | trivial, by first | rfl | trivial, ⟨HKe.out, HS.out.2.1, HOK'.out⟩, HRe, HXe, HBe, HT2⟩
                  case measure => have := HLT.out; simp [intOf]; omega
      · have q1 : ¬ (i : Int) < (n : Int) := by omega
        clear hlt
        go_wp2_with fail
        refine (sure_calls _).mono ?_
        rintro e w9 ⟨rfl, hg⟩
        have HF := Aside0.mk (HB.out.trans (hg.mono HB.out.size))
        clear hg
        go_wp2
        go_ret
        exact ⟨rfl, HF.out⟩
def bilgelaw46_AlarmSteps.Pure : Prop := ∀ (x0 : S61) (x1 : List (S67)), (((Lit.int .i64 x0.f0).wf = true) ∧ ((Lit.int .i64 x0.f1).wf = true) ∧ ((Lit.int .i64 x0.f2).wf = true) ∧ (Lit.int .i64 x0.f3).wf = true) → (x1.length ≤ maxLen ∧ x1.length * 16 ≤ 140737488351232 ∧ ∀ y_0 ∈ x1, ((Lit.int .i64 y_0.f0).wf = true) ∧ (Lit.int .i64 y_0.f1).wf = true) → ∃ k, bilgelaw46_AlarmSteps.f k x0.f0 x0.f1 x0.f2 x0.f3 x1 = some true

end Go.Proofs.Ytbghnfhjaolhaaa.PAlarmSteps

-- Written by a program of this session, in the form of the kit's print, some functions by hand (N.B. not a file of print.sh's).
import Derived.Test.YtbghnfhjaolhaaaPAlarmHoldsx0
namespace Go.Proofs.Ytbghnfhjaolhaaa.PAlarmHolds
open Go.RowKit Go.Proofs.YtbghnfhjaolhaaaW.PrintWords Go.Proofs.YtbghnfhjaolhaaaW.PrintLast Go.Proofs.YtbghnfhjaolhaaaW.PrintMore Go.Proofs.YtbghnfhjaolhaaaM
attribute [local go_sem] max2_int min2_int max_two min_two max_three min_three max_four min_four   -- for this text's walks alone
set_option linter.unusedVariables false
set_option linter.unusedSimpArgs false

/-! ### alarm_Right: function 39 (by hand) -/
structure Wt where
  lo : Int
  hi : Int
  sl : Int
  de : Int
  st : Int
  as_ : Int
  si : Int
  no : Int
def Wt.cells (s : Wt) : Array Value := #[.int .i64 s.lo, .int .i64 s.hi, .int .i64 s.sl, .int .i64 s.de, .bool true, .int .i64 s.st, .int .i64 s.as_, .int .i64 s.si, .int .i64 s.no]
def Wt.Ok (s : Wt) : Prop := (-1000000000 ≤ s.lo ∧ s.lo ≤ 1000000000) ∧ (-1000000000 ≤ s.hi ∧ s.hi ≤ 1000000000) ∧ (0 ≤ s.sl ∧ s.sl ≤ 1000000000) ∧ s.lo + s.sl ≤ s.hi - s.sl ∧ (0 ≤ s.de ∧ s.de ≤ 1000000) ∧ (0 ≤ s.si ∧ s.si ≤ 1099511627776) ∧ (0 ≤ s.no ∧ s.no ≤ 1099511627776)
/-- The watch's block. -/
def Bk (w : World) (g : Nat) (s : Wt) : Prop := w.heap[g]? = some (.cells s.cells 128 (0, 0))
def asksF (s : Wt) (st v : Int) : Int := if st = 1 then (if v > s.hi then 2 else if v ≥ s.lo + s.sl then 0 else 1) else if st = 2 then (if v < s.lo then 1 else if v ≤ s.hi - s.sl then 0 else 2) else (if v < s.lo then 1 else if v > s.hi then 2 else 0)
def dueF (s : Wt) (t : Int) : Wt × List S72 := if s.as_ = s.st ∨ t < s.si + s.de then (s, []) else ({ s with st := s.as_ }, [⟨s.si + s.de, s.st, s.as_⟩])
def nextF (s : Wt) (t v : Int) : Wt := if asksF s s.st v ≠ s.as_ ∨ asksF s s.st v = s.st then { s with as_ := asksF s s.st v, si := t } else s
def feedF (s : Wt) (t v : Int) : Wt × List S72 :=
  if s.de = 0 then ((dueF (nextF { (dueF s t).1 with no := t } t v) t).1, (dueF s t).2 ++ (dueF (nextF { (dueF s t).1 with no := t } t v) t).2)
  else (nextF { (dueF s t).1 with no := t } t v, (dueF s t).2)
theorem gb_trans {a b c : World} {g : Nat} {r : Option Nat} (h : a.grownBy b (some g)) (k : b.grownBy c r) (hr : ∀ q, r = some q → q = g ∨ a.heap.size ≤ q) : a.grownBy c (some g) :=
  ⟨k.os.trans h.os, k.tape.trans h.tape, k.output.trans h.output, Nat.le_trans h.size k.size, fun i hi hne => (k.block i (Nat.lt_of_lt_of_le hi h.size) (fun e => by
    rcases hr i e.symm with h1 | h1
    · exact hne (by rw [h1])
    · omega)).trans (h.block i hi hne)⟩
theorem gb_drawn {a b : World} {g : Nat} (h : Drawn0 a b) : a.grownBy b (some g) := by
  obtain ⟨n, rfl⟩ := h.out
  exact ⟨rfl, rfl, rfl, Nat.le_refl _, fun _ _ _ => rfl⟩
theorem gb_drew2 (a : World) (g n m : Nat) : a.grownBy ((a.drewN n).drewN m) (some g) := ⟨rfl, rfl, rfl, Nat.le_refl _, fun _ _ _ => rfl⟩
theorem gb_below {a b : World} (h : Below a.heap.size a b) (g : Nat) : a.grownBy b (some g) := ⟨h.os, h.tape, h.output, h.size, fun i hi _ => h.block i hi⟩
theorem gb_set {a b : World} {g q : Nat} (h : a.grownBy b (some g)) (hq : q = g ∨ a.heap.size ≤ q) (i : Nat) (v : Value) : a.grownBy (b.setCell ⟨q, i, none⟩ v) (some g) := by
  refine ⟨h.os, h.tape, h.output, by simpa [World.setCell] using h.size, fun k hk hne => (Below.heap_setCell b ⟨q, i, none⟩ v k ?_).trans (h.block k hk hne)⟩
  rintro rfl
  rcases hq with h1 | h1
  · exact hne (by rw [← h1])
  · exact absurd hk (Nat.not_lt.2 h1)
theorem R_aside {α : Type} {d : Kd α} {e base g : Nat} {W : World} {v : Value} {xs : List α} (h : d.R e W base (fun _ => True) v xs) (hg : g < base) (i : Nat) (u : Value) : d.R e (W.setCell ⟨g, i, none⟩ u) base (fun _ => True) v xs :=
  Kd.R_mono (Kd.R_step (Kd.R_bound h) (fun k hk _ => Below.heap_setCell W ⟨g, i, none⟩ u k (by have := hk.2.1; show k ≠ g; omega))) (fun _ _ => trivial)
theorem R_aside2 {α : Type} {d : Kd α} {e base g : Nat} {W W1 : World} {v : Value} {xs : List α} (h : d.R e W base (fun _ => True) v xs) (hk : W.grownBy W1 (some g)) (hg : g < base) : d.R e W1 base (fun _ => True) v xs :=
  Kd.R_mono (Kd.R_step (Kd.R_bound h) (fun k hb hlt => hk.block k hlt (fun e => by have := hb.2.1; have := Option.some.inj e; omega))) (fun _ _ => trivial)
theorem Bk.grown {w w1 : World} {g : Nat} {s : Wt} {r : Option Nat} (h : Bk w g s) (k : w.grownBy w1 r) (hne : some g ≠ r) : Bk w1 g s := (k.block g (blk_lt h) hne).trans h
theorem Bk.drawn {a b : World} {g : Nat} {s : Wt} (h : Bk a g s) (k : Drawn0 a b) : Bk b g s := by
  obtain ⟨n, rfl⟩ := k.out
  exact h
theorem Bk.lt {w : World} {g : Nat} {s : Wt} (h : Bk w g s) : g < w.heap.size := blk_lt h
theorem Bk.cell {w : World} {g : Nat} {s : Wt} (h : Bk w g s) (i : Nat) : w.cell? ⟨g, i, none⟩ = s.cells[i]? := blk_cell h i
theorem Bk.fr {w : World} {g : Nat} {s : Wt} (h : Bk w g s) (i : Nat) : w.frozen? ⟨g, i, none⟩ = false := blk_frozen h i
def rightF (lo hi sl de : Int) : Bool := decide ((-1000000000 ≤ lo ∧ lo ≤ 1000000000) ∧ (-1000000000 ≤ hi ∧ hi ≤ 1000000000) ∧ (-1000000000 ≤ sl ∧ sl ≤ 1000000000) ∧ 0 ≤ sl ∧ lo + sl ≤ hi - sl ∧ 0 ≤ de ∧ de ≤ 1000000)
def alarm_Right.f (lo hi sl de : Int) : Option Bool := some (rightF lo hi sl de)
set_option maxRecDepth 100000 in
theorem alarm_Right.calls (lo hi sl de : Int) (r : Bool) (w : World) (h : alarm_Right.f lo hi sl de = some r) :
    Calls Try.prog 39 #[.agg #[.int .i64 lo, .int .i64 hi, .int .i64 sl, .int .i64 de]] w fun e w' => e = .returned (.bool r) ∧ Below w.heap.size w w' := by
  obtain rfl := Option.some.inj h
  clear h
  have hB := Aside0.mk (Below.refl w.heap.size w)
  obtain ⟨W, hW⟩ : ∃ W, W = w.alloc (.cells #[.int .i64 lo, .int .i64 hi, .int .i64 sl, .int .i64 de] 61) := ⟨_, rfl⟩
  have hBW : Below w.heap.size w W := by rw [hW]; exact (Below.refl w.heap.size w).alloc (Nat.le_refl _) _
  have hbl : W.heap[w.heap.size]? = some (.cells #[.int .i64 lo, .int .i64 hi, .int .i64 sl, .int .i64 de] 61 (0, 0)) := by rw [hW]; exact blk_new w _
  have c0 : W.cell? ⟨w.heap.size, 0, none⟩ = some (.int .i64 lo) := (blk_cell hbl 0).trans rfl
  have c1 : W.cell? ⟨w.heap.size, 1, none⟩ = some (.int .i64 hi) := (blk_cell hbl 1).trans rfl
  have c2 : W.cell? ⟨w.heap.size, 2, none⟩ = some (.int .i64 sl) := (blk_cell hbl 2).trans rfl
  have c3 : W.cell? ⟨w.heap.size, 3, none⟩ = some (.int .i64 de) := (blk_cell hbl 3).trans rfl
  have HW := Aside0.mk hW
  have HBW := Aside0.mk hBW
  obtain ⟨i0, hi0, hz1⟩ : ∃ i0, Try.prog.info? 2 = some i0 ∧ i0.size = 1 := by
    have h : (Try.prog.info? 2).map (fun i => i.size) = some 1 := by kernel_rfl
    obtain ⟨i0, h1, h2⟩ := Option.map_eq_some_iff.1 h
    exact ⟨i0, h1, h2⟩
  obtain ⟨b, hb⟩ : ∃ b, b = rightF lo hi sl de := ⟨_, rfl⟩
  rw [← hb]
  have HBB := Aside0.mk hb
  clear hbl hW hBW hb
  go_enter Try.func39, Try.ntmps39
  have hix0 : ∀ W : World, (Instr.index 126 (.agg #[.int .i64 lo, .int .i64 hi, .int .i64 sl]) (.int .i64 0)).run Try.prog W = .ok (.int .i64 lo) W := fun W => by simp [Instr.index, run_underlying Try.underlying126, asIntOf, sizeOf, typeInfo, hi0, hz1, part, go_sem]
  have hix1 : ∀ W : World, (Instr.index 126 (.agg #[.int .i64 lo, .int .i64 hi, .int .i64 sl]) (.int .i64 1)).run Try.prog W = .ok (.int .i64 hi) W := fun W => by simp [Instr.index, run_underlying Try.underlying126, asIntOf, sizeOf, typeInfo, hi0, hz1, part, go_sem]
  have hix2 : ∀ W : World, (Instr.index 126 (.agg #[.int .i64 lo, .int .i64 hi, .int .i64 sl]) (.int .i64 2)).run Try.prog W = .ok (.int .i64 sl) W := fun W => by simp [Instr.index, run_underlying Try.underlying126, asIntOf, sizeOf, typeInfo, hi0, hz1, part, go_sem]
  go_wp2
  rw [← HW.out]
  go_loopw [12, 4] (fun v12 v4 wr => W = wr ∧ (v12 = .int .i64 0 ∨ (v12 = .int .i64 1 ∧ (-1000000000 ≤ lo ∧ lo ≤ 1000000000)) ∨ (v12 = .int .i64 2 ∧ (-1000000000 ≤ lo ∧ lo ≤ 1000000000) ∧ (-1000000000 ≤ hi ∧ hi ≤ 1000000000)) ∨ (v12 = .int .i64 3 ∧ (-1000000000 ≤ lo ∧ lo ≤ 1000000000) ∧ (-1000000000 ≤ hi ∧ hi ≤ 1000000000) ∧ (-1000000000 ≤ sl ∧ sl ≤ 1000000000)))) (fun v12 _ _ => 3 - (intOf v12).toNat)
  case atStart => exact ⟨rfl, .inl rfl⟩
  case round =>
    obtain ⟨hwr, hcase⟩ := hrel
    subst hwr
    rcases hcase with rfl | ⟨rfl, r0⟩ | ⟨rfl, r0, r1⟩ | ⟨rfl, r0, r1, r2⟩
    · by_cases hx : -1000000000 ≤ lo ∧ lo ≤ 1000000000
      · have e1 : decide (lo < -1000000000) = false := decide_eq_false (by omega)
        have e2 : decide (1000000000 < lo) = false := decide_eq_false (by omega)
        go_wp2
        go_roundw
        case rel => exact ⟨by first | rfl | trivial, .inr (.inl ⟨rfl, hx⟩)⟩
        case measure => simp [intOf]
      · have hbf : b = false := by rw [HBB.out]; unfold rightF; exact decide_eq_false (by omega)
        by_cases e0 : lo < -1000000000
        · have e1 : decide (lo < -1000000000) = true := decide_eq_true e0
          clear e0 hx 
          go_wp2
          go_ret
          exact ⟨by rw [hbf]; rfl, HBW.out⟩
        · have e1 : decide (lo < -1000000000) = false := decide_eq_false e0
          have e2 : decide (1000000000 < lo) = true := decide_eq_true (by omega)
          clear e0 hx 
          go_wp2
          go_ret
          exact ⟨by rw [hbf]; rfl, HBW.out⟩
    · by_cases hx : -1000000000 ≤ hi ∧ hi ≤ 1000000000
      · have e1 : decide (hi < -1000000000) = false := decide_eq_false (by omega)
        have e2 : decide (1000000000 < hi) = false := decide_eq_false (by omega)
        go_wp2
        go_roundw
        case rel => exact ⟨by first | rfl | trivial, .inr (.inr (.inl ⟨rfl, r0, hx⟩))⟩
        case measure => simp [intOf]
      · have hbf : b = false := by rw [HBB.out]; unfold rightF; exact decide_eq_false (by omega)
        by_cases e0 : hi < -1000000000
        · have e1 : decide (hi < -1000000000) = true := decide_eq_true e0
          clear e0 hx r0
          go_wp2
          go_ret
          exact ⟨by rw [hbf]; rfl, HBW.out⟩
        · have e1 : decide (hi < -1000000000) = false := decide_eq_false e0
          have e2 : decide (1000000000 < hi) = true := decide_eq_true (by omega)
          clear e0 hx r0
          go_wp2
          go_ret
          exact ⟨by rw [hbf]; rfl, HBW.out⟩
    · by_cases hx : -1000000000 ≤ sl ∧ sl ≤ 1000000000
      · have e1 : decide (sl < -1000000000) = false := decide_eq_false (by omega)
        have e2 : decide (1000000000 < sl) = false := decide_eq_false (by omega)
        go_wp2
        go_roundw
        case rel => exact ⟨by first | rfl | trivial, .inr (.inr (.inr ⟨rfl, r0, r1, hx⟩))⟩
        case measure => simp [intOf]
      · have hbf : b = false := by rw [HBB.out]; unfold rightF; exact decide_eq_false (by omega)
        by_cases e0 : sl < -1000000000
        · have e1 : decide (sl < -1000000000) = true := decide_eq_true e0
          clear e0 hx r0 r1
          go_wp2
          go_ret
          exact ⟨by rw [hbf]; rfl, HBW.out⟩
        · have e1 : decide (sl < -1000000000) = false := decide_eq_false e0
          have e2 : decide (1000000000 < sl) = true := decide_eq_true (by omega)
          clear e0 hx r0 r1
          go_wp2
          go_ret
          exact ⟨by rw [hbf]; rfl, HBW.out⟩
    · have hw1 : IntKind.i64.wrap (lo + sl) = lo + sl := by rw [i64_w]; unfold wrap64; omega
      have hw2 : IntKind.i64.wrap (hi - sl) = hi - sl := by rw [i64_w]; unfold wrap64; omega
      have hbv : b = (decide (0 ≤ sl) && decide (lo + sl ≤ hi - sl) && decide (0 ≤ de) && decide (de ≤ 1000000)) := by
        rw [HBB.out]; unfold rightF
        rw [Bool.eq_iff_iff]
        simp only [decide_eq_true_eq, Bool.and_eq_true]
        omega
      clear r0 r1 r2
      by_cases b1 : 0 ≤ sl
      · by_cases b2 : lo + sl ≤ hi - sl
        · by_cases b3 : 0 ≤ de
          · have d1 : decide (0 ≤ sl) = true := decide_eq_true b1
            have d2 : decide (lo + sl ≤ hi - sl) = true := decide_eq_true b2
            have d3 : decide (0 ≤ de) = true := decide_eq_true b3
            clear b1 b2 b3
            go_wp2
            go_ret
            rw [hbv]
            exact ⟨by simp [*], HBW.out⟩
          · have d1 : decide (0 ≤ sl) = true := decide_eq_true b1
            have d2 : decide (lo + sl ≤ hi - sl) = true := decide_eq_true b2
            have d3 : decide (0 ≤ de) = false := decide_eq_false b3
            clear b1 b2 b3
            go_wp2
            go_ret
            rw [hbv]
            exact ⟨by simp [*], HBW.out⟩
        · have d1 : decide (0 ≤ sl) = true := decide_eq_true b1
          have d2 : decide (lo + sl ≤ hi - sl) = false := decide_eq_false b2
          clear b1 b2
          go_wp2
          go_ret
          rw [hbv]
          exact ⟨by simp [*], HBW.out⟩
      · have d1 : decide (0 ≤ sl) = false := decide_eq_false b1
        clear b1
        go_wp2
        go_ret
        rw [hbv]
        exact ⟨by simp [*], HBW.out⟩

end Go.Proofs.Ytbghnfhjaolhaaa.PAlarmHolds

-- Written by a program of this session, in the form of the kit's print, some functions by hand (N.B. not a file of print.sh's).
import Derived.Test.YtballgciakljnaaPCharsFramesx0
namespace Go.Proofs.Ytballgciakljnaa.PCharsFrames
open Go.RowKit Go.Proofs.YtballgciakljnaaW.PrintWords Go.Proofs.YtballgciakljnaaW.PrintLast Go.Proofs.YtballgciakljnaaW.PrintMore Go.Proofs.YtballgciakljnaaM
attribute [local go_sem] max2_int min2_int max_two min_two max_three min_three max_four min_four   -- for this text's walks alone
set_option linter.unusedVariables false
set_option linter.unusedSimpArgs false

/-! ### chars_New: function 16 (by hand) -/
structure Tk where
  q : Int
  no : Int
  d : Int
  lost : Int
  hl : List Int
/-- The taker's block, and what it holds. -/
def Ct (w : World) (B g : Nat) (v : Value) (s : Tk) : Prop := w.heap[g]? = some (.cells #[.int .i64 s.q, .int .i64 s.no, .int .u8 s.d, v, .int .i64 s.lost] 148 (0, 0)) ∧ Kd.R (Kd.int .u8) 5 w B (fun _ => True) v s.hl ∧ B ≤ g
def Fr (g : Nat) (v : Value) (k : Nat) : Prop := k = g ∨ some k = v.ownBlock
structure Tp (w0 w w' : World) (g : Nat) (v v' : Value) (s' : Tk) : Prop where
  ct : Ct w' w0.heap.size g v' s'
  below : Below w0.heap.size w0 w'
  kept : Kept w w' (Fr g v)
  fresh : ∀ k, v'.ownBlock = some k → some k = v.ownBlock ∨ w.heap.size ≤ k
theorem Tp.refl {w0 w : World} {g : Nat} {v : Value} {s : Tk} (h : Ct w w0.heap.size g v s) (hB : Below w0.heap.size w0 w) : Tp w0 w w g v v s := ⟨h, hB, Kept.refl _ _, fun k hk => .inl hk.symm⟩
theorem Tp.trans {w0 w w1 w2 : World} {g : Nat} {v v1 v2 : Value} {s1 s2 : Tk} (h : Tp w0 w w1 g v v1 s1) (k : Tp w0 w1 w2 g v1 v2 s2) : Tp w0 w w2 g v v2 s2 :=
  ⟨k.ct, k.below, h.kept.then_ k.kept (fun q hq => hq.elim (fun h1 => .inl (.inl h1)) (fun h1 => (h.fresh q h1.symm).elim (fun h2 => .inl (.inr h2)) .inr)), fun q hq => (k.fresh q hq).elim (fun h1 => h.fresh q h1.symm) (fun h1 => .inr (Nat.le_trans h.kept.1 h1))⟩
theorem Ct.drawn {w w' : World} {B g : Nat} {v : Value} {s : Tk} (h : Ct w B g v s) (k : Drawn0 w w') : Ct w' B g v s := by
  obtain ⟨n, rfl⟩ := k.out
  exact ⟨h.1, Kd.R_drewN h.2.1 n, h.2.2⟩
theorem Tp.drawn {w0 w w1 w2 : World} {g : Nat} {v v1 : Value} {s1 : Tk} (h : Tp w0 w w1 g v v1 s1) (k : Drawn0 w1 w2) : Tp w0 w w2 g v v1 s1 := by
  have hc := h.ct.drawn k
  obtain ⟨n, rfl⟩ := k.out
  exact ⟨hc, pw_below_drewN h.below n, h.kept.drewN n, h.fresh⟩
theorem Ct.cell {w : World} {B g : Nat} {v : Value} {s : Tk} (h : Ct w B g v s) (i : Nat) : w.cell? ⟨g, i, none⟩ = (#[.int .i64 s.q, .int .i64 s.no, .int .u8 s.d, v, .int .i64 s.lost] : Array Value)[i]? := blk_cell h.1 i
theorem Ct.fr {w : World} {B g : Nat} {v : Value} {s : Tk} (h : Ct w B g v s) (i : Nat) : w.frozen? ⟨g, i, none⟩ = false := blk_frozen h.1 i
theorem Ct.put_no {w : World} {B g : Nat} {v : Value} {s : Tk} (h : Ct w B g v s) (t : Int) : Ct (w.setCell ⟨g, 1, none⟩ (.int .i64 t)) B g v { s with no := t } :=
  ⟨blk_put h.1 1 _ rfl, Kd.R_set h.2.1 h.1 (by intro q hq; simp [Kd.int, Kd.scalar] at hq; omega) 1 _, h.2.2⟩
theorem Ct.put_lost {w : World} {B g : Nat} {v : Value} {s : Tk} (h : Ct w B g v s) (t : Int) : Ct (w.setCell ⟨g, 4, none⟩ (.int .i64 t)) B g v { s with lost := t } :=
  ⟨blk_put h.1 4 _ rfl, Kd.R_set h.2.1 h.1 (by intro q hq; simp [Kd.int, Kd.scalar] at hq; omega) 4 _, h.2.2⟩
theorem Ct.put_hl {w : World} {B g : Nat} {v v' : Value} {s : Tk} {l : List Int} (h : Ct w B g v s) (hr : Kd.R (Kd.int .u8) 5 w B (fun _ => True) v' l) : Ct (w.setCell ⟨g, 3, none⟩ v') B g v' { s with hl := l } :=
  ⟨blk_put h.1 3 _ rfl, Kd.R_set hr h.1 (by intro q hq; simp [Kd.int, Kd.scalar] at hq; omega) 3 _, h.2.2⟩
theorem Tp.set {w0 w w1 : World} {g : Nat} {v v1 v2 : Value} {s1 s2 : Tk} (h : Tp w0 w w1 g v v1 s1) (i : Nat) (u : Value) (hc : Ct (w1.setCell ⟨g, i, none⟩ u) w0.heap.size g v2 s2) (hf : ∀ k, v2.ownBlock = some k → some k = v.ownBlock ∨ w.heap.size ≤ k) : Tp w0 w (w1.setCell ⟨g, i, none⟩ u) g v v2 s2 :=
  ⟨hc, h.below.setCell h.ct.2.2 _, h.kept.setCell (.inl (.inl rfl)) _, hf⟩
def offF (s : Tk) : Tk := if s.hl = [] then s else { s with hl := [], lost := s.lost + 1 }
def doF (s : Tk) (b : Int) : Tk := if b = 58 then { offF s with hl := [b] } else if s.hl = [] then s else { s with hl := s.hl ++ [b] }
set_option maxRecDepth 100000 in
theorem tk_new_nil (q b : Int) (w : World) (h : q < 1 ∨ 16777216 < q) : Calls Try.prog 16 #[.int .i64 q, .int .u8 b] w fun e w' => e = .returned (.pointer none) ∧ Drawn0 w w' := by
  by_cases h1 : q < 1
  · have d1 : decide (q < 1) = true := decide_eq_true h1
    clear h1 h
    go_enter Try.func16, Try.ntmps16
    go_wp2
    go_ret
    exact ⟨rfl, Drawn0.refl _⟩
  · have d1 : decide (q < 1) = false := decide_eq_false h1
    have d2 : decide (16777216 < q) = true := decide_eq_true (by omega)
    clear h1 h
    go_enter Try.func16, Try.ntmps16
    go_wp2
    go_ret
    exact ⟨rfl, Drawn0.refl _⟩
set_option maxRecDepth 100000 in
theorem tk_new_made (q b : Int) (w0 w : World) (hB : Below w0.heap.size w0 w) (h : 1 ≤ q ∧ q ≤ 16777216) : Calls Try.prog 16 #[.int .i64 q, .int .u8 b] w fun e w' => ∃ g, e = .returned (.pointer (some ⟨g, 0, none⟩)) ∧ Ct w' w0.heap.size g (.slice none 0 0) ⟨q, 0, b, 0, []⟩ ∧ Below w0.heap.size w0 w' ∧ Below w.heap.size w w' ∧ w.heap.size ≤ g := by
  have HB := Aside0.mk hB
  have d1 : decide (q < 1) = false := decide_eq_false (by omega)
  have d2 : decide (16777216 < q) = false := decide_eq_false (by omega)
  clear h hB
  go_enter Try.func16, Try.ntmps16
  go_wp2
  go_ret
  exact ⟨_, rfl, ⟨blk_new w _, Kd.R_nil _ _ _ _ _, HB.out.size⟩, HB.out.alloc HB.out.size _, (Below.refl _ _).alloc (Nat.le_refl _) _, Nat.le_refl _⟩

end Go.Proofs.Ytballgciakljnaa.PCharsFrames

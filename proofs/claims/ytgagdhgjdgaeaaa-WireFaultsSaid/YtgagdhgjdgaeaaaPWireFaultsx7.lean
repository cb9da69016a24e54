-- Written by a program of this session, in the form of the kit's print, some functions by hand (N.B. not a file of print.sh's).
import Derived.Test.YtgagdhgjdgaeaaaPWireFaultsx0
import Derived.Test.YtgagdhgjdgaeaaaPWireFaultsx2
import Derived.Test.YtgagdhgjdgaeaaaPWireFaultsx6
namespace Go.Proofs.Ytgagdhgjdgaeaaa.PWireFaults
open Go.RowKit Go.Proofs.YtgagdhgjdgaeaaaW.PrintWords Go.Proofs.YtgagdhgjdgaeaaaW.PrintLast Go.Proofs.YtgagdhgjdgaeaaaW.PrintMore Go.Proofs.YtgagdhgjdgaeaaaM
attribute [local go_sem] max2_int min2_int max_two min_two max_three min_three max_four min_four   -- for this text's walks alone
set_option linter.unusedVariables false
set_option linter.unusedSimpArgs false

/-! ### split_All: function 10 (by hand) -/
set_option maxRecDepth 100000 in
theorem since_calls (fr at_ : Int) (w : World) (h0 : 0 ≤ fr) (h1 : fr ≤ at_) (h2 : at_ ≤ 1099511627776) :
    Calls Try.prog 43 #[.int .i64 fr, .int .i64 at_] w fun e w' => e = .returned (.int .i64 (at_ - fr)) ∧ Drawn0 w w' := by
  have C1 := clock_Clamp.calls at_ at_
  have C2 := clock_Clamp.calls fr fr
  have C3 := clock_Clamp.calls (at_ - fr) (at_ - fr)
  have e1 : clock_Clamp.f at_ = some at_ := by unfold clock_Clamp.f; rw [if_neg (by omega), if_neg (by omega)]
  have e2 : clock_Clamp.f fr = some fr := by unfold clock_Clamp.f; rw [if_neg (by omega), if_neg (by omega)]
  have e3 : clock_Clamp.f (at_ - fr) = some (at_ - fr) := by unfold clock_Clamp.f; rw [if_neg (by omega), if_neg (by omega)]
  have hw : IntKind.i64.wrap (at_ - fr) = at_ - fr := by rw [i64_w]; unfold wrap64; omega
  have HA := Aside0.mk e1
  have HB := Aside0.mk e2
  have HC := Aside0.mk e3
  clear e1 e2 e3 h0 h1 h2
  go_enter Try.func43, Try.ntmps43
  go_wp2_with fail
  refine (C1 _ HA.out).mono ?_
  rintro e w' ⟨rfl, ⟨n1, rfl⟩⟩
  go_wp2_with fail
  refine (C2 _ HB.out).mono ?_
  rintro e w' ⟨rfl, ⟨n2, rfl⟩⟩
  go_wp2_with fail
  refine (C3 _ HC.out).mono ?_
  rintro e w' ⟨rfl, ⟨n3, rfl⟩⟩
  go_wp2_with fail
  go_ret
  exact ⟨rfl, _, rfl⟩
/-- A byte is taken into a segment. -/
def spAdd (s : S37) (b : S52) : S37 := ⟨if s.f0.length < 256 then s.f0 ++ [b.f1] else s.f0, if s.f3 = 0 then b.f0 else s.f1, b.f0, s.f3 + 1, s.f4, s.f5 || b.f2⟩
/-- What segments are still to come, and which one is open. -/
def spRest (sh lo : Int) : Bool → Int → S37 → List S52 → List S37
  | _, _, s, [] => if 0 < s.f3 then [s] else []
  | first, fr, s, b :: l => if first = true then spRest sh lo false b.f0 (spAdd { s with f4 := decide (b.f0 - fr < lo) } b) l else if lo ≤ b.f0 - fr then s :: spRest sh lo false b.f0 (spAdd z37 b) l else spRest sh lo false b.f0 (spAdd { s with f4 := s.f4 || decide (sh < b.f0 - fr) } b) l
/-- The times do not go back, and lie within bounds. -/
def spUp : Int → List S52 → Prop
  | _, [] => True
  | fr, b :: l => fr ≤ b.f0 ∧ b.f0 ≤ 1099511627776 ∧ spUp b.f0 l
/-- The blocks of the iterator's state and the caller's variable. -/
structure SpB (w0 : World) (gL gT gF g5 B6 : Nat) (A0 : Option Addr) (n0 c0 : Nat) (t0 t1 t2 t3 : Int) (fr : Int) (s : S37) (v ov : Value) (W : World) : Prop where
  bL : W.heap[gL]? = some (.cells #[.slice A0 n0 c0] 31 (0, 0))
  bT : W.heap[gT]? = some (.cells #[.int .i64 t0, .int .i64 t1, .int .i64 t2, .int .i64 t3] 24 (0, 0))
  bF : W.heap[gF]? = some (.cells #[.int .i64 fr] 3 (0, 0))
  b5 : W.heap[g5]? = some (.cells #[v, .int .i64 s.f1, .int .i64 s.f2, .int .i64 s.f3, .bool s.f4, .bool s.f5] 37 (0, 0))
  b6 : W.heap[B6]? = some (.cells #[ov] 34 (0, 0))
  lies : w0.heap.size ≤ gF ∧ w0.heap.size ≤ g5 ∧ w0.heap.size ≤ B6
  below : Below w0.heap.size w0 W
/-- The same, with the rows of the open segment and of the segments that were told. -/
structure SpSt (w0 : World) (gL gT gF g5 B6 : Nat) (A0 : Option Addr) (n0 c0 : Nat) (t0 t1 t2 t3 : Int) (fr : Int) (s : S37) (v : Value) (O : List S37) (ov : Value) (W : World) : Prop where
  b : SpB w0 gL gT gF g5 B6 A0 n0 c0 t0 t1 t2 t3 fr s v ov W
  hv : Kd.R (Kd.int .u8) 5 W w0.heap.size (fun _ => True) v s.f0
  hO : Kd.S k37 37 W w0.heap.size (fun q => q ≠ g5 ∧ some q ≠ v.ownBlock) ov O
section
variable {w0 : World} {gL gT gF g5 B6 : Nat} {A0 : Option Addr} {n0 c0 : Nat} {t0 t1 t2 t3 fr : Int} {s : S37} {v ov : Value} {O : List S37} {W W1 : World}
theorem SpB.grown (h : SpB w0 gL gT gF g5 B6 A0 n0 c0 t0 t1 t2 t3 fr s v ov W) {row : Option Nat} (hg : W.grownBy W1 row) (hr : ∀ k, row = some k → k ≠ gL ∧ k ≠ gT ∧ k ≠ gF ∧ k ≠ g5 ∧ k ≠ B6) (hb : Below w0.heap.size w0 W1) : SpB w0 gL gT gF g5 B6 A0 n0 c0 t0 t1 t2 t3 fr s v ov W1 :=
  ⟨blk_grown h.bL hg (fun e => (hr _ e.symm).1 rfl), blk_grown h.bT hg (fun e => (hr _ e.symm).2.1 rfl), blk_grown h.bF hg (fun e => (hr _ e.symm).2.2.1 rfl), blk_grown h.b5 hg (fun e => (hr _ e.symm).2.2.2.1 rfl), blk_grown h.b6 hg (fun e => (hr _ e.symm).2.2.2.2 rfl), h.lies, hb⟩
theorem SpSt.new (h : SpSt w0 gL gT gF g5 B6 A0 n0 c0 t0 t1 t2 t3 fr s v O ov W) (hg : W.grownBy W1 none) (hb : Below w0.heap.size w0 W1) : SpSt w0 gL gT gF g5 B6 A0 n0 c0 t0 t1 t2 t3 fr s v O ov W1 :=
  ⟨h.b.grown hg (fun k e => by cases e) hb, Kd.R_grown h.hv hg (fun k _ => by simp), Kd.S_grown h.hO hg (fun k _ => by simp)⟩
theorem SpSt.alloc (h : SpSt w0 gL gT gF g5 B6 A0 n0 c0 t0 t1 t2 t3 fr s v O ov W) (o : Obj) : SpSt w0 gL gT gF g5 B6 A0 n0 c0 t0 t1 t2 t3 fr s v O ov (W.alloc o) :=
  h.new (World.grownBy_alloc W o none) (h.b.below.alloc h.b.below.size o)
theorem SpSt.drewN (h : SpSt w0 gL gT gF g5 B6 A0 n0 c0 t0 t1 t2 t3 fr s v O ov W) (m : Nat) : SpSt w0 gL gT gF g5 B6 A0 n0 c0 t0 t1 t2 t3 fr s v O ov (W.drewN m) :=
  h.new (grown_drewN (World.grownBy.refl W none) m) (pw_below_drewN h.b.below m)
theorem SpSt.drew (h : SpSt w0 gL gT gF g5 B6 A0 n0 c0 t0 t1 t2 t3 fr s v O ov W) : SpSt w0 gL gT gF g5 B6 A0 n0 c0 t0 t1 t2 t3 fr s v O ov W.drew :=
  h.new (grown_drew (World.grownBy.refl W none)) (below_drew1 h.b.below)
/-- A cell of a block of its own (of the element): nothing else turns. -/
theorem SpSt.far (h : SpSt w0 gL gT gF g5 B6 A0 n0 c0 t0 t1 t2 t3 fr s v O ov W) {g : Nat} {cs : Array Value} (hb : W.heap[g]? = some (.cells cs 52 (0, 0))) (hw : w0.heap.size ≤ g) (j : Nat) (u : Value) : SpSt w0 gL gT gF g5 B6 A0 n0 c0 t0 t1 t2 t3 fr s v O ov (W.setCell ⟨g, j, none⟩ u) :=
  ⟨⟨blk_far h.b.bL (p := ⟨g, j, none⟩) (fun e => by cases e; rw [h.b.bL] at hb; cases hb) u, blk_far h.b.bT (p := ⟨g, j, none⟩) (fun e => by cases e; rw [h.b.bT] at hb; cases hb) u, blk_far h.b.bF (p := ⟨g, j, none⟩) (fun e => by cases e; rw [h.b.bF] at hb; cases hb) u,
    blk_far h.b.b5 (p := ⟨g, j, none⟩) (fun e => by cases e; rw [h.b.b5] at hb; cases hb) u, blk_far h.b.b6 (p := ⟨g, j, none⟩) (fun e => by cases e; rw [h.b.b6] at hb; cases hb) u, h.b.lies, h.b.below.setCell hw u⟩,
   Kd.R_set h.hv hb (by intro q hq; simp [Kd.int, Kd.scalar] at hq; omega) j u, Kd.S_set h.hO hb (by intro q hq; simp [k37, Kd.iso, Kd.pair, Kd.slice, Kd.int, Kd.bool, Kd.scalar] at hq; omega) j u⟩
/-- The captured time. -/
theorem SpSt.putF (h : SpSt w0 gL gT gF g5 B6 A0 n0 c0 t0 t1 t2 t3 fr s v O ov W) (x : Int) : SpSt w0 gL gT gF g5 B6 A0 n0 c0 t0 t1 t2 t3 x s v O ov (W.setCell ⟨gF, 0, none⟩ (.int .i64 x)) :=
  ⟨⟨blk_far h.b.bL (p := ⟨gF, 0, none⟩) (blk_ne h.b.bL h.b.bF (by decide)) _, blk_far h.b.bT (p := ⟨gF, 0, none⟩) (blk_ne h.b.bT h.b.bF (by decide)) _, blk_put h.b.bF 0 _ rfl,
    blk_far h.b.b5 (p := ⟨gF, 0, none⟩) (blk_ne h.b.b5 h.b.bF (by decide)) _, blk_far h.b.b6 (p := ⟨gF, 0, none⟩) (blk_ne h.b.b6 h.b.bF (by decide)) _, h.b.lies, h.b.below.setCell h.b.lies.1 _⟩,
   Kd.R_set h.hv h.b.bF (by intro q hq; simp [Kd.int, Kd.scalar] at hq; omega) 0 _, Kd.S_set h.hO h.b.bF (by intro q hq; simp [k37, Kd.iso, Kd.pair, Kd.slice, Kd.int, Kd.bool, Kd.scalar] at hq; omega) 0 _⟩
/-- A cell of the open segment, but its bytes. -/
theorem SpSt.put5 (h : SpSt w0 gL gT gF g5 B6 A0 n0 c0 t0 t1 t2 t3 fr s v O ov W) (j : Nat) (u : Value) (s' : S37) (hs : s'.f0 = s.f0)
    (he : (#[v, .int .i64 s.f1, .int .i64 s.f2, .int .i64 s.f3, .bool s.f4, .bool s.f5] : Array Value).setIfInBounds j u = #[v, .int .i64 s'.f1, .int .i64 s'.f2, .int .i64 s'.f3, .bool s'.f4, .bool s'.f5]) : SpSt w0 gL gT gF g5 B6 A0 n0 c0 t0 t1 t2 t3 fr s' v O ov (W.setCell ⟨g5, j, none⟩ u) :=
  ⟨⟨blk_far h.b.bL (p := ⟨g5, j, none⟩) (blk_ne h.b.bL h.b.b5 (by decide)) _, blk_far h.b.bT (p := ⟨g5, j, none⟩) (blk_ne h.b.bT h.b.b5 (by decide)) _, blk_far h.b.bF (p := ⟨g5, j, none⟩) (blk_ne h.b.bF h.b.b5 (by decide)) _,
    blk_put h.b.b5 j _ he, blk_far h.b.b6 (p := ⟨g5, j, none⟩) (blk_ne h.b.b6 h.b.b5 (by decide)) _, h.b.lies, h.b.below.setCell h.b.lies.2.1 _⟩,
   by rw [hs]; exact Kd.R_set h.hv h.b.b5 (by intro q hq; simp [Kd.int, Kd.scalar] at hq; omega) j _, Kd.S_far h.hO (p := ⟨g5, j, none⟩) (fun k hk => hk.1) _⟩
/-- The bytes of the open segment have grown. -/
theorem SpSt.bytes (h : SpSt w0 gL gT gF g5 B6 A0 n0 c0 t0 t1 t2 t3 fr s v O ov W) {v1 : Value} {xs : List Int} (hr : Kd.R (Kd.int .u8) 5 W1 w0.heap.size (fun _ => True) v1 xs) (hb : Below w0.heap.size w0 W1) (hg : W.grownBy W1 v.ownBlock)
    (hat : v1.ownBlock = v.ownBlock ∨ ∃ b, v1.ownBlock = some b ∧ W.heap.size ≤ b) : SpSt w0 gL gT gF g5 B6 A0 n0 c0 t0 t1 t2 t3 fr { s with f0 := xs } v1 O ov (W1.setCell ⟨g5, 0, none⟩ v1) := by
  have hty : ∀ {g t : Nat} {cs : Array Value}, W.heap[g]? = some (.cells cs t (0, 0)) → 5 ≠ t → ∀ k, v.ownBlock = some k → k ≠ g := fun hq ht k hk e => by
    obtain ⟨cells, hc⟩ := Kd.R_typed h.hv k hk
    rw [e, hq] at hc
    cases hc
    exact ht rfl
  have hb1 : SpB w0 gL gT gF g5 B6 A0 n0 c0 t0 t1 t2 t3 fr s v ov W1 := h.b.grown hg (fun k e => ⟨hty h.b.bL (by decide) k e, hty h.b.bT (by decide) k e, hty h.b.bF (by decide) k e, hty h.b.b5 (by decide) k e, hty h.b.b6 (by decide) k e⟩) hb
  have hO1 := Kd.S_after h.hO hg hat
  exact ⟨⟨blk_far hb1.bL (p := ⟨g5, 0, none⟩) (blk_ne hb1.bL hb1.b5 (by decide)) _, blk_far hb1.bT (p := ⟨g5, 0, none⟩) (blk_ne hb1.bT hb1.b5 (by decide)) _, blk_far hb1.bF (p := ⟨g5, 0, none⟩) (blk_ne hb1.bF hb1.b5 (by decide)) _,
    blk_put hb1.b5 0 _ rfl, blk_far hb1.b6 (p := ⟨g5, 0, none⟩) (blk_ne hb1.b6 hb1.b5 (by decide)) _, hb1.lies, hb1.below.setCell hb1.lies.2.1 _⟩,
   Kd.R_set hr hb1.b5 (by intro q hq; simp [Kd.int, Kd.scalar] at hq; omega) 0 _, Kd.S_far hO1 (p := ⟨g5, 0, none⟩) (fun k hk => hk.1) _⟩
/-- The open segment is begun anew: its bytes belong to the one that was told. -/
theorem SpB.reset (h : SpB w0 gL gT gF g5 B6 A0 n0 c0 t0 t1 t2 t3 fr s v ov W) (hO : Kd.S k37 37 W w0.heap.size (fun q => q ≠ g5) ov O) : SpSt w0 gL gT gF g5 B6 A0 n0 c0 t0 t1 t2 t3 fr { s with f0 := [] } (.slice none 0 0) O ov (W.setCell ⟨g5, 0, none⟩ (.slice none 0 0)) :=
  ⟨⟨blk_far h.bL (p := ⟨g5, 0, none⟩) (blk_ne h.bL h.b5 (by decide)) _, blk_far h.bT (p := ⟨g5, 0, none⟩) (blk_ne h.bT h.b5 (by decide)) _, blk_far h.bF (p := ⟨g5, 0, none⟩) (blk_ne h.bF h.b5 (by decide)) _,
    blk_put h.b5 0 _ rfl, blk_far h.b6 (p := ⟨g5, 0, none⟩) (blk_ne h.b6 h.b5 (by decide)) _, h.lies, h.below.setCell h.lies.2.1 _⟩,
   Kd.R_nil _ _ _ _ _, Kd.S_mono (Kd.S_far hO (p := ⟨g5, 0, none⟩) (fun k hk => hk) _) (fun k hk => ⟨hk, by simp [Value.ownBlock]⟩)⟩
theorem SpB.zero (h : SpB w0 gL gT gF g5 B6 A0 n0 c0 t0 t1 t2 t3 fr s v ov W) (hO : Kd.S k37 37 W w0.heap.size (fun q => q ≠ g5) ov O) : SpSt w0 gL gT gF g5 B6 A0 n0 c0 t0 t1 t2 t3 fr z37 (.slice none 0 0) O ov
    ((((((W.setCell ⟨g5, 0, none⟩ (.slice none 0 0)).setCell ⟨g5, 1, none⟩ (.int .i64 0)).setCell ⟨g5, 2, none⟩ (.int .i64 0)).setCell ⟨g5, 3, none⟩ (.int .i64 0)).setCell ⟨g5, 4, none⟩ (.bool false)).setCell ⟨g5, 5, none⟩ (.bool false)) :=
  (((((h.reset hO).put5 1 (.int .i64 0) { s with f0 := [], f1 := 0 } rfl rfl).put5 2 (.int .i64 0) { s with f0 := [], f1 := 0, f2 := 0 } rfl rfl).put5 3 (.int .i64 0) { s with f0 := [], f1 := 0, f2 := 0, f3 := 0 } rfl rfl).put5 4 (.bool false) { s with f0 := [], f1 := 0, f2 := 0, f3 := 0, f4 := false } rfl rfl).put5 5 (.bool false) z37 rfl rfl
theorem keeps_drewN (W : World) (m : Nat) : KeepsOthers W (W.drewN m) := ⟨Nat.le_refl _, fun _ _ h _ => h⟩
end
section
variable {w0 : World} {gL gT gF g5 B6 l : Nat} {A0 : Option Addr} {n0 c0 : Nat} {t0 t1 t2 t3 fr : Int} {s : S37} {v ov : Value} {O : List S37} {W W1 : World}
theorem SpB.turned (h : SpB w0 gL gT gF g5 B6 A0 n0 c0 t0 t1 t2 t3 fr s v ov W) (ht : Turned l W W1) (hle : w0.heap.size ≤ l) : SpB w0 gL gT gF g5 B6 A0 n0 c0 t0 t1 t2 t3 fr s v ov W1 :=
  ⟨cells_turned ht h.bL, cells_turned ht h.bT, cells_turned ht h.bF, cells_turned ht h.b5, cells_turned ht h.b6, h.lies, below_turned ht h.below h.below.size hle⟩
theorem SpSt.turned (h : SpSt w0 gL gT gF g5 B6 A0 n0 c0 t0 t1 t2 t3 fr s v O ov W) (ht : Turned l W W1) (hle : w0.heap.size ≤ l) : SpSt w0 gL gT gF g5 B6 A0 n0 c0 t0 t1 t2 t3 fr s v O ov W1 :=
  ⟨h.b.turned ht hle, R_turned h.hv ht, S_turned h.hO ht⟩
/-- What is told is taken in. -/
theorem SpSt.told (h : SpSt w0 gL gT gF g5 B6 A0 n0 c0 t0 t1 t2 t3 fr s v O ov W) {ov' : Value} (hr : Kd.S k37 37 W1 w0.heap.size (fun q => q ≠ g5) ov' (O ++ [s])) (hb : Below w0.heap.size w0 W1) (hg : W.grownBy W1 ov.ownBlock) :
    SpB w0 gL gT gF g5 B6 A0 n0 c0 t0 t1 t2 t3 fr s v ov' (W1.setCell ⟨B6, 0, none⟩ ov') ∧ Kd.S k37 37 (W1.setCell ⟨B6, 0, none⟩ ov') w0.heap.size (fun q => q ≠ g5) ov' (O ++ [s]) ∧
      (∀ (k : Nat) (cs : Array Value), W.heap[k]? = some (.cells cs 52 (0, 0)) → (W1.setCell ⟨B6, 0, none⟩ ov').heap[k]? = some (.cells cs 52 (0, 0))) := by
  have hty : ∀ {g t : Nat} {cs : Array Value}, W.heap[g]? = some (.cells cs t (0, 0)) → 37 ≠ t → some g ≠ ov.ownBlock := fun hq ht e => by
    obtain ⟨cells, hc⟩ := Kd.S_typed h.hO _ e.symm
    rw [hq] at hc
    cases hc
    exact ht rfl
  have b5' : some g5 ≠ ov.ownBlock := fun e => ((Kd.S_R h.hO).1 _ e.symm).1 rfl
  have hb6 : W1.heap[B6]? = some (.cells #[ov] 34 (0, 0)) := blk_grown h.b.b6 hg (hty h.b.b6 (by decide))
  have hf : ∀ {g t : Nat} {cs : Array Value}, W1.heap[g]? = some (.cells cs t (0, 0)) → t ≠ 34 → (W1.setCell ⟨B6, 0, none⟩ ov').heap[g]? = some (.cells cs t (0, 0)) := fun hq ht => blk_far hq (p := ⟨B6, 0, none⟩) (blk_ne hq hb6 ht) _
  exact ⟨⟨hf (blk_grown h.b.bL hg (hty h.b.bL (by decide))) (by decide), hf (blk_grown h.b.bT hg (hty h.b.bT (by decide))) (by decide), hf (blk_grown h.b.bF hg (hty h.b.bF (by decide))) (by decide), hf (blk_grown h.b.b5 hg b5') (by decide),
      blk_put hb6 0 _ rfl, h.b.lies, hb.setCell h.b.lies.2.2 _⟩,
    Kd.S_set hr hb6 (by intro q hq; simp [k37, Kd.iso, Kd.pair, Kd.slice, Kd.int, Kd.bool, Kd.scalar] at hq; omega) 0 _,
    fun k cs hk => hf (blk_grown hk hg (hty hk (by decide))) (by decide)⟩
/-- The bytes of the segment that is told. -/
theorem SpSt.row (h : SpSt w0 gL gT gF g5 B6 A0 n0 c0 t0 t1 t2 t3 fr s v O ov W) : k37.M W w0.heap.size (fun k => some k = v.ownBlock ∧ k ≠ g5 ∧ some k ≠ ov.ownBlock) s [v, .int .i64 s.f1, .int .i64 s.f2, .int .i64 s.f3, .bool s.f4, .bool s.f5] := by
  have h1 := Kd.R_types h.hv h.b.b5 (by intro q hq; simp [Kd.int, Kd.scalar] at hq; omega)
  have h2 := Kd.R_apartR h1 (Kd.S_R h.hO) (by intro q hq; simp [Kd.int, Kd.scalar] at hq; omega)
  have h3 : ∀ k, v.ownBlock = some k → ((True ∧ k ≠ g5) ∧ some k ≠ ov.ownBlock) := fun k hk => h2.1 k hk
  exact k37_mkM _ _ _ _ (Kd.R_of_own (Kd.own_of_R h2) (fun k hk => ⟨hk.symm, (h3 k hk).1.2, (h3 k hk).2⟩))
end
set_option maxHeartbeats 8000000 in
set_option maxRecDepth 100000 in
theorem each1_calls (n0 l : Nat) (w0 : World) (gL gT gF B6 : Nat) (A0 : Option Addr) (c0 : Nat) (l0 : List S52) (t0 sh lo t3 fr0 : Int) (Rec : World → Prop) (W1 : World) (ov0 : Value)
    (hC : Kd.C k52 w0 A0 l0.length l0) (hc0 : l0.length ≤ c0) (hlen : l0.length ≤ 4294967296) (hup : spUp fr0 l0) (hfr : 0 ≤ fr0) (hR0 : Rec W1) (hRk : ∀ A B, Rec A → KeepsOthers A B → Rec B)
    (hs0 : ∀ g5 W, g5 = W1.heap.size → W1.grownBy W none → W.heap[g5]? = some (.cells #[.slice none 0 0, .int .i64 0, .int .i64 0, .int .i64 0, .bool false, .bool false] 37 (0, 0)) → Below w0.heap.size w0 W → SpSt w0 gL gT gF g5 B6 A0 l0.length c0 t0 sh lo t3 fr0 z37 (.slice none 0 0) [] ov0 W)
    (hB1 : Below w0.heap.size w0 W1) (hL1 : W1.cell? ⟨gL, 0, none⟩ = some (.slice A0 l0.length c0))
    (hY : ∀ (g5 : Nat) (fr : Int) (s : S37) (v : Value) (O : List S37) (ov : Value) (W : World), Rec W → SpSt w0 gL gT gF g5 B6 A0 l0.length c0 t0 sh lo t3 fr s v O ov W → O.length ≤ 4294967296 →
      YieldAt Fence.wide (n0 - 1) Try.prog l #[.agg #[v, .int .i64 s.f1, .int .i64 s.f2, .int .i64 s.f3, .bool s.f4, .bool s.f5]] W fun e W' => e = .returned (.bool true) ∧ Rec W' ∧ ∃ ov', SpB w0 gL gT gF g5 B6 A0 l0.length c0 t0 sh lo t3 fr s v ov' W' ∧ Kd.S k37 37 W' w0.heap.size (fun q => q ≠ g5) ov' (O ++ [s]) ∧ (∀ (k : Nat) (cs : Array Value), W.heap[k]? = some (.cells cs 52 (0, 0)) → W'.heap[k]? = some (.cells cs 52 (0, 0)))) :
    CallsIn Fence.wide n0 Try.prog 42 #[.func (.yield l) #[] #[], .pointer (some ⟨gL, 0, none⟩), .pointer (some ⟨gF, 0, none⟩), .pointer (some ⟨gT, 0, none⟩)] W1 fun e W' => (∃ v, e = .returned v) ∧ Rec W' ∧
      ∃ g5 fr s v ov', SpB w0 gL gT gF g5 B6 A0 l0.length c0 t0 sh lo t3 fr s v ov' W' ∧ Kd.S k37 37 W' w0.heap.size (fun q => q ≠ g5) ov' (spRest sh lo true fr0 z37 l0) := by
  refine callsIn_wide.2 ?_
  have HC := Aside0.mk hC
  have HC0 := Aside0.mk hc0
  have HLN := Aside0.mk hlen
  have HUP := Aside0.mk hup
  have HF0 := Aside0.mk hfr
  have HR0 := Aside0.mk hR0
  have HRK := Aside0.mk hRk
  have HS0 := Aside0.mk hs0
  have HB1 := Aside0.mk hB1
  have HY := Aside0.mk hY
  clear hC hc0 hlen hup hfr hR0 hRk hs0 hB1 hY
  go_enter Try.func42, Try.ntmps42
  go_upto_region 1 with (fail)
  have hst := HS0.out W1.heap.size _ rfl (World.grownBy_alloc W1 (.cells #[.slice none 0 0, .int .i64 0, .int .i64 0, .int .i64 0, .bool false, .bool false] 37 (0, 0)) none) (World.alloc_heap_new W1 _) (HB1.out.alloc HB1.out.size _)
  have hrc : Rec (W1.alloc (.cells #[.slice none 0 0, .int .i64 0, .int .i64 0, .int .i64 0, .bool false, .bool false] 37 (0, 0))) := HRK.out _ _ HR0.out (KeepsOthers.alloc _ _)
  obtain ⟨W2, hW2⟩ : ∃ W2, W1.alloc (.cells #[.slice none 0 0, .int .i64 0, .int .i64 0, .int .i64 0, .bool false, .bool false] 37 (0, 0)) = W2 := ⟨_, rfl⟩
  obtain ⟨g5, hg5⟩ : ∃ g5, W1.heap.size = g5 := ⟨_, rfl⟩
  rw [hW2, hg5] at hst
  rw [hW2] at hrc
  rw [hW2, hg5]
  clear hW2 hg5 hL1
  have HST := Aside0.mk hst
  have HRC := Aside0.mk hrc
  have kL := blk_cell hst.b.bL 0
  replace kL : W2.cell? ⟨gL, 0, none⟩ = some (.slice A0 l0.length c0) := kL
  clear hst hrc
  go_wp2_with fail
  clear kL
  go_loopw [11] (fun v11 wr => ∃ (i : Nat) (fr : Int) (s : S37) (v : Value) (O : List S37) (ov : Value), i ≤ l0.length ∧ v11 = .int .i64 (i : Int) ∧ Aside0 (SpSt w0 gL gT gF g5 B6 A0 l0.length c0 t0 sh lo t3 fr s v O ov wr) ∧ Aside0 (Rec wr) ∧
      Aside0 (O ++ spRest sh lo (decide (i = 0)) fr s (l0.drop i) = spRest sh lo true fr0 z37 l0) ∧ Aside0 (0 ≤ s.f3 ∧ s.f3 ≤ i ∧ O.length ≤ i ∧ (i = 0 → s = z37) ∧ (i ≠ 0 → 0 < s.f3) ∧ 0 ≤ fr ∧ spUp fr (l0.drop i))) (fun v11 _ => l0.length - (intOf v11).toNat)
  case atStart =>
    exact ⟨0, fr0, z37, .slice none 0 0, [], ov0, Nat.zero_le _, rfl, HST, HRC, ⟨by rw [List.nil_append, List.drop_zero]; rfl⟩, ⟨Int.le_refl _, Int.le_refl _, Nat.zero_le _, fun _ => rfl, fun h => absurd rfl h, HF0.out, by rw [List.drop_zero]; exact HUP.out⟩⟩
  case round =>
    clear HST HRC
    obtain ⟨i, fr, s, v, O, ov, hi, rfl, HST, HRC, HEQ, HIN⟩ := hrel
    have hst := HST.out
    by_cases hlt : i < l0.length
    · have hd : l0.drop i = rd_T52 l0 (i : Int) :: l0.drop (i + 1) := by
        rw [List.drop_eq_getElem_cons hlt]
        congr 1
        show _ = l0.getD (i : Int).toNat _
        simp [List.getD_eq_getElem?_getD, hlt]
      obtain ⟨b, hb⟩ : ∃ b, rd_T52 l0 (i : Int) = b := ⟨_, rfl⟩
      have e0 := HEQ.out
      obtain ⟨i1, i2, i3, i4, i5, i6, hup⟩ := HIN.out
      rw [hd, hb] at e0 hup
      obtain ⟨hu1, hu2, hu3⟩ := hup
      obtain ⟨ad, hA, y0, y1, y2⟩ := at_T52 HC.out (i : Int) (by omega) (by omega)
      cases hA
      rw [hb, Int.toNat_natCast] at y0 y1 y2
      replace y0 := (hst.b.below.cell (World.block_lt_of_cell? w0 _ y0)).trans y0
      replace y1 := (hst.b.below.cell (World.block_lt_of_cell? w0 _ y1)).trans y1
      replace y2 := (hst.b.below.cell (World.block_lt_of_cell? w0 _ y2)).trans y2
      have d0 : decide ((i : Int) < (l0.length : Int)) = true := decide_eq_true (by omega)
      have p0 : (0 ≤ (i : Int)) = True := eq_true (by omega)
      have q0 : ((i : Int) < (l0.length : Int)) = True := eq_true (by omega)
      have E0 := Aside0.mk e0
      have HU := Aside0.mk (And.intro hu1 (And.intro hu2 hu3))
      have IN := Aside0.mk (And.intro i1 (And.intro i2 (And.intro i3 (And.intro i4 (And.intro i5 i6)))))
      have HLT := Aside0.mk hlt
      have hs1 := hst.alloc (Obj.cells #[.int .i64 b.f0, .int .u8 b.f1, .bool b.f2] 52 (0, 0))
      have hr1 := HRK.out _ _ HRC.out (KeepsOthers.alloc wr (Obj.cells #[.int .i64 b.f0, .int .u8 b.f1, .bool b.f2] 52 (0, 0)))
      have hb1 := World.alloc_heap_new wr (Obj.cells #[.int .i64 b.f0, .int .u8 b.f1, .bool b.f2] 52 (0, 0))
      have hgw : w0.heap.size ≤ wr.heap.size := hst.b.below.size
      have HS1 := Aside0.mk hs1
      have HR1 := Aside0.mk hr1
      have HBB := Aside0.mk hb1
      have HGW := Aside0.mk hgw
      clear hd hb e0 hu1 hu2 hu3 i1 i2 i3 i4 i5 i6 hst hlt HEQ HIN hs1 hr1 hb1 hgw HRC HST
      go_upto_region 4 with (fail)
      clear y0 y1 y2
      obtain ⟨W3, hW3⟩ : ∃ W3, wr.alloc (Obj.cells #[.int .i64 b.f0, .int .u8 b.f1, .bool b.f2] 52 (0, 0)) = W3 := ⟨_, rfl⟩
      obtain ⟨gb, hgb⟩ : ∃ gb, wr.heap.size = gb := ⟨_, rfl⟩
      rw [hW3] at HS1 HR1 HBB ⊢
      rw [hgb] at HBB HGW ⊢
      clear hW3 hgb
      have kF : W3.cell? ⟨gF, 0, none⟩ = some (.int .i64 fr) := (blk_cell HS1.out.b.bF 0).trans rfl
      have kb : W3.cell? ⟨gb, 0, none⟩ = some (.int .i64 b.f0) := (blk_cell HBB.out 0).trans rfl
      go_wp2_with fail
      refine (since_calls fr b.f0 _ IN.out.2.2.2.2.2 HU.out.1 HU.out.2.1).mono ?_
      rintro e w' ⟨rfl, ⟨nd, rfl⟩⟩
      have hs4 := HS1.out.drewN nd
      have hr4 := HRK.out _ _ HR1.out (keeps_drewN W3 nd)
      have hb4 : (W3.drewN nd).heap[gb]? = _ := HBB.out
      obtain ⟨W4, hW4⟩ : ∃ W4, W3.drewN nd = W4 := ⟨_, rfl⟩
      rw [hW4] at hs4 hr4 hb4 ⊢
      have HS4 := Aside0.mk hs4
      have HR4 := Aside0.mk hr4
      have HB4 := Aside0.mk hb4
      clear hW4 hs4 hr4 hb4 HS1 HR1 HBB kF kb
      go_upto_block 2 with (fail)
      go_cut [29] (fun v29 wc => ∃ (s' : S37) (v' : Value) (O' : List S37) (ov' : Value), Aside0 (SpSt w0 gL gT gF g5 B6 (some ad) l0.length c0 t0 sh lo t3 fr s' v' O' ov' wc) ∧ Aside0 (Rec wc) ∧ Aside0 (wc.heap[gb]? = some (.cells #[.int .i64 b.f0, .int .u8 b.f1, .bool b.f2] 52 (0, 0))) ∧
        Aside0 (O' ++ spRest sh lo false b.f0 (spAdd s' b) (l0.drop (i + 1)) = spRest sh lo true fr0 z37 l0) ∧ Aside0 (0 ≤ s'.f3 ∧ s'.f3 ≤ i ∧ O'.length ≤ i + 1))
      case first =>
        have hst := HS4.out
        have k4 : W4.cell? ⟨g5, 4, none⟩ = some (.bool s.f4) := (blk_cell hst.b.b5 4).trans rfl
        have f4 : W4.frozen? ⟨g5, 4, none⟩ = false := blk_frozen hst.b.b5 4
        have kT2 : W4.cell? ⟨gT, 2, none⟩ = some (.int .i64 lo) := (blk_cell hst.b.bT 2).trans rfl
        have ne1 : gb ≠ g5 := blk_ne HB4.out hst.b.b5 (by decide)
        by_cases hi0 : i = 0
        · have hz : s = z37 := IN.out.2.2.2.1 hi0
          have e0 := E0.out
          rw [decide_eq_true hi0, spRest, if_pos rfl] at e0
          have d1 : ((i : Int) == 0) = true := beq_iff_eq.2 (by omega)
          have E1 := Aside0.mk e0
          have NE := Aside0.mk ne1
          have i1 := IN.out.1
          have i2 := IN.out.2.1
          have i3 := IN.out.2.2.1
          have IN1 := Aside0.mk (And.intro i1 (And.intro i2 (show O.length ≤ i + 1 by omega)))
          clear e0 hst ne1 i1 i2 i3 hi0 hz
          go_wp2_with fail
          go_meet
          case rel =>
            exact ⟨{ s with f4 := decide (b.f0 - fr < lo) }, v, O, ov, ⟨HS4.out.put5 4 _ _ rfl rfl⟩, ⟨HRK.out _ _ HR4.out (KeepsOthers.setCell _ _ _)⟩, ⟨blk_far HB4.out (p := ⟨g5, 4, none⟩) NE.out _⟩, E1, IN1⟩
        · have d1 : ((i : Int) == 0) = false := beq_eq_false_iff_ne.2 (by omega)
          by_cases hlo : lo ≤ b.f0 - fr
          · have d2 : decide (lo ≤ b.f0 - fr) = true := decide_eq_true hlo
            have k0 : W4.cell? ⟨g5, 0, none⟩ = some v := (blk_cell hst.b.b5 0).trans rfl
            have k1 : W4.cell? ⟨g5, 1, none⟩ = some (.int .i64 s.f1) := (blk_cell hst.b.b5 1).trans rfl
            have k2 : W4.cell? ⟨g5, 2, none⟩ = some (.int .i64 s.f2) := (blk_cell hst.b.b5 2).trans rfl
            have k3 : W4.cell? ⟨g5, 3, none⟩ = some (.int .i64 s.f3) := (blk_cell hst.b.b5 3).trans rfl
            have k5 : W4.cell? ⟨g5, 5, none⟩ = some (.bool s.f5) := (blk_cell hst.b.b5 5).trans rfl
            obtain ⟨fn, tmps, assign, body, hy, hR⟩ := HY.out g5 fr s v O ov W4 HR4.out hst (by have := IN.out.2.2.1; have := HLT.out; have := HLN.out; omega)
            have HR := Aside0.mk hR
            have e0 := E0.out
            rw [decide_eq_false hi0, spRest, if_neg (by decide), if_pos hlo] at e0
            have E1 := Aside0.mk e0
            clear hR hst e0 ne1
            go_upto_region 9 with (fail)
            refine (wpIn_wide (n := n0)).1 ?_
            gi_wp2
            refine ⟨fun h => by simp [Fence.wide] at h, HR.out.mono ?_⟩
            rintro e w3 ⟨rfl, hr3, ov', hb3, ho3, hbk⟩
            simp only []
            go_at_K
            clear k0 k1 k2 k3 k4 k5 f4 kT2 hy
            have HB3 := Aside0.mk hb3
            have HO3 := Aside0.mk ho3
            have HBK := Aside0.mk (hbk _ _ HB4.out)
            have z0 : w3.cell? ⟨g5, 0, none⟩ = some v := (blk_cell hb3.b5 0).trans rfl
            have z1 : w3.cell? ⟨g5, 1, none⟩ = some (.int .i64 s.f1) := (blk_cell hb3.b5 1).trans rfl
            have z2 : w3.cell? ⟨g5, 2, none⟩ = some (.int .i64 s.f2) := (blk_cell hb3.b5 2).trans rfl
            have z3 : w3.cell? ⟨g5, 3, none⟩ = some (.int .i64 s.f3) := (blk_cell hb3.b5 3).trans rfl
            have z4 : w3.cell? ⟨g5, 4, none⟩ = some (.bool s.f4) := (blk_cell hb3.b5 4).trans rfl
            have z5 : w3.cell? ⟨g5, 5, none⟩ = some (.bool s.f5) := (blk_cell hb3.b5 5).trans rfl
            have f0 := blk_frozen hb3.b5 0
            have f1 := blk_frozen hb3.b5 1
            have f2 := blk_frozen hb3.b5 2
            have f3 := blk_frozen hb3.b5 3
            have f4 := blk_frozen hb3.b5 4
            have f5 := blk_frozen hb3.b5 5
            clear hbk hb3 ho3
            gi_wp2
            go_wp2_with fail
            go_meet
            case rel =>
              have nb := blk_ne HBK.out HB3.out.b5 (by decide)
              refine ⟨z37, .slice none 0 0, O ++ [s], ov', ⟨HB3.out.zero HO3.out⟩, ⟨HRK.out _ _ hr3 (((((((KeepsOthers.setCell _ _ _).trans (KeepsOthers.setCell _ _ _)).trans (KeepsOthers.setCell _ _ _)).trans (KeepsOthers.setCell _ _ _)).trans (KeepsOthers.setCell _ _ _)).trans (KeepsOthers.setCell _ _ _)))⟩,
                ⟨blk_far (p := ⟨g5, 5, none⟩) (blk_far (p := ⟨g5, 4, none⟩) (blk_far (p := ⟨g5, 3, none⟩) (blk_far (p := ⟨g5, 2, none⟩) (blk_far (p := ⟨g5, 1, none⟩) (blk_far (p := ⟨g5, 0, none⟩) HBK.out nb _) nb _) nb _) nb _) nb _) nb _⟩, ⟨by rw [List.append_assoc, List.singleton_append]; exact E1.out⟩, ⟨⟨Int.le_refl _, by show (0 : Int) ≤ _; omega, by have := IN.out.2.2.1; rw [List.length_append]; simp; omega⟩⟩⟩
          · have d2 : decide (lo ≤ b.f0 - fr) = false := decide_eq_false hlo
            have kT1 : W4.cell? ⟨gT, 1, none⟩ = some (.int .i64 sh) := (blk_cell hst.b.bT 1).trans rfl
            have e0 := E0.out
            rw [decide_eq_false hi0, spRest, if_neg (by decide), if_neg hlo] at e0
            have E1 := Aside0.mk e0
            have NE := Aside0.mk ne1
            have i1 := IN.out.1
            have i2 := IN.out.2.1
            have i3 := IN.out.2.2.1
            have IN1 := Aside0.mk (And.intro i1 (And.intro i2 (show O.length ≤ i + 1 by omega)))
            clear e0 hst ne1 i1 i2 i3 hi0 hlo
            cases hf4 : s.f4
            · have F4 := Aside0.mk hf4
              rw [hf4] at k4
              clear hf4
              go_wp2_with fail
              all_goals
                go_meet
                case rel =>
                  exact ⟨{ s with f4 := s.f4 || decide (sh < b.f0 - fr) }, v, O, ov, ⟨HS4.out.put5 4 _ _ rfl (by rw [F4.out]; simp [*])⟩, ⟨HRK.out _ _ HR4.out (KeepsOthers.setCell _ _ _)⟩, ⟨blk_far HB4.out (p := ⟨g5, 4, none⟩) NE.out _⟩, E1, IN1⟩
            · have F4 := Aside0.mk hf4
              rw [hf4] at k4
              clear hf4
              go_wp2_with fail
              all_goals
                go_meet
                case rel =>
                  exact ⟨{ s with f4 := s.f4 || decide (sh < b.f0 - fr) }, v, O, ov, ⟨HS4.out.put5 4 _ _ rfl (by rw [F4.out]; simp)⟩, ⟨HRK.out _ _ HR4.out (KeepsOthers.setCell _ _ _)⟩, ⟨blk_far HB4.out (p := ⟨g5, 4, none⟩) NE.out _⟩, E1, IN1⟩
      case rest =>
        obtain ⟨s1, v1, O1, ov1, HSA, HRA, HBA, HE, HI⟩ := hcut
        have HFR := Aside0.mk IN.out.2.2.2.2.2
        clear HS4 HR4 HB4 E0 IN
        have k3 : wc.cell? ⟨g5, 3, none⟩ = some (.int .i64 s1.f3) := (blk_cell HSA.out.b.b5 3).trans rfl
        go_upto_if 49 with (fail)
        clear k3
        go_cut [50] (fun v50 wd => Aside0 (SpSt w0 gL gT gF g5 B6 (some ad) l0.length c0 t0 sh lo t3 fr { s1 with f1 := if s1.f3 = 0 then b.f0 else s1.f1 } v1 O1 ov1 wd) ∧ Aside0 (Rec wd) ∧ Aside0 (wd.heap[gb]? = some (.cells #[.int .i64 b.f0, .int .u8 b.f1, .bool b.f2] 52 (0, 0))))
        case first =>
          have k1 : wc.cell? ⟨g5, 1, none⟩ = some (.int .i64 s1.f1) := (blk_cell HSA.out.b.b5 1).trans rfl
          have f1 := blk_frozen HSA.out.b.b5 1
          have kb : wc.cell? ⟨gb, 0, none⟩ = some (.int .i64 b.f0) := (blk_cell HBA.out 0).trans rfl
          have NE := Aside0.mk (blk_ne HBA.out HSA.out.b.b5 (by decide))
          by_cases hz : s1.f3 = 0
          · have d1 : (s1.f3 == 0) = true := beq_iff_eq.2 hz
            have HZ := Aside0.mk hz
            clear hz
            go_wp2_with fail
            go_meet
            case rel =>
              exact ⟨⟨by rw [if_pos HZ.out]; exact HSA.out.put5 1 _ _ rfl rfl⟩, ⟨HRK.out _ _ HRA.out (KeepsOthers.setCell _ _ _)⟩, ⟨blk_far HBA.out (p := ⟨g5, 1, none⟩) NE.out _⟩⟩
          · have d1 : (s1.f3 == 0) = false := beq_eq_false_iff_ne.2 hz
            have HZ := Aside0.mk hz
            clear hz
            go_wp2_with fail
            go_meet
            case rel =>
              exact ⟨⟨by rw [if_neg HZ.out]; exact HSA.out⟩, HRA, HBA⟩
        case rest =>
          obtain ⟨HSB, HRB, HBB⟩ := hcut
          clear HSA HRA HBA
          obtain ⟨s2, hs2⟩ : ∃ s2 : S37, s2 = { s1 with f1 := if s1.f3 = 0 then b.f0 else s1.f1 } := ⟨_, rfl⟩
          have e2 : spAdd s1 b = ⟨if s2.f0.length < 256 then s2.f0 ++ [b.f1] else s2.f0, s2.f1, b.f0, s2.f3 + 1, s2.f4, s2.f5 || b.f2⟩ := by rw [hs2]; rfl
          have hi3 : s1.f3 = s2.f3 := by rw [hs2]
          rw [← hs2] at HSB
          rw [e2] at HE
          rw [hi3] at HI
          clear hs2 e2 hi3
          obtain ⟨A1, c1, rfl⟩ := Kd.R_slice HSB.out.hv
          have k0 : wc.cell? ⟨g5, 0, none⟩ = some (.slice A1 s2.f0.length c1) := (blk_cell HSB.out.b.b5 0).trans rfl
          go_upto_if 56 with (fail)
          clear k0
          go_cut [57] (fun v57 we => ∃ v2 : Value, Aside0 (SpSt w0 gL gT gF g5 B6 (some ad) l0.length c0 t0 sh lo t3 fr { s2 with f0 := if s2.f0.length < 256 then s2.f0 ++ [b.f1] else s2.f0 } v2 O1 ov1 we) ∧ Aside0 (Rec we) ∧ Aside0 (we.heap[gb]? = some (.cells #[.int .i64 b.f0, .int .u8 b.f1, .bool b.f2] 52 (0, 0))))
          case first =>
            have k0 : wc.cell? ⟨g5, 0, none⟩ = some (.slice A1 s2.f0.length c1) := (blk_cell HSB.out.b.b5 0).trans rfl
            have f0 := blk_frozen HSB.out.b.b5 0
            have kb : wc.cell? ⟨gb, 1, none⟩ = some (.int .u8 b.f1) := (blk_cell HBB.out 1).trans rfl
            have NE := Aside0.mk (blk_ne HBB.out HSB.out.b.b5 (by decide))
            by_cases hz : s2.f0.length < 256
            · have d1 : decide ((s2.f0.length : Int) < 256) = true := decide_eq_true (by omega)
              have d2 : decide (s2.f0.length < 256) = true := decide_eq_true (by omega)
              have HZ := Aside0.mk hz
              have hne : some g5 ≠ (Value.slice A1 s2.f0.length c1).ownBlock := Kd.R_ne HSB.out.hv HSB.out.b.b5 (by decide)
              have hneb : some gb ≠ (Value.slice A1 s2.f0.length c1).ownBlock := Kd.R_ne HSB.out.hv HBB.out (by decide)
              have HNE := Aside0.mk hne
              have HNB := Aside0.mk hneb
              have hlt5 : g5 < wc.heap.size := blk_lt HSB.out.b.b5
              clear hne hneb
              go_wp2_with ((with_reducible refine gate_builtin (b := .append) (xs := #[.tmp 58, .tmp 61]) rfl ?_); at_builtin; refine Kd.R_append (Kd.int .u8) (w0 := w0) w0.heap.size rfl (.tmp 58) (.tmp 61) 22 5 (.int .u8 0) 1 rfl Try.underlying22 (by kernel_rfl) rfl (by decide) (by omega) (.slice A1 s2.f0.length c1) s2.f0 b.f1 [.int .u8 b.f1] (fun _ => True) (fun _ => False) rfl rfl rfl (fun _ hk => hk.elim) (fun _ _ => trivial) HSB.out.hv HSB.out.b.below HSB.out.b.below.size (by omega) ?_; intro v2 w2 ho hb hg_ hat_; have HO := Aside0.mk ho; have HB2 := Aside0.mk hb; have HG2 := Aside0.mk hg_; have HN2 := Aside0.mk hat_; have k0' : w2.cell? ⟨g5, 0, none⟩ = some (.slice A1 s2.f0.length c1) := (cell_grown hg_ k0 HNE.out); have fz0 : w2.frozen? ⟨g5, 0, none⟩ = false := blk_frozen ((hg_.block g5 hlt5 HNE.out).trans HSB.out.b.b5) 0; obtain ⟨A2, c2, rfl⟩ := Kd.R_slice ho; clear ho hb hg_ hat_)
              go_meet
              case rel =>
                have hlen : (s2.f0 ++ [b.f1]).length = s2.f0.length + 1 := by simp
                have HO' := HO.out
                have HN' := HN2.out
                rw [hlen] at HO' HN'
                refine ⟨.slice A2 (s2.f0.length + 1) c2, ⟨?_⟩, ⟨?_⟩, ⟨?_⟩⟩
                · rw [if_pos HZ.out]; exact HSB.out.bytes HO' HB2.out HG2.out HN'
                · exact HRK.out _ _ HRB.out ((KeepsOthers.of_grownBy HG2.out (fun j o hj hh => by obtain ⟨cells, hc⟩ := Kd.R_typed HSB.out.hv j hj; rw [hc] at hh; cases hh; rfl)).trans (KeepsOthers.setCell _ _ _))
                · exact blk_far (p := ⟨g5, 0, none⟩) (blk_grown HBB.out HG2.out HNB.out) NE.out _
            · have d1 : decide ((s2.f0.length : Int) < 256) = false := decide_eq_false (by omega)
              have d2 : decide (s2.f0.length < 256) = false := decide_eq_false (by omega)
              have HZ := Aside0.mk hz
              go_wp2_with fail
              go_meet
              case rel =>
                exact ⟨_, ⟨by rw [if_neg HZ.out]; exact HSB.out⟩, HRB, HBB⟩
          case rest =>
            obtain ⟨v2, HSC, HRC, HBC⟩ := hcut
            clear HSB HRB HBB
            obtain ⟨s3, hs3⟩ : ∃ s3 : S37, s3 = { s2 with f0 := if s2.f0.length < 256 then s2.f0 ++ [b.f1] else s2.f0 } := ⟨_, rfl⟩
            have e3 : (⟨if s2.f0.length < 256 then s2.f0 ++ [b.f1] else s2.f0, s2.f1, b.f0, s2.f3 + 1, s2.f4, s2.f5 || b.f2⟩ : S37) = ⟨s3.f0, s3.f1, b.f0, s3.f3 + 1, s3.f4, s3.f5 || b.f2⟩ := by rw [hs3]
            have hi3 : s2.f3 = s3.f3 := by rw [hs3]
            rw [← hs3] at HSC
            rw [e3] at HE
            rw [hi3] at HI
            clear hs3 e3 hi3
            go_upto_region 15 with (fail)
            have HF := Aside0.mk (show 0 ≤ fr from HFR.out)
            have hw : IntKind.i64.wrap (s3.f3 + 1) = s3.f3 + 1 := by have := HI.out.1; have := HI.out.2.1; have := HLT.out; have := HLN.out; rw [i64_w]; unfold wrap64; omega
            have hwi : IntKind.i64.wrap ((i : Int) + 1) = (i : Int) + 1 := by have := HLT.out; have := HLN.out; rw [i64_w]; unfold wrap64; omega
            have NE := Aside0.mk (blk_ne HBC.out HSC.out.b.b5 (by decide))
            cases hf5 : s3.f5
            · have h5 := HSC.out.b.b5
              simp only [hf5] at h5
              have H5 := Aside0.mk h5
              have F5 := Aside0.mk hf5
              clear h5 hf5
              refine start_ (n := 12) (S := fun U => U.heap[gb]? = some (.cells #[.int .i64 b.f0, .int .u8 b.f1, .bool b.f2] 52 (0, 0)) ∧ ∃ x : Int, U.heap[g5]? = some (.cells #[v2, .int .i64 s3.f1, .int .i64 x, .int .i64 s3.f3, .bool s3.f4, .bool false] 37 (0, 0))) (ds := [11]) #[false, false, false, false, false, false, false, false, false, false, false, false] (by kernel_rfl) rfl rfl ⟨blk_drew HBC.out, _, blk_drew H5.out⟩ (fun hHeld => ?_)
              refine pure_ (i := 0) (N := (some 64)) (v := ?_) (a' := ?_) #[true, false, false, false, false, false, false, false, false, false, false, false] rfl rfl (by kernel_rfl) (fun _ _ _ h => h) (Or.inl ⟨by rfl, ?_⟩) ?_ ?_
              rotate_left
              · intro w'
                go_simp
                with_reducible rfl
              rotate_left
              · simp only [Act.put, List.setIfInBounds_toArray, List.set_cons_zero, List.set_cons_succ, i64_w, i32_w]
                rfl
              refine take_ (i := 1) (N := (some 65)) (v := ?_) (a' := ?_) #[true, true, false, false, false, false, false, false, false, false, false, false] rfl rfl (by kernel_rfl) (fun _ _ _ h => h) (Or.inl ⟨by rfl, ?_⟩) hHeld ?_ ?_
              rotate_left
              · intro w' s0
                have y0 : w'.cell? ⟨gb, 0, none⟩ = some (.int .i64 b.f0) := (blk_cell s0.1 0).trans rfl
                go_simp
                with_reducible rfl
              rotate_left
              · simp only [Act.put, List.setIfInBounds_toArray, List.set_cons_zero, List.set_cons_succ, i64_w, i32_w]
                rfl
              refine pure_ (i := 2) (N := (some 66)) (v := ?_) (a' := ?_) #[true, true, true, false, false, false, false, false, false, false, false, false] rfl rfl (by kernel_rfl) (fun _ _ _ h => h) (Or.inl ⟨by rfl, ?_⟩) ?_ ?_
              rotate_left
              · intro w'
                go_simp
                with_reducible rfl
              rotate_left
              · simp only [Act.put, List.setIfInBounds_toArray, List.set_cons_zero, List.set_cons_succ, i64_w, i32_w]
                rfl
              refine take_ (i := 3) (N := (some 67)) (v := ?_) (a' := ?_) #[true, true, true, true, false, false, false, false, false, false, false, false] rfl rfl (by kernel_rfl) (fun _ _ _ h => h) (Or.inl ⟨by rfl, ?_⟩) hHeld ?_ ?_
              rotate_left
              · intro w' s0
                obtain ⟨sb, x, s5⟩ := s0
                have y0 : w'.cell? ⟨g5, 5, none⟩ = some (.bool false) := (blk_cell s5 5).trans rfl
                go_simp
                with_reducible rfl
              rotate_left
              · simp only [Act.put, List.setIfInBounds_toArray, List.set_cons_zero, List.set_cons_succ, i64_w, i32_w]
                rfl
              refine pure_ (i := 4) (N := (some 68)) (v := ?_) (a' := ?_) #[true, true, true, true, true, false, false, false, false, false, false, false] rfl rfl (by kernel_rfl) (fun _ _ _ h => h) (Or.inl ⟨by rfl, ?_⟩) ?_ ?_
              rotate_left
              · intro w'
                go_simp
                with_reducible rfl
              rotate_left
              · simp only [Act.put, List.setIfInBounds_toArray, List.set_cons_zero, List.set_cons_succ, i64_w, i32_w]
                rfl
              refine pure_ (i := 5) (N := (some 69)) (v := ?_) (a' := ?_) #[true, true, true, true, true, true, false, false, false, false, false, false] rfl rfl (by kernel_rfl) (fun _ _ _ h => h) (Or.inl ⟨by rfl, ?_⟩) ?_ ?_
              rotate_left
              · intro w'
                go_simp
                with_reducible rfl
              rotate_left
              · simp only [Act.put, List.setIfInBounds_toArray, List.set_cons_zero, List.set_cons_succ, i64_w, i32_w]
                rfl
              refine take_ (i := 6) (N := (some 70)) (v := ?_) (a' := ?_) #[true, true, true, true, true, true, true, false, false, false, false, false] rfl rfl (by kernel_rfl) (fun _ _ _ h => h) (Or.inl ⟨by rfl, ?_⟩) hHeld ?_ ?_
              rotate_left
              · intro w' s0
                have y0 : w'.cell? ⟨gb, 2, none⟩ = some (.bool b.f2) := (blk_cell s0.1 2).trans rfl
                go_simp
                with_reducible rfl
              rotate_left
              · simp only [Act.put, List.setIfInBounds_toArray, List.set_cons_zero, List.set_cons_succ, i64_w, i32_w]
                rfl
              refine pure_ (i := 7) (N := (some 71)) (v := ?_) (a' := ?_) #[true, true, true, true, true, true, true, true, false, false, false, false] rfl rfl (by kernel_rfl) (fun _ _ _ h => h) (Or.inl ⟨by rfl, ?_⟩) ?_ ?_
              rotate_left
              · intro w'
                go_simp
                with_reducible rfl
              rotate_left
              · simp only [Act.put, List.setIfInBounds_toArray, List.set_cons_zero, List.set_cons_succ, i64_w, i32_w]
                rfl
              refine pure_ (i := 8) (N := (some 72)) (v := ?_) (a' := ?_) #[true, true, true, true, true, true, true, true, true, false, false, false] rfl rfl (by kernel_rfl) (fun _ _ _ h => h) (Or.inl ⟨by rfl, ?_⟩) ?_ ?_
              rotate_left
              · intro w'
                go_simp
                with_reducible rfl
              rotate_left
              · simp only [Act.put, List.setIfInBounds_toArray, List.set_cons_zero, List.set_cons_succ, i64_w, i32_w]
                rfl
              refine one_ (i := 9) (N := none) #[true, true, true, true, true, true, true, true, true, true, false, false] rfl rfl (by kernel_rfl) (by decide) (fun K hK => ?_)
              have y0 : wc.drew.cell? ⟨g5, 2, none⟩ = some (.int .i64 s3.f2) := (blk_cell H5.out 2).trans rfl
              have z0 : wc.drew.frozen? ⟨g5, 2, none⟩ = false := blk_frozen H5.out 2
              refine skip_ (w1 := wc.drew.setCell ⟨g5, 2, none⟩ (.int .i64 b.f0)) (by rfl) rfl ?_ ?_
              · go_simp
              refine hK.out _ _ ⟨blk_far (p := ⟨g5, 2, none⟩) hHeld.1 NE.out _, b.f0, blk_put (blk_drew H5.out) 2 _ rfl⟩ (fun hH2 => ?_)
              clear hK K y0 z0
              refine pure_ (i := 10) (N := (some 73)) (v := ?_) (a' := ?_) #[true, true, true, true, true, true, true, true, true, true, true, false] rfl rfl (by kernel_rfl) (fun _ _ _ h => h) (Or.inl ⟨by rfl, ?_⟩) ?_ ?_
              rotate_left
              · intro w'
                go_simp
                with_reducible rfl
              rotate_left
              · simp only [Act.put, List.setIfInBounds_toArray, List.set_cons_zero, List.set_cons_succ, i64_w, i32_w]
                rfl
              refine last_ (i := 11) (N := none) #[true, true, true, true, true, true, true, true, true, true, true, true] rfl rfl (by kernel_rfl) (by decide) (fun K hK => ?_)
              have h52 : (wc.setCell ⟨g5, 2, none⟩ (.int .i64 b.f0)).heap[g5]? = some (.cells #[v2, .int .i64 s3.f1, .int .i64 b.f0, .int .i64 s3.f3, .bool s3.f4, .bool false] 37 (0, 0)) := blk_put H5.out 2 _ rfl
              have y0 : (wc.setCell ⟨g5, 2, none⟩ (.int .i64 b.f0)).cell? ⟨g5, 5, none⟩ = some (.bool false) := (blk_cell h52 5).trans rfl
              have z0 : (wc.setCell ⟨g5, 2, none⟩ (.int .i64 b.f0)).frozen? ⟨g5, 5, none⟩ = false := blk_frozen h52 5
              have y1 : wc.cell? ⟨g5, 5, none⟩ = some (.bool false) := (blk_cell H5.out 5).trans rfl
              have z1 : wc.frozen? ⟨g5, 5, none⟩ = false := blk_frozen H5.out 5
              refine skip_ (w1 := (wc.drew.setCell ⟨g5, 2, none⟩ (.int .i64 b.f0)).setCell ⟨g5, 5, none⟩ (.bool b.f2)) (by rfl) rfl ?_ ?_
              · go_simp
              refine hK.out _ _ ?_
              clear hK K hH2 hHeld h52 y0 z0 y1 z1
              refine done_ (by kernel_rfl) ?_
              have hs5 := (HSC.out.drew.put5 2 (.int .i64 b.f0) { s3 with f2 := b.f0 } rfl rfl).put5 5 (.bool (b.f2)) { s3 with f2 := b.f0, f5 := s3.f5 || b.f2 } rfl (by rw [F5.out]; rfl)
              have hr5 := HRK.out _ _ HRC.out (((KeepsOthers.drew wc).trans (KeepsOthers.setCell _ ⟨g5, 2, none⟩ (.int .i64 b.f0))).trans (KeepsOthers.setCell _ ⟨g5, 5, none⟩ (.bool (b.f2))))
              have hb5 := blk_far (p := ⟨g5, 5, none⟩) (blk_far (p := ⟨g5, 2, none⟩) (blk_drew HBC.out) NE.out (.int .i64 b.f0)) NE.out (.bool (b.f2))
              obtain ⟨W5, hW5⟩ : ∃ W5, (wc.drew.setCell ⟨g5, 2, none⟩ (.int .i64 b.f0)).setCell ⟨g5, 5, none⟩ (.bool (b.f2)) = W5 := ⟨_, rfl⟩
              rw [hW5] at hs5 hr5 hb5 ⊢
              clear hW5
              have HS5 := Aside0.mk hs5
              have HR5 := Aside0.mk hr5
              have HB5 := Aside0.mk hb5
              have k3 : W5.cell? ⟨g5, 3, none⟩ = some (.int .i64 s3.f3) := (blk_cell hs5.b.b5 3).trans rfl
              have f3 : W5.frozen? ⟨g5, 3, none⟩ = false := blk_frozen hs5.b.b5 3
              have kb : W5.cell? ⟨gb, 0, none⟩ = some (.int .i64 b.f0) := (blk_cell hb5 0).trans rfl
              have kF : W5.cell? ⟨gF, 0, none⟩ = some (.int .i64 fr) := (blk_cell hs5.b.bF 0).trans rfl
              have fF : W5.frozen? ⟨gF, 0, none⟩ = false := blk_frozen hs5.b.bF 0
              have n1 : gb ≠ g5 := NE.out
              have n2 : gF ≠ g5 := blk_ne hs5.b.bF hs5.b.b5 (by decide)
              clear hs5 hr5 hb5 HSC HRC HBC H5 F5
              go_wp2_with fail
              go_roundw
              case rel =>
                exact ⟨i + 1, b.f0, { s3 with f2 := b.f0, f3 := s3.f3 + 1, f5 := s3.f5 || b.f2 }, v2, O1, ov1, by have := HLT.out; omega, by go_num, ⟨(HS5.out.put5 3 (.int .i64 (s3.f3 + 1)) { s3 with f2 := b.f0, f3 := s3.f3 + 1, f5 := s3.f5 || b.f2 } rfl rfl).putF b.f0⟩,
                  ⟨HRK.out _ _ HR5.out ((KeepsOthers.setCell _ _ _).trans (KeepsOthers.setCell _ _ _))⟩, ⟨by rw [decide_eq_false (Nat.succ_ne_zero i)]; exact HE.out⟩,
                  ⟨by have := HI.out.1; show (0 : Int) ≤ s3.f3 + 1; omega, by have := HI.out.2.1; show s3.f3 + 1 ≤ ((i + 1 : Nat) : Int); omega, HI.out.2.2, fun h => absurd h (Nat.succ_ne_zero i), fun _ => by have := HI.out.1; show 0 < s3.f3 + 1; omega, by have := HF.out; have := HU.out.1; omega, HU.out.2.2⟩⟩
              case measure =>
                have := HLT.out
                show l0.length - ((i : Int) + 1).toNat < l0.length - (i : Int).toNat
                omega
            · have h5 := HSC.out.b.b5
              simp only [hf5] at h5
              have H5 := Aside0.mk h5
              have F5 := Aside0.mk hf5
              clear h5 hf5
              refine start_ (n := 12) (S := fun U => U.heap[gb]? = some (.cells #[.int .i64 b.f0, .int .u8 b.f1, .bool b.f2] 52 (0, 0)) ∧ ∃ x : Int, U.heap[g5]? = some (.cells #[v2, .int .i64 s3.f1, .int .i64 x, .int .i64 s3.f3, .bool s3.f4, .bool true] 37 (0, 0))) (ds := [11]) #[false, false, false, false, false, false, false, false, false, false, false, false] (by kernel_rfl) rfl rfl ⟨blk_drew HBC.out, _, blk_drew H5.out⟩ (fun hHeld => ?_)
              refine pure_ (i := 0) (N := (some 64)) (v := ?_) (a' := ?_) #[true, false, false, false, false, false, false, false, false, false, false, false] rfl rfl (by kernel_rfl) (fun _ _ _ h => h) (Or.inl ⟨by rfl, ?_⟩) ?_ ?_
              rotate_left
              · intro w'
                go_simp
                with_reducible rfl
              rotate_left
              · simp only [Act.put, List.setIfInBounds_toArray, List.set_cons_zero, List.set_cons_succ, i64_w, i32_w]
                rfl
              refine take_ (i := 1) (N := (some 65)) (v := ?_) (a' := ?_) #[true, true, false, false, false, false, false, false, false, false, false, false] rfl rfl (by kernel_rfl) (fun _ _ _ h => h) (Or.inl ⟨by rfl, ?_⟩) hHeld ?_ ?_
              rotate_left
              · intro w' s0
                have y0 : w'.cell? ⟨gb, 0, none⟩ = some (.int .i64 b.f0) := (blk_cell s0.1 0).trans rfl
                go_simp
                with_reducible rfl
              rotate_left
              · simp only [Act.put, List.setIfInBounds_toArray, List.set_cons_zero, List.set_cons_succ, i64_w, i32_w]
                rfl
              refine pure_ (i := 2) (N := (some 66)) (v := ?_) (a' := ?_) #[true, true, true, false, false, false, false, false, false, false, false, false] rfl rfl (by kernel_rfl) (fun _ _ _ h => h) (Or.inl ⟨by rfl, ?_⟩) ?_ ?_
              rotate_left
              · intro w'
                go_simp
                with_reducible rfl
              rotate_left
              · simp only [Act.put, List.setIfInBounds_toArray, List.set_cons_zero, List.set_cons_succ, i64_w, i32_w]
                rfl
              refine take_ (i := 3) (N := (some 67)) (v := ?_) (a' := ?_) #[true, true, true, true, false, false, false, false, false, false, false, false] rfl rfl (by kernel_rfl) (fun _ _ _ h => h) (Or.inl ⟨by rfl, ?_⟩) hHeld ?_ ?_
              rotate_left
              · intro w' s0
                obtain ⟨sb, x, s5⟩ := s0
                have y0 : w'.cell? ⟨g5, 5, none⟩ = some (.bool true) := (blk_cell s5 5).trans rfl
                go_simp
                with_reducible rfl
              rotate_left
              · simp only [Act.put, List.setIfInBounds_toArray, List.set_cons_zero, List.set_cons_succ, i64_w, i32_w]
                rfl
              refine pure_ (i := 4) (N := (some 68)) (v := ?_) (a' := ?_) #[true, true, true, true, true, false, false, false, false, false, false, false] rfl rfl (by kernel_rfl) (fun _ _ _ h => h) (Or.inl ⟨by rfl, ?_⟩) ?_ ?_
              rotate_left
              · intro w'
                go_simp
                with_reducible rfl
              rotate_left
              · simp only [Act.put, List.setIfInBounds_toArray, List.set_cons_zero, List.set_cons_succ, i64_w, i32_w]
                rfl
              refine pure_ (i := 5) (N := (some 69)) (v := undef) (a' := ?_) #[true, true, true, true, true, true, false, false, false, false, false, false] rfl rfl (by kernel_rfl) (fun _ _ _ h => h) (Or.inr ⟨by rfl, rfl⟩) ?_ ?_
              rotate_left
              · simp only [Act.put, List.setIfInBounds_toArray, List.set_cons_zero, List.set_cons_succ, i64_w, i32_w]
                rfl
              refine pure_ (i := 6) (N := (some 70)) (v := undef) (a' := ?_) #[true, true, true, true, true, true, true, false, false, false, false, false] rfl rfl (by kernel_rfl) (fun _ _ _ h => h) (Or.inr ⟨by rfl, rfl⟩) ?_ ?_
              rotate_left
              · simp only [Act.put, List.setIfInBounds_toArray, List.set_cons_zero, List.set_cons_succ, i64_w, i32_w]
                rfl
              refine pure_ (i := 7) (N := (some 71)) (v := ?_) (a' := ?_) #[true, true, true, true, true, true, true, true, false, false, false, false] rfl rfl (by kernel_rfl) (fun _ _ _ h => h) (Or.inl ⟨by rfl, ?_⟩) ?_ ?_
              rotate_left
              · intro w'
                go_simp
                with_reducible rfl
              rotate_left
              · simp only [Act.put, List.setIfInBounds_toArray, List.set_cons_zero, List.set_cons_succ, i64_w, i32_w]
                rfl
              refine pure_ (i := 8) (N := (some 72)) (v := ?_) (a' := ?_) #[true, true, true, true, true, true, true, true, true, false, false, false] rfl rfl (by kernel_rfl) (fun _ _ _ h => h) (Or.inl ⟨by rfl, ?_⟩) ?_ ?_
              rotate_left
              · intro w'
                go_simp
                with_reducible rfl
              rotate_left
              · simp only [Act.put, List.setIfInBounds_toArray, List.set_cons_zero, List.set_cons_succ, i64_w, i32_w]
                rfl
              refine one_ (i := 9) (N := none) #[true, true, true, true, true, true, true, true, true, true, false, false] rfl rfl (by kernel_rfl) (by decide) (fun K hK => ?_)
              have y0 : wc.drew.cell? ⟨g5, 2, none⟩ = some (.int .i64 s3.f2) := (blk_cell H5.out 2).trans rfl
              have z0 : wc.drew.frozen? ⟨g5, 2, none⟩ = false := blk_frozen H5.out 2
              refine skip_ (w1 := wc.drew.setCell ⟨g5, 2, none⟩ (.int .i64 b.f0)) (by rfl) rfl ?_ ?_
              · go_simp
              refine hK.out _ _ ⟨blk_far (p := ⟨g5, 2, none⟩) hHeld.1 NE.out _, b.f0, blk_put (blk_drew H5.out) 2 _ rfl⟩ (fun hH2 => ?_)
              clear hK K y0 z0
              refine pure_ (i := 10) (N := (some 73)) (v := ?_) (a' := ?_) #[true, true, true, true, true, true, true, true, true, true, true, false] rfl rfl (by kernel_rfl) (fun _ _ _ h => h) (Or.inl ⟨by rfl, ?_⟩) ?_ ?_
              rotate_left
              · intro w'
                go_simp
                with_reducible rfl
              rotate_left
              · simp only [Act.put, List.setIfInBounds_toArray, List.set_cons_zero, List.set_cons_succ, i64_w, i32_w]
                rfl
              refine last_ (i := 11) (N := none) #[true, true, true, true, true, true, true, true, true, true, true, true] rfl rfl (by kernel_rfl) (by decide) (fun K hK => ?_)
              have h52 : (wc.setCell ⟨g5, 2, none⟩ (.int .i64 b.f0)).heap[g5]? = some (.cells #[v2, .int .i64 s3.f1, .int .i64 b.f0, .int .i64 s3.f3, .bool s3.f4, .bool true] 37 (0, 0)) := blk_put H5.out 2 _ rfl
              have y0 : (wc.setCell ⟨g5, 2, none⟩ (.int .i64 b.f0)).cell? ⟨g5, 5, none⟩ = some (.bool true) := (blk_cell h52 5).trans rfl
              have z0 : (wc.setCell ⟨g5, 2, none⟩ (.int .i64 b.f0)).frozen? ⟨g5, 5, none⟩ = false := blk_frozen h52 5
              have y1 : wc.cell? ⟨g5, 5, none⟩ = some (.bool true) := (blk_cell H5.out 5).trans rfl
              have z1 : wc.frozen? ⟨g5, 5, none⟩ = false := blk_frozen H5.out 5
              refine skip_ (w1 := (wc.drew.setCell ⟨g5, 2, none⟩ (.int .i64 b.f0)).setCell ⟨g5, 5, none⟩ (.bool true)) (by rfl) rfl ?_ ?_
              · go_simp
              refine hK.out _ _ ?_
              clear hK K hH2 hHeld h52 y0 z0 y1 z1
              refine done_ (by kernel_rfl) ?_
              have hs5 := (HSC.out.drew.put5 2 (.int .i64 b.f0) { s3 with f2 := b.f0 } rfl rfl).put5 5 (.bool (true)) { s3 with f2 := b.f0, f5 := s3.f5 || b.f2 } rfl (by rw [F5.out]; rfl)
              have hr5 := HRK.out _ _ HRC.out (((KeepsOthers.drew wc).trans (KeepsOthers.setCell _ ⟨g5, 2, none⟩ (.int .i64 b.f0))).trans (KeepsOthers.setCell _ ⟨g5, 5, none⟩ (.bool (true))))
              have hb5 := blk_far (p := ⟨g5, 5, none⟩) (blk_far (p := ⟨g5, 2, none⟩) (blk_drew HBC.out) NE.out (.int .i64 b.f0)) NE.out (.bool (true))
              obtain ⟨W5, hW5⟩ : ∃ W5, (wc.drew.setCell ⟨g5, 2, none⟩ (.int .i64 b.f0)).setCell ⟨g5, 5, none⟩ (.bool (true)) = W5 := ⟨_, rfl⟩
              rw [hW5] at hs5 hr5 hb5 ⊢
              clear hW5
              have HS5 := Aside0.mk hs5
              have HR5 := Aside0.mk hr5
              have HB5 := Aside0.mk hb5
              have k3 : W5.cell? ⟨g5, 3, none⟩ = some (.int .i64 s3.f3) := (blk_cell hs5.b.b5 3).trans rfl
              have f3 : W5.frozen? ⟨g5, 3, none⟩ = false := blk_frozen hs5.b.b5 3
              have kb : W5.cell? ⟨gb, 0, none⟩ = some (.int .i64 b.f0) := (blk_cell hb5 0).trans rfl
              have kF : W5.cell? ⟨gF, 0, none⟩ = some (.int .i64 fr) := (blk_cell hs5.b.bF 0).trans rfl
              have fF : W5.frozen? ⟨gF, 0, none⟩ = false := blk_frozen hs5.b.bF 0
              have n1 : gb ≠ g5 := NE.out
              have n2 : gF ≠ g5 := blk_ne hs5.b.bF hs5.b.b5 (by decide)
              clear hs5 hr5 hb5 HSC HRC HBC H5 F5
              go_wp2_with fail
              go_roundw
              case rel =>
                exact ⟨i + 1, b.f0, { s3 with f2 := b.f0, f3 := s3.f3 + 1, f5 := s3.f5 || b.f2 }, v2, O1, ov1, by have := HLT.out; omega, by go_num, ⟨(HS5.out.put5 3 (.int .i64 (s3.f3 + 1)) { s3 with f2 := b.f0, f3 := s3.f3 + 1, f5 := s3.f5 || b.f2 } rfl rfl).putF b.f0⟩,
                  ⟨HRK.out _ _ HR5.out ((KeepsOthers.setCell _ _ _).trans (KeepsOthers.setCell _ _ _))⟩, ⟨by rw [decide_eq_false (Nat.succ_ne_zero i)]; exact HE.out⟩,
                  ⟨by have := HI.out.1; show (0 : Int) ≤ s3.f3 + 1; omega, by have := HI.out.2.1; show s3.f3 + 1 ≤ ((i + 1 : Nat) : Int); omega, HI.out.2.2, fun h => absurd h (Nat.succ_ne_zero i), fun _ => by have := HI.out.1; show 0 < s3.f3 + 1; omega, by have := HF.out; have := HU.out.1; omega, HU.out.2.2⟩⟩
              case measure =>
                have := HLT.out
                show l0.length - ((i : Int) + 1).toNat < l0.length - (i : Int).toNat
                omega
    · obtain rfl : i = l0.length := by omega
      have e0 := HEQ.out
      rw [List.drop_length] at e0
      have k3 : wr.cell? ⟨g5, 3, none⟩ = some (.int .i64 s.f3) := (blk_cell hst.b.b5 3).trans rfl
      by_cases hz : 0 < s.f3
      · have d1 : decide (0 < s.f3) = true := decide_eq_true hz
        rw [spRest, if_pos hz] at e0
        have E0 := Aside0.mk e0
        have k0 : wr.cell? ⟨g5, 0, none⟩ = some v := (blk_cell hst.b.b5 0).trans rfl
        have k1 : wr.cell? ⟨g5, 1, none⟩ = some (.int .i64 s.f1) := (blk_cell hst.b.b5 1).trans rfl
        have k2 : wr.cell? ⟨g5, 2, none⟩ = some (.int .i64 s.f2) := (blk_cell hst.b.b5 2).trans rfl
        have k4 : wr.cell? ⟨g5, 4, none⟩ = some (.bool s.f4) := (blk_cell hst.b.b5 4).trans rfl
        have k5 : wr.cell? ⟨g5, 5, none⟩ = some (.bool s.f5) := (blk_cell hst.b.b5 5).trans rfl
        obtain ⟨fn, tmps, assign, body, hy, hR⟩ := HY.out g5 fr s v O ov wr HRC.out hst (by have := HIN.out; have := HLN.out; omega)
        have HR := Aside0.mk hR
        clear hR hst e0 hz hlt
        go_upto_region 20 with (fail)
        refine (wpIn_wide (n := n0)).1 ?_
        gi_wp2
        refine ⟨fun h => by simp [Fence.wide] at h, HR.out.mono ?_⟩
        rintro e w3 ⟨rfl, hr3, ov', hb3, ho3, hbk⟩
        simp only []
        go_at_K
        gi_wp2
        go_end0
        rw [E0.out] at ho3
        exact ⟨⟨_, rfl⟩, hr3, g5, fr, s, v, ov', hb3, ho3⟩
      · have d1 : decide (0 < s.f3) = false := decide_eq_false hz
        rw [spRest, if_neg hz, List.append_nil] at e0
        have E0 := Aside0.mk e0
        clear hst e0 hz hlt
        go_wp2_with fail
        go_end0
        have hO := Kd.S_mono HST.out.hO (ok' := fun q => q ≠ g5) (fun k hk => hk.1)
        rw [E0.out] at hO
        exact ⟨⟨_, rfl⟩, HRC.out, g5, fr, s, v, ov, HST.out.b, hO⟩
theorem spUp_of (l : List S52) : ∀ (k : Nat) (fr : Int) (i : Nat), i ≤ l.length → l.length ≤ 4294967296 → split_Right.l0 k fr l (l.length : Int) (i : Int) = some true → spUp fr (l.drop i)
  | 0, fr, i, hi, hl, h => by simp [split_Right.l0] at h
  | k + 1, fr, i, hi, hl, h => by
    rw [split_Right.l0] at h
    by_cases hlt : i < l.length
    · have hd : l.drop i = rd_T52 l (i : Int) :: l.drop (i + 1) := by
        rw [List.drop_eq_getElem_cons hlt]
        congr 1
        show _ = l.getD (i : Int).toNat _
        simp [List.getD_eq_getElem?_getD, hlt]
      rw [if_pos (by omega), if_pos (by omega), if_pos (by omega)] at h
      by_cases h1 : (rd_T52 l (i : Int)).f0 < fr
      · rw [if_pos h1] at h
        cases h
      · rw [if_neg h1] at h
        by_cases h2 : (rd_T52 l (i : Int)).f0 > 1099511627776
        · rw [if_pos h2] at h
          cases h
        · rw [if_neg h2, show wrap64 ((i : Int) + 1) = ((i + 1 : Nat) : Int) by unfold wrap64; omega] at h
          rw [hd]
          exact ⟨by omega, by omega, spUp_of l k _ (i + 1) (by omega) hl h⟩
    · rw [List.drop_eq_nil_of_le (by omega)]
      trivial
def split_All.f (l0 : List S52) (a1_0 a1_1 a1_2 a1_3 : Int) (a2 : Int) : Option (List S37) := if l0.length ≤ 4294967296 then (clock_Right.f a1_0 a1_1 a1_2 a1_3).bind fun ok => if ok = true then (split_Right.f (l0.length + 1) l0 a2).bind fun ok2 => if ok2 = true then some (spRest a1_1 a1_2 true a2 z37 l0) else some [] else some [] else none
section
attribute [local go_sem] Oper.semAt_some
set_option maxHeartbeats 8000000 in
set_option maxRecDepth 100000 in
theorem split_All.calls (A0 : Option Addr) (c0 : Nat) (l0 : List S52) (a1_0 a1_1 a1_2 a1_3 : Int) (a2 : Int) (r : List S37) (w : World) (hr0 : Kd.C k52 w A0 l0.length l0) (hc0 : l0.length ≤ c0) (h : split_All.f l0 a1_0 a1_1 a1_2 a1_3 a2 = some r) :
    Calls Try.prog 10 #[.slice A0 l0.length c0, .agg #[.int .i64 a1_0, .int .i64 a1_1, .int .i64 a1_2, .int .i64 a1_3], .int .i64 a2] w fun e w' => ∃ v0_ : Value, e = .returned (v0_) ∧ Kd.S k37 37 w' w.heap.size (fun _ => True) v0_ r ∧ Below w.heap.size w w' := by
  have hu54 := Try.underlying24
  unfold split_All.f at h
  by_cases hlen : l0.length ≤ 4294967296
  case neg => rw [if_neg hlen] at h; cases h
  rw [if_pos hlen] at h
  obtain ⟨ok, hok, h⟩ := Option.bind_eq_some_iff.1 h
  have HC := Aside0.mk hr0
  have HC0 := Aside0.mk hc0
  have HLN := Aside0.mk hlen
  have HOK := Aside0.mk hok
  have H := Aside0.mk h
  clear hr0 hc0 hlen hok h
  refine (callsIn_wide (n := 5)).1 ?_
  refine callsIn_of_wp_marks Try.func10 rfl trivial ?_ rfl
  simp only [Try.ntmps10, List.size_toArray, List.length_cons, List.length_nil, Nat.reduceAdd, Nat.reduceSub, Array.replicate_succ, Array.replicate_zero, List.push_toArray, List.append_toArray, List.nil_append, List.cons_append]
  refine wpIn_wide.2 ?_
  go_upto_region 1 with (fail)
  have b1 : ((w.alloc (.cells #[.int .i64 a1_0, .int .i64 a1_1, .int .i64 a1_2, .int .i64 a1_3] 24 (0, 0))).alloc (.cells #[.slice none 0 0] 34 (0, 0))).heap[w.heap.size]? = some (.cells #[.int .i64 a1_0, .int .i64 a1_1, .int .i64 a1_2, .int .i64 a1_3] 24 (0, 0)) := blk_alloc (blk_new w _) _
  have b6 : ((w.alloc (.cells #[.int .i64 a1_0, .int .i64 a1_1, .int .i64 a1_2, .int .i64 a1_3] 24 (0, 0))).alloc (.cells #[.slice none 0 0] 34 (0, 0))).heap[w.heap.size + 1]? = some (.cells #[.slice none 0 0] 34 (0, 0)) := by
    have := blk_new (w.alloc (.cells #[.int .i64 a1_0, .int .i64 a1_1, .int .i64 a1_2, .int .i64 a1_3] 24 (0, 0))) (.cells #[.slice none 0 0] 34 (0, 0))
    rwa [World.size_alloc] at this
  have hB : Below w.heap.size w ((w.alloc (.cells #[.int .i64 a1_0, .int .i64 a1_1, .int .i64 a1_2, .int .i64 a1_3] 24 (0, 0))).alloc (.cells #[.slice none 0 0] 34 (0, 0))) := ((Below.refl _ w).alloc (Nat.le_refl _) _).alloc (by simp) _
  obtain ⟨W0, hW0⟩ : ∃ W0, ((w.alloc (.cells #[.int .i64 a1_0, .int .i64 a1_1, .int .i64 a1_2, .int .i64 a1_3] 24 (0, 0))).alloc (.cells #[.slice none 0 0] 34 (0, 0))) = W0 := ⟨_, rfl⟩
  rw [hW0] at b1 b6 hB ⊢
  obtain ⟨g6, hg6⟩ : ∃ g6, w.heap.size + 1 = g6 := ⟨_, rfl⟩
  have hg6' : w.heap.size ≤ g6 := by omega
  rw [hg6] at b6 ⊢
  obtain ⟨g1, hg1⟩ : ∃ g1, g1 = w.heap.size := ⟨_, rfl⟩
  rw [← hg1] at b1 ⊢
  have G6 := Aside0.mk hg6'
  clear hW0 hg6 hg6' hg1
  have B1 := Aside0.mk b1
  have B6 := Aside0.mk b6
  have HB := Aside0.mk hB
  have k0 : W0.cell? ⟨g1, 0, none⟩ = some (.int .i64 a1_0) := (blk_cell b1 0).trans rfl
  have k1 : W0.cell? ⟨g1, 1, none⟩ = some (.int .i64 a1_1) := (blk_cell b1 1).trans rfl
  have k2 : W0.cell? ⟨g1, 2, none⟩ = some (.int .i64 a1_2) := (blk_cell b1 2).trans rfl
  have k3 : W0.cell? ⟨g1, 3, none⟩ = some (.int .i64 a1_3) := (blk_cell b1 3).trans rfl
  clear b1 b6 hB
  go_wp2_with fail
  refine (clock_Right.calls _ _ _ _ ok _ HOK.out).mono ?_
  rintro e w1 ⟨rfl, hb1⟩
  have c1 := blk_below B1.out hb1
  have c6 := blk_below B6.out hb1
  have hB1 := HB.out.trans (hb1.mono HB.out.size)
  have C1 := Aside0.mk c1
  have C6 := Aside0.mk c6
  have HB1 := Aside0.mk hB1
  clear k0 k1 k2 k3 hb1 B1 B6 HB
  have z6 : w1.cell? ⟨g6, 0, none⟩ = some (.slice none 0 0) := (blk_cell c6 0).trans rfl
  have f6 : w1.frozen? ⟨g6, 0, none⟩ = false := blk_frozen c6 0
  clear c1 c6 hB1
  cases ok with
  | false =>
    have hr := H.out
    rw [if_neg (by decide)] at hr
    obtain rfl := Option.some.inj hr
    go_wp2_with fail
    exact ⟨_, results_slice rfl rfl Try.underlying34 ((blk_cell (blk_put C6.out 0 (.slice none 0 0) rfl) 0).trans rfl), .slice none 0 0, rfl, Kd.S_nil _ _ _ _ _, HB1.out.setCell G6.out _⟩
  | true =>
    have hr0 := H.out
    rw [if_pos rfl] at hr0
    obtain ⟨ok2, hok2, hr⟩ := Option.bind_eq_some_iff.1 hr0
    have HOK2 := Aside0.mk hok2
    have HR := Aside0.mk hr
    clear hr0 hok2 hr H
    go_wp2_with fail
    refine (split_Right.calls (l0.length + 1) A0 c0 l0 a2 ok2 w1 (Kd.C_below HC.out HB1.out) HC0.out HOK2.out).mono ?_
    rintro e w2 ⟨rfl, hb2⟩
    have c1 := blk_below C1.out hb2
    have c6 := blk_below C6.out hb2
    have hB2 := HB1.out.trans (hb2.mono HB1.out.size)
    have D1 := Aside0.mk c1
    have D6 := Aside0.mk c6
    have HB2 := Aside0.mk hB2
    clear hb2 C1 C6 HB1 z6 f6
    have z6 : w2.cell? ⟨g6, 0, none⟩ = some (.slice none 0 0) := (blk_cell c6 0).trans rfl
    have f6 : w2.frozen? ⟨g6, 0, none⟩ = false := blk_frozen c6 0
    have k0 : w2.cell? ⟨g1, 0, none⟩ = some (.int .i64 a1_0) := (blk_cell c1 0).trans rfl
    have k1 : w2.cell? ⟨g1, 1, none⟩ = some (.int .i64 a1_1) := (blk_cell c1 1).trans rfl
    have k2 : w2.cell? ⟨g1, 2, none⟩ = some (.int .i64 a1_2) := (blk_cell c1 2).trans rfl
    have k3 : w2.cell? ⟨g1, 3, none⟩ = some (.int .i64 a1_3) := (blk_cell c1 3).trans rfl
    clear c1 c6 hB2
    cases ok2 with
    | false =>
      have hr := HR.out
      rw [if_neg (by decide)] at hr
      obtain rfl := Option.some.inj hr
      go_wp2_with fail
      exact ⟨_, results_slice rfl rfl Try.underlying34 ((blk_cell (blk_put D6.out 0 (.slice none 0 0) rfl) 0).trans rfl), .slice none 0 0, rfl, Kd.S_nil _ _ _ _ _, HB2.out.setCell G6.out _⟩
    | true =>
      have hr := HR.out
      rw [if_pos rfl] at hr
      obtain rfl := Option.some.inj hr
      have hok0 := HOK2.out
      unfold split_Right.f at hok0
      obtain ⟨cl, hcl, hok2⟩ := Option.bind_eq_some_iff.1 hok0
      have hfr : 0 ≤ a2 := by
        by_cases he : cl = a2
        · subst he
          unfold clock_Clamp.f at hcl
          have := Option.some.inj hcl
          split at this
          · omega
          · omega
        · rw [if_neg he] at hok2
          cases hok2
      have hup : spUp a2 l0 := by
        by_cases he : cl = a2
        · rw [if_pos he] at hok2
          exact spUp_of l0 _ a2 0 (Nat.zero_le _) HLN.out hok2
        · rw [if_neg he] at hok2
          cases hok2
      have HF := Aside0.mk hfr
      have HUP := Aside0.mk hup
      clear hr hok0 hok2 hcl hfr hup HR HOK2
      go_wp2_with fail
      refine (each_calls A0 l0.length c0 a1_0 a1_1 a1_2 a1_3 a2 w2).mono ?_
      rintro e w3 ⟨rfl, hw3⟩
      have hs2 : w.heap.size ≤ w2.heap.size := HB2.out.size
      have q1 : w3.heap[w2.heap.size]? = some (.cells #[.slice A0 l0.length c0] 31 (0, 0)) := by
        rw [hw3]; exact blk_alloc (blk_alloc (blk_new w2 _) _) _
      have q2 : w3.heap[w2.heap.size + 1]? = some (.cells #[.int .i64 a1_0, .int .i64 a1_1, .int .i64 a1_2, .int .i64 a1_3] 24 (0, 0)) := by
        rw [hw3]
        have := blk_alloc (blk_new (w2.alloc (.cells #[.slice A0 l0.length c0] 31 (0, 0))) (.cells #[.int .i64 a1_0, .int .i64 a1_1, .int .i64 a1_2, .int .i64 a1_3] 24 (0, 0))) (.cells #[.int .i64 a2] 3 (0, 0))
        rwa [World.size_alloc] at this
      have q3 : w3.heap[w2.heap.size + 1 + 1]? = some (.cells #[.int .i64 a2] 3 (0, 0)) := by
        rw [hw3]
        have := blk_new ((w2.alloc (.cells #[.slice A0 l0.length c0] 31 (0, 0))).alloc (.cells #[.int .i64 a1_0, .int .i64 a1_1, .int .i64 a1_2, .int .i64 a1_3] 24 (0, 0))) (.cells #[.int .i64 a2] 3 (0, 0))
        rwa [World.size_alloc, World.size_alloc] at this
      have q6 : w3.heap[g6]? = some (.cells #[.slice none 0 0] 34 (0, 0)) := by
        rw [hw3]; exact blk_alloc (blk_alloc (blk_alloc D6.out _) _) _
      have q4 : Below w.heap.size w w3 := by
        rw [hw3]; exact ((HB2.out.alloc hs2 _).alloc (by simp; omega) _).alloc (by simp; omega) _
      obtain ⟨gL, hgL⟩ : ∃ gL, w2.heap.size = gL := ⟨_, rfl⟩
      obtain ⟨gT, hgT⟩ : ∃ gT, gL + 1 = gT := ⟨_, rfl⟩
      obtain ⟨gF, hgF⟩ : ∃ gF, gT + 1 = gF := ⟨_, rfl⟩
      have hle : w.heap.size ≤ gF := by omega
      rw [hgL] at q1 q2 q3 ⊢
      rw [hgT] at q2 q3 ⊢
      rw [hgF] at q3 ⊢
      have QL := Aside0.mk q1
      have QT := Aside0.mk q2
      have QF := Aside0.mk q3
      have Q6 := Aside0.mk q6
      have QB := Aside0.mk q4
      have HLE := Aside0.mk hle
      clear hw3 hs2 q1 q2 q3 q4 q6 hgL hgT hgF hle z6 f6 k0 k1 k2 k3 D1 D6 HB2
      go_upto_block 0 with (fail)
      refine (wpIn_wide (n := 5)).1 ?_
      gi_wp2_with fail
      refine rangeFunc_mine (gf := 42) (lb := #[.pointer (some ⟨gL, 0, none⟩), .pointer (some ⟨gF, 0, none⟩), .pointer (some ⟨gT, 0, none⟩)]) rfl (fun args W => enters_ (fn := Try.f42) (by kernel_rfl) (by kernel_rfl) rfl args W) (fun x : Value => #[x]) (fun _ => rfl)
        (fun B => ∃ ov', B.heap[g6]? = some (.cells #[ov'] 34 (0, 0)) ∧ Kd.S k37 37 B w.heap.size (fun _ => True) ov' (spRest a1_1 a1_2 true a2 z37 l0) ∧ Below w.heap.size w B) ?iter ?done
      case iter =>
        intro l D V1 Rec hD hl hsz hbl hRec hNon hKeep hRound
        have hB1 : Below w.heap.size w V1 := QB.out.trans (hbl.mono QB.out.size)
        have hle : w.heap.size ≤ l := by have := QB.out.size; omega
        refine (each1_calls (5 - 1) l w gL gT gF g6 A0 c0 l0 a1_0 a1_1 a1_2 a1_3 a2 Rec V1 (.slice none 0 0) HC.out HC0.out HLN.out HUP.out HF.out hRec hKeep ?hstart hB1 ((blk_cell (blk_below QL.out hbl) 0).trans rfl) ?hyield).mono ?_
        case hstart =>
          intro g5 W hg5 hgr h5 hb
          exact ⟨⟨blk_grown (blk_below QL.out hbl) hgr (by simp), blk_grown (blk_below QT.out hbl) hgr (by simp), blk_grown (blk_below QF.out hbl) hgr (by simp), h5, blk_grown (blk_below Q6.out hbl) hgr (by simp), ⟨HLE.out, by rw [hg5]; exact hB1.size, G6.out⟩, hb⟩, Kd.R_nil _ _ _ _ _, Kd.S_nil _ _ _ _ _⟩
        case hyield =>
          intro g5 fr s v O ov W hR hst hO
          obtain ⟨Av, cv, rfl⟩ := Kd.R_slice hst.hv
          obtain ⟨Ao, co, rfl⟩ := Kd.S_slice hst.hO
          obtain ⟨NV, hNV⟩ : ∃ NV, s.f0.length = NV := ⟨_, rfl⟩
          obtain ⟨NO, hNO⟩ : ∃ NO, O.length = NO := ⟨_, rfl⟩
          rw [hNV, hNO] at hst
          rw [hNO] at hO
          rw [hNV]
          refine hRound (.agg #[.slice Av NV cv, .int .i64 s.f1, .int .i64 s.f2, .int .i64 s.f3, .bool s.f4, .bool s.f5]) W _ hR ?_ ?_
          · rintro A B ⟨ov', hb, ho, hk⟩ hT
            exact ⟨ov', hb.turned hT hle, S_turned ho hT, fun k cs h => cells_turned hT (hk k cs h)⟩
          · unfold RoundGoes
            have HST := Aside0.mk hst
            have HO := Aside0.mk hO
            have HLL := Aside0.mk hle
            have HNO := Aside0.mk hNO
            clear hNV hNO hst hO hle hRound hKeep hNon hRec hbl hsz hl hD hR hB1
            gi_wp2
            refine ⟨KeepsOthers.alloc _ _, ?_⟩
            intro W₂ hT
            have st2 := (HST.out.alloc (.cells #[.slice Av NV cv, .int .i64 s.f1, .int .i64 s.f2, .int .i64 s.f3, .bool s.f4, .bool s.f5] 37 (0, 0))).turned hT HLL.out
            have bx := cells_turned hT (blk_new W (.cells #[.slice Av NV cv, .int .i64 s.f1, .int .i64 s.f2, .int .i64 s.f3, .bool s.f4, .bool s.f5] 37 (0, 0)))
            have hby : ∀ (k : Nat) (cs : Array Value), W.heap[k]? = some (.cells cs 52 (0, 0)) → W₂.heap[k]? = some (.cells cs 52 (0, 0)) := fun k cs h => cells_turned hT (blk_alloc h _)
            obtain ⟨gx, hgx⟩ : ∃ gx, W.heap.size = gx := ⟨_, rfl⟩
            rw [hgx] at bx ⊢
            have ST2 := Aside0.mk st2
            have HBY := Aside0.mk hby
            clear hT hgx HST hby
            have x0 : W₂.cell? ⟨gx, 0, none⟩ = some (.slice Av NV cv) := (blk_cell bx 0).trans rfl
            have x1 : W₂.cell? ⟨gx, 1, none⟩ = some (.int .i64 s.f1) := (blk_cell bx 1).trans rfl
            have x2 : W₂.cell? ⟨gx, 2, none⟩ = some (.int .i64 s.f2) := (blk_cell bx 2).trans rfl
            have x3 : W₂.cell? ⟨gx, 3, none⟩ = some (.int .i64 s.f3) := (blk_cell bx 3).trans rfl
            have x4 : W₂.cell? ⟨gx, 4, none⟩ = some (.bool s.f4) := (blk_cell bx 4).trans rfl
            have x5 : W₂.cell? ⟨gx, 5, none⟩ = some (.bool s.f5) := (blk_cell bx 5).trans rfl
            have z6 : W₂.cell? ⟨g6, 0, none⟩ = some (.slice Ao NO co) := (blk_cell st2.b.b6 0).trans rfl
            clear bx st2
            gi_wp2_with (gi_at_builtin; refine S_append_in k37 (w0 := w) w.heap.size rfl (.tmp 22) (.tmp 24) 34 37 (.agg #[.slice none 0 0, .int .i64 0, .int .i64 0, .int .i64 0, .bool false, .bool false]) 56 rfl Try.underlying34 (by kernel_rfl) rfl (by decide) (by omega) (.slice Ao NO co) O s [.slice Av NV cv, .int .i64 s.f1, .int .i64 s.f2, .int .i64 s.f3, .bool s.f4, .bool s.f5] (fun q => q ≠ g5) (fun k => some k = (Value.slice Av NV cv).ownBlock ∧ k ≠ g5 ∧ some k ≠ (Value.slice Ao NO co).ownBlock) rfl rfl ST2.out.row (fun _ h => h.2) (fun k hk => by have := blk_lt ST2.out.b.b5; omega) (Kd.S_mono ST2.out.hO (fun k hk => ⟨hk.1, fun h => hk.2 h.1⟩)) ST2.out.b.below ST2.out.b.below.size (by have h1 := HNO.out; have h2 := HO.out; omega) ?_; intro v1 w5 ho hb hg hat; obtain ⟨A1, c1, rfl⟩ := Kd.S_slice ho; obtain ⟨N1, hN1⟩ : ∃ N1, (O ++ [s]).length = N1 := ⟨_, rfl⟩; rw [hN1] at ho; have HRO := Aside0.mk ho; have HB5 := Aside0.mk hb; have HG5 := Aside0.mk hg; have y6 := blk_grown ST2.out.b.b6 hg (Kd.S_ne ST2.out.hO ST2.out.b.b6 (by decide)); have z6' : w5.cell? ⟨g6, 0, none⟩ = some (.slice Ao NO co) := (blk_cell y6 0).trans rfl; have f6' : w5.frozen? ⟨g6, 0, none⟩ = false := blk_frozen y6 0; rw [hN1]; clear ho hb hg hat hN1 y6)
            have hto := ST2.out.told HRO.out HB5.out HG5.out
            exact ⟨(KeepsOthers.of_grownBy HG5.out (fun j o hj hh => by obtain ⟨cells, hc⟩ := Kd.S_typed ST2.out.hO j hj; rw [hc] at hh; cases hh; rfl)).trans (KeepsOthers.setCell _ _ _), _, hto.1, hto.2.1, fun k cs hk => hto.2.2 k cs (HBY.out k cs hk)⟩
        · rintro e W' ⟨⟨v, rfl⟩, hr, g5, fr, s, vv, ov', hb, ho⟩
          exact ⟨⟨_, rfl⟩, hr, fun B hT => ⟨ov', cells_turned hT hb.b6, Kd.S_mono (S_turned ho hT) (fun _ _ => trivial), below_turned hT hb.below hb.below.size hle⟩⟩
      case done =>
        rintro D W hD ⟨ov', h6, ho, hb⟩ hK
        obtain ⟨A9, c9, rfl⟩ := Kd.S_slice ho
        obtain ⟨N9, hN9⟩ : ∃ N9, (spRest a1_1 a1_2 true a2 z37 l0).length = N9 := ⟨_, rfl⟩
        rw [hN9] at h6 ho
        clear hN9
        have z6 : W.cell? ⟨g6, 0, none⟩ = some (.slice A9 N9 c9) := (blk_cell h6 0).trans rfl
        have f6 : W.frozen? ⟨g6, 0, none⟩ = false := blk_frozen h6 0
        have HK := Aside0.mk hK
        have HO := Aside0.mk ho
        have H6 := Aside0.mk h6
        have HD := Aside0.mk hD
        have HBB := Aside0.mk hb
        clear hK ho h6 hD hb
        gi_wp2
        go_wp2_with fail
        have hW : Turned D (W.setCell ⟨g6, 0, none⟩ (.slice A9 N9 c9)) ((W.setCell ⟨g6, 0, none⟩ (.slice A9 N9 c9)).putObj D (.deferred none)) := ⟨_, _, (KeepsOthers.setCell W ⟨g6, 0, none⟩ (.slice A9 N9 c9)).same D _ HK.out rfl, rfl, rfl⟩
        have hle : w.heap.size ≤ D := by have := QB.out.size; have := HD.out; omega
        have hbb := HBB.out.setCell (p := ⟨g6, 0, none⟩) G6.out (.slice A9 N9 c9)
        refine ⟨by simp, .inl ⟨_, _, rfl, run_takeDeferred ((KeepsOthers.setCell W ⟨g6, 0, none⟩ (.slice A9 N9 c9)).same D _ HK.out rfl), ?_⟩⟩
        exact ⟨_, results_slice rfl rfl Try.underlying34 ((blk_cell (cells_turned hW (blk_put H6.out 0 (.slice A9 N9 c9) rfl)) 0).trans rfl), .slice A9 N9 c9, rfl, S_turned (Kd.S_set HO.out H6.out (by intro q hq; simp [k37, Kd.iso, Kd.pair, Kd.slice, Kd.int, Kd.bool, Kd.scalar] at hq; omega) 0 _) hW, below_turned hW hbb hbb.size hle⟩
end

end Go.Proofs.Ytgagdhgjdgaeaaa.PWireFaults

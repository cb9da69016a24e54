/- A range over a function whose iterator keeps state of its own in cells, and whose body goes on in every round: the law of one such loop, at the wide fence. By this session. -/
import Derived.Test.YtgagdhgjdgaeaaaMine
import Derived.RangeFuncNested
import Derived.RangeFuncBound
import Derived.RangeFuncCalls
import Derived.RangeFuncLeaves
import Derived.RangeFuncBox
import Derived.OwnWalkIn
import Derived.TacticsInMore
import Derived.LoopNIn
import Derived.LoopIn
import Derived.Maps.OwnIn
namespace Go.Proofs.YtgagdhgjdgaeaaaM
open Go.RowKit Go.Proofs.YtgagdhgjdgaeaaaW.PrintWords
/-- One block, that is no cells, has turned. -/
def Turned (l : Nat) (A B : World) : Prop := ∃ o o', A.heap[l]? = some o ∧ o.isCells = false ∧ B = A.putObj l o'
/-- What a round has to show. -/
def RoundGoes {α : Type} (P : Program) (n l : Nat) (ps : Array Tmp) (assign body : Code) (tmps : Array Value) (encs : α → Array Value) (x : α) (W : World) (R : World → Prop) : Prop :=
  assign.wpIn (Fence.wide.inRound l) n P (Exit.then (fun a₁ w₁ => KeepsOthers W w₁ ∧ ∀ W₂, Turned l w₁ W₂ → body.wpIn (Fence.wide.inRound l) n P (fun e _ W' => e = .normal ∧ KeepsOthers W₂ W' ∧ R W') a₁ W₂) (fun _ _ _ => False))
    { tmps := (ps.zip (encs x)).foldl (fun t (p, v) => t.setIfInBounds p v) tmps, defers := [] } W
theorem rangeFunc_mine {α : Type} {P : Program} {n : Nat} {g : Operand} {ps : Array Tmp} {assign body : Code} {Q : Exit → Act → World → Prop} {a : Act} {w : World} {gf : Nat} {lb : Array Value}
    (hg : a.eval g = .func (.func gf) #[] lb) (eg : ∀ args w, (callFunc gf args).run P w = .ok (.enter gf args) w) (encs : α → Array Value) (hps : ∀ x, (encs x).size = ps.size) (Fin : World → Prop)
    (hIter : ∀ (l D : Nat) (W1 : World) (Rec : World → Prop), D = w.heap.size → l = D + 1 → W1.heap.size = l + 1 → Below w.heap.size w W1 → Rec W1 → (∀ A, Rec A → ∃ o, A.heap[l]? = some o ∧ o.isCells = false) → (∀ A B, Rec A → KeepsOthers A B → Rec B) →
      (∀ (x : α) (W : World) (R : World → Prop), Rec W → (∀ A B, R A → Turned l A B → R B) → RoundGoes P (n - 1 - 1) l ps assign body a.tmps encs x W R →
        YieldAt Fence.wide (n - 1 - 1) P l (encs x) W fun e W' => e = .returned (.bool true) ∧ Rec W' ∧ R W') →
      CallsIn Fence.wide (n - 1) P gf (#[.func (.yield l) #[] #[]] ++ lb) W1 fun e W' => (∃ v, e = .returned v) ∧ Rec W' ∧ ∀ B, Turned l W' B → Fin B)
    (hdone : ∀ (D : Nat) (W : World), D = w.heap.size → Fin W → W.heap[D]? = some (.deferred (some [])) → Q .normal { a with defers := { target := .collected D, args := #[] } :: a.defers } W) :
    (Code.rangeFunc g ps assign body).wpIn Fence.wide n P Q a w := by
  refine wpIn_rangeFunc ?_
  intro fn hfn
  obtain ⟨rec, hrec⟩ : ∃ rec : LoopState → Option Code → Loop, rec = fun st pe => { state := st, pending := pe, fn, tmps := a.tmps, params := ps, assign, body, defers := w.heap.size } := ⟨_, rfl⟩
  obtain ⟨W1, hW1⟩ : ∃ W1, (w.alloc (.deferred (some []))).alloc (.loop (rec .ready none)) = W1 := ⟨_, rfl⟩
  have hL1 : W1.heap[w.heap.size + 1]? = some (.loop (rec .ready none)) := by
    rw [← hW1]; have := World.alloc_heap_new (w.alloc (.deferred (some []))) (.loop (rec .ready none)); rwa [World.size_alloc] at this
  have hK1 : W1.heap[w.heap.size]? = some (.deferred (some [])) := by
    rw [← hW1]; exact (Below.heap_alloc _ _ _ (by simp)).trans (World.alloc_heap_new w _)
  have hb1 : Below w.heap.size w W1 := by
    rw [← hW1]; exact ((Below.refl _ w).alloc (Nat.le_refl _) _).alloc (by simp) _
  have hs1 : W1.heap.size = w.heap.size + 1 + 1 := by rw [← hW1, World.size_alloc, World.size_alloc]
  refine ⟨w.heap.size + 1, [{ target := .collected w.heap.size, args := #[] }], W1, { target := .fn (.func gf) lb, args := #[.func (.yield (w.heap.size + 1)) #[] #[]] }, W1, gf,
    #[.func (.yield (w.heap.size + 1)) #[] #[]] ++ lb, W1, ?_, ?_, fun _ _ => trivial, ?_, fun h => by simp [Fence.wide] at h, ?_⟩
  · rw [← hW1, hrec]; exact run_enterLoop_outer _ _ _ _ _
  · simp only [resolve, hg]
    simp [go_sem]
  · simp [invoke, go_sem, eg]
  · obtain ⟨Rec, hRec⟩ : ∃ Rec : World → Prop, Rec = fun W => W.heap[w.heap.size + 1]? = some (.loop (rec .ready none)) ∧ W.heap[w.heap.size]? = some (.deferred (some [])) := ⟨_, rfl⟩
    refine (hIter (w.heap.size + 1) w.heap.size W1 Rec rfl rfl hs1 hb1 (by rw [hRec]; exact ⟨hL1, hK1⟩) (fun A h => by rw [hRec] at h; exact ⟨_, h.1, rfl⟩)
      (fun A B h k => by rw [hRec] at h ⊢; exact ⟨k.same _ _ h.1 rfl, k.same _ _ h.2 rfl⟩) ?_).mono ?_
    · intro x W R hR hstab hgo
      rw [hRec] at hR
      obtain ⟨hl, hk⟩ := hR
      have hy := run_yield (P := P) (args := encs x) hl (by rw [hrec]; exact hps x)
      rw [hrec] at hy
      refine ⟨fn, _, assign, body, hy, roundIn_of_wpIn hfn (wpIn_mono hgo ?_)⟩
      intro e a₁ w₁ he
      cases e with
      | normal =>
        obtain ⟨hk1, hb⟩ := he
        have hl1 := hk1.same _ _ hl rfl
        have hd1 := hk1.same _ _ hk rfl
        have hlt : w.heap.size + 1 < w₁.heap.size := (Array.getElem?_eq_some_iff.1 hl1).1
        refine ⟨_, run_beginRound hl1 (by rw [hrec]), ?_⟩
        have hl2 : (w₁.putObj (w.heap.size + 1) (.loop { rec .ready none with state := .busy })).heap[w.heap.size + 1]? = some (.loop { rec .ready none with state := .busy }) := World.putObj_heap_same hlt
        have hk2 : (w₁.putObj (w.heap.size + 1) (.loop { rec .ready none with state := .busy })).heap[w.heap.size]? = some (.deferred (some [])) := (World.putObj_heap_other (by omega)).trans hd1
        refine wpIn_mono (hb _ ⟨_, _, hl1, rfl, rfl⟩) ?_
        rintro e2 a3 W3 ⟨rfl, hk3, hR3⟩
        have hl3 := hk3.same _ _ hl2 rfl
        have hd3 := hk3.same _ _ hk2 rfl
        have hend := run_endRound (P := P) none hl3
        have hlt3 : w.heap.size + 1 < W3.heap.size := (Array.getElem?_eq_some_iff.1 hl3).1
        refine ⟨_, _, hend, rfl, ?_, hstab _ _ hR3 ⟨_, _, hl3, rfl, rfl⟩⟩
        rw [hRec]
        exact ⟨by rw [hrec]; exact World.putObj_heap_same hlt3, (World.putObj_heap_other (by omega)).trans hd3⟩
      | ret => exact he.elim
      | exit id => exact he.elim
      | goto t => exact he.elim
      | panic ch => exact he.elim
      | outgrown => exact he.elim
    · rintro e W2 ⟨⟨v, rfl⟩, hR, hF⟩
      rw [hRec] at hR
      obtain ⟨hl, hk⟩ := hR
      exact ⟨none, _, by have := run_endLoop (P := P) hl (by rw [hrec]; simp); rw [hrec] at this; exact this, hdone _ _ rfl (hF _ ⟨_, _, hl, rfl, rfl⟩) ((World.putObj_heap_other (by omega)).trans hk)⟩
section
variable {F : Fence} {m0 : Nat} {P : Program} {ops : Array Oper} {rest : List Oper} {o : Oper} {a : Act} {Q : Exit → Act → World → Prop} {α : Type}
/-- 'Kd.R_append' inside a fence (of a round). -/
theorem R_append_in (d : Kd α) {w0 W : World} (base : Nat) (hgd : o.guard = none) (s x : Operand) (t e : TypeId) (z : Value) (bytes : Nat)
    (ho : o.op = .call { callee := .builtin .append, args := #[s, x], argTypes := #[t, t] })
    (ht : P.underlying t = some (.slice e)) (hinfo : (P.info? e).map (fun i => (i.zero, i.size, i.bytes)) = some (some z, d.sz, bytes)) (hz : z.cells.size = d.sz) (hs0 : 0 < d.sz) (hb0 : 0 < bytes)
    (v : Value) (xs : List α) (p : α) (cs : List Value) (ok okp : Nat → Prop) (hs : a.eval s = v) (hx : a.eval x = .slice (some ⟨W.heap.size, 0, none⟩) 1 1) (hp : d.M W base okp p cs) (hokp : ∀ k, okp k → ok k ∧ some k ≠ v.ownBlock) (hfresh : ∀ k, W.heap.size ≤ k → ok k)
    (HO : d.R e W base ok v xs) (HB : Below base w0 W) (hbase : base ≤ W.heap.size) (hl : (xs.length + 1) * bytes ≤ 140737488355328)
    (h : ∀ v1 w1, d.R e w1 base ok v1 (xs ++ [p]) → Below base w0 w1 → W.grownBy w1 v.ownBlock → (v1.ownBlock = v.ownBlock ∨ ∃ b, v1.ownBlock = some b ∧ W.heap.size ≤ b) → wpListIn F m0 P ops Q rest (a.put o.dst v1) w1) :
    wpListIn F m0 P ops Q (o :: rest) a (W.alloc (.cells cs.toArray e)) := by
  obtain ⟨h0, inner, hown, hr⟩ := HO
  obtain ⟨i0, hi, hzz⟩ := Option.map_eq_some_iff.1 hinfo
  simp only [Prod.mk.injEq] at hzz
  obtain ⟨hz0, hz1, hz2⟩ := hzz
  have hys : cs.length = d.sz := d.K_len (d.K_of_M hp)
  have hlen : xs.length + 1 ≤ 140737488355328 := Nat.le_trans (Nat.le_mul_of_pos_right _ hb0) hl
  refine wpListIn_append_own_at (w := W.alloc (.cells cs.toArray e)) hgd s x t ho base e i0 z d.sz bytes ht hi hz0 hz1 hz2 hz hs0 v xs.length inner hs (hown.alloc _) ⟨W.heap.size, 0, none⟩ 1 1 cs hx (by rw [hys]; simp)
    (by simpa using World.news_of_block (cs := cs.toArray) (t := e) (fr := (0, 0)) (heap_alloc_new W (.cells cs.toArray e))) (d.K_one (d.K_of_M hp)) (by simp only [maxLen]; omega) hl (by simp; omega) ?_
  intro v1 w1 hown1 hg _ hat
  have hg1 : W.grownBy w1 v.ownBlock := World.grownBy.trans (World.grownBy_alloc W _ _) hg
  have hat1 : v1.ownBlock = v.ownBlock ∨ ∃ b, v1.ownBlock = some b ∧ W.heap.size ≤ b := by
    rcases hat with hat | hat
    · exact .inl hat
    · exact .inr ⟨_, hat, by simp⟩
  exact h v1 w1 (Kd.R_appended h0 hr hp hokp hfresh hown1 hg1 hat1) ((HB.alloc hbase _).grown hg (by simp; omega) (own_base hown)) hg1 hat1
end
section
variable {F : Fence} {m0 : Nat} {P : Program} {ops : Array Oper} {rest : List Oper} {o : Oper} {a : Act} {Q : Exit → Act → World → Prop} {α : Type}
/-- 'Kd.S_append' inside a fence (of a round). -/
theorem S_append_in (d : Kd α) {w0 W : World} (base : Nat) (hgd : o.guard = none) (s x : Operand) (t e : TypeId) (z : Value) (bytes : Nat)
    (ho : o.op = .call { callee := .builtin .append, args := #[s, x], argTypes := #[t, t] })
    (ht : P.underlying t = some (.slice e)) (hinfo : (P.info? e).map (fun i => (i.zero, i.size, i.bytes)) = some (some z, d.sz, bytes)) (hz : z.cells.size = d.sz) (hs0 : 0 < d.sz) (hb0 : 0 < bytes)
    (v : Value) (xs : List α) (p : α) (cs : List Value) (ok okp : Nat → Prop) (hs : a.eval s = v) (hx : a.eval x = .slice (some ⟨W.heap.size, 0, none⟩) 1 1) (hp : d.M W base okp p cs) (hokp : ∀ k, okp k → ok k ∧ some k ≠ v.ownBlock) (hfresh : ∀ k, W.heap.size ≤ k → ok k)
    (HO : Kd.S d e W base (fun k => ok k ∧ ¬ okp k) v xs) (HB : Below base w0 W) (hbase : base ≤ W.heap.size) (hl : (xs.length + 1) * bytes ≤ 140737488355328)
    (h : ∀ v1 w1, Kd.S d e w1 base ok v1 (xs ++ [p]) → Below base w0 w1 → W.grownBy w1 v.ownBlock → (v1.ownBlock = v.ownBlock ∨ ∃ b, v1.ownBlock = some b ∧ W.heap.size ≤ b) → wpListIn F m0 P ops Q rest (a.put o.dst v1) w1) :
    wpListIn F m0 P ops Q (o :: rest) a (W.alloc (.cells cs.toArray e)) := by
  obtain ⟨f, hf, hR⟩ := Kd.S_tag HO xs.length okp (fun _ hk h2 => h2.2 hk)
  refine R_append_in (Kd.tag f d) base hgd s x t e z bytes ho ht hinfo hz hs0 hb0 v xs.zipIdx (p, xs.length) cs ok okp hs hx (d.M_mono (fun k hk => ⟨hk, hf k hk⟩) hp) hokp hfresh (Kd.R_mono hR (fun _ hk => hk.1)) HB hbase (by rw [List.length_zipIdx]; exact hl) ?_
  intro v1 w1 hr
  rw [← Kd.zip_snoc] at hr
  exact h v1 w1 ⟨f, hr⟩
end
/-- A result that lies in a cell of its own: a slice. -/
theorem results_slice {P : Program} {fn : Func} {p : Tmp} {ty e : TypeId} {tmps : Array Value} {w : World} {g : Nat} {v : Value} (h : fn.results = #[.cell p ty]) (hp : tmps.getD p undef = .pointer (some ⟨g, 0, none⟩))
    (ht : P.underlying ty = some (.slice e)) (hc : w.cell? ⟨g, 0, none⟩ = some v) : (results fn tmps).run P w = .ok v w := by
  have hp' : tmps[p]?.getD undef = .pointer (some ⟨g, 0, none⟩) := by simpa using hp
  have hagg : (isAgg ty).run P w = .ok false w := by
    unfold isAgg
    rw [Sem.run_bind, run_underlying ht w]
    simp
  have hl : (loadVar ty ⟨g, 0, none⟩).run P w = .ok v w := by
    unfold loadVar
    rw [Sem.run_bind, hagg]
    simp only [Result.andThen_ok]
    rw [if_neg (by decide)]
    simp [hc]
  simp [results, h, hp', asAddr, hl]
/-- A row lies as it lay where a block that is no cells has turned. -/
theorem R_turned {α : Type} {d : Kd α} {e base l : Nat} {ok : Nat → Prop} {A B : World} {v : Value} {xs : List α} (h : d.R e A base ok v xs) (ht : Turned l A B) : d.R e B base ok v xs := by
  obtain ⟨o, o', hl, hc, rfl⟩ := ht
  refine Kd.R_mono (Kd.R_step (Kd.R_bound h) (fun k hk _ => ?_)) (fun k hk => hk.1)
  refine World.putObj_heap_other (fun e => ?_)
  obtain ⟨q, _, cells, hcl⟩ := hk.2.2.2
  rw [e, hl] at hcl
  cases hcl
  cases hc
theorem S_turned {α : Type} {d : Kd α} {e base l : Nat} {ok : Nat → Prop} {A B : World} {v : Value} {xs : List α} (h : Kd.S d e A base ok v xs) (ht : Turned l A B) : Kd.S d e B base ok v xs := by
  obtain ⟨f, h⟩ := h
  exact ⟨f, R_turned h ht⟩
theorem cells_turned {l : Nat} {A B : World} (ht : Turned l A B) {k t : Nat} {cs : Array Value} {f : Nat × Nat} (h : A.heap[k]? = some (.cells cs t f)) : B.heap[k]? = some (.cells cs t f) := by
  obtain ⟨o, o', hl, hc, rfl⟩ := ht
  refine (World.putObj_heap_other (fun e => ?_)).trans h
  rw [e, hl] at h
  cases h
  cases hc
theorem below_turned {l base : Nat} {w A B : World} (ht : Turned l A B) (h : Below base w A) (hb : base ≤ A.heap.size) (hle : base ≤ l) : Below base w B := by
  obtain ⟨o, o', hl, hc, rfl⟩ := ht
  exact h.grown (grownBy_putObj' A l o') hb (fun k e => by cases e; exact hle)
end Go.Proofs.YtgagdhgjdgaeaaaM

-- Written by a program of this session, in the form of the kit's print, some functions by hand (N.B. not a file of print.sh's).
import Derived.Test.YtballgciakljnaaPCharsFramesx0
import Derived.Test.YtballgciakljnaaPCharsFramesx1
import Derived.Test.YtballgciakljnaaPCharsFramesx2
namespace Go.Proofs.Ytballgciakljnaa.PCharsFrames
open Go.RowKit Go.Proofs.YtballgciakljnaaW.PrintWords Go.Proofs.YtballgciakljnaaW.PrintLast Go.Proofs.YtballgciakljnaaW.PrintMore Go.Proofs.YtballgciakljnaaM
attribute [local go_sem] max2_int min2_int max_two min_two max_three min_three max_four min_four   -- for this text's walks alone
set_option linter.unusedVariables false
set_option linter.unusedSimpArgs false

/-! ### chars_Taker_does: function 84 (by hand) -/
set_option maxRecDepth 100000 in
theorem begins_calls (w0 w : World) (g : Nat) (v : Value) (s : Tk) (b : Int) (h : Ct w w0.heap.size g v s) (hB : Below w0.heap.size w0 w) (hl : 0 ≤ s.lost ∧ s.lost < 1099511627776) :
    Calls Try.prog 145 #[.pointer (some ⟨g, 0, none⟩), .int .u8 b] w fun e w' => e = .returned (.tuple #[]) ∧ ∃ v', Tp w0 w w' g v v' { offF s with hl := [b] } := by
  have HC := Aside0.mk (off_calls w0 w g v s h hB hl)
  clear h hB hl
  go_enter Try.func145, Try.ntmps145
  go_wp2_with fail
  refine HC.out.mono ?_
  rintro e w1 ⟨rfl, v1, h1⟩
  have H1 := Aside0.mk h1
  have h3 : w1.cell? ⟨g, 3, none⟩ = some v1 := h1.ct.cell 3
  have f3 := h1.ct.fr 3
  have hlt : g < w1.heap.size := blk_lt h1.ct.1
  clear h1 HC
  go_wp2_with ((with_reducible refine gate_dst (N := 8) rfl ?_); refine Kd.R_lit (Kd.int .u8) (w0 := w0) w0.heap.size 5 ?hg (N := 8) ?hd (xs := ([b] : List Int)) (inner := [.int .u8 b]) (ok := fun _ => True) (okp := fun _ => True) ?hr ?hp (fun _ hk => hk) trivial H1.out.below H1.out.below.size (by simp) ?_; (case hd => rfl); (case hg => rfl); (case hr => first | (go_simp; done) | (go_simp; rfl)); (case hp => exact (Reps.one (show Kd.M (Kd.int .u8) _ _ _ b [.int .u8 b] from rfl) (Reps.none _ _))); intro v2 w2 ho hb hg_ hnew_; obtain ⟨A2, c2, rfl⟩ := Kd.R_slice ho; have HO := Aside0.mk ho; have HB2 := Aside0.mk hb; have HG2 := Aside0.mk hg_; have HN2 := Aside0.mk hnew_; have k3 : w2.cell? ⟨g, 3, none⟩ = some v1 := (cell_grown hg_ h3 (by simp)); have fz3 : w2.frozen? ⟨g, 3, none⟩ = false := blk_frozen ((hg_.block g hlt (by simp)).trans H1.out.ct.1) 3; clear ho hb hg_ hnew_)
  go_end0
  have hb2 : w2.heap[g]? = some (.cells _ _ _) := (HG2.out.block g hlt (by simp)).trans H1.out.ct.1
  have hc2 : Ct w2 w0.heap.size g v1 (offF s) := ⟨hb2, Kd.R_grown H1.out.ct.2.1 HG2.out (fun k _ => by simp), H1.out.ct.2.2⟩
  have ht2 : Tp w0 w1 w2 g v1 v1 (offF s) := ⟨hc2, HB2.out, ⟨HG2.out.size, fun i hi _ => HG2.out.block i hi (by simp)⟩, fun k hk => .inl hk.symm⟩
  have hfr : ∀ k, (Value.slice A2 [b].length c2).ownBlock = some k → some k = v1.ownBlock ∨ w1.heap.size ≤ k := fun k hk => by
    obtain ⟨q, h1, h2⟩ := HN2.out
    rw [h1] at hk; cases hk; exact .inr h2
  exact ⟨rfl, _, H1.out.trans (ht2.set 3 _ (hc2.put_hl HO.out) hfr)⟩
set_option maxRecDepth 100000 in
theorem goes_calls (w0 w : World) (g : Nat) (v : Value) (s : Tk) (b : Int) (h : Ct w w0.heap.size g v s) (hB : Below w0.heap.size w0 w) (hl : s.hl.length < 1000000) :
    Calls Try.prog 147 #[.pointer (some ⟨g, 0, none⟩), .int .u8 b] w fun e w' => e = .returned (.tuple #[]) ∧ ∃ v', Tp w0 w w' g v v' { s with hl := s.hl ++ [b] } := by
  obtain ⟨A, c, rfl⟩ := Kd.R_slice h.2.1
  obtain ⟨LL, hLL⟩ : ∃ LL, LL = s.hl := ⟨_, rfl⟩
  have H := Aside0.mk h
  have HB := Aside0.mk hB
  have h3 : w.cell? ⟨g, 3, none⟩ = some (.slice A s.hl.length c) := h.cell 3
  have hlt : g < w.heap.size := blk_lt h.1
  have hne : some g ≠ (Value.slice A s.hl.length c).ownBlock := by
    intro e
    obtain ⟨cells, hc⟩ := Kd.R_typed h.2.1 g e.symm
    have h2 := h.1
    rw [hc] at h2
    cases h2
  have HNE := Aside0.mk hne
  clear h hB hne
  go_enter Try.func147, Try.ntmps147
  go_wp2_with ((with_reducible refine gate_builtin (b := .append) (xs := #[.tmp 8, .tmp 10]) rfl ?_); at_builtin; refine Kd.R_append (Kd.int .u8) (w0 := w0) w0.heap.size rfl (.tmp 8) (.tmp 10) 23 5 (.int .u8 0) 1 rfl Try.underlying23 (by kernel_rfl) rfl (by decide) (by omega) (.slice A s.hl.length c) s.hl b [.int .u8 b] (fun _ => True) (fun _ => False) rfl rfl rfl (fun _ hk => hk.elim) (fun _ _ => trivial) H.out.2.1 HB.out HB.out.size (by omega) ?_; intro v2 w2 ho hb hg_ hat_; obtain ⟨A2, c2, rfl⟩ := Kd.R_slice ho; have HO := Aside0.mk ho; have HB2 := Aside0.mk hb; have HG2 := Aside0.mk hg_; have HN2 := Aside0.mk hat_; have k3 : w2.cell? ⟨g, 3, none⟩ = some (.slice A s.hl.length c) := (cell_grown hg_ h3 HNE.out); have fz3 : w2.frozen? ⟨g, 3, none⟩ = false := blk_frozen ((hg_.block g hlt HNE.out).trans H.out.1) 3; clear ho hb hg_ hat_)
  go_end0
  have hb2 := (HG2.out.block g hlt HNE.out).trans H.out.1
  have hk2 : Kept w w2 (Fr g (.slice A s.hl.length c)) := ⟨HG2.out.size, fun i hi hn => HG2.out.block i hi (fun e => hn (.inr e))⟩
  have hlen : (s.hl ++ [b]).length = s.hl.length + 1 := by simp
  have HO' := HO.out
  have HN' := HN2.out
  rw [hlen] at HO' HN'
  have hfr : ∀ k, (Value.slice A2 (s.hl.length + 1) c2).ownBlock = some k → some k = (Value.slice A s.hl.length c).ownBlock ∨ w.heap.size ≤ k := fun k hk => by
    rcases HN' with h1 | ⟨q, h1, h2⟩
    · exact .inl (by rw [← h1, hk])
    · rw [h1] at hk; cases hk; exact .inr h2
  refine ⟨rfl, _, ⟨⟨blk_put hb2 3 _ rfl, ?_, H.out.2.2⟩, HB2.out.setCell H.out.2.2 _, hk2.setCell (.inl (.inl rfl)) _, hfr⟩⟩
  exact Kd.R_set HO' hb2 (by intro q hq; simp [Kd.int, Kd.scalar] at hq; omega) 3 _
def doN (s : Tk) (b : Int) : Nat := if b = 58 then 145 else if s.hl = [] then 146 else 147
set_option maxRecDepth 100000 in
theorem does_calls (B g : Nat) (v : Value) (s : Tk) (b : Int) (w : World) (h : Ct w B g v s) : Calls Try.prog 84 #[.pointer (some ⟨g, 0, none⟩), .int .u8 b] w fun e w' => e = .returned (.func (.func (doN s b)) #[] #[]) ∧ Drawn0 w w' := by
  obtain ⟨A, c, rfl⟩ := Kd.R_slice h.2.1
  have h3 : w.cell? ⟨g, 3, none⟩ = some (.slice A s.hl.length c) := h.cell 3
  unfold doN
  clear h
  by_cases hb : b = 58
  · subst hb
    rw [if_pos rfl]
    go_enter Try.func84, Try.ntmps84
    go_wp2
    go_ret
    exact ⟨rfl, Drawn0.refl _⟩
  · rw [if_neg hb]
    have d1 : (b == 58) = false := beq_eq_false_iff_ne.2 hb
    by_cases hz : s.hl = []
    · rw [if_pos hz]
      have d2 : ((s.hl.length : Int) == 0) = true := by rw [hz]; rfl
      clear hb hz
      go_enter Try.func84, Try.ntmps84
      go_wp2
      go_ret
      exact ⟨rfl, Drawn0.refl _⟩
    · rw [if_neg hz]
      have hp : 0 < s.hl.length := List.length_pos_iff.2 hz
      have d2 : ((s.hl.length : Int) == 0) = false := beq_eq_false_iff_ne.2 (by omega)
      clear hb hz hp
      go_enter Try.func84, Try.ntmps84
      go_wp2
      go_ret
      exact ⟨rfl, Drawn0.refl _⟩
theorem do_enters (s : Tk) (b : Int) (args : Array Value) (W : World) : (callFunc (doN s b) args).run Try.prog W = .ok (.enter (doN s b) args) W := by
  unfold doN
  split
  · exact enters_ (fn := Try.f145) (by kernel_rfl) (by kernel_rfl) rfl args W
  · split
    · exact enters_ (fn := Try.f146) (by kernel_rfl) (by kernel_rfl) rfl args W
    · exact enters_ (fn := Try.f147) (by kernel_rfl) (by kernel_rfl) rfl args W
set_option maxRecDepth 100000 in
theorem do_calls (w0 w : World) (g : Nat) (v : Value) (s : Tk) (b : Int) (h : Ct w w0.heap.size g v s) (hB : Below w0.heap.size w0 w) (hl : 0 ≤ s.lost ∧ s.lost < 1099511627776) (hh : s.hl.length < 1000000) :
    Calls Try.prog (doN s b) #[.pointer (some ⟨g, 0, none⟩), .int .u8 b] w fun e w' => e = .returned (.tuple #[]) ∧ ∃ v', Tp w0 w w' g v v' (doF s b) := by
  unfold doN doF
  by_cases hb : b = 58
  · rw [if_pos hb, if_pos hb]
    exact begins_calls w0 w g v s b h hB hl
  · rw [if_neg hb, if_neg hb]
    by_cases hz : s.hl = []
    · rw [if_pos hz, if_pos hz]
      have HT := Aside0.mk (Tp.refl h hB)
      clear h hB hl hh hb hz
      go_enter Try.func146, Try.ntmps146
      go_wp2
      go_end0
      exact ⟨rfl, _, HT.out⟩
    · rw [if_neg hz, if_neg hz]
      exact goes_calls w0 w g v s b h hB hh

end Go.Proofs.Ytballgciakljnaa.PCharsFrames

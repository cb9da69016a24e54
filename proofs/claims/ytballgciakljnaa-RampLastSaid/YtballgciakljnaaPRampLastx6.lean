-- Written by a program of this session, in the form of the kit's print, some functions by hand (N.B. not a file of print.sh's).
import Derived.Test.YtballgciakljnaaPRampLastx0
import Derived.Test.YtballgciakljnaaPRampLastx3
namespace Go.Proofs.Ytballgciakljnaa.PRampLast
open Go.RowKit Go.Proofs.YtballgciakljnaaW.PrintWords Go.Proofs.YtballgciakljnaaW.PrintLast Go.Proofs.YtballgciakljnaaW.PrintMore Go.Proofs.YtballgciakljnaaM
attribute [local go_sem] max2_int min2_int max_two min_two max_three min_three max_four min_four   -- for this text's walks alone
set_option linter.unusedVariables false
set_option linter.unusedSimpArgs false

/-! ### heap_up: function 163 (by hand) -/
def nvals (r : Rp) (i k : Int) : Array Value := #[.bool r.wo, .int .i64 r.pl, .int .i64 r.fr, .int .i64 r.st, .int .i64 r.tt, .int .i64 r.fi, .int .i64 r.ev, .bool r.ag, .int .i64 i, .int .i64 k]
def atF (r : Rp) (k : Int) : Int := r.fi + k * r.ev
def evV (r : Rp) (k : Int) : Value := .agg #[.int .i64 (if r.wo = true then 3 else 2), .int .i64 (r.fi + k * r.ev), .int .u8 0, .bool false, .int .i64 r.pl, .int .i64 (valF r k)]
theorem at_bd (r : Rp) (h : r.Ok) (k : Int) (hk : 0 ≤ k ∧ k ≤ 1000001) : 0 ≤ k * r.ev ∧ k * r.ev ≤ 1000001000000 := by
  have h6 := h.2.2.2.2.2
  refine ⟨Int.mul_nonneg hk.1 (by omega), Int.le_trans (Int.mul_le_mul_of_nonneg_right hk.2 (by omega)) ?_⟩
  omega
theorem ev_stored {U : World} {b t : Nat} {c0 c1 c2 c3 c4 c5 : Value} (v0 v1 v2 v3 v4 v5 : Value) (h : U.heap[b]? = some (.cells #[c0, c1, c2, c3, c4, c5] t (0, 0))) :
    ((((((U.setCell ⟨b, 0, none⟩ v0).setCell ⟨b, 1, none⟩ v1).setCell ⟨b, 2, none⟩ v2).setCell ⟨b, 3, none⟩ v3).setCell ⟨b, 4, none⟩ v4).setCell ⟨b, 5, none⟩ v5).heap[b]? = some (.cells #[v0, v1, v2, v3, v4, v5] t (0, 0)) ∧
    (∀ k, k ≠ b → ((((((U.setCell ⟨b, 0, none⟩ v0).setCell ⟨b, 1, none⟩ v1).setCell ⟨b, 2, none⟩ v2).setCell ⟨b, 3, none⟩ v3).setCell ⟨b, 4, none⟩ v4).setCell ⟨b, 5, none⟩ v5).heap[k]? = U.heap[k]?) ∧
    (∀ (B : Nat) (W : World), Below B W U → B ≤ b → Below B W ((((((U.setCell ⟨b, 0, none⟩ v0).setCell ⟨b, 1, none⟩ v1).setCell ⟨b, 2, none⟩ v2).setCell ⟨b, 3, none⟩ v3).setCell ⟨b, 4, none⟩ v4).setCell ⟨b, 5, none⟩ v5)) := by
  have far : ∀ (X : World) (j : Nat) (u : Value) (k : Nat), k ≠ b → (X.setCell ⟨b, j, none⟩ u).heap[k]? = X.heap[k]? := fun X j u k hk => Below.heap_setCell X ⟨b, j, none⟩ u k hk
  refine ⟨?_, fun k hk => ?_, fun B W hB hle => ?_⟩
  · exact blk_put (blk_put (blk_put (blk_put (blk_put (blk_put h 0 v0 rfl) 1 v1 rfl) 2 v2 rfl) 3 v3 rfl) 4 v4 rfl) 5 v5 rfl
  · rw [far _ _ _ k hk, far _ _ _ k hk, far _ _ _ k hk, far _ _ _ k hk, far _ _ _ k hk, far _ _ _ k hk]
  · exact (((((hB.setCell hle _).setCell hle _).setCell hle _).setCell hle _).setCell hle _).setCell hle _
set_option maxRecDepth 100000 in
theorem at_calls (gn : Nat) (r : Rp) (i k : Int) (w : World) (h : w.heap[gn]? = some (.cells (nvals r i k) 203 (0, 0))) (hok : r.Ok) (hk : 0 ≤ k ∧ k ≤ 1000001) :
    Calls Try.prog 118 #[.pointer (some ⟨gn, 0, none⟩)] w fun e w' => e = .returned (.int .i64 (r.fi + k * r.ev)) ∧ Drawn0 w w' := by
  have x5 : w.cell? ⟨gn, 5, none⟩ = some (.int .i64 r.fi) := (blk_cell h 5).trans rfl
  have x6 : w.cell? ⟨gn, 6, none⟩ = some (.int .i64 r.ev) := (blk_cell h 6).trans rfl
  have x9 : w.cell? ⟨gn, 9, none⟩ = some (.int .i64 k) := (blk_cell h 9).trans rfl
  have hb := at_bd r hok k hk
  have h5 := hok.2.2.2.2.1
  have w1 : IntKind.i64.wrap (k * r.ev) = k * r.ev := by rw [i64_w]; unfold wrap64; omega
  have w2 : IntKind.i64.wrap (r.fi + k * r.ev) = r.fi + k * r.ev := by rw [i64_w]; unfold wrap64; omega
  clear h hok hk hb h5
  go_enter Try.func118, Try.ntmps118
  go_wp2
  go_quiet (fail)
  go_wp2
  go_ret
  exact ⟨rfl, ⟨⟨_, rfl⟩⟩⟩
/-- The heap's cell, and its one element's row. -/
def HAt (w : World) (gh : Nat) (hv : Value) : Prop := w.heap[gh]? = some (.cells #[hv] 198 (0, 0))
theorem HAt.meth {w : World} {gh : Nat} {hv : Value} (h : HAt w gh hv) {name : String} {f : Nat} (hm : (Try.prog.info? 200).bind (fun ti => (ti.methods.find? (·.name == name)).map fun m => (m.path, m.func)) = some (#[], some (f, false))) (n : Nat) :
    (method (n + 1) 200 (.pointer (some ⟨gh, 0, none⟩)) name).run Try.prog w = .ok (f, hv) w :=
  meth_val hm Try.underlying200 Try.underlying198 ((blk_cell h 0).trans rfl) n
theorem pmeth (w : World) (a : Addr) {name : String} {f : Nat} (hm : (Try.prog.info? 200).bind (fun ti => (ti.methods.find? (·.name == name)).map fun m => (m.path, m.func)) = some (#[], some (f, true))) (n : Nat) :
    (method (n + 1) 200 (.pointer (some a)) name).run Try.prog w = .ok (f, .pointer (some a)) w := meth_ptr hm Try.underlying200 n
set_option maxRecDepth 100000 in
theorem hlen_calls (A : Option Addr) (n c : Nat) (w : World) : Calls Try.prog 209 #[.slice A n c] w fun e w' => e = .returned (.int .i64 (n : Int)) ∧ w' = w := by
  go_enter Try.func209, Try.ntmps209
  go_wp2
  go_ret
  exact ⟨rfl, rfl⟩
set_option maxRecDepth 100000 in
theorem up_calls (v : Value) (w : World) : Calls Try.prog 163 #[v, .int .i64 0] w fun e w' => e = .returned (.tuple #[]) ∧ w' = w := by
  go_enter Try.func163, Try.ntmps163
  go_wp2
  go_loopw [1] (fun v1 wr => v1 = .int .i64 0 ∧ w = wr) (fun _ _ => 0)
  case atStart => exact ⟨rfl, rfl⟩
  case round =>
    obtain ⟨rfl, hw⟩ := hrel
    subst hw
    go_wp2
    go_end0
    exact ⟨rfl, rfl⟩

/-! ### heap_Push: function 117 (by hand) -/
/-- A heap of one. -/
def OneH (w : World) (gh gn gr c : Nat) : Prop := HAt w gh (.slice (some ⟨gr, 0, none⟩) 1 c) ∧ (∃ cs, w.heap[gr]? = some (.cells cs 201 (0, 0)) ∧ cs[0]? = some (.pointer (some ⟨gn, 0, none⟩))) ∧ 1 ≤ c
def Pushed (w0 w w' : World) (gh gn : Nat) : Prop := ∃ gr c, OneH w' gh gn gr c ∧ w.heap.size ≤ gr ∧ Below w0.heap.size w0 w' ∧ Kept w w' (fun k => k = gh)
def Kp : Kd Addr := Kd.scalar (fun a => Value.pointer (some a)) (fun _ => rfl)
set_option maxRecDepth 100000 in
theorem hpush_calls (w0 w : World) (gh gn : Nat) (h : HAt w gh (.slice none 0 0)) (hB : Below w0.heap.size w0 w) (hgh : w0.heap.size ≤ gh) :
    Calls Try.prog 213 #[.pointer (some ⟨gh, 0, none⟩), .iface 201 (.pointer (some ⟨gn, 0, none⟩))] w fun e w' => e = .returned (.tuple #[]) ∧ Pushed w0 w w' gh gn := by
  have H := Aside0.mk h
  have HB := Aside0.mk hB
  have HGH := Aside0.mk hgh
  have HH : Aside0 (w.heap[gh]? = some (.cells #[.slice none 0 0] 198 (0, 0))) := ⟨h⟩
  clear h hB hgh
  have hta : ∀ (U : World), (Instr.typeAssert (.iface 201 (.pointer (some ⟨gn, 0, none⟩))) 20 201 false).run Try.prog U = .ok (.pointer (some ⟨gn, 0, none⟩)) U := fun U => by kernel_rfl
  go_enter Try.func213, Try.ntmps213
  go_wp2
  refine start_ (n := 10) (S := fun U => HAt U gh (.slice none 0 0) ∧ Below w0.heap.size w0 U ∧ Kept w U (fun k => k = gh)) (ds := [9]) #[false, false, false, false, false, false, false, false, false, false] (by kernel_rfl) rfl rfl ⟨H.out, below_drew1 HB.out, ⟨Nat.le_refl _, fun _ _ _ => rfl⟩⟩ (fun hHeld => ?_)
  refine pure_ (i := 0) (N := (some 4)) (v := ?_) (a' := ?_) #[true, false, false, false, false, false, false, false, false, false] rfl rfl (by kernel_rfl) (fun _ _ _ h => h) (Or.inl ⟨by rfl, ?_⟩) ?_ ?_
  rotate_left
  · intro w'
    go_simp
    with_reducible rfl
  rotate_left
  · simp only [Act.put, List.setIfInBounds_toArray, List.set_cons_zero, List.set_cons_succ, i64_w, i32_w]
    rfl
  refine pure_ (i := 1) (N := (some 5)) (v := ?_) (a' := ?_) #[true, true, false, false, false, false, false, false, false, false] rfl rfl (by kernel_rfl) (fun _ _ _ h => h) (Or.inl ⟨by rfl, ?_⟩) ?_ ?_
  rotate_left
  · intro w'
    go_simp
    with_reducible rfl
  rotate_left
  · simp only [Act.put, List.setIfInBounds_toArray, List.set_cons_zero, List.set_cons_succ, i64_w, i32_w]
    rfl
  refine pure_ (i := 2) (N := (some 6)) (v := ?_) (a' := ?_) #[true, true, true, false, false, false, false, false, false, false] rfl rfl (by kernel_rfl) (fun _ _ _ h => h) (Or.inl ⟨by rfl, ?_⟩) ?_ ?_
  rotate_left
  · intro w'
    go_simp
    with_reducible rfl
  rotate_left
  · simp only [Act.put, List.setIfInBounds_toArray, List.set_cons_zero, List.set_cons_succ, i64_w, i32_w]
    rfl
  refine pure_ (i := 4) (N := (some 8)) (v := ?_) (a' := ?_) #[true, true, true, false, true, false, false, false, false, false] rfl rfl (by kernel_rfl) (fun _ _ _ h => h) (Or.inl ⟨by rfl, ?_⟩) ?_ ?_
  rotate_left
  · intro w'
    go_simp
    with_reducible rfl
  rotate_left
  · simp only [Act.put, List.setIfInBounds_toArray, List.set_cons_zero, List.set_cons_succ, i64_w, i32_w]
    rfl
  refine pure_ (i := 5) (N := (some 9)) (v := ?_) (a' := ?_) #[true, true, true, false, true, true, false, false, false, false] rfl rfl (by kernel_rfl) (fun _ _ _ h => h) (Or.inl ⟨by rfl, ?_⟩) ?_ ?_
  rotate_left
  · intro w'
    go_simp
    with_reducible rfl
  rotate_left
  · simp only [Act.put, List.setIfInBounds_toArray, List.set_cons_zero, List.set_cons_succ, i64_w, i32_w]
    rfl
  refine take_ (i := 3) (N := (some 7)) (v := ?_) (a' := ?_) #[true, true, true, true, true, true, false, false, false, false] rfl rfl (by kernel_rfl) (fun _ _ _ h => h) (Or.inl ⟨by rfl, ?_⟩) hHeld ?_ ?_
  rotate_left
  · intro w' s0
    have y0 : w'.cell? ⟨gh, 0, none⟩ = some (.slice none 0 0) := (blk_cell s0.1 0).trans rfl
    go_simp
    with_reducible rfl
  rotate_left
  · simp only [Act.put, List.setIfInBounds_toArray, List.set_cons_zero, List.set_cons_succ, i64_w, i32_w]
    rfl
  refine one_ (i := 6) (N := (some 10)) #[true, true, true, true, true, true, true, false, false, false] rfl rfl (by kernel_rfl) (by decide) (fun K hK => ?_)
  refine value_ (w1 := w.drew.alloc (Obj.cells #[.pointer (some ⟨gn, 0, none⟩)] 201)) (v := .slice (some ⟨w.drew.heap.size, 0, none⟩) 1 1) (by rfl) rfl ?_ ?_
  · first | (go_simp; done) | (go_simp; rfl)
  refine hK.out _ _ ⟨blk_alloc hHeld.1 _, hHeld.2.1.alloc hHeld.2.1.size _, hHeld.2.2.alloc _⟩ (fun hH2 => ?_)
  simp only [Act.put, List.setIfInBounds_toArray, List.set_cons_zero, List.set_cons_succ]
  clear hK K
  refine one_ (i := 7) (N := (some 11)) #[true, true, true, true, true, true, true, true, false, false] rfl rfl (by kernel_rfl) (by decide) (fun K hK => ?_)
  refine Kd.R_append_step Kp (w0 := w0) (W := w.drew) w0.heap.size (by rfl) (.tmp 7) (.tmp 10) 198 201 (.pointer none) 8 rfl Try.underlying198 (by kernel_rfl) rfl (by decide) (by omega) (.slice none 0 0) [] ⟨gn, 0, none⟩ [.pointer (some ⟨gn, 0, none⟩)] (fun k => w.heap.size ≤ k) (fun _ => False) rfl rfl rfl (fun _ h => h.elim) (fun _ h => h) (Kd.R_nil _ _ _ _ _) hHeld.2.1 hHeld.2.1.size (by simp) ?_
  intro v1 w1 ho hb hg hat
  have hh1 : HAt w1 gh (.slice none 0 0) := (hg.block gh (blk_lt hHeld.1) (by simp [Value.ownBlock])).trans hHeld.1
  have hk1 : Kept w w1 (fun k => k = gh) := ⟨Nat.le_trans hHeld.2.2.1 hg.size, fun k hk _ => hg.block k hk (by simp [Value.ownBlock])⟩
  refine hK.out _ _ ⟨hh1, hb, hk1⟩ (fun hH3 => ?_)
  simp only [Act.put, List.setIfInBounds_toArray, List.set_cons_zero, List.set_cons_succ]
  clear hK K
  obtain ⟨gr, c, rfl, hgr, hlt, hcs⟩ := Kd.R_form ho (by simp)
  have hx := (Kd.R_celln (⟨0, 0, none⟩ : Addr) ho 0 (by omega) (by simp)).1
  have hcap := (Kd.R_reads' ho).2.1
  have hfr := ho.1 gr rfl
  refine pure_ (i := 8) (N := (some 12)) (v := ?_) (a' := ?_) #[true, true, true, true, true, true, true, true, true, false] rfl rfl (by kernel_rfl) (fun _ _ _ h => h) (Or.inl ⟨by rfl, ?_⟩) ?_ ?_
  rotate_left
  · intro w'
    go_simp
    with_reducible rfl
  rotate_left
  · simp only [Act.put, List.setIfInBounds_toArray, List.set_cons_zero, List.set_cons_succ, i64_w, i32_w]
    rfl
  refine last_ (i := 9) (N := none) #[true, true, true, true, true, true, true, true, true, true] rfl rfl (by kernel_rfl) (by decide) (fun K hK => ?_)
  have y0 : w1.cell? ⟨gh, 0, none⟩ = some (.slice none 0 0) := (blk_cell hh1 0).trans rfl
  have z0 : w1.frozen? ⟨gh, 0, none⟩ = false := blk_frozen hh1 0
  refine skip_ (w1 := w1.setCell ⟨gh, 0, none⟩ (.slice (some ⟨gr, 0, none⟩) 1 c)) (by rfl) rfl ?_ ?_
  · go_simp
  refine hK.out _ _ ?_
  clear hK K
  refine done_ (by kernel_rfl) ?_
  go_wp2
  go_end0
  obtain ⟨cs, hcs⟩ := hcs
  have hgne : gr ≠ gh := by have := blk_lt HH.out; omega
  have h3 := blk_cell hcs 0
  rw [show (⟨gr, 0, none⟩ : Addr) = ⟨gr, (0 : Int).toNat, none⟩ from rfl, hx] at h3
  have hP : Pushed w0 w (w1.setCell ⟨gh, 0, none⟩ (.slice (some ⟨gr, 0, none⟩) 1 c)) gh gn := ⟨gr, c, ⟨blk_put hh1 0 _ rfl, ⟨cs, (Below.heap_setCell w1 ⟨gh, 0, none⟩ (.slice (some ⟨gr, 0, none⟩) 1 c) gr hgne).trans hcs, h3.symm⟩, by simpa using hcap⟩, hfr, hb.setCell HGH.out _, hk1.setCell (.inl rfl) _⟩
  exact ⟨rfl, hP⟩
set_option maxRecDepth 100000 in
theorem push_calls (w0 w : World) (gh gn : Nat) (h : HAt w gh (.slice none 0 0)) (hB : Below w0.heap.size w0 w) (hgh : w0.heap.size ≤ gh) :
    Calls Try.prog 117 #[.iface 200 (.pointer (some ⟨gh, 0, none⟩)), .iface 201 (.pointer (some ⟨gn, 0, none⟩))] w fun e w' => e = .returned (.tuple #[]) ∧ Pushed w0 w w' gh gn := by
  have HP := Aside0.mk (hpush_calls w0 w gh gn h hB hgh)
  clear h hB hgh
  have hen : ∀ (args : Array Value) (U : World), (callFunc 209 args).run Try.prog U = .ok (.enter 209 args) U := fun args U => enters_ (fn := Try.f209) (by kernel_rfl) (by kernel_rfl) rfl args U
  have hen2 : ∀ (args : Array Value) (U : World), (callFunc 213 args).run Try.prog U = .ok (.enter 213 args) U := fun args U => enters_ (fn := Try.f213) (by kernel_rfl) (by kernel_rfl) rfl args U
  go_enter Try.func117, Try.ntmps117
  go_wp2_with fail
  rw [pmeth w ⟨gh, 0, none⟩ (name := "Push") (f := 213) (by kernel_rfl)]
  simp only [Result.andThen_ok]
  rw [hen2, Oper.upon_enter]
  refine HP.out.mono ?_
  rintro e w1 ⟨rfl, hP⟩
  obtain ⟨gr, c, hO, hle, hBe, hk⟩ := hP
  have HO := Aside0.mk hO
  have HR := Aside0.mk (show Pushed w0 w w1 gh gn from ⟨gr, c, hO, hle, hBe, hk⟩)
  clear hO hle hBe hk
  go_wp2_with fail
  rw [HO.out.1.meth (name := "Len") (f := 209) (by kernel_rfl)]
  simp only [Result.andThen_ok]
  rw [hen, Oper.upon_enter]
  refine (hlen_calls _ 1 c w1).mono ?_
  rintro e w2 ⟨rfl, hw2⟩
  subst hw2
  go_wp2_with fail
  refine (up_calls _ w2).mono ?_
  rintro e w3 ⟨rfl, hw3⟩
  subst hw3
  go_wp2
  go_end0
  exact ⟨rfl, HR.out⟩

end Go.Proofs.Ytballgciakljnaa.PRampLast

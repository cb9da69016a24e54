-- Written by a program of this session, in the form of the kit's print, some functions by hand (N.B. not a file of print.sh's).
import Derived.Test.YtbghnfhjaolhaaaPAlarmHoldsx0
import Derived.Test.YtbghnfhjaolhaaaPAlarmHoldsx1
namespace Go.Proofs.Ytbghnfhjaolhaaa.PAlarmHolds
open Go.RowKit Go.Proofs.YtbghnfhjaolhaaaW.PrintWords Go.Proofs.YtbghnfhjaolhaaaW.PrintLast Go.Proofs.YtbghnfhjaolhaaaW.PrintMore Go.Proofs.YtbghnfhjaolhaaaM
attribute [local go_sem] max2_int min2_int max_two min_two max_three min_three max_four min_four   -- for this text's walks alone
set_option linter.unusedVariables false
set_option linter.unusedSimpArgs false

/-! ### alarm_Watch_due: function 81 (by hand) -/
set_option maxRecDepth 100000 in
theorem due_calls (g : Nat) (s : Wt) (t : Int) (w : World) (h : Bk w g s) (hok : s.Ok) :
    Calls Try.prog 81 #[.pointer (some ⟨g, 0, none⟩), .int .i64 t] w fun e w' => ∃ v0_ : Value, e = .returned v0_ ∧ Kd.R k72 72 w' w.heap.size (fun _ => True) v0_ (dueF s t).2 ∧ Bk w' g (dueF s t).1 ∧ w.grownBy w' (some g) := by
  have H := Aside0.mk h
  have h3 : w.cell? ⟨g, 3, none⟩ = some (.int .i64 s.de) := h.cell 3
  have h5 : w.cell? ⟨g, 5, none⟩ = some (.int .i64 s.st) := h.cell 5
  have h6 : w.cell? ⟨g, 6, none⟩ = some (.int .i64 s.as_) := h.cell 6
  have h7 : w.cell? ⟨g, 7, none⟩ = some (.int .i64 s.si) := h.cell 7
  obtain ⟨_, _, _, _, o5, o6, _⟩ := hok
  have w1 : IntKind.i64.wrap (s.si + s.de) = s.si + s.de := by rw [i64_w]; unfold wrap64; omega
  clear h o5 o6
  unfold dueF
  by_cases hc : s.as_ = s.st ∨ t < s.si + s.de
  · rw [if_pos hc]
    by_cases d1 : s.as_ = s.st
    · have e1 : (s.as_ == s.st) = true := beq_iff_eq.2 d1
      clear hc d1
      go_enter Try.func81, Try.ntmps81
      go_wp2
      go_quiet (fail)
      go_wp2
      go_quiet (fail)
      go_wp2
      go_ret
      exact ⟨_, rfl, Kd.R_nil _ _ _ _ _, H.out, gb_drew2 _ _ _ _⟩
    · have e1 : (s.as_ == s.st) = false := beq_eq_false_iff_ne.2 d1
      have e2 : decide (t < s.si + s.de) = true := decide_eq_true (by omega)
      clear hc d1
      go_enter Try.func81, Try.ntmps81
      go_wp2
      go_quiet (fail)
      go_wp2
      go_quiet (fail)
      go_wp2
      go_ret
      exact ⟨_, rfl, Kd.R_nil _ _ _ _ _, H.out, gb_drew2 _ _ _ _⟩
  · rw [if_neg hc]
    have e1 : (s.as_ == s.st) = false := beq_eq_false_iff_ne.2 (by omega)
    have e2 : decide (t < s.si + s.de) = false := decide_eq_false (by omega)
    clear hc
    go_enter Try.func81, Try.ntmps81
    go_wp2
    go_quiet (fail)
    revert nq
    intro n1
    go_wp2
    go_quiet (fail)
    revert nq
    intro n2
    go_wp2
    have HBK : Aside0 (Bk ((w.drewN n1).drewN n2) g s) := ⟨H.out⟩
    have HGB : Aside0 (w.grownBy ((w.drewN n1).drewN n2) (some g)) := ⟨gb_drew2 _ _ _ _⟩
    have HSZ : Aside0 (((w.drewN n1).drewN n2).heap.size = w.heap.size) := ⟨rfl⟩
    generalize (w.drewN n1).drewN n2 = W at *
    refine start_ (n := 12) (S := fun w' => Bk w' g s ∧ W.grownBy w' (some g)) (ds := [11]) #[false, false, false, false, false, false, false, false, false, false, false, false] (by kernel_rfl) rfl rfl ⟨HBK.out, ⟨rfl, rfl, rfl, Nat.le_refl _, fun _ _ _ => rfl⟩⟩ (fun hHeld => ?_)
    refine pure_ (i := 0) (N := (some 31)) (v := ?_) (a' := ?_) #[true, false, false, false, false, false, false, false, false, false, false, false] rfl rfl (by kernel_rfl) (fun _ _ _ h => h) (Or.inl ⟨by rfl, ?_⟩) ?_ ?_
    rotate_left
    · intro w'
      go_simp
      with_reducible rfl
    rotate_left
    · simp only [Act.put, List.setIfInBounds_toArray, List.set_cons_zero, List.set_cons_succ, i64_w, i32_w]
      rfl
    refine pure_ (i := 1) (N := (some 32)) (v := ?_) (a' := ?_) #[true, true, false, false, false, false, false, false, false, false, false, false] rfl rfl (by kernel_rfl) (fun _ _ _ h => h) (Or.inl ⟨by rfl, ?_⟩) ?_ ?_
    rotate_left
    · intro w'
      go_simp
      with_reducible rfl
    rotate_left
    · simp only [Act.put, List.setIfInBounds_toArray, List.set_cons_zero, List.set_cons_succ, i64_w, i32_w]
      rfl
    refine pure_ (i := 2) (N := (some 33)) (v := ?_) (a' := ?_) #[true, true, true, false, false, false, false, false, false, false, false, false] rfl rfl (by kernel_rfl) (fun _ _ _ h => h) (Or.inl ⟨by rfl, ?_⟩) ?_ ?_
    rotate_left
    · intro w'
      go_simp
      with_reducible rfl
    rotate_left
    · simp only [Act.put, List.setIfInBounds_toArray, List.set_cons_zero, List.set_cons_succ, i64_w, i32_w]
      rfl
    refine pure_ (i := 3) (N := (some 34)) (v := ?_) (a' := ?_) #[true, true, true, true, false, false, false, false, false, false, false, false] rfl rfl (by kernel_rfl) (fun _ _ _ h => h) (Or.inl ⟨by rfl, ?_⟩) ?_ ?_
    rotate_left
    · intro w'
      go_simp
      with_reducible rfl
    rotate_left
    · simp only [Act.put, List.setIfInBounds_toArray, List.set_cons_zero, List.set_cons_succ, i64_w, i32_w]
      rfl
    refine pure_ (i := 5) (N := (some 36)) (v := ?_) (a' := ?_) #[true, true, true, true, false, true, false, false, false, false, false, false] rfl rfl (by kernel_rfl) (fun _ _ _ h => h) (Or.inl ⟨by rfl, ?_⟩) ?_ ?_
    rotate_left
    · intro w'
      go_simp
      with_reducible rfl
    rotate_left
    · simp only [Act.put, List.setIfInBounds_toArray, List.set_cons_zero, List.set_cons_succ, i64_w, i32_w]
      rfl
    refine pure_ (i := 6) (N := (some 37)) (v := ?_) (a' := ?_) #[true, true, true, true, false, true, true, false, false, false, false, false] rfl rfl (by kernel_rfl) (fun _ _ _ h => h) (Or.inl ⟨by rfl, ?_⟩) ?_ ?_
    rotate_left
    · intro w'
      go_simp
      with_reducible rfl
    rotate_left
    · simp only [Act.put, List.setIfInBounds_toArray, List.set_cons_zero, List.set_cons_succ, i64_w, i32_w]
      rfl
    refine pure_ (i := 7) (N := (some 38)) (v := ?_) (a' := ?_) #[true, true, true, true, false, true, true, true, false, false, false, false] rfl rfl (by kernel_rfl) (fun _ _ _ h => h) (Or.inl ⟨by rfl, ?_⟩) ?_ ?_
    rotate_left
    · intro w'
      go_simp
      with_reducible rfl
    rotate_left
    · simp only [Act.put, List.setIfInBounds_toArray, List.set_cons_zero, List.set_cons_succ, i64_w, i32_w]
      rfl
    refine take_ (i := 4) (N := (some 35)) (v := ?_) (a' := ?_) #[true, true, true, true, true, true, true, true, false, false, false, false] rfl rfl (by kernel_rfl) (fun _ _ _ h => h) (Or.inl ⟨by rfl, ?_⟩) hHeld ?_ ?_
    rotate_left
    · intro w' s0
      have h5 : w'.cell? ⟨g, 5, none⟩ = some (.int .i64 s.st) := s0.1.cell 5
      have h6 : w'.cell? ⟨g, 6, none⟩ = some (.int .i64 s.as_) := s0.1.cell 6
      go_simp
      with_reducible rfl
    rotate_left
    · simp only [Act.put, List.setIfInBounds_toArray, List.set_cons_zero, List.set_cons_succ, i64_w, i32_w]
      rfl
    refine take_ (i := 8) (N := (some 39)) (v := ?_) (a' := ?_) #[true, true, true, true, true, true, true, true, true, false, false, false] rfl rfl (by kernel_rfl) (fun _ _ _ h => h) (Or.inl ⟨by rfl, ?_⟩) hHeld ?_ ?_
    rotate_left
    · intro w' s0
      have h5 : w'.cell? ⟨g, 5, none⟩ = some (.int .i64 s.st) := s0.1.cell 5
      have h6 : w'.cell? ⟨g, 6, none⟩ = some (.int .i64 s.as_) := s0.1.cell 6
      go_simp
      with_reducible rfl
    rotate_left
    · simp only [Act.put, List.setIfInBounds_toArray, List.set_cons_zero, List.set_cons_succ, i64_w, i32_w]
      rfl
    refine pure_ (i := 9) (N := (some 40)) (v := ?_) (a' := ?_) #[true, true, true, true, true, true, true, true, true, true, false, false] rfl rfl (by kernel_rfl) (fun _ _ _ h => h) (Or.inl ⟨by rfl, ?_⟩) ?_ ?_
    rotate_left
    · intro w'
      go_simp
      with_reducible rfl
    rotate_left
    · simp only [Act.put, List.setIfInBounds_toArray, List.set_cons_zero, List.set_cons_succ, i64_w, i32_w]
      rfl

    refine one_ (i := 10) (N := (some 6)) #[true, true, true, true, true, true, true, true, true, true, true, false] rfl rfl (by kernel_rfl) (by decide) (fun K hK => ?_)
    refine value_ (w1 := (W.alloc (Obj.cells #[.int .i64 0, .int .i64 0, .int .i64 0] 72)).drew) (v := .pointer (some ⟨W.heap.size, 0, none⟩)) (by rfl) rfl ?_ ?_
    · go_simp
    have hA : ((W.alloc (Obj.cells #[.int .i64 0, .int .i64 0, .int .i64 0] 72)).drew).heap[W.heap.size]? = some (.cells #[.int .i64 0, .int .i64 0, .int .i64 0] 72 (0, 0)) := blk_new W _
    have hAB : Bk ((W.alloc (Obj.cells #[.int .i64 0, .int .i64 0, .int .i64 0] 72)).drew) g s := blk_alloc HBK.out _
    have hAG : W.grownBy ((W.alloc (Obj.cells #[.int .i64 0, .int .i64 0, .int .i64 0] 72)).drew) (some g) := gb_below (below_drew1 ((Below.refl W.heap.size W).alloc (Nat.le_refl _) _)) g
    generalize (W.alloc (Obj.cells #[.int .i64 0, .int .i64 0, .int .i64 0] 72)).drew = A at hA hAB hAG ⊢
    refine hK.out _ _ ⟨hAB, hAG⟩ (fun _ => ?_)
    simp only [Act.put, List.setIfInBounds_toArray, List.set_cons_zero, List.set_cons_succ]
    clear hK K hHeld
    obtain ⟨cb, hcb⟩ : ∃ cb, cb = W.heap.size := ⟨_, rfl⟩
    rw [← hcb] at hA ⊢
    have hne : g ≠ cb := by have := HBK.out.lt; omega
    have HCB := Aside0.mk hcb
    clear hcb
    have k0 : A.cell? ⟨cb, 0, none⟩ = some (.int .i64 0) := (blk_cell hA 0).trans rfl
    have k1 : A.cell? ⟨cb, 1, none⟩ = some (.int .i64 0) := (blk_cell hA 1).trans rfl
    have k2 : A.cell? ⟨cb, 2, none⟩ = some (.int .i64 0) := (blk_cell hA 2).trans rfl
    have f0 : A.frozen? ⟨cb, 0, none⟩ = false := blk_frozen hA 0
    have f1 : A.frozen? ⟨cb, 1, none⟩ = false := blk_frozen hA 1
    have f2 : A.frozen? ⟨cb, 2, none⟩ = false := blk_frozen hA 2
    refine last_ (i := 11) (N := none) #[true, true, true, true, true, true, true, true, true, true, true, true] rfl rfl (by kernel_rfl) (by decide) (fun K hK => ?_)
    refine skip_ (w1 := ((A.setCell ⟨cb, 0, none⟩ (.int .i64 (s.si + s.de))).setCell ⟨cb, 1, none⟩ (.int .i64 s.st)).setCell ⟨cb, 2, none⟩ (.int .i64 s.as_)) (by rfl) rfl ?_ ?_
    · go_simp
    refine hK.out _ _ ?_
    clear hK K
    refine done_ (by kernel_rfl) ?_
    have hB3 := blk_put (blk_put (blk_put hA 0 (.int .i64 (s.si + s.de)) rfl) 1 (.int .i64 s.st) rfl) 2 (.int .i64 s.as_) rfl
    have hG3 : Bk (((A.setCell ⟨cb, 0, none⟩ (.int .i64 (s.si + s.de))).setCell ⟨cb, 1, none⟩ (.int .i64 s.st)).setCell ⟨cb, 2, none⟩ (.int .i64 s.as_)) g s := blk_far (blk_far (blk_far hAB (p := ⟨cb, 0, none⟩) hne _) (p := ⟨cb, 1, none⟩) hne _) (p := ⟨cb, 2, none⟩) hne _
    have hGG : w.grownBy (((A.setCell ⟨cb, 0, none⟩ (.int .i64 (s.si + s.de))).setCell ⟨cb, 1, none⟩ (.int .i64 s.st)).setCell ⟨cb, 2, none⟩ (.int .i64 s.as_)) (some g) := by
      have hle : w.heap.size ≤ cb := by rw [HCB.out, HSZ.out]; exact Nat.le_refl _
      have a0 := gb_trans HGB.out hAG (fun q hq => Or.inl (Option.some.inj hq).symm)
      exact gb_set (gb_set (gb_set a0 (.inr hle) _ _) (.inr hle) _ _) (.inr hle) _ _
    generalize ((A.setCell ⟨cb, 0, none⟩ (.int .i64 (s.si + s.de))).setCell ⟨cb, 1, none⟩ (.int .i64 s.st)).setCell ⟨cb, 2, none⟩ (.int .i64 s.as_) = B at hB3 hG3 hGG ⊢
    have q5 : B.cell? ⟨g, 5, none⟩ = some (.int .i64 s.st) := hG3.cell 5
    have q6 : B.cell? ⟨g, 6, none⟩ = some (.int .i64 s.as_) := hG3.cell 6
    have f5 : B.frozen? ⟨g, 5, none⟩ = false := hG3.fr 5
    obtain ⟨C, hC⟩ : ∃ C, C = B.setCell ⟨g, 5, none⟩ (.int .i64 s.as_) := ⟨_, rfl⟩
    have hC3 : C.heap[cb]? = some (.cells #[.int .i64 (s.si + s.de), .int .i64 s.st, .int .i64 s.as_] 72 (0, 0)) := by rw [hC]; exact blk_far hB3 (p := ⟨g, 5, none⟩) (fun e => hne e.symm) _
    have hCG : Bk C g { s with st := s.as_ } := by rw [hC]; exact blk_put hG3 5 _ rfl
    have hCB : w.grownBy C (some g) := by rw [hC]; exact gb_set hGG (.inl rfl) 5 _
    have p0 : (B.setCell ⟨g, 5, none⟩ (.int .i64 s.as_)).cell? ⟨cb, 0, none⟩ = some (.int .i64 (s.si + s.de)) := by rw [← hC]; exact (blk_cell hC3 0).trans rfl
    have p1 : (B.setCell ⟨g, 5, none⟩ (.int .i64 s.as_)).cell? ⟨cb, 1, none⟩ = some (.int .i64 s.st) := by rw [← hC]; exact (blk_cell hC3 1).trans rfl
    have p2 : (B.setCell ⟨g, 5, none⟩ (.int .i64 s.as_)).cell? ⟨cb, 2, none⟩ = some (.int .i64 s.as_) := by rw [← hC]; exact (blk_cell hC3 2).trans rfl
    have HC := Aside0.mk hC
    have HCG := Aside0.mk hCG
    have HCB2 := Aside0.mk hCB
    clear hC hC3 hCG hCB hB3 hG3 hGG k0 k1 k2 f0 f1 f2 hA hAB hAG
    go_wp2_with ((with_reducible refine gate_dst (N := 49) rfl ?_); rw [← HC.out]; refine Kd.R_lit k72 (w0 := C) C.heap.size 72 ?hg (N := 49) ?hd (xs := ([⟨s.si + s.de, s.st, s.as_⟩] : List S72)) (inner := [.int .i64 (s.si + s.de), .int .i64 s.st, .int .i64 s.as_]) (ok := fun _ => True) (okp := fun _ => True) ?hr ?hp (fun _ hk => hk) trivial (Below.refl _ _) (Nat.le_refl _) (by simp) ?_; (case hd => rfl); (case hg => rfl); (case hr => first | (go_simp; done) | (go_simp; rfl)); (case hp => exact (Reps.c3 (k72_mkM _ _ _ (⟨s.si + s.de, s.st, s.as_⟩ : S72)) (Reps.none _ _))); intro v1 D ho hb hg_ hnew_; have HO := Aside0.mk ho; have HBD := Aside0.mk hb; clear ho hb hg_ hnew_)
    go_ret
    have hle : w.heap.size ≤ C.heap.size := HCB2.out.size
    refine ⟨_, rfl, Kd.R_lower HO.out hle, blk_below HCG.out HBD.out, gb_trans HCB2.out (gb_below HBD.out C.heap.size) (fun q hq => Or.inr (by cases hq; exact hle))⟩

end Go.Proofs.Ytbghnfhjaolhaaa.PAlarmHolds

-- Written by a program of this session, in the form of the kit's print, some functions by hand (N.B. not a file of print.sh's).
import Derived.Test.YtballgciakljnaaPRampLastx0
import Derived.Test.YtballgciakljnaaPRampLastx6
import Derived.Test.YtballgciakljnaaPRampLastx9
namespace Go.Proofs.Ytballgciakljnaa.PRampLast
open Go.RowKit Go.Proofs.YtballgciakljnaaW.PrintWords Go.Proofs.YtballgciakljnaaW.PrintLast Go.Proofs.YtballgciakljnaaW.PrintMore Go.Proofs.YtballgciakljnaaM
attribute [local go_sem] max2_int min2_int max_two min_two max_three min_three max_four min_four   -- for this text's walks alone
set_option linter.unusedVariables false
set_option linter.unusedSimpArgs false

/-! ### heap_Pop: function 122 (by hand) -/
theorem same_set {U : World} {g t : Nat} {cs : Array Value} {v : Value} (h : U.heap[g]? = some (.cells cs t (0, 0))) (h0 : cs[0]? = some v) : ∀ k : Nat, (U.setCell ⟨g, 0, none⟩ v).heap[k]? = U.heap[k]? := by
  intro k
  by_cases hk : k = g
  · subst hk
    have e : cs.setIfInBounds 0 v = cs := by
      apply Array.ext_getElem?
      intro j
      rw [Array.getElem?_setIfInBounds]
      by_cases hj : 0 = j
      · subst hj
        rw [if_pos rfl, h0]
        split
        · rfl
        · rename_i hn
          have := (Array.getElem?_eq_some_iff.1 h0).1
          exact absurd this hn
      · rw [if_neg hj]
    rw [blk_set h 0 v, e, h]
  · exact Below.heap_setCell U ⟨g, 0, none⟩ v k hk
set_option maxRecDepth 100000 in
theorem swap_calls (gr c gn : Nat) (cs : Array Value) (w : World) (h : w.heap[gr]? = some (.cells cs 201 (0, 0))) (h0 : cs[0]? = some (.pointer (some ⟨gn, 0, none⟩))) :
    Calls Try.prog 211 #[.slice (some ⟨gr, 0, none⟩) 1 c, .int .i64 0, .int .i64 0] w fun e w' => e = .returned (.tuple #[]) ∧ (∀ k : Nat, w'.heap[k]? = w.heap[k]?) ∧ (∀ (B : Nat) (W : World), Below B W w → B ≤ gr → Below B W w') := by
  go_enter Try.func211, Try.ntmps211
  go_wp2
  refine start_ (n := 16) (S := fun U => U.heap[gr]? = some (.cells cs 201 (0, 0)) ∧ (∀ k : Nat, U.heap[k]? = w.heap[k]?) ∧ (∀ (B : Nat) (W : World), Below B W w → B ≤ gr → Below B W U)) (ds := [15]) #[false, false, false, false, false, false, false, false, false, false, false, false, false, false, false, false] (by kernel_rfl) rfl rfl ⟨h, fun _ => rfl, fun _ _ hb _ => below_drew1 hb⟩ (fun hHeld => ?_)
  refine pure_ (i := 0) (N := (some 6)) (v := ?_) (a' := ?_) #[true, false, false, false, false, false, false, false, false, false, false, false, false, false, false, false] rfl rfl (by kernel_rfl) (fun _ _ _ h => h) (Or.inl ⟨by rfl, ?_⟩) ?_ ?_
  rotate_left
  · intro w'
    go_simp
    with_reducible rfl
  rotate_left
  · simp only [Act.put, List.setIfInBounds_toArray, List.set_cons_zero, List.set_cons_succ, i64_w, i32_w]
    rfl
  refine pure_ (i := 1) (N := (some 7)) (v := ?_) (a' := ?_) #[true, true, false, false, false, false, false, false, false, false, false, false, false, false, false, false] rfl rfl (by kernel_rfl) (fun _ _ _ h => h) (Or.inl ⟨by rfl, ?_⟩) ?_ ?_
  rotate_left
  · intro w'
    go_simp
    with_reducible rfl
  rotate_left
  · simp only [Act.put, List.setIfInBounds_toArray, List.set_cons_zero, List.set_cons_succ, i64_w, i32_w]
    rfl
  refine pure_ (i := 2) (N := (some 8)) (v := ?_) (a' := ?_) #[true, true, true, false, false, false, false, false, false, false, false, false, false, false, false, false] rfl rfl (by kernel_rfl) (fun _ _ _ h => h) (Or.inl ⟨by rfl, ?_⟩) ?_ ?_
  rotate_left
  · intro w'
    go_simp
    with_reducible rfl
  rotate_left
  · simp only [Act.put, List.setIfInBounds_toArray, List.set_cons_zero, List.set_cons_succ, i64_w, i32_w]
    rfl
  refine pure_ (i := 3) (N := (some 9)) (v := ?_) (a' := ?_) #[true, true, true, true, false, false, false, false, false, false, false, false, false, false, false, false] rfl rfl (by kernel_rfl) (fun _ _ _ h => h) (Or.inl ⟨by rfl, ?_⟩) ?_ ?_
  rotate_left
  · intro w'
    go_simp
    with_reducible rfl
  rotate_left
  · simp only [Act.put, List.setIfInBounds_toArray, List.set_cons_zero, List.set_cons_succ, i64_w, i32_w]
    rfl
  refine pure_ (i := 4) (N := (some 10)) (v := ?_) (a' := ?_) #[true, true, true, true, true, false, false, false, false, false, false, false, false, false, false, false] rfl rfl (by kernel_rfl) (fun _ _ _ h => h) (Or.inl ⟨by rfl, ?_⟩) ?_ ?_
  rotate_left
  · intro w'
    go_simp
    with_reducible rfl
  rotate_left
  · simp only [Act.put, List.setIfInBounds_toArray, List.set_cons_zero, List.set_cons_succ, i64_w, i32_w]
    rfl
  refine pure_ (i := 5) (N := (some 11)) (v := ?_) (a' := ?_) #[true, true, true, true, true, true, false, false, false, false, false, false, false, false, false, false] rfl rfl (by kernel_rfl) (fun _ _ _ h => h) (Or.inl ⟨by rfl, ?_⟩) ?_ ?_
  rotate_left
  · intro w'
    go_simp
    with_reducible rfl
  rotate_left
  · simp only [Act.put, List.setIfInBounds_toArray, List.set_cons_zero, List.set_cons_succ, i64_w, i32_w]
    rfl
  refine pure_ (i := 6) (N := (some 12)) (v := ?_) (a' := ?_) #[true, true, true, true, true, true, true, false, false, false, false, false, false, false, false, false] rfl rfl (by kernel_rfl) (fun _ _ _ h => h) (Or.inl ⟨by rfl, ?_⟩) ?_ ?_
  rotate_left
  · intro w'
    go_simp
    with_reducible rfl
  rotate_left
  · simp only [Act.put, List.setIfInBounds_toArray, List.set_cons_zero, List.set_cons_succ, i64_w, i32_w]
    rfl
  refine pure_ (i := 8) (N := (some 14)) (v := ?_) (a' := ?_) #[true, true, true, true, true, true, true, false, true, false, false, false, false, false, false, false] rfl rfl (by kernel_rfl) (fun _ _ _ h => h) (Or.inl ⟨by rfl, ?_⟩) ?_ ?_
  rotate_left
  · intro w'
    go_simp
    with_reducible rfl
  rotate_left
  · simp only [Act.put, List.setIfInBounds_toArray, List.set_cons_zero, List.set_cons_succ, i64_w, i32_w]
    rfl
  refine pure_ (i := 9) (N := (some 15)) (v := ?_) (a' := ?_) #[true, true, true, true, true, true, true, false, true, true, false, false, false, false, false, false] rfl rfl (by kernel_rfl) (fun _ _ _ h => h) (Or.inl ⟨by rfl, ?_⟩) ?_ ?_
  rotate_left
  · intro w'
    go_simp
    with_reducible rfl
  rotate_left
  · simp only [Act.put, List.setIfInBounds_toArray, List.set_cons_zero, List.set_cons_succ, i64_w, i32_w]
    rfl
  refine pure_ (i := 10) (N := (some 16)) (v := ?_) (a' := ?_) #[true, true, true, true, true, true, true, false, true, true, true, false, false, false, false, false] rfl rfl (by kernel_rfl) (fun _ _ _ h => h) (Or.inl ⟨by rfl, ?_⟩) ?_ ?_
  rotate_left
  · intro w'
    go_simp
    with_reducible rfl
  rotate_left
  · simp only [Act.put, List.setIfInBounds_toArray, List.set_cons_zero, List.set_cons_succ, i64_w, i32_w]
    rfl
  refine take_ (i := 7) (N := (some 13)) (v := ?_) (a' := ?_) #[true, true, true, true, true, true, true, true, true, true, true, false, false, false, false, false] rfl rfl (by kernel_rfl) (fun _ _ _ h => h) (Or.inl ⟨by rfl, ?_⟩) hHeld ?_ ?_
  rotate_left
  · intro w' s0
    have y0 : w'.cell? ⟨gr, 0, none⟩ = some (.pointer (some ⟨gn, 0, none⟩)) := (blk_cell s0.1 0).trans h0
    go_simp
    with_reducible rfl
  rotate_left
  · simp only [Act.put, List.setIfInBounds_toArray, List.set_cons_zero, List.set_cons_succ, i64_w, i32_w]
    rfl
  refine take_ (i := 11) (N := (some 17)) (v := ?_) (a' := ?_) #[true, true, true, true, true, true, true, true, true, true, true, true, false, false, false, false] rfl rfl (by kernel_rfl) (fun _ _ _ h => h) (Or.inl ⟨by rfl, ?_⟩) hHeld ?_ ?_
  rotate_left
  · intro w' s0
    have y0 : w'.cell? ⟨gr, 0, none⟩ = some (.pointer (some ⟨gn, 0, none⟩)) := (blk_cell s0.1 0).trans h0
    go_simp
    with_reducible rfl
  rotate_left
  · simp only [Act.put, List.setIfInBounds_toArray, List.set_cons_zero, List.set_cons_succ, i64_w, i32_w]
    rfl
  refine pure_ (i := 12) (N := (some 18)) (v := ?_) (a' := ?_) #[true, true, true, true, true, true, true, true, true, true, true, true, true, false, false, false] rfl rfl (by kernel_rfl) (fun _ _ _ h => h) (Or.inl ⟨by rfl, ?_⟩) ?_ ?_
  rotate_left
  · intro w'
    go_simp
    with_reducible rfl
  rotate_left
  · simp only [Act.put, List.setIfInBounds_toArray, List.set_cons_zero, List.set_cons_succ, i64_w, i32_w]
    rfl
  refine one_ (i := 13) (N := none) #[true, true, true, true, true, true, true, true, true, true, true, true, true, true, false, false] rfl rfl (by kernel_rfl) (by decide) (fun K hK => ?_)
  have y0 : w.drew.cell? ⟨gr, 0, none⟩ = some (.pointer (some ⟨gn, 0, none⟩)) := (blk_cell hHeld.1 0).trans h0
  have z0 : w.drew.frozen? ⟨gr, 0, none⟩ = false := blk_frozen hHeld.1 0
  refine skip_ (w1 := w.drew.setCell ⟨gr, 0, none⟩ (.pointer (some ⟨gn, 0, none⟩))) (by rfl) rfl ?_ ?_
  · go_simp
  have hs := same_set hHeld.1 h0
  refine hK.out _ _ ⟨(hs gr).trans hHeld.1, fun k => (hs k).trans (hHeld.2.1 k), fun B W hb hle => (hHeld.2.2 B W hb hle).setCell hle _⟩ (fun hH2 => ?_)
  clear hK K y0 z0
  refine pure_ (i := 14) (N := (some 19)) (v := ?_) (a' := ?_) #[true, true, true, true, true, true, true, true, true, true, true, true, true, true, true, false] rfl rfl (by kernel_rfl) (fun _ _ _ h => h) (Or.inl ⟨by rfl, ?_⟩) ?_ ?_
  rotate_left
  · intro w'
    go_simp
    with_reducible rfl
  rotate_left
  · simp only [Act.put, List.setIfInBounds_toArray, List.set_cons_zero, List.set_cons_succ, i64_w, i32_w]
    rfl
  refine last_ (i := 15) (N := none) #[true, true, true, true, true, true, true, true, true, true, true, true, true, true, true, true] rfl rfl (by kernel_rfl) (by decide) (fun K hK => ?_)
  have hw1 := (same_set h h0 gr).trans h
  have y0 : (w.setCell ⟨gr, 0, none⟩ (.pointer (some ⟨gn, 0, none⟩))).cell? ⟨gr, 0, none⟩ = some (.pointer (some ⟨gn, 0, none⟩)) := (blk_cell hw1 0).trans h0
  have z0 : (w.setCell ⟨gr, 0, none⟩ (.pointer (some ⟨gn, 0, none⟩))).frozen? ⟨gr, 0, none⟩ = false := blk_frozen hw1 0
  refine skip_ (w1 := (w.drew.setCell ⟨gr, 0, none⟩ (.pointer (some ⟨gn, 0, none⟩))).setCell ⟨gr, 0, none⟩ (.pointer (some ⟨gn, 0, none⟩))) (by rfl) rfl ?_ ?_
  · go_simp
  refine hK.out _ _ ?_
  clear hK K
  have hs2 := same_set hH2.1 h0
  refine done_ (by kernel_rfl) ?_
  go_wp2
  go_end0
  exact ⟨rfl, fun k => (hs2 k).trans (hH2.2.1 k), fun B W hb hle => (hH2.2.2 B W hb hle).setCell hle _⟩
set_option maxRecDepth 100000 in
theorem hpop_calls (w : World) (gh gn gr c : Nat) (h : OneH w gh gn gr c) : Calls Try.prog 212 #[.pointer (some ⟨gh, 0, none⟩)] w fun e w' => e = .returned (.iface 201 (.pointer (some ⟨gn, 0, none⟩))) ∧ w' = w.setCell ⟨gh, 0, none⟩ (.slice (some ⟨gr, 0, none⟩) 0 c) := by
  obtain ⟨hh, ⟨cs, hcs, h0⟩, hc⟩ := h
  have x0 : w.cell? ⟨gh, 0, none⟩ = some (.slice (some ⟨gr, 0, none⟩) 1 c) := (blk_cell hh 0).trans rfl
  have f0 : w.frozen? ⟨gh, 0, none⟩ = false := blk_frozen hh 0
  have y0 : w.cell? ⟨gr, 0, none⟩ = some (.pointer (some ⟨gn, 0, none⟩)) := (blk_cell hcs 0).trans h0
  have q0 : (0 : Int) ≤ (c : Int) := by omega
  have q1 : (1 : Int) ≤ (c : Int) := by omega
  clear hh hcs h0
  go_enter Try.func212, Try.ntmps212
  go_wp2
  go_ret
  exact ⟨rfl, rfl⟩
set_option maxRecDepth 100000 in
theorem pop_calls (w0 w : World) (gh gn gr c : Nat) (h : OneH w gh gn gr c) (hB : Below w0.heap.size w0 w) (hgh : w0.heap.size ≤ gh) (hgr : w0.heap.size ≤ gr) : Calls Try.prog 122 #[.iface 200 (.pointer (some ⟨gh, 0, none⟩))] w fun e w' => e = .returned (.iface 201 (.pointer (some ⟨gn, 0, none⟩))) ∧ HAt w' gh (.slice (some ⟨gr, 0, none⟩) 0 c) ∧ Below w0.heap.size w0 w' ∧ Kept w w' (fun k => k = gh) := by
  have H := Aside0.mk h
  have HB := Aside0.mk hB
  have HGH := Aside0.mk hgh
  have HGR := Aside0.mk hgr
  clear h hB hgh hgr
  have hen : ∀ (args : Array Value) (U : World), (callFunc 209 args).run Try.prog U = .ok (.enter 209 args) U := fun args U => enters_ (fn := Try.f209) (by kernel_rfl) (by kernel_rfl) rfl args U
  have hen2 : ∀ (args : Array Value) (U : World), (callFunc 212 args).run Try.prog U = .ok (.enter 212 args) U := fun args U => enters_ (fn := Try.f212) (by kernel_rfl) (by kernel_rfl) rfl args U
  have hen3 : ∀ (args : Array Value) (U : World), (callFunc 211 args).run Try.prog U = .ok (.enter 211 args) U := fun args U => enters_ (fn := Try.f211) (by kernel_rfl) (by kernel_rfl) rfl args U
  go_enter Try.func122, Try.ntmps122
  go_wp2_with fail
  rw [H.out.1.meth (name := "Len") (f := 209) (by kernel_rfl)]
  simp only [Result.andThen_ok]
  rw [hen, Oper.upon_enter]
  refine (hlen_calls _ 1 c w).mono ?_
  rintro e w1 ⟨rfl, hw1⟩
  subst hw1
  go_wp2_with fail
  rw [H.out.1.meth (name := "Swap") (f := 211) (by kernel_rfl)]
  simp only [Result.andThen_ok]
  obtain ⟨cs, hcs, h0⟩ := H.out.2.1
  have HCS := Aside0.mk hcs
  have HC0 := Aside0.mk h0
  clear hcs h0
  rw [hen3, Oper.upon_enter]
  refine (swap_calls gr c gn cs w1 HCS.out HC0.out).mono ?_
  rintro e w2 ⟨rfl, hsame, hbel⟩
  have HS := Aside0.mk hsame
  have HB2 := Aside0.mk (hbel _ _ HB.out HGR.out)
  have HO2 : Aside0 (OneH w2 gh gn gr c) := ⟨⟨(hsame gh).trans H.out.1, ⟨cs, (hsame gr).trans HCS.out, HC0.out⟩, H.out.2.2⟩⟩
  clear hsame hbel
  go_wp2_with fail
  refine (down_calls _ 0 (by omega) w2).mono ?_
  rintro e w3 ⟨rfl, hw3⟩
  subst hw3
  go_wp2_with fail
  rw [pmeth w3 ⟨gh, 0, none⟩ (name := "Pop") (f := 212) (by kernel_rfl)]
  simp only [Result.andThen_ok]
  rw [hen2, Oper.upon_enter]
  refine (hpop_calls w3 gh gn gr c HO2.out).mono ?_
  rintro e w4 ⟨rfl, hw4⟩
  have HH4 : Aside0 (HAt w4 gh (.slice (some ⟨gr, 0, none⟩) 0 c)) := ⟨by rw [hw4]; exact blk_put HO2.out.1 0 _ rfl⟩
  have HB4 : Aside0 (Below w0.heap.size w0 w4) := ⟨by rw [hw4]; exact HB2.out.setCell HGH.out _⟩
  have HK4 : Aside0 (Kept w1 w4 (fun k => k = gh)) := ⟨by
    have hsz : w1.heap.size ≤ w3.heap.size := Nat.le_of_not_lt (fun hlt => by
      have h1 := HS.out w3.heap.size
      rw [Array.getElem?_eq_none (Nat.le_refl _), Array.getElem?_eq_getElem hlt] at h1
      cases h1)
    rw [hw4]
    have hk0 : Kept w1 w3 (fun k => k = gh) := ⟨hsz, fun k _ _ => HS.out k⟩
    exact hk0.setCell (.inl rfl) _⟩
  clear hw4
  go_wp2
  go_ret
  exact ⟨rfl, HH4.out, HB4.out, HK4.out⟩

end Go.Proofs.Ytballgciakljnaa.PRampLast

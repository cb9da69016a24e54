-- Written by a program of this session, in the form of the kit's print, some functions by hand (N.B. not a file of print.sh's).
import Derived.Test.YtballgciakljnaaPRampLastx0
import Derived.Test.YtballgciakljnaaPRampLastx3
import Derived.Test.YtballgciakljnaaPRampLastx6
namespace Go.Proofs.Ytballgciakljnaa.PRampLast
open Go.RowKit Go.Proofs.YtballgciakljnaaW.PrintWords Go.Proofs.YtballgciakljnaaW.PrintLast Go.Proofs.YtballgciakljnaaW.PrintMore Go.Proofs.YtballgciakljnaaM
attribute [local go_sem] max2_int min2_int max_two min_two max_three min_three max_four min_four   -- for this text's walks alone
set_option linter.unusedVariables false
set_option linter.unusedSimpArgs false

/-! ### ramp_next_event: function 119 (by hand) -/
set_option maxRecDepth 100000 in
theorem event_calls (gn : Nat) (r : Rp) (i k : Int) (w : World) (h : w.heap[gn]? = some (.cells (nvals r i k) 203 (0, 0))) (hok : r.Ok) (hk : 0 ≤ k ∧ k ≤ 1000001) :
    Calls Try.prog 119 #[.pointer (some ⟨gn, 0, none⟩)] w fun e w' => e = .returned (evV r k) ∧ Below w.heap.size w w' := by
  have HOK := Aside0.mk hok
  have HK := Aside0.mk hk
  have HK2 := Aside0.mk (show 0 ≤ k ∧ k ≤ 4611686018427387904 by omega)
  have HN := Aside0.mk h
  clear h hok hk
  go_enter Try.func119, Try.ntmps119
  go_wp2
  obtain ⟨g2, hg2⟩ : ∃ g2, g2 = w.heap.size := ⟨_, rfl⟩
  obtain ⟨W1, hW1⟩ : ∃ W1, W1 = w.alloc (.cells #[.int .i64 0, .int .i64 0, .int .u8 0, .bool false, .int .i64 0, .int .i64 0] 106) := ⟨_, rfl⟩
  have HG2 : Aside0 (W1.heap[g2]? = some (.cells #[.int .i64 0, .int .i64 0, .int .u8 0, .bool false, .int .i64 0, .int .i64 0] 106 (0, 0))) := ⟨by rw [hW1, hg2]; exact blk_new w _⟩
  have HN1 : Aside0 (W1.heap[gn]? = some (.cells (nvals r i k) 203 (0, 0))) := ⟨by rw [hW1]; exact blk_alloc HN.out _⟩
  have HB1 : Aside0 (Below w.heap.size w W1) := ⟨by rw [hW1]; exact (Below.refl _ _).alloc (Nat.le_refl _) _⟩
  have HGB := Aside0.mk (show w.heap.size ≤ g2 by omega)
  rw [← hW1, ← hg2]
  clear hg2 hW1
  refine start_ (n := 18) (S := fun U => U.heap[gn]? = some (.cells (nvals r i k) 203 (0, 0)) ∧ Below w.heap.size w U ∧ U.heap[g2]? = some (.cells #[.int .i64 0, .int .i64 0, .int .u8 0, .bool false, .int .i64 0, .int .i64 0] 106 (0, 0))) (ds := [17]) #[false, false, false, false, false, false, false, false, false, false, false, false, false, false, false, false, false, false] (by kernel_rfl) rfl rfl ⟨blk_drew HN1.out, below_drew1 HB1.out, blk_drew HG2.out⟩ (fun hHeld => ?_)
  refine pure_ (i := 0) (N := (some 4)) (v := ?_) (a' := ?_) #[true, false, false, false, false, false, false, false, false, false, false, false, false, false, false, false, false, false] rfl rfl (by kernel_rfl) (fun _ _ _ h => h) (Or.inl ⟨by rfl, ?_⟩) ?_ ?_
  rotate_left
  · intro w'
    go_simp
    with_reducible rfl
  rotate_left
  · simp only [Act.put, List.setIfInBounds_toArray, List.set_cons_zero, List.set_cons_succ, i64_w, i32_w]
    rfl
  refine pure_ (i := 2) (N := (some 6)) (v := ?_) (a' := ?_) #[true, false, true, false, false, false, false, false, false, false, false, false, false, false, false, false, false, false] rfl rfl (by kernel_rfl) (fun _ _ _ h => h) (Or.inl ⟨by rfl, ?_⟩) ?_ ?_
  rotate_left
  · intro w'
    go_simp
    with_reducible rfl
  rotate_left
  · simp only [Act.put, List.setIfInBounds_toArray, List.set_cons_zero, List.set_cons_succ, i64_w, i32_w]
    rfl
  refine pure_ (i := 3) (N := (some 7)) (v := ?_) (a' := ?_) #[true, false, true, true, false, false, false, false, false, false, false, false, false, false, false, false, false, false] rfl rfl (by kernel_rfl) (fun _ _ _ h => h) (Or.inl ⟨by rfl, ?_⟩) ?_ ?_
  rotate_left
  · intro w'
    go_simp
    with_reducible rfl
  rotate_left
  · simp only [Act.put, List.setIfInBounds_toArray, List.set_cons_zero, List.set_cons_succ, i64_w, i32_w]
    rfl
  refine pure_ (i := 4) (N := (some 8)) (v := ?_) (a' := ?_) #[true, false, true, true, true, false, false, false, false, false, false, false, false, false, false, false, false, false] rfl rfl (by kernel_rfl) (fun _ _ _ h => h) (Or.inl ⟨by rfl, ?_⟩) ?_ ?_
  rotate_left
  · intro w'
    go_simp
    with_reducible rfl
  rotate_left
  · simp only [Act.put, List.setIfInBounds_toArray, List.set_cons_zero, List.set_cons_succ, i64_w, i32_w]
    rfl
  refine pure_ (i := 5) (N := (some 9)) (v := ?_) (a' := ?_) #[true, false, true, true, true, true, false, false, false, false, false, false, false, false, false, false, false, false] rfl rfl (by kernel_rfl) (fun _ _ _ h => h) (Or.inl ⟨by rfl, ?_⟩) ?_ ?_
  rotate_left
  · intro w'
    go_simp
    with_reducible rfl
  rotate_left
  · simp only [Act.put, List.setIfInBounds_toArray, List.set_cons_zero, List.set_cons_succ, i64_w, i32_w]
    rfl
  refine pure_ (i := 7) (N := (some 11)) (v := ?_) (a' := ?_) #[true, false, true, true, true, true, false, true, false, false, false, false, false, false, false, false, false, false] rfl rfl (by kernel_rfl) (fun _ _ _ h => h) (Or.inl ⟨by rfl, ?_⟩) ?_ ?_
  rotate_left
  · intro w'
    go_simp
    with_reducible rfl
  rotate_left
  · simp only [Act.put, List.setIfInBounds_toArray, List.set_cons_zero, List.set_cons_succ, i64_w, i32_w]
    rfl
  refine pure_ (i := 8) (N := (some 12)) (v := ?_) (a' := ?_) #[true, false, true, true, true, true, false, true, true, false, false, false, false, false, false, false, false, false] rfl rfl (by kernel_rfl) (fun _ _ _ h => h) (Or.inl ⟨by rfl, ?_⟩) ?_ ?_
  rotate_left
  · intro w'
    go_simp
    with_reducible rfl
  rotate_left
  · simp only [Act.put, List.setIfInBounds_toArray, List.set_cons_zero, List.set_cons_succ, i64_w, i32_w]
    rfl
  refine pure_ (i := 9) (N := (some 13)) (v := ?_) (a' := ?_) #[true, false, true, true, true, true, false, true, true, true, false, false, false, false, false, false, false, false] rfl rfl (by kernel_rfl) (fun _ _ _ h => h) (Or.inl ⟨by rfl, ?_⟩) ?_ ?_
  rotate_left
  · intro w'
    go_simp
    with_reducible rfl
  rotate_left
  · simp only [Act.put, List.setIfInBounds_toArray, List.set_cons_zero, List.set_cons_succ, i64_w, i32_w]
    rfl
  refine pure_ (i := 10) (N := (some 14)) (v := ?_) (a' := ?_) #[true, false, true, true, true, true, false, true, true, true, true, false, false, false, false, false, false, false] rfl rfl (by kernel_rfl) (fun _ _ _ h => h) (Or.inl ⟨by rfl, ?_⟩) ?_ ?_
  rotate_left
  · intro w'
    go_simp
    with_reducible rfl
  rotate_left
  · simp only [Act.put, List.setIfInBounds_toArray, List.set_cons_zero, List.set_cons_succ, i64_w, i32_w]
    rfl
  refine pure_ (i := 11) (N := (some 15)) (v := ?_) (a' := ?_) #[true, false, true, true, true, true, false, true, true, true, true, true, false, false, false, false, false, false] rfl rfl (by kernel_rfl) (fun _ _ _ h => h) (Or.inl ⟨by rfl, ?_⟩) ?_ ?_
  rotate_left
  · intro w'
    go_simp
    with_reducible rfl
  rotate_left
  · simp only [Act.put, List.setIfInBounds_toArray, List.set_cons_zero, List.set_cons_succ, i64_w, i32_w]
    rfl
  refine pure_ (i := 12) (N := (some 16)) (v := ?_) (a' := ?_) #[true, false, true, true, true, true, false, true, true, true, true, true, true, false, false, false, false, false] rfl rfl (by kernel_rfl) (fun _ _ _ h => h) (Or.inl ⟨by rfl, ?_⟩) ?_ ?_
  rotate_left
  · intro w'
    go_simp
    with_reducible rfl
  rotate_left
  · simp only [Act.put, List.setIfInBounds_toArray, List.set_cons_zero, List.set_cons_succ, i64_w, i32_w]
    rfl
  refine take_ (i := 6) (N := (some 10)) (v := ?_) (a' := ?_) #[true, false, true, true, true, true, true, true, true, true, true, true, true, false, false, false, false, false] rfl rfl (by kernel_rfl) (fun _ _ _ h => h) (Or.inl ⟨by rfl, ?_⟩) hHeld ?_ ?_
  rotate_left
  · intro w' s0
    have x1 : w'.cell? ⟨gn, 1, none⟩ = some (.int .i64 r.pl) := (blk_cell s0.1 1).trans rfl
    go_simp
    with_reducible rfl
  rotate_left
  · simp only [Act.put, List.setIfInBounds_toArray, List.set_cons_zero, List.set_cons_succ, i64_w, i32_w]
    rfl
  refine take_ (i := 13) (N := (some 17)) (v := ?_) (a' := ?_) #[true, false, true, true, true, true, true, true, true, true, true, true, true, true, false, false, false, false] rfl rfl (by kernel_rfl) (fun _ _ _ h => h) (Or.inl ⟨by rfl, ?_⟩) hHeld ?_ ?_
  rotate_left
  · intro w' s0
    have x9 : w'.cell? ⟨gn, 9, none⟩ = some (.int .i64 k) := (blk_cell s0.1 9).trans rfl
    go_simp
    with_reducible rfl
  rotate_left
  · simp only [Act.put, List.setIfInBounds_toArray, List.set_cons_zero, List.set_cons_succ, i64_w, i32_w]
    rfl
  refine join_ 1 #[true, true, true, true, true, true, true, true, true, true, true, true, true, true, true, true, true, false] (fun p : Nat => [(5, .int .i64 (r.fi + k * r.ev)), (18, .int .i64 (valF r k)), (19, (.agg #[.int .i64 2, .int .i64 (r.fi + k * r.ev), .int .u8 0, .bool false, .int .i64 r.pl, .int .i64 (valF r k)])), (3, .pointer (some ⟨p, 0, none⟩))]) (fun p U => U.heap[gn]? = some (.cells (nvals r i k) 203 (0, 0)) ∧ Below w.heap.size w U ∧ U.heap[g2]? = some (.cells #[.int .i64 0, .int .i64 0, .int .u8 0, .bool false, .int .i64 0, .int .i64 0] 106 (0, 0)) ∧ U.heap[p]? = some (.cells #[.int .i64 0, .int .i64 0, .int .u8 0, .bool false, .int .i64 0, .int .i64 0] 106 (0, 0)) ∧ W1.heap.size ≤ p) ?_ ?_
  rotate_left
  · intro hcont
    refine two_ (i := 1) (j := 16) (Ni := some 5) (Nj := some 3) #[true, true, true, true, true, true, true, true, true, true, true, true, true, true, false, false, false, false] #[true, false, true, true, true, true, true, true, true, true, true, true, true, true, false, false, true, false] rfl rfl rfl rfl (by kernel_rfl) (by decide) (by decide) (fun K hK => ?_) (fun K hK => ?_)
    · refine goes_ (f := 118) Try.func118 (by kernel_rfl) rfl #[.pointer (some ⟨gn, 0, none⟩)] (by rfl) rfl rfl (by simp [Act.eval, Act.put]) ?_
      refine (at_calls gn r i k _ hHeld.1 HOK.out HK.out).mono ?_
      rintro e wx ⟨rfl, hdx⟩
      obtain ⟨nxa, rfl⟩ := hdx.out
      refine ⟨_, rfl, hK.out _ _ ⟨hHeld.1, pw_below_drewN hHeld.2.1 _, hHeld.2.2⟩ (fun hA => ?_)⟩
      simp only [Act.put, List.setIfInBounds_toArray, List.set_cons_zero, List.set_cons_succ]
      clear hK K
      refine two_ (i := 14) (j := 16) (Ni := some 18) (Nj := some 3) #[true, true, true, true, true, true, true, true, true, true, true, true, true, true, true, false, false, false] #[true, true, true, true, true, true, true, true, true, true, true, true, true, true, false, false, true, false] rfl rfl rfl rfl (by kernel_rfl) (by decide) (by decide) (fun K hK => ?_) (fun K hK => ?_)
      · refine goes_ (f := 114) Try.func114 (by kernel_rfl) rfl #[.pointer (some ⟨gn, 0, none⟩), .int .i64 k] (by rfl) rfl rfl (by simp [Act.eval, Act.put]) ?_
        refine (value_calls gn r k _ (RAt.of_blk (r := r) hA.1 rfl) HOK.out HK2.out).mono ?_
        rintro e wx ⟨rfl, hdx⟩
        obtain ⟨nxv, rfl⟩ := hdx.out
        refine ⟨_, rfl, hK.out _ _ ⟨hA.1, pw_below_drewN hA.2.1 _, hA.2.2⟩ (fun hB => ?_)⟩
        simp only [Act.put, List.setIfInBounds_toArray, List.set_cons_zero, List.set_cons_succ]
        clear hK K
        refine pure_ (i := 15) (N := (some 19)) (v := ?_) (a' := ?_) #[true, true, true, true, true, true, true, true, true, true, true, true, true, true, true, true, false, false] rfl rfl (by kernel_rfl) (fun _ _ _ h => h) (Or.inl ⟨by rfl, ?_⟩) ?_ ?_
        rotate_left
        · intro w'
          go_simp
          with_reducible rfl
        rotate_left
        · simp only [Act.put, List.setIfInBounds_toArray, List.set_cons_zero, List.set_cons_succ, i64_w, i32_w]
          rfl
        refine one_ (i := 16) (N := (some 3)) #[true, true, true, true, true, true, true, true, true, true, true, true, true, true, true, true, true, false] rfl rfl (by kernel_rfl) (by decide) (fun K hK => ?_)
        refine value_ (w1 := World.alloc ((W1.drew.drewN nxa).drewN nxv) (Obj.cells #[.int .i64 0, .int .i64 0, .int .u8 0, .bool false, .int .i64 0, .int .i64 0] 106)) (v := .pointer (some ⟨W1.heap.size, 0, none⟩)) (by rfl) rfl ?_ ?_
        · go_simp
        refine hK.out _ _ ⟨blk_alloc hB.1 _, (hB.2.1).alloc (hB.2.1).size _, blk_alloc hB.2.2 _⟩ (fun hC => ?_)
        simp only [Act.put, List.setIfInBounds_toArray, List.set_cons_zero, List.set_cons_succ]
        refine norm_ ?_ (hcont W1.heap.size _ ⟨hC.1, hC.2.1, hC.2.2, blk_new _ _, Nat.le_refl _⟩)
        rfl
      · skip
        refine value_ (w1 := World.alloc (W1.drew.drewN nxa) (Obj.cells #[.int .i64 0, .int .i64 0, .int .u8 0, .bool false, .int .i64 0, .int .i64 0] 106)) (v := .pointer (some ⟨W1.heap.size, 0, none⟩)) (by rfl) rfl ?_ ?_
        · go_simp
        refine hK.out _ _ ⟨blk_alloc hA.1 _, (hA.2.1).alloc (hA.2.1).size _, blk_alloc hA.2.2 _⟩ (fun hC => ?_)
        simp only [Act.put, List.setIfInBounds_toArray, List.set_cons_zero, List.set_cons_succ]
        clear hK K
        refine one_ (i := 14) (N := (some 18)) #[true, true, true, true, true, true, true, true, true, true, true, true, true, true, true, false, true, false] rfl rfl (by kernel_rfl) (by decide) (fun K hK => ?_)
        refine goes_ (f := 114) Try.func114 (by kernel_rfl) rfl #[.pointer (some ⟨gn, 0, none⟩), .int .i64 k] (by rfl) rfl rfl (by simp [Act.eval, Act.put]) ?_
        refine (value_calls gn r k _ (RAt.of_blk (r := r) hC.1 rfl) HOK.out HK2.out).mono ?_
        rintro e wx ⟨rfl, hdx⟩
        obtain ⟨nxv, rfl⟩ := hdx.out
        refine ⟨_, rfl, hK.out _ _ ⟨hC.1, pw_below_drewN hC.2.1 _, hC.2.2⟩ (fun hD => ?_)⟩
        simp only [Act.put, List.setIfInBounds_toArray, List.set_cons_zero, List.set_cons_succ]
        clear hK K
        refine pure_ (i := 15) (N := (some 19)) (v := ?_) (a' := ?_) #[true, true, true, true, true, true, true, true, true, true, true, true, true, true, true, true, true, false] rfl rfl (by kernel_rfl) (fun _ _ _ h => h) (Or.inl ⟨by rfl, ?_⟩) ?_ ?_
        rotate_left
        · intro w'
          go_simp
          with_reducible rfl
        rotate_left
        · simp only [Act.put, List.setIfInBounds_toArray, List.set_cons_zero, List.set_cons_succ, i64_w, i32_w]
          rfl
        refine norm_ ?_ (hcont W1.heap.size _ ⟨hD.1, hD.2.1, hD.2.2, blk_drewN (blk_new _ _) _, Nat.le_refl _⟩)
        rfl
    · skip
      refine value_ (w1 := World.alloc W1.drew (Obj.cells #[.int .i64 0, .int .i64 0, .int .u8 0, .bool false, .int .i64 0, .int .i64 0] 106)) (v := .pointer (some ⟨W1.heap.size, 0, none⟩)) (by rfl) rfl ?_ ?_
      · go_simp
      refine hK.out _ _ ⟨blk_alloc hHeld.1 _, (hHeld.2.1).alloc (hHeld.2.1).size _, blk_alloc hHeld.2.2 _⟩ (fun hC => ?_)
      simp only [Act.put, List.setIfInBounds_toArray, List.set_cons_zero, List.set_cons_succ]
      clear hK K
      refine one_ (i := 1) (N := (some 5)) #[true, true, true, true, true, true, true, true, true, true, true, true, true, true, false, false, true, false] rfl rfl (by kernel_rfl) (by decide) (fun K hK => ?_)
      refine goes_ (f := 118) Try.func118 (by kernel_rfl) rfl #[.pointer (some ⟨gn, 0, none⟩)] (by rfl) rfl rfl (by simp [Act.eval, Act.put]) ?_
      refine (at_calls gn r i k _ hC.1 HOK.out HK.out).mono ?_
      rintro e wx ⟨rfl, hdx⟩
      obtain ⟨nxa, rfl⟩ := hdx.out
      refine ⟨_, rfl, hK.out _ _ ⟨hC.1, pw_below_drewN hC.2.1 _, hC.2.2⟩ (fun hD => ?_)⟩
      simp only [Act.put, List.setIfInBounds_toArray, List.set_cons_zero, List.set_cons_succ]
      clear hK K
      refine one_ (i := 14) (N := (some 18)) #[true, true, true, true, true, true, true, true, true, true, true, true, true, true, true, false, true, false] rfl rfl (by kernel_rfl) (by decide) (fun K hK => ?_)
      refine goes_ (f := 114) Try.func114 (by kernel_rfl) rfl #[.pointer (some ⟨gn, 0, none⟩), .int .i64 k] (by rfl) rfl rfl (by simp [Act.eval, Act.put]) ?_
      refine (value_calls gn r k _ (RAt.of_blk (r := r) hD.1 rfl) HOK.out HK2.out).mono ?_
      rintro e wx ⟨rfl, hdx⟩
      obtain ⟨nxv, rfl⟩ := hdx.out
      refine ⟨_, rfl, hK.out _ _ ⟨hD.1, pw_below_drewN hD.2.1 _, hD.2.2⟩ (fun hE => ?_)⟩
      simp only [Act.put, List.setIfInBounds_toArray, List.set_cons_zero, List.set_cons_succ]
      clear hK K
      refine pure_ (i := 15) (N := (some 19)) (v := ?_) (a' := ?_) #[true, true, true, true, true, true, true, true, true, true, true, true, true, true, true, true, true, false] rfl rfl (by kernel_rfl) (fun _ _ _ h => h) (Or.inl ⟨by rfl, ?_⟩) ?_ ?_
      rotate_left
      · intro w'
        go_simp
        with_reducible rfl
      rotate_left
      · simp only [Act.put, List.setIfInBounds_toArray, List.set_cons_zero, List.set_cons_succ, i64_w, i32_w]
        rfl
      refine norm_ ?_ (hcont W1.heap.size _ ⟨hE.1, hE.2.1, hE.2.2, blk_drewN (blk_drewN (blk_new _ _) _) _, Nat.le_refl _⟩)
      rfl
  · clear hHeld
    rintro g3 U ⟨hn, hB, hg2, hg3, hle⟩
    have y0 : U.cell? ⟨g3, 0, none⟩ = some (.int .i64 0) := (blk_cell hg3 0).trans rfl
    have z0 : U.frozen? ⟨g3, 0, none⟩ = false := blk_frozen hg3 0
    have y1 : U.cell? ⟨g3, 1, none⟩ = some (.int .i64 0) := (blk_cell hg3 1).trans rfl
    have z1 : U.frozen? ⟨g3, 1, none⟩ = false := blk_frozen hg3 1
    have y2 : U.cell? ⟨g3, 2, none⟩ = some (.int .u8 0) := (blk_cell hg3 2).trans rfl
    have z2 : U.frozen? ⟨g3, 2, none⟩ = false := blk_frozen hg3 2
    have y3 : U.cell? ⟨g3, 3, none⟩ = some (.bool false) := (blk_cell hg3 3).trans rfl
    have z3 : U.frozen? ⟨g3, 3, none⟩ = false := blk_frozen hg3 3
    have y4 : U.cell? ⟨g3, 4, none⟩ = some (.int .i64 0) := (blk_cell hg3 4).trans rfl
    have z4 : U.frozen? ⟨g3, 4, none⟩ = false := blk_frozen hg3 4
    have y5 : U.cell? ⟨g3, 5, none⟩ = some (.int .i64 0) := (blk_cell hg3 5).trans rfl
    have z5 : U.frozen? ⟨g3, 5, none⟩ = false := blk_frozen hg3 5
    simp only [putAll, Act.put, List.setIfInBounds_toArray, List.set_cons_zero, List.set_cons_succ]
    refine last_ (i := 17) (N := none) #[true, true, true, true, true, true, true, true, true, true, true, true, true, true, true, true, true, true] rfl rfl (by kernel_rfl) (by decide) (fun K hK => ?_)
    refine skip_ (w1 := ((((((U.setCell ⟨g3, 0, none⟩ (.int .i64 2)).setCell ⟨g3, 1, none⟩ (.int .i64 (r.fi + k * r.ev))).setCell ⟨g3, 2, none⟩ (.int .u8 0)).setCell ⟨g3, 3, none⟩ (.bool false)).setCell ⟨g3, 4, none⟩ (.int .i64 r.pl)).setCell ⟨g3, 5, none⟩ (.int .i64 (valF r k)))) (by rfl) rfl ?_ ?_
    · go_simp
    refine hK.out _ _ ?_
    clear hK K
    refine done_ (by kernel_rfl) ?_
    have hsd := ev_stored (U := U) (b := g3) (.int .i64 2) (.int .i64 (r.fi + k * r.ev)) (.int .u8 0) (.bool false) (.int .i64 r.pl) (.int .i64 (valF r k)) hg3
    have hW1s := HG2.out
    have g23 : g2 ≠ g3 := by have := blk_lt HG2.out; omega
    have gn3 : gn ≠ g3 := by have := blk_lt HN1.out; omega
    have HGN := Aside0.mk ((hsd.2.1 gn gn3).trans hn)
    have HG22 := Aside0.mk ((hsd.2.1 g2 g23).trans hg2)
    have HG33 := Aside0.mk hsd.1
    have HBU := Aside0.mk (hsd.2.2 w.heap.size w hB (Nat.le_trans HB1.out.size hle))
    generalize ((((((U.setCell ⟨g3, 0, none⟩ (.int .i64 2)).setCell ⟨g3, 1, none⟩ (.int .i64 (r.fi + k * r.ev))).setCell ⟨g3, 2, none⟩ (.int .u8 0)).setCell ⟨g3, 3, none⟩ (.bool false)).setCell ⟨g3, 4, none⟩ (.int .i64 r.pl)).setCell ⟨g3, 5, none⟩ (.int .i64 (valF r k))) = U2 at HGN HG22 HG33 HBU ⊢
    have HG3B := Aside0.mk (show w.heap.size ≤ g3 from Nat.le_trans HB1.out.size hle)
    have HNE := Aside0.mk g23
    clear hn hB hg2 hg3 hle hsd hW1s g23 gn3 y0 y1 y2 y3 y4 y5 z0 z1 z2 z3 z4 z5 HN1 HG2 HB1 HN HOK HK HK2
    obtain ⟨wo, hwo⟩ : ∃ wo, r.wo = wo := ⟨_, rfl⟩
    have k0 : U2.cell? ⟨gn, 0, none⟩ = some (.bool wo) := by rw [← hwo]; exact (blk_cell HGN.out 0).trans rfl
    have HWO := Aside0.mk hwo
    clear hwo
    have y0 : U2.cell? ⟨g3, 0, none⟩ = some (.int .i64 2) := (blk_cell HG33.out 0).trans rfl
    have y1 : U2.cell? ⟨g3, 1, none⟩ = some (.int .i64 (r.fi + k * r.ev)) := (blk_cell HG33.out 1).trans rfl
    have y2 : U2.cell? ⟨g3, 2, none⟩ = some (.int .u8 0) := (blk_cell HG33.out 2).trans rfl
    have y3 : U2.cell? ⟨g3, 3, none⟩ = some (.bool false) := (blk_cell HG33.out 3).trans rfl
    have y4 : U2.cell? ⟨g3, 4, none⟩ = some (.int .i64 r.pl) := (blk_cell HG33.out 4).trans rfl
    have y5 : U2.cell? ⟨g3, 5, none⟩ = some (.int .i64 (valF r k)) := (blk_cell HG33.out 5).trans rfl
    have x0 : U2.cell? ⟨g2, 0, none⟩ = some (.int .i64 0) := (blk_cell HG22.out 0).trans rfl
    have x1 : U2.cell? ⟨g2, 1, none⟩ = some (.int .i64 0) := (blk_cell HG22.out 1).trans rfl
    have x2 : U2.cell? ⟨g2, 2, none⟩ = some (.int .u8 0) := (blk_cell HG22.out 2).trans rfl
    have x3 : U2.cell? ⟨g2, 3, none⟩ = some (.bool false) := (blk_cell HG22.out 3).trans rfl
    have x4 : U2.cell? ⟨g2, 4, none⟩ = some (.int .i64 0) := (blk_cell HG22.out 4).trans rfl
    have x5 : U2.cell? ⟨g2, 5, none⟩ = some (.int .i64 0) := (blk_cell HG22.out 5).trans rfl
    have f0 : U2.frozen? ⟨g2, 0, none⟩ = false := blk_frozen HG22.out 0
    have f1 : U2.frozen? ⟨g2, 1, none⟩ = false := blk_frozen HG22.out 1
    have f2 : U2.frozen? ⟨g2, 2, none⟩ = false := blk_frozen HG22.out 2
    have f3 : U2.frozen? ⟨g2, 3, none⟩ = false := blk_frozen HG22.out 3
    have f4 : U2.frozen? ⟨g2, 4, none⟩ = false := blk_frozen HG22.out 4
    have f5 : U2.frozen? ⟨g2, 5, none⟩ = false := blk_frozen HG22.out 5
    have e0 : U2.frozen? ⟨g3, 0, none⟩ = false := blk_frozen HG33.out 0
    have hne : g3 ≠ g2 := fun e => HNE.out e.symm
    have hne' : g2 ≠ g3 := HNE.out
    cases wo with
    | false =>
      go_wp2
      have hz2 := HG22.out
      have hbz := HBU.out
      have hs2 := ev_stored (U := U2) (b := g2) (.int .i64 2) (.int .i64 (r.fi + k * r.ev)) (.int .u8 0) (.bool false) (.int .i64 r.pl) (.int .i64 (valF r k)) hz2
      (try simp only [Exit.inBlock, Exit.then])
      refine bodyPost_ret (results_single rfl (.cell g2 106 #[.int .i64 2, .int .i64 (r.fi + k * r.ev), .int .u8 0, .bool false, .int .i64 r.pl, .int .i64 (valF r k)] (0, 0) _ rfl hs2.1 Try.underlying106 rfl (by kernel_rfl) .nil)) rfl ?_
      refine ⟨by unfold evV; rw [HWO.out]; rfl, hs2.2.2 w.heap.size w hbz HGB.out⟩
    | true =>
      go_wp2
      have hz2 : (U2.setCell ⟨g3, 0, none⟩ (.int .i64 3)).heap[g2]? = some (.cells #[.int .i64 0, .int .i64 0, .int .u8 0, .bool false, .int .i64 0, .int .i64 0] 106 (0, 0)) := (Below.heap_setCell U2 ⟨g3, 0, none⟩ (.int .i64 3) g2 hne').trans HG22.out
      have hbz := HBU.out.setCell HG3B.out (p := ⟨g3, 0, none⟩) (.int .i64 3)
      have hs2 := ev_stored (U := U2.setCell ⟨g3, 0, none⟩ (.int .i64 3)) (b := g2) (.int .i64 3) (.int .i64 (r.fi + k * r.ev)) (.int .u8 0) (.bool false) (.int .i64 r.pl) (.int .i64 (valF r k)) hz2
      (try simp only [Exit.inBlock, Exit.then])
      refine bodyPost_ret (results_single rfl (.cell g2 106 #[.int .i64 3, .int .i64 (r.fi + k * r.ev), .int .u8 0, .bool false, .int .i64 r.pl, .int .i64 (valF r k)] (0, 0) _ rfl hs2.1 Try.underlying106 rfl (by kernel_rfl) .nil)) rfl ?_
      refine ⟨by unfold evV; rw [HWO.out]; rfl, hs2.2.2 w.heap.size w hbz HGB.out⟩

end Go.Proofs.Ytballgciakljnaa.PRampLast

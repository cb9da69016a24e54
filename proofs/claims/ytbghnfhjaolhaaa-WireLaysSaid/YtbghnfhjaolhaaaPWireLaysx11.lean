-- Written by a program of this session, in the form of the kit's print, some functions by hand (N.B. not a file of print.sh's).
import Derived.Test.YtbghnfhjaolhaaaPWireLaysx0
import Derived.Test.YtbghnfhjaolhaaaPWireLaysx8
namespace Go.Proofs.Ytbghnfhjaolhaaa.PWireLays
open Go.RowKit Go.Proofs.YtbghnfhjaolhaaaW.PrintWords Go.Proofs.YtbghnfhjaolhaaaW.PrintLast Go.Proofs.YtbghnfhjaolhaaaW.PrintMore Go.Proofs.YtbghnfhjaolhaaaM
attribute [local go_sem] max2_int min2_int max_two min_two max_three min_three max_four min_four   -- for this text's walks alone
set_option linter.unusedVariables false
set_option linter.unusedSimpArgs false

/-! ### wire_Flip: function 35 (by hand) -/
def flipF (b : Int) (x : S54) : S54 := ⟨x.f0, Go.bits .xor .u8 x.f1 (shl .u8 1 (Int.tmod (IntKind.u64.wrap b) 8)), x.f2⟩
set_option maxRecDepth 100000 in
theorem flip_calls (g o d : Nat) (x1 b : Int) (w : World) (hx : w.cell? ⟨g, o + 1, none⟩ = some (.int .u8 x1)) (hd : w.cell? ⟨d, 0, none⟩ = some (.int .i64 b)) (hz : w.frozen? ⟨g, o + 1, none⟩ = false) :
    Calls Try.prog 77 #[.pointer (some ⟨g, o, none⟩), .pointer (some ⟨d, 0, none⟩)] w fun e w' => e = .returned (.tuple #[]) ∧ w' = (w.setCell ⟨g, o + 1, none⟩ (.int .u8 (Go.bits .xor .u8 x1 (shl .u8 1 (Int.tmod (IntKind.u64.wrap b) 8))))).drew := by
  obtain ⟨j, hj, hj8⟩ : ∃ j : Nat, Int.tmod (IntKind.u64.wrap b) 8 = (j : Int) ∧ j < 8 := by
    have h0 : 0 ≤ IntKind.u64.wrap b := by simp [IntKind.wrap, IntKind.signed, IntKind.bits]; omega
    refine ⟨(IntKind.u64.wrap b % 8).toNat, ?_, by omega⟩
    rw [Int.tmod_eq_emod_of_nonneg h0]; omega
  have hj0 : (0 : Int) ≤ (j : Int) := by omega
  have hjn : ¬ ((j : Int) < 0) := by omega
  go_enter Try.func77, Try.ntmps77
  refine start_ (n := 12) (S := fun w' => w'.cell? ⟨g, o + 1, none⟩ = some (.int .u8 x1) ∧ w'.cell? ⟨d, 0, none⟩ = some (.int .i64 b)) (ds := [11]) #[false, false, false, false, false, false, false, false, false, false, false, false] (by kernel_rfl) rfl rfl ⟨hx, hd⟩ (fun hHeld => ?_)
  refine pure_ (i := 0) (N := (some 3)) (v := ?_) (a' := ?_) #[true, false, false, false, false, false, false, false, false, false, false, false] rfl rfl (by kernel_rfl) (fun _ _ _ h => h) (Or.inl ⟨by rfl, ?_⟩) ?_ ?_
  rotate_left
  · intro w'
    go_simp
    with_reducible rfl
  rotate_left
  · simp only [Act.put, List.setIfInBounds_toArray, List.set_cons_zero, List.set_cons_succ, i64_w, i32_w]
    rfl
  refine pure_ (i := 1) (N := (some 4)) (v := ?_) (a' := ?_) #[true, true, false, false, false, false, false, false, false, false, false, false] rfl rfl (by kernel_rfl) (fun _ _ _ h => h) (Or.inl ⟨by rfl, ?_⟩) ?_ ?_
  rotate_left
  · intro w'
    go_simp
    with_reducible rfl
  rotate_left
  · simp only [Act.put, List.setIfInBounds_toArray, List.set_cons_zero, List.set_cons_succ, i64_w, i32_w]
    rfl
  refine pure_ (i := 2) (N := (some 5)) (v := ?_) (a' := ?_) #[true, true, true, false, false, false, false, false, false, false, false, false] rfl rfl (by kernel_rfl) (fun _ _ _ h => h) (Or.inl ⟨by rfl, ?_⟩) ?_ ?_
  rotate_left
  · intro w'
    go_simp
    with_reducible rfl
  rotate_left
  · simp only [Act.put, List.setIfInBounds_toArray, List.set_cons_zero, List.set_cons_succ, i64_w, i32_w]
    rfl
  refine take_ (i := 4) (N := (some 7)) (v := ?_) (a' := ?_) #[true, true, true, false, true, false, false, false, false, false, false, false] rfl rfl (by kernel_rfl) (fun _ _ _ h => h) (Or.inl ⟨by rfl, ?_⟩) hHeld ?_ ?_
  rotate_left
  · intro w' s0
    go_simp
    with_reducible rfl
  rotate_left
  · simp only [Act.put, List.setIfInBounds_toArray, List.set_cons_zero, List.set_cons_succ, i64_w, i32_w]
    rfl
  refine pure_ (i := 5) (N := (some 8)) (v := ?_) (a' := ?_) #[true, true, true, false, true, true, false, false, false, false, false, false] rfl rfl (by kernel_rfl) (fun _ _ _ h => h) (Or.inl ⟨by rfl, ?_⟩) ?_ ?_
  rotate_left
  · intro w'
    go_simp
    with_reducible rfl
  rotate_left
  · simp only [Act.put, List.setIfInBounds_toArray, List.set_cons_zero, List.set_cons_succ, i64_w, i32_w]
    rfl
  refine pure_ (i := 6) (N := (some 9)) (v := ?_) (a' := ?_) #[true, true, true, false, true, true, true, false, false, false, false, false] rfl rfl (by kernel_rfl) (fun _ _ _ h => h) (Or.inl ⟨by rfl, ?_⟩) ?_ ?_
  rotate_left
  · intro w'
    go_simp
    with_reducible rfl
  rotate_left
  · simp only [Act.put, List.setIfInBounds_toArray, List.set_cons_zero, List.set_cons_succ, i64_w, i32_w]
    rfl
  refine pure_ (i := 7) (N := (some 10)) (v := ?_) (a' := ?_) #[true, true, true, false, true, true, true, true, false, false, false, false] rfl rfl (by kernel_rfl) (fun _ _ _ h => h) (Or.inl ⟨by rfl, ?_⟩) ?_ ?_
  rotate_left
  · intro w'
    go_simp
    with_reducible rfl
  rotate_left
  · simp only [Act.put, List.setIfInBounds_toArray, List.set_cons_zero, List.set_cons_succ, i64_w, i32_w]
    rfl
  refine take_ (i := 3) (N := (some 6)) (v := ?_) (a' := ?_) #[true, true, true, true, true, true, true, true, false, false, false, false] rfl rfl (by kernel_rfl) (fun _ _ _ h => h) (Or.inl ⟨by rfl, ?_⟩) hHeld ?_ ?_
  rotate_left
  · intro w' s0
    go_simp
    with_reducible rfl
  rotate_left
  · simp only [Act.put, List.setIfInBounds_toArray, List.set_cons_zero, List.set_cons_succ, i64_w, i32_w]
    rfl
  refine pure_ (i := 8) (N := (some 11)) (v := ?_) (a' := ?_) #[true, true, true, true, true, true, true, true, true, false, false, false] rfl rfl (by kernel_rfl) (fun _ _ _ h => h) (Or.inl ⟨by rfl, ?_⟩) ?_ ?_
  rotate_left
  · intro w'
    go_simp
    with_reducible rfl
  rotate_left
  · simp only [Act.put, List.setIfInBounds_toArray, List.set_cons_zero, List.set_cons_succ, i64_w, i32_w]
    rfl
  refine pure_ (i := 9) (N := (some 12)) (v := ?_) (a' := ?_) #[true, true, true, true, true, true, true, true, true, true, false, false] rfl rfl (by kernel_rfl) (fun _ _ _ h => h) (Or.inl ⟨by rfl, ?_⟩) ?_ ?_
  rotate_left
  · intro w'
    go_simp
    with_reducible rfl
  rotate_left
  · simp only [Act.put, List.setIfInBounds_toArray, List.set_cons_zero, List.set_cons_succ, i64_w, i32_w]
    rfl
  refine pure_ (i := 10) (N := (some 13)) (v := ?_) (a' := ?_) #[true, true, true, true, true, true, true, true, true, true, true, false] rfl rfl (by kernel_rfl) (fun _ _ _ h => h) (Or.inl ⟨by rfl, ?_⟩) ?_ ?_
  rotate_left
  · intro w'
    go_simp
    with_reducible rfl
  rotate_left
  · simp only [Act.put, List.setIfInBounds_toArray, List.set_cons_zero, List.set_cons_succ, i64_w, i32_w]
    rfl
  obtain ⟨hH1, hH2⟩ := hHeld
  have hzd : w.drew.frozen? ⟨g, o + 1, none⟩ = false := hz
  refine last_ (i := 11) (N := none) #[true, true, true, true, true, true, true, true, true, true, true, true] rfl rfl (by kernel_rfl) (by decide) (fun K hK => ?_)
  refine skip_ (w1 := ?_) (by rfl) rfl ?_ ?_
  rotate_left
  · go_simp
    rfl
  refine hK.out _ _ ?_
  clear hK K
  refine done_ (by kernel_rfl) ?_
  go_end0
  have hs : shl .u8 1 (Int.tmod (IntKind.u64.wrap b) 8) = IntKind.u8.wrap (2 ^ j) := by
    rw [hj]
    unfold shl
    rw [Int.toNat_natCast, Int.one_mul, Nat.min_eq_left (by show j ≤ 8; omega)]
  rw [hs]
  exact ⟨rfl, rfl⟩
theorem flip_turns (w : World) (d : Nat) (b : Int) (hd : w.cell? ⟨d, 0, none⟩ = some (.int .i64 b)) (hlt : d < w.heap.size) : Turns 77 [.pointer (some ⟨d, 0, none⟩)] w (flipF b) := by
  refine ⟨fun args W => enters_ (fn := Try.f77) (by kernel_rfl) (by kernel_rfl) rfl args W, ?_⟩
  intro W g o x hB hg h0 h1 h2 hf
  refine (flip_calls g o d x.f1 b W h1 ((hB.cell hlt).trans hd) (hf 1)).mono ?_
  rintro e w' ⟨rfl, rfl⟩
  exact ⟨rfl, 1, _, 1, by omega, rfl, rfl⟩
def wire_Flip.f (l0 : List S54) (a1 : Int) (a2 : Int) : Option (List S54) := if l0.length < 8796093022208 then some (withF (flipF a2) l0 a1) else none
set_option maxRecDepth 100000 in
theorem wire_Flip.calls (A0 : Option Addr) (c0 : Nat) (l0 : List S54) (a1 : Int) (a2 : Int) (r : List S54) (w : World) (hr0 : Kd.C k54 w A0 l0.length l0) (hc0 : l0.length ≤ c0) (h : wire_Flip.f l0 a1 a2 = some r) :
    Calls Try.prog 35 #[.slice A0 l0.length c0, .int .i64 a1, .int .i64 a2] w fun e w' => ∃ v0_ : Value, e = .returned (v0_) ∧ Kd.R k54 54 w' w.heap.size (fun _ => True) v0_ r ∧ Below w.heap.size w w' := by
  unfold wire_Flip.f at h
  split at h
  case isFalse => cases h
  case isTrue hl =>
  obtain rfl := Option.some.inj h
  obtain ⟨W, hW⟩ : ∃ W, W = w.alloc (.cells #[.int .i64 a2] 3) := ⟨_, rfl⟩
  have hs : W.heap.size = w.heap.size + 1 := by rw [hW]; simp
  have hb : Below w.heap.size w W := by rw [hW]; exact (Below.refl w.heap.size w).alloc (Nat.le_refl _) _
  have hd : W.cell? ⟨w.heap.size, 0, none⟩ = some (.int .i64 a2) := by rw [hW]; exact (blk_cell (blk_new w _) 0)
  have H := Aside0.mk (with_calls 77 A0 c0 l0 a1 [.pointer (some ⟨w.heap.size, 0, none⟩)] _ W (Kd.C_below hr0 hb) hc0 hl (flip_turns W w.heap.size a2 hd (by omega)))
  have HW := Aside0.mk hW
  have HB := Aside0.mk hb
  have HS := Aside0.mk hs
  clear h hr0 hc0 hW hb hd hs
  go_enter Try.func35, Try.ntmps35
  go_wp2_with (go_at_call 75; rw [← HW.out]; refine H.out.mono ?_; rintro e w1 ⟨v1, rfl, hr, hg⟩; have HR := Aside0.mk hr; have HG := Aside0.mk hg; clear hr hg)
  go_ret
  exact ⟨_, rfl, Kd.R_lower HR.out (by rw [HS.out]; omega), HB.out.trans (HG.out.mono (by rw [HS.out]; omega))⟩

end Go.Proofs.Ytbghnfhjaolhaaa.PWireLays

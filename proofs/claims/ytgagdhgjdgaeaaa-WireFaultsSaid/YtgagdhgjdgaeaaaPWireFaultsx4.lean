-- Written by a program of this session, in the form of the kit's print, some functions by hand (N.B. not a file of print.sh's).
import Derived.Test.YtgagdhgjdgaeaaaPWireFaultsx0
import Derived.Test.YtgagdhgjdgaeaaaPWireFaultsx3
import Derived.Test.YtgagdhgjdgaeaaaPWireFaultsx2
import Derived.Test.YtgagdhgjdgaeaaaPWireFaultsx1
namespace Go.Proofs.Ytgagdhgjdgaeaaa.PWireFaults
open Go.RowKit Go.Proofs.YtgagdhgjdgaeaaaW.PrintWords Go.Proofs.YtgagdhgjdgaeaaaW.PrintLast Go.Proofs.YtgagdhgjdgaeaaaW.PrintMore Go.Proofs.YtgagdhgjdgaeaaaM
attribute [local go_sem] max2_int min2_int max_two min_two max_three min_three max_four min_four   -- for this text's walks alone
set_option linter.unusedVariables false
set_option linter.unusedSimpArgs false

/-! ### wire_Flip: function 15 (by hand) -/
def flipF (b : Int) (x : S52) : S52 := ⟨x.f0, Go.bits .xor .u8 x.f1 (shl .u8 1 (Int.tmod (IntKind.u64.wrap b) 8)), x.f2⟩
set_option maxRecDepth 100000 in
theorem flip_calls (g o d : Nat) (x1 b : Int) (w : World) (hx : w.cell? ⟨g, o + 1, none⟩ = some (.int .u8 x1)) (hd : w.cell? ⟨d, 0, none⟩ = some (.int .i64 b)) (hz : w.frozen? ⟨g, o + 1, none⟩ = false) :
    Calls Try.prog 33 #[.pointer (some ⟨g, o, none⟩), .pointer (some ⟨d, 0, none⟩)] w fun e w' => e = .returned (.tuple #[]) ∧ w' = (w.setCell ⟨g, o + 1, none⟩ (.int .u8 (Go.bits .xor .u8 x1 (shl .u8 1 (Int.tmod (IntKind.u64.wrap b) 8))))).drew := by
  obtain ⟨j, hj, hj8⟩ : ∃ j : Nat, Int.tmod (IntKind.u64.wrap b) 8 = (j : Int) ∧ j < 8 := by
    have h0 : 0 ≤ IntKind.u64.wrap b := by simp [IntKind.wrap, IntKind.signed, IntKind.bits]; omega
    refine ⟨(IntKind.u64.wrap b % 8).toNat, ?_, by omega⟩
    rw [Int.tmod_eq_emod_of_nonneg h0]; omega
  have hj0 : (0 : Int) ≤ (j : Int) := by omega
  have hjn : ¬ ((j : Int) < 0) := by omega
  go_enter Try.func33, Try.ntmps33
  refine start_ (n := 12) (S := fun w' => w'.cell? ⟨g, o + 1, none⟩ = some (.int .u8 x1) ∧ w'.cell? ⟨d, 0, none⟩ = some (.int .i64 b)) (ds := [11]) #[false, false, false, false, false, false, false, false, false, false, false, false] (by kernel_rfl) rfl rfl ⟨hx, hd⟩ (fun hHeld => ?_)
  refine pure_ (i := 0) (N := (some 3)) (v := ?_) (a' := ?_) #[true, false, false, false, false, false, false, false, false, false, false, false] rfl rfl (by kernel_rfl) (fun _ _ _ h => h) (Or.inl ⟨by rfl, ?_⟩) ?_ ?_
  rotate_left
  · intro w'
    go_simp
    with_reducible rfl
  rotate_left
  · simp only [Act.put, List.setIfInBounds_toArray, List.set_cons_zero, List.set_cons_succ, i64_w, i32_w]
    rfl
  refine pure_ (i := 1) (N := (some 4)) (v := ?_) (a' := ?_) #[true, true, false, false, false, false, false, false, false, false, false, false] rfl rfl (by kernel_rfl) (fun _ _ _ h => h) (Or.inl ⟨by rfl, ?_⟩) ?_ ?_
  rotate_left
  · intro w'
    go_simp
    with_reducible rfl
  rotate_left
  · simp only [Act.put, List.setIfInBounds_toArray, List.set_cons_zero, List.set_cons_succ, i64_w, i32_w]
    rfl
  refine pure_ (i := 2) (N := (some 5)) (v := ?_) (a' := ?_) #[true, true, true, false, false, false, false, false, false, false, false, false] rfl rfl (by kernel_rfl) (fun _ _ _ h => h) (Or.inl ⟨by rfl, ?_⟩) ?_ ?_
  rotate_left
  · intro w'
    go_simp
    with_reducible rfl
  rotate_left
  · simp only [Act.put, List.setIfInBounds_toArray, List.set_cons_zero, List.set_cons_succ, i64_w, i32_w]
    rfl
  refine take_ (i := 4) (N := (some 7)) (v := ?_) (a' := ?_) #[true, true, true, false, true, false, false, false, false, false, false, false] rfl rfl (by kernel_rfl) (fun _ _ _ h => h) (Or.inl ⟨by rfl, ?_⟩) hHeld ?_ ?_
  rotate_left
  · intro w' s0
    go_simp
    with_reducible rfl
  rotate_left
  · simp only [Act.put, List.setIfInBounds_toArray, List.set_cons_zero, List.set_cons_succ, i64_w, i32_w]
    rfl
  refine pure_ (i := 5) (N := (some 8)) (v := ?_) (a' := ?_) #[true, true, true, false, true, true, false, false, false, false, false, false] rfl rfl (by kernel_rfl) (fun _ _ _ h => h) (Or.inl ⟨by rfl, ?_⟩) ?_ ?_
  rotate_left
  · intro w'
    go_simp
    with_reducible rfl
  rotate_left
  · simp only [Act.put, List.setIfInBounds_toArray, List.set_cons_zero, List.set_cons_succ, i64_w, i32_w]
    rfl
  refine pure_ (i := 6) (N := (some 9)) (v := ?_) (a' := ?_) #[true, true, true, false, true, true, true, false, false, false, false, false] rfl rfl (by kernel_rfl) (fun _ _ _ h => h) (Or.inl ⟨by rfl, ?_⟩) ?_ ?_
  rotate_left
  · intro w'
    go_simp
    with_reducible rfl
  rotate_left
  · simp only [Act.put, List.setIfInBounds_toArray, List.set_cons_zero, List.set_cons_succ, i64_w, i32_w]
    rfl
  refine pure_ (i := 7) (N := (some 10)) (v := ?_) (a' := ?_) #[true, true, true, false, true, true, true, true, false, false, false, false] rfl rfl (by kernel_rfl) (fun _ _ _ h => h) (Or.inl ⟨by rfl, ?_⟩) ?_ ?_
  rotate_left
  · intro w'
    go_simp
    with_reducible rfl
  rotate_left
  · simp only [Act.put, List.setIfInBounds_toArray, List.set_cons_zero, List.set_cons_succ, i64_w, i32_w]
    rfl
  refine take_ (i := 3) (N := (some 6)) (v := ?_) (a' := ?_) #[true, true, true, true, true, true, true, true, false, false, false, false] rfl rfl (by kernel_rfl) (fun _ _ _ h => h) (Or.inl ⟨by rfl, ?_⟩) hHeld ?_ ?_
  rotate_left
  · intro w' s0
    go_simp
    with_reducible rfl
  rotate_left
  · simp only [Act.put, List.setIfInBounds_toArray, List.set_cons_zero, List.set_cons_succ, i64_w, i32_w]
    rfl
  refine pure_ (i := 8) (N := (some 11)) (v := ?_) (a' := ?_) #[true, true, true, true, true, true, true, true, true, false, false, false] rfl rfl (by kernel_rfl) (fun _ _ _ h => h) (Or.inl ⟨by rfl, ?_⟩) ?_ ?_
  rotate_left
  · intro w'
    go_simp
    with_reducible rfl
  rotate_left
  · simp only [Act.put, List.setIfInBounds_toArray, List.set_cons_zero, List.set_cons_succ, i64_w, i32_w]
    rfl
  refine pure_ (i := 9) (N := (some 12)) (v := ?_) (a' := ?_) #[true, true, true, true, true, true, true, true, true, true, false, false] rfl rfl (by kernel_rfl) (fun _ _ _ h => h) (Or.inl ⟨by rfl, ?_⟩) ?_ ?_
  rotate_left
  · intro w'
    go_simp
    with_reducible rfl
  rotate_left
  · simp only [Act.put, List.setIfInBounds_toArray, List.set_cons_zero, List.set_cons_succ, i64_w, i32_w]
    rfl
  refine pure_ (i := 10) (N := (some 13)) (v := ?_) (a' := ?_) #[true, true, true, true, true, true, true, true, true, true, true, false] rfl rfl (by kernel_rfl) (fun _ _ _ h => h) (Or.inl ⟨by rfl, ?_⟩) ?_ ?_
  rotate_left
  · intro w'
    go_simp
    with_reducible rfl
  rotate_left
  · simp only [Act.put, List.setIfInBounds_toArray, List.set_cons_zero, List.set_cons_succ, i64_w, i32_w]
    rfl
  obtain ⟨hH1, hH2⟩ := hHeld
  have hzd : w.drew.frozen? ⟨g, o + 1, none⟩ = false := hz
  refine last_ (i := 11) (N := none) #[true, true, true, true, true, true, true, true, true, true, true, true] rfl rfl (by kernel_rfl) (by decide) (fun K hK => ?_)
  refine skip_ (w1 := ?_) (by rfl) rfl ?_ ?_
  rotate_left
  · go_simp
    rfl
  refine hK.out _ _ ?_
  clear hK K
  refine done_ (by kernel_rfl) ?_
  go_end0
  have hs : shl .u8 1 (Int.tmod (IntKind.u64.wrap b) 8) = IntKind.u8.wrap (2 ^ j) := by
    rw [hj]
    unfold shl
    rw [Int.toNat_natCast, Int.one_mul, Nat.min_eq_left (by show j ≤ 8; omega)]
  rw [hs]
  exact ⟨rfl, rfl⟩
theorem flip_turns (w : World) (d : Nat) (b : Int) (hd : w.cell? ⟨d, 0, none⟩ = some (.int .i64 b)) (hlt : d < w.heap.size) : Turns 33 [.pointer (some ⟨d, 0, none⟩)] w (flipF b) := by
  refine ⟨fun args W => enters_ (fn := Try.f33) (by kernel_rfl) (by kernel_rfl) rfl args W, ?_⟩
  intro W g o x hB hg h0 h1 h2 hf
  refine (flip_calls g o d x.f1 b W h1 ((hB.cell hlt).trans hd) (hf 1)).mono ?_
  rintro e w' ⟨rfl, rfl⟩
  exact ⟨rfl, 1, _, 1, by omega, rfl, rfl⟩
def wire_Flip.f (l0 : List S52) (a1 : Int) (a2 : Int) : Option (List S52) := if l0.length < 8796093022208 then some (withF (flipF a2) l0 a1) else none
set_option maxRecDepth 100000 in
theorem wire_Flip.calls (A0 : Option Addr) (c0 : Nat) (l0 : List S52) (a1 : Int) (a2 : Int) (r : List S52) (w : World) (hr0 : Kd.C k52 w A0 l0.length l0) (hc0 : l0.length ≤ c0) (h : wire_Flip.f l0 a1 a2 = some r) :
    Calls Try.prog 15 #[.slice A0 l0.length c0, .int .i64 a1, .int .i64 a2] w fun e w' => ∃ v0_ : Value, e = .returned (v0_) ∧ Kd.R k52 52 w' w.heap.size (fun _ => True) v0_ r ∧ Below w.heap.size w w' := by
  unfold wire_Flip.f at h
  split at h
  case isFalse => cases h
  case isTrue hl =>
  obtain rfl := Option.some.inj h
  obtain ⟨W, hW⟩ : ∃ W, W = w.alloc (.cells #[.int .i64 a2] 3) := ⟨_, rfl⟩
  have hs : W.heap.size = w.heap.size + 1 := by rw [hW]; simp
  have hb : Below w.heap.size w W := by rw [hW]; exact (Below.refl w.heap.size w).alloc (Nat.le_refl _) _
  have hd : W.cell? ⟨w.heap.size, 0, none⟩ = some (.int .i64 a2) := by rw [hW]; exact (blk_cell (blk_new w _) 0)
  have H := Aside0.mk (with_calls 33 A0 c0 l0 a1 [.pointer (some ⟨w.heap.size, 0, none⟩)] _ W (Kd.C_below hr0 hb) hc0 hl (flip_turns W w.heap.size a2 hd (by omega)))
  have HW := Aside0.mk hW
  have HB := Aside0.mk hb
  have HS := Aside0.mk hs
  clear h hr0 hc0 hW hb hd hs
  go_enter Try.func15, Try.ntmps15
  go_wp2_with (go_at_call 31; rw [← HW.out]; refine H.out.mono ?_; rintro e w1 ⟨v1, rfl, hr, hg⟩; have HR := Aside0.mk hr; have HG := Aside0.mk hg; clear hr hg)
  go_ret
  exact ⟨_, rfl, Kd.R_lower HR.out (by rw [HS.out]; omega), HB.out.trans (HG.out.mono (by rw [HS.out]; omega))⟩

/-! ### wire_Delay: function 17 (by hand) -/
def delayF (b : Int) (x : S52) : S52 := ⟨(clock_Add.f x.f0 b).getD 0, x.f1, x.f2⟩
theorem add_some (a b : Int) : clock_Add.f a b = some ((clock_Add.f a b).getD 0) := rfl
set_option maxRecDepth 100000 in
theorem delay_calls (g o d : Nat) (x0 b : Int) (w : World) (hx : w.cell? ⟨g, o, none⟩ = some (.int .i64 x0)) (hd : w.cell? ⟨d, 0, none⟩ = some (.int .i64 b)) (hz : w.frozen? ⟨g, o, none⟩ = false) :
    Calls Try.prog 38 #[.pointer (some ⟨g, o, none⟩), .pointer (some ⟨d, 0, none⟩)] w fun e w' => e = .returned (.tuple #[]) ∧ ∃ n, w' = (w.setCell ⟨g, o, none⟩ (.int .i64 ((clock_Add.f x0 b).getD 0))).drewN n := by
  go_enter Try.func38, Try.ntmps38
  refine start_ (n := 10) (S := fun w' => ∃ m, w' = w.drewN m) (ds := [9]) #[false, false, false, false, false, false, false, false, false, false] (by kernel_rfl) rfl rfl ⟨1, rfl⟩ (fun hHeld => ?_)
  refine pure_ (i := 0) (N := (some 3)) (v := ?_) (a' := ?_) #[true, false, false, false, false, false, false, false, false, false] rfl rfl (by kernel_rfl) (fun _ _ _ h => h) (Or.inl ⟨by rfl, ?_⟩) ?_ ?_
  rotate_left
  · intro w'
    go_simp
    with_reducible rfl
  rotate_left
  · simp only [Act.put, List.setIfInBounds_toArray, List.set_cons_zero, List.set_cons_succ, i64_w, i32_w]
    rfl
  refine pure_ (i := 1) (N := (some 4)) (v := ?_) (a' := ?_) #[true, true, false, false, false, false, false, false, false, false] rfl rfl (by kernel_rfl) (fun _ _ _ h => h) (Or.inl ⟨by rfl, ?_⟩) ?_ ?_
  rotate_left
  · intro w'
    go_simp
    with_reducible rfl
  rotate_left
  · simp only [Act.put, List.setIfInBounds_toArray, List.set_cons_zero, List.set_cons_succ, i64_w, i32_w]
    rfl
  refine pure_ (i := 2) (N := (some 5)) (v := ?_) (a' := ?_) #[true, true, true, false, false, false, false, false, false, false] rfl rfl (by kernel_rfl) (fun _ _ _ h => h) (Or.inl ⟨by rfl, ?_⟩) ?_ ?_
  rotate_left
  · intro w'
    go_simp
    with_reducible rfl
  rotate_left
  · simp only [Act.put, List.setIfInBounds_toArray, List.set_cons_zero, List.set_cons_succ, i64_w, i32_w]
    rfl
  refine pure_ (i := 3) (N := (some 6)) (v := ?_) (a' := ?_) #[true, true, true, true, false, false, false, false, false, false] rfl rfl (by kernel_rfl) (fun _ _ _ h => h) (Or.inl ⟨by rfl, ?_⟩) ?_ ?_
  rotate_left
  · intro w'
    go_simp
    with_reducible rfl
  rotate_left
  · simp only [Act.put, List.setIfInBounds_toArray, List.set_cons_zero, List.set_cons_succ, i64_w, i32_w]
    rfl
  refine take_ (i := 4) (N := (some 7)) (v := ?_) (a' := ?_) #[true, true, true, true, true, false, false, false, false, false] rfl rfl (by kernel_rfl) (fun _ _ _ h => h) (Or.inl ⟨by rfl, ?_⟩) hHeld ?_ ?_
  rotate_left
  · intro w' s0
    obtain ⟨m, rfl⟩ := s0
    have hx' : (w.drewN m).cell? ⟨g, o, none⟩ = some (.int .i64 x0) := hx
    have hd' : (w.drewN m).cell? ⟨d, 0, none⟩ = some (.int .i64 b) := hd
    go_simp
    with_reducible rfl
  rotate_left
  · simp only [Act.put, List.setIfInBounds_toArray, List.set_cons_zero, List.set_cons_succ, i64_w, i32_w]
    rfl
  refine take_ (i := 5) (N := (some 8)) (v := ?_) (a' := ?_) #[true, true, true, true, true, true, false, false, false, false] rfl rfl (by kernel_rfl) (fun _ _ _ h => h) (Or.inl ⟨by rfl, ?_⟩) hHeld ?_ ?_
  rotate_left
  · intro w' s0
    obtain ⟨m, rfl⟩ := s0
    have hx' : (w.drewN m).cell? ⟨g, o, none⟩ = some (.int .i64 x0) := hx
    have hd' : (w.drewN m).cell? ⟨d, 0, none⟩ = some (.int .i64 b) := hd
    go_simp
    with_reducible rfl
  rotate_left
  · simp only [Act.put, List.setIfInBounds_toArray, List.set_cons_zero, List.set_cons_succ, i64_w, i32_w]
    rfl
  refine one_ (i := 6) (N := (some 9)) #[true, true, true, true, true, true, true, false, false, false] rfl rfl (by kernel_rfl) (by decide) (fun K hK => ?_)
  refine goes_ (f := 24) Try.func24 (by kernel_rfl) rfl #[.int .i64 x0, .int .i64 b] (by rfl) rfl rfl (by simp [Act.eval, Act.put]) ?_
  refine (clock_Add.calls x0 b _ _ (add_some x0 b)).mono ?_
  rintro e w' ⟨rfl, hw'⟩
  obtain ⟨m, rfl⟩ : ∃ m, w' = w.drewN m := by
    obtain ⟨k, rfl⟩ := hw'.out
    exact ((Drawn0.mk ⟨1, rfl⟩ : Drawn0 w w.drew).step k).out
  refine ⟨_, rfl, hK.out _ _ ⟨m, rfl⟩ (fun _ => ?_)⟩
  simp only [Act.put, List.setIfInBounds_toArray, List.set_cons_zero, List.set_cons_succ]
  clear hK K hw' hHeld
  refine pure_ (i := 7) (N := (some 10)) (v := ?_) (a' := ?_) #[true, true, true, true, true, true, true, true, false, false] rfl rfl (by kernel_rfl) (fun _ _ _ h => h) (Or.inl ⟨by rfl, ?_⟩) ?_ ?_
  rotate_left
  · intro w'
    go_simp
    with_reducible rfl
  rotate_left
  · simp only [Act.put, List.setIfInBounds_toArray, List.set_cons_zero, List.set_cons_succ, i64_w, i32_w]
    rfl
  refine pure_ (i := 8) (N := (some 11)) (v := ?_) (a' := ?_) #[true, true, true, true, true, true, true, true, true, false] rfl rfl (by kernel_rfl) (fun _ _ _ h => h) (Or.inl ⟨by rfl, ?_⟩) ?_ ?_
  rotate_left
  · intro w'
    go_simp
    with_reducible rfl
  rotate_left
  · simp only [Act.put, List.setIfInBounds_toArray, List.set_cons_zero, List.set_cons_succ, i64_w, i32_w]
    rfl
  refine last_ (i := 9) (N := none) #[true, true, true, true, true, true, true, true, true, true] rfl rfl (by kernel_rfl) (by decide) (fun K hK => ?_)
  have hx' : (w.drewN m).cell? ⟨g, o, none⟩ = some (.int .i64 x0) := hx
  have hz' : (w.drewN m).frozen? ⟨g, o, none⟩ = false := hz
  refine skip_ (w1 := ?_) (by rfl) rfl ?_ ?_
  rotate_left
  · go_simp
    rfl
  refine hK.out _ _ ?_
  clear hK K
  refine done_ (by kernel_rfl) ?_
  go_end0
  exact ⟨rfl, m, rfl⟩
theorem delay_turns (w : World) (d : Nat) (b : Int) (hd : w.cell? ⟨d, 0, none⟩ = some (.int .i64 b)) (hlt : d < w.heap.size) : Turns 38 [.pointer (some ⟨d, 0, none⟩)] w (delayF b) := by
  refine ⟨fun args W => enters_ (fn := Try.f38) (by kernel_rfl) (by kernel_rfl) rfl args W, ?_⟩
  intro W g o x hB hg h0 h1 h2 hf
  refine (delay_calls g o d x.f0 b W h0 ((hB.cell hlt).trans hd) (hf 0)).mono ?_
  rintro e w' ⟨rfl, n, rfl⟩
  exact ⟨rfl, 0, _, n, by omega, rfl, rfl⟩
theorem rd_set (xs : List S52) (k : Nat) (y : S52) (j : Nat) (h : k < xs.length) : rd_T52 (xs.set k y) j = if j = k then y else rd_T52 xs j := by
  unfold rd_T52
  rw [Int.toNat_natCast, List.getD_eq_getElem?_getD, List.getD_eq_getElem?_getD, List.getElem?_set]
  by_cases hj : j = k
  · subst hj
    rw [if_pos rfl, if_pos h, if_pos rfl]; rfl
  · rw [if_neg (fun e => hj e.symm), if_neg hj]
def delayL (F : S52 → S52) (l : List S52) (k : Int) : List S52 := if 0 ≤ k ∧ k < (l.length : Int) then l.take k.toNat ++ (l.drop k.toNat).map F else l
def wire_Delay.f (l0 : List S52) (a1 : Int) (a2 : Int) : Option (List S52) := if l0.length < 8796093022208 then some (delayL (delayF a2) l0 a1) else none
set_option maxRecDepth 100000 in
theorem wire_Delay.calls (A0 : Option Addr) (c0 : Nat) (l0 : List S52) (a1 : Int) (a2 : Int) (r : List S52) (w : World) (hr0 : Kd.C k52 w A0 l0.length l0) (hc0 : l0.length ≤ c0) (h : wire_Delay.f l0 a1 a2 = some r) :
    Calls Try.prog 17 #[.slice A0 l0.length c0, .int .i64 a1, .int .i64 a2] w fun e w' => ∃ v0_ : Value, e = .returned (v0_) ∧ Kd.R k52 52 w' w.heap.size (fun _ => True) v0_ r ∧ Below w.heap.size w w' := by
  unfold wire_Delay.f at h
  split at h
  case isFalse => cases h
  case isTrue hl =>
  obtain rfl := Option.some.inj h
  obtain ⟨W, hW⟩ : ∃ W, W = w.alloc (.cells #[.int .i64 a2] 3) := ⟨_, rfl⟩
  have hs : W.heap.size = w.heap.size + 1 := by rw [hW]; simp
  have hb : Below w.heap.size w W := by rw [hW]; exact (Below.refl w.heap.size w).alloc (Nat.le_refl _) _
  have hd : W.cell? ⟨w.heap.size, 0, none⟩ = some (.int .i64 a2) := by rw [hW]; exact (blk_cell (blk_new w _) 0)
  have HT := Aside0.mk (delay_turns W w.heap.size a2 hd (by omega))
  have H := Aside0.mk (with_calls 38 A0 c0 l0 a1 [.pointer (some ⟨w.heap.size, 0, none⟩)] _ W (Kd.C_below hr0 hb) hc0 hl HT.out)
  have HW := Aside0.mk hW
  have HB := Aside0.mk hb
  have HS := Aside0.mk (show w.heap.size ≤ W.heap.size by omega)
  clear h hr0 hc0 hW hb hd hs
  by_cases hk : 0 ≤ a1 ∧ a1 < (l0.length : Int)
  · have e1 : withF (delayF a2) l0 a1 = l0.set a1.toNat (delayF a2 (rd_T52 l0 a1)) := if_pos hk
    have e2 : delayL (delayF a2) l0 a1 = l0.take a1.toNat ++ (l0.drop a1.toNat).map (delayF a2) := if_pos hk
    rw [e2]
    rw [e1] at H
    obtain ⟨hk0, hk1⟩ := hk
    obtain ⟨q, rfl⟩ := Int.eq_ofNat_of_zero_le hk0
    rw [Int.toNat_natCast] at H ⊢
    obtain ⟨n, hn⟩ : ∃ n, l0.length = n := ⟨_, rfl⟩
    obtain ⟨m, hm⟩ : ∃ m, n = q + 1 + m := ⟨n - (q + 1), by omega⟩
    have HN := Aside0.mk hn
    have HM := Aside0.mk hm
    have hq : q < n := by omega
    have HQ := Aside0.mk hq
    have hnl : n < 8796093022208 := by omega
    have hw1 : wrap64 ((q : Int) + 1) = (q : Int) + 1 := by unfold wrap64; omega
    have hlenS : (l0.set q (delayF a2 (rd_T52 l0 q))).length = n := by rw [List.length_set, hn]
    have HLS := Aside0.mk hlenS
    rw [hn] at H ⊢
    obtain ⟨RR, hRR⟩ : ∃ RR, RR = l0.take q ++ (l0.drop q).map (delayF a2) := ⟨_, rfl⟩
    rw [← hRR]
    have HRR := Aside0.mk hRR
    clear e1 e2 hk0 hn hm hl hlenS hk1 hRR
    go_enter Try.func17, Try.ntmps17
    go_wp2_with (go_at_call 31; rw [← HW.out]; refine H.out.mono ?_; rintro e w1 ⟨v1, rfl, hr, hg⟩; obtain ⟨g, co, rfl, hgb, hgs, cells, hcells⟩ := Kd.R_form hr (by rw [HLS.out]; have := HQ.out; omega); rw [HLS.out] at hr ⊢; have HR := Aside0.mk hr; have HG := Aside0.mk hg; have HGB := Aside0.mk hgb; have HGS := Aside0.mk hgs; clear hr hg hgb hgs hcells cells)
    · subst co
      have hmi : ((n - (q + 1) : Nat) : Int) = (m : Int) := by have := HM.out; omega
      rw [hmi]
      clear hmi
      go_loopw [29, 9] (fun v29 v9 wr => ∃ i : Nat, i ≤ m ∧ v29 = .int .i64 (i : Int) ∧ Aside0 (∃ xs : List S52, xs.length = n ∧ (∀ j : Nat, j < n → rd_T52 xs j = if q ≤ j ∧ j < q + 1 + i then delayF a2 (rd_T52 l0 j) else rd_T52 l0 j) ∧ Kd.R k52 52 wr W.heap.size (fun _ => True) (.slice (some ⟨g, 0, none⟩) n (q + 1)) xs) ∧ Aside0 (Below W.heap.size W wr)) (fun v29 _ _ => m - (intOf v29).toNat)
      case atStart =>
        refine ⟨0, Nat.zero_le _, rfl, ⟨_, HLS.out, fun j hj => ?_, HR.out⟩, HG⟩
        rw [rd_set l0 _ _ j (by rw [HN.out]; exact HQ.out)]
        by_cases hji : j = q
        · rw [if_pos hji, if_pos (by omega), hji]
        · rw [if_neg hji, if_neg (by omega)]
      case round =>
        obtain ⟨i, hi, rfl, ⟨xs, hxl, hx, hR⟩, HBr⟩ := hrel
        have HX := Aside0.mk hx
        have HXR := Aside0.mk hR
        have HXL := Aside0.mk hxl
        clear hx hR hxl
        by_cases hlt : i < m
        · have hqi : q + 1 + i < n := by have := HM.out; omega
          have hlt0 : (i : Int) < (m : Int) := by omega
          go_wp2_with fail
          have HG1 := touch_at HXR.out hqi
          refine (HT.out.2 wr g ((q + 1 + i) * 3) _ HBr.out HGB.out HG1.1 HG1.2.1 HG1.2.2.1 HG1.2.2.2).mono ?_
          rintro e w3 ⟨rfl, i', v, n', hi', rfl, he⟩
          obtain ⟨hr3, hg3⟩ := touch (m := n') HXR.out hqi hi' he
          have HR3 := Aside0.mk hr3
          have HB3 := Aside0.mk (pw_below_drewN (HBr.out.grown hg3 HBr.out.size (fun k hk => by cases hk; exact HGB.out)) n')
          clear hr3 hg3 HG1 he
          go_wp2
          go_roundw
          case rel =>
            refine ⟨i + 1, by omega, by go_num, ⟨_, by rw [List.length_set]; exact HXL.out, fun j hj => ?_, HR3.out⟩, HB3⟩
            have hxj := HX.out j hj
            rw [rd_set xs _ _ j (by rw [HXL.out]; exact hqi)]
            by_cases hji : j = q + 1 + i
            · have hx2 := HX.out (q + 1 + i) hqi
              rw [if_neg (by omega)] at hx2
              rw [if_pos hji, if_pos (by omega), hx2, hji]
            · rw [if_neg hji, hxj]
              by_cases hc : q ≤ j ∧ j < q + 1 + i
              · rw [if_pos hc, if_pos (by omega)]
              · rw [if_neg hc, if_neg (by omega)]
          case measure => simp [intOf]; omega
        · have hge : ¬ (i : Int) < (m : Int) := by omega
          go_wp2
          go_ret
          have hfin : l0.take q ++ (l0.drop q).map (delayF a2) = xs := by
            have hN := HN.out
            have hL := HXL.out
            apply List.ext_getElem
            · rw [List.length_append, List.length_take, List.length_map, List.length_drop]; omega
            · intro j h1 h2
              have hj := HX.out j (by omega)
              unfold rd_T52 at hj
              rw [Int.toNat_natCast, List.getD_eq_getElem?_getD, List.getElem?_eq_getElem h2, List.getD_eq_getElem?_getD, List.getElem?_eq_getElem (by omega : j < l0.length), Option.getD_some, Option.getD_some] at hj
              rw [hj]
              by_cases hc : j < q
              · rw [if_neg (by omega), List.getElem_append_left (by rw [List.length_take]; omega), List.getElem_take]
              · rw [if_pos (by have := HM.out; omega), List.getElem_append_right (by rw [List.length_take]; omega), List.getElem_map, List.getElem_drop]
                congr 2
                rw [List.length_take]; omega
          rw [HRR.out.trans hfin]
          exact ⟨_, rfl, Kd.R_lower HXR.out HS.out, HB.out.trans (HBr.out.mono HS.out)⟩
    · skip
      have hmi : ((n - (q + 1) : Nat) : Int) = (m : Int) := by have := HM.out; omega
      rw [hmi]
      clear hmi
      go_loopw [29, 9] (fun v29 v9 wr => ∃ i : Nat, i ≤ m ∧ v29 = .int .i64 (i : Int) ∧ Aside0 (∃ xs : List S52, xs.length = n ∧ (∀ j : Nat, j < n → rd_T52 xs j = if q ≤ j ∧ j < q + 1 + i then delayF a2 (rd_T52 l0 j) else rd_T52 l0 j) ∧ Kd.R k52 52 wr W.heap.size (fun _ => True) (.slice (some ⟨g, 0, none⟩) n co) xs) ∧ Aside0 (Below W.heap.size W wr)) (fun v29 _ _ => m - (intOf v29).toNat)
      case atStart =>
        refine ⟨0, Nat.zero_le _, rfl, ⟨_, HLS.out, fun j hj => ?_, HR.out⟩, HG⟩
        rw [rd_set l0 _ _ j (by rw [HN.out]; exact HQ.out)]
        by_cases hji : j = q
        · rw [if_pos hji, if_pos (by omega), hji]
        · rw [if_neg hji, if_neg (by omega)]
      case round =>
        obtain ⟨i, hi, rfl, ⟨xs, hxl, hx, hR⟩, HBr⟩ := hrel
        have HX := Aside0.mk hx
        have HXR := Aside0.mk hR
        have HXL := Aside0.mk hxl
        clear hx hR hxl
        by_cases hlt : i < m
        · have hqi : q + 1 + i < n := by have := HM.out; omega
          have hlt0 : (i : Int) < (m : Int) := by omega
          go_wp2_with fail
          have HG1 := touch_at HXR.out hqi
          refine (HT.out.2 wr g ((q + 1 + i) * 3) _ HBr.out HGB.out HG1.1 HG1.2.1 HG1.2.2.1 HG1.2.2.2).mono ?_
          rintro e w3 ⟨rfl, i', v, n', hi', rfl, he⟩
          obtain ⟨hr3, hg3⟩ := touch (m := n') HXR.out hqi hi' he
          have HR3 := Aside0.mk hr3
          have HB3 := Aside0.mk (pw_below_drewN (HBr.out.grown hg3 HBr.out.size (fun k hk => by cases hk; exact HGB.out)) n')
          clear hr3 hg3 HG1 he
          go_wp2
          go_roundw
          case rel =>
            refine ⟨i + 1, by omega, by go_num, ⟨_, by rw [List.length_set]; exact HXL.out, fun j hj => ?_, HR3.out⟩, HB3⟩
            have hxj := HX.out j hj
            rw [rd_set xs _ _ j (by rw [HXL.out]; exact hqi)]
            by_cases hji : j = q + 1 + i
            · have hx2 := HX.out (q + 1 + i) hqi
              rw [if_neg (by omega)] at hx2
              rw [if_pos hji, if_pos (by omega), hx2, hji]
            · rw [if_neg hji, hxj]
              by_cases hc : q ≤ j ∧ j < q + 1 + i
              · rw [if_pos hc, if_pos (by omega)]
              · rw [if_neg hc, if_neg (by omega)]
          case measure => simp [intOf]; omega
        · have hge : ¬ (i : Int) < (m : Int) := by omega
          go_wp2
          go_ret
          have hfin : l0.take q ++ (l0.drop q).map (delayF a2) = xs := by
            have hN := HN.out
            have hL := HXL.out
            apply List.ext_getElem
            · rw [List.length_append, List.length_take, List.length_map, List.length_drop]; omega
            · intro j h1 h2
              have hj := HX.out j (by omega)
              unfold rd_T52 at hj
              rw [Int.toNat_natCast, List.getD_eq_getElem?_getD, List.getElem?_eq_getElem h2, List.getD_eq_getElem?_getD, List.getElem?_eq_getElem (by omega : j < l0.length), Option.getD_some, Option.getD_some] at hj
              rw [hj]
              by_cases hc : j < q
              · rw [if_neg (by omega), List.getElem_append_left (by rw [List.length_take]; omega), List.getElem_take]
              · rw [if_pos (by have := HM.out; omega), List.getElem_append_right (by rw [List.length_take]; omega), List.getElem_map, List.getElem_drop]
                congr 2
                rw [List.length_take]; omega
          rw [HRR.out.trans hfin]
          exact ⟨_, rfl, Kd.R_lower HXR.out HS.out, HB.out.trans (HBr.out.mono HS.out)⟩
  · have e1 : withF (delayF a2) l0 a1 = l0 := if_neg hk
    have e2 : delayL (delayF a2) l0 a1 = l0 := if_neg hk
    rw [e2]
    rw [e1] at H
    have d1 : (decide (a1 < 0) || decide ((l0.length : Int) ≤ a1)) = true := by
      rw [Bool.or_eq_true, decide_eq_true_eq, decide_eq_true_eq]; omega
    clear e1 e2 hk
    go_enter Try.func17, Try.ntmps17
    go_wp2_with (go_at_call 31; rw [← HW.out]; refine H.out.mono ?_; rintro e w1 ⟨v1, rfl, hr, hg⟩; obtain ⟨Ao, co, rfl⟩ := Kd.R_slice hr; have HR := Aside0.mk hr; have HG := Aside0.mk hg; clear hr hg)
    all_goals (go_ret; exact ⟨_, rfl, Kd.R_lower HR.out HS.out, HB.out.trans (HG.out.mono HS.out)⟩)

/-! ### wire_Events: function 20 -/
def wire_Events.l0 : Nat → List (S54) → List (S52) → Int → Int → Option ((List (S54)))
  | 0, _, _, _, _ => none
  | k + 1, x2, x5, x6, x7 => if x7 < x6 then (if 0 ≤ x7 then (if x7 < (x5.length : Int) then (if x2.length < 3518437208883 then (wire_Events.l0 k (x2 ++ [(⟨1, (rd_T52 x5 x7).f0, (rd_T52 x5 x7).f1, (rd_T52 x5 x7).f2, 0, 0⟩ : S54)]) x5 x6 (wrap64 (x7 + 1))) else (none)) else (none)) else (none)) else (some x2)
def wire_Events.f (k : Nat) (l0 : List (S52)) : Option ((List (S54))) := wire_Events.l0 k ([] : List (S54)) l0 (l0.length : Int) 0
theorem wire_Events.mono_l : ∀ k, (∀ y0 y1 y2 y3, LeO (wire_Events.l0 k y0 y1 y2 y3) (wire_Events.l0 (k + 1) y0 y1 y2 y3))
  | 0 => fun _ _ _ _ r h => by simp [wire_Events.l0] at h
  | k + 1 => by
    have ih0 := wire_Events.mono_l k
    · intro y0 y1 y2 y3
      unfold wire_Events.l0
      repeat' first
      | (with_reducible exact ih0 _ _ _ _)
      | (with_reducible exact LeO.refl _)
      | (with_reducible exact LeO.none _)
      | (with_reducible refine LeO.ite ?_ ?_)
      | (with_reducible refine LeO.bind ?_ (fun _ => ?_))
      | exact ih0 _ _ _ _
      | exact LeO.none _
      | refine LeO.ite ?_ ?_
      | refine LeO.bind ?_ (fun _ => ?_)
theorem wire_Events.mono : ∀ a0 k, LeO (wire_Events.f k a0) (wire_Events.f (k + 1) a0) := by
  intro a0 k
  have ih0 := wire_Events.mono_l k
  unfold wire_Events.f
  repeat' first
      | (with_reducible exact ih0 _ _ _ _)
      | (with_reducible exact LeO.refl _)
      | (with_reducible exact LeO.none _)
      | (with_reducible refine LeO.ite ?_ ?_)
      | (with_reducible refine LeO.bind ?_ (fun _ => ?_))
      | exact ih0 _ _ _ _
      | exact LeO.none _
      | refine LeO.ite ?_ ?_
      | refine LeO.bind ?_ (fun _ => ?_)
set_option maxHeartbeats 8000000 in
set_option maxRecDepth 100000 in
theorem wire_Events.calls (k : Nat) (A0 : Option Addr) (c0 : Nat) (l0 : List (S52)) (r : List (S54)) (w : World) (hr0 : Kd.C k52 w A0 l0.length l0) (hc0 : l0.length ≤ c0) (h : wire_Events.f k l0 = some r) :
    Calls Try.prog 20 #[.slice A0 l0.length c0] w fun e w' => ∃ v0_ : Value, e = .returned (v0_) ∧ Kd.R k54 54 w' w.heap.size (fun _ => True) v0_ r ∧ Below w.heap.size w w' := by
  have hu52 := Try.underlying52
  have hu54 := Try.underlying54
  have HR0 := Aside0.mk hr0
  have HC0 := Aside0.mk hc0
  clear hr0 hc0
  have HB := Aside0.mk (Below.refl w.heap.size w)
  have H : (wire_Events.l0 k ([] : List (S54)) l0 (l0.length : Int) 0) = some r := h
  clear h
  have H' := Aside0.mk H
  clear H
  go_enter Try.func20, Try.ntmps20
  go_wp2
  go_loopg [2, 7] k (fun kq v2 v7 w' => ∃ (x2_1 : List (S54)) (x7_1 : Int), v7 = .int .i64 x7_1 ∧ Aside0 (wire_Events.l0 kq x2_1 l0 (l0.length : Int) x7_1 = some r) ∧ Aside0 (kq ≤ k) ∧ Aside0 (Kd.R k54 54 w' w.heap.size (fun _ => True) v2 x2_1) ∧ Aside0 (Below w.heap.size w w'))
  case atStart => exact ⟨(([] : List (S54))), (0), (by first | rfl | (simp; done) | (simp [*]; done)), H', ⟨Nat.le_refl _⟩, ⟨by first | exact Kd.R_nil _ _ _ _ _ | exact Kd.N_nil _ _ _ _ _ | exact Kd.V_nil _ _ _ _ _ | exact Kd.Q_nil _ _ _ _ _ | exact Kd.S_nil _ _ _ _ _⟩, ⟨by repeat (first | (with_reducible first | exact HB.out | apply below_alloc | apply pw_below_drewN | apply below_drew1) | exact HB.out)⟩⟩
  case round =>
    clear H'
    obtain ⟨x2_1, x7_1, rfl, HA, HK1, HO_2, HB⟩ := hrel
    cases gk with
    | zero => exact absurd HA.out (by simp [wire_Events.l0])
    | succ k1 =>
      have H := HA.out
      clear HA
      simp only [wire_Events.l0] at H
      by_cases c2 : x7_1 < (l0.length : Int)
      · rw [if_pos c2] at H
        have c2b0 : decide (x7_1 < (l0.length : Int)) = true := decide_eq_true c2
        clear c2
        by_cases c3 : 0 ≤ x7_1
        · rw [if_pos c3] at H
          have c3b0 : decide (0 ≤ x7_1) = true := decide_eq_true c3
          clear c3
          by_cases c4 : x7_1 < (l0.length : Int)
          · rw [if_pos c4] at H
            have c4b0 : decide (x7_1 < (l0.length : Int)) = true := decide_eq_true c4
            clear c4
            by_cases c5 : x2_1.length < 3518437208883
            · rw [if_pos c5] at H
              have LMc5 := Aside0.mk c5
              clear c5
              obtain ⟨y132, hy132⟩ : ∃ y_ : List (S54), y_ = (x2_1 ++ [(⟨1, (rd_T52 l0 x7_1).f0, (rd_T52 l0 x7_1).f1, (rd_T52 l0 x7_1).f2, 0, 0⟩ : S54)]) := ⟨_, rfl⟩
              replace H : (wire_Events.l0 k1 y132 l0 (l0.length : Int) (wrap64 (x7_1 + 1))) = some r := by first | (rw [hy132]; with_reducible exact H) | (have H2_ := (Option.bind_some _ _).symm.trans H; rw [hy132]; with_reducible exact H2_) | (have H2_ := (Option.bind_some _ _).symm.trans H; with_reducible exact H2_) | with_reducible exact H | (rw [hy132]; exact H) | exact H
              have Ny132 := Aside0.mk hy132
              clear hy132
              have H' := Aside0.mk H
              clear H
              have p130 : 0 ≤ (x7_1 : Int) := of_decide_eq_true (by first | (with_reducible assumption) | assumption)
              have q130 : x7_1 < (l0.length : Int) := of_decide_eq_true (by first | (with_reducible assumption) | assumption)
              obtain ⟨ad130, e130, hx130_0, hx130_1, hx130_2⟩ := at_T52 HR0.out x7_1 p130 q130
              cases e130
              replace hx130_0 := (HB.out.cell (World.block_lt_of_cell? w _ hx130_0)).trans hx130_0
              replace hx130_1 := (HB.out.cell (World.block_lt_of_cell? w _ hx130_1)).trans hx130_1
              replace hx130_2 := (HB.out.cell (World.block_lt_of_cell? w _ hx130_2)).trans hx130_2
              replace p130 := eq_true p130
              replace q130 := eq_true q130
              go_wp2_with (first | ((with_reducible refine gate_dst (N := 4) rfl ?_); refine box_event ?hg (N := 4) ?hd (cs := #[.int .i64 0, .int .u8 0, .bool false]) (t := 52) ?hr ?_; (case hd => rfl); (case hg => rfl); (case hr => first | (go_simp; done) | (go_simp; rfl)); intro gb131 hg w6 hbox hb; have n0_ := Aside0.mk (Kd.R_below (by (with_reducible repeat (first | apply Kd.R_alloc | apply Kd.R_drewN | apply Kd.R_drew)); exact HO_2.out) hb); have n1_ := Aside0.mk (below_step (by repeat (first | (with_reducible first | exact HB.out | apply below_alloc | apply pw_below_drewN | apply below_drew1) | exact HB.out)) hb); have n2_ := Aside0.mk (hbox); have n3_ := Aside0.mk ((by rw [hg]; exact (below_size (by repeat (first | (with_reducible first | exact HB.out | apply below_alloc | apply pw_below_drewN | apply below_drew1) | exact HB.out))) : w.heap.size ≤ gb131)); have n4_ := Aside0.mk ((by rw [hg]; exact (below_size (by repeat (first | (with_reducible first | exact HB.out | apply below_alloc | apply pw_below_drewN | apply below_drew1) | exact HB.out))) : w.heap.size ≤ gb131)); clear HO_2; clear HB; have HO_2 := n0_; have HB := n1_; have BK131 := n2_; have GW131 := n3_; have GE131 := n4_; clear n0_ n1_ n2_ n3_ n4_; clear hb hbox hg; have hcz7_0 : w6.cell? ⟨gb131, 0, none⟩ = some (.int .i64 0) := (blk_cell BK131.out 0).trans rfl; have hcz7_1 : w6.cell? ⟨gb131, 1, none⟩ = some (.int .u8 0) := (blk_cell BK131.out 1).trans rfl; have hcz7_2 : w6.cell? ⟨gb131, 2, none⟩ = some (.bool false) := (blk_cell BK131.out 2).trans rfl; have hfz7_0 := blk_frozen BK131.out 0; have hfz7_1 := blk_frozen BK131.out 1; have hfz7_2 := blk_frozen BK131.out 2) | ((with_reducible refine gate_builtin (b := .append) (xs := #[.tmp 11, .tmp 19]) rfl ?_); at_builtin; refine Kd.R_append k54 (w0 := w) w.heap.size rfl (.tmp 11) (.tmp 19) 48 54 (.agg #[(.int .i64 0), (.int .i64 0), (.int .u8 0), (.bool false), (.int .i64 0), (.int .i64 0)]) 40 rfl Try.underlying48 info54 rfl (by decide) (by omega) u2 x2_1 (⟨1, (rd_T52 l0 x7_1).f0, (rd_T52 l0 x7_1).f1, (rd_T52 l0 x7_1).f2, 0, 0⟩ : S54) [.int .i64 1, .int .i64 ((rd_T52 l0 x7_1).f0), .int .u8 ((rd_T52 l0 x7_1).f1), .bool ((rd_T52 l0 x7_1).f2), .int .i64 0, .int .i64 0] (fun _ => True) (fun _ => False) rfl (by first | (go_simp; done) | (go_simp; rfl)) ?aP (fun _ hk => hk.elim) ?aF ?aO ?aB ?aS ?aL ?_; (case aP => exact k54_mkM _ _ _ (⟨1, (rd_T52 l0 x7_1).f0, (rd_T52 l0 x7_1).f1, (rd_T52 l0 x7_1).f2, 0, 0⟩ : S54)); (case aB => exact (by repeat (first | (with_reducible first | exact HB.out | apply below_alloc | apply pw_below_drewN | apply below_drew1 | refine below_set ?_ GE131.out) | exact HB.out))); (case aF => exact (fun _ _ => trivial)); (case aO => exact (by (with_reducible repeat (first | apply Kd.R_alloc | apply Kd.R_drewN | apply Kd.R_drew)); exact Kd.R_mono (Kd.R_far (p := ⟨gb131, 2, none⟩) (Kd.R_far (p := ⟨gb131, 1, none⟩) (Kd.R_far (p := ⟨gb131, 0, none⟩) (Kd.R_types HO_2.out BK131.out (by decide)) (fun _ hk => hk.2) (.int .i64 ((rd_T52 l0 x7_1).f0))) (fun _ hk => hk.2) (.int .u8 ((rd_T52 l0 x7_1).f1))) (fun _ hk => hk.2) (.bool ((rd_T52 l0 x7_1).f2))) (fun _ hk => trivial))); (case aS => exact (below_size (by repeat (first | (with_reducible first | exact HB.out | apply below_alloc | apply pw_below_drewN | apply below_drew1 | refine below_set ?_ GE131.out) | exact HB.out)))); (case aL => have := LMc5.out; omega); intro v133 w8 ho hb hg hat; rw [← Ny132.out] at ho; have n0_ := Aside0.mk (blk_grown (g := gb131) (o := .cells #[.int .i64 ((rd_T52 l0 x7_1).f0), .int .u8 ((rd_T52 l0 x7_1).f1), .bool ((rd_T52 l0 x7_1).f2)] 52 (0, 0)) (by (with_reducible repeat (first | refine blk_drewN ?_ _ | refine blk_drew ?_ | refine blk_alloc ?_ _)); refine blk_put (cs := #[.int .i64 ((rd_T52 l0 x7_1).f0), .int .u8 ((rd_T52 l0 x7_1).f1), .bool false]) ?_ 2 _ rfl; (with_reducible repeat (first | refine blk_drewN ?_ _ | refine blk_drew ?_ | refine blk_alloc ?_ _)); refine blk_put (cs := #[.int .i64 ((rd_T52 l0 x7_1).f0), .int .u8 0, .bool false]) ?_ 1 _ rfl; (with_reducible repeat (first | refine blk_drewN ?_ _ | refine blk_drew ?_ | refine blk_alloc ?_ _)); refine blk_put (cs := #[.int .i64 0, .int .u8 0, .bool false]) ?_ 0 _ rfl; (with_reducible repeat (first | refine blk_drewN ?_ _ | refine blk_drew ?_ | refine blk_alloc ?_ _)); exact BK131.out) hg (Kd.R_ne HO_2.out BK131.out (by decide))); have n1_ := Aside0.mk (hb); have n2_ := Aside0.mk (ho); clear BK131; clear HB; clear HO_2; have BK131 := n0_; have HB := n1_; have HO134 := n2_; clear n0_ n1_ n2_; clear ho hb hg hat))
              go_roundg k1
              case measure => have := HK1.out; omega
              case rel => exact ⟨(y132), (wrap64 (x7_1 + 1)), (by first | rfl | (simp; done) | (simp [*]; done)), H', ⟨by have := HK1.out; omega⟩, ⟨by (with_reducible repeat (first | apply Kd.R_alloc | apply Kd.R_drewN | apply Kd.R_drew)); exact HO134.out⟩, ⟨by repeat (first | (with_reducible first | exact HB.out | apply below_alloc | apply pw_below_drewN | apply below_drew1 | refine below_set ?_ GE131.out) | exact HB.out)⟩⟩
            · rw [if_neg c5] at H
              exact absurd H (by simp)
          · rw [if_neg c4] at H
            exact absurd H (by simp)
        · rw [if_neg c3] at H
          exact absurd H (by simp)
      · rw [if_neg c2] at H
        have c2b0 : decide (x7_1 < (l0.length : Int)) = false := decide_eq_false c2
        clear c2
        obtain rfl := Option.some.inj H
        go_wp2
        go_ret
        exact ⟨_, by first | rfl | (simp [errW_none, errW_some] <;> rfl) | (simp [*, errW_none, errW_some] <;> rfl), by (with_reducible repeat (first | apply Kd.R_alloc | apply Kd.R_drewN | apply Kd.R_drew)); exact HO_2.out, by repeat (first | (with_reducible first | exact HB.out | apply below_alloc | apply pw_below_drewN | apply below_drew1) | exact HB.out)⟩

attribute [local go_sem high] eqA52
/-! ### bilgeref28_Same: function 21 -/
def bilgeref28_Same.l0 : Nat → List (S52) → List (S52) → Int → Option (Bool)
  | 0, _, _, _ => none
  | k + 1, x0, x1, x5 => if x5 < (x0.length : Int) then (if 0 ≤ x5 then (if x5 < (x1.length : Int) then (if (!(((rd_T52 x0 x5).f0) == ((rd_T52 x1 x5).f0)) || (!(((rd_T52 x0 x5).f1) == ((rd_T52 x1 x5).f1)) || (!(((rd_T52 x0 x5).f2) == ((rd_T52 x1 x5).f2))))) = true then (some false) else (bilgeref28_Same.l0 k x0 x1 (wrap64 (x5 + 1)))) else (none)) else (none)) else (some true)
def bilgeref28_Same.f (k : Nat) (l0 : List (S52)) (l1 : List (S52)) : Option (Bool) := if (l0.length : Int) = (l1.length : Int) then (bilgeref28_Same.l0 k l0 l1 0) else (some false)
theorem bilgeref28_Same.mono_l : ∀ k, (∀ y0 y1 y2, LeO (bilgeref28_Same.l0 k y0 y1 y2) (bilgeref28_Same.l0 (k + 1) y0 y1 y2))
  | 0 => fun _ _ _ r h => by simp [bilgeref28_Same.l0] at h
  | k + 1 => by
    have ih0 := bilgeref28_Same.mono_l k
    · intro y0 y1 y2
      unfold bilgeref28_Same.l0
      repeat' first
      | (with_reducible exact ih0 _ _ _)
      | (with_reducible exact LeO.refl _)
      | (with_reducible exact LeO.none _)
      | (with_reducible refine LeO.ite ?_ ?_)
      | (with_reducible refine LeO.bind ?_ (fun _ => ?_))
      | exact ih0 _ _ _
      | exact LeO.none _
      | refine LeO.ite ?_ ?_
      | refine LeO.bind ?_ (fun _ => ?_)
theorem bilgeref28_Same.mono : ∀ a0 a1 k, LeO (bilgeref28_Same.f k a0 a1) (bilgeref28_Same.f (k + 1) a0 a1) := by
  intro a0 a1 k
  have ih0 := bilgeref28_Same.mono_l k
  unfold bilgeref28_Same.f
  repeat' first
      | (with_reducible exact ih0 _ _ _)
      | (with_reducible exact LeO.refl _)
      | (with_reducible exact LeO.none _)
      | (with_reducible refine LeO.ite ?_ ?_)
      | (with_reducible refine LeO.bind ?_ (fun _ => ?_))
      | exact ih0 _ _ _
      | exact LeO.none _
      | refine LeO.ite ?_ ?_
      | refine LeO.bind ?_ (fun _ => ?_)
set_option maxHeartbeats 8000000 in
set_option maxRecDepth 100000 in
theorem bilgeref28_Same.calls (k : Nat) (A0 : Option Addr) (c0 : Nat) (l0 : List (S52)) (A1 : Option Addr) (c1 : Nat) (l1 : List (S52)) (r : Bool) (w : World) (hr0 : Kd.C k52 w A0 l0.length l0) (hc0 : l0.length ≤ c0) (hr1 : Kd.C k52 w A1 l1.length l1) (hc1 : l1.length ≤ c1) (h : bilgeref28_Same.f k l0 l1 = some r) :
    Calls Try.prog 21 #[.slice A0 l0.length c0, .slice A1 l1.length c1] w fun e w' => e = .returned (.bool r) ∧ Drawn0 w w' := by
  have hu52 := Try.underlying52
  have HR0 := Aside0.mk hr0
  have HC0 := Aside0.mk hc0
  clear hr0 hc0
  have HR1 := Aside0.mk hr1
  have HC1 := Aside0.mk hc1
  clear hr1 hc1
  have H : (if (l0.length : Int) = (l1.length : Int) then (bilgeref28_Same.l0 k l0 l1 0) else (some false)) = some r := h
  clear h
  by_cases c3 : (l0.length : Int) = (l1.length : Int)
  · rw [if_pos c3] at H
    have c3b0 : ((l0.length : Int) == (l1.length : Int)) = true := beq_iff_eq.mpr c3
    have c3b1 : ((l0.length : Int) != (l1.length : Int)) = false := bne_eq_false_iff_eq.mpr c3
    have c3b2 : (l0.length == l1.length) = true := by first | simpa using c3 | (simp at c3 ⊢; omega)
    clear c3
    have H' := Aside0.mk H
    clear H
    go_enter Try.func21, Try.ntmps21
    go_wp2
    repeat (go_quiet (fail); try go_wp2)
    go_loopg [5] k (fun kq v5 w' => ∃ (x5_1 : Int), v5 = .int .i64 x5_1 ∧ Aside0 (bilgeref28_Same.l0 kq l0 l1 x5_1 = some r) ∧ Aside0 (kq ≤ k) ∧ Drawn0 w w')
    case atStart => exact ⟨(0), (by first | rfl | (simp; done) | (simp [*]; done)), H', ⟨Nat.le_refl _⟩, by repeat (first | exact Drawn0.refl _ | apply Drawn0.step)⟩
    case round =>
      clear H'
      try clear c1
      try clear c2
      try clear p2
      try clear c3
      try clear c3b0
      try clear c3b1
      try clear c3b2
      obtain ⟨x5_1, rfl, HA, HK1, ⟨m1, rfl⟩⟩ := hrel
      cases gk with
      | zero => exact absurd HA.out (by simp [bilgeref28_Same.l0])
      | succ k1 =>
        have H := HA.out
        clear HA
        simp only [bilgeref28_Same.l0] at H
        by_cases c4 : x5_1 < (l0.length : Int)
        · rw [if_pos c4] at H
          have c4b0 : decide (x5_1 < (l0.length : Int)) = true := decide_eq_true c4
          clear c4
          by_cases c5 : 0 ≤ x5_1
          · rw [if_pos c5] at H
            have c5b0 : decide (0 ≤ x5_1) = true := decide_eq_true c5
            clear c5
            by_cases c6 : x5_1 < (l1.length : Int)
            · rw [if_pos c6] at H
              have c6b0 : decide (x5_1 < (l1.length : Int)) = true := decide_eq_true c6
              clear c6
              by_cases c7 : (!(((rd_T52 l0 x5_1).f0) == ((rd_T52 l1 x5_1).f0)) || (!(((rd_T52 l0 x5_1).f1) == ((rd_T52 l1 x5_1).f1)) || (!(((rd_T52 l0 x5_1).f2) == ((rd_T52 l1 x5_1).f2))))) = true
              · rw [if_pos c7] at H
                have c7b0 : (!(((rd_T52 l0 x5_1).f0) == ((rd_T52 l1 x5_1).f0)) || (!(((rd_T52 l0 x5_1).f1) == ((rd_T52 l1 x5_1).f1)) || (!(((rd_T52 l0 x5_1).f2) == ((rd_T52 l1 x5_1).f2))))) = true := c7
                clear c7
                obtain rfl := Option.some.inj H
                have p135 : 0 ≤ (x5_1 : Int) := of_decide_eq_true (by first | (with_reducible assumption) | assumption)
                have q135 : x5_1 < (l0.length : Int) := of_decide_eq_true (by first | (with_reducible assumption) | assumption)
                obtain ⟨ad135, e135, hx135_0, hx135_1, hx135_2⟩ := at_T52 HR0.out x5_1 p135 q135
                cases e135
                replace p135 := eq_true p135
                replace q135 := eq_true q135
                have p136 : 0 ≤ (x5_1 : Int) := of_decide_eq_true (by first | (with_reducible assumption) | assumption)
                have q136 : x5_1 < (l1.length : Int) := of_decide_eq_true (by first | (with_reducible assumption) | assumption)
                obtain ⟨ad136, e136, hx136_0, hx136_1, hx136_2⟩ := at_T52 HR1.out x5_1 p136 q136
                cases e136
                replace p136 := eq_true p136
                replace q136 := eq_true q136
                go_wp2
                repeat (go_quiet (fail); try go_wp2)
                go_ret
                exact ⟨by first | rfl | (simp; done) | (simp [*]; done), by repeat (first | exact Drawn0.refl _ | apply Drawn0.step)⟩
              · rw [if_neg c7] at H
                have c7b0 : (!(((rd_T52 l0 x5_1).f0) == ((rd_T52 l1 x5_1).f0)) || (!(((rd_T52 l0 x5_1).f1) == ((rd_T52 l1 x5_1).f1)) || (!(((rd_T52 l0 x5_1).f2) == ((rd_T52 l1 x5_1).f2))))) = false := by simpa using c7
                clear c7
                have H' := Aside0.mk H
                clear H
                have p135 : 0 ≤ (x5_1 : Int) := of_decide_eq_true (by first | (with_reducible assumption) | assumption)
                have q135 : x5_1 < (l0.length : Int) := of_decide_eq_true (by first | (with_reducible assumption) | assumption)
                obtain ⟨ad135, e135, hx135_0, hx135_1, hx135_2⟩ := at_T52 HR0.out x5_1 p135 q135
                cases e135
                replace p135 := eq_true p135
                replace q135 := eq_true q135
                have p136 : 0 ≤ (x5_1 : Int) := of_decide_eq_true (by first | (with_reducible assumption) | assumption)
                have q136 : x5_1 < (l1.length : Int) := of_decide_eq_true (by first | (with_reducible assumption) | assumption)
                obtain ⟨ad136, e136, hx136_0, hx136_1, hx136_2⟩ := at_T52 HR1.out x5_1 p136 q136
                cases e136
                replace p136 := eq_true p136
                replace q136 := eq_true q136
                go_wp2
                repeat (go_quiet (fail); try go_wp2)
                go_roundg k1
                case measure => have := HK1.out; omega
                case rel => exact ⟨(wrap64 (x5_1 + 1)), (by first | rfl | (simp; done) | (simp [*]; done)), H', ⟨by have := HK1.out; omega⟩, by repeat (first | exact Drawn0.refl _ | apply Drawn0.step)⟩
            · rw [if_neg c6] at H
              exact absurd H (by simp)
          · rw [if_neg c5] at H
            exact absurd H (by simp)
        · rw [if_neg c4] at H
          have c4b0 : decide (x5_1 < (l0.length : Int)) = false := decide_eq_false c4
          clear c4
          obtain rfl := Option.some.inj H
          go_wp2
          repeat (go_quiet (fail); try go_wp2)
          go_ret
          exact ⟨by first | rfl | (simp; done) | (simp [*]; done), by repeat (first | exact Drawn0.refl _ | apply Drawn0.step)⟩
  · rw [if_neg c3] at H
    have c3b0 : ((l0.length : Int) == (l1.length : Int)) = false := beq_eq_false_iff_ne.mpr c3
    have c3b1 : ((l0.length : Int) != (l1.length : Int)) = true := bne_iff_ne.mpr c3
    have c3b2 : (l0.length == l1.length) = false := by first | simpa using c3 | (simp at c3 ⊢; omega)
    obtain rfl := Option.some.inj H
    go_enter Try.func21, Try.ntmps21
    go_wp2
    repeat (go_quiet (fail); try go_wp2)
    go_ret
    exact ⟨by first | rfl | (simp; done) | (simp [*]; done), by repeat (first | exact Drawn0.refl _ | apply Drawn0.step)⟩

end Go.Proofs.Ytgagdhgjdgaeaaa.PWireFaults

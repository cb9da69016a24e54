-- Written by a program of this session, in the form of the kit's print, some functions by hand (N.B. not a file of print.sh's).
import Derived.Test.YtballgciakljnaaPTextTellsx0
import Derived.Test.YtballgciakljnaaPTextTellsx1
namespace Go.Proofs.Ytballgciakljnaa.PTextTells
open Go.RowKit Go.Proofs.YtballgciakljnaaW.PrintWords Go.Proofs.YtballgciakljnaaW.PrintLast Go.Proofs.YtballgciakljnaaW.PrintMore Go.Proofs.YtballgciakljnaaM
attribute [local go_sem] max2_int min2_int max_two min_two max_three min_three max_four min_four   -- for this text's walks alone
set_option linter.unusedVariables false
set_option linter.unusedSimpArgs false

/-! ### text_Write: function 17 (by hand) -/
/-- A text that is being said: its block, and the bytes so far. -/
def Sd (w : World) (B b : Nat) (v : Value) (xs : List Int) : Prop := (∃ p, (p = .pointer none ∨ p = .pointer (some ⟨b, 0, none⟩)) ∧ w.heap[b]? = some (.cells #[p, v] 154 (0, 0))) ∧ Kd.R (Kd.int .u8) 5 w B (fun _ => True) v xs ∧ B ≤ b
def SFr (b : Nat) (v : Value) (k : Nat) : Prop := k = b ∨ some k = v.ownBlock
structure Sp (w0 w w' : World) (b : Nat) (v v' : Value) (xs' : List Int) : Prop where
  sd : Sd w' w0.heap.size b v' xs'
  below : Below w0.heap.size w0 w'
  kept : Kept w w' (SFr b v)
  fresh : ∀ k, v'.ownBlock = some k → some k = v.ownBlock ∨ w.heap.size ≤ k
theorem Sp.refl {w0 w : World} {b : Nat} {v : Value} {xs : List Int} (h : Sd w w0.heap.size b v xs) (hB : Below w0.heap.size w0 w) : Sp w0 w w b v v xs := ⟨h, hB, Kept.refl _ _, fun k hk => .inl hk.symm⟩
theorem Sp.trans {w0 w w1 w2 : World} {b : Nat} {v v1 v2 : Value} {x1 x2 : List Int} (h : Sp w0 w w1 b v v1 x1) (k : Sp w0 w1 w2 b v1 v2 x2) : Sp w0 w w2 b v v2 x2 :=
  ⟨k.sd, k.below, h.kept.then_ k.kept (fun q hq => hq.elim (fun h1 => .inl (.inl h1)) (fun h1 => (h.fresh q h1.symm).elim (fun h2 => .inl (.inr h2)) .inr)), fun q hq => (k.fresh q hq).elim (fun h1 => h.fresh q h1.symm) (fun h1 => .inr (Nat.le_trans h.kept.1 h1))⟩
theorem Sd.drawn {w w' : World} {B b : Nat} {v : Value} {xs : List Int} (h : Sd w B b v xs) (k : Drawn0 w w') : Sd w' B b v xs := by
  obtain ⟨n, rfl⟩ := k.out
  exact ⟨h.1, Kd.R_drewN h.2.1 n, h.2.2⟩
theorem Sp.drawn {w0 w w1 w2 : World} {b : Nat} {v v1 : Value} {x1 : List Int} (h : Sp w0 w w1 b v v1 x1) (k : Drawn0 w1 w2) : Sp w0 w w2 b v v1 x1 := by
  have hc := h.sd.drawn k
  obtain ⟨n, rfl⟩ := k.out
  exact ⟨hc, pw_below_drewN h.below n, h.kept.drewN n, h.fresh⟩
set_option maxRecDepth 100000 in
theorem cc_calls (w0 w : World) (b : Nat) (v : Value) (xs : List Int) (h : Sd w w0.heap.size b v xs) (hB : Below w0.heap.size w0 w) :
    Calls Try.prog 143 #[.pointer (some ⟨b, 0, none⟩)] w fun e w' => e = .returned (.tuple #[]) ∧ Sp w0 w w' b v v xs := by
  have HS := Aside0.mk h
  have HB := Aside0.mk hB
  obtain ⟨⟨p, hp, hb⟩, hr, hle⟩ := h
  have h0 : w.cell? ⟨b, 0, none⟩ = some p := (blk_cell hb 0).trans rfl
  have f0 : w.frozen? ⟨b, 0, none⟩ = false := blk_frozen hb 0
  have hsh : w.shape? b = some (154, 2) := by unfold World.shape?; rw [hb]; rfl
  rcases hp with rfl | rfl
  · have k1 := bd_to Try.prog w 150 250 152 154 2 2 b 0 Try.underlying150 Try.underlying250 (by kernel_rfl) (by decide) hsh (by decide)
    have k2 := bd_from Try.prog w 250 150 152 154 2 2 b 0 Try.underlying250 Try.underlying150 (by kernel_rfl) hsh (by kernel_rfl)
    have HP : Aside0 (Sp w0 w (w.setCell ⟨b, 0, none⟩ (.pointer (some ⟨b, 0, none⟩))) b v v xs) := ⟨⟨⟨⟨_, .inr rfl, blk_put hb 0 _ rfl⟩, Kd.R_set hr hb (by intro q hq; simp [Kd.int, Kd.scalar] at hq; omega) 0 _, hle⟩, hB.setCell hle _, (Kept.refl _ _).setCell (.inl (.inl rfl)) _, fun k hk => .inl hk.symm⟩⟩
    clear hb hr hle hB hsh
    go_enter Try.func143, Try.ntmps143
    go_wp2
    rw [run_callFunc_extern Try.func175 (by kernel_rfl) (by kernel_rfl) (by kernel_rfl) (e := Extern.AbiNoEscape.same) (by kernel_rfl)]
    rw [Lib.run_noEscape]
    simp only [Result.andThen]
    rw [Oper.upon_value]
    go_wp2
    go_end0
    exact ⟨rfl, HP.out⟩
  · have k1 := bd_neq Try.prog w 150 152 2 ⟨b, 0, none⟩ Try.underlying150 (by kernel_rfl)
    clear hb hr hle hB hsh
    go_enter Try.func143, Try.ntmps143
    go_wp2
    go_end0
    exact ⟨rfl, Sp.refl HS.out HB.out⟩
set_option maxRecDepth 100000 in
theorem wb_calls (w0 w : World) (b : Nat) (v : Value) (xs : List Int) (c : Int) (h : Sd w w0.heap.size b v xs) (hB : Below w0.heap.size w0 w) (hl : xs.length < 1000000) :
    Calls Try.prog 79 #[.pointer (some ⟨b, 0, none⟩), .int .u8 c] w fun e w' => e = .returned .nilIface ∧ ∃ v', Sp w0 w w' b v v' (xs ++ [c]) := by
  have HC := Aside0.mk (cc_calls w0 w b v xs h hB)
  clear h hB
  go_enter Try.func79, Try.ntmps79
  go_wp2_with fail
  refine HC.out.mono ?_
  rintro e w1 ⟨rfl, hp⟩
  have HP := Aside0.mk hp
  obtain ⟨⟨p, hpp, hb⟩, hr, hle⟩ := hp.sd
  obtain ⟨A, cc, rfl⟩ := Kd.R_slice hr
  have HBK := Aside0.mk hb
  have HR := Aside0.mk hr
  have h1 : w1.cell? ⟨b, 1, none⟩ = some (.slice A xs.length cc) := (blk_cell hb 1).trans rfl
  have hlt : b < w1.heap.size := blk_lt hb
  have hne : some b ≠ (Value.slice A xs.length cc).ownBlock := Kd.R_ne hr hb (by decide)
  have HNE := Aside0.mk hne
  clear hp hb hr hle hne hpp
  go_wp2_with ((with_reducible refine gate_builtin (b := .append) (xs := #[.tmp 11, .tmp 13]) rfl ?_); at_builtin; refine Kd.R_append (Kd.int .u8) (w0 := w0) w0.heap.size rfl (.tmp 11) (.tmp 13) 23 5 (.int .u8 0) 1 rfl Try.underlying23 (by kernel_rfl) rfl (by decide) (by omega) (.slice A xs.length cc) xs c [.int .u8 c] (fun _ => True) (fun _ => False) rfl rfl rfl (fun _ hk => hk.elim) (fun _ _ => trivial) HR.out HP.out.below HP.out.below.size (by omega) ?_; intro v2 w2 ho hb hg_ hat_; obtain ⟨A2, c2, rfl⟩ := Kd.R_slice ho; have HO := Aside0.mk ho; have HB2 := Aside0.mk hb; have HG2 := Aside0.mk hg_; have HN2 := Aside0.mk hat_; have k1 : w2.cell? ⟨b, 1, none⟩ = some (.slice A xs.length cc) := (cell_grown hg_ h1 HNE.out); have fz1 : w2.frozen? ⟨b, 1, none⟩ = false := blk_frozen ((hg_.block b hlt HNE.out).trans HBK.out) 1; clear ho hb hg_ hat_)
  go_ret
  have hb2 := (HG2.out.block b hlt HNE.out).trans HBK.out
  have hk2 : Kept w1 w2 (SFr b (.slice A xs.length cc)) := ⟨HG2.out.size, fun i hi hn => HG2.out.block i hi (fun e => hn (.inr e))⟩
  have hlen : (xs ++ [c]).length = xs.length + 1 := by simp
  have HO' := HO.out
  have HN' := HN2.out
  rw [hlen] at HO' HN'
  have hfr : ∀ k, (Value.slice A2 (xs.length + 1) c2).ownBlock = some k → some k = (Value.slice A xs.length cc).ownBlock ∨ w1.heap.size ≤ k := fun k hk => by
    rcases HN' with h1 | ⟨q, h1, h2⟩
    · exact .inl (by rw [← h1, hk])
    · rw [h1] at hk; cases hk; exact .inr h2
  obtain ⟨⟨p, hpp, hb⟩, hr, hle⟩ := HP.out.sd
  obtain rfl : p = _ := by
    have := hb.symm.trans HBK.out
    simp only [Option.some.injEq, Obj.cells.injEq, Array.mk.injEq, List.cons.injEq] at this
    exact this.1.1
  refine ⟨rfl, _, HP.out.trans ⟨⟨⟨_, hpp, blk_put hb2 1 _ rfl⟩, ?_, hle⟩, HB2.out.setCell hle _, hk2.setCell (.inl (.inl rfl)) _, hfr⟩⟩
  exact Kd.R_set HO' hb2 (by intro q hq; simp [Kd.int, Kd.scalar] at hq; omega) 1 _
def digF (n : Int) : Int := if n < 10 then 48 + n else 55 + n
theorem dig_str (n : Int) (h : 0 ≤ n ∧ n < 16) : ((((⟨#[48, 49, 50, 51, 52, 53, 54, 55, 56, 57, 65, 66, 67, 68, 69, 70]⟩ : ByteArray)[n.toNat]'(by show n.toNat < 16; omega)).toNat : Nat) : Int) = digF n := by
  obtain ⟨m, rfl⟩ : ∃ m : Nat, n = (m : Int) := ⟨n.toNat, by omega⟩
  have hm : m < 16 := by omega
  have hk : ∀ k : Fin 16, ((((⟨#[48, 49, 50, 51, 52, 53, 54, 55, 56, 57, 65, 66, 67, 68, 69, 70]⟩ : ByteArray)[k.val]'(show k.val < 16 from k.isLt)).toNat : Nat) : Int) = digF (k.val : Int) := by decide
  exact hk ⟨m, hm⟩
theorem and_15 (c : Int) (h : 0 ≤ c ∧ c ≤ 255) : bits .and .u8 c 15 = c % 16 := by
  obtain ⟨m, rfl⟩ : ∃ m : Nat, c = (m : Int) := ⟨c.toNat, by omega⟩
  have hm : m < 256 := by omega
  have hk : ∀ k : Fin 256, bits .and .u8 (k.val : Int) 15 = (k.val : Int) % 16 := by decide +kernel
  exact hk ⟨m, hm⟩
theorem Sp.start_drew {w0 w w' : World} {b : Nat} {v v' : Value} {xs : List Int} (h : Sp w0 w.drew w' b v v' xs) : Sp w0 w w' b v v' xs := ⟨h.sd, h.below, ⟨h.kept.1, h.kept.2⟩, h.fresh⟩
set_option maxRecDepth 100000 in
theorem sgn_calls (w0 w : World) (b : Nat) (v : Value) (xs : List Int) (c : Int) (hc : 0 ≤ c ∧ c ≤ 255) (h : Sd w w0.heap.size b v xs) (hB : Below w0.heap.size w0 w) (hl : xs.length < 900000) :
    Calls Try.prog 78 #[.pointer (some ⟨b, 0, none⟩), .int .u8 c] w fun e w' => e = .returned (.tuple #[]) ∧ ∃ v', Sp w0 w w' b v v' (xs ++ [digF (c / 16), digF (c % 16)]) := by
  have hc1 : 0 ≤ c / 16 ∧ c / 16 < 16 := by omega
  have hc2 : 0 ≤ c % 16 ∧ c % 16 < 16 := by omega
  have hand : bits .and .u8 c 15 = c % 16 := and_15 c hc
  have HW1 := Aside0.mk (wb_calls w0 w.drew b v xs (digF (c / 16)) (h.drawn ⟨⟨1, rfl⟩⟩) (below_drew1 hB) (by omega))
  clear h hB
  go_enter Try.func78, Try.ntmps78
  go_wp2
  refine start_ (n := 7) (S := fun U => True) (ds := []) #[false, false, false, false, false, false, false] (by kernel_rfl) rfl rfl trivial (fun hHeld => ?_)
  refine pure_ (i := 0) (N := (some 4)) (v := ?_) (a' := ?_) #[true, false, false, false, false, false, false] rfl rfl (by kernel_rfl) (fun _ _ _ h => h) (Or.inl ⟨by rfl, ?_⟩) ?_ ?_
  rotate_left
  · intro w'
    go_simp
    with_reducible rfl
  rotate_left
  · simp only [Act.put, List.setIfInBounds_toArray, List.set_cons_zero, List.set_cons_succ, i64_w, i32_w]
    rfl
  refine pure_ (i := 1) (N := (some 5)) (v := ?_) (a' := ?_) #[true, true, false, false, false, false, false] rfl rfl (by kernel_rfl) (fun _ _ _ h => h) (Or.inl ⟨by rfl, ?_⟩) ?_ ?_
  rotate_left
  · intro w'
    go_simp
    with_reducible rfl
  rotate_left
  · simp only [Act.put, List.setIfInBounds_toArray, List.set_cons_zero, List.set_cons_succ, i64_w, i32_w]
    rfl
  refine pure_ (i := 2) (N := (some 6)) (v := ?_) (a' := ?_) #[true, true, true, false, false, false, false] rfl rfl (by kernel_rfl) (fun _ _ _ h => h) (Or.inl ⟨by rfl, ?_⟩) ?_ ?_
  rotate_left
  · intro w'
    go_simp
    with_reducible rfl
  rotate_left
  · simp only [Act.put, List.setIfInBounds_toArray, List.set_cons_zero, List.set_cons_succ, i64_w, i32_w]
    rfl
  refine pure_ (i := 3) (N := (some 7)) (v := ?_) (a' := ?_) #[true, true, true, true, false, false, false] rfl rfl (by kernel_rfl) (fun _ _ _ h => h) (Or.inl ⟨by rfl, ?_⟩) ?_ ?_
  rotate_left
  · intro w'
    go_simp
    with_reducible rfl
  rotate_left
  · simp only [Act.put, List.setIfInBounds_toArray, List.set_cons_zero, List.set_cons_succ, i64_w, i32_w]
    rfl
  refine pure_ (i := 4) (N := (some 8)) (v := ?_) (a' := ?_) #[true, true, true, true, true, false, false] rfl rfl (by kernel_rfl) (fun _ _ _ h => h) (Or.inl ⟨by rfl, ?_⟩) ?_ ?_
  rotate_left
  · intro w'
    go_simp
    with_reducible rfl
  rotate_left
  · simp only [Act.put, List.setIfInBounds_toArray, List.set_cons_zero, List.set_cons_succ, i64_w, i32_w]
    rfl
  refine pure_ (i := 5) (N := (some 9)) (v := .int .u8 (digF (c / 16))) (a' := ?_) #[true, true, true, true, true, true, false] rfl rfl (by kernel_rfl) (fun _ _ _ h => h) (Or.inl ⟨by rfl, ?_⟩) ?_ ?_
  · intro w'
    go_simp
    exact dig_str _ hc1
  rotate_left
  · simp only [Act.put, List.setIfInBounds_toArray, List.set_cons_zero, List.set_cons_succ, i64_w, i32_w]
    rfl
  refine one_ (i := 6) (N := (some 10)) #[true, true, true, true, true, true, true] rfl rfl (by kernel_rfl) (by decide) (fun K hK => ?_)
  refine goes_ (f := 79) Try.func79 (by kernel_rfl) rfl #[.pointer (some ⟨b, 0, none⟩), .int .u8 (digF (c / 16))] (by rfl) rfl rfl (by simp [Act.eval, Act.put]) ?_
  refine HW1.out.mono ?_
  rintro e w1 ⟨rfl, v1, hp1⟩
  refine ⟨_, rfl, hK.out _ _ trivial (fun hHeld => ?_)⟩
  simp only [Act.put, List.setIfInBounds_toArray, List.set_cons_zero, List.set_cons_succ]
  clear hK K
  refine done_ (by kernel_rfl) ?_
  have HP1 := Aside0.mk hp1
  have HW2 := Aside0.mk (wb_calls w0 w1.drew b v1 (xs ++ [digF (c / 16)]) (digF (c % 16)) (hp1.sd.drawn ⟨⟨1, rfl⟩⟩) (below_drew1 hp1.below) (by simp; omega))
  clear hp1
  go_wp2
  refine start_ (n := 7) (S := fun U => True) (ds := []) #[false, false, false, false, false, false, false] (by kernel_rfl) rfl rfl trivial (fun hHeld => ?_)
  refine pure_ (i := 0) (N := (some 11)) (v := ?_) (a' := ?_) #[true, false, false, false, false, false, false] rfl rfl (by kernel_rfl) (fun _ _ _ h => h) (Or.inl ⟨by rfl, ?_⟩) ?_ ?_
  rotate_left
  · intro w'
    go_simp
    with_reducible rfl
  rotate_left
  · simp only [Act.put, List.setIfInBounds_toArray, List.set_cons_zero, List.set_cons_succ, i64_w, i32_w]
    rfl
  refine pure_ (i := 1) (N := (some 12)) (v := ?_) (a' := ?_) #[true, true, false, false, false, false, false] rfl rfl (by kernel_rfl) (fun _ _ _ h => h) (Or.inl ⟨by rfl, ?_⟩) ?_ ?_
  rotate_left
  · intro w'
    go_simp
    with_reducible rfl
  rotate_left
  · simp only [Act.put, List.setIfInBounds_toArray, List.set_cons_zero, List.set_cons_succ, i64_w, i32_w]
    rfl
  refine pure_ (i := 2) (N := (some 13)) (v := ?_) (a' := ?_) #[true, true, true, false, false, false, false] rfl rfl (by kernel_rfl) (fun _ _ _ h => h) (Or.inl ⟨by rfl, ?_⟩) ?_ ?_
  rotate_left
  · intro w'
    go_simp
    with_reducible rfl
  rotate_left
  · simp only [Act.put, List.setIfInBounds_toArray, List.set_cons_zero, List.set_cons_succ, i64_w, i32_w]
    rfl
  refine pure_ (i := 3) (N := (some 14)) (v := ?_) (a' := ?_) #[true, true, true, true, false, false, false] rfl rfl (by kernel_rfl) (fun _ _ _ h => h) (Or.inl ⟨by rfl, ?_⟩) ?_ ?_
  rotate_left
  · intro w'
    go_simp
    with_reducible rfl
  rotate_left
  · simp only [Act.put, List.setIfInBounds_toArray, List.set_cons_zero, List.set_cons_succ, i64_w, i32_w]
    rfl
  refine pure_ (i := 4) (N := (some 15)) (v := ?_) (a' := ?_) #[true, true, true, true, true, false, false] rfl rfl (by kernel_rfl) (fun _ _ _ h => h) (Or.inl ⟨by rfl, ?_⟩) ?_ ?_
  rotate_left
  · intro w'
    go_simp
    with_reducible rfl
  rotate_left
  · simp only [Act.put, List.setIfInBounds_toArray, List.set_cons_zero, List.set_cons_succ, i64_w, i32_w]
    rfl
  refine pure_ (i := 5) (N := (some 16)) (v := .int .u8 (digF (c % 16))) (a' := ?_) #[true, true, true, true, true, true, false] rfl rfl (by kernel_rfl) (fun _ _ _ h => h) (Or.inl ⟨by rfl, ?_⟩) ?_ ?_
  · intro w'
    go_simp
    exact dig_str _ hc2
  rotate_left
  · simp only [Act.put, List.setIfInBounds_toArray, List.set_cons_zero, List.set_cons_succ, i64_w, i32_w]
    rfl
  refine one_ (i := 6) (N := (some 17)) #[true, true, true, true, true, true, true] rfl rfl (by kernel_rfl) (by decide) (fun K hK => ?_)
  refine goes_ (f := 79) Try.func79 (by kernel_rfl) rfl #[.pointer (some ⟨b, 0, none⟩), .int .u8 (digF (c % 16))] (by rfl) rfl rfl (by simp [Act.eval, Act.put]) ?_
  refine HW2.out.mono ?_
  rintro e w2 ⟨rfl, v2, hp2⟩
  refine ⟨_, rfl, hK.out _ _ trivial (fun hHeld => ?_)⟩
  simp only [Act.put, List.setIfInBounds_toArray, List.set_cons_zero, List.set_cons_succ]
  clear hK K
  refine done_ (by kernel_rfl) ?_
  have HP2 := Aside0.mk hp2
  clear hp2
  go_wp2
  go_end0
  refine ⟨rfl, v2, ?_⟩
  have h3 := (HP1.out.drawn (w2 := w1.drew) ⟨⟨1, rfl⟩⟩).trans HP2.out
  rw [List.append_assoc] at h3
  exact h3.start_drew
set_option maxRecDepth 100000 in
theorem str_calls (w0 w : World) (b : Nat) (v : Value) (xs : List Int) (h : Sd w w0.heap.size b v xs) (hB : Below w0.heap.size w0 w) (h0 : xs ≠ []) (hx : ∀ x ∈ xs, 0 ≤ x ∧ x ≤ 255) (hl : xs.length < 1000000) :
    Calls Try.prog 81 #[.pointer (some ⟨b, 0, none⟩)] w fun e w' => e = .returned (.string (strOfNums xs)) ∧ Below w0.heap.size w0 w' := by
  have HB := Aside0.mk hB
  obtain ⟨⟨p, hp, hb⟩, hr, hle⟩ := h
  have hpos : 0 < xs.length := List.length_pos_iff.2 h0
  obtain ⟨g, cap, rfl, hbg, hg, cells, hcl⟩ := Kd.R_form hr hpos
  have hcap := (Kd.R_reads' hr).2.1
  have hcell : ∀ j x, xs[j]? = some x → w.cell? ⟨g, j, none⟩ = some (.int .u8 x) := fun j x hj => by
    obtain ⟨hj1, hj2⟩ := List.getElem?_eq_some_iff.1 hj
    have := (Kd.R_cell (0 : Int) hr (j : Int) (by omega) (by omega)).1
    rw [Int.toNat_natCast] at this
    rw [this]
    unfold rdOf
    rw [Int.toNat_natCast, List.getD_eq_getElem?_getD, hj]; rfl
  have hsz : xs.length ≤ cells.size := by
    have := hcell (xs.length - 1) (xs[xs.length - 1]) (by rw [List.getElem?_eq_getElem (by omega)])
    rw [World.cell?] at this
    simp only [hcl] at this
    have := (Array.getElem?_eq_some_iff.1 this).1
    omega
  have hsh : w.drew.shape? g = some (5, cells.size) := by
    have hcl' : w.drew.heap[g]? = some (.cells cells 5 (0, 0)) := hcl
    unfold World.shape?; rw [hcl']
  have hd := fun (W : World) (n : Nat) => bd_data Try.prog W #[23] 228 g n cap (by omega)
  have hs := bd_string Try.prog w.drew 228 3 9 5 Try.underlying228 (by kernel_rfl) g cells.size hsh xs h0 hsz (by omega) hx hcell
  have HBK := Aside0.mk hb
  have HG := Aside0.mk hbg
  clear hB hb hr hle hbg hg hcl hsz hsh hcell hpos hp
  go_enter Try.func81, Try.ntmps81
  go_wp2
  refine start_ (n := 12) (S := fun U => U.heap[b]? = some (.cells #[p, .slice (some ⟨g, 0, none⟩) xs.length cap] 154 (0, 0))) (ds := [10]) #[false, false, false, false, false, false, false, false, false, false, false, false] (by kernel_rfl) rfl rfl HBK.out (fun hHeld => ?_)
  refine pure_ (i := 0) (N := (some 3)) (v := ?_) (a' := ?_) #[true, false, false, false, false, false, false, false, false, false, false, false] rfl rfl (by kernel_rfl) (fun _ _ _ h => h) (Or.inl ⟨by rfl, ?_⟩) ?_ ?_
  rotate_left
  · intro w'
    go_simp
    with_reducible rfl
  rotate_left
  · simp only [Act.put, List.setIfInBounds_toArray, List.set_cons_zero, List.set_cons_succ, i64_w, i32_w]
    rfl
  refine pure_ (i := 1) (N := (some 4)) (v := ?_) (a' := ?_) #[true, true, false, false, false, false, false, false, false, false, false, false] rfl rfl (by kernel_rfl) (fun _ _ _ h => h) (Or.inl ⟨by rfl, ?_⟩) ?_ ?_
  rotate_left
  · intro w'
    go_simp
    with_reducible rfl
  rotate_left
  · simp only [Act.put, List.setIfInBounds_toArray, List.set_cons_zero, List.set_cons_succ, i64_w, i32_w]
    rfl
  refine pure_ (i := 2) (N := (some 5)) (v := ?_) (a' := ?_) #[true, true, true, false, false, false, false, false, false, false, false, false] rfl rfl (by kernel_rfl) (fun _ _ _ h => h) (Or.inl ⟨by rfl, ?_⟩) ?_ ?_
  rotate_left
  · intro w'
    go_simp
    with_reducible rfl
  rotate_left
  · simp only [Act.put, List.setIfInBounds_toArray, List.set_cons_zero, List.set_cons_succ, i64_w, i32_w]
    rfl
  refine take_ (i := 3) (N := (some 6)) (v := ?_) (a' := ?_) #[true, true, true, true, false, false, false, false, false, false, false, false] rfl rfl (by kernel_rfl) (fun _ _ _ h => h) (Or.inl ⟨by rfl, ?_⟩) hHeld ?_ ?_
  rotate_left
  · intro w' s0
    have x1 : w'.cell? ⟨b, 1, none⟩ = some (.slice (some ⟨g, 0, none⟩) xs.length cap) := (blk_cell s0 1).trans rfl
    go_simp
    with_reducible rfl
  rotate_left
  · simp only [Act.put, List.setIfInBounds_toArray, List.set_cons_zero, List.set_cons_succ, i64_w, i32_w]
    rfl
  refine pure_ (i := 4) (N := (some 7)) (v := ?_) (a' := ?_) #[true, true, true, true, true, false, false, false, false, false, false, false] rfl rfl (by kernel_rfl) (fun _ _ _ h => h) (Or.inl ⟨by rfl, ?_⟩) ?_ ?_
  rotate_left
  · intro w'
    go_simp
    with_reducible rfl
  rotate_left
  · simp only [Act.put, List.setIfInBounds_toArray, List.set_cons_zero, List.set_cons_succ, i64_w, i32_w]
    rfl
  refine pure_ (i := 5) (N := (some 8)) (v := ?_) (a' := ?_) #[true, true, true, true, true, true, false, false, false, false, false, false] rfl rfl (by kernel_rfl) (fun _ _ _ h => h) (Or.inl ⟨by rfl, ?_⟩) ?_ ?_
  rotate_left
  · intro w'
    go_simp
    with_reducible rfl
  rotate_left
  · simp only [Act.put, List.setIfInBounds_toArray, List.set_cons_zero, List.set_cons_succ, i64_w, i32_w]
    rfl
  refine pure_ (i := 6) (N := (some 9)) (v := ?_) (a' := ?_) #[true, true, true, true, true, true, true, false, false, false, false, false] rfl rfl (by kernel_rfl) (fun _ _ _ h => h) (Or.inl ⟨by rfl, ?_⟩) ?_ ?_
  rotate_left
  · intro w'
    go_simp
    with_reducible rfl
  rotate_left
  · simp only [Act.put, List.setIfInBounds_toArray, List.set_cons_zero, List.set_cons_succ, i64_w, i32_w]
    rfl
  refine pure_ (i := 7) (N := (some 10)) (v := ?_) (a' := ?_) #[true, true, true, true, true, true, true, true, false, false, false, false] rfl rfl (by kernel_rfl) (fun _ _ _ h => h) (Or.inl ⟨by rfl, ?_⟩) ?_ ?_
  rotate_left
  · intro w'
    go_simp
    with_reducible rfl
  rotate_left
  · simp only [Act.put, List.setIfInBounds_toArray, List.set_cons_zero, List.set_cons_succ, i64_w, i32_w]
    rfl
  refine take_ (i := 8) (N := (some 11)) (v := ?_) (a' := ?_) #[true, true, true, true, true, true, true, true, true, false, false, false] rfl rfl (by kernel_rfl) (fun _ _ _ h => h) (Or.inl ⟨by rfl, ?_⟩) hHeld ?_ ?_
  rotate_left
  · intro w' s0
    have x1 : w'.cell? ⟨b, 1, none⟩ = some (.slice (some ⟨g, 0, none⟩) xs.length cap) := (blk_cell s0 1).trans rfl
    go_simp
    with_reducible rfl
  rotate_left
  · simp only [Act.put, List.setIfInBounds_toArray, List.set_cons_zero, List.set_cons_succ, i64_w, i32_w]
    rfl
  refine pure_ (i := 9) (N := (some 12)) (v := ?_) (a' := ?_) #[true, true, true, true, true, true, true, true, true, true, false, false] rfl rfl (by kernel_rfl) (fun _ _ _ h => h) (Or.inl ⟨by rfl, ?_⟩) ?_ ?_
  rotate_left
  · intro w'
    go_simp
    with_reducible rfl
  rotate_left
  · simp only [Act.put, List.setIfInBounds_toArray, List.set_cons_zero, List.set_cons_succ, i64_w, i32_w]
    rfl
  refine last_ (i := 10) (N := (some 13)) #[true, true, true, true, true, true, true, true, true, true, true, false] rfl rfl (by kernel_rfl) (by decide) (fun K hK => ?_)
  refine value_ (w1 := w.drew.freeze ⟨g, 0, none⟩ xs.length) (v := .string (strOfNums xs)) (by rfl) rfl ?_ ?_
  · go_simp
  refine hK.out _ _ ?_
  clear hK K
  simp only [Act.put, List.setIfInBounds_toArray, List.set_cons_zero, List.set_cons_succ]
  refine pure_ (i := 11) (N := (some 2)) (v := ?_) (a' := ?_) #[true, true, true, true, true, true, true, true, true, true, true, true] rfl rfl (by kernel_rfl) (fun _ _ _ h => h) (Or.inl ⟨by rfl, ?_⟩) ?_ ?_
  rotate_left
  · intro w'
    go_simp
    with_reducible rfl
  rotate_left
  · simp only [Act.put, List.setIfInBounds_toArray, List.set_cons_zero, List.set_cons_succ, i64_w, i32_w]
    rfl
  refine done_ (by kernel_rfl) ?_
  go_wp2
  go_ret
  exact ⟨rfl, bd_below _ _ _ _ _ (below_drew1 HB.out) HG.out⟩
def frmF (st : Int) (l : List Int) : List Int := (st :: l) ++ [(-((st :: l).sum)) % 256]
def hexF (l : List Int) : List Int := l.flatMap fun x => [digF (x / 16), digF (x % 16)]
def txtF (st : Int) (l : List Int) (d : Int) : List Int := 58 :: (hexF (frmF st l) ++ [13, d])
def text_Write.f (a0 : Int) (l1 : List Int) (a2 : Int) : Option (ByteArray × Int) :=
  if a0 < 0 ∨ 255 < a0 then some (⟨#[]⟩, 11) else if l1.length = 0 then some (⟨#[]⟩, 12) else if 253 < l1.length then some (⟨#[]⟩, 13)
  else if (∀ x ∈ l1, 0 ≤ x ∧ x ≤ 255) ∧ 0 ≤ a2 ∧ a2 ≤ 255 then some (strOfNums (txtF a0 l1 a2), 0) else none
theorem digF_bd (n : Int) (h : 0 ≤ n ∧ n < 16) : 0 ≤ digF n ∧ digF n ≤ 255 := by unfold digF; split <;> omega
theorem hexF_bd (l : List Int) (hl : ∀ x ∈ l, 0 ≤ x ∧ x ≤ 255) : ∀ y ∈ hexF l, 0 ≤ y ∧ y ≤ 255 := by
  intro y hy
  unfold hexF at hy
  rw [List.mem_flatMap] at hy
  obtain ⟨x, hx, hy⟩ := hy
  have := hl x hx
  simp only [List.mem_cons, List.not_mem_nil, or_false] at hy
  rcases hy with rfl | rfl
  · exact digF_bd _ (by omega)
  · exact digF_bd _ (by omega)
theorem hexF_len (l : List Int) : (hexF l).length = 2 * l.length := by
  induction l with
  | nil => rfl
  | cons x l ih => unfold hexF at *; rw [List.flatMap_cons, List.length_append, ih]; simp; omega
theorem hexF_snoc (l : List Int) (x : Int) : hexF (l ++ [x]) = hexF l ++ [digF (x / 16), digF (x % 16)] := by
  unfold hexF; rw [List.flatMap_append]; simp
theorem frmF_bd (st : Int) (l : List Int) (hs : 0 ≤ st ∧ st ≤ 255) (hl : ∀ x ∈ l, 0 ≤ x ∧ x ≤ 255) : ∀ y ∈ frmF st l, 0 ≤ y ∧ y ≤ 255 := by
  intro y hy
  unfold frmF at hy
  simp only [List.cons_append, List.mem_cons, List.mem_append, List.not_mem_nil, or_false] at hy
  rcases hy with rfl | hy | rfl
  · exact hs
  · exact hl y hy
  · omega
theorem frm_append (st : Int) (l : List Int) (h : l.length ≤ 253) : lrc_Append.f (st :: l) = some (frmF st l) := by
  unfold lrc_Append.f slices_Clone_byte_byte.f lrc_Sum.f
  rw [if_pos (by simp; omega), Option.bind_some, Option.bind_some, if_pos (by simp; omega)]
  rfl
set_option maxHeartbeats 4000000 in
set_option maxRecDepth 100000 in
theorem text_Write.calls (a0 : Int) (A1 : Option Addr) (c1 : Nat) (l1 : List Int) (a2 : Int) (r1 : ByteArray) (r2 : Int) (w : World) (hr1 : Kd.C (Kd.int .u8) w A1 l1.length l1) (hc1 : l1.length ≤ c1) (h : text_Write.f a0 l1 a2 = some (r1, r2)) :
    Calls Try.prog 17 #[.int .i64 a0, .slice A1 l1.length c1, .int .u8 a2] w fun e w' => e = .returned (.tuple #[.string r1, .int .i64 r2]) ∧ Below w.heap.size w w' := by
  unfold text_Write.f at h
  obtain ⟨M, hM⟩ : ∃ M, l1.length = M := ⟨_, rfl⟩
  have HR := Aside0.mk hr1
  have HLM := Aside0.mk hM
  rw [hM] at h HR ⊢
  rw [hM] at hc1
  have HC := Aside0.mk hc1
  clear hr1 hc1 hM
  by_cases h1 : a0 < 0
  · rw [if_pos (Or.inl h1)] at h
    obtain ⟨rfl, rfl⟩ := Prod.mk.injEq .. ▸ Option.some.inj h
    have d1 : decide (a0 < 0) = true := decide_eq_true h1
    clear h h1
    go_enter Try.func17, Try.ntmps17
    go_wp2
    go_ret2
    exact ⟨rfl, Below.refl _ _⟩
  have d1 : decide (a0 < 0) = false := decide_eq_false h1
  by_cases h2 : 255 < a0
  · rw [if_pos (Or.inr h2)] at h
    obtain ⟨rfl, rfl⟩ := Prod.mk.injEq .. ▸ Option.some.inj h
    have d2 : decide (255 < a0) = true := decide_eq_true h2
    clear h h1 h2
    go_enter Try.func17, Try.ntmps17
    go_wp2
    go_ret2
    exact ⟨rfl, Below.refl _ _⟩
  have d2 : decide (255 < a0) = false := decide_eq_false h2
  rw [if_neg (by omega)] at h
  by_cases h3 : M = 0
  · rw [if_pos h3] at h
    obtain ⟨rfl, rfl⟩ := Prod.mk.injEq .. ▸ Option.some.inj h
    subst h3
    clear h h1 h2
    go_enter Try.func17, Try.ntmps17
    go_wp2
    go_ret2
    exact ⟨rfl, Below.refl _ _⟩
  have d3 : ((M : Int) == 0) = false := beq_eq_false_iff_ne.2 (by omega)
  rw [if_neg h3] at h
  by_cases h4 : 253 < M
  · rw [if_pos h4] at h
    obtain ⟨rfl, rfl⟩ := Prod.mk.injEq .. ▸ Option.some.inj h
    have d4 : decide ((253 : Int) < (M : Int)) = true := decide_eq_true (by omega)
    clear h h1 h2 h3 h4
    go_enter Try.func17, Try.ntmps17
    go_wp2
    go_ret2
    exact ⟨rfl, Below.refl _ _⟩
  have d4 : decide ((253 : Int) < (M : Int)) = false := decide_eq_false (by omega)
  rw [if_neg h4] at h
  by_cases h5 : (∀ x ∈ l1, 0 ≤ x ∧ x ≤ 255) ∧ 0 ≤ a2 ∧ a2 ≤ 255
  · rw [if_pos h5] at h
    obtain ⟨rfl, rfl⟩ := Prod.mk.injEq .. ▸ Option.some.inj h
    have hst : 0 ≤ a0 ∧ a0 ≤ 255 := by omega
    have H5 := Aside0.mk h5
    have HST := Aside0.mk hst
    have HM := Aside0.mk (show 0 < M ∧ M ≤ 253 by omega)
    have dw : IntKind.u8.wrap a0 = a0 := by simp [IntKind.wrap, IntKind.bits, IntKind.signed]; omega
    clear h h1 h2 h3 h4 h5 hst
    go_enter Try.func17, Try.ntmps17
    go_wp2_with fail
    obtain ⟨b, hb⟩ : ∃ b, b = w.heap.size := ⟨_, rfl⟩
    obtain ⟨W, hW⟩ : ∃ W, W = w.alloc (.cells #[.pointer none, .slice none 0 0] 154) := ⟨_, rfl⟩
    have hsd : Sd W w.heap.size b (.slice none 0 0) [] := by
      rw [hW, hb]
      exact ⟨⟨_, .inl rfl, blk_new w _⟩, Kd.R_nil _ _ _ _ _, Nat.le_refl _⟩
    have hBW : Below w.heap.size w W := by rw [hW]; exact (Below.refl _ _).alloc (Nat.le_refl _) _
    rw [← hW, ← hb]
    have HBW := Aside0.mk hBW
    have HW1 := Aside0.mk (wb_calls w W b _ [] 58 hsd hBW (by simp))
    clear hW hsd hBW hb
    refine HW1.out.mono ?_
    rintro e w1 ⟨rfl, v1, hp1⟩
    have HS1 := Aside0.mk hp1.sd
    have HB1 := Aside0.mk hp1.below
    clear hp1 HW1 HBW
    go_wp2_with (first
      | ((with_reducible refine gate_dst (N := 37) rfl ?_); refine Kd.R_lit (Kd.int .u8) w1.heap.size 5 ?hg (N := 37) ?hd (xs := ([a0] : List Int)) (inner := [.int .u8 a0]) (ok := fun _ => True) (okp := fun _ => True) ?hr ?hp (fun _ hk => hk) trivial (Below.refl w1.heap.size w1) (Nat.le_refl _) (by simp) ?_; (case hd => rfl); (case hg => rfl); (case hr => first | (go_simp; done) | (go_simp; rfl)); (case hp => exact (Reps.one (show Kd.M (Kd.int .u8) _ _ _ a0 [.int .u8 a0] from rfl) (Reps.none _ _))); intro v2 w2 ho hb2 hg_ hnew_; have HO2 := Aside0.mk ho; have HB2 := Aside0.mk hb2; clear ho hb2 hg_ hnew_)
      | (at_builtin; refine Kd.R_append_rows (Kd.int .u8) (w0 := w1) w1.heap.size rfl (.tmp 37) (.tmp 38) 23 5 (.int .u8 0) 1 rfl Try.underlying23 info5 rfl (by decide) (by omega) v2 [a0] l1 _ _ _ (fun _ => True) (fun _ => False) rfl rfl HO2.out (Kd.C_below (Kd.C_below HR.out HB1.out) HB2.out) (fun _ _ h => h) (fun _ h => h.elim) (fun _ _ => trivial) HB2.out HB2.out.size (by have := HM.out; simp; omega) ?_; intro v3 w3 ho2 hb3 hg_ hat_; have HO3 := Aside0.mk ho2; have HB3 := Aside0.mk hb3; clear ho2 hb3 hg_ hat_ HO2 HB2))
    have hr3 := HO3.out
    obtain ⟨A3, c3, rfl⟩ := Kd.R_slice hr3
    have hb13 := HB3.out
    have h13 : w1.heap.size ≤ w3.heap.size := hb13.size
    refine (lrc_Append.calls A3 c3 ([a0] ++ l1) (frmF a0 l1) w3 (Kd.R_reads' hr3).2.2 (Kd.R_reads' hr3).2.1 (frm_append a0 l1 (by rw [HLM.out]; exact HM.out.2))).mono ?_
    rintro e w4 ⟨v4, rfl, hr4, hb4⟩
    obtain ⟨F, hF⟩ : ∃ F, frmF a0 l1 = F := ⟨_, rfl⟩
    have HFB := Aside0.mk (frmF_bd a0 l1 HST.out H5.out.1)
    have hFl : (frmF a0 l1).length = M + 2 := by unfold frmF; simp; exact HLM.out
    rw [hF] at hr4 HFB hFl
    have HF := Aside0.mk hF
    clear hF
    obtain ⟨gF, cF, rfl, hgF, hgl, _⟩ := Kd.R_form hr4 (by omega)
    obtain ⟨m, hm⟩ : ∃ m, F.length = m := ⟨_, rfl⟩
    have hmM : m = M + 2 := hm.symm.trans hFl
    have HMM := Aside0.mk (show 0 < m ∧ m ≤ 300 by have := HM.out; omega)
    rw [hm] at hr4 ⊢
    have HMF := Aside0.mk hm
    have hv1 : ∀ k, v1.ownBlock = some k → k < w1.heap.size := Kd.R_lt HS1.out.2.1
    have hb1l : b < w1.heap.size := blk_lt HS1.out.1.choose_spec.2
    have HBF : Aside0 (gF ≠ b) := ⟨by omega⟩
    have HVF : Aside0 (some gF ≠ v1.ownBlock) := ⟨fun e => by have := hv1 gF e.symm; omega⟩
    have hb14 : Below w1.heap.size w1 w4 := hb13.trans (hb4.mono h13)
    have HS4 : Aside0 (Sd w4 w.heap.size b v1 [58]) := ⟨by
      obtain ⟨⟨p, hp, hb⟩, hr, hle⟩ := HS1.out
      exact ⟨⟨p, hp, blk_below hb hb14⟩, Kd.R_below hr hb14, hle⟩⟩
    have HB4 := Aside0.mk (HB1.out.trans (hb14.mono HB1.out.size))
    have HR4 : Aside0 (Kd.R (Kd.int .u8) 5 w4 w.heap.size (fun k => some k = (Value.slice (some ⟨gF, 0, none⟩) m cF).ownBlock) (.slice (some ⟨gF, 0, none⟩) m cF) F) := ⟨Kd.R_tight rfl (Kd.R_lower hr4 (Nat.le_trans HB1.out.size h13))⟩
    clear hr3 hb13 h13 hr4 hb4 hgF hgl hm hmM hFl hv1 hb1l hb14 HS1 HB1 HO3 HB3
    go_wp2_with fail
    go_loopw [42] (fun v42 wr => ∃ (k : Nat) (v : Value), k ≤ m ∧ v42 = .int .i64 (k : Int) ∧ Aside0 (Sd wr w.heap.size b v (58 :: hexF (F.take k))) ∧ Aside0 (some gF ≠ v.ownBlock) ∧ Aside0 (Kd.R (Kd.int .u8) 5 wr w.heap.size (fun k => some k = (Value.slice (some ⟨gF, 0, none⟩) m cF).ownBlock) (.slice (some ⟨gF, 0, none⟩) m cF) F) ∧ Aside0 (Below w.heap.size w wr)) (fun v42 _ => m - (intOf v42).toNat)
    case atStart => exact ⟨0, v1, Nat.zero_le _, rfl, HS4, HVF, HR4, HB4⟩
    case round =>
      clear HS4 HVF HR4 HB4
      obtain ⟨k, v, hkm, rfl, HS, HV, HRF, HB⟩ := hrel
      by_cases hlt : k < m
      · have q1 : (k : Int) < (m : Int) := by omega
        have q0 : (0 : Int) ≤ (k : Int) := by omega
        obtain ⟨x, hx⟩ : ∃ x, F[k]? = some x := ⟨F[k]'(by rw [HMF.out]; exact hlt), by rw [List.getElem?_eq_getElem]⟩
        have hc := (Kd.R_celln (0 : Int) HRF.out (k : Int) (by omega) (by omega)).1
        rw [Int.toNat_natCast] at hc
        have hrx : rdOf (0 : Int) F (k : Int) = x := by unfold rdOf; rw [Int.toNat_natCast, List.getD_eq_getElem?_getD, hx]; rfl
        rw [hrx] at hc
        have hxb := HFB.out x (List.mem_of_getElem? hx)
        have HSG := Aside0.mk (sgn_calls w wr b v _ x hxb HS.out HB.out (by simp [hexF_len]; have := HMF.out; have := HMM.out; omega))
        have htk : F.take (k + 1) = F.take k ++ [x] := by rw [List.take_add_one, hx]; rfl
        have HTK : Aside0 (58 :: hexF (F.take k) ++ [digF (x / 16), digF (x % 16)] = 58 :: hexF (F.take (k + 1))) := ⟨by rw [htk, hexF_snoc]; rfl⟩
        have HLT := Aside0.mk hlt
        have HM3 := Aside0.mk HMM.out.2
        clear hx hrx hxb htk hkm
        have hen : ∀ (args : Array Value) (W : World), (callFunc 78 args).run Try.prog W = .ok (.enter 78 args) W := fun args W => enters_ (fn := Try.f78) (by kernel_rfl) (by kernel_rfl) rfl args W
        go_wp2_with fail
        refine HSG.out.mono ?_
        rintro e w5 ⟨rfl, v5, hp⟩
        have hs5 := hp.sd
        rw [HTK.out] at hs5
        have HS5 := Aside0.mk hs5
        have HB5 := Aside0.mk hp.below
        have HV5 : Aside0 (some gF ≠ v5.ownBlock) := ⟨fun e => (hp.fresh gF e.symm).elim HV.out (fun hle => by have := Kd.R_lt HRF.out gF rfl; omega)⟩
        have HR5 := Aside0.mk (Kd.R_kept HRF.out hp.kept (fun k hk h => by
          obtain rfl : k = gF := Option.some.inj hk
          exact h.elim HBF.out HV.out))
        clear hp hs5 hc hen
        have hm3 := HM3.out
        go_wp2
        go_roundw
        case rel => exact ⟨k + 1, v5, by have := HLT.out; omega, by go_num, HS5, HV5, HR5, HB5⟩
        case measure => have := HLT.out; simp [intOf]; omega
      · obtain rfl : k = m := by omega
        have q1 : ¬ (k : Int) < (k : Int) := by omega
        clear hlt hkm
        have hs := HS.out
        rw [List.take_of_length_le (by rw [HMF.out]; exact Nat.le_refl _)] at hs
        have hlen : (58 :: hexF F).length = 2 * k + 1 := by rw [List.length_cons, hexF_len, HMF.out]
        have HM3 := HMM.out.2
        have HW1 := Aside0.mk (wb_calls w wr b v _ 13 hs HB.out (by omega))
        have HLEN := Aside0.mk hlen
        clear hs hlen
        go_wp2_with fail
        refine HW1.out.mono ?_
        rintro e w5 ⟨rfl, v5, hp⟩
        have HW2 := Aside0.mk (wb_calls w w5 b v5 _ a2 hp.sd hp.below (by rw [List.length_append, HLEN.out]; simp; omega))
        clear hp
        go_wp2_with fail
        refine HW2.out.mono ?_
        rintro e w6 ⟨rfl, v6, hp⟩
        have htx : 58 :: hexF F ++ [13] ++ [a2] = txtF a0 l1 a2 := by
          unfold txtF
          rw [HF.out]
          simp
        have hs6 := hp.sd
        rw [htx] at hs6
        have HST6 := Aside0.mk (str_calls w w6 b v6 _ hs6 hp.below (by unfold txtF; simp) (by
          intro y hy
          rw [← htx] at hy
          simp only [List.cons_append, List.mem_cons, List.mem_append, List.not_mem_nil, or_false] at hy
          rcases hy with rfl | (hy | rfl) | rfl
          · omega
          · exact hexF_bd F HFB.out y hy
          · omega
          · exact H5.out.2) (by rw [← htx, List.length_append, List.length_append, HLEN.out]; simp; omega))
        clear hp hs6 htx
        go_wp2_with fail
        refine HST6.out.mono ?_
        rintro e w7 ⟨rfl, hb7⟩
        have HB7 := Aside0.mk hb7
        clear hb7
        go_wp2
        go_ret2
        exact ⟨rfl, HB7.out⟩
  · rw [if_neg h5] at h
    cases h

end Go.Proofs.Ytballgciakljnaa.PTextTells

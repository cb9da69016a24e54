-- Written by a program of this session, in the form of the kit's print, some functions by hand (N.B. not a file of print.sh's).
import Derived.Test.YtballgciakljnaaPRampLastx0
import Derived.Test.YtballgciakljnaaPRampLastx2
namespace Go.Proofs.Ytballgciakljnaa.PRampLast
open Go.RowKit Go.Proofs.YtballgciakljnaaW.PrintWords Go.Proofs.YtballgciakljnaaW.PrintLast Go.Proofs.YtballgciakljnaaW.PrintMore Go.Proofs.YtballgciakljnaaM
attribute [local go_sem] max2_int min2_int max_two min_two max_three min_three max_four min_four   -- for this text's walks alone
set_option linter.unusedVariables false
set_option linter.unusedSimpArgs false

/-! ### ramp_Value: function 45 (by hand) -/
structure Rp where
  wo : Bool
  pl : Int
  fr : Int
  st : Int
  tt : Int
  fi : Int
  ev : Int
  ag : Bool
/-- Where a ramp lies. -/
structure RAt (w : World) (g : Nat) (r : Rp) : Prop where
  c0 : w.cell? ⟨g, 0, none⟩ = some (.bool r.wo)
  c1 : w.cell? ⟨g, 1, none⟩ = some (.int .i64 r.pl)
  c2 : w.cell? ⟨g, 2, none⟩ = some (.int .i64 r.fr)
  c3 : w.cell? ⟨g, 3, none⟩ = some (.int .i64 r.st)
  c4 : w.cell? ⟨g, 4, none⟩ = some (.int .i64 r.tt)
  c5 : w.cell? ⟨g, 5, none⟩ = some (.int .i64 r.fi)
  c6 : w.cell? ⟨g, 6, none⟩ = some (.int .i64 r.ev)
  c7 : w.cell? ⟨g, 7, none⟩ = some (.bool r.ag)
theorem RAt.drewN {w : World} {g : Nat} {r : Rp} (h : RAt w g r) (n : Nat) : RAt (w.drewN n) g r := ⟨h.c0, h.c1, h.c2, h.c3, h.c4, h.c5, h.c6, h.c7⟩
def Rp.Ok (r : Rp) : Prop := (0 ≤ r.pl ∧ r.pl ≤ 65535) ∧ (0 ≤ r.fr ∧ r.fr ≤ 65535) ∧ (r.fr ≤ r.tt ∧ r.tt ≤ 65535) ∧ (1 ≤ r.st ∧ r.st ≤ 65536) ∧ (0 ≤ r.fi ∧ r.fi ≤ 1000000) ∧ (1 ≤ r.ev ∧ r.ev ≤ 1000000)
def manyF (r : Rp) : Int := (r.tt - r.fr) / r.st + 1
def valF (r : Rp) (k : Int) : Int := if r.ag = true then r.fr + k % manyF r * r.st else r.fr + (if k ≤ manyF r - 1 then k else manyF r - 1) * r.st
theorem many_bd (r : Rp) (h : r.Ok) : 1 ≤ manyF r ∧ manyF r ≤ 65536 ∧ (manyF r - 1) * r.st ≤ r.tt - r.fr := by
  obtain ⟨_, h2, h3, h4, _, _⟩ := h
  unfold manyF
  have h5 : 0 ≤ (r.tt - r.fr) / r.st := Int.ediv_nonneg (by omega) (by omega)
  have h6 : (r.tt - r.fr) / r.st ≤ r.tt - r.fr := Int.ediv_le_self _ (by omega)
  have h7 : (r.tt - r.fr) / r.st * r.st ≤ r.tt - r.fr := Int.ediv_mul_le _ (by omega)
  refine ⟨by omega, by omega, ?_⟩
  rw [Int.add_sub_cancel]; exact h7
theorem val_bd (r : Rp) (h : r.Ok) (k : Int) (hk : 0 ≤ k) : r.fr ≤ valF r k ∧ valF r k ≤ r.tt := by
  obtain ⟨m1, m2, m3⟩ := many_bd r h
  obtain ⟨_, h2, h3, h4, _, _⟩ := h
  have key : ∀ j : Int, 0 ≤ j → j ≤ manyF r - 1 → r.fr ≤ r.fr + j * r.st ∧ r.fr + j * r.st ≤ r.tt := by
    intro j j0 j1
    have a1 : 0 ≤ j * r.st := Int.mul_nonneg j0 (by omega)
    have a2 : j * r.st ≤ (manyF r - 1) * r.st := Int.mul_le_mul_of_nonneg_right j1 (by omega)
    omega
  unfold valF
  split
  · exact key _ (Int.emod_nonneg _ (by omega)) (by have := Int.emod_lt_of_pos k (show 0 < manyF r by omega); omega)
  · split
    · exact key _ hk (by omega)
    · exact key _ (by omega) (by omega)
set_option maxRecDepth 100000 in
theorem many_calls (g : Nat) (r : Rp) (w : World) (h : RAt w g r) (hok : r.Ok) : Calls Try.prog 162 #[.pointer (some ⟨g, 0, none⟩)] w fun e w' => e = .returned (.int .i64 (manyF r)) ∧ Drawn0 w w' := by
  have c2 := h.c2
  have c3 := h.c3
  have c4 := h.c4
  have hb := many_bd r hok
  obtain ⟨_, h2, h3, h4, _, _⟩ := hok
  have w1 : IntKind.i64.wrap (r.tt - r.fr) = r.tt - r.fr := by rw [i64_w]; unfold wrap64; omega
  have w2 : IntKind.i64.wrap (Int.tdiv (r.tt - r.fr) r.st) = (r.tt - r.fr) / r.st := by
    rw [Int.tdiv_eq_ediv_of_nonneg (by omega), i64_w]; unfold manyF at hb; unfold wrap64; omega
  have w3 : IntKind.i64.wrap ((r.tt - r.fr) / r.st + 1) = manyF r := by rw [i64_w]; unfold manyF at hb ⊢; unfold wrap64; omega
  have d1 : (r.st == 0) = false := beq_eq_false_iff_ne.2 (by omega)
  have d2 : r.st ≠ 0 := by omega
  clear h hb h2 h3 h4
  go_enter Try.func162, Try.ntmps162
  go_wp2
  go_quiet (fail)
  go_wp2
  go_ret
  exact ⟨rfl, ⟨⟨_, rfl⟩⟩⟩
set_option maxRecDepth 100000 in
theorem value_calls (g : Nat) (r : Rp) (k : Int) (w : World) (h : RAt w g r) (hok : r.Ok) (hk : 0 ≤ k ∧ k ≤ 4611686018427387904) : Calls Try.prog 114 #[.pointer (some ⟨g, 0, none⟩), .int .i64 k] w fun e w' => e = .returned (.int .i64 (valF r k)) ∧ Drawn0 w w' := by
  have H := Aside0.mk h
  have HOK := Aside0.mk hok
  have c2 := h.c2
  have c3 := h.c3
  have c7 := h.c7
  have hb := many_bd r hok
  have hv := val_bd r hok k hk.1
  obtain ⟨_, h2, h3, h4, _, _⟩ := hok
  obtain ⟨m, hm⟩ : ∃ m, manyF r = m := ⟨_, rfl⟩
  have HM := Aside0.mk hm
  by_cases ha : r.ag = true
  · have hmod := Int.emod_nonneg k (show manyF r ≠ 0 by omega)
    have hmlt := Int.emod_lt_of_pos k (show 0 < manyF r by omega)
    have hvf : valF r k = r.fr + k % manyF r * r.st := by unfold valF; rw [if_pos ha]
    have hmul : 0 ≤ k % manyF r * r.st := Int.mul_nonneg hmod (by omega)
    have w2 : IntKind.i64.wrap (Int.tmod k m) = k % m := by rw [Int.tmod_eq_emod_of_nonneg hk.1, i64_w, ← hm]; unfold wrap64; omega
    have w2' : Int.tmod k m = k % m := Int.tmod_eq_emod_of_nonneg hk.1
    have w3 : IntKind.i64.wrap (k % m * r.st) = k % m * r.st := by rw [i64_w, ← hm]; unfold wrap64; rw [hvf] at hv; omega
    have w4 : IntKind.i64.wrap (r.fr + k % m * r.st) = r.fr + k % m * r.st := by rw [i64_w, ← hm]; unfold wrap64; rw [hvf] at hv; omega
    have d1 : (m == 0) = false := beq_eq_false_iff_ne.2 (by omega)
    have d2 : m ≠ 0 := by omega
    rw [ha] at c7
    rw [hvf, hm]
    clear h hb hv h2 h3 h4 hmod hmlt hmul hvf hm hk
    go_enter Try.func114, Try.ntmps114
    go_wp2
    go_quiet (first | (go_at_call 162; refine (many_calls g r _ (H.out.drewN _) HOK.out).mono ?_; rintro e w' ⟨rfl, ⟨nd, rfl⟩⟩; rw [HM.out]; (try first | exact ⟨rfl, _, World.drewN_drewN _ _ _⟩ | exact ⟨rfl, _, Eq.trans (World.drewN_drewN _ _ _) (congrArg (World.drewN _) (Nat.add_assoc _ _ _))⟩)))
    go_wp2
    go_ret
    exact ⟨rfl, ⟨⟨_, rfl⟩⟩⟩
  · have ha' : r.ag = false := by simpa using ha
    have hvf : valF r k = r.fr + (if k ≤ manyF r - 1 then k else manyF r - 1) * r.st := by unfold valF; rw [if_neg ha]
    obtain ⟨j, hj⟩ : ∃ j, (if k ≤ m - 1 then k else m - 1) = j := ⟨_, rfl⟩
    rw [hm, hj] at hvf
    have w1 : IntKind.i64.wrap (m - 1) = m - 1 := by rw [i64_w, ← hm]; unfold wrap64; omega
    have hj0 : 0 ≤ j := by rw [← hj]; split <;> omega
    have hmul : 0 ≤ j * r.st := Int.mul_nonneg hj0 (by omega)
    have w3 : IntKind.i64.wrap (j * r.st) = j * r.st := by rw [i64_w]; unfold wrap64; rw [hvf] at hv; omega
    have w4 : IntKind.i64.wrap (r.fr + j * r.st) = r.fr + j * r.st := by rw [i64_w]; unfold wrap64; rw [hvf] at hv; omega
    rw [ha'] at c7
    rw [hvf]
    by_cases hle : k ≤ m - 1
    · rw [if_pos hle] at hj
      subst hj
      have d1 : decide (m - 1 < k) = false := decide_eq_false (by omega)
      clear h hb hv h2 h3 h4 hmul hvf hm hk
      go_enter Try.func114, Try.ntmps114
      go_wp2
      go_quiet (first | (go_at_call 162; refine (many_calls g r _ (H.out.drewN _) HOK.out).mono ?_; rintro e w' ⟨rfl, ⟨nd, rfl⟩⟩; rw [HM.out]; (try first | exact ⟨rfl, _, World.drewN_drewN _ _ _⟩ | exact ⟨rfl, _, Eq.trans (World.drewN_drewN _ _ _) (congrArg (World.drewN _) (Nat.add_assoc _ _ _))⟩)))
      go_wp2
      go_ret
      exact ⟨rfl, ⟨⟨_, rfl⟩⟩⟩
    · rw [if_neg hle] at hj
      subst hj
      have d1 : decide (m - 1 < k) = true := decide_eq_true (by omega)
      clear h hb hv h2 h3 h4 hmul hvf hm hk
      go_enter Try.func114, Try.ntmps114
      go_wp2
      go_quiet (first | (go_at_call 162; refine (many_calls g r _ (H.out.drewN _) HOK.out).mono ?_; rintro e w' ⟨rfl, ⟨nd, rfl⟩⟩; rw [HM.out]; (try first | exact ⟨rfl, _, World.drewN_drewN _ _ _⟩ | exact ⟨rfl, _, Eq.trans (World.drewN_drewN _ _ _) (congrArg (World.drewN _) (Nat.add_assoc _ _ _))⟩)))
      go_wp2
      go_ret
      exact ⟨rfl, ⟨⟨_, rfl⟩⟩⟩
instance (r : Rp) : Decidable r.Ok := by unfold Rp.Ok; infer_instance
theorem in_eq (n a b : Int) : ramp_in.f n a b = some (decide (a ≤ n ∧ n ≤ b)) := by
  unfold ramp_in.f
  by_cases h : n ≥ a
  · rw [if_pos h]; congr 1; rw [decide_eq_decide]; omega
  · rw [if_neg h]; congr 1; symm; rw [decide_eq_false_iff_not]; omega
theorem right_eq (r : Rp) : ramp_Right.f r.wo r.pl r.fr r.st r.tt r.fi r.ev r.ag = some (decide r.Ok) := by
  unfold ramp_Right.f
  simp only [in_eq, Option.bind_some]
  by_cases h1 : 0 ≤ r.pl ∧ r.pl ≤ 65535
  · rw [if_pos (decide_eq_true h1)]
    by_cases h2 : 0 ≤ r.fr ∧ r.fr ≤ 65535
    · rw [if_pos (decide_eq_true h2)]
      by_cases h3 : r.fr ≤ r.tt ∧ r.tt ≤ 65535
      · rw [if_pos (decide_eq_true h3)]
        by_cases h4 : 1 ≤ r.st ∧ r.st ≤ 65536
        · rw [if_pos (decide_eq_true h4)]
          by_cases h5 : 0 ≤ r.fi ∧ r.fi ≤ 1000000
          · rw [if_pos (decide_eq_true h5)]
            congr 1; rw [decide_eq_decide]
            exact ⟨fun h6 => ⟨h1, h2, h3, h4, h5, h6⟩, fun h => h.2.2.2.2.2⟩
          · rw [if_neg (by rw [decide_eq_true_eq]; exact h5)]; congr 1; symm; rw [decide_eq_false_iff_not]; exact fun h => h5 h.2.2.2.2.1
        · rw [if_neg (by rw [decide_eq_true_eq]; exact h4)]; congr 1; symm; rw [decide_eq_false_iff_not]; exact fun h => h4 h.2.2.2.1
      · rw [if_neg (by rw [decide_eq_true_eq]; exact h3)]; congr 1; symm; rw [decide_eq_false_iff_not]; exact fun h => h3 h.2.2.1
    · rw [if_neg (by rw [decide_eq_true_eq]; exact h2)]; congr 1; symm; rw [decide_eq_false_iff_not]; exact fun h => h2 h.2.1
  · rw [if_neg (by rw [decide_eq_true_eq]; exact h1)]; congr 1; symm; rw [decide_eq_false_iff_not]; exact fun h => h1 h.1
def rvals (r : Rp) : Array Value := #[.bool r.wo, .int .i64 r.pl, .int .i64 r.fr, .int .i64 r.st, .int .i64 r.tt, .int .i64 r.fi, .int .i64 r.ev, .bool r.ag]
theorem right_calls (r : Rp) (w : World) : Calls Try.prog 47 #[.agg (rvals r)] w fun e w' => e = .returned (.bool (decide r.Ok)) ∧ Below w.heap.size w w' :=
  ramp_Right.calls r.wo r.pl r.fr r.st r.tt r.fi r.ev r.ag _ w (right_eq r)
theorem RAt.of_blk {w : World} {g t : Nat} {r : Rp} {cs : Array Value} (h : w.heap[g]? = some (.cells cs t (0, 0))) (hc : cs.toList.take 8 = (rvals r).toList) : RAt w g r := by
  have hx : ∀ j (v : Value), (rvals r)[j]? = some v → w.cell? ⟨g, j, none⟩ = some v := by
    intro j v hv
    rw [blk_cell h j]
    have h1 : (rvals r).toList[j]? = some v := by rw [Array.getElem?_toList]; exact hv
    rw [← hc] at h1
    rw [List.getElem?_take] at h1
    split at h1
    · rw [← Array.getElem?_toList]; exact h1
    · cases h1
  exact ⟨hx 0 _ rfl, hx 1 _ rfl, hx 2 _ rfl, hx 3 _ rfl, hx 4 _ rfl, hx 5 _ rfl, hx 6 _ rfl, hx 7 _ rfl⟩
def ramp_Value.g (r : Rp) (at_ : Int) : Int × Bool := if r.Ok then (if at_ < r.fi ∨ 1099511627776 < at_ then (0, false) else (valF r ((at_ - r.fi) / r.ev), true)) else (0, false)
def ramp_Value.f (a0_0 : Bool) (a0_1 a0_2 a0_3 a0_4 a0_5 a0_6 : Int) (a0_7 : Bool) (a1 : Int) : Option (Int × Bool) := some (ramp_Value.g ⟨a0_0, a0_1, a0_2, a0_3, a0_4, a0_5, a0_6, a0_7⟩ a1)
set_option maxRecDepth 100000 in
theorem rv_calls (r : Rp) (a1 : Int) (w : World) : Calls Try.prog 45 #[.agg (rvals r), .int .i64 a1] w fun e w' => e = .returned (.tuple #[.int .i64 (ramp_Value.g r a1).1, .bool (ramp_Value.g r a1).2]) ∧ Below w.heap.size w w' := by
  unfold ramp_Value.g
  unfold rvals
  obtain ⟨g, hg⟩ : ∃ g, g = w.heap.size := ⟨_, rfl⟩
  obtain ⟨W, hW⟩ : ∃ W, W = w.alloc (.cells (rvals r) 87) := ⟨_, rfl⟩
  have hblk : W.heap[g]? = some (.cells (rvals r) 87 (0, 0)) := by rw [hW, hg]; exact blk_new w _
  have HR := Aside0.mk (RAt.of_blk (r := r) hblk rfl)
  have HBW := Aside0.mk (show Below w.heap.size w W by rw [hW]; exact (Below.refl _ _).alloc (Nat.le_refl _) _)
  have HRC := Aside0.mk (right_calls r W)
  have HBLK := Aside0.mk hblk
  unfold rvals at hW
  by_cases hok : r.Ok
  · rw [if_pos hok]
    have HOK := Aside0.mk hok
    rw [decide_eq_true hok] at HRC
    have c0 := HR.out.c0
    have c1 := HR.out.c1
    have c2 := HR.out.c2
    have c3 := HR.out.c3
    have c4 := HR.out.c4
    have c5 := HR.out.c5
    have c6 := HR.out.c6
    have c7 := HR.out.c7
    rw [hW, hg] at c0 c1 c2 c3 c4 c5 c6 c7
    have hfi := hok.2.2.2.2.1
    have hev := hok.2.2.2.2.2
    have k5 : ∀ U : World, Below W.heap.size W U → U.cell? ⟨g, 5, none⟩ = some (.int .i64 r.fi) := fun U hU => (RAt.of_blk (r := r) (blk_below hblk hU) rfl).c5
    have K5 := Aside0.mk k5
    clear hok hblk k5
    by_cases hlo : a1 < r.fi
    · rw [if_pos (Or.inl hlo)]
      have d1 : decide (a1 < r.fi) = true := decide_eq_true hlo
      go_enter Try.func45, Try.ntmps45
      go_wp2_with fail
      rw [← hW, ← hg]
      clear c0 c1 c2 c3 c4 c5 c6 c7 hW hg
      refine HRC.out.mono ?_
      rintro e w1 ⟨rfl, hb1⟩
      have HB1 := Aside0.mk (HBW.out.trans (hb1.mono HBW.out.size))
      have h5 := K5.out w1 hb1
      have h6 := (RAt.of_blk (r := r) (blk_below HBLK.out hb1) rfl).c6
      have HR1 := Aside0.mk (RAt.of_blk (r := r) (blk_below HBLK.out hb1) rfl)
      clear hb1
      go_wp2
      go_ret2
      exact ⟨rfl, HB1.out⟩
    have d1 : decide (a1 < r.fi) = false := decide_eq_false hlo
    by_cases hhi : 1099511627776 < a1
    · rw [if_pos (Or.inr hhi)]
      have d2 : decide (1099511627776 < a1) = true := decide_eq_true hhi
      go_enter Try.func45, Try.ntmps45
      go_wp2_with fail
      rw [← hW, ← hg]
      clear c0 c1 c2 c3 c4 c5 c6 c7 hW hg
      refine HRC.out.mono ?_
      rintro e w1 ⟨rfl, hb1⟩
      have HB1 := Aside0.mk (HBW.out.trans (hb1.mono HBW.out.size))
      have h5 := K5.out w1 hb1
      have h6 := (RAt.of_blk (r := r) (blk_below HBLK.out hb1) rfl).c6
      have HR1 := Aside0.mk (RAt.of_blk (r := r) (blk_below HBLK.out hb1) rfl)
      clear hb1
      go_wp2
      go_ret2
      exact ⟨rfl, HB1.out⟩
    have d2 : decide (1099511627776 < a1) = false := decide_eq_false hhi
    rw [if_neg (by omega)]
    have q1 : 0 ≤ (a1 - r.fi) / r.ev := Int.ediv_nonneg (by omega) (by omega)
    have q2 : (a1 - r.fi) / r.ev ≤ a1 - r.fi := Int.ediv_le_self _ (by omega)
    have q3 : (a1 - r.fi) / r.ev ≤ 4611686018427387904 := by omega
    have w1_ : IntKind.i64.wrap (a1 - r.fi) = a1 - r.fi := by rw [i64_w]; unfold wrap64; omega
    have w2_ : IntKind.i64.wrap (Int.tdiv (a1 - r.fi) r.ev) = (a1 - r.fi) / r.ev := by rw [Int.tdiv_eq_ediv_of_nonneg (by omega), i64_w]; unfold wrap64; omega
    have d3 : (r.ev == 0) = false := beq_eq_false_iff_ne.2 (by omega)
    have d4 : r.ev ≠ 0 := by omega
    go_enter Try.func45, Try.ntmps45
    go_wp2_with fail
    rw [← hW, ← hg]
    clear c0 c1 c2 c3 c4 c5 c6 c7 hW hg
    refine HRC.out.mono ?_
    rintro e w1 ⟨rfl, hb1⟩
    have HB1 := Aside0.mk (HBW.out.trans (hb1.mono HBW.out.size))
    have h5 := K5.out w1 hb1
    have h6 := (RAt.of_blk (r := r) (blk_below HBLK.out hb1) rfl).c6
    have HR1 := Aside0.mk (RAt.of_blk (r := r) (blk_below HBLK.out hb1) rfl)
    clear hb1
    have HV := Aside0.mk (value_calls g r ((a1 - r.fi) / r.ev) w1 HR1.out HOK.out ⟨q1, q3⟩)
    have hen : ∀ (args : Array Value) (U : World), (callFunc 114 args).run Try.prog U = .ok (.enter 114 args) U := fun args U => enters_ (fn := Try.f114) (by kernel_rfl) (by kernel_rfl) rfl args U
    go_wp2_with fail
    refine HV.out.mono ?_
    rintro e w2 ⟨rfl, hd⟩
    obtain ⟨n, rfl⟩ := hd.out
    have HB2 := Aside0.mk (pw_below_drewN HB1.out n)
    clear hd h5 h6 hen
    go_wp2
    go_ret2
    exact ⟨rfl, HB2.out⟩
  · rw [if_neg hok]
    rw [decide_eq_false hok] at HRC
    clear hok
    have c0 := HR.out.c0
    have c1 := HR.out.c1
    have c2 := HR.out.c2
    have c3 := HR.out.c3
    have c4 := HR.out.c4
    have c5 := HR.out.c5
    have c6 := HR.out.c6
    have c7 := HR.out.c7
    rw [hW, hg] at c0 c1 c2 c3 c4 c5 c6 c7
    clear hblk
    go_enter Try.func45, Try.ntmps45
    go_wp2_with fail
    rw [← hW]
    refine HRC.out.mono ?_
    rintro e w1 ⟨rfl, hb1⟩
    have HB1 := Aside0.mk (HBW.out.trans (hb1.mono HBW.out.size))
    clear hb1 c0 c1 c2 c3 c4 c5 c6 c7
    go_wp2
    go_ret2
    exact ⟨rfl, HB1.out⟩
theorem ramp_Value.calls (a0_0 : Bool) (a0_1 a0_2 a0_3 a0_4 a0_5 a0_6 : Int) (a0_7 : Bool) (a1 : Int) (r1 : Int) (r2 : Bool) (w : World) (h : ramp_Value.f a0_0 a0_1 a0_2 a0_3 a0_4 a0_5 a0_6 a0_7 a1 = some (r1, r2)) :
    Calls Try.prog 45 #[.agg #[.bool a0_0, .int .i64 a0_1, .int .i64 a0_2, .int .i64 a0_3, .int .i64 a0_4, .int .i64 a0_5, .int .i64 a0_6, .bool a0_7], .int .i64 a1] w fun e w' => e = .returned (.tuple #[.int .i64 r1, .bool r2]) ∧ Below w.heap.size w w' := by
  have h1 := Option.some.inj h
  have h2 := rv_calls ⟨a0_0, a0_1, a0_2, a0_3, a0_4, a0_5, a0_6, a0_7⟩ a1 w
  rw [h1] at h2
  exact h2

end Go.Proofs.Ytballgciakljnaa.PRampLast

-- Written by a program of this session, in the form of the kit's print, some functions by hand (N.B. not a file of print.sh's).
import Derived.Test.YtballgciakljnaaPTextTellsx0
import Derived.Test.YtballgciakljnaaPTextTellsx2
import Derived.Test.YtballgciakljnaaPTextTellsx7
import Derived.Test.YtballgciakljnaaPTextTellsx8
namespace Go.Proofs.Ytballgciakljnaa.PTextTells
open Go.RowKit Go.Proofs.YtballgciakljnaaW.PrintWords Go.Proofs.YtballgciakljnaaW.PrintLast Go.Proofs.YtballgciakljnaaW.PrintMore Go.Proofs.YtballgciakljnaaM
attribute [local go_sem] max2_int min2_int max_two min_two max_three min_three max_four min_four   -- for this text's walks alone
set_option linter.unusedVariables false
set_option linter.unusedSimpArgs false

/-! ### text_Turn: function 25 -/
def text_Turn.f (l0 : List Int) (a1 : Int) : Option (ByteArray × Int) := (adu_Open.f l0).bind fun bt157 => (if bt157.2.2 = 0 then ((text_Write.f bt157.1 bt157.2.1 a1).bind fun bt162 => (some (bt162.1, bt162.2))) else (some ((⟨#[]⟩ : ByteArray), bt157.2.2)))
set_option maxHeartbeats 8000000 in
set_option maxRecDepth 100000 in
theorem text_Turn.calls (A0 : Option Addr) (c0 : Nat) (l0 : List Int) (a1 : Int) (r1 : ByteArray) (r2 : Int) (w : World) (hr0 : Kd.C (Kd.int .u8) w A0 l0.length l0) (hc0 : l0.length ≤ c0) (h : text_Turn.f l0 a1 = some (r1, r2)) :
    Calls Try.prog 25 #[.slice A0 l0.length c0, .int .u8 a1] w fun e w' => e = .returned (.tuple #[.string r1, .int .i64 r2]) ∧ Below w.heap.size w w' := by
  have HR0 := Aside0.mk hr0
  have HC0 := Aside0.mk hc0
  clear hr0 hc0
  have HB := Aside0.mk (Below.refl w.heap.size w)
  have H : ((adu_Open.f l0).bind fun bt157 => (if bt157.2.2 = 0 then ((text_Write.f bt157.1 bt157.2.1 a1).bind fun bt162 => (some (bt162.1, bt162.2))) else (some ((⟨#[]⟩ : ByteArray), bt157.2.2)))) = some (r1, r2) := h
  clear h
  replace H := Option.bind_eq_some_iff.mp H
  obtain ⟨⟨t157, t158, t159⟩, A30, H⟩ := H
  replace H : (if t159 = 0 then ((text_Write.f t157 t158 a1).bind fun bt162 => (some (bt162.1, bt162.2))) else (some ((⟨#[]⟩ : ByteArray), t159))) = some (r1, r2) := H
  have A3 := Aside0.mk A30
  clear A30
  by_cases c4 : t159 = 0
  · rw [if_pos c4] at H
    have c4b0 : (t159 == 0) = true := beq_iff_eq.mpr c4
    have c4b1 : (t159 != 0) = false := bne_eq_false_iff_eq.mpr c4
    clear c4
    replace H := Option.bind_eq_some_iff.mp H
    obtain ⟨⟨t162, t163⟩, A50, H⟩ := H
    replace H : (some (t162, t163)) = some (r1, r2) := H
    have A5 := Aside0.mk A50
    clear A50
    simp only [Option.some.injEq, Prod.mk.injEq] at H
    obtain ⟨rfl, rfl⟩ := H
    go_enter Try.func25, Try.ntmps25
    go_wp2_with (first | ((with_reducible refine gate_callee (f := 58) rfl ?_); refine goesL_ (some 11) rfl rfl Try.func58 (by kernel_rfl) rfl #[.slice A0 l0.length c0] rfl (by (try simp only [List.map_toArray, List.map_cons, List.map_nil]); first | done | rfl | (simp only [List.length_drop, List.length_take]; rfl)) ?_; (with_reducible refine (adu_Open.calls _ _ l0 t157 t158 t159 _ ?side1 ?side2 A3.out).mono ?_); (case side1 => repeat (first | exact HR0.out | (with_reducible refine Kd.C_alloc ?_ _) | (with_reducible refine Kd.C_drewN ?_ _) | (with_reducible refine Kd.C_drew ?_))); (case side2 => exact HC0.out); rintro e w6 ⟨v160, rfl, ho0, hb⟩; refine ⟨_, rfl, ?_⟩; have n0_ := Aside0.mk (Kd.R_lower ho0 (below_size (by repeat (first | (with_reducible first | exact HB.out | apply below_alloc | apply pw_below_drewN | apply below_drew1) | exact HB.out)))); have n1_ := Aside0.mk (below_step (by repeat (first | (with_reducible first | exact HB.out | apply below_alloc | apply pw_below_drewN | apply below_drew1) | exact HB.out)) hb); clear HB; have HO161 := n0_; have HB := n1_; clear n0_ n1_; (try clear hb); (try clear hb2); (try clear hk); (try clear hi); (try clear ho0); obtain ⟨Ao7, co7, eo7⟩ := Kd.R_slice HO161.out; subst eo7) | ((with_reducible refine gate_callee (f := 17) rfl ?_); refine goesL_ (some 21) rfl rfl Try.func17 (by kernel_rfl) rfl #[.int .i64 t157, .slice Ao7 t158.length co7, .int .u8 a1] rfl (by (try simp only [List.map_toArray, List.map_cons, List.map_nil]); first | done | rfl | (simp only [List.length_drop, List.length_take]; rfl)) ?_; (with_reducible refine (text_Write.calls t157 _ _ t158 a1 t162 t163 _ ?side1 ?side2 A5.out).mono ?_); (case side1 => repeat (first | exact (Kd.R_reads' HO161.out).2.2 | (with_reducible refine Kd.C_alloc ?_ _) | (with_reducible refine Kd.C_drewN ?_ _) | (with_reducible refine Kd.C_drew ?_))); (case side2 => exact (Kd.R_reads' HO161.out).2.1); rintro e w8 ⟨rfl, hb⟩; refine ⟨_, rfl, ?_⟩; have n0_ := Aside0.mk (Kd.R_below (by (with_reducible repeat (first | apply Kd.R_alloc | apply Kd.R_drewN | apply Kd.R_drew)); exact HO161.out) hb); have n1_ := Aside0.mk (below_step (by repeat (first | (with_reducible first | exact HB.out | apply below_alloc | apply pw_below_drewN | apply below_drew1) | exact HB.out)) hb); clear HO161; clear HB; have HO161 := n0_; have HB := n1_; clear n0_ n1_; (try clear hb); (try clear hb2); (try clear hk); (try clear hi)))
    go_ret2
    exact ⟨by first | rfl | (simp [errW_none, errW_some] <;> rfl) | (simp [*, errW_none, errW_some] <;> rfl), by repeat (first | (with_reducible first | exact HB.out | apply below_alloc | apply pw_below_drewN | apply below_drew1) | exact HB.out)⟩
  · rw [if_neg c4] at H
    have c4b0 : (t159 == 0) = false := beq_eq_false_iff_ne.mpr c4
    have c4b1 : (t159 != 0) = true := bne_iff_ne.mpr c4
    simp only [Option.some.injEq, Prod.mk.injEq] at H
    obtain ⟨rfl, rfl⟩ := H
    go_enter Try.func25, Try.ntmps25
    go_wp2_with (first | ((with_reducible refine gate_callee (f := 58) rfl ?_); refine goesL_ (some 11) rfl rfl Try.func58 (by kernel_rfl) rfl #[.slice A0 l0.length c0] rfl (by (try simp only [List.map_toArray, List.map_cons, List.map_nil]); first | done | rfl | (simp only [List.length_drop, List.length_take]; rfl)) ?_; (with_reducible refine (adu_Open.calls _ _ l0 t157 t158 t159 _ ?side1 ?side2 A3.out).mono ?_); (case side1 => repeat (first | exact HR0.out | (with_reducible refine Kd.C_alloc ?_ _) | (with_reducible refine Kd.C_drewN ?_ _) | (with_reducible refine Kd.C_drew ?_))); (case side2 => exact HC0.out); rintro e w9 ⟨v160, rfl, ho0, hb⟩; refine ⟨_, rfl, ?_⟩; have n0_ := Aside0.mk (Kd.R_lower ho0 (below_size (by repeat (first | (with_reducible first | exact HB.out | apply below_alloc | apply pw_below_drewN | apply below_drew1) | exact HB.out)))); have n1_ := Aside0.mk (below_step (by repeat (first | (with_reducible first | exact HB.out | apply below_alloc | apply pw_below_drewN | apply below_drew1) | exact HB.out)) hb); clear HB; have HO161 := n0_; have HB := n1_; clear n0_ n1_; (try clear hb); (try clear hb2); (try clear hk); (try clear hi); (try clear ho0)))
    go_ret2
    exact ⟨by first | rfl | (simp [errW_none, errW_some] <;> rfl) | (simp [*, errW_none, errW_some] <;> rfl), by repeat (first | (with_reducible first | exact HB.out | apply below_alloc | apply pw_below_drewN | apply below_drew1) | exact HB.out)⟩

/-! ### word_Low: function 151 -/
def word_Low.f (a0 : Int) : Option (List Int) := some (([(Go.bits .and .u16 a0 255) % 256, (a0 / 256) % 256] : List Int))
set_option maxHeartbeats 8000000 in
set_option maxRecDepth 100000 in
theorem word_Low.calls (a0 : Int) (r : List Int) (w : World) (h : word_Low.f a0 = some r) :
    Calls Try.prog 151 #[.int .u16 a0] w fun e w' => ∃ v0_ : Value, e = .returned (v0_) ∧ Kd.R (Kd.int .u8) 5 w' w.heap.size (fun _ => True) v0_ r ∧ Below w.heap.size w w' := by
  have HB := Aside0.mk (Below.refl w.heap.size w)
  have H : (some (([(Go.bits .and .u16 a0 255) % 256, (a0 / 256) % 256] : List Int))) = some r := h
  clear h
  obtain ⟨y164, hy164⟩ : ∃ y_ : List Int, y_ = (([(Go.bits .and .u16 a0 255) % 256, (a0 / 256) % 256] : List Int)) := ⟨_, rfl⟩
  replace H : (some y164) = some r := by first | (rw [hy164]; with_reducible exact H) | (have H2_ := (Option.bind_some _ _).symm.trans H; rw [hy164]; with_reducible exact H2_) | (have H2_ := (Option.bind_some _ _).symm.trans H; with_reducible exact H2_) | with_reducible exact H | (rw [hy164]; exact H) | exact H
  have Ny164 := Aside0.mk hy164
  clear hy164
  obtain rfl := Option.some.inj H
  go_enter Try.func151, Try.ntmps151
  go_wp2_with (first | ((with_reducible refine gate_dst (N := 9) rfl ?_); refine Kd.R_lit (Kd.int .u8) _ 5 ?hg (N := 9) ?hd (xs := ([(Go.bits .and .u16 a0 255) % 256, (a0 / 256) % 256] : List Int)) (inner := [.int .u8 ((Go.bits .and .u16 a0 255) % 256), .int .u8 ((a0 / 256) % 256)]) (ok := fun _ => True) (okp := fun _ => True) ?hr ?hp (fun _ hk => hk) trivial (Below.refl _ _) (Nat.le_refl _) (by simp) ?_; (case hd => rfl); (case hg => rfl); (case hr => first | (go_simp; done) | (go_simp; rfl)); (case hp => exact (Reps.one (show Kd.M (Kd.int .u8) _ _ _ ((Go.bits .and .u16 a0 255) % 256) [.int .u8 ((Go.bits .and .u16 a0 255) % 256)] from rfl) (Reps.one (show Kd.M (Kd.int .u8) _ _ _ ((a0 / 256) % 256) [.int .u8 ((a0 / 256) % 256)] from rfl) (Reps.none _ _)))); intro v165 w2 ho3 hb hg_ hnew_; clear hg_ hnew_; (first | rw [← Ny164.out] at ho3 | (simp only [Int.reduceToNat] at ho3; rw [← Ny164.out] at ho3)); have n0_ := Aside0.mk (Kd.R_lower ho3 (below_size (by repeat (first | (with_reducible first | exact HB.out | apply below_alloc | apply pw_below_drewN | apply below_drew1) | exact HB.out)))); have n1_ := Aside0.mk (below_step (by repeat (first | (with_reducible first | exact HB.out | apply below_alloc | apply pw_below_drewN | apply below_drew1) | exact HB.out)) hb); clear HB; have HO166 := n0_; have HB := n1_; clear n0_ n1_; clear hb ho3))
  go_ret
  exact ⟨_, by first | rfl | (simp [errW_none, errW_some] <;> rfl) | (simp [*, errW_none, errW_some] <;> rfl), by (with_reducible repeat (first | apply Kd.R_alloc | apply Kd.R_drewN | apply Kd.R_drew)); exact HO166.out, by repeat (first | (with_reducible first | exact HB.out | apply below_alloc | apply pw_below_drewN | apply below_drew1) | exact HB.out)⟩

/-! ### crc_Append: function 93 (by hand) -/
theorem crc_row (W : World) (n c : Nat) (hnc : n ≤ c) (hc : c ≤ 140737488355328) : Kd.R (Kd.int .u8) 5 (W.alloc (.cells (madeCells #[.int .u8 0] c) 5)) W.heap.size (fun _ => True) (.slice (some ⟨W.heap.size, 0, none⟩) n c) (List.replicate n 0) := by
  have h : Kd.R (Kd.int .u8) 5 (W.alloc (.cells (madeCells #[.int .u8 0] c) 5)) W.heap.size (fun _ => True) (.slice (some ⟨W.heap.size, 0, none⟩) c c) (List.replicate c 0) := by
    have hr := Kd.reps_made (R := Kd.M (Kd.int .u8) (W.alloc (.cells (madeCells #[.int .u8 0] c) 5)) W.heap.size (fun k => True ∧ some k ≠ (Value.slice (some ⟨W.heap.size, 0, none⟩) c c).ownBlock)) (z := Value.int .u8 0) (size := 1) (z0 := (0 : Int)) rfl (by decide) rfl c
    rw [Nat.mul_one] at hr
    refine ⟨fun _ _ => trivial, _, ?_, hr⟩
    rw [List.length_replicate]
    exact World.ownsRow_lit W _ c (Nat.le_refl _) (by unfold maxLen; omega) (by simp [size_madeCells, Kd.int, Kd.scalar])
  have h2 := Kd.R_take h (m := n) (by simpa using hnc)
  rw [List.take_replicate, Nat.min_eq_left hnc] at h2
  exact h2
def crc_Append.f (l0 : List Int) : Option (List Int) := if l0.length < 140737488355000 ∧ ∀ x ∈ l0, 0 ≤ x ∧ x ≤ 255 then some (l0 ++ [((pRem 65535 l0 % 256 : Nat) : Int), ((pRem 65535 l0 / 256 : Nat) : Int)]) else none
set_option maxRecDepth 100000 in
theorem crc_Append.calls (A0 : Option Addr) (c0 : Nat) (l0 : List Int) (r : List Int) (w : World) (hr0 : Kd.C (Kd.int .u8) w A0 l0.length l0) (hc0 : l0.length ≤ c0) (h : crc_Append.f l0 = some r) :
    Calls Try.prog 93 #[.slice A0 l0.length c0] w fun e w' => ∃ v0_ : Value, e = .returned (v0_) ∧ Kd.R (Kd.int .u8) 5 w' w.heap.size (fun _ => True) v0_ r ∧ Below w.heap.size w w' := by
  unfold crc_Append.f at h
  split at h
  case isFalse => cases h
  case isTrue hb =>
  obtain rfl := Option.some.inj h
  have hs : crc_Sum.f l0 = some ((pRem 65535 l0 : Nat) : Int) := by unfold crc_Sum.f; rw [if_pos hb.2]
  have hm : pRem 65535 l0 < 65536 := pRem_lt _ (by omega)
  have hlow : word_Low.f ((pRem 65535 l0 : Nat) : Int) = some [((pRem 65535 l0 % 256 : Nat) : Int), ((pRem 65535 l0 / 256 : Nat) : Int)] := by
    generalize pRem 65535 l0 = m at hm
    have e : bits .and .u16 (m : Int) 255 = ((m % 256 : Nat) : Int) := by
      have := u16_and_nat m 255 hm (by omega)
      rw [show m &&& 255 = m % 256 from Nat.and_two_pow_sub_one_eq_mod m 8] at this
      exact this
    unfold word_Low.f
    rw [e, show ((m % 256 : Nat) : Int) % 256 = ((m % 256 : Nat) : Int) by omega, show (m : Int) / 256 % 256 = ((m / 256 : Nat) : Int) by omega]
  have HS := Aside0.mk hs
  have HL := Aside0.mk hlow
  have hn := hb.1
  have HC0 := Aside0.mk hc0
  have HR0 := Aside0.mk hr0
  clear h hb hr0 hc0 hs hlow hm
  obtain ⟨i0, hi0, hz0, hsz0, hby0⟩ := info_parts info5
  have hmk : ∀ W : World, (Instr.makeSlice 23 (.int .i64 (l0.length : Int)) (.int .i64 ((l0.length : Int) + 2))).run Try.prog W = .ok (.slice (some ⟨W.heap.size, 0, none⟩) l0.length (l0.length + 2)) (W.alloc (.cells (madeCells (Value.int .u8 0).cells ((l0.length + 2) * 1)) 5)) := by
    intro W
    have := run_make (P := Try.prog) W 23 5 i0 (.int .u8 0) Try.underlying23 hi0 hz0 .i64 .i64 (l0.length : Int) ((l0.length : Int) + 2) (by omega) (by omega) (by rw [hby0]; omega) (by omega)
    rw [hsz0, Int.toNat_natCast, show ((l0.length : Int) + 2).toNat = l0.length + 2 by omega] at this
    exact this
  generalize hL2 : [((pRem 65535 l0 % 256 : Nat) : Int), ((pRem 65535 l0 / 256 : Nat) : Int)] = L2 at *
  have HN := Aside0.mk (show L2.length = 2 by rw [← hL2]; rfl)
  clear hL2
  generalize ((pRem 65535 l0 : Nat) : Int) = m at *
  have hin : (Try.prog.info? 5).map (·.size) = some 1 := by rw [hi0]; exact congrArg some hsz0
  clear hi0 hz0 hsz0 hby0
  go_enter Try.func93, Try.ntmps93
  go_wp2_with ((with_reducible refine gate_builtin (b := .copy) (xs := #[.tmp 10, .tmp 11]) rfl ?_); refine Kd.R_copy (0 : Int) (w0 := w) w.heap.size rfl (.tmp 10) (.tmp 11) 23 23 5 rfl Try.underlying23 hin (.slice (some ⟨w.heap.size, 0, none⟩) l0.length (l0.length + 2)) (List.replicate l0.length 0) l0 A0 l0.length c0 (fun _ => True) rfl rfl (crc_row w l0.length (l0.length + 2) (by omega) (by omega)) (Kd.C_alloc HR0.out _) ((Below.refl _ _).alloc (Nat.le_refl _) _) (by simp) ?_)
  intro w1 ho hb hg
  have HO := Aside0.mk ho
  have HB := Aside0.mk hb
  clear ho hb hg hmk hin
  go_wp2_with (go_at_call 152; refine (crc_Sum.calls A0 c0 l0 m _ (Kd.C_below HR0.out HB.out) HC0.out HS.out).mono ?_)
  rintro e w2 ⟨rfl, hb2⟩
  have HO2 := Aside0.mk (Kd.R_below HO.out hb2)
  have HB2 := Aside0.mk (HB.out.trans (hb2.mono HB.out.size))
  clear hb2 HO HB
  go_wp2_with (go_at_call 151; refine (word_Low.calls m L2 _ HL.out).mono ?_)
  rintro e w3 ⟨v3, rfl, hr3, hb3⟩
  have HO3 := Aside0.mk (Kd.R_below HO2.out hb3)
  have HB3 := Aside0.mk (HB2.out.trans (hb3.mono HB2.out.size))
  have HR3 := Aside0.mk hr3
  clear hb3 hr3 HO2 HB2
  obtain ⟨A3, c3, rfl, hl3, hc3⟩ := Kd.R_reads HR3.out
  have HC3 := Aside0.mk hc3
  clear hc3
  go_wp2_with (at_builtin; refine Kd.R_append_rows (Kd.int .u8) (w0 := w) w.heap.size rfl (.tmp 13) (.tmp 16) 23 5 (.int .u8 0) 1 rfl Try.underlying23 info5 rfl (by decide) (by omega) _ l0 L2 A3 L2.length c3 (fun _ => True) (fun _ => False) rfl rfl HO3.out HC3.out (fun _ _ h => h) (fun _ h => h.elim) (fun _ _ => trivial) HB3.out HB3.out.size (by rw [HN.out]; omega) ?_; intro v4 w4 ho4 hb4 hg_ hat_; have HO4 := Aside0.mk ho4; have HB4 := Aside0.mk hb4; clear ho4 hb4 hg_ hat_)
  go_ret
  exact ⟨_, rfl, HO4.out, HB4.out⟩

end Go.Proofs.Ytballgciakljnaa.PTextTells

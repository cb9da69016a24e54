-- Written by a program of this session, in the form of the kit's print, some functions by hand (N.B. not a file of print.sh's).
import Derived.Test.YtbaodollggbcoaaPAduHurtx0
import Derived.Test.YtbaodollggbcoaaPAduHurtx5
import Derived.Test.YtbaodollggbcoaaPAduHurtx6
namespace Go.Proofs.Ytbaodollggbcoaa.PAduHurt
open Go.RowKit Go.Proofs.YtbaodollggbcoaaW.PrintWords Go.Proofs.YtbaodollggbcoaaW.PrintLast Go.Proofs.YtbaodollggbcoaaW.PrintMore Go.Proofs.YtbaodollggbcoaaM
attribute [local go_sem] max2_int min2_int max_two min_two max_three min_three max_four min_four   -- for this text's walks alone
set_option linter.unusedVariables false
set_option linter.unusedSimpArgs false

/-! ### crc_Append: function 16 (by hand) -/
theorem crc_row (W : World) (n c : Nat) (hnc : n ≤ c) (hc : c ≤ 140737488355328) : Kd.R (Kd.int .u8) 5 (W.alloc (.cells (madeCells #[.int .u8 0] c) 5)) W.heap.size (fun _ => True) (.slice (some ⟨W.heap.size, 0, none⟩) n c) (List.replicate n 0) := by
  have h : Kd.R (Kd.int .u8) 5 (W.alloc (.cells (madeCells #[.int .u8 0] c) 5)) W.heap.size (fun _ => True) (.slice (some ⟨W.heap.size, 0, none⟩) c c) (List.replicate c 0) := by
    have hr := Kd.reps_made (R := Kd.M (Kd.int .u8) (W.alloc (.cells (madeCells #[.int .u8 0] c) 5)) W.heap.size (fun k => True ∧ some k ≠ (Value.slice (some ⟨W.heap.size, 0, none⟩) c c).ownBlock)) (z := Value.int .u8 0) (size := 1) (z0 := (0 : Int)) rfl (by decide) rfl c
    rw [Nat.mul_one] at hr
    refine ⟨fun _ _ => trivial, _, ?_, hr⟩
    rw [List.length_replicate]
    exact World.ownsRow_lit W _ c (Nat.le_refl _) (by unfold maxLen; omega) (by simp [size_madeCells, Kd.int, Kd.scalar])
  have h2 := Kd.R_take h (m := n) (by simpa using hnc)
  rw [List.take_replicate, Nat.min_eq_left hnc] at h2
  exact h2
def crc_Append.f (l0 : List Int) : Option (List Int) := if l0.length < 140737488355000 ∧ ∀ x ∈ l0, 0 ≤ x ∧ x ≤ 255 then some (l0 ++ [((pRem 65535 l0 % 256 : Nat) : Int), ((pRem 65535 l0 / 256 : Nat) : Int)]) else none
set_option maxRecDepth 100000 in
theorem crc_Append.calls (A0 : Option Addr) (c0 : Nat) (l0 : List Int) (r : List Int) (w : World) (hr0 : Kd.C (Kd.int .u8) w A0 l0.length l0) (hc0 : l0.length ≤ c0) (h : crc_Append.f l0 = some r) :
    Calls Try.prog 16 #[.slice A0 l0.length c0] w fun e w' => ∃ v0_ : Value, e = .returned (v0_) ∧ Kd.R (Kd.int .u8) 5 w' w.heap.size (fun _ => True) v0_ r ∧ Below w.heap.size w w' := by
  unfold crc_Append.f at h
  split at h
  case isFalse => cases h
  case isTrue hb =>
  obtain rfl := Option.some.inj h
  have hs : crc_Sum.f l0 = some ((pRem 65535 l0 : Nat) : Int) := by unfold crc_Sum.f; rw [if_pos hb.2]
  have hm : pRem 65535 l0 < 65536 := pRem_lt _ (by omega)
  have hlow : word_Low.f ((pRem 65535 l0 : Nat) : Int) = some [((pRem 65535 l0 % 256 : Nat) : Int), ((pRem 65535 l0 / 256 : Nat) : Int)] := by
    generalize pRem 65535 l0 = m at hm
    have e : bits .and .u16 (m : Int) 255 = ((m % 256 : Nat) : Int) := by
      have := u16_and_nat m 255 hm (by omega)
      rw [show m &&& 255 = m % 256 from Nat.and_two_pow_sub_one_eq_mod m 8] at this
      exact this
    unfold word_Low.f
    rw [e, show ((m % 256 : Nat) : Int) % 256 = ((m % 256 : Nat) : Int) by omega, show (m : Int) / 256 % 256 = ((m / 256 : Nat) : Int) by omega]
  have HS := Aside0.mk hs
  have HL := Aside0.mk hlow
  have hn := hb.1
  have HC0 := Aside0.mk hc0
  have HR0 := Aside0.mk hr0
  clear h hb hr0 hc0 hs hlow hm
  obtain ⟨i0, hi0, hz0, hsz0, hby0⟩ := info_parts info5
  have hmk : ∀ W : World, (Instr.makeSlice 22 (.int .i64 (l0.length : Int)) (.int .i64 ((l0.length : Int) + 2))).run Try.prog W = .ok (.slice (some ⟨W.heap.size, 0, none⟩) l0.length (l0.length + 2)) (W.alloc (.cells (madeCells (Value.int .u8 0).cells ((l0.length + 2) * 1)) 5)) := by
    intro W
    have := run_make (P := Try.prog) W 22 5 i0 (.int .u8 0) Try.underlying22 hi0 hz0 .i64 .i64 (l0.length : Int) ((l0.length : Int) + 2) (by omega) (by omega) (by rw [hby0]; omega) (by omega)
    rw [hsz0, Int.toNat_natCast, show ((l0.length : Int) + 2).toNat = l0.length + 2 by omega] at this
    exact this
  generalize hL2 : [((pRem 65535 l0 % 256 : Nat) : Int), ((pRem 65535 l0 / 256 : Nat) : Int)] = L2 at *
  have HN := Aside0.mk (show L2.length = 2 by rw [← hL2]; rfl)
  clear hL2
  generalize ((pRem 65535 l0 : Nat) : Int) = m at *
  have hin : (Try.prog.info? 5).map (·.size) = some 1 := by rw [hi0]; exact congrArg some hsz0
  clear hi0 hz0 hsz0 hby0
  go_enter Try.func16, Try.ntmps16
  go_wp2_with ((with_reducible refine gate_builtin (b := .copy) (xs := #[.tmp 10, .tmp 11]) rfl ?_); refine Kd.R_copy (0 : Int) (w0 := w) w.heap.size rfl (.tmp 10) (.tmp 11) 22 22 5 rfl Try.underlying22 hin (.slice (some ⟨w.heap.size, 0, none⟩) l0.length (l0.length + 2)) (List.replicate l0.length 0) l0 A0 l0.length c0 (fun _ => True) rfl rfl (crc_row w l0.length (l0.length + 2) (by omega) (by omega)) (Kd.C_alloc HR0.out _) ((Below.refl _ _).alloc (Nat.le_refl _) _) (by simp) ?_)
  intro w1 ho hb hg
  have HO := Aside0.mk ho
  have HB := Aside0.mk hb
  clear ho hb hg hmk hin
  go_wp2_with (go_at_call 21; refine (crc_Sum.calls A0 c0 l0 m _ (Kd.C_below HR0.out HB.out) HC0.out HS.out).mono ?_)
  rintro e w2 ⟨rfl, hb2⟩
  have HO2 := Aside0.mk (Kd.R_below HO.out hb2)
  have HB2 := Aside0.mk (HB.out.trans (hb2.mono HB.out.size))
  clear hb2 HO HB
  go_wp2_with (go_at_call 64; refine (word_Low.calls m L2 _ HL.out).mono ?_)
  rintro e w3 ⟨v3, rfl, hr3, hb3⟩
  have HO3 := Aside0.mk (Kd.R_below HO2.out hb3)
  have HB3 := Aside0.mk (HB2.out.trans (hb3.mono HB2.out.size))
  have HR3 := Aside0.mk hr3
  clear hb3 hr3 HO2 HB2
  obtain ⟨A3, c3, rfl, hl3, hc3⟩ := Kd.R_reads HR3.out
  have HC3 := Aside0.mk hc3
  clear hc3
  go_wp2_with (at_builtin; refine Kd.R_append_rows (Kd.int .u8) (w0 := w) w.heap.size rfl (.tmp 13) (.tmp 16) 22 5 (.int .u8 0) 1 rfl Try.underlying22 info5 rfl (by decide) (by omega) _ l0 L2 A3 L2.length c3 (fun _ => True) (fun _ => False) rfl rfl HO3.out HC3.out (fun _ _ h => h) (fun _ h => h.elim) (fun _ _ => trivial) HB3.out HB3.out.size (by rw [HN.out]; omega) ?_; intro v4 w4 ho4 hb4 hg_ hat_; have HO4 := Aside0.mk ho4; have HB4 := Aside0.mk hb4; clear ho4 hb4 hg_ hat_)
  go_ret
  exact ⟨_, rfl, HO4.out, HB4.out⟩

end Go.Proofs.Ytbaodollggbcoaa.PAduHurt

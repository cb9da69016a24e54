-- Written by a program of this session, in the form of the kit's print, some functions by hand (N.B. not a file of print.sh's).
import Derived.Test.YtballgciakljnaaPTextTellsx0
namespace Go.Proofs.Ytballgciakljnaa.PTextTells
open Go.RowKit Go.Proofs.YtballgciakljnaaW.PrintWords Go.Proofs.YtballgciakljnaaW.PrintLast Go.Proofs.YtballgciakljnaaW.PrintMore Go.Proofs.YtballgciakljnaaM
attribute [local go_sem] max2_int min2_int max_two min_two max_three min_three max_four min_four   -- for this text's walks alone
set_option linter.unusedVariables false
set_option linter.unusedSimpArgs false

/-! ### adu_joined: function 94 (by hand) -/
theorem adu_put (W : World) (g o' r c : Nat) (cur : Array Value) (A : Option Addr) (ys bs : List Int) (hg : W.heap[g]? = some (.cells cur 5 (0, 0)))
    (hcur : cur.toList = (bs ++ List.replicate r 0).map (Value.int .u8)) (ho : r ≠ 0 → o' = bs.length) (hC : Kd.C (Kd.int .u8) W A ys.length ys) (hle : ys.length ≤ r) :
    ∃ w1 cur', (Builtin.copy_ #[23, 23] 3 #[.slice (some ⟨g, o', none⟩) r r, .slice A ys.length c]).run Try.prog W = .ok (.int .i64 (ys.length : Int)) w1 ∧ w1.heap[g]? = some (.cells cur' 5 (0, 0)) ∧
      cur'.toList = ((bs ++ ys) ++ List.replicate (r - ys.length) 0).map (Value.int .u8) ∧ W.grownBy w1 (some g) := by
  obtain ⟨i0, hi0, hz0, hsz0, hby0⟩ := info_parts info5
  have hin : (Try.prog.info? 5).map (·.size) = some 1 := by rw [hi0]; exact congrArg some hsz0
  rcases Nat.eq_zero_or_pos ys.length with h0 | hp
  · have e : ys = [] := List.eq_nil_of_length_eq_zero h0
    subst e
    refine ⟨W, cur, run_copy_none W _ _ _ _ _ _ _ _ _ _ Try.underlying23 hin (by simp [Nat.min_def]), hg, ?_, World.grownBy.refl _ _⟩
    rw [hcur]; simp
  · have hR := Kd.reads_of_C (d := (0 : Int)) hC
    obtain ⟨ad, rfl, hc⟩ := hR.2.2 hp
    have ho2 := ho (by omega)
    subst ho2
    have hcs : cur.size = bs.length + r := by rw [← Array.length_toList, hcur]; simp
    have hkl : (ys.map (Value.int .u8)).length = ys.length := List.length_map ..
    have hr := run_copy_cells (P := Try.prog) W 23 23 3 5 g bs.length r r ad ys.length c (ys.map (Value.int .u8)) Try.underlying23 hin (by rw [hkl]; exact (Nat.min_eq_left hle).symm)
      (fun j v hj => by
        have hjl : j < ys.length := by
          rcases Nat.lt_or_ge j ys.length with h | h
          · exact h
          · rw [List.getElem?_eq_none (by rw [hkl]; exact h)] at hj; cases hj
        rw [hc j hjl, ← hj, List.getElem?_map, List.getElem?_eq_getElem hjl, List.getD_eq_getElem?_getD, List.getElem?_eq_getElem hjl]; rfl)
      (fun j hj => by rw [cell_of_row W g _ cur 5 (0, 0) hg]; rw [hkl] at hj; simp; omega) (fun j _ => blk_frozen hg _) (by intro u hu; obtain ⟨q, _, rfl⟩ := List.mem_map.1 hu; rfl)
    obtain ⟨cur', h3, h4, h5⟩ := setCells_row (ys.map (Value.int .u8)) bs.length W cur hg (by rw [hkl, hcs]; omega)
    obtain ⟨s1, s2, s3, s4⟩ := setCells_same g (ys.map (Value.int .u8)) bs.length W
    refine ⟨_, cur', by rw [hr, hkl]; rfl, h3, ?_, ⟨s1, s2, s3, by rw [s4]; exact Nat.le_refl _, fun k _ hk => setCells_far _ _ k (fun he => hk (by rw [he]))⟩⟩
    rw [h5, hcur, hkl, List.map_append, List.take_append_of_le_length (by simp), List.take_of_length_le (by simp), List.drop_append, List.drop_eq_nil_of_le (by simp), List.nil_append, List.length_map, show bs.length + ys.length - bs.length = ys.length by omega]
    rw [← List.map_drop, List.drop_replicate, ← List.map_append, ← List.map_append]
theorem adu_copy_at {ops : Array Oper} {rest : List Oper} {o : Oper} {a : Act} {Q : Exit → Act → World → Prop} {W w1 : World} (hgd : o.guard = none) (s x : Operand) (t t' : TypeId)
    (ho : o.op = .call { callee := .builtin .copy, args := #[s, x], argTypes := #[t, t'] }) {v u n : Value} (hs : a.eval s = v) (hx : a.eval x = u) (hr : (Builtin.copy_ #[t, t'] o.type #[v, u]).run Try.prog W = .ok n w1)
    (h : wpList Try.prog ops Q rest (a.put o.dst n) w1) : wpList Try.prog ops Q (o :: rest) a W := by
  refine wpList_plain hgd fun K hK => ?_
  unfold Oper.wp execOp
  simp only [ho, resolve, invoke, builtin, Sem.run_bind, Sem.run_pure, Result.andThen_ok, List.map_toArray, List.map_cons, List.map_nil, hs, hx, hr]
  exact hK _ _ h
theorem adu_cut (g o' r q : Nat) (hq : q ≤ r) (W : World) : (Instr.slice 23 (.slice (some ⟨g, o', none⟩) r r) (some (.int .i64 (q : Int))) none none).run Try.prog W = .ok (.slice (some ⟨g, if r = q then o' else o' + q, none⟩) (r - q) (r - q)) W := by
  obtain ⟨i0, hi0, hz0, hsz0, hby0⟩ := info_parts info5
  have ht := Try.underlying23
  have hel : Try.prog.elem 23 = 5 := by simp [Program.elem, ht]
  have hu : Try.prog.underlying 23 = some (.slice (Try.prog.elem 23)) := by rw [hel]; exact ht
  rw [run_slice_l W 23 (some ⟨g, o', none⟩) r r hu .i64 (q : Int) (Int.natCast_nonneg _) (by omega), hel]
  by_cases h : r = q
  · simp [sizeOf, typeInfo, hi0, hsz0, sliced, Result.andThen, h]
  · simp [sizeOf, typeInfo, hi0, hsz0, sliced, Result.andThen, h, Addr.add]
def adu_joined.f (l0 : List (List Int)) : Option (List Int) := if l0.flatten.length < 140737488355000 then some l0.flatten else none
theorem adu_take (l : List (List Int)) (k : Nat) (h : k < l.length) : (l.take (k + 1)).flatten = (l.take k).flatten ++ l[k] := by
  rw [take_snoc l k h, List.flatten_append]; simp
theorem adu_le (l : List (List Int)) (k : Nat) : (l.take k).flatten.length ≤ l.flatten.length := by
  have : l.flatten = (l.take k).flatten ++ (l.drop k).flatten := by rw [← List.flatten_append, List.take_append_drop]
  rw [this, List.length_append]; omega
theorem adu_at {w : World} {A : Option Addr} {l : List (List Int)} (h : Kd.C (Kd.slice 5 (Kd.int .u8)) w A l.length l) (k : Nat) (hk : k < l.length) :
    ∃ ad B c, A = some ad ∧ w.cell? (ad.add k) = some (.slice B (l[k]).length c) ∧ (l[k]).length ≤ c ∧ Kd.C (Kd.int .u8) w B (l[k]).length (l[k]) := by
  obtain ⟨ad, e, hc⟩ := h.2.2 (by omega)
  obtain ⟨cs, _, ⟨B, c, rfl, h1, h2⟩, hcell⟩ := hc k _ (List.getElem?_eq_getElem hk)
  have := hcell 0 _ rfl
  rw [show k * (Kd.slice 5 (Kd.int .u8)).sz + 0 = k by show k * 1 + 0 = k; omega] at this
  exact ⟨ad, B, c, e, this, h1, h2⟩
set_option maxRecDepth 100000 in
theorem adu_joined.calls (A0 : Option Addr) (c0 : Nat) (l0 : List (List Int)) (r : List Int) (w : World) (hr0 : Kd.C (Kd.slice 5 (Kd.int .u8)) w A0 l0.length l0) (hc0 : l0.length ≤ c0) (h : adu_joined.f l0 = some r) :
    Calls Try.prog 94 #[.slice A0 l0.length c0] w fun e w' => ∃ v0_ : Value, e = .returned (v0_) ∧ Kd.R (Kd.int .u8) 5 w' w.heap.size (fun _ => True) v0_ r ∧ Below w.heap.size w w' := by
  unfold adu_joined.f at h
  split at h
  case isFalse => cases h
  case isTrue hb =>
  obtain rfl := Option.some.inj h
  have hn : l0.length ≤ 9223372036854775807 := hr0.2.1
  have HR0 := Aside0.mk hr0
  obtain ⟨tot, htot⟩ : ∃ tot : Nat → Nat, ∀ k, tot k = (l0.take k).flatten.length := ⟨_, fun _ => rfl⟩
  have hT : tot l0.length = l0.flatten.length := by rw [htot, List.take_length]
  have hT0 : tot 0 = 0 := by rw [htot, List.take_zero]; rfl
  have HS := Aside0.mk (show ∀ k, (h : k < l0.length) → tot (k + 1) = tot k + (l0[k]).length ∧ tot (k + 1) ≤ tot l0.length by
    intro k h
    refine ⟨by rw [htot, htot, adu_take l0 k h, List.length_append], ?_⟩
    rw [hT, htot]; exact adu_le l0 (k + 1))
  have HTot := Aside0.mk htot
  have HT := Aside0.mk hT
  have hN : tot l0.length < 140737488355000 := by rw [hT]; exact hb
  clear h hb hr0 hc0 hT htot
  have hmk : ∀ W : World, (Instr.makeSlice 23 (.int .i64 (tot l0.length : Nat)) (.int .i64 (tot l0.length : Nat))).run Try.prog W = .ok (.slice (some ⟨W.heap.size, 0, none⟩) (tot l0.length) (tot l0.length)) (W.alloc (.cells (madeCells #[.int .u8 0] (tot l0.length)) 5)) := by
    intro W
    obtain ⟨i0, hi0, hz0, hsz0, hby0⟩ := info_parts info5
    have := run_make (P := Try.prog) W 23 5 i0 (.int .u8 0) Try.underlying23 hi0 hz0 .i64 .i64 (tot l0.length : Int) (tot l0.length : Int) (by omega) (by omega) (by rw [hby0]; omega) (by omega)
    rw [hsz0, Int.toNat_natCast, Nat.mul_one] at this
    exact this
  go_enter Try.func94, Try.ntmps94
  go_wp2
  go_loopw [12, 3] (fun v12 v3 wr => ∃ k : Nat, k ≤ l0.length ∧ v12 = .int .i64 k ∧ v3 = .int .i64 (tot k : Nat) ∧ w = wr) (fun v12 _ _ => l0.length - (intOf v12).toNat)
  case atStart => exact ⟨0, Nat.zero_le _, rfl, by rw [hT0]; rfl, rfl⟩
  case round =>
    obtain ⟨k, hk, rfl, rfl, hw⟩ := hrel
    subst hw
    by_cases hlt : k < l0.length
    · obtain ⟨ad, B, c, e1, hcell, _, _⟩ := adu_at HR0.out k hlt
      cases e1
      obtain ⟨hs1, hs2⟩ := HS.out k hlt
      have HS1 := Aside0.mk hs1
      rw [hs1] at hs2
      clear hs1 hmk
      generalize tot k = m at *
      generalize (l0[k]).length = q at *
      go_wp2
      go_roundw
      case rel => exact ⟨k + 1, by omega, by go_num, by rw [HS1.out]; go_num, trivial⟩
      case measure => simp [intOf]; omega
    · have : k = l0.length := by omega
      subst this
      go_wp2
      go_loopw [26, 7] (fun v26 v7 w2 => ∃ k o' : Nat, ∃ cur : Array Value, k ≤ l0.length ∧ v26 = .int .i64 k ∧ v7 = .slice (some ⟨w.heap.size, o', none⟩) (tot l0.length - tot k) (tot l0.length - tot k) ∧ Aside0 (tot l0.length - tot k ≠ 0 → o' = ((l0.take k).flatten).length) ∧
          Aside0 (w2.heap[w.heap.size]? = some (.cells cur 5 (0, 0))) ∧ Aside0 (cur.toList = ((l0.take k).flatten ++ List.replicate (tot l0.length - tot k) 0).map (Value.int .u8)) ∧ Aside0 (Below w.heap.size w w2)) (fun v26 _ _ => l0.length - (intOf v26).toNat)
      case atStart =>
        refine ⟨0, 0, madeCells #[.int .u8 0] (tot l0.length), Nat.zero_le _, rfl, by rw [hT0]; rfl, ⟨fun _ => rfl⟩, ⟨blk_new w _⟩, ⟨?_⟩, ⟨(Below.refl _ _).alloc (Nat.le_refl _) _⟩⟩
        rw [hT0, Nat.sub_zero, List.take_zero, List.flatten_nil, List.nil_append, List.map_replicate]
        apply List.ext_getElem
        · simp [size_madeCells]
        · intro i h1 h2
          simp [madeCells, Nat.mod_one]
      case round =>
        obtain ⟨k, o', cur, hk2, rfl, rfl, HO, HG, HC, HB⟩ := hrel
        by_cases hlt2 : k < l0.length
        · obtain ⟨ad, B, c, e1, hcell, hlc, hC⟩ := adu_at (Kd.C_below HR0.out HB.out) k hlt2
          cases e1
          obtain ⟨hs1, hs2⟩ := HS.out k hlt2
          rw [hs1] at hs2
          obtain ⟨w3, cur', h1, h2, h3, h4⟩ := adu_put wr w.heap.size o' (tot l0.length - tot k) c cur B (l0[k]) _ HG.out HC.out HO.out hC (by omega)
          have hcut := adu_cut w.heap.size o' (tot l0.length - tot k) (l0[k]).length (by omega)
          have H2 := Aside0.mk h2
          have H3 := Aside0.mk h3
          have HB2 := Aside0.mk (HB.out.grown h4 HB.out.size (fun k hk => by injection hk with hk; omega))
          have HS1 := Aside0.mk hs1
          have HE := Aside0.mk (adu_take l0 k hlt2)
          have HR := Aside0.mk (show tot l0.length - tot k - (l0[k]).length = tot l0.length - tot (k + 1) by omega)
          have HO2 := Aside0.mk (show tot l0.length - tot (k + 1) ≠ 0 → (if tot l0.length - tot k = (l0[k]).length then o' else o' + (l0[k]).length) = ((l0.take (k + 1)).flatten).length by
            intro h
            rw [if_neg (by omega), adu_take l0 k hlt2, List.length_append, HO.out (by omega)])
          clear h2 h3 h4 hs1 hs2 hC hmk HG HC HO HB
          generalize tot l0.length - tot k = r at *
          generalize hq : (l0[k]).length = q at *
          generalize (if r = q then o' else o' + q) = o2 at *
          go_wp2_with ((with_reducible refine gate_builtin (b := .copy) (xs := #[.tmp 31, .tmp 32]) rfl ?_); refine adu_copy_at rfl (.tmp 31) (.tmp 32) 23 23 rfl rfl rfl h1 ?_)
          go_roundw
          case rel => exact ⟨k + 1, o2, cur', by omega, by go_num, by rw [HR.out], HO2, H2, ⟨by rw [HE.out, ← HR.out]; exact H3.out⟩, HB2⟩
          case measure => simp [intOf]; omega
        · have : k = l0.length := by omega
          subst this
          go_wp2
          go_ret
          have hcl : cur.toList = (l0.flatten).map (Value.int .u8) := by rw [HC.out, Nat.sub_self, List.replicate_zero, List.append_nil, List.take_length]
          have hcs : cur.size = tot l0.length := by rw [← Array.length_toList, hcl, List.length_map, HT.out]
          refine ⟨_, rfl, Kd.R_of_own (enc := Value.int .u8) ?_ (fun _ _ => trivial), HB.out⟩
          refine ⟨by rw [encs_length, Nat.mul_one], .inr ⟨w.heap.size, tot l0.length, cur, ?_, Nat.le_refl _, HG.out, by rw [HT.out]; exact Nat.le_refl _, by unfold maxLen; omega, by rw [hcs, Nat.mul_one], ?_⟩⟩
          · rw [HT.out]; rfl
          · rw [hcl, List.take_of_length_le (by rw [List.length_map]; omega)]; rfl

/-! ### crc_table_fill: function 186 (by hand) -/
/-- The table: what each of the first n bytes comes to. -/
def crcTab (w : World) (g n : Nat) : Prop := ∃ cs : Array Value, w.heap[g]? = some (.cells cs 265 (0, 0)) ∧ cs.size = 256 ∧ ∀ i < n, cs[i]? = some (.int .u16 (pBy 0 i : Nat))
theorem crc_pbs (k r b : Nat) : pbs (k + 1) r b = pb (pbs k r b) (b / 2 ^ k % 2) := by
  induction k generalizing r b with
  | zero => simp [pbs]
  | succ k ih =>
    rw [show pbs (k + 1 + 1) r b = pbs (k + 1) (pb r (b % 2)) (b / 2) from rfl, ih, show pbs (k + 1) r b = pbs k (pb r (b % 2)) (b / 2) from rfl, Nat.div_div_eq_div_mul, Nat.pow_succ, Nat.mul_comm 2]
theorem crc_and (r : Nat) (hr : r < 65536) : bits .and .u16 (r : Int) 1 = ((r % 2 : Nat) : Int) := by
  have := u16_and_nat r 1 hr (by omega)
  rw [Nat.and_one_is_mod] at this
  simpa using this
theorem crc_odd (r : Nat) (hr : r < 65536) (h : r % 2 = 1) : bits .xor .u16 ((r : Int) / 2) 40961 = (pb r 0 : Nat) := by
  have hy : bits .xor .u16 ((r / 2 : Nat) : Int) 40961 = ((r / 2 ^^^ 40961 : Nat) : Int) := u16_xor_nat (r / 2) 40961 (by omega) (by omega)
  rw [show (r : Int) / 2 = ((r / 2 : Nat) : Int) by omega, hy]
  unfold pb
  rw [Nat.xor_zero, if_pos h]
theorem crc_even (r : Nat) (h : ¬ r % 2 = 1) : (r : Int) / 2 = (pb r 0 : Nat) := by
  unfold pb
  rw [Nat.xor_zero, if_neg h, Nat.xor_zero]; omega
set_option maxRecDepth 100000 in
theorem crc_fill (g : Nat) (cs : Array Value) (w : World) (hg : w.heap[g]? = some (.cells cs 265 (0, 0))) (hsz : cs.size = 256) (hu : ∀ i < 256, cs[i]? = some (.int .u16 0)) :
    Calls Try.prog 186 #[.pointer (some ⟨g, 0, none⟩)] w fun e w' => e = .returned (.tuple #[]) ∧ crcTab w' g 256 ∧ w.grownBy w' (some g) := by
  have HG := Aside0.mk hg
  have HS := Aside0.mk hsz
  have HU := Aside0.mk hu
  clear hg hsz hu
  go_enter Try.func186, Try.ntmps186
  go_wp2
  go_loopw [5] (fun v5 wr => ∃ k : Nat, k ≤ 256 ∧ v5 = .int .i64 k ∧ Aside0 (∃ cr : Array Value, wr.heap[g]? = some (.cells cr 265 (0, 0)) ∧ cr.size = 256 ∧ (∀ i < k, cr[i]? = some (.int .u16 (pBy 0 i : Nat))) ∧ ∀ i < 256, k ≤ i → cr[i]? = some (.int .u16 0)) ∧ Aside0 (w.grownBy wr (some g))) (fun v5 _ => 256 - (intOf v5).toNat)
  case atStart => exact ⟨0, Nat.zero_le _, rfl, ⟨cs, HG.out, HS.out, fun i hi => absurd hi (by omega), fun i hi _ => HU.out i hi⟩, ⟨World.grownBy.refl _ _⟩⟩
  case round =>
    obtain ⟨k, hk, rfl, HB, HW⟩ := hrel
    by_cases hlt : k < 256
    · go_wp2
      go_loopw [10, 3] (fun v10 v3 w2 => ∃ j : Nat, j ≤ 8 ∧ v10 = .int .i64 j ∧ v3 = .int .u16 (pbs j k 0 : Nat) ∧ w2 = wr) (fun v10 _ _ => 8 - (intOf v10).toNat)
      case atStart => exact ⟨0, Nat.zero_le _, rfl, rfl, rfl⟩
      case round =>
        obtain ⟨j, hj, rfl, rfl, rfl⟩ := hrel
        by_cases hlt2 : j < 8
        · have hm : pbs j k 0 < 65536 := pbs_lt j (by omega)
          have hs : pbs (j + 1) k 0 = pb (pbs j k 0) 0 := by rw [crc_pbs, Nat.zero_div]
          generalize pbs j k 0 = m at *
          by_cases h : m % 2 = 1
          · have hd : (bits .and .u16 (m : Int) 1 == 1) = true := by rw [crc_and m hm, h]; rfl
            go_wp2
            go_roundw
            case rel => exact ⟨j + 1, by omega, by go_num, by rw [hs, crc_odd m hm h], trivial⟩
            case measure => simp [intOf]; omega
          · have hd : (bits .and .u16 (m : Int) 1 == 1) = false := by rw [crc_and m hm, show m % 2 = 0 by omega]; rfl
            go_wp2
            go_roundw
            case rel => exact ⟨j + 1, by omega, by go_num, by rw [hs, crc_even m h], trivial⟩
            case measure => simp [intOf]; omega
        · have : j = 8 := by omega
          subst this
          obtain ⟨cr, h1, h2, h3, h4⟩ := HB.out
          have H1 := Aside0.mk h1
          have H2 := Aside0.mk h2
          have H3 := Aside0.mk h3
          have H4 := Aside0.mk h4
          have hc := blk_cell h1 k
          rw [h4 k hlt (Nat.le_refl _)] at hc
          have hz := blk_frozen h1 k
          clear h1 h2 h3 h4 HB
          go_wp2
          go_roundw
          case rel =>
            refine ⟨k + 1, by omega, by go_num, ⟨_, set_blk H1.out k _, by rw [Array.size_setIfInBounds]; exact H2.out, fun i hi => ?_, fun i hi hki => ?_⟩, ⟨grown_set HW.out k _⟩⟩
            · by_cases e : i = k
              · subst e
                rw [Array.getElem?_setIfInBounds_self_of_lt (by rw [H2.out]; exact hlt), ← pBy_tab hlt]; rfl
              · rw [Array.getElem?_setIfInBounds_ne (by omega)]; exact H3.out i (by omega)
            · rw [Array.getElem?_setIfInBounds_ne (by omega)]; exact H4.out i hi (by omega)
          case measure => simp [intOf]; omega
    · have : k = 256 := by omega
      subst this
      go_wp2
      go_end0
      obtain ⟨cr, h1, h2, h3, _⟩ := HB.out
      exact ⟨rfl, ⟨cr, h1, h2, h3⟩, HW.out⟩

/-! ### crc_made: function 178 (by hand) -/
set_option maxRecDepth 100000 in
theorem crc_made (w : World) : Calls Try.prog 178 #[] w fun e w' => e = .returned (.pointer (some ⟨w.heap.size, 0, none⟩)) ∧ crcTab w' w.heap.size 256 ∧ Below w.heap.size w w' := by
  go_enter Try.func178, Try.ntmps178
  go_wp2_with fail
  have hz : Try.zeroCells265 = Array.replicate 256 (Value.int .u16 0) := by kernel_rfl
  rw [hz]
  refine (crc_fill w.heap.size _ _ (blk_new w _) (by rw [Array.size_replicate]) (fun i hi => by rw [Array.getElem?_replicate, if_pos hi])).mono ?_
  rintro e w' ⟨rfl, ht, hg⟩
  have HT := Aside0.mk ht
  have HG := Aside0.mk hg
  clear ht hg hz
  go_wp2
  go_ret
  exact ⟨rfl, HT.out, below_of_new HG.out⟩
theorem crcTab_below {w w1 : World} {g : Nat} (h : crcTab w g 256) (hb : Below w.heap.size w w1) : crcTab w1 g 256 := by
  obtain ⟨cs, h1, h2, h3⟩ := h
  exact ⟨cs, (hb.block g (blk_lt h1)).trans h1, h2, h3⟩

end Go.Proofs.Ytballgciakljnaa.PTextTells

-- Written by a program of this session, in the form of the kit's print, some functions by hand (N.B. not a file of print.sh's).
import Derived.Test.YtbaodollggbcoaaPAduHurtx0
namespace Go.Proofs.Ytbaodollggbcoaa.PAduHurt
open Go.RowKit Go.Proofs.YtbaodollggbcoaaW.PrintWords Go.Proofs.YtbaodollggbcoaaW.PrintLast Go.Proofs.YtbaodollggbcoaaW.PrintMore Go.Proofs.YtbaodollggbcoaaM
attribute [local go_sem] max2_int min2_int max_two min_two max_three min_three max_four min_four   -- for this text's walks alone
set_option linter.unusedVariables false
set_option linter.unusedSimpArgs false

/-! ### adu_joined: function 90 (by hand) -/
theorem adu_put (W : World) (g o' r c : Nat) (cur : Array Value) (A : Option Addr) (ys bs : List Int) (hg : W.heap[g]? = some (.cells cur 5 (0, 0)))
    (hcur : cur.toList = (bs ++ List.replicate r 0).map (Value.int .u8)) (ho : r ≠ 0 → o' = bs.length) (hC : Kd.C (Kd.int .u8) W A ys.length ys) (hle : ys.length ≤ r) :
    ∃ w1 cur', (Builtin.copy_ #[22, 22] 3 #[.slice (some ⟨g, o', none⟩) r r, .slice A ys.length c]).run Try.prog W = .ok (.int .i64 (ys.length : Int)) w1 ∧ w1.heap[g]? = some (.cells cur' 5 (0, 0)) ∧
      cur'.toList = ((bs ++ ys) ++ List.replicate (r - ys.length) 0).map (Value.int .u8) ∧ W.grownBy w1 (some g) := by
  obtain ⟨i0, hi0, hz0, hsz0, hby0⟩ := info_parts info5
  have hin : (Try.prog.info? 5).map (·.size) = some 1 := by rw [hi0]; exact congrArg some hsz0
  rcases Nat.eq_zero_or_pos ys.length with h0 | hp
  · have e : ys = [] := List.eq_nil_of_length_eq_zero h0
    subst e
    refine ⟨W, cur, run_copy_none W _ _ _ _ _ _ _ _ _ _ Try.underlying22 hin (by simp [Nat.min_def]), hg, ?_, World.grownBy.refl _ _⟩
    rw [hcur]; simp
  · have hR := Kd.reads_of_C (d := (0 : Int)) hC
    obtain ⟨ad, rfl, hc⟩ := hR.2.2 hp
    have ho2 := ho (by omega)
    subst ho2
    have hcs : cur.size = bs.length + r := by rw [← Array.length_toList, hcur]; simp
    have hkl : (ys.map (Value.int .u8)).length = ys.length := List.length_map ..
    have hr := run_copy_cells (P := Try.prog) W 22 22 3 5 g bs.length r r ad ys.length c (ys.map (Value.int .u8)) Try.underlying22 hin (by rw [hkl]; exact (Nat.min_eq_left hle).symm)
      (fun j v hj => by
        have hjl : j < ys.length := by
          rcases Nat.lt_or_ge j ys.length with h | h
          · exact h
          · rw [List.getElem?_eq_none (by rw [hkl]; exact h)] at hj; cases hj
        rw [hc j hjl, ← hj, List.getElem?_map, List.getElem?_eq_getElem hjl, List.getD_eq_getElem?_getD, List.getElem?_eq_getElem hjl]; rfl)
      (fun j hj => by rw [cell_of_row W g _ cur 5 (0, 0) hg]; rw [hkl] at hj; simp; omega) (fun j _ => blk_frozen hg _) (by intro u hu; obtain ⟨q, _, rfl⟩ := List.mem_map.1 hu; rfl)
    obtain ⟨cur', h3, h4, h5⟩ := setCells_row (ys.map (Value.int .u8)) bs.length W cur hg (by rw [hkl, hcs]; omega)
    obtain ⟨s1, s2, s3, s4⟩ := setCells_same g (ys.map (Value.int .u8)) bs.length W
    refine ⟨_, cur', by rw [hr, hkl]; rfl, h3, ?_, ⟨s1, s2, s3, by rw [s4]; exact Nat.le_refl _, fun k _ hk => setCells_far _ _ k (fun he => hk (by rw [he]))⟩⟩
    rw [h5, hcur, hkl, List.map_append, List.take_append_of_le_length (by simp), List.take_of_length_le (by simp), List.drop_append, List.drop_eq_nil_of_le (by simp), List.nil_append, List.length_map, show bs.length + ys.length - bs.length = ys.length by omega]
    rw [← List.map_drop, List.drop_replicate, ← List.map_append, ← List.map_append]
theorem adu_copy_at {ops : Array Oper} {rest : List Oper} {o : Oper} {a : Act} {Q : Exit → Act → World → Prop} {W w1 : World} (hgd : o.guard = none) (s x : Operand) (t t' : TypeId)
    (ho : o.op = .call { callee := .builtin .copy, args := #[s, x], argTypes := #[t, t'] }) {v u n : Value} (hs : a.eval s = v) (hx : a.eval x = u) (hr : (Builtin.copy_ #[t, t'] o.type #[v, u]).run Try.prog W = .ok n w1)
    (h : wpList Try.prog ops Q rest (a.put o.dst n) w1) : wpList Try.prog ops Q (o :: rest) a W := by
  refine wpList_plain hgd fun K hK => ?_
  unfold Oper.wp execOp
  simp only [ho, resolve, invoke, builtin, Sem.run_bind, Sem.run_pure, Result.andThen_ok, List.map_toArray, List.map_cons, List.map_nil, hs, hx, hr]
  exact hK _ _ h
theorem adu_cut (g o' r q : Nat) (hq : q ≤ r) (W : World) : (Instr.slice 22 (.slice (some ⟨g, o', none⟩) r r) (some (.int .i64 (q : Int))) none none).run Try.prog W = .ok (.slice (some ⟨g, if r = q then o' else o' + q, none⟩) (r - q) (r - q)) W := by
  obtain ⟨i0, hi0, hz0, hsz0, hby0⟩ := info_parts info5
  have ht := Try.underlying22
  have hel : Try.prog.elem 22 = 5 := by simp [Program.elem, ht]
  have hu : Try.prog.underlying 22 = some (.slice (Try.prog.elem 22)) := by rw [hel]; exact ht
  rw [run_slice_l W 22 (some ⟨g, o', none⟩) r r hu .i64 (q : Int) (Int.natCast_nonneg _) (by omega), hel]
  by_cases h : r = q
  · simp [sizeOf, typeInfo, hi0, hsz0, sliced, Result.andThen, h]
  · simp [sizeOf, typeInfo, hi0, hsz0, sliced, Result.andThen, h, Addr.add]
def adu_joined.f (l0 : List (List Int)) : Option (List Int) := if l0.flatten.length < 140737488355000 then some l0.flatten else none
theorem adu_take (l : List (List Int)) (k : Nat) (h : k < l.length) : (l.take (k + 1)).flatten = (l.take k).flatten ++ l[k] := by
  rw [take_snoc l k h, List.flatten_append]; simp
theorem adu_le (l : List (List Int)) (k : Nat) : (l.take k).flatten.length ≤ l.flatten.length := by
  have : l.flatten = (l.take k).flatten ++ (l.drop k).flatten := by rw [← List.flatten_append, List.take_append_drop]
  rw [this, List.length_append]; omega
theorem adu_at {w : World} {A : Option Addr} {l : List (List Int)} (h : Kd.C (Kd.slice 5 (Kd.int .u8)) w A l.length l) (k : Nat) (hk : k < l.length) :
    ∃ ad B c, A = some ad ∧ w.cell? (ad.add k) = some (.slice B (l[k]).length c) ∧ (l[k]).length ≤ c ∧ Kd.C (Kd.int .u8) w B (l[k]).length (l[k]) := by
  obtain ⟨ad, e, hc⟩ := h.2.2 (by omega)
  obtain ⟨cs, _, ⟨B, c, rfl, h1, h2⟩, hcell⟩ := hc k _ (List.getElem?_eq_getElem hk)
  have := hcell 0 _ rfl
  rw [show k * (Kd.slice 5 (Kd.int .u8)).sz + 0 = k by show k * 1 + 0 = k; omega] at this
  exact ⟨ad, B, c, e, this, h1, h2⟩
set_option maxRecDepth 100000 in
theorem adu_joined.calls (A0 : Option Addr) (c0 : Nat) (l0 : List (List Int)) (r : List Int) (w : World) (hr0 : Kd.C (Kd.slice 5 (Kd.int .u8)) w A0 l0.length l0) (hc0 : l0.length ≤ c0) (h : adu_joined.f l0 = some r) :
    Calls Try.prog 90 #[.slice A0 l0.length c0] w fun e w' => ∃ v0_ : Value, e = .returned (v0_) ∧ Kd.R (Kd.int .u8) 5 w' w.heap.size (fun _ => True) v0_ r ∧ Below w.heap.size w w' := by
  unfold adu_joined.f at h
  split at h
  case isFalse => cases h
  case isTrue hb =>
  obtain rfl := Option.some.inj h
  have hn : l0.length ≤ 9223372036854775807 := hr0.2.1
  have HR0 := Aside0.mk hr0
  obtain ⟨tot, htot⟩ : ∃ tot : Nat → Nat, ∀ k, tot k = (l0.take k).flatten.length := ⟨_, fun _ => rfl⟩
  have hT : tot l0.length = l0.flatten.length := by rw [htot, List.take_length]
  have hT0 : tot 0 = 0 := by rw [htot, List.take_zero]; rfl
  have HS := Aside0.mk (show ∀ k, (h : k < l0.length) → tot (k + 1) = tot k + (l0[k]).length ∧ tot (k + 1) ≤ tot l0.length by
    intro k h
    refine ⟨by rw [htot, htot, adu_take l0 k h, List.length_append], ?_⟩
    rw [hT, htot]; exact adu_le l0 (k + 1))
  have HTot := Aside0.mk htot
  have HT := Aside0.mk hT
  have hN : tot l0.length < 140737488355000 := by rw [hT]; exact hb
  clear h hb hr0 hc0 hT htot
  have hmk : ∀ W : World, (Instr.makeSlice 22 (.int .i64 (tot l0.length : Nat)) (.int .i64 (tot l0.length : Nat))).run Try.prog W = .ok (.slice (some ⟨W.heap.size, 0, none⟩) (tot l0.length) (tot l0.length)) (W.alloc (.cells (madeCells #[.int .u8 0] (tot l0.length)) 5)) := by
    intro W
    obtain ⟨i0, hi0, hz0, hsz0, hby0⟩ := info_parts info5
    have := run_make (P := Try.prog) W 22 5 i0 (.int .u8 0) Try.underlying22 hi0 hz0 .i64 .i64 (tot l0.length : Int) (tot l0.length : Int) (by omega) (by omega) (by rw [hby0]; omega) (by omega)
    rw [hsz0, Int.toNat_natCast, Nat.mul_one] at this
    exact this
  go_enter Try.func90, Try.ntmps90
  go_wp2
  go_loopw [12, 3] (fun v12 v3 wr => ∃ k : Nat, k ≤ l0.length ∧ v12 = .int .i64 k ∧ v3 = .int .i64 (tot k : Nat) ∧ w = wr) (fun v12 _ _ => l0.length - (intOf v12).toNat)
  case atStart => exact ⟨0, Nat.zero_le _, rfl, by rw [hT0]; rfl, rfl⟩
  case round =>
    obtain ⟨k, hk, rfl, rfl, hw⟩ := hrel
    subst hw
    by_cases hlt : k < l0.length
    · obtain ⟨ad, B, c, e1, hcell, _, _⟩ := adu_at HR0.out k hlt
      cases e1
      obtain ⟨hs1, hs2⟩ := HS.out k hlt
      have HS1 := Aside0.mk hs1
      rw [hs1] at hs2
      clear hs1 hmk
      generalize tot k = m at *
      generalize (l0[k]).length = q at *
      go_wp2
      go_roundw
      case rel => exact ⟨k + 1, by omega, by go_num, by rw [HS1.out]; go_num, trivial⟩
      case measure => simp [intOf]; omega
    · have : k = l0.length := by omega
      subst this
      go_wp2
      go_loopw [26, 7] (fun v26 v7 w2 => ∃ k o' : Nat, ∃ cur : Array Value, k ≤ l0.length ∧ v26 = .int .i64 k ∧ v7 = .slice (some ⟨w.heap.size, o', none⟩) (tot l0.length - tot k) (tot l0.length - tot k) ∧ Aside0 (tot l0.length - tot k ≠ 0 → o' = ((l0.take k).flatten).length) ∧
          Aside0 (w2.heap[w.heap.size]? = some (.cells cur 5 (0, 0))) ∧ Aside0 (cur.toList = ((l0.take k).flatten ++ List.replicate (tot l0.length - tot k) 0).map (Value.int .u8)) ∧ Aside0 (Below w.heap.size w w2)) (fun v26 _ _ => l0.length - (intOf v26).toNat)
      case atStart =>
        refine ⟨0, 0, madeCells #[.int .u8 0] (tot l0.length), Nat.zero_le _, rfl, by rw [hT0]; rfl, ⟨fun _ => rfl⟩, ⟨blk_new w _⟩, ⟨?_⟩, ⟨(Below.refl _ _).alloc (Nat.le_refl _) _⟩⟩
        rw [hT0, Nat.sub_zero, List.take_zero, List.flatten_nil, List.nil_append, List.map_replicate]
        apply List.ext_getElem
        · simp [size_madeCells]
        · intro i h1 h2
          simp [madeCells, Nat.mod_one]
      case round =>
        obtain ⟨k, o', cur, hk2, rfl, rfl, HO, HG, HC, HB⟩ := hrel
        by_cases hlt2 : k < l0.length
        · obtain ⟨ad, B, c, e1, hcell, hlc, hC⟩ := adu_at (Kd.C_below HR0.out HB.out) k hlt2
          cases e1
          obtain ⟨hs1, hs2⟩ := HS.out k hlt2
          rw [hs1] at hs2
          obtain ⟨w3, cur', h1, h2, h3, h4⟩ := adu_put wr w.heap.size o' (tot l0.length - tot k) c cur B (l0[k]) _ HG.out HC.out HO.out hC (by omega)
          have hcut := adu_cut w.heap.size o' (tot l0.length - tot k) (l0[k]).length (by omega)
          have H2 := Aside0.mk h2
          have H3 := Aside0.mk h3
          have HB2 := Aside0.mk (HB.out.grown h4 HB.out.size (fun k hk => by injection hk with hk; omega))
          have HS1 := Aside0.mk hs1
          have HE := Aside0.mk (adu_take l0 k hlt2)
          have HR := Aside0.mk (show tot l0.length - tot k - (l0[k]).length = tot l0.length - tot (k + 1) by omega)
          have HO2 := Aside0.mk (show tot l0.length - tot (k + 1) ≠ 0 → (if tot l0.length - tot k = (l0[k]).length then o' else o' + (l0[k]).length) = ((l0.take (k + 1)).flatten).length by
            intro h
            rw [if_neg (by omega), adu_take l0 k hlt2, List.length_append, HO.out (by omega)])
          clear h2 h3 h4 hs1 hs2 hC hmk HG HC HO HB
          generalize tot l0.length - tot k = r at *
          generalize hq : (l0[k]).length = q at *
          generalize (if r = q then o' else o' + q) = o2 at *
          go_wp2_with ((with_reducible refine gate_builtin (b := .copy) (xs := #[.tmp 31, .tmp 32]) rfl ?_); refine adu_copy_at rfl (.tmp 31) (.tmp 32) 22 22 rfl rfl rfl h1 ?_)
          go_roundw
          case rel => exact ⟨k + 1, o2, cur', by omega, by go_num, by rw [HR.out], HO2, H2, ⟨by rw [HE.out, ← HR.out]; exact H3.out⟩, HB2⟩
          case measure => simp [intOf]; omega
        · have : k = l0.length := by omega
          subst this
          go_wp2
          go_ret
          have hcl : cur.toList = (l0.flatten).map (Value.int .u8) := by rw [HC.out, Nat.sub_self, List.replicate_zero, List.append_nil, List.take_length]
          have hcs : cur.size = tot l0.length := by rw [← Array.length_toList, hcl, List.length_map, HT.out]
          refine ⟨_, rfl, Kd.R_of_own (enc := Value.int .u8) ?_ (fun _ _ => trivial), HB.out⟩
          refine ⟨by rw [encs_length, Nat.mul_one], .inr ⟨w.heap.size, tot l0.length, cur, ?_, Nat.le_refl _, HG.out, by rw [HT.out]; exact Nat.le_refl _, by unfold maxLen; omega, by rw [hcs, Nat.mul_one], ?_⟩⟩
          · rw [HT.out]; rfl
          · rw [hcl, List.take_of_length_le (by rw [List.length_map]; omega)]; rfl

end Go.Proofs.Ytbaodollggbcoaa.PAduHurt

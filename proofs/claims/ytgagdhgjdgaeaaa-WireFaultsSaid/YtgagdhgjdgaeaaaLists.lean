/- Rows of elements of several cells: copy between rows, one element taken out of a row of one's own in place, clear. By this session. -/
import Derived.Test.YtgagdhgjdgaeaaaMine
import Derived.Laws.IdiomCopy
import Derived.Lib.SliceRun
import Derived.Deep.RegionLaw
namespace Go.Proofs.YtgagdhgjdgaeaaaM
open Go.RowKit Go.Proofs.YtgagdhgjdgaeaaaW.PrintWords Go.Proofs.YtgagdhgjdgaeaaaW.PrintMore

theorem run_copy_rows {P : Program} (w : World) (dT sT ty elem : TypeId) (sz b dLen dCap : Nat) (a : Addr) (sLen sCap : Nat) (cs : List Value)
    (hu : P.underlying dT = some (.slice elem)) (hs : (P.info? elem).map (·.size) = some sz) (hn : cs.length = Nat.min sLen dLen * sz)
    (hsrc : ∀ j v, cs[j]? = some v → w.cell? (a.add j) = some v) (hc : ∀ j, j < cs.length → (w.cell? ⟨b, 0 + j, none⟩).isSome = true) (hf : ∀ j, j < cs.length → w.frozen? ⟨b, 0 + j, none⟩ = false) (h1 : ∀ v ∈ cs, v.oneCell' = true) :
    (Builtin.copy_ #[dT, sT] ty #[.slice (some ⟨b, 0, none⟩) dLen dCap, .slice (some a) sLen sCap]).run P w = .ok (goInt (Nat.min sLen dLen)) (w.setCells b 0 cs) := by
  have hl := run_loadCells_list (P := P) w a cs hsrc
  have hst := run_storeCells_cells (P := P) b 0 cs 0 w (by simpa using hc) (by simpa using hf) h1
  cases hq : P.info? elem with
  | none => simp [hq] at hs
  | some i =>
    have hi : i.size = sz := by simpa [hq] using hs
    simp [Builtin.copy_, run_underlying hu, Builtin.lenOf, Builtin.firstCells, sizeOf, typeInfo, hq, hi, ← hn, hl, hst]
theorem run_copy_rows0 {P : Program} (w : World) (dT sT ty elem : TypeId) (d a : Option Addr) (sz dCap sCap : Nat) (hu : P.underlying dT = some (.slice elem)) (hs : (P.info? elem).map (·.size) = some sz) :
    (Builtin.copy_ #[dT, sT] ty #[.slice d 0 dCap, .slice a 0 sCap]).run P w = .ok (goInt 0) w := by
  cases hq : P.info? elem with
  | none => simp [hq] at hs
  | some i =>
    have hl : ∀ (x : Addr), (loadCells x 0).run P w = .ok #[] w := fun x => by simpa using run_loadCells_list (P := P) w x [] (by simp)
    cases d <;> cases a <;> simp [Builtin.copy_, run_underlying hu, Builtin.lenOf, Builtin.firstCells, sizeOf, typeInfo, hq, storeCells, hl]
section
variable {P : Program} {ops : Array Oper} {rest : List Oper} {o : Oper} {a : Act} {Q : Exit → Act → World → Prop} {α : Type}
theorem R_copy_rows (d : Kd α) {Rr : α → List Value → Prop} {w0 W : World} (base : Nat) (hgd : o.guard = none) (s x : Operand) (t t' e : TypeId)
    (ho : o.op = .call { callee := .builtin .copy, args := #[s, x], argTypes := #[t, t'] }) (ht : P.underlying t = some (.slice e)) (hinfo : (P.info? e).map (·.size) = some d.sz) (hs0 : 0 < d.sz)
    (v : Value) (xs ys : List α) (A : Option Addr) (m c : Nat) (ok okp : Nat → Prop) (hs : a.eval s = v) (hx : a.eval x = .slice A m c)
    (HO : d.R e W base ok v xs) (HR : ReadsRow Rr d.sz W A m ys) (hKM : ∀ x cs, Rr x cs → d.M W base okp x cs) (hokp : ∀ k, okp k → ok k ∧ some k ≠ v.ownBlock) (hlen : m = xs.length) (HB : Below base w0 W) (hbase : base ≤ W.heap.size)
    (h : ∀ w1, d.R e w1 base ok v ys → Below base w0 w1 → W.grownBy w1 v.ownBlock → wpList P ops Q rest (a.put o.dst (.int .i64 (m : Int))) w1) :
    wpList P ops Q (o :: rest) a W := by
  have hm : ys.length = m := HR.1
  obtain ⟨hok, inner, hown, hr⟩ := HO
  have fin : ∀ w1, (Builtin.copy_ #[t, t'] o.type #[v, .slice A m c]).run P W = .ok (goInt (m : Int)) w1 → d.R e w1 base ok v ys → W.grownBy w1 v.ownBlock → wpList P ops Q (o :: rest) a W := by
    intro w1 hr hrow hg
    refine wpList_plain hgd fun K hK => ?_
    unfold Oper.wp execOp
    simp only [ho, resolve, invoke, builtin, Sem.run_bind, Sem.run_pure, Result.andThen_ok, List.map_toArray, List.map_cons, List.map_nil, hs, hx, hr]
    exact hK _ _ (h w1 hrow (HB.grown hg hbase (own_base hown)) hg)
  rcases Nat.eq_zero_or_pos m with h0 | hp
  · subst h0
    have hx0 : xs = [] := List.eq_nil_of_length_eq_zero hlen.symm
    have hy0 : ys = [] := List.eq_nil_of_length_eq_zero hm
    subst hx0; subst hy0
    obtain ⟨A', c', hv⟩ := own_slice hown
    refine fin W ?_ ⟨hok, inner, hown, hr⟩ (World.grownBy.refl W _)
    rw [hv]
    exact run_copy_rows0 W t t' o.type e A' A d.sz c' c ht hinfo
  · obtain ⟨ad, hA, hcc⟩ := HR.2.2 hp
    subst hA
    obtain ⟨news, hnr, hnc⟩ := ReadsRow.inner_ HR
    have hnM : Reps (d.M W base okp) d.sz ys news := hnr.imp_ (fun p c hp => hKM p c hp)
    have hone : ∀ u ∈ news, u.oneCell' = true := by
      intro u hu
      obtain ⟨q, hq, rfl⟩ := List.mem_iff_getElem.1 hu
      have hql : q / d.sz < ys.length := by
        rw [Nat.div_lt_iff_lt_mul hs0]
        rw [← hnM.1]
        exact hq
      have hc := hnM.2 (q / d.sz) _ (List.getElem?_eq_getElem hql)
      refine d.K_one (d.K_of_M hc) _ ?_
      rw [List.mem_iff_getElem?]
      refine ⟨q % d.sz, ?_⟩
      rw [List.getElem?_take, if_pos (Nat.mod_lt _ hs0), List.getElem?_drop, Nat.mul_comm, Nat.div_add_mod, List.getElem?_eq_getElem hq]
    rcases hown.2 with ⟨_, hx0⟩ | ⟨g, cap, cur, hv, hb, hh, hnc', hcm, hcs, htake⟩
    · omega
    have hnl : news.length = m * d.sz := by rw [hnM.1, hm]
    have hfit : m * d.sz ≤ cur.size := by rw [hcs, hlen]; exact Nat.mul_le_mul_right _ hnc'
    have hrun := run_copy_rows (P := P) W t t' o.type e d.sz g xs.length cap ad m c news ht hinfo (by rw [hnl, hlen]; congr 1; exact (Nat.min_self _).symm) hnc
      (fun j hj => by rw [cell_of_row W g _ cur e (0, 0) hh]; simp; omega) (fun j _ => blk_frozen hh _) hone
    obtain ⟨cur', h3, h4, h5⟩ := setCells_row news 0 W cur hh (by omega)
    obtain ⟨s1, s2, s3, s4⟩ := setCells_same g news 0 W
    have hob : v.ownBlock = some g := by rw [hv]; rfl
    have hfar : ∀ k, k ≠ g → (W.setCells g 0 news).heap[k]? = W.heap[k]? := fun k hk => setCells_far _ _ k hk
    have hmin : Nat.min m xs.length = m := by rw [← hlen]; exact Nat.min_self _
    rw [hmin] at hrun
    refine fin _ (by rw [hv, hrun]) ⟨hok, news, ⟨by rw [hnl, hm], .inr ⟨g, cap, cur', by rw [hv, hm, hlen], hb, h3, by rw [hm, hlen]; exact hnc', hcm, by rw [h4, hcs], ?_⟩⟩, hnM.imp_ (fun p c hq => ?_)⟩ ⟨s1, s2, s3, by rw [s4]; exact Nat.le_refl _, fun k _ hk => hfar k (fun he => hk (by rw [hob, he]))⟩
    · rw [h5, List.take_zero, List.nil_append, hm, List.take_append_of_le_length (by omega), List.take_of_length_le (by omega)]
    · have hq2 := d.M_mono (fun k hk => hokp k hk) hq
      refine d.M_move (fun k hk => hfar k (fun he => hk.2 (by rw [hob, he]))) hq2
end
theorem reps_eraseIdx {α : Type} {R : α → List Value → Prop} {size k : Nat} {ps : List α} {cs : List Value} (h : Reps R size ps cs) (hk : k < ps.length) :
    Reps R size (ps.eraseIdx k) (cs.take (k * size) ++ cs.drop ((k + 1) * size)) := by
  rw [List.eraseIdx_eq_take_drop_succ]
  exact Kd.reps_append (Kd.reps_take h (by omega)) (Kd.reps_drop h)
theorem R_inner {α : Type} {d : Kd α} {W : World} {base e g n cap : Nat} {ok : Nat → Prop} {xs : List α} (h : d.R e W base ok (.slice (some ⟨g, 0, none⟩) n cap) xs) (hs0 : 0 < d.sz) :
    ∃ inner : List Value, inner.length = n * d.sz ∧ (∀ j u, inner[j]? = some u → W.cell? ⟨g, j, none⟩ = some u) ∧ (∀ u ∈ inner, u.oneCell' = true) ∧ (∀ j, W.frozen? ⟨g, j, none⟩ = false) ∧ ∃ cur, W.heap[g]? = some (.cells cur e (0, 0)) ∧ cur.size = cap * d.sz ∧ n ≤ cap ∧ cap ≤ maxLen ∧ base ≤ g ∧ cur.toList.take (n * d.sz) = inner ∧ Reps (d.M W base (fun k => ok k ∧ k ≠ g)) d.sz xs inner := by
  obtain ⟨hn, hnc, _⟩ := Kd.R_reads' h
  obtain ⟨hok, inner, ho, hr⟩ := h
  obtain ⟨ho1, ho2⟩ := ho
  rcases ho2 with ⟨hv, _⟩ | ⟨g', cap', cur, hv, hb, hh, hnc', hcm, hcs, ht⟩
  · cases hv
  injection hv with ha _ hc
  injection ha with ha
  injection ha with hg
  subst hg; subst hc; subst hn
  have hr' : Reps (d.M W base (fun k => ok k ∧ k ≠ g)) d.sz xs inner := hr.imp_ (fun p c hq => d.M_mono (fun k hk => ⟨hk.1, fun he => hk.2 (by rw [he]; rfl)⟩) hq)
  refine ⟨inner, ho1, fun j u hu => ?_, fun u hu => ?_, fun j => blk_frozen hh j, cur, hh, hcs, hnc, hcm, hb, ht, hr'⟩
  · rw [blk_cell hh, ← Array.getElem?_toList]
    rw [← ht, List.getElem?_take] at hu
    split at hu
    · exact hu
    · cases hu
  · obtain ⟨q, hq, rfl⟩ := List.mem_iff_getElem.1 hu
    have hql : q / d.sz < xs.length := by
      rw [Nat.div_lt_iff_lt_mul hs0]
      rw [← hr.1]
      exact hq
    have hc := hr.2 (q / d.sz) _ (List.getElem?_eq_getElem hql)
    refine d.K_one (d.K_of_M hc) _ ?_
    rw [List.mem_iff_getElem?]
    refine ⟨q % d.sz, ?_⟩
    rw [List.getElem?_take, if_pos (Nat.mod_lt _ hs0), List.getElem?_drop, Nat.mul_comm, Nat.div_add_mod, List.getElem?_eq_getElem hq]
/-- Element k is taken out: what is behind it moves to the left, and the last element's cells are zeros. -/
theorem R_delete {α : Type} {d : Kd α} {W : World} {base e g n cap k : Nat} {ok : Nat → Prop} {xs : List α} (hs0 : 0 < d.sz) (hk : k < n) {inner zs : List Value} (hz : zs.length = d.sz) (hl : inner.length = n * d.sz)
    {cur : Array Value} (hh : W.heap[g]? = some (.cells cur e (0, 0))) (hcs : cur.size = cap * d.sz) (hnc : n ≤ cap) (hcm : cap ≤ maxLen) (hb : base ≤ g) (ht : cur.toList.take (n * d.sz) = inner) (hok : ok g) (hr : Reps (d.M W base (fun k => ok k ∧ k ≠ g)) d.sz xs inner) :
    d.R e ((W.setCells g (k * d.sz) (inner.drop ((k + 1) * d.sz))).setCells g ((n - 1) * d.sz) zs) base ok (.slice (some ⟨g, 0, none⟩) (n - 1) cap) (xs.eraseIdx k) ∧ W.grownBy ((W.setCells g (k * d.sz) (inner.drop ((k + 1) * d.sz))).setCells g ((n - 1) * d.sz) zs) (some g) := by
  have hxl : xs.length = n := by
    have h1 := hr.1
    rw [hl] at h1
    exact (Nat.eq_of_mul_eq_mul_right hs0 h1).symm
  obtain ⟨m, rfl⟩ : ∃ m, n = m + 1 := ⟨n - 1, by omega⟩
  obtain ⟨S, hS⟩ : ∃ S, S = d.sz := ⟨_, rfl⟩
  have e1 : (m + 1) * S = m * S + S := Nat.succ_mul _ _
  have e2 : (k + 1) * S = k * S + S := Nat.succ_mul _ _
  have e3 : k * S ≤ m * S := Nat.mul_le_mul_right _ (by omega)
  have e4 : (m + 1) * S ≤ cap * S := Nat.mul_le_mul_right _ hnc
  rw [← hS] at hz hl hcs ht hr ⊢
  have hdl : (inner.drop ((k + 1) * S)).length = m * S - k * S := by rw [List.length_drop, hl]; omega
  obtain ⟨cur1, a3, a4, a5⟩ := setCells_row (inner.drop ((k + 1) * S)) (k * S) W cur hh (by rw [hdl]; omega)
  obtain ⟨s1, s2, s3, s4⟩ := setCells_same g (inner.drop ((k + 1) * S)) (k * S) W
  obtain ⟨cur2, b3, b4, b5⟩ := setCells_row zs (m * S) _ cur1 a3 (by omega)
  obtain ⟨t1, t2, t3, t4⟩ := setCells_same g zs (m * S) (W.setCells g (k * S) (inner.drop ((k + 1) * S)))
  have hfar : ∀ q, q ≠ g → ((W.setCells g (k * S) (inner.drop ((k + 1) * S))).setCells g (m * S) zs).heap[q]? = W.heap[q]? := fun q hq => (setCells_far _ _ q hq).trans (setCells_far _ _ q hq)
  rw [Nat.add_sub_cancel]
  have hel : (xs.eraseIdx k).length = m := by rw [List.length_eraseIdx]; split <;> omega
  refine ⟨⟨fun q hq => ?_, inner.take (k * S) ++ inner.drop ((k + 1) * S), ⟨?_, .inr ⟨g, cap, cur2, by rw [hel], hb, b3, by rw [hel]; omega, hcm, by rw [b4, a4, hcs, hS], ?_⟩⟩, ?_⟩, ⟨t1.trans s1, t2.trans s2, t3.trans s3, by rw [t4, s4]; exact Nat.le_refl _, fun q _ hq => hfar q (fun he => hq (by rw [he]))⟩⟩
  · simp [Value.ownBlock] at hq
    exact hq ▸ hok
  · rw [List.length_append, List.length_take, hdl, hl, hel, ← hS]
    omega
  · have c1 : cur.toList.take (k * S) = inner.take (k * S) := by
      rw [← ht, List.take_take, Nat.min_eq_left (by omega)]
    have c2 : cur.toList.length = cap * S := by rw [Array.length_toList, hcs]
    have c3 : cur1.toList.take (m * S) = inner.take (k * S) ++ inner.drop ((k + 1) * S) := by
      have d1 : (inner.take (k * S) ++ inner.drop ((k + 1) * S)).length = m * S := by rw [List.length_append, List.length_take, hdl, hl]; omega
      rw [a5, c1, List.take_append_of_le_length (Nat.le_of_eq d1.symm), List.take_of_length_le (Nat.le_of_eq d1)]
    have c4 : cur1.toList.length = cap * S := by rw [Array.length_toList, a4, hcs]
    rw [hel, ← hS, b5, List.append_assoc, List.take_append_of_le_length (by rw [List.length_take, c4]; omega), List.take_take, Nat.min_self, c3]
  · rw [← hS]
    refine reps_eraseIdx (hr.imp_ (fun p c hq => ?_)) (by omega)
    refine d.M_move (fun q hq => hfar q (fun he => hq.2 (by rw [he]; rfl))) (d.M_mono (fun q hq => ⟨hq.1, fun he => hq.2 ?_⟩) hq)
    simp [Value.ownBlock] at he
    exact he
theorem run_clear_rows {P : Program} (w : World) (t e ty : TypeId) (z : Value) (ht : P.underlying t = some (.slice e)) (hv : ∀ w, (zeroValue e).run P w = .ok z w) (h1 : ∀ u ∈ z.cells.toList, u.oneCell' = true) (b o c : Nat)
    (hc : ∀ j, j < z.cells.size → (w.cell? ⟨b, o + j, none⟩).isSome = true) (hf : ∀ j, j < z.cells.size → w.frozen? ⟨b, o + j, none⟩ = false) :
    (Builtin.clear_ #[t] ty #[.slice (some ⟨b, o, none⟩) 1 c]).run P w = .ok (.tuple #[]) (w.setCells b o z.cells.toList) := by
  have hzc : (Builtin.zeroCells z.cells 1).toList = z.cells.toList := by
    apply List.ext_getElem
    · simp [Builtin.zeroCells]
    · intro i h1 h2
      have hi : i < z.cells.size := by simpa using h2
      simp [Builtin.zeroCells, Nat.mod_eq_of_lt hi, getElem!_pos, hi]
  have hst := run_storeCells_cells (P := P) b o z.cells.toList 0 w (by simpa using hc) (by simpa using hf) h1
  simp only [Nat.add_zero] at hst
  simp [Builtin.clear_, run_underlying ht, hv, hzc, hst]
end Go.Proofs.YtgagdhgjdgaeaaaM

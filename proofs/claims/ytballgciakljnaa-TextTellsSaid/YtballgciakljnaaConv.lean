/- '[]byte("..")' of a constant: the kit's law, at hand. By this session. -/
import Derived.Test.YtballgciakljnaaMine
import Derived.Lib.SlBytesConst
import Derived.Lib.AppendStr
import Derived.Laws.BytesArg
namespace Go.Proofs.YtballgciakljnaaM
open Go.RowKit Go.Proofs.YtballgciakljnaaW.PrintWords Go.Proofs.YtballgciakljnaaW.PrintMore
theorem run_lit (P : Program) (w : World) (t e : TypeId) (C : Array Value) (n c : Nat) (ht : P.underlying t = some (.slice e)) (he : P.underlying e = some (.int .u8)) :
    (convert t t (.slice (some ⟨w.heap.size, 0, none⟩) n c)).run P (w.alloc (.cells C e)) = .ok (.slice (some ⟨w.heap.size, 0, none⟩) n c) (w.alloc (.cells C e (C.size, C.size + 1))) := Lib.run_convert_bytes_const w t e C n c ht he
theorem lit_new (w : World) (C : Array Value) (e : TypeId) (f : Nat × Nat) : (w.alloc (.cells C e f)).heap[w.heap.size]? = some (.cells C e f) := by
  show (w.heap.push _)[w.heap.size]? = _
  simp
/-- A string's bytes as numbers. -/
def numsOf (s : ByteArray) : List Int := s.data.toList.map fun b => ((b.toNat : Nat) : Int)
theorem numsOf_size (s : ByteArray) : (numsOf s).length = s.size := by rw [numsOf, List.length_map, Array.length_toList]; rfl
theorem numsOf_str (xs : List Int) (h : ∀ x ∈ xs, 0 ≤ x ∧ x ≤ 255) : numsOf (strOfNums xs) = xs := by
  unfold numsOf
  rw [strOfNums_data, List.map_map]
  conv => rhs; rw [← List.map_id xs]
  refine List.map_congr_left fun x hx => ?_
  have hb := h x hx
  show (((UInt8.ofNat x.toNat).toNat : Nat) : Int) = x
  rw [show (UInt8.ofNat x.toNat).toNat = x.toNat % 256 from UInt8.toNat_ofNat]
  omega
theorem str_numsOf (s : ByteArray) : strOfNums (numsOf s) = s := by
  have h : (strOfNums (numsOf s)).data.toList = s.data.toList := by
    rw [strOfNums_data, numsOf, List.map_map]
    conv => rhs; rw [← List.map_id s.data.toList]
    refine List.map_congr_left fun x _ => ?_
    show UInt8.ofNat (((x.toNat : Nat) : Int)).toNat = x
    rw [Int.toNat_natCast]
    exact UInt8.ofNat_toNat
  have h2 : (strOfNums (numsOf s)).data = s.data := Array.ext' h
  cases hs : strOfNums (numsOf s); cases s
  rw [hs] at h2
  simp only at h2
  rw [h2]
theorem numsOf_bd (s : ByteArray) : ∀ x ∈ numsOf s, 0 ≤ x ∧ x ≤ 255 := by
  intro x hx
  unfold numsOf at hx
  obtain ⟨b, _, rfl⟩ := List.mem_map.1 hx
  have := b.toNat_lt
  omega
section
variable {P : Program} {ops : Array Oper} {rest : List Oper} {o : Oper} {a : Act} {Q : Exit → Act → World → Prop}
/-- append(v, s...), s a string. -/
theorem R_append_str {w0 W : World} (base : Nat) (hgd : o.guard = none) (s x : Operand) (t u e : TypeId)
    (ho : o.op = .call { callee := .builtin .append, args := #[s, x], argTypes := #[t, u] }) (ht : P.underlying t = some (.slice e)) (hu : P.underlying u = some .string) (hinfo : (P.info? e).map (fun i => (i.zero, i.size, i.bytes)) = some (some (.int .u8 0), 1, 1))
    (v : Value) (xs : List Int) (S : ByteArray) (ok : Nat → Prop) (hs : a.eval s = v) (hx : a.eval x = .string S) (hfresh : ∀ k, W.heap.size ≤ k → ok k)
    (HO : (Kd.int .u8).R e W base ok v xs) (HB : Below base w0 W) (hbase : base ≤ W.heap.size) (hl : xs.length + S.size ≤ 140737488355328)
    (h : ∀ v1 w1, (Kd.int .u8).R e w1 base ok v1 (xs ++ numsOf S) → Below base w0 w1 → W.grownBy w1 v.ownBlock → (v1.ownBlock = v.ownBlock ∨ ∃ b, v1.ownBlock = some b ∧ W.heap.size ≤ b) → wpList P ops Q rest (a.put o.dst v1) w1) :
    wpList P ops Q (o :: rest) a W := by
  obtain ⟨i0, hi, hzz⟩ := Option.map_eq_some_iff.1 hinfo
  simp only [Prod.mk.injEq] at hzz
  obtain ⟨hz0, hz1, hz2⟩ := hzz
  have hown := Kd.own_of_R HO
  obtain ⟨v1, w1, hrun, h2, hg, h4⟩ := Lib.run_append_own_string (P := P) W base t u o.type e i0 ht hu hi hz0 hz1 hz2 v xs.length _ hown S (by simp only [maxLen]; omega) (by omega) hbase
  have hat : v1.ownBlock = v.ownBlock ∨ ∃ b, v1.ownBlock = some b ∧ W.heap.size ≤ b := by
    rcases hown.2 with ⟨rfl, hn⟩ | ⟨g, cap, cur, rfl, hbg, hgc, hnc, hcm, hcs, htake⟩
    · by_cases hm : S.size = 0
      · rw [h4.2 ⟨rfl, hm⟩]; exact .inl rfl
      · have hr := run_append_nil_string (P := P) W t u o.type e i0 (.int .u8 0) ht hu hi hz0 S (by omega) (by omega) (by rw [hz2]; omega)
        rw [hr] at hrun
        injection hrun with h5 h6
        subst h5
        exact .inr ⟨_, rfl, Nat.le_refl _⟩
    · by_cases hroom : xs.length + S.size ≤ cap
      · have hcs' : cur.size = cap := by simpa using hcs
        have hr := Lib.run_append_room_string (P := P) W t u o.type e i0 ht hu hi hz1 g xs.length cap cur hgc S hroom (by omega)
        rw [hr] at hrun
        injection hrun with h5 h6
        subst h5
        exact .inl rfl
      · have holds : ∀ j u, (encs (Value.int .u8) xs)[j]? = some u → W.cell? ((⟨g, 0, none⟩ : Addr).add j) = some u := hown.cells (g := g) rfl
        have hr := Lib.run_append_grow_string (P := P) W t u o.type e i0 (.int .u8 0) ht hu hi hz0 ⟨g, 0, none⟩ xs.length cap _ (by rw [hz1]; simpa using hown.1) holds S (by omega) (by omega) (by rw [hz2]; exact growslice_fits (by omega) (by omega))
        rw [hr] at hrun
        injection hrun with h5 h6
        subst h5
        exact .inr ⟨_, rfl, Nat.le_refl _⟩
  have hok := HO.1
  refine wpList_plain hgd fun K hK => ?_
  unfold Oper.wp execOp
  simp only [ho, resolve, invoke, builtin, Sem.run_bind, Sem.run_pure, Result.andThen_ok, List.map_toArray, List.map_cons, List.map_nil, hs, hx, hrun]
  refine hK _ _ (h v1 w1 (Kd.R_of_own ?_ ?_) (HB.grown hg hbase (own_base hown)) hg hat)
  · have e1 : encs (Value.int .u8) (xs ++ numsOf S) = encs (Value.int .u8) xs ++ Lib.strCells S := by
      simp [encs, numsOf, Lib.strCells]
    rw [e1, List.length_append, numsOf_size]
    exact h2
  · intro k hk
    rcases hat with hat | ⟨b, hb, hle⟩
    · exact hok k (hat ▸ hk)
    · rw [hb] at hk
      injection hk with hk
      exact hfresh k (by omega)
end
end Go.Proofs.YtballgciakljnaaM

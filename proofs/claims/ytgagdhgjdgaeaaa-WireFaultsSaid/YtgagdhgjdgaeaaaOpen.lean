/- How a law's arguments are opened, whatever their type: whole numbers, bools, strings, slices, structs, arrays, one inside the other. By this session. -/
import Derived.Test.YtgagdhgjdgaeaaaWMore
import Derived.SizedLaws
import Derived.OpenShut
import Derived.Deep.Slices
import Derived.ChangeShapes
import Derived.WideShapes
import Derived.Carry
namespace Go.Proofs.YtgagdhgjdgaeaaaM
open Go.RowKit Go.Proofs.YtgagdhgjdgaeaaaW.PrintWords Go.ChangeShapes Go.WideShapes Go.Deep

section
variable {H : Type} {enc : TypeId × Value → H} {P : Program} {W : World} {α β : Type}
def Small (P : Program) (t : TypeId) (d : DataW H) : Prop := ∀ n ∈ d.weights P t, n ≤ 140737488351232
/-- Whatever reads as a value of type t is told by d, and is as WF says. -/
def Opens (enc : TypeId × Value → H) (P : Program) (W : World) (t : TypeId) (d : Kd α) (WF : α → Prop) : Prop :=
  ∀ fuel cs y, DataW.trod enc P W 0 (fun _ => true) true fuel t cs = some y → Small P t y.1 → ∃ x, d.K W x cs ∧ WF x
theorem opens_int {t : TypeId} {k : IntKind} (ht : P.underlying t = some (.int k)) : Opens enc P W t (Kd.int k) (fun x => (Lit.int k x).wf = true) := by
  intro fuel cs y h _
  obtain ⟨n, rfl, _, hn⟩ := DataW.trod_int ht h
  exact ⟨n, rfl, hn⟩
theorem opens_bool {t : TypeId} (ht : P.underlying t = some .bool) : Opens enc P W t Kd.bool (fun _ => True) := by
  intro fuel cs y h _
  obtain ⟨n, rfl, _⟩ := DataW.trod_bool ht h
  exact ⟨n, rfl, trivial⟩
theorem opens_string {t : TypeId} (ht : P.underlying t = some .string) : Opens enc P W t Kd.string (fun s => s.size ≤ 140737488351232) := by
  intro fuel cs y h hs
  obtain ⟨s, rfl, rfl, _⟩ := DataW.trod_string ht h
  exact ⟨s, rfl, by simpa using hs s.data.toList.length (by simp [DataW.weights])⟩
theorem small_all {e : TypeId} {l : List (DataW H)} {d : DataW H} (hd : d ∈ l) : ∀ n ∈ d.weights P e, n ∈ DataW.weightsAll P e l := by
  induction l with
  | nil => cases hd
  | cons a l ih =>
    intro n hn
    simp only [DataW.weightsAll, List.mem_append]
    rcases List.mem_cons.1 hd with rfl | hd
    · exact .inl hn
    · exact .inr (ih hd n hn)
theorem opens_slice {t e : TypeId} {d : Kd α} {WF : α → Prop} {B : Nat} (ht : P.underlying t = some (.slice e)) (hC : P.cellsOf e = d.sz) (hB : P.bytesOf e = B) (he : Opens enc P W e d WF) :
    Opens enc P W t (Kd.slice e d) (fun xs => xs.length ≤ maxLen ∧ xs.length * B ≤ 140737488351232 ∧ ∀ x ∈ xs, WF x) := by
  intro fuel cs y h hs
  rcases open_slice ht h with ⟨rfl, rfl⟩ | ⟨a, len, cap, m, n, D, Pl, rfl, _, hl, hm, hmm, rfl, hi⟩
  · exact ⟨[], ⟨none, 0, rfl, Nat.le_refl _, Kd.C_nil d W⟩, by simp, by simp, fun x hx => by cases hx⟩
  · have hle : len ≤ m := by rw [hmm]; split <;> omega
    have hex : ∀ q, q ≤ len → ∃ xs : List α, xs.length = q ∧ (∀ x ∈ xs, WF x) ∧ ∀ i x, xs[i]? = some x → ∃ cs', W.cells? 0 (a.add (i * P.cellsOf e)) (P.cellsOf e) = some cs' ∧ d.K W x cs' := by
      intro q
      induction q with
      | zero => exact fun _ => ⟨[], rfl, by simp, by simp⟩
      | succ q ih =>
        intro hq
        obtain ⟨xs, hxl, hxw, hxs⟩ := ih (by omega)
        obtain ⟨cs', hc, htr⟩ := hi q (by omega)
        obtain ⟨x, hx, hw⟩ := he n cs' (D q, Pl q) htr (fun z hz => hs z (by
          simp only [DataW.weights, ht, List.mem_cons, List.mem_append]
          exact .inr (.inl (small_all (List.mem_map.2 ⟨q, List.mem_range.2 (by omega), rfl⟩) z hz))))
        refine ⟨xs ++ [x], by simp [hxl], fun z hz => ?_, fun i z hz => ?_⟩
        · rcases List.mem_append.1 hz with hz | hz
          · exact hxw z hz
          · rw [List.mem_singleton.1 hz]; exact hw
        · rcases Nat.lt_or_ge i xs.length with hil | hil
          · rw [List.getElem?_append_left hil] at hz
            exact hxs i z hz
          · rw [List.getElem?_append_right hil] at hz
            have hi0 : i - xs.length = 0 := by
              rcases Nat.eq_zero_or_pos (i - xs.length) with h0 | h0
              · exact h0
              · rw [List.getElem?_eq_none (by simp; omega)] at hz; cases hz
            rw [hi0] at hz
            obtain rfl : x = z := by simpa using hz
            obtain rfl : i = q := by omega
            exact ⟨cs', hc, hx⟩
    obtain ⟨xs, hxl, hxw, hxs⟩ := hex len (Nat.le_refl _)
    subst hxl
    refine ⟨xs, ⟨some a, cap, rfl, hl, rfl, by simp only [maxLen] at hm; omega, fun _ => ⟨a, rfl, fun j p hp => ?_⟩⟩, by omega, ?_, hxw⟩
    · obtain ⟨cs', hc, hK⟩ := hxs j p hp
      obtain ⟨_, hcl, hat⟩ := World.cells?_some hc
      refine ⟨cs', d.K_len hK, hK, fun i u hu => ?_⟩
      have hil : i < P.cellsOf e := by
        rw [← hcl]; exact (List.getElem?_eq_some_iff.1 hu).1
      have h1 := hat i hil
      rw [hC] at h1
      rw [← Deep.add_add, h1, hu]
    · have h1 := hs ((m) * P.bytesOf e) (by
        simp only [DataW.weights, ht, List.length_map, List.length_range]
        rw [show xs.length + (m - xs.length) = m by omega]
        exact List.mem_cons_self)
      rw [hB] at h1
      exact Nat.le_trans (Nat.mul_le_mul_right _ hle) h1
/-- The fields of a struct, the elements of an array: one behind the other. -/
def offs (P : Program) : List TypeId → Nat → Nat
  | [], _ => 0
  | _ :: _, 0 => 0
  | t :: ts, i + 1 => P.cellsOf t + offs P ts i
def total (P : Program) : List TypeId → Nat
  | [] => 0
  | t :: ts => P.cellsOf t + total P ts
def FOpens (enc : TypeId × Value → H) (P : Program) (W : World) (ts : List TypeId) (d : Kd α) (WF : α → Prop) : Prop :=
  ∀ n (cs : List Value) (ys : List (DataW H × List MemPlace)), cs.length = total P ts → ys.length = ts.length → (∀ i t, ts[i]? = some t → DataW.trod enc P W 0 (fun _ => true) true n t ((cs.drop (offs P ts i)).take (P.cellsOf t)) = ys[i]?) →
    (∀ (i : Nat) (t : TypeId) (y : DataW H × List MemPlace), ts[i]? = some t → ys[i]? = some y → Small P t y.1) → ∃ x, d.K W x cs ∧ WF x
theorem fopens_one {t : TypeId} {d : Kd α} {WF : α → Prop} (h : Opens enc P W t d WF) : FOpens enc P W [t] d WF := by
  intro n cs ys hl hy hf hs
  have h0 := hf 0 t rfl
  obtain ⟨y0, hy0⟩ : ∃ y0, ys[0]? = some y0 := ⟨ys[0]'(by rw [hy]; simp), List.getElem?_eq_getElem _⟩
  rw [hy0] at h0
  have hc : (cs.drop (offs P [t] 0)).take (P.cellsOf t) = cs := by
    simp only [offs, List.drop_zero]
    exact List.take_of_length_le (by rw [hl]; simp [total])
  rw [hc] at h0
  exact h n cs _ h0 (hs 0 t _ rfl hy0)
theorem fopens_cons {t : TypeId} {ts : List TypeId} {a : Kd α} {b : Kd β} {WA : α → Prop} {WB : β → Prop} (ha : Opens enc P W t a WA) (hb : FOpens enc P W ts b WB) : FOpens enc P W (t :: ts) (Kd.pair a b) (fun x => WA x.1 ∧ WB x.2) := by
  intro n cs ys hl hy hf hs
  cases ys with
  | nil => simp at hy
  | cons y ys =>
    have h0 := hf 0 t rfl
    simp only [List.getElem?_cons_zero, offs, List.drop_zero] at h0
    obtain ⟨x0, hk0, hw0⟩ := ha n _ y h0 (hs 0 t y rfl rfl)
    simp only [total] at hl
    obtain ⟨x1, hk1, hw1⟩ := hb n (cs.drop (P.cellsOf t)) ys (by rw [List.length_drop]; omega) (by simpa using hy) (fun i u hu => by
      have := hf (i + 1) u (by simpa using hu)
      simp only [offs, List.getElem?_cons_succ] at this
      rw [List.drop_drop]
      exact this) (fun i u z hu hz => hs (i + 1) u z (by simpa using hu) (by simpa using hz))
    exact ⟨(x0, x1), ⟨_, _, (List.take_append_drop (P.cellsOf t) cs).symm, hk0, hk1⟩, hw0, hw1⟩
theorem small_each {ts : List TypeId} {ds : List (DataW H)} {j : Nat} {t : TypeId} {d : DataW H} (ht : ts[j]? = some t) (hd : ds[j]? = some d) (h : ∀ n ∈ DataW.weightsEach P ts ds, n ≤ 140737488351232) : Small P t d :=
  fun n hn => h n (DataW.weights_mem_each ht hd n hn)
theorem opens_struct {t : TypeId} {fs : Array Field} {d : Kd α} {WF : α → Prop} (f : β → α) (g : α → β) (hfg : ∀ x, f (g x) = x) (ht : P.underlying t = some (.struct fs))
    (hoff : ∀ i q, fs[i]? = some q → q.offset = offs P (fs.toList.map (·.type)) i) (hC : P.cellsOf t = total P (fs.toList.map (·.type))) (h : FOpens enc P W (fs.toList.map (·.type)) d WF) :
    Opens enc P W t (Kd.iso d f) (fun x => WF (f x)) := by
  intro fuel cs y ho hs
  obtain ⟨xs, n, _, rfl, hl, hx, hg⟩ := DataW.trod_struct ht ho
  obtain ⟨x, hk, hw⟩ := h n cs xs (by rw [hl, hC]) (by simpa using hx) (fun i u hu => by
    rw [List.getElem?_map] at hu
    obtain ⟨q, hq, rfl⟩ := Option.map_eq_some_iff.1 hu
    have hq' : fs[i]? = some q := by simpa using hq
    rw [← hoff i q hq']
    exact hg i q hq') (fun i u z hu hz => by
      refine small_each (ts := fs.toList.map (·.type)) (ds := xs.map (·.1)) hu (by rw [List.getElem?_map, hz]; rfl) ?_
      intro n hn
      exact hs n (by simp only [DataW.weights, ht]; exact hn))
  exact ⟨g x, by show d.K W (f (g x)) cs; rw [hfg]; exact hk, by show WF (f (g x)); rw [hfg]; exact hw⟩
theorem offs_replicate (e : TypeId) : ∀ n i, i < n → offs P (List.replicate n e) i = i * P.cellsOf e
  | 0, _, h => by omega
  | n + 1, 0, _ => by simp [List.replicate_succ, offs]
  | n + 1, i + 1, h => by
    simp only [List.replicate_succ, offs]
    rw [offs_replicate e n i (by omega), Nat.add_mul]; omega
theorem opens_array {t e : TypeId} {m : Nat} {d : Kd α} {WF : α → Prop} (f : β → α) (g : α → β) (hfg : ∀ x, f (g x) = x) (ht : P.underlying t = some (.array m e))
    (hC : P.cellsOf t = total P (List.replicate m e)) (h : FOpens enc P W (List.replicate m e) d WF) :
    Opens enc P W t (Kd.iso d f) (fun x => WF (f x)) := by
  intro fuel cs y ho hs
  obtain ⟨xs, n, _, rfl, hl, hx, hg⟩ := DataW.trod_array ht ho
  obtain ⟨x, hk, hw⟩ := h n cs xs (by rw [hl, hC]) (by simpa using hx) (fun i u hu => by
    have hi : i < m := by
      have := (List.getElem?_eq_some_iff.1 hu).1
      simpa using this
    rw [List.getElem?_replicate, if_pos hi] at hu
    obtain rfl := Option.some.inj hu
    rw [offs_replicate e m i hi]
    exact hg i hi) (fun i u z hu hz => by
      have hi : i < m := by
        have := (List.getElem?_eq_some_iff.1 hu).1
        simpa using this
      rw [List.getElem?_replicate, if_pos hi] at hu
      obtain rfl := Option.some.inj hu
      intro n hn
      refine hs n ?_
      simp only [DataW.weights, ht]
      exact small_all (List.mem_map.2 ⟨z, List.mem_of_getElem? hz, rfl⟩) n hn)
  exact ⟨g x, by show d.K W (f (g x)) cs; rw [hfg]; exact hk, by show WF (f (g x)); rw [hfg]; exact hw⟩
theorem okWide_array {r : Reach} {base n : Nat} {t e : TypeId} {v : Value} (ht : P.underlying t = some (.array n e)) (h : Value.okWide P W r base t v) : ∃ cs, v = .agg cs ∧ cs.size = P.cellsOf t := by
  simp only [Value.okWide, ht] at h
  obtain ⟨cs, h1, h2, _⟩ := h
  exact ⟨cs, h1, h2⟩
theorem opened {ts : List TypeId} {ds : List (DataW H)} {j : Nat} {t : TypeId} {v : Value} {y : DataW H} {ps : List MemPlace} {d : Kd α} {WF : α → Prop} (ho : Opens enc P W t d WF)
    (hsz : (DataW.weightsEach P ts ds).all (· ≤ reachBytes) = true) (ht : ts[j]? = some t) (hd : ds[j]? = some y) (h : DataW.Trod enc P W 0 (fun _ => true) true t v y ps) : ∃ x, d.K W x v.cells.toList ∧ WF x := by
  obtain ⟨fuel, hf⟩ := h
  refine ho fuel _ _ hf (small_each ht hd fun n hn => ?_)
  have := List.all_eq_true.1 hsz n hn
  have h2 := of_decide_eq_true this
  exact h2
theorem agg_of {cs : Array Value} {l : List Value} (h : cs.toList = l) : cs = l.toArray := by
  apply Array.ext'
  rw [h]
end
end Go.Proofs.YtgagdhgjdgaeaaaM

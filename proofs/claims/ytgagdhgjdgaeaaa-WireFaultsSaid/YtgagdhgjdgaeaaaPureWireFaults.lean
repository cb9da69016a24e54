/- Layer 28's law WireFaults of the given program: a frame on a silent line is one segment, and Fine; what is wrong of it once a byte is spoilt, or delayed, or a bit is turned. -/
import Derived.Test.YtgagdhgjdgaeaaaPWireFaultsx
import Derived.IntWalk
set_option linter.unusedVariables false
set_option linter.unusedSimpArgs false
namespace Go.Proofs.Ytgagdhgjdgaeaaa.Pure
open Go.RowKit Go.Proofs.Ytgagdhgjdgaeaaa.PWireFaults Go.Proofs.YtgagdhgjdgaeaaaW.PrintWords Go.Proofs.YtgagdhgjdgaeaaaW.PrintLast Go.Proofs.YtgagdhgjdgaeaaaW.PrintMore Go.Proofs.YtgagdhgjdgaeaaaM

theorem pl_w64 {i : Int} (h : -9223372036854775808 ≤ i ∧ i ≤ 9223372036854775807) : wrap64 i = i := by unfold wrap64; omega
theorem pl_bind {α β : Type} {x : Option α} {f : α → Option β} {a : α} {r : β} (h : x = some a) (k : f a = some r) : x.bind f = some r := by rw [h]; exact k
theorem pl_rd_nat (l : List Int) (i : Nat) : rd l (i : Int) = l.getD i 0 := by simp [rd]
theorem pl_rd_eq (l : List Int) (i : Int) (n : Nat) (h : i = n) : rd l i = l.getD n 0 := by subst h; exact pl_rd_nat l n

theorem pl_rd54 (l : List S52) (i : Nat) (h : i < l.length) : rd_T52 l (i : Int) = l[i] := by
  unfold rd_T52
  rw [Int.toNat_natCast, List.getD_eq_getElem?_getD, List.getElem?_eq_getElem h]; rfl

def pl_cl (a : Int) : Int := if a < 0 then 0 else if a > 1099511627776 then 1099511627776 else a
theorem pl_cl_bd (a : Int) : 0 ≤ pl_cl a ∧ pl_cl a ≤ 1099511627776 := by unfold pl_cl; repeat' split <;> omega
theorem pl_cl_min {a : Int} (h : 0 ≤ a) : pl_cl a = min a 1099511627776 := by unfold pl_cl; repeat' split <;> omega
theorem pl_clamp (a : Int) : clock_Clamp.f a = some (pl_cl a) := rfl

theorem pl_clockadd (a b : Int) : clock_Add.f a b = some (pl_cl (pl_cl a + pl_cl b)) := by
  have h1 := pl_cl_bd a
  have h2 := pl_cl_bd b
  unfold clock_Add.f
  rw [pl_clamp, pl_clamp, Option.bind_some, Option.bind_some, pl_w64 (by omega), pl_clamp]; rfl

def pl_ok (c s l t : Int) : Prop := 1 ≤ c ∧ c ≤ s ∧ s < l ∧ l ≤ 16777216 ∧ 0 ≤ t ∧ t ≤ 16777216
instance (c s l t : Int) : Decidable (pl_ok c s l t) := by unfold pl_ok; infer_instance
theorem pl_clockright (c s l t : Int) : clock_Right.f c s l t = some (decide (pl_ok c s l t)) := by
  unfold clock_Right.f
  by_cases h1 : 1 ≤ c
  · rw [if_pos h1]
    by_cases h2 : c ≤ s
    · rw [if_pos h2]
      by_cases h3 : s < l
      · rw [if_pos h3]
        by_cases h4 : l ≤ 16777216
        · rw [if_pos h4]
          by_cases h5 : 0 ≤ t
          · rw [if_pos h5]; simp [pl_ok, h1, h2, h3, h4, h5]
          · rw [if_neg h5]; simp [pl_ok, h5]
        · rw [if_neg h4]; simp [pl_ok, h4]
      · rw [if_neg h3]; simp [pl_ok, h3]
    · rw [if_neg h2]; simp [pl_ok, h2]
  · rw [if_neg h1]; simp [pl_ok, h1]

def pl_of (c : Int) : List Int → Int → List S52
  | [], _ => []
  | b :: r, at_ => ⟨pl_cl (pl_cl at_ + pl_cl c), b, false⟩ :: pl_of c r (pl_cl (pl_cl at_ + pl_cl c))
theorem pl_of_len (c : Int) : ∀ (l : List Int) (a : Int), (pl_of c l a).length = l.length
  | [], _ => rfl
  | b :: r, a => by rw [pl_of, List.length_cons, List.length_cons, pl_of_len c r]
theorem pl_of_prog (c s l t : Int) (fr : List Int) (hn : fr.length < 1000000) : ∀ (d k i : Nat) (a : Int) (xs : List S52), i + d = fr.length → d < k → xs.length = fr.length →
    wire_Of.l0 k a xs fr (fr.length : Int) i c s l t = some (xs.take i ++ pl_of c (fr.drop i) a) := by
  intro d
  induction d with
  | zero =>
    intro k i a xs hi hk ha
    obtain ⟨k, rfl⟩ : ∃ m, k = m + 1 := ⟨k - 1, by omega⟩
    simp only [wire_Of.l0]
    rw [if_neg (by omega), List.drop_of_length_le (by omega), pl_of, List.append_nil, List.take_of_length_le (by omega)]
  | succ d ih =>
    intro k i a xs hi hk ha
    obtain ⟨k, rfl⟩ : ∃ m, k = m + 1 := ⟨k - 1, by omega⟩
    simp only [wire_Of.l0]
    rw [if_pos (by omega), if_pos (by omega), if_pos (by omega)]
    refine pl_bind (pl_clockadd a c) ?_
    rw [if_pos (by omega), pl_w64 (by omega), Int.toNat_natCast]
    have h := ih k (i + 1) (pl_cl (pl_cl a + pl_cl c)) (xs.set i ⟨pl_cl (pl_cl a + pl_cl c), rd fr i, false⟩) (by omega) (by omega) (by rw [List.length_set, ha])
    rw [show ((i : Int) + 1) = ((i + 1 : Nat) : Int) by omega, h]
    rw [List.drop_eq_getElem_cons (by omega : i < fr.length), pl_of, pl_rd_nat, List.getD_eq_getElem?_getD, List.getElem?_eq_getElem (by omega : i < fr.length)]
    rw [List.take_succ_eq_append_getElem (by rw [List.length_set]; omega), List.take_set_of_le (by omega), List.getElem_set_self, List.append_assoc]; rfl

/-- The program's Of of wire, by any times. -/
theorem pl_wireoft (a c s l t : Int) (fr : List Int) (hn : fr.length < 1000000) (hok : pl_ok c s l t) (ha : 0 ≤ a ∧ a ≤ 1099511627776) (k : Nat) (hk : fr.length + 2 ≤ k) :
    wire_Of.f k fr a c s l t = some (pl_of c fr a) := by
  obtain ⟨k, rfl⟩ : ∃ m, k = m + 1 := ⟨k - 1, by omega⟩
  unfold wire_Of.f
  refine pl_bind (pl_clockright c s l t) ?_
  rw [if_pos (decide_eq_true hok)]
  refine pl_bind (pl_clamp a) ?_
  rw [show (pl_cl a != a) = false by rw [bne_eq_false_iff_eq]; unfold pl_cl; repeat' split <;> omega]
  simp only [wire_Of.j0]
  rw [if_neg (by simp), if_pos (by omega), if_pos (by omega), Int.toNat_natCast]
  have h := pl_of_prog c s l t fr hn fr.length k 0 a (List.replicate fr.length z52) (by omega) (by omega) List.length_replicate
  rw [List.take_zero, List.nil_append, List.drop_zero] at h
  exact h
theorem pl_cl_id (x : Int) (h : 0 ≤ x ∧ x ≤ 1099511627776) : pl_cl x = x := by unfold pl_cl; repeat' split <;> omega
theorem pl_of_at (c : Int) (hc : 0 ≤ c ∧ c ≤ 16777216) : ∀ (fr : List Int) (a : Int) (i : Nat), i < fr.length → 0 ≤ a → a + fr.length * 16777216 ≤ 1099511627776 →
    (pl_of c fr a).getD i z52 = ⟨a + ((i : Int) + 1) * c, fr.getD i 0, false⟩
  | [], a, i, hi, h0, h1 => by simp at hi
  | b :: r, a, i, hi, h0, h1 => by
    rw [List.length_cons] at h1 hi
    have e : pl_cl (pl_cl a + pl_cl c) = a + c := by rw [pl_cl_id a (by omega), pl_cl_id c (by omega), pl_cl_id _ (by omega)]
    rw [pl_of, e]
    cases i with
    | zero =>
      simp only [List.getD_cons_zero]
      congr 1
      simp
    | succ i =>
      simp only [List.getD_cons_succ]
      rw [pl_of_at c hc r (a + c) i (by omega) (by omega) (by omega)]
      congr 1
      rw [show ((i + 1 : Nat) : Int) + 1 = ((i : Int) + 1) + 1 by omega, Int.add_mul ((i : Int) + 1) 1 c, Int.one_mul]
      omega
theorem pl_of_bytes (c : Int) : ∀ (fr : List Int) (a : Int), (pl_of c fr a).map (fun b => b.f1) = fr
  | [], a => rfl
  | b :: r, a => by rw [pl_of, List.map_cons, pl_of_bytes c r]

def pl_at (l : List S52) (i : Nat) : S52 := l.getD i z52
theorem pl_at_rd (l : List S52) (i : Nat) : rd_T52 l (i : Int) = pl_at l i := by
  unfold rd_T52 pl_at
  rw [Int.toNat_natCast]
theorem pl_at_get (l : List S52) (i : Nat) (h : i < l.length) : pl_at l i = l[i] := by
  unfold pl_at
  rw [List.getD_eq_getElem?_getD, List.getElem?_eq_getElem h]; rfl
def pl_gapAt (l : List S52) (p : Nat) (sh : Int) (g : Bool) : Nat → Bool
  | 0 => g
  | k + 1 => pl_gapAt l p sh g k || (decide (0 < k) && decide (sh < (pl_at l (p + k)).f0 - (pl_at l (p + k - 1)).f0))
def pl_badAt (l : List S52) (p : Nat) : Nat → Bool
  | 0 => false
  | k + 1 => pl_badAt l p k || (pl_at l (p + k)).f2
/-- The segment of `c` bytes from `p` on. -/
def pl_seg (l : List S52) (p : Nat) (sh : Int) (g : Bool) (c : Nat) : S37 :=
  ⟨((l.drop p).take (min c 256)).map (fun b => b.f1), (pl_at l p).f0, (pl_at l (p + c - 1)).f0, c, pl_gapAt l p sh g c, pl_badAt l p c⟩
/-- The segments from a byte on that opens one. -/
def pl_tail (sh lo : Int) : List S52 → List S37
  | [] => []
  | b :: r => spRest sh lo false b.f0 (spAdd z37 b) r
theorem pl_seg_one (l : List S52) (p : Nat) (sh : Int) (g : Bool) (h : p < l.length) : spAdd { z37 with f4 := g } (pl_at l p) = pl_seg l p sh g 1 := by
  have e : ((l.drop p).take (min 1 256)).map (fun b => b.f1) = [(pl_at l p).f1] := by
    rw [pl_at_get l p h, List.drop_eq_getElem_cons h]; rfl
  unfold pl_seg
  rw [e]
  simp [spAdd, z37, pl_gapAt, pl_badAt]
theorem pl_seg_add (l : List S52) (p c : Nat) (sh : Int) (g : Bool) (h : p + c < l.length) (hc : 1 ≤ c) :
    spAdd { pl_seg l p sh g c with f4 := (pl_seg l p sh g c).f4 || decide (sh < (pl_at l (p + c)).f0 - (pl_at l (p + c - 1)).f0) } (pl_at l (p + c)) = pl_seg l p sh g (c + 1) := by
  have hlen : (((l.drop p).take (min c 256)).map (fun b => b.f1)).length = min c 256 := by
    rw [List.length_map, List.length_take, List.length_drop]; omega
  have e : (if (((l.drop p).take (min c 256)).map (fun b => b.f1)).length < 256 then ((l.drop p).take (min c 256)).map (fun b => b.f1) ++ [(pl_at l (p + c)).f1] else ((l.drop p).take (min c 256)).map (fun b => b.f1)) = ((l.drop p).take (min (c + 1) 256)).map (fun b => b.f1) := by
    rw [hlen]
    by_cases h2 : c < 256
    · rw [if_pos (by omega), Nat.min_eq_left (by omega), Nat.min_eq_left (by omega), List.take_succ_eq_append_getElem (by rw [List.length_drop]; omega), List.map_append, pl_at_get l _ h]
      simp
    · rw [if_neg (by omega), Nat.min_eq_right (by omega), Nat.min_eq_right (by omega)]
  have hc0 : ¬ ((c : Nat) : Int) = 0 := by omega
  simp only [spAdd, pl_seg, S37.mk.injEq]
  refine ⟨e, if_neg hc0, rfl, rfl, ?_, rfl⟩
  simp only [pl_gapAt, show decide (0 < c) = true by simp; omega, Bool.true_and]
theorem pl_seg_run (l : List S52) (p : Nat) (sh lo : Int) (g : Bool) : ∀ (d c : Nat), p + c + d = l.length → 1 ≤ c →
    ∃ c', c ≤ c' ∧ p + c' ≤ l.length ∧ spRest sh lo false (pl_at l (p + c - 1)).f0 (pl_seg l p sh g c) (l.drop (p + c)) = pl_seg l p sh g c' :: pl_tail sh lo (l.drop (p + c'))
      ∧ (∀ k, c ≤ k → k < c' → (pl_at l (p + k)).f0 - (pl_at l (p + k - 1)).f0 < lo) ∧ (p + c' < l.length → lo ≤ (pl_at l (p + c')).f0 - (pl_at l (p + c' - 1)).f0) := by
  intro d
  induction d with
  | zero =>
    intro c hd hc
    refine ⟨c, Nat.le_refl _, by omega, ?_, fun k h1 h2 => by omega, fun h => by omega⟩
    rw [List.drop_eq_nil_of_le (by omega)]
    have hc0 : (0 : Int) < (pl_seg l p sh g c).f3 := by show (0 : Int) < (c : Int); omega
    simp only [spRest, pl_tail]
    rw [if_pos hc0]
  | succ d ih =>
    intro c hd hc
    have hlt : p + c < l.length := by omega
    by_cases hs : lo ≤ (pl_at l (p + c)).f0 - (pl_at l (p + c - 1)).f0
    · refine ⟨c, Nat.le_refl _, by omega, ?_, fun k h1 h2 => by omega, fun _ => hs⟩
      have hdr : l.drop (p + c) = pl_at l (p + c) :: l.drop (p + c + 1) := by
        rw [List.drop_eq_getElem_cons hlt, pl_at_get l _ hlt]
      rw [hdr]
      simp only [spRest, pl_tail]
      rw [if_neg (by simp), if_pos hs]
    · obtain ⟨c', h1, h2, h3, h4, h5⟩ := ih (c + 1) (by omega) (by omega)
      refine ⟨c', by omega, h2, ?_, ?_, h5⟩
      · have hdr : l.drop (p + c) = pl_at l (p + c) :: l.drop (p + c + 1) := by
          rw [List.drop_eq_getElem_cons hlt, pl_at_get l _ hlt]
        rw [hdr, spRest, if_neg (by simp), if_neg hs, pl_seg_add l p c sh g hlt hc]
        rw [show p + (c + 1) - 1 = p + c by omega, show p + (c + 1) = p + c + 1 by omega] at h3
        exact h3
      · intro k hk1 hk2
        by_cases hk : k = c
        · subst hk; omega
        · exact h4 k (by omega) hk2
/-- The first of the segments from `p` on. -/
theorem pl_tail_run (l : List S52) (p : Nat) (sh lo : Int) (h : p < l.length) :
    ∃ c, 1 ≤ c ∧ p + c ≤ l.length ∧ pl_tail sh lo (l.drop p) = pl_seg l p sh false c :: pl_tail sh lo (l.drop (p + c))
      ∧ (∀ k, 1 ≤ k → k < c → (pl_at l (p + k)).f0 - (pl_at l (p + k - 1)).f0 < lo) ∧ (p + c < l.length → lo ≤ (pl_at l (p + c)).f0 - (pl_at l (p + c - 1)).f0) := by
  obtain ⟨c, h1, h2, h3, h4, h5⟩ := pl_seg_run l p sh lo false (l.length - (p + 1)) 1 (by omega) (by omega)
  refine ⟨c, h1, h2, ?_, h4, h5⟩
  have hdr : l.drop p = pl_at l p :: l.drop (p + 1) := by
    rw [List.drop_eq_getElem_cons h, pl_at_get l _ h]
  rw [← h3, hdr]
  rw [pl_tail, show p + 1 - 1 = p by omega, ← pl_seg_one l p sh false h]
  rfl
theorem pl_all_run (l : List S52) (fr sh lo : Int) (h : 0 < l.length) :
    ∃ c, 1 ≤ c ∧ c ≤ l.length ∧ spRest sh lo true fr z37 l = pl_seg l 0 sh (decide ((pl_at l 0).f0 - fr < lo)) c :: pl_tail sh lo (l.drop c)
      ∧ (∀ k, 1 ≤ k → k < c → (pl_at l k).f0 - (pl_at l (k - 1)).f0 < lo) ∧ (c < l.length → lo ≤ (pl_at l c).f0 - (pl_at l (c - 1)).f0) := by
  obtain ⟨c, h1, h2, h3, h4, h5⟩ := pl_seg_run l 0 sh lo (decide ((pl_at l 0).f0 - fr < lo)) (l.length - 1) 1 (by omega) (by omega)
  simp only [Nat.zero_add] at h2 h3 h4 h5
  refine ⟨c, h1, h2, ?_, h4, h5⟩
  have hdr : l = pl_at l 0 :: l.drop 1 := by
    rw [pl_at_get l _ h]
    exact (List.drop_eq_getElem_cons (i := 0) h)
  rw [← h3]
  conv => lhs; rw [hdr]
  rw [spRest, if_pos rfl, ← pl_seg_one l 0 sh _ h]
theorem pl_all_nil (fr sh lo : Int) : spRest sh lo true fr z37 [] = [] := by
  rw [spRest]
  exact if_neg (by decide)

theorem pl_up_drop : ∀ (l : List S52) (fr : Int) (i : Nat), spUp fr l → i < l.length → fr ≤ (pl_at l i).f0 ∧ (pl_at l i).f0 ≤ 1099511627776 ∧ spUp (pl_at l i).f0 (l.drop (i + 1))
  | [], fr, i, h, hi => by simp at hi
  | b :: l, fr, 0, h, hi => ⟨h.1, h.2.1, h.2.2⟩
  | b :: l, fr, i + 1, h, hi => by
    have h1 := pl_up_drop l b.f0 i h.2.2 (by simpa using hi)
    have e : pl_at (b :: l) (i + 1) = pl_at l i := by simp [pl_at]
    rw [e]
    exact ⟨by have := h.1; omega, h1.2.1, h1.2.2⟩
theorem pl_up_bd (l : List S52) (fr : Int) (h : spUp fr l) (h0 : 0 ≤ fr) (i : Nat) (hi : i < l.length) : 0 ≤ (pl_at l i).f0 ∧ (pl_at l i).f0 ≤ 1099511627776 := by
  have := pl_up_drop l fr i h hi
  omega
theorem pl_up_step (l : List S52) (fr : Int) (h : spUp fr l) (i : Nat) (hi : i + 1 < l.length) : (pl_at l i).f0 ≤ (pl_at l (i + 1)).f0 := by
  have h1 := (pl_up_drop l fr i h (by omega)).2.2
  have h2 := (pl_up_drop (l.drop (i + 1)) _ 0 h1 (by rw [List.length_drop]; omega)).1
  have e : pl_at (l.drop (i + 1)) 0 = pl_at l (i + 1) := by simp [pl_at]
  rw [e] at h2
  exact h2

/-- May bytes come so: told by the loop of the program. -/
def pl_rightL : Int → List S52 → Bool
  | _, [] => true
  | fr, b :: l => decide (fr ≤ b.f0) && (decide (b.f0 ≤ 1099511627776) && pl_rightL b.f0 l)
theorem pl_rightL_up : ∀ (l : List S52) (fr : Int), pl_rightL fr l = true → spUp fr l
  | [], fr, h => trivial
  | b :: l, fr, h => by
    simp only [pl_rightL, Bool.and_eq_true, decide_eq_true_eq] at h
    exact ⟨h.1, h.2.1, pl_rightL_up l _ h.2.2⟩
theorem pl_right_l (l : List S52) (hl : l.length < 1000000) : ∀ (d k i : Nat) (fr : Int), i + d = l.length → d < k → split_Right.l0 k fr l (l.length : Int) (i : Int) = some (pl_rightL fr (l.drop i)) := by
  intro d
  induction d with
  | zero =>
    intro k i fr hi hk
    obtain ⟨k, rfl⟩ : ∃ m, k = m + 1 := ⟨k - 1, by omega⟩
    simp only [split_Right.l0]
    rw [if_neg (by omega), List.drop_eq_nil_of_le (by omega)]
    rfl
  | succ d ih =>
    intro k i fr hi hk
    obtain ⟨k, rfl⟩ : ∃ m, k = m + 1 := ⟨k - 1, by omega⟩
    have hlt : i < l.length := by omega
    simp only [split_Right.l0]
    rw [if_pos (by omega), if_pos (by omega), if_pos (by omega), pl_at_rd, pl_w64 (by omega), List.drop_eq_getElem_cons hlt, ← pl_at_get l i hlt]
    by_cases h1 : (pl_at l i).f0 < fr
    · rw [if_pos h1]
      refine congrArg some ?_
      simp only [pl_rightL]
      rw [decide_eq_false (by omega), Bool.false_and]
    rw [if_neg h1]
    by_cases h2 : (pl_at l i).f0 > 1099511627776
    · rw [if_pos h2]
      refine congrArg some ?_
      simp only [pl_rightL]
      rw [decide_eq_false (p := (pl_at l i).f0 ≤ 1099511627776) (by omega), Bool.false_and, Bool.and_false]
    rw [if_neg h2]
    refine (ih k (i + 1) (pl_at l i).f0 (by omega) (by omega)).trans (congrArg some ?_)
    simp only [pl_rightL]
    rw [decide_eq_true (by omega), decide_eq_true (by omega), Bool.true_and, Bool.true_and]
/-- The program's Right of split. -/
theorem pl_right (l : List S52) (hl : l.length < 1000000) (fr : Int) (k : Nat) (hk : l.length < k) : split_Right.f k l fr = some (decide (0 ≤ fr ∧ fr ≤ 1099511627776) && pl_rightL fr l) := by
  unfold split_Right.f clock_Clamp.f
  refine pl_bind rfl ?_
  by_cases h : 0 ≤ fr ∧ fr ≤ 1099511627776
  · rw [if_neg (show ¬ fr < 0 by omega), if_neg (show ¬ fr > 1099511627776 by omega), if_pos rfl, decide_eq_true h, Bool.true_and]
    exact pl_right_l l hl l.length k 0 fr (by omega) hk
  · rw [decide_eq_false h, Bool.false_and]
    by_cases h1 : fr < 0
    · rw [if_pos h1, if_neg (show ¬ (0 : Int) = fr by omega)]
    · rw [if_neg h1, if_pos (show fr > 1099511627776 by omega), if_neg (show ¬ (1099511627776 : Int) = fr by omega)]
theorem pl_allof (l : List S52) (hl : l.length < 1000000) (a b c d fr : Int) (h : pl_ok a b c d) (hf : 0 ≤ fr ∧ fr ≤ 1099511627776) (hr : pl_rightL fr l = true) :
    split_All.f l a b c d fr = some (spRest b c true fr z37 l) := by
  unfold split_All.f
  rw [if_pos (by omega)]
  refine pl_bind (pl_clockright a b c d) ?_
  rw [if_pos (decide_eq_true h)]
  refine pl_bind (pl_right l hl fr _ (by omega)) ?_
  rw [decide_eq_true hf, hr, Bool.true_and, if_pos rfl]

theorem pl_rightL_of : ∀ (l : List S52) (fr : Int), (∀ i, i < l.length → (pl_at l i).f0 ≤ 1099511627776) → (0 < l.length → fr ≤ (pl_at l 0).f0) → (∀ i, i + 1 < l.length → (pl_at l i).f0 ≤ (pl_at l (i + 1)).f0) → pl_rightL fr l = true
  | [], fr, h1, h2, h3 => rfl
  | b :: l, fr, h1, h2, h3 => by
    have hb := h1 0 (by simp)
    have hf := h2 (by simp)
    have e0 : pl_at (b :: l) 0 = b := rfl
    have es : ∀ i, pl_at (b :: l) (i + 1) = pl_at l i := fun i => by simp [pl_at]
    rw [e0] at hb hf
    simp only [pl_rightL]
    rw [decide_eq_true hf, decide_eq_true hb, Bool.true_and, Bool.true_and]
    refine pl_rightL_of l b.f0 (fun i hi => ?_) (fun hi => ?_) (fun i hi => ?_)
    · have := h1 (i + 1) (by simp; omega); rw [es] at this; exact this
    · have := h3 0 (by simp; omega); rw [e0, es] at this; exact this
    · have := h3 (i + 1) (by simp; omega); rw [es, es] at this; exact this
theorem pl_gapAt_no (l : List S52) (p : Nat) (sh : Int) (g : Bool) : ∀ c, (∀ k, 0 < k → k < c → (pl_at l (p + k)).f0 - (pl_at l (p + k - 1)).f0 ≤ sh) → pl_gapAt l p sh g c = g
  | 0, h => rfl
  | c + 1, h => by
    rw [pl_gapAt, pl_gapAt_no l p sh g c (fun k h1 h2 => h k h1 (by omega))]
    by_cases hc : 0 < c
    · rw [decide_eq_false (show ¬ sh < (pl_at l (p + c)).f0 - (pl_at l (p + c - 1)).f0 from Int.not_lt.2 (h c hc (Nat.lt_succ_self c))), Bool.and_false, Bool.or_false]
    · rw [decide_eq_false hc, Bool.false_and, Bool.or_false]
/-- The gap is told if there is one silence, at `n`. -/
theorem pl_gapAt_one (l : List S52) (p : Nat) (sh : Int) (g : Bool) (n : Nat) (hn : 0 < n) : ∀ c, n < c → (∀ k, 0 < k → k < c → k ≠ n → (pl_at l (p + k)).f0 - (pl_at l (p + k - 1)).f0 ≤ sh) →
    pl_gapAt l p sh g c = (g || decide (sh < (pl_at l (p + n)).f0 - (pl_at l (p + n - 1)).f0))
  | 0, h, _ => by omega
  | c + 1, h, hg => by
    rw [pl_gapAt]
    by_cases hc : n = c
    · subst hc
      rw [pl_gapAt_no l p sh g n (fun k h1 h2 => hg k h1 (by omega) (by omega)), decide_eq_true hn, Bool.true_and]
    · rw [pl_gapAt_one l p sh g n hn c (by omega) (fun k h1 h2 h3 => hg k h1 (by omega) h3), decide_eq_false (show ¬ sh < (pl_at l (p + c)).f0 - (pl_at l (p + c - 1)).f0 from Int.not_lt.2 (hg c (by omega) (Nat.lt_succ_self c) (fun e => hc e.symm))), Bool.and_false, Bool.or_false]
theorem pl_badAt_no (l : List S52) (p : Nat) : ∀ c, (∀ k, k < c → (pl_at l (p + k)).f2 = false) → pl_badAt l p c = false
  | 0, h => rfl
  | c + 1, h => by rw [pl_badAt, pl_badAt_no l p c (fun k hk => h k (by omega)), h c (Nat.lt_succ_self c)]; rfl
theorem pl_badAt_yes (l : List S52) (p n : Nat) (hn : (pl_at l (p + n)).f2 = true) : ∀ c, n < c → pl_badAt l p c = true
  | 0, h => by omega
  | c + 1, h => by
    rw [pl_badAt]
    by_cases hc : n = c
    · subst hc; rw [hn, Bool.or_true]
    · rw [pl_badAt_yes l p n hn c (by omega), Bool.true_or]
theorem pl_seg_bytes (l : List S52) (sh : Int) (g : Bool) (h : l.length ≤ 256) : (pl_seg l 0 sh g l.length).f0 = l.map (fun b => b.f1) := by
  show (((l.drop 0).take (min l.length 256)).map (fun b => b.f1)) = _
  rw [List.drop_zero, Nat.min_eq_left h, List.take_length]
/-- Bytes without a silence of `lo` are one segment. -/
theorem pl_one_seg (l : List S52) (fr sh lo : Int) (h : 0 < l.length) (hg : ∀ k, 1 ≤ k → k < l.length → (pl_at l k).f0 - (pl_at l (k - 1)).f0 < lo) :
    spRest sh lo true fr z37 l = [pl_seg l 0 sh (decide ((pl_at l 0).f0 - fr < lo)) l.length] := by
  obtain ⟨c, c1, c2, c3, c4, c5⟩ := pl_all_run l fr sh lo h
  have hc : c = l.length := by
    rcases Nat.lt_or_ge c l.length with hlt | hge
    · exact absurd (hg c c1 hlt) (Int.not_lt.2 (c5 hlt))
    · omega
  subst hc
  rw [c3, List.drop_eq_nil_of_le (Nat.le_refl _)]
  rfl
/-- Bytes with one silence of `lo`, at `n`, are two. -/
theorem pl_two_seg (l : List S52) (fr sh lo : Int) (n : Nat) (hn : 1 ≤ n) (hn2 : n < l.length) (hl : lo ≤ (pl_at l n).f0 - (pl_at l (n - 1)).f0) (hg : ∀ k, 1 ≤ k → k < l.length → k ≠ n → (pl_at l k).f0 - (pl_at l (k - 1)).f0 < lo) :
    spRest sh lo true fr z37 l = [pl_seg l 0 sh (decide ((pl_at l 0).f0 - fr < lo)) n, pl_seg l n sh false (l.length - n)] := by
  obtain ⟨c, c1, c2, c3, c4, c5⟩ := pl_all_run l fr sh lo (by omega)
  have hc : c = n := by
    rcases Nat.lt_trichotomy c n with h1 | h1 | h1
    · exact absurd (hg c c1 (by omega) (by omega)) (Int.not_lt.2 (c5 (by omega)))
    · exact h1
    · exact absurd (c4 n hn h1) (Int.not_lt.2 hl)
  subst hc
  obtain ⟨d, d1, d2, d3, d4, d5⟩ := pl_tail_run l c sh lo hn2
  have hd : d = l.length - c := by
    rcases Nat.lt_or_ge (c + d) l.length with hlt | hge
    · exact absurd (hg (c + d) (by omega) hlt (by omega)) (Int.not_lt.2 (d5 hlt))
    · omega
  subst hd
  rw [c3, d3, List.drop_eq_nil_of_le (by omega)]
  rfl

/-- Bytes whose steps are all the same but one. -/
structure pl_Lay (m : List S52) (B : Nat) (c e : Int) (l : Int) (n : Nat) : Prop where
  len : m.length = B
  mx : ∀ i, i < B → (pl_at m i).f0 ≤ 1099511627776
  zero : l ≤ (pl_at m 0).f0
  step : ∀ k, 1 ≤ k → k < B → (pl_at m k).f0 - (pl_at m (k - 1)).f0 = if k = n then e else c
theorem pl_Lay.right {m : List S52} {B : Nat} {c e l : Int} {n : Nat} (h : pl_Lay m B c e l n) (hc : 0 ≤ c) (he : 0 ≤ e) (hl : 0 ≤ l) : pl_rightL 0 m = true := by
  refine pl_rightL_of m 0 (fun i hi => h.mx i (by rw [h.len] at hi; exact hi)) (fun _ => Int.le_trans hl h.zero) (fun i hi => ?_)
  have := h.step (i + 1) (by omega) (by rw [h.len] at hi; exact hi)
  rw [show i + 1 - 1 = i by omega] at this
  split at this <;> omega
theorem pl_Lay.one {m : List S52} {B : Nat} {c e l : Int} {n : Nat} (h : pl_Lay m B c e l n) {s t : Int} (hok : pl_ok c s l t) (he : 0 ≤ e) (hB : 1 ≤ B) (hB2 : B ≤ 300) (hn : n = 0 ∨ B ≤ n ∨ e < l) :
    split_All.f m c s l t 0 = some [pl_seg m 0 s false B] ∧ pl_gapAt m 0 s false B = decide (n ≠ 0 ∧ n < B ∧ s < e) := by
  have hok' := hok
  unfold pl_ok at hok'
  have hlen := h.len
  constructor
  · rw [pl_allof m (by omega) c s l t 0 hok (by omega) (h.right (by omega) he (by omega)), pl_one_seg m 0 s l (by omega) (fun k k1 k2 => by rw [h.step k k1 (by omega)]; split <;> omega), decide_eq_false (by have := h.zero; omega), hlen]
  · by_cases hz : n = 0 ∨ B ≤ n
    · rw [pl_gapAt_no m 0 s false B (fun k k1 k2 => by rw [Nat.zero_add, h.step k (by omega) k2, if_neg (by omega)]; omega), decide_eq_false (by omega)]
    · rw [pl_gapAt_one m 0 s false n (by omega) B (by omega) (fun k k1 k2 k3 => by rw [Nat.zero_add, h.step k (by omega) k2, if_neg k3]; omega), Nat.zero_add, h.step n (by omega) (by omega), if_pos rfl, Bool.false_or]
      exact decide_eq_decide.2 ⟨fun hh => ⟨by omega, by omega, hh⟩, fun hh => hh.2.2⟩
theorem pl_Lay.two {m : List S52} {B : Nat} {c e l : Int} {n : Nat} (h : pl_Lay m B c e l n) {s t : Int} (hok : pl_ok c s l t) (hB2 : B ≤ 300) (hn : 1 ≤ n) (hn2 : n < B) (he : l ≤ e) :
    split_All.f m c s l t 0 = some [pl_seg m 0 s false n, pl_seg m n s false (B - n)] ∧ pl_gapAt m n s false (B - n) = false := by
  have hok' := hok
  unfold pl_ok at hok'
  have hlen := h.len
  constructor
  · rw [pl_allof m (by omega) c s l t 0 hok (by omega) (h.right (by omega) (by omega) (by omega)), pl_two_seg m 0 s l n hn (by omega) (by rw [h.step n hn hn2, if_pos rfl]; exact he) (fun k k1 k2 k3 => by rw [h.step k k1 (by omega), if_neg k3]; omega), decide_eq_false (by have := h.zero; omega), hlen]
  · exact pl_gapAt_no m n s false (B - n) (fun k k1 k2 => by rw [h.step (n + k) (by omega) (by omega), if_neg (by omega)]; omega)

theorem pl_at_erase (l : List S52) (n i : Nat) : pl_at (l.eraseIdx n) i = if i < n then pl_at l i else pl_at l (i + 1) := by
  unfold pl_at
  rw [List.getD_eq_getElem?_getD, List.getElem?_eraseIdx]
  split <;> rw [List.getD_eq_getElem?_getD]
theorem pl_of_pl (c : Int) (hc : 0 ≤ c ∧ c ≤ 16777216) (fr : List Int) (a : Int) (i : Nat) (hi : i < fr.length) (h0 : 0 ≤ a) (h1 : a + fr.length * 16777216 ≤ 1099511627776) :
    pl_at (pl_of c fr a) i = ⟨a + ((i : Int) + 1) * c, fr.getD i 0, false⟩ := pl_of_at c hc fr a i hi h0 h1
theorem pl_mul_bd (i : Nat) (c : Int) (n : Nat) (hi : i ≤ n) (hc : 0 ≤ c ∧ c ≤ 16777216) : 0 ≤ (i : Int) * c ∧ (i : Int) * c ≤ n * 16777216 :=
  ⟨Int.mul_nonneg (Int.natCast_nonneg _) hc.1, Int.le_trans (Int.mul_le_mul_of_nonneg_left hc.2 (Int.natCast_nonneg _)) (Int.mul_le_mul_of_nonneg_right (by omega) (by decide))⟩
/-- The times of a frame on the line, one of whose bytes is lacking. -/
theorem pl_dropped_step (c : Int) (hc : 0 ≤ c ∧ c ≤ 16777216) (fr : List Int) (a : Int) (n k : Nat) (hn : n < fr.length) (hk : 1 ≤ k) (hk2 : k + 1 < fr.length) (h0 : 0 ≤ a) (h1 : a + fr.length * 16777216 ≤ 1099511627776) :
    (pl_at ((pl_of c fr a).eraseIdx n) k).f0 - (pl_at ((pl_of c fr a).eraseIdx n) (k - 1)).f0 = if k = n then 2 * c else c := by
  rw [pl_at_erase, pl_at_erase]
  have e : ∀ i : Nat, i < fr.length → (pl_at (pl_of c fr a) i).f0 = a + ((i : Int) + 1) * c := fun i hi => by rw [pl_of_pl c hc fr a i hi h0 h1]
  have m : ∀ i : Nat, ((i : Int) + 1) * c = (i : Int) * c + c := fun i => by rw [Int.add_mul, Int.one_mul]
  rcases Nat.lt_trichotomy k n with h | h | h
  · rw [if_pos h, if_pos (by omega), if_neg (by omega), e k (by omega), e (k - 1) (by omega), m, m]
    have : (k : Int) * c = ((k - 1 : Nat) : Int) * c + c := by rw [← m, show ((k - 1 : Nat) : Int) + 1 = (k : Int) by omega]
    omega
  · subst h
    rw [if_neg (by omega), if_pos (by omega), if_pos rfl, e (k + 1) (by omega), e (k - 1) (by omega), m, m]
    have q1 : ((k + 1 : Nat) : Int) * c = (k : Int) * c + c := by rw [← m]; rfl
    have q2 : (k : Int) * c = ((k - 1 : Nat) : Int) * c + c := by rw [← m, show ((k - 1 : Nat) : Int) + 1 = (k : Int) by omega]
    omega
  · rw [if_neg (by omega), if_neg (by omega), if_neg (by omega), e (k + 1) (by omega), e (k - 1 + 1) (by omega), m, m, show k - 1 + 1 = k by omega]
    have q1 : ((k + 1 : Nat) : Int) * c = (k : Int) * c + c := by rw [← m]; rfl
    omega
theorem pl_dropped (c : Int) (hc : 0 ≤ c ∧ c ≤ 16777216) (fr : List Int) (a : Int) (n : Nat) (hn : n < fr.length) (hf : 1 < fr.length) (h0 : 0 ≤ a) (h1 : a + fr.length * 16777216 ≤ 1099511627776) (m : List S52) (hm : m = (pl_of c fr a).eraseIdx n) :
    m.length = fr.length - 1 ∧ (∀ i, i < m.length → (pl_at m i).f0 ≤ 1099511627776 ∧ a ≤ (pl_at m i).f0 ∧ (pl_at m i).f2 = false ∧ (pl_at m i).f1 = fr.getD (if i < n then i else i + 1) 0) ∧ ((pl_at m 0).f0 = if n = 0 then a + 2 * c else a + c) := by
  have hl : m.length = fr.length - 1 := by rw [hm, List.length_eraseIdx, pl_of_len, if_pos hn]
  have e : ∀ i : Nat, i < fr.length → pl_at (pl_of c fr a) i = ⟨a + ((i : Int) + 1) * c, fr.getD i 0, false⟩ := fun i hi => pl_of_pl c hc fr a i hi h0 h1
  refine ⟨hl, ?_, ?_⟩
  · intro i hi
    rw [hl] at hi
    rw [hm, pl_at_erase]
    split
    · rw [e i (by omega)]
      have := pl_mul_bd (i + 1) c fr.length (by omega) hc
      rw [show ((i + 1 : Nat) : Int) = (i : Int) + 1 by omega] at this
      exact ⟨by show a + ((i : Int) + 1) * c ≤ _; omega, by show a ≤ a + ((i : Int) + 1) * c; omega, rfl, rfl⟩
    · rw [e (i + 1) (by omega)]
      have := pl_mul_bd (i + 2) c fr.length (by omega) hc
      rw [show ((i + 2 : Nat) : Int) = ((i + 1 : Nat) : Int) + 1 by omega] at this
      exact ⟨by show a + (((i + 1 : Nat) : Int) + 1) * c ≤ _; omega, by show a ≤ a + (((i + 1 : Nat) : Int) + 1) * c; omega, rfl, rfl⟩
  · rw [hm, pl_at_erase]
    by_cases hz : n = 0
    · rw [if_neg (by omega), if_pos hz, e (0 + 1) (by omega)]
      show a + ((((0 + 1 : Nat)) : Int) + 1) * c = a + 2 * c
      rfl
    · rw [if_pos (by omega), if_neg hz, e 0 (by omega)]
      show a + (((0 : Nat) : Int) + 1) * c = a + c
      rw [show (((0 : Nat) : Int) + 1) = 1 from rfl, Int.one_mul]

theorem pl_of_lay (c s l t : Int) (hok : pl_ok c s l t) (b : List Int) (hb : 1 ≤ b.length) (hb2 : b.length ≤ 300) : pl_Lay (pl_of c b l) b.length c c l 0 := by
  unfold pl_ok at hok
  have e : ∀ i : Nat, i < b.length → (pl_at (pl_of c b l) i).f0 = l + ((i : Int) + 1) * c := fun i hi => by rw [pl_of_pl c (by omega) b l i hi (by omega) (by omega)]
  refine ⟨pl_of_len c b l, fun i hi => ?_, ?_, fun k k1 k2 => ?_⟩
  · rw [e i hi]
    have := pl_mul_bd (i + 1) c b.length (by omega) (by omega)
    rw [show ((i + 1 : Nat) : Int) = (i : Int) + 1 by omega] at this
    omega
  · rw [e 0 (by omega)]
    show l ≤ l + (((0 : Nat) : Int) + 1) * c
    rw [show (((0 : Nat) : Int) + 1) = 1 from rfl, Int.one_mul]
    omega
  · rw [e k k2, e (k - 1) (by omega), if_neg (by omega)]
    have m : ((k : Int) + 1) * c = (k : Int) * c + c := by rw [Int.add_mul, Int.one_mul]
    rw [m, show ((k - 1 : Nat) : Int) + 1 = (k : Int) by omega]
    omega
theorem pl_of_f2 (c s l t : Int) (hok : pl_ok c s l t) (b : List Int) (hb2 : b.length ≤ 300) (i : Nat) (hi : i < b.length) : (pl_at (pl_of c b l) i).f2 = false ∧ (pl_at (pl_of c b l) i).f1 = b.getD i 0 ∧ (pl_at (pl_of c b l) i).f0 = l + ((i : Int) + 1) * c := by
  unfold pl_ok at hok
  rw [pl_of_pl c (by omega) b l i hi (by omega) (by omega)]
  exact ⟨rfl, rfl, rfl⟩
theorem pl_at_with (F : S52 → S52) (l : List S52) (k : Nat) (hk : k < l.length) (i : Nat) : pl_at (withF F l (k : Int)) i = if i = k then F (pl_at l k) else pl_at l i := by
  unfold withF
  rw [if_pos (by omega), Int.toNat_natCast, pl_at_rd]
  unfold pl_at
  rw [List.getD_eq_getElem?_getD, List.getElem?_set]
  by_cases h : i = k
  · rw [if_pos h.symm, if_pos h, if_pos (by omega)]; rfl
  · rw [if_neg (fun e => h e.symm), if_neg h, List.getD_eq_getElem?_getD]
theorem pl_with_len (F : S52 → S52) (l : List S52) (k : Nat) (hk : k < l.length) : (withF F l (k : Int)).length = l.length := by
  unfold withF
  rw [if_pos (by omega), List.length_set]
theorem pl_with_lay (F : S52 → S52) (hF : ∀ x, (F x).f0 = x.f0) {m : List S52} {B : Nat} {c e l : Int} {n : Nat} (h : pl_Lay m B c e l n) (k : Nat) (hk : k < B) : pl_Lay (withF F m (k : Int)) B c e l n := by
  have hk' : k < m.length := by rw [h.len]; exact hk
  have ef : ∀ i, (pl_at (withF F m (k : Int)) i).f0 = (pl_at m i).f0 := by
    intro i
    rw [pl_at_with F m k hk']
    split
    · rename_i hh; rw [hF, hh]
    · rfl
  refine ⟨by rw [pl_with_len F m k hk', h.len], fun i hi => by rw [ef]; exact h.mx i hi, by rw [ef]; exact h.zero, fun j j1 j2 => by rw [ef, ef]; exact h.step j j1 j2⟩
theorem pl_with_bytes (F : S52 → S52) (m : List S52) (k : Nat) (hk : k < m.length) : (withF F m (k : Int)).map (fun b => b.f1) = (m.map (fun b => b.f1)).set k (F (pl_at m k)).f1 := by
  unfold withF
  rw [if_pos (by omega), Int.toNat_natCast, pl_at_rd, List.map_set]
theorem pl_set_same (l : List Int) (k : Nat) (x : Int) (hx : x = l.getD k 0) : l.set k x = l := by
  by_cases h : k < l.length
  · rw [hx, List.getD_eq_getElem?_getD, List.getElem?_eq_getElem h, Option.getD_some, List.set_getElem_self]
  · rw [List.set_eq_of_length_le (by omega)]
theorem pl_delay_at (d : Int) (l : List S52) (k : Nat) (hk : k < l.length) (i : Nat) (hi : i < l.length) : pl_at (delayL (delayF d) l (k : Int)) i = if i < k then pl_at l i else delayF d (pl_at l i) := by
  unfold delayL
  rw [if_pos (by omega), Int.toNat_natCast]
  unfold pl_at
  rw [List.getD_eq_getElem?_getD]
  by_cases h : i < k
  · rw [if_pos h, List.getElem?_append_left (by rw [List.length_take]; omega), List.getElem?_take_of_lt h, List.getD_eq_getElem?_getD]
  · rw [if_neg h, List.getElem?_append_right (by rw [List.length_take]; omega), List.length_take, List.getElem?_map, List.getElem?_drop, show k + (i - min k l.length) = i by omega, List.getElem?_eq_getElem hi, Option.map_some, Option.getD_some, List.getD_eq_getElem?_getD, List.getElem?_eq_getElem hi, Option.getD_some]
theorem pl_delay_len (d : Int) (l : List S52) (k : Nat) (hk : k < l.length) : (delayL (delayF d) l (k : Int)).length = l.length := by
  unfold delayL
  rw [if_pos (by omega), Int.toNat_natCast, List.length_append, List.length_map, List.length_take, List.length_drop]; omega
theorem pl_delay_bytes (d : Int) (l : List S52) (k : Nat) (hk : k < l.length) : (delayL (delayF d) l (k : Int)).map (fun b => b.f1) = l.map (fun b => b.f1) := by
  unfold delayL
  rw [if_pos (by omega), Int.toNat_natCast, List.map_append, List.map_map]
  show (l.take k).map (fun b => b.f1) ++ (l.drop k).map (fun b => b.f1) = _
  rw [← List.map_append, List.take_append_drop]
theorem pl_delayF (d : Int) (hd : 0 ≤ d ∧ d ≤ 33554432) (x : S52) (hx : 0 ≤ x.f0 ∧ x.f0 ≤ 10000000000) : (delayF d x).f0 = x.f0 + d ∧ (delayF d x).f1 = x.f1 ∧ (delayF d x).f2 = x.f2 := by
  refine ⟨?_, rfl, rfl⟩
  show (clock_Add.f x.f0 d).getD 0 = _
  rw [pl_clockadd x.f0 d, Option.getD_some, pl_cl_id x.f0 (by omega), pl_cl_id d (by omega), pl_cl_id _ (by omega)]
theorem pl_delay_lay (c s l t : Int) (hok : pl_ok c s l t) (b : List Int) (hb : 1 ≤ b.length) (hb2 : b.length ≤ 300) (k : Nat) (hk : 1 ≤ k) (hk2 : k < b.length) (d : Int) (hd : 0 ≤ d ∧ d ≤ 33554432) :
    pl_Lay (delayL (delayF d) (pl_of c b l) (k : Int)) b.length c (c + d) l k ∧ ∀ i, i < b.length → (pl_at (delayL (delayF d) (pl_of c b l) (k : Int)) i).f2 = false := by
  have h0 := pl_of_lay c s l t hok b hb hb2
  have hl := h0.len
  have hf := fun i hi => pl_of_f2 c s l t hok b hb2 i hi
  have hok' := hok
  unfold pl_ok at hok'
  have bd : ∀ i, i < b.length → 0 ≤ (pl_at (pl_of c b l) i).f0 ∧ (pl_at (pl_of c b l) i).f0 ≤ 10000000000 := by
    intro i hi
    rw [(hf i hi).2.2]
    have := pl_mul_bd (i + 1) c b.length (by omega) (by omega)
    rw [show ((i + 1 : Nat) : Int) = (i : Int) + 1 by omega] at this
    omega
  have ea : ∀ i, i < b.length → (pl_at (delayL (delayF d) (pl_of c b l) (k : Int)) i).f0 = (pl_at (pl_of c b l) i).f0 + if i < k then 0 else d := by
    intro i hi
    rw [pl_delay_at d _ k (by omega) i (by omega)]
    split
    · omega
    · exact (pl_delayF d hd _ (bd i hi)).1
  refine ⟨⟨by rw [pl_delay_len d _ k (by omega), hl], fun i hi => ?_, ?_, fun j j1 j2 => ?_⟩, fun i hi => ?_⟩
  · rw [ea i hi]; have := bd i hi; split <;> omega
  · rw [ea 0 (by omega), if_pos (by omega)]; have := h0.zero; omega
  · rw [ea j j2, ea (j - 1) (by omega)]
    have := h0.step j j1 j2
    rw [if_neg (by omega)] at this
    by_cases h : j = k
    · rw [if_pos h, if_neg (by omega), if_pos (by omega)]; omega
    · rw [if_neg h]; split <;> split <;> omega
  · rw [pl_delay_at d _ k (by omega) i (by omega)]
    split
    · exact (hf i hi).1
    · show (pl_at (pl_of c b l) i).f2 = false; exact (hf i hi).1

theorem pl_rem_inj (l : List Int) : ∀ {r s : Nat}, r < 65536 → s < 65536 → pRem r l = pRem s l → r = s := by
  induction l with
  | nil => intro r s _ _ h; exact h
  | cons x l ih =>
    intro r s hr hs h
    rw [pRem_cons, pRem_cons] at h
    have h2 := ih (pBy_lt hr) (pBy_lt hs) h
    rw [← pUn_pBy (b := x.toNat) hr, h2, pUn_pBy hs]
/-- A byte that is turned hurts the sum. -/
theorem pl_crc_set (b : List Int) (k : Nat) (hk : k < b.length) (x : Int) (hx : 0 ≤ x ∧ x ≤ 255) (hb : 0 ≤ b.getD k 0 ∧ b.getD k 0 ≤ 255) (hne : x ≠ b.getD k 0) (h0 : pRem 65535 b = 0) : pRem 65535 (b.set k x) ≠ 0 := by
  intro h1
  have e : b = b.take k ++ b.getD k 0 :: b.drop (k + 1) := by
    rw [List.getD_eq_getElem?_getD, List.getElem?_eq_getElem hk, Option.getD_some, ← List.drop_eq_getElem_cons hk, List.take_append_drop]
  have e2 : b.set k x = b.take k ++ x :: b.drop (k + 1) := by rw [List.set_eq_take_append_cons_drop, if_pos hk]
  rw [e2, pRem_append, pRem_cons] at h1
  rw [e, pRem_append, pRem_cons] at h0
  have hr : pRem 65535 (b.take k) < 65536 := pRem_lt _ (by omega)
  have h2 := pl_rem_inj _ (pBy_lt hr) (pBy_lt hr) (h1.trans h0.symm)
  have h3 : pBy 0 (x.toNat ^^^ (b.getD k 0).toNat) = 0 := by
    have := pBy_xor (pRem 65535 (b.take k)) (pRem 65535 (b.take k)) x.toNat (b.getD k 0).toNat
    rw [Nat.xor_self, h2, Nat.xor_self] at this
    exact this
  have h4 := pBy_zero (x := 0) (by omega) (Nat.xor_lt_two_pow (n := 8) (by omega) (by omega)) h3
  have h5 := xor_zero_eq h4.symm
  exact hne (by omega)

theorem pl_u8c {l : List Int} (h : ∀ x ∈ l, (Lit.int .u8 x).wf = true) : ∀ x ∈ l, 0 ≤ x ∧ x ≤ 255 := fun x hx => wf_u8 (h x hx)
theorem pl_crcsum (l : List Int) (hb : ∀ x ∈ l, 0 ≤ x ∧ x ≤ 255) : crc_Sum.f l = some ((pRem 65535 l : Nat) : Int) := by
  unfold crc_Sum.f
  rw [if_pos hb]

theorem pl_crccheck (l : List Int) (hb : ∀ x ∈ l, 0 ≤ x ∧ x ≤ 255) : crc_Check.f l = some (decide (2 ≤ l.length ∧ pRem 65535 l = 0)) := by
  unfold crc_Check.f
  by_cases h : 2 ≤ l.length
  · rw [if_pos (by omega), pl_crcsum l hb]
    refine congrArg some ?_
    rw [Bool.eq_iff_iff]
    simp only [beq_iff_eq, decide_eq_true_eq]
    omega
  · rw [if_neg (by omega)]
    refine congrArg some ?_
    rw [eq_comm, decide_eq_false_iff_not]
    omega

def pl_fault (l : List Int) (n : Int) (g b : Bool) : Int := if n > 256 then 1 else if b = true then 2 else if g = true then 3 else if l.length < 4 then 4 else if pRem 65535 l = 0 then 0 else 5
def pl_errs (l : List Int) (n : Int) (b : Bool) : Bool := decide (n > 256) || b || (decide (4 ≤ l.length) && !decide (pRem 65535 l = 0))
theorem pl_faultof (l : List Int) (hb : ∀ x ∈ l, 0 ≤ x ∧ x ≤ 255) (u v n : Int) (g b : Bool) : split_Fault.f l u v n g b = some (pl_fault l n g b) := by
  unfold split_Fault.f pl_fault
  by_cases h1 : n > 256
  · rw [if_pos h1, if_pos h1]
  rw [if_neg h1, if_neg h1]
  by_cases h2 : b = true
  · rw [if_pos h2, if_pos h2]
  rw [if_neg h2, if_neg h2]
  by_cases h3 : g = true
  · rw [if_pos h3, if_pos h3]
  rw [if_neg h3, if_neg h3]
  by_cases h4 : l.length < 4
  · rw [if_pos h4, if_pos (by omega)]
  rw [if_neg h4, if_neg (by omega)]
  refine pl_bind (pl_crccheck l hb) ?_
  by_cases h5 : pRem 65535 l = 0
  · rw [if_pos h5, if_pos (by rw [decide_eq_true_eq]; exact ⟨by omega, h5⟩)]
  · rw [if_neg h5, if_neg (by rw [decide_eq_true_eq]; exact fun h => h5 h.2)]

theorem pl_lay_seg {m : List S52} {B : Nat} {c e l : Int} {n : Nat} (h : pl_Lay m B c e l n) {s t : Int} (hok : pl_ok c s l t) (he : 0 ≤ e) (hB : 1 ≤ B) (hB2 : B ≤ 256) (hn : n = 0 ∨ B ≤ n ∨ e < l) :
    ∃ g, split_All.f m c s l t 0 = some [g] ∧ g.f0 = m.map (fun b => b.f1) ∧ g.f2 = (pl_at m (B - 1)).f0 ∧ g.f3 = (B : Int) ∧ g.f4 = decide (n ≠ 0 ∧ n < B ∧ s < e) ∧ g.f5 = pl_badAt m 0 B := by
  obtain ⟨h1, h2⟩ := h.one hok he hB (by omega) hn
  refine ⟨_, h1, ?_, ?_, rfl, h2, rfl⟩
  · have := pl_seg_bytes m s false (by rw [h.len]; exact hB2)
    rw [h.len] at this
    exact this
  · show (pl_at m (0 + B - 1)).f0 = _
    rw [Nat.zero_add]
theorem pl_bits_u8 : ∀ j : Nat, j < 8 → 0 < shl .u8 1 (Int.tmod (IntKind.u64.wrap (j : Int)) 8) ∧ shl .u8 1 (Int.tmod (IntKind.u64.wrap (j : Int)) 8) < 256 := by decide +kernel
theorem pl_flipF (j : Nat) (hj : j < 8) (x : S52) (hx : 0 ≤ x.f1 ∧ x.f1 ≤ 255) : 0 ≤ (flipF (j : Int) x).f1 ∧ (flipF (j : Int) x).f1 ≤ 255 ∧ (flipF (j : Int) x).f1 ≠ x.f1 := by
  obtain ⟨q1, q2⟩ := pl_bits_u8 j hj
  have e : (flipF (j : Int) x).f1 = ((x.f1.toNat ^^^ (shl .u8 1 (Int.tmod (IntKind.u64.wrap (j : Int)) 8)).toNat : Nat) : Int) := u8_xor _ _ hx.1 (by omega) (by omega) q2
  rw [e]
  have hlt : x.f1.toNat ^^^ (shl .u8 1 (Int.tmod (IntKind.u64.wrap (j : Int)) 8)).toNat < 2 ^ 8 := Nat.xor_lt_two_pow (by omega) (by omega)
  refine ⟨by omega, by omega, fun h => ?_⟩
  have h2 : x.f1.toNat ^^^ (shl .u8 1 (Int.tmod (IntKind.u64.wrap (j : Int)) 8)).toNat = x.f1.toNat := by omega
  have h3 : (shl .u8 1 (Int.tmod (IntKind.u64.wrap (j : Int)) 8)).toNat = 0 := by
    have := congrArg (x.f1.toNat ^^^ ·) h2
    simp only [← Nat.xor_assoc, Nat.xor_self, Nat.zero_xor] at this
    exact this
  omega
theorem pl_fault_of (y : List Int) (B : Nat) (hB : B ≤ 256) (hy : y.length = B) (h4 : 4 ≤ B) (g b : Bool) : pl_fault y (B : Int) g b = if b = true then 2 else if g = true then 3 else if pRem 65535 y = 0 then 0 else 5 := by
  unfold pl_fault
  rw [if_neg (by omega)]
  split
  · rfl
  split
  · rfl
  rw [if_neg (by omega)]

def pl_crced (l : List Int) : List Int := l ++ [((pRem 65535 l % 256 : Nat) : Int), ((pRem 65535 l / 256 : Nat) : Int)]
theorem pl_crced_len (l : List Int) : (pl_crced l).length = l.length + 2 := by unfold pl_crced; rw [List.length_append]; rfl
theorem pl_crcappend (l : List Int) (hb : ∀ x ∈ l, 0 ≤ x ∧ x ≤ 255) (hn : l.length < 100000) : crc_Append.f l = some (pl_crced l) := by
  unfold crc_Append.f
  rw [if_pos ⟨by omega, hb⟩]; rfl
theorem pl_crced_u8 (l : List Int) (hb : ∀ x ∈ l, 0 ≤ x ∧ x ≤ 255) : ∀ x ∈ pl_crced l, 0 ≤ x ∧ x ≤ 255 := by
  intro x hx
  have hm : pRem 65535 l < 65536 := pRem_lt _ (by omega)
  simp only [pl_crced, List.mem_append, List.mem_cons, List.mem_nil_iff, or_false] at hx
  rcases hx with hx | rfl | rfl
  · exact hb x hx
  · omega
  · omega
theorem pl_crced_rem (l : List Int) : pRem 65535 (pl_crced l) = 0 := by
  have hm : pRem 65535 l < 65536 := pRem_lt _ (by omega)
  unfold pl_crced
  rw [pRem_append]
  show pBy (pBy (pRem 65535 l) (((pRem 65535 l % 256 : Nat) : Int)).toNat) (((pRem 65535 l / 256 : Nat) : Int)).toNat = 0
  rw [Int.toNat_natCast, Int.toNat_natCast]
  exact pBy_join hm

def pl_wrapped (s : Int) (l : List Int) : List Int × Int := if s < 0 ∨ 255 < s then ([], 11) else if l.length = 0 then ([], 12) else if 253 < l.length then ([], 13) else (pl_crced (s :: l), 0)
theorem pl_cons_u8 (s : Int) (l : List Int) (hs : 0 ≤ s ∧ s ≤ 255) (hb : ∀ x ∈ l, 0 ≤ x ∧ x ≤ 255) : ∀ x ∈ s :: l, 0 ≤ x ∧ x ≤ 255 := by
  intro x hx
  rcases List.mem_cons.1 hx with rfl | h
  · exact hs
  · exact hb x h
theorem pl_aduwrap (s : Int) (l : List Int) (hb : ∀ x ∈ l, 0 ≤ x ∧ x ≤ 255) (k : Nat) (hk : 0 < k) : adu_Wrap.f k s l = some (pl_wrapped s l) := by
  obtain ⟨k, rfl⟩ : ∃ m, k = m + 1 := ⟨k - 1, by omega⟩
  unfold adu_Wrap.f pl_wrapped
  by_cases h : s < 0 ∨ 255 < s
  · rw [if_pos h]
    have e : adu_Wrap.j0 (k + 1) s l true = some ([], 11) := by simp only [adu_Wrap.j0]; rw [if_pos trivial]
    by_cases h1 : s < 0
    · rw [if_pos h1, e]
    · rw [if_neg h1, show decide (s > 255) = true by rw [decide_eq_true_eq]; omega, e]
  · rw [if_neg h, if_neg (by omega), show decide (s > 255) = false by rw [decide_eq_false_iff_not]; omega]
    simp only [adu_Wrap.j0]
    rw [if_neg (by decide)]
    by_cases h2 : l.length = 0
    · rw [if_pos (by omega), if_pos h2]
    · rw [if_neg (by omega), if_neg h2]
      by_cases h3 : 253 < l.length
      · rw [if_pos (by omega), if_pos h3]
      · rw [if_neg (by omega), if_neg h3]
        have hj : adu_joined.f [[s % 256], l] = some (s :: l) := by
          unfold adu_joined.f
          have e : [[s % 256], l].flatten = s :: l := by rw [show s % 256 = s by omega]; simp
          rw [e, if_pos (by rw [List.length_cons]; omega)]
        refine pl_bind hj ?_
        exact pl_bind (pl_crcappend (s :: l) (pl_cons_u8 s l (by omega) hb) (by rw [List.length_cons]; omega)) rfl

theorem pl_wrapped_ok (s : Int) (l : List Int) (h : (pl_wrapped s l).2 = 0) : (pl_wrapped s l).1 = pl_crced (s :: l) ∧ 1 ≤ l.length ∧ l.length ≤ 253 ∧ 0 ≤ s ∧ s ≤ 255 := by
  unfold pl_wrapped at h ⊢
  by_cases h1 : s < 0 ∨ 255 < s
  · rw [if_pos h1] at h; cases h
  by_cases h2 : l.length = 0
  · rw [if_neg h1, if_pos h2] at h; cases h
  by_cases h3 : 253 < l.length
  · rw [if_neg h1, if_neg h2, if_pos h3] at h; cases h
  rw [if_neg h1, if_neg h2, if_neg h3]
  exact ⟨rfl, by omega, by omega, by omega, by omega⟩
theorem pl_map_u8 (m : List S52) (h : ∀ i, i < m.length → 0 ≤ (pl_at m i).f1 ∧ (pl_at m i).f1 ≤ 255) : ∀ x ∈ m.map (fun b => b.f1), 0 ≤ x ∧ x ≤ 255 := by
  intro x hx
  obtain ⟨y, hy, rfl⟩ := List.mem_map.1 hx
  obtain ⟨i, hi, rfl⟩ := List.mem_iff_getElem.1 hy
  have := h i hi
  rw [pl_at_get m i hi] at this
  exact this
theorem pl_getD_u8 (b : List Int) (hb : ∀ x ∈ b, 0 ≤ x ∧ x ≤ 255) (i : Nat) (hi : i < b.length) : 0 ≤ b.getD i 0 ∧ b.getD i 0 ≤ 255 := by
  rw [List.getD_eq_getElem?_getD, List.getElem?_eq_getElem hi]
  exact hb _ (List.getElem_mem hi)

theorem pl_sure28 (k : Nat) (hk : 60 ≤ k) : bilgelaw28_sure.f k = some true := at_rounds bilgelaw28_sure.mono hk (by decide +kernel)

theorem pl_errsof (l : List Int) (hb : ∀ x ∈ l, 0 ≤ x ∧ x ≤ 255) (u v n : Int) (g b : Bool) : split_Errs.f l u v n g b = some (pl_errs l n b) := by
  unfold split_Errs.f pl_errs
  by_cases h1 : n > 256
  · rw [if_pos h1]; simp [h1]
  rw [if_neg h1]
  by_cases h2 : b = true
  · rw [if_pos h2]; simp [h2]
  rw [if_neg h2]
  by_cases h4 : l.length < 4
  · rw [if_pos (by omega)]; simp [h1, h2]; omega
  rw [if_neg (by omega)]
  refine pl_bind (pl_crccheck l hb) ?_
  refine congrArg some ?_
  by_cases h5 : pRem 65535 l = 0
  · simp [h1, h2, h5]; omega
  · simp [h1, h2, h5]; omega

theorem pl_bytes_l (a b : List Int) (hl : a.length = b.length) (hn : a.length < 9223372036854775807) : ∀ (d k i : Nat), i + d = a.length → d < k → a.take i = b.take i →
    bilgeref01_Bytes.l0 k a b i = some (decide (a = b)) := by
  intro d
  induction d with
  | zero =>
    intro k i hi hk ht
    obtain ⟨k, rfl⟩ : ∃ m, k = m + 1 := ⟨k - 1, by omega⟩
    simp only [bilgeref01_Bytes.l0]
    rw [if_neg (by omega)]
    have : a = b := by
      rw [List.take_of_length_le (by omega), List.take_of_length_le (by omega)] at ht; exact ht
    simp [this]
  | succ d ih =>
    intro k i hi hk ht
    obtain ⟨k, rfl⟩ : ∃ m, k = m + 1 := ⟨k - 1, by omega⟩
    simp only [bilgeref01_Bytes.l0]
    rw [if_pos (by omega), if_pos (by omega), if_pos (by omega), pl_rd_nat, pl_rd_nat, getD_at _ _ (by omega), getD_at _ _ (by omega), pl_w64 (by omega)]
    by_cases e : a[i] = b[i]
    · rw [if_pos e]
      exact ih k (i + 1) (by omega) (by omega) (by rw [take_snoc a i (by omega), take_snoc b i (by omega), ht, e])
    · rw [if_neg e]
      have : a ≠ b := by rintro rfl; exact e rfl
      simp [this]
theorem pl_bytes (a b : List Int) (hn : a.length < 9223372036854775807) (k : Nat) (hk : a.length < k) : bilgeref01_Bytes.f k a b = some (decide (a = b)) := by
  unfold bilgeref01_Bytes.f
  by_cases hl : a.length = b.length
  · rw [if_pos (by omega)]
    exact pl_bytes_l a b hl hn a.length k 0 (by omega) hk rfl
  · rw [if_neg (by omega)]
    have : a ≠ b := by rintro rfl; exact hl rfl
    simp [this]

theorem pl_refright (c s l t : Int) : bilgeref05_Right.f c s l t = some (decide (pl_ok c s l t)) := by
  unfold bilgeref05_Right.f
  by_cases h1 : c ≥ 1
  · rw [if_pos h1]
    by_cases h2 : s ≥ c
    · rw [if_pos h2]
      by_cases h3 : l > s
      · rw [if_pos h3]
        by_cases h4 : t ≥ 0
        · rw [if_pos h4]
          by_cases h5 : l ≤ 16777216
          · rw [if_pos h5]
            exact congrArg some (decide_eq_decide.2 (by unfold pl_ok; omega))
          · rw [if_neg h5]; exact congrArg some (decide_eq_false (by unfold pl_ok; omega)).symm
        · rw [if_neg h4]; exact congrArg some (decide_eq_false (by unfold pl_ok; omega)).symm
      · rw [if_neg h3]; exact congrArg some (decide_eq_false (by unfold pl_ok; omega)).symm
    · rw [if_neg h2]; exact congrArg some (decide_eq_false (by unfold pl_ok; omega)).symm
  · rw [if_neg h1]; exact congrArg some (decide_eq_false (by unfold pl_ok; omega)).symm

theorem WireFaults : bilgelaw28_WireFaults.Pure := by
  intro pdu t n hp ht hn
  have hmx : maxLen = 9223372036854775807 := rfl
  have hpb := pl_u8c hp.2.2
  have hn0 := wf_u16 hn.1
  have hn1 := wf_u16 hn.2.1
  have hn2 := wf_u16 hn.2.2
  obtain ⟨K, hK⟩ : ∃ K : Nat, 3000 ≤ K := ⟨3000, by omega⟩
  have hs : ∀ k b, 2000 ≤ k → bilgelaw28_WireFaults.j0 (k + 1) b true t.f0 t.f1 t.f2 t.f3 n.f0 n.f1 n.f2 = some true := by
    intro k b hk
    simp only [bilgelaw28_WireFaults.j0]
    rw [if_pos trivial]
    exact pl_bind (pl_sure28 k (by omega)) rfl
  refine ⟨K + 5, ?_⟩
  unfold bilgelaw28_WireFaults.f
  have hsm : 0 ≤ Int.tmod (wrap64 n.f2) 256 ∧ Int.tmod (wrap64 n.f2) 256 ≤ 255 := by
    rw [pl_w64 (by omega), Int.tmod_eq_emod_of_nonneg (by omega)]; omega
  generalize Int.tmod (wrap64 n.f2) 256 = sn at *
  refine pl_bind (pl_aduwrap sn pdu hpb _ (by omega)) ?_
  by_cases hc : (pl_wrapped sn pdu).2 = 0
  case neg => rw [if_neg hc]; exact hs (K + 4) _ (by omega)
  rw [if_pos hc]
  refine pl_bind (pl_refright t.f0 t.f1 t.f2 t.f3) ?_
  by_cases hok : pl_ok t.f0 t.f1 t.f2 t.f3
  case neg => rw [decide_eq_false hok]; exact hs (K + 4) _ (by omega)
  rw [decide_eq_true hok]
  obtain ⟨w1, w2, w3, _, _⟩ := pl_wrapped_ok sn pdu hc
  rw [w1]
  have hbu : ∀ y ∈ pl_crced (sn :: pdu), 0 ≤ y ∧ y ≤ 255 := pl_crced_u8 _ (pl_cons_u8 sn pdu (by omega) hpb)
  have hbl : (pl_crced (sn :: pdu)).length = pdu.length + 3 := by rw [pl_crced_len, List.length_cons]
  have hcr := pl_crced_rem (sn :: pdu)
  generalize pl_crced (sn :: pdu) = b at *
  have hB : 4 ≤ b.length ∧ b.length ≤ 256 := by omega
  clear hbl w1 w2 w3 hc hp hpb hs
  obtain ⟨k, hk⟩ : ∃ k : Nat, k = n.f0.toNat % b.length := ⟨_, rfl⟩
  have hkB : k < b.length := by rw [hk]; exact Nat.mod_lt _ (by omega)
  have hxk : Int.tmod (wrap64 n.f0) (b.length : Int) = (k : Int) := by
    rw [pl_w64 (by omega), Int.tmod_eq_emod_of_nonneg (by omega), hk]
    obtain ⟨y, hy⟩ : ∃ y : Nat, n.f0 = (y : Int) := ⟨n.f0.toNat, by omega⟩
    rw [hy, Int.toNat_natCast]
    rfl
  obtain ⟨j, hj, hj8⟩ : ∃ j : Nat, Int.tmod (wrap64 n.f1) 8 = (j : Int) ∧ j < 8 := by
    refine ⟨(Int.tmod (wrap64 n.f1) 8).toNat, ?_, ?_⟩
    · rw [pl_w64 (by omega), Int.tmod_eq_emod_of_nonneg (by omega)]; omega
    · rw [pl_w64 (by omega), Int.tmod_eq_emod_of_nonneg (by omega)]; omega
  have hok' := hok
  unfold pl_ok at hok'
  obtain ⟨L, hL⟩ : ∃ L, L = pl_of t.f0 b t.f2 := ⟨_, rfl⟩
  have hlay := pl_of_lay t.f0 t.f1 t.f2 t.f3 hok b (by omega) (by omega)
  have hel := fun i hi => pl_of_f2 t.f0 t.f1 t.f2 t.f3 hok b (by omega) i hi
  have hby := pl_of_bytes t.f0 b t.f2
  rw [← hL] at hlay hby
  simp only [← hL] at hel
  have hLl := hlay.len
  have hbk := pl_getD_u8 b hbu k hkB
  show bilgelaw28_WireFaults.j0 (K + 5) b false t.f0 t.f1 t.f2 t.f3 n.f0 n.f1 n.f2 = some true
  -- behind all: the byte delayed by less
  have e3 : k ≠ 0 → bilgelaw28_WireFaults.j3 (K + 2) L k false t.f0 t.f1 t.f2 t.f3 = some true := by
    intro hk0
    simp only [bilgelaw28_WireFaults.j3]
    rw [if_neg (by simp), pl_w64 (i := t.f1 + 1) (by omega), pl_w64 (i := t.f1 + 1 - t.f0) (by omega), pl_w64 (i := t.f1 + 1 - t.f0 + t.f0) (by omega)]
    by_cases hlt : t.f1 + 1 - t.f0 + t.f0 < t.f2
    case neg => rw [if_neg hlt]; exact pl_bind (pl_sure28 _ (by omega)) rfl
    rw [if_pos hlt]
    obtain ⟨d1, d2⟩ := pl_delay_lay t.f0 t.f1 t.f2 t.f3 hok b (by omega) (by omega) k (by omega) hkB (t.f1 + 1 - t.f0) (by omega)
    rw [← hL] at d1 d2
    have hdf : wire_Delay.f L (k : Int) (t.f1 + 1 - t.f0) = some (delayL (delayF (t.f1 + 1 - t.f0)) L (k : Int)) := by unfold wire_Delay.f; rw [if_pos (by omega)]
    have hdb := pl_delay_bytes (t.f1 + 1 - t.f0) L k (by omega)
    refine pl_bind hdf ?_
    obtain ⟨g, a1, a2, a3, a4, a5, a6⟩ := pl_lay_seg d1 hok (by omega) (by omega) (by omega) (by omega)
    rw [pl_badAt_no _ 0 _ (fun i hi => by rw [Nat.zero_add]; exact d2 i hi)] at a6
    rw [hdb, hby] at a2
    rw [decide_eq_true (by omega)] at a5
    refine pl_bind a1 ?_
    rw [if_pos (by rfl), if_pos (by simp), show rd_T37 [g] 0 = g from rfl, a2, a4, a5, a6]
    refine pl_bind (pl_faultof b hbu g.f1 g.f2 (b.length : Int) true false) ?_
    rw [show pl_fault b (b.length : Int) true false = 3 from (pl_fault_of b b.length hB.2 rfl hB.1 true false).trans rfl, if_pos rfl]
    refine pl_bind (pl_errsof b hbu g.f1 g.f2 (b.length : Int) true false) ?_
    rw [show pl_errs b (b.length : Int) false = false by unfold pl_errs; rw [decide_eq_false (by omega), hcr]; simp, if_neg (by simp)]
    exact pl_bind (pl_sure28 _ (by omega)) rfl
  -- the byte delayed by Long
  have e2 : bilgelaw28_WireFaults.j2 (K + 3) L k false t.f0 t.f1 t.f2 t.f3 = some true := by
    simp only [bilgelaw28_WireFaults.j2]
    rw [if_neg (by simp)]
    by_cases hk0 : k = 0
    · rw [if_pos (by omega)]; exact pl_bind (pl_sure28 _ (by omega)) rfl
    rw [if_neg (by omega)]
    obtain ⟨d1, d2⟩ := pl_delay_lay t.f0 t.f1 t.f2 t.f3 hok b (by omega) (by omega) k (by omega) hkB t.f2 (by omega)
    rw [← hL] at d1 d2
    have hdf : wire_Delay.f L (k : Int) t.f2 = some (delayL (delayF t.f2) L (k : Int)) := by unfold wire_Delay.f; rw [if_pos (by omega)]
    refine pl_bind hdf ?_
    obtain ⟨a1, a2⟩ := d1.two hok (by omega) (by omega) hkB (by omega)
    refine pl_bind a1 ?_
    rw [if_pos (by rfl), if_pos (by simp)]
    refine Eq.trans (if_pos rfl) ?_
    rw [if_pos (by simp)]
    have := e3 hk0
    rw [← a2] at this
    exact this
  -- a byte spoilt, a bit turned
  have e1 : bilgelaw28_WireFaults.j1 (K + 4) b L false t.f0 t.f1 t.f2 t.f3 n.f0 n.f1 n.f2 = some true := by
    simp only [bilgelaw28_WireFaults.j1]
    rw [if_neg (by simp), if_neg (by omega), hxk, hj]
    have hsp : wire_Spoil.f L (k : Int) = some (withF (fun x => ⟨x.f0, x.f1, true⟩) L (k : Int)) := by unfold wire_Spoil.f; rw [if_pos (by omega)]
    have hfl : wire_Flip.f L (k : Int) (j : Int) = some (withF (flipF (j : Int)) L (k : Int)) := by unfold wire_Flip.f; rw [if_pos (by omega)]
    refine pl_bind hsp ?_
    have l1 := pl_with_lay (fun x => (⟨x.f0, x.f1, true⟩ : S52)) (fun _ => rfl) hlay k hkB
    have l2 := pl_with_lay (flipF (j : Int)) (fun _ => rfl) hlay k hkB
    have b1 := pl_with_bytes (fun x => (⟨x.f0, x.f1, true⟩ : S52)) L k (by omega)
    have b2 := pl_with_bytes (flipF (j : Int)) L k (by omega)
    have x1 : (pl_at L k).f1 = b.getD k 0 := (hel k hkB).2.1
    rw [hby] at b1 b2
    rw [pl_set_same b k _ x1] at b1
    obtain ⟨g, a1, a2, a3, a4, a5, a6⟩ := pl_lay_seg l1 hok (by omega) (by omega) (by omega) (by omega)
    rw [pl_badAt_yes _ 0 k (by rw [Nat.zero_add, pl_at_with _ L k (by omega), if_pos rfl]) _ hkB] at a6
    rw [b1] at a2
    refine pl_bind a1 ?_
    refine pl_bind hfl ?_
    obtain ⟨f, c1, c2, c3, c4, c5, c6⟩ := pl_lay_seg l2 hok (by omega) (by omega) (by omega) (by omega)
    have hnb : pl_badAt (withF (flipF (j : Int)) L (k : Int)) 0 b.length = false := by
      refine pl_badAt_no _ 0 _ (fun i hi => ?_)
      rw [Nat.zero_add, pl_at_with _ L k (by omega)]
      split
      · exact (hel k hkB).1
      · exact (hel i hi).1
    rw [hnb] at c6
    rw [b2] at c2
    rw [decide_eq_false (by omega)] at c5
    refine pl_bind c1 ?_
    rw [if_pos (by rfl), if_pos (by simp), show rd_T37 [g] 0 = g from rfl, a2, a4, a6]
    refine pl_bind (pl_faultof b hbu g.f1 g.f2 (b.length : Int) g.f4 true) ?_
    rw [show pl_fault b (b.length : Int) g.f4 true = 2 from (pl_fault_of b b.length hB.2 rfl hB.1 g.f4 true).trans rfl, if_pos rfl, if_pos (by rfl), if_pos (by simp), show rd_T37 [f] 0 = f from rfl, c2, c4, c5, c6]
    obtain ⟨v1, v2, v3⟩ := pl_flipF j hj8 (pl_at L k) (by rw [x1]; exact hbk)
    generalize (flipF (j : Int) (pl_at L k)).f1 = v at *
    have hvu : ∀ y ∈ b.set k v, 0 ≤ y ∧ y ≤ 255 := by
      intro y hy
      rcases List.mem_or_eq_of_mem_set hy with h | h
      · exact hbu y h
      · rw [h]; exact ⟨v1, v2⟩
    have hvc := pl_crc_set b k hkB v ⟨v1, v2⟩ hbk (by rw [← x1]; exact v3) hcr
    have hvl : (b.set k v).length = b.length := List.length_set
    generalize b.set k v = y at *
    refine pl_bind (pl_faultof y hvu f.f1 f.f2 (b.length : Int) false false) ?_
    rw [show pl_fault y (b.length : Int) false false = 5 from (pl_fault_of y b.length hB.2 hvl hB.1 false false).trans (if_neg hvc), if_pos rfl]
    refine pl_bind (pl_errsof y hvu f.f1 f.f2 (b.length : Int) false false) ?_
    rw [show pl_errs y (b.length : Int) false = true by unfold pl_errs; rw [decide_eq_true (show 4 ≤ y.length by omega), decide_eq_false hvc]; simp]
    exact e2
  simp only [bilgelaw28_WireFaults.j0]
  rw [if_neg (by simp)]
  refine pl_bind (pl_wireoft t.f2 t.f0 t.f1 t.f2 t.f3 b (by omega) hok (by omega) _ (by omega)) ?_
  rw [← hL]
  obtain ⟨g, a1, a2, a3, a4, a5, a6⟩ := pl_lay_seg hlay hok (by omega) (by omega) (by omega) (by omega)
  rw [pl_badAt_no _ 0 _ (fun i hi => by rw [Nat.zero_add]; exact (hel i hi).1)] at a6
  rw [decide_eq_false (by omega)] at a5
  rw [hby] at a2
  refine pl_bind a1 ?_
  rw [if_pos (by rfl), if_pos (by simp), show rd_T37 [g] 0 = g from rfl, a2, a4, a5, a6]
  refine pl_bind (pl_faultof b hbu g.f1 g.f2 (b.length : Int) false false) ?_
  rw [show pl_fault b (b.length : Int) false false = 0 from (pl_fault_of b b.length hB.2 rfl hB.1 false false).trans (if_pos hcr), if_pos rfl]
  refine pl_bind (pl_bytes b b (by omega) _ (by omega)) ?_
  rw [if_pos (by simp), a3, (hel (b.length - 1) (by omega)).2.2]
  have hm := pl_mul_bd b.length t.f0 b.length (Nat.le_refl _) (by omega)
  rw [pl_w64 (i := (b.length : Int) * t.f0) (by omega), pl_w64 (i := t.f2 + (b.length : Int) * t.f0) (by omega), show ((b.length - 1 : Nat) : Int) + 1 = (b.length : Int) by omega]
  rw [show (t.f2 + (b.length : Int) * t.f0 != t.f2 + (b.length : Int) * t.f0) = false by simp]
  exact e1

end Go.Proofs.Ytgagdhgjdgaeaaa.Pure

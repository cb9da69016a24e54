/- Layer 28's law WireLays of the given program: any frame on the line, and what is done with any bytes. -/
import Derived.Test.YtbghnfhjaolhaaaPWireLaysx
import Derived.IntWalk
set_option linter.unusedVariables false
set_option linter.unusedSimpArgs false
namespace Go.Proofs.Ytbghnfhjaolhaaa.Pure
open Go.RowKit Go.Proofs.Ytbghnfhjaolhaaa.PWireLays Go.Proofs.YtbghnfhjaolhaaaW.PrintWords Go.Proofs.YtbghnfhjaolhaaaW.PrintLast Go.Proofs.YtbghnfhjaolhaaaW.PrintMore Go.Proofs.YtbghnfhjaolhaaaM

theorem pl_w64 {i : Int} (h : -9223372036854775808 ≤ i ∧ i ≤ 9223372036854775807) : wrap64 i = i := by unfold wrap64; omega
theorem pl_bind {α β : Type} {x : Option α} {f : α → Option β} {a : α} {r : β} (h : x = some a) (k : f a = some r) : x.bind f = some r := by rw [h]; exact k
theorem pl_rd_nat (l : List Int) (i : Nat) : rd l (i : Int) = l.getD i 0 := by simp [rd]
theorem pl_rd_eq (l : List Int) (i : Int) (n : Nat) (h : i = n) : rd l i = l.getD n 0 := by subst h; exact pl_rd_nat l n

theorem pl_rd54 (l : List S54) (i : Nat) (h : i < l.length) : rd_T54 l (i : Int) = l[i] := by
  unfold rd_T54
  rw [Int.toNat_natCast, List.getD_eq_getElem?_getD, List.getElem?_eq_getElem h]; rfl

theorem pl_same_l (a : List S54) (hn : a.length < 9223372036854775807) : ∀ (d k i : Nat), i + d = a.length → d < k → bilgeref28_Same.l0 k a a i = some true := by
  intro d
  induction d with
  | zero =>
    intro k i hi hk
    obtain ⟨k, rfl⟩ : ∃ m, k = m + 1 := ⟨k - 1, by omega⟩
    simp only [bilgeref28_Same.l0]
    rw [if_neg (by omega)]
  | succ d ih =>
    intro k i hi hk
    obtain ⟨k, rfl⟩ : ∃ m, k = m + 1 := ⟨k - 1, by omega⟩
    simp only [bilgeref28_Same.l0]
    rw [if_pos (by omega), if_pos (by omega), if_pos (by omega), if_neg (by simp), pl_w64 (by omega)]
    exact ih k (i + 1) (by omega) (by omega)
theorem pl_same (a : List S54) (hn : a.length < 9223372036854775807) (k : Nat) (hk : a.length < k) : bilgeref28_Same.f k a a = some true := by
  unfold bilgeref28_Same.f
  rw [if_pos rfl]
  exact pl_same_l a hn a.length k 0 (by omega) hk

def pl_ev (x : S54) : S52 := ⟨1, x.f0, x.f1, x.f2, 0, 0⟩
theorem pl_events_l (l : List S54) (hn : l.length < 1000000) : ∀ (d k i : Nat), i + d = l.length → d < k → wire_Events.l0 k ((l.take i).map pl_ev) l (l.length : Int) i = some (l.map pl_ev) := by
  intro d
  induction d with
  | zero =>
    intro k i hi hk
    obtain ⟨k, rfl⟩ : ∃ m, k = m + 1 := ⟨k - 1, by omega⟩
    simp only [wire_Events.l0]
    rw [if_neg (by omega), List.take_of_length_le (by omega)]
  | succ d ih =>
    intro k i hi hk
    obtain ⟨k, rfl⟩ : ∃ m, k = m + 1 := ⟨k - 1, by omega⟩
    simp only [wire_Events.l0]
    rw [if_pos (by omega), if_pos (by omega), if_pos (by omega), if_pos (by rw [List.length_map, List.length_take]; omega), pl_w64 (by omega), pl_rd54 l i (by omega)]
    have e : (l.take i).map pl_ev ++ [(⟨1, l[i].f0, l[i].f1, l[i].f2, 0, 0⟩ : S52)] = (l.take (i + 1)).map pl_ev := by
      rw [List.take_succ_eq_append_getElem (by omega), List.map_append]; rfl
    rw [e]
    exact ih k (i + 1) (by omega) (by omega)
theorem pl_events (l : List S54) (hn : l.length < 1000000) (k : Nat) (hk : l.length < k) : wire_Events.f k l = some (l.map pl_ev) := by
  unfold wire_Events.f
  exact pl_events_l l hn l.length k 0 (by omega) hk

def pl_cl (a : Int) : Int := if a < 0 then 0 else if a > 1099511627776 then 1099511627776 else a
theorem pl_cl_bd (a : Int) : 0 ≤ pl_cl a ∧ pl_cl a ≤ 1099511627776 := by unfold pl_cl; repeat' split <;> omega
theorem pl_cl_min {a : Int} (h : 0 ≤ a) : pl_cl a = min a 1099511627776 := by unfold pl_cl; repeat' split <;> omega
theorem pl_clamp (a : Int) : clock_Clamp.f a = some (pl_cl a) := rfl

theorem pl_clockadd (a b : Int) : clock_Add.f a b = some (pl_cl (pl_cl a + pl_cl b)) := by
  have h1 := pl_cl_bd a
  have h2 := pl_cl_bd b
  unfold clock_Add.f
  rw [pl_clamp, pl_clamp, Option.bind_some, Option.bind_some, pl_w64 (by omega), pl_clamp]; rfl

theorem pl_refclamp (a : Int) : bilgeref05_Clamp.f a = some (pl_cl a) := by
  unfold bilgeref05_Clamp.f pl_cl
  by_cases h : a < 0
  · rw [if_pos h, if_pos h]
  · rw [if_neg h, if_neg h]
    by_cases g : a > 1099511627776
    · rw [if_pos g, if_pos g]
    · rw [if_neg g, if_neg g]

theorem pl_refadd (a b : Int) : bilgeref05_Add.f a b = some (pl_cl (pl_cl a + pl_cl b)) := by
  have h1 := pl_cl_bd a
  have h2 := pl_cl_bd b
  unfold bilgeref05_Add.f
  rw [pl_refclamp, pl_refclamp, Option.bind_some, Option.bind_some, pl_w64 (by omega), pl_refclamp]; rfl

def pl_ok (c s l t : Int) : Prop := 1 ≤ c ∧ c ≤ s ∧ s < l ∧ l ≤ 16777216 ∧ 0 ≤ t ∧ t ≤ 16777216
instance (c s l t : Int) : Decidable (pl_ok c s l t) := by unfold pl_ok; infer_instance
theorem pl_clockright (c s l t : Int) : clock_Right.f c s l t = some (decide (pl_ok c s l t)) := by
  unfold clock_Right.f
  by_cases h1 : 1 ≤ c
  · rw [if_pos h1]
    by_cases h2 : c ≤ s
    · rw [if_pos h2]
      by_cases h3 : s < l
      · rw [if_pos h3]
        by_cases h4 : l ≤ 16777216
        · rw [if_pos h4]
          by_cases h5 : 0 ≤ t
          · rw [if_pos h5]; simp [pl_ok, h1, h2, h3, h4, h5]
          · rw [if_neg h5]; simp [pl_ok, h5]
        · rw [if_neg h4]; simp [pl_ok, h4]
      · rw [if_neg h3]; simp [pl_ok, h3]
    · rw [if_neg h2]; simp [pl_ok, h2]
  · rw [if_neg h1]; simp [pl_ok, h1]

theorem pl_refright (c s l t : Int) : bilgeref05_Right.f c s l t = some (decide (pl_ok c s l t)) := by
  unfold bilgeref05_Right.f
  by_cases h1 : c ≥ 1
  · rw [if_pos h1]
    by_cases h2 : s ≥ c
    · rw [if_pos h2]
      by_cases h3 : l > s
      · rw [if_pos h3]
        by_cases h4 : t ≥ 0
        · rw [if_pos h4]
          by_cases h5 : l ≤ 16777216
          · rw [if_pos h5]
            exact congrArg some (decide_eq_decide.2 (by unfold pl_ok; omega))
          · rw [if_neg h5]; exact congrArg some (decide_eq_false (by unfold pl_ok; omega)).symm
        · rw [if_neg h4]; exact congrArg some (decide_eq_false (by unfold pl_ok; omega)).symm
      · rw [if_neg h3]; exact congrArg some (decide_eq_false (by unfold pl_ok; omega)).symm
    · rw [if_neg h2]; exact congrArg some (decide_eq_false (by unfold pl_ok; omega)).symm
  · rw [if_neg h1]; exact congrArg some (decide_eq_false (by unfold pl_ok; omega)).symm

def pl_of (c : Int) : List Int → Int → List S54
  | [], _ => []
  | b :: r, at_ => ⟨pl_cl (pl_cl at_ + pl_cl c), b, false⟩ :: pl_of c r (pl_cl (pl_cl at_ + pl_cl c))
theorem pl_of_len (c : Int) : ∀ (l : List Int) (a : Int), (pl_of c l a).length = l.length
  | [], _ => rfl
  | b :: r, a => by rw [pl_of, List.length_cons, List.length_cons, pl_of_len c r]
theorem pl_of_ref (c s l t : Int) (fr : List Int) (hn : fr.length < 1000000) : ∀ (d k i : Nat) (a : Int) (acc : List S54), i + d = fr.length → d < k → acc.length = i →
    bilgeref28_Of.l0 k fr a acc i c s l t = some (acc ++ pl_of c (fr.drop i) a) := by
  intro d
  induction d with
  | zero =>
    intro k i a acc hi hk ha
    obtain ⟨k, rfl⟩ : ∃ m, k = m + 1 := ⟨k - 1, by omega⟩
    simp only [bilgeref28_Of.l0]
    rw [if_neg (by omega), List.drop_of_length_le (by omega), pl_of, List.append_nil]
  | succ d ih =>
    intro k i a acc hi hk ha
    obtain ⟨k, rfl⟩ : ∃ m, k = m + 1 := ⟨k - 1, by omega⟩
    simp only [bilgeref28_Of.l0]
    rw [if_pos (by omega)]
    refine pl_bind (pl_refadd a c) ?_
    rw [if_pos (by omega), if_pos (by omega), pl_w64 (by omega)]
    have h := ih k (i + 1) (pl_cl (pl_cl a + pl_cl c)) (acc ++ [⟨pl_cl (pl_cl a + pl_cl c), rd fr i, false⟩]) (by omega) (by omega) (by rw [List.length_append, ha]; rfl)
    rw [show ((i : Int) + 1) = ((i + 1 : Nat) : Int) by omega, h]
    rw [List.drop_eq_getElem_cons (by omega : i < fr.length), pl_of, pl_rd_nat, List.getD_eq_getElem?_getD, List.getElem?_eq_getElem (by omega : i < fr.length), List.append_assoc]; rfl
theorem pl_of_prog (c s l t : Int) (fr : List Int) (hn : fr.length < 1000000) : ∀ (d k i : Nat) (a : Int) (xs : List S54), i + d = fr.length → d < k → xs.length = fr.length →
    wire_Of.l0 k a xs fr (fr.length : Int) i c s l t = some (xs.take i ++ pl_of c (fr.drop i) a) := by
  intro d
  induction d with
  | zero =>
    intro k i a xs hi hk ha
    obtain ⟨k, rfl⟩ : ∃ m, k = m + 1 := ⟨k - 1, by omega⟩
    simp only [wire_Of.l0]
    rw [if_neg (by omega), List.drop_of_length_le (by omega), pl_of, List.append_nil, List.take_of_length_le (by omega)]
  | succ d ih =>
    intro k i a xs hi hk ha
    obtain ⟨k, rfl⟩ : ∃ m, k = m + 1 := ⟨k - 1, by omega⟩
    simp only [wire_Of.l0]
    rw [if_pos (by omega), if_pos (by omega), if_pos (by omega)]
    refine pl_bind (pl_clockadd a c) ?_
    rw [if_pos (by omega), pl_w64 (by omega), Int.toNat_natCast]
    have h := ih k (i + 1) (pl_cl (pl_cl a + pl_cl c)) (xs.set i ⟨pl_cl (pl_cl a + pl_cl c), rd fr i, false⟩) (by omega) (by omega) (by rw [List.length_set, ha])
    rw [show ((i : Int) + 1) = ((i + 1 : Nat) : Int) by omega, h]
    rw [List.drop_eq_getElem_cons (by omega : i < fr.length), pl_of, pl_rd_nat, List.getD_eq_getElem?_getD, List.getElem?_eq_getElem (by omega : i < fr.length)]
    rw [List.take_succ_eq_append_getElem (by rw [List.length_set]; omega), List.take_set_of_le (by omega), List.getElem_set_self, List.append_assoc]; rfl
theorem pl_wireof (a c : Int) (fr : List Int) (hn : fr.length < 1000000) (k : Nat) (hk : fr.length + 2 ≤ k) :
    ∃ x, wire_Of.f k fr a c 3 5 0 = some x ∧ bilgeref28_Of.f k fr a c 3 5 0 = some x ∧ x.length ≤ fr.length := by
  obtain ⟨k, rfl⟩ : ∃ m, k = m + 1 := ⟨k - 1, by omega⟩
  unfold wire_Of.f bilgeref28_Of.f
  have jn : wire_Of.j0 (k + 1) fr a true c 3 5 0 = some [] := by simp only [wire_Of.j0]; rw [if_pos trivial]
  have jr : bilgeref28_Of.j0 (k + 1) fr a true c 3 5 0 = some [] := by simp only [bilgeref28_Of.j0]; rw [if_pos trivial]
  by_cases hok : pl_ok c 3 5 0
  · have hd : decide (pl_ok c 3 5 0) = true := decide_eq_true hok
    by_cases h : a < 0 ∨ a > 1099511627776
    · refine ⟨[], ?_, ?_, Nat.zero_le _⟩
      · refine pl_bind (pl_clockright c 3 5 0) ?_
        rw [if_pos hd]
        refine pl_bind (pl_clamp a) ?_
        rw [show (pl_cl a != a) = true by rw [bne_iff_ne]; unfold pl_cl; repeat' split <;> omega]
        exact jn
      · refine pl_bind (pl_refright c 3 5 0) ?_
        rw [if_pos hd]
        by_cases h0 : a < 0
        · rw [if_pos h0]; exact jr
        · rw [if_neg h0, show decide (a > 1099511627776) = true from decide_eq_true (by omega)]; exact jr
    · refine ⟨pl_of c fr a, ?_, ?_, by rw [pl_of_len]; omega⟩
      · refine pl_bind (pl_clockright c 3 5 0) ?_
        rw [if_pos hd]
        refine pl_bind (pl_clamp a) ?_
        rw [show (pl_cl a != a) = false by rw [bne_eq_false_iff_eq]; unfold pl_cl; repeat' split <;> omega]
        simp only [wire_Of.j0]
        rw [if_neg (by simp), if_pos (by omega), if_pos (by omega), Int.toNat_natCast]
        have h := pl_of_prog c 3 5 0 fr hn fr.length k 0 a (List.replicate fr.length z54) (by omega) (by omega) List.length_replicate
        rw [List.take_zero, List.nil_append, List.drop_zero] at h
        exact h
      · refine pl_bind (pl_refright c 3 5 0) ?_
        rw [if_pos hd, if_neg (by omega), show decide (a > 1099511627776) = false from decide_eq_false (by omega)]
        simp only [bilgeref28_Of.j0]
        rw [if_neg (by simp)]
        have h := pl_of_ref c 3 5 0 fr hn fr.length k 0 a [] (by omega) (by omega) rfl
        rw [List.nil_append, List.drop_zero] at h
        exact h
  · have hd : ¬ decide (pl_ok c 3 5 0) = true := by rw [decide_eq_true_eq]; exact hok
    exact ⟨[], pl_bind (pl_clockright c 3 5 0) (by rw [if_neg hd]; exact jn), pl_bind (pl_refright c 3 5 0) (by rw [if_neg hd]; exact jr), Nat.zero_le _⟩

theorem pl_delay_l (l : List S54) (p d : Int) : ∀ (n k i : Nat) (xs : List S54), i + n = xs.length → n < k → xs.length < 1000000 →
    ∃ ys, bilgeref28_Delay.l0 k p d xs i = some ys ∧ ys.length = xs.length ∧ ∀ j : Nat, j < xs.length → rd_T54 ys j = if i ≤ j ∧ 0 ≤ p ∧ p ≤ j then delayF d (rd_T54 xs j) else rd_T54 xs j := by
  intro n
  induction n with
  | zero =>
    intro k i xs hi hk hn
    obtain ⟨k, rfl⟩ : ∃ m, k = m + 1 := ⟨k - 1, by omega⟩
    simp only [bilgeref28_Delay.l0]
    rw [if_neg (by omega)]
    exact ⟨xs, rfl, rfl, fun j hj => by rw [if_neg (by omega)]⟩
  | succ n ih =>
    intro k i xs hi hk hn
    obtain ⟨k, rfl⟩ : ∃ m, k = m + 1 := ⟨k - 1, by omega⟩
    simp only [bilgeref28_Delay.l0]
    rw [if_pos (by omega)]
    have e1 : ((i : Int) + 1) = ((i + 1 : Nat) : Int) := by omega
    by_cases h : 0 ≤ p ∧ p ≤ i
    · rw [if_pos h.1, if_pos h.2, if_pos (by omega), pl_refadd, Option.bind_some, pl_w64 (by omega), Int.toNat_natCast, e1]
      obtain ⟨ys, h1, h2, h3⟩ := ih k (i + 1) (xs.set i ⟨pl_cl (pl_cl (rd_T54 xs i).f0 + pl_cl d), (rd_T54 xs i).f1, (rd_T54 xs i).f2⟩) (by rw [List.length_set]; omega) (by omega) (by rw [List.length_set]; omega)
      rw [List.length_set] at h2 h3
      refine ⟨ys, h1, h2, fun j hj => ?_⟩
      rw [h3 j hj, rd_set xs i _ j (by omega)]
      by_cases hj2 : j = i
      · rw [if_neg (by omega), if_pos hj2, if_pos (by omega), hj2]
        unfold delayF
        rw [pl_clockadd]; rfl
      · rw [if_neg hj2]
        by_cases hc : i + 1 ≤ j ∧ 0 ≤ p ∧ p ≤ j
        · rw [if_pos hc, if_pos (by omega)]
        · rw [if_neg hc, if_neg (by omega)]
    · have hno : (if p ≥ 0 then (if (i : Int) ≥ p then (if 0 ≤ (i : Int) then ((bilgeref05_Add.f ((rd_T54 xs i).f0) d).bind fun t158 => (bilgeref28_Delay.l0 k p d (xs.set (i : Int).toNat (⟨t158, (rd_T54 xs i).f1, (rd_T54 xs i).f2⟩ : S54)) (wrap64 ((i : Int) + 1)))) else (none)) else (bilgeref28_Delay.l0 k p d xs (wrap64 ((i : Int) + 1)))) else (bilgeref28_Delay.l0 k p d xs (wrap64 ((i : Int) + 1)))) = bilgeref28_Delay.l0 k p d xs ((i + 1 : Nat) : Int) := by
        rw [pl_w64 (by omega), e1]
        by_cases hp : p ≥ 0
        · rw [if_pos hp, if_neg (by omega)]
        · rw [if_neg hp]
      rw [hno]
      obtain ⟨ys, h1, h2, h3⟩ := ih k (i + 1) xs (by omega) (by omega) hn
      refine ⟨ys, h1, h2, fun j hj => ?_⟩
      rw [h3 j hj]
      by_cases hc : i + 1 ≤ j ∧ 0 ≤ p ∧ p ≤ j
      · rw [if_pos hc, if_pos (by omega)]
      · rw [if_neg hc, if_neg (by omega)]
theorem pl_ext54 {a b : List S54} (hl : a.length = b.length) (h : ∀ j : Nat, j < a.length → rd_T54 a j = rd_T54 b j) : a = b := by
  apply List.ext_getElem hl
  intro j h1 h2
  have := h j h1
  rwa [pl_rd54 a j h1, pl_rd54 b j h2] at this
theorem pl_delay (l : List S54) (p d : Int) (hn : l.length < 1000000) (k : Nat) (hk : l.length < k) : wire_Delay.f l p d = some (delayL (delayF d) l p) ∧ bilgeref28_Delay.f k l p d = some (delayL (delayF d) l p) ∧ (delayL (delayF d) l p).length = l.length := by
  have hlen : (delayL (delayF d) l p).length = l.length := by
    unfold delayL
    split
    · rw [List.length_append, List.length_take, List.length_map, List.length_drop]; omega
    · rfl
  refine ⟨by unfold wire_Delay.f; rw [if_pos (by omega)], ?_, hlen⟩
  unfold bilgeref28_Delay.f
  refine pl_bind rfl ?_
  rw [if_pos (by rw [List.length_nil]; omega), List.nil_append]
  obtain ⟨ys, h1, h2, h3⟩ := pl_delay_l l p d l.length k 0 l (by omega) hk hn
  rw [show (0 : Int) = ((0 : Nat) : Int) from rfl, h1]
  congr 1
  refine pl_ext54 (by rw [h2, hlen]) (fun j hj => ?_)
  rw [h2] at hj
  rw [h3 j hj]
  unfold delayL
  by_cases hp : 0 ≤ p ∧ p < (l.length : Int)
  · rw [if_pos hp]
    obtain ⟨q, rfl⟩ := Int.eq_ofNat_of_zero_le hp.1
    rw [Int.toNat_natCast]
    have hl2 : j < (l.take q ++ (l.drop q).map (delayF d)).length := by rw [List.length_append, List.length_take, List.length_map, List.length_drop]; omega
    rw [pl_rd54 _ j hl2, pl_rd54 l j hj]
    by_cases hc : j < q
    · rw [if_neg (by omega), List.getElem_append_left (by rw [List.length_take]; omega), List.getElem_take]
    · rw [if_pos (by omega), List.getElem_append_right (by rw [List.length_take]; omega), List.getElem_map, List.getElem_drop]
      congr 2
      rw [List.length_take]; omega
  · rw [if_neg hp, if_neg (by omega)]

theorem pl_spoil (l : List S54) (p : Int) (hn : l.length < 1000000) : ∃ x, wire_Spoil.f l p = some x ∧ bilgeref28_Spoil.f l p = some x ∧ x.length = l.length := by
  refine ⟨withF (fun x => ⟨x.f0, x.f1, true⟩) l p, by unfold wire_Spoil.f; rw [if_pos (by omega)], ?_, by unfold withF; split <;> simp⟩
  unfold bilgeref28_Spoil.f
  refine pl_bind rfl ?_
  rw [if_pos (by rw [List.length_nil]; omega), List.nil_append]
  refine pl_bind rfl ?_
  unfold withF
  by_cases h0 : p ≥ 0
  · rw [if_pos h0]
    by_cases h1 : p < (l.length : Int)
    · rw [if_pos h1, if_pos h0, if_pos ⟨h0, h1⟩]
    · rw [if_neg h1, if_neg (fun h => h1 h.2)]
  · rw [if_neg h0, if_neg (fun h => h0 h.1)]

theorem pl_flip (l : List S54) (p b : Int) (hn : l.length < 1000000) : ∃ x, wire_Flip.f l p b = some x ∧ bilgeref28_Flip.f l p b = some x ∧ x.length = l.length := by
  refine ⟨withF (flipF b) l p, by unfold wire_Flip.f; rw [if_pos (by omega)], ?_, by unfold withF; split <;> simp⟩
  unfold bilgeref28_Flip.f
  refine pl_bind rfl ?_
  rw [if_pos (by rw [List.length_nil]; omega), List.nil_append]
  refine pl_bind rfl ?_
  unfold withF
  have hm : 0 ≤ Int.tmod (IntKind.u64.wrap b) 8 := by
    have h0 : 0 ≤ IntKind.u64.wrap b := by simp [IntKind.wrap, IntKind.signed, IntKind.bits]; omega
    rw [Int.tmod_eq_emod_of_nonneg h0]; omega
  by_cases h0 : p ≥ 0
  · rw [if_pos h0]
    by_cases h1 : p < (l.length : Int)
    · rw [if_pos h1, if_pos h0, if_pos hm, if_pos ⟨h0, h1⟩]; rfl
    · rw [if_neg h1, if_neg (fun h => h1 h.2)]
  · rw [if_neg h0, if_neg (fun h => h0 h.1)]

theorem pl_drop_l (l : List S54) (p : Int) (hn : l.length < 1000000) : ∀ (d k i : Nat) (acc : List S54), i + d = l.length → d < k → acc.length ≤ i →
    bilgeref28_Drop.l0 k l p acc i = some (acc ++ (if (i : Int) ≤ p ∧ p < (l.length : Int) then (l.drop i).eraseIdx (p.toNat - i) else l.drop i)) := by
  intro d
  induction d with
  | zero =>
    intro k i acc hi hk ha
    obtain ⟨k, rfl⟩ : ∃ m, k = m + 1 := ⟨k - 1, by omega⟩
    simp only [bilgeref28_Drop.l0]
    rw [if_neg (by omega), if_neg (by omega), List.drop_of_length_le (by omega), List.append_nil]
  | succ d ih =>
    intro k i acc hi hk ha
    obtain ⟨k, rfl⟩ : ∃ m, k = m + 1 := ⟨k - 1, by omega⟩
    simp only [bilgeref28_Drop.l0]
    rw [if_pos (by omega)]
    have e1 : wrap64 ((i : Int) + 1) = ((i + 1 : Nat) : Int) := by rw [pl_w64 (by omega)]; omega
    have e2 : l.drop i = l[i] :: l.drop (i + 1) := List.drop_eq_getElem_cons (by omega : i < l.length)
    by_cases hp : (i : Int) = p
    · rw [if_pos hp, e1, ih k (i + 1) acc (by omega) (by omega) (by omega), if_neg (by omega), if_pos (by omega), show p.toNat - i = 0 by omega, e2]; rfl
    · rw [if_neg hp, if_pos (by omega), if_pos (by omega), e1, ih k (i + 1) _ (by omega) (by omega) (by rw [List.length_append]; simp; omega), pl_rd54 l i (by omega)]
      by_cases hc : (i : Int) ≤ p ∧ p < (l.length : Int)
      · rw [if_pos (by omega), if_pos hc, e2, show p.toNat - i = (p.toNat - (i + 1)) + 1 by omega, List.eraseIdx_cons_succ, List.append_assoc]; rfl
      · rw [if_neg (by omega), if_neg hc, e2, List.append_assoc]; rfl
theorem pl_drop (l : List S54) (p : Int) (hn : l.length < 1000000) (k : Nat) (hk : l.length < k) : ∃ x, wire_Drop.f l p = some x ∧ bilgeref28_Drop.f k l p = some x ∧ x.length ≤ l.length := by
  refine ⟨_, by unfold wire_Drop.f; rw [if_pos (by omega)], ?_, by split; rw [List.length_eraseIdx]; split <;> omega; omega⟩
  unfold bilgeref28_Drop.f
  have h := pl_drop_l l p hn l.length k 0 [] (by omega) hk (by simp)
  rw [show (0 : Int) = ((0 : Nat) : Int) from rfl, h, List.nil_append, List.drop_zero, Nat.sub_zero]

theorem pl_sure28 (k : Nat) (hk : 60 ≤ k) : bilgelaw28_sure.f k = some true := at_rounds bilgelaw28_sure.mono hk (by decide +kernel)

theorem WireLays : bilgelaw28_WireLays.Pure := by
  intro fr l n hfr hl hn
  obtain ⟨K, hK⟩ : ∃ K : Nat, 3000 ≤ K := ⟨3000, by omega⟩
  have hmax : maxLen = 9223372036854775807 := rfl
  refine ⟨K + 2, ?_⟩
  unfold bilgelaw28_WireLays.f
  rw [pl_w64 (by omega)]
  by_cases hlen : fr.length + l.length > 600
  · rw [if_pos (by omega)]; exact pl_bind (pl_sure28 _ (by omega)) rfl
  · rw [if_neg (by omega)]
    have hev : ∀ (i : Nat) (hi : i < l.length), rd_T52 (l.map pl_ev) (i : Int) = pl_ev (l[i]'hi) := by
      intro i hi
      unfold rd_T52
      rw [Int.toNat_natCast, List.getD_eq_getElem?_getD, List.getElem?_eq_getElem (by rw [List.length_map]; exact hi), Option.getD_some, List.getElem_map]
    have tail : ∀ (c : Int) (k : Nat), 2000 ≤ k → ∀ (i : Nat), i = l.length → bilgelaw28_WireLays.l0 (k + 1) fr l n.f0 n.f1 n.f2 (l.map pl_ev) (i : Int) c 3 5 0 = some true := by
      intro c k hk i hi
      simp only [bilgelaw28_WireLays.l0]
      rw [if_neg (by omega)]
      obtain ⟨x1, h1, h2, h3⟩ := pl_wireof n.f0 c fr (by omega) k (by omega)
      refine pl_bind h1 (pl_bind h2 (pl_bind (pl_same x1 (by omega) k (by omega)) ?_))
      rw [if_pos rfl]
      obtain ⟨h4, h5, h6⟩ := pl_delay l n.f1 n.f2 (by omega) k (by omega)
      refine pl_bind h4 (pl_bind h5 (pl_bind (pl_same _ (by omega) k (by omega)) ?_))
      rw [if_pos rfl]
      obtain ⟨x2, h7, h8, h9⟩ := pl_spoil l n.f1 (by omega)
      refine pl_bind h7 (pl_bind h8 (pl_bind (pl_same _ (by omega) k (by omega)) ?_))
      rw [if_pos rfl]
      obtain ⟨x3, h10, h11, h12⟩ := pl_flip l n.f1 n.f2 (by omega)
      refine pl_bind h10 (pl_bind h11 (pl_bind (pl_same _ (by omega) k (by omega)) ?_))
      rw [if_pos rfl]
      obtain ⟨x4, h13, h14, h15⟩ := pl_drop l n.f1 (by omega) k (by omega)
      refine pl_bind h13 (pl_bind h14 (pl_bind (pl_same _ (by omega) k (by omega)) ?_))
      rw [if_pos rfl]
      exact pl_bind (pl_sure28 _ (by omega)) rfl
    have loop : ∀ (c : Int) (d k i : Nat), i + d = l.length → 2000 + d ≤ k → bilgelaw28_WireLays.l0 (k + 1) fr l n.f0 n.f1 n.f2 (l.map pl_ev) (i : Int) c 3 5 0 = some true := by
      intro c d
      induction d with
      | zero => intro k i hi hk; exact tail c k (by omega) i (by omega)
      | succ d ih =>
        intro k i hi hk
        simp only [bilgelaw28_WireLays.l0]
        rw [if_pos (by omega), if_pos (by omega), if_pos (by rw [List.length_map]; omega), hev i (by omega), pl_rd54 l i (by omega), if_neg (by simp [pl_ev]), pl_w64 (by omega)]
        obtain ⟨k, rfl⟩ : ∃ m, k = m + 1 := ⟨k - 1, by omega⟩
        exact ih k (i + 1) (by omega) (by omega)
    have body : ∀ c : Int, bilgelaw28_WireLays.j0 (K + 2) fr l n.f0 n.f1 n.f2 c 3 5 0 = some true := by
      intro c
      simp only [bilgelaw28_WireLays.j0]
      refine pl_bind (pl_events l (by omega) (K + 1) (by omega)) ?_
      rw [if_pos (by rw [List.length_map])]
      exact loop c l.length K 0 (by omega) (by omega)
    split
    · exact body n.f2
    · exact body 2

end Go.Proofs.Ytbghnfhjaolhaaa.Pure

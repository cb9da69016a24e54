/- Layer 36's law TextTells of the given program: any frame as text, and what any text says, or the error. -/
import Derived.Test.YtballgciakljnaaPTextTellsx
import Derived.IntWalk
set_option linter.unusedVariables false
set_option linter.unusedSimpArgs false
namespace Go.Proofs.Ytballgciakljnaa.Pure
open Go.RowKit Go.Proofs.Ytballgciakljnaa.PTextTells Go.Proofs.YtballgciakljnaaW.PrintWords Go.Proofs.YtballgciakljnaaW.PrintLast Go.Proofs.YtballgciakljnaaW.PrintMore Go.Proofs.YtballgciakljnaaM

theorem pl_sure36 (k : Nat) (hk : 60 ≤ k) : bilgelaw36_sure.f k = some true := at_rounds bilgelaw36_sure.mono hk (by decide +kernel)

theorem pl_w64 {i : Int} (h : -9223372036854775808 ≤ i ∧ i ≤ 9223372036854775807) : wrap64 i = i := by unfold wrap64; omega
theorem pl_bind {α β : Type} {x : Option α} {f : α → Option β} {a : α} {r : β} (h : x = some a) (k : f a = some r) : x.bind f = some r := by rw [h]; exact k
theorem pl_rd_nat (l : List Int) (i : Nat) : rd l (i : Int) = l.getD i 0 := by simp [rd]
theorem pl_rd_eq (l : List Int) (i : Int) (n : Nat) (h : i = n) : rd l i = l.getD n 0 := by subst h; exact pl_rd_nat l n

def hexV (c : Int) : Int := if 48 ≤ c ∧ c ≤ 57 then c - 48 else if 65 ≤ c ∧ c ≤ 70 then c - 55 else -1
theorem pl_index (c : Int) (h : 0 ≤ c ∧ c ≤ 255) : strings_IndexByte.f (⟨#[48, 49, 50, 51, 52, 53, 54, 55, 56, 57, 65, 66, 67, 68, 69, 70]⟩ : ByteArray) c = some (hexV c) := by
  obtain ⟨m, rfl⟩ : ∃ m : Nat, c = (m : Int) := ⟨c.toNat, by omega⟩
  have hk : ∀ k : Fin 256, strings_IndexByte.f (⟨#[48, 49, 50, 51, 52, 53, 54, 55, 56, 57, 65, 66, 67, 68, 69, 70]⟩ : ByteArray) (k.val : Int) = some (hexV (k.val : Int)) := by decide +kernel
  exact hk ⟨m, by omega⟩
theorem pl_hexV_bd (c : Int) : -1 ≤ hexV c ∧ hexV c ≤ 15 := by unfold hexV; split; · omega
                                                               split <;> omega
theorem pl_hex_dig (n : Int) (h : 0 ≤ n ∧ n < 16) : hexV (digF n) = n := by
  unfold hexV digF
  by_cases h1 : n < 10
  · rw [if_pos h1, if_pos (by omega)]; omega
  · rw [if_neg h1, if_neg (by omega), if_pos (by omega)]; omega
theorem pl_dig_hex (c : Int) (h : ¬ hexV c < 0) : digF (hexV c) = c := by
  unfold hexV at h ⊢
  unfold digF
  by_cases h1 : 48 ≤ c ∧ c ≤ 57
  · rw [if_pos h1, if_pos (by omega)]; omega
  · rw [if_neg h1] at h ⊢
    by_cases h2 : 65 ≤ c ∧ c ≤ 70
    · rw [if_pos h2, if_neg (by omega)]; omega
    · rw [if_neg h2] at h; omega
theorem pl_or16 (a b : Int) (ha : 0 ≤ a ∧ a ≤ 15) (hb : 0 ≤ b ∧ b ≤ 15) : Go.bits .or .i64 (wrap64 (a * 16)) b % 256 = a * 16 + b := by
  obtain ⟨m, rfl⟩ : ∃ m : Nat, a = (m : Int) := ⟨a.toNat, by omega⟩
  obtain ⟨n, rfl⟩ : ∃ n : Nat, b = (n : Int) := ⟨b.toNat, by omega⟩
  have hk : ∀ x y : Fin 16, Go.bits .or .i64 (wrap64 ((x.val : Int) * 16)) (y.val : Int) % 256 = (x.val : Int) * 16 + (y.val : Int) := by decide +kernel
  exact hk ⟨m, by omega⟩ ⟨n, by omega⟩
theorem pl_bt (S : ByteArray) (i : Nat) : bt S (i : Int) = (numsOf S).getD i 0 := by
  unfold bt numsOf
  rw [List.getD_eq_getElem?_getD, List.getElem?_map]
  by_cases h : i < S.size
  · rw [dif_pos (by simpa using h)]
    have h2 : i < S.data.toList.length := by rw [Array.length_toList]; exact h
    rw [List.getElem?_eq_getElem h2]
    rfl
  · rw [dif_neg (by simpa using h)]
    have h2 : ¬ i < S.data.toList.length := by rw [Array.length_toList]; exact h
    rw [List.getElem?_eq_none (by omega)]
    rfl
def pairsF : List Int → Option (List Int)
  | a :: b :: r => if hexV a < 0 ∨ hexV b < 0 then none else (pairsF r).map (fun l => (hexV a * 16 + hexV b) :: l)
  | _ => some []
theorem pl_pairs_hex (l : List Int) (h : ∀ x ∈ l, 0 ≤ x ∧ x ≤ 255) : pairsF (hexF l) = some l := by
  induction l with
  | nil => rfl
  | cons x l ih =>
    have hx := h x (by simp)
    have e : hexF (x :: l) = digF (x / 16) :: digF (x % 16) :: hexF l := rfl
    rw [e, pairsF, pl_hex_dig _ (by omega), pl_hex_dig _ (by omega), if_neg (by omega), ih (fun y hy => h y (by simp [hy]))]
    show some (_ :: l) = some (x :: l)
    rw [show x / 16 * 16 + x % 16 = x by omega]
theorem pl_hex_pairs : ∀ (n : Nat) (c xs : List Int), c.length ≤ n → pairsF c = some xs → xs.length = c.length / 2 ∧ (∀ x ∈ xs, 0 ≤ x ∧ x ≤ 255) ∧ (c.length % 2 = 0 → hexF xs = c) := by
  intro n
  induction n with
  | zero =>
    intro c xs hc h
    obtain rfl : c = [] := List.eq_nil_of_length_eq_zero (by omega)
    obtain rfl : [] = xs := Option.some.inj h
    exact ⟨rfl, by simp, fun _ => rfl⟩
  | succ n ih =>
    intro c xs hc h
    match c with
    | [] =>
      obtain rfl : [] = xs := Option.some.inj h
      exact ⟨rfl, by simp, fun _ => rfl⟩
    | [a] =>
      obtain rfl : [] = xs := Option.some.inj h
      exact ⟨by simp, by simp, fun h2 => by simp at h2⟩
    | a :: b :: r =>
      rw [pairsF] at h
      by_cases hn : hexV a < 0 ∨ hexV b < 0
      · rw [if_pos hn] at h; cases h
      · rw [if_neg hn] at h
        obtain ⟨l, hl, rfl⟩ := Option.map_eq_some_iff.1 h
        obtain ⟨h1, h2, h3⟩ := ih r l (by simp at hc; omega) hl
        have ba := pl_hexV_bd a
        have bb := pl_hexV_bd b
        refine ⟨by simp only [List.length_cons, h1]; omega, ?_, fun he => ?_⟩
        · intro x hx
          rcases List.mem_cons.1 hx with rfl | hx
          · omega
          · exact h2 x hx
        · have e : hexF ((hexV a * 16 + hexV b) :: l) = digF ((hexV a * 16 + hexV b) / 16) :: digF ((hexV a * 16 + hexV b) % 16) :: hexF l := rfl
          rw [e, h3 (by simp only [List.length_cons] at he; omega), show (hexV a * 16 + hexV b) / 16 = hexV a by omega, show (hexV a * 16 + hexV b) % 16 = hexV b by omega, pl_dig_hex a (by omega), pl_dig_hex b (by omega)]

def bytesF (c : List Int) : List Int × Bool := match pairsF c with | none => ([], false) | some xs => (xs, decide (c.length % 2 = 0))
theorem pl_bytes_loop (S : ByteArray) (hn : S.size < 100000) : ∀ (d k i : Nat) (done : List Int), i + d = S.size / 2 → d < k → done.length = i →
    text_bytes.l0 k S (done ++ List.replicate d 0) ((S.size / 2 : Nat) : Int) (i : Int) = some (match pairsF ((numsOf S).drop (2 * i)) with | none => ([], false) | some xs => (done ++ xs, decide (S.size % 2 = 0))) := by
  intro d
  induction d with
  | zero =>
    intro k i done hi hk hd
    obtain ⟨k, rfl⟩ : ∃ m, k = m + 1 := ⟨k - 1, by omega⟩
    simp only [text_bytes.l0]
    rw [if_neg (by omega)]
    have hl : ((numsOf S).drop (2 * i)).length ≤ 1 := by rw [List.length_drop, numsOf_size]; omega
    have hp : pairsF ((numsOf S).drop (2 * i)) = some [] := by
      match hc : (numsOf S).drop (2 * i) with
      | [] => rfl
      | [a] => rfl
      | a :: b :: r => rw [hc] at hl; simp at hl
    rw [hp]
    simp only [List.replicate_zero, List.append_nil]
    congr 2
    rw [Bool.eq_iff_iff, beq_iff_eq, decide_eq_true_eq]
    omega
  | succ d ih =>
    intro k i done hi hk hd
    obtain ⟨k, rfl⟩ : ∃ m, k = m + 1 := ⟨k - 1, by omega⟩
    simp only [text_bytes.l0]
    have h1 : 2 * i < (numsOf S).length := by rw [numsOf_size]; omega
    have h2 : 2 * i + 1 < (numsOf S).length := by rw [numsOf_size]; omega
    obtain ⟨a, ha⟩ : ∃ a, (numsOf S)[2 * i] = a := ⟨_, rfl⟩
    obtain ⟨b, hb⟩ : ∃ b, (numsOf S)[2 * i + 1] = b := ⟨_, rfl⟩
    have hab := numsOf_bd S a (ha ▸ List.getElem_mem h1)
    have hbb := numsOf_bd S b (hb ▸ List.getElem_mem h2)
    have ea : bt S (wrap64 (2 * (i : Int))) = a := by
      rw [pl_w64 (by omega), show (2 * (i : Int)) = ((2 * i : Nat) : Int) by omega, pl_bt, getD_at _ _ h1, ha]
    have eb : bt S (wrap64 (wrap64 (2 * (i : Int)) + 1)) = b := by
      rw [pl_w64 (i := 2 * (i : Int)) (by omega), pl_w64 (by omega), show (2 * (i : Int) + 1) = ((2 * i + 1 : Nat) : Int) by omega, pl_bt, getD_at _ _ h2, hb]
    rw [ea, eb, pl_w64 (i := 2 * (i : Int)) (by omega), pl_w64 (i := 2 * (i : Int) + 1) (by omega), if_pos (by omega), if_pos (by omega), if_pos (by omega)]
    refine pl_bind (pl_index a hab) ?_
    rw [if_pos (by omega), if_pos (by omega)]
    refine pl_bind (pl_index b hbb) ?_
    have ed : (numsOf S).drop (2 * i) = a :: b :: (numsOf S).drop (2 * (i + 1)) := by
      rw [List.drop_eq_getElem_cons h1, List.drop_eq_getElem_cons h2, ha, hb, show 2 * i + 1 + 1 = 2 * (i + 1) by omega]
    rw [ed, pairsF]
    by_cases q1 : hexV a < 0
    · rw [if_pos q1, if_pos (Or.inl q1)]
    · rw [if_neg q1]
      by_cases q2 : hexV b < 0
      · rw [if_pos q2, if_pos (Or.inr q2)]
      · have ba := pl_hexV_bd a
        have bb := pl_hexV_bd b
        rw [if_neg q2, if_neg (show ¬ (hexV a < 0 ∨ hexV b < 0) by omega), if_pos (by omega), if_pos (by rw [List.length_append, List.length_replicate]; omega), Int.toNat_natCast, pl_or16 (hexV a) (hexV b) (by omega) (by omega), pl_w64 (i := (i : Int) + 1) (by omega)]
        have es : (done ++ List.replicate (d + 1) 0).set i (hexV a * 16 + hexV b) = (done ++ [hexV a * 16 + hexV b]) ++ List.replicate d 0 := by
          rw [List.set_append_right _ _ (by omega), show i - done.length = 0 by omega, List.replicate_succ, List.set_cons_zero, List.append_assoc]; rfl
        rw [es]
        have hih := ih k (i + 1) (done ++ [hexV a * 16 + hexV b]) (by omega) (by omega) (by rw [List.length_append, hd]; rfl)
        rw [show ((i + 1 : Nat) : Int) = (i : Int) + 1 by omega] at hih
        rw [hih]
        cases pairsF ((numsOf S).drop (2 * (i + 1))) with
        | none => rfl
        | some xs => simp
theorem pl_textbytes (S : ByteArray) (hn : S.size < 100000) (k : Nat) (hk : S.size < k) : text_bytes.f k S = some (bytesF (numsOf S)) := by
  unfold text_bytes.f
  have e : ((S.size : Int) / 2) = ((S.size / 2 : Nat) : Int) := by omega
  rw [e, pl_w64 (by omega), if_pos (by omega), Int.toNat_natCast, if_pos (by omega)]
  refine pl_bind rfl ?_
  rw [List.length_replicate]
  have h := pl_bytes_loop S hn (S.size / 2) k 0 [] (by omega) (by omega) rfl
  rw [List.nil_append, List.drop_zero] at h
  refine Eq.trans h ?_
  unfold bytesF
  cases pairsF (numsOf S) with
  | none => rfl
  | some xs => rw [numsOf_size]; rfl

theorem pl_u8 {l : List Int} (h : ∀ x ∈ l, (Lit.int .u8 x).wf = true) : ∀ x ∈ l, 0 ≤ x ∧ x ≤ 255 := fun x hx => wf_u8 (h x hx)
theorem pl_sum_bd {l : List Int} (h : ∀ x ∈ l, 0 ≤ x ∧ x ≤ 255) : 0 ≤ l.sum ∧ l.sum ≤ 255 * l.length := by
  induction l with
  | nil => simp
  | cons a l ih =>
    have h1 := h a (by simp)
    have h2 := ih (fun x hx => h x (by simp [hx]))
    simp only [List.sum_cons, List.length_cons]
    omega

theorem pl_lrccheck (l : List Int) : lrc_Check.f l = some (decide (0 < l.length ∧ l.sum % 256 = 0)) := by
  unfold lrc_Check.f
  by_cases h : 0 < l.length
  · rw [if_pos (by omega)]
    simp only [lrc_Sum.f, Option.bind_some]
    congr 1
    rw [Bool.eq_iff_iff]
    simp [h]
    omega
  · rw [if_neg (by omega)]
    simp [h]
theorem pl_lrcstrip (l : List Int) (hn : l.length < 100000) : lrc_Strip.f l = some (if l.length = 0 then ([], 12) else if l.sum % 256 = 0 then (l.take (l.length - 1), 0) else ([], 14)) := by
  unfold lrc_Strip.f
  by_cases h : l.length = 0
  · rw [if_pos (by omega), if_pos h]
  · rw [if_neg (by omega), if_neg h, pl_lrccheck]
    simp only [Option.bind_some]
    by_cases hs : l.sum % 256 = 0
    · rw [if_pos (by simp [hs]; omega), if_pos hs, pl_w64 (by omega), if_pos (by omega), if_pos (by omega)]
      have e : ((l.length : Int) - 1).toNat = l.length - 1 := by omega
      rw [e]
      unfold slices_Clone_byte_byte.f
      rw [if_pos (by rw [List.length_take]; omega)]
      rfl
    · rw [if_neg (by simp [hs]), if_neg hs]
theorem pl_lrcappend (l : List Int) (hn : l.length < 100000) : lrc_Append.f l = some (l ++ [(-l.sum) % 256]) := by
  unfold lrc_Append.f slices_Clone_byte_byte.f lrc_Sum.f
  rw [if_pos (by omega)]
  simp only [Option.bind_some]
  rw [if_pos (by omega)]

def readF (s : List Int) (d : Int) : Int × List Int × Int :=
  if s.length < 3 then (0, [], 14) else if s.getD 0 0 = 58 ∧ s.getD (s.length - 2) 0 = 13 ∧ s.getD (s.length - 1) 0 = d ∧ s.length % 2 = 1 then
    match pairsF ((s.take (s.length - 2)).drop 1) with
    | none => (0, [], 14)
    | some b => if b.length < 3 then (0, [], 12) else if 255 < b.length then (0, [], 13) else if b.sum % 256 = 0 then (b.getD 0 0, (b.take (b.length - 1)).drop 1, 0) else (0, [], 14)
  else (0, [], 14)
theorem pl_extract (S : ByteArray) (b : Nat) : numsOf (S.extract 1 b) = ((numsOf S).take b).drop 1 := by
  unfold numsOf
  rw [ByteArray.data_extract, Array.toList_extract]
  simp [List.map_take, List.map_drop, List.extract, List.drop_take]
theorem pl_textread (S : ByteArray) (d : Int) (hn : S.size < 100000) (k : Nat) (hk : S.size + 2 < k) : text_Read.f k S d = some (readF (numsOf S) d) := by
  obtain ⟨k, rfl⟩ : ∃ m, k = m + 1 := ⟨k - 1, by omega⟩
  have hbad : text_Read.j0 (k + 1) S (S.size : Int) true = some (0, [], 14) := by simp only [text_Read.j0]; rw [if_pos trivial]
  unfold text_Read.f readF
  rw [numsOf_size]
  by_cases h1 : S.size < 3
  · rw [if_pos (by omega), if_pos h1, hbad]
  rw [if_neg (by omega), if_neg h1, if_pos (by omega), pl_w64 (i := (S.size : Int) - 2) (by omega), pl_w64 (i := (S.size : Int) - 1) (by omega)]
  have e0 : bt S 0 = (numsOf S).getD 0 0 := pl_bt S 0
  have e1 : bt S ((S.size : Int) - 2) = (numsOf S).getD (S.size - 2) 0 := by rw [show (S.size : Int) - 2 = ((S.size - 2 : Nat) : Int) by omega, pl_bt]
  have e2 : bt S ((S.size : Int) - 1) = (numsOf S).getD (S.size - 1) 0 := by rw [show (S.size : Int) - 1 = ((S.size - 1 : Nat) : Int) by omega, pl_bt]
  rw [e0, e1, e2]
  by_cases h2 : (numsOf S).getD 0 0 = 58
  rotate_left
  · rw [if_neg h2, if_neg (fun h => h2 h.1), hbad]
  rw [if_pos h2, if_pos (by omega), if_pos (by omega)]
  by_cases h3 : (numsOf S).getD (S.size - 2) 0 = 13
  rotate_left
  · rw [if_neg h3, if_neg (fun h => h3 h.2.1), hbad]
  rw [if_pos h3, if_pos (by omega), if_pos (by omega)]
  by_cases h4 : (numsOf S).getD (S.size - 1) 0 = d
  rotate_left
  · rw [if_neg (fun h => h4 h.2.2.1), bne_iff_ne.2 h4, hbad]
  rw [show ((numsOf S).getD (S.size - 1) 0 != d) = false by rw [h4]; simp]
  simp only [text_Read.j0]
  rw [if_neg (by decide), pl_w64 (by omega), if_pos (by omega), if_pos (by omega)]
  have hex : (S.extract 1 ((S.size : Int) - 2).toNat).size ≤ S.size := by rw [ByteArray.size_extract]; omega
  refine pl_bind (pl_textbytes _ (by omega) k (by omega)) ?_
  rw [show ((S.size : Int) - 2).toNat = S.size - 2 by omega, pl_extract]
  have hlen : (((numsOf S).take (S.size - 2)).drop 1).length = S.size - 3 := by rw [List.length_drop, List.length_take, numsOf_size]; omega
  unfold bytesF
  rw [hlen]
  by_cases h5 : S.size % 2 = 1
  · have hcond : (numsOf S).getD 0 0 = 58 ∧ (numsOf S).getD (S.size - 2) 0 = 13 ∧ (numsOf S).getD (S.size - 1) 0 = d ∧ S.size % 2 = 1 := ⟨h2, h3, h4, h5⟩
    rw [if_pos hcond]
    have hp0 := fun xs => pl_hex_pairs (((numsOf S).take (S.size - 2)).drop 1).length (((numsOf S).take (S.size - 2)).drop 1) xs (Nat.le_refl _)
    cases hp : pairsF (((numsOf S).take (S.size - 2)).drop 1) with
    | none => rfl
    | some b =>
      have hbl := (hp0 b hp).1
      have hbb := (hp0 b hp).2.1
      rw [hlen] at hbl
      simp only
      rw [if_pos (decide_eq_true (by omega))]
      by_cases h6 : b.length < 3
      · rw [if_pos (by omega), if_pos h6]
      rw [if_neg (by omega), if_neg h6]
      by_cases h7 : 255 < b.length
      · rw [if_pos (by omega), if_pos h7]
      rw [if_neg (by omega), if_neg h7]
      refine pl_bind (pl_lrcstrip b (by omega)) ?_
      rw [if_neg (show ¬ b.length = 0 by omega)]
      by_cases h8 : b.sum % 256 = 0
      · rw [if_pos h8, if_pos h8]
        have hl2 : (b.take (b.length - 1)).length = b.length - 1 := by rw [List.length_take]; omega
        have er : rd (b.take (b.length - 1)) 0 = b.getD 0 0 := by
          rw [show rd (b.take (b.length - 1)) 0 = (b.take (b.length - 1)).getD 0 0 from rfl, getD_at _ _ (by omega), getD_at _ _ (by omega), List.getElem_take]
        have hb0 := hbb (b.getD 0 0) (by rw [getD_at _ _ (by omega)]; exact List.getElem_mem _)
        simp only
        rw [if_pos trivial, if_pos (by omega), if_pos (by omega), er, pl_w64 (by omega)]
        rfl
      · rw [if_neg h8, if_neg h8]
        rfl
  · have hcond : ¬ ((numsOf S).getD 0 0 = 58 ∧ (numsOf S).getD (S.size - 2) 0 = 13 ∧ (numsOf S).getD (S.size - 1) 0 = d ∧ S.size % 2 = 1) := fun h => h5 h.2.2.2
    rw [if_neg hcond]
    cases hp : pairsF (((numsOf S).take (S.size - 2)).drop 1) with
    | none => rfl
    | some b =>
      simp only
      rw [if_neg (by rw [decide_eq_true_eq]; omega)]

theorem pl_hexF_at0 (st : Int) (l : List Int) (d : Int) : (txtF st l d).getD 0 0 = 58 := rfl
theorem pl_txt_len (st : Int) (l : List Int) (d : Int) : (txtF st l d).length = 2 * l.length + 7 := by
  unfold txtF; rw [List.length_cons, List.length_append, hexF_len]; unfold frmF; simp; omega
theorem pl_txt_bd (st : Int) (l : List Int) (d : Int) (hs : 0 ≤ st ∧ st ≤ 255) (hl : ∀ x ∈ l, 0 ≤ x ∧ x ≤ 255) (hd : 0 ≤ d ∧ d ≤ 255) : ∀ y ∈ txtF st l d, 0 ≤ y ∧ y ≤ 255 := by
  intro y hy
  unfold txtF at hy
  simp only [List.mem_cons, List.mem_append, List.not_mem_nil, or_false] at hy
  rcases hy with rfl | hy | rfl | rfl
  · omega
  · exact hexF_bd _ (frmF_bd st l hs hl) y hy
  · omega
  · exact hd
theorem pl_frm_sum (st : Int) (l : List Int) : (frmF st l).sum % 256 = 0 := by
  unfold frmF; rw [List.sum_append]; simp only [List.sum_cons, List.sum_nil]; omega
theorem pl_getD_app (X : List Int) (y z : Int) : (X ++ [y, z]).getD X.length 0 = y ∧ (X ++ [y, z]).getD (X.length + 1) 0 = z := by
  constructor
  · rw [List.getD_eq_getElem?_getD, List.getElem?_append_right (Nat.le_refl _), Nat.sub_self]; rfl
  · rw [List.getD_eq_getElem?_getD, List.getElem?_append_right (by omega), Nat.add_sub_cancel_left]; rfl
theorem pl_read_txt (st : Int) (l : List Int) (d : Int) (hs : 0 ≤ st ∧ st ≤ 255) (hl : ∀ x ∈ l, 0 ≤ x ∧ x ≤ 255) (hn : 1 ≤ l.length ∧ l.length ≤ 253) : readF (txtF st l d) d = (st, l, 0) := by
  have hlen := pl_txt_len st l d
  have hX : txtF st l d = (58 :: hexF (frmF st l)) ++ [13, d] := rfl
  have hXl : (58 :: hexF (frmF st l)).length = 2 * l.length + 5 := by rw [List.length_cons, hexF_len]; unfold frmF; simp; omega
  have hg := pl_getD_app (58 :: hexF (frmF st l)) 13 d
  rw [← hX, hXl] at hg
  unfold readF
  rw [hlen, if_neg (by omega), show 2 * l.length + 7 - 2 = 2 * l.length + 5 by omega, show 2 * l.length + 7 - 1 = 2 * l.length + 5 + 1 by omega, if_pos ⟨rfl, hg.1, hg.2, by omega⟩]
  have hc : ((txtF st l d).take (2 * l.length + 5)).drop 1 = hexF (frmF st l) := by
    rw [hX, ← hXl, List.take_left]; rfl
  rw [hc, pl_pairs_hex _ (frmF_bd st l hs hl)]
  have hfl : (frmF st l).length = l.length + 2 := by unfold frmF; simp
  simp only
  rw [if_neg (by omega), if_neg (by omega), if_pos (pl_frm_sum st l)]
  have h1 : (frmF st l).take ((frmF st l).length - 1) = st :: l := by
    rw [hfl, show l.length + 2 - 1 = (st :: l).length by simp]
    unfold frmF; exact List.take_left
  rw [h1]
  rfl
theorem pl_read_err (s : List Int) (d : Int) : ∀ st b e, readF s d = (st, b, e) → e ≠ 0 → st = 0 ∧ b = [] := by
  intro st b e h he
  unfold readF at h
  split at h
  · cases h; exact ⟨rfl, rfl⟩
  · split at h
    · split at h
      · cases h; exact ⟨rfl, rfl⟩
      · split at h
        · cases h; exact ⟨rfl, rfl⟩
        · split at h
          · cases h; exact ⟨rfl, rfl⟩
          · split at h
            · cases h; exact absurd rfl he
            · cases h; exact ⟨rfl, rfl⟩
    · cases h; exact ⟨rfl, rfl⟩
theorem pl_read_ok (s : List Int) (d : Int) (st : Int) (b : List Int) (h : readF s d = (st, b, 0)) : (0 ≤ st ∧ st ≤ 255) ∧ (1 ≤ b.length ∧ b.length ≤ 253) ∧ (∀ x ∈ b, 0 ≤ x ∧ x ≤ 255) ∧ txtF st b d = s := by
  unfold readF at h
  by_cases h1 : s.length < 3
  · rw [if_pos h1] at h; cases h
  rw [if_neg h1] at h
  by_cases h2 : s.getD 0 0 = 58 ∧ s.getD (s.length - 2) 0 = 13 ∧ s.getD (s.length - 1) 0 = d ∧ s.length % 2 = 1
  rotate_left
  · rw [if_neg h2] at h; cases h
  rw [if_pos h2] at h
  obtain ⟨a0, a1, a2, a3⟩ := h2
  have hcl : ((s.take (s.length - 2)).drop 1).length = s.length - 3 := by rw [List.length_drop, List.length_take]; omega
  have hp0 := fun xs => pl_hex_pairs ((s.take (s.length - 2)).drop 1).length ((s.take (s.length - 2)).drop 1) xs (Nat.le_refl _)
  cases hp : pairsF ((s.take (s.length - 2)).drop 1) with
  | none => rw [hp] at h; cases h
  | some xs =>
    rw [hp] at h
    obtain ⟨hxl, hxb, hxx⟩ := hp0 xs hp
    rw [hcl] at hxl hxx
    simp only at h
    by_cases h3 : xs.length < 3
    · rw [if_pos h3] at h; cases h
    rw [if_neg h3] at h
    by_cases h4 : 255 < xs.length
    · rw [if_pos h4] at h; cases h
    rw [if_neg h4] at h
    by_cases h5 : xs.sum % 256 = 0
    rotate_left
    · rw [if_neg h5] at h; cases h
    rw [if_pos h5] at h
    simp only [Prod.mk.injEq, and_true] at h
    obtain ⟨rfl, rfl⟩ := h
    have hx0 := hxb (xs.getD 0 0) (by rw [getD_at _ _ (by omega)]; exact List.getElem_mem _)
    have hbl : ((xs.take (xs.length - 1)).drop 1).length = xs.length - 2 := by rw [List.length_drop, List.length_take]; omega
    refine ⟨hx0, by rw [hbl]; omega, fun x hx => hxb x (List.mem_of_mem_take (List.mem_of_mem_drop hx)), ?_⟩
    have e1 : xs.getD 0 0 :: (xs.take (xs.length - 1)).drop 1 = xs.take (xs.length - 1) := by
      cases xs with
      | nil => simp at h3
      | cons x r =>
        have : (x :: r).length - 1 = ((x :: r).length - 2) + 1 := by simp at h3 ⊢; omega
        rw [this, List.take_succ_cons]; rfl
    have e2 : xs.take (xs.length - 1) ++ [xs[xs.length - 1]'(by omega)] = xs := by
      have := take_snoc xs (xs.length - 1) (by omega)
      rw [show xs.length - 1 + 1 = xs.length by omega, List.take_length] at this
      exact this.symm
    have e3 : xs[xs.length - 1]'(by omega) = (-((xs.take (xs.length - 1)).sum)) % 256 := by
      have hs : (xs.take (xs.length - 1)).sum + xs[xs.length - 1]'(by omega) = xs.sum := by
        conv => rhs; rw [← e2]
        rw [List.sum_append]; simp
      have hb := hxb _ (List.getElem_mem (show xs.length - 1 < xs.length by omega))
      omega
    have hf : frmF (xs.getD 0 0) ((xs.take (xs.length - 1)).drop 1) = xs := by
      unfold frmF
      rw [e1, ← e3, e2]
    unfold txtF
    rw [hf, hxx (by omega)]
    have g1 : s.drop (s.length - 2) = [13, d] := by
      have k1 : s.length - 2 < s.length := by omega
      have k2 : s.length - 2 + 1 < s.length := by omega
      rw [getD_at _ _ k1] at a1
      rw [show s.length - 1 = s.length - 2 + 1 by omega, getD_at _ _ k2] at a2
      rw [List.drop_eq_getElem_cons k1, List.drop_eq_getElem_cons k2, a1, a2, List.drop_of_length_le (by omega)]
    have g2 : 58 :: (s.take (s.length - 2)).drop 1 = s.take (s.length - 2) := by
      have k0 : 0 < (s.take (s.length - 2)).length := by rw [List.length_take]; omega
      have := List.drop_eq_getElem_cons k0
      rw [List.drop_zero] at this
      rw [this, List.getElem_take, ← getD_at s 0 (by omega), a0]
      rfl
    rw [show (58 : Int) :: ((s.take (s.length - 2)).drop 1 ++ [13, d]) = (58 :: (s.take (s.length - 2)).drop 1) ++ [13, d] from rfl, g2, ← g1, List.take_append_drop]
def writeF (st : Int) (l : List Int) (d : Int) : ByteArray × Int := if st < 0 ∨ 255 < st then (⟨#[]⟩, 11) else if l.length = 0 then (⟨#[]⟩, 12) else if 253 < l.length then (⟨#[]⟩, 13) else (strOfNums (txtF st l d), 0)
theorem pl_textwrite (st : Int) (l : List Int) (d : Int) (hl : ∀ x ∈ l, 0 ≤ x ∧ x ≤ 255) (hd : 0 ≤ d ∧ d ≤ 255) : text_Write.f st l d = some (writeF st l d) := by
  unfold text_Write.f writeF
  split
  · rfl
  · split
    · rfl
    · split
      · rfl
      · rw [if_pos ⟨hl, hd⟩]
theorem pl_read_bd (s : List Int) (d : Int) (hb : ∀ x ∈ s, 0 ≤ x ∧ x ≤ 255) : (0 ≤ (readF s d).1 ∧ (readF s d).1 ≤ 255) ∧ (∀ x ∈ (readF s d).2.1, 0 ≤ x ∧ x ≤ 255) ∧ (readF s d).2.1.length ≤ 253 := by
  obtain ⟨st, b, e, h⟩ : ∃ st b e, readF s d = (st, b, e) := ⟨_, _, _, rfl⟩
  rw [h]
  by_cases he : e = 0
  · subst he
    obtain ⟨h1, h2, h3, _⟩ := pl_read_ok s d st b h
    exact ⟨h1, h3, h2.2⟩
  · obtain ⟨rfl, rfl⟩ := pl_read_err s d st b e h he
    exact ⟨⟨Int.le_refl _, show (0 : Int) ≤ 255 by decide⟩, by simp, by simp⟩

theorem pl_u8c {l : List Int} (h : ∀ x ∈ l, (Lit.int .u8 x).wf = true) : ∀ x ∈ l, 0 ≤ x ∧ x ≤ 255 := fun x hx => wf_u8 (h x hx)
theorem pl_crcsum (l : List Int) (hb : ∀ x ∈ l, 0 ≤ x ∧ x ≤ 255) : crc_Sum.f l = some ((pRem 65535 l : Nat) : Int) := by
  unfold crc_Sum.f
  rw [if_pos hb]

def pl_crced (l : List Int) : List Int := l ++ [((pRem 65535 l % 256 : Nat) : Int), ((pRem 65535 l / 256 : Nat) : Int)]
theorem pl_crced_len (l : List Int) : (pl_crced l).length = l.length + 2 := by unfold pl_crced; rw [List.length_append]; rfl
theorem pl_crcappend (l : List Int) (hb : ∀ x ∈ l, 0 ≤ x ∧ x ≤ 255) (hn : l.length < 100000) : crc_Append.f l = some (pl_crced l) := by
  unfold crc_Append.f
  rw [if_pos ⟨by omega, hb⟩]; rfl
theorem pl_crced_u8 (l : List Int) (hb : ∀ x ∈ l, 0 ≤ x ∧ x ≤ 255) : ∀ x ∈ pl_crced l, 0 ≤ x ∧ x ≤ 255 := by
  intro x hx
  have hm : pRem 65535 l < 65536 := pRem_lt _ (by omega)
  simp only [pl_crced, List.mem_append, List.mem_cons, List.mem_nil_iff, or_false] at hx
  rcases hx with hx | rfl | rfl
  · exact hb x hx
  · omega
  · omega
theorem pl_crced_rem (l : List Int) : pRem 65535 (pl_crced l) = 0 := by
  have hm : pRem 65535 l < 65536 := pRem_lt _ (by omega)
  unfold pl_crced
  rw [pRem_append]
  show pBy (pBy (pRem 65535 l) (((pRem 65535 l % 256 : Nat) : Int)).toNat) (((pRem 65535 l / 256 : Nat) : Int)).toNat = 0
  rw [Int.toNat_natCast, Int.toNat_natCast]
  exact pBy_join hm

def pl_wrapped (s : Int) (l : List Int) : List Int × Int := if s < 0 ∨ 255 < s then ([], 11) else if l.length = 0 then ([], 12) else if 253 < l.length then ([], 13) else (pl_crced (s :: l), 0)
theorem pl_cons_u8 (s : Int) (l : List Int) (hs : 0 ≤ s ∧ s ≤ 255) (hb : ∀ x ∈ l, 0 ≤ x ∧ x ≤ 255) : ∀ x ∈ s :: l, 0 ≤ x ∧ x ≤ 255 := by
  intro x hx
  rcases List.mem_cons.1 hx with rfl | h
  · exact hs
  · exact hb x h
theorem pl_aduwrap (s : Int) (l : List Int) (hb : ∀ x ∈ l, 0 ≤ x ∧ x ≤ 255) (k : Nat) (hk : 0 < k) : adu_Wrap.f k s l = some (pl_wrapped s l) := by
  obtain ⟨k, rfl⟩ : ∃ m, k = m + 1 := ⟨k - 1, by omega⟩
  unfold adu_Wrap.f pl_wrapped
  by_cases h : s < 0 ∨ 255 < s
  · rw [if_pos h]
    have e : adu_Wrap.j0 (k + 1) s l true = some ([], 11) := by simp only [adu_Wrap.j0]; rw [if_pos trivial]
    by_cases h1 : s < 0
    · rw [if_pos h1, e]
    · rw [if_neg h1, show decide (s > 255) = true by rw [decide_eq_true_eq]; omega, e]
  · rw [if_neg h, if_neg (by omega), show decide (s > 255) = false by rw [decide_eq_false_iff_not]; omega]
    simp only [adu_Wrap.j0]
    rw [if_neg (by decide)]
    by_cases h2 : l.length = 0
    · rw [if_pos (by omega), if_pos h2]
    · rw [if_neg (by omega), if_neg h2]
      by_cases h3 : 253 < l.length
      · rw [if_pos (by omega), if_pos h3]
      · rw [if_neg (by omega), if_neg h3]
        have hj : adu_joined.f [[s % 256], l] = some (s :: l) := by
          unfold adu_joined.f
          have e : [[s % 256], l].flatten = s :: l := by rw [show s % 256 = s by omega]; simp
          rw [e, if_pos (by rw [List.length_cons]; omega)]
        refine pl_bind hj ?_
        exact pl_bind (pl_crcappend (s :: l) (pl_cons_u8 s l (by omega) hb) (by rw [List.length_cons]; omega)) rfl

theorem pl_crccheck (l : List Int) (hb : ∀ x ∈ l, 0 ≤ x ∧ x ≤ 255) : crc_Check.f l = some (decide (2 ≤ l.length ∧ pRem 65535 l = 0)) := by
  unfold crc_Check.f
  by_cases h : 2 ≤ l.length
  · rw [if_pos (by omega), pl_crcsum l hb]
    refine congrArg some ?_
    rw [Bool.eq_iff_iff]
    simp only [beq_iff_eq, decide_eq_true_eq]
    omega
  · rw [if_neg (by omega)]
    refine congrArg some ?_
    rw [eq_comm, decide_eq_false_iff_not]
    omega

theorem pl_crcstrip (l : List Int) (hb : ∀ x ∈ l, 0 ≤ x ∧ x ≤ 255) (hn : l.length < 100000) : crc_Strip.f l = some (if l.length < 2 then ([], 12) else if pRem 65535 l = 0 then (l.take (l.length - 2), 0) else ([], 14)) := by
  unfold crc_Strip.f
  by_cases h : l.length < 2
  · rw [if_pos (by omega), if_pos h]
  · rw [if_neg (by omega), if_neg h]
    refine pl_bind (pl_crccheck l hb) ?_
    by_cases hz : pRem 65535 l = 0
    · rw [if_pos (by rw [decide_eq_true_eq]; exact ⟨by omega, hz⟩), if_pos hz]
      refine pl_bind rfl ?_
      rw [pl_w64 (by omega), if_pos (by omega), if_pos (by omega), if_pos (by rw [List.length_take, List.length_nil]; omega), show ((l.length : Int) - 2).toNat = l.length - 2 by omega]
      rfl
    · rw [if_neg (by rw [decide_eq_true_eq]; exact fun hh => hz hh.2), if_neg hz]

def pl_opened (l : List Int) : Int × List Int × Int := if l.length < 4 then (0, [], 12) else if 256 < l.length then (0, [], 13) else if pRem 65535 l = 0 then (l.getD 0 0, (l.take (l.length - 2)).drop 1, 0) else (0, [], 14)
theorem pl_u8_w64 {l : List Int} (hb : ∀ x ∈ l, 0 ≤ x ∧ x ≤ 255) : wrap64 (l.getD 0 0) = l.getD 0 0 := by
  cases l with
  | nil => exact pl_w64 (by decide)
  | cons x l => have := hb x (by simp); exact pl_w64 (by simp; omega)
theorem pl_aduopen (l : List Int) (hb : ∀ x ∈ l, 0 ≤ x ∧ x ≤ 255) (hn : l.length < 100000) : adu_Open.f l = some (pl_opened l) := by
  unfold adu_Open.f pl_opened
  by_cases h1 : l.length < 4
  · rw [if_pos (by omega), if_pos h1]
  · rw [if_neg (by omega), if_neg h1]
    by_cases h2 : 256 < l.length
    · rw [if_pos (by omega), if_pos h2]
    · rw [if_neg (by omega), if_neg h2]
      refine pl_bind (pl_crcstrip l hb hn) ?_
      rw [if_neg (show ¬ l.length < 2 by omega)]
      by_cases hz : pRem 65535 l = 0
      · rw [if_pos hz, if_pos hz, if_pos rfl]
        have hl : (l.take (l.length - 2)).length = l.length - 2 := by rw [List.length_take]; omega
        show (if 0 < ((l.take (l.length - 2)).length : Int) then (if 1 ≤ ((l.take (l.length - 2)).length : Int) then (adu_joined.f [(l.take (l.length - 2)).drop 1]).bind fun t140 => some (wrap64 (rd (l.take (l.length - 2)) 0), t140, 0) else none) else none) = _
        rw [if_pos (by omega), if_pos (by omega)]
        have hj : adu_joined.f [(l.take (l.length - 2)).drop 1] = some ((l.take (l.length - 2)).drop 1) := by
          unfold adu_joined.f
          have e : [(l.take (l.length - 2)).drop 1].flatten = (l.take (l.length - 2)).drop 1 := by simp
          rw [e, if_pos (by rw [List.length_drop]; omega)]
        refine pl_bind hj ?_
        have e0 : rd (l.take (l.length - 2)) 0 = l.getD 0 0 := by
          rw [show rd (l.take (l.length - 2)) 0 = (l.take (l.length - 2)).getD 0 0 from rfl, getD_at _ _ (by omega), getD_at _ _ (by omega), List.getElem_take]
        rw [e0, pl_u8_w64 hb]
      · rw [if_neg hz, if_neg hz, if_neg (by decide)]

theorem pl_wrapped_u8 (s : Int) (l : List Int) (hb : ∀ x ∈ l, 0 ≤ x ∧ x ≤ 255) : ∀ x ∈ (pl_wrapped s l).1, 0 ≤ x ∧ x ≤ 255 := by
  unfold pl_wrapped
  split
  · simp
  · split
    · simp
    · split
      · simp
      · exact pl_crced_u8 _ (pl_cons_u8 s l (by omega) hb)
theorem pl_wrapped_len (s : Int) (l : List Int) : (pl_wrapped s l).1.length ≤ 256 := by
  unfold pl_wrapped
  split
  · simp
  · split
    · simp
    · split
      · simp
      · show (pl_crced (s :: l)).length ≤ 256
        rw [pl_crced_len, List.length_cons]; omega
theorem pl_opened_len (l : List Int) : (pl_opened l).2.1.length ≤ 256 := by
  unfold pl_opened
  split
  · simp
  · split
    · simp
    · split
      · show ((l.take (l.length - 2)).drop 1).length ≤ 256
        rw [List.length_drop, List.length_take]; omega
      · simp

theorem pl_textback (S : ByteArray) (d : Int) (hn : S.size < 100000) (k : Nat) (hk : S.size + 2 < k) : text_Back.f k S d = some (if (readF (numsOf S) d).2.2 = 0 then pl_wrapped (readF (numsOf S) d).1 (readF (numsOf S) d).2.1 else ([], (readF (numsOf S) d).2.2)) := by
  unfold text_Back.f
  refine pl_bind (pl_textread S d hn k hk) ?_
  by_cases h : (readF (numsOf S) d).2.2 = 0
  · rw [if_pos h, if_pos h]
    exact pl_bind (pl_aduwrap _ _ (pl_read_bd _ d (numsOf_bd S)).2.1 k (by omega)) rfl
  · rw [if_neg h, if_neg h]
theorem pl_textturn (l : List Int) (d : Int) (hl : ∀ x ∈ l, 0 ≤ x ∧ x ≤ 255) (hd : 0 ≤ d ∧ d ≤ 255) (hn : l.length < 100000) : text_Turn.f l d = some (if (pl_opened l).2.2 = 0 then writeF (pl_opened l).1 (pl_opened l).2.1 d else (⟨#[]⟩, (pl_opened l).2.2)) := by
  unfold text_Turn.f
  refine pl_bind (pl_aduopen l hl hn) ?_
  by_cases h : (pl_opened l).2.2 = 0
  · rw [if_pos h, if_pos h]
    have hb : ∀ x ∈ (pl_opened l).2.1, 0 ≤ x ∧ x ≤ 255 := by
      unfold pl_opened
      split
      · simp
      · split
        · simp
        · split
          · exact fun x hx => hl x (List.mem_of_mem_take (List.mem_of_mem_drop hx))
          · simp
    exact pl_bind (pl_textwrite _ _ d hb hd) rfl
  · rw [if_neg h, if_neg h]
theorem pl_back_len (S : ByteArray) (d : Int) : (if (readF (numsOf S) d).2.2 = 0 then pl_wrapped (readF (numsOf S) d).1 (readF (numsOf S) d).2.1 else ([], (readF (numsOf S) d).2.2)).1.length ≤ 256 := by
  split
  · exact pl_wrapped_len _ _
  · simp

theorem pl_refdigit (c : Int) (h : 0 ≤ c ∧ c ≤ 255) (k : Nat) (hk : 0 < k) : bilgeref36_digit.f k c = some (hexV c) := by
  obtain ⟨k, rfl⟩ : ∃ m, k = m + 1 := ⟨k - 1, by omega⟩
  unfold bilgeref36_digit.f hexV
  by_cases h1 : c ≥ 48
  · rw [if_pos h1]
    simp only [bilgeref36_digit.j0]
    by_cases h2 : c ≤ 57
    · rw [if_pos (decide_eq_true h2), if_pos (show 48 ≤ c ∧ c ≤ 57 by omega)]; congr 1; omega
    · rw [if_neg (by simp; omega), if_neg (show ¬ (48 ≤ c ∧ c ≤ 57) by omega)]
      by_cases h3 : c ≥ 65
      · rw [if_pos h3]
        by_cases h4 : c ≤ 70
        · rw [if_pos h4, if_pos (show 65 ≤ c ∧ c ≤ 70 by omega)]; congr 1; omega
        · rw [if_neg h4, if_neg (show ¬ (65 ≤ c ∧ c ≤ 70) by omega)]
      · rw [if_neg h3, if_neg (show ¬ (65 ≤ c ∧ c ≤ 70) by omega)]
  · rw [if_neg h1]
    simp only [bilgeref36_digit.j0]
    rw [if_neg (by decide), if_neg (show ¬ c ≥ 65 by omega), if_neg (show ¬ (48 ≤ c ∧ c ≤ 57) by omega), if_neg (show ¬ (65 ≤ c ∧ c ≤ 70) by omega)]

theorem pl_refsum_l (l : List Int) (h : ∀ x ∈ l, 0 ≤ x ∧ x ≤ 255) (hn : l.length < 100000) : ∀ (d k i : Nat), i + d = l.length → d < k →
    bilgeref35_Sum.l0 k l (l.take i).sum i = some ((-l.sum) % 256) := by
  intro d
  induction d with
  | zero =>
    intro k i hi hk
    obtain ⟨k, rfl⟩ : ∃ m, k = m + 1 := ⟨k - 1, by omega⟩
    simp only [bilgeref35_Sum.l0]
    rw [if_neg (by omega), List.take_of_length_le (by omega)]
    have hb := pl_sum_bd h
    rw [Int.tmod_eq_emod_of_nonneg hb.1, pl_w64 (by omega), Int.tmod_eq_emod_of_nonneg (by omega)]
    congr 1
    omega
  | succ d ih =>
    intro k i hi hk
    obtain ⟨k, rfl⟩ : ∃ m, k = m + 1 := ⟨k - 1, by omega⟩
    simp only [bilgeref35_Sum.l0]
    have hb := pl_sum_bd (l := l.take i) (fun x hx => h x (List.mem_of_mem_take hx))
    have hlt : (l.take i).length ≤ i := List.length_take_le _ _
    have hx := h (l[i]'(by omega)) (List.getElem_mem _)
    rw [if_pos (by omega), if_pos (by omega), pl_rd_nat, getD_at _ _ (by omega), pl_w64 (i := l[i]) (by omega), pl_w64 (by omega), pl_w64 (i := (i : Int) + 1) (by omega)]
    have := ih k (i + 1) (by omega) (by omega)
    rw [sum_take l i (by omega), getD_at _ _ (by omega)] at this
    exact this
theorem pl_refsum (l : List Int) (h : ∀ x ∈ l, 0 ≤ x ∧ x ≤ 255) (hn : l.length < 100000) (k : Nat) (hk : l.length < k) : bilgeref35_Sum.f k l = some ((-l.sum) % 256) := by
  unfold bilgeref35_Sum.f
  have := pl_refsum_l l h hn l.length k 0 (by omega) hk
  simpa using this

theorem pl_refcheck35 (l : List Int) (h : ∀ x ∈ l, 0 ≤ x ∧ x ≤ 255) (h1 : 0 < l.length) (hn : l.length < 100000) (k : Nat) (hk : l.length < k) : bilgeref35_Check.f k l = some (decide (l.sum % 256 = 0)) := by
  unfold bilgeref35_Check.f
  rw [if_pos h1]
  have hl : (l.take (l.length - 1)).length = l.length - 1 := by rw [List.length_take]; omega
  refine pl_bind (pl_refsum _ (fun x hx => h x (List.mem_of_mem_take hx)) (by omega) k (by omega)) ?_
  have e2 : l = l.take (l.length - 1) ++ [l[l.length - 1]'(by omega)] := by
    have := take_snoc l (l.length - 1) (by omega)
    rw [show l.length - 1 + 1 = l.length by omega, List.take_length] at this
    exact this
  have hs : l.sum = (l.take (l.length - 1)).sum + l[l.length - 1]'(by omega) := by
    conv => lhs; rw [e2]
    rw [List.sum_append]; simp
  have hb := h _ (List.getElem_mem (show l.length - 1 < l.length by omega))
  have er : rd l ((l.length : Int) - 1) = l[l.length - 1]'(by omega) := by
    rw [pl_rd_eq l _ (l.length - 1) (by omega), getD_at _ _ (by omega)]
  rw [er]
  congr 1
  rw [Bool.eq_iff_iff, beq_iff_eq, decide_eq_true_eq]
  omega

def finF (b : List Int) : Int × List Int × Int := if b.length < 3 then (0, [], 12) else if 255 < b.length then (0, [], 13) else if b.sum % 256 = 0 then (b.getD 0 0, (b.take (b.length - 1)).drop 1, 0) else (0, [], 14)
theorem pl_refread_end (S : ByteArray) (b : List Int) (hb : ∀ x ∈ b, 0 ≤ x ∧ x ≤ 255) (k : Nat) (hk : 300 < k) (n j : Int) (hj : ¬ j < wrap64 (n - 2)) : bilgeref36_Read.l0 (k + 1) S n b j = some (finF b) := by
  simp only [bilgeref36_Read.l0]
  unfold finF
  rw [if_neg hj]
  by_cases h6 : b.length < 3
  · rw [if_pos (by omega), if_pos h6]
  rw [if_neg (by omega), if_neg h6]
  by_cases h7 : 255 < b.length
  · rw [if_pos (by omega), if_pos h7]
  rw [if_neg (by omega), if_neg h7]
  refine pl_bind (pl_refcheck35 b hb (by omega) (by omega) k (by omega)) ?_
  by_cases h8 : b.sum % 256 = 0
  · have hb0 := hb (b.getD 0 0) (by rw [getD_at _ _ (by omega)]; exact List.getElem_mem _)
    rw [if_pos (decide_eq_true h8), if_pos (by omega), if_pos (by omega), if_pos h8, show rd b 0 = b.getD 0 0 from rfl, pl_w64 (by omega)]
    rfl
  · rw [if_neg (by rw [decide_eq_true_eq]; exact h8), if_neg h8]
theorem pl_refread_loop (S : ByteArray) (hn : S.size < 100000) (h3 : 3 ≤ S.size) (ho : S.size % 2 = 1) : ∀ (d k i : Nat) (b : List Int), i + d = (S.size - 3) / 2 → d + 400 < k → b.length = i → (∀ x ∈ b, 0 ≤ x ∧ x ≤ 255) →
    bilgeref36_Read.l0 k S (S.size : Int) b ((1 + 2 * i : Nat) : Int) = some (match pairsF ((((numsOf S).take (S.size - 2)).drop 1).drop (2 * i)) with | none => (0, [], 14) | some xs => finF (b ++ xs)) := by
  have hcl : (((numsOf S).take (S.size - 2)).drop 1).length = S.size - 3 := by rw [List.length_drop, List.length_take, numsOf_size]; omega
  intro d
  induction d with
  | zero =>
    intro k i b hi hk hbl hbb
    obtain ⟨k, rfl⟩ : ∃ m, k = m + 1 := ⟨k - 1, by omega⟩
    rw [pl_refread_end S b hbb k (by omega) _ _ (by rw [pl_w64 (by omega)]; omega), List.drop_of_length_le (by omega)]
    show _ = some (finF (b ++ []))
    rw [List.append_nil]
  | succ d ih =>
    intro k i b hi hk hbl hbb
    obtain ⟨k, rfl⟩ : ∃ m, k = m + 1 := ⟨k - 1, by omega⟩
    simp only [bilgeref36_Read.l0]
    have g1 : 2 * i < (((numsOf S).take (S.size - 2)).drop 1).length := by omega
    have g2 : 2 * i + 1 < (((numsOf S).take (S.size - 2)).drop 1).length := by omega
    obtain ⟨a, ha⟩ : ∃ a, (((numsOf S).take (S.size - 2)).drop 1)[2 * i] = a := ⟨_, rfl⟩
    obtain ⟨c, hc⟩ : ∃ c, (((numsOf S).take (S.size - 2)).drop 1)[2 * i + 1] = c := ⟨_, rfl⟩
    have hab := numsOf_bd S a (ha ▸ List.mem_of_mem_take (List.mem_of_mem_drop (List.getElem_mem g1)))
    have hcb := numsOf_bd S c (hc ▸ List.mem_of_mem_take (List.mem_of_mem_drop (List.getElem_mem g2)))
    have ea : bt S ((1 + 2 * i : Nat) : Int) = a := by
      rw [pl_bt, getD_at _ _ (by rw [numsOf_size]; omega), ← ha, List.getElem_drop, List.getElem_take]
    have eb : bt S (wrap64 (((1 + 2 * i : Nat) : Int) + 1)) = c := by
      rw [pl_w64 (by omega), show ((1 + 2 * i : Nat) : Int) + 1 = ((1 + (2 * i + 1) : Nat) : Int) by omega, pl_bt, getD_at _ _ (by rw [numsOf_size]; omega), ← hc, List.getElem_drop, List.getElem_take]
    rw [ea, eb, pl_w64 (i := (S.size : Int) - 2) (by omega), if_pos (by omega), if_pos (by omega), if_pos (by omega)]
    refine pl_bind (pl_refdigit a hab k (by omega)) ?_
    rw [pl_w64 (i := ((1 + 2 * i : Nat) : Int) + 1) (by omega), if_pos (by omega), if_pos (by omega)]
    refine pl_bind (pl_refdigit c hcb k (by omega)) ?_
    have ed : (((numsOf S).take (S.size - 2)).drop 1).drop (2 * i) = a :: c :: (((numsOf S).take (S.size - 2)).drop 1).drop (2 * (i + 1)) := by
      rw [List.drop_eq_getElem_cons g1, List.drop_eq_getElem_cons g2, ha, hc, show 2 * i + 1 + 1 = 2 * (i + 1) by omega]
    rw [ed, pairsF]
    by_cases q1 : hexV a < 0
    · rw [if_pos q1, if_pos (Or.inl q1)]
    · rw [if_neg q1]
      by_cases q2 : hexV c < 0
      · rw [if_pos q2, if_pos (Or.inr q2)]
      · have ba := pl_hexV_bd a
        have bb := pl_hexV_bd c
        rw [if_neg q2, if_neg (show ¬ (hexV a < 0 ∨ hexV c < 0) by omega), if_pos (by omega)]
        have ev : wrap64 (wrap64 (16 * hexV a) + hexV c) % 256 = hexV a * 16 + hexV c := by
          rw [pl_w64 (i := 16 * hexV a) (by omega), pl_w64 (by omega)]; omega
        rw [ev, pl_w64 (i := ((1 + 2 * i : Nat) : Int) + 2) (by omega), show ((1 + 2 * i : Nat) : Int) + 2 = ((1 + 2 * (i + 1) : Nat) : Int) by omega]
        rw [ih k (i + 1) (b ++ [hexV a * 16 + hexV c]) (by omega) (by omega) (by rw [List.length_append, hbl]; rfl) (by
          intro x hx
          rcases List.mem_append.1 hx with hx | hx
          · exact hbb x hx
          · rw [List.mem_singleton.1 hx]; omega)]
        cases pairsF ((((numsOf S).take (S.size - 2)).drop 1).drop (2 * (i + 1))) with
        | none => rfl
        | some xs => simp
theorem pl_refread (S : ByteArray) (d : Int) (hn : S.size < 100000) (k : Nat) (hk : S.size + 500 < k) : bilgeref36_Read.f k S d = some (readF (numsOf S) d) := by
  obtain ⟨k, rfl⟩ : ∃ m, k = m + 1 := ⟨k - 1, by omega⟩
  have hbad : bilgeref36_Read.j0 (k + 1) S (S.size : Int) true = some (0, [], 14) := by simp only [bilgeref36_Read.j0]; rw [if_pos trivial]
  unfold bilgeref36_Read.f readF
  rw [numsOf_size]
  by_cases h1 : S.size < 3
  · rw [if_pos (by omega), if_pos h1, hbad]
  rw [if_neg (by omega), if_neg h1, if_pos (by omega), pl_w64 (i := (S.size : Int) - 2) (by omega), pl_w64 (i := (S.size : Int) - 1) (by omega)]
  have e0 : bt S 0 = (numsOf S).getD 0 0 := pl_bt S 0
  have e1 : bt S ((S.size : Int) - 2) = (numsOf S).getD (S.size - 2) 0 := by rw [show (S.size : Int) - 2 = ((S.size - 2 : Nat) : Int) by omega, pl_bt]
  have e2 : bt S ((S.size : Int) - 1) = (numsOf S).getD (S.size - 1) 0 := by rw [show (S.size : Int) - 1 = ((S.size - 1 : Nat) : Int) by omega, pl_bt]
  rw [e0, e1, e2]
  by_cases h2 : (numsOf S).getD 0 0 = 58
  rotate_left
  · rw [if_neg h2, if_neg (fun h => h2 h.1), hbad]
  rw [if_pos h2, if_pos (by omega), if_pos (by omega)]
  by_cases h3 : (numsOf S).getD (S.size - 2) 0 = 13
  rotate_left
  · rw [if_neg h3, if_neg (fun h => h3 h.2.1), hbad]
  rw [if_pos h3, if_pos (by omega), if_pos (by omega)]
  by_cases h4 : (numsOf S).getD (S.size - 1) 0 = d
  rotate_left
  · rw [if_neg h4, if_neg (fun h => h4 h.2.2.1), hbad]
  rw [if_pos h4]
  by_cases h5 : S.size % 2 = 1
  rotate_left
  · have hcond : ¬ ((numsOf S).getD 0 0 = 58 ∧ (numsOf S).getD (S.size - 2) 0 = 13 ∧ (numsOf S).getD (S.size - 1) 0 = d ∧ S.size % 2 = 1) := fun h => h5 h.2.2.2
    rw [if_neg hcond, show (((S.size : Int) % 2) == 0) = true by rw [beq_iff_eq]; omega, hbad]
  have hcond : (numsOf S).getD 0 0 = 58 ∧ (numsOf S).getD (S.size - 2) 0 = 13 ∧ (numsOf S).getD (S.size - 1) 0 = d ∧ S.size % 2 = 1 := ⟨h2, h3, h4, h5⟩
  rw [if_pos hcond, show (((S.size : Int) % 2) == 0) = false by rw [beq_eq_false_iff_ne]; omega]
  simp only [bilgeref36_Read.j0]
  rw [if_neg (by decide)]
  have hloop := pl_refread_loop S hn (by omega) h5 ((S.size - 3) / 2) k 0 [] (by omega) (by omega) rfl (by simp)
  refine Eq.trans hloop ?_
  rw [List.drop_zero]
  cases pairsF (((numsOf S).take (S.size - 2)).drop 1) with
  | none => rfl
  | some xs => rfl

theorem pl_bt_dig (n : Int) (h : 0 ≤ n ∧ n < 16) : bt (⟨#[48, 49, 50, 51, 52, 53, 54, 55, 56, 57, 65, 66, 67, 68, 69, 70]⟩ : ByteArray) n = digF n := by
  obtain ⟨m, rfl⟩ : ∃ m : Nat, n = (m : Int) := ⟨n.toNat, by omega⟩
  have hk : ∀ x : Fin 16, bt (⟨#[48, 49, 50, 51, 52, 53, 54, 55, 56, 57, 65, 66, 67, 68, 69, 70]⟩ : ByteArray) (x.val : Int) = digF (x.val : Int) := by decide +kernel
  exact hk ⟨m, by omega⟩
theorem pl_hexF_snoc (l : List Int) (x : Int) : hexF (l ++ [x]) = hexF l ++ [digF (x / 16), digF (x % 16)] := by
  unfold hexF; rw [List.flatMap_append]; simp
theorem pl_refwrite_loop (F : List Int) (hF : ∀ x ∈ F, 0 ≤ x ∧ x ≤ 255) (hn : F.length < 1000) (d : Int) : ∀ (e k i : Nat), i + e = F.length → e < k →
    bilgeref36_Write.l0 k d F (58 :: hexF (F.take i)) (i : Int) = some (strOfNums (58 :: (hexF F ++ [13, d])), 0) := by
  intro e
  induction e with
  | zero =>
    intro k i hi hk
    obtain ⟨k, rfl⟩ : ∃ m, k = m + 1 := ⟨k - 1, by omega⟩
    simp only [bilgeref36_Write.l0]
    rw [if_neg (by omega), List.take_of_length_le (by omega)]
    refine pl_bind rfl ?_
    have hl := hexF_len F
    rw [if_pos (by rw [List.length_cons, hl]; simp; omega)]
    rfl
  | succ e ih =>
    intro k i hi hk
    obtain ⟨k, rfl⟩ : ∃ m, k = m + 1 := ⟨k - 1, by omega⟩
    simp only [bilgeref36_Write.l0]
    have hx := hF F[i] (List.getElem_mem _)
    have er : rd F (i : Int) = F[i] := by rw [pl_rd_nat, getD_at _ _ (by omega)]
    rw [er]
    obtain ⟨x, hxe⟩ : ∃ x, F[i] = x := ⟨_, rfl⟩
    rw [hxe] at hx ⊢
    have t1 : Int.tdiv x 16 % 256 = x / 16 := by rw [Int.tdiv_eq_ediv_of_nonneg hx.1]; omega
    have t2 : Int.tmod x 16 = x % 16 := Int.tmod_eq_emod_of_nonneg hx.1
    rw [t1, t2, if_pos (by omega), if_pos (by omega), if_pos (by omega), if_pos (by omega), if_pos (by omega), if_pos (by omega)]
    rw [pl_bt_dig _ (by omega), pl_bt_dig _ (by omega)]
    refine pl_bind rfl ?_
    have hl := hexF_len (F.take i)
    have htk : (F.take i).length = i := by rw [List.length_take]; omega
    rw [if_pos (by rw [List.length_cons, hl, htk]; simp; omega), pl_w64 (by omega)]
    have hs : 58 :: hexF (F.take i) ++ [digF (x / 16), digF (x % 16)] = 58 :: hexF (F.take (i + 1)) := by
      rw [take_snoc F i (by omega), hxe, pl_hexF_snoc]; rfl
    rw [hs]
    exact ih k (i + 1) (by omega) (by omega)
theorem pl_refwrite (st : Int) (l : List Int) (d : Int) (hl : ∀ x ∈ l, 0 ≤ x ∧ x ≤ 255) (k : Nat) (hk : 400 < k) : bilgeref36_Write.f k st l d = some (writeF st l d) := by
  obtain ⟨k, rfl⟩ : ∃ m, k = m + 1 := ⟨k - 1, by omega⟩
  unfold bilgeref36_Write.f writeF
  by_cases h : st < 0 ∨ 255 < st
  · rw [if_pos h]
    have e : bilgeref36_Write.j0 (k + 1) st l d true = some (⟨#[]⟩, 11) := by simp only [bilgeref36_Write.j0]; rw [if_pos trivial]
    by_cases h1 : st < 0
    · rw [if_pos h1, e]
    · rw [if_neg h1, show decide (st > 255) = true by rw [decide_eq_true_eq]; omega, e]
  · rw [if_neg h, if_neg (by omega), show decide (st > 255) = false by rw [decide_eq_false_iff_not]; omega]
    simp only [bilgeref36_Write.j0]
    rw [if_neg (by decide)]
    by_cases h2 : l.length = 0
    · rw [if_pos (by omega), if_pos h2]
    rw [if_neg (by omega), if_neg h2]
    by_cases h3 : 253 < l.length
    · rw [if_pos (by omega), if_pos h3]
    rw [if_neg (by omega), if_neg h3, show st % 256 = st by omega]
    refine pl_bind rfl ?_
    rw [if_pos (by rw [List.length_singleton]; omega), List.singleton_append]
    refine pl_bind rfl ?_
    have hb : ∀ x ∈ st :: l, 0 ≤ x ∧ x ≤ 255 := by
      intro x hx
      rcases List.mem_cons.1 hx with rfl | hx
      · omega
      · exact hl x hx
    refine pl_bind (pl_refsum (st :: l) hb (by rw [List.length_cons]; omega) k (by rw [List.length_cons]; omega)) ?_
    rw [if_pos (by rw [List.length_cons]; omega)]
    have hfl : (frmF st l).length = l.length + 2 := by unfold frmF; simp
    exact pl_refwrite_loop (frmF st l) (frmF_bd st l (by omega) hl) (by omega) d (frmF st l).length k 0 (by omega) (by omega)

theorem pl_rbit (r : Nat) (b : Bool) (hr : r < 65536) : bilgeref03_Bit.f (r : Int) b = some ((pb r (if b = true then 1 else 0) : Nat) : Int) := by
  unfold bilgeref03_Bit.f
  have h1 : Int.tmod (r : Int) 2 = ((r % 2 : Nat) : Int) := by rw [Int.tmod_eq_emod_of_nonneg (by omega)]; omega
  have h2 : IntKind.u16.wrap (Int.tdiv (r : Int) 2) = ((r / 2 : Nat) : Int) := by
    rw [Int.tdiv_eq_ediv_of_nonneg (by omega), show (r : Int) / 2 = ((r / 2 : Nat) : Int) by omega]
    simp [IntKind.wrap, IntKind.signed, IntKind.bits]; omega
  have h3 : Go.bits .xor .u16 ((r / 2 : Nat) : Int) 40961 = ((r / 2 ^^^ 40961 : Nat) : Int) := u16_xor_nat (r / 2) 40961 (by omega) (by omega)
  have h4 := par_xor r (if b = true then 1 else 0)
  rw [h1, h2, h3]
  unfold pb
  rcases Nat.mod_two_eq_zero_or_one r with e | e <;> cases b
  · rw [if_neg (by decide), if_neg (by omega), if_neg (by simp at h4 ⊢; omega), Nat.xor_zero]
  · rw [if_pos rfl, if_neg (by omega), if_pos (by simp at h4 ⊢; omega)]
  · rw [if_neg (by decide), if_pos (by omega), if_pos (by simp at h4 ⊢; omega)]
  · rw [if_pos rfl, if_pos (by omega), if_neg (by simp at h4 ⊢; omega), Nat.xor_zero]
theorem pl_rbyte_l (x : Nat) (hx : x < 256) : ∀ (d k i r : Nat), i + d = 8 → d < k → r < 65536 → bilgeref03_Byte.l0 k (r : Int) (x : Int) i = some ((pbs d r (x / 2 ^ i) : Nat) : Int) := by
  intro d
  induction d with
  | zero =>
    intro k i r hi hk hr
    obtain ⟨k, rfl⟩ : ∃ m, k = m + 1 := ⟨k - 1, by omega⟩
    simp only [bilgeref03_Byte.l0]
    rw [if_neg (by omega)]; rfl
  | succ d ih =>
    intro k i r hi hk hr
    obtain ⟨k, rfl⟩ : ∃ m, k = m + 1 := ⟨k - 1, by omega⟩
    simp only [bilgeref03_Byte.l0]
    rw [if_pos (by omega), if_pos (by omega)]
    have e : (Int.tmod (shr .u8 (x : Int) (i : Int)) 2 == 1) = decide (x / 2 ^ i % 2 = 1) := by
      unfold shr
      rw [show min (i : Int).toNat IntKind.u8.bits = i by simp [IntKind.bits]; omega, show (x : Int) / 2 ^ i = ((x / 2 ^ i : Nat) : Int) by simp, Int.tmod_eq_emod_of_nonneg (Int.natCast_nonneg _), Bool.eq_iff_iff]
      simp only [beq_iff_eq, decide_eq_true_eq]
      omega
    rw [e]
    refine pl_bind (pl_rbit r _ hr) ?_
    have e2 : (if decide (x / 2 ^ i % 2 = 1) = true then 1 else 0) = x / 2 ^ i % 2 := by
      rcases Nat.mod_two_eq_zero_or_one (x / 2 ^ i) with h | h <;> rw [h] <;> rfl
    rw [e2, pl_w64 (by omega)]
    have := ih k (i + 1) (pb r (x / 2 ^ i % 2)) (by omega) (by omega) (pb_lt hr)
    rw [Nat.pow_succ, ← Nat.div_div_eq_div_mul] at this
    exact this
theorem pl_rbyte (r x : Nat) (hr : r < 65536) (hx : x < 256) (k : Nat) (hk : 8 < k) : bilgeref03_Byte.f k (r : Int) (x : Int) = some ((pBy r x : Nat) : Int) := by
  unfold bilgeref03_Byte.f
  have := pl_rbyte_l x hx 8 k 0 r (by omega) hk hr
  rw [Nat.pow_zero, Nat.div_one] at this
  exact this

theorem pl_rrem_l (l : List Int) (hb : ∀ x ∈ l, 0 ≤ x ∧ x ≤ 255) (hn : l.length < 100000) (r : Nat) (hr : r < 65536) : ∀ (d k i : Nat), i + d = l.length → d + 8 < k →
    bilgeref03_Rem.l0 k (pRem r (l.take i) : Nat) l i = some ((pRem r l : Nat) : Int) := by
  intro d
  induction d with
  | zero =>
    intro k i hi hk
    obtain ⟨k, rfl⟩ : ∃ m, k = m + 1 := ⟨k - 1, by omega⟩
    simp only [bilgeref03_Rem.l0]
    rw [if_neg (by omega), List.take_of_length_le (by omega)]
  | succ d ih =>
    intro k i hi hk
    obtain ⟨k, rfl⟩ : ∃ m, k = m + 1 := ⟨k - 1, by omega⟩
    simp only [bilgeref03_Rem.l0]
    have hx := hb (l[i]'(by omega)) (List.getElem_mem _)
    obtain ⟨x, he⟩ := Int.eq_ofNat_of_zero_le hx.1
    rw [if_pos (by omega), if_pos (by omega), pl_rd_nat, getD_at _ _ (by omega), he]
    refine pl_bind (pl_rbyte (pRem r (l.take i)) x (pRem_lt _ hr) (by omega) k (by omega)) ?_
    have e : pBy (pRem r (l.take i)) x = pRem r (l.take (i + 1)) := by
      rw [take_snoc l i (by omega), pRem_snoc, he, Int.toNat_natCast]
    rw [e, pl_w64 (by omega)]
    exact ih k (i + 1) (by omega) (by omega)
theorem pl_rrem (l : List Int) (hb : ∀ x ∈ l, 0 ≤ x ∧ x ≤ 255) (hn : l.length < 100000) (r : Nat) (hr : r < 65536) (k : Nat) (hk : l.length + 8 < k) : bilgeref03_Rem.f k (r : Int) l = some ((pRem r l : Nat) : Int) := by
  unfold bilgeref03_Rem.f
  exact pl_rrem_l l hb hn r hr l.length k 0 (by omega) hk

theorem pl_refsum04 (l : List Int) (hb : ∀ x ∈ l, 0 ≤ x ∧ x ≤ 255) (hn : l.length < 100000) (k : Nat) (hk : l.length + 8 < k) : bilgeref04_Sum.f k l = some ((pRem 65535 l : Nat) : Int) := by
  unfold bilgeref04_Sum.f
  exact pl_bind (pl_rrem l hb hn 65535 (by omega) k hk) rfl
theorem pl_lo (m : Nat) : Int.tmod (m : Int) 256 % 256 = ((m % 256 : Nat) : Int) := by
  rw [Int.tmod_eq_emod_of_nonneg (by omega)]; omega
theorem pl_hi (m : Nat) (h : m < 65536) : IntKind.u16.wrap (Int.tdiv (m : Int) 256) % 256 = ((m / 256 : Nat) : Int) := by
  rw [Int.tdiv_eq_ediv_of_nonneg (by omega)]
  simp [IntKind.wrap, IntKind.signed, IntKind.bits]; omega

theorem pl_refappend04 (l : List Int) (hb : ∀ x ∈ l, 0 ≤ x ∧ x ≤ 255) (hn : l.length < 100000) (k : Nat) (hk : l.length + 8 < k) : bilgeref04_Append.f k l = some (pl_crced l) := by
  have hm : pRem 65535 l < 65536 := pRem_lt _ (by omega)
  unfold bilgeref04_Append.f
  refine pl_bind (pl_refsum04 l hb hn k hk) ?_
  rw [pl_lo, pl_hi _ hm]
  refine pl_bind rfl ?_
  rw [if_pos (by rw [List.length_nil]; omega)]
  refine pl_bind rfl ?_
  refine pl_bind rfl ?_
  rw [if_pos (by simp; omega), List.nil_append]
  rfl

theorem pl_refwrap (s : Int) (l : List Int) (hb : ∀ x ∈ l, 0 ≤ x ∧ x ≤ 255) (k : Nat) (hk : 300 < k) : bilgeref11_Wrap.f k s l = some (pl_wrapped s l) := by
  obtain ⟨k, rfl⟩ : ∃ m, k = m + 1 := ⟨k - 1, by omega⟩
  unfold bilgeref11_Wrap.f pl_wrapped
  by_cases h : s < 0 ∨ 255 < s
  · rw [if_pos h]
    have e : bilgeref11_Wrap.j0 (k + 1) s l true = some ([], 11) := by simp only [bilgeref11_Wrap.j0]; rw [if_pos trivial]
    by_cases h1 : s < 0
    · rw [if_pos h1, e]
    · rw [if_neg h1, show decide (s > 255) = true by rw [decide_eq_true_eq]; omega, e]
  · rw [if_neg h, if_neg (by omega), show decide (s > 255) = false by rw [decide_eq_false_iff_not]; omega]
    simp only [bilgeref11_Wrap.j0]
    rw [if_neg (by decide)]
    by_cases h2 : l.length = 0
    · rw [if_pos (by omega), if_pos h2]
    · rw [if_neg (by omega), if_neg h2]
      by_cases h3 : 253 < l.length
      · rw [if_pos (by omega), if_pos h3]
      · rw [if_neg (by omega), if_neg h3, show s % 256 = s by omega]
        refine pl_bind rfl ?_
        rw [if_pos (by rw [List.length_singleton]; omega), List.singleton_append]
        exact pl_bind (pl_refappend04 (s :: l) (pl_cons_u8 s l (by omega) hb) (by rw [List.length_cons]; omega) k (by rw [List.length_cons]; omega)) rfl

theorem pl_refcheck04 (l : List Int) (hb : ∀ x ∈ l, 0 ≤ x ∧ x ≤ 255) (hn : l.length < 100000) (k : Nat) (hk : l.length + 8 < k) : bilgeref04_Check.f k l = some (decide (2 ≤ l.length ∧ pRem 65535 l = 0)) := by
  unfold bilgeref04_Check.f
  by_cases h : 2 ≤ l.length
  · obtain ⟨n, hn2⟩ : ∃ n, l.length = n + 2 := ⟨l.length - 2, by omega⟩
    have ht := pl_refsum04 (l.take n) (fun x hx => hb x (List.mem_of_mem_take hx)) (by rw [List.length_take]; omega) k (by rw [List.length_take]; omega)
    have hm : pRem 65535 (l.take n) < 65536 := pRem_lt _ (by omega)
    have h2 := pRem_two l h
    rw [hn2, show n + 2 - 2 = n by omega, show n + 2 - 1 = n + 1 by omega] at h2
    have hx := hb (l[n]'(by omega)) (List.getElem_mem _)
    have hy := hb (l[n + 1]'(by omega)) (List.getElem_mem _)
    have e1 : rd l (wrap64 ((l.length : Int) - 2)) = l[n]'(by omega) := by
      rw [pl_w64 (by omega), pl_rd_eq l _ n (by omega), getD_at]
    have e2 : rd l (wrap64 (wrap64 ((l.length : Int) - 2) + 1)) = l[n + 1]'(by omega) := by
      rw [pl_w64 (i := (l.length : Int) - 2) (by omega), pl_w64 (by omega), pl_rd_eq l _ (n + 1) (by omega), getD_at]
    rw [getD_at l n (by omega), getD_at l (n + 1) (by omega)] at h2
    rw [e1, e2]
    generalize l[n]'(by omega) = x at *
    generalize l[n + 1]'(by omega) = y at *
    rw [pl_w64 (i := (l.length : Int) - 2) (by omega), if_neg (by omega), if_pos (by omega), if_pos (by omega), show ((l.length : Int) - 2).toNat = n by omega]
    refine pl_bind ht ?_
    generalize pRem 65535 (l.take n) = m at *
    rw [if_pos (by omega), pl_w64 (by omega), if_pos (show (0 : Int) ≤ (l.length : Int) - 2 + 1 by omega), if_pos (show (l.length : Int) - 2 + 1 < (l.length : Int) by omega), pl_lo, pl_hi m hm]
    have h3 := pBy_two (s := m) (a := x.toNat) (b := y.toNat) hm (by omega) (by omega)
    rw [← h2] at h3
    by_cases c : x = ((m % 256 : Nat) : Int)
    · rw [if_pos c]
      refine congrArg some ?_
      rw [Bool.eq_iff_iff]
      simp only [beq_iff_eq, decide_eq_true_eq]
      rw [h3]; omega
    · rw [if_neg c]
      refine congrArg some ?_
      rw [eq_comm, decide_eq_false_iff_not, h3]
      omega
  · rw [pl_w64 (by omega), if_pos (by omega)]
    refine congrArg some ?_
    rw [eq_comm, decide_eq_false_iff_not]
    omega

theorem pl_refopen (l : List Int) (hb : ∀ x ∈ l, 0 ≤ x ∧ x ≤ 255) (hn : l.length < 100000) (k : Nat) (hk : l.length + 8 < k) : bilgeref11_Open.f k l = some (pl_opened l) := by
  unfold bilgeref11_Open.f pl_opened
  by_cases h1 : l.length < 4
  · rw [if_pos (by omega), if_pos h1]
  · rw [if_neg (by omega), if_neg h1]
    by_cases h2 : 256 < l.length
    · rw [if_pos (by omega), if_pos h2]
    · rw [if_neg (by omega), if_neg h2]
      refine pl_bind (pl_refcheck04 l hb hn k hk) ?_
      by_cases hz : pRem 65535 l = 0
      · rw [if_pos (by rw [decide_eq_true_eq]; exact ⟨by omega, hz⟩), if_pos hz, if_pos (by omega)]
        refine pl_bind rfl ?_
        rw [pl_w64 (i := (l.length : Int) - 2) (by omega), if_pos (by omega), if_pos (by omega), show ((l.length : Int) - 2).toNat = l.length - 2 by omega, if_pos (by rw [List.length_drop, List.length_take, List.length_nil]; omega), show rd l 0 = l.getD 0 0 from rfl, pl_u8_w64 hb]
        rfl
      · rw [if_neg (by rw [decide_eq_true_eq]; exact fun h => hz h.2), if_neg hz]

theorem pl_refback36 (S : ByteArray) (d : Int) (hn : S.size < 100000) (k : Nat) (hk : S.size + 500 < k) : bilgeref36_Back.f k S d = some (if (readF (numsOf S) d).2.2 = 0 then pl_wrapped (readF (numsOf S) d).1 (readF (numsOf S) d).2.1 else ([], (readF (numsOf S) d).2.2)) := by
  unfold bilgeref36_Back.f
  refine pl_bind (pl_refread S d hn k hk) ?_
  by_cases h : (readF (numsOf S) d).2.2 = 0
  · rw [if_pos h, if_pos h]
    exact pl_bind (pl_refwrap _ _ (pl_read_bd _ d (numsOf_bd S)).2.1 k (by omega)) rfl
  · rw [if_neg h, if_neg h]
theorem pl_refturn36 (l : List Int) (d : Int) (hl : ∀ x ∈ l, 0 ≤ x ∧ x ≤ 255) (hn : l.length < 100000) (k : Nat) (hk : l.length + 500 < k) : bilgeref36_Turn.f k l d = some (if (pl_opened l).2.2 = 0 then writeF (pl_opened l).1 (pl_opened l).2.1 d else (⟨#[]⟩, (pl_opened l).2.2)) := by
  unfold bilgeref36_Turn.f
  refine pl_bind (pl_refopen l hl hn k (by omega)) ?_
  by_cases h : (pl_opened l).2.2 = 0
  · rw [if_pos h, if_pos h]
    have hb : ∀ x ∈ (pl_opened l).2.1, 0 ≤ x ∧ x ≤ 255 := by
      unfold pl_opened
      split
      · simp
      · split
        · simp
        · split
          · exact fun x hx => hl x (List.mem_of_mem_take (List.mem_of_mem_drop hx))
          · simp
    exact pl_bind (pl_refwrite _ _ d hb k (by omega)) rfl
  · rw [if_neg h, if_neg h]

theorem pl_bytes_l (a b : List Int) (hl : a.length = b.length) (hn : a.length < 9223372036854775807) : ∀ (d k i : Nat), i + d = a.length → d < k → a.take i = b.take i →
    bilgeref01_Bytes.l0 k a b i = some (decide (a = b)) := by
  intro d
  induction d with
  | zero =>
    intro k i hi hk ht
    obtain ⟨k, rfl⟩ : ∃ m, k = m + 1 := ⟨k - 1, by omega⟩
    simp only [bilgeref01_Bytes.l0]
    rw [if_neg (by omega)]
    have : a = b := by
      rw [List.take_of_length_le (by omega), List.take_of_length_le (by omega)] at ht; exact ht
    simp [this]
  | succ d ih =>
    intro k i hi hk ht
    obtain ⟨k, rfl⟩ : ∃ m, k = m + 1 := ⟨k - 1, by omega⟩
    simp only [bilgeref01_Bytes.l0]
    rw [if_pos (by omega), if_pos (by omega), if_pos (by omega), pl_rd_nat, pl_rd_nat, getD_at _ _ (by omega), getD_at _ _ (by omega), pl_w64 (by omega)]
    by_cases e : a[i] = b[i]
    · rw [if_pos e]
      exact ih k (i + 1) (by omega) (by omega) (by rw [take_snoc a i (by omega), take_snoc b i (by omega), ht, e])
    · rw [if_neg e]
      have : a ≠ b := by rintro rfl; exact e rfl
      simp [this]
theorem pl_bytes (a b : List Int) (hn : a.length < 9223372036854775807) (k : Nat) (hk : a.length < k) : bilgeref01_Bytes.f k a b = some (decide (a = b)) := by
  unfold bilgeref01_Bytes.f
  by_cases hl : a.length = b.length
  · rw [if_pos (by omega)]
    exact pl_bytes_l a b hl hn a.length k 0 (by omega) hk rfl
  · rw [if_neg (by omega)]
    have : a ≠ b := by rintro rfl; exact hl rfl
    simp [this]

theorem TextTells : bilgelaw36_TextTells.Pure := by
  intro l S n hl hS hn
  have hlb := pl_u8c hl.2.2
  obtain ⟨K, hK⟩ : ∃ K : Nat, 3000 ≤ K := ⟨3000, by omega⟩
  refine ⟨K, ?_⟩
  have hll := hl.2.1
  have hmx : maxLen = 9223372036854775807 := rfl
  generalize n.f0 = st
  unfold bilgelaw36_TextTells.f
  obtain ⟨d, hd⟩ : ∃ d, Go.bits .and .i64 n.f1 255 % 256 = d := ⟨_, rfl⟩
  have hdb : 0 ≤ d ∧ d ≤ 255 := by omega
  rw [pl_w64 (i := (l.length : Int) + (S.size : Int)) (by omega), hd]
  by_cases hlen : l.length + S.size > 900
  · rw [if_pos (by omega)]; exact pl_bind (pl_sure36 _ (by omega)) rfl
  rw [if_neg (by omega)]
  have hrl := (pl_read_bd (numsOf S) d (numsOf_bd S)).2.2
  have hbl := pl_back_len S d
  refine pl_bind (pl_textwrite st l d hlb hdb) ?_
  refine pl_bind (pl_refwrite st l d hlb K (by omega)) ?_
  refine pl_bind (pl_textread S d (by omega) K (by omega)) ?_
  refine pl_bind (pl_refread S d (by omega) K (by omega)) ?_
  refine pl_bind (pl_textturn l d hlb hdb (by omega)) ?_
  refine pl_bind (pl_refturn36 l d hlb (by omega) K (by omega)) ?_
  refine pl_bind (pl_textback S d (by omega) K (by omega)) ?_
  refine pl_bind (pl_refback36 S d (by omega) K (by omega)) ?_
  refine Eq.trans (if_pos rfl) ?_
  refine Eq.trans (if_pos rfl) ?_
  refine Eq.trans (if_pos rfl) ?_
  refine pl_bind (pl_bytes _ _ (by omega) K (by omega)) ?_
  rw [if_pos (by simp)]
  refine Eq.trans (if_pos rfl) ?_
  refine Eq.trans (if_pos rfl) ?_
  refine Eq.trans (if_pos rfl) ?_
  refine pl_bind (pl_bytes _ _ (by omega) K (by omega)) ?_
  rw [if_pos (by simp)]
  refine Eq.trans (if_pos rfl) ?_
  exact pl_bind (pl_sure36 _ (by omega)) rfl

end Go.Proofs.Ytballgciakljnaa.Pure

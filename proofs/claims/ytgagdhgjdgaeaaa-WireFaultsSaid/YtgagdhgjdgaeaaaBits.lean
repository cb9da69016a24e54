import Derived.Test.YtgagdhgjdgaeaaaTab
import Derived.Test.YtgagdhgjdgaeaaaMine
/- Plain mathematics of this session: turned bits, and what remainder they leave (layers 4 and 11). No program in sight. -/
namespace Go.Proofs.YtgagdhgjdgaeaaaM

def bitsB : Nat → Nat → List Bool
  | 0, _ => []
  | n + 1, b => b.testBit 0 :: bitsB n (b / 2)
/-- The bits of bytes, as they come: the low one of each first. -/
def bitsOf : List Int → List Bool
  | [] => []
  | x :: l => bitsB 8 x.toNat ++ bitsOf l
def pBits (r : Nat) (l : List Bool) : Nat := l.foldl (fun r b => pb r b.toNat) r
theorem bitsB_len (n b : Nat) : (bitsB n b).length = n := by
  induction n generalizing b with
  | zero => rfl
  | succ n ih => rw [bitsB, List.length_cons, ih]
theorem bitsOf_len (l : List Int) : (bitsOf l).length = 8 * l.length := by
  induction l with
  | nil => rfl
  | cons x l ih => rw [bitsOf, List.length_append, bitsB_len, ih, List.length_cons]; omega
theorem bitsB_getD (n b k : Nat) (h : k < n) : (bitsB n b).getD k false = b.testBit k := by
  induction n generalizing b k with
  | zero => omega
  | succ n ih =>
    cases k with
    | zero => rfl
    | succ k =>
      rw [bitsB, List.getD_cons_succ, ih _ _ (by omega), Nat.testBit_succ]
theorem getD_left {α : Type} (a b : List α) (k : Nat) (d : α) (h : k < a.length) : (a ++ b).getD k d = a.getD k d := by
  rw [List.getD_eq_getElem?_getD, List.getD_eq_getElem?_getD, List.getElem?_append_left h]
theorem getD_right {α : Type} (a b : List α) (k : Nat) (d : α) (h : a.length ≤ k) : (a ++ b).getD k d = b.getD (k - a.length) d := by
  rw [List.getD_eq_getElem?_getD, List.getD_eq_getElem?_getD, List.getElem?_append_right h]
theorem bitsOf_getD (l : List Int) (k : Nat) : (bitsOf l).getD k false = ((l.getD (k / 8) 0).toNat.testBit (k % 8) && decide (k / 8 < l.length)) := by
  induction l generalizing k with
  | nil => simp [bitsOf]
  | cons x l ih =>
    rw [bitsOf]
    by_cases h : k < 8
    · have h0 : k / 8 = 0 := by omega
      have h1 : k % 8 = k := by omega
      rw [getD_left _ _ _ _ (by rw [bitsB_len]; exact h), bitsB_getD _ _ _ h, h0, h1]
      simp
    · rw [getD_right _ _ _ _ (by rw [bitsB_len]; omega), bitsB_len, ih]
      obtain ⟨q, hq⟩ : ∃ q, k / 8 = q + 1 := ⟨k / 8 - 1, by omega⟩
      have h1 : (k - 8) / 8 = q := by omega
      have h2 : (k - 8) % 8 = k % 8 := by omega
      rw [hq, h1, h2, List.getD_cons_succ]
      simp
theorem bool_toNat (b : Nat) : (b.testBit 0).toNat = b % 2 := by
  rw [Nat.testBit_zero]
  rcases Nat.mod_two_eq_zero_or_one b with h | h <;> rw [h] <;> rfl
theorem pBits_cons (r : Nat) (b : Bool) (l : List Bool) : pBits r (b :: l) = pBits (pb r b.toNat) l := rfl
theorem pBits_append (r : Nat) (a b : List Bool) : pBits r (a ++ b) = pBits (pBits r a) b := by unfold pBits; rw [List.foldl_append]
theorem pbs_bits (n : Nat) : ∀ r b : Nat, pbs n r b = pBits r (bitsB n b) := by
  induction n with
  | zero => intro r b; rfl
  | succ n ih => intro r b; rw [bitsB, pBits_cons, bool_toNat, ← ih]; rfl
theorem pRem_bits (r : Nat) (l : List Int) : pRem r l = pBits r (bitsOf l) := by
  induction l generalizing r with
  | nil => rfl
  | cons x l ih => rw [pRem_cons, bitsOf, pBits_append, ih, ← pbs_bits]; rfl
theorem pBits_lt (l : List Bool) : ∀ {r : Nat}, r < 65536 → pBits r l < 65536 := by
  induction l with
  | nil => intro r h; exact h
  | cons b l ih => intro r h; exact ih (pb_lt h)
theorem xor_toNat (a b : Bool) : (a ^^ b).toNat = a.toNat ^^^ b.toNat := by cases a <;> cases b <;> rfl
theorem pBits_xor (a : List Bool) : ∀ (b : List Bool) (r s : Nat), a.length = b.length → pBits (r ^^^ s) (List.zipWith xor a b) = pBits r a ^^^ pBits s b := by
  induction a with
  | nil => intro b r s h; cases b with | nil => rfl | cons y b => simp at h
  | cons x a ih =>
    intro b r s h
    cases b with
    | nil => simp at h
    | cons y b =>
      rw [List.zipWith_cons_cons, pBits_cons, pBits_cons, pBits_cons, xor_toNat, pb_xor]
      exact ih b _ _ (by simpa using h)
theorem pb_zero {r : Nat} (h : r < 65536) (h0 : pb r 0 = 0) : r = 0 := by
  have h1 := ub_pb (r := r) (o := 0) h (by omega)
  rw [h0] at h1
  exact h1.symm
/-- What is not 0 stays so behind zeros. -/
theorem pBits_zeros {e : List Bool} (he : e.count true = 0) : ∀ {r : Nat}, r < 65536 → (pBits r e = 0 ↔ r = 0) := by
  induction e with
  | nil => intro r _; exact Iff.rfl
  | cons b e ih =>
    intro r hr
    cases b with
    | true => simp at he
    | false =>
      rw [pBits_cons, ih (by simpa using he) (pb_lt hr)]
      exact ⟨pb_zero hr, by rintro rfl; rfl⟩
/-! one bit, and an odd number of bits: by the sum of a remainder's bits -/
def parN : Nat → Nat → Nat
  | 0, _ => 0
  | n + 1, r => (r % 2 + parN n (r / 2)) % 2
theorem parN_xor (n : Nat) : ∀ a b : Nat, parN n (a ^^^ b) = (parN n a + parN n b) % 2 := by
  induction n with
  | zero => intro a b; rfl
  | succ n ih =>
    intro a b
    have h := par_xor a b
    have h2 : (a ^^^ b) / 2 = a / 2 ^^^ b / 2 := Nat.xor_div_two
    simp only [parN]
    rw [h2, ih, h]
    omega
theorem parN_half (n : Nat) : ∀ r : Nat, r < 2 ^ n → parN (n + 1) r = parN n r := by
  induction n with
  | zero => intro r h; have : r = 0 := by simpa using h
            subst this; rfl
  | succ n ih =>
    intro r h
    have := ih (r / 2) (by rw [Nat.pow_succ] at h; omega)
    rw [show parN (n + 1 + 1) r = (r % 2 + parN (n + 1) (r / 2)) % 2 from rfl, this]; rfl
theorem parN_pb {r o : Nat} (hr : r < 65536) (ho : o < 2) : parN 16 (pb r o) = (parN 16 r + o) % 2 := by
  have h1 : parN 16 (r / 2) = parN 15 (r / 2) := parN_half 15 _ (by omega)
  have h2 : parN 16 r = (r % 2 + parN 15 (r / 2)) % 2 := rfl
  have h3 := par_xor r o
  unfold pb
  rw [parN_xor, h1, h2]
  by_cases c : (r ^^^ o) % 2 = 1
  · rw [if_pos c, show parN 16 40961 = 1 from rfl]; omega
  · rw [if_neg c, show parN 16 0 = 0 from rfl]; omega
theorem parN_bits (e : List Bool) : ∀ {r : Nat}, r < 65536 → parN 16 (pBits r e) = (parN 16 r + e.count true) % 2 := by
  induction e with
  | nil => intro r _; simp only [pBits, List.foldl_nil, List.count_nil]
           have : parN 16 r = (r % 2 + parN 15 (r / 2)) % 2 := rfl
           omega
  | cons b e ih =>
    intro r hr
    rw [pBits_cons, ih (pb_lt hr), parN_pb hr (by cases b <;> decide)]
    cases b
    · rw [List.count_cons_of_ne (by decide)]; simp
    · rw [List.count_cons_self]; simp only [Bool.toNat_true]; omega
theorem odd_left {e : List Bool} (h : e.count true % 2 = 1) : pBits 0 e ≠ 0 := by
  intro h0
  have := parN_bits e (r := 0) (by omega)
  rw [h0, show parN 16 0 = 0 from rfl] at this
  omega
/-! two bits: no power of x up to 3300 is 1 -/
def twoB : Nat → Nat → Bool
  | 0, _ => true
  | n + 1, r => !(Nat.beq (pb r 0) 40961) && twoB n (pb r 0)
theorem twoB_all : twoB 3300 40961 = true := by decide +kernel
/-- r is the remainder of d zeros behind one bit. -/
def zs : Nat → Nat
  | 0 => 40961
  | d + 1 => pb (zs d) 0
theorem zs_lt (d : Nat) : zs d < 65536 := by
  induction d with
  | zero => decide
  | succ d ih => exact pb_lt ih
theorem twoB_step (n d j : Nat) (h : twoB n (zs d) = true) (hj : j < n) : zs (d + j + 1) ≠ 40961 := by
  induction n generalizing d j with
  | zero => omega
  | succ n ih =>
    simp only [twoB, Bool.and_eq_true, Bool.not_eq_true'] at h
    cases j with
    | zero =>
      intro e
      have h1 := h.1
      rw [show pb (zs d) 0 = zs (d + 0 + 1) from rfl, e] at h1
      exact absurd h1 (by decide)
    | succ j =>
      have := ih (d + 1) j h.2 (by omega)
      rw [show d + (j + 1) + 1 = d + 1 + j + 1 by omega]
      exact this
theorem zs_ne (d : Nat) (h : d < 3300) : zs (d + 1) ≠ 40961 := by
  have := twoB_step 3300 0 d twoB_all h
  rwa [Nat.zero_add] at this
theorem two_left1 (e : List Bool) : ∀ d : Nat, d + e.length < 3300 → e.count true = 1 → pBits (zs d) e ≠ 0 := by
  induction e with
  | nil => intro d _ h; simp at h
  | cons b e ih =>
    intro d hd h
    rw [pBits_cons]
    cases b with
    | false =>
      exact ih (d + 1) (by rw [List.length_cons] at hd; omega) (by simpa using h)
    | true =>
      rw [List.count_cons_self] at h
      have e1 : pb (zs d) 1 = zs (d + 1) ^^^ 40961 := by
        have := pb_xor (zs d) 0 0 1
        rw [Nat.xor_zero, Nat.zero_xor] at this
        exact this
      rw [show Bool.toNat true = 1 from rfl]
      intro h0
      have h1 := (pBits_zeros (e := e) (by omega) (pb_lt (zs_lt d))).1 h0
      rw [e1] at h1
      exact zs_ne d (by rw [List.length_cons] at hd; omega) (xor_zero_eq h1)
theorem two_left (e : List Bool) : e.length < 3300 → e.count true = 2 → pBits 0 e ≠ 0 := by
  induction e with
  | nil => intro _ h; simp at h
  | cons b e ih =>
    intro hl h
    rw [pBits_cons]
    cases b with
    | false => exact ih (by rw [List.length_cons] at hl; omega) (by simpa using h)
    | true =>
      rw [List.count_cons_self] at h
      exact two_left1 e 0 (by rw [List.length_cons] at hl; omega) (by omega)
/-! bits that stand within 16 -/
def valB : List Bool → Nat
  | [] => 0
  | b :: l => b.toNat + 2 * valB l
theorem valB_lt (l : List Bool) : valB l < 2 ^ l.length := by
  induction l with
  | nil => simp [valB]
  | cons b l ih =>
    have : b.toNat ≤ 1 := by cases b <;> decide
    rw [valB, List.length_cons, Nat.pow_succ]; omega
theorem valB_self (l : List Bool) : pBits (valB l) l = 0 := by
  induction l with
  | nil => rfl
  | cons b l ih =>
    rw [pBits_cons]
    have e : pb (valB (b :: l)) b.toNat = valB l := by
      have hx := par_xor (valB (b :: l)) b.toNat
      have : b.toNat ≤ 1 := by cases b <;> decide
      unfold pb
      rw [if_neg (by rw [hx, valB]; omega), Nat.xor_zero, valB]; omega
    rw [e, ih]
theorem valB_zero {l : List Bool} (h : valB l = 0) : l.count true = 0 := by
  induction l with
  | nil => rfl
  | cons b l ih =>
    rw [valB] at h
    cases b with
    | true => simp at h
    | false =>
      have := ih (by simp only [Bool.toNat_false] at h; omega)
      simpa using this
theorem zip_zeros (l : List Bool) : List.zipWith xor (List.replicate l.length false) l = l := by
  induction l with
  | nil => rfl
  | cons b l ih => rw [List.length_cons, List.replicate_succ, List.zipWith_cons_cons, ih, Bool.false_xor]
theorem zip_self (l : List Bool) : List.zipWith xor l l = List.replicate l.length false := by
  induction l with
  | nil => rfl
  | cons b l ih => rw [List.length_cons, List.replicate_succ, List.zipWith_cons_cons, ih, Bool.xor_self]
theorem within (l : List Bool) (hl : l.length ≤ 16) (h : pBits 0 l = 0) : l.count true = 0 := by
  have hv : valB l < 65536 := Nat.lt_of_lt_of_le (valB_lt l) (Nat.pow_le_pow_right (n := 2) (by omega) hl)
  have h1 := pBits_xor (List.replicate l.length false) l (valB l) 0 (by rw [List.length_replicate])
  rw [zip_zeros, Nat.xor_zero, valB_self, h, Nat.xor_zero] at h1
  have h2 := (pBits_zeros (e := List.replicate l.length false) (by rw [List.count_replicate]; rfl) hv).1 h1.symm
  exact valB_zero h2
/-- Where all that is turned stands within 16 from k on, and nothing is left: nothing is turned. -/
theorem burst_left (e : List Bool) (k : Nat) (hk : ∀ j, e.getD j false = true → k ≤ j ∧ j < k + 16) (h : pBits 0 e = 0) : e.count true = 0 := by
  have c0 : ∀ l : List Bool, (∀ j, l.getD j false = true → False) → l.count true = 0 := by
    intro l hl
    rw [List.count_eq_zero]
    intro hm
    obtain ⟨j, hj, he⟩ := List.getElem_of_mem hm
    exact hl j (by rw [List.getD_eq_getElem?_getD, List.getElem?_eq_getElem hj, he]; rfl)
  have e1 : e = e.take k ++ ((e.drop k).take 16 ++ (e.drop k).drop 16) := by rw [List.take_append_drop, List.take_append_drop]
  have z1 : (e.take k).count true = 0 := c0 _ (fun j hj => by
    by_cases h2 : j < (e.take k).length
    · have h3 := getD_left (e.take k) ((e.drop k).take 16 ++ (e.drop k).drop 16) j false h2
      rw [← e1, hj] at h3
      have := hk j h3
      rw [List.length_take] at h2
      omega
    · rw [List.getD_eq_getElem?_getD, List.getElem?_eq_none (by omega)] at hj
      cases hj)
  have z3 : ((e.drop k).drop 16).count true = 0 := c0 _ (fun j hj => by
    rw [List.drop_drop, List.getD_eq_getElem?_getD, List.getElem?_drop, ← List.getD_eq_getElem?_getD] at hj
    have := hk _ hj
    omega)
  rw [e1, pBits_append, (pBits_zeros z1 (by omega)).2 rfl, pBits_append] at h
  have h2 := (pBits_zeros z3 (pBits_lt _ (by omega))).1 h
  have z2 := within _ (by rw [List.length_take]; omega) h2
  rw [e1, List.count_append, List.count_append, z1, z2, z3]
/-! turning a bit -/
def tog (e : List Bool) (k : Nat) : List Bool := e.set k (!(e.getD k false))
theorem tog_len (e : List Bool) (k : Nat) : (tog e k).length = e.length := List.length_set ..
theorem getD_ext {a b : List Bool} (hl : a.length = b.length) (h : ∀ j, j < a.length → a.getD j false = b.getD j false) : a = b := by
  apply List.ext_getElem hl
  intro i h1 h2
  have := h i h1
  rw [List.getD_eq_getElem?_getD, List.getD_eq_getElem?_getD, List.getElem?_eq_getElem h1, List.getElem?_eq_getElem h2] at this
  exact this
theorem getD_zip (a b : List Bool) (hl : a.length = b.length) (j : Nat) : (List.zipWith xor a b).getD j false = (a.getD j false ^^ b.getD j false) := by
  simp only [List.getD_eq_getElem?_getD, List.getElem?_zipWith]
  by_cases h : j < a.length
  · rw [List.getElem?_eq_getElem h, List.getElem?_eq_getElem (by omega)]; rfl
  · rw [List.getElem?_eq_none (by omega), List.getElem?_eq_none (by omega)]; rfl
theorem getD_tog (e : List Bool) (k j : Nat) (hk : k < e.length) : (tog e k).getD j false = (e.getD j false ^^ decide (j = k)) := by
  unfold tog
  by_cases h : j = k
  · subst h
    rw [List.getD_eq_getElem?_getD, List.getElem?_set_self hk]; simp
  · rw [List.getD_eq_getElem?_getD, List.getElem?_set_ne (by omega), ← List.getD_eq_getElem?_getD, decide_eq_false h, Bool.xor_false]
theorem zip_tog (a e : List Bool) (k : Nat) (hl : a.length = e.length) (hk : k < e.length) : tog (List.zipWith xor a e) k = List.zipWith xor a (tog e k) := by
  refine getD_ext (by rw [tog_len, List.length_zipWith, List.length_zipWith, tog_len]) (fun j _ => ?_)
  rw [getD_tog _ _ _ (by rw [List.length_zipWith]; omega), getD_zip _ _ hl, getD_zip _ _ (by rw [tog_len]; exact hl), getD_tog _ _ _ hk, Bool.xor_assoc]
theorem zip_none (a : List Bool) : List.zipWith xor a (List.replicate a.length false) = a := by
  refine getD_ext (by rw [List.length_zipWith, List.length_replicate]; omega) (fun j _ => ?_)
  rw [getD_zip _ _ (by rw [List.length_replicate]), List.getD_eq_getElem?_getD (l := List.replicate _ _), List.getElem?_replicate]
  split <;> simp
theorem count_tog (e : List Bool) : ∀ (k : Nat), k < e.length → e.getD k false = false → (tog e k).count true = e.count true + 1 := by
  induction e with
  | nil => intro k h; simp at h
  | cons b e ih =>
    intro k h h0
    cases k with
    | zero =>
      have : b = false := h0
      subst this
      show (true :: e).count true = _
      rw [List.count_cons_self, List.count_cons_of_ne (by decide)]
    | succ k =>
      have := ih k (by simpa using h) h0
      show (b :: tog e k).count true = _
      rw [List.count_cons, List.count_cons, this]; omega
/-- Bytes of which one bit is turned. -/
def flipB (l : List Int) (k : Nat) : List Int := l.set (k / 8) (((l.getD (k / 8) 0).toNat ^^^ 2 ^ (k % 8) : Nat) : Int)
theorem flipB_len (l : List Int) (k : Nat) : (flipB l k).length = l.length := List.length_set ..
theorem flipB_u8 (l : List Int) (k : Nat) (hb : ∀ x ∈ l, 0 ≤ x ∧ x ≤ 255) (hk : k / 8 < l.length) : ∀ x ∈ flipB l k, 0 ≤ x ∧ x ≤ 255 := by
  intro x hx
  rcases List.mem_or_eq_of_mem_set hx with h | rfl
  · exact hb x h
  · have h1 := hb _ (List.getElem_mem hk)
    rw [getD_at l _ hk]
    have : (l[k / 8]).toNat ^^^ 2 ^ (k % 8) < 2 ^ 8 := Nat.xor_lt_two_pow (by omega) (Nat.pow_lt_pow_right (by omega) (by omega))
    omega
theorem bits_flip (l : List Int) (k : Nat) (hk : k / 8 < l.length) : bitsOf (flipB l k) = tog (bitsOf l) k := by
  have hk8 : k < (bitsOf l).length := by rw [bitsOf_len]; omega
  refine getD_ext (by rw [tog_len, bitsOf_len, bitsOf_len, flipB_len]) (fun j _ => ?_)
  rw [getD_tog _ _ _ hk8, bitsOf_getD, bitsOf_getD, flipB_len]
  unfold flipB
  by_cases h : j / 8 = k / 8
  · rw [h, List.getD_eq_getElem?_getD, List.getElem?_set_self hk, Option.getD_some, Int.toNat_natCast, Nat.testBit_xor, Nat.testBit_two_pow]
    have : decide (k % 8 = j % 8) = decide (j = k) := by
      rw [Bool.eq_iff_iff]; simp only [decide_eq_true_eq]; omega
    rw [this, decide_eq_true hk]; simp
  · rw [List.getD_eq_getElem?_getD, List.getElem?_set_ne (by omega), ← List.getD_eq_getElem?_getD, decide_eq_false (show ¬ j = k by rintro rfl; exact h rfl), Bool.xor_false]
theorem bitsB_inj {n a b : Nat} (ha : a < 2 ^ n) (hb : b < 2 ^ n) (h : ∀ i < n, a.testBit i = b.testBit i) : a = b := by
  apply Nat.eq_of_testBit_eq
  intro i
  by_cases hi : i < n
  · exact h i hi
  · rw [Nat.testBit_lt_two_pow (Nat.lt_of_lt_of_le ha (Nat.pow_le_pow_right (by omega) (by omega))), Nat.testBit_lt_two_pow (Nat.lt_of_lt_of_le hb (Nat.pow_le_pow_right (by omega) (by omega)))]
theorem bitsOf_inj {a b : List Int} (hl : a.length = b.length) (ha : ∀ x ∈ a, 0 ≤ x ∧ x ≤ 255) (hb : ∀ x ∈ b, 0 ≤ x ∧ x ≤ 255) (h : bitsOf a = bitsOf b) : a = b := by
  apply List.ext_getElem hl
  intro i h1 h2
  have ba := ha _ (List.getElem_mem h1)
  have bb := hb _ (List.getElem_mem h2)
  have := bitsB_inj (n := 8) (a := (a[i]).toNat) (b := (b[i]).toNat) (by omega) (by omega) (fun j hj => by
    have h3 := congrArg (fun z => z.getD (8 * i + j) false) h
    simp only [bitsOf_getD] at h3
    rw [show (8 * i + j) / 8 = i by omega, show (8 * i + j) % 8 = j by omega, getD_at a i h1, getD_at b i h2, decide_eq_true h1, decide_eq_true h2] at h3
    simpa using h3)
  omega
theorem count_zero_rep {e : List Bool} (h : e.count true = 0) : e = List.replicate e.length false := by
  induction e with
  | nil => rfl
  | cons b e ih =>
    cases b with
    | true => simp at h
    | false => rw [List.length_cons, List.replicate_succ, ← ih (by simpa using h)]
/-- What is left of bytes that were whole, once some bits are turned. -/
theorem pRem_turned {x y : List Int} {e : List Bool} (h0 : pRem 65535 x = 0) (hl : e.length = (bitsOf x).length) (h : bitsOf y = List.zipWith xor (bitsOf x) e) : pRem 65535 y = pBits 0 e := by
  rw [pRem_bits] at h0 ⊢
  have := pBits_xor (bitsOf x) e 65535 0 hl.symm
  rw [Nat.xor_zero, h0, Nat.zero_xor] at this
  rw [h, this]
end Go.Proofs.YtgagdhgjdgaeaaaM

/- Plain mathematics of this session: remainders over two elements, bit by bit (layers 3 and 4), on natural numbers. No program in sight. -/
namespace Go.Proofs.YtgagdhgjdgaeaaaM

/-- A remainder behind a bit more. -/
def pb (r o : Nat) : Nat := (r / 2) ^^^ (if (r ^^^ o) % 2 = 1 then 40961 else 0)
/-- The n low bits of b, one behind the other. -/
def pbs : Nat → Nat → Nat → Nat
  | 0, r, _ => r
  | n + 1, r, b => pbs n (pb r (b % 2)) (b / 2)
/-- A byte. -/
def pBy (r b : Nat) : Nat := pbs 8 r b
/-- Bytes. -/
def pRem (r : Nat) (l : List Int) : Nat := l.foldl (fun r x => pBy r x.toNat) r
/-- A bit back. -/
def ub (r o : Nat) : Nat := (((r ^^^ (if r / 32768 = 1 then 40961 else 0)) * 2) % 65536 ||| r / 32768) ^^^ o
def ubs : Nat → Nat → Nat → Nat
  | 0, r, _ => r
  | n + 1, r, b => ub (ubs n r (b / 2)) (b % 2)
def pUn (r b : Nat) : Nat := ubs 8 r b

theorem par_xor (a b : Nat) : (a ^^^ b) % 2 = (a % 2 + b % 2) % 2 := by
  have h : (a ^^^ b) % 2 = a % 2 ^^^ b % 2 := by
    have := Nat.xor_mod_two_pow (a := a) (b := b) (n := 1)
    simpa using this
  rcases Nat.mod_two_eq_zero_or_one a with h1 | h1 <;> rcases Nat.mod_two_eq_zero_or_one b with h2 | h2 <;> rw [h, h1, h2] <;> rfl
theorem pb_lt {r o : Nat} (h : r < 65536) : pb r o < 65536 := by
  unfold pb
  refine Nat.xor_lt_two_pow (n := 16) (by omega) ?_
  split <;> omega
theorem pb_xor (r s o q : Nat) : pb (r ^^^ s) (o ^^^ q) = pb r o ^^^ pb s q := by
  unfold pb
  have h1 : (r ^^^ s) / 2 = r / 2 ^^^ s / 2 := Nat.xor_div_two
  have h2 := par_xor (r ^^^ s) (o ^^^ q)
  have h3 := par_xor r s
  have h4 := par_xor o q
  have h5 := par_xor r o
  have h6 := par_xor s q
  rw [h1]
  by_cases c1 : (r ^^^ o) % 2 = 1 <;> by_cases c2 : (s ^^^ q) % 2 = 1
  · rw [if_pos c1, if_pos c2, if_neg (by omega)]
    rw [show (r / 2 ^^^ 40961) ^^^ (s / 2 ^^^ 40961) = (r / 2 ^^^ s / 2) ^^^ (40961 ^^^ 40961) by ac_rfl]; rfl
  · rw [if_pos c1, if_neg c2, if_pos (by omega)]
    rw [show (r / 2 ^^^ 40961) ^^^ (s / 2 ^^^ 0) = (r / 2 ^^^ s / 2) ^^^ (40961 ^^^ 0) by ac_rfl]; rfl
  · rw [if_neg c1, if_pos c2, if_pos (by omega)]
    rw [show (r / 2 ^^^ 0) ^^^ (s / 2 ^^^ 40961) = (r / 2 ^^^ s / 2) ^^^ (40961 ^^^ 0) by ac_rfl]; rfl
  · rw [if_neg c1, if_neg c2, if_neg (by omega)]
    rw [show (r / 2 ^^^ 0) ^^^ (s / 2 ^^^ 0) = (r / 2 ^^^ s / 2) ^^^ (0 ^^^ 0) by ac_rfl]; rfl
theorem pbs_lt (n : Nat) : ∀ {r b : Nat}, r < 65536 → pbs n r b < 65536 := by
  induction n with
  | zero => intro r b h; exact h
  | succ n ih => intro r b h; exact ih (pb_lt h)
theorem pBy_lt {r b : Nat} (h : r < 65536) : pBy r b < 65536 := pbs_lt 8 h
theorem pbs_xor (n : Nat) : ∀ r s b c : Nat, pbs n (r ^^^ s) (b ^^^ c) = pbs n r b ^^^ pbs n s c := by
  induction n with
  | zero => intro r s b c; rfl
  | succ n ih =>
    intro r s b c
    simp only [pbs]
    have h1 : (b ^^^ c) / 2 = b / 2 ^^^ c / 2 := Nat.xor_div_two
    have h2 : (b ^^^ c) % 2 = b % 2 ^^^ c % 2 := by
      have := Nat.xor_mod_two_pow (a := b) (b := c) (n := 1)
      simpa using this
    rw [h1, h2, pb_xor, ih]
theorem pBy_xor (r s b c : Nat) : pBy (r ^^^ s) (b ^^^ c) = pBy r b ^^^ pBy s c := pbs_xor 8 r s b c
theorem pRem_lt {r : Nat} (l : List Int) (h : r < 65536) : pRem r l < 65536 := by
  unfold pRem
  induction l generalizing r with
  | nil => exact h
  | cons a l ih => exact ih (pBy_lt h)
theorem pRem_append (r : Nat) (a b : List Int) : pRem r (a ++ b) = pRem (pRem r a) b := by unfold pRem; rw [List.foldl_append]
theorem pRem_cons (r : Nat) (x : Int) (b : List Int) : pRem r (x :: b) = pRem (pBy r x.toNat) b := rfl
theorem pRem_snoc (r : Nat) (a : List Int) (x : Int) : pRem r (a ++ [x]) = pBy (pRem r a) x.toNat := by rw [pRem_append]; rfl

theorem ub_lt {r o : Nat} (h : r < 65536) (ho : o < 2) : ub r o < 65536 := by
  unfold ub
  refine Nat.xor_lt_two_pow (n := 16) (Nat.or_lt_two_pow (by omega) (by omega)) (by omega)
theorem or_bit (x t : Nat) (ht : t < 2) : (x * 2) ||| t = x * 2 + t := by
  have h := Nat.two_pow_add_eq_or_of_lt (i := 1) (b := t) (by simpa using ht) x
  rw [show x * 2 = 2 ^ 1 * x by omega, h]
theorem xor_bit (x t o : Nat) (ht : t < 2) (ho : o < 2) : (x * 2 + t) ^^^ o = x * 2 + (t + o) % 2 := by
  have h1 : ((x * 2 + t) ^^^ o) / 2 = (x * 2 + t) / 2 ^^^ o / 2 := Nat.xor_div_two
  have h2 := par_xor (x * 2 + t) o
  rw [show o / 2 = 0 by omega, Nat.xor_zero] at h1
  omega
theorem top_of (x : Nat) : (x ^^^ 40961) / 32768 = x / 32768 ^^^ 1 := by
  have := Nat.xor_div_two_pow (a := x) (b := 40961) (n := 15)
  simpa using this
theorem pb_ub {r o : Nat} (h : r < 65536) (ho : o < 2) : pb (ub r o) o = r := by
  have hl : r / 32768 < 2 := by omega
  have ht := top_of r
  obtain ⟨c, hc⟩ : ∃ c, r ^^^ (if r / 32768 = 1 then 40961 else 0) = c := ⟨_, rfl⟩
  have hcl : c < 32768 := by
    rw [← hc]
    by_cases g : r / 32768 = 1
    · rw [if_pos g]
      rw [g] at ht
      simp at ht
      omega
    · rw [if_neg g, Nat.xor_zero]; omega
  have hu : ub r o = c * 2 + (r / 32768 + o) % 2 := by
    unfold ub
    rw [hc, Nat.mod_eq_of_lt (by omega), or_bit _ _ hl, xor_bit _ _ _ hl ho]
  have hp := par_xor (ub r o) o
  unfold pb
  rw [show ub r o / 2 = c by omega]
  by_cases g : r / 32768 = 1
  · rw [if_pos (by omega), ← hc, if_pos g, Nat.xor_assoc, Nat.xor_self, Nat.xor_zero]
  · rw [if_neg (by omega), ← hc, if_neg g, Nat.xor_zero, Nat.xor_zero]
theorem ub_pb {r o : Nat} (h : r < 65536) (ho : o < 2) : ub (pb r o) o = r := by
  have hp := par_xor r o
  have ht := top_of (r / 2)
  rw [show r / 2 / 32768 = 0 by omega, Nat.zero_xor] at ht
  unfold ub pb
  by_cases g : (r ^^^ o) % 2 = 1
  · rw [if_pos g, ht, if_pos rfl, Nat.xor_assoc, Nat.xor_self, Nat.xor_zero, Nat.mod_eq_of_lt (by omega), or_bit _ _ (by omega), xor_bit _ _ _ (by omega) ho]
    omega
  · rw [if_neg g, Nat.xor_zero, show r / 2 / 32768 = 0 by omega, if_neg (by omega), Nat.xor_zero, Nat.mod_eq_of_lt (by omega), or_bit _ _ (by omega), xor_bit _ _ _ (by omega) ho]
    omega
theorem ubs_lt (n : Nat) : ∀ {r b : Nat}, r < 65536 → ubs n r b < 65536 := by
  induction n with
  | zero => intro r b h; exact h
  | succ n ih => intro r b h; exact ub_lt (ih h) (by omega)
theorem pbs_ubs (n : Nat) : ∀ {r b : Nat}, r < 65536 → pbs n (ubs n r b) b = r := by
  induction n with
  | zero => intro r b h; rfl
  | succ n ih => intro r b h; simp only [pbs, ubs]; rw [pb_ub (ubs_lt n h) (by omega), ih h]
theorem ubs_pbs (n : Nat) : ∀ {r b : Nat}, r < 65536 → ubs n (pbs n r b) b = r := by
  induction n with
  | zero => intro r b h; rfl
  | succ n ih => intro r b h; simp only [pbs, ubs]; rw [ih (pb_lt h), ub_pb h (by omega)]
theorem pBy_pUn {r b : Nat} (h : r < 65536) : pBy (pUn r b) b = r := pbs_ubs 8 h
theorem pUn_pBy {r b : Nat} (h : r < 65536) : pUn (pBy r b) b = r := ubs_pbs 8 h
theorem pUn_lt {r b : Nat} (h : r < 65536) : pUn r b < 65536 := ubs_lt 8 h
end Go.Proofs.YtgagdhgjdgaeaaaM

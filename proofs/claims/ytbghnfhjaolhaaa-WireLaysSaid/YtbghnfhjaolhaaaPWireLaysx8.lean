-- Written by a program of this session, in the form of the kit's print, some functions by hand (N.B. not a file of print.sh's).
import Derived.Test.YtbghnfhjaolhaaaPWireLaysx0
namespace Go.Proofs.Ytbghnfhjaolhaaa.PWireLays
open Go.RowKit Go.Proofs.YtbghnfhjaolhaaaW.PrintWords Go.Proofs.YtbghnfhjaolhaaaW.PrintLast Go.Proofs.YtbghnfhjaolhaaaW.PrintMore Go.Proofs.YtbghnfhjaolhaaaM
attribute [local go_sem] max2_int min2_int max_two min_two max_three min_three max_four min_four   -- for this text's walks alone
set_option linter.unusedVariables false
set_option linter.unusedSimpArgs false

/-! ### wire_with: function 75 (by hand) -/
/-- What a function value does that is handed to wire.with: it sets one cell of one element. -/
def Turns (N : Nat) (cap : List Value) (w : World) (F : S54 → S54) : Prop :=
  (∀ (args : Array Value) (W : World), (callFunc N args).run Try.prog W = .ok (.enter N args) W) ∧ ∀ (W : World) (g o : Nat) (x : S54), Below w.heap.size w W → w.heap.size ≤ g → W.cell? ⟨g, o, none⟩ = some (.int .i64 x.f0) → W.cell? ⟨g, o + 1, none⟩ = some (.int .u8 x.f1) → W.cell? ⟨g, o + 2, none⟩ = some (.bool x.f2) → (∀ j, W.frozen? ⟨g, o + j, none⟩ = false) →
    Calls Try.prog N (Value.pointer (some ⟨g, o, none⟩) :: cap).toArray W fun e W' => e = .returned (.tuple #[]) ∧ ∃ (i : Nat) (v : Value) (n : Nat), i < 3 ∧ W' = (W.setCell ⟨g, o + i, none⟩ v).drewN n ∧ [.int .i64 (F x).f0, .int .u8 (F x).f1, .bool (F x).f2] = [Value.int .i64 x.f0, .int .u8 x.f1, .bool x.f2].set i v
def withF (F : S54 → S54) (l : List S54) (k : Int) : List S54 := if 0 ≤ k ∧ k < (l.length : Int) then l.set k.toNat (F (rd_T54 l k)) else l
theorem touch_at {W : World} {base g n c q : Nat} {ok : Nat → Prop} {xs : List S54} (h : Kd.R k54 54 W base ok (.slice (some ⟨g, 0, none⟩) n c) xs) (hq : q < n) :
    W.cell? ⟨g, q * 3, none⟩ = some (.int .i64 (rd_T54 xs q).f0) ∧ W.cell? ⟨g, q * 3 + 1, none⟩ = some (.int .u8 (rd_T54 xs q).f1) ∧ W.cell? ⟨g, q * 3 + 2, none⟩ = some (.bool (rd_T54 xs q).f2) ∧ ∀ j, W.frozen? ⟨g, q * 3 + j, none⟩ = false := by
  obtain ⟨cs, hl, hM, hc, hf⟩ := Kd.R_elem h z54 (q : Int) (Int.natCast_nonneg _) (by omega)
  have e : cs = [.int .i64 (rd_T54 xs q).f0, .int .u8 (rd_T54 xs q).f1, .bool (rd_T54 xs q).f2] := k54_openM hM
  subst e
  rw [Int.toNat_natCast] at hc hf
  exact ⟨hc 0 _ rfl, hc 1 _ rfl, hc 2 _ rfl, hf⟩
theorem touch {W : World} {base g n c q i m : Nat} {ok : Nat → Prop} {xs : List S54} {v : Value} {x' : S54} (h : Kd.R k54 54 W base ok (.slice (some ⟨g, 0, none⟩) n c) xs) (hq : q < n) (hi : i < 3)
    (he : [.int .i64 x'.f0, .int .u8 x'.f1, .bool x'.f2] = [Value.int .i64 (rd_T54 xs q).f0, .int .u8 (rd_T54 xs q).f1, .bool (rd_T54 xs q).f2].set i v) :
    Kd.R k54 54 ((W.setCell ⟨g, q * 3 + i, none⟩ v).drewN m) base ok (.slice (some ⟨g, 0, none⟩) n c) (xs.set q x') ∧ W.grownBy (W.setCell ⟨g, q * 3 + i, none⟩ v) (some g) := by
  obtain ⟨cs, hl, hM, hc, hf⟩ := Kd.R_elem h z54 (q : Int) (Int.natCast_nonneg _) (by omega)
  have e : cs = [.int .i64 (rd_T54 xs q).f0, .int .u8 (rd_T54 xs q).f1, .bool (rd_T54 xs q).f2] := k54_openM hM
  subst e
  rw [Int.toNat_natCast] at hc
  have hs := Kd.R_seg h (q : Int) (Int.natCast_nonneg _) (by omega) (seg := [v]) (j := i) (c := [.int .i64 (rd_T54 xs q).f0, .int .u8 (rd_T54 xs q).f1, .bool (rd_T54 xs q).f2]) rfl (by rw [Int.toNat_natCast]; exact hc) (by show i + 1 ≤ 3; omega) (x' := x') (okp := fun _ => False)
    (by
      have e2 : [Value.int .i64 (rd_T54 xs q).f0, .int .u8 (rd_T54 xs q).f1, .bool (rd_T54 xs q).f2].take i ++ [v] ++ [Value.int .i64 (rd_T54 xs q).f0, .int .u8 (rd_T54 xs q).f1, .bool (rd_T54 xs q).f2].drop (i + [v].length) = [Value.int .i64 (rd_T54 xs q).f0, .int .u8 (rd_T54 xs q).f1, .bool (rd_T54 xs q).f2].set i v := by
        rcases i with _ | _ | _ | i
        · rfl
        · rfl
        · rfl
        · omega
      rw [e2, ← he]
      exact k54_mkM _ _ _ _) (fun _ h => h.elim)
  rw [Int.toNat_natCast] at hs
  exact ⟨Kd.R_drewN hs.1 m, hs.2⟩
set_option maxRecDepth 100000 in
theorem with_calls (N : Nat) (A0 : Option Addr) (c0 : Nat) (l0 : List S54) (k : Int) (cap : List Value) (F : S54 → S54) (w : World) (hr0 : Kd.C k54 w A0 l0.length l0) (hc0 : l0.length ≤ c0) (hl : l0.length < 8796093022208) (hF : Turns N cap w F) :
    Calls Try.prog 75 #[.slice A0 l0.length c0, .int .i64 k, .func (.func N) #[] cap.toArray] w fun e w' => ∃ v0_ : Value, e = .returned (v0_) ∧ Kd.R k54 54 w' w.heap.size (fun _ => True) v0_ (withF F l0 k) ∧ Below w.heap.size w w' := by
  have HR0 := Aside0.mk hr0
  have HC0 := Aside0.mk hc0
  have HF := Aside0.mk hF
  have HB0 := Aside0.mk (Below.refl w.heap.size w)
  by_cases hk : 0 ≤ k ∧ k < (l0.length : Int)
  · have e1 : withF F l0 k = l0.set k.toNat (F (rd_T54 l0 k)) := if_pos hk
    rw [e1]
    obtain ⟨hk0, hk1⟩ := hk
    obtain ⟨q, rfl⟩ := Int.eq_ofNat_of_zero_le hk0
    have hq : q < l0.length := by omega
    have HQ := Aside0.mk hq
    have hp : 0 < l0.length := by omega
    have HP := Aside0.mk hp
    clear hr0 hc0 hF e1 hp hk0
    go_enter Try.func75, Try.ntmps75
    go_wp2_with (first
      | ((with_reducible refine gate_builtin (b := .copy) (xs := #[.tmp 11, .tmp 12]) rfl ?_); refine R_copy_rows k54 (w0 := w) w.heap.size rfl (.tmp 11) (.tmp 12) 45 45 54 rfl Try.underlying45 (by kernel_rfl) (by decide) v1 _ l0 A0 l0.length c0 (fun _ => True) (fun _ => False) rfl rfl HO1.out (Kd.C_below HR0.out HB1.out) (fun _ _ h => by rw [k54_open h]; exact k54_mkM _ _ _ _) (fun _ h => h.elim) (by rw [List.length_replicate, Int.toNat_natCast]) HB1.out HB1.out.size ?_; intro w2 ho2 hb2 hg2_; have HO2 := Aside0.mk ho2; have HB2 := Aside0.mk hb2; clear ho2 hb2 hg2_ HO1; obtain ⟨g, co, rfl, hgb, hgs, cells, hcells⟩ := Kd.R_form HO2.out HP.out; have HGB := Aside0.mk hgb; have HGS := Aside0.mk hgs; clear hgb hgs hcells)
      | ((with_reducible refine gate_dst (N := 10) rfl ?_); refine Kd.R_make k54 w.heap.size 54 ?hg (N := 10) ?hd 45 (.tmp 9) (.tmp 9) rfl (l0.length : Int) ?hx ?hy Try.underlying45 (.agg #[(.int .i64 0), (.int .u8 0), (.bool false)]) 16 info54 rfl (by decide) (by decide) z54 (okp := fun _ => False) (ok := fun _ => True) (k54_mkM _ _ _ _) (fun _ h => h.elim) trivial (by omega) (by omega) HB0.out (Nat.le_refl _) ?_; (case hd => rfl); (case hg => rfl); (case hx => rfl); (case hy => rfl); intro v1 w1 ho1 hb1 hg_ hat_; have HO1 := Aside0.mk ho1; have HB1 := Aside0.mk hb1; clear ho1 hb1 hg_ hat_))
    have HG := touch_at HO2.out HQ.out
    rw [HF.out.1, Oper.upon_enter]
    refine (HF.out.2 w2 g (q * 3) _ HB2.out HGB.out HG.1 HG.2.1 HG.2.2.1 HG.2.2.2).mono ?_
    rintro e w3 ⟨rfl, i, v, n, hi, rfl, he⟩
    obtain ⟨hr3, hg3⟩ := touch (m := n) HO2.out HQ.out hi he
    have HO3 := Aside0.mk hr3
    have HB3 := Aside0.mk (pw_below_drewN (HB2.out.grown hg3 HB2.out.size (fun k hk => by cases hk; exact HGB.out)) n)
    clear hr3 hg3
    go_wp2
    go_ret
    exact ⟨_, rfl, HO3.out, HB3.out⟩
  · have e1 : withF F l0 k = l0 := if_neg hk
    rw [e1]
    have d1 : (decide (0 ≤ k) && decide (k < (l0.length : Int))) = false := by
      rw [Bool.and_eq_false_iff, decide_eq_false_iff_not, decide_eq_false_iff_not]; omega
    clear hr0 hc0 hF e1
    go_enter Try.func75, Try.ntmps75
    go_wp2_with (first
      | ((with_reducible refine gate_builtin (b := .copy) (xs := #[.tmp 11, .tmp 12]) rfl ?_); refine R_copy_rows k54 (w0 := w) w.heap.size rfl (.tmp 11) (.tmp 12) 45 45 54 rfl Try.underlying45 (by kernel_rfl) (by decide) v1 _ l0 A0 l0.length c0 (fun _ => True) (fun _ => False) rfl rfl HO1.out (Kd.C_below HR0.out HB1.out) (fun _ _ h => by rw [k54_open h]; exact k54_mkM _ _ _ _) (fun _ h => h.elim) (by rw [List.length_replicate, Int.toNat_natCast]) HB1.out HB1.out.size ?_; intro w2 ho2 hb2 hg2_; have HO2 := Aside0.mk ho2; have HB2 := Aside0.mk hb2; clear ho2 hb2 hg2_ HO1; obtain ⟨Ao, co, rfl⟩ := Kd.R_slice HO2.out)
      | ((with_reducible refine gate_dst (N := 10) rfl ?_); refine Kd.R_make k54 w.heap.size 54 ?hg (N := 10) ?hd 45 (.tmp 9) (.tmp 9) rfl (l0.length : Int) ?hx ?hy Try.underlying45 (.agg #[(.int .i64 0), (.int .u8 0), (.bool false)]) 16 info54 rfl (by decide) (by decide) z54 (okp := fun _ => False) (ok := fun _ => True) (k54_mkM _ _ _ _) (fun _ h => h.elim) trivial (by omega) (by omega) HB0.out (Nat.le_refl _) ?_; (case hd => rfl); (case hg => rfl); (case hx => rfl); (case hy => rfl); intro v1 w1 ho1 hb1 hg_ hat_; have HO1 := Aside0.mk ho1; have HB1 := Aside0.mk hb1; clear ho1 hb1 hg_ hat_))
    all_goals (go_ret; exact ⟨_, rfl, HO2.out, HB2.out⟩)

end Go.Proofs.Ytbghnfhjaolhaaa.PWireLays

-- Written by a program of this session, in the form of the kit's print, some functions by hand (N.B. not a file of print.sh's).
import Derived.Test.YtballgciakljnaaPCharsFramesx0
import Derived.Test.YtballgciakljnaaPCharsFramesx1
import Derived.Test.YtballgciakljnaaPCharsFramesx4
import Derived.Test.YtballgciakljnaaPCharsFramesx5
import Derived.Test.YtballgciakljnaaPCharsFramesx6
import Derived.Test.YtballgciakljnaaPCharsFramesx7
import Derived.Test.YtballgciakljnaaPCharsFramesx11
namespace Go.Proofs.Ytballgciakljnaa.PCharsFrames
open Go.RowKit Go.Proofs.YtballgciakljnaaW.PrintWords Go.Proofs.YtballgciakljnaaW.PrintLast Go.Proofs.YtballgciakljnaaW.PrintMore Go.Proofs.YtballgciakljnaaM
attribute [local go_sem] max2_int min2_int max_two min_two max_three min_three max_four min_four   -- for this text's walks alone
set_option linter.unusedVariables false
set_option linter.unusedSimpArgs false

/-! ### bilgelaw37_CharsFrames: function 3 (by hand) -/
theorem tk_mid0 (s : Tk) (t b : Int) (hd : t - s.no ≤ s.q) : midF s t b = doF { s with no := t } b := by
  unfold midF lateF; rw [if_neg (by omega)]
theorem tk_noise (s : Tk) (t b : Int) (hd : t - s.no ≤ s.q) (hl : s.hl = []) (hb : b ≠ 58) : signF s t b = ({ s with no := t }, [], false) := by
  have hm : midF s t b = { s with no := t } := by rw [tk_mid0 s t b hd]; unfold doF; rw [if_neg hb, if_pos hl]
  have ho : overF { s with no := t } = false := by unfold overF; simp [hl]
  unfold signF; rw [hm, ho]; simp [hl]
theorem tk_first (s : Tk) (t : Int) (hd : t - s.no ≤ s.q) (hl : s.hl = []) : signF s t 58 = ({ s with no := t, hl := [58] }, [], false) := by
  have hm : midF s t 58 = { s with no := t, hl := [58] } := by rw [tk_mid0 s t 58 hd]; unfold doF offF; rw [if_pos rfl, if_pos hl]
  have ho : overF { s with no := t, hl := [58] } = false := by unfold overF; simp
  unfold signF; rw [hm, ho]; simp
theorem tk_goes (s : Tk) (t b : Int) (hd : t - s.no ≤ s.q) (hl : s.hl ≠ []) (hb : b ≠ 58) (hd' : b ≠ s.d) (hn : s.hl.length + 1 < 513) : signF s t b = ({ s with no := t, hl := s.hl ++ [b] }, [], false) := by
  have hm : midF s t b = { s with no := t, hl := s.hl ++ [b] } := by rw [tk_mid0 s t b hd]; unfold doF; rw [if_neg hb, if_neg hl]
  have ho : overF { s with no := t, hl := s.hl ++ [b] } = false := by unfold overF; simp [hd']
  unfold signF; rw [hm, ho]; simp; omega
theorem tk_last (s : Tk) (t : Int) (X : List Int) (hd : t - s.no ≤ s.q) (hl : s.hl = X ++ [13]) (hb : s.d = 10) : signF s t 10 = ({ s with no := t, hl := [] }, X ++ [13, 10], true) := by
  have hm : midF s t 10 = { s with no := t, hl := X ++ [13, 10] } := by
    rw [tk_mid0 s t 10 hd]; unfold doF; rw [if_neg (by decide), if_neg (by rw [hl]; simp)]; simp [hl]
  have ho : overF { s with no := t, hl := X ++ [13, 10] } = true := by
    unfold overF
    have h1 : (X ++ [13, 10]).getD (X.length + 2 - 1) 0 = 10 := by rw [List.getD_eq_getElem?_getD, List.getElem?_append_right (by omega)]; rw [show X.length + 2 - 1 - X.length = 1 by omega]; rfl
    have h2 : (X ++ [13, 10]).getD (X.length + 2 - 2) 0 = 13 := by rw [List.getD_eq_getElem?_getD, List.getElem?_append_right (by omega)]; rw [show X.length + 2 - 2 - X.length = 0 by omega]; rfl
    simp only [List.length_append, List.length_cons, List.length_nil, Nat.zero_add, Nat.reduceAdd]
    rw [h1, h2, hb]; simp
  unfold signF; rw [hm, ho]; simp
def hlAt (K : Nat) (T : List Int) (k : Nat) : List Int := if k ≤ K ∨ K + T.length ≤ k then [] else T.take (k - K)
theorem dig_ne (n : Int) (h : 0 ≤ n ∧ n < 16) : digF n ≠ 58 ∧ digF n ≠ 10 := by unfold digF; split <;> omega
theorem hexF_ne (l : List Int) (hl : ∀ x ∈ l, 0 ≤ x ∧ x ≤ 255) : ∀ y ∈ hexF l, y ≠ 58 ∧ y ≠ 10 := by
  intro y hy
  unfold hexF at hy
  rw [List.mem_flatMap] at hy
  obtain ⟨x, hx, hy⟩ := hy
  have := hl x hx
  simp only [List.mem_cons, List.not_mem_nil, or_false] at hy
  rcases hy with rfl | rfl
  · exact dig_ne _ (by omega)
  · exact dig_ne _ (by omega)
/-- One sign of a frame as text, with noise ahead. -/
theorem tk_run (s : Tk) (t δ : Int) (K : Nat) (N H : List Int) (k : Nat) (b : Int) (hK : N.length = K) (hH : ∀ y ∈ H, y ≠ 58 ∧ y ≠ 10) (hHl : H.length ≤ 510)
    (hδ : t + δ - s.no ≤ s.q) (hd : s.d = 10) (hk : s.hl = hlAt K (58 :: (H ++ [13, 10])) k) (hb : (N ++ 58 :: (H ++ [13, 10]))[k]? = some b) (hn : k < K → b ≠ 58) :
    signF s (t + δ) b = ({ s with no := t + δ, hl := hlAt K (58 :: (H ++ [13, 10])) (k + 1) }, (if k + 1 = K + (H.length + 3) then 58 :: (H ++ [13, 10]) else []), decide (k + 1 = K + (H.length + 3))) := by
  have hTl : (58 :: (H ++ [13, 10])).length = H.length + 3 := by simp
  by_cases h1 : k < K
  · have hz : s.hl = [] := by rw [hk]; unfold hlAt; rw [if_pos (Or.inl (by omega))]
    have hz1 : hlAt K (58 :: (H ++ [13, 10])) (k + 1) = [] := by unfold hlAt; rw [if_pos (Or.inl (by omega))]
    rw [tk_noise s _ b hδ hz (hn h1), hz1, if_neg (by omega), decide_eq_false (by omega), ← hz]
  · obtain ⟨j, rfl⟩ : ∃ j, k = K + j := ⟨k - K, by omega⟩
    rw [List.getElem?_append_right (by omega), hK, Nat.add_sub_cancel_left] at hb
    by_cases h2 : j = 0
    · subst h2
      simp at hb
      subst hb
      have hz : s.hl = [] := by rw [hk]; unfold hlAt; rw [if_pos (Or.inl (by omega))]
      have hz1 : hlAt K (58 :: (H ++ [13, 10])) (K + 0 + 1) = [58] := by unfold hlAt; rw [if_neg (by rw [hTl]; omega), show K + 0 + 1 - K = 1 by omega]; rfl
      rw [tk_first s _ hδ hz, hz1, if_neg (by omega), decide_eq_false (by omega)]
    · obtain ⟨i, rfl⟩ : ∃ i, j = i + 1 := ⟨j - 1, by omega⟩
      rw [List.getElem?_cons_succ] at hb
      have hil : i < H.length + 2 := by
        have h := (List.getElem?_eq_some_iff.1 hb).1
        simp at h
        exact h
      have hs : s.hl = 58 :: (H ++ [13, 10]).take i := by rw [hk]; unfold hlAt; rw [if_neg (by rw [hTl]; omega), show K + (i + 1) - K = i + 1 by omega]; rfl
      by_cases h3 : i = H.length + 1
      · subst h3
        rw [List.getElem?_append_right (by omega), show H.length + 1 - H.length = 1 by omega] at hb
        simp at hb
        subst hb
        have hs' : s.hl = (58 :: H) ++ [13] := by rw [hs, show H ++ [13, 10] = (H ++ [13]) ++ [10] by simp, List.take_append_of_le_length (by simp), List.take_of_length_le (by simp)]; rfl
        have hz1 : hlAt K (58 :: (H ++ [13, 10])) (K + (H.length + 1 + 1) + 1) = [] := by unfold hlAt; rw [if_pos (Or.inr (by rw [hTl]; omega))]
        rw [tk_last s _ _ hδ hs' hd, hz1, if_pos (by omega), decide_eq_true (by omega)]
        rfl
      · have hbn : b ≠ 58 ∧ b ≠ 10 := by
          by_cases h4 : i < H.length
          · rw [List.getElem?_append_left h4] at hb
            exact hH b (List.mem_of_getElem? hb)
          · obtain rfl : i = H.length := by omega
            rw [List.getElem?_append_right (by omega), Nat.sub_self] at hb
            simp at hb
            subst hb
            decide
        have hz1 : hlAt K (58 :: (H ++ [13, 10])) (K + (i + 1) + 1) = s.hl ++ [b] := by
          unfold hlAt
          rw [if_neg (by rw [hTl]; omega), show K + (i + 1) + 1 - K = i + 1 + 1 by omega, hs, List.take_succ_cons, List.take_add_one, hb]
          rfl
        rw [tk_goes s _ b hδ (by rw [hs]; simp) hbn.1 (by rw [hd]; exact hbn.2) (by rw [hs]; simp; omega), hz1, if_neg (by omega), decide_eq_false (by omega)]
/-- Rows of two types are two blocks. -/
theorem fr_apart {α β : Type} {d : Kd α} {d' : Kd β} {e e' B B' : Nat} {ok ok' : Nat → Prop} {v v' : Value} {xs : List α} {ys : List β} {W : World} (h : d.R e W B ok v xs) (h' : d'.R e' W B' ok' v' ys) (ht : e ≠ e') : ∀ k, v.ownBlock = some k → some k ≠ v'.ownBlock := by
  intro k hk
  obtain ⟨cells, hc⟩ := Kd.R_typed h k hk
  exact Kd.R_ne h' hc (fun e => ht e.symm)
theorem fr_at {w : World} {A : Option Addr} {l : List (List Int)} (h : Kd.C (Kd.slice 5 (Kd.int .u8)) w A l.length l) (k : Nat) (hk : k < l.length) :
    ∃ ad B c P, A = some ad ∧ l[k]? = some P ∧ w.cell? (ad.add k) = some (.slice B P.length c) ∧ P.length ≤ c ∧ Kd.C (Kd.int .u8) w B P.length P := by
  obtain ⟨ad, e, hc⟩ := h.2.2 (by omega)
  obtain ⟨cs, _, ⟨B, c, rfl, h1, h2⟩, hcell⟩ := hc k _ (List.getElem?_eq_getElem hk)
  have := hcell 0 _ rfl
  rw [show k * (Kd.slice 5 (Kd.int .u8)).sz + 0 = k by show k * 1 + 0 = k; omega] at this
  exact ⟨ad, B, c, l[k], e, List.getElem?_eq_getElem hk, this, h1, h2⟩
theorem fr_text (st : Int) (P : List Int) (hs : 0 ≤ st ∧ st ≤ 255) (hP : ∀ x ∈ P, 0 ≤ x ∧ x ≤ 255) (hl : P.length ≤ 253) : ∃ H, txtF st P 10 = 58 :: (H ++ [13, 10]) ∧ (∀ y ∈ H, y ≠ 58 ∧ y ≠ 10) ∧ H.length ≤ 510 ∧ ∀ y ∈ txtF st P 10, 0 ≤ y ∧ y ≤ 255 := by
  refine ⟨hexF (frmF st P), rfl, hexF_ne _ (frmF_bd st P hs hP), ?_, fun y hy => ?_⟩
  · rw [hexF_len]; unfold frmF; simp; omega
  · unfold txtF at hy
    simp only [List.mem_cons, List.mem_append, List.not_mem_nil, or_false] at hy
    rcases hy with rfl | hy | rfl | rfl
    · omega
    · exact hexF_bd _ (frmF_bd st P hs hP) y hy
    · omega
    · omega
theorem fr_write (st : Int) (P : List Int) (hs : 0 ≤ st ∧ st ≤ 255) (hP : ∀ x ∈ P, 0 ≤ x ∧ x ≤ 255) : (∃ en : Int, en ≠ 0 ∧ text_Write.f st P 10 = some (⟨#[]⟩, en)) ∨ (P.length ≤ 253 ∧ text_Write.f st P 10 = some (strOfNums (txtF st P 10), 0)) := by
  unfold text_Write.f
  rw [if_neg (by omega)]
  by_cases h1 : P.length = 0
  · exact .inl ⟨12, by decide, by rw [if_pos h1]⟩
  by_cases h2 : 253 < P.length
  · exact .inl ⟨13, by decide, by rw [if_neg h1, if_pos h2]⟩
  exact .inr ⟨by omega, by rw [if_neg h1, if_neg h2, if_pos ⟨hP, by decide⟩]⟩
theorem hlAt_len (K : Nat) (T : List Int) (k : Nat) : (hlAt K T k).length ≤ T.length := by
  unfold hlAt; split
  · simp
  · rw [List.length_take]; omega
theorem fr_step (a2 t : Int) (K M k : Nat) (N H T : List Int) (x : Int) (hK : N.length = K) (hT : T = 58 :: (H ++ [13, 10])) (hH : (∀ y ∈ H, y ≠ 58 ∧ y ≠ 10) ∧ H.length ≤ 510) (hM : M = K + (H.length + 3)) (hx : (N ++ T)[k]? = some x) (hn : k < K → x ≠ 58) :
    signF ⟨1 + a2, t, 10, 0, hlAt K T k⟩ (t + a2) x = (⟨1 + a2, t + a2, 10, 0, hlAt K T (k + 1)⟩, (if k + 1 = M then T else []), decide (k + 1 = M)) := by
  subst hT hM
  exact tk_run ⟨1 + a2, t, 10, 0, hlAt K _ k⟩ t a2 K N H k x hK hH.1 hH.2 (by show t + a2 - t ≤ 1 + a2; omega) rfl rfl hx hn
theorem fr_end (K M : Nat) (H T : List Int) (hT : T = 58 :: (H ++ [13, 10])) (hM : M = K + (H.length + 3)) : hlAt K T M = [] := by
  unfold hlAt; rw [if_pos (Or.inr (by rw [hT, hM]; simp))]
theorem fr_ok (a2 t : Int) (K : Nat) (T : List Int) (k : Nat) (h : 0 ≤ a2 ∧ a2 ≤ 255) (ht : 0 ≤ t ∧ t ≤ 1099511627776) (hl : T.length ≤ 600) : Tk.Ok ⟨1 + a2, t, 10, 0, hlAt K T k⟩ :=
  ⟨⟨by show 1 ≤ 1 + a2; omega, by show 1 + a2 ≤ 16777216; omega⟩, ht, ⟨Int.le_refl _, show (0 : Int) < 1000000 by decide⟩, Nat.le_trans (hlAt_len K T k) hl⟩
theorem ct_grown {w w1 : World} {B g : Nat} {v : Value} {s : Tk} {row : Option Nat} (h : Ct w B g v s) (hg : w.grownBy w1 row) (h1 : some g ≠ row) (h2 : ∀ k, v.ownBlock = some k → some k ≠ row) : Ct w1 B g v s :=
  ⟨(hg.block g (blk_lt h.1) h1).trans h.1, Kd.R_mono (Kd.R_grown (Kd.R_tight rfl h.2.1) hg (fun k hk => h2 k hk.symm)) (fun _ _ => trivial), h.2.2⟩
theorem ct_bel {w w1 : World} {B g : Nat} {v : Value} {s : Tk} (h : Ct w B g v s) (hb : Below w.heap.size w w1) : Ct w1 B g v s := ⟨blk_below h.1 hb, Kd.R_below h.2.1 hb, h.2.2⟩
def bilgelaw37_CharsFrames.f (l0 : List (List Int)) (l1 : List Int) (a2 : Int) : Option Bool := if (∀ x ∈ l0, ∀ y ∈ x, 0 ≤ y ∧ y ≤ 255) ∧ (∀ y ∈ l1, 0 ≤ y ∧ y ≤ 255) ∧ 0 ≤ a2 ∧ a2 ≤ 255 then some true else none
set_option maxHeartbeats 8000000 in
set_option maxRecDepth 100000 in
theorem bilgelaw37_CharsFrames.calls (A0 : Option Addr) (c0 : Nat) (l0 : List (List Int)) (A1 : Option Addr) (c1 : Nat) (l1 : List Int) (a2 : Int) (r : Bool) (w : World) (hr0 : Kd.C (Kd.slice 5 (Kd.int .u8)) w A0 l0.length l0) (hc0 : l0.length ≤ c0) (hr1 : Kd.C (Kd.int .u8) w A1 l1.length l1) (hc1 : l1.length ≤ c1) (h : bilgelaw37_CharsFrames.f l0 l1 a2 = some r) :
    Calls Try.prog 3 #[.slice A0 l0.length c0, .slice A1 l1.length c1, .int .u8 a2] w fun e w' => e = .returned (.bool r) ∧ Below w.heap.size w w' := by
  unfold bilgelaw37_CharsFrames.f at h
  split at h
  case isFalse => cases h
  case isTrue hb =>
  obtain rfl := Option.some.inj h
  obtain ⟨n, hn⟩ : ∃ n, l0.length = n := ⟨_, rfl⟩
  obtain ⟨K, hK⟩ : ∃ K, l1.length = K := ⟨_, rfl⟩
  have HR0 := Aside0.mk hr0
  rw [hK] at hr1
  have HR1 := Aside0.mk hr1
  have HN := Aside0.mk hn
  have HK := Aside0.mk hK
  have HBD := Aside0.mk hb
  have hd0 : 0 ≤ a2 := hb.2.2.1
  have hd1 : a2 ≤ 255 := hb.2.2.2
  rw [hn, hK]
  clear hr0 hc0 hr1 hc1 hn hK hb h
  by_cases h1 : 12 < n
  · have d0 : decide ((12 : Int) < (n : Int)) = true := decide_eq_true (by omega)
    go_enter Try.func3, Try.ntmps3
    go_wp2_with fail
    refine (ch_sure _).mono ?_
    rintro e w1 ⟨rfl, hg⟩
    have HG := Aside0.mk hg
    clear hg
    go_wp2
    go_ret
    exact ⟨rfl, HG.out⟩
  have d0 : decide ((12 : Int) < (n : Int)) = false := decide_eq_false (by omega)
  by_cases h2 : 300 < K
  · have d1 : decide ((300 : Int) < (K : Int)) = true := decide_eq_true (by omega)
    go_enter Try.func3, Try.ntmps3
    go_wp2_with fail
    refine (ch_sure _).mono ?_
    rintro e w1 ⟨rfl, hg⟩
    have HG := Aside0.mk hg
    clear hg
    go_wp2
    go_ret
    exact ⟨rfl, HG.out⟩
  have d1 : decide ((300 : Int) < (K : Int)) = false := decide_eq_false (by omega)
  have HNW := Aside0.mk (tk_new_made (1 + a2) 10 w w (Below.refl _ _) ⟨by omega, by omega⟩)
  have HN12 := Aside0.mk (show n ≤ 12 by omega)
  have HK300 := Aside0.mk (show K ≤ 300 by omega)
  have HD := Aside0.mk (show 0 ≤ a2 ∧ a2 ≤ 255 from ⟨hd0, hd1⟩)
  clear h1 h2
  go_enter Try.func3, Try.ntmps3
  go_wp2_with fail
  refine HNW.out.mono ?_
  rintro e w3 ⟨g, rfl, hb, hB, hB', hge⟩
  have HC3 := Aside0.mk hb
  have HB3 := Aside0.mk hB
  clear hb hB hB' hge HNW d0 d1
  go_wp2
  go_loopw [11, 10, 9, 8] (fun v11 v10 v9 v8 wr => ∃ (i : Nat) (t : Int) (v : Value) (L : List ByteArray), i ≤ n ∧ v11 = .int .i64 (i : Int) ∧ v10 = .int .i64 t ∧ Aside0 (Ct wr w.heap.size g v ⟨1 + a2, t, 10, 0, []⟩) ∧ Aside0 (Kd.R Kd.string 9 wr w.heap.size (fun k => some k = v9.ownBlock) v9 L) ∧ Aside0 (Kd.R Kd.string 9 wr w.heap.size (fun k => some k = v8.ownBlock) v8 L) ∧ Aside0 (∀ k, v8.ownBlock = some k → some k ≠ v9.ownBlock) ∧ Aside0 (L.length = i) ∧ Aside0 (0 ≤ t ∧ t ≤ (i : Int) * 207315) ∧ Aside0 (Below w.heap.size w wr)) (fun v11 _ _ _ _ => n - (intOf v11).toNat)
  case atStart => exact ⟨0, 0, _, [], Nat.zero_le _, rfl, rfl, HC3, ⟨Kd.R_nil _ _ _ _ _⟩, ⟨Kd.R_nil _ _ _ _ _⟩, ⟨fun k hk => by simp [Value.ownBlock] at hk⟩, ⟨rfl⟩, ⟨by omega, by omega⟩, HB3⟩
  case round =>
    clear HC3 HB3
    obtain ⟨i, t, v, L, hin, rfl, rfl, HC, HRO, HRI, HSEP, HLL, HT, HB⟩ := hrel
    obtain ⟨A9, c9, rfl⟩ := Kd.R_slice HRO.out
    obtain ⟨A8, c8, rfl⟩ := Kd.R_slice HRI.out
    rw [HLL.out] at HRO HRI HSEP ⊢
    by_cases hlt : i < n
    · obtain ⟨ad, B, c, P, e1, hp, hcell, hlc, hC⟩ := fr_at (Kd.C_below HR0.out HB.out) i (by rw [HN.out]; exact hlt)
      cases e1
      have HPB := Aside0.mk (HBD.out.1 P (List.mem_of_getElem? hp))
      have HST := Aside0.mk (show 0 ≤ 1 + (i : Int) ∧ 1 + (i : Int) ≤ 255 by have := HN12.out; omega)
      have HLT := Aside0.mk hlt
      have HWR := Aside0.mk (fun r1 r2 h => text_Write.calls (1 + (i : Int)) B c P 10 r1 r2 wr hC hlc h)
      have q1 : (i : Int) < (n : Int) := by omega
      have q0 : (0 : Int) ≤ (i : Int) := by omega
      have q2 : (i : Int) ≤ 12 := by have := HN12.out; omega
      clear hp hlc hC hin hlt
      rcases fr_write (1 + (i : Int)) P HST.out HPB.out with ⟨en, hne, hf⟩ | ⟨hPl, hf⟩
      · have HW := Aside0.mk (HWR.out _ _ hf)
        have d3 : (en == 0) = false := beq_eq_false_iff_ne.2 hne
        clear hf hne
        go_wp2_with fail
        refine HW.out.mono ?_
        rintro e w5 ⟨rfl, hb5⟩
        have HB5 := Aside0.mk (HB.out.trans (hb5.mono HB.out.size))
        clear hb5
        go_wp2_with fail
        refine (ch_sure _).mono ?_
        rintro e w6 ⟨rfl, hg⟩
        have HB6 := Aside0.mk (HB5.out.trans (hg.mono HB5.out.size))
        clear hg
        go_wp2
        go_ret
        exact ⟨rfl, HB6.out⟩
      · obtain ⟨H, hH, hHn, hHl, hTb⟩ := fr_text (1 + (i : Int)) P HST.out HPB.out hPl
        obtain ⟨T, hT⟩ : ∃ T, txtF (1 + (i : Int)) P 10 = T := ⟨_, rfl⟩
        rw [hT] at hH hTb hf
        obtain ⟨S, hS⟩ : ∃ S, strOfNums T = S := ⟨_, rfl⟩
        rw [hS] at hf
        have HW := Aside0.mk (HWR.out _ _ hf)
        have HTH := Aside0.mk hH
        have HHN := Aside0.mk (And.intro hHn hHl)
        have HNS : Aside0 (numsOf S = T) := ⟨by rw [← hS, numsOf_str T hTb]⟩
        have HSS := Aside0.mk hS
        have hSz : S.size = H.length + 3 := by rw [← numsOf_size, HNS.out, hH]; simp
        have HSZ := Aside0.mk hSz
        clear hH hHn hHl hTb hf hT hS hPl hSz
        go_wp2_with fail
        refine HW.out.mono ?_
        rintro e w5 ⟨rfl, hb5⟩
        have HB5 := Aside0.mk (HB.out.trans (hb5.mono HB.out.size))
        have HC5 : Aside0 (Ct w5 w.heap.size g v ⟨1 + a2, t, 10, 0, []⟩) := ⟨blk_below HC.out.1 hb5, Kd.R_below HC.out.2.1 hb5, HC.out.2.2⟩
        have HRO5 := Aside0.mk (Kd.R_below HRO.out hb5)
        have HRI5 := Aside0.mk (Kd.R_below HRI.out hb5)
        have HLN := Aside0.mk (show L.length ≤ 12 by have := HLL.out; have := HN12.out; have := HLT.out; omega)
        clear hb5 HW HWR HC HRO HRI HB hcell
        have HT5 := HSZ.out
        go_wp2_with (first
          | ((with_reducible refine gate_builtin (b := .append) (xs := #[.tmp 54, .tmp 56]) rfl ?_); at_builtin; refine Kd.R_append Kd.string (w0 := w) w.heap.size rfl (.tmp 54) (.tmp 56) 27 9 (.string ⟨#[]⟩) 16 rfl Try.underlying27 (by kernel_rfl) rfl (by decide) (by omega) (.slice A8 i c8) L S [.string S] (fun k => some k = (Value.slice A8 i c8).ownBlock ∨ w5.heap.size ≤ k) (fun _ => False) rfl rfl rfl (fun _ hk => hk.elim) (fun _ hk => .inr hk) (Kd.R_mono HRI5.out (fun _ hk => .inl hk)) HB5.out HB5.out.size (by have := HLN.out; omega) ?_; intro v6 w6 ho6 hb6 hg6 hat6; have HO6 := Aside0.mk ho6; have HB6 := Aside0.mk hb6; have HG6 := Aside0.mk hg6; have HA6 := Aside0.mk hat6; clear ho6 hb6 hg6 hat6)
          | ((with_reducible refine gate_dst (N := 58) rfl ?_); refine Kd.R_lit (Kd.int .u8) w6.heap.size 5 ?hg (N := 58) ?hd (xs := ([] : List Int)) (inner := []) (ok := fun _ => True) (okp := fun _ => True) ?hr ?hp (fun _ hk => hk) trivial (Below.refl w6.heap.size w6) (Nat.le_refl _) (by simp) ?_; (case hd => rfl); (case hg => rfl); (case hr => first | (go_simp; done) | (go_simp; rfl)); (case hp => exact Reps.none _ _); intro v7 w7 ho7 hb7 hg7 hn7; have HO7 := Aside0.mk ho7; have HB7 := Aside0.mk hb7; clear ho7 hb7 hg7 hn7)
          | ((with_reducible refine gate_builtin (b := .append) (xs := #[.tmp 58, .tmp 59]) rfl ?_); at_builtin; refine Kd.R_append_rows (Kd.int .u8) (w0 := w6) w6.heap.size rfl (.tmp 58) (.tmp 59) 23 5 (.int .u8 0) 1 rfl Try.underlying23 info5 rfl (by decide) (by omega) v7 [] l1 _ _ _ (fun _ => True) (fun _ => False) rfl rfl HO7.out (Kd.C_below (Kd.C_below HR1.out HB6.out) HB7.out) (fun _ _ h => h) (fun _ h => h.elim) (fun _ _ => trivial) HB7.out HB7.out.size (by have := HK.out; have := HK300.out; simp; omega) ?_; intro v8' w8 ho8 hb8 hg8 hat8; have HO8 := Aside0.mk ho8; have HB8 := Aside0.mk hb8; clear ho8 hb8 hg8 hat8 HO7 HB7)
          | ((with_reducible refine gate_builtin (b := .append) (xs := #[.tmp 60, .tmp 61]) rfl ?_); at_builtin; refine R_append_str (w0 := w6) w6.heap.size rfl (.tmp 60) (.tmp 61) 23 9 5 rfl Try.underlying23 Try.underlying9 info5 v8' _ S (fun _ => True) rfl rfl (fun _ _ => trivial) HO8.out HB8.out HB8.out.size (by have := HK.out; have := HK300.out; have := HHN.out.2; simp; omega) ?_; intro vA wA hoA hbA hgA hatA; have HOA := Aside0.mk hoA; have HBA := Aside0.mk hbA; clear hoA hbA hgA hatA HO8 HB8))
        have hall := HOA.out
        rw [List.nil_append, HNS.out] at hall
        obtain ⟨M, hM⟩ : ∃ M, M = K + (H.length + 3) := ⟨_, rfl⟩
        have hMl : (l1 ++ T).length = M := by rw [List.length_append, HK.out, HTH.out, hM]; simp
        have HM := Aside0.mk hM
        have HMB := Aside0.mk (show 0 < M ∧ M ≤ 813 by have := HK300.out; have := HHN.out.2; omega)
        have HML := Aside0.mk hMl
        obtain ⟨gA, cA, rfl, hgA, hgl, _⟩ := Kd.R_form hall (by rw [hMl]; exact HMB.out.1)
        rw [hMl] at hall ⊢
        have h56 := HB6.out.size
        have HC6 : Aside0 (Ct w6 w.heap.size g v ⟨1 + a2, t, 10, 0, []⟩) := ⟨ct_grown HC5.out HG6.out (Kd.R_ne HRI5.out HC5.out.1 (by decide)) (fr_apart HC5.out.2.1 HRI5.out (by decide))⟩
        have HCA := Aside0.mk (ct_bel HC6.out HBA.out)
        have HROA := Aside0.mk (Kd.R_below (Kd.R_grown HRO5.out HG6.out (fun k hk => fun e => HSEP.out k e.symm hk)) HBA.out)
        have HRIA := Aside0.mk (Kd.R_below (Kd.R_tight rfl HO6.out) HBA.out)
        have HSEPA : Aside0 (∀ k, v6.ownBlock = some k → some k ≠ (Value.slice A9 i c9).ownBlock) := ⟨fun k hk => HA6.out.elim (fun e => HSEP.out k (e.symm.trans hk)) (fun ⟨b, hb, hle⟩ e => by rw [hb] at hk; injection hk with hk; have := Kd.R_lt HRO5.out k e.symm; omega)⟩
        have HALL : Aside0 (Kd.R (Kd.int .u8) 5 wA w.heap.size (fun k => some k = (Value.slice (some ⟨gA, 0, none⟩) M cA).ownBlock) (.slice (some ⟨gA, 0, none⟩) M cA) (l1 ++ T)) := ⟨Kd.R_tight rfl (Kd.R_lower hall HB6.out.size)⟩
        have HGV : Aside0 (some gA ≠ v.ownBlock) := ⟨fun e => by have := Kd.R_lt HC6.out.2.1 gA e.symm; omega⟩
        have HBB := Aside0.mk (HB6.out.trans (HBA.out.mono HB6.out.size))
        clear hall hM hMl hgA hgl h56 HC6 HOA HO6 HG6 HA6 HB6 HBA HC5 HRO5 HRI5 HB5 HT5
        go_wp2
        go_loopw [15, 10, 9] (fun v15 v10 v9 wq => ∃ (k : Nat) (t' : Int) (v' vo : Value), k ≤ M ∧ v15 = .int .i64 (k : Int) ∧ v10 = .int .i64 t' ∧ vo = v9 ∧ Aside0 (Ct wq w.heap.size g v' ⟨1 + a2, t', 10, 0, hlAt K T k⟩) ∧ Aside0 (Kd.R Kd.string 9 wq w.heap.size (fun k => some k = v9.ownBlock) v9 (if k = M then L ++ [S] else L)) ∧ Aside0 (Kd.R Kd.string 9 wq w.heap.size (fun k => some k = v6.ownBlock) v6 (L ++ [S])) ∧ Aside0 (∀ k, v6.ownBlock = some k → some k ≠ v9.ownBlock) ∧ Aside0 (Kd.R (Kd.int .u8) 5 wq w.heap.size (fun k => some k = (Value.slice (some ⟨gA, 0, none⟩) M cA).ownBlock) (.slice (some ⟨gA, 0, none⟩) M cA) (l1 ++ T)) ∧ Aside0 (some gA ≠ v'.ownBlock) ∧ Aside0 (0 ≤ t' ∧ t' ≤ (i : Int) * 207315 + (k : Int) * 255) ∧ Aside0 (Below w.heap.size w wq)) (fun v15 _ _ _ => M - (intOf v15).toNat)
        case atStart => exact ⟨0, t, v, _, Nat.zero_le _, rfl, rfl, rfl, ⟨by have h0 : hlAt K T 0 = [] := (by unfold hlAt; rw [if_pos (Or.inl (Nat.zero_le _))]); rw [h0]; exact HCA.out⟩, ⟨by rw [if_neg (by have := HMB.out.1; omega)]; exact HROA.out⟩, HRIA, HSEPA, HALL, HGV, ⟨by have := HT.out; omega, by have := HT.out; omega⟩, HBB⟩
        case round =>
          clear HCA HROA HRIA HSEPA HALL HGV HBB
          obtain ⟨k, t', v', v9, hkM, rfl, rfl, rfl, HC, HRO, HRI, HSEP2, HAL, HGV, HT2, HB⟩ := hrel
          by_cases hlt : k < M
          · have q5 : (k : Int) < (M : Int) := by omega
            have q4 : (0 : Int) ≤ (k : Int) := by omega
            have q6 : (k : Int) ≤ 813 := by have := HMB.out; omega
            obtain ⟨x, hx⟩ : ∃ x, (l1 ++ T)[k]? = some x := ⟨(l1 ++ T)[k]'(by rw [HML.out]; exact hlt), by rw [List.getElem?_eq_getElem]⟩
            have hc := (Kd.R_celln (0 : Int) HAL.out (k : Int) (by omega) (by omega)).1
            rw [Int.toNat_natCast] at hc
            have hrx : rdOf (0 : Int) (l1 ++ T) (k : Int) = x := by unfold rdOf; rw [Int.toNat_natCast, List.getD_eq_getElem?_getD, hx]; rfl
            rw [hrx] at hc
            have HX := Aside0.mk hx
            have HLT2 := Aside0.mk hlt
            clear hx hrx hlt hkM
            go_upto_region 19 with (fail)
            go_cut [79] (fun v79 wc => ∃ b : Bool, v79 = .bool b ∧ wr = wc ∧ (b = true ↔ (k < K ∧ x = 58)))
            case first =>
              by_cases hkK : k < K
              · have d5 : decide ((k : Int) < (K : Int)) = true := decide_eq_true (by omega)
                go_wp2
                go_meet
                case rel => exact ⟨x == 58, by first | rfl | trivial, by first | rfl | trivial, by rw [beq_iff_eq]; omega⟩
              · have d5 : decide ((k : Int) < (K : Int)) = false := decide_eq_false (by omega)
                go_wp2
                go_meet
                case rel => exact ⟨false, by first | rfl | trivial, by first | rfl | trivial, by simp; omega⟩
            case rest =>
              obtain ⟨b, rfl, hwc, hb⟩ := hcut
              subst hwc
              cases b with
              | true =>
                clear hb
                go_wp2_with fail
                refine (ch_sure _).mono ?_
                rintro e w6 ⟨rfl, hg⟩
                have HB6 := Aside0.mk (HB.out.trans (hg.mono HB.out.size))
                clear hg
                go_wp2
                go_ret
                exact ⟨rfl, HB6.out⟩
              | false =>
                have hxn : k < K → x ≠ 58 := fun h1 h2 => by have := hb.2 ⟨h1, h2⟩; cases this
                have hstep := fr_step a2 t' K M k l1 H T x HK.out HTH.out HHN.out HM.out HX.out hxn
                have hok : Tk.Ok ⟨1 + a2, t', 10, 0, hlAt K T k⟩ := fr_ok a2 t' K T k HD.out (by have := HT2.out; have := HMB.out; have := HLT2.out; omega) (by rw [HTH.out]; have := HHN.out.2; simp; omega)
                have hle : t' ≤ t' + a2 ∧ t' + a2 ≤ 1099511627776 := by have := HT2.out; have := HMB.out; have := HLT2.out; have := HD.out; omega
                have hcall := sign_ok w wr g v' ⟨1 + a2, t', 10, 0, hlAt K T k⟩ (t' + a2) x HC.out HB.out hok hle
                rw [hstep] at hcall
                have HT3 : Aside0 (0 ≤ t' + a2 ∧ t' + a2 ≤ (i : Int) * 207315 + ((k + 1 : Nat) : Int) * 255) := ⟨by have := HT2.out; have := HD.out; constructor <;> omega⟩
                have ht2 : -9223372036854775808 ≤ t' + a2 := by have := HT2.out; have := HD.out; omega
                have ht3 : t' + a2 ≤ 9223372036854775807 := by have := HT2.out; have := HMB.out; have := HLT2.out; have := HD.out; omega
                clear hb hxn hstep hok hle
                by_cases hlast : k + 1 = M
                · have HCL : Aside0 (Calls Try.prog 18 #[.pointer (some ⟨g, 0, none⟩), .int .i64 (t' + a2), .int .u8 x] wr fun e w' => e = .returned (.tuple #[.string S, .bool true, .int .i64 0]) ∧ ∃ v'', Tp w wr w' g v' v'' ⟨1 + a2, t' + a2, 10, 0, hlAt K T (k + 1)⟩) := ⟨by
                    rw [if_pos hlast, decide_eq_true hlast] at hcall
                    rw [← HSS.out]
                    exact hcall⟩
                  have HLA := Aside0.mk hlast
                  clear hcall hlast
                  go_wp2_with fail
                  refine HCL.out.mono ?_
                  rintro e w11 ⟨rfl, v'', hTp⟩
                  have HC11 := Aside0.mk hTp.ct
                  have HB11 := Aside0.mk hTp.below
                  have HRO11 : Aside0 (Kd.R Kd.string 9 w11 w.heap.size (fun k => some k = v9.ownBlock) v9 L) := ⟨by
                    have h1 := Kd.R_kept HRO.out hTp.kept (fun k hk h => h.elim (fun e => Kd.R_ne HRO.out HC.out.1 (by decide) (e ▸ hk)) (fun e => fr_apart HRO.out HC.out.2.1 (by decide) k hk.symm e))
                    rw [if_neg (by have := HLA.out; omega)] at h1
                    exact h1⟩
                  have HRI11 := Aside0.mk (Kd.R_kept HRI.out hTp.kept (fun k hk h => h.elim (fun e => Kd.R_ne HRI.out HC.out.1 (by decide) (e ▸ hk)) (fun e => fr_apart HRI.out HC.out.2.1 (by decide) k hk.symm e)))
                  have HAL11 := Aside0.mk (Kd.R_kept HAL.out hTp.kept (fun k hk h => h.elim (fun e => Kd.R_ne HAL.out HC.out.1 (by decide) (e ▸ hk)) (fun e => by obtain rfl : k = gA := Option.some.inj hk; exact HGV.out e)))
                  have HGV11 : Aside0 (some gA ≠ v''.ownBlock) := ⟨fun e => (hTp.fresh gA e.symm).elim HGV.out (fun hle => by have := Kd.R_lt HAL.out gA rfl; omega)⟩
                  clear hTp HC HB HRO HRI HAL HGV HCL hc HX
                  go_wp2_with ((with_reducible refine gate_builtin (b := .append) (xs := #[.tmp 99, .tmp 101]) rfl ?_); at_builtin; refine Kd.R_append Kd.string (w0 := w) w.heap.size rfl (.tmp 99) (.tmp 101) 27 9 (.string ⟨#[]⟩) 16 rfl Try.underlying27 (by kernel_rfl) rfl (by decide) (by omega) v9 L S [.string S] (fun k => some k = v9.ownBlock ∨ w11.heap.size ≤ k) (fun _ => False) rfl rfl rfl (fun _ hk => hk.elim) (fun _ hk => .inr hk) (Kd.R_mono HRO11.out (fun _ hk => .inl hk)) HB11.out HB11.out.size (by have := HLN.out; omega) ?_; intro v12 w12 ho12 hb12 hg12 hat12; have HO12 := Aside0.mk (Kd.R_tight rfl ho12); have HB12 := Aside0.mk hb12; have HG12 := Aside0.mk hg12; have HA12 := Aside0.mk hat12; clear ho12 hb12 hg12 hat12)
                  go_wp2
                  have HC12 := Aside0.mk (ct_grown HC11.out HG12.out (Kd.R_ne HRO11.out HC11.out.1 (by decide)) (fr_apart HC11.out.2.1 HRO11.out (by decide)))
                  have HRI12 := Aside0.mk (Kd.R_grown HRI11.out HG12.out (fun k hk => HSEP2.out k hk.symm))
                  have HAL12 := Aside0.mk (Kd.R_grown HAL11.out HG12.out (fun k hk => fr_apart HAL11.out HRO11.out (by decide) k hk.symm))
                  have HSEP12 : Aside0 (∀ k, v6.ownBlock = some k → some k ≠ v12.ownBlock) := ⟨fun k hk e => HA12.out.elim (fun e1 => HSEP2.out k hk (e.trans e1)) (fun ⟨b, hb, hle⟩ => by rw [hb] at e; injection e with e; have := Kd.R_lt HRI11.out k hk; omega)⟩
                  go_roundw
                  case rel => exact ⟨k + 1, t' + a2, v'', _, by have := HLT2.out; omega, by go_num, rfl, rfl, HC12, ⟨by rw [if_pos HLA.out]; exact HO12.out⟩, HRI12, HSEP12, HAL12, HGV11, HT3, HB12⟩
                  case measure => have := HLT2.out; simp [intOf]; omega
                · have HCL : Aside0 (Calls Try.prog 18 #[.pointer (some ⟨g, 0, none⟩), .int .i64 (t' + a2), .int .u8 x] wr fun e w' => e = .returned (.tuple #[.string ⟨#[]⟩, .bool false, .int .i64 0]) ∧ ∃ v'', Tp w wr w' g v' v'' ⟨1 + a2, t' + a2, 10, 0, hlAt K T (k + 1)⟩) := ⟨by
                    rw [if_neg hlast, decide_eq_false hlast] at hcall
                    exact hcall⟩
                  have HLA := Aside0.mk hlast
                  clear hcall hlast
                  go_wp2_with fail
                  refine HCL.out.mono ?_
                  rintro e w11 ⟨rfl, v'', hTp⟩
                  have HC11 := Aside0.mk hTp.ct
                  have HB11 := Aside0.mk hTp.below
                  have HRO11 : Aside0 (Kd.R Kd.string 9 w11 w.heap.size (fun k => some k = v9.ownBlock) v9 L) := ⟨by
                    have h1 := Kd.R_kept HRO.out hTp.kept (fun k hk h => h.elim (fun e => Kd.R_ne HRO.out HC.out.1 (by decide) (e ▸ hk)) (fun e => fr_apart HRO.out HC.out.2.1 (by decide) k hk.symm e))
                    rw [if_neg (by have := HLT2.out; omega)] at h1
                    exact h1⟩
                  have HRI11 := Aside0.mk (Kd.R_kept HRI.out hTp.kept (fun k hk h => h.elim (fun e => Kd.R_ne HRI.out HC.out.1 (by decide) (e ▸ hk)) (fun e => fr_apart HRI.out HC.out.2.1 (by decide) k hk.symm e)))
                  have HAL11 := Aside0.mk (Kd.R_kept HAL.out hTp.kept (fun k hk h => h.elim (fun e => Kd.R_ne HAL.out HC.out.1 (by decide) (e ▸ hk)) (fun e => by obtain rfl : k = gA := Option.some.inj hk; exact HGV.out e)))
                  have HGV11 : Aside0 (some gA ≠ v''.ownBlock) := ⟨fun e => (hTp.fresh gA e.symm).elim HGV.out (fun hle => by have := Kd.R_lt HAL.out gA rfl; omega)⟩
                  clear hTp HC HB HRO HRI HAL HGV HCL hc HX
                  go_wp2
                  go_roundw
                  case rel => exact ⟨k + 1, t' + a2, v'', _, by have := HLT2.out; omega, by go_num, rfl, rfl, HC11, ⟨by rw [if_neg HLA.out]; exact HRO11.out⟩, HRI11, HSEP2, HAL11, HGV11, HT3, HB11⟩
                  case measure => have := HLT2.out; simp [intOf]; omega
          · obtain rfl : k = M := by omega
            have q5 : ¬ (k : Int) < (k : Int) := by omega
            clear hlt hkM
            go_wp2
            have HCE : Aside0 (Ct wr w.heap.size g v' ⟨1 + a2, t', 10, 0, []⟩) := ⟨by have h1 := HC.out; rw [fr_end K k H T HTH.out HM.out] at h1; exact h1⟩
            have HROE : Aside0 (Kd.R Kd.string 9 wr w.heap.size (fun k => some k = v9.ownBlock) v9 (L ++ [S])) := ⟨by have h1 := HRO.out; rw [if_pos rfl] at h1; exact h1⟩
            go_roundw
            case rel => exact ⟨i + 1, t', v', L ++ [S], by have := HLT.out; omega, by go_num, rfl, HCE, HROE, HRI, HSEP2, ⟨by rw [List.length_append, HLL.out]; rfl⟩, ⟨by have := HT2.out; have := HMB.out; constructor <;> omega⟩, HB⟩
            case measure => have := HLT.out; simp [intOf]; omega
    · obtain rfl : i = n := by omega
      have q1 : ¬ (i : Int) < (i : Int) := by omega
      have hq1 : 1 ≤ 1 + a2 := by omega
      have HH := Aside0.mk (fun W h => held_made w.heap.size g v ⟨1 + a2, t, 10, 0, []⟩ W h hq1)
      have HLO := Aside0.mk (fun W h => lost_made w.heap.size g v ⟨1 + a2, t, 10, 0, []⟩ W h hq1)
      clear hlt hin hq1
      go_wp2_with fail
      refine (HH.out _ HC.out).mono ?_
      rintro e w5 ⟨rfl, hd⟩
      have HD5 := Aside0.mk hd
      clear hd
      go_wp2_with fail
      refine (HLO.out _ (HC.out.drawn HD5.out)).mono ?_
      rintro e w6 ⟨rfl, hd⟩
      obtain ⟨qb, rfl⟩ := hd.out
      obtain ⟨q, hq⟩ := (HD5.out.step qb).out
      rw [hq]
      clear hd HD5 HC HH HLO hq
      obtain ⟨W0, hW0⟩ : ∃ W0, W0 = wr := ⟨_, rfl⟩
      rw [← hW0] at HRO HRI HB ⊢
      clear hW0
      go_wp2
      go_loopw [19] (fun v19 wz => ∃ (k q : Nat), k ≤ i ∧ v19 = .int .i64 (k : Int) ∧ Aside0 (wz = W0.drewN q)) (fun v19 _ => i - (intOf v19).toNat)
      case atStart => exact ⟨0, q, Nat.zero_le _, rfl, ⟨rfl⟩⟩
      case round =>
        obtain ⟨k, q, hki, rfl, HW⟩ := hrel
        by_cases hlt : k < i
        · obtain ⟨g9, c9', e9, _, _, _⟩ := Kd.R_form HRO.out (by rw [HLL.out]; omega)
          obtain ⟨g8, c8', e8, _, _, _⟩ := Kd.R_form HRI.out (by rw [HLL.out]; omega)
          rw [HLL.out] at e8 e9
          cases e8
          cases e9
          have q5 : (k : Int) < (i : Int) := by omega
          have q4 : (0 : Int) ≤ (k : Int) := by omega
          have q6 : (k : Int) ≤ 12 := by have := HN12.out; omega
          have x9 := (Kd.R_celln ByteArray.empty (Kd.R_drewN HRO.out q) (k : Int) (by omega) (by omega)).1
          have x8 := (Kd.R_celln ByteArray.empty (Kd.R_drewN HRI.out q) (k : Int) (by omega) (by omega)).1
          generalize rdOf ByteArray.empty L (k : Int) = y at x8 x9
          rw [Int.toNat_natCast, ← HW.out] at x8 x9
          clear hlt
          go_wp2
          go_quiet (fail)
          go_wp2
          go_roundw
          case rel => exact ⟨k + 1, q + nq, by omega, by go_num, ⟨by rw [HW.out, World.drewN_drewN]⟩⟩
          case measure => simp [intOf]; omega
        · obtain rfl : k = i := by omega
          have q5 : ¬ (k : Int) < (k : Int) := by omega
          clear hlt hki
          go_wp2_with fail
          refine (ch_sure _).mono ?_
          rintro e w6 ⟨rfl, hg⟩
          have hbq := pw_below_drewN HB.out q
          rw [← HW.out] at hbq
          have HB6 := Aside0.mk (hbq.trans (hg.mono hbq.size))
          clear hbq
          clear hg
          go_wp2
          go_ret
          exact ⟨rfl, HB6.out⟩
def bilgelaw37_CharsFrames.Pure : Prop := ∀ (x0 : List (List Int)) (x1 : List Int) (x2 : Int), (x0.length ≤ maxLen ∧ x0.length * 24 ≤ 140737488351232 ∧ ∀ y_0 ∈ x0, y_0.length ≤ maxLen ∧ y_0.length * 1 ≤ 140737488351232 ∧ ∀ y_1 ∈ y_0, (Lit.int .u8 y_1).wf = true) → (x1.length ≤ maxLen ∧ x1.length * 1 ≤ 140737488351232 ∧ ∀ y_0 ∈ x1, (Lit.int .u8 y_0).wf = true) → ((Lit.int .u8 x2).wf = true) → bilgelaw37_CharsFrames.f x0 x1 x2 = some true

end Go.Proofs.Ytballgciakljnaa.PCharsFrames

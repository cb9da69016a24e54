-- Written by a program of this session, in the form of the kit's print, some functions by hand (N.B. not a file of print.sh's).
import Derived.Test.YtbghnfhjaolhaaaPWireLaysx0
import Derived.Test.YtbghnfhjaolhaaaPWireLaysx6
import Derived.Test.YtbghnfhjaolhaaaPWireLaysx8
namespace Go.Proofs.Ytbghnfhjaolhaaa.PWireLays
open Go.RowKit Go.Proofs.YtbghnfhjaolhaaaW.PrintWords Go.Proofs.YtbghnfhjaolhaaaW.PrintLast Go.Proofs.YtbghnfhjaolhaaaW.PrintMore Go.Proofs.YtbghnfhjaolhaaaM
attribute [local go_sem] max2_int min2_int max_two min_two max_three min_three max_four min_four   -- for this text's walks alone
set_option linter.unusedVariables false
set_option linter.unusedSimpArgs false

/-! ### wire_Delay: function 31 (by hand) -/
def delayF (b : Int) (x : S54) : S54 := ⟨(clock_Add.f x.f0 b).getD 0, x.f1, x.f2⟩
theorem add_some (a b : Int) : clock_Add.f a b = some ((clock_Add.f a b).getD 0) := rfl
set_option maxRecDepth 100000 in
theorem delay_calls (g o d : Nat) (x0 b : Int) (w : World) (hx : w.cell? ⟨g, o, none⟩ = some (.int .i64 x0)) (hd : w.cell? ⟨d, 0, none⟩ = some (.int .i64 b)) (hz : w.frozen? ⟨g, o, none⟩ = false) :
    Calls Try.prog 74 #[.pointer (some ⟨g, o, none⟩), .pointer (some ⟨d, 0, none⟩)] w fun e w' => e = .returned (.tuple #[]) ∧ ∃ n, w' = (w.setCell ⟨g, o, none⟩ (.int .i64 ((clock_Add.f x0 b).getD 0))).drewN n := by
  go_enter Try.func74, Try.ntmps74
  refine start_ (n := 10) (S := fun w' => ∃ m, w' = w.drewN m) (ds := [9]) #[false, false, false, false, false, false, false, false, false, false] (by kernel_rfl) rfl rfl ⟨1, rfl⟩ (fun hHeld => ?_)
  refine pure_ (i := 0) (N := (some 3)) (v := ?_) (a' := ?_) #[true, false, false, false, false, false, false, false, false, false] rfl rfl (by kernel_rfl) (fun _ _ _ h => h) (Or.inl ⟨by rfl, ?_⟩) ?_ ?_
  rotate_left
  · intro w'
    go_simp
    with_reducible rfl
  rotate_left
  · simp only [Act.put, List.setIfInBounds_toArray, List.set_cons_zero, List.set_cons_succ, i64_w, i32_w]
    rfl
  refine pure_ (i := 1) (N := (some 4)) (v := ?_) (a' := ?_) #[true, true, false, false, false, false, false, false, false, false] rfl rfl (by kernel_rfl) (fun _ _ _ h => h) (Or.inl ⟨by rfl, ?_⟩) ?_ ?_
  rotate_left
  · intro w'
    go_simp
    with_reducible rfl
  rotate_left
  · simp only [Act.put, List.setIfInBounds_toArray, List.set_cons_zero, List.set_cons_succ, i64_w, i32_w]
    rfl
  refine pure_ (i := 2) (N := (some 5)) (v := ?_) (a' := ?_) #[true, true, true, false, false, false, false, false, false, false] rfl rfl (by kernel_rfl) (fun _ _ _ h => h) (Or.inl ⟨by rfl, ?_⟩) ?_ ?_
  rotate_left
  · intro w'
    go_simp
    with_reducible rfl
  rotate_left
  · simp only [Act.put, List.setIfInBounds_toArray, List.set_cons_zero, List.set_cons_succ, i64_w, i32_w]
    rfl
  refine pure_ (i := 3) (N := (some 6)) (v := ?_) (a' := ?_) #[true, true, true, true, false, false, false, false, false, false] rfl rfl (by kernel_rfl) (fun _ _ _ h => h) (Or.inl ⟨by rfl, ?_⟩) ?_ ?_
  rotate_left
  · intro w'
    go_simp
    with_reducible rfl
  rotate_left
  · simp only [Act.put, List.setIfInBounds_toArray, List.set_cons_zero, List.set_cons_succ, i64_w, i32_w]
    rfl
  refine take_ (i := 4) (N := (some 7)) (v := ?_) (a' := ?_) #[true, true, true, true, true, false, false, false, false, false] rfl rfl (by kernel_rfl) (fun _ _ _ h => h) (Or.inl ⟨by rfl, ?_⟩) hHeld ?_ ?_
  rotate_left
  · intro w' s0
    obtain ⟨m, rfl⟩ := s0
    have hx' : (w.drewN m).cell? ⟨g, o, none⟩ = some (.int .i64 x0) := hx
    have hd' : (w.drewN m).cell? ⟨d, 0, none⟩ = some (.int .i64 b) := hd
    go_simp
    with_reducible rfl
  rotate_left
  · simp only [Act.put, List.setIfInBounds_toArray, List.set_cons_zero, List.set_cons_succ, i64_w, i32_w]
    rfl
  refine take_ (i := 5) (N := (some 8)) (v := ?_) (a' := ?_) #[true, true, true, true, true, true, false, false, false, false] rfl rfl (by kernel_rfl) (fun _ _ _ h => h) (Or.inl ⟨by rfl, ?_⟩) hHeld ?_ ?_
  rotate_left
  · intro w' s0
    obtain ⟨m, rfl⟩ := s0
    have hx' : (w.drewN m).cell? ⟨g, o, none⟩ = some (.int .i64 x0) := hx
    have hd' : (w.drewN m).cell? ⟨d, 0, none⟩ = some (.int .i64 b) := hd
    go_simp
    with_reducible rfl
  rotate_left
  · simp only [Act.put, List.setIfInBounds_toArray, List.set_cons_zero, List.set_cons_succ, i64_w, i32_w]
    rfl
  refine one_ (i := 6) (N := (some 9)) #[true, true, true, true, true, true, true, false, false, false] rfl rfl (by kernel_rfl) (by decide) (fun K hK => ?_)
  refine goes_ (f := 71) Try.func71 (by kernel_rfl) rfl #[.int .i64 x0, .int .i64 b] (by rfl) rfl rfl (by simp [Act.eval, Act.put]) ?_
  refine (clock_Add.calls x0 b _ _ (add_some x0 b)).mono ?_
  rintro e w' ⟨rfl, hw'⟩
  obtain ⟨m, rfl⟩ : ∃ m, w' = w.drewN m := by
    obtain ⟨k, rfl⟩ := hw'.out
    exact ((Drawn0.mk ⟨1, rfl⟩ : Drawn0 w w.drew).step k).out
  refine ⟨_, rfl, hK.out _ _ ⟨m, rfl⟩ (fun _ => ?_)⟩
  simp only [Act.put, List.setIfInBounds_toArray, List.set_cons_zero, List.set_cons_succ]
  clear hK K hw' hHeld
  refine pure_ (i := 7) (N := (some 10)) (v := ?_) (a' := ?_) #[true, true, true, true, true, true, true, true, false, false] rfl rfl (by kernel_rfl) (fun _ _ _ h => h) (Or.inl ⟨by rfl, ?_⟩) ?_ ?_
  rotate_left
  · intro w'
    go_simp
    with_reducible rfl
  rotate_left
  · simp only [Act.put, List.setIfInBounds_toArray, List.set_cons_zero, List.set_cons_succ, i64_w, i32_w]
    rfl
  refine pure_ (i := 8) (N := (some 11)) (v := ?_) (a' := ?_) #[true, true, true, true, true, true, true, true, true, false] rfl rfl (by kernel_rfl) (fun _ _ _ h => h) (Or.inl ⟨by rfl, ?_⟩) ?_ ?_
  rotate_left
  · intro w'
    go_simp
    with_reducible rfl
  rotate_left
  · simp only [Act.put, List.setIfInBounds_toArray, List.set_cons_zero, List.set_cons_succ, i64_w, i32_w]
    rfl
  refine last_ (i := 9) (N := none) #[true, true, true, true, true, true, true, true, true, true] rfl rfl (by kernel_rfl) (by decide) (fun K hK => ?_)
  have hx' : (w.drewN m).cell? ⟨g, o, none⟩ = some (.int .i64 x0) := hx
  have hz' : (w.drewN m).frozen? ⟨g, o, none⟩ = false := hz
  refine skip_ (w1 := ?_) (by rfl) rfl ?_ ?_
  rotate_left
  · go_simp
    rfl
  refine hK.out _ _ ?_
  clear hK K
  refine done_ (by kernel_rfl) ?_
  go_end0
  exact ⟨rfl, m, rfl⟩
theorem delay_turns (w : World) (d : Nat) (b : Int) (hd : w.cell? ⟨d, 0, none⟩ = some (.int .i64 b)) (hlt : d < w.heap.size) : Turns 74 [.pointer (some ⟨d, 0, none⟩)] w (delayF b) := by
  refine ⟨fun args W => enters_ (fn := Try.f74) (by kernel_rfl) (by kernel_rfl) rfl args W, ?_⟩
  intro W g o x hB hg h0 h1 h2 hf
  refine (delay_calls g o d x.f0 b W h0 ((hB.cell hlt).trans hd) (hf 0)).mono ?_
  rintro e w' ⟨rfl, n, rfl⟩
  exact ⟨rfl, 0, _, n, by omega, rfl, rfl⟩
theorem rd_set (xs : List S54) (k : Nat) (y : S54) (j : Nat) (h : k < xs.length) : rd_T54 (xs.set k y) j = if j = k then y else rd_T54 xs j := by
  unfold rd_T54
  rw [Int.toNat_natCast, List.getD_eq_getElem?_getD, List.getD_eq_getElem?_getD, List.getElem?_set]
  by_cases hj : j = k
  · subst hj
    rw [if_pos rfl, if_pos h, if_pos rfl]; rfl
  · rw [if_neg (fun e => hj e.symm), if_neg hj]
def delayL (F : S54 → S54) (l : List S54) (k : Int) : List S54 := if 0 ≤ k ∧ k < (l.length : Int) then l.take k.toNat ++ (l.drop k.toNat).map F else l
def wire_Delay.f (l0 : List S54) (a1 : Int) (a2 : Int) : Option (List S54) := if l0.length < 8796093022208 then some (delayL (delayF a2) l0 a1) else none
set_option maxRecDepth 100000 in
theorem wire_Delay.calls (A0 : Option Addr) (c0 : Nat) (l0 : List S54) (a1 : Int) (a2 : Int) (r : List S54) (w : World) (hr0 : Kd.C k54 w A0 l0.length l0) (hc0 : l0.length ≤ c0) (h : wire_Delay.f l0 a1 a2 = some r) :
    Calls Try.prog 31 #[.slice A0 l0.length c0, .int .i64 a1, .int .i64 a2] w fun e w' => ∃ v0_ : Value, e = .returned (v0_) ∧ Kd.R k54 54 w' w.heap.size (fun _ => True) v0_ r ∧ Below w.heap.size w w' := by
  unfold wire_Delay.f at h
  split at h
  case isFalse => cases h
  case isTrue hl =>
  obtain rfl := Option.some.inj h
  obtain ⟨W, hW⟩ : ∃ W, W = w.alloc (.cells #[.int .i64 a2] 3) := ⟨_, rfl⟩
  have hs : W.heap.size = w.heap.size + 1 := by rw [hW]; simp
  have hb : Below w.heap.size w W := by rw [hW]; exact (Below.refl w.heap.size w).alloc (Nat.le_refl _) _
  have hd : W.cell? ⟨w.heap.size, 0, none⟩ = some (.int .i64 a2) := by rw [hW]; exact (blk_cell (blk_new w _) 0)
  have HT := Aside0.mk (delay_turns W w.heap.size a2 hd (by omega))
  have H := Aside0.mk (with_calls 74 A0 c0 l0 a1 [.pointer (some ⟨w.heap.size, 0, none⟩)] _ W (Kd.C_below hr0 hb) hc0 hl HT.out)
  have HW := Aside0.mk hW
  have HB := Aside0.mk hb
  have HS := Aside0.mk (show w.heap.size ≤ W.heap.size by omega)
  clear h hr0 hc0 hW hb hd hs
  by_cases hk : 0 ≤ a1 ∧ a1 < (l0.length : Int)
  · have e1 : withF (delayF a2) l0 a1 = l0.set a1.toNat (delayF a2 (rd_T54 l0 a1)) := if_pos hk
    have e2 : delayL (delayF a2) l0 a1 = l0.take a1.toNat ++ (l0.drop a1.toNat).map (delayF a2) := if_pos hk
    rw [e2]
    rw [e1] at H
    obtain ⟨hk0, hk1⟩ := hk
    obtain ⟨q, rfl⟩ := Int.eq_ofNat_of_zero_le hk0
    rw [Int.toNat_natCast] at H ⊢
    obtain ⟨n, hn⟩ : ∃ n, l0.length = n := ⟨_, rfl⟩
    obtain ⟨m, hm⟩ : ∃ m, n = q + 1 + m := ⟨n - (q + 1), by omega⟩
    have HN := Aside0.mk hn
    have HM := Aside0.mk hm
    have hq : q < n := by omega
    have HQ := Aside0.mk hq
    have hnl : n < 8796093022208 := by omega
    have hw1 : wrap64 ((q : Int) + 1) = (q : Int) + 1 := by unfold wrap64; omega
    have hlenS : (l0.set q (delayF a2 (rd_T54 l0 q))).length = n := by rw [List.length_set, hn]
    have HLS := Aside0.mk hlenS
    rw [hn] at H ⊢
    obtain ⟨RR, hRR⟩ : ∃ RR, RR = l0.take q ++ (l0.drop q).map (delayF a2) := ⟨_, rfl⟩
    rw [← hRR]
    have HRR := Aside0.mk hRR
    clear e1 e2 hk0 hn hm hl hlenS hk1 hRR
    go_enter Try.func31, Try.ntmps31
    go_wp2_with (go_at_call 75; rw [← HW.out]; refine H.out.mono ?_; rintro e w1 ⟨v1, rfl, hr, hg⟩; obtain ⟨g, co, rfl, hgb, hgs, cells, hcells⟩ := Kd.R_form hr (by rw [HLS.out]; have := HQ.out; omega); rw [HLS.out] at hr ⊢; have HR := Aside0.mk hr; have HG := Aside0.mk hg; have HGB := Aside0.mk hgb; have HGS := Aside0.mk hgs; clear hr hg hgb hgs hcells cells)
    · subst co
      have hmi : ((n - (q + 1) : Nat) : Int) = (m : Int) := by have := HM.out; omega
      rw [hmi]
      clear hmi
      go_loopw [29, 9] (fun v29 v9 wr => ∃ i : Nat, i ≤ m ∧ v29 = .int .i64 (i : Int) ∧ Aside0 (∃ xs : List S54, xs.length = n ∧ (∀ j : Nat, j < n → rd_T54 xs j = if q ≤ j ∧ j < q + 1 + i then delayF a2 (rd_T54 l0 j) else rd_T54 l0 j) ∧ Kd.R k54 54 wr W.heap.size (fun _ => True) (.slice (some ⟨g, 0, none⟩) n (q + 1)) xs) ∧ Aside0 (Below W.heap.size W wr)) (fun v29 _ _ => m - (intOf v29).toNat)
      case atStart =>
        refine ⟨0, Nat.zero_le _, rfl, ⟨_, HLS.out, fun j hj => ?_, HR.out⟩, HG⟩
        rw [rd_set l0 _ _ j (by rw [HN.out]; exact HQ.out)]
        by_cases hji : j = q
        · rw [if_pos hji, if_pos (by omega), hji]
        · rw [if_neg hji, if_neg (by omega)]
      case round =>
        obtain ⟨i, hi, rfl, ⟨xs, hxl, hx, hR⟩, HBr⟩ := hrel
        have HX := Aside0.mk hx
        have HXR := Aside0.mk hR
        have HXL := Aside0.mk hxl
        clear hx hR hxl
        by_cases hlt : i < m
        · have hqi : q + 1 + i < n := by have := HM.out; omega
          have hlt0 : (i : Int) < (m : Int) := by omega
          go_wp2_with fail
          have HG1 := touch_at HXR.out hqi
          refine (HT.out.2 wr g ((q + 1 + i) * 3) _ HBr.out HGB.out HG1.1 HG1.2.1 HG1.2.2.1 HG1.2.2.2).mono ?_
          rintro e w3 ⟨rfl, i', v, n', hi', rfl, he⟩
          obtain ⟨hr3, hg3⟩ := touch (m := n') HXR.out hqi hi' he
          have HR3 := Aside0.mk hr3
          have HB3 := Aside0.mk (pw_below_drewN (HBr.out.grown hg3 HBr.out.size (fun k hk => by cases hk; exact HGB.out)) n')
          clear hr3 hg3 HG1 he
          go_wp2
          go_roundw
          case rel =>
            refine ⟨i + 1, by omega, by go_num, ⟨_, by rw [List.length_set]; exact HXL.out, fun j hj => ?_, HR3.out⟩, HB3⟩
            have hxj := HX.out j hj
            rw [rd_set xs _ _ j (by rw [HXL.out]; exact hqi)]
            by_cases hji : j = q + 1 + i
            · have hx2 := HX.out (q + 1 + i) hqi
              rw [if_neg (by omega)] at hx2
              rw [if_pos hji, if_pos (by omega), hx2, hji]
            · rw [if_neg hji, hxj]
              by_cases hc : q ≤ j ∧ j < q + 1 + i
              · rw [if_pos hc, if_pos (by omega)]
              · rw [if_neg hc, if_neg (by omega)]
          case measure => simp [intOf]; omega
        · have hge : ¬ (i : Int) < (m : Int) := by omega
          go_wp2
          go_ret
          have hfin : l0.take q ++ (l0.drop q).map (delayF a2) = xs := by
            have hN := HN.out
            have hL := HXL.out
            apply List.ext_getElem
            · rw [List.length_append, List.length_take, List.length_map, List.length_drop]; omega
            · intro j h1 h2
              have hj := HX.out j (by omega)
              unfold rd_T54 at hj
              rw [Int.toNat_natCast, List.getD_eq_getElem?_getD, List.getElem?_eq_getElem h2, List.getD_eq_getElem?_getD, List.getElem?_eq_getElem (by omega : j < l0.length), Option.getD_some, Option.getD_some] at hj
              rw [hj]
              by_cases hc : j < q
              · rw [if_neg (by omega), List.getElem_append_left (by rw [List.length_take]; omega), List.getElem_take]
              · rw [if_pos (by have := HM.out; omega), List.getElem_append_right (by rw [List.length_take]; omega), List.getElem_map, List.getElem_drop]
                congr 2
                rw [List.length_take]; omega
          rw [HRR.out.trans hfin]
          exact ⟨_, rfl, Kd.R_lower HXR.out HS.out, HB.out.trans (HBr.out.mono HS.out)⟩
    · skip
      have hmi : ((n - (q + 1) : Nat) : Int) = (m : Int) := by have := HM.out; omega
      rw [hmi]
      clear hmi
      go_loopw [29, 9] (fun v29 v9 wr => ∃ i : Nat, i ≤ m ∧ v29 = .int .i64 (i : Int) ∧ Aside0 (∃ xs : List S54, xs.length = n ∧ (∀ j : Nat, j < n → rd_T54 xs j = if q ≤ j ∧ j < q + 1 + i then delayF a2 (rd_T54 l0 j) else rd_T54 l0 j) ∧ Kd.R k54 54 wr W.heap.size (fun _ => True) (.slice (some ⟨g, 0, none⟩) n co) xs) ∧ Aside0 (Below W.heap.size W wr)) (fun v29 _ _ => m - (intOf v29).toNat)
      case atStart =>
        refine ⟨0, Nat.zero_le _, rfl, ⟨_, HLS.out, fun j hj => ?_, HR.out⟩, HG⟩
        rw [rd_set l0 _ _ j (by rw [HN.out]; exact HQ.out)]
        by_cases hji : j = q
        · rw [if_pos hji, if_pos (by omega), hji]
        · rw [if_neg hji, if_neg (by omega)]
      case round =>
        obtain ⟨i, hi, rfl, ⟨xs, hxl, hx, hR⟩, HBr⟩ := hrel
        have HX := Aside0.mk hx
        have HXR := Aside0.mk hR
        have HXL := Aside0.mk hxl
        clear hx hR hxl
        by_cases hlt : i < m
        · have hqi : q + 1 + i < n := by have := HM.out; omega
          have hlt0 : (i : Int) < (m : Int) := by omega
          go_wp2_with fail
          have HG1 := touch_at HXR.out hqi
          refine (HT.out.2 wr g ((q + 1 + i) * 3) _ HBr.out HGB.out HG1.1 HG1.2.1 HG1.2.2.1 HG1.2.2.2).mono ?_
          rintro e w3 ⟨rfl, i', v, n', hi', rfl, he⟩
          obtain ⟨hr3, hg3⟩ := touch (m := n') HXR.out hqi hi' he
          have HR3 := Aside0.mk hr3
          have HB3 := Aside0.mk (pw_below_drewN (HBr.out.grown hg3 HBr.out.size (fun k hk => by cases hk; exact HGB.out)) n')
          clear hr3 hg3 HG1 he
          go_wp2
          go_roundw
          case rel =>
            refine ⟨i + 1, by omega, by go_num, ⟨_, by rw [List.length_set]; exact HXL.out, fun j hj => ?_, HR3.out⟩, HB3⟩
            have hxj := HX.out j hj
            rw [rd_set xs _ _ j (by rw [HXL.out]; exact hqi)]
            by_cases hji : j = q + 1 + i
            · have hx2 := HX.out (q + 1 + i) hqi
              rw [if_neg (by omega)] at hx2
              rw [if_pos hji, if_pos (by omega), hx2, hji]
            · rw [if_neg hji, hxj]
              by_cases hc : q ≤ j ∧ j < q + 1 + i
              · rw [if_pos hc, if_pos (by omega)]
              · rw [if_neg hc, if_neg (by omega)]
          case measure => simp [intOf]; omega
        · have hge : ¬ (i : Int) < (m : Int) := by omega
          go_wp2
          go_ret
          have hfin : l0.take q ++ (l0.drop q).map (delayF a2) = xs := by
            have hN := HN.out
            have hL := HXL.out
            apply List.ext_getElem
            · rw [List.length_append, List.length_take, List.length_map, List.length_drop]; omega
            · intro j h1 h2
              have hj := HX.out j (by omega)
              unfold rd_T54 at hj
              rw [Int.toNat_natCast, List.getD_eq_getElem?_getD, List.getElem?_eq_getElem h2, List.getD_eq_getElem?_getD, List.getElem?_eq_getElem (by omega : j < l0.length), Option.getD_some, Option.getD_some] at hj
              rw [hj]
              by_cases hc : j < q
              · rw [if_neg (by omega), List.getElem_append_left (by rw [List.length_take]; omega), List.getElem_take]
              · rw [if_pos (by have := HM.out; omega), List.getElem_append_right (by rw [List.length_take]; omega), List.getElem_map, List.getElem_drop]
                congr 2
                rw [List.length_take]; omega
          rw [HRR.out.trans hfin]
          exact ⟨_, rfl, Kd.R_lower HXR.out HS.out, HB.out.trans (HBr.out.mono HS.out)⟩
  · have e1 : withF (delayF a2) l0 a1 = l0 := if_neg hk
    have e2 : delayL (delayF a2) l0 a1 = l0 := if_neg hk
    rw [e2]
    rw [e1] at H
    have d1 : (decide (a1 < 0) || decide ((l0.length : Int) ≤ a1)) = true := by
      rw [Bool.or_eq_true, decide_eq_true_eq, decide_eq_true_eq]; omega
    clear e1 e2 hk
    go_enter Try.func31, Try.ntmps31
    go_wp2_with (go_at_call 75; rw [← HW.out]; refine H.out.mono ?_; rintro e w1 ⟨v1, rfl, hr, hg⟩; obtain ⟨Ao, co, rfl⟩ := Kd.R_slice hr; have HR := Aside0.mk hr; have HG := Aside0.mk hg; clear hr hg)
    all_goals (go_ret; exact ⟨_, rfl, Kd.R_lower HR.out HS.out, HB.out.trans (HG.out.mono HS.out)⟩)

end Go.Proofs.Ytbghnfhjaolhaaa.PWireLays

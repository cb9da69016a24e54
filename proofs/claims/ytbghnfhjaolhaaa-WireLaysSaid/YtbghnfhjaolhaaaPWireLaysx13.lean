-- Written by a program of this session, in the form of the kit's print, some functions by hand (N.B. not a file of print.sh's).
import Derived.Test.YtbghnfhjaolhaaaPWireLaysx0
namespace Go.Proofs.Ytbghnfhjaolhaaa.PWireLays
open Go.RowKit Go.Proofs.YtbghnfhjaolhaaaW.PrintWords Go.Proofs.YtbghnfhjaolhaaaW.PrintLast Go.Proofs.YtbghnfhjaolhaaaW.PrintMore Go.Proofs.YtbghnfhjaolhaaaM
attribute [local go_sem] max2_int min2_int max_two min_two max_three min_three max_four min_four   -- for this text's walks alone
set_option linter.unusedVariables false
set_option linter.unusedSimpArgs false

/-! ### api_Byte_79: function 79 (by hand) -/
set_option maxRecDepth 100000 in
theorem del_one (g n c i j : Nat) (l0 : List S54) (w : World) {base : Nat} {ok : Nat → Prop} (hR : Kd.R k54 54 w base ok (.slice (some ⟨g, 0, none⟩) n c) l0) (hij : j = i + 1) (hj : j ≤ n) :
    Calls Try.prog 79 #[.slice (some ⟨g, 0, none⟩) n c, .int .i64 i, .int .i64 j] w fun e w' => e = .returned (.slice (some ⟨g, 0, none⟩) (n - 1) c) ∧ Kd.R k54 54 w' base ok (.slice (some ⟨g, 0, none⟩) (n - 1) c) (l0.eraseIdx i) ∧ w.grownBy w' (some g) := by
  obtain ⟨inner, hl, hcell, hone, hfr, cur, hh, hcs, hnc, hcm, hb, ht, hr⟩ := R_inner hR (by decide)
  have hok : ok g := hR.1 g rfl
  have hl3 : inner.length = n * 3 := hl
  have hcm' : c ≤ 9223372036854775807 := hcm
  obtain ⟨i0, hi0, hzz⟩ := Option.map_eq_some_iff.1 info54
  simp only [Prod.mk.injEq] at hzz
  obtain ⟨hz0, hz1, hz2⟩ := hzz
  obtain ⟨news, hnews⟩ : ∃ news, news = inner.drop (j * 3) := ⟨_, rfl⟩
  have hlen : news.length = (n - j) * 3 := by rw [hnews, List.length_drop, hl3]; omega
  have s1 : Aside0 (news.length = (n - j) * 3) := ⟨hlen⟩
  have s2 : Aside0 (∀ u ∈ news, u.oneCell' = true) := ⟨fun u hu => hone u (by rw [hnews] at hu; exact List.mem_of_mem_drop hu)⟩
  have hin : ∀ t, t < n * 3 → (w.drew.cell? ⟨g, t, none⟩).isSome = true := fun t h => by
    have h1 : t < inner.length := by omega
    have h2 := hcell t _ (List.getElem?_eq_getElem h1)
    show (w.cell? _).isSome = true
    rw [h2]; rfl
  have s3 : Aside0 (∀ t, t < news.length → (w.drew.cell? ⟨g, 0 + i * 3 + t, none⟩).isSome = true ∧ w.drew.frozen? ⟨g, 0 + i * 3 + t, none⟩ = false) := ⟨fun t h => ⟨hin _ (by omega), hfr _⟩⟩
  obtain ⟨A, hA, hsrc⟩ : ∃ A : Addr, (if c = j then some (⟨g, 0, none⟩ : Addr) else some ⟨g, j * 3, none⟩) = some A ∧ Aside0 (∀ t u, news[t]? = some u → w.drew.cell? (A.add t) = some u) := by
    by_cases h : c = j
    · refine ⟨⟨g, 0, none⟩, by simp [h], ⟨fun t u hu => ?_⟩⟩
      have h0 : news.length = 0 := by rw [hlen]; omega
      rw [List.length_eq_zero_iff.1 h0] at hu
      simp at hu
    · refine ⟨⟨g, j * 3, none⟩, by simp [h], ⟨fun t u hu => ?_⟩⟩
      rw [hnews, List.getElem?_drop] at hu
      rw [add_at]
      exact hcell _ u hu
  obtain ⟨W1, hW1⟩ : ∃ W1, W1 = w.drew.setCells g (0 + i * 3) news := ⟨_, rfl⟩
  have hd := R_delete (d := k54) (W := w.drew) (k := i) (zs := [.int .i64 0, .int .u8 0, .bool false]) (by decide) (by omega) rfl hl hh hcs hnc hcm hb ht hok (hr.imp_ (fun p cs hq => k54.M_move (fun _ _ => rfl) hq))
  have hW : Aside0 (W1 = w.drew.setCells g (0 + i * 3) news) := ⟨hW1⟩
  have hsz : ∀ t, t < c * 3 → (W1.cell? ⟨g, t, none⟩).isSome = true ∧ W1.frozen? ⟨g, t, none⟩ = false := by
    intro t htc
    have hcs3 : cur.size = c * 3 := hcs
    obtain ⟨cur1, a3, a4, _⟩ := setCells_row news (0 + i * 3) w.drew cur hh (by omega)
    rw [← hW1] at a3
    refine ⟨?_, blk_frozen a3 t⟩
    rw [blk_cell a3, Array.getElem?_eq_getElem (by omega)]
    rfl
  have hcl : ∀ ty, (Builtin.clear_ #[45] ty #[.slice (some ⟨g, (i + (n - j)) * 3, none⟩) (n - (i + (n - j))) (c - (i + (n - j)))]).run Try.prog W1 = .ok (.tuple #[]) (W1.setCells g ((i + (n - j)) * 3) [.int .i64 0, .int .u8 0, .bool false]) := by
    intro ty
    rw [show n - (i + (n - j)) = 1 by omega]
    exact run_clear_rows W1 45 54 ty (.agg #[(.int .i64 0), (.int .u8 0), (.bool false)]) Try.underlying45 (fun w => by simp [zeroValue, typeInfo, hi0, hz0]) (by simp [Value.cells]; exact ⟨rfl, rfl, rfl⟩) g _ _ (fun t h => (hsz _ (by have h3 : t < 3 := h; omega)).1) (fun t h => (hsz _ (by have h3 : t < 3 := h; omega)).2)
  have hic : i ≤ c := by omega
  have hjc : j ≤ c := by omega
  have hlt : i < j := by omega
  have HIJ := Aside0.mk hij
  have hd' : Kd.R k54 54 (W1.setCells g ((i + (n - j)) * 3) [.int .i64 0, .int .u8 0, .bool false]) base ok (.slice (some ⟨g, 0, none⟩) (n - 1) c) (l0.eraseIdx i) ∧ w.grownBy (W1.setCells g ((i + (n - j)) * 3) [.int .i64 0, .int .u8 0, .bool false]) (some g) := by
    rw [show (i + (n - j)) * 3 = (n - 1) * 3 by omega, hW1, hnews, Nat.zero_add, hij]
    exact ⟨hd.1, ⟨hd.2.os, hd.2.tape, hd.2.output, hd.2.size, hd.2.block⟩⟩
  have HD := Aside0.mk hd'
  have hnj : i + (n - j) = n - 1 := by omega
  have HNJ := Aside0.mk hnj
  clear hd hd' hnj hW1 hsz hlen hl3 hl hcell hone hfr hh hcs hcm hb ht hr hok hnews hin hR hij hz0 hz2
  go_enter Try.func79, Try.ntmps79
  go_wp2_with fail
  go_region_law (refine step_append_room rfl (.tmp 22) (.tmp 25) 45 rfl 54 i0 3 Try.underlying45 hi0 hz1 g 0 i c (by simp [Act.eval, Act.put]) A (n - j) (c - j) news (by simp [Act.eval, Act.put]) s1.out hsrc.out s2.out (by omega) s3.out ?_; rw [← hW.out])
  go_wp2
  go_ret
  exact ⟨by rw [← HNJ.out]; rfl, HD.out.1, HD.out.2⟩

end Go.Proofs.Ytbghnfhjaolhaaa.PWireLays

-- Written by a program of this session, in the form of the kit's print, some functions by hand (N.B. not a file of print.sh's).
import Derived.Test.YtbaodollggbcoaaPAduHurtx0
import Derived.Test.YtbaodollggbcoaaPAduHurtx3
namespace Go.Proofs.Ytbaodollggbcoaa.PAduHurt
open Go.RowKit Go.Proofs.YtbaodollggbcoaaW.PrintWords Go.Proofs.YtbaodollggbcoaaW.PrintLast Go.Proofs.YtbaodollggbcoaaW.PrintMore Go.Proofs.YtbaodollggbcoaaM
attribute [local go_sem] max2_int min2_int max_two min_two max_three min_three max_four min_four   -- for this text's walks alone
set_option linter.unusedVariables false
set_option linter.unusedSimpArgs false

/-! ### crc_made: function 65 (by hand) -/
set_option maxRecDepth 100000 in
theorem crc_made (w : World) : Calls Try.prog 65 #[] w fun e w' => e = .returned (.pointer (some ⟨w.heap.size, 0, none⟩)) ∧ crcTab w' w.heap.size 256 ∧ Below w.heap.size w w' := by
  go_enter Try.func65, Try.ntmps65
  go_wp2_with fail
  have hz : Try.zeroCells157 = Array.replicate 256 (Value.int .u16 0) := by kernel_rfl
  rw [hz]
  refine (crc_fill w.heap.size _ _ (blk_new w _) (by rw [Array.size_replicate]) (fun i hi => by rw [Array.getElem?_replicate, if_pos hi])).mono ?_
  rintro e w' ⟨rfl, ht, hg⟩
  have HT := Aside0.mk ht
  have HG := Aside0.mk hg
  clear ht hg hz
  go_wp2
  go_ret
  exact ⟨rfl, HT.out, below_of_new HG.out⟩
theorem crcTab_below {w w1 : World} {g : Nat} (h : crcTab w g 256) (hb : Below w.heap.size w w1) : crcTab w1 g 256 := by
  obtain ⟨cs, h1, h2, h3⟩ := h
  exact ⟨cs, (hb.block g (blk_lt h1)).trans h1, h2, h3⟩

end Go.Proofs.Ytbaodollggbcoaa.PAduHurt

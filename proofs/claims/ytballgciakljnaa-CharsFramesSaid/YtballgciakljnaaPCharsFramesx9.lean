-- Written by a program of this session, in the form of the kit's print, some functions by hand (N.B. not a file of print.sh's).
import Derived.Test.YtballgciakljnaaPCharsFramesx0
namespace Go.Proofs.Ytballgciakljnaa.PCharsFrames
open Go.RowKit Go.Proofs.YtballgciakljnaaW.PrintWords Go.Proofs.YtballgciakljnaaW.PrintLast Go.Proofs.YtballgciakljnaaW.PrintMore Go.Proofs.YtballgciakljnaaM
attribute [local go_sem] max2_int min2_int max_two min_two max_three min_three max_four min_four   -- for this text's walks alone
set_option linter.unusedVariables false
set_option linter.unusedSimpArgs false

/-! ### lrc_Sum: function 144 (by hand) -/
theorem bilge_lrc_add (A0 : Option Addr) (c0 : Nat) (l0 : List Int) (g : Nat) (w : World) (hr0 : ∀ W, KeepBut w W g none → Kd.C (Kd.int .u8) W A0 l0.length l0) (hg : w.heap[g]? = some (.cells #[.int .u8 0] 252 (0, 0))) :
    Calls Try.prog 176 #[.pointer (some ⟨g, 0, none⟩), .slice A0 l0.length c0] w fun e w' => e = .returned (.tuple #[]) ∧ w'.heap[g]? = some (.cells #[.int .u8 (l0.sum % 256)] 252 (0, 0)) ∧ w.grownBy w' (some g) := by
  have HR0 := Aside0.mk hr0
  have HG := Aside0.mk hg
  have hn : l0.length ≤ 9223372036854775807 := Kd.C_max (hr0 w (KeepBut.refl _ _ _))
  clear hr0 hg
  go_enter Try.func176, Try.ntmps176
  go_wp2
  go_loopw [8] (fun v8 wr => ∃ k : Nat, k ≤ l0.length ∧ v8 = .int .i64 k ∧ Aside0 (wr.heap[g]? = some (.cells #[.int .u8 ((l0.take k).sum % 256)] 252 (0, 0))) ∧ Aside0 (w.grownBy wr (some g))) (fun v8 _ => l0.length - (intOf v8).toNat)
  case atStart => exact ⟨0, Nat.zero_le _, rfl, ⟨by simpa using HG.out⟩, ⟨World.grownBy.refl _ _⟩⟩
  case round =>
    obtain ⟨k, hk, rfl, HG1, HW⟩ := hrel
    clear HG
    by_cases hlt : k < l0.length
    · have hc := blk_cell HG1.out 0
      have hz := blk_frozen HG1.out 0
      obtain ⟨ad, e1, hx⟩ := Kd.at_int (HR0.out wr (keep_of_grown HW.out)) k (by omega) (by omega)
      cases e1
      have hs := Aside0.mk (sum_take l0 k hlt)
      have hrd := Aside0.mk (show rd l0 k = l0.getD k 0 by simp [rd])
      simp only [Int.toNat_natCast] at hx
      go_wp2
      go_roundw
      case rel => exact ⟨k + 1, by omega, by go_num, ⟨by rw [set_blk HG1.out]; simp [hs.out, hrd.out]⟩, ⟨grown_set HW.out _ _⟩⟩
      case measure => simp [intOf]; omega
    · go_wp2
      go_end0
      have : k = l0.length := by omega
      subst this
      exact ⟨rfl, by simpa using HG1.out, HW.out⟩
def lrc_Sum.f (l0 : List Int) : Option Int := some ((-(l0.sum)) % 256)
set_option maxRecDepth 100000 in
theorem lrc_Sum.calls (A0 : Option Addr) (c0 : Nat) (l0 : List Int) (r : Int) (w : World) (hr0 : Kd.C (Kd.int .u8) w A0 l0.length l0) (hc0 : l0.length ≤ c0) (h : lrc_Sum.f l0 = some r) :
    Calls Try.prog 144 #[.slice A0 l0.length c0] w fun e w' => e = .returned (.int .u8 r) ∧ Below w.heap.size w w' := by
  obtain rfl := Option.some.inj h
  clear h
  have HR0 := Aside0.mk hr0
  have hmf : ∀ (fn : Fn) (first cap : Array Value) (w : World), (Instr.makeFunc fn first cap).run Try.prog w = .ok (.func fn first cap) w := fun _ _ _ _ => rfl
  clear hr0 hc0
  go_enter Try.func144, Try.ntmps144
  go_wp2_with (go_at_call 176; refine (bilge_lrc_add A0 c0 l0 w.heap.size _ (Kd.C_foot_ne (fun h => h) (Kd.C_alloc HR0.out _) ?ne) (blk_new w _)).mono ?_)
  case ne =>
    intro ad e hn
    subst e
    have := Kd.C_lt HR0.out hn (by decide)
    omega
  rintro e w' ⟨rfl, hb, hg⟩
  have HG := Aside0.mk hg
  have hc := blk_cell hb 0
  clear hg hb
  go_wp2
  go_ret
  refine ⟨?_, below_of_new HG.out⟩
  congr 2
  simp [IntKind.wrap]
  omega

end Go.Proofs.Ytballgciakljnaa.PCharsFrames

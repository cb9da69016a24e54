-- Written by a program of this session, in the form of the kit's print, some functions by hand (N.B. not a file of print.sh's).
import Derived.Test.YtgagdhgjdgaeaaaPWireFaultsx0
import Derived.Test.YtgagdhgjdgaeaaaPWireFaultsx1
import Derived.Test.YtgagdhgjdgaeaaaPWireFaultsx2
import Derived.Test.YtgagdhgjdgaeaaaPWireFaultsx3
import Derived.Test.YtgagdhgjdgaeaaaPWireFaultsx4
import Derived.Test.YtgagdhgjdgaeaaaPWireFaultsx5
import Derived.Test.YtgagdhgjdgaeaaaPWireFaultsx7
import Derived.Test.YtgagdhgjdgaeaaaPWireFaultsx8
namespace Go.Proofs.Ytgagdhgjdgaeaaa.PWireFaults
open Go.RowKit Go.Proofs.YtgagdhgjdgaeaaaW.PrintWords Go.Proofs.YtgagdhgjdgaeaaaW.PrintLast Go.Proofs.YtgagdhgjdgaeaaaW.PrintMore Go.Proofs.YtgagdhgjdgaeaaaM
attribute [local go_sem] max2_int min2_int max_two min_two max_three min_three max_four min_four   -- for this text's walks alone
set_option linter.unusedVariables false
set_option linter.unusedSimpArgs false

/-! ### bilgelaw28_WireFaults: function 4 -/
abbrev yY : Bool := true
abbrev nN : Bool := false
mutual
def bilgelaw28_WireFaults.j0 : Nat → List Int → Bool → Int → Int → Int → Int → Int → Int → Int → Option (Bool)
  | 0, _, _, _, _, _, _, _, _, _ => none
  | k + 1, x7, x34, x175000, x175001, x175002, x175003, x176000, x176001, x176002 => if x34 = true then ((bilgelaw28_sure.f k).bind fun t181 => (some t181)) else ((wire_Of.f k x7 x175002 x175000 x175001 x175002 x175003).bind fun t182 => ((split_All.f t182 x175000 x175001 x175002 x175003 0).bind fun t185 => (if (t185.length : Int) = 1 then (if 0 < (t185.length : Int) then ((split_Fault.f ((rd_T37 t185 0).f0) ((rd_T37 t185 0).f1) ((rd_T37 t185 0).f2) ((rd_T37 t185 0).f3) ((rd_T37 t185 0).f4) ((rd_T37 t185 0).f5)).bind fun t189 => (if t189 = 0 then ((bilgeref01_Bytes.f k ((rd_T37 t185 0).f0) x7).bind fun t191 => (if t191 = true then (bilgelaw28_WireFaults.j1 k x7 t182 (((rd_T37 t185 0).f2) != (wrap64 (x175002 + (wrap64 ((x7.length : Int) * x175000))))) x175000 x175001 x175002 x175003 x176000 x176001 x176002) else (bilgelaw28_WireFaults.j1 k x7 t182 true x175000 x175001 x175002 x175003 x176000 x176001 x176002))) else (bilgelaw28_WireFaults.j1 k x7 t182 true x175000 x175001 x175002 x175003 x176000 x176001 x176002))) else (none)) else (bilgelaw28_WireFaults.j1 k x7 t182 true x175000 x175001 x175002 x175003 x176000 x176001 x176002))))
def bilgelaw28_WireFaults.j1 : Nat → List Int → List (S52) → Bool → Int → Int → Int → Int → Int → Int → Int → Option (Bool)
  | 0, _, _, _, _, _, _, _, _, _, _ => none
  | k + 1, x7, x10, x77, x175000, x175001, x175002, x175003, x176000, x176001, x176002 => if x77 = true then (some false) else (if (x7.length : Int) = 0 then (none) else ((wire_Spoil.f x10 (Int.tmod (wrap64 (x176000)) (x7.length : Int))).bind fun t193 => ((split_All.f t193 x175000 x175001 x175002 x175003 0).bind fun t196 => ((wire_Flip.f x10 (Int.tmod (wrap64 (x176000)) (x7.length : Int)) (Int.tmod (wrap64 (x176001)) 8)).bind fun t199 => ((split_All.f t199 x175000 x175001 x175002 x175003 0).bind fun t202 => (if (t196.length : Int) = 1 then (if 0 < (t196.length : Int) then ((split_Fault.f ((rd_T37 t196 0).f0) ((rd_T37 t196 0).f1) ((rd_T37 t196 0).f2) ((rd_T37 t196 0).f3) ((rd_T37 t196 0).f4) ((rd_T37 t196 0).f5)).bind fun t206 => (if t206 = 2 then (if (t202.length : Int) = 1 then (if 0 < (t202.length : Int) then ((split_Fault.f ((rd_T37 t202 0).f0) ((rd_T37 t202 0).f1) ((rd_T37 t202 0).f2) ((rd_T37 t202 0).f3) ((rd_T37 t202 0).f4) ((rd_T37 t202 0).f5)).bind fun t208 => (if t208 = 5 then ((split_Errs.f ((rd_T37 t202 0).f0) ((rd_T37 t202 0).f1) ((rd_T37 t202 0).f2) ((rd_T37 t202 0).f3) ((rd_T37 t202 0).f4) ((rd_T37 t202 0).f5)).bind fun t210 => (bilgelaw28_WireFaults.j2 k x10 (Int.tmod (wrap64 (x176000)) (x7.length : Int)) (!t210) x175000 x175001 x175002 x175003)) else (bilgelaw28_WireFaults.j2 k x10 (Int.tmod (wrap64 (x176000)) (x7.length : Int)) true x175000 x175001 x175002 x175003))) else (none)) else (bilgelaw28_WireFaults.j2 k x10 (Int.tmod (wrap64 (x176000)) (x7.length : Int)) true x175000 x175001 x175002 x175003)) else (bilgelaw28_WireFaults.j2 k x10 (Int.tmod (wrap64 (x176000)) (x7.length : Int)) true x175000 x175001 x175002 x175003))) else (none)) else (bilgelaw28_WireFaults.j2 k x10 (Int.tmod (wrap64 (x176000)) (x7.length : Int)) true x175000 x175001 x175002 x175003)))))))
def bilgelaw28_WireFaults.j2 : Nat → List (S52) → Int → Bool → Int → Int → Int → Int → Option (Bool)
  | 0, _, _, _, _, _, _, _ => none
  | k + 1, x10, x12, x127, x175000, x175001, x175002, x175003 => if x127 = true then (some false) else (if x12 = 0 then ((bilgelaw28_sure.f k).bind fun t211 => (some t211)) else ((wire_Delay.f x10 x12 x175002).bind fun t212 => ((split_All.f t212 x175000 x175001 x175002 x175003 0).bind fun t215 => (if (t215.length : Int) = 2 then (if 0 < (t215.length : Int) then (if ((rd_T37 t215 0).f3) = x12 then (if 1 < (t215.length : Int) then (bilgelaw28_WireFaults.j3 k x10 x12 ((rd_T37 t215 1).f4) x175000 x175001 x175002 x175003) else (none)) else (bilgelaw28_WireFaults.j3 k x10 x12 true x175000 x175001 x175002 x175003)) else (none)) else (bilgelaw28_WireFaults.j3 k x10 x12 true x175000 x175001 x175002 x175003)))))
def bilgelaw28_WireFaults.j3 : Nat → List (S52) → Int → Bool → Int → Int → Int → Int → Option (Bool)
  | 0, _, _, _, _, _, _, _ => none
  | k + 1, x10, x12, x154, x175000, x175001, x175002, x175003 => if x154 = true then (some false) else (if (wrap64 ((wrap64 ((wrap64 (x175001 + 1)) - x175000)) + x175000)) < x175002 then ((wire_Delay.f x10 x12 (wrap64 ((wrap64 (x175001 + 1)) - x175000))).bind fun t220 => ((split_All.f t220 x175000 x175001 x175002 x175003 0).bind fun t223 => (if (t223.length : Int) = 1 then (if 0 < (t223.length : Int) then ((split_Fault.f ((rd_T37 t223 0).f0) ((rd_T37 t223 0).f1) ((rd_T37 t223 0).f2) ((rd_T37 t223 0).f3) ((rd_T37 t223 0).f4) ((rd_T37 t223 0).f5)).bind fun t227 => (if t227 = 3 then ((split_Errs.f ((rd_T37 t223 0).f0) ((rd_T37 t223 0).f1) ((rd_T37 t223 0).f2) ((rd_T37 t223 0).f3) ((rd_T37 t223 0).f4) ((rd_T37 t223 0).f5)).bind fun t229 => (if t229 = true then (some false) else ((bilgelaw28_sure.f k).bind fun t230 => (some t230)))) else (some false))) else (none)) else (some false)))) else ((bilgelaw28_sure.f k).bind fun t231 => (some t231)))
end
def bilgelaw28_WireFaults.f (k : Nat) (l0 : List Int) (a1_0 : Int) (a1_1 : Int) (a1_2 : Int) (a1_3 : Int) (a2_0 : Int) (a2_1 : Int) (a2_2 : Int) : Option (Bool) := (adu_Wrap.f k (Int.tmod (wrap64 (a2_2)) 256) l0).bind fun bt176 => (if bt176.2 = 0 then ((bilgeref05_Right.f a1_0 a1_1 a1_2 a1_3).bind fun t180 => (bilgelaw28_WireFaults.j0 k bt176.1 (!t180) a1_0 a1_1 a1_2 a1_3 a2_0 a2_1 a2_2)) else (bilgelaw28_WireFaults.j0 k bt176.1 true a1_0 a1_1 a1_2 a1_3 a2_0 a2_1 a2_2))
theorem bilgelaw28_WireFaults.mono_l : ∀ k, (∀ y0 y1 y2 y3 y4 y5 y6 y7 y8, LeO (bilgelaw28_WireFaults.j0 k y0 y1 y2 y3 y4 y5 y6 y7 y8) (bilgelaw28_WireFaults.j0 (k + 1) y0 y1 y2 y3 y4 y5 y6 y7 y8)) ∧ (∀ y0 y1 y2 y3 y4 y5 y6 y7 y8 y9, LeO (bilgelaw28_WireFaults.j1 k y0 y1 y2 y3 y4 y5 y6 y7 y8 y9) (bilgelaw28_WireFaults.j1 (k + 1) y0 y1 y2 y3 y4 y5 y6 y7 y8 y9)) ∧ (∀ y0 y1 y2 y3 y4 y5 y6, LeO (bilgelaw28_WireFaults.j2 k y0 y1 y2 y3 y4 y5 y6) (bilgelaw28_WireFaults.j2 (k + 1) y0 y1 y2 y3 y4 y5 y6)) ∧ (∀ y0 y1 y2 y3 y4 y5 y6, LeO (bilgelaw28_WireFaults.j3 k y0 y1 y2 y3 y4 y5 y6) (bilgelaw28_WireFaults.j3 (k + 1) y0 y1 y2 y3 y4 y5 y6))
  | 0 => ⟨fun _ _ _ _ _ _ _ _ _ r h => by simp [bilgelaw28_WireFaults.j0] at h, fun _ _ _ _ _ _ _ _ _ _ r h => by simp [bilgelaw28_WireFaults.j1] at h, fun _ _ _ _ _ _ _ r h => by simp [bilgelaw28_WireFaults.j2] at h, fun _ _ _ _ _ _ _ r h => by simp [bilgelaw28_WireFaults.j3] at h⟩
  | k + 1 => by
    obtain ⟨ih0, ih1, ih2, ih3⟩ := bilgelaw28_WireFaults.mono_l k
    refine ⟨?_, ?_, ?_, ?_⟩
    · intro y0 y1 y2 y3 y4 y5 y6 y7 y8
      unfold bilgelaw28_WireFaults.j0
      repeat' first
      | (with_reducible exact ih0 _ _ _ _ _ _ _ _ _)
      | (with_reducible exact ih1 _ _ _ _ _ _ _ _ _ _)
      | (with_reducible exact ih2 _ _ _ _ _ _ _)
      | (with_reducible exact ih3 _ _ _ _ _ _ _)
      | (with_reducible exact adu_Wrap.mono _ _ _)
      | (with_reducible exact bilgelaw28_sure.mono _)
      | (with_reducible exact bilgeref01_Bytes.mono _ _ _)
      | (with_reducible exact wire_Of.mono _ _ _ _ _ _ _)
      | (with_reducible exact LeO.refl _)
      | (with_reducible exact LeO.none _)
      | (with_reducible refine LeO.ite ?_ ?_)
      | (with_reducible refine LeO.bind ?_ (fun _ => ?_))
      | exact ih0 _ _ _ _ _ _ _ _ _
      | exact ih1 _ _ _ _ _ _ _ _ _ _
      | exact ih2 _ _ _ _ _ _ _
      | exact ih3 _ _ _ _ _ _ _
      | exact adu_Wrap.mono _ _ _
      | exact bilgelaw28_sure.mono _
      | exact bilgeref01_Bytes.mono _ _ _
      | exact wire_Of.mono _ _ _ _ _ _ _
      | exact LeO.none _
      | refine LeO.ite ?_ ?_
      | refine LeO.bind ?_ (fun _ => ?_)
    · intro y0 y1 y2 y3 y4 y5 y6 y7 y8 y9
      unfold bilgelaw28_WireFaults.j1
      repeat' first
      | (with_reducible exact ih0 _ _ _ _ _ _ _ _ _)
      | (with_reducible exact ih1 _ _ _ _ _ _ _ _ _ _)
      | (with_reducible exact ih2 _ _ _ _ _ _ _)
      | (with_reducible exact ih3 _ _ _ _ _ _ _)
      | (with_reducible exact adu_Wrap.mono _ _ _)
      | (with_reducible exact bilgelaw28_sure.mono _)
      | (with_reducible exact bilgeref01_Bytes.mono _ _ _)
      | (with_reducible exact wire_Of.mono _ _ _ _ _ _ _)
      | (with_reducible exact LeO.refl _)
      | (with_reducible exact LeO.none _)
      | (with_reducible refine LeO.ite ?_ ?_)
      | (with_reducible refine LeO.bind ?_ (fun _ => ?_))
      | exact ih0 _ _ _ _ _ _ _ _ _
      | exact ih1 _ _ _ _ _ _ _ _ _ _
      | exact ih2 _ _ _ _ _ _ _
      | exact ih3 _ _ _ _ _ _ _
      | exact adu_Wrap.mono _ _ _
      | exact bilgelaw28_sure.mono _
      | exact bilgeref01_Bytes.mono _ _ _
      | exact wire_Of.mono _ _ _ _ _ _ _
      | exact LeO.none _
      | refine LeO.ite ?_ ?_
      | refine LeO.bind ?_ (fun _ => ?_)
    · intro y0 y1 y2 y3 y4 y5 y6
      unfold bilgelaw28_WireFaults.j2
      repeat' first
      | (with_reducible exact ih0 _ _ _ _ _ _ _ _ _)
      | (with_reducible exact ih1 _ _ _ _ _ _ _ _ _ _)
      | (with_reducible exact ih2 _ _ _ _ _ _ _)
      | (with_reducible exact ih3 _ _ _ _ _ _ _)
      | (with_reducible exact adu_Wrap.mono _ _ _)
      | (with_reducible exact bilgelaw28_sure.mono _)
      | (with_reducible exact bilgeref01_Bytes.mono _ _ _)
      | (with_reducible exact wire_Of.mono _ _ _ _ _ _ _)
      | (with_reducible exact LeO.refl _)
      | (with_reducible exact LeO.none _)
      | (with_reducible refine LeO.ite ?_ ?_)
      | (with_reducible refine LeO.bind ?_ (fun _ => ?_))
      | exact ih0 _ _ _ _ _ _ _ _ _
      | exact ih1 _ _ _ _ _ _ _ _ _ _
      | exact ih2 _ _ _ _ _ _ _
      | exact ih3 _ _ _ _ _ _ _
      | exact adu_Wrap.mono _ _ _
      | exact bilgelaw28_sure.mono _
      | exact bilgeref01_Bytes.mono _ _ _
      | exact wire_Of.mono _ _ _ _ _ _ _
      | exact LeO.none _
      | refine LeO.ite ?_ ?_
      | refine LeO.bind ?_ (fun _ => ?_)
    · intro y0 y1 y2 y3 y4 y5 y6
      unfold bilgelaw28_WireFaults.j3
      repeat' first
      | (with_reducible exact ih0 _ _ _ _ _ _ _ _ _)
      | (with_reducible exact ih1 _ _ _ _ _ _ _ _ _ _)
      | (with_reducible exact ih2 _ _ _ _ _ _ _)
      | (with_reducible exact ih3 _ _ _ _ _ _ _)
      | (with_reducible exact adu_Wrap.mono _ _ _)
      | (with_reducible exact bilgelaw28_sure.mono _)
      | (with_reducible exact bilgeref01_Bytes.mono _ _ _)
      | (with_reducible exact wire_Of.mono _ _ _ _ _ _ _)
      | (with_reducible exact LeO.refl _)
      | (with_reducible exact LeO.none _)
      | (with_reducible refine LeO.ite ?_ ?_)
      | (with_reducible refine LeO.bind ?_ (fun _ => ?_))
      | exact ih0 _ _ _ _ _ _ _ _ _
      | exact ih1 _ _ _ _ _ _ _ _ _ _
      | exact ih2 _ _ _ _ _ _ _
      | exact ih3 _ _ _ _ _ _ _
      | exact adu_Wrap.mono _ _ _
      | exact bilgelaw28_sure.mono _
      | exact bilgeref01_Bytes.mono _ _ _
      | exact wire_Of.mono _ _ _ _ _ _ _
      | exact LeO.none _
      | refine LeO.ite ?_ ?_
      | refine LeO.bind ?_ (fun _ => ?_)
theorem bilgelaw28_WireFaults.mono : ∀ a0 a1 a2 a3 a4 a5 a6 a7 k, LeO (bilgelaw28_WireFaults.f k a0 a1 a2 a3 a4 a5 a6 a7) (bilgelaw28_WireFaults.f (k + 1) a0 a1 a2 a3 a4 a5 a6 a7) := by
  intro a0 a1 a2 a3 a4 a5 a6 a7 k
  obtain ⟨ih0, ih1, ih2, ih3⟩ := bilgelaw28_WireFaults.mono_l k
  unfold bilgelaw28_WireFaults.f
  repeat' first
      | (with_reducible exact ih0 _ _ _ _ _ _ _ _ _)
      | (with_reducible exact ih1 _ _ _ _ _ _ _ _ _ _)
      | (with_reducible exact ih2 _ _ _ _ _ _ _)
      | (with_reducible exact ih3 _ _ _ _ _ _ _)
      | (with_reducible exact adu_Wrap.mono _ _ _)
      | (with_reducible exact bilgelaw28_sure.mono _)
      | (with_reducible exact bilgeref01_Bytes.mono _ _ _)
      | (with_reducible exact wire_Of.mono _ _ _ _ _ _ _)
      | (with_reducible exact LeO.refl _)
      | (with_reducible exact LeO.none _)
      | (with_reducible refine LeO.ite ?_ ?_)
      | (with_reducible refine LeO.bind ?_ (fun _ => ?_))
      | exact ih0 _ _ _ _ _ _ _ _ _
      | exact ih1 _ _ _ _ _ _ _ _ _ _
      | exact ih2 _ _ _ _ _ _ _
      | exact ih3 _ _ _ _ _ _ _
      | exact adu_Wrap.mono _ _ _
      | exact bilgelaw28_sure.mono _
      | exact bilgeref01_Bytes.mono _ _ _
      | exact wire_Of.mono _ _ _ _ _ _ _
      | exact LeO.none _
      | refine LeO.ite ?_ ?_
      | refine LeO.bind ?_ (fun _ => ?_)
def bilgelaw28_WireFaults.T7 : Bool × List (List Nat × List Nat) := (true, [([], []), ([0], [0]), ([1], [1]), ([2], [2]), ([3], [3]), ([4, 3], [3, 4]), ([5, 3], [3, 5]), ([6, 3, 3], [3, 6]), ([7, 3], [3, 7]), ([3, 8], [3, 8]), ([9, 7], [9]), ([10], [10]), ([11, 10], [10, 11]), ([12, 10], [10, 12]), ([13, 10], [10, 13]), ([10], [10]), ([14, 15, 10, 10], [10, 14, 15]), ([16, 10], [10, 16]), ([10, 17], [10, 17]), ([18, 16], [18]), ([19], [19]), ([20, 19], [19, 20]), ([21, 19], [19, 21]), ([22, 19], [19, 22]), ([19], [19]), ([19], [19]), ([25, 19], [19, 25]), ([19], [19]), ([27, 19], [19, 27]), ([26, 28, 19], [19, 26, 28]), ([24, 29, 19], [19, 24, 29]), ([23, 30, 19], [19, 23, 30]), ([19, 31], [19, 31])])
def bilgelaw28_WireFaults.B7 : List Nat := [0, 1, 3, 7, 15, 31, 63, 127, 255, 511, 1023, 2047, 4095, 8191, 16383, 2047, 65535, 131071, 262143, 524287, 1048575, 2097151, 4194303, 8388607, 1048575, 1048575, 34603007, 1048575, 135266303, 504365055, 1058013183, 2147483647, 4294967295]
theorem bilgelaw28_WireFaults.tab7 : rtab .any (opsOf Try.f4 7) = bilgelaw28_WireFaults.T7 := by kernel_rfl
theorem bilgelaw28_WireFaults.bits7 : waitsOk bilgelaw28_WireFaults.T7.2 bilgelaw28_WireFaults.B7 = true := by kernel_rfl
def bilgelaw28_WireFaults.T9 : Bool × List (List Nat × List Nat) := (true, [([], []), ([0], [0]), ([1], [1]), ([], []), ([3], [3]), ([2, 4], [2, 4]), ([], []), ([6], [6]), ([7], [7]), ([8], [8]), ([5, 0, 1, 2, 3, 4, 5], [5]), ([9, 10, 0, 1, 2, 3, 4, 5, 6, 7, 8, 9, 10], [9])])
def bilgelaw28_WireFaults.B9 : List Nat := [0, 1, 3, 0, 8, 31, 0, 64, 192, 448, 63, 2047]
theorem bilgelaw28_WireFaults.tab9 : rtab .any (opsOf Try.f4 9) = bilgelaw28_WireFaults.T9 := by kernel_rfl
theorem bilgelaw28_WireFaults.bits9 : waitsOk bilgelaw28_WireFaults.T9.2 bilgelaw28_WireFaults.B9 = true := by kernel_rfl
def bilgelaw28_WireFaults.T16 : Bool × List (List Nat × List Nat) := (true, [([], []), ([], []), ([], []), ([2], [2]), ([0, 1, 3], [0, 1, 3]), ([], []), ([4, 5, 4], [4, 5]), ([6, 6, 0, 1, 2, 3, 4, 5, 6], [6])])
def bilgelaw28_WireFaults.B16 : List Nat := [0, 0, 0, 4, 15, 0, 63, 127]
theorem bilgelaw28_WireFaults.tab16 : rtab .any (opsOf Try.f4 16) = bilgelaw28_WireFaults.T16 := by kernel_rfl
theorem bilgelaw28_WireFaults.bits16 : waitsOk bilgelaw28_WireFaults.T16.2 bilgelaw28_WireFaults.B16 = true := by kernel_rfl
theorem bilgelaw28_WireFaults.j1_t {k : Nat} {x7} {x10} {x175000} {x175001} {x175002} {x175003} {x176000} {x176001} {x176002} {r : Bool} (h : bilgelaw28_WireFaults.j1 k x7 x10 true x175000 x175001 x175002 x175003 x176000 x176001 x176002 = some r) : ¬ r = true := by
  cases k with
  | zero => simp [bilgelaw28_WireFaults.j1] at h
  | succ k =>
    simp only [bilgelaw28_WireFaults.j1] at h
    rw [if_pos trivial] at h
    obtain rfl := Option.some.inj h
    decide
theorem bilgelaw28_WireFaults.j2_t {k : Nat} {x10} {x12} {x175000} {x175001} {x175002} {x175003} {r : Bool} (h : bilgelaw28_WireFaults.j2 k x10 x12 true x175000 x175001 x175002 x175003 = some r) : ¬ r = true := by
  cases k with
  | zero => simp [bilgelaw28_WireFaults.j2] at h
  | succ k =>
    simp only [bilgelaw28_WireFaults.j2] at h
    rw [if_pos trivial] at h
    obtain rfl := Option.some.inj h
    decide
theorem bilgelaw28_WireFaults.j3_t {k : Nat} {x10} {x12} {x175000} {x175001} {x175002} {x175003} {r : Bool} (h : bilgelaw28_WireFaults.j3 k x10 x12 true x175000 x175001 x175002 x175003 = some r) : ¬ r = true := by
  cases k with
  | zero => simp [bilgelaw28_WireFaults.j3] at h
  | succ k =>
    simp only [bilgelaw28_WireFaults.j3] at h
    rw [if_pos trivial] at h
    obtain rfl := Option.some.inj h
    decide
set_option maxHeartbeats 8000000 in
set_option maxRecDepth 100000 in
theorem bilgelaw28_WireFaults.calls (k : Nat) (A0 : Option Addr) (c0 : Nat) (l0 : List Int) (a1_0 : Int) (a1_1 : Int) (a1_2 : Int) (a1_3 : Int) (a2_0 : Int) (a2_1 : Int) (a2_2 : Int) (r : Bool) (w : World) (hr0 : Kd.C (Kd.int .u8) w A0 l0.length l0) (hc0 : l0.length ≤ c0) (h : bilgelaw28_WireFaults.f k l0 a1_0 a1_1 a1_2 a1_3 a2_0 a2_1 a2_2 = some r) (hrt : r = true) :
  Calls Try.prog 4 #[.slice A0 l0.length c0, .agg #[.int .i64 a1_0, .int .i64 a1_1, .int .i64 a1_2, .int .i64 a1_3], .agg #[.int .u16 a2_0, .int .u16 a2_1, .int .u16 a2_2]] w fun e w' => e = .returned (.bool r) ∧ Below w.heap.size w w' := by
 have HRT := Aside0.mk hrt
 clear hrt
 have hu24 := Try.underlying24
 have hu41 := Try.underlying41
 have hu37 := Try.underlying37
 have HR0 := Aside0.mk hr0
 have HC0 := Aside0.mk hc0
 clear hr0 hc0
 have HB := Aside0.mk (Below.refl w.heap.size w)
 have H : ((adu_Wrap.f k (Int.tmod (wrap64 (a2_2)) 256) l0).bind fun bt176 => (if bt176.2 = 0 then ((bilgeref05_Right.f a1_0 a1_1 a1_2 a1_3).bind fun t180 => (bilgelaw28_WireFaults.j0 k bt176.1 (!t180) a1_0 a1_1 a1_2 a1_3 a2_0 a2_1 a2_2)) else (bilgelaw28_WireFaults.j0 k bt176.1 true a1_0 a1_1 a1_2 a1_3 a2_0 a2_1 a2_2))) = some r := h
 clear h
 replace H := Option.bind_eq_some_iff.mp H
 obtain ⟨⟨t176, t179⟩, A40, H⟩ := H
 replace H : (if t179 = 0 then ((bilgeref05_Right.f a1_0 a1_1 a1_2 a1_3).bind fun t180 => (bilgelaw28_WireFaults.j0 k t176 (!t180) a1_0 a1_1 a1_2 a1_3 a2_0 a2_1 a2_2)) else (bilgelaw28_WireFaults.j0 k t176 true a1_0 a1_1 a1_2 a1_3 a2_0 a2_1 a2_2)) = some r := H
 have A4 := Aside0.mk A40
 clear A40
 have HC5 := Aside0.mk H
 clear H
 go_enter Try.func4, Try.ntmps4
 go_upto_region 2 with (first | ((with_reducible refine gate_dst (N := 4) rfl ?_); (try (refine gate_guard (by rfl) ?_; dsimp only)); refine box_event ?hg (N := 4) ?hd (cs := #[.int .i64 a1_0, .int .i64 a1_1, .int .i64 a1_2, .int .i64 a1_3]) (t := 24) ?hr ?_; (case hd => rfl); (case hg => rfl); (case hr => first | (go_simp; done) | (go_simp; rfl)); intro gb174 hg w6 hbox hb; have n0_ := Aside0.mk (below_step (by repeat (first | (with_reducible first | exact HB.out | apply below_alloc | apply pw_below_drewN | apply below_drew1) | exact HB.out)) hb); have n1_ := Aside0.mk (hbox); have n2_ := Aside0.mk ((by rw [hg]; exact (below_size (by repeat (first | (with_reducible first | exact HB.out | apply below_alloc | apply pw_below_drewN | apply below_drew1) | exact HB.out))) : w.heap.size ≤ gb174)); have n3_ := Aside0.mk ((by rw [hg]; exact (below_size (by repeat (first | (with_reducible first | exact HB.out | apply below_alloc | apply pw_below_drewN | apply below_drew1) | exact HB.out))) : w.heap.size ≤ gb174)); clear HB; have HB := n0_; have BK174 := n1_; have GW174 := n2_; have GE174 := n3_; clear n0_ n1_ n2_ n3_; clear hb hbox hg) | ((with_reducible refine gate_dst (N := 5) rfl ?_); (try (refine gate_guard (by rfl) ?_; dsimp only)); refine box_event ?hg (N := 5) ?hd (cs := #[.int .u16 a2_0, .int .u16 a2_1, .int .u16 a2_2]) (t := 41) ?hr ?_; (case hd => rfl); (case hg => rfl); (case hr => first | (go_simp; done) | (go_simp; rfl)); intro gb175 hg w7 hbox hb; have n0_ := Aside0.mk (blk_below (g := gb174) (o := .cells #[.int .i64 a1_0, .int .i64 a1_1, .int .i64 a1_2, .int .i64 a1_3] 24 (0, 0)) (by (with_reducible repeat (first | refine blk_drewN ?_ _ | refine blk_drew ?_ | refine blk_alloc ?_ _)); exact BK174.out) hb); have n1_ := Aside0.mk (below_step (by repeat (first | (with_reducible first | exact HB.out | apply below_alloc | apply pw_below_drewN | apply below_drew1 | refine below_set ?_ GE174.out) | exact HB.out)) hb); have n2_ := Aside0.mk (hbox); have n3_ := Aside0.mk ((by rw [hg]; exact (below_size (by repeat (first | (with_reducible first | exact HB.out | apply below_alloc | apply pw_below_drewN | apply below_drew1 | refine below_set ?_ GE174.out) | exact HB.out))) : w.heap.size ≤ gb175)); have n4_ := Aside0.mk ((by rw [hg]; exact (below_size (by repeat (first | (with_reducible first | exact HB.out | apply below_alloc | apply pw_below_drewN | apply below_drew1 | refine below_set ?_ GE174.out) | exact HB.out))) : w.heap.size ≤ gb175)); have n5_ := Aside0.mk ((by rw [hg]; exact Nat.ne_of_lt (blk_lt (g := gb174) (o := .cells #[.int .i64 a1_0, .int .i64 a1_1, .int .i64 a1_2, .int .i64 a1_3] 24 (0, 0)) (by (with_reducible repeat (first | refine blk_drewN ?_ _ | refine blk_drew ?_ | refine blk_alloc ?_ _)); exact BK174.out)) : gb174 ≠ gb175)); have n6_ := Aside0.mk ((by rw [hg]; exact Nat.ne_of_gt (blk_lt (g := gb174) (o := .cells #[.int .i64 a1_0, .int .i64 a1_1, .int .i64 a1_2, .int .i64 a1_3] 24 (0, 0)) (by (with_reducible repeat (first | refine blk_drewN ?_ _ | refine blk_drew ?_ | refine blk_alloc ?_ _)); exact BK174.out)) : gb175 ≠ gb174)); clear BK174; clear HB; have BK174 := n0_; have HB := n1_; have BK175 := n2_; have GW175 := n3_; have GE175 := n4_; have NB174_175 := n5_; have NB175_174 := n6_; clear n0_ n1_ n2_ n3_ n4_ n5_ n6_; clear hb hbox hg; have hnb8 := NB175_174.out; have hnc8 := NB174_175.out; have hcz9_0 : w7.cell? ⟨gb175, 0, none⟩ = some (.int .u16 a2_0) := (blk_cell BK175.out 0).trans rfl; have hcz9_1 : w7.cell? ⟨gb175, 1, none⟩ = some (.int .u16 a2_1) := (blk_cell BK175.out 1).trans rfl; have hcz9_2 : w7.cell? ⟨gb175, 2, none⟩ = some (.int .u16 a2_2) := (blk_cell BK175.out 2).trans rfl; have hfz9_0 := blk_frozen BK175.out 0; have hfz9_1 := blk_frozen BK175.out 1; have hfz9_2 := blk_frozen BK175.out 2) | ((with_reducible refine gate_callee (f := 5) rfl ?_); refine goesL_ (some 25) rfl rfl Try.func5 (by kernel_rfl) rfl #[.int .i64 (Int.tmod (wrap64 (a2_2)) 256), .slice A0 l0.length c0] rfl (by (try simp only [List.map_toArray, List.map_cons, List.map_nil]); first | done | rfl | (simp only [List.length_drop, List.length_take]; rfl)) ?_; (with_reducible refine (adu_Wrap.calls k (Int.tmod (wrap64 (a2_2)) 256) (fun k_ => k_ < w.heap.size) _ _ l0 t176 t179 _ ?side1 A4.out).mono ?_); (case side1 => exact Kd.V_mk HC0.out (Kd.F_below (Kd.C_F (Kd.heap_int .u8) HR0.out) (by repeat (first | (with_reducible first | exact HB.out | apply below_alloc | apply pw_below_drewN | apply below_drew1 | refine below_set ?_ GE174.out | refine below_set ?_ GE175.out) | exact HB.out)))); rintro e w10 ⟨v177, rfl, ho0, hb⟩; refine ⟨_, rfl, ?_⟩; have n0_ := Aside0.mk (Kd.R_lower (Kd.R_mono (ok' := fun k_ => True) ho0 (fun _ hk_ => trivial)) (below_size (by repeat (first | (with_reducible first | exact HB.out | apply below_alloc | apply pw_below_drewN | apply below_drew1 | refine below_set ?_ GE174.out | refine below_set ?_ GE175.out) | exact HB.out)))); have n1_ := Aside0.mk (blk_below (g := gb174) (o := .cells #[.int .i64 a1_0, .int .i64 a1_1, .int .i64 a1_2, .int .i64 a1_3] 24 (0, 0)) (by (with_reducible repeat (first | refine blk_drewN ?_ _ | refine blk_drew ?_ | refine blk_alloc ?_ _)); exact BK174.out) hb); have n2_ := Aside0.mk (blk_below (g := gb175) (o := .cells #[.int .u16 a2_0, .int .u16 a2_1, .int .u16 a2_2] 41 (0, 0)) (by (with_reducible repeat (first | refine blk_drewN ?_ _ | refine blk_drew ?_ | refine blk_alloc ?_ _)); exact BK175.out) hb); have n3_ := Aside0.mk (below_step (by repeat (first | (with_reducible first | exact HB.out | apply below_alloc | apply pw_below_drewN | apply below_drew1 | refine below_set ?_ GE174.out | refine below_set ?_ GE175.out) | exact HB.out)) hb); clear BK174; clear BK175; clear HB; have HO178 := n0_; have BK174 := n1_; have BK175 := n2_; have HB := n3_; clear n0_ n1_ n2_ n3_; (try clear hb); (try clear hb2); (try clear hk); (try clear hi); (try clear ho0)))
 (try simp only [Act.put, List.setIfInBounds_toArray, List.set_cons_zero, List.set_cons_succ])
 go_cut [34] (fun v34 wc => ∃ (kq : Nat) (x34_4 : Bool), v34 = .bool x34_4 ∧ Aside0 (bilgelaw28_WireFaults.j0 kq t176 x34_4 a1_0 a1_1 a1_2 a1_3 a2_0 a2_1 a2_2 = some r) ∧ Aside0 (kq ≤ k) ∧ Aside0 (Kd.R (Kd.int .u8) 5 wc w.heap.size (fun _ => True) v177 t176) ∧ Aside0 (wc.heap[gb174]? = some (.cells #[.int .i64 a1_0, .int .i64 a1_1, .int .i64 a1_2, .int .i64 a1_3] 24 (0, 0))) ∧ Aside0 (wc.heap[gb175]? = some (.cells #[.int .u16 a2_0, .int .u16 a2_1, .int .u16 a2_2] 41 (0, 0))) ∧ Aside0 (Below w.heap.size w wc))
 case first =>
  have H := HC5.out
  clear HC5
  by_cases c11 : t179 = 0
  ·
   rw [if_pos c11] at H
   have c11b0 : (t179 == 0) = true := beq_iff_eq.mpr c11
   have c11b1 : (t179 != 0) = false := bne_eq_false_iff_eq.mpr c11
   clear c11
   (first | rw [c11b0] | (simp only [i64_w, i32_w]; rw [c11b0]) | skip)
   replace H := Option.bind_eq_some_iff.mp H
   obtain ⟨t180, A120, H⟩ := H
   replace H : (bilgelaw28_WireFaults.j0 k t176 (!t180) a1_0 a1_1 a1_2 a1_3 a2_0 a2_1 a2_2) = some r := H
   have A12 := Aside0.mk A120
   clear A120
   have H' := Aside0.mk H
   clear H
   have hnb13 := NB174_175.out
   have hnc13 := NB175_174.out
   have hcz14_0 : w10.cell? ⟨gb174, 0, none⟩ = some (.int .i64 a1_0) := (blk_cell BK174.out 0).trans rfl
   have hcz14_1 : w10.cell? ⟨gb174, 1, none⟩ = some (.int .i64 a1_1) := (blk_cell BK174.out 1).trans rfl
   have hcz14_2 : w10.cell? ⟨gb174, 2, none⟩ = some (.int .i64 a1_2) := (blk_cell BK174.out 2).trans rfl
   have hcz14_3 : w10.cell? ⟨gb174, 3, none⟩ = some (.int .i64 a1_3) := (blk_cell BK174.out 3).trans rfl
   have hfz14_0 := blk_frozen BK174.out 0
   have hfz14_1 := blk_frozen BK174.out 1
   have hfz14_2 := blk_frozen BK174.out 2
   have hfz14_3 := blk_frozen BK174.out 3
   go_wp2_with (first | (go_at_call 6; (with_reducible refine (bilgeref05_Right.calls a1_0 a1_1 a1_2 a1_3 t180 _ A12.out).mono ?_); rintro e w15 ⟨rfl, hb⟩; have n0_ := Aside0.mk (Kd.R_below (by (with_reducible repeat (first | apply Kd.R_alloc | apply Kd.R_drewN | apply Kd.R_drew)); exact HO178.out) hb); have n1_ := Aside0.mk (blk_below (g := gb174) (o := .cells #[.int .i64 a1_0, .int .i64 a1_1, .int .i64 a1_2, .int .i64 a1_3] 24 (0, 0)) (by (with_reducible repeat (first | refine blk_drewN ?_ _ | refine blk_drew ?_ | refine blk_alloc ?_ _)); exact BK174.out) hb); have n2_ := Aside0.mk (blk_below (g := gb175) (o := .cells #[.int .u16 a2_0, .int .u16 a2_1, .int .u16 a2_2] 41 (0, 0)) (by (with_reducible repeat (first | refine blk_drewN ?_ _ | refine blk_drew ?_ | refine blk_alloc ?_ _)); exact BK175.out) hb); have n3_ := Aside0.mk (below_step (by repeat (first | (with_reducible first | exact HB.out | apply below_alloc | apply pw_below_drewN | apply below_drew1 | refine below_set ?_ GE174.out | refine below_set ?_ GE175.out) | exact HB.out)) hb); clear HO178; clear BK174; clear BK175; clear HB; have HO178 := n0_; have BK174 := n1_; have BK175 := n2_; have HB := n3_; clear n0_ n1_ n2_ n3_; (try clear hb); (try clear hb2); (try clear hk); (try clear hi)))
   go_meet
   case rel => exact ⟨_, (!t180), (by first | rfl | (simp; done) | (simp [*]; done)), H', ⟨by first | omega | exact Nat.le_refl _⟩, ⟨by (with_reducible repeat (first | apply Kd.R_alloc | apply Kd.R_drewN | apply Kd.R_drew)); exact HO178.out⟩, ⟨by (with_reducible repeat (first | refine blk_drewN ?_ _ | refine blk_drew ?_ | refine blk_alloc ?_ _)); exact BK174.out⟩, ⟨by (with_reducible repeat (first | refine blk_drewN ?_ _ | refine blk_drew ?_ | refine blk_alloc ?_ _)); exact BK175.out⟩, ⟨by repeat (first | (with_reducible first | exact HB.out | apply below_alloc | apply pw_below_drewN | apply below_drew1 | refine below_set ?_ GE174.out | refine below_set ?_ GE175.out) | exact HB.out)⟩⟩
  ·
   rw [if_neg c11] at H
   have c11b0 : (t179 == 0) = false := beq_eq_false_iff_ne.mpr c11
   have c11b1 : (t179 != 0) = true := bne_iff_ne.mpr c11
   (first | rw [c11b0] | (simp only [i64_w, i32_w]; rw [c11b0]) | skip)
   have H' := Aside0.mk H
   clear H
   go_wp2
   go_meet
   case rel => exact ⟨_, (true), (by first | rfl | (simp; done) | (simp [*]; done)), H', ⟨by first | omega | exact Nat.le_refl _⟩, ⟨by (with_reducible repeat (first | apply Kd.R_alloc | apply Kd.R_drewN | apply Kd.R_drew)); exact HO178.out⟩, ⟨by (with_reducible repeat (first | refine blk_drewN ?_ _ | refine blk_drew ?_ | refine blk_alloc ?_ _)); exact BK174.out⟩, ⟨by (with_reducible repeat (first | refine blk_drewN ?_ _ | refine blk_drew ?_ | refine blk_alloc ?_ _)); exact BK175.out⟩, ⟨by repeat (first | (with_reducible first | exact HB.out | apply below_alloc | apply pw_below_drewN | apply below_drew1 | refine below_set ?_ GE174.out | refine below_set ?_ GE175.out) | exact HB.out)⟩⟩
 case rest =>
  try clear c1
  try clear p2
  try clear c4
  try clear c5
  try clear p6
  try clear c8
  try clear c11
  try clear c11b0
  try clear c11b1
  try clear c13
  try clear hcz14_0
  try clear hcz14_1
  try clear hcz14_2
  try clear hcz14_3
  try clear hcz9_0
  try clear hcz9_1
  try clear hcz9_2
  try clear hfz14_0
  try clear hfz14_1
  try clear hfz14_2
  try clear hfz14_3
  try clear hfz9_0
  try clear hfz9_1
  try clear hfz9_2
  obtain ⟨kq, x34_4, rfl, HA, HJ4, HO_7, BK174, BK175, HB⟩ := hcut
  cases kq with
  | zero => exact absurd HA.out (by simp [bilgelaw28_WireFaults.j0])
  | succ kj4 =>
   have H := HA.out
   clear HA
   simp only [bilgelaw28_WireFaults.j0] at H
   by_cases c16 : x34_4 = true
   ·
    subst c16
    have H1 : ((bilgelaw28_sure.f kj4).bind fun t181 => (some t181)) = some r := by rw [if_pos rfl] at H; exact H
    clear H
    have H := H1
    clear H1
    replace H := Option.bind_eq_some_iff.mp H
    obtain ⟨t181, A170, H⟩ := H
    replace H : (some t181) = some r := H
    have A17 := Aside0.mk A170
    clear A170
    obtain rfl := Option.some.inj H
    go_wp2_with (first | ((with_reducible refine gate_callee (f := 7) rfl ?_); refine goesL_ (some 35) rfl rfl Try.func7 (by kernel_rfl) rfl #[] rfl (by (try simp only [List.map_toArray, List.map_cons, List.map_nil]); first | done | rfl | (simp only [List.length_drop, List.length_take]; rfl)) ?_; (with_reducible refine (bilgelaw28_sure.calls kj4  t181 _ A17.out).mono ?_); rintro e w18 ⟨rfl, hb⟩; refine ⟨_, rfl, ?_⟩; have n0_ := Aside0.mk (Kd.R_below (by (with_reducible repeat (first | apply Kd.R_alloc | apply Kd.R_drewN | apply Kd.R_drew)); exact HO_7.out) hb); have n1_ := Aside0.mk (blk_below (g := gb174) (o := .cells #[.int .i64 a1_0, .int .i64 a1_1, .int .i64 a1_2, .int .i64 a1_3] 24 (0, 0)) (by (with_reducible repeat (first | refine blk_drewN ?_ _ | refine blk_drew ?_ | refine blk_alloc ?_ _)); exact BK174.out) hb); have n2_ := Aside0.mk (blk_below (g := gb175) (o := .cells #[.int .u16 a2_0, .int .u16 a2_1, .int .u16 a2_2] 41 (0, 0)) (by (with_reducible repeat (first | refine blk_drewN ?_ _ | refine blk_drew ?_ | refine blk_alloc ?_ _)); exact BK175.out) hb); have n3_ := Aside0.mk (below_step (by repeat (first | (with_reducible first | exact HB.out | apply below_alloc | apply pw_below_drewN | apply below_drew1 | refine below_set ?_ GE174.out | refine below_set ?_ GE175.out) | exact HB.out)) hb); clear HO_7; clear BK174; clear BK175; clear HB; have HO_7 := n0_; have BK174 := n1_; have BK175 := n2_; have HB := n3_; clear n0_ n1_ n2_ n3_; (try clear hb); (try clear hb2); (try clear hk); (try clear hi)))
    go_ret
    exact ⟨by first | rfl | (simp [errW_none, errW_some] <;> rfl) | (simp [*, errW_none, errW_some] <;> rfl), by repeat (first | (with_reducible first | exact HB.out | apply below_alloc | apply pw_below_drewN | apply below_drew1 | refine below_set ?_ GE174.out | refine below_set ?_ GE175.out) | exact HB.out)⟩
   ·
    replace c16 := Bool.eq_false_iff.mpr c16
    subst c16
    have H1 : ((wire_Of.f kj4 t176 a1_2 a1_0 a1_1 a1_2 a1_3).bind fun t182 => ((split_All.f t182 a1_0 a1_1 a1_2 a1_3 0).bind fun t185 => (if (t185.length : Int) = 1 then (if 0 < (t185.length : Int) then ((split_Fault.f ((rd_T37 t185 0).f0) ((rd_T37 t185 0).f1) ((rd_T37 t185 0).f2) ((rd_T37 t185 0).f3) ((rd_T37 t185 0).f4) ((rd_T37 t185 0).f5)).bind fun t189 => (if t189 = 0 then ((bilgeref01_Bytes.f kj4 ((rd_T37 t185 0).f0) t176).bind fun t191 => (if t191 = true then (bilgelaw28_WireFaults.j1 kj4 t176 t182 (((rd_T37 t185 0).f2) != (wrap64 (a1_2 + (wrap64 ((t176.length : Int) * a1_0))))) a1_0 a1_1 a1_2 a1_3 a2_0 a2_1 a2_2) else (bilgelaw28_WireFaults.j1 kj4 t176 t182 true a1_0 a1_1 a1_2 a1_3 a2_0 a2_1 a2_2))) else (bilgelaw28_WireFaults.j1 kj4 t176 t182 true a1_0 a1_1 a1_2 a1_3 a2_0 a2_1 a2_2))) else (none)) else (bilgelaw28_WireFaults.j1 kj4 t176 t182 true a1_0 a1_1 a1_2 a1_3 a2_0 a2_1 a2_2)))) = some r := by rw [if_neg (show ¬ (false = true) by decide)] at H; exact H
    clear H
    have H := H1
    clear H1
    replace H := Option.bind_eq_some_iff.mp H
    obtain ⟨t182, A190, H⟩ := H
    replace H : ((split_All.f t182 a1_0 a1_1 a1_2 a1_3 0).bind fun t185 => (if (t185.length : Int) = 1 then (if 0 < (t185.length : Int) then ((split_Fault.f ((rd_T37 t185 0).f0) ((rd_T37 t185 0).f1) ((rd_T37 t185 0).f2) ((rd_T37 t185 0).f3) ((rd_T37 t185 0).f4) ((rd_T37 t185 0).f5)).bind fun t189 => (if t189 = 0 then ((bilgeref01_Bytes.f kj4 ((rd_T37 t185 0).f0) t176).bind fun t191 => (if t191 = true then (bilgelaw28_WireFaults.j1 kj4 t176 t182 (((rd_T37 t185 0).f2) != (wrap64 (a1_2 + (wrap64 ((t176.length : Int) * a1_0))))) a1_0 a1_1 a1_2 a1_3 a2_0 a2_1 a2_2) else (bilgelaw28_WireFaults.j1 kj4 t176 t182 true a1_0 a1_1 a1_2 a1_3 a2_0 a2_1 a2_2))) else (bilgelaw28_WireFaults.j1 kj4 t176 t182 true a1_0 a1_1 a1_2 a1_3 a2_0 a2_1 a2_2))) else (none)) else (bilgelaw28_WireFaults.j1 kj4 t176 t182 true a1_0 a1_1 a1_2 a1_3 a2_0 a2_1 a2_2))) = some r := H
    have A19 := Aside0.mk A190
    clear A190
    replace H := Option.bind_eq_some_iff.mp H
    obtain ⟨t185, A200, H⟩ := H
    replace H : (if (t185.length : Int) = 1 then (if 0 < (t185.length : Int) then ((split_Fault.f ((rd_T37 t185 0).f0) ((rd_T37 t185 0).f1) ((rd_T37 t185 0).f2) ((rd_T37 t185 0).f3) ((rd_T37 t185 0).f4) ((rd_T37 t185 0).f5)).bind fun t189 => (if t189 = 0 then ((bilgeref01_Bytes.f kj4 ((rd_T37 t185 0).f0) t176).bind fun t191 => (if t191 = true then (bilgelaw28_WireFaults.j1 kj4 t176 t182 (((rd_T37 t185 0).f2) != (wrap64 (a1_2 + (wrap64 ((t176.length : Int) * a1_0))))) a1_0 a1_1 a1_2 a1_3 a2_0 a2_1 a2_2) else (bilgelaw28_WireFaults.j1 kj4 t176 t182 true a1_0 a1_1 a1_2 a1_3 a2_0 a2_1 a2_2))) else (bilgelaw28_WireFaults.j1 kj4 t176 t182 true a1_0 a1_1 a1_2 a1_3 a2_0 a2_1 a2_2))) else (none)) else (bilgelaw28_WireFaults.j1 kj4 t176 t182 true a1_0 a1_1 a1_2 a1_3 a2_0 a2_1 a2_2)) = some r := H
    have A20 := Aside0.mk A200
    clear A200
    have HC21 := Aside0.mk H
    clear H
    have hnb22 := NB174_175.out
    have hnc22 := NB175_174.out
    have hcz23_0 : wc.cell? ⟨gb174, 0, none⟩ = some (.int .i64 a1_0) := (blk_cell BK174.out 0).trans rfl
    have hcz23_1 : wc.cell? ⟨gb174, 1, none⟩ = some (.int .i64 a1_1) := (blk_cell BK174.out 1).trans rfl
    have hcz23_2 : wc.cell? ⟨gb174, 2, none⟩ = some (.int .i64 a1_2) := (blk_cell BK174.out 2).trans rfl
    have hcz23_3 : wc.cell? ⟨gb174, 3, none⟩ = some (.int .i64 a1_3) := (blk_cell BK174.out 3).trans rfl
    have hfz23_0 := blk_frozen BK174.out 0
    have hfz23_1 := blk_frozen BK174.out 1
    have hfz23_2 := blk_frozen BK174.out 2
    have hfz23_3 := blk_frozen BK174.out 3
    obtain ⟨Ao24, co24, eo24⟩ := Kd.R_slice HO_7.out
    subst eo24
    go_upto_region 7 with (first | ((with_reducible refine gate_callee (f := 8) rfl ?_); refine goesL_ (some 41) rfl rfl Try.func8 (by kernel_rfl) rfl #[.slice Ao24 t176.length co24, .int .i64 a1_2, .agg #[.int .i64 a1_0, .int .i64 a1_1, .int .i64 a1_2, .int .i64 a1_3]] rfl (by (try simp only [List.map_toArray, List.map_cons, List.map_nil]); first | done | rfl | (simp only [List.length_drop, List.length_take]; rfl)) ?_; (with_reducible refine (wire_Of.calls kj4 _ _ t176 a1_2 a1_0 a1_1 a1_2 a1_3 t182 _ ?side1 ?side2 A19.out).mono ?_); (case side1 => repeat (first | exact (Kd.R_reads' HO_7.out).2.2 | (with_reducible refine Kd.C_alloc ?_ _) | (with_reducible refine Kd.C_drewN ?_ _) | (with_reducible refine Kd.C_drew ?_))); (case side2 => exact (Kd.R_reads' HO_7.out).2.1); rintro e w25 ⟨v183, rfl, ho0, hb⟩; refine ⟨_, rfl, ?_⟩; have n0_ := Aside0.mk (Kd.R_below (by (with_reducible repeat (first | apply Kd.R_alloc | apply Kd.R_drewN | apply Kd.R_drew)); exact HO_7.out) hb); have n1_ := Aside0.mk (Kd.R_lower ho0 (below_size (by repeat (first | (with_reducible first | exact HB.out | apply below_alloc | apply pw_below_drewN | apply below_drew1 | refine below_set ?_ GE174.out | refine below_set ?_ GE175.out) | exact HB.out)))); have n2_ := Aside0.mk (blk_below (g := gb174) (o := .cells #[.int .i64 a1_0, .int .i64 a1_1, .int .i64 a1_2, .int .i64 a1_3] 24 (0, 0)) (by (with_reducible repeat (first | refine blk_drewN ?_ _ | refine blk_drew ?_ | refine blk_alloc ?_ _)); exact BK174.out) hb); have n3_ := Aside0.mk (blk_below (g := gb175) (o := .cells #[.int .u16 a2_0, .int .u16 a2_1, .int .u16 a2_2] 41 (0, 0)) (by (with_reducible repeat (first | refine blk_drewN ?_ _ | refine blk_drew ?_ | refine blk_alloc ?_ _)); exact BK175.out) hb); have n4_ := Aside0.mk (below_step (by repeat (first | (with_reducible first | exact HB.out | apply below_alloc | apply pw_below_drewN | apply below_drew1 | refine below_set ?_ GE174.out | refine below_set ?_ GE175.out) | exact HB.out)) hb); clear HO_7; clear BK174; clear BK175; clear HB; have HO_7 := n0_; have HO184 := n1_; have BK174 := n2_; have BK175 := n3_; have HB := n4_; clear n0_ n1_ n2_ n3_ n4_; (try clear hb); (try clear hb2); (try clear hk); (try clear hi); (try clear ho0); have hcz26_0 : w25.cell? ⟨gb174, 0, none⟩ = some (.int .i64 a1_0) := (blk_cell BK174.out 0).trans rfl; have hcz26_1 : w25.cell? ⟨gb174, 1, none⟩ = some (.int .i64 a1_1) := (blk_cell BK174.out 1).trans rfl; have hcz26_2 : w25.cell? ⟨gb174, 2, none⟩ = some (.int .i64 a1_2) := (blk_cell BK174.out 2).trans rfl; have hcz26_3 : w25.cell? ⟨gb174, 3, none⟩ = some (.int .i64 a1_3) := (blk_cell BK174.out 3).trans rfl; have hfz26_0 := blk_frozen BK174.out 0; have hfz26_1 := blk_frozen BK174.out 1; have hfz26_2 := blk_frozen BK174.out 2; have hfz26_3 := blk_frozen BK174.out 3; obtain ⟨Ao27, co27, eo27⟩ := Kd.R_slice HO184.out; subst eo27) | ((with_reducible refine gate_callee (f := 10) rfl ?_); refine goesL_ (some 44) rfl rfl Try.func10 (by kernel_rfl) rfl #[.slice Ao27 t182.length co27, .agg #[.int .i64 a1_0, .int .i64 a1_1, .int .i64 a1_2, .int .i64 a1_3], .int .i64 0] rfl (by (try simp only [List.map_toArray, List.map_cons, List.map_nil]); first | done | rfl | (simp only [List.length_drop, List.length_take]; rfl)) ?_; (with_reducible refine (split_All.calls _ _ t182 a1_0 a1_1 a1_2 a1_3 0 t185 _ ?side1 ?side2 A20.out).mono ?_); (case side1 => repeat (first | exact (Kd.R_reads' HO184.out).2.2 | (with_reducible refine Kd.C_alloc ?_ _) | (with_reducible refine Kd.C_drewN ?_ _) | (with_reducible refine Kd.C_drew ?_))); (case side2 => exact (Kd.R_reads' HO184.out).2.1); rintro e w28 ⟨v186, rfl, ho0, hb⟩; refine ⟨_, rfl, ?_⟩; have n0_ := Aside0.mk (Kd.R_below (by (with_reducible repeat (first | apply Kd.R_alloc | apply Kd.R_drewN | apply Kd.R_drew)); exact HO_7.out) hb); have n1_ := Aside0.mk (Kd.R_below (by (with_reducible repeat (first | apply Kd.R_alloc | apply Kd.R_drewN | apply Kd.R_drew)); exact HO184.out) hb); have n2_ := Aside0.mk (Kd.S_lower (Kd.S_new' ho0 (Kd.R_lt (by (with_reducible repeat (first | apply Kd.R_alloc | apply Kd.R_drewN | apply Kd.R_drew)); exact HO_7.out))) (below_size (by repeat (first | (with_reducible first | exact HB.out | apply below_alloc | apply pw_below_drewN | apply below_drew1 | refine below_set ?_ GE174.out | refine below_set ?_ GE175.out) | exact HB.out)))); have n3_ := Aside0.mk (blk_below (g := gb174) (o := .cells #[.int .i64 a1_0, .int .i64 a1_1, .int .i64 a1_2, .int .i64 a1_3] 24 (0, 0)) (by (with_reducible repeat (first | refine blk_drewN ?_ _ | refine blk_drew ?_ | refine blk_alloc ?_ _)); exact BK174.out) hb); have n4_ := Aside0.mk (blk_below (g := gb175) (o := .cells #[.int .u16 a2_0, .int .u16 a2_1, .int .u16 a2_2] 41 (0, 0)) (by (with_reducible repeat (first | refine blk_drewN ?_ _ | refine blk_drew ?_ | refine blk_alloc ?_ _)); exact BK175.out) hb); have n5_ := Aside0.mk (below_step (by repeat (first | (with_reducible first | exact HB.out | apply below_alloc | apply pw_below_drewN | apply below_drew1 | refine below_set ?_ GE174.out | refine below_set ?_ GE175.out) | exact HB.out)) hb); clear HO_7; clear HO184; clear BK174; clear BK175; clear HB; have HO_7 := n0_; have HO184 := n1_; have HO187 := n2_; have BK174 := n3_; have BK175 := n4_; have HB := n5_; clear n0_ n1_ n2_ n3_ n4_ n5_; (try clear hb); (try clear hb2); (try clear hk); (try clear hi); (try clear ho0)))
    (try simp only [Act.put, List.setIfInBounds_toArray, List.set_cons_zero, List.set_cons_succ])
    go_cut [77] (fun v77 wc => ∃ (kq : Nat) (x77_20 : Bool), v77 = .bool x77_20 ∧ Aside0 (bilgelaw28_WireFaults.j1 kq t176 t182 x77_20 a1_0 a1_1 a1_2 a1_3 a2_0 a2_1 a2_2 = some r) ∧ Aside0 (kq ≤ kj4) ∧ Aside0 (Kd.R (Kd.int .u8) 5 wc w.heap.size (fun _ => True) (.slice Ao24 t176.length co24) t176) ∧ Aside0 (Kd.R k52 52 wc w.heap.size (fun _ => True) (.slice Ao27 t182.length co27) t182) ∧ Aside0 (wc.heap[gb174]? = some (.cells #[.int .i64 a1_0, .int .i64 a1_1, .int .i64 a1_2, .int .i64 a1_3] 24 (0, 0))) ∧ Aside0 (wc.heap[gb175]? = some (.cells #[.int .u16 a2_0, .int .u16 a2_1, .int .u16 a2_2] 41 (0, 0))) ∧ Aside0 (Below w.heap.size w wc))
    case first =>
     have H := HC21.out
     clear HC21
     by_cases c29 : (t185.length : Int) = 1
     ·
      rw [if_pos c29] at H
      have c29b0 : ((t185.length : Int) == 1) = true := beq_iff_eq.mpr c29
      have c29b1 : ((t185.length : Int) != 1) = false := bne_eq_false_iff_eq.mpr c29
      clear c29
      (first | rw [c29b0] | (simp only [i64_w, i32_w]; rw [c29b0]) | skip)
      by_cases c30 : 0 < (t185.length : Int)
      ·
       rw [if_pos c30] at H
       have c30b0 : decide (0 < (t185.length : Int)) = true := decide_eq_true c30
       have c30b1 : decide (0 < t185.length) = true := decide_eq_true (by omega)
       clear c30
       replace H := Option.bind_eq_some_iff.mp H
       obtain ⟨t189, A310, H⟩ := H
       replace H : (if t189 = 0 then ((bilgeref01_Bytes.f kj4 ((rd_T37 t185 0).f0) t176).bind fun t191 => (if t191 = true then (bilgelaw28_WireFaults.j1 kj4 t176 t182 (((rd_T37 t185 0).f2) != (wrap64 (a1_2 + (wrap64 ((t176.length : Int) * a1_0))))) a1_0 a1_1 a1_2 a1_3 a2_0 a2_1 a2_2) else (bilgelaw28_WireFaults.j1 kj4 t176 t182 true a1_0 a1_1 a1_2 a1_3 a2_0 a2_1 a2_2))) else (bilgelaw28_WireFaults.j1 kj4 t176 t182 true a1_0 a1_1 a1_2 a1_3 a2_0 a2_1 a2_2)) = some r := H
       have A31 := Aside0.mk A310
       clear A310
       by_cases c32 : t189 = 0
       ·
        rw [if_pos c32] at H
        have c32b0 : (t189 == 0) = true := beq_iff_eq.mpr c32
        have c32b1 : (t189 != 0) = false := bne_eq_false_iff_eq.mpr c32
        clear c32
        replace H := Option.bind_eq_some_iff.mp H
        obtain ⟨t191, A330, H⟩ := H
        replace H : (if t191 = true then (bilgelaw28_WireFaults.j1 kj4 t176 t182 (((rd_T37 t185 0).f2) != (wrap64 (a1_2 + (wrap64 ((t176.length : Int) * a1_0))))) a1_0 a1_1 a1_2 a1_3 a2_0 a2_1 a2_2) else (bilgelaw28_WireFaults.j1 kj4 t176 t182 true a1_0 a1_1 a1_2 a1_3 a2_0 a2_1 a2_2)) = some r := H
        have A33 := Aside0.mk A330
        clear A330
        by_cases c34 : t191 = true
        ·
         subst c34
         have H1 : (bilgelaw28_WireFaults.j1 kj4 t176 t182 (((rd_T37 t185 0).f2) != (wrap64 (a1_2 + (wrap64 ((t176.length : Int) * a1_0))))) a1_0 a1_1 a1_2 a1_3 a2_0 a2_1 a2_2) = some r := by rw [if_pos rfl] at H; exact H
         clear H
         have H := H1
         clear H1
         have H' := Aside0.mk H
         clear H
         try go_wp2
         have n0_ := Aside0.mk (Kd.R_drew HO_7.out)
         have n1_ := Aside0.mk (Kd.R_drew HO184.out)
         have n2_ := Aside0.mk (Kd.S_drew HO187.out)
         have n3_ := Aside0.mk (blk_drew BK174.out)
         have n4_ := Aside0.mk (blk_drew BK175.out)
         have n5_ := Aside0.mk (below_drew1 HB.out)
         clear HO_7
         clear HO184
         clear HO187
         clear BK174
         clear BK175
         clear HB
         have HO_7 := n0_
         have HO184 := n1_
         have HO187 := n2_
         have BK174 := n3_
         have BK175 := n4_
         have HB := n5_
         clear n0_ n1_ n2_ n3_ n4_ n5_
         obtain ⟨Ao36, co36, eo36⟩ := Kd.S_slice HO187.out
         (first | subst eo36 | (injection eo36 with f1_ f2_ f3_; have f4_ := f1_.symm; have f5_ := f3_.symm; clear f1_ f2_ f3_; subst f4_; subst f5_))
         have p188 : 0 ≤ (0 : Int) := (by omega)
         have q188 : 0 < (t185.length : Int) := of_decide_eq_true (by first | (with_reducible assumption) | assumption)
         obtain ⟨ad188, A188_0, c188_0, e188, hx188_0, hx188_1, hx188_2, hx188_3, hx188_4, hx188_5, hl188_0, hi188_0⟩ := at_T37 (Kd.S_reads' HO187.out).2.2 0 p188 q188
         cases e188
         obtain ⟨ce188, hce188, hMe188, hcc188⟩ := Kd.S_get HO187.out z37 0 p188 (by first | exact q188 | exact of_decide_eq_true (by first | (with_reducible assumption) | assumption) | (have e_ := (Kd.S_reads' HO187.out).1; omega))
         obtain ⟨ve188_0, rfl, ge188_0⟩ := k37_openM hMe188
         have hv188_0 := hcc188 0 _ rfl
         rw [Nat.add_zero] at hv188_0
         replace hv188_0 := Option.some.inj (hv188_0.symm.trans hx188_0)
         rw [hv188_0] at ge188_0
         have HL188_0 := Aside0.mk (show Kd.R (Kd.int .u8) 5 _ _ _ _ ((rd_T37 t185 0).f0) from ge188_0)
         clear hv188_0 ge188_0
         clear hcc188 hce188
         have qi188 : (0 < t185.length) = True := eq_true (by omega)
         (try simp only [show ((0 : Int)).toNat = 0 from rfl, show 0 * 6 = 0 from rfl, Addr.add_zero'] at hx188_0 hx188_1 hx188_2 hx188_3 hx188_4 hx188_5)
         have HR188_0 := Aside0.mk hi188_0
         have HC188_0 := Aside0.mk hl188_0
         clear hi188_0 hl188_0
         replace p188 := eq_true p188
         replace q188 := eq_true q188
         refine start_ (n := 33) (S := fun w' => w'.cell? ⟨gb174, 0, none⟩ = some (.int .i64 a1_0) ∧ w'.cell? ⟨gb174, 1, none⟩ = some (.int .i64 a1_1) ∧ w'.cell? ⟨gb174, 2, none⟩ = some (.int .i64 a1_2) ∧ w'.cell? ⟨gb174, 3, none⟩ = some (.int .i64 a1_3) ∧ w'.cell? ad188 = some (.slice A188_0 ((rd_T37 t185 0).f0).length c188_0) ∧ w'.cell? ⟨ad188.block, ad188.off + 1, none⟩ = some (.int .i64 ((rd_T37 t185 0).f1)) ∧ w'.cell? ⟨ad188.block, ad188.off + 2, none⟩ = some (.int .i64 ((rd_T37 t185 0).f2)) ∧ w'.cell? ⟨ad188.block, ad188.off + 3, none⟩ = some (.int .i64 ((rd_T37 t185 0).f3)) ∧ w'.cell? ⟨ad188.block, ad188.off + 4, none⟩ = some (.bool ((rd_T37 t185 0).f4)) ∧ w'.cell? ⟨ad188.block, ad188.off + 5, none⟩ = some (.bool ((rd_T37 t185 0).f5))) (ds := []) #[nN,nN,nN,nN,nN,nN,nN,nN,nN,nN,nN,nN,nN,nN,nN,nN,nN,nN,nN,nN,nN,nN,nN,nN,nN,nN,nN,nN,nN,nN,nN,nN,nN] (by kernel_rfl) rfl rfl ⟨(blk_cell BK174.out 0).trans rfl, (blk_cell BK174.out 1).trans rfl, (blk_cell BK174.out 2).trans rfl, (blk_cell BK174.out 3).trans rfl, hx188_0, hx188_1, hx188_2, hx188_3, hx188_4, hx188_5⟩ (fun hHeld => ?_); refine with_tabW bilgelaw28_WireFaults.tab7 bilgelaw28_WireFaults.bits7 (fun HT_ HW_ => ?_)
         generalize w28.drew = w35 at HO_7 HO184 HO187 BK174 BK175 HB HL188_0 HR188_0 hx188_0 hx188_1 hx188_2 hx188_3 hx188_4 hx188_5 hHeld ⊢
         refine pure_ (i := 0) (N := some 45) (v := ?_) (a' := ?_) #[yY,nN,nN,nN,nN,nN,nN,nN,nN,nN,nN,nN,nN,nN,nN,nN,nN,nN,nN,nN,nN,nN,nN,nN,nN,nN,nN,nN,nN,nN,nN,nN,nN] rfl rfl (any_of HT_.out (by kernel_rfl)) (fun _ _ _ h => h) (Or.inl ⟨by rfl, ?_⟩) ?_ ?_
         rotate_left; intro w'; go_simp; with_reducible rfl; rotate_left; simp only [Act.put, List.setIfInBounds_toArray, List.set_cons_zero, List.set_cons_succ, i64_w, i32_w]; rfl
         refine pure_ (i := 1) (N := some 46) (v := ?_) (a' := ?_) #[yY,yY,nN,nN,nN,nN,nN,nN,nN,nN,nN,nN,nN,nN,nN,nN,nN,nN,nN,nN,nN,nN,nN,nN,nN,nN,nN,nN,nN,nN,nN,nN,nN] rfl rfl (any_of HT_.out (by kernel_rfl)) (fun _ _ _ h => h) (Or.inl ⟨by rfl, ?_⟩) ?_ ?_
         rotate_left; intro w'; go_simp; with_reducible rfl; rotate_left; simp only [Act.put, List.setIfInBounds_toArray, List.set_cons_zero, List.set_cons_succ, i64_w, i32_w]; rfl
         refine pure_ (i := 2) (N := some 47) (v := ?_) (a' := ?_) #[yY,yY,yY,nN,nN,nN,nN,nN,nN,nN,nN,nN,nN,nN,nN,nN,nN,nN,nN,nN,nN,nN,nN,nN,nN,nN,nN,nN,nN,nN,nN,nN,nN] rfl rfl (any_of HT_.out (by kernel_rfl)) (fun _ _ _ h => h) (Or.inl ⟨by rfl, ?_⟩) ?_ ?_
         rotate_left; intro w'; go_simp; with_reducible rfl; rotate_left; simp only [Act.put, List.setIfInBounds_toArray, List.set_cons_zero, List.set_cons_succ, i64_w, i32_w]; rfl
         refine pure_ (i := 3) (N := some 48) (v := ?_) (a' := ?_) #[yY,yY,yY,yY,nN,nN,nN,nN,nN,nN,nN,nN,nN,nN,nN,nN,nN,nN,nN,nN,nN,nN,nN,nN,nN,nN,nN,nN,nN,nN,nN,nN,nN] rfl rfl (any_of HT_.out (by kernel_rfl)) (fun _ _ _ h => h) (Or.inl ⟨by rfl, ?_⟩) ?_ ?_
         rotate_left; intro w'; go_simp; with_reducible rfl; rotate_left; simp only [Act.put, List.setIfInBounds_toArray, List.set_cons_zero, List.set_cons_succ, i64_w, i32_w]; rfl
         refine pure_ (i := 4) (N := some 49) (v := ?_) (a' := ?_) #[yY,yY,yY,yY,yY,nN,nN,nN,nN,nN,nN,nN,nN,nN,nN,nN,nN,nN,nN,nN,nN,nN,nN,nN,nN,nN,nN,nN,nN,nN,nN,nN,nN] rfl rfl (any_of HT_.out (by kernel_rfl)) (fun _ _ _ h => h) (Or.inl ⟨by rfl, ?_⟩) ?_ ?_
         rotate_left; intro w'; go_simp; with_reducible rfl; rotate_left; simp only [Act.put, List.setIfInBounds_toArray, List.set_cons_zero, List.set_cons_succ, i64_w, i32_w]; rfl
         refine pure_ (i := 5) (N := some 50) (v := ?_) (a' := ?_) #[yY,yY,yY,yY,yY,yY,nN,nN,nN,nN,nN,nN,nN,nN,nN,nN,nN,nN,nN,nN,nN,nN,nN,nN,nN,nN,nN,nN,nN,nN,nN,nN,nN] rfl rfl (any_of HT_.out (by kernel_rfl)) (fun _ _ _ h => h) (Or.inl ⟨by rfl, ?_⟩) ?_ ?_
         rotate_left; intro w'; go_simp; with_reducible rfl; rotate_left; simp only [Act.put, List.setIfInBounds_toArray, List.set_cons_zero, List.set_cons_succ, i64_w, i32_w]; rfl
         refine take_ (i := 6) (N := some 51) (v := ?_) (a' := ?_) #[yY,yY,yY,yY,yY,yY,yY,nN,nN,nN,nN,nN,nN,nN,nN,nN,nN,nN,nN,nN,nN,nN,nN,nN,nN,nN,nN,nN,nN,nN,nN,nN,nN] rfl rfl (take_ofW HT_.out HW_.out (by kernel_rfl)) (fun _ _ _ h => h) (Or.inl ⟨by rfl, ?_⟩) hHeld ?_ ?_
         rotate_left; rintro w' ⟨s0, s1, s2, s3, s4, s5, s6, s7, s8, s9⟩; go_simp; with_reducible rfl; rotate_left; simp only [Act.put, List.setIfInBounds_toArray, List.set_cons_zero, List.set_cons_succ, i64_w, i32_w]; rfl
         refine one_ (i := 7) (N := some 52) #[yY,yY,yY,yY,yY,yY,yY,yY,nN,nN,nN,nN,nN,nN,nN,nN,nN,nN,nN,nN,nN,nN,nN,nN,nN,nN,nN,nN,nN,nN,nN,nN,nN] rfl rfl (one_of HT_.out (by kernel_rfl)) (by decide) (fun K hK => ?_)
         refine goes_ Try.func11 (by kernel_rfl) rfl #[.agg #[.slice A188_0 ((rd_T37 t185 0).f0).length c188_0, .int .i64 ((rd_T37 t185 0).f1), .int .i64 ((rd_T37 t185 0).f2), .int .i64 ((rd_T37 t185 0).f3), .bool ((rd_T37 t185 0).f4), .bool ((rd_T37 t185 0).f5)]] (by rfl) rfl rfl (by (try simp only [List.map_toArray, List.map_cons, List.map_nil]); first | done | rfl | (simp only [List.length_drop, List.length_take]; rfl)) ?_
         with_reducible refine (split_Fault.calls _ _ ((rd_T37 t185 0).f0) ((rd_T37 t185 0).f1) ((rd_T37 t185 0).f2) ((rd_T37 t185 0).f3) ((rd_T37 t185 0).f4) ((rd_T37 t185 0).f5) t189 _ ?side1 ?side2 A31.out).mono ?_
         (case side1 => repeat (first | exact (by repeat (first | (with_reducible exact HR188_0.out) | (with_reducible refine Kd.C_alloc ?_ _) | (with_reducible refine Kd.C_drewN ?_ _) | (with_reducible refine Kd.C_drew ?_) | exact HR188_0.out)) | (with_reducible refine Kd.C_alloc ?_ _) | (with_reducible refine Kd.C_drewN ?_ _) | (with_reducible refine Kd.C_drew ?_)))
         (case side2 => exact HC188_0.out)
         rintro e w37 ⟨rfl, hb⟩
         have HS4_ := (hb.cell (World.block_lt_of_cell? _ _ (hHeld.2.2.2.2.1))).trans (hHeld.2.2.2.2.1)
         have HS5_ := (hb.cell (World.block_lt_of_cell? _ _ (hHeld.2.2.2.2.2.1))).trans (hHeld.2.2.2.2.2.1)
         have HS6_ := (hb.cell (World.block_lt_of_cell? _ _ (hHeld.2.2.2.2.2.2.1))).trans (hHeld.2.2.2.2.2.2.1)
         have HS7_ := (hb.cell (World.block_lt_of_cell? _ _ (hHeld.2.2.2.2.2.2.2.1))).trans (hHeld.2.2.2.2.2.2.2.1)
         have HS8_ := (hb.cell (World.block_lt_of_cell? _ _ (hHeld.2.2.2.2.2.2.2.2.1))).trans (hHeld.2.2.2.2.2.2.2.2.1)
         have HS9_ := (hb.cell (World.block_lt_of_cell? _ _ (hHeld.2.2.2.2.2.2.2.2.2))).trans (hHeld.2.2.2.2.2.2.2.2.2)
         refine ⟨_, rfl, ?_⟩
         have n0_ := Aside0.mk (Kd.R_below (by (with_reducible repeat (first | apply Kd.R_alloc | apply Kd.R_drewN | apply Kd.R_drew)); exact HO_7.out) hb)
         have n1_ := Aside0.mk (Kd.R_below (by (with_reducible repeat (first | apply Kd.R_alloc | apply Kd.R_drewN | apply Kd.R_drew)); exact HO184.out) hb)
         have n2_ := Aside0.mk (Kd.S_below (by (with_reducible repeat (first | apply Kd.S_alloc | apply Kd.S_drewN | apply Kd.S_drew)); exact HO187.out) hb)
         have n3_ := Aside0.mk (Kd.R_below (by (with_reducible repeat (first | apply Kd.R_alloc | apply Kd.R_drewN | apply Kd.R_drew)); exact HL188_0.out) hb)
         have n4_ := Aside0.mk (blk_below (g := gb174) (o := .cells #[.int .i64 a1_0, .int .i64 a1_1, .int .i64 a1_2, .int .i64 a1_3] 24 (0, 0)) (by (with_reducible repeat (first | refine blk_drewN ?_ _ | refine blk_drew ?_ | refine blk_alloc ?_ _)); exact BK174.out) hb)
         have n5_ := Aside0.mk (blk_below (g := gb175) (o := .cells #[.int .u16 a2_0, .int .u16 a2_1, .int .u16 a2_2] 41 (0, 0)) (by (with_reducible repeat (first | refine blk_drewN ?_ _ | refine blk_drew ?_ | refine blk_alloc ?_ _)); exact BK175.out) hb)
         have n6_ := Aside0.mk (Kd.C_below (by repeat (first | (with_reducible exact HR188_0.out) | (with_reducible refine Kd.C_alloc ?_ _) | (with_reducible refine Kd.C_drewN ?_ _) | (with_reducible refine Kd.C_drew ?_) | exact HR188_0.out)) hb)
         have n7_ := Aside0.mk (below_step (by repeat (first | (with_reducible first | exact HB.out | apply below_alloc | apply pw_below_drewN | apply below_drew1 | refine below_set ?_ GE174.out | refine below_set ?_ GE175.out) | exact HB.out)) hb)
         clear HO_7
         clear HO184
         clear HO187
         clear HL188_0
         clear BK174
         clear BK175
         clear HR188_0
         clear HB
         have HO_7 := n0_
         have HO184 := n1_
         have HO187 := n2_
         have HL188_0 := n3_
         have BK174 := n4_
         have BK175 := n5_
         have HR188_0 := n6_
         have HB := n7_
         clear n0_ n1_ n2_ n3_ n4_ n5_ n6_ n7_
         (try clear hb)
         (try clear hb2)
         (try clear hk)
         (try clear hi)
         refine hK.out _ _ ⟨(blk_cell BK174.out 0).trans rfl, (blk_cell BK174.out 1).trans rfl, (blk_cell BK174.out 2).trans rfl, (blk_cell BK174.out 3).trans rfl, HS4_, HS5_, HS6_, HS7_, HS8_, HS9_⟩ (fun hHeld => ?_)
         clear hK K
         refine norm_ (a' := ?_) ?_ ?_
         rotate_left
         ·
          show Act.put _ (some 52) _ = _
          simp only [Act.put, List.setIfInBounds_toArray, List.set_cons_zero, List.set_cons_succ, i64_w, i32_w]
          rfl
         refine pure_ (i := 8) (N := some 53) (v := ?_) (a' := ?_) #[yY,yY,yY,yY,yY,yY,yY,yY,yY,nN,nN,nN,nN,nN,nN,nN,nN,nN,nN,nN,nN,nN,nN,nN,nN,nN,nN,nN,nN,nN,nN,nN,nN] rfl rfl (any_of HT_.out (by kernel_rfl)) (fun _ _ _ h => h) (Or.inl ⟨by rfl, ?_⟩) ?_ ?_
         rotate_left; intro w'; go_simp; with_reducible rfl; rotate_left; simp only [Act.put, List.setIfInBounds_toArray, List.set_cons_zero, List.set_cons_succ, i64_w, i32_w]; rfl
         refine pure_ (i := 9) (N := some 54) (v := ?_) (a' := ?_) #[yY,yY,yY,yY,yY,yY,yY,yY,yY,yY,nN,nN,nN,nN,nN,nN,nN,nN,nN,nN,nN,nN,nN,nN,nN,nN,nN,nN,nN,nN,nN,nN,nN] rfl rfl (any_of HT_.out (by kernel_rfl)) (fun _ _ _ h => h) (Or.inl ⟨by rfl, ?_⟩) ?_ ?_
         rotate_left; intro w'; go_simp; with_reducible rfl; rotate_left; simp only [Act.put, List.setIfInBounds_toArray, List.set_cons_zero, List.set_cons_succ, i64_w, i32_w]; rfl
         refine pure_ (i := 10) (N := some 55) (v := ?_) (a' := ?_) #[yY,yY,yY,yY,yY,yY,yY,yY,yY,yY,yY,nN,nN,nN,nN,nN,nN,nN,nN,nN,nN,nN,nN,nN,nN,nN,nN,nN,nN,nN,nN,nN,nN] rfl rfl (any_of HT_.out (by kernel_rfl)) (fun _ _ _ h => h) (Or.inl ⟨by rfl, ?_⟩) ?_ ?_
         rotate_left; intro w'; go_simp; with_reducible rfl; rotate_left; simp only [Act.put, List.setIfInBounds_toArray, List.set_cons_zero, List.set_cons_succ, i64_w, i32_w]; rfl
         refine pure_ (i := 11) (N := some 56) (v := ?_) (a' := ?_) #[yY,yY,yY,yY,yY,yY,yY,yY,yY,yY,yY,yY,nN,nN,nN,nN,nN,nN,nN,nN,nN,nN,nN,nN,nN,nN,nN,nN,nN,nN,nN,nN,nN] rfl rfl (any_of HT_.out (by kernel_rfl)) (fun _ _ _ h => h) (Or.inl ⟨by rfl, ?_⟩) ?_ ?_
         rotate_left; intro w'; go_simp; with_reducible rfl; rotate_left; simp only [Act.put, List.setIfInBounds_toArray, List.set_cons_zero, List.set_cons_succ, i64_w, i32_w]; rfl
         refine pure_ (i := 12) (N := some 57) (v := ?_) (a' := ?_) #[yY,yY,yY,yY,yY,yY,yY,yY,yY,yY,yY,yY,yY,nN,nN,nN,nN,nN,nN,nN,nN,nN,nN,nN,nN,nN,nN,nN,nN,nN,nN,nN,nN] rfl rfl (any_of HT_.out (by kernel_rfl)) (fun _ _ _ h => h) (Or.inl ⟨by rfl, ?_⟩) ?_ ?_
         rotate_left; intro w'; go_simp; with_reducible rfl; rotate_left; simp only [Act.put, List.setIfInBounds_toArray, List.set_cons_zero, List.set_cons_succ, i64_w, i32_w]; rfl
         refine pure_ (i := 13) (N := some 58) (v := ?_) (a' := ?_) #[yY,yY,yY,yY,yY,yY,yY,yY,yY,yY,yY,yY,yY,yY,nN,nN,nN,nN,nN,nN,nN,nN,nN,nN,nN,nN,nN,nN,nN,nN,nN,nN,nN] rfl rfl (any_of HT_.out (by kernel_rfl)) (fun _ _ _ h => h) (Or.inl ⟨by rfl, ?_⟩) ?_ ?_
         rotate_left; intro w'; go_simp; with_reducible rfl; rotate_left; simp only [Act.put, List.setIfInBounds_toArray, List.set_cons_zero, List.set_cons_succ, i64_w, i32_w]; rfl
         refine pure_ (i := 15) (N := some 60) (v := ?_) (a' := ?_) #[yY,yY,yY,yY,yY,yY,yY,yY,yY,yY,yY,yY,yY,yY,nN,yY,nN,nN,nN,nN,nN,nN,nN,nN,nN,nN,nN,nN,nN,nN,nN,nN,nN] rfl rfl (any_of HT_.out (by kernel_rfl)) (fun _ _ _ h => h) (Or.inl ⟨by rfl, ?_⟩) ?_ ?_
         rotate_left; intro w'; go_simp; with_reducible rfl; rotate_left; simp only [Act.put, List.setIfInBounds_toArray, List.set_cons_zero, List.set_cons_succ, i64_w, i32_w]; rfl
         refine take_ (i := 14) (N := some 59) (v := ?_) (a' := ?_) #[yY,yY,yY,yY,yY,yY,yY,yY,yY,yY,yY,yY,yY,yY,yY,yY,nN,nN,nN,nN,nN,nN,nN,nN,nN,nN,nN,nN,nN,nN,nN,nN,nN] rfl rfl (take_ofW HT_.out HW_.out (by kernel_rfl)) (fun _ _ _ h => h) (Or.inl ⟨by rfl, ?_⟩) hHeld ?_ ?_
         rotate_left; rintro w' ⟨s0, s1, s2, s3, s4, s5, s6, s7, s8, s9⟩; go_simp; with_reducible rfl; rotate_left; simp only [Act.put, List.setIfInBounds_toArray, List.set_cons_zero, List.set_cons_succ, i64_w, i32_w]; rfl
         refine one_ (i := 16) (N := some 61) #[yY,yY,yY,yY,yY,yY,yY,yY,yY,yY,yY,yY,yY,yY,yY,yY,yY,nN,nN,nN,nN,nN,nN,nN,nN,nN,nN,nN,nN,nN,nN,nN,nN] rfl rfl (one_of HT_.out (by kernel_rfl)) (by decide) (fun K hK => ?_)
         refine goes_ Try.func13 (by kernel_rfl) rfl #[.slice A188_0 ((rd_T37 t185 0).f0).length c188_0, .slice Ao24 t176.length co24] (by rfl) rfl rfl (by (try simp only [List.map_toArray, List.map_cons, List.map_nil]); first | done | rfl | (simp only [List.length_drop, List.length_take]; rfl)) ?_
         with_reducible refine (bilgeref01_Bytes.calls kj4 _ _ ((rd_T37 t185 0).f0) _ _ t176 true _ ?side1 ?side2 ?side3 ?side4 A33.out).mono ?_
         (case side1 => repeat (first | exact (by repeat (first | (with_reducible exact HR188_0.out) | (with_reducible refine Kd.C_alloc ?_ _) | (with_reducible refine Kd.C_drewN ?_ _) | (with_reducible refine Kd.C_drew ?_) | exact HR188_0.out)) | (with_reducible refine Kd.C_alloc ?_ _) | (with_reducible refine Kd.C_drewN ?_ _) | (with_reducible refine Kd.C_drew ?_)))
         (case side2 => exact HC188_0.out)
         (case side3 => repeat (first | exact (Kd.R_reads' HO_7.out).2.2 | (with_reducible refine Kd.C_alloc ?_ _) | (with_reducible refine Kd.C_drewN ?_ _) | (with_reducible refine Kd.C_drew ?_)))
         (case side4 => exact (Kd.R_reads' HO_7.out).2.1)
         rintro e w' ⟨rfl, ⟨nd, rfl⟩⟩
         refine ⟨_, rfl, ?_⟩
         refine hK.out _ _ ⟨(blk_cell BK174.out 0).trans rfl, (blk_cell BK174.out 1).trans rfl, (blk_cell BK174.out 2).trans rfl, (blk_cell BK174.out 3).trans rfl, hHeld.2.2.2.2.1, hHeld.2.2.2.2.2.1, hHeld.2.2.2.2.2.2.1, hHeld.2.2.2.2.2.2.2.1, hHeld.2.2.2.2.2.2.2.2.1, hHeld.2.2.2.2.2.2.2.2.2⟩ (fun hHeld => ?_)
         clear hK K
         refine norm_ (a' := ?_) ?_ ?_
         rotate_left
         ·
          show Act.put _ (some 61) _ = _
          simp only [Act.put, List.setIfInBounds_toArray, List.set_cons_zero, List.set_cons_succ, i64_w, i32_w]
          rfl
         refine pure_ (i := 17) (N := some 62) (v := ?_) (a' := ?_) #[yY,yY,yY,yY,yY,yY,yY,yY,yY,yY,yY,yY,yY,yY,yY,yY,yY,yY,nN,nN,nN,nN,nN,nN,nN,nN,nN,nN,nN,nN,nN,nN,nN] rfl rfl (any_of HT_.out (by kernel_rfl)) (fun _ _ _ h => h) (Or.inl ⟨by rfl, ?_⟩) ?_ ?_
         rotate_left; intro w'; go_simp; with_reducible rfl; rotate_left; simp only [Act.put, List.setIfInBounds_toArray, List.set_cons_zero, List.set_cons_succ, i64_w, i32_w]; rfl
         refine pure_ (i := 18) (N := some 63) (v := ?_) (a' := ?_) #[yY,yY,yY,yY,yY,yY,yY,yY,yY,yY,yY,yY,yY,yY,yY,yY,yY,yY,yY,nN,nN,nN,nN,nN,nN,nN,nN,nN,nN,nN,nN,nN,nN] rfl rfl (any_of HT_.out (by kernel_rfl)) (fun _ _ _ h => h) (Or.inl ⟨by rfl, ?_⟩) ?_ ?_
         rotate_left; intro w'; go_simp; with_reducible rfl; rotate_left; simp only [Act.put, List.setIfInBounds_toArray, List.set_cons_zero, List.set_cons_succ, i64_w, i32_w]; rfl
         refine pure_ (i := 19) (N := some 64) (v := ?_) (a' := ?_) #[yY,yY,yY,yY,yY,yY,yY,yY,yY,yY,yY,yY,yY,yY,yY,yY,yY,yY,yY,yY,nN,nN,nN,nN,nN,nN,nN,nN,nN,nN,nN,nN,nN] rfl rfl (any_of HT_.out (by kernel_rfl)) (fun _ _ _ h => h) (Or.inl ⟨by rfl, ?_⟩) ?_ ?_
         rotate_left; intro w'; go_simp; with_reducible rfl; rotate_left; simp only [Act.put, List.setIfInBounds_toArray, List.set_cons_zero, List.set_cons_succ, i64_w, i32_w]; rfl
         refine pure_ (i := 20) (N := some 65) (v := ?_) (a' := ?_) #[yY,yY,yY,yY,yY,yY,yY,yY,yY,yY,yY,yY,yY,yY,yY,yY,yY,yY,yY,yY,yY,nN,nN,nN,nN,nN,nN,nN,nN,nN,nN,nN,nN] rfl rfl (any_of HT_.out (by kernel_rfl)) (fun _ _ _ h => h) (Or.inl ⟨by rfl, ?_⟩) ?_ ?_
         rotate_left; intro w'; go_simp; with_reducible rfl; rotate_left; simp only [Act.put, List.setIfInBounds_toArray, List.set_cons_zero, List.set_cons_succ, i64_w, i32_w]; rfl
         refine pure_ (i := 21) (N := some 66) (v := ?_) (a' := ?_) #[yY,yY,yY,yY,yY,yY,yY,yY,yY,yY,yY,yY,yY,yY,yY,yY,yY,yY,yY,yY,yY,yY,nN,nN,nN,nN,nN,nN,nN,nN,nN,nN,nN] rfl rfl (any_of HT_.out (by kernel_rfl)) (fun _ _ _ h => h) (Or.inl ⟨by rfl, ?_⟩) ?_ ?_
         rotate_left; intro w'; go_simp; with_reducible rfl; rotate_left; simp only [Act.put, List.setIfInBounds_toArray, List.set_cons_zero, List.set_cons_succ, i64_w, i32_w]; rfl
         refine pure_ (i := 22) (N := some 67) (v := ?_) (a' := ?_) #[yY,yY,yY,yY,yY,yY,yY,yY,yY,yY,yY,yY,yY,yY,yY,yY,yY,yY,yY,yY,yY,yY,yY,nN,nN,nN,nN,nN,nN,nN,nN,nN,nN] rfl rfl (any_of HT_.out (by kernel_rfl)) (fun _ _ _ h => h) (Or.inl ⟨by rfl, ?_⟩) ?_ ?_
         rotate_left; intro w'; go_simp; with_reducible rfl; rotate_left; simp only [Act.put, List.setIfInBounds_toArray, List.set_cons_zero, List.set_cons_succ, i64_w, i32_w]; rfl
         refine pure_ (i := 24) (N := some 69) (v := ?_) (a' := ?_) #[yY,yY,yY,yY,yY,yY,yY,yY,yY,yY,yY,yY,yY,yY,yY,yY,yY,yY,yY,yY,yY,yY,yY,nN,yY,nN,nN,nN,nN,nN,nN,nN,nN] rfl rfl (any_of HT_.out (by kernel_rfl)) (fun _ _ _ h => h) (Or.inl ⟨by rfl, ?_⟩) ?_ ?_
         rotate_left; intro w'; go_simp; with_reducible rfl; rotate_left; simp only [Act.put, List.setIfInBounds_toArray, List.set_cons_zero, List.set_cons_succ, i64_w, i32_w]; rfl
         refine pure_ (i := 25) (N := some 70) (v := ?_) (a' := ?_) #[yY,yY,yY,yY,yY,yY,yY,yY,yY,yY,yY,yY,yY,yY,yY,yY,yY,yY,yY,yY,yY,yY,yY,nN,yY,yY,nN,nN,nN,nN,nN,nN,nN] rfl rfl (any_of HT_.out (by kernel_rfl)) (fun _ _ _ h => h) (Or.inl ⟨by rfl, ?_⟩) ?_ ?_
         rotate_left; intro w'; go_simp; with_reducible rfl; rotate_left; simp only [Act.put, List.setIfInBounds_toArray, List.set_cons_zero, List.set_cons_succ, i64_w, i32_w]; rfl
         refine pure_ (i := 26) (N := some 71) (v := ?_) (a' := ?_) #[yY,yY,yY,yY,yY,yY,yY,yY,yY,yY,yY,yY,yY,yY,yY,yY,yY,yY,yY,yY,yY,yY,yY,nN,yY,yY,yY,nN,nN,nN,nN,nN,nN] rfl rfl (any_of HT_.out (by kernel_rfl)) (fun _ _ _ h => h) (Or.inl ⟨by rfl, ?_⟩) ?_ ?_
         rotate_left; intro w'; go_simp; with_reducible rfl; rotate_left; simp only [Act.put, List.setIfInBounds_toArray, List.set_cons_zero, List.set_cons_succ, i64_w, i32_w]; rfl
         refine pure_ (i := 27) (N := some 72) (v := ?_) (a' := ?_) #[yY,yY,yY,yY,yY,yY,yY,yY,yY,yY,yY,yY,yY,yY,yY,yY,yY,yY,yY,yY,yY,yY,yY,nN,yY,yY,yY,yY,nN,nN,nN,nN,nN] rfl rfl (any_of HT_.out (by kernel_rfl)) (fun _ _ _ h => h) (Or.inl ⟨by rfl, ?_⟩) ?_ ?_
         rotate_left; intro w'; go_simp; with_reducible rfl; rotate_left; simp only [Act.put, List.setIfInBounds_toArray, List.set_cons_zero, List.set_cons_succ, i64_w, i32_w]; rfl
         refine take_ (i := 23) (N := some 68) (v := ?_) (a' := ?_) #[yY,yY,yY,yY,yY,yY,yY,yY,yY,yY,yY,yY,yY,yY,yY,yY,yY,yY,yY,yY,yY,yY,yY,yY,yY,yY,yY,yY,nN,nN,nN,nN,nN] rfl rfl (take_ofW HT_.out HW_.out (by kernel_rfl)) (fun _ _ _ h => h) (Or.inl ⟨by rfl, ?_⟩) hHeld ?_ ?_
         rotate_left; rintro w' ⟨s0, s1, s2, s3, s4, s5, s6, s7, s8, s9⟩; go_simp; with_reducible rfl; rotate_left; simp only [Act.put, List.setIfInBounds_toArray, List.set_cons_zero, List.set_cons_succ, i64_w, i32_w]; rfl
         refine take_ (i := 28) (N := some 73) (v := ?_) (a' := ?_) #[yY,yY,yY,yY,yY,yY,yY,yY,yY,yY,yY,yY,yY,yY,yY,yY,yY,yY,yY,yY,yY,yY,yY,yY,yY,yY,yY,yY,yY,nN,nN,nN,nN] rfl rfl (take_ofW HT_.out HW_.out (by kernel_rfl)) (fun _ _ _ h => h) (Or.inl ⟨by rfl, ?_⟩) hHeld ?_ ?_
         rotate_left; rintro w' ⟨s0, s1, s2, s3, s4, s5, s6, s7, s8, s9⟩; go_simp; with_reducible rfl; rotate_left; simp only [Act.put, List.setIfInBounds_toArray, List.set_cons_zero, List.set_cons_succ, i64_w, i32_w]; rfl
         refine pure_ (i := 29) (N := some 74) (v := ?_) (a' := ?_) #[yY,yY,yY,yY,yY,yY,yY,yY,yY,yY,yY,yY,yY,yY,yY,yY,yY,yY,yY,yY,yY,yY,yY,yY,yY,yY,yY,yY,yY,yY,nN,nN,nN] rfl rfl (any_of HT_.out (by kernel_rfl)) (fun _ _ _ h => h) (Or.inl ⟨by rfl, ?_⟩) ?_ ?_
         rotate_left; intro w'; go_simp; with_reducible rfl; rotate_left; simp only [Act.put, List.setIfInBounds_toArray, List.set_cons_zero, List.set_cons_succ, i64_w, i32_w]; rfl
         refine pure_ (i := 30) (N := some 75) (v := ?_) (a' := ?_) #[yY,yY,yY,yY,yY,yY,yY,yY,yY,yY,yY,yY,yY,yY,yY,yY,yY,yY,yY,yY,yY,yY,yY,yY,yY,yY,yY,yY,yY,yY,yY,nN,nN] rfl rfl (any_of HT_.out (by kernel_rfl)) (fun _ _ _ h => h) (Or.inl ⟨by rfl, ?_⟩) ?_ ?_
         rotate_left; intro w'; go_simp; with_reducible rfl; rotate_left; simp only [Act.put, List.setIfInBounds_toArray, List.set_cons_zero, List.set_cons_succ, i64_w, i32_w]; rfl
         refine pure_ (i := 31) (N := some 76) (v := ?_) (a' := ?_) #[yY,yY,yY,yY,yY,yY,yY,yY,yY,yY,yY,yY,yY,yY,yY,yY,yY,yY,yY,yY,yY,yY,yY,yY,yY,yY,yY,yY,yY,yY,yY,yY,nN] rfl rfl (any_of HT_.out (by kernel_rfl)) (fun _ _ _ h => h) (Or.inl ⟨by rfl, ?_⟩) ?_ ?_
         rotate_left; intro w'; go_simp; with_reducible rfl; rotate_left; simp only [Act.put, List.setIfInBounds_toArray, List.set_cons_zero, List.set_cons_succ, i64_w, i32_w]; rfl
         refine pure_ (i := 32) (N := some 77) (v := ?_) (a' := ?_) #[yY,yY,yY,yY,yY,yY,yY,yY,yY,yY,yY,yY,yY,yY,yY,yY,yY,yY,yY,yY,yY,yY,yY,yY,yY,yY,yY,yY,yY,yY,yY,yY,yY] rfl rfl (any_of HT_.out (by kernel_rfl)) (fun _ _ _ h => h) (Or.inl ⟨by rfl, ?_⟩) ?_ ?_
         rotate_left; intro w'; go_simp; with_reducible rfl; rotate_left; simp only [Act.put, List.setIfInBounds_toArray, List.set_cons_zero, List.set_cons_succ, i64_w, i32_w]; rfl
         refine done_ (done_of HT_.out (by kernel_rfl)) ?_
         try go_wp2
         go_meet
         case rel => exact ⟨_, ((((rd_T37 t185 0).f2) != (wrap64 (a1_2 + (wrap64 ((t176.length : Int) * a1_0)))))), (by first | rfl | (simp; done) | (simp [*]; done)), H', ⟨by have := HJ4.out; first | omega | exact Nat.le_refl _⟩, ⟨by (with_reducible repeat (first | apply Kd.R_alloc | apply Kd.R_drewN | apply Kd.R_drew)); exact HO_7.out⟩, ⟨by (with_reducible repeat (first | apply Kd.R_alloc | apply Kd.R_drewN | apply Kd.R_drew)); exact HO184.out⟩, ⟨by (with_reducible repeat (first | refine blk_drewN ?_ _ | refine blk_drew ?_ | refine blk_alloc ?_ _)); exact BK174.out⟩, ⟨by (with_reducible repeat (first | refine blk_drewN ?_ _ | refine blk_drew ?_ | refine blk_alloc ?_ _)); exact BK175.out⟩, ⟨by repeat (first | (with_reducible first | exact HB.out | apply below_alloc | apply pw_below_drewN | apply below_drew1 | refine below_set ?_ GE174.out | refine below_set ?_ GE175.out) | exact HB.out)⟩⟩
        ·
         replace c34 := Bool.eq_false_iff.mpr c34
         subst c34
         have H1 : (bilgelaw28_WireFaults.j1 kj4 t176 t182 true a1_0 a1_1 a1_2 a1_3 a2_0 a2_1 a2_2) = some r := by rw [if_neg (show ¬ (false = true) by decide)] at H; exact H
         clear H
         have H := H1
         clear H1
         exact absurd HRT.out (bilgelaw28_WireFaults.j1_t H)
       ·
        rw [if_neg c32] at H
        have c32b0 : (t189 == 0) = false := beq_eq_false_iff_ne.mpr c32
        have c32b1 : (t189 != 0) = true := bne_iff_ne.mpr c32
        exact absurd HRT.out (bilgelaw28_WireFaults.j1_t H)
      ·
       rw [if_neg c30] at H
       exact absurd H (by simp)
     ·
      rw [if_neg c29] at H
      have c29b0 : ((t185.length : Int) == 1) = false := beq_eq_false_iff_ne.mpr c29
      have c29b1 : ((t185.length : Int) != 1) = true := bne_iff_ne.mpr c29
      (first | rw [c29b0] | (simp only [i64_w, i32_w]; rw [c29b0]) | skip)
      exact absurd HRT.out (bilgelaw28_WireFaults.j1_t H)
    case rest =>
     clear HC21
     try clear c1
     try clear p1
     try clear q1
     try clear hx1
     try clear qi1
     try clear c2
     try clear p2
     try clear c3
     try clear c11
     try clear c18
     try clear p18
     try clear q18
     try clear hx18
     try clear qi18
     try clear c29
     try clear c29b0
     try clear c29b1
     try clear c30
     try clear c32
     try clear c32b0
     try clear c32b1
     try clear hx188_0
     try clear hx188_1
     try clear hx188_2
     try clear hx188_3
     try clear hx188_4
     try clear hx188_5
     try clear p188
     try clear q188
     obtain ⟨kq, x77_20, rfl, HA, HJ20, HO_7, HO_10, BK174, BK175, HB⟩ := hcut
     cases kq with
     | zero => exact absurd HA.out (by simp [bilgelaw28_WireFaults.j1])
     | succ kj20 =>
      have H := HA.out
      clear HA
      simp only [bilgelaw28_WireFaults.j1] at H
      by_cases c46 : x77_20 = true
      ·
       subst c46
       have H1 : (some false) = some r := by rw [if_pos rfl] at H; exact H
       exact absurd ((Option.some.inj H1).trans HRT.out) (by decide)
      ·
       replace c46 := Bool.eq_false_iff.mpr c46
       subst c46
       have H1 : (if (t176.length : Int) = 0 then (none) else ((wire_Spoil.f t182 (Int.tmod (wrap64 (a2_0)) (t176.length : Int))).bind fun t193 => ((split_All.f t193 a1_0 a1_1 a1_2 a1_3 0).bind fun t196 => ((wire_Flip.f t182 (Int.tmod (wrap64 (a2_0)) (t176.length : Int)) (Int.tmod (wrap64 (a2_1)) 8)).bind fun t199 => ((split_All.f t199 a1_0 a1_1 a1_2 a1_3 0).bind fun t202 => (if (t196.length : Int) = 1 then (if 0 < (t196.length : Int) then ((split_Fault.f ((rd_T37 t196 0).f0) ((rd_T37 t196 0).f1) ((rd_T37 t196 0).f2) ((rd_T37 t196 0).f3) ((rd_T37 t196 0).f4) ((rd_T37 t196 0).f5)).bind fun t206 => (if t206 = 2 then (if (t202.length : Int) = 1 then (if 0 < (t202.length : Int) then ((split_Fault.f ((rd_T37 t202 0).f0) ((rd_T37 t202 0).f1) ((rd_T37 t202 0).f2) ((rd_T37 t202 0).f3) ((rd_T37 t202 0).f4) ((rd_T37 t202 0).f5)).bind fun t208 => (if t208 = 5 then ((split_Errs.f ((rd_T37 t202 0).f0) ((rd_T37 t202 0).f1) ((rd_T37 t202 0).f2) ((rd_T37 t202 0).f3) ((rd_T37 t202 0).f4) ((rd_T37 t202 0).f5)).bind fun t210 => (bilgelaw28_WireFaults.j2 kj20 t182 (Int.tmod (wrap64 (a2_0)) (t176.length : Int)) (!t210) a1_0 a1_1 a1_2 a1_3)) else (bilgelaw28_WireFaults.j2 kj20 t182 (Int.tmod (wrap64 (a2_0)) (t176.length : Int)) true a1_0 a1_1 a1_2 a1_3))) else (none)) else (bilgelaw28_WireFaults.j2 kj20 t182 (Int.tmod (wrap64 (a2_0)) (t176.length : Int)) true a1_0 a1_1 a1_2 a1_3)) else (bilgelaw28_WireFaults.j2 kj20 t182 (Int.tmod (wrap64 (a2_0)) (t176.length : Int)) true a1_0 a1_1 a1_2 a1_3))) else (none)) else (bilgelaw28_WireFaults.j2 kj20 t182 (Int.tmod (wrap64 (a2_0)) (t176.length : Int)) true a1_0 a1_1 a1_2 a1_3))))))) = some r := by rw [if_neg (show ¬ (false = true) by decide)] at H; exact H
       clear H
       have H := H1
       clear H1
       by_cases c47 : (t176.length : Int) = 0
       ·
        rw [if_pos c47] at H
        exact absurd H (by simp)
       ·
        rw [if_neg c47] at H
        have c47b0 : ((t176.length : Int) == 0) = false := beq_eq_false_iff_ne.mpr c47
        have c47b1 : ((t176.length : Int) != 0) = true := bne_iff_ne.mpr c47
        have c47b2 : ¬ (t176 = []) := fun h_ => c47 (by rw [h_]; rfl)
        replace H := Option.bind_eq_some_iff.mp H
        obtain ⟨t193, A480, H⟩ := H
        replace H : ((split_All.f t193 a1_0 a1_1 a1_2 a1_3 0).bind fun t196 => ((wire_Flip.f t182 (Int.tmod (wrap64 (a2_0)) (t176.length : Int)) (Int.tmod (wrap64 (a2_1)) 8)).bind fun t199 => ((split_All.f t199 a1_0 a1_1 a1_2 a1_3 0).bind fun t202 => (if (t196.length : Int) = 1 then (if 0 < (t196.length : Int) then ((split_Fault.f ((rd_T37 t196 0).f0) ((rd_T37 t196 0).f1) ((rd_T37 t196 0).f2) ((rd_T37 t196 0).f3) ((rd_T37 t196 0).f4) ((rd_T37 t196 0).f5)).bind fun t206 => (if t206 = 2 then (if (t202.length : Int) = 1 then (if 0 < (t202.length : Int) then ((split_Fault.f ((rd_T37 t202 0).f0) ((rd_T37 t202 0).f1) ((rd_T37 t202 0).f2) ((rd_T37 t202 0).f3) ((rd_T37 t202 0).f4) ((rd_T37 t202 0).f5)).bind fun t208 => (if t208 = 5 then ((split_Errs.f ((rd_T37 t202 0).f0) ((rd_T37 t202 0).f1) ((rd_T37 t202 0).f2) ((rd_T37 t202 0).f3) ((rd_T37 t202 0).f4) ((rd_T37 t202 0).f5)).bind fun t210 => (bilgelaw28_WireFaults.j2 kj20 t182 (Int.tmod (wrap64 (a2_0)) (t176.length : Int)) (!t210) a1_0 a1_1 a1_2 a1_3)) else (bilgelaw28_WireFaults.j2 kj20 t182 (Int.tmod (wrap64 (a2_0)) (t176.length : Int)) true a1_0 a1_1 a1_2 a1_3))) else (none)) else (bilgelaw28_WireFaults.j2 kj20 t182 (Int.tmod (wrap64 (a2_0)) (t176.length : Int)) true a1_0 a1_1 a1_2 a1_3)) else (bilgelaw28_WireFaults.j2 kj20 t182 (Int.tmod (wrap64 (a2_0)) (t176.length : Int)) true a1_0 a1_1 a1_2 a1_3))) else (none)) else (bilgelaw28_WireFaults.j2 kj20 t182 (Int.tmod (wrap64 (a2_0)) (t176.length : Int)) true a1_0 a1_1 a1_2 a1_3))))) = some r := H
        have A48 := Aside0.mk A480
        clear A480
        replace H := Option.bind_eq_some_iff.mp H
        obtain ⟨t196, A490, H⟩ := H
        replace H : ((wire_Flip.f t182 (Int.tmod (wrap64 (a2_0)) (t176.length : Int)) (Int.tmod (wrap64 (a2_1)) 8)).bind fun t199 => ((split_All.f t199 a1_0 a1_1 a1_2 a1_3 0).bind fun t202 => (if (t196.length : Int) = 1 then (if 0 < (t196.length : Int) then ((split_Fault.f ((rd_T37 t196 0).f0) ((rd_T37 t196 0).f1) ((rd_T37 t196 0).f2) ((rd_T37 t196 0).f3) ((rd_T37 t196 0).f4) ((rd_T37 t196 0).f5)).bind fun t206 => (if t206 = 2 then (if (t202.length : Int) = 1 then (if 0 < (t202.length : Int) then ((split_Fault.f ((rd_T37 t202 0).f0) ((rd_T37 t202 0).f1) ((rd_T37 t202 0).f2) ((rd_T37 t202 0).f3) ((rd_T37 t202 0).f4) ((rd_T37 t202 0).f5)).bind fun t208 => (if t208 = 5 then ((split_Errs.f ((rd_T37 t202 0).f0) ((rd_T37 t202 0).f1) ((rd_T37 t202 0).f2) ((rd_T37 t202 0).f3) ((rd_T37 t202 0).f4) ((rd_T37 t202 0).f5)).bind fun t210 => (bilgelaw28_WireFaults.j2 kj20 t182 (Int.tmod (wrap64 (a2_0)) (t176.length : Int)) (!t210) a1_0 a1_1 a1_2 a1_3)) else (bilgelaw28_WireFaults.j2 kj20 t182 (Int.tmod (wrap64 (a2_0)) (t176.length : Int)) true a1_0 a1_1 a1_2 a1_3))) else (none)) else (bilgelaw28_WireFaults.j2 kj20 t182 (Int.tmod (wrap64 (a2_0)) (t176.length : Int)) true a1_0 a1_1 a1_2 a1_3)) else (bilgelaw28_WireFaults.j2 kj20 t182 (Int.tmod (wrap64 (a2_0)) (t176.length : Int)) true a1_0 a1_1 a1_2 a1_3))) else (none)) else (bilgelaw28_WireFaults.j2 kj20 t182 (Int.tmod (wrap64 (a2_0)) (t176.length : Int)) true a1_0 a1_1 a1_2 a1_3)))) = some r := H
        have A49 := Aside0.mk A490
        clear A490
        replace H := Option.bind_eq_some_iff.mp H
        obtain ⟨t199, A500, H⟩ := H
        replace H : ((split_All.f t199 a1_0 a1_1 a1_2 a1_3 0).bind fun t202 => (if (t196.length : Int) = 1 then (if 0 < (t196.length : Int) then ((split_Fault.f ((rd_T37 t196 0).f0) ((rd_T37 t196 0).f1) ((rd_T37 t196 0).f2) ((rd_T37 t196 0).f3) ((rd_T37 t196 0).f4) ((rd_T37 t196 0).f5)).bind fun t206 => (if t206 = 2 then (if (t202.length : Int) = 1 then (if 0 < (t202.length : Int) then ((split_Fault.f ((rd_T37 t202 0).f0) ((rd_T37 t202 0).f1) ((rd_T37 t202 0).f2) ((rd_T37 t202 0).f3) ((rd_T37 t202 0).f4) ((rd_T37 t202 0).f5)).bind fun t208 => (if t208 = 5 then ((split_Errs.f ((rd_T37 t202 0).f0) ((rd_T37 t202 0).f1) ((rd_T37 t202 0).f2) ((rd_T37 t202 0).f3) ((rd_T37 t202 0).f4) ((rd_T37 t202 0).f5)).bind fun t210 => (bilgelaw28_WireFaults.j2 kj20 t182 (Int.tmod (wrap64 (a2_0)) (t176.length : Int)) (!t210) a1_0 a1_1 a1_2 a1_3)) else (bilgelaw28_WireFaults.j2 kj20 t182 (Int.tmod (wrap64 (a2_0)) (t176.length : Int)) true a1_0 a1_1 a1_2 a1_3))) else (none)) else (bilgelaw28_WireFaults.j2 kj20 t182 (Int.tmod (wrap64 (a2_0)) (t176.length : Int)) true a1_0 a1_1 a1_2 a1_3)) else (bilgelaw28_WireFaults.j2 kj20 t182 (Int.tmod (wrap64 (a2_0)) (t176.length : Int)) true a1_0 a1_1 a1_2 a1_3))) else (none)) else (bilgelaw28_WireFaults.j2 kj20 t182 (Int.tmod (wrap64 (a2_0)) (t176.length : Int)) true a1_0 a1_1 a1_2 a1_3))) = some r := H
        have A50 := Aside0.mk A500
        clear A500
        replace H := Option.bind_eq_some_iff.mp H
        obtain ⟨t202, A510, H⟩ := H
        replace H : (if (t196.length : Int) = 1 then (if 0 < (t196.length : Int) then ((split_Fault.f ((rd_T37 t196 0).f0) ((rd_T37 t196 0).f1) ((rd_T37 t196 0).f2) ((rd_T37 t196 0).f3) ((rd_T37 t196 0).f4) ((rd_T37 t196 0).f5)).bind fun t206 => (if t206 = 2 then (if (t202.length : Int) = 1 then (if 0 < (t202.length : Int) then ((split_Fault.f ((rd_T37 t202 0).f0) ((rd_T37 t202 0).f1) ((rd_T37 t202 0).f2) ((rd_T37 t202 0).f3) ((rd_T37 t202 0).f4) ((rd_T37 t202 0).f5)).bind fun t208 => (if t208 = 5 then ((split_Errs.f ((rd_T37 t202 0).f0) ((rd_T37 t202 0).f1) ((rd_T37 t202 0).f2) ((rd_T37 t202 0).f3) ((rd_T37 t202 0).f4) ((rd_T37 t202 0).f5)).bind fun t210 => (bilgelaw28_WireFaults.j2 kj20 t182 (Int.tmod (wrap64 (a2_0)) (t176.length : Int)) (!t210) a1_0 a1_1 a1_2 a1_3)) else (bilgelaw28_WireFaults.j2 kj20 t182 (Int.tmod (wrap64 (a2_0)) (t176.length : Int)) true a1_0 a1_1 a1_2 a1_3))) else (none)) else (bilgelaw28_WireFaults.j2 kj20 t182 (Int.tmod (wrap64 (a2_0)) (t176.length : Int)) true a1_0 a1_1 a1_2 a1_3)) else (bilgelaw28_WireFaults.j2 kj20 t182 (Int.tmod (wrap64 (a2_0)) (t176.length : Int)) true a1_0 a1_1 a1_2 a1_3))) else (none)) else (bilgelaw28_WireFaults.j2 kj20 t182 (Int.tmod (wrap64 (a2_0)) (t176.length : Int)) true a1_0 a1_1 a1_2 a1_3)) = some r := H
        have A51 := Aside0.mk A510
        clear A510
        have HC52 := Aside0.mk H
        clear H
        try go_wp2
        have n0_ := Aside0.mk (Kd.R_drew HO_7.out)
        have n1_ := Aside0.mk (Kd.R_drew HO_10.out)
        have n2_ := Aside0.mk (blk_drew BK174.out)
        have n3_ := Aside0.mk (blk_drew BK175.out)
        have n4_ := Aside0.mk (below_drew1 HB.out)
        clear HO_7
        clear HO_10
        clear BK174
        clear BK175
        clear HB
        have HO_7 := n0_
        have HO_10 := n1_
        have BK174 := n2_
        have BK175 := n3_
        have HB := n4_
        clear n0_ n1_ n2_ n3_ n4_
        refine start_ (n := 12) (S := fun w' => w'.cell? ⟨gb175, 0, none⟩ = some (.int .u16 a2_0) ∧ w'.cell? ⟨gb175, 1, none⟩ = some (.int .u16 a2_1) ∧ w'.cell? ⟨gb175, 2, none⟩ = some (.int .u16 a2_2)) (ds := []) #[nN,nN,nN,nN,nN,nN,nN,nN,nN,nN,nN,nN] (by kernel_rfl) rfl rfl ⟨(blk_cell BK175.out 0).trans rfl, (blk_cell BK175.out 1).trans rfl, (blk_cell BK175.out 2).trans rfl⟩ (fun hHeld => ?_); refine with_tabW bilgelaw28_WireFaults.tab9 bilgelaw28_WireFaults.bits9 (fun HT_ HW_ => ?_)
        generalize wc.drew = w53 at HO_7 HO_10 BK174 BK175 HB hHeld ⊢
        refine pure_ (i := 0) (N := some 78) (v := ?_) (a' := ?_) #[yY,nN,nN,nN,nN,nN,nN,nN,nN,nN,nN,nN] rfl rfl (any_of HT_.out (by kernel_rfl)) (fun _ _ _ h => h) (Or.inl ⟨by rfl, ?_⟩) ?_ ?_
        rotate_left; intro w'; go_simp; with_reducible rfl; rotate_left; simp only [Act.put, List.setIfInBounds_toArray, List.set_cons_zero, List.set_cons_succ, i64_w, i32_w]; rfl
        refine pure_ (i := 3) (N := some 81) (v := ?_) (a' := ?_) #[yY,nN,nN,yY,nN,nN,nN,nN,nN,nN,nN,nN] rfl rfl (any_of HT_.out (by kernel_rfl)) (fun _ _ _ h => h) (Or.inl ⟨by rfl, ?_⟩) ?_ ?_
        rotate_left; intro w'; go_simp; with_reducible rfl; rotate_left; simp only [Act.put, List.setIfInBounds_toArray, List.set_cons_zero, List.set_cons_succ, i64_w, i32_w]; rfl
        refine pure_ (i := 4) (N := some 82) (v := ?_) (a' := ?_) #[yY,nN,nN,yY,yY,nN,nN,nN,nN,nN,nN,nN] rfl rfl (any_of HT_.out (by kernel_rfl)) (fun _ _ _ h => h) (Or.inl ⟨by rfl, ?_⟩) ?_ ?_
        rotate_left; intro w'; go_simp; with_reducible rfl; rotate_left; simp only [Act.put, List.setIfInBounds_toArray, List.set_cons_zero, List.set_cons_succ, i64_w, i32_w]; rfl
        refine pure_ (i := 6) (N := some 84) (v := ?_) (a' := ?_) #[yY,nN,nN,yY,yY,nN,yY,nN,nN,nN,nN,nN] rfl rfl (any_of HT_.out (by kernel_rfl)) (fun _ _ _ h => h) (Or.inl ⟨by rfl, ?_⟩) ?_ ?_
        rotate_left; intro w'; go_simp; with_reducible rfl; rotate_left; simp only [Act.put, List.setIfInBounds_toArray, List.set_cons_zero, List.set_cons_succ, i64_w, i32_w]; rfl
        refine take_ (i := 1) (N := some 79) (v := ?_) (a' := ?_) #[yY,yY,nN,yY,yY,nN,yY,nN,nN,nN,nN,nN] rfl rfl (take_ofW HT_.out HW_.out (by kernel_rfl)) (fun _ _ _ h => h) (Or.inl ⟨by rfl, ?_⟩) hHeld ?_ ?_
        rotate_left; rintro w' ⟨s0, s1, s2⟩; go_simp; with_reducible rfl; rotate_left; simp only [Act.put, List.setIfInBounds_toArray, List.set_cons_zero, List.set_cons_succ, i64_w, i32_w]; rfl
        refine pure_ (i := 2) (N := some 80) (v := ?_) (a' := ?_) #[yY,yY,yY,yY,yY,nN,yY,nN,nN,nN,nN,nN] rfl rfl (any_of HT_.out (by kernel_rfl)) (fun _ _ _ h => h) (Or.inl ⟨by rfl, ?_⟩) ?_ ?_
        rotate_left; intro w'; go_simp; with_reducible rfl; rotate_left; simp only [Act.put, List.setIfInBounds_toArray, List.set_cons_zero, List.set_cons_succ, i64_w, i32_w]; rfl
        refine pure_ (i := 5) (N := some 83) (v := ?_) (a' := ?_) #[yY,yY,yY,yY,yY,yY,yY,nN,nN,nN,nN,nN] rfl rfl (any_of HT_.out (by kernel_rfl)) (fun _ _ _ h => h) (Or.inl ⟨by rfl, ?_⟩) ?_ ?_
        rotate_left; intro w'; go_simp; with_reducible rfl; rotate_left; simp only [Act.put, List.setIfInBounds_toArray, List.set_cons_zero, List.set_cons_succ, i64_w, i32_w]; rfl
        refine pure_ (i := 10) (N := some 12) (v := ?_) (a' := ?_) #[yY,yY,yY,yY,yY,yY,yY,nN,nN,nN,yY,nN] rfl rfl (any_of HT_.out (by kernel_rfl)) (fun _ _ _ h => h) (Or.inl ⟨by rfl, ?_⟩) ?_ ?_
        rotate_left; intro w'; go_simp; with_reducible rfl; rotate_left; simp only [Act.put, List.setIfInBounds_toArray, List.set_cons_zero, List.set_cons_succ, i64_w, i32_w]; rfl
        refine take_ (i := 7) (N := some 85) (v := ?_) (a' := ?_) #[yY,yY,yY,yY,yY,yY,yY,yY,nN,nN,yY,nN] rfl rfl (take_ofW HT_.out HW_.out (by kernel_rfl)) (fun _ _ _ h => h) (Or.inl ⟨by rfl, ?_⟩) hHeld ?_ ?_
        rotate_left; rintro w' ⟨s0, s1, s2⟩; go_simp; with_reducible rfl; rotate_left; simp only [Act.put, List.setIfInBounds_toArray, List.set_cons_zero, List.set_cons_succ, i64_w, i32_w]; rfl
        refine pure_ (i := 8) (N := some 86) (v := ?_) (a' := ?_) #[yY,yY,yY,yY,yY,yY,yY,yY,yY,nN,yY,nN] rfl rfl (any_of HT_.out (by kernel_rfl)) (fun _ _ _ h => h) (Or.inl ⟨by rfl, ?_⟩) ?_ ?_
        rotate_left; intro w'; go_simp; with_reducible rfl; rotate_left; simp only [Act.put, List.setIfInBounds_toArray, List.set_cons_zero, List.set_cons_succ, i64_w, i32_w]; rfl
        refine pure_ (i := 9) (N := some 87) (v := ?_) (a' := ?_) #[yY,yY,yY,yY,yY,yY,yY,yY,yY,yY,yY,nN] rfl rfl (any_of HT_.out (by kernel_rfl)) (fun _ _ _ h => h) (Or.inl ⟨by rfl, ?_⟩) ?_ ?_
        rotate_left; intro w'; go_simp; with_reducible rfl; rotate_left; simp only [Act.put, List.setIfInBounds_toArray, List.set_cons_zero, List.set_cons_succ, i64_w, i32_w]; rfl
        refine pure_ (i := 11) (N := some 13) (v := ?_) (a' := ?_) #[yY,yY,yY,yY,yY,yY,yY,yY,yY,yY,yY,yY] rfl rfl (any_of HT_.out (by kernel_rfl)) (fun _ _ _ h => h) (Or.inl ⟨by rfl, ?_⟩) ?_ ?_
        rotate_left; intro w'; go_simp; with_reducible rfl; rotate_left; simp only [Act.put, List.setIfInBounds_toArray, List.set_cons_zero, List.set_cons_succ, i64_w, i32_w]; rfl
        refine done_ (done_of HT_.out (by kernel_rfl)) ?_
        try go_wp2
        have n0_ := Aside0.mk (Kd.R_drew HO_7.out)
        have n1_ := Aside0.mk (Kd.R_drew HO_10.out)
        have n2_ := Aside0.mk (blk_drew BK174.out)
        have n3_ := Aside0.mk (blk_drew BK175.out)
        have n4_ := Aside0.mk (below_drew1 HB.out)
        clear HO_7
        clear HO_10
        clear BK174
        clear BK175
        clear HB
        have HO_7 := n0_
        have HO_10 := n1_
        have BK174 := n2_
        have BK175 := n3_
        have HB := n4_
        clear n0_ n1_ n2_ n3_ n4_
        refine start_ (n := 6) (S := fun w' => w'.cell? ⟨gb174, 0, none⟩ = some (.int .i64 a1_0) ∧ w'.cell? ⟨gb174, 1, none⟩ = some (.int .i64 a1_1) ∧ w'.cell? ⟨gb174, 2, none⟩ = some (.int .i64 a1_2) ∧ w'.cell? ⟨gb174, 3, none⟩ = some (.int .i64 a1_3)) (ds := []) #[false, false, false, false, false, false] (by kernel_rfl) rfl rfl ⟨(blk_cell BK174.out 0).trans rfl, (blk_cell BK174.out 1).trans rfl, (blk_cell BK174.out 2).trans rfl, (blk_cell BK174.out 3).trans rfl⟩ (fun hHeld => ?_)
        generalize w53.drew = w54 at HO_7 HO_10 BK174 BK175 HB hHeld ⊢
        refine pure_ (i := 0) (N := some 88) (v := ?_) (a' := ?_) #[true, false, false, false, false, false] rfl rfl (by kernel_rfl) (fun _ _ _ h => h) (Or.inl ⟨by rfl, ?_⟩) ?_ ?_
        rotate_left; intro w'; go_simp; with_reducible rfl; rotate_left; simp only [Act.put, List.setIfInBounds_toArray, List.set_cons_zero, List.set_cons_succ, i64_w, i32_w]; rfl
        refine pure_ (i := 1) (N := some 89) (v := ?_) (a' := ?_) #[true, true, false, false, false, false] rfl rfl (by kernel_rfl) (fun _ _ _ h => h) (Or.inl ⟨by rfl, ?_⟩) ?_ ?_
        rotate_left; intro w'; go_simp; with_reducible rfl; rotate_left; simp only [Act.put, List.setIfInBounds_toArray, List.set_cons_zero, List.set_cons_succ, i64_w, i32_w]; rfl
        refine take_ (i := 3) (N := some 91) (v := ?_) (a' := ?_) #[true, true, false, true, false, false] rfl rfl (by kernel_rfl) (fun _ _ _ h => h) (Or.inl ⟨by rfl, ?_⟩) hHeld ?_ ?_
        rotate_left; rintro w' ⟨s0, s1, s2, s3⟩; go_simp; with_reducible rfl; rotate_left; simp only [Act.put, List.setIfInBounds_toArray, List.set_cons_zero, List.set_cons_succ, i64_w, i32_w]; rfl
        refine one_ (i := 2) (N := some 90) #[true, true, true, true, false, false] rfl rfl (by kernel_rfl) (by decide) (fun K hK => ?_)
        refine goes_ Try.func14 (by kernel_rfl) rfl #[.slice Ao27 t182.length co27, .int .i64 (Int.tmod (wrap64 (a2_0)) (t176.length : Int))] (by rfl) rfl rfl (by (try simp only [List.map_toArray, List.map_cons, List.map_nil]); first | done | rfl | (simp only [List.length_drop, List.length_take]; rfl)) ?_
        with_reducible refine (wire_Spoil.calls _ _ t182 (Int.tmod (wrap64 (a2_0)) (t176.length : Int)) t193 _ ?side1 ?side2 A48.out).mono ?_
        (case side1 => repeat (first | exact (Kd.R_reads' HO_10.out).2.2 | (with_reducible refine Kd.C_alloc ?_ _) | (with_reducible refine Kd.C_drewN ?_ _) | (with_reducible refine Kd.C_drew ?_)))
        (case side2 => exact (Kd.R_reads' HO_10.out).2.1)
        rintro e w55 ⟨v194, rfl, ho0, hb⟩
        refine ⟨_, rfl, ?_⟩
        have n0_ := Aside0.mk (Kd.R_below (by (with_reducible repeat (first | apply Kd.R_alloc | apply Kd.R_drewN | apply Kd.R_drew)); exact HO_7.out) hb)
        have n1_ := Aside0.mk (Kd.R_elder' (by (with_reducible repeat (first | apply Kd.R_alloc | apply Kd.R_drewN | apply Kd.R_drew)); exact HO_10.out) (Kd.R_base ho0) hb)
        have n2_ := Aside0.mk (Kd.R_lower (Kd.R_new' ho0 (Kd.R_lt (by (with_reducible repeat (first | apply Kd.R_alloc | apply Kd.R_drewN | apply Kd.R_drew)); exact HO_10.out))) (below_size (by repeat (first | (with_reducible first | exact HB.out | apply below_alloc | apply pw_below_drewN | apply below_drew1 | refine below_set ?_ GE174.out | refine below_set ?_ GE175.out) | exact HB.out))))
        have n3_ := Aside0.mk (blk_below (g := gb174) (o := .cells #[.int .i64 a1_0, .int .i64 a1_1, .int .i64 a1_2, .int .i64 a1_3] 24 (0, 0)) (by (with_reducible repeat (first | refine blk_drewN ?_ _ | refine blk_drew ?_ | refine blk_alloc ?_ _)); exact BK174.out) hb)
        have n4_ := Aside0.mk (blk_below (g := gb175) (o := .cells #[.int .u16 a2_0, .int .u16 a2_1, .int .u16 a2_2] 41 (0, 0)) (by (with_reducible repeat (first | refine blk_drewN ?_ _ | refine blk_drew ?_ | refine blk_alloc ?_ _)); exact BK175.out) hb)
        have n5_ := Aside0.mk (below_step (by repeat (first | (with_reducible first | exact HB.out | apply below_alloc | apply pw_below_drewN | apply below_drew1 | refine below_set ?_ GE174.out | refine below_set ?_ GE175.out) | exact HB.out)) hb)
        clear HO_7
        clear HO_10
        clear BK174
        clear BK175
        clear HB
        have HO_7 := n0_
        have HO_10 := n1_
        have HO195 := n2_
        have BK174 := n3_
        have BK175 := n4_
        have HB := n5_
        clear n0_ n1_ n2_ n3_ n4_ n5_
        (try clear hb)
        (try clear hb2)
        (try clear hk)
        (try clear hi)
        (try clear ho0)
        obtain ⟨Ao56, co56, eo56⟩ := Kd.R_slice HO195.out
        (first | subst eo56 | (injection eo56 with f1_ f2_ f3_; have f4_ := f1_.symm; have f5_ := f3_.symm; clear f1_ f2_ f3_; subst f4_; subst f5_))
        refine hK.out _ _ ⟨(blk_cell BK174.out 0).trans rfl, (blk_cell BK174.out 1).trans rfl, (blk_cell BK174.out 2).trans rfl, (blk_cell BK174.out 3).trans rfl⟩ (fun hHeld => ?_)
        clear hK K
        refine norm_ (a' := ?_) ?_ ?_
        rotate_left
        ·
         show Act.put _ (some 90) _ = _
         simp only [Act.put, List.setIfInBounds_toArray, List.set_cons_zero, List.set_cons_succ, i64_w, i32_w]
         rfl
        refine one_ (i := 4) (N := some 92) #[true, true, true, true, true, false] rfl rfl (by kernel_rfl) (by decide) (fun K hK => ?_)
        refine goes_ Try.func10 (by kernel_rfl) rfl #[.slice Ao56 t193.length co56, .agg #[.int .i64 a1_0, .int .i64 a1_1, .int .i64 a1_2, .int .i64 a1_3], .int .i64 0] (by rfl) rfl rfl (by (try simp only [List.map_toArray, List.map_cons, List.map_nil]); first | done | rfl | (simp only [List.length_drop, List.length_take]; rfl)) ?_
        with_reducible refine (split_All.calls _ _ t193 a1_0 a1_1 a1_2 a1_3 0 t196 _ ?side1 ?side2 A49.out).mono ?_
        (case side1 => repeat (first | exact (Kd.R_reads' HO195.out).2.2 | (with_reducible refine Kd.C_alloc ?_ _) | (with_reducible refine Kd.C_drewN ?_ _) | (with_reducible refine Kd.C_drew ?_)))
        (case side2 => exact (Kd.R_reads' HO195.out).2.1)
        rintro e w57 ⟨v197, rfl, ho0, hb⟩
        refine ⟨_, rfl, ?_⟩
        have n0_ := Aside0.mk (Kd.R_below (by (with_reducible repeat (first | apply Kd.R_alloc | apply Kd.R_drewN | apply Kd.R_drew)); exact HO_7.out) hb)
        have n1_ := Aside0.mk (Kd.R_below (by (with_reducible repeat (first | apply Kd.R_alloc | apply Kd.R_drewN | apply Kd.R_drew)); exact HO_10.out) hb)
        have n2_ := Aside0.mk (Kd.R_below (by (with_reducible repeat (first | apply Kd.R_alloc | apply Kd.R_drewN | apply Kd.R_drew)); exact HO195.out) hb)
        have n3_ := Aside0.mk (Kd.S_lower (Kd.S_new' ho0 (Kd.R_lt (by (with_reducible repeat (first | apply Kd.R_alloc | apply Kd.R_drewN | apply Kd.R_drew)); exact HO_7.out))) (below_size (by repeat (first | (with_reducible first | exact HB.out | apply below_alloc | apply pw_below_drewN | apply below_drew1 | refine below_set ?_ GE174.out | refine below_set ?_ GE175.out) | exact HB.out))))
        have n4_ := Aside0.mk (blk_below (g := gb174) (o := .cells #[.int .i64 a1_0, .int .i64 a1_1, .int .i64 a1_2, .int .i64 a1_3] 24 (0, 0)) (by (with_reducible repeat (first | refine blk_drewN ?_ _ | refine blk_drew ?_ | refine blk_alloc ?_ _)); exact BK174.out) hb)
        have n5_ := Aside0.mk (blk_below (g := gb175) (o := .cells #[.int .u16 a2_0, .int .u16 a2_1, .int .u16 a2_2] 41 (0, 0)) (by (with_reducible repeat (first | refine blk_drewN ?_ _ | refine blk_drew ?_ | refine blk_alloc ?_ _)); exact BK175.out) hb)
        have n6_ := Aside0.mk (below_step (by repeat (first | (with_reducible first | exact HB.out | apply below_alloc | apply pw_below_drewN | apply below_drew1 | refine below_set ?_ GE174.out | refine below_set ?_ GE175.out) | exact HB.out)) hb)
        clear HO_7
        clear HO_10
        clear HO195
        clear BK174
        clear BK175
        clear HB
        have HO_7 := n0_
        have HO_10 := n1_
        have HO195 := n2_
        have HO198 := n3_
        have BK174 := n4_
        have BK175 := n5_
        have HB := n6_
        clear n0_ n1_ n2_ n3_ n4_ n5_ n6_
        (try clear hb)
        (try clear hb2)
        (try clear hk)
        (try clear hi)
        (try clear ho0)
        refine hK.out _ _ ⟨(blk_cell BK174.out 0).trans rfl, (blk_cell BK174.out 1).trans rfl, (blk_cell BK174.out 2).trans rfl, (blk_cell BK174.out 3).trans rfl⟩ (fun hHeld => ?_)
        clear hK K
        refine norm_ (a' := ?_) ?_ ?_
        rotate_left
        ·
         show Act.put _ (some 92) _ = _
         simp only [Act.put, List.setIfInBounds_toArray, List.set_cons_zero, List.set_cons_succ, i64_w, i32_w]
         rfl
        refine pure_ (i := 5) (N := some 14) (v := ?_) (a' := ?_) #[true, true, true, true, true, true] rfl rfl (by kernel_rfl) (fun _ _ _ h => h) (Or.inl ⟨by rfl, ?_⟩) ?_ ?_
        rotate_left; intro w'; go_simp; with_reducible rfl; rotate_left; simp only [Act.put, List.setIfInBounds_toArray, List.set_cons_zero, List.set_cons_succ, i64_w, i32_w]; rfl
        refine done_ (by kernel_rfl) ?_
        try go_wp2
        have n0_ := Aside0.mk (Kd.R_drew HO_7.out)
        have n1_ := Aside0.mk (Kd.R_drew HO_10.out)
        have n2_ := Aside0.mk (Kd.R_drew HO195.out)
        have n3_ := Aside0.mk (Kd.S_drew HO198.out)
        have n4_ := Aside0.mk (blk_drew BK174.out)
        have n5_ := Aside0.mk (blk_drew BK175.out)
        have n6_ := Aside0.mk (below_drew1 HB.out)
        clear HO_7
        clear HO_10
        clear HO195
        clear HO198
        clear BK174
        clear BK175
        clear HB
        have HO_7 := n0_
        have HO_10 := n1_
        have HO195 := n2_
        have HO198 := n3_
        have BK174 := n4_
        have BK175 := n5_
        have HB := n6_
        clear n0_ n1_ n2_ n3_ n4_ n5_ n6_
        refine start_ (n := 7) (S := fun w' => w'.cell? ⟨gb174, 0, none⟩ = some (.int .i64 a1_0) ∧ w'.cell? ⟨gb174, 1, none⟩ = some (.int .i64 a1_1) ∧ w'.cell? ⟨gb174, 2, none⟩ = some (.int .i64 a1_2) ∧ w'.cell? ⟨gb174, 3, none⟩ = some (.int .i64 a1_3)) (ds := []) #[false, false, false, false, false, false, false] (by kernel_rfl) rfl rfl ⟨(blk_cell BK174.out 0).trans rfl, (blk_cell BK174.out 1).trans rfl, (blk_cell BK174.out 2).trans rfl, (blk_cell BK174.out 3).trans rfl⟩ (fun hHeld => ?_)
        generalize w57.drew = w58 at HO_7 HO_10 HO195 HO198 BK174 BK175 HB hHeld ⊢
        refine pure_ (i := 0) (N := some 93) (v := ?_) (a' := ?_) #[true, false, false, false, false, false, false] rfl rfl (by kernel_rfl) (fun _ _ _ h => h) (Or.inl ⟨by rfl, ?_⟩) ?_ ?_
        rotate_left; intro w'; go_simp; with_reducible rfl; rotate_left; simp only [Act.put, List.setIfInBounds_toArray, List.set_cons_zero, List.set_cons_succ, i64_w, i32_w]; rfl
        refine pure_ (i := 1) (N := some 94) (v := ?_) (a' := ?_) #[true, true, false, false, false, false, false] rfl rfl (by kernel_rfl) (fun _ _ _ h => h) (Or.inl ⟨by rfl, ?_⟩) ?_ ?_
        rotate_left; intro w'; go_simp; with_reducible rfl; rotate_left; simp only [Act.put, List.setIfInBounds_toArray, List.set_cons_zero, List.set_cons_succ, i64_w, i32_w]; rfl
        refine pure_ (i := 2) (N := some 95) (v := ?_) (a' := ?_) #[true, true, true, false, false, false, false] rfl rfl (by kernel_rfl) (fun _ _ _ h => h) (Or.inl ⟨by rfl, ?_⟩) ?_ ?_
        rotate_left; intro w'; go_simp; with_reducible rfl; rotate_left; simp only [Act.put, List.setIfInBounds_toArray, List.set_cons_zero, List.set_cons_succ, i64_w, i32_w]; rfl
        refine take_ (i := 4) (N := some 97) (v := ?_) (a' := ?_) #[true, true, true, false, true, false, false] rfl rfl (by kernel_rfl) (fun _ _ _ h => h) (Or.inl ⟨by rfl, ?_⟩) hHeld ?_ ?_
        rotate_left; rintro w' ⟨s0, s1, s2, s3⟩; go_simp; with_reducible rfl; rotate_left; simp only [Act.put, List.setIfInBounds_toArray, List.set_cons_zero, List.set_cons_succ, i64_w, i32_w]; rfl
        refine one_ (i := 3) (N := some 96) #[true, true, true, true, true, false, false] rfl rfl (by kernel_rfl) (by decide) (fun K hK => ?_)
        refine goes_ Try.func15 (by kernel_rfl) rfl #[.slice Ao27 t182.length co27, .int .i64 (Int.tmod (wrap64 (a2_0)) (t176.length : Int)), .int .i64 (Int.tmod (wrap64 (a2_1)) 8)] (by rfl) rfl rfl (by (try simp only [List.map_toArray, List.map_cons, List.map_nil]); first | done | rfl | (simp only [List.length_drop, List.length_take]; rfl)) ?_
        with_reducible refine (wire_Flip.calls _ _ t182 (Int.tmod (wrap64 (a2_0)) (t176.length : Int)) (Int.tmod (wrap64 (a2_1)) 8) t199 _ ?side1 ?side2 A50.out).mono ?_
        (case side1 => repeat (first | exact (Kd.R_reads' HO_10.out).2.2 | (with_reducible refine Kd.C_alloc ?_ _) | (with_reducible refine Kd.C_drewN ?_ _) | (with_reducible refine Kd.C_drew ?_)))
        (case side2 => exact (Kd.R_reads' HO_10.out).2.1)
        rintro e w59 ⟨v200, rfl, ho0, hb⟩
        refine ⟨_, rfl, ?_⟩
        have n0_ := Aside0.mk (Kd.R_below (by (with_reducible repeat (first | apply Kd.R_alloc | apply Kd.R_drewN | apply Kd.R_drew)); exact HO_7.out) hb)
        have n1_ := Aside0.mk (Kd.R_elder' (by (with_reducible repeat (first | apply Kd.R_alloc | apply Kd.R_drewN | apply Kd.R_drew)); exact HO_10.out) (Kd.R_base ho0) hb)
        have n2_ := Aside0.mk (Kd.R_elder' (by (with_reducible repeat (first | apply Kd.R_alloc | apply Kd.R_drewN | apply Kd.R_drew)); exact HO195.out) (Kd.R_base ho0) hb)
        have n3_ := Aside0.mk (Kd.S_below (by (with_reducible repeat (first | apply Kd.S_alloc | apply Kd.S_drewN | apply Kd.S_drew)); exact HO198.out) hb)
        have n4_ := Aside0.mk (Kd.R_lower (Kd.R_new' (Kd.R_new' ho0 (Kd.R_lt (by (with_reducible repeat (first | apply Kd.R_alloc | apply Kd.R_drewN | apply Kd.R_drew)); exact HO_10.out))) (Kd.R_lt (by (with_reducible repeat (first | apply Kd.R_alloc | apply Kd.R_drewN | apply Kd.R_drew)); exact HO195.out))) (below_size (by repeat (first | (with_reducible first | exact HB.out | apply below_alloc | apply pw_below_drewN | apply below_drew1 | refine below_set ?_ GE174.out | refine below_set ?_ GE175.out) | exact HB.out))))
        have n5_ := Aside0.mk (blk_below (g := gb174) (o := .cells #[.int .i64 a1_0, .int .i64 a1_1, .int .i64 a1_2, .int .i64 a1_3] 24 (0, 0)) (by (with_reducible repeat (first | refine blk_drewN ?_ _ | refine blk_drew ?_ | refine blk_alloc ?_ _)); exact BK174.out) hb)
        have n6_ := Aside0.mk (blk_below (g := gb175) (o := .cells #[.int .u16 a2_0, .int .u16 a2_1, .int .u16 a2_2] 41 (0, 0)) (by (with_reducible repeat (first | refine blk_drewN ?_ _ | refine blk_drew ?_ | refine blk_alloc ?_ _)); exact BK175.out) hb)
        have n7_ := Aside0.mk (below_step (by repeat (first | (with_reducible first | exact HB.out | apply below_alloc | apply pw_below_drewN | apply below_drew1 | refine below_set ?_ GE174.out | refine below_set ?_ GE175.out) | exact HB.out)) hb)
        clear HO_7
        clear HO_10
        clear HO195
        clear HO198
        clear BK174
        clear BK175
        clear HB
        have HO_7 := n0_
        have HO_10 := n1_
        have HO195 := n2_
        have HO198 := n3_
        have HO201 := n4_
        have BK174 := n5_
        have BK175 := n6_
        have HB := n7_
        clear n0_ n1_ n2_ n3_ n4_ n5_ n6_ n7_
        (try clear hb)
        (try clear hb2)
        (try clear hk)
        (try clear hi)
        (try clear ho0)
        obtain ⟨Ao60, co60, eo60⟩ := Kd.R_slice HO201.out
        (first | subst eo60 | (injection eo60 with f1_ f2_ f3_; have f4_ := f1_.symm; have f5_ := f3_.symm; clear f1_ f2_ f3_; subst f4_; subst f5_))
        refine hK.out _ _ ⟨(blk_cell BK174.out 0).trans rfl, (blk_cell BK174.out 1).trans rfl, (blk_cell BK174.out 2).trans rfl, (blk_cell BK174.out 3).trans rfl⟩ (fun hHeld => ?_)
        clear hK K
        refine norm_ (a' := ?_) ?_ ?_
        rotate_left
        ·
         show Act.put _ (some 96) _ = _
         simp only [Act.put, List.setIfInBounds_toArray, List.set_cons_zero, List.set_cons_succ, i64_w, i32_w]
         rfl
        refine one_ (i := 5) (N := some 98) #[true, true, true, true, true, true, false] rfl rfl (by kernel_rfl) (by decide) (fun K hK => ?_)
        refine goes_ Try.func10 (by kernel_rfl) rfl #[.slice Ao60 t199.length co60, .agg #[.int .i64 a1_0, .int .i64 a1_1, .int .i64 a1_2, .int .i64 a1_3], .int .i64 0] (by rfl) rfl rfl (by (try simp only [List.map_toArray, List.map_cons, List.map_nil]); first | done | rfl | (simp only [List.length_drop, List.length_take]; rfl)) ?_
        with_reducible refine (split_All.calls _ _ t199 a1_0 a1_1 a1_2 a1_3 0 t202 _ ?side1 ?side2 A51.out).mono ?_
        (case side1 => repeat (first | exact (Kd.R_reads' HO201.out).2.2 | (with_reducible refine Kd.C_alloc ?_ _) | (with_reducible refine Kd.C_drewN ?_ _) | (with_reducible refine Kd.C_drew ?_)))
        (case side2 => exact (Kd.R_reads' HO201.out).2.1)
        rintro e w61 ⟨v203, rfl, ho0, hb⟩
        refine ⟨_, rfl, ?_⟩
        have n0_ := Aside0.mk (Kd.R_below (by (with_reducible repeat (first | apply Kd.R_alloc | apply Kd.R_drewN | apply Kd.R_drew)); exact HO_7.out) hb)
        have n1_ := Aside0.mk (Kd.R_below (by (with_reducible repeat (first | apply Kd.R_alloc | apply Kd.R_drewN | apply Kd.R_drew)); exact HO_10.out) hb)
        have n2_ := Aside0.mk (Kd.R_below (by (with_reducible repeat (first | apply Kd.R_alloc | apply Kd.R_drewN | apply Kd.R_drew)); exact HO195.out) hb)
        have n3_ := Aside0.mk (Kd.S_elder' (by (with_reducible repeat (first | apply Kd.S_alloc | apply Kd.S_drewN | apply Kd.S_drew)); exact HO198.out) (Kd.S_base ho0) hb)
        have n4_ := Aside0.mk (Kd.R_below (by (with_reducible repeat (first | apply Kd.R_alloc | apply Kd.R_drewN | apply Kd.R_drew)); exact HO201.out) hb)
        have n5_ := Aside0.mk (Kd.S_lower (Kd.S_new' (Kd.S_new' ho0 (Kd.R_lt (by (with_reducible repeat (first | apply Kd.R_alloc | apply Kd.R_drewN | apply Kd.R_drew)); exact HO_7.out))) (Kd.S_lt (by (with_reducible repeat (first | apply Kd.S_alloc | apply Kd.S_drewN | apply Kd.S_drew)); exact HO198.out))) (below_size (by repeat (first | (with_reducible first | exact HB.out | apply below_alloc | apply pw_below_drewN | apply below_drew1 | refine below_set ?_ GE174.out | refine below_set ?_ GE175.out) | exact HB.out))))
        have n6_ := Aside0.mk (blk_below (g := gb174) (o := .cells #[.int .i64 a1_0, .int .i64 a1_1, .int .i64 a1_2, .int .i64 a1_3] 24 (0, 0)) (by (with_reducible repeat (first | refine blk_drewN ?_ _ | refine blk_drew ?_ | refine blk_alloc ?_ _)); exact BK174.out) hb)
        have n7_ := Aside0.mk (blk_below (g := gb175) (o := .cells #[.int .u16 a2_0, .int .u16 a2_1, .int .u16 a2_2] 41 (0, 0)) (by (with_reducible repeat (first | refine blk_drewN ?_ _ | refine blk_drew ?_ | refine blk_alloc ?_ _)); exact BK175.out) hb)
        have n8_ := Aside0.mk (below_step (by repeat (first | (with_reducible first | exact HB.out | apply below_alloc | apply pw_below_drewN | apply below_drew1 | refine below_set ?_ GE174.out | refine below_set ?_ GE175.out) | exact HB.out)) hb)
        clear HO_7
        clear HO_10
        clear HO195
        clear HO198
        clear HO201
        clear BK174
        clear BK175
        clear HB
        have HO_7 := n0_
        have HO_10 := n1_
        have HO195 := n2_
        have HO198 := n3_
        have HO201 := n4_
        have HO204 := n5_
        have BK174 := n6_
        have BK175 := n7_
        have HB := n8_
        clear n0_ n1_ n2_ n3_ n4_ n5_ n6_ n7_ n8_
        (try clear hb)
        (try clear hb2)
        (try clear hk)
        (try clear hi)
        (try clear ho0)
        refine hK.out _ _ ⟨(blk_cell BK174.out 0).trans rfl, (blk_cell BK174.out 1).trans rfl, (blk_cell BK174.out 2).trans rfl, (blk_cell BK174.out 3).trans rfl⟩ (fun hHeld => ?_)
        clear hK K
        refine norm_ (a' := ?_) ?_ ?_
        rotate_left
        ·
         show Act.put _ (some 98) _ = _
         simp only [Act.put, List.setIfInBounds_toArray, List.set_cons_zero, List.set_cons_succ, i64_w, i32_w]
         rfl
        refine pure_ (i := 6) (N := some 15) (v := ?_) (a' := ?_) #[true, true, true, true, true, true, true] rfl rfl (by kernel_rfl) (fun _ _ _ h => h) (Or.inl ⟨by rfl, ?_⟩) ?_ ?_
        rotate_left; intro w'; go_simp; with_reducible rfl; rotate_left; simp only [Act.put, List.setIfInBounds_toArray, List.set_cons_zero, List.set_cons_succ, i64_w, i32_w]; rfl
        refine done_ (by kernel_rfl) ?_
        go_upto_region 12 with (fail)
        go_cut [127] (fun v127 wc => ∃ (kq : Nat) (x127_51 : Bool), v127 = .bool x127_51 ∧ Aside0 (bilgelaw28_WireFaults.j2 kq t182 (Int.tmod (wrap64 (a2_0)) (t176.length : Int)) x127_51 a1_0 a1_1 a1_2 a1_3 = some r) ∧ Aside0 (kq ≤ kj20) ∧ Aside0 (Kd.R k52 52 wc w.heap.size (fun _ => True) (.slice Ao27 t182.length co27) t182) ∧ Aside0 (wc.heap[gb174]? = some (.cells #[.int .i64 a1_0, .int .i64 a1_1, .int .i64 a1_2, .int .i64 a1_3] 24 (0, 0))) ∧ Aside0 (wc.heap[gb175]? = some (.cells #[.int .u16 a2_0, .int .u16 a2_1, .int .u16 a2_2] 41 (0, 0))) ∧ Aside0 (Below w.heap.size w wc))
        case first =>
         have H := HC52.out
         clear HC52
         by_cases c62 : (t196.length : Int) = 1
         ·
          rw [if_pos c62] at H
          have c62b0 : ((t196.length : Int) == 1) = true := beq_iff_eq.mpr c62
          have c62b1 : ((t196.length : Int) != 1) = false := bne_eq_false_iff_eq.mpr c62
          clear c62
          (first | rw [c62b0] | (simp only [i64_w, i32_w]; rw [c62b0]) | skip)
          by_cases c63 : 0 < (t196.length : Int)
          ·
           rw [if_pos c63] at H
           have c63b0 : decide (0 < (t196.length : Int)) = true := decide_eq_true c63
           have c63b1 : decide (0 < t196.length) = true := decide_eq_true (by omega)
           clear c63
           replace H := Option.bind_eq_some_iff.mp H
           obtain ⟨t206, A640, H⟩ := H
           replace H : (if t206 = 2 then (if (t202.length : Int) = 1 then (if 0 < (t202.length : Int) then ((split_Fault.f ((rd_T37 t202 0).f0) ((rd_T37 t202 0).f1) ((rd_T37 t202 0).f2) ((rd_T37 t202 0).f3) ((rd_T37 t202 0).f4) ((rd_T37 t202 0).f5)).bind fun t208 => (if t208 = 5 then ((split_Errs.f ((rd_T37 t202 0).f0) ((rd_T37 t202 0).f1) ((rd_T37 t202 0).f2) ((rd_T37 t202 0).f3) ((rd_T37 t202 0).f4) ((rd_T37 t202 0).f5)).bind fun t210 => (bilgelaw28_WireFaults.j2 kj20 t182 (Int.tmod (wrap64 (a2_0)) (t176.length : Int)) (!t210) a1_0 a1_1 a1_2 a1_3)) else (bilgelaw28_WireFaults.j2 kj20 t182 (Int.tmod (wrap64 (a2_0)) (t176.length : Int)) true a1_0 a1_1 a1_2 a1_3))) else (none)) else (bilgelaw28_WireFaults.j2 kj20 t182 (Int.tmod (wrap64 (a2_0)) (t176.length : Int)) true a1_0 a1_1 a1_2 a1_3)) else (bilgelaw28_WireFaults.j2 kj20 t182 (Int.tmod (wrap64 (a2_0)) (t176.length : Int)) true a1_0 a1_1 a1_2 a1_3)) = some r := H
           have A64 := Aside0.mk A640
           clear A640
           by_cases c65 : t206 = 2
           ·
            rw [if_pos c65] at H
            have c65b0 : (t206 == 2) = true := beq_iff_eq.mpr c65
            have c65b1 : (t206 != 2) = false := bne_eq_false_iff_eq.mpr c65
            clear c65
            by_cases c66 : (t202.length : Int) = 1
            ·
             rw [if_pos c66] at H
             have c66b0 : ((t202.length : Int) == 1) = true := beq_iff_eq.mpr c66
             have c66b1 : ((t202.length : Int) != 1) = false := bne_eq_false_iff_eq.mpr c66
             clear c66
             by_cases c67 : 0 < (t202.length : Int)
             ·
              rw [if_pos c67] at H
              have c67b0 : decide (0 < (t202.length : Int)) = true := decide_eq_true c67
              have c67b1 : decide (0 < t202.length) = true := decide_eq_true (by omega)
              clear c67
              replace H := Option.bind_eq_some_iff.mp H
              obtain ⟨t208, A680, H⟩ := H
              replace H : (if t208 = 5 then ((split_Errs.f ((rd_T37 t202 0).f0) ((rd_T37 t202 0).f1) ((rd_T37 t202 0).f2) ((rd_T37 t202 0).f3) ((rd_T37 t202 0).f4) ((rd_T37 t202 0).f5)).bind fun t210 => (bilgelaw28_WireFaults.j2 kj20 t182 (Int.tmod (wrap64 (a2_0)) (t176.length : Int)) (!t210) a1_0 a1_1 a1_2 a1_3)) else (bilgelaw28_WireFaults.j2 kj20 t182 (Int.tmod (wrap64 (a2_0)) (t176.length : Int)) true a1_0 a1_1 a1_2 a1_3)) = some r := H
              have A68 := Aside0.mk A680
              clear A680
              by_cases c69 : t208 = 5
              ·
               rw [if_pos c69] at H
               have c69b0 : (t208 == 5) = true := beq_iff_eq.mpr c69
               have c69b1 : (t208 != 5) = false := bne_eq_false_iff_eq.mpr c69
               clear c69
               replace H := Option.bind_eq_some_iff.mp H
               obtain ⟨t210, A700, H⟩ := H
               replace H : (bilgelaw28_WireFaults.j2 kj20 t182 (Int.tmod (wrap64 (a2_0)) (t176.length : Int)) (!t210) a1_0 a1_1 a1_2 a1_3) = some r := H
               have A70 := Aside0.mk A700
               clear A700
               have H' := Aside0.mk H
               clear H
               obtain ⟨Ao71, co71, eo71⟩ := Kd.S_slice HO198.out
               subst eo71
               have p205 : 0 ≤ (0 : Int) := (by omega)
               have q205 : 0 < (t196.length : Int) := of_decide_eq_true (by first | (with_reducible assumption) | assumption)
               obtain ⟨ad205, A205_0, c205_0, e205, hx205_0, hx205_1, hx205_2, hx205_3, hx205_4, hx205_5, hl205_0, hi205_0⟩ := at_T37 (Kd.S_reads' HO198.out).2.2 0 p205 q205
               cases e205
               obtain ⟨ce205, hce205, hMe205, hcc205⟩ := Kd.S_get HO198.out z37 0 p205 (by first | exact q205 | exact of_decide_eq_true (by first | (with_reducible assumption) | assumption) | (have e_ := (Kd.S_reads' HO198.out).1; omega))
               obtain ⟨ve205_0, rfl, ge205_0⟩ := k37_openM hMe205
               have hv205_0 := hcc205 0 _ rfl
               rw [Nat.add_zero] at hv205_0
               replace hv205_0 := Option.some.inj (hv205_0.symm.trans hx205_0)
               rw [hv205_0] at ge205_0
               have HL205_0 := Aside0.mk (show Kd.R (Kd.int .u8) 5 _ _ _ _ ((rd_T37 t196 0).f0) from ge205_0)
               clear hv205_0 ge205_0
               clear hcc205 hce205
               have qi205 : (0 < t196.length) = True := eq_true (by omega)
               (try simp only [show ((0 : Int)).toNat = 0 from rfl, show 0 * 6 = 0 from rfl, Addr.add_zero'] at hx205_0 hx205_1 hx205_2 hx205_3 hx205_4 hx205_5)
               have HR205_0 := Aside0.mk hi205_0
               have HC205_0 := Aside0.mk hl205_0
               clear hi205_0 hl205_0
               replace p205 := eq_true p205
               replace q205 := eq_true q205
               go_wp2_with (first | (go_at_call 11; (with_reducible refine (split_Fault.calls _ _ ((rd_T37 t196 0).f0) ((rd_T37 t196 0).f1) ((rd_T37 t196 0).f2) ((rd_T37 t196 0).f3) ((rd_T37 t196 0).f4) ((rd_T37 t196 0).f5) t206 _ ?side1 ?side2 A64.out).mono ?_); (case side1 => repeat (first | exact (by repeat (first | (with_reducible exact HR205_0.out) | (with_reducible refine Kd.C_alloc ?_ _) | (with_reducible refine Kd.C_drewN ?_ _) | (with_reducible refine Kd.C_drew ?_) | exact HR205_0.out)) | (with_reducible refine Kd.C_alloc ?_ _) | (with_reducible refine Kd.C_drewN ?_ _) | (with_reducible refine Kd.C_drew ?_))); (case side2 => exact HC205_0.out); rintro e w72 ⟨rfl, hb⟩; have n0_ := Aside0.mk (Kd.R_below (by (with_reducible repeat (first | apply Kd.R_alloc | apply Kd.R_drewN | apply Kd.R_drew)); exact HO_7.out) hb); have n1_ := Aside0.mk (Kd.R_below (by (with_reducible repeat (first | apply Kd.R_alloc | apply Kd.R_drewN | apply Kd.R_drew)); exact HO_10.out) hb); have n2_ := Aside0.mk (Kd.R_below (by (with_reducible repeat (first | apply Kd.R_alloc | apply Kd.R_drewN | apply Kd.R_drew)); exact HO195.out) hb); have n3_ := Aside0.mk (Kd.S_below (by (with_reducible repeat (first | apply Kd.S_alloc | apply Kd.S_drewN | apply Kd.S_drew)); exact HO198.out) hb); have n4_ := Aside0.mk (Kd.R_below (by (with_reducible repeat (first | apply Kd.R_alloc | apply Kd.R_drewN | apply Kd.R_drew)); exact HO201.out) hb); have n5_ := Aside0.mk (Kd.S_below (by (with_reducible repeat (first | apply Kd.S_alloc | apply Kd.S_drewN | apply Kd.S_drew)); exact HO204.out) hb); have n6_ := Aside0.mk (Kd.R_below (by (with_reducible repeat (first | apply Kd.R_alloc | apply Kd.R_drewN | apply Kd.R_drew)); exact HL205_0.out) hb); have n7_ := Aside0.mk (blk_below (g := gb174) (o := .cells #[.int .i64 a1_0, .int .i64 a1_1, .int .i64 a1_2, .int .i64 a1_3] 24 (0, 0)) (by (with_reducible repeat (first | refine blk_drewN ?_ _ | refine blk_drew ?_ | refine blk_alloc ?_ _)); exact BK174.out) hb); have n8_ := Aside0.mk (blk_below (g := gb175) (o := .cells #[.int .u16 a2_0, .int .u16 a2_1, .int .u16 a2_2] 41 (0, 0)) (by (with_reducible repeat (first | refine blk_drewN ?_ _ | refine blk_drew ?_ | refine blk_alloc ?_ _)); exact BK175.out) hb); have n9_ := Aside0.mk (Kd.C_below (by repeat (first | (with_reducible exact HR205_0.out) | (with_reducible refine Kd.C_alloc ?_ _) | (with_reducible refine Kd.C_drewN ?_ _) | (with_reducible refine Kd.C_drew ?_) | exact HR205_0.out)) hb); have n10_ := Aside0.mk (below_step (by repeat (first | (with_reducible first | exact HB.out | apply below_alloc | apply pw_below_drewN | apply below_drew1 | refine below_set ?_ GE174.out | refine below_set ?_ GE175.out) | exact HB.out)) hb); clear HO_7; clear HO_10; clear HO195; clear HO198; clear HO201; clear HO204; clear HL205_0; clear BK174; clear BK175; clear HR205_0; clear HB; have HO_7 := n0_; have HO_10 := n1_; have HO195 := n2_; have HO198 := n3_; have HO201 := n4_; have HO204 := n5_; have HL205_0 := n6_; have BK174 := n7_; have BK175 := n8_; have HR205_0 := n9_; have HB := n10_; clear n0_ n1_ n2_ n3_ n4_ n5_ n6_ n7_ n8_ n9_ n10_; (try clear hb); (try clear hb2); (try clear hk); (try clear hi); obtain ⟨Ao73, co73, eo73⟩ := Kd.S_slice HO204.out; subst eo73; have p207 : 0 ≤ (0 : Int) := (by omega); have q207 : 0 < (t202.length : Int) := of_decide_eq_true (by first | (with_reducible assumption) | assumption); obtain ⟨ad207, A207_0, c207_0, e207, hx207_0, hx207_1, hx207_2, hx207_3, hx207_4, hx207_5, hl207_0, hi207_0⟩ := at_T37 (Kd.S_reads' HO204.out).2.2 0 p207 q207; cases e207; obtain ⟨ce207, hce207, hMe207, hcc207⟩ := Kd.S_get HO204.out z37 0 p207 (by first | exact q207 | exact of_decide_eq_true (by first | (with_reducible assumption) | assumption) | (have e_ := (Kd.S_reads' HO204.out).1; omega)); obtain ⟨ve207_0, rfl, ge207_0⟩ := k37_openM hMe207; have hv207_0 := hcc207 0 _ rfl; rw [Nat.add_zero] at hv207_0; replace hv207_0 := Option.some.inj (hv207_0.symm.trans hx207_0); rw [hv207_0] at ge207_0; have HL207_0 := Aside0.mk (show Kd.R (Kd.int .u8) 5 _ _ _ _ ((rd_T37 t202 0).f0) from ge207_0); clear hv207_0 ge207_0; clear hcc207 hce207; have qi207 : (0 < t202.length) = True := eq_true (by omega); (try rw [show ((0 : Int)).toNat = 0 from rfl] at hx207_0); (try rw [show 0 * 6 = 0 from rfl] at hx207_0); (try rw [Addr.add_zero'] at hx207_0); (try rw [show ((0 : Int)).toNat = 0 from rfl] at hx207_1); (try rw [show 0 * 6 = 0 from rfl] at hx207_1); (try rw [Addr.add_zero'] at hx207_1); (try rw [show ((0 : Int)).toNat = 0 from rfl] at hx207_2); (try rw [show 0 * 6 = 0 from rfl] at hx207_2); (try rw [Addr.add_zero'] at hx207_2); (try rw [show ((0 : Int)).toNat = 0 from rfl] at hx207_3); (try rw [show 0 * 6 = 0 from rfl] at hx207_3); (try rw [Addr.add_zero'] at hx207_3); (try rw [show ((0 : Int)).toNat = 0 from rfl] at hx207_4); (try rw [show 0 * 6 = 0 from rfl] at hx207_4); (try rw [Addr.add_zero'] at hx207_4); (try rw [show ((0 : Int)).toNat = 0 from rfl] at hx207_5); (try rw [show 0 * 6 = 0 from rfl] at hx207_5); (try rw [Addr.add_zero'] at hx207_5); have HR207_0 := Aside0.mk hi207_0; have HC207_0 := Aside0.mk hl207_0; clear hi207_0 hl207_0; replace p207 := eq_true p207; replace q207 := eq_true q207) | (go_at_call 11; (with_reducible refine (split_Fault.calls _ _ ((rd_T37 t202 0).f0) ((rd_T37 t202 0).f1) ((rd_T37 t202 0).f2) ((rd_T37 t202 0).f3) ((rd_T37 t202 0).f4) ((rd_T37 t202 0).f5) t208 _ ?side1 ?side2 A68.out).mono ?_); (case side1 => repeat (first | exact (by repeat (first | (with_reducible exact HR207_0.out) | (with_reducible refine Kd.C_alloc ?_ _) | (with_reducible refine Kd.C_drewN ?_ _) | (with_reducible refine Kd.C_drew ?_) | exact HR207_0.out)) | (with_reducible refine Kd.C_alloc ?_ _) | (with_reducible refine Kd.C_drewN ?_ _) | (with_reducible refine Kd.C_drew ?_))); (case side2 => exact HC207_0.out); rintro e w74 ⟨rfl, hb⟩; have n0_ := Aside0.mk (Kd.R_below (by (with_reducible repeat (first | apply Kd.R_alloc | apply Kd.R_drewN | apply Kd.R_drew)); exact HO_7.out) hb); have n1_ := Aside0.mk (Kd.R_below (by (with_reducible repeat (first | apply Kd.R_alloc | apply Kd.R_drewN | apply Kd.R_drew)); exact HO_10.out) hb); have n2_ := Aside0.mk (Kd.R_below (by (with_reducible repeat (first | apply Kd.R_alloc | apply Kd.R_drewN | apply Kd.R_drew)); exact HO195.out) hb); have n3_ := Aside0.mk (Kd.S_below (by (with_reducible repeat (first | apply Kd.S_alloc | apply Kd.S_drewN | apply Kd.S_drew)); exact HO198.out) hb); have n4_ := Aside0.mk (Kd.R_below (by (with_reducible repeat (first | apply Kd.R_alloc | apply Kd.R_drewN | apply Kd.R_drew)); exact HO201.out) hb); have n5_ := Aside0.mk (Kd.S_below (by (with_reducible repeat (first | apply Kd.S_alloc | apply Kd.S_drewN | apply Kd.S_drew)); exact HO204.out) hb); have n6_ := Aside0.mk (Kd.R_below (by (with_reducible repeat (first | apply Kd.R_alloc | apply Kd.R_drewN | apply Kd.R_drew)); exact HL205_0.out) hb); have n7_ := Aside0.mk (Kd.R_below (by (with_reducible repeat (first | apply Kd.R_alloc | apply Kd.R_drewN | apply Kd.R_drew)); exact HL207_0.out) hb); have n8_ := Aside0.mk (blk_below (g := gb174) (o := .cells #[.int .i64 a1_0, .int .i64 a1_1, .int .i64 a1_2, .int .i64 a1_3] 24 (0, 0)) (by (with_reducible repeat (first | refine blk_drewN ?_ _ | refine blk_drew ?_ | refine blk_alloc ?_ _)); exact BK174.out) hb); have n9_ := Aside0.mk (blk_below (g := gb175) (o := .cells #[.int .u16 a2_0, .int .u16 a2_1, .int .u16 a2_2] 41 (0, 0)) (by (with_reducible repeat (first | refine blk_drewN ?_ _ | refine blk_drew ?_ | refine blk_alloc ?_ _)); exact BK175.out) hb); have n10_ := Aside0.mk (Kd.C_below (by repeat (first | (with_reducible exact HR205_0.out) | (with_reducible refine Kd.C_alloc ?_ _) | (with_reducible refine Kd.C_drewN ?_ _) | (with_reducible refine Kd.C_drew ?_) | exact HR205_0.out)) hb); have n11_ := Aside0.mk (Kd.C_below (by repeat (first | (with_reducible exact HR207_0.out) | (with_reducible refine Kd.C_alloc ?_ _) | (with_reducible refine Kd.C_drewN ?_ _) | (with_reducible refine Kd.C_drew ?_) | exact HR207_0.out)) hb); have n12_ := Aside0.mk (below_step (by repeat (first | (with_reducible first | exact HB.out | apply below_alloc | apply pw_below_drewN | apply below_drew1 | refine below_set ?_ GE174.out | refine below_set ?_ GE175.out) | exact HB.out)) hb); clear HO_7; clear HO_10; clear HO195; clear HO198; clear HO201; clear HO204; clear HL205_0; clear HL207_0; clear BK174; clear BK175; clear HR205_0; clear HR207_0; clear HB; have HO_7 := n0_; have HO_10 := n1_; have HO195 := n2_; have HO198 := n3_; have HO201 := n4_; have HO204 := n5_; have HL205_0 := n6_; have HL207_0 := n7_; have BK174 := n8_; have BK175 := n9_; have HR205_0 := n10_; have HR207_0 := n11_; have HB := n12_; clear n0_ n1_ n2_ n3_ n4_ n5_ n6_ n7_ n8_ n9_ n10_ n11_ n12_; (try clear hb); (try clear hb2); (try clear hk); (try clear hi); have p209 : 0 ≤ (0 : Int) := (by omega); have q209 : 0 < (t202.length : Int) := of_decide_eq_true (by first | (with_reducible assumption) | assumption); obtain ⟨ad209, A209_0, c209_0, e209, hx209_0, hx209_1, hx209_2, hx209_3, hx209_4, hx209_5, hl209_0, hi209_0⟩ := at_T37 (Kd.S_reads' HO204.out).2.2 0 p209 q209; obtain rfl : ad207 = ad209 := (by injection e209); obtain ⟨ce209, hce209, hMe209, hcc209⟩ := Kd.S_get HO204.out z37 0 p209 (by first | exact q209 | exact of_decide_eq_true (by first | (with_reducible assumption) | assumption) | (have e_ := (Kd.S_reads' HO204.out).1; omega)); obtain ⟨ve209_0, rfl, ge209_0⟩ := k37_openM hMe209; have hv209_0 := hcc209 0 _ rfl; rw [Nat.add_zero] at hv209_0; replace hv209_0 := Option.some.inj (hv209_0.symm.trans hx209_0); rw [hv209_0] at ge209_0; have HL209_0 := Aside0.mk (show Kd.R (Kd.int .u8) 5 _ _ _ _ ((rd_T37 t202 0).f0) from ge209_0); clear hv209_0 ge209_0; clear hcc209 hce209; have qi209 : (0 < t202.length) = True := eq_true (by omega); (try rw [show ((0 : Int)).toNat = 0 from rfl] at hx209_0); (try rw [show 0 * 6 = 0 from rfl] at hx209_0); (try rw [Addr.add_zero'] at hx209_0); (try rw [show ((0 : Int)).toNat = 0 from rfl] at hx209_1); (try rw [show 0 * 6 = 0 from rfl] at hx209_1); (try rw [Addr.add_zero'] at hx209_1); (try rw [show ((0 : Int)).toNat = 0 from rfl] at hx209_2); (try rw [show 0 * 6 = 0 from rfl] at hx209_2); (try rw [Addr.add_zero'] at hx209_2); (try rw [show ((0 : Int)).toNat = 0 from rfl] at hx209_3); (try rw [show 0 * 6 = 0 from rfl] at hx209_3); (try rw [Addr.add_zero'] at hx209_3); (try rw [show ((0 : Int)).toNat = 0 from rfl] at hx209_4); (try rw [show 0 * 6 = 0 from rfl] at hx209_4); (try rw [Addr.add_zero'] at hx209_4); (try rw [show ((0 : Int)).toNat = 0 from rfl] at hx209_5); (try rw [show 0 * 6 = 0 from rfl] at hx209_5); (try rw [Addr.add_zero'] at hx209_5); have HR209_0 := Aside0.mk hi209_0; have HC209_0 := Aside0.mk hl209_0; clear hi209_0 hl209_0; replace p209 := eq_true p209; replace q209 := eq_true q209) | (go_at_call 16; (with_reducible refine (split_Errs.calls _ _ ((rd_T37 t202 0).f0) ((rd_T37 t202 0).f1) ((rd_T37 t202 0).f2) ((rd_T37 t202 0).f3) ((rd_T37 t202 0).f4) ((rd_T37 t202 0).f5) t210 _ ?side1 ?side2 A70.out).mono ?_); (case side1 => repeat (first | exact (by repeat (first | (with_reducible exact HR209_0.out) | (with_reducible refine Kd.C_alloc ?_ _) | (with_reducible refine Kd.C_drewN ?_ _) | (with_reducible refine Kd.C_drew ?_) | exact HR209_0.out)) | (with_reducible refine Kd.C_alloc ?_ _) | (with_reducible refine Kd.C_drewN ?_ _) | (with_reducible refine Kd.C_drew ?_))); (case side2 => exact HC209_0.out); rintro e w75 ⟨rfl, hb⟩; have n0_ := Aside0.mk (Kd.R_below (by (with_reducible repeat (first | apply Kd.R_alloc | apply Kd.R_drewN | apply Kd.R_drew)); exact HO_7.out) hb); have n1_ := Aside0.mk (Kd.R_below (by (with_reducible repeat (first | apply Kd.R_alloc | apply Kd.R_drewN | apply Kd.R_drew)); exact HO_10.out) hb); have n2_ := Aside0.mk (Kd.R_below (by (with_reducible repeat (first | apply Kd.R_alloc | apply Kd.R_drewN | apply Kd.R_drew)); exact HO195.out) hb); have n3_ := Aside0.mk (Kd.S_below (by (with_reducible repeat (first | apply Kd.S_alloc | apply Kd.S_drewN | apply Kd.S_drew)); exact HO198.out) hb); have n4_ := Aside0.mk (Kd.R_below (by (with_reducible repeat (first | apply Kd.R_alloc | apply Kd.R_drewN | apply Kd.R_drew)); exact HO201.out) hb); have n5_ := Aside0.mk (Kd.S_below (by (with_reducible repeat (first | apply Kd.S_alloc | apply Kd.S_drewN | apply Kd.S_drew)); exact HO204.out) hb); have n6_ := Aside0.mk (Kd.R_below (by (with_reducible repeat (first | apply Kd.R_alloc | apply Kd.R_drewN | apply Kd.R_drew)); exact HL205_0.out) hb); have n7_ := Aside0.mk (Kd.R_below (by (with_reducible repeat (first | apply Kd.R_alloc | apply Kd.R_drewN | apply Kd.R_drew)); exact HL207_0.out) hb); have n8_ := Aside0.mk (Kd.R_below (by (with_reducible repeat (first | apply Kd.R_alloc | apply Kd.R_drewN | apply Kd.R_drew)); exact HL209_0.out) hb); have n9_ := Aside0.mk (blk_below (g := gb174) (o := .cells #[.int .i64 a1_0, .int .i64 a1_1, .int .i64 a1_2, .int .i64 a1_3] 24 (0, 0)) (by (with_reducible repeat (first | refine blk_drewN ?_ _ | refine blk_drew ?_ | refine blk_alloc ?_ _)); exact BK174.out) hb); have n10_ := Aside0.mk (blk_below (g := gb175) (o := .cells #[.int .u16 a2_0, .int .u16 a2_1, .int .u16 a2_2] 41 (0, 0)) (by (with_reducible repeat (first | refine blk_drewN ?_ _ | refine blk_drew ?_ | refine blk_alloc ?_ _)); exact BK175.out) hb); have n11_ := Aside0.mk (Kd.C_below (by repeat (first | (with_reducible exact HR205_0.out) | (with_reducible refine Kd.C_alloc ?_ _) | (with_reducible refine Kd.C_drewN ?_ _) | (with_reducible refine Kd.C_drew ?_) | exact HR205_0.out)) hb); have n12_ := Aside0.mk (Kd.C_below (by repeat (first | (with_reducible exact HR207_0.out) | (with_reducible refine Kd.C_alloc ?_ _) | (with_reducible refine Kd.C_drewN ?_ _) | (with_reducible refine Kd.C_drew ?_) | exact HR207_0.out)) hb); have n13_ := Aside0.mk (Kd.C_below (by repeat (first | (with_reducible exact HR209_0.out) | (with_reducible refine Kd.C_alloc ?_ _) | (with_reducible refine Kd.C_drewN ?_ _) | (with_reducible refine Kd.C_drew ?_) | exact HR209_0.out)) hb); have n14_ := Aside0.mk (below_step (by repeat (first | (with_reducible first | exact HB.out | apply below_alloc | apply pw_below_drewN | apply below_drew1 | refine below_set ?_ GE174.out | refine below_set ?_ GE175.out) | exact HB.out)) hb); clear HO_7; clear HO_10; clear HO195; clear HO198; clear HO201; clear HO204; clear HL205_0; clear HL207_0; clear HL209_0; clear BK174; clear BK175; clear HR205_0; clear HR207_0; clear HR209_0; clear HB; have HO_7 := n0_; have HO_10 := n1_; have HO195 := n2_; have HO198 := n3_; have HO201 := n4_; have HO204 := n5_; have HL205_0 := n6_; have HL207_0 := n7_; have HL209_0 := n8_; have BK174 := n9_; have BK175 := n10_; have HR205_0 := n11_; have HR207_0 := n12_; have HR209_0 := n13_; have HB := n14_; clear n0_ n1_ n2_ n3_ n4_ n5_ n6_ n7_ n8_ n9_ n10_ n11_ n12_ n13_ n14_; (try clear hb); (try clear hb2); (try clear hk); (try clear hi)))
               go_meet
               case rel => exact ⟨_, (!t210), (by first | rfl | (simp; done) | (simp [*]; done)), H', ⟨by have := HJ4.out; have := HJ20.out; first | omega | exact Nat.le_refl _⟩, ⟨by (with_reducible repeat (first | apply Kd.R_alloc | apply Kd.R_drewN | apply Kd.R_drew)); exact Kd.R_mono HO_10.out (fun _ hk => trivial)⟩, ⟨by (with_reducible repeat (first | refine blk_drewN ?_ _ | refine blk_drew ?_ | refine blk_alloc ?_ _)); exact BK174.out⟩, ⟨by (with_reducible repeat (first | refine blk_drewN ?_ _ | refine blk_drew ?_ | refine blk_alloc ?_ _)); exact BK175.out⟩, ⟨by repeat (first | (with_reducible first | exact HB.out | apply below_alloc | apply pw_below_drewN | apply below_drew1 | refine below_set ?_ GE174.out | refine below_set ?_ GE175.out) | exact HB.out)⟩⟩
              ·
               rw [if_neg c69] at H
               have c69b0 : (t208 == 5) = false := beq_eq_false_iff_ne.mpr c69
               have c69b1 : (t208 != 5) = true := bne_iff_ne.mpr c69
               exact absurd HRT.out (bilgelaw28_WireFaults.j2_t H)
             ·
              rw [if_neg c67] at H
              exact absurd H (by simp)
            ·
             rw [if_neg c66] at H
             have c66b0 : ((t202.length : Int) == 1) = false := beq_eq_false_iff_ne.mpr c66
             have c66b1 : ((t202.length : Int) != 1) = true := bne_iff_ne.mpr c66
             exact absurd HRT.out (bilgelaw28_WireFaults.j2_t H)
           ·
            rw [if_neg c65] at H
            have c65b0 : (t206 == 2) = false := beq_eq_false_iff_ne.mpr c65
            have c65b1 : (t206 != 2) = true := bne_iff_ne.mpr c65
            exact absurd HRT.out (bilgelaw28_WireFaults.j2_t H)
          ·
           rw [if_neg c63] at H
           exact absurd H (by simp)
         ·
          rw [if_neg c62] at H
          have c62b0 : ((t196.length : Int) == 1) = false := beq_eq_false_iff_ne.mpr c62
          have c62b1 : ((t196.length : Int) != 1) = true := bne_iff_ne.mpr c62
          (first | rw [c62b0] | (simp only [i64_w, i32_w]; rw [c62b0]) | skip)
          exact absurd HRT.out (bilgelaw28_WireFaults.j2_t H)
        case rest =>
         try clear c1
         try clear c2
         try clear p2
         try clear q2
         try clear hx2
         try clear qi2
         try clear c6
         try clear p6
         try clear c10
         try clear c14
         try clear c15
         try clear c20
         try clear p20
         try clear q20
         try clear hx20
         try clear qi20
         try clear c62
         try clear c62b0
         try clear c62b1
         try clear c63
         try clear c63b0
         try clear c63b1
         try clear p64
         try clear c65
         try clear c65b0
         try clear c65b1
         try clear c66
         try clear c66b0
         try clear c66b1
         try clear c67
         try clear c67b0
         try clear c67b1
         try clear c69
         try clear c69b0
         try clear c69b1
         try clear hx205_0
         try clear hx205_1
         try clear hx205_2
         try clear hx205_3
         try clear hx205_4
         try clear hx205_5
         try clear hx207_0
         try clear hx207_1
         try clear hx207_2
         try clear hx207_3
         try clear hx207_4
         try clear hx207_5
         try clear hx209_0
         try clear hx209_1
         try clear hx209_2
         try clear hx209_3
         try clear hx209_4
         try clear hx209_5
         try clear p205
         try clear p207
         try clear p209
         try clear q205
         try clear q207
         try clear q209
         obtain ⟨kq, x127_51, rfl, HA, HJ51, HO_10, BK174, BK175, HB⟩ := hcut
         cases kq with
         | zero => exact absurd HA.out (by simp [bilgelaw28_WireFaults.j2])
         | succ kj51 =>
          have H := HA.out
          clear HA
          simp only [bilgelaw28_WireFaults.j2] at H
          by_cases c86 : x127_51 = true
          ·
           subst c86
           have H1 : (some false) = some r := by rw [if_pos rfl] at H; exact H
           exact absurd ((Option.some.inj H1).trans HRT.out) (by decide)
          ·
           replace c86 := Bool.eq_false_iff.mpr c86
           subst c86
           have H1 : (if (Int.tmod (wrap64 (a2_0)) (t176.length : Int)) = 0 then ((bilgelaw28_sure.f kj51).bind fun t211 => (some t211)) else ((wire_Delay.f t182 (Int.tmod (wrap64 (a2_0)) (t176.length : Int)) a1_2).bind fun t212 => ((split_All.f t212 a1_0 a1_1 a1_2 a1_3 0).bind fun t215 => (if (t215.length : Int) = 2 then (if 0 < (t215.length : Int) then (if ((rd_T37 t215 0).f3) = (Int.tmod (wrap64 (a2_0)) (t176.length : Int)) then (if 1 < (t215.length : Int) then (bilgelaw28_WireFaults.j3 kj51 t182 (Int.tmod (wrap64 (a2_0)) (t176.length : Int)) ((rd_T37 t215 1).f4) a1_0 a1_1 a1_2 a1_3) else (none)) else (bilgelaw28_WireFaults.j3 kj51 t182 (Int.tmod (wrap64 (a2_0)) (t176.length : Int)) true a1_0 a1_1 a1_2 a1_3)) else (none)) else (bilgelaw28_WireFaults.j3 kj51 t182 (Int.tmod (wrap64 (a2_0)) (t176.length : Int)) true a1_0 a1_1 a1_2 a1_3))))) = some r := by rw [if_neg (show ¬ (false = true) by decide)] at H; exact H
           clear H
           have H := H1
           clear H1
           by_cases c87 : (Int.tmod (wrap64 (a2_0)) (t176.length : Int)) = 0
           ·
            rw [if_pos c87] at H
            have c87b0 : ((Int.tmod (wrap64 (a2_0)) (t176.length : Int)) == 0) = true := beq_iff_eq.mpr c87
            have c87b1 : ((Int.tmod (wrap64 (a2_0)) (t176.length : Int)) != 0) = false := bne_eq_false_iff_eq.mpr c87
            clear c87
            replace H := Option.bind_eq_some_iff.mp H
            obtain ⟨t211, A880, H⟩ := H
            replace H : (some t211) = some r := H
            have A88 := Aside0.mk A880
            clear A880
            obtain rfl := Option.some.inj H
            go_wp2_with (first | ((with_reducible refine gate_callee (f := 7) rfl ?_); refine goesL_ (some 130) rfl rfl Try.func7 (by kernel_rfl) rfl #[] rfl (by (try simp only [List.map_toArray, List.map_cons, List.map_nil]); first | done | rfl | (simp only [List.length_drop, List.length_take]; rfl)) ?_; (with_reducible refine (bilgelaw28_sure.calls kj51  t211 _ A88.out).mono ?_); rintro e w89 ⟨rfl, hb⟩; refine ⟨_, rfl, ?_⟩; have n0_ := Aside0.mk (Kd.R_below (by (with_reducible repeat (first | apply Kd.R_alloc | apply Kd.R_drewN | apply Kd.R_drew)); exact HO_10.out) hb); have n1_ := Aside0.mk (blk_below (g := gb174) (o := .cells #[.int .i64 a1_0, .int .i64 a1_1, .int .i64 a1_2, .int .i64 a1_3] 24 (0, 0)) (by (with_reducible repeat (first | refine blk_drewN ?_ _ | refine blk_drew ?_ | refine blk_alloc ?_ _)); exact BK174.out) hb); have n2_ := Aside0.mk (blk_below (g := gb175) (o := .cells #[.int .u16 a2_0, .int .u16 a2_1, .int .u16 a2_2] 41 (0, 0)) (by (with_reducible repeat (first | refine blk_drewN ?_ _ | refine blk_drew ?_ | refine blk_alloc ?_ _)); exact BK175.out) hb); have n3_ := Aside0.mk (below_step (by repeat (first | (with_reducible first | exact HB.out | apply below_alloc | apply pw_below_drewN | apply below_drew1 | refine below_set ?_ GE174.out | refine below_set ?_ GE175.out) | exact HB.out)) hb); clear HO_10; clear BK174; clear BK175; clear HB; have HO_10 := n0_; have BK174 := n1_; have BK175 := n2_; have HB := n3_; clear n0_ n1_ n2_ n3_; (try clear hb); (try clear hb2); (try clear hk); (try clear hi)))
            go_ret
            exact ⟨by first | rfl | (simp [errW_none, errW_some] <;> rfl) | (simp [*, errW_none, errW_some] <;> rfl), by repeat (first | (with_reducible first | exact HB.out | apply below_alloc | apply pw_below_drewN | apply below_drew1 | refine below_set ?_ GE174.out | refine below_set ?_ GE175.out) | exact HB.out)⟩
           ·
            rw [if_neg c87] at H
            have c87b0 : ((Int.tmod (wrap64 (a2_0)) (t176.length : Int)) == 0) = false := beq_eq_false_iff_ne.mpr c87
            have c87b1 : ((Int.tmod (wrap64 (a2_0)) (t176.length : Int)) != 0) = true := bne_iff_ne.mpr c87
            replace H := Option.bind_eq_some_iff.mp H
            obtain ⟨t212, A900, H⟩ := H
            replace H : ((split_All.f t212 a1_0 a1_1 a1_2 a1_3 0).bind fun t215 => (if (t215.length : Int) = 2 then (if 0 < (t215.length : Int) then (if ((rd_T37 t215 0).f3) = (Int.tmod (wrap64 (a2_0)) (t176.length : Int)) then (if 1 < (t215.length : Int) then (bilgelaw28_WireFaults.j3 kj51 t182 (Int.tmod (wrap64 (a2_0)) (t176.length : Int)) ((rd_T37 t215 1).f4) a1_0 a1_1 a1_2 a1_3) else (none)) else (bilgelaw28_WireFaults.j3 kj51 t182 (Int.tmod (wrap64 (a2_0)) (t176.length : Int)) true a1_0 a1_1 a1_2 a1_3)) else (none)) else (bilgelaw28_WireFaults.j3 kj51 t182 (Int.tmod (wrap64 (a2_0)) (t176.length : Int)) true a1_0 a1_1 a1_2 a1_3))) = some r := H
            have A90 := Aside0.mk A900
            clear A900
            replace H := Option.bind_eq_some_iff.mp H
            obtain ⟨t215, A910, H⟩ := H
            replace H : (if (t215.length : Int) = 2 then (if 0 < (t215.length : Int) then (if ((rd_T37 t215 0).f3) = (Int.tmod (wrap64 (a2_0)) (t176.length : Int)) then (if 1 < (t215.length : Int) then (bilgelaw28_WireFaults.j3 kj51 t182 (Int.tmod (wrap64 (a2_0)) (t176.length : Int)) ((rd_T37 t215 1).f4) a1_0 a1_1 a1_2 a1_3) else (none)) else (bilgelaw28_WireFaults.j3 kj51 t182 (Int.tmod (wrap64 (a2_0)) (t176.length : Int)) true a1_0 a1_1 a1_2 a1_3)) else (none)) else (bilgelaw28_WireFaults.j3 kj51 t182 (Int.tmod (wrap64 (a2_0)) (t176.length : Int)) true a1_0 a1_1 a1_2 a1_3)) = some r := H
            have A91 := Aside0.mk A910
            clear A910
            have HC92 := Aside0.mk H
            clear H
            try go_wp2
            have n0_ := Aside0.mk (Kd.R_drew HO_10.out)
            have n1_ := Aside0.mk (blk_drew BK174.out)
            have n2_ := Aside0.mk (blk_drew BK175.out)
            have n3_ := Aside0.mk (below_drew1 HB.out)
            clear HO_10
            clear BK174
            clear BK175
            clear HB
            have HO_10 := n0_
            have BK174 := n1_
            have BK175 := n2_
            have HB := n3_
            clear n0_ n1_ n2_ n3_
            refine start_ (n := 8) (S := fun w' => w'.cell? ⟨gb174, 0, none⟩ = some (.int .i64 a1_0) ∧ w'.cell? ⟨gb174, 1, none⟩ = some (.int .i64 a1_1) ∧ w'.cell? ⟨gb174, 2, none⟩ = some (.int .i64 a1_2) ∧ w'.cell? ⟨gb174, 3, none⟩ = some (.int .i64 a1_3)) (ds := []) #[false, false, false, false, false, false, false, false] (by kernel_rfl) rfl rfl ⟨(blk_cell BK174.out 0).trans rfl, (blk_cell BK174.out 1).trans rfl, (blk_cell BK174.out 2).trans rfl, (blk_cell BK174.out 3).trans rfl⟩ (fun hHeld => ?_); refine with_tabW bilgelaw28_WireFaults.tab16 bilgelaw28_WireFaults.bits16 (fun HT_ HW_ => ?_)
            generalize wc.drew = w93 at HO_10 BK174 BK175 HB hHeld ⊢
            refine pure_ (i := 0) (N := some 131) (v := ?_) (a' := ?_) #[true, false, false, false, false, false, false, false] rfl rfl (any_of HT_.out (by kernel_rfl)) (fun _ _ _ h => h) (Or.inl ⟨by rfl, ?_⟩) ?_ ?_
            rotate_left; intro w'; go_simp; with_reducible rfl; rotate_left; simp only [Act.put, List.setIfInBounds_toArray, List.set_cons_zero, List.set_cons_succ, i64_w, i32_w]; rfl
            refine pure_ (i := 1) (N := some 132) (v := ?_) (a' := ?_) #[true, true, false, false, false, false, false, false] rfl rfl (any_of HT_.out (by kernel_rfl)) (fun _ _ _ h => h) (Or.inl ⟨by rfl, ?_⟩) ?_ ?_
            rotate_left; intro w'; go_simp; with_reducible rfl; rotate_left; simp only [Act.put, List.setIfInBounds_toArray, List.set_cons_zero, List.set_cons_succ, i64_w, i32_w]; rfl
            refine pure_ (i := 2) (N := some 133) (v := ?_) (a' := ?_) #[true, true, true, false, false, false, false, false] rfl rfl (any_of HT_.out (by kernel_rfl)) (fun _ _ _ h => h) (Or.inl ⟨by rfl, ?_⟩) ?_ ?_
            rotate_left; intro w'; go_simp; with_reducible rfl; rotate_left; simp only [Act.put, List.setIfInBounds_toArray, List.set_cons_zero, List.set_cons_succ, i64_w, i32_w]; rfl
            refine take_ (i := 3) (N := some 134) (v := ?_) (a' := ?_) #[true, true, true, true, false, false, false, false] rfl rfl (take_ofW HT_.out HW_.out (by kernel_rfl)) (fun _ _ _ h => h) (Or.inl ⟨by rfl, ?_⟩) hHeld ?_ ?_
            rotate_left; rintro w' ⟨s0, s1, s2, s3⟩; go_simp; with_reducible rfl; rotate_left; simp only [Act.put, List.setIfInBounds_toArray, List.set_cons_zero, List.set_cons_succ, i64_w, i32_w]; rfl
            refine take_ (i := 5) (N := some 136) (v := ?_) (a' := ?_) #[true, true, true, true, false, true, false, false] rfl rfl (take_ofW HT_.out HW_.out (by kernel_rfl)) (fun _ _ _ h => h) (Or.inl ⟨by rfl, ?_⟩) hHeld ?_ ?_
            rotate_left; rintro w' ⟨s0, s1, s2, s3⟩; go_simp; with_reducible rfl; rotate_left; simp only [Act.put, List.setIfInBounds_toArray, List.set_cons_zero, List.set_cons_succ, i64_w, i32_w]; rfl
            refine one_ (i := 4) (N := some 135) #[true, true, true, true, true, true, false, false] rfl rfl (one_of HT_.out (by kernel_rfl)) (by decide) (fun K hK => ?_)
            refine goes_ Try.func17 (by kernel_rfl) rfl #[.slice Ao27 t182.length co27, .int .i64 (Int.tmod (wrap64 (a2_0)) (t176.length : Int)), .int .i64 a1_2] (by rfl) rfl rfl (by (try simp only [List.map_toArray, List.map_cons, List.map_nil]); first | done | rfl | (simp only [List.length_drop, List.length_take]; rfl)) ?_
            with_reducible refine (wire_Delay.calls _ _ t182 (Int.tmod (wrap64 (a2_0)) (t176.length : Int)) a1_2 t212 _ ?side1 ?side2 A90.out).mono ?_
            (case side1 => repeat (first | exact (Kd.R_reads' HO_10.out).2.2 | (with_reducible refine Kd.C_alloc ?_ _) | (with_reducible refine Kd.C_drewN ?_ _) | (with_reducible refine Kd.C_drew ?_)))
            (case side2 => exact (Kd.R_reads' HO_10.out).2.1)
            rintro e w94 ⟨v213, rfl, ho0, hb⟩
            refine ⟨_, rfl, ?_⟩
            have n0_ := Aside0.mk (Kd.R_elder' (by (with_reducible repeat (first | apply Kd.R_alloc | apply Kd.R_drewN | apply Kd.R_drew)); exact HO_10.out) (Kd.R_base ho0) hb)
            have n1_ := Aside0.mk (Kd.R_lower (Kd.R_new' ho0 (Kd.R_lt (by (with_reducible repeat (first | apply Kd.R_alloc | apply Kd.R_drewN | apply Kd.R_drew)); exact HO_10.out))) (below_size (by repeat (first | (with_reducible first | exact HB.out | apply below_alloc | apply pw_below_drewN | apply below_drew1 | refine below_set ?_ GE174.out | refine below_set ?_ GE175.out) | exact HB.out))))
            have n2_ := Aside0.mk (blk_below (g := gb174) (o := .cells #[.int .i64 a1_0, .int .i64 a1_1, .int .i64 a1_2, .int .i64 a1_3] 24 (0, 0)) (by (with_reducible repeat (first | refine blk_drewN ?_ _ | refine blk_drew ?_ | refine blk_alloc ?_ _)); exact BK174.out) hb)
            have n3_ := Aside0.mk (blk_below (g := gb175) (o := .cells #[.int .u16 a2_0, .int .u16 a2_1, .int .u16 a2_2] 41 (0, 0)) (by (with_reducible repeat (first | refine blk_drewN ?_ _ | refine blk_drew ?_ | refine blk_alloc ?_ _)); exact BK175.out) hb)
            have n4_ := Aside0.mk (below_step (by repeat (first | (with_reducible first | exact HB.out | apply below_alloc | apply pw_below_drewN | apply below_drew1 | refine below_set ?_ GE174.out | refine below_set ?_ GE175.out) | exact HB.out)) hb)
            clear HO_10
            clear BK174
            clear BK175
            clear HB
            have HO_10 := n0_
            have HO214 := n1_
            have BK174 := n2_
            have BK175 := n3_
            have HB := n4_
            clear n0_ n1_ n2_ n3_ n4_
            (try clear hb)
            (try clear hb2)
            (try clear hk)
            (try clear hi)
            (try clear ho0)
            obtain ⟨Ao95, co95, eo95⟩ := Kd.R_slice HO214.out
            (first | subst eo95 | (injection eo95 with f1_ f2_ f3_; have f4_ := f1_.symm; have f5_ := f3_.symm; clear f1_ f2_ f3_; subst f4_; subst f5_))
            refine hK.out _ _ ⟨(blk_cell BK174.out 0).trans rfl, (blk_cell BK174.out 1).trans rfl, (blk_cell BK174.out 2).trans rfl, (blk_cell BK174.out 3).trans rfl⟩ (fun hHeld => ?_)
            clear hK K
            refine norm_ (a' := ?_) ?_ ?_
            rotate_left
            ·
             show Act.put _ (some 135) _ = _
             simp only [Act.put, List.setIfInBounds_toArray, List.set_cons_zero, List.set_cons_succ, i64_w, i32_w]
             rfl
            refine one_ (i := 6) (N := some 137) #[true, true, true, true, true, true, true, false] rfl rfl (one_of HT_.out (by kernel_rfl)) (by decide) (fun K hK => ?_)
            refine goes_ Try.func10 (by kernel_rfl) rfl #[.slice Ao95 t212.length co95, .agg #[.int .i64 a1_0, .int .i64 a1_1, .int .i64 a1_2, .int .i64 a1_3], .int .i64 0] (by rfl) rfl rfl (by (try simp only [List.map_toArray, List.map_cons, List.map_nil]); first | done | rfl | (simp only [List.length_drop, List.length_take]; rfl)) ?_
            with_reducible refine (split_All.calls _ _ t212 a1_0 a1_1 a1_2 a1_3 0 t215 _ ?side1 ?side2 A91.out).mono ?_
            (case side1 => repeat (first | exact (Kd.R_reads' HO214.out).2.2 | (with_reducible refine Kd.C_alloc ?_ _) | (with_reducible refine Kd.C_drewN ?_ _) | (with_reducible refine Kd.C_drew ?_)))
            (case side2 => exact (Kd.R_reads' HO214.out).2.1)
            rintro e w96 ⟨v216, rfl, ho0, hb⟩
            refine ⟨_, rfl, ?_⟩
            have n0_ := Aside0.mk (Kd.R_below (by (with_reducible repeat (first | apply Kd.R_alloc | apply Kd.R_drewN | apply Kd.R_drew)); exact HO_10.out) hb)
            have n1_ := Aside0.mk (Kd.R_below (by (with_reducible repeat (first | apply Kd.R_alloc | apply Kd.R_drewN | apply Kd.R_drew)); exact HO214.out) hb)
            have n2_ := Aside0.mk (Kd.S_lower ho0 (below_size (by repeat (first | (with_reducible first | exact HB.out | apply below_alloc | apply pw_below_drewN | apply below_drew1 | refine below_set ?_ GE174.out | refine below_set ?_ GE175.out) | exact HB.out))))
            have n3_ := Aside0.mk (blk_below (g := gb174) (o := .cells #[.int .i64 a1_0, .int .i64 a1_1, .int .i64 a1_2, .int .i64 a1_3] 24 (0, 0)) (by (with_reducible repeat (first | refine blk_drewN ?_ _ | refine blk_drew ?_ | refine blk_alloc ?_ _)); exact BK174.out) hb)
            have n4_ := Aside0.mk (blk_below (g := gb175) (o := .cells #[.int .u16 a2_0, .int .u16 a2_1, .int .u16 a2_2] 41 (0, 0)) (by (with_reducible repeat (first | refine blk_drewN ?_ _ | refine blk_drew ?_ | refine blk_alloc ?_ _)); exact BK175.out) hb)
            have n5_ := Aside0.mk (below_step (by repeat (first | (with_reducible first | exact HB.out | apply below_alloc | apply pw_below_drewN | apply below_drew1 | refine below_set ?_ GE174.out | refine below_set ?_ GE175.out) | exact HB.out)) hb)
            clear HO_10
            clear HO214
            clear BK174
            clear BK175
            clear HB
            have HO_10 := n0_
            have HO214 := n1_
            have HO217 := n2_
            have BK174 := n3_
            have BK175 := n4_
            have HB := n5_
            clear n0_ n1_ n2_ n3_ n4_ n5_
            (try clear hb)
            (try clear hb2)
            (try clear hk)
            (try clear hi)
            (try clear ho0)
            refine hK.out _ _ ⟨(blk_cell BK174.out 0).trans rfl, (blk_cell BK174.out 1).trans rfl, (blk_cell BK174.out 2).trans rfl, (blk_cell BK174.out 3).trans rfl⟩ (fun hHeld => ?_)
            clear hK K
            refine norm_ (a' := ?_) ?_ ?_
            rotate_left
            ·
             show Act.put _ (some 137) _ = _
             simp only [Act.put, List.setIfInBounds_toArray, List.set_cons_zero, List.set_cons_succ, i64_w, i32_w]
             rfl
            refine pure_ (i := 7) (N := some 16) (v := ?_) (a' := ?_) #[true, true, true, true, true, true, true, true] rfl rfl (any_of HT_.out (by kernel_rfl)) (fun _ _ _ h => h) (Or.inl ⟨by rfl, ?_⟩) ?_ ?_
            rotate_left; intro w'; go_simp; with_reducible rfl; rotate_left; simp only [Act.put, List.setIfInBounds_toArray, List.set_cons_zero, List.set_cons_succ, i64_w, i32_w]; rfl
            refine done_ (done_of HT_.out (by kernel_rfl)) ?_
            go_upto_region 17 with (fail)
            go_cut [154] (fun v154 wc => ∃ (kq : Nat) (x154_91 : Bool), v154 = .bool x154_91 ∧ Aside0 (bilgelaw28_WireFaults.j3 kq t182 (Int.tmod (wrap64 (a2_0)) (t176.length : Int)) x154_91 a1_0 a1_1 a1_2 a1_3 = some r) ∧ Aside0 (kq ≤ kj51) ∧ Aside0 (Kd.R k52 52 wc w.heap.size (fun _ => True) (.slice Ao27 t182.length co27) t182) ∧ Aside0 (wc.heap[gb174]? = some (.cells #[.int .i64 a1_0, .int .i64 a1_1, .int .i64 a1_2, .int .i64 a1_3] 24 (0, 0))) ∧ Aside0 (wc.heap[gb175]? = some (.cells #[.int .u16 a2_0, .int .u16 a2_1, .int .u16 a2_2] 41 (0, 0))) ∧ Aside0 (Below w.heap.size w wc))
            case first =>
             have H := HC92.out
             clear HC92
             by_cases c97 : (t215.length : Int) = 2
             ·
              rw [if_pos c97] at H
              have c97b0 : ((t215.length : Int) == 2) = true := beq_iff_eq.mpr c97
              have c97b1 : ((t215.length : Int) != 2) = false := bne_eq_false_iff_eq.mpr c97
              clear c97
              (first | rw [c97b0] | (simp only [i64_w, i32_w]; rw [c97b0]) | skip)
              by_cases c98 : 0 < (t215.length : Int)
              ·
               rw [if_pos c98] at H
               have c98b0 : decide (0 < (t215.length : Int)) = true := decide_eq_true c98
               have c98b1 : decide (0 < t215.length) = true := decide_eq_true (by omega)
               clear c98
               by_cases c99 : ((rd_T37 t215 0).f3) = (Int.tmod (wrap64 (a2_0)) (t176.length : Int))
               ·
                rw [if_pos c99] at H
                have c99b0 : (((rd_T37 t215 0).f3) == (Int.tmod (wrap64 (a2_0)) (t176.length : Int))) = true := beq_iff_eq.mpr c99
                have c99b1 : (((rd_T37 t215 0).f3) != (Int.tmod (wrap64 (a2_0)) (t176.length : Int))) = false := bne_eq_false_iff_eq.mpr c99
                clear c99
                by_cases c100 : 1 < (t215.length : Int)
                ·
                 rw [if_pos c100] at H
                 have c100b0 : decide (1 < (t215.length : Int)) = true := decide_eq_true c100
                 have c100b1 : decide (1 < t215.length) = true := decide_eq_true (by omega)
                 clear c100
                 have H' := Aside0.mk H
                 clear H
                 obtain ⟨Ao101, co101, eo101⟩ := Kd.S_slice HO217.out
                 subst eo101
                 have p218 : 0 ≤ (0 : Int) := (by omega)
                 have q218 : 0 < (t215.length : Int) := of_decide_eq_true (by first | (with_reducible assumption) | assumption)
                 obtain ⟨ad218, A218_0, c218_0, e218, hx218_0, hx218_1, hx218_2, hx218_3, hx218_4, hx218_5, hl218_0, hi218_0⟩ := at_T37 (Kd.S_reads' HO217.out).2.2 0 p218 q218
                 cases e218
                 obtain ⟨ce218, hce218, hMe218, hcc218⟩ := Kd.S_get HO217.out z37 0 p218 (by first | exact q218 | exact of_decide_eq_true (by first | (with_reducible assumption) | assumption) | (have e_ := (Kd.S_reads' HO217.out).1; omega))
                 obtain ⟨ve218_0, rfl, ge218_0⟩ := k37_openM hMe218
                 have hv218_0 := hcc218 0 _ rfl
                 rw [Nat.add_zero] at hv218_0
                 replace hv218_0 := Option.some.inj (hv218_0.symm.trans hx218_0)
                 rw [hv218_0] at ge218_0
                 have HL218_0 := Aside0.mk (show Kd.R (Kd.int .u8) 5 _ _ _ _ ((rd_T37 t215 0).f0) from ge218_0)
                 clear hv218_0 ge218_0
                 clear hcc218 hce218
                 have qi218 : (0 < t215.length) = True := eq_true (by omega)
                 (try simp only [show ((0 : Int)).toNat = 0 from rfl, show 0 * 6 = 0 from rfl, Addr.add_zero'] at hx218_0 hx218_1 hx218_2 hx218_3 hx218_4 hx218_5)
                 have HR218_0 := Aside0.mk hi218_0
                 have HC218_0 := Aside0.mk hl218_0
                 clear hi218_0 hl218_0
                 replace p218 := eq_true p218
                 replace q218 := eq_true q218
                 have p219 : 0 ≤ (1 : Int) := (by omega)
                 have q219 : 1 < (t215.length : Int) := of_decide_eq_true (by first | (with_reducible assumption) | assumption)
                 obtain ⟨ad219, A219_0, c219_0, e219, hx219_0, hx219_1, hx219_2, hx219_3, hx219_4, hx219_5, hl219_0, hi219_0⟩ := at_T37 (Kd.S_reads' HO217.out).2.2 1 p219 q219
                 obtain rfl : ad218 = ad219 := (by injection e219)
                 obtain ⟨ce219, hce219, hMe219, hcc219⟩ := Kd.S_get HO217.out z37 1 p219 (by first | exact q219 | exact of_decide_eq_true (by first | (with_reducible assumption) | assumption) | (have e_ := (Kd.S_reads' HO217.out).1; omega))
                 obtain ⟨ve219_0, rfl, ge219_0⟩ := k37_openM hMe219
                 have hv219_0 := hcc219 0 _ rfl
                 rw [Nat.add_zero] at hv219_0
                 replace hv219_0 := Option.some.inj (hv219_0.symm.trans hx219_0)
                 rw [hv219_0] at ge219_0
                 have HL219_0 := Aside0.mk (show Kd.R (Kd.int .u8) 5 _ _ _ _ ((rd_T37 t215 1).f0) from ge219_0)
                 clear hv219_0 ge219_0
                 clear hcc219 hce219
                 (try simp only [show (1 : Int).toNat = 1 from rfl, Nat.reduceMul, Nat.reduceEqDiff, Go.Addr.add, ↓reduceIte] at hx219_0)
                 (try simp only [show (1 : Int).toNat = 1 from rfl, Nat.reduceMul, Nat.reduceEqDiff, Go.Addr.add, ↓reduceIte] at hx219_1)
                 (try simp only [show (1 : Int).toNat = 1 from rfl, Nat.reduceMul, Nat.reduceEqDiff, Go.Addr.add, ↓reduceIte] at hx219_2)
                 (try simp only [show (1 : Int).toNat = 1 from rfl, Nat.reduceMul, Nat.reduceEqDiff, Go.Addr.add, ↓reduceIte] at hx219_3)
                 (try simp only [show (1 : Int).toNat = 1 from rfl, Nat.reduceMul, Nat.reduceEqDiff, Go.Addr.add, ↓reduceIte] at hx219_4)
                 (try simp only [show (1 : Int).toNat = 1 from rfl, Nat.reduceMul, Nat.reduceEqDiff, Go.Addr.add, ↓reduceIte] at hx219_5)
                 have qi219 : (1 < t215.length) = True := eq_true (by omega)
                 (try simp only [show ((1 : Int)).toNat = 1 from rfl, show 1 * 6 = 6 from rfl] at hx219_0 hx219_1 hx219_2 hx219_3 hx219_4 hx219_5)
                 have HR219_0 := Aside0.mk hi219_0
                 have HC219_0 := Aside0.mk hl219_0
                 clear hi219_0 hl219_0
                 replace p219 := eq_true p219
                 replace q219 := eq_true q219
                 go_wp2
                 go_meet
                 case rel => exact ⟨_, ((rd_T37 t215 1).f4), (by first | rfl | (simp; done) | (simp [*]; done)), H', ⟨by have := HJ4.out; have := HJ20.out; have := HJ51.out; first | omega | exact Nat.le_refl _⟩, ⟨by (with_reducible repeat (first | apply Kd.R_alloc | apply Kd.R_drewN | apply Kd.R_drew)); exact Kd.R_mono HO_10.out (fun _ hk => trivial)⟩, ⟨by (with_reducible repeat (first | refine blk_drewN ?_ _ | refine blk_drew ?_ | refine blk_alloc ?_ _)); exact BK174.out⟩, ⟨by (with_reducible repeat (first | refine blk_drewN ?_ _ | refine blk_drew ?_ | refine blk_alloc ?_ _)); exact BK175.out⟩, ⟨by repeat (first | (with_reducible first | exact HB.out | apply below_alloc | apply pw_below_drewN | apply below_drew1 | refine below_set ?_ GE174.out | refine below_set ?_ GE175.out) | exact HB.out)⟩⟩
                ·
                 rw [if_neg c100] at H
                 exact absurd H (by simp)
               ·
                rw [if_neg c99] at H
                have c99b0 : (((rd_T37 t215 0).f3) == (Int.tmod (wrap64 (a2_0)) (t176.length : Int))) = false := beq_eq_false_iff_ne.mpr c99
                have c99b1 : (((rd_T37 t215 0).f3) != (Int.tmod (wrap64 (a2_0)) (t176.length : Int))) = true := bne_iff_ne.mpr c99
                exact absurd HRT.out (bilgelaw28_WireFaults.j3_t H)
              ·
               rw [if_neg c98] at H
               exact absurd H (by simp)
             ·
              rw [if_neg c97] at H
              have c97b0 : ((t215.length : Int) == 2) = false := beq_eq_false_iff_ne.mpr c97
              have c97b1 : ((t215.length : Int) != 2) = true := bne_iff_ne.mpr c97
              (first | rw [c97b0] | (simp only [i64_w, i32_w]; rw [c97b0]) | skip)
              exact absurd HRT.out (bilgelaw28_WireFaults.j3_t H)
            case rest =>
             try clear c1
             try clear c2
             try clear p2
             try clear q2
             try clear hx2
             try clear qi2
             try clear c6
             try clear p6
             try clear c7
             try clear c8
             try clear c9
             try clear c10
             try clear c14
             try clear c15
             try clear c17
             try clear c20
             try clear p20
             try clear q20
             try clear hx20
             try clear qi20
             try clear c21
             try clear p21
             try clear q21
             try clear hx21
             try clear qi21
             try clear c62
             try clear c62b0
             try clear c62b1
             try clear c63
             try clear c63b0
             try clear c63b1
             try clear p64
             try clear c65
             try clear c65b0
             try clear c65b1
             try clear c66
             try clear c66b0
             try clear c66b1
             try clear c67
             try clear c67b0
             try clear c67b1
             try clear c69
             try clear c69b0
             try clear c69b1
             try clear c86
             try clear c87
             try clear c87b0
             try clear c87b1
             try clear c97
             try clear c97b0
             try clear c97b1
             try clear c98
             try clear c98b0
             try clear c98b1
             try clear c99
             try clear c99b0
             try clear c99b1
             try clear c100
             try clear c100b0
             try clear c100b1
             try clear hx205_0
             try clear hx205_1
             try clear hx205_2
             try clear hx205_3
             try clear hx205_4
             try clear hx205_5
             try clear hx207_0
             try clear hx207_1
             try clear hx207_2
             try clear hx207_3
             try clear hx207_4
             try clear hx207_5
             try clear hx209_0
             try clear hx209_1
             try clear hx209_2
             try clear hx209_3
             try clear hx209_4
             try clear hx209_5
             try clear hx218_0
             try clear hx218_1
             try clear hx218_2
             try clear hx218_3
             try clear hx218_4
             try clear hx218_5
             try clear hx219_0
             try clear hx219_1
             try clear hx219_2
             try clear hx219_3
             try clear hx219_4
             try clear hx219_5
             try clear p2
             try clear p20
             try clear p205
             try clear p207
             try clear p209
             try clear p218
             try clear p219
             try clear p6
             try clear p64
             try clear q2
             try clear q20
             try clear q205
             try clear q207
             try clear q209
             try clear q218
             try clear q219
             obtain ⟨kq, x154_91, rfl, HA, HJ91, HO_10, BK174, BK175, HB⟩ := hcut
             cases kq with
             | zero => exact absurd HA.out (by simp [bilgelaw28_WireFaults.j3])
             | succ kj91 =>
              have H := HA.out
              clear HA
              simp only [bilgelaw28_WireFaults.j3] at H
              by_cases c104 : x154_91 = true
              ·
               subst c104
               have H1 : (some false) = some r := by rw [if_pos rfl] at H; exact H
               exact absurd ((Option.some.inj H1).trans HRT.out) (by decide)
              ·
               replace c104 := Bool.eq_false_iff.mpr c104
               subst c104
               have H1 : (if (wrap64 ((wrap64 ((wrap64 (a1_1 + 1)) - a1_0)) + a1_0)) < a1_2 then ((wire_Delay.f t182 (Int.tmod (wrap64 (a2_0)) (t176.length : Int)) (wrap64 ((wrap64 (a1_1 + 1)) - a1_0))).bind fun t220 => ((split_All.f t220 a1_0 a1_1 a1_2 a1_3 0).bind fun t223 => (if (t223.length : Int) = 1 then (if 0 < (t223.length : Int) then ((split_Fault.f ((rd_T37 t223 0).f0) ((rd_T37 t223 0).f1) ((rd_T37 t223 0).f2) ((rd_T37 t223 0).f3) ((rd_T37 t223 0).f4) ((rd_T37 t223 0).f5)).bind fun t227 => (if t227 = 3 then ((split_Errs.f ((rd_T37 t223 0).f0) ((rd_T37 t223 0).f1) ((rd_T37 t223 0).f2) ((rd_T37 t223 0).f3) ((rd_T37 t223 0).f4) ((rd_T37 t223 0).f5)).bind fun t229 => (if t229 = true then (some false) else ((bilgelaw28_sure.f kj91).bind fun t230 => (some t230)))) else (some false))) else (none)) else (some false)))) else ((bilgelaw28_sure.f kj91).bind fun t231 => (some t231))) = some r := by rw [if_neg (show ¬ (false = true) by decide)] at H; exact H
               clear H
               have H := H1
               clear H1
               by_cases c105 : (wrap64 ((wrap64 ((wrap64 (a1_1 + 1)) - a1_0)) + a1_0)) < a1_2
               ·
                rw [if_pos c105] at H
                have c105b0 : decide ((wrap64 ((wrap64 ((wrap64 (a1_1 + 1)) - a1_0)) + a1_0)) < a1_2) = true := decide_eq_true c105
                clear c105
                replace H := Option.bind_eq_some_iff.mp H
                obtain ⟨t220, A1060, H⟩ := H
                replace H : ((split_All.f t220 a1_0 a1_1 a1_2 a1_3 0).bind fun t223 => (if (t223.length : Int) = 1 then (if 0 < (t223.length : Int) then ((split_Fault.f ((rd_T37 t223 0).f0) ((rd_T37 t223 0).f1) ((rd_T37 t223 0).f2) ((rd_T37 t223 0).f3) ((rd_T37 t223 0).f4) ((rd_T37 t223 0).f5)).bind fun t227 => (if t227 = 3 then ((split_Errs.f ((rd_T37 t223 0).f0) ((rd_T37 t223 0).f1) ((rd_T37 t223 0).f2) ((rd_T37 t223 0).f3) ((rd_T37 t223 0).f4) ((rd_T37 t223 0).f5)).bind fun t229 => (if t229 = true then (some false) else ((bilgelaw28_sure.f kj91).bind fun t230 => (some t230)))) else (some false))) else (none)) else (some false))) = some r := H
                have A106 := Aside0.mk A1060
                clear A1060
                replace H := Option.bind_eq_some_iff.mp H
                obtain ⟨t223, A1070, H⟩ := H
                replace H : (if (t223.length : Int) = 1 then (if 0 < (t223.length : Int) then ((split_Fault.f ((rd_T37 t223 0).f0) ((rd_T37 t223 0).f1) ((rd_T37 t223 0).f2) ((rd_T37 t223 0).f3) ((rd_T37 t223 0).f4) ((rd_T37 t223 0).f5)).bind fun t227 => (if t227 = 3 then ((split_Errs.f ((rd_T37 t223 0).f0) ((rd_T37 t223 0).f1) ((rd_T37 t223 0).f2) ((rd_T37 t223 0).f3) ((rd_T37 t223 0).f4) ((rd_T37 t223 0).f5)).bind fun t229 => (if t229 = true then (some false) else ((bilgelaw28_sure.f kj91).bind fun t230 => (some t230)))) else (some false))) else (none)) else (some false)) = some r := H
                have A107 := Aside0.mk A1070
                clear A1070
                by_cases c108 : (t223.length : Int) = 1
                ·
                 rw [if_pos c108] at H
                 have c108b0 : ((t223.length : Int) == 1) = true := beq_iff_eq.mpr c108
                 have c108b1 : ((t223.length : Int) != 1) = false := bne_eq_false_iff_eq.mpr c108
                 clear c108
                 by_cases c109 : 0 < (t223.length : Int)
                 ·
                  rw [if_pos c109] at H
                  have c109b0 : decide (0 < (t223.length : Int)) = true := decide_eq_true c109
                  have c109b1 : decide (0 < t223.length) = true := decide_eq_true (by omega)
                  clear c109
                  replace H := Option.bind_eq_some_iff.mp H
                  obtain ⟨t227, A1100, H⟩ := H
                  replace H : (if t227 = 3 then ((split_Errs.f ((rd_T37 t223 0).f0) ((rd_T37 t223 0).f1) ((rd_T37 t223 0).f2) ((rd_T37 t223 0).f3) ((rd_T37 t223 0).f4) ((rd_T37 t223 0).f5)).bind fun t229 => (if t229 = true then (some false) else ((bilgelaw28_sure.f kj91).bind fun t230 => (some t230)))) else (some false)) = some r := H
                  have A110 := Aside0.mk A1100
                  clear A1100
                  by_cases c111 : t227 = 3
                  ·
                   rw [if_pos c111] at H
                   have c111b0 : (t227 == 3) = true := beq_iff_eq.mpr c111
                   have c111b1 : (t227 != 3) = false := bne_eq_false_iff_eq.mpr c111
                   clear c111
                   replace H := Option.bind_eq_some_iff.mp H
                   obtain ⟨t229, A1120, H⟩ := H
                   replace H : (if t229 = true then (some false) else ((bilgelaw28_sure.f kj91).bind fun t230 => (some t230))) = some r := H
                   have A112 := Aside0.mk A1120
                   clear A1120
                   by_cases c113 : t229 = true
                   ·
                    subst c113
                    have H1 : (some false) = some r := by rw [if_pos rfl] at H; exact H
                    exact absurd ((Option.some.inj H1).trans HRT.out) (by decide)
                   ·
                    replace c113 := Bool.eq_false_iff.mpr c113
                    subst c113
                    have H1 : ((bilgelaw28_sure.f kj91).bind fun t230 => (some t230)) = some r := by rw [if_neg (show ¬ (false = true) by decide)] at H; exact H
                    clear H
                    have H := H1
                    clear H1
                    replace H := Option.bind_eq_some_iff.mp H
                    obtain ⟨t230, A1230, H⟩ := H
                    replace H : (some t230) = some r := H
                    have A123 := Aside0.mk A1230
                    clear A1230
                    obtain rfl := Option.some.inj H
                    have hnb124 := NB174_175.out
                    have hnc124 := NB175_174.out
                    have hcz125_0 : wc.cell? ⟨gb174, 0, none⟩ = some (.int .i64 a1_0) := (blk_cell BK174.out 0).trans rfl
                    have hcz125_1 : wc.cell? ⟨gb174, 1, none⟩ = some (.int .i64 a1_1) := (blk_cell BK174.out 1).trans rfl
                    have hcz125_2 : wc.cell? ⟨gb174, 2, none⟩ = some (.int .i64 a1_2) := (blk_cell BK174.out 2).trans rfl
                    have hcz125_3 : wc.cell? ⟨gb174, 3, none⟩ = some (.int .i64 a1_3) := (blk_cell BK174.out 3).trans rfl
                    have hfz125_0 := blk_frozen BK174.out 0
                    have hfz125_1 := blk_frozen BK174.out 1
                    have hfz125_2 := blk_frozen BK174.out 2
                    have hfz125_3 := blk_frozen BK174.out 3
                    try go_wp2
                    have n0_ := Aside0.mk (Kd.R_drew HO_10.out)
                    have n1_ := Aside0.mk (blk_drew BK174.out)
                    have n2_ := Aside0.mk (blk_drew BK175.out)
                    have n3_ := Aside0.mk (below_drew1 HB.out)
                    clear HO_10
                    clear BK174
                    clear BK175
                    clear HB
                    have HO_10 := n0_
                    have BK174 := n1_
                    have BK175 := n2_
                    have HB := n3_
                    clear n0_ n1_ n2_ n3_
                    refine start_ (n := 7) (S := fun w' => w'.cell? ⟨gb174, 0, none⟩ = some (.int .i64 a1_0) ∧ w'.cell? ⟨gb174, 1, none⟩ = some (.int .i64 a1_1) ∧ w'.cell? ⟨gb174, 2, none⟩ = some (.int .i64 a1_2) ∧ w'.cell? ⟨gb174, 3, none⟩ = some (.int .i64 a1_3)) (ds := []) #[false, false, false, false, false, false, false] (by kernel_rfl) rfl rfl ⟨(blk_cell BK174.out 0).trans rfl, (blk_cell BK174.out 1).trans rfl, (blk_cell BK174.out 2).trans rfl, (blk_cell BK174.out 3).trans rfl⟩ (fun hHeld => ?_)
                    generalize wc.drew = w126 at HO_10 BK174 BK175 HB hHeld ⊢
                    refine pure_ (i := 0) (N := some 168) (v := ?_) (a' := ?_) #[true, false, false, false, false, false, false] rfl rfl (by kernel_rfl) (fun _ _ _ h => h) (Or.inl ⟨by rfl, ?_⟩) ?_ ?_
                    rotate_left; intro w'; go_simp; with_reducible rfl; rotate_left; simp only [Act.put, List.setIfInBounds_toArray, List.set_cons_zero, List.set_cons_succ, i64_w, i32_w]; rfl
                    refine pure_ (i := 1) (N := some 169) (v := ?_) (a' := ?_) #[true, true, false, false, false, false, false] rfl rfl (by kernel_rfl) (fun _ _ _ h => h) (Or.inl ⟨by rfl, ?_⟩) ?_ ?_
                    rotate_left; intro w'; go_simp; with_reducible rfl; rotate_left; simp only [Act.put, List.setIfInBounds_toArray, List.set_cons_zero, List.set_cons_succ, i64_w, i32_w]; rfl
                    refine pure_ (i := 2) (N := some 170) (v := ?_) (a' := ?_) #[true, true, true, false, false, false, false] rfl rfl (by kernel_rfl) (fun _ _ _ h => h) (Or.inl ⟨by rfl, ?_⟩) ?_ ?_
                    rotate_left; intro w'; go_simp; with_reducible rfl; rotate_left; simp only [Act.put, List.setIfInBounds_toArray, List.set_cons_zero, List.set_cons_succ, i64_w, i32_w]; rfl
                    refine take_ (i := 4) (N := some 172) (v := ?_) (a' := ?_) #[true, true, true, false, true, false, false] rfl rfl (by kernel_rfl) (fun _ _ _ h => h) (Or.inl ⟨by rfl, ?_⟩) hHeld ?_ ?_
                    rotate_left; rintro w' ⟨s0, s1, s2, s3⟩; go_simp; with_reducible rfl; rotate_left; simp only [Act.put, List.setIfInBounds_toArray, List.set_cons_zero, List.set_cons_succ, i64_w, i32_w]; rfl
                    refine one_ (i := 3) (N := some 171) #[true, true, true, true, true, false, false] rfl rfl (by kernel_rfl) (by decide) (fun K hK => ?_)
                    refine goes_ Try.func17 (by kernel_rfl) rfl #[.slice Ao27 t182.length co27, .int .i64 (Int.tmod (wrap64 (a2_0)) (t176.length : Int)), .int .i64 (wrap64 ((wrap64 (a1_1 + 1)) - a1_0))] (by rfl) rfl rfl (by (try simp only [List.map_toArray, List.map_cons, List.map_nil]); first | done | rfl | (simp only [List.length_drop, List.length_take]; rfl)) ?_
                    with_reducible refine (wire_Delay.calls _ _ t182 (Int.tmod (wrap64 (a2_0)) (t176.length : Int)) (wrap64 ((wrap64 (a1_1 + 1)) - a1_0)) t220 _ ?side1 ?side2 A106.out).mono ?_
                    (case side1 => repeat (first | exact (Kd.R_reads' HO_10.out).2.2 | (with_reducible refine Kd.C_alloc ?_ _) | (with_reducible refine Kd.C_drewN ?_ _) | (with_reducible refine Kd.C_drew ?_)))
                    (case side2 => exact (Kd.R_reads' HO_10.out).2.1)
                    rintro e w127 ⟨v221, rfl, ho0, hb⟩
                    refine ⟨_, rfl, ?_⟩
                    have n0_ := Aside0.mk (Kd.R_elder' (by (with_reducible repeat (first | apply Kd.R_alloc | apply Kd.R_drewN | apply Kd.R_drew)); exact HO_10.out) (Kd.R_base ho0) hb)
                    have n1_ := Aside0.mk (Kd.R_lower (Kd.R_new' ho0 (Kd.R_lt (by (with_reducible repeat (first | apply Kd.R_alloc | apply Kd.R_drewN | apply Kd.R_drew)); exact HO_10.out))) (below_size (by repeat (first | (with_reducible first | exact HB.out | apply below_alloc | apply pw_below_drewN | apply below_drew1 | refine below_set ?_ GE174.out | refine below_set ?_ GE175.out) | exact HB.out))))
                    have n2_ := Aside0.mk (blk_below (g := gb174) (o := .cells #[.int .i64 a1_0, .int .i64 a1_1, .int .i64 a1_2, .int .i64 a1_3] 24 (0, 0)) (by (with_reducible repeat (first | refine blk_drewN ?_ _ | refine blk_drew ?_ | refine blk_alloc ?_ _)); exact BK174.out) hb)
                    have n3_ := Aside0.mk (blk_below (g := gb175) (o := .cells #[.int .u16 a2_0, .int .u16 a2_1, .int .u16 a2_2] 41 (0, 0)) (by (with_reducible repeat (first | refine blk_drewN ?_ _ | refine blk_drew ?_ | refine blk_alloc ?_ _)); exact BK175.out) hb)
                    have n4_ := Aside0.mk (below_step (by repeat (first | (with_reducible first | exact HB.out | apply below_alloc | apply pw_below_drewN | apply below_drew1 | refine below_set ?_ GE174.out | refine below_set ?_ GE175.out) | exact HB.out)) hb)
                    clear HO_10
                    clear BK174
                    clear BK175
                    clear HB
                    have HO_10 := n0_
                    have HO222 := n1_
                    have BK174 := n2_
                    have BK175 := n3_
                    have HB := n4_
                    clear n0_ n1_ n2_ n3_ n4_
                    (try clear hb)
                    (try clear hb2)
                    (try clear hk)
                    (try clear hi)
                    (try clear ho0)
                    obtain ⟨Ao128, co128, eo128⟩ := Kd.R_slice HO222.out
                    (first | subst eo128 | (injection eo128 with f1_ f2_ f3_; have f4_ := f1_.symm; have f5_ := f3_.symm; clear f1_ f2_ f3_; subst f4_; subst f5_))
                    refine hK.out _ _ ⟨(blk_cell BK174.out 0).trans rfl, (blk_cell BK174.out 1).trans rfl, (blk_cell BK174.out 2).trans rfl, (blk_cell BK174.out 3).trans rfl⟩ (fun hHeld => ?_)
                    clear hK K
                    refine norm_ (a' := ?_) ?_ ?_
                    rotate_left
                    ·
                     show Act.put _ (some 171) _ = _
                     simp only [Act.put, List.setIfInBounds_toArray, List.set_cons_zero, List.set_cons_succ, i64_w, i32_w]
                     rfl
                    refine one_ (i := 5) (N := some 173) #[true, true, true, true, true, true, false] rfl rfl (by kernel_rfl) (by decide) (fun K hK => ?_)
                    refine goes_ Try.func10 (by kernel_rfl) rfl #[.slice Ao128 t220.length co128, .agg #[.int .i64 a1_0, .int .i64 a1_1, .int .i64 a1_2, .int .i64 a1_3], .int .i64 0] (by rfl) rfl rfl (by (try simp only [List.map_toArray, List.map_cons, List.map_nil]); first | done | rfl | (simp only [List.length_drop, List.length_take]; rfl)) ?_
                    with_reducible refine (split_All.calls _ _ t220 a1_0 a1_1 a1_2 a1_3 0 t223 _ ?side1 ?side2 A107.out).mono ?_
                    (case side1 => repeat (first | exact (Kd.R_reads' HO222.out).2.2 | (with_reducible refine Kd.C_alloc ?_ _) | (with_reducible refine Kd.C_drewN ?_ _) | (with_reducible refine Kd.C_drew ?_)))
                    (case side2 => exact (Kd.R_reads' HO222.out).2.1)
                    rintro e w129 ⟨v224, rfl, ho0, hb⟩
                    refine ⟨_, rfl, ?_⟩
                    have n0_ := Aside0.mk (Kd.R_below (by (with_reducible repeat (first | apply Kd.R_alloc | apply Kd.R_drewN | apply Kd.R_drew)); exact HO_10.out) hb)
                    have n1_ := Aside0.mk (Kd.R_below (by (with_reducible repeat (first | apply Kd.R_alloc | apply Kd.R_drewN | apply Kd.R_drew)); exact HO222.out) hb)
                    have n2_ := Aside0.mk (Kd.S_lower ho0 (below_size (by repeat (first | (with_reducible first | exact HB.out | apply below_alloc | apply pw_below_drewN | apply below_drew1 | refine below_set ?_ GE174.out | refine below_set ?_ GE175.out) | exact HB.out))))
                    have n3_ := Aside0.mk (blk_below (g := gb174) (o := .cells #[.int .i64 a1_0, .int .i64 a1_1, .int .i64 a1_2, .int .i64 a1_3] 24 (0, 0)) (by (with_reducible repeat (first | refine blk_drewN ?_ _ | refine blk_drew ?_ | refine blk_alloc ?_ _)); exact BK174.out) hb)
                    have n4_ := Aside0.mk (blk_below (g := gb175) (o := .cells #[.int .u16 a2_0, .int .u16 a2_1, .int .u16 a2_2] 41 (0, 0)) (by (with_reducible repeat (first | refine blk_drewN ?_ _ | refine blk_drew ?_ | refine blk_alloc ?_ _)); exact BK175.out) hb)
                    have n5_ := Aside0.mk (below_step (by repeat (first | (with_reducible first | exact HB.out | apply below_alloc | apply pw_below_drewN | apply below_drew1 | refine below_set ?_ GE174.out | refine below_set ?_ GE175.out) | exact HB.out)) hb)
                    clear HO_10
                    clear HO222
                    clear BK174
                    clear BK175
                    clear HB
                    have HO_10 := n0_
                    have HO222 := n1_
                    have HO225 := n2_
                    have BK174 := n3_
                    have BK175 := n4_
                    have HB := n5_
                    clear n0_ n1_ n2_ n3_ n4_ n5_
                    (try clear hb)
                    (try clear hb2)
                    (try clear hk)
                    (try clear hi)
                    (try clear ho0)
                    refine hK.out _ _ ⟨(blk_cell BK174.out 0).trans rfl, (blk_cell BK174.out 1).trans rfl, (blk_cell BK174.out 2).trans rfl, (blk_cell BK174.out 3).trans rfl⟩ (fun hHeld => ?_)
                    clear hK K
                    refine norm_ (a' := ?_) ?_ ?_
                    rotate_left
                    ·
                     show Act.put _ (some 173) _ = _
                     simp only [Act.put, List.setIfInBounds_toArray, List.set_cons_zero, List.set_cons_succ, i64_w, i32_w]
                     rfl
                    refine pure_ (i := 6) (N := some 18) (v := ?_) (a' := ?_) #[true, true, true, true, true, true, true] rfl rfl (by kernel_rfl) (fun _ _ _ h => h) (Or.inl ⟨by rfl, ?_⟩) ?_ ?_
                    rotate_left; intro w'; go_simp; with_reducible rfl; rotate_left; simp only [Act.put, List.setIfInBounds_toArray, List.set_cons_zero, List.set_cons_succ, i64_w, i32_w]; rfl
                    refine done_ (by kernel_rfl) ?_
                    obtain ⟨Ao130, co130, eo130⟩ := Kd.S_slice HO225.out
                    subst eo130
                    have p226 : 0 ≤ (0 : Int) := (by omega)
                    have q226 : 0 < (t223.length : Int) := of_decide_eq_true (by first | (with_reducible assumption) | assumption)
                    obtain ⟨ad226, A226_0, c226_0, e226, hx226_0, hx226_1, hx226_2, hx226_3, hx226_4, hx226_5, hl226_0, hi226_0⟩ := at_T37 (Kd.S_reads' HO225.out).2.2 0 p226 q226
                    cases e226
                    obtain ⟨ce226, hce226, hMe226, hcc226⟩ := Kd.S_get HO225.out z37 0 p226 (by first | exact q226 | exact of_decide_eq_true (by first | (with_reducible assumption) | assumption) | (have e_ := (Kd.S_reads' HO225.out).1; omega))
                    obtain ⟨ve226_0, rfl, ge226_0⟩ := k37_openM hMe226
                    have hv226_0 := hcc226 0 _ rfl
                    rw [Nat.add_zero] at hv226_0
                    replace hv226_0 := Option.some.inj (hv226_0.symm.trans hx226_0)
                    rw [hv226_0] at ge226_0
                    have HL226_0 := Aside0.mk (show Kd.R (Kd.int .u8) 5 _ _ _ _ ((rd_T37 t223 0).f0) from ge226_0)
                    clear hv226_0 ge226_0
                    clear hcc226 hce226
                    have qi226 : (0 < t223.length) = True := eq_true (by omega)
                    (try simp only [show ((0 : Int)).toNat = 0 from rfl, show 0 * 6 = 0 from rfl, Addr.add_zero'] at hx226_0 hx226_1 hx226_2 hx226_3 hx226_4 hx226_5)
                    have HR226_0 := Aside0.mk hi226_0
                    have HC226_0 := Aside0.mk hl226_0
                    clear hi226_0 hl226_0
                    replace p226 := eq_true p226
                    replace q226 := eq_true q226
                    try go_wp2_with (first | (go_at_call 11; (with_reducible refine (split_Fault.calls _ _ ((rd_T37 t223 0).f0) ((rd_T37 t223 0).f1) ((rd_T37 t223 0).f2) ((rd_T37 t223 0).f3) ((rd_T37 t223 0).f4) ((rd_T37 t223 0).f5) t227 _ ?side1 ?side2 A110.out).mono ?_); (case side1 => repeat (first | exact (by repeat (first | (with_reducible exact HR226_0.out) | (with_reducible refine Kd.C_alloc ?_ _) | (with_reducible refine Kd.C_drewN ?_ _) | (with_reducible refine Kd.C_drew ?_) | exact HR226_0.out)) | (with_reducible refine Kd.C_alloc ?_ _) | (with_reducible refine Kd.C_drewN ?_ _) | (with_reducible refine Kd.C_drew ?_))); (case side2 => exact HC226_0.out); rintro e w131 ⟨rfl, hb⟩; have n0_ := Aside0.mk (Kd.R_below (by (with_reducible repeat (first | apply Kd.R_alloc | apply Kd.R_drewN | apply Kd.R_drew)); exact HO_10.out) hb); have n1_ := Aside0.mk (Kd.R_below (by (with_reducible repeat (first | apply Kd.R_alloc | apply Kd.R_drewN | apply Kd.R_drew)); exact HO222.out) hb); have n2_ := Aside0.mk (Kd.S_below (by (with_reducible repeat (first | apply Kd.S_alloc | apply Kd.S_drewN | apply Kd.S_drew)); exact HO225.out) hb); have n3_ := Aside0.mk (Kd.R_below (by (with_reducible repeat (first | apply Kd.R_alloc | apply Kd.R_drewN | apply Kd.R_drew)); exact HL226_0.out) hb); have n4_ := Aside0.mk (blk_below (g := gb174) (o := .cells #[.int .i64 a1_0, .int .i64 a1_1, .int .i64 a1_2, .int .i64 a1_3] 24 (0, 0)) (by (with_reducible repeat (first | refine blk_drewN ?_ _ | refine blk_drew ?_ | refine blk_alloc ?_ _)); exact BK174.out) hb); have n5_ := Aside0.mk (blk_below (g := gb175) (o := .cells #[.int .u16 a2_0, .int .u16 a2_1, .int .u16 a2_2] 41 (0, 0)) (by (with_reducible repeat (first | refine blk_drewN ?_ _ | refine blk_drew ?_ | refine blk_alloc ?_ _)); exact BK175.out) hb); have n6_ := Aside0.mk (Kd.C_below (by repeat (first | (with_reducible exact HR226_0.out) | (with_reducible refine Kd.C_alloc ?_ _) | (with_reducible refine Kd.C_drewN ?_ _) | (with_reducible refine Kd.C_drew ?_) | exact HR226_0.out)) hb); have n7_ := Aside0.mk (below_step (by repeat (first | (with_reducible first | exact HB.out | apply below_alloc | apply pw_below_drewN | apply below_drew1 | refine below_set ?_ GE174.out | refine below_set ?_ GE175.out) | exact HB.out)) hb); clear HO_10; clear HO222; clear HO225; clear HL226_0; clear BK174; clear BK175; clear HR226_0; clear HB; have HO_10 := n0_; have HO222 := n1_; have HO225 := n2_; have HL226_0 := n3_; have BK174 := n4_; have BK175 := n5_; have HR226_0 := n6_; have HB := n7_; clear n0_ n1_ n2_ n3_ n4_ n5_ n6_ n7_; (try clear hb); (try clear hb2); (try clear hk); (try clear hi); have p228 : 0 ≤ (0 : Int) := (by omega); have q228 : 0 < (t223.length : Int) := of_decide_eq_true (by first | (with_reducible assumption) | assumption); obtain ⟨ad228, A228_0, c228_0, e228, hx228_0, hx228_1, hx228_2, hx228_3, hx228_4, hx228_5, hl228_0, hi228_0⟩ := at_T37 (Kd.S_reads' HO225.out).2.2 0 p228 q228; obtain rfl : ad226 = ad228 := (by injection e228); obtain ⟨ce228, hce228, hMe228, hcc228⟩ := Kd.S_get HO225.out z37 0 p228 (by first | exact q228 | exact of_decide_eq_true (by first | (with_reducible assumption) | assumption) | (have e_ := (Kd.S_reads' HO225.out).1; omega)); obtain ⟨ve228_0, rfl, ge228_0⟩ := k37_openM hMe228; have hv228_0 := hcc228 0 _ rfl; rw [Nat.add_zero] at hv228_0; replace hv228_0 := Option.some.inj (hv228_0.symm.trans hx228_0); rw [hv228_0] at ge228_0; have HL228_0 := Aside0.mk (show Kd.R (Kd.int .u8) 5 _ _ _ _ ((rd_T37 t223 0).f0) from ge228_0); clear hv228_0 ge228_0; clear hcc228 hce228; have qi228 : (0 < t223.length) = True := eq_true (by omega); (try rw [show ((0 : Int)).toNat = 0 from rfl] at hx228_0); (try rw [show 0 * 6 = 0 from rfl] at hx228_0); (try rw [Addr.add_zero'] at hx228_0); (try rw [show ((0 : Int)).toNat = 0 from rfl] at hx228_1); (try rw [show 0 * 6 = 0 from rfl] at hx228_1); (try rw [Addr.add_zero'] at hx228_1); (try rw [show ((0 : Int)).toNat = 0 from rfl] at hx228_2); (try rw [show 0 * 6 = 0 from rfl] at hx228_2); (try rw [Addr.add_zero'] at hx228_2); (try rw [show ((0 : Int)).toNat = 0 from rfl] at hx228_3); (try rw [show 0 * 6 = 0 from rfl] at hx228_3); (try rw [Addr.add_zero'] at hx228_3); (try rw [show ((0 : Int)).toNat = 0 from rfl] at hx228_4); (try rw [show 0 * 6 = 0 from rfl] at hx228_4); (try rw [Addr.add_zero'] at hx228_4); (try rw [show ((0 : Int)).toNat = 0 from rfl] at hx228_5); (try rw [show 0 * 6 = 0 from rfl] at hx228_5); (try rw [Addr.add_zero'] at hx228_5); have HR228_0 := Aside0.mk hi228_0; have HC228_0 := Aside0.mk hl228_0; clear hi228_0 hl228_0; replace p228 := eq_true p228; replace q228 := eq_true q228) | (go_at_call 16; (with_reducible refine (split_Errs.calls _ _ ((rd_T37 t223 0).f0) ((rd_T37 t223 0).f1) ((rd_T37 t223 0).f2) ((rd_T37 t223 0).f3) ((rd_T37 t223 0).f4) ((rd_T37 t223 0).f5) false _ ?side1 ?side2 A112.out).mono ?_); (case side1 => repeat (first | exact (by repeat (first | (with_reducible exact HR228_0.out) | (with_reducible refine Kd.C_alloc ?_ _) | (with_reducible refine Kd.C_drewN ?_ _) | (with_reducible refine Kd.C_drew ?_) | exact HR228_0.out)) | (with_reducible refine Kd.C_alloc ?_ _) | (with_reducible refine Kd.C_drewN ?_ _) | (with_reducible refine Kd.C_drew ?_))); (case side2 => exact HC228_0.out); rintro e w132 ⟨rfl, hb⟩; have n0_ := Aside0.mk (Kd.R_below (by (with_reducible repeat (first | apply Kd.R_alloc | apply Kd.R_drewN | apply Kd.R_drew)); exact HO_10.out) hb); have n1_ := Aside0.mk (Kd.R_below (by (with_reducible repeat (first | apply Kd.R_alloc | apply Kd.R_drewN | apply Kd.R_drew)); exact HO222.out) hb); have n2_ := Aside0.mk (Kd.S_below (by (with_reducible repeat (first | apply Kd.S_alloc | apply Kd.S_drewN | apply Kd.S_drew)); exact HO225.out) hb); have n3_ := Aside0.mk (Kd.R_below (by (with_reducible repeat (first | apply Kd.R_alloc | apply Kd.R_drewN | apply Kd.R_drew)); exact HL226_0.out) hb); have n4_ := Aside0.mk (Kd.R_below (by (with_reducible repeat (first | apply Kd.R_alloc | apply Kd.R_drewN | apply Kd.R_drew)); exact HL228_0.out) hb); have n5_ := Aside0.mk (blk_below (g := gb174) (o := .cells #[.int .i64 a1_0, .int .i64 a1_1, .int .i64 a1_2, .int .i64 a1_3] 24 (0, 0)) (by (with_reducible repeat (first | refine blk_drewN ?_ _ | refine blk_drew ?_ | refine blk_alloc ?_ _)); exact BK174.out) hb); have n6_ := Aside0.mk (blk_below (g := gb175) (o := .cells #[.int .u16 a2_0, .int .u16 a2_1, .int .u16 a2_2] 41 (0, 0)) (by (with_reducible repeat (first | refine blk_drewN ?_ _ | refine blk_drew ?_ | refine blk_alloc ?_ _)); exact BK175.out) hb); have n7_ := Aside0.mk (Kd.C_below (by repeat (first | (with_reducible exact HR226_0.out) | (with_reducible refine Kd.C_alloc ?_ _) | (with_reducible refine Kd.C_drewN ?_ _) | (with_reducible refine Kd.C_drew ?_) | exact HR226_0.out)) hb); have n8_ := Aside0.mk (Kd.C_below (by repeat (first | (with_reducible exact HR228_0.out) | (with_reducible refine Kd.C_alloc ?_ _) | (with_reducible refine Kd.C_drewN ?_ _) | (with_reducible refine Kd.C_drew ?_) | exact HR228_0.out)) hb); have n9_ := Aside0.mk (below_step (by repeat (first | (with_reducible first | exact HB.out | apply below_alloc | apply pw_below_drewN | apply below_drew1 | refine below_set ?_ GE174.out | refine below_set ?_ GE175.out) | exact HB.out)) hb); clear HO_10; clear HO222; clear HO225; clear HL226_0; clear HL228_0; clear BK174; clear BK175; clear HR226_0; clear HR228_0; clear HB; have HO_10 := n0_; have HO222 := n1_; have HO225 := n2_; have HL226_0 := n3_; have HL228_0 := n4_; have BK174 := n5_; have BK175 := n6_; have HR226_0 := n7_; have HR228_0 := n8_; have HB := n9_; clear n0_ n1_ n2_ n3_ n4_ n5_ n6_ n7_ n8_ n9_; (try clear hb); (try clear hb2); (try clear hk); (try clear hi)) | (go_at_call 7; (with_reducible refine (bilgelaw28_sure.calls kj91  t230 _ A123.out).mono ?_); rintro e w133 ⟨rfl, hb⟩; have n0_ := Aside0.mk (Kd.R_below (by (with_reducible repeat (first | apply Kd.R_alloc | apply Kd.R_drewN | apply Kd.R_drew)); exact HO_10.out) hb); have n1_ := Aside0.mk (Kd.R_below (by (with_reducible repeat (first | apply Kd.R_alloc | apply Kd.R_drewN | apply Kd.R_drew)); exact HO222.out) hb); have n2_ := Aside0.mk (Kd.S_below (by (with_reducible repeat (first | apply Kd.S_alloc | apply Kd.S_drewN | apply Kd.S_drew)); exact HO225.out) hb); have n3_ := Aside0.mk (Kd.R_below (by (with_reducible repeat (first | apply Kd.R_alloc | apply Kd.R_drewN | apply Kd.R_drew)); exact HL226_0.out) hb); have n4_ := Aside0.mk (Kd.R_below (by (with_reducible repeat (first | apply Kd.R_alloc | apply Kd.R_drewN | apply Kd.R_drew)); exact HL228_0.out) hb); have n5_ := Aside0.mk (blk_below (g := gb174) (o := .cells #[.int .i64 a1_0, .int .i64 a1_1, .int .i64 a1_2, .int .i64 a1_3] 24 (0, 0)) (by (with_reducible repeat (first | refine blk_drewN ?_ _ | refine blk_drew ?_ | refine blk_alloc ?_ _)); exact BK174.out) hb); have n6_ := Aside0.mk (blk_below (g := gb175) (o := .cells #[.int .u16 a2_0, .int .u16 a2_1, .int .u16 a2_2] 41 (0, 0)) (by (with_reducible repeat (first | refine blk_drewN ?_ _ | refine blk_drew ?_ | refine blk_alloc ?_ _)); exact BK175.out) hb); have n7_ := Aside0.mk (Kd.C_below (by repeat (first | (with_reducible exact HR226_0.out) | (with_reducible refine Kd.C_alloc ?_ _) | (with_reducible refine Kd.C_drewN ?_ _) | (with_reducible refine Kd.C_drew ?_) | exact HR226_0.out)) hb); have n8_ := Aside0.mk (Kd.C_below (by repeat (first | (with_reducible exact HR228_0.out) | (with_reducible refine Kd.C_alloc ?_ _) | (with_reducible refine Kd.C_drewN ?_ _) | (with_reducible refine Kd.C_drew ?_) | exact HR228_0.out)) hb); have n9_ := Aside0.mk (below_step (by repeat (first | (with_reducible first | exact HB.out | apply below_alloc | apply pw_below_drewN | apply below_drew1 | refine below_set ?_ GE174.out | refine below_set ?_ GE175.out) | exact HB.out)) hb); clear HO_10; clear HO222; clear HO225; clear HL226_0; clear HL228_0; clear BK174; clear BK175; clear HR226_0; clear HR228_0; clear HB; have HO_10 := n0_; have HO222 := n1_; have HO225 := n2_; have HL226_0 := n3_; have HL228_0 := n4_; have BK174 := n5_; have BK175 := n6_; have HR226_0 := n7_; have HR228_0 := n8_; have HB := n9_; clear n0_ n1_ n2_ n3_ n4_ n5_ n6_ n7_ n8_ n9_; (try clear hb); (try clear hb2); (try clear hk); (try clear hi)))
                    go_ret
                    exact ⟨by first | rfl | (simp [errW_none, errW_some] <;> rfl) | (simp [*, errW_none, errW_some] <;> rfl), by repeat (first | (with_reducible first | exact HB.out | apply below_alloc | apply pw_below_drewN | apply below_drew1 | refine below_set ?_ GE174.out | refine below_set ?_ GE175.out) | exact HB.out)⟩
                  ·
                   rw [if_neg c111] at H
                   have c111b0 : (t227 == 3) = false := beq_eq_false_iff_ne.mpr c111
                   have c111b1 : (t227 != 3) = true := bne_iff_ne.mpr c111
                   obtain rfl := Option.some.inj H
                   have hnb134 := NB174_175.out
                   have hnc134 := NB175_174.out
                   have hcz135_0 : wc.cell? ⟨gb174, 0, none⟩ = some (.int .i64 a1_0) := (blk_cell BK174.out 0).trans rfl
                   have hcz135_1 : wc.cell? ⟨gb174, 1, none⟩ = some (.int .i64 a1_1) := (blk_cell BK174.out 1).trans rfl
                   have hcz135_2 : wc.cell? ⟨gb174, 2, none⟩ = some (.int .i64 a1_2) := (blk_cell BK174.out 2).trans rfl
                   have hcz135_3 : wc.cell? ⟨gb174, 3, none⟩ = some (.int .i64 a1_3) := (blk_cell BK174.out 3).trans rfl
                   have hfz135_0 := blk_frozen BK174.out 0
                   have hfz135_1 := blk_frozen BK174.out 1
                   have hfz135_2 := blk_frozen BK174.out 2
                   have hfz135_3 := blk_frozen BK174.out 3
                   try go_wp2
                   have n0_ := Aside0.mk (Kd.R_drew HO_10.out)
                   have n1_ := Aside0.mk (blk_drew BK174.out)
                   have n2_ := Aside0.mk (blk_drew BK175.out)
                   have n3_ := Aside0.mk (below_drew1 HB.out)
                   clear HO_10
                   clear BK174
                   clear BK175
                   clear HB
                   have HO_10 := n0_
                   have BK174 := n1_
                   have BK175 := n2_
                   have HB := n3_
                   clear n0_ n1_ n2_ n3_
                   refine start_ (n := 7) (S := fun w' => w'.cell? ⟨gb174, 0, none⟩ = some (.int .i64 a1_0) ∧ w'.cell? ⟨gb174, 1, none⟩ = some (.int .i64 a1_1) ∧ w'.cell? ⟨gb174, 2, none⟩ = some (.int .i64 a1_2) ∧ w'.cell? ⟨gb174, 3, none⟩ = some (.int .i64 a1_3)) (ds := []) #[false, false, false, false, false, false, false] (by kernel_rfl) rfl rfl ⟨(blk_cell BK174.out 0).trans rfl, (blk_cell BK174.out 1).trans rfl, (blk_cell BK174.out 2).trans rfl, (blk_cell BK174.out 3).trans rfl⟩ (fun hHeld => ?_)
                   generalize wc.drew = w136 at HO_10 BK174 BK175 HB hHeld ⊢
                   refine pure_ (i := 0) (N := some 168) (v := ?_) (a' := ?_) #[true, false, false, false, false, false, false] rfl rfl (by kernel_rfl) (fun _ _ _ h => h) (Or.inl ⟨by rfl, ?_⟩) ?_ ?_
                   rotate_left; intro w'; go_simp; with_reducible rfl; rotate_left; simp only [Act.put, List.setIfInBounds_toArray, List.set_cons_zero, List.set_cons_succ, i64_w, i32_w]; rfl
                   refine pure_ (i := 1) (N := some 169) (v := ?_) (a' := ?_) #[true, true, false, false, false, false, false] rfl rfl (by kernel_rfl) (fun _ _ _ h => h) (Or.inl ⟨by rfl, ?_⟩) ?_ ?_
                   rotate_left; intro w'; go_simp; with_reducible rfl; rotate_left; simp only [Act.put, List.setIfInBounds_toArray, List.set_cons_zero, List.set_cons_succ, i64_w, i32_w]; rfl
                   refine pure_ (i := 2) (N := some 170) (v := ?_) (a' := ?_) #[true, true, true, false, false, false, false] rfl rfl (by kernel_rfl) (fun _ _ _ h => h) (Or.inl ⟨by rfl, ?_⟩) ?_ ?_
                   rotate_left; intro w'; go_simp; with_reducible rfl; rotate_left; simp only [Act.put, List.setIfInBounds_toArray, List.set_cons_zero, List.set_cons_succ, i64_w, i32_w]; rfl
                   refine take_ (i := 4) (N := some 172) (v := ?_) (a' := ?_) #[true, true, true, false, true, false, false] rfl rfl (by kernel_rfl) (fun _ _ _ h => h) (Or.inl ⟨by rfl, ?_⟩) hHeld ?_ ?_
                   rotate_left; rintro w' ⟨s0, s1, s2, s3⟩; go_simp; with_reducible rfl; rotate_left; simp only [Act.put, List.setIfInBounds_toArray, List.set_cons_zero, List.set_cons_succ, i64_w, i32_w]; rfl
                   refine one_ (i := 3) (N := some 171) #[true, true, true, true, true, false, false] rfl rfl (by kernel_rfl) (by decide) (fun K hK => ?_)
                   refine goes_ Try.func17 (by kernel_rfl) rfl #[.slice Ao27 t182.length co27, .int .i64 (Int.tmod (wrap64 (a2_0)) (t176.length : Int)), .int .i64 (wrap64 ((wrap64 (a1_1 + 1)) - a1_0))] (by rfl) rfl rfl (by (try simp only [List.map_toArray, List.map_cons, List.map_nil]); first | done | rfl | (simp only [List.length_drop, List.length_take]; rfl)) ?_
                   with_reducible refine (wire_Delay.calls _ _ t182 (Int.tmod (wrap64 (a2_0)) (t176.length : Int)) (wrap64 ((wrap64 (a1_1 + 1)) - a1_0)) t220 _ ?side1 ?side2 A106.out).mono ?_
                   (case side1 => repeat (first | exact (Kd.R_reads' HO_10.out).2.2 | (with_reducible refine Kd.C_alloc ?_ _) | (with_reducible refine Kd.C_drewN ?_ _) | (with_reducible refine Kd.C_drew ?_)))
                   (case side2 => exact (Kd.R_reads' HO_10.out).2.1)
                   rintro e w137 ⟨v221, rfl, ho0, hb⟩
                   refine ⟨_, rfl, ?_⟩
                   have n0_ := Aside0.mk (Kd.R_elder' (by (with_reducible repeat (first | apply Kd.R_alloc | apply Kd.R_drewN | apply Kd.R_drew)); exact HO_10.out) (Kd.R_base ho0) hb)
                   have n1_ := Aside0.mk (Kd.R_lower (Kd.R_new' ho0 (Kd.R_lt (by (with_reducible repeat (first | apply Kd.R_alloc | apply Kd.R_drewN | apply Kd.R_drew)); exact HO_10.out))) (below_size (by repeat (first | (with_reducible first | exact HB.out | apply below_alloc | apply pw_below_drewN | apply below_drew1 | refine below_set ?_ GE174.out | refine below_set ?_ GE175.out) | exact HB.out))))
                   have n2_ := Aside0.mk (blk_below (g := gb174) (o := .cells #[.int .i64 a1_0, .int .i64 a1_1, .int .i64 a1_2, .int .i64 a1_3] 24 (0, 0)) (by (with_reducible repeat (first | refine blk_drewN ?_ _ | refine blk_drew ?_ | refine blk_alloc ?_ _)); exact BK174.out) hb)
                   have n3_ := Aside0.mk (blk_below (g := gb175) (o := .cells #[.int .u16 a2_0, .int .u16 a2_1, .int .u16 a2_2] 41 (0, 0)) (by (with_reducible repeat (first | refine blk_drewN ?_ _ | refine blk_drew ?_ | refine blk_alloc ?_ _)); exact BK175.out) hb)
                   have n4_ := Aside0.mk (below_step (by repeat (first | (with_reducible first | exact HB.out | apply below_alloc | apply pw_below_drewN | apply below_drew1 | refine below_set ?_ GE174.out | refine below_set ?_ GE175.out) | exact HB.out)) hb)
                   clear HO_10
                   clear BK174
                   clear BK175
                   clear HB
                   have HO_10 := n0_
                   have HO222 := n1_
                   have BK174 := n2_
                   have BK175 := n3_
                   have HB := n4_
                   clear n0_ n1_ n2_ n3_ n4_
                   (try clear hb)
                   (try clear hb2)
                   (try clear hk)
                   (try clear hi)
                   (try clear ho0)
                   obtain ⟨Ao138, co138, eo138⟩ := Kd.R_slice HO222.out
                   (first | subst eo138 | (injection eo138 with f1_ f2_ f3_; have f4_ := f1_.symm; have f5_ := f3_.symm; clear f1_ f2_ f3_; subst f4_; subst f5_))
                   refine hK.out _ _ ⟨(blk_cell BK174.out 0).trans rfl, (blk_cell BK174.out 1).trans rfl, (blk_cell BK174.out 2).trans rfl, (blk_cell BK174.out 3).trans rfl⟩ (fun hHeld => ?_)
                   clear hK K
                   refine norm_ (a' := ?_) ?_ ?_
                   rotate_left
                   ·
                    show Act.put _ (some 171) _ = _
                    simp only [Act.put, List.setIfInBounds_toArray, List.set_cons_zero, List.set_cons_succ, i64_w, i32_w]
                    rfl
                   refine one_ (i := 5) (N := some 173) #[true, true, true, true, true, true, false] rfl rfl (by kernel_rfl) (by decide) (fun K hK => ?_)
                   refine goes_ Try.func10 (by kernel_rfl) rfl #[.slice Ao138 t220.length co138, .agg #[.int .i64 a1_0, .int .i64 a1_1, .int .i64 a1_2, .int .i64 a1_3], .int .i64 0] (by rfl) rfl rfl (by (try simp only [List.map_toArray, List.map_cons, List.map_nil]); first | done | rfl | (simp only [List.length_drop, List.length_take]; rfl)) ?_
                   with_reducible refine (split_All.calls _ _ t220 a1_0 a1_1 a1_2 a1_3 0 t223 _ ?side1 ?side2 A107.out).mono ?_
                   (case side1 => repeat (first | exact (Kd.R_reads' HO222.out).2.2 | (with_reducible refine Kd.C_alloc ?_ _) | (with_reducible refine Kd.C_drewN ?_ _) | (with_reducible refine Kd.C_drew ?_)))
                   (case side2 => exact (Kd.R_reads' HO222.out).2.1)
                   rintro e w139 ⟨v224, rfl, ho0, hb⟩
                   refine ⟨_, rfl, ?_⟩
                   have n0_ := Aside0.mk (Kd.R_below (by (with_reducible repeat (first | apply Kd.R_alloc | apply Kd.R_drewN | apply Kd.R_drew)); exact HO_10.out) hb)
                   have n1_ := Aside0.mk (Kd.R_below (by (with_reducible repeat (first | apply Kd.R_alloc | apply Kd.R_drewN | apply Kd.R_drew)); exact HO222.out) hb)
                   have n2_ := Aside0.mk (Kd.S_lower ho0 (below_size (by repeat (first | (with_reducible first | exact HB.out | apply below_alloc | apply pw_below_drewN | apply below_drew1 | refine below_set ?_ GE174.out | refine below_set ?_ GE175.out) | exact HB.out))))
                   have n3_ := Aside0.mk (blk_below (g := gb174) (o := .cells #[.int .i64 a1_0, .int .i64 a1_1, .int .i64 a1_2, .int .i64 a1_3] 24 (0, 0)) (by (with_reducible repeat (first | refine blk_drewN ?_ _ | refine blk_drew ?_ | refine blk_alloc ?_ _)); exact BK174.out) hb)
                   have n4_ := Aside0.mk (blk_below (g := gb175) (o := .cells #[.int .u16 a2_0, .int .u16 a2_1, .int .u16 a2_2] 41 (0, 0)) (by (with_reducible repeat (first | refine blk_drewN ?_ _ | refine blk_drew ?_ | refine blk_alloc ?_ _)); exact BK175.out) hb)
                   have n5_ := Aside0.mk (below_step (by repeat (first | (with_reducible first | exact HB.out | apply below_alloc | apply pw_below_drewN | apply below_drew1 | refine below_set ?_ GE174.out | refine below_set ?_ GE175.out) | exact HB.out)) hb)
                   clear HO_10
                   clear HO222
                   clear BK174
                   clear BK175
                   clear HB
                   have HO_10 := n0_
                   have HO222 := n1_
                   have HO225 := n2_
                   have BK174 := n3_
                   have BK175 := n4_
                   have HB := n5_
                   clear n0_ n1_ n2_ n3_ n4_ n5_
                   (try clear hb)
                   (try clear hb2)
                   (try clear hk)
                   (try clear hi)
                   (try clear ho0)
                   refine hK.out _ _ ⟨(blk_cell BK174.out 0).trans rfl, (blk_cell BK174.out 1).trans rfl, (blk_cell BK174.out 2).trans rfl, (blk_cell BK174.out 3).trans rfl⟩ (fun hHeld => ?_)
                   clear hK K
                   refine norm_ (a' := ?_) ?_ ?_
                   rotate_left
                   ·
                    show Act.put _ (some 173) _ = _
                    simp only [Act.put, List.setIfInBounds_toArray, List.set_cons_zero, List.set_cons_succ, i64_w, i32_w]
                    rfl
                   refine pure_ (i := 6) (N := some 18) (v := ?_) (a' := ?_) #[true, true, true, true, true, true, true] rfl rfl (by kernel_rfl) (fun _ _ _ h => h) (Or.inl ⟨by rfl, ?_⟩) ?_ ?_
                   rotate_left; intro w'; go_simp; with_reducible rfl; rotate_left; simp only [Act.put, List.setIfInBounds_toArray, List.set_cons_zero, List.set_cons_succ, i64_w, i32_w]; rfl
                   refine done_ (by kernel_rfl) ?_
                   obtain ⟨Ao140, co140, eo140⟩ := Kd.S_slice HO225.out
                   subst eo140
                   have p226 : 0 ≤ (0 : Int) := (by omega)
                   have q226 : 0 < (t223.length : Int) := of_decide_eq_true (by first | (with_reducible assumption) | assumption)
                   obtain ⟨ad226, A226_0, c226_0, e226, hx226_0, hx226_1, hx226_2, hx226_3, hx226_4, hx226_5, hl226_0, hi226_0⟩ := at_T37 (Kd.S_reads' HO225.out).2.2 0 p226 q226
                   cases e226
                   obtain ⟨ce226, hce226, hMe226, hcc226⟩ := Kd.S_get HO225.out z37 0 p226 (by first | exact q226 | exact of_decide_eq_true (by first | (with_reducible assumption) | assumption) | (have e_ := (Kd.S_reads' HO225.out).1; omega))
                   obtain ⟨ve226_0, rfl, ge226_0⟩ := k37_openM hMe226
                   have hv226_0 := hcc226 0 _ rfl
                   rw [Nat.add_zero] at hv226_0
                   replace hv226_0 := Option.some.inj (hv226_0.symm.trans hx226_0)
                   rw [hv226_0] at ge226_0
                   have HL226_0 := Aside0.mk (show Kd.R (Kd.int .u8) 5 _ _ _ _ ((rd_T37 t223 0).f0) from ge226_0)
                   clear hv226_0 ge226_0
                   clear hcc226 hce226
                   have qi226 : (0 < t223.length) = True := eq_true (by omega)
                   (try simp only [show ((0 : Int)).toNat = 0 from rfl, show 0 * 6 = 0 from rfl, Addr.add_zero'] at hx226_0 hx226_1 hx226_2 hx226_3 hx226_4 hx226_5)
                   have HR226_0 := Aside0.mk hi226_0
                   have HC226_0 := Aside0.mk hl226_0
                   clear hi226_0 hl226_0
                   replace p226 := eq_true p226
                   replace q226 := eq_true q226
                   try go_wp2_with (first | (go_at_call 11; (with_reducible refine (split_Fault.calls _ _ ((rd_T37 t223 0).f0) ((rd_T37 t223 0).f1) ((rd_T37 t223 0).f2) ((rd_T37 t223 0).f3) ((rd_T37 t223 0).f4) ((rd_T37 t223 0).f5) t227 _ ?side1 ?side2 A110.out).mono ?_); (case side1 => repeat (first | exact (by repeat (first | (with_reducible exact HR226_0.out) | (with_reducible refine Kd.C_alloc ?_ _) | (with_reducible refine Kd.C_drewN ?_ _) | (with_reducible refine Kd.C_drew ?_) | exact HR226_0.out)) | (with_reducible refine Kd.C_alloc ?_ _) | (with_reducible refine Kd.C_drewN ?_ _) | (with_reducible refine Kd.C_drew ?_))); (case side2 => exact HC226_0.out); rintro e w141 ⟨rfl, hb⟩; have n0_ := Aside0.mk (Kd.R_below (by (with_reducible repeat (first | apply Kd.R_alloc | apply Kd.R_drewN | apply Kd.R_drew)); exact HO_10.out) hb); have n1_ := Aside0.mk (Kd.R_below (by (with_reducible repeat (first | apply Kd.R_alloc | apply Kd.R_drewN | apply Kd.R_drew)); exact HO222.out) hb); have n2_ := Aside0.mk (Kd.S_below (by (with_reducible repeat (first | apply Kd.S_alloc | apply Kd.S_drewN | apply Kd.S_drew)); exact HO225.out) hb); have n3_ := Aside0.mk (Kd.R_below (by (with_reducible repeat (first | apply Kd.R_alloc | apply Kd.R_drewN | apply Kd.R_drew)); exact HL226_0.out) hb); have n4_ := Aside0.mk (blk_below (g := gb174) (o := .cells #[.int .i64 a1_0, .int .i64 a1_1, .int .i64 a1_2, .int .i64 a1_3] 24 (0, 0)) (by (with_reducible repeat (first | refine blk_drewN ?_ _ | refine blk_drew ?_ | refine blk_alloc ?_ _)); exact BK174.out) hb); have n5_ := Aside0.mk (blk_below (g := gb175) (o := .cells #[.int .u16 a2_0, .int .u16 a2_1, .int .u16 a2_2] 41 (0, 0)) (by (with_reducible repeat (first | refine blk_drewN ?_ _ | refine blk_drew ?_ | refine blk_alloc ?_ _)); exact BK175.out) hb); have n6_ := Aside0.mk (Kd.C_below (by repeat (first | (with_reducible exact HR226_0.out) | (with_reducible refine Kd.C_alloc ?_ _) | (with_reducible refine Kd.C_drewN ?_ _) | (with_reducible refine Kd.C_drew ?_) | exact HR226_0.out)) hb); have n7_ := Aside0.mk (below_step (by repeat (first | (with_reducible first | exact HB.out | apply below_alloc | apply pw_below_drewN | apply below_drew1 | refine below_set ?_ GE174.out | refine below_set ?_ GE175.out) | exact HB.out)) hb); clear HO_10; clear HO222; clear HO225; clear HL226_0; clear BK174; clear BK175; clear HR226_0; clear HB; have HO_10 := n0_; have HO222 := n1_; have HO225 := n2_; have HL226_0 := n3_; have BK174 := n4_; have BK175 := n5_; have HR226_0 := n6_; have HB := n7_; clear n0_ n1_ n2_ n3_ n4_ n5_ n6_ n7_; (try clear hb); (try clear hb2); (try clear hk); (try clear hi)))
                   go_ret
                   exact ⟨by first | rfl | (simp [errW_none, errW_some] <;> rfl) | (simp [*, errW_none, errW_some] <;> rfl), by repeat (first | (with_reducible first | exact HB.out | apply below_alloc | apply pw_below_drewN | apply below_drew1 | refine below_set ?_ GE174.out | refine below_set ?_ GE175.out) | exact HB.out)⟩
                 ·
                  rw [if_neg c109] at H
                  exact absurd H (by simp)
                ·
                 rw [if_neg c108] at H
                 have c108b0 : ((t223.length : Int) == 1) = false := beq_eq_false_iff_ne.mpr c108
                 have c108b1 : ((t223.length : Int) != 1) = true := bne_iff_ne.mpr c108
                 obtain rfl := Option.some.inj H
                 have hnb142 := NB174_175.out
                 have hnc142 := NB175_174.out
                 have hcz143_0 : wc.cell? ⟨gb174, 0, none⟩ = some (.int .i64 a1_0) := (blk_cell BK174.out 0).trans rfl
                 have hcz143_1 : wc.cell? ⟨gb174, 1, none⟩ = some (.int .i64 a1_1) := (blk_cell BK174.out 1).trans rfl
                 have hcz143_2 : wc.cell? ⟨gb174, 2, none⟩ = some (.int .i64 a1_2) := (blk_cell BK174.out 2).trans rfl
                 have hcz143_3 : wc.cell? ⟨gb174, 3, none⟩ = some (.int .i64 a1_3) := (blk_cell BK174.out 3).trans rfl
                 have hfz143_0 := blk_frozen BK174.out 0
                 have hfz143_1 := blk_frozen BK174.out 1
                 have hfz143_2 := blk_frozen BK174.out 2
                 have hfz143_3 := blk_frozen BK174.out 3
                 try go_wp2
                 have n0_ := Aside0.mk (Kd.R_drew HO_10.out)
                 have n1_ := Aside0.mk (blk_drew BK174.out)
                 have n2_ := Aside0.mk (blk_drew BK175.out)
                 have n3_ := Aside0.mk (below_drew1 HB.out)
                 clear HO_10
                 clear BK174
                 clear BK175
                 clear HB
                 have HO_10 := n0_
                 have BK174 := n1_
                 have BK175 := n2_
                 have HB := n3_
                 clear n0_ n1_ n2_ n3_
                 refine start_ (n := 7) (S := fun w' => w'.cell? ⟨gb174, 0, none⟩ = some (.int .i64 a1_0) ∧ w'.cell? ⟨gb174, 1, none⟩ = some (.int .i64 a1_1) ∧ w'.cell? ⟨gb174, 2, none⟩ = some (.int .i64 a1_2) ∧ w'.cell? ⟨gb174, 3, none⟩ = some (.int .i64 a1_3)) (ds := []) #[false, false, false, false, false, false, false] (by kernel_rfl) rfl rfl ⟨(blk_cell BK174.out 0).trans rfl, (blk_cell BK174.out 1).trans rfl, (blk_cell BK174.out 2).trans rfl, (blk_cell BK174.out 3).trans rfl⟩ (fun hHeld => ?_)
                 generalize wc.drew = w144 at HO_10 BK174 BK175 HB hHeld ⊢
                 refine pure_ (i := 0) (N := some 168) (v := ?_) (a' := ?_) #[true, false, false, false, false, false, false] rfl rfl (by kernel_rfl) (fun _ _ _ h => h) (Or.inl ⟨by rfl, ?_⟩) ?_ ?_
                 rotate_left; intro w'; go_simp; with_reducible rfl; rotate_left; simp only [Act.put, List.setIfInBounds_toArray, List.set_cons_zero, List.set_cons_succ, i64_w, i32_w]; rfl
                 refine pure_ (i := 1) (N := some 169) (v := ?_) (a' := ?_) #[true, true, false, false, false, false, false] rfl rfl (by kernel_rfl) (fun _ _ _ h => h) (Or.inl ⟨by rfl, ?_⟩) ?_ ?_
                 rotate_left; intro w'; go_simp; with_reducible rfl; rotate_left; simp only [Act.put, List.setIfInBounds_toArray, List.set_cons_zero, List.set_cons_succ, i64_w, i32_w]; rfl
                 refine pure_ (i := 2) (N := some 170) (v := ?_) (a' := ?_) #[true, true, true, false, false, false, false] rfl rfl (by kernel_rfl) (fun _ _ _ h => h) (Or.inl ⟨by rfl, ?_⟩) ?_ ?_
                 rotate_left; intro w'; go_simp; with_reducible rfl; rotate_left; simp only [Act.put, List.setIfInBounds_toArray, List.set_cons_zero, List.set_cons_succ, i64_w, i32_w]; rfl
                 refine take_ (i := 4) (N := some 172) (v := ?_) (a' := ?_) #[true, true, true, false, true, false, false] rfl rfl (by kernel_rfl) (fun _ _ _ h => h) (Or.inl ⟨by rfl, ?_⟩) hHeld ?_ ?_
                 rotate_left; rintro w' ⟨s0, s1, s2, s3⟩; go_simp; with_reducible rfl; rotate_left; simp only [Act.put, List.setIfInBounds_toArray, List.set_cons_zero, List.set_cons_succ, i64_w, i32_w]; rfl
                 refine one_ (i := 3) (N := some 171) #[true, true, true, true, true, false, false] rfl rfl (by kernel_rfl) (by decide) (fun K hK => ?_)
                 refine goes_ Try.func17 (by kernel_rfl) rfl #[.slice Ao27 t182.length co27, .int .i64 (Int.tmod (wrap64 (a2_0)) (t176.length : Int)), .int .i64 (wrap64 ((wrap64 (a1_1 + 1)) - a1_0))] (by rfl) rfl rfl (by (try simp only [List.map_toArray, List.map_cons, List.map_nil]); first | done | rfl | (simp only [List.length_drop, List.length_take]; rfl)) ?_
                 with_reducible refine (wire_Delay.calls _ _ t182 (Int.tmod (wrap64 (a2_0)) (t176.length : Int)) (wrap64 ((wrap64 (a1_1 + 1)) - a1_0)) t220 _ ?side1 ?side2 A106.out).mono ?_
                 (case side1 => repeat (first | exact (Kd.R_reads' HO_10.out).2.2 | (with_reducible refine Kd.C_alloc ?_ _) | (with_reducible refine Kd.C_drewN ?_ _) | (with_reducible refine Kd.C_drew ?_)))
                 (case side2 => exact (Kd.R_reads' HO_10.out).2.1)
                 rintro e w145 ⟨v221, rfl, ho0, hb⟩
                 refine ⟨_, rfl, ?_⟩
                 have n0_ := Aside0.mk (Kd.R_elder' (by (with_reducible repeat (first | apply Kd.R_alloc | apply Kd.R_drewN | apply Kd.R_drew)); exact HO_10.out) (Kd.R_base ho0) hb)
                 have n1_ := Aside0.mk (Kd.R_lower (Kd.R_new' ho0 (Kd.R_lt (by (with_reducible repeat (first | apply Kd.R_alloc | apply Kd.R_drewN | apply Kd.R_drew)); exact HO_10.out))) (below_size (by repeat (first | (with_reducible first | exact HB.out | apply below_alloc | apply pw_below_drewN | apply below_drew1 | refine below_set ?_ GE174.out | refine below_set ?_ GE175.out) | exact HB.out))))
                 have n2_ := Aside0.mk (blk_below (g := gb174) (o := .cells #[.int .i64 a1_0, .int .i64 a1_1, .int .i64 a1_2, .int .i64 a1_3] 24 (0, 0)) (by (with_reducible repeat (first | refine blk_drewN ?_ _ | refine blk_drew ?_ | refine blk_alloc ?_ _)); exact BK174.out) hb)
                 have n3_ := Aside0.mk (blk_below (g := gb175) (o := .cells #[.int .u16 a2_0, .int .u16 a2_1, .int .u16 a2_2] 41 (0, 0)) (by (with_reducible repeat (first | refine blk_drewN ?_ _ | refine blk_drew ?_ | refine blk_alloc ?_ _)); exact BK175.out) hb)
                 have n4_ := Aside0.mk (below_step (by repeat (first | (with_reducible first | exact HB.out | apply below_alloc | apply pw_below_drewN | apply below_drew1 | refine below_set ?_ GE174.out | refine below_set ?_ GE175.out) | exact HB.out)) hb)
                 clear HO_10
                 clear BK174
                 clear BK175
                 clear HB
                 have HO_10 := n0_
                 have HO222 := n1_
                 have BK174 := n2_
                 have BK175 := n3_
                 have HB := n4_
                 clear n0_ n1_ n2_ n3_ n4_
                 (try clear hb)
                 (try clear hb2)
                 (try clear hk)
                 (try clear hi)
                 (try clear ho0)
                 obtain ⟨Ao146, co146, eo146⟩ := Kd.R_slice HO222.out
                 (first | subst eo146 | (injection eo146 with f1_ f2_ f3_; have f4_ := f1_.symm; have f5_ := f3_.symm; clear f1_ f2_ f3_; subst f4_; subst f5_))
                 refine hK.out _ _ ⟨(blk_cell BK174.out 0).trans rfl, (blk_cell BK174.out 1).trans rfl, (blk_cell BK174.out 2).trans rfl, (blk_cell BK174.out 3).trans rfl⟩ (fun hHeld => ?_)
                 clear hK K
                 refine norm_ (a' := ?_) ?_ ?_
                 rotate_left
                 ·
                  show Act.put _ (some 171) _ = _
                  simp only [Act.put, List.setIfInBounds_toArray, List.set_cons_zero, List.set_cons_succ, i64_w, i32_w]
                  rfl
                 refine one_ (i := 5) (N := some 173) #[true, true, true, true, true, true, false] rfl rfl (by kernel_rfl) (by decide) (fun K hK => ?_)
                 refine goes_ Try.func10 (by kernel_rfl) rfl #[.slice Ao146 t220.length co146, .agg #[.int .i64 a1_0, .int .i64 a1_1, .int .i64 a1_2, .int .i64 a1_3], .int .i64 0] (by rfl) rfl rfl (by (try simp only [List.map_toArray, List.map_cons, List.map_nil]); first | done | rfl | (simp only [List.length_drop, List.length_take]; rfl)) ?_
                 with_reducible refine (split_All.calls _ _ t220 a1_0 a1_1 a1_2 a1_3 0 t223 _ ?side1 ?side2 A107.out).mono ?_
                 (case side1 => repeat (first | exact (Kd.R_reads' HO222.out).2.2 | (with_reducible refine Kd.C_alloc ?_ _) | (with_reducible refine Kd.C_drewN ?_ _) | (with_reducible refine Kd.C_drew ?_)))
                 (case side2 => exact (Kd.R_reads' HO222.out).2.1)
                 rintro e w147 ⟨v224, rfl, ho0, hb⟩
                 refine ⟨_, rfl, ?_⟩
                 have n0_ := Aside0.mk (Kd.R_below (by (with_reducible repeat (first | apply Kd.R_alloc | apply Kd.R_drewN | apply Kd.R_drew)); exact HO_10.out) hb)
                 have n1_ := Aside0.mk (Kd.R_below (by (with_reducible repeat (first | apply Kd.R_alloc | apply Kd.R_drewN | apply Kd.R_drew)); exact HO222.out) hb)
                 have n2_ := Aside0.mk (Kd.S_lower ho0 (below_size (by repeat (first | (with_reducible first | exact HB.out | apply below_alloc | apply pw_below_drewN | apply below_drew1 | refine below_set ?_ GE174.out | refine below_set ?_ GE175.out) | exact HB.out))))
                 have n3_ := Aside0.mk (blk_below (g := gb174) (o := .cells #[.int .i64 a1_0, .int .i64 a1_1, .int .i64 a1_2, .int .i64 a1_3] 24 (0, 0)) (by (with_reducible repeat (first | refine blk_drewN ?_ _ | refine blk_drew ?_ | refine blk_alloc ?_ _)); exact BK174.out) hb)
                 have n4_ := Aside0.mk (blk_below (g := gb175) (o := .cells #[.int .u16 a2_0, .int .u16 a2_1, .int .u16 a2_2] 41 (0, 0)) (by (with_reducible repeat (first | refine blk_drewN ?_ _ | refine blk_drew ?_ | refine blk_alloc ?_ _)); exact BK175.out) hb)
                 have n5_ := Aside0.mk (below_step (by repeat (first | (with_reducible first | exact HB.out | apply below_alloc | apply pw_below_drewN | apply below_drew1 | refine below_set ?_ GE174.out | refine below_set ?_ GE175.out) | exact HB.out)) hb)
                 clear HO_10
                 clear HO222
                 clear BK174
                 clear BK175
                 clear HB
                 have HO_10 := n0_
                 have HO222 := n1_
                 have HO225 := n2_
                 have BK174 := n3_
                 have BK175 := n4_
                 have HB := n5_
                 clear n0_ n1_ n2_ n3_ n4_ n5_
                 (try clear hb)
                 (try clear hb2)
                 (try clear hk)
                 (try clear hi)
                 (try clear ho0)
                 refine hK.out _ _ ⟨(blk_cell BK174.out 0).trans rfl, (blk_cell BK174.out 1).trans rfl, (blk_cell BK174.out 2).trans rfl, (blk_cell BK174.out 3).trans rfl⟩ (fun hHeld => ?_)
                 clear hK K
                 refine norm_ (a' := ?_) ?_ ?_
                 rotate_left
                 ·
                  show Act.put _ (some 173) _ = _
                  simp only [Act.put, List.setIfInBounds_toArray, List.set_cons_zero, List.set_cons_succ, i64_w, i32_w]
                  rfl
                 refine pure_ (i := 6) (N := some 18) (v := ?_) (a' := ?_) #[true, true, true, true, true, true, true] rfl rfl (by kernel_rfl) (fun _ _ _ h => h) (Or.inl ⟨by rfl, ?_⟩) ?_ ?_
                 rotate_left; intro w'; go_simp; with_reducible rfl; rotate_left; simp only [Act.put, List.setIfInBounds_toArray, List.set_cons_zero, List.set_cons_succ, i64_w, i32_w]; rfl
                 refine done_ (by kernel_rfl) ?_
                 obtain ⟨Ao148, co148, eo148⟩ := Kd.S_slice HO225.out
                 subst eo148
                 try go_wp2
                 go_ret
                 exact ⟨by first | rfl | (simp [errW_none, errW_some] <;> rfl) | (simp [*, errW_none, errW_some] <;> rfl), by repeat (first | (with_reducible first | exact HB.out | apply below_alloc | apply pw_below_drewN | apply below_drew1 | refine below_set ?_ GE174.out | refine below_set ?_ GE175.out) | exact HB.out)⟩
               ·
                rw [if_neg c105] at H
                have c105b0 : decide ((wrap64 ((wrap64 ((wrap64 (a1_1 + 1)) - a1_0)) + a1_0)) < a1_2) = false := decide_eq_false c105
                clear c105
                replace H := Option.bind_eq_some_iff.mp H
                obtain ⟨t231, A1490, H⟩ := H
                replace H : (some t231) = some r := H
                have A149 := Aside0.mk A1490
                clear A1490
                obtain rfl := Option.some.inj H
                have hnb150 := NB174_175.out
                have hnc150 := NB175_174.out
                have hcz151_0 : wc.cell? ⟨gb174, 0, none⟩ = some (.int .i64 a1_0) := (blk_cell BK174.out 0).trans rfl
                have hcz151_1 : wc.cell? ⟨gb174, 1, none⟩ = some (.int .i64 a1_1) := (blk_cell BK174.out 1).trans rfl
                have hcz151_2 : wc.cell? ⟨gb174, 2, none⟩ = some (.int .i64 a1_2) := (blk_cell BK174.out 2).trans rfl
                have hcz151_3 : wc.cell? ⟨gb174, 3, none⟩ = some (.int .i64 a1_3) := (blk_cell BK174.out 3).trans rfl
                have hfz151_0 := blk_frozen BK174.out 0
                have hfz151_1 := blk_frozen BK174.out 1
                have hfz151_2 := blk_frozen BK174.out 2
                have hfz151_3 := blk_frozen BK174.out 3
                go_wp2_with (first | ((with_reducible refine gate_callee (f := 7) rfl ?_); refine goesL_ (some 194) rfl rfl Try.func7 (by kernel_rfl) rfl #[] rfl (by (try simp only [List.map_toArray, List.map_cons, List.map_nil]); first | done | rfl | (simp only [List.length_drop, List.length_take]; rfl)) ?_; (with_reducible refine (bilgelaw28_sure.calls kj91  t231 _ A149.out).mono ?_); rintro e w152 ⟨rfl, hb⟩; refine ⟨_, rfl, ?_⟩; have n0_ := Aside0.mk (Kd.R_below (by (with_reducible repeat (first | apply Kd.R_alloc | apply Kd.R_drewN | apply Kd.R_drew)); exact HO_10.out) hb); have n1_ := Aside0.mk (blk_below (g := gb174) (o := .cells #[.int .i64 a1_0, .int .i64 a1_1, .int .i64 a1_2, .int .i64 a1_3] 24 (0, 0)) (by (with_reducible repeat (first | refine blk_drewN ?_ _ | refine blk_drew ?_ | refine blk_alloc ?_ _)); exact BK174.out) hb); have n2_ := Aside0.mk (blk_below (g := gb175) (o := .cells #[.int .u16 a2_0, .int .u16 a2_1, .int .u16 a2_2] 41 (0, 0)) (by (with_reducible repeat (first | refine blk_drewN ?_ _ | refine blk_drew ?_ | refine blk_alloc ?_ _)); exact BK175.out) hb); have n3_ := Aside0.mk (below_step (by repeat (first | (with_reducible first | exact HB.out | apply below_alloc | apply pw_below_drewN | apply below_drew1 | refine below_set ?_ GE174.out | refine below_set ?_ GE175.out) | exact HB.out)) hb); clear HO_10; clear BK174; clear BK175; clear HB; have HO_10 := n0_; have BK174 := n1_; have BK175 := n2_; have HB := n3_; clear n0_ n1_ n2_ n3_; (try clear hb); (try clear hb2); (try clear hk); (try clear hi)))
                go_ret
                exact ⟨by first | rfl | (simp [errW_none, errW_some] <;> rfl) | (simp [*, errW_none, errW_some] <;> rfl), by repeat (first | (with_reducible first | exact HB.out | apply below_alloc | apply pw_below_drewN | apply below_drew1 | refine below_set ?_ GE174.out | refine below_set ?_ GE175.out) | exact HB.out)⟩

def bilgelaw28_WireFaults.Pure : Prop := ∀ (x0 : List Int) (x1 : S24) (x2 : S41), (x0.length ≤ maxLen ∧ x0.length * 1 ≤ 140737488351232 ∧ ∀ y_0 ∈ x0, (Lit.int .u8 y_0).wf = true) → (((Lit.int .i64 x1.f0).wf = true) ∧ ((Lit.int .i64 x1.f1).wf = true) ∧ ((Lit.int .i64 x1.f2).wf = true) ∧ (Lit.int .i64 x1.f3).wf = true) → (((Lit.int .u16 x2.f0).wf = true) ∧ ((Lit.int .u16 x2.f1).wf = true) ∧ (Lit.int .u16 x2.f2).wf = true) → ∃ k, bilgelaw28_WireFaults.f k x0 x1.f0 x1.f1 x1.f2 x1.f3 x2.f0 x2.f1 x2.f2 = some true

end Go.Proofs.Ytgagdhgjdgaeaaa.PWireFaults

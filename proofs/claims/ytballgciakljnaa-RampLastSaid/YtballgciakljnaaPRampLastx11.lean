-- Written by a program of this session, in the form of the kit's print, some functions by hand (N.B. not a file of print.sh's).
import Derived.Test.YtballgciakljnaaPRampLastx0
import Derived.Test.YtballgciakljnaaPRampLastx2
import Derived.Test.YtballgciakljnaaPRampLastx3
import Derived.Test.YtballgciakljnaaPRampLastx6
import Derived.Test.YtballgciakljnaaPRampLastx8
import Derived.Test.YtballgciakljnaaPRampLastx9
import Derived.Test.YtballgciakljnaaPRampLastx10
namespace Go.Proofs.Ytballgciakljnaa.PRampLast
open Go.RowKit Go.Proofs.YtballgciakljnaaW.PrintWords Go.Proofs.YtballgciakljnaaW.PrintLast Go.Proofs.YtballgciakljnaaW.PrintMore Go.Proofs.YtballgciakljnaaM
attribute [local go_sem] max2_int min2_int max_two min_two max_three min_three max_four min_four   -- for this text's walks alone
set_option linter.unusedVariables false
set_option linter.unusedSimpArgs false

/-! ### ramp_Events: function 52 (by hand) -/
def rOf (x : S87) : Rp := ⟨x.f0, x.f1, x.f2, x.f3, x.f4, x.f5, x.f6, x.f7⟩
def evRec (r : Rp) (k : Nat) : S106 := ⟨if r.wo = true then 3 else 2, r.fi + (k : Int) * r.ev, 0, false, r.pl, valF r (k : Int)⟩
def evL (r : Rp) (tz : Int) : Nat → Nat → List S106
  | 0, _ => []
  | n + 1, k => if r.fi + (k : Int) * r.ev ≤ tz then evRec r k :: (if goF r (k : Int) = true then evL r tz n (k + 1) else []) else []
def ramp_Events.f (l0 : List S87) (a1 : Int) : Option (List S106 × Int) :=
  match l0 with
  | [x] => if (rOf x).Ok ∧ 0 ≤ a1 ∧ a1 ≤ 4000 then some (evL (rOf x) a1 5000 0, 0) else none
  | _ => none
def lenOf : Value → Nat
  | .slice _ n _ => n
  | _ => 0
set_option maxHeartbeats 4000000 in
set_option maxRecDepth 100000 in
theorem ramp_Events.calls (A0 : Option Addr) (c0 : Nat) (l0 : List S87) (a1 : Int) (r1 : List S106) (r2 : Int) (w : World) (hr0 : Kd.C k87 w A0 l0.length l0) (hc0 : l0.length ≤ c0) (h : ramp_Events.f l0 a1 = some (r1, r2)) :
    Calls Try.prog 52 #[.slice A0 l0.length c0, .int .i64 a1] w fun e w' => ∃ v0_ : Value, e = .returned (.tuple #[v0_, .int .i64 r2]) ∧ Kd.R k106 106 w' w.heap.size (fun _ => True) v0_ r1 ∧ Below w.heap.size w w' := by
  match l0, h with
  | [], h => cases h
  | x :: y :: l, h => cases h
  | [x], h =>
  unfold ramp_Events.f at h
  simp only at h
  split at h
  case isFalse => cases h
  case isTrue hb =>
  simp only [Option.some.injEq, Prod.mk.injEq] at h
  obtain ⟨rfl, rfl⟩ := h
  obtain ⟨r, hr⟩ : ∃ r, rOf x = r := ⟨_, rfl⟩
  rw [hr] at hb ⊢
  obtain ⟨ad, hA, p0, p1, p2, p3, p4, p5, p6, p7⟩ := at_T87 hr0 0 (by omega) (by simp)
  subst hA
  have hx : rd_T87 [x] 0 = x := rfl
  have e0 : x.f0 = r.wo := by rw [← hr]; rfl
  have e1 : x.f1 = r.pl := by rw [← hr]; rfl
  have e2 : x.f2 = r.fr := by rw [← hr]; rfl
  have e3 : x.f3 = r.st := by rw [← hr]; rfl
  have e4 : x.f4 = r.tt := by rw [← hr]; rfl
  have e5 : x.f5 = r.fi := by rw [← hr]; rfl
  have e6 : x.f6 = r.ev := by rw [← hr]; rfl
  have e7 : x.f7 = r.ag := by rw [← hr]; rfl
  simp only [hx, e0, e1, e2, e3, e4, e5, e6, e7] at p0 p1 p2 p3 p4 p5 p6 p7
  have HOK := Aside0.mk hb.1
  have HTO := Aside0.mk hb.2
  have t0 : 0 ≤ a1 := hb.2.1
  have t1 : a1 ≤ 4000 := hb.2.2
  clear hr0 hc0 hb hr hx e0 e1 e2 e3 e4 e5 e6 e7
  show Calls Try.prog 52 #[.slice (some ad) 1 c0, .int .i64 a1] w _
  go_enter Try.func52, Try.ntmps52
  go_wp2
  obtain ⟨gh, hgh⟩ : ∃ gh, gh = w.heap.size := ⟨_, rfl⟩
  obtain ⟨W0, hW0⟩ : ∃ W0, W0 = w.alloc (.cells #[.slice none 0 0] 198) := ⟨_, rfl⟩
  have HH0 : Aside0 (HAt W0 gh (.slice none 0 0)) := ⟨by rw [hW0, hgh]; exact blk_new w _⟩
  have HB0 : Aside0 (Below w.heap.size w W0) := ⟨by rw [hW0]; exact (Below.refl _ _).alloc (Nat.le_refl _) _⟩
  have HGH := Aside0.mk (show w.heap.size ≤ gh by omega)
  rw [← hW0, ← hgh]
  clear hW0 hgh
  go_loopw [12, 5, 4] (fun v12 v5 v4 wr => v5 = .int .i64 0 ∧ v4 = .slice none 0 0 ∧ ((v12 = .int .i64 0 ∧ W0 = wr) ∨ (v12 = .int .i64 1 ∧ ∃ gn gr c, Aside0 (OneH wr gh gn gr c) ∧ Aside0 (wr.heap[gn]? = some (.cells (nvals r 0 0) 203 (0, 0))) ∧ Aside0 (Below w.heap.size w wr) ∧ Aside0 (w.heap.size ≤ gr ∧ w.heap.size ≤ gn)))) (fun v12 _ _ _ => 1 - (intOf v12).toNat)
  case atStart => exact ⟨rfl, rfl, .inl ⟨rfl, rfl⟩⟩
  case round =>
    obtain ⟨rfl, rfl, hrel⟩ := hrel
    rcases hrel with ⟨rfl, hw⟩ | ⟨rfl, gn, gr, c, HO, HN, HB, HG⟩
    · subst hw
      replace p0 := (HB0.out.cell (World.block_lt_of_cell? w _ p0)).trans p0
      replace p1 := (HB0.out.cell (World.block_lt_of_cell? w _ p1)).trans p1
      replace p2 := (HB0.out.cell (World.block_lt_of_cell? w _ p2)).trans p2
      replace p3 := (HB0.out.cell (World.block_lt_of_cell? w _ p3)).trans p3
      replace p4 := (HB0.out.cell (World.block_lt_of_cell? w _ p4)).trans p4
      replace p5 := (HB0.out.cell (World.block_lt_of_cell? w _ p5)).trans p5
      replace p6 := (HB0.out.cell (World.block_lt_of_cell? w _ p6)).trans p6
      replace p7 := (HB0.out.cell (World.block_lt_of_cell? w _ p7)).trans p7
      simp only [show ((0 : Int).toNat * 8) = 0 from rfl, Addr.add_zero'] at p0 p1 p2 p3 p4 p5 p6 p7
      go_upto_region 5 with (fail)
      obtain ⟨g8, hg8⟩ : ∃ g8, g8 = W0.heap.size := ⟨_, rfl⟩
      obtain ⟨W1, hW1⟩ : ∃ W1, W1 = W0.alloc (.cells (rvals r) 87) := ⟨_, rfl⟩
      have hb8 : W1.heap[g8]? = some (.cells (rvals r) 87 (0, 0)) := by rw [hW1, hg8]; exact blk_new W0 _
      have HB8 := Aside0.mk hb8
      have HB1 : Aside0 (Below w.heap.size w W1) := ⟨by rw [hW1]; exact HB0.out.alloc HB0.out.size _⟩
      have HH1 : Aside0 (HAt W1 gh (.slice none 0 0)) := ⟨by rw [hW1]; exact blk_alloc HH0.out _⟩
      unfold rvals at hW1
      rw [← hW1, ← hg8]
      have HRC := Aside0.mk (right_calls r W1)
      rw [decide_eq_true HOK.out] at HRC
      have hat := RAt.of_blk (r := r) hb8 rfl
      have c0 := hat.c0
      have c1 := hat.c1
      have c2 := hat.c2
      have c3 := hat.c3
      have c4 := hat.c4
      have c5 := hat.c5
      have c6 := hat.c6
      have c7 := hat.c7
      clear p0 p1 p2 p3 p4 p5 p6 p7 hW1 hg8 hb8 hat
      go_wp2_with fail
      refine HRC.out.mono ?_
      rintro e w2 ⟨rfl, hb2⟩
      have HB2 := Aside0.mk (HB1.out.trans (hb2.mono HB1.out.size))
      have HH2 : Aside0 (HAt w2 gh (.slice none 0 0)) := ⟨blk_below HH1.out hb2⟩
      have hat2 := RAt.of_blk (r := r) (blk_below HB8.out hb2) rfl
      replace c0 := hat2.c0
      replace c1 := hat2.c1
      replace c2 := hat2.c2
      replace c3 := hat2.c3
      replace c4 := hat2.c4
      replace c5 := hat2.c5
      replace c6 := hat2.c6
      replace c7 := hat2.c7
      clear hb2 hat2
      go_wp2_with fail
      obtain ⟨gn, hgn⟩ : ∃ gn, gn = w2.heap.size := ⟨_, rfl⟩
      obtain ⟨W3, hW3⟩ : ∃ W3, W3 = w2.alloc (.cells (nvals r 0 0) 203) := ⟨_, rfl⟩
      have HN3 : Aside0 (W3.heap[gn]? = some (.cells (nvals r 0 0) 203 (0, 0))) := ⟨by rw [hW3, hgn]; exact blk_new w2 _⟩
      have HB3 : Aside0 (Below w.heap.size w W3) := ⟨by rw [hW3]; exact HB2.out.alloc HB2.out.size _⟩
      have HH3 : Aside0 (HAt W3 gh (.slice none 0 0)) := ⟨by rw [hW3]; exact blk_alloc HH2.out _⟩
      have HGN := Aside0.mk (show w.heap.size ≤ gn by rw [hgn]; exact HB2.out.size)
      unfold nvals at hW3
      rw [← hW3, ← hgn]
      have HPU := Aside0.mk (push_calls w W3 gh gn HH3.out HB3.out HGH.out)
      clear hW3 hgn c0 c1 c2 c3 c4 c5 c6 c7
      refine HPU.out.mono ?_
      rintro e w4 ⟨rfl, hP⟩
      obtain ⟨gr, c, hO, hle, hBe, hk⟩ := hP
      have HO4 := Aside0.mk hO
      have HB4 := Aside0.mk hBe
      have HNE : gn ≠ gh := blk_ne HN3.out HH3.out (by decide)
      have HN4 := Aside0.mk (blk_kept HN3.out hk (fun e => HNE e))
      have HGR := Aside0.mk (show w.heap.size ≤ gr ∧ w.heap.size ≤ gn from ⟨Nat.le_trans HB3.out.size hle, HGN.out⟩)
      clear hO hle hBe hk HNE HPU
      go_wp2
      go_roundw
      case rel => exact ⟨rfl, rfl, .inr ⟨rfl, gn, gr, c, HO4, HN4, HB4, HGR⟩⟩
      case measure => simp [intOf]
    · clear p0 p1 p2 p3 p4 p5 p6 p7
      have hin : ramp_in.f a1 0 1000000 = some true := by rw [in_eq]; congr 1; rw [decide_eq_true_eq]; omega
      have HIN := Aside0.mk hin
      clear hin
      go_wp2_with fail
      refine (ramp_in.calls a1 0 1000000 true wr HIN.out).mono ?_
      rintro e w2 ⟨rfl, hd⟩
      obtain ⟨nq, rfl⟩ := hd.out
      have HO2 : Aside0 (OneH (wr.drewN nq) gh gn gr c) := ⟨HO.out⟩
      have HN2 : Aside0 ((wr.drewN nq).heap[gn]? = some (.cells (nvals r 0 0) 203 (0, 0))) := ⟨HN.out⟩
      have HB2 := Aside0.mk (pw_below_drewN HB.out nq)
      obtain ⟨W, hW⟩ : ∃ W, W = wr.drewN nq := ⟨_, rfl⟩
      rw [← hW] at HO2 HN2 HB2
      clear hd HO HN HB HH0 HB0
      rw [← hW]
      clear hW
      go_wp2
      go_loopw [4] (fun v4 wz => ∃ (k : Nat) (out : List S106), lenOf v4 = k ∧ Aside0 (out.length = k) ∧ Aside0 (Kd.R k106 106 wz w.heap.size (fun q => some q = v4.ownBlock) v4 out) ∧ Aside0 (Below w.heap.size w wz) ∧
        ((∃ c, Aside0 (OneH wz gh gn gr c) ∧ Aside0 (wz.heap[gn]? = some (.cells (nvals r 0 (k : Int)) 203 (0, 0))) ∧ Aside0 (out ++ evL r a1 (5000 - k) k = evL r a1 5000 0) ∧ k ≤ 4001) ∨ (∃ c, Aside0 (HAt wz gh (.slice (some ⟨gr, 0, none⟩) 0 c)) ∧ Aside0 (out = evL r a1 5000 0) ∧ k ≤ 4002))) (fun v4 _ => 5001 - lenOf v4)
      case atStart => exact ⟨0, [], rfl, ⟨rfl⟩, ⟨Kd.R_nil _ _ _ _ _⟩, HB2, .inl ⟨c, HO2, HN2, ⟨rfl⟩, by omega⟩⟩
      case round =>
        clear HO2 HN2 HB2
        obtain ⟨k, out, hlen, HLN, HR, HB, hph⟩ := hrel
        obtain ⟨A4, c4, rfl⟩ := Kd.R_slice HR.out
        rw [HLN.out] at HR ⊢
        clear hlen
        rcases hph with ⟨c, HO, HN, HE, hk⟩ | ⟨c, HH, HE, hk⟩
        · have x6 : wr.cell? ⟨gh, 0, none⟩ = some (.slice (some ⟨gr, 0, none⟩) 1 c) := (blk_cell HO.out.1 0).trans rfl
          have xr : wr.cell? ⟨gr, 0, none⟩ = some (.pointer (some ⟨gn, 0, none⟩)) := by
            obtain ⟨cs, hcs, h0⟩ := HO.out.2.1
            exact (blk_cell hcs 0).trans h0
          have hkb : 0 ≤ (k : Int) ∧ (k : Int) ≤ 1000001 := by omega
          have HAC := Aside0.mk (at_calls gn r 0 (k : Int) wr HN.out HOK.out hkb)
          have HKB := Aside0.mk hkb
          by_cases hat : r.fi + (k : Int) * r.ev ≤ a1
          · have HAT := Aside0.mk hat
            have d1 : decide (r.fi + (k : Int) * r.ev ≤ a1) = true := decide_eq_true hat
            go_wp2_with fail
            refine HAC.out.mono ?_
            rintro e w5 ⟨rfl, hd⟩
            obtain ⟨n5, hn5⟩ := hd.out
            have HO5 : Aside0 (OneH w5 gh gn gr c) := ⟨by rw [hn5]; exact HO.out⟩
            have HN5 : Aside0 (w5.heap[gn]? = some (.cells (nvals r 0 (k : Int)) 203 (0, 0))) := ⟨by rw [hn5]; exact HN.out⟩
            have HR5 := Aside0.mk (Kd.R_drewN HR.out n5)
            have HB5 := Aside0.mk (pw_below_drewN HB.out n5)
            rw [← hn5] at HR5 HB5
            have y6 : w5.cell? ⟨gh, 0, none⟩ = some (.slice (some ⟨gr, 0, none⟩) 1 c) := (blk_cell HO5.out.1 0).trans rfl
            have yr : w5.cell? ⟨gr, 0, none⟩ = some (.pointer (some ⟨gn, 0, none⟩)) := by
              obtain ⟨cs, hcs, h0⟩ := HO5.out.2.1
              exact (blk_cell hcs 0).trans h0
            obtain ⟨y, hy⟩ : ∃ y, evRec r k = y := ⟨_, rfl⟩
            have hev : evV r (k : Int) = .agg #[.int .i64 y.f0, .int .i64 y.f1, .int .u8 y.f2, .bool y.f3, .int .i64 y.f4, .int .i64 y.f5] := by rw [← hy]; rfl
            have HEV := Aside0.mk (event_calls gn r 0 (k : Int) w5 HN5.out HOK.out HKB.out)
            rw [hev] at HEV
            have HY := Aside0.mk hy
            have HK5 := Aside0.mk hk
            have d2 : ((k : Int) == 5000) = false := beq_eq_false_iff_ne.2 (by omega)
            have hkm : (k : Int) * 1 ≤ (k : Int) * r.ev := Int.mul_le_mul_of_nonneg_left HOK.out.2.2.2.2.2.1 (by omega)
            have hfi := HOK.out.2.2.2.2.1
            have HK4 := Aside0.mk (show k ≤ 4000 by omega)
            have HLO := Aside0.mk (show out.length ≤ 4001 by rw [HLN.out]; exact hk)
            clear hd hn5 HO HN HR HB x6 xr hy hev hk hkm hfi HAC
            go_wp2_with fail
            refine HEV.out.mono ?_
            rintro e w6 ⟨rfl, hb6⟩
            have HO6 : Aside0 (OneH w6 gh gn gr c) := ⟨⟨blk_below HO5.out.1 hb6, (HO5.out.2.1).imp (fun cs hcs => ⟨blk_below hcs.1 hb6, hcs.2⟩), HO5.out.2.2⟩⟩
            have HN6 := Aside0.mk (blk_below HN5.out hb6)
            have HR6 := Aside0.mk (Kd.R_below HR5.out hb6)
            have HB6 := Aside0.mk (HB5.out.trans (hb6.mono HB5.out.size))
            clear hb6 HO5 HN5 HR5 HB5 HEV y6 yr
            go_wp2_with ((with_reducible refine gate_builtin (b := .append) (xs := #[.tmp 53, .tmp 56]) rfl ?_); at_builtin; refine Kd.R_append k106 (w0 := w) w.heap.size rfl (.tmp 53) (.tmp 56) 88 106 (.agg #[(.int .i64 0), (.int .i64 0), (.int .u8 0), (.bool false), (.int .i64 0), (.int .i64 0)]) 40 rfl Try.underlying88 info106 rfl (by decide) (by omega) (.slice A4 k c4) out y [.int .i64 y.f0, .int .i64 y.f1, .int .u8 y.f2, .bool y.f3, .int .i64 y.f4, .int .i64 y.f5] (fun q => some q = (Value.slice A4 k c4).ownBlock ∨ w6.heap.size ≤ q) (fun _ => False) rfl rfl (k106_mkM _ _ _ y) (fun _ h => h.elim) (fun _ h => .inr h) (Kd.R_mono HR6.out (fun _ h => .inl h)) HB6.out HB6.out.size (by have := HLO.out; omega) ?_; intro v7 w7 ho hb hg hat7; have HO7 := Aside0.mk (Kd.R_tight rfl ho); have HB7 := Aside0.mk hb; have HG7 := Aside0.mk hg; clear ho hb hg hat7)
            have HX7 : Aside0 (OneH w7 gh gn gr c) := ⟨by
              obtain ⟨cs, hcs, h0⟩ := HO6.out.2.1
              exact ⟨blk_grown HO6.out.1 HG7.out (Kd.R_ne HR6.out HO6.out.1 (by decide)), ⟨cs, blk_grown hcs HG7.out (Kd.R_ne HR6.out hcs (by decide)), h0⟩, HO6.out.2.2⟩⟩
            have HN7 : Aside0 (w7.heap[gn]? = some (.cells (nvals r 0 (k : Int)) 203 (0, 0))) := ⟨blk_grown HN6.out HG7.out (Kd.R_ne HR6.out HN6.out (by decide))⟩
            have HGO := Aside0.mk (goes_calls gn r 0 (k : Int) w7 HN7.out HOK.out ⟨HKB.out.1, by have := HK4.out; omega⟩)
            clear HO6 HN6 HR6 HB6 HG7
            go_wp2_with fail
            refine HGO.out.mono ?_
            rintro e w8 ⟨rfl, hn8, hd8⟩
            obtain ⟨n8, rfl⟩ := hd8.out
            obtain ⟨w9, hw9⟩ : ∃ w9, w9 = (w7.setCell ⟨gn, 9, none⟩ (.int .i64 ((k : Int) + 1))).drewN n8 := ⟨_, rfl⟩
            have HN9 : Aside0 (w9.heap[gn]? = some (.cells (nvals r 0 ((k + 1 : Nat) : Int)) 203 (0, 0))) := ⟨by rw [hw9]; exact hn8⟩
            have hfar : ∀ q : Nat, q ≠ gn → w9.heap[q]? = w7.heap[q]? := fun q hq => by rw [hw9]; exact Below.heap_setCell w7 ⟨gn, 9, none⟩ _ q hq
            have HX9 : Aside0 (OneH w9 gh gn gr c) := ⟨by
              obtain ⟨cs, hcs, h0⟩ := HX7.out.2.1
              exact ⟨(hfar gh (blk_ne HX7.out.1 HN7.out (by decide))).trans HX7.out.1, ⟨cs, (hfar gr (blk_ne hcs HN7.out (by decide))).trans hcs, h0⟩, HX7.out.2.2⟩⟩
            have HR9 : Aside0 (Kd.R k106 106 w9 w.heap.size (fun q => some q = v7.ownBlock) v7 (out ++ [y])) := ⟨by rw [hw9]; exact Kd.R_drewN (Kd.R_set HO7.out HN7.out (by intro q hq; simp [k106, Kd.iso, Kd.pair, Kd.int, Kd.bool, Kd.scalar] at hq; omega) 9 _) n8⟩
            have HB9 : Aside0 (Below w.heap.size w w9) := ⟨by rw [hw9]; exact pw_below_drewN (HB7.out.setCell HG.out.2 _) n8⟩
            have HL9 : Aside0 ((out ++ [y]).length = k + 1) := ⟨by rw [List.length_append, HLN.out]; rfl⟩
            have hv7 : lenOf v7 = k + 1 := by
              obtain ⟨A7, c7, h7⟩ := Kd.R_slice HR9.out
              rw [h7]; exact HL9.out
            have HV7 := Aside0.mk hv7
            have HUN : Aside0 (out ++ [y] ++ (if goF r (k : Int) = true then evL r a1 (5000 - (k + 1)) (k + 1) else []) = evL r a1 5000 0) := ⟨by
              have h1 := HE.out
              have hk5 := HK4.out
              rw [show 5000 - k = (5000 - (k + 1)) + 1 by omega] at h1
              unfold evL at h1
              rw [if_pos HAT.out, HY.out] at h1
              rw [List.append_assoc]
              exact h1⟩
            rw [← hw9]
            clear hw9 hn8 hd8 hfar hv7 HX7 HN7 HO7 HB7 HGO d1 d2
            obtain ⟨go, hgo⟩ : ∃ go, goF r (k : Int) = go := ⟨_, rfl⟩
            rw [hgo] at HUN ⊢
            clear hgo
            cases go with
            | true =>
              go_wp2_with fail
              refine (fix_calls gh (some ⟨gr, 0, none⟩) c w9 HX9.out.1).mono ?_
              rintro e w10 ⟨rfl, hw10⟩
              subst hw10
              go_wp2
              go_roundw
              case rel => exact ⟨k + 1, out ++ [y], HV7.out, HL9, HR9, HB9, .inl ⟨c, HX9, HN9, ⟨by have h1 := HUN.out; (first | rw [if_pos trivial] at h1 | rw [if_pos rfl] at h1); exact h1⟩, by have := HK4.out; omega⟩⟩
              case measure => rw [HV7.out]; have := HK4.out; show 5001 - (k + 1) < 5001 - k; omega
            | false =>
              go_wp2_with fail
              refine (pop_calls w w9 gh gn gr c HX9.out HB9.out HGH.out HG.out.1).mono ?_
              rintro e w10 ⟨rfl, hh10, hb10, hk10⟩
              have HH10 := Aside0.mk hh10
              have HB10 := Aside0.mk hb10
              have HR10 := Aside0.mk (Kd.R_kept HR9.out hk10 (fun q hq h => Kd.R_ne HR9.out HX9.out.1 (by decide) (h ▸ hq)))
              clear hh10 hb10 hk10
              go_wp2
              go_roundw
              case rel => exact ⟨k + 1, out ++ [y], HV7.out, HL9, HR10, HB10, .inr ⟨c, HH10, ⟨by have h1 := HUN.out; (first | rw [if_neg (by decide), List.append_nil] at h1 | rw [if_neg (fun h => h), List.append_nil] at h1); exact h1⟩, by have := HK4.out; omega⟩⟩
              case measure => rw [HV7.out]; have := HK4.out; show 5001 - (k + 1) < 5001 - k; omega
          · have d1 : decide (r.fi + (k : Int) * r.ev ≤ a1) = false := decide_eq_false hat
            have HEZ : Aside0 (out = evL r a1 5000 0) := ⟨by
              have h1 := HE.out
              rw [show 5000 - k = (4999 - k) + 1 by omega] at h1
              unfold evL at h1
              rw [if_neg hat, List.append_nil] at h1
              exact h1⟩
            clear hat
            go_wp2_with fail
            refine HAC.out.mono ?_
            rintro e w5 ⟨rfl, hd⟩
            obtain ⟨n5, rfl⟩ := hd.out
            have HRZ := Aside0.mk (Kd.R_mono (ok' := fun _ => True) (Kd.R_drewN HR.out n5) (fun _ _ => trivial))
            have HBZ := Aside0.mk (pw_below_drewN HB.out n5)
            clear hd
            go_wp2
            go_ret2
            exact ⟨_, rfl, by rw [← HEZ.out]; exact HRZ.out, HBZ.out⟩
        · have x6 : wr.cell? ⟨gh, 0, none⟩ = some (.slice (some ⟨gr, 0, none⟩) 0 c) := (blk_cell HH.out 0).trans rfl
          have HRZ := Aside0.mk (Kd.R_mono (ok' := fun _ => True) HR.out (fun _ _ => trivial))
          go_wp2
          go_ret2
          exact ⟨_, rfl, by rw [← HE.out]; exact HRZ.out, HB.out⟩

end Go.Proofs.Ytballgciakljnaa.PRampLast

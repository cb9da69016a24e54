/- What a walk of strings.Builder meets, at hand: the kit's laws, and a string out of a row of bytes. By this session. -/
import Derived.Test.YtballgciakljnaaMine
import Derived.Lib.Builder
import Derived.Lib.UnsafeStr
namespace Go.Proofs.YtballgciakljnaaM
open Go.RowKit Go.Proofs.YtballgciakljnaaW.PrintWords Go.Proofs.YtballgciakljnaaW.PrintMore
theorem bd_neq (P : Program) (w : World) (tp te : TypeId) (s : Nat) (a : Addr) (hp : P.underlying tp = some (.pointer te)) (hte : (P.info? te).map (·.size) = some s) :
    (binOp .neq tp (.pointer (some a)) (.pointer (some a))).run P w = .ok (.bool false) w := by
  obtain ⟨j, hj, _⟩ := Option.map_eq_some_iff.1 hte
  exact Lib.run_neq_ptr_same w a hp hj
theorem bd_to (P : Program) (w : World) (src dst t e : TypeId) (s cells b o : Nat) (hs : P.underlying src = some (.pointer t)) (hd : P.underlying dst = some .unsafePointer) (ht : (P.info? t).map (·.size) = some s) (hj : s ≠ 0)
    (hsh : w.shape? b = some (e, cells)) (hoff : o < cells) : (convert src dst (.pointer (some ⟨b, o, none⟩))).run P w = .ok (.pointer (some ⟨b, o, none⟩)) w := by
  obtain ⟨j, hj1, hj2⟩ := Option.map_eq_some_iff.1 ht
  exact Lib.run_to_unsafe w ⟨b, o, none⟩ hs hd hj1 (by rw [hj2]; exact hj) hsh hoff
theorem bd_from (P : Program) (w : World) (src dst u e : TypeId) (s cells b o : Nat) (hs : P.underlying src = some .unsafePointer) (hd : P.underlying dst = some (.pointer u)) (hu : (P.info? u).map (·.size) = some s)
    (hsh : w.shape? b = some (e, cells)) (hlies : liesAt P P.depth e (cells / P.cellsOf e) o u 1 = true) : (convert src dst (.pointer (some ⟨b, o, none⟩))).run P w = .ok (.pointer (some ⟨b, o, none⟩)) w := by
  obtain ⟨j, hj1, _⟩ := Option.map_eq_some_iff.1 hu
  exact Lib.run_from_unsafe w ⟨b, o, none⟩ hs hd hj1 hsh hlies
theorem bd_data (P : Program) (w : World) (ts : Array TypeId) (ty : TypeId) (g n c : Nat) (hc : c ≠ 0) : (Builtin.unsafeSliceData_ ts ty #[.slice (some ⟨g, 0, none⟩) n c]).run P w = .ok (.pointer (some ⟨g, 0, none⟩)) w := Lib.run_unsafeSliceData_row w ts ty ⟨g, 0, none⟩ n c hc
theorem bd_string (P : Program) (w : World) (pt it ty e : TypeId) (hp : P.underlying pt = some (.pointer e)) (hc : P.cellsOf e = 1) (g cells : Nat) (hsh : w.shape? g = some (e, cells)) (xs : List Int) (h0 : xs ≠ []) (hn : xs.length ≤ cells) (h63 : xs.length ≤ 9223372036854775807)
    (hb : ∀ x ∈ xs, 0 ≤ x ∧ x ≤ 255) (hcell : ∀ j x, xs[j]? = some x → w.cell? ⟨g, j, none⟩ = some (.int .u8 x)) :
    (Builtin.unsafeString_ #[pt, it] ty #[.pointer (some ⟨g, 0, none⟩), .int .i64 xs.length]).run P w = .ok (.string (strOfNums xs)) (w.freeze ⟨g, 0, none⟩ xs.length) := by
  have h := Lib.run_unsafeString_row (P := P) w pt it ty e hp hc g cells hsh (xs.map fun n => UInt8.ofNat n.toNat) (by simpa using h0) (by simpa using hn) (by simpa using h63) (fun j x hx => by
    rw [List.getElem?_map] at hx
    obtain ⟨y, hy, rfl⟩ := Option.map_eq_some_iff.1 hx
    have hyb := hb y (List.mem_of_getElem? hy)
    have hq := hcell j y hy
    have e1 : ((UInt8.ofNat y.toNat).toNat : Int) = y := by
      rw [UInt8.toNat_ofNat']
      omega
    rw [e1]
    have e2 : (⟨g, 0, none⟩ : Addr).add j = ⟨g, j, none⟩ := by
      unfold Addr.add
      by_cases h : j = 0
      · subst h; simp
      · simp [h]
    rw [e2]
    exact hq)
  rw [List.length_map] at h
  exact h
theorem bd_below (B : Nat) (a w : World) (g n : Nat) (h : Below B a w) (hp : B ≤ g) : Below B a (w.freeze ⟨g, 0, none⟩ n) := Lib.below_freeze h (p := ⟨g, 0, none⟩) hp n
end Go.Proofs.YtballgciakljnaaM

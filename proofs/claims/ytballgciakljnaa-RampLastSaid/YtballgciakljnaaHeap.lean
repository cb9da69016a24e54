/- Methods called through an interface value that holds a pointer. By this session. -/
import Derived.Test.YtballgciakljnaaMine
namespace Go.Proofs.YtballgciakljnaaM
open Go.RowKit Go.Proofs.YtballgciakljnaaW.PrintWords
theorem loadVar_one {P : Program} {w : World} {t : TypeId} {e : TypeId} {g : Nat} {v : Value} (ht : P.underlying t = some (.slice e)) (hc : w.cell? ⟨g, 0, none⟩ = some v) : (loadVar t ⟨g, 0, none⟩).run P w = .ok v w := by
  have hagg : (isAgg t).run P w = .ok false w := by
    unfold isAgg
    rw [Sem.run_bind, run_underlying ht w]
    simp
  unfold loadVar
  rw [Sem.run_bind, hagg]
  simp only [Result.andThen_ok]
  rw [if_neg (by decide)]
  simp [hc]
theorem wrap_one {P : Program} {w : World} (t : TypeId) (a : Addr) (s1 s2 : String) : (Builtin.ssaWrapNilChk_ #[t] t #[.pointer (some a), strVal s1, strVal s2]).run P w = .ok (.pointer (some a)) w := rfl
theorem meth_val {P : Program} {w : World} {t el e : TypeId} {name : String} {f g : Nat} {v : Value}
    (hm : (P.info? t).bind (fun ti => (ti.methods.find? (·.name == name)).map fun m => (m.path, m.func)) = some (#[], some (f, false))) (hu : P.underlying t = some (.pointer el)) (he : P.underlying el = some (.slice e)) (hc : w.cell? ⟨g, 0, none⟩ = some v) (n : Nat) :
    (method (n + 1) t (.pointer (some ⟨g, 0, none⟩)) name).run P w = .ok (f, v) w := by
  obtain ⟨ti, hti, hm⟩ := Option.bind_eq_some_iff.1 hm
  obtain ⟨m, hfm, hm⟩ := Option.map_eq_some_iff.1 hm
  simp only [Prod.mk.injEq] at hm
  obtain ⟨hp, hf⟩ := hm
  have hl := loadVar_one he hc
  unfold method
  simp [typeInfo, hti, hfm, hp, hf, follow, receiverAt, Sem.run_bind, run_underlying hu, Place.get, wrap_one, asAddr, hl]
theorem meth_ptr {P : Program} {w : World} {t el : TypeId} {name : String} {f : Nat} {a : Addr}
    (hm : (P.info? t).bind (fun ti => (ti.methods.find? (·.name == name)).map fun m => (m.path, m.func)) = some (#[], some (f, true))) (hu : P.underlying t = some (.pointer el)) (n : Nat) :
    (method (n + 1) t (.pointer (some a)) name).run P w = .ok (f, .pointer (some a)) w := by
  obtain ⟨ti, hti, hm⟩ := Option.bind_eq_some_iff.1 hm
  obtain ⟨m, hfm, hm⟩ := Option.map_eq_some_iff.1 hm
  simp only [Prod.mk.injEq] at hm
  obtain ⟨hp, hf⟩ := hm
  unfold method
  simp [typeInfo, hti, hfm, hp, hf, follow, receiverAt, Sem.run_bind, run_underlying hu, Place.get]
end Go.Proofs.YtballgciakljnaaM

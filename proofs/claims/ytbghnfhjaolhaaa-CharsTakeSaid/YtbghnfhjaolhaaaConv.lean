/- '[]byte("..")' of a constant: the kit's law, at hand. By this session. -/
import Derived.Test.YtbghnfhjaolhaaaMine
import Derived.Lib.SlBytesConst
namespace Go.Proofs.YtbghnfhjaolhaaaM
theorem run_lit (P : Program) (w : World) (t e : TypeId) (C : Array Value) (n c : Nat) (ht : P.underlying t = some (.slice e)) (he : P.underlying e = some (.int .u8)) :
    (convert t t (.slice (some ⟨w.heap.size, 0, none⟩) n c)).run P (w.alloc (.cells C e)) = .ok (.slice (some ⟨w.heap.size, 0, none⟩) n c) (w.alloc (.cells C e (C.size, C.size + 1))) := Lib.run_convert_bytes_const w t e C n c ht he
theorem lit_new (w : World) (C : Array Value) (e : TypeId) (f : Nat × Nat) : (w.alloc (.cells C e f)).heap[w.heap.size]? = some (.cells C e f) := by
  show (w.heap.push _)[w.heap.size]? = _
  simp
end Go.Proofs.YtbghnfhjaolhaaaM

/- Where a byte stands in a text: the kit's law, at hand. By this session. -/
import Derived.Test.YtballgciakljnaaMine
import Derived.Lib.Bytealg
namespace Go.Proofs.YtballgciakljnaaM
theorem idx_text {P : Program} (s : ByteArray) (c : Int) (w : World) : (Extern.BytealgIndexByte.indexByte #[.string s, .int .u8 c]).run P w = .ok (.int .i64 (Lib.indexByte s.data.toList c.toNat.toUInt8)) w := Lib.run_indexByteString s c w
end Go.Proofs.YtballgciakljnaaM

/- Laid by the shelf's tools (lay-shelf.mjs, lay-plain.mjs) at this translation; remarks struck. -/
import Derived.Shelf.Small.Bits
import Derived.Test.YtmcbpoejdgobnaaProg
namespace Go.Proofs
open Go.Shelf
def Try.lays127_ren : Go.Shelf.Ren := ⟨fun | 127 => 18 | n => n, fun | 49 => 22 | 3 => 3 | 4 => 4 | 46 => 42 | 5 => 5 | 9 => 9 | n => n, fun | n => n⟩
theorem Try.lays127 : Go.Proofs.Lays.n127 Try.prog Try.lays127_ren := {
  mixed := by kernel_rfl
  f127 := Try.func18.trans (congrArg some (by kernel_rfl))
  t3 := Try.underlying3
  a3 := Try.isAgg3
  z3 := Try.sizeOf3
  v3 := Try.zeroValue3
  t4 := Try.underlying4
  a4 := Try.isAgg4
  z4 := Try.sizeOf4
  v4 := Try.zeroValue4
  t5 := Try.underlying5
  a5 := Try.isAgg5
  z5 := Try.sizeOf5
  v5 := Try.zeroValue5
  t9 := Try.underlying9
  a9 := Try.isAgg9
  z9 := Try.sizeOf9
  v9 := Try.zeroValue9
  t46 := Try.underlying42
  a46 := Try.isAgg42
  z46 := Try.sizeOf42
  v46 := Try.zeroValue42
  t49 := Try.underlying22
  a49 := Try.isAgg22
  z49 := Try.sizeOf22
  v49 := Try.zeroValue22 }
theorem Try.bits_Len16 (x : Int) (w : World) (h0 : 0 ≤ x) (h1 : x ≤ 65535) :
    Calls Try.prog 18 #[.int .u16 x] w fun e w' => e = .returned (.int .i64 (Lib.bitLen x.toNat)) ∧ w' = w := Any.bits_Len16 Try.lays127 x w h0 h1
end Go.Proofs

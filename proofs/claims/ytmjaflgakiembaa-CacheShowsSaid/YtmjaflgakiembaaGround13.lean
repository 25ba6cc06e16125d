/- Own work: texts of the proof of a law (CaEnv, CaD, CaC1, CaC2, CaC3, CaC4, CaC5, CaC6, CaC7, CaC8, CaC9, CaC14). No condition. -/
import Derived.Test.YtmjaflgakiembaaGround12
import Derived.Test.YtmjaflgakiembaaProg
import Derived.KernelRfl
namespace Go.Proofs
open Go Go.Sx
def Try.E : Go.Sx.Env := [
  {},
  ⟨true, 1, 8, .other, (some [.lit .nilFunc]), false⟩,
  ⟨true, 1, 8, (.int .i64), (some [.int .i64 0]), false⟩,
  ⟨true, 1, 8, (.int .i64), (some [.int .i64 0]), false⟩,
  ⟨true, 1, 1, .bool, (some [.prop False inferInstance]), false⟩,
  ⟨true, 1, 1, (.int .u8), (some [.int .u8 0]), false⟩,
  {},
  {},
  {},
  ⟨true, 1, 16, .str, (some [.lit (.string ByteArray.empty)]), false⟩,
  {},
  {},
  ⟨true, 1, 8, (.int .u64), (some [.int .u64 0]), false⟩,
  {},
  {},
  {},
  {},
  {},
  {},
  {},
  {},
  ⟨true, 1, 4, (.int .i32), (some [.int .i32 0]), false⟩,
  ⟨true, 1, 24, (.slice 42), (some [.lit (.slice none 0 0)]), false⟩,
  ⟨true, 2, 32, (.struct [(0, 1, 3), (1, 1, 22)]), (some [.int .i64 0, .lit (.slice none 0 0)]), true⟩,
  ⟨true, 2, 32, (.struct [(0, 1, 3), (1, 1, 22)]), (some [.int .i64 0, .lit (.slice none 0 0)]), true⟩,
  ⟨true, 1, 24, (.slice 37), (some [.lit (.slice none 0 0)]), false⟩,
  ⟨true, 1, 8, .other, (some [.lit .nilFunc]), false⟩,
  ⟨true, 1, 8, .other, (some [.lit .nilFunc]), false⟩,
  ⟨true, 1, 8, (.int .i64), (some [.int .i64 0]), false⟩,
  {},
  ⟨true, 1, 8, .other, (some [.lit .nilFunc]), false⟩,
  ⟨true, 1, 24, (.slice 3), (some [.lit (.slice none 0 0)]), false⟩,
  ⟨true, 1, 24, (.slice 31), (some [.lit (.slice none 0 0)]), false⟩,
  ⟨true, 3, 56, (.struct [(0, 1, 31), (1, 1, 32), (2, 1, 3)]), (some [.lit (.slice none 0 0), .lit (.slice none 0 0), .int .i64 0]), true⟩,
  ⟨true, 3, 56, (.struct [(0, 1, 31), (1, 1, 32), (2, 1, 3)]), (some [.lit (.slice none 0 0), .lit (.slice none 0 0), .int .i64 0]), true⟩,
  ⟨true, 1, 8, .other, (some [.lit .nilFunc]), false⟩,
  ⟨true, 2, 16, (.struct [(0, 1, 3), (1, 1, 3)]), (some [.int .i64 0, .int .i64 0]), true⟩,
  ⟨true, 2, 16, (.struct [(0, 1, 3), (1, 1, 3)]), (some [.int .i64 0, .int .i64 0]), true⟩,
  {},
  ⟨true, 1, 8, .other, (some [.lit .nilFunc]), false⟩,
  ⟨true, 1, 8, .other, (some [.lit .nilFunc]), false⟩,
  ⟨true, 2, 16, (.struct [(0, 1, 3), (1, 1, 3)]), (some [.int .i64 0, .int .i64 0]), true⟩,
  ⟨true, 2, 16, (.struct [(0, 1, 3), (1, 1, 3)]), (some [.int .i64 0, .int .i64 0]), true⟩,
  ⟨true, 1, 8, .other, (some [.lit .nilFunc]), false⟩,
  ⟨true, 1, 8, .other, (some [.lit .nilFunc]), false⟩,
  ⟨true, 2, 32, (.struct [(0, 1, 25), (1, 1, 4)]), (some [.lit (.slice none 0 0), .prop False inferInstance]), true⟩,
  ⟨true, 2, 32, (.struct [(0, 1, 25), (1, 1, 4)]), (some [.lit (.slice none 0 0), .prop False inferInstance]), true⟩,
  {},
  ⟨true, 1, 8, .other, (some [.lit .nilFunc]), false⟩,
  {},
  ⟨true, 1, 8, .other, (some [.lit .nilFunc]), false⟩,
  ⟨true, 1, 8, .other, (some [.lit .nilFunc]), false⟩,
  ⟨true, 1, 8, .other, (some [.lit .nilFunc]), false⟩,
  ⟨true, 1, 8, .other, (some [.lit .nilFunc]), false⟩,
  ⟨true, 1, 8, .other, (some [.lit .nilFunc]), false⟩,
  ⟨true, 1, 8, .other, (some [.lit .nilFunc]), false⟩,
  ⟨true, 1, 8, .other, (some [.lit .nilFunc]), false⟩,
  ⟨true, 1, 8, .other, (some [.lit .nilFunc]), false⟩,
  {},
  ⟨true, 1, 8, .other, (some [.lit .nilFunc]), false⟩,
  ⟨true, 1, 8, .other, (some [.lit .nilFunc]), false⟩,
  ⟨true, 1, 8, .other, (some [.lit .nilFunc]), false⟩,
  ⟨true, 1, 8, .other, (some [.lit .nilFunc]), false⟩,
  ⟨true, 1, 8, .other, (some [.lit .nilFunc]), false⟩,
  ⟨true, 1, 8, .other, (some [.lit (.pointer none)]), false⟩,
  ⟨true, 1, 8, .other, (some [.lit .nilFunc]), false⟩,
  ⟨true, 1, 8, .other, (some [.lit .nilFunc]), false⟩,
  ⟨true, 6, 48, (.array 6 3), (some [.int .i64 0, .int .i64 0, .int .i64 0, .int .i64 0, .int .i64 0, .int .i64 0]), true⟩,
  ⟨true, 6, 48, (.array 6 3), (some [.int .i64 0, .int .i64 0, .int .i64 0, .int .i64 0, .int .i64 0, .int .i64 0]), true⟩,
  ⟨true, 1, 24, (.slice 68), (some [.lit (.slice none 0 0)]), false⟩,
  ⟨true, 8, 80, (.struct [(0, 6, 68), (6, 1, 69), (7, 1, 3)]), (some [.int .i64 0, .int .i64 0, .int .i64 0, .int .i64 0, .int .i64 0, .int .i64 0, .lit (.slice none 0 0), .int .i64 0]), true⟩,
  ⟨true, 8, 80, (.struct [(0, 6, 68), (6, 1, 69), (7, 1, 3)]), (some [.int .i64 0, .int .i64 0, .int .i64 0, .int .i64 0, .int .i64 0, .int .i64 0, .lit (.slice none 0 0), .int .i64 0]), true⟩,
  ⟨true, 1, 8, .other, (some [.lit .nilFunc]), false⟩,
  ⟨true, 1, 8, .other, (some [.lit .nilFunc]), false⟩,
  {},
  ⟨true, 1, 8, .other, (some [.lit .nilFunc]), false⟩,
  ⟨true, 1, 8, .other, (some [.lit .nilFunc]), false⟩,
  ⟨true, 1, 8, .other, (some [.lit .nilFunc]), false⟩,
  ⟨true, 1, 8, .other, (some [.lit .nilFunc]), false⟩,
  ⟨true, 1, 8, .other, (some [.lit .nilFunc]), false⟩,
  ⟨true, 1, 8, .other, (some [.lit .nilFunc]), false⟩,
  ⟨true, 1, 8, .other, (some [.lit .nilFunc]), false⟩,
  ⟨true, 1, 8, .other, (some [.lit .nilFunc]), false⟩,
  ⟨true, 2, 32, (.struct [(0, 1, 64), (1, 1, 25)]), (some [.lit (.pointer none), .lit (.slice none 0 0)]), true⟩,
  ⟨true, 2, 32, (.struct [(0, 1, 64), (1, 1, 25)]), (some [.lit (.pointer none), .lit (.slice none 0 0)]), true⟩,
  ⟨true, 9, 88, (.struct [(0, 2, 84), (2, 6, 68), (8, 1, 4)]), (some [.lit (.pointer none), .lit (.slice none 0 0), .int .i64 0, .int .i64 0, .int .i64 0, .int .i64 0, .int .i64 0, .int .i64 0, .prop False inferInstance]), true⟩,
  ⟨true, 9, 88, (.struct [(0, 2, 84), (2, 6, 68), (8, 1, 4)]), (some [.lit (.pointer none), .lit (.slice none 0 0), .int .i64 0, .int .i64 0, .int .i64 0, .int .i64 0, .int .i64 0, .int .i64 0, .prop False inferInstance]), true⟩,
  {},
  ⟨true, 1, 8, .other, (some [.lit .nilFunc]), false⟩,
  ⟨true, 1, 8, (.map 3 3), (some [.lit (.map none)]), false⟩,
  ⟨true, 1, 24, (.slice 86), (some [.lit (.slice none 0 0)]), false⟩,
  ⟨true, 1, 8, .other, (some [.lit .nilFunc]), false⟩,
  ⟨true, 1, 8, .other, (some [.lit .nilFunc]), false⟩,
  ⟨true, 1, 8, .other, (some [.lit .nilFunc]), false⟩,
  ⟨true, 1, 8, .other, (some [.lit .nilFunc]), false⟩,
  ⟨true, 1, 8, .other, (some [.lit .nilFunc]), false⟩,
  ⟨true, 1, 8, .other, (some [.lit .nilFunc]), false⟩,
  ⟨true, 1, 8, .other, (some [.lit .nilFunc]), false⟩,
  ⟨true, 1, 8, .other, (some [.lit .nilFunc]), false⟩,
  ⟨true, 1, 8, .other, (some [.lit .nilFunc]), false⟩,
  ⟨true, 1, 8, .other, (some [.lit .nilFunc]), false⟩,
  ⟨true, 1, 8, .other, (some [.lit (.pointer none)]), false⟩,
  ⟨true, 1, 8, .other, (some [.lit .nilFunc]), false⟩,
  ⟨true, 1, 8, .other, (some [.lit .nilFunc]), false⟩,
  ⟨true, 1, 8, .other, (some [.lit .nilFunc]), false⟩,
  ⟨true, 1, 24, (.slice 84), (some [.lit (.slice none 0 0)]), false⟩,
  ⟨true, 1, 8, .other, (some [.lit .nilFunc]), false⟩,
  ⟨true, 1, 8, (.map 110 3), (some [.lit (.map none)]), false⟩,
  ⟨true, 102, 816, (.array 17 68), (some [.int .i64 0, .int .i64 0, .int .i64 0, .int .i64 0, .int .i64 0, .int .i64 0, .int .i64 0, .int .i64 0, .int .i64 0, .int .i64 0, .int .i64 0, .int .i64 0, .int .i64 0, .int .i64 0, .int .i64 0, .int .i64 0, .int .i64 0, .int .i64 0, .int .i64 0, .int .i64 0, .int .i64 0, .int .i64 0, .int .i64 0, .int .i64 0, .int .i64 0, .int .i64 0, .int .i64 0, .int .i64 0, .int .i64 0, .int .i64 0, .int .i64 0, .int .i64 0, .int .i64 0, .int .i64 0, .int .i64 0, .int .i64 0, .int .i64 0, .int .i64 0, .int .i64 0, .int .i64 0, .int .i64 0, .int .i64 0, .int .i64 0, .int .i64 0, .int .i64 0, .int .i64 0, .int .i64 0, .int .i64 0, .int .i64 0, .int .i64 0, .int .i64 0, .int .i64 0, .int .i64 0, .int .i64 0, .int .i64 0, .int .i64 0, .int .i64 0, .int .i64 0, .int .i64 0, .int .i64 0, .int .i64 0, .int .i64 0, .int .i64 0, .int .i64 0, .int .i64 0, .int .i64 0, .int .i64 0, .int .i64 0, .int .i64 0, .int .i64 0, .int .i64 0, .int .i64 0, .int .i64 0, .int .i64 0, .int .i64 0, .int .i64 0, .int .i64 0, .int .i64 0, .int .i64 0, .int .i64 0, .int .i64 0, .int .i64 0, .int .i64 0, .int .i64 0, .int .i64 0, .int .i64 0, .int .i64 0, .int .i64 0, .int .i64 0, .int .i64 0, .int .i64 0, .int .i64 0, .int .i64 0, .int .i64 0, .int .i64 0, .int .i64 0, .int .i64 0, .int .i64 0, .int .i64 0, .int .i64 0, .int .i64 0, .int .i64 0]), true⟩,
  ⟨true, 109, 872, (.struct [(0, 6, 68), (6, 1, 3), (7, 102, 108)]), (some [.int .i64 0, .int .i64 0, .int .i64 0, .int .i64 0, .int .i64 0, .int .i64 0, .int .i64 0, .int .i64 0, .int .i64 0, .int .i64 0, .int .i64 0, .int .i64 0, .int .i64 0, .int .i64 0, .int .i64 0, .int .i64 0, .int .i64 0, .int .i64 0, .int .i64 0, .int .i64 0, .int .i64 0, .int .i64 0, .int .i64 0, .int .i64 0, .int .i64 0, .int .i64 0, .int .i64 0, .int .i64 0, .int .i64 0, .int .i64 0, .int .i64 0, .int .i64 0, .int .i64 0, .int .i64 0, .int .i64 0, .int .i64 0, .int .i64 0, .int .i64 0, .int .i64 0, .int .i64 0, .int .i64 0, .int .i64 0, .int .i64 0, .int .i64 0, .int .i64 0, .int .i64 0, .int .i64 0, .int .i64 0, .int .i64 0, .int .i64 0, .int .i64 0, .int .i64 0, .int .i64 0, .int .i64 0, .int .i64 0, .int .i64 0, .int .i64 0, .int .i64 0, .int .i64 0, .int .i64 0, .int .i64 0, .int .i64 0, .int .i64 0, .int .i64 0, .int .i64 0, .int .i64 0, .int .i64 0, .int .i64 0, .int .i64 0, .int .i64 0, .int .i64 0, .int .i64 0, .int .i64 0, .int .i64 0, .int .i64 0, .int .i64 0, .int .i64 0, .int .i64 0, .int .i64 0, .int .i64 0, .int .i64 0, .int .i64 0, .int .i64 0, .int .i64 0, .int .i64 0, .int .i64 0, .int .i64 0, .int .i64 0, .int .i64 0, .int .i64 0, .int .i64 0, .int .i64 0, .int .i64 0, .int .i64 0, .int .i64 0, .int .i64 0, .int .i64 0, .int .i64 0, .int .i64 0, .int .i64 0, .int .i64 0, .int .i64 0, .int .i64 0, .int .i64 0, .int .i64 0, .int .i64 0, .int .i64 0, .int .i64 0, .int .i64 0]), true⟩,
  ⟨true, 109, 872, (.struct [(0, 6, 68), (6, 1, 3), (7, 102, 108)]), (some [.int .i64 0, .int .i64 0, .int .i64 0, .int .i64 0, .int .i64 0, .int .i64 0, .int .i64 0, .int .i64 0, .int .i64 0, .int .i64 0, .int .i64 0, .int .i64 0, .int .i64 0, .int .i64 0, .int .i64 0, .int .i64 0, .int .i64 0, .int .i64 0, .int .i64 0, .int .i64 0, .int .i64 0, .int .i64 0, .int .i64 0, .int .i64 0, .int .i64 0, .int .i64 0, .int .i64 0, .int .i64 0, .int .i64 0, .int .i64 0, .int .i64 0, .int .i64 0, .int .i64 0, .int .i64 0, .int .i64 0, .int .i64 0, .int .i64 0, .int .i64 0, .int .i64 0, .int .i64 0, .int .i64 0, .int .i64 0, .int .i64 0, .int .i64 0, .int .i64 0, .int .i64 0, .int .i64 0, .int .i64 0, .int .i64 0, .int .i64 0, .int .i64 0, .int .i64 0, .int .i64 0, .int .i64 0, .int .i64 0, .int .i64 0, .int .i64 0, .int .i64 0, .int .i64 0, .int .i64 0, .int .i64 0, .int .i64 0, .int .i64 0, .int .i64 0, .int .i64 0, .int .i64 0, .int .i64 0, .int .i64 0, .int .i64 0, .int .i64 0, .int .i64 0, .int .i64 0, .int .i64 0, .int .i64 0, .int .i64 0, .int .i64 0, .int .i64 0, .int .i64 0, .int .i64 0, .int .i64 0, .int .i64 0, .int .i64 0, .int .i64 0, .int .i64 0, .int .i64 0, .int .i64 0, .int .i64 0, .int .i64 0, .int .i64 0, .int .i64 0, .int .i64 0, .int .i64 0, .int .i64 0, .int .i64 0, .int .i64 0, .int .i64 0, .int .i64 0, .int .i64 0, .int .i64 0, .int .i64 0, .int .i64 0, .int .i64 0, .int .i64 0, .int .i64 0, .int .i64 0, .int .i64 0, .int .i64 0, .int .i64 0, .int .i64 0]), true⟩,
  ⟨true, 1, 8, .other, (some [.lit .nilFunc]), false⟩,
  ⟨true, 1, 8, (.map 68 3), (some [.lit (.map none)]), false⟩,
  ⟨true, 1, 8, .other, (some [.lit .nilFunc]), false⟩,
  ⟨true, 1, 8, .other, (some [.lit .nilFunc]), false⟩,
  ⟨true, 1, 8, .other, (some [.lit .nilFunc]), false⟩,
  ⟨true, 1, 24, (.slice 34), (some [.lit (.slice none 0 0)]), false⟩,
  ⟨true, 1, 8, .other, (some [.lit .nilFunc]), false⟩,
  ⟨true, 1, 8, .other, (some [.lit .nilFunc]), false⟩,
  ⟨true, 1, 8, .other, (some [.lit .nilFunc]), false⟩,
  ⟨true, 1, 8, .other, (some [.lit .nilFunc]), false⟩,
  ⟨true, 1, 8, .other, (some [.lit .nilFunc]), false⟩,
  ⟨true, 1, 8, .other, (some [.lit .nilFunc]), false⟩,
  ⟨true, 1, 8, .other, (some [.lit .nilFunc]), false⟩,
  ⟨true, 1, 8, .other, (some [.lit .nilFunc]), false⟩,
  ⟨true, 1, 8, .other, (some [.lit .nilFunc]), false⟩,
  ⟨true, 1, 8, .other, (some [.lit .nilFunc]), false⟩,
  ⟨true, 1, 8, .other, (some [.lit .nilFunc]), false⟩,
  ⟨true, 1, 8, (.int .u64), (some [.int .u64 0]), false⟩,
  ⟨true, 1, 8, .other, (some [.lit .nilFunc]), false⟩,
  {},
  ⟨true, 1, 8, .other, (some [.lit .nilFunc]), false⟩,
  ⟨true, 1, 8, .other, (some [.lit .nilFunc]), false⟩,
  ⟨true, 1, 8, (.int .i64), (some [.int .i64 0]), false⟩,
  {},
  ⟨true, 1, 8, .other, (some [.lit .nilFunc]), false⟩,
  ⟨true, 1, 8, .other, (some [.lit .nilFunc]), false⟩,
  ⟨true, 1, 8, .other, (some [.lit .nilFunc]), false⟩,
  ⟨true, 1, 8, .other, (some [.lit .nilFunc]), false⟩,
  ⟨true, 1, 8, .other, (some [.lit .nilFunc]), false⟩,
  ⟨true, 1, 8, .other, (some [.lit .nilFunc]), false⟩,
  ⟨true, 1, 4, (.int .u32), (some [.int .u32 0]), false⟩,
  ⟨true, 1, 8, .other, (some [.lit .nilFunc]), false⟩,
  ⟨true, 1, 8, (.int .u64), (some [.int .u64 0]), false⟩,
  ⟨true, 1, 8, .other, (some [.lit .nilFunc]), false⟩,
  {},
  ⟨true, 1, 8, .other, (some [.lit .nilFunc]), false⟩,
  {},
  ⟨true, 1, 8, .other, (some [.lit .nilFunc]), false⟩,
  ⟨true, 1, 8, (.int .u64), (some [.int .u64 0]), false⟩,
  ⟨true, 1, 8, .other, (some [.lit .nilFunc]), false⟩,
  ⟨true, 1, 8, .other, (some [.lit .nilFunc]), false⟩,
  ⟨true, 1, 8, .other, (some [.lit .nilFunc]), false⟩,
  ⟨true, 1, 8, .other, (some [.lit (.pointer none)]), false⟩,
  ⟨true, 1, 8, .other, (some [.lit .nilFunc]), false⟩,
  ⟨true, 1, 8, .other, (some [.lit (.pointer none)]), false⟩,
  {},
  ⟨true, 1, 8, .other, (some [.lit .nilFunc]), false⟩,
  ⟨true, 1, 8, .other, (some [.lit .nilFunc]), false⟩,
  {},
  {},
  {},
  {},
  {},
  {},
  {},
  {},
  ⟨true, 1, 8, .other, (some [.lit (.pointer none)]), false⟩,
  {},
  {},
  {},
  {},
  {}]
def Try.mask (t : Nat) : Bool := List.elem t [1, 2, 3, 4, 5, 9, 12, 21, 22, 23, 24, 25, 26, 27, 28, 30, 31, 32, 33, 34, 35, 36, 37, 39, 40, 41, 42, 43, 44, 45, 46, 48, 50, 51, 52, 53, 54, 55, 56, 57, 59, 60, 61, 62, 63, 64, 65, 66, 67, 68, 69, 70, 71, 72, 73, 75, 76, 77, 78, 79, 80, 81, 82, 83, 84, 85, 86, 88, 89, 90, 91, 92, 93, 94, 95, 96, 97, 98, 99, 100, 101, 102, 103, 104, 105, 106, 107, 108, 109, 110, 111, 112, 113, 114, 115, 116, 117, 118, 119, 120, 121, 122, 123, 124, 125, 126, 127, 128, 129, 131, 132, 133, 135, 136, 137, 138, 139, 140, 141, 142, 143, 144, 146, 148, 149, 150, 151, 152, 153, 154, 155, 157, 158, 167]
theorem Try.E_eq : Try.E = (List.range 173).map (fun t => bif Try.mask t then Go.Sx.tiOf Try.prog t else {}) := by kernel_rfl
theorem Try.E_ok : Go.Sx.ProgOk Try.E Try.prog := ⟨Go.Sx.envOk_of Try.E_eq, by kernel_rfl⟩
end Go.Proofs


namespace Go.Proofs
open Go Go.Sx
set_option maxRecDepth 100000
set_option maxHeartbeats 4000000
structure C6 where
  a0 : Int
  a1 : Int
  a2 : Int
  a3 : Int
  a4 : Int
  a5 : Int
deriving DecidableEq
namespace C6
def all (n : Int) : C6 := ⟨n, n, n, n, n, n⟩
def get (c : C6) : Nat → Int
  | 0 => c.a0
  | 1 => c.a1
  | 2 => c.a2
  | 3 => c.a3
  | 4 => c.a4
  | 5 => c.a5
  | _ => 0
def set (c : C6) : Nat → Int → C6
  | 0, x => { c with a0 := x }
  | 1, x => { c with a1 := x }
  | 2, x => { c with a2 := x }
  | 3, x => { c with a3 := x }
  | 4, x => { c with a4 := x }
  | 5, x => { c with a5 := x }
  | _, _ => c
def c (m : C6) : List V := [.int .i64 m.a0, .int .i64 m.a1, .int .i64 m.a2, .int .i64 m.a3, .int .i64 m.a4, .int .i64 m.a5]
@[ext] theorem ext' {x y : C6} (h : ∀ b, b < 6 → x.get b = y.get b) : x = y := by
  cases x; cases y
  have h0 := h 0 (by omega)
  have h1 := h 1 (by omega)
  have h2 := h 2 (by omega)
  have h3 := h 3 (by omega)
  have h4 := h 4 (by omega)
  have h5 := h 5 (by omega)
  simp only [get] at h0 h1 h2 h3 h4 h5
  simp [*]
theorem get_set {x : C6} {b j : Nat} {n : Int} (hb : b < 6) (hj : j < 6) : (x.set b n).get j = if j = b then n else x.get j := by
  have hb' : b = 0 ∨ b = 1 ∨ b = 2 ∨ b = 3 ∨ b = 4 ∨ b = 5 := by omega
  have hj' : j = 0 ∨ j = 1 ∨ j = 2 ∨ j = 3 ∨ j = 4 ∨ j = 5 := by omega
  rcases hb' with rfl | rfl | rfl | rfl | rfl | rfl <;> rcases hj' with rfl | rfl | rfl | rfl | rfl | rfl <;> simp [get, set]
theorem get_all {n : Int} {b : Nat} (hb : b < 6) : (all n).get b = n := by
  have hb' : b = 0 ∨ b = 1 ∨ b = 2 ∨ b = 3 ∨ b = 4 ∨ b = 5 := by omega
  rcases hb' with rfl | rfl | rfl | rfl | rfl | rfl <;> rfl
end C6
structure PS where
  M : C6
  E : List C6
  W : Int
namespace PS
def ep (s : PS) (e : Nat) : C6 := s.E.getD e (C6.all (-3))
def begin : PS := ⟨C6.all (-1), [C6.all (-3)], 0⟩
def wr (s : PS) (e b : Nat) : PS := if (s.ep e).get b = -3 then s else ⟨s.M.set b ((s.ep e).get b), s.E.set e ((s.ep e).set b (-3)), s.W + 1⟩
def wrB (s : PS) (e : Nat) : Nat → PS
  | 0 => s
  | b + 1 => (s.wrB e b).wr e b
def wrE (s : PS) : Nat → PS
  | 0 => s
  | e + 1 => (s.wrE e).wrB e 6
def put (s : PS) (b : Nat) (n : Int) : PS := ⟨s.M, s.E.set (s.E.length - 1) ((s.ep (s.E.length - 1)).set b n), s.W⟩
def tidy (s : PS) : PS := ⟨s.M, (s.E.dropLast.filter (fun c => c ≠ C6.all (-3))) ++ [s.ep (s.E.length - 1)], s.W⟩
def order (s : PS) (n : Int) (o : Int × Int) : PS :=
  if o.1 = 1 then (s.put o.2.toNat n).tidy
  else if o.1 = 2 then ((((s.put o.2.toNat n).wrE (s.E.length - 1))).wr (s.E.length - 1) o.2.toNat).tidy
  else if o.1 = 3 then (⟨s.M, s.E ++ [C6.all (-3)], s.W⟩ : PS).tidy
  else if o.1 = 4 then (s.wrE s.E.length).tidy
  else s.tidy
def first (s : PS) : Option Nat := s.E.findIdx? (fun c => c ≠ C6.all (-3))
end PS
end Go.Proofs


namespace Go.Proofs
open Go Go.Sx
set_option maxRecDepth 100000
set_option maxHeartbeats 4000000
def oC (o : Int × Int) : List V := [.int .i64 o.1, .int .i64 o.2]
def oV (o : Int × Int) : V := .agg [.int .i64 o.1, .int .i64 o.2]
structure Cache where
  n : Int
  l : List (Int × Int)
namespace Cache
def c (x : Cache) : List V := [.int .i64 x.n, .sl 2 x.l.length (rowOf oC (0, 0) x.l)]
def v (x : Cache) : V := .agg [.int .i64 x.n, .sl 2 x.l.length (rowOf oC (0, 0) x.l)]
def OkO (n : Int) (o : Int × Int) : Prop := (o.1 = 1 ∨ o.1 = 2) ∧ (0 ≤ o.2 ∧ o.2 ≤ n - 1) ∨ (o.1 = 3 ∨ o.1 = 4) ∧ o.2 = 0
structure Ok (x : Cache) : Prop where
  n : 1 ≤ x.n ∧ x.n ≤ 6
  len : x.l.length ≤ 16
  ord : ∀ o ∈ x.l, OkO x.n o
end Cache
open Classical in
noncomputable def Cache.chk (x : Cache) : Int := if x.Ok then 0 else 80
theorem within51 (n x y : Int) : PureC Try.prog 51 false [.int .i64 n, .int .i64 x, .int .i64 y] (· = .prop (x ≤ n ∧ n ≤ y) inferInstance) := by
  refine pureC_of_exec Try.E_ok Try.func51 rfl (by kernel_rfl) ?_
  (repeat' ((conv => whnf); (first | (with_reducible first | apply spl | apply spl') <;> intro hc <;> try (exfalso; omega) | with_reducible refine iJ fun hc => ?_ | refine vcq (k := ?_) | fail))); all_goals ((try conv => whnf); try with_reducible exact trivial); (all_goals (try (refine ⟨_, rfl, ?_⟩; (repeat' ((conv => whnf); (first | (with_reducible first | apply spl | apply spl') <;> intro hc <;> try (exfalso; omega) | with_reducible refine iJ fun hc => ?_ | refine vcq (k := ?_) | fail))); all_goals ((try conv => whnf); try with_reducible exact trivial))))
theorem puts62 (o : Int × Int) : PureC Try.prog 62 false [oV o] (· = .prop (o.1 = 1 ∨ o.1 = 2) inferInstance) := by
  refine pureC_of_exec Try.E_ok Try.func62 rfl (by kernel_rfl) ?_
  (repeat' ((conv => whnf); (first | (with_reducible first | apply spl | apply spl') <;> intro hc <;> try (exfalso; omega) | with_reducible refine iJ fun hc => ?_ | refine vcq (k := ?_) | fail))); all_goals ((try conv => whnf); try with_reducible exact trivial); (all_goals (try (refine ⟨_, rfl, ?_⟩; (repeat' ((conv => whnf); (first | (with_reducible first | apply spl | apply spl') <;> intro hc <;> try (exfalso; omega) | with_reducible refine iJ fun hc => ?_ | refine vcq (k := ?_) | fail))); all_goals ((try conv => whnf); try with_reducible exact trivial))))
theorem check64 (n : Int) (hn : -1000 ≤ n ∧ n ≤ 1000) (m : Nat) (f : Nat → List V) (o : Int × Int) : PureC Try.prog 64 false [oV o, .iptr [.int .i64 n, .sl 2 m f]] (· = .prop (Cache.OkO n o) (Classical.propDecidable _)) := by
  refine pureC_of_exec Try.E_ok Try.func64 rfl (by kernel_rfl) ?_
  (repeat' ((conv => whnf); (first | (with_reducible first | apply spl | apply spl') <;> intro hc <;> try (exfalso; omega) | with_reducible refine iJ fun hc => ?_ | refine vcq (k := ?_) | fail))); all_goals ((try conv => whnf); try with_reducible exact trivial); (repeat' ((first | (refine callee_fo (puts62 o) rfl ?_; rintro _ rfl) | (refine pcall_intro (puts62 o) rfl ?_) | (refine pcall_soft (fun _ => puts62 o) rfl ?_) | (refine callee_fo (within51 _ _ _) rfl ?_; rintro _ rfl) | (refine pcall_intro (within51 _ _ _) rfl ?_) | (refine pcall_soft (fun _ => within51 _ _ _) rfl ?_)); (repeat' ((conv => whnf); (first | (with_reducible first | apply spl | apply spl') <;> intro hc <;> try (exfalso; omega) | with_reducible refine iJ fun hc => ?_ | refine vcq (k := ?_) | fail))); all_goals ((try conv => whnf); try with_reducible exact trivial))); (all_goals (try (refine ⟨_, rfl, ?_⟩; (repeat' ((conv => whnf); (first | (with_reducible first | apply spl | apply spl') <;> intro hc <;> try (exfalso; omega) | with_reducible refine iJ fun hc => ?_ | refine vcq (k := ?_) | fail))); all_goals ((try conv => whnf); try with_reducible exact trivial))))
  · exact ⟨by unfold Cache.OkO; omega, trivial⟩
  · exact ⟨by unfold Cache.OkO; omega, trivial⟩
theorem plain_of {g : FuncId} {fn : Func} (hf : Try.prog.funcs[g]? = some fn) (h1 : (fn.name == "runtime.NumGoroutine") = false) (h2 : fn.body.isNone = false) : Plain Try.prog g := ⟨fn, hf, h1, h2⟩
def TellO (p : Int × Int → Prop) : (Nat → Prop) → World → Value → Prop :=
  FnD Try.prog (fun o : Int × Int => [oV o]) (fun o r => r = .prop (p o) (Classical.propDecidable _))
theorem check66 (p : Int × Int → Prop) (o : Int × Int) : PureC Try.prog 66 false [oV o, .iptr [.sem (TellO p)]] (· = .prop (¬ p o) (Classical.propDecidable _)) := by
  refine pureC_of_exec Try.E_ok Try.func66 rfl (by kernel_rfl) ?_
  (repeat' ((conv => whnf); (first | (with_reducible first | apply spl | apply spl') <;> intro hc <;> try (exfalso; omega) | with_reducible refine iJ fun hc => ?_ | refine vcq (k := ?_) | fail))); all_goals ((try conv => whnf); try with_reducible exact trivial)
  refine scall_fn o rfl rfl ?_
  rintro _ rfl
  (repeat' ((conv => whnf); (first | (with_reducible first | apply spl | apply spl') <;> intro hc <;> try (exfalso; omega) | with_reducible refine iJ fun hc => ?_ | refine vcq (k := ?_) | fail))); all_goals ((try conv => whnf); try with_reducible exact trivial)
  refine ⟨_, rfl, ?_⟩
  (repeat' ((conv => whnf); (first | (with_reducible first | apply spl | apply spl') <;> intro hc <;> try (exfalso; omega) | with_reducible refine iJ fun hc => ?_ | refine vcq (k := ?_) | fail))); all_goals ((try conv => whnf); try with_reducible exact trivial)
theorem index85 (p : Int × Int → Prop) (l : List (Int × Int)) (hl : l.length ≤ 1000000) : PureC Try.prog 85 false [.sl 2 l.length (rowOf oC (0, 0) l), .sem (TellO p)] (fun r => ∃ k : Int, r = .int .i64 k ∧ (0 ≤ k ↔ ∃ s ∈ l, p s)) := by
  refine pureC_of_exec Try.E_ok Try.func85 rfl (by kernel_rfl) ?_
  (repeat' ((conv => whnf); (first | (with_reducible first | apply spl | apply spl') <;> intro hc <;> try (exfalso; omega) | with_reducible refine iJ fun hc => ?_ | refine vcq (k := ?_) | fail))); all_goals ((try conv => whnf); try with_reducible exact trivial)
  refine ⟨Nat, fun i => i ≤ l.length ∧ ∀ j s, j < i → l[j]? = some s → ¬ p s, fun i => l.length - i, fun i => [(8, .int .i64 i)], fun _ => [], fun _ => [], 0, ⟨⟨by omega, fun j s h => by omega⟩, none, ?_⟩, ?_⟩
  · (repeat' ((conv => whnf); (first | (with_reducible first | apply spl | apply spl') <;> intro hc <;> try (exfalso; omega) | with_reducible refine iJ fun hc => ?_ | refine vcq (k := ?_) | fail))); all_goals ((try conv => whnf); try with_reducible exact trivial)
  · rintro i ⟨hi, hp⟩
    (repeat' ((conv => whnf); (first | (with_reducible first | apply spl | apply spl') <;> intro hc <;> try (exfalso; omega) | with_reducible refine iJ fun hc => ?_ | refine vcq (k := ?_) | fail))); all_goals ((try conv => whnf); try with_reducible exact trivial)
    · refine scall_fn (l.getD (i : Int).toNat (0, 0)) rfl rfl ?_
      rintro _ rfl
      have hi : i < l.length := by omega
      have hq : l.getD (i : Int).toNat (0, 0) = l[i] := by simp [List.getD_eq_getElem?_getD, hi]
      (repeat' ((conv => whnf); (first | (with_reducible first | apply spl | apply spl') <;> intro hc <;> try (exfalso; omega) | with_reducible refine iJ fun hc => ?_ | refine vcq (k := ?_) | fail))); all_goals ((try conv => whnf); try with_reducible exact trivial)
      · refine ⟨_, ⟨i, rfl, ⟨fun _ => ⟨l[i], List.getElem_mem hi, by rw [hq] at hc; exact hc⟩, fun _ => by omega⟩⟩, ?_⟩
        (repeat' ((conv => whnf); (first | (with_reducible first | apply spl | apply spl') <;> intro hc <;> try (exfalso; omega) | with_reducible refine iJ fun hc => ?_ | refine vcq (k := ?_) | fail))); all_goals ((try conv => whnf); try with_reducible exact trivial)
      · refine ⟨i + 1, ⟨⟨by omega, fun j s hj hs => ?_⟩, by dsimp only; omega⟩, none, ?_⟩
        · rcases Nat.lt_or_eq_of_le (show j ≤ i by omega) with h1 | rfl
          · exact hp j s h1 hs
          · rw [List.getElem?_eq_getElem hi] at hs
            cases hs
            rw [hq] at hc
            exact hc
        · (repeat' ((conv => whnf); (first | (with_reducible first | apply spl | apply spl') <;> intro hc <;> try (exfalso; omega) | with_reducible refine iJ fun hc => ?_ | refine vcq (k := ?_) | fail))); all_goals ((try conv => whnf); try with_reducible exact trivial)
    · refine ⟨_, ⟨-1, rfl, ⟨fun h => by omega, fun ⟨s, h1, h2⟩ => ?_⟩⟩, ?_⟩
      · obtain ⟨j, h3, h4⟩ := List.getElem_of_mem h1
        exact absurd h2 (hp j s (by omega) (by rw [List.getElem?_eq_getElem h3, h4]))
      · (repeat' ((conv => whnf); (first | (with_reducible first | apply spl | apply spl') <;> intro hc <;> try (exfalso; omega) | with_reducible refine iJ fun hc => ?_ | refine vcq (k := ?_) | fail))); all_goals ((try conv => whnf); try with_reducible exact trivial)
theorem contains65 (p : Int × Int → Prop) (l : List (Int × Int)) (hl : l.length ≤ 1000000) : PureC Try.prog 65 false [.sl 2 l.length (rowOf oC (0, 0) l), .sem (TellO p)] (· = .prop (∃ s ∈ l, p s) (Classical.propDecidable _)) := by
  refine pureC_of_exec Try.E_ok Try.func65 rfl (by kernel_rfl) ?_
  (repeat' ((conv => whnf); (first | (with_reducible first | apply spl | apply spl') <;> intro hc <;> try (exfalso; omega) | with_reducible refine iJ fun hc => ?_ | refine vcq (k := ?_) | fail))); all_goals ((try conv => whnf); try with_reducible exact trivial)
  refine callee_fo (index85 p l hl) rfl ?_
  rintro _ ⟨k, rfl, hk⟩
  (repeat' ((conv => whnf); (first | (with_reducible first | apply spl | apply spl') <;> intro hc <;> try (exfalso; omega) | with_reducible refine iJ fun hc => ?_ | refine vcq (k := ?_) | fail))); all_goals ((try conv => whnf); try with_reducible exact trivial)
  refine ⟨_, rfl, ?_⟩
  (repeat' ((conv => whnf); (first | (with_reducible first | apply spl | apply spl') <;> intro hc <;> try (exfalso; omega) | with_reducible refine iJ fun hc => ?_ | refine vcq (k := ?_) | fail))); all_goals ((try conv => whnf); try with_reducible exact trivial)
theorem check36 (x : Cache) (hl : x.l.length ≤ 1000000) : PureC Try.prog 36 false [x.v] (· = .int .i64 x.chk) := by
  refine pureC_of_exec Try.E_ok Try.func36 rfl (by kernel_rfl) ?_
  (repeat' ((conv => whnf); (first | (with_reducible first | apply spl | apply spl') <;> intro hc <;> try (exfalso; omega) | with_reducible refine iJ fun hc => ?_ | refine vcq (k := ?_) | fail))); all_goals ((try conv => whnf); try with_reducible exact trivial); (repeat' ((first | (refine callee_fo (within51 _ _ _) rfl ?_; rintro _ rfl) | (refine pcall_intro (within51 _ _ _) rfl ?_) | (refine pcall_soft (fun _ => within51 _ _ _) rfl ?_)); (repeat' ((conv => whnf); (first | (with_reducible first | apply spl | apply spl') <;> intro hc <;> try (exfalso; omega) | with_reducible refine iJ fun hc => ?_ | refine vcq (k := ?_) | fail))); all_goals ((try conv => whnf); try with_reducible exact trivial))); (all_goals (try (refine ⟨_, rfl, ?_⟩; (repeat' ((conv => whnf); (first | (with_reducible first | apply spl | apply spl') <;> intro hc <;> try (exfalso; omega) | with_reducible refine iJ fun hc => ?_ | refine vcq (k := ?_) | fail))); all_goals ((try conv => whnf); try with_reducible exact trivial))))
  · refine callee_view (contains65 (fun o => ¬ Cache.OkO x.n o) x.l hl) ?_
    (repeat' ((conv => whnf); (first | (with_reducible first | apply spl | apply spl') <;> intro hc <;> try (exfalso; omega) | with_reducible refine iJ fun hc => ?_ | refine vcq (k := ?_) | fail))); all_goals ((try conv => whnf); try with_reducible exact trivial)
    refine ⟨semOb_fn (a' := []) (b' := [.iptr [.sem (TellO (Cache.OkO x.n))]]) (fun i => check66 (Cache.OkO x.n) i) (plain_of Try.func66 (by kernel_rfl) (by kernel_rfl)) ?_, ?_⟩
    · (repeat' ((conv => whnf); (first | (with_reducible first | apply spl | apply spl') <;> intro hc <;> try (exfalso; omega) | with_reducible refine iJ fun hc => ?_ | refine vcq (k := ?_) | fail))); all_goals ((try conv => whnf); try with_reducible exact trivial)
      refine ⟨semOb_fn (a' := []) (b' := [.iptr [.int .i64 x.n, .sl 2 x.l.length (rowOf oC (0, 0) x.l)]]) (fun i => check64 x.n (by omega) _ _ i) (plain_of Try.func64 (by kernel_rfl) (by kernel_rfl)) ?_, ?_⟩
      · (repeat' ((conv => whnf); (first | (with_reducible first | apply spl | apply spl') <;> intro hc <;> try (exfalso; omega) | with_reducible refine iJ fun hc => ?_ | refine vcq (k := ?_) | fail))); all_goals ((try conv => whnf); try with_reducible exact trivial)
      · (repeat' ((conv => whnf); (first | (with_reducible first | apply spl | apply spl') <;> intro hc <;> try (exfalso; omega) | with_reducible refine iJ fun hc => ?_ | refine vcq (k := ?_) | fail))); all_goals ((try conv => whnf); try with_reducible exact trivial)
    · rintro _ rfl
      (repeat' ((conv => whnf); (first | (with_reducible first | apply spl | apply spl') <;> intro hc <;> try (exfalso; omega) | with_reducible refine iJ fun hc => ?_ | refine vcq (k := ?_) | fail))); all_goals ((try conv => whnf); try with_reducible exact trivial)
      · refine ⟨_, rfl, ?_⟩
        (repeat' ((conv => whnf); (first | (with_reducible first | apply spl | apply spl') <;> intro hc <;> try (exfalso; omega) | with_reducible refine iJ fun hc => ?_ | refine vcq (k := ?_) | fail))); all_goals ((try conv => whnf); try with_reducible exact trivial)
        refine ⟨?_, trivial⟩
        unfold Cache.chk
        rw [if_neg]
        rintro ⟨_, _, h3⟩
        obtain ⟨o, h4, h5⟩ := hc
        exact h5 (h3 o h4)
      · refine ⟨_, rfl, ?_⟩
        (repeat' ((conv => whnf); (first | (with_reducible first | apply spl | apply spl') <;> intro hc <;> try (exfalso; omega) | with_reducible refine iJ fun hc => ?_ | refine vcq (k := ?_) | fail))); all_goals ((try conv => whnf); try with_reducible exact trivial)
        refine ⟨?_, trivial⟩
        unfold Cache.chk
        rw [if_pos]
        exact ⟨by omega, by omega, fun o ho => Classical.byContradiction fun h => hc ⟨o, ho, h⟩⟩
  · refine ⟨?_, trivial⟩
    unfold Cache.chk
    rw [if_neg]
    rintro ⟨h1, h2, _⟩
    omega
end Go.Proofs


namespace Go.Proofs
open Go Go.Sx
set_option maxRecDepth 100000
set_option maxHeartbeats 4000000
theorem six {b : Nat} (h : b < 6) : b = 0 ∨ b = 1 ∨ b = 2 ∨ b = 3 ∨ b = 4 ∨ b = 5 := by omega
def fillC (n : Int) (i : Nat) : C6 := ⟨if 0 < i then n else 0, if 1 < i then n else 0, if 2 < i then n else 0, if 3 < i then n else 0, if 4 < i then n else 0, if 5 < i then n else 0⟩
theorem all67 (n : Int) : PureC Try.prog 67 false [.int .i64 n] (· = .agg (C6.all n).c) := by
  refine pureC_of_exec Try.E_ok Try.func67 rfl (by kernel_rfl) ?_
  (repeat' ((conv => whnf); (first | (with_reducible first | apply spl | apply spl') <;> intro hc <;> try (exfalso; omega) | with_reducible refine iJ fun hc => ?_ | refine vcq (k := ?_) | fail))); all_goals ((try conv => whnf); try with_reducible exact trivial)
  refine ⟨Nat, fun i => i ≤ 6, fun i => 6 - i, fun i => [(4, .int .i64 i)], fun i => [(0, .cells 68 (fillC n i).c)], fun _ => [], 0, ⟨by omega, some [some 0], ?_⟩, ?_⟩
  · (repeat' ((conv => whnf); (first | (with_reducible first | apply spl | apply spl') <;> intro hc <;> try (exfalso; omega) | with_reducible refine iJ fun hc => ?_ | refine vcq (k := ?_) | fail))); all_goals ((try conv => whnf); try with_reducible exact trivial)
  · intro i hi
    by_cases h6 : i < 6
    · rcases six h6 with rfl | rfl | rfl | rfl | rfl | rfl
      · (repeat' ((conv => whnf); (first | (with_reducible first | apply spl | apply spl') <;> intro hc <;> try (exfalso; omega) | with_reducible refine iJ fun hc => ?_ | refine vcq (k := ?_) | fail))); all_goals ((try conv => whnf); try with_reducible exact trivial)
        refine ⟨1, ⟨by dsimp only; omega, by dsimp only; omega⟩, some [some 0], ?_⟩
        (repeat' ((conv => whnf); (first | (with_reducible first | apply spl | apply spl') <;> intro hc <;> try (exfalso; omega) | with_reducible refine iJ fun hc => ?_ | refine vcq (k := ?_) | fail))); all_goals ((try conv => whnf); try with_reducible exact trivial)
      · (repeat' ((conv => whnf); (first | (with_reducible first | apply spl | apply spl') <;> intro hc <;> try (exfalso; omega) | with_reducible refine iJ fun hc => ?_ | refine vcq (k := ?_) | fail))); all_goals ((try conv => whnf); try with_reducible exact trivial)
        refine ⟨2, ⟨by dsimp only; omega, by dsimp only; omega⟩, some [some 0], ?_⟩
        (repeat' ((conv => whnf); (first | (with_reducible first | apply spl | apply spl') <;> intro hc <;> try (exfalso; omega) | with_reducible refine iJ fun hc => ?_ | refine vcq (k := ?_) | fail))); all_goals ((try conv => whnf); try with_reducible exact trivial)
      · (repeat' ((conv => whnf); (first | (with_reducible first | apply spl | apply spl') <;> intro hc <;> try (exfalso; omega) | with_reducible refine iJ fun hc => ?_ | refine vcq (k := ?_) | fail))); all_goals ((try conv => whnf); try with_reducible exact trivial)
        refine ⟨3, ⟨by dsimp only; omega, by dsimp only; omega⟩, some [some 0], ?_⟩
        (repeat' ((conv => whnf); (first | (with_reducible first | apply spl | apply spl') <;> intro hc <;> try (exfalso; omega) | with_reducible refine iJ fun hc => ?_ | refine vcq (k := ?_) | fail))); all_goals ((try conv => whnf); try with_reducible exact trivial)
      · (repeat' ((conv => whnf); (first | (with_reducible first | apply spl | apply spl') <;> intro hc <;> try (exfalso; omega) | with_reducible refine iJ fun hc => ?_ | refine vcq (k := ?_) | fail))); all_goals ((try conv => whnf); try with_reducible exact trivial)
        refine ⟨4, ⟨by dsimp only; omega, by dsimp only; omega⟩, some [some 0], ?_⟩
        (repeat' ((conv => whnf); (first | (with_reducible first | apply spl | apply spl') <;> intro hc <;> try (exfalso; omega) | with_reducible refine iJ fun hc => ?_ | refine vcq (k := ?_) | fail))); all_goals ((try conv => whnf); try with_reducible exact trivial)
      · (repeat' ((conv => whnf); (first | (with_reducible first | apply spl | apply spl') <;> intro hc <;> try (exfalso; omega) | with_reducible refine iJ fun hc => ?_ | refine vcq (k := ?_) | fail))); all_goals ((try conv => whnf); try with_reducible exact trivial)
        refine ⟨5, ⟨by dsimp only; omega, by dsimp only; omega⟩, some [some 0], ?_⟩
        (repeat' ((conv => whnf); (first | (with_reducible first | apply spl | apply spl') <;> intro hc <;> try (exfalso; omega) | with_reducible refine iJ fun hc => ?_ | refine vcq (k := ?_) | fail))); all_goals ((try conv => whnf); try with_reducible exact trivial)
      · (repeat' ((conv => whnf); (first | (with_reducible first | apply spl | apply spl') <;> intro hc <;> try (exfalso; omega) | with_reducible refine iJ fun hc => ?_ | refine vcq (k := ?_) | fail))); all_goals ((try conv => whnf); try with_reducible exact trivial)
        refine ⟨6, ⟨by dsimp only; omega, by dsimp only; omega⟩, some [some 0], ?_⟩
        (repeat' ((conv => whnf); (first | (with_reducible first | apply spl | apply spl') <;> intro hc <;> try (exfalso; omega) | with_reducible refine iJ fun hc => ?_ | refine vcq (k := ?_) | fail))); all_goals ((try conv => whnf); try with_reducible exact trivial)
    · obtain rfl : i = 6 := by have hi : i ≤ 6 := hi; omega
      (repeat' ((conv => whnf); (first | (with_reducible first | apply spl | apply spl') <;> intro hc <;> try (exfalso; omega) | with_reducible refine iJ fun hc => ?_ | refine vcq (k := ?_) | fail))); all_goals ((try conv => whnf); try with_reducible exact trivial)
      refine ⟨_, rfl, ?_⟩
      (repeat' ((conv => whnf); (first | (with_reducible first | apply spl | apply spl') <;> intro hc <;> try (exfalso; omega) | with_reducible refine iJ fun hc => ?_ | refine vcq (k := ?_) | fail))); all_goals ((try conv => whnf); try with_reducible exact trivial)
end Go.Proofs


namespace Go.Proofs
open Go Go.Sx
set_option maxRecDepth 100000
set_option maxHeartbeats 4000000
def eR (E : List C6) : Nat → List V := rowOf C6.c (C6.all (-3)) E
def stCs (s : PS) (id : Nat) : List V := [.int .i64 s.M.a0, .int .i64 s.M.a1, .int .i64 s.M.a2, .int .i64 s.M.a3, .int .i64 s.M.a4, .int .i64 s.M.a5, .osl id s.E.length, .int .i64 s.W]
def stH (s : PS) : List O := [.cells 71 (stCs s 1), .row 68 6 s.E.length (eR s.E) false]
def stI (s : PS) : V := .iptr [.int .i64 s.M.a0, .int .i64 s.M.a1, .int .i64 s.M.a2, .int .i64 s.M.a3, .int .i64 s.M.a4, .int .i64 s.M.a5, .sl 6 s.E.length (eR s.E), .int .i64 s.W]
structure PS.Sm (s : PS) : Prop where
  ne : 0 < s.E.length
  len : s.E.length ≤ 1000000
  W : 0 ≤ s.W ∧ s.W ≤ 1000000000
theorem eR_set {E : List C6} {e b : Nat} (he : e < E.length) (hb : b < 6) (x : Int) : (fun j => spliceP (j = e) (eR E j) b [.int .i64 x]) = eR (E.set e ((E.getD e (C6.all (-3))).set b x)) := by
  funext j
  unfold eR rowOf
  by_cases hj : j = e
  · subst hj
    rw [spliceP_pos rfl]
    simp only [List.getD_eq_getElem?_getD, List.getElem?_set, if_true, he, Option.getD_some, List.getElem?_eq_getElem]
    rcases six hb with rfl | rfl | rfl | rfl | rfl | rfl <;> rfl
  · rw [spliceP_neg hj]
    simp only [List.getD_eq_getElem?_getD, List.getElem?_set, if_neg (Ne.symm hj)]
theorem current68 (s : PS) (hs : s.Sm) : Sx.Callee Try.prog 68 [.ptr 0 0] (stH s) (fun v H => v = .eptr 1 6 ((s.E.length : Int) - 1).toNat 0 ∧ H = stH s) := by
  have h1 := hs.ne
  have h2 := hs.len
  refine callee_exec Try.E_ok Try.func68 rfl (by kernel_rfl) ?_
  (repeat' ((conv => whnf); (first | (with_reducible first | apply spl | apply spl') <;> intro hc <;> try (exfalso; omega) | with_reducible refine iJ fun hc => ?_ | refine vcq (k := ?_) | refine dr 12 (k := ?_)))); all_goals ((try conv => whnf); try with_reducible exact trivial)
  exact rfl
theorem PS.wr_pos {s : PS} {e b : Nat} (h : (s.ep e).get b ≠ -3) : s.wr e b = ⟨s.M.set b ((s.ep e).get b), s.E.set e ((s.ep e).set b (-3)), s.W + 1⟩ := if_neg h
theorem PS.wr_neg {s : PS} {e b : Nat} (h : (s.ep e).get b = -3) : s.wr e b = s := if_pos h
theorem stH_wr {s : PS} {e b : Nat} (he : e < s.E.length) (hb : b < 6) (h : (s.ep e).get b ≠ -3) : stH (s.wr e b) =
    [.cells 71 (let m := s.M.set b ((s.ep e).get b); [.int .i64 m.a0, .int .i64 m.a1, .int .i64 m.a2, .int .i64 m.a3, .int .i64 m.a4, .int .i64 m.a5, .osl 1 s.E.length, .int .i64 (s.W + 1)]),
      .row 68 6 s.E.length (fun j => spliceP (j = e) (eR s.E j) b [.int .i64 (-3)]) false] := by
  rw [PS.wr_pos h, eR_set he hb]
  unfold stH stCs PS.ep
  simp only [List.length_set]
theorem write70 (s : PS) (hs : s.Sm) (e b : Nat) (he : e < s.E.length) (hb : b < 6) : Sx.Callee Try.prog 70 [.ptr 0 0, .int .i64 e, .int .i64 b] (stH s) (fun v H => v = .tup [] ∧ H = stH (s.wr e b)) := by
  have h2 := hs.len
  have h3 := hs.W
  refine callee_exec Try.E_ok Try.func70 rfl (by kernel_rfl) ?_
  rcases six hb with rfl | rfl | rfl | rfl | rfl | rfl
  all_goals
    (repeat' ((conv => whnf); (first | (with_reducible first | apply spl | apply spl') <;> intro hc <;> try (exfalso; omega) | with_reducible refine iJ fun hc => ?_ | refine vcq (k := ?_) | refine dr 12142013 (k := ?_)))); all_goals ((try conv => whnf); try with_reducible exact trivial)
    · rw [stH_wr he hb hc]
      rfl
    · refine congrArg stH (PS.wr_neg (Classical.not_not.1 ?_)).symm
      exact hc
theorem PS.Sm.wr {s : PS} (h : s.Sm) {e b : Nat} (hW : s.W + 1 ≤ 1000000000) : (s.wr e b).Sm := by
  unfold PS.wr
  split
  · exact h
  · obtain ⟨h1, h2, h3⟩ := h
    exact ⟨by simpa using h1, by simpa using h2, by dsimp only; omega⟩
theorem PS.wr_len (s : PS) (e b : Nat) : (s.wr e b).E.length = s.E.length := by
  unfold PS.wr
  split <;> simp
theorem PS.wr_W (s : PS) (e b : Nat) : s.W ≤ (s.wr e b).W ∧ (s.wr e b).W ≤ s.W + 1 := by
  unfold PS.wr
  split
  · omega
  · dsimp only; omega
theorem PS.wrB_len (s : PS) (e : Nat) : ∀ b, (s.wrB e b).E.length = s.E.length
  | 0 => rfl
  | b + 1 => by rw [PS.wrB, PS.wr_len, PS.wrB_len s e b]
theorem PS.wrE_len (s : PS) : ∀ e, (s.wrE e).E.length = s.E.length
  | 0 => rfl
  | e + 1 => by rw [PS.wrE, PS.wrB_len, PS.wrE_len s e]
theorem PS.wrB_W (s : PS) (e : Nat) : ∀ b : Nat, s.W ≤ (s.wrB e b).W ∧ (s.wrB e b).W ≤ s.W + b
  | 0 => by simp [PS.wrB]
  | b + 1 => by
    have h1 := PS.wr_W (s.wrB e b) e b
    have h2 := PS.wrB_W s e b
    rw [PS.wrB]
    omega
theorem PS.wrE_W (s : PS) : ∀ e : Nat, s.W ≤ (s.wrE e).W ∧ (s.wrE e).W ≤ s.W + 6 * e
  | 0 => by simp [PS.wrE]
  | e + 1 => by
    have h1 := PS.wrB_W (s.wrE e) e 6
    have h2 := PS.wrE_W s e
    rw [PS.wrE]
    omega
theorem writeAll69 (s : PS) (hs : s.Sm) (hW : s.W + 6 * s.E.length ≤ 1000000000) (n : Nat) (hn : n ≤ s.E.length) : Sx.Callee Try.prog 69 [.ptr 0 0, .int .i64 n] (stH s) (fun v H => v = .tup [] ∧ H = stH (s.wrE n)) := by
  have h2 := hs.len
  have h3 := hs.W
  refine callee_exec Try.E_ok Try.func69 rfl (by kernel_rfl) ?_
  (repeat' ((conv => whnf); (first | (with_reducible first | apply spl | apply spl') <;> intro hc <;> try (exfalso; omega) | with_reducible refine iJ fun hc => ?_ | refine vcq (k := ?_) | refine dr 12142013 (k := ?_) | refine dr 12 (k := ?_)))); all_goals ((try conv => whnf); try with_reducible exact trivial)
  refine ⟨Nat, fun i => i ≤ n, fun i => n - i, fun i => [(7, .int .i64 i)], fun i => [(0, .cells 71 (stCs (s.wrE i) 1)), (1, .row 68 6 (s.wrE i).E.length (eR (s.wrE i).E) false)], fun _ => [], 0, ⟨by omega, some [some 0, some 1], ?_⟩, ?_⟩
  · (repeat' ((conv => whnf); (first | (with_reducible first | apply spl | apply spl') <;> intro hc <;> try (exfalso; omega) | with_reducible refine iJ fun hc => ?_ | refine vcq (k := ?_) | refine dr 12142013 (k := ?_) | refine dr 12 (k := ?_)))); all_goals ((try conv => whnf); try with_reducible exact trivial)
  · intro i hi
    have hi : i ≤ n := hi
    have hl := PS.wrE_len s i
    have hw := PS.wrE_W s i
    (repeat' ((conv => whnf); (first | (with_reducible first | apply spl | apply spl') <;> intro hc <;> try (exfalso; omega) | with_reducible refine iJ fun hc => ?_ | refine vcq (k := ?_) | refine dr 12142013 (k := ?_) | refine dr 12 (k := ?_)))); all_goals ((try conv => whnf); try with_reducible exact trivial)
    · refine ⟨Nat, fun b => b ≤ 6, fun b => 6 - b, fun b => [(10, .int .i64 b)], fun b => [(0, .cells 71 (stCs ((s.wrE i).wrB i b) 1)), (1, .row 68 6 ((s.wrE i).wrB i b).E.length (eR ((s.wrE i).wrB i b).E) false)], fun _ => [], 0, ⟨by omega, some [some 0, some 1], ?_⟩, ?_⟩
      · (repeat' ((conv => whnf); (first | (with_reducible first | apply spl | apply spl') <;> intro hc <;> try (exfalso; omega) | with_reducible refine iJ fun hc => ?_ | refine vcq (k := ?_) | refine dr 12142013 (k := ?_) | refine dr 12 (k := ?_)))); all_goals ((try conv => whnf); try with_reducible exact trivial)
      · intro b hb
        have hb : b ≤ 6 := hb
        have hl2 := PS.wrB_len (s.wrE i) i b
        have hw2 := PS.wrB_W (s.wrE i) i b
        (repeat' ((conv => whnf); (first | (with_reducible first | apply spl | apply spl') <;> intro hc <;> try (exfalso; omega) | with_reducible refine iJ fun hc => ?_ | refine vcq (k := ?_) | refine dr 12142013 (k := ?_) | refine dr 12 (k := ?_)))); all_goals ((try conv => whnf); try with_reducible exact trivial)
        · have hsm : ((s.wrE i).wrB i b).Sm := ⟨by rw [hl2, hl]; exact hs.ne, by rw [hl2, hl]; exact h2, by omega⟩
          refine Callee.mono (write70 ((s.wrE i).wrB i b) hsm i b (by omega) (by omega)) ?_
          rintro _ _ ⟨rfl, rfl⟩
          (repeat' ((conv => whnf); (first | (with_reducible first | apply spl | apply spl') <;> intro hc <;> try (exfalso; omega) | with_reducible refine iJ fun hc => ?_ | refine vcq (k := ?_) | refine dr 12142013 (k := ?_) | refine dr 12 (k := ?_)))); all_goals ((try conv => whnf); try with_reducible exact trivial)
          refine ⟨b + 1, ⟨by dsimp only; omega, by dsimp only; omega⟩, some [some 0, some 1], ?_⟩
          (repeat' ((conv => whnf); (first | (with_reducible first | apply spl | apply spl') <;> intro hc <;> try (exfalso; omega) | with_reducible refine iJ fun hc => ?_ | refine vcq (k := ?_) | refine dr 12142013 (k := ?_) | refine dr 12 (k := ?_)))); all_goals ((try conv => whnf); try with_reducible exact trivial)
        · obtain rfl : b = 6 := by omega
          (repeat' ((conv => whnf); (first | (with_reducible first | apply spl | apply spl') <;> intro hc <;> try (exfalso; omega) | with_reducible refine iJ fun hc => ?_ | refine vcq (k := ?_) | refine dr 12142013 (k := ?_) | refine dr 12 (k := ?_)))); all_goals ((try conv => whnf); try with_reducible exact trivial)
          refine ⟨i + 1, ⟨by dsimp only; omega, by dsimp only; omega⟩, some [some 0, some 1], ?_⟩
          (repeat' ((conv => whnf); (first | (with_reducible first | apply spl | apply spl') <;> intro hc <;> try (exfalso; omega) | with_reducible refine iJ fun hc => ?_ | refine vcq (k := ?_) | refine dr 12142013 (k := ?_) | refine dr 12 (k := ?_)))); all_goals ((try conv => whnf); try with_reducible exact trivial)
    · obtain rfl : i = n := by omega
      (repeat' ((conv => whnf); (first | (with_reducible first | apply spl | apply spl') <;> intro hc <;> try (exfalso; omega) | with_reducible refine iJ fun hc => ?_ | refine vcq (k := ?_) | refine dr 12142013 (k := ?_) | refine dr 12 (k := ?_)))); all_goals ((try conv => whnf); try with_reducible exact trivial)
      exact rfl
end Go.Proofs


namespace Go.Proofs
open Go Go.Sx
set_option maxRecDepth 100000
set_option maxHeartbeats 4000000
theorem C6.ext_iff' {x y : C6} : x = y ↔ x.a0 = y.a0 ∧ x.a1 = y.a1 ∧ x.a2 = y.a2 ∧ x.a3 = y.a3 ∧ x.a4 = y.a4 ∧ x.a5 = y.a5 := by
  cases x; cases y; simp
def isN (x : C6) : Bool := decide (x = C6.all (-3))
def isS (x : C6) : Bool := !isN x
theorem isN_iff {x : C6} : isN x = true ↔ x = C6.all (-3) := by simp [isN]
theorem isS_iff {x : C6} : isS x = true ↔ x ≠ C6.all (-3) := by simp [isS, isN]
theorem isNone87 (x : C6) : PureC Try.prog 87 false [.agg x.c] (· = .prop (isN x = true) inferInstance) := by
  refine pureC_of_exec Try.E_ok Try.func87 rfl (by kernel_rfl) ?_
  (repeat' ((conv => whnf); (first | (with_reducible first | apply spl | apply spl') <;> intro hc <;> try (exfalso; omega) | with_reducible refine iJ fun hc => ?_ | refine vcq (k := ?_) | refine dr 4 (k := ?_)))); all_goals ((try conv => whnf); try with_reducible exact trivial); (repeat' ((first | (refine callee_fo (all67 (-3)) rfl ?_; rintro _ rfl) | (refine pcall_intro (all67 (-3)) rfl ?_) | (refine pcall_soft (fun _ => all67 (-3)) rfl ?_)); (repeat' ((conv => whnf); (first | (with_reducible first | apply spl | apply spl') <;> intro hc <;> try (exfalso; omega) | with_reducible refine iJ fun hc => ?_ | refine vcq (k := ?_) | refine dr 4 (k := ?_)))); all_goals ((try conv => whnf); try with_reducible exact trivial))); (all_goals (try (refine ⟨_, rfl, ?_⟩; (repeat' ((conv => whnf); (first | (with_reducible first | apply spl | apply spl') <;> intro hc <;> try (exfalso; omega) | with_reducible refine iJ fun hc => ?_ | refine vcq (k := ?_) | refine dr 4 (k := ?_)))); all_goals ((try conv => whnf); try with_reducible exact trivial))))
  exact ⟨C6.ext_iff'.symm.trans isN_iff.symm, trivial⟩
theorem isSome89 (x : C6) : PureC Try.prog 89 false [.agg x.c] (· = .prop (isS x = true) inferInstance) := by
  refine pureC_of_exec Try.E_ok Try.func89 rfl (by kernel_rfl) ?_
  (repeat' ((conv => whnf); (first | (with_reducible first | apply spl | apply spl') <;> intro hc <;> try (exfalso; omega) | with_reducible refine iJ fun hc => ?_ | refine vcq (k := ?_) | refine dr 4 (k := ?_)))); all_goals ((try conv => whnf); try with_reducible exact trivial); (repeat' ((first | (refine callee_fo (all67 (-3)) rfl ?_; rintro _ rfl) | (refine pcall_intro (all67 (-3)) rfl ?_) | (refine pcall_soft (fun _ => all67 (-3)) rfl ?_)); (repeat' ((conv => whnf); (first | (with_reducible first | apply spl | apply spl') <;> intro hc <;> try (exfalso; omega) | with_reducible refine iJ fun hc => ?_ | refine vcq (k := ?_) | refine dr 4 (k := ?_)))); all_goals ((try conv => whnf); try with_reducible exact trivial))); (all_goals (try (refine ⟨_, rfl, ?_⟩; (repeat' ((conv => whnf); (first | (with_reducible first | apply spl | apply spl') <;> intro hc <;> try (exfalso; omega) | with_reducible refine iJ fun hc => ?_ | refine vcq (k := ?_) | refine dr 4 (k := ?_)))); all_goals ((try conv => whnf); try with_reducible exact trivial))))
  exact ⟨(not_congr C6.ext_iff'.symm).trans isS_iff.symm, trivial⟩
def TellC (p : C6 → Bool) : (Nat → Prop) → World → Value → Prop :=
  FnD Try.prog (fun x : C6 => [.agg x.c]) (fun x r => r = .prop (p x = true) inferInstance)
def idxC (p : C6 → Bool) (E : List C6) : Int := match E.findIdx? p with
  | some i => i
  | none => -1
theorem idxC_some {p : C6 → Bool} {E : List C6} {i : Nat} (h : i < E.length) (hp : p (E.getD i (C6.all (-3))) = true) (hn : ∀ j, j < i → p (E.getD j (C6.all (-3))) = false) : idxC p E = i := by
  have : E.findIdx? p = some i := by
    rw [List.findIdx?_eq_some_iff_getElem]
    refine ⟨h, by simpa [List.getD_eq_getElem?_getD, h] using hp, fun j hj => ?_⟩
    have := hn j hj
    simpa [List.getD_eq_getElem?_getD, show j < E.length by omega] using this
  simp [idxC, this]
theorem idxC_none {p : C6 → Bool} {E : List C6} (hn : ∀ j, j < E.length → p (E.getD j (C6.all (-3))) = false) : idxC p E = -1 := by
  have : E.findIdx? p = none := by
    rw [List.findIdx?_eq_none_iff]
    intro x hx
    obtain ⟨j, hj, rfl⟩ := List.mem_iff_getElem.1 hx
    have := hn j hj
    simpa [List.getD_eq_getElem?_getD, hj] using this
  simp [idxC, this]
theorem index88 (p : C6 → Bool) (E : List C6) (hl : E.length ≤ 1000000) : PureC Try.prog 88 false [.sl 6 E.length (eR E), .sem (TellC p)] (· = .int .i64 (idxC p E)) := by
  refine pureC_of_exec Try.E_ok Try.func88 rfl (by kernel_rfl) ?_
  (repeat' ((conv => whnf); (first | (with_reducible first | apply spl | apply spl') <;> intro hc <;> try (exfalso; omega) | with_reducible refine iJ fun hc => ?_ | refine vcq (k := ?_) | refine dr 4 (k := ?_) | refine dr 2007 (k := ?_) | refine dr 2012 (k := ?_)))); all_goals ((try conv => whnf); try with_reducible exact trivial)
  refine ⟨Nat, fun i => i ≤ E.length ∧ ∀ j, j < i → p (E.getD j (C6.all (-3))) = false, fun i => E.length - i, fun i => [(8, .int .i64 i)], fun _ => [], fun _ => [], 0, ⟨⟨by omega, fun j h => by omega⟩, none, ?_⟩, ?_⟩
  · (repeat' ((conv => whnf); (first | (with_reducible first | apply spl | apply spl') <;> intro hc <;> try (exfalso; omega) | with_reducible refine iJ fun hc => ?_ | refine vcq (k := ?_) | refine dr 4 (k := ?_) | refine dr 2007 (k := ?_) | refine dr 2012 (k := ?_)))); all_goals ((try conv => whnf); try with_reducible exact trivial)
  · rintro i ⟨hi, hp⟩
    (repeat' ((conv => whnf); (first | (with_reducible first | apply spl | apply spl') <;> intro hc <;> try (exfalso; omega) | with_reducible refine iJ fun hc => ?_ | refine vcq (k := ?_) | refine dr 4 (k := ?_) | refine dr 2007 (k := ?_) | refine dr 2012 (k := ?_)))); all_goals ((try conv => whnf); try with_reducible exact trivial)
    · refine scall_fn (E.getD (i : Int).toNat (C6.all (-3))) rfl rfl ?_
      rintro _ rfl
      have hi : i < E.length := by omega
      (repeat' ((conv => whnf); (first | (with_reducible first | apply spl | apply spl') <;> intro hc <;> try (exfalso; omega) | with_reducible refine iJ fun hc => ?_ | refine vcq (k := ?_) | refine dr 4 (k := ?_) | refine dr 2007 (k := ?_) | refine dr 2012 (k := ?_)))); all_goals ((try conv => whnf); try with_reducible exact trivial)
      · refine ⟨_, rfl, ?_⟩
        (repeat' ((conv => whnf); (first | (with_reducible first | apply spl | apply spl') <;> intro hc <;> try (exfalso; omega) | with_reducible refine iJ fun hc => ?_ | refine vcq (k := ?_) | refine dr 4 (k := ?_) | refine dr 2007 (k := ?_) | refine dr 2012 (k := ?_)))); all_goals ((try conv => whnf); try with_reducible exact trivial)
        exact ⟨(idxC_some hi hc hp).symm, trivial⟩
      · refine ⟨i + 1, ⟨⟨by omega, fun j hj => ?_⟩, by dsimp only; omega⟩, none, ?_⟩
        · rcases Nat.lt_or_eq_of_le (show j ≤ i by omega) with h1 | rfl
          · exact hp j h1
          · simpa using hc
        · (repeat' ((conv => whnf); (first | (with_reducible first | apply spl | apply spl') <;> intro hc <;> try (exfalso; omega) | with_reducible refine iJ fun hc => ?_ | refine vcq (k := ?_) | refine dr 4 (k := ?_) | refine dr 2007 (k := ?_) | refine dr 2012 (k := ?_)))); all_goals ((try conv => whnf); try with_reducible exact trivial)
    · refine ⟨_, rfl, ?_⟩
      (repeat' ((conv => whnf); (first | (with_reducible first | apply spl | apply spl') <;> intro hc <;> try (exfalso; omega) | with_reducible refine iJ fun hc => ?_ | refine vcq (k := ?_) | refine dr 4 (k := ?_) | refine dr 2007 (k := ?_) | refine dr 2012 (k := ?_)))); all_goals ((try conv => whnf); try with_reducible exact trivial)
      exact ⟨(idxC_none (fun j hj => hp j (by omega))).symm, trivial⟩
theorem eR_all {G : List C6} {e : Nat} (he : e < G.length) (x : C6) : (fun j => spliceP (j = e) (eR G j) 0 x.c) = eR (G.set e x) := by
  funext j
  unfold eR rowOf
  by_cases hj : j = e
  · subst hj
    rw [spliceP_pos rfl]
    simp only [List.getD_eq_getElem?_getD, List.getElem?_set, if_true, he, Option.getD_some, List.getElem?_eq_getElem]
    rfl
  · rw [spliceP_neg hj]
    simp only [List.getD_eq_getElem?_getD, List.getElem?_set, if_neg (Ne.symm hj)]
def leftC (p : C6 → Bool) (E : List C6) (m : Nat) : List C6 := (E.take m).filter (fun x => !p x)
theorem leftC_succ {p : C6 → Bool} {E : List C6} {j : Nat} (h : j < E.length) : leftC p E (j + 1) = if p (E.getD j (C6.all (-3))) = true then leftC p E j else leftC p E j ++ [E.getD j (C6.all (-3))] := by
  unfold leftC
  rw [List.take_succ_eq_append_getElem h, List.filter_append]
  have : E.getD j (C6.all (-3)) = E[j] := by simp [List.getD_eq_getElem?_getD, h]
  rw [this]
  cases hp : p E[j] <;> simp [hp]
theorem leftC_le (p : C6 → Bool) (E : List C6) (m : Nat) : (leftC p E m).length ≤ m := by
  have h1 := List.length_filter_le (fun x => !p x) (E.take m)
  have h2 : (E.take m).length ≤ m := by simp; omega
  unfold leftC
  omega
theorem idxC_spec (p : C6 → Bool) (E : List C6) : (idxC p E = -1 ∧ ∀ j, j < E.length → p (E.getD j (C6.all (-3))) = false) ∨ ∃ i : Nat, idxC p E = i ∧ i < E.length ∧ p (E.getD i (C6.all (-3))) = true ∧ ∀ j, j < i → p (E.getD j (C6.all (-3))) = false := by
  unfold idxC
  cases h : E.findIdx? p with
  | none =>
    refine .inl ⟨rfl, fun j hj => ?_⟩
    rw [List.findIdx?_eq_none_iff] at h
    have := h E[j] (List.getElem_mem hj)
    simpa [List.getD_eq_getElem?_getD, hj] using this
  | some i =>
    rw [List.findIdx?_eq_some_iff_getElem] at h
    obtain ⟨h1, h2, h3⟩ := h
    refine .inr ⟨i, rfl, h1, by simpa [List.getD_eq_getElem?_getD, h1] using h2, fun j hj => ?_⟩
    have := h3 j hj
    simpa [List.getD_eq_getElem?_getD, show j < E.length by omega] using this
theorem take_getD {α : Type} {l : List α} {d : α} {m i : Nat} (h : i < m) : (l.take m).getD i d = l.getD i d := by
  simp [List.getD_eq_getElem?_getD, h]
theorem leftC_none {p : C6 → Bool} {E : List C6} {m : Nat} (hm : m ≤ E.length) (h : ∀ j, j < m → p (E.getD j (C6.all (-3))) = false) : leftC p E m = E.take m := by
  unfold leftC
  rw [List.filter_eq_self]
  intro x hx
  obtain ⟨j, hj, rfl⟩ := List.mem_iff_getElem.1 hx
  simp only [List.length_take] at hj
  have := h j (by omega)
  simp only [List.getElem_take]
  simpa [List.getD_eq_getElem?_getD, show j < E.length by omega] using this
def clearC (G : List C6) (a b : Nat) : List C6 := (List.range G.length).map (fun k => if a ≤ k ∧ k < a + b then C6.all 0 else G.getD k (C6.all (-3)))
theorem clearC_getD {G : List C6} {a b k : Nat} (h : k < G.length) : (clearC G a b).getD k (C6.all (-3)) = if a ≤ k ∧ k < a + b then C6.all 0 else G.getD k (C6.all (-3)) := by
  unfold clearC
  simp [List.getD_eq_getElem?_getD, h]
theorem delete86 (p : C6 → Bool) (E : List C6) (hl : E.length ≤ 1000000) (m : Nat) (hm : m ≤ E.length) : Sx.Callee Try.prog 86 [.win 0 6 0 m, .sem (TellC p)] [.row 68 6 E.length (eR E) false]
    (fun v H => ∃ G : List C6, G.length = E.length ∧ v = .win 0 6 0 (leftC p E m).length ∧ H = [.row 68 6 E.length (eR G) false] ∧ ∀ i, i < (leftC p E m).length → G.getD i (C6.all (-3)) = (leftC p E m).getD i (C6.all (-3))) := by
  have hlen : (E.take m).length = m := by simp; omega
  refine callee_ent Try.E_ok Try.func86 rfl (by kernel_rfl) ?_
  (repeat' ((conv => whnf); (first | (with_reducible first | apply spl | apply spl') <;> intro hc <;> try (exfalso; omega) | with_reducible refine iJ fun hc => ?_ | refine vcq (k := ?_) | refine dr 4 (k := ?_) | refine dr 2007 (k := ?_) | refine dr 2012 (k := ?_)))); all_goals ((try conv => whnf); try with_reducible exact trivial)
  refine callee_view (index88 p (E.take m) (by simp; omega)) ?_
  (repeat' ((conv => whnf); (first | (with_reducible first | apply spl | apply spl') <;> intro hc <;> try (exfalso; omega) | with_reducible refine iJ fun hc => ?_ | refine vcq (k := ?_) | refine dr 4 (k := ?_) | refine dr 2007 (k := ?_) | refine dr 2012 (k := ?_)))); all_goals ((try conv => whnf); try with_reducible exact trivial)
  refine ⟨fun i hi => ?_, .inl rfl, ?_⟩
  · unfold eR rowOf
    rw [take_getD hi, Nat.zero_add]
  (repeat' ((conv => whnf); (first | (with_reducible first | apply spl | apply spl') <;> intro hc <;> try (exfalso; omega) | with_reducible refine iJ fun hc => ?_ | refine vcq (k := ?_) | refine dr 4 (k := ?_) | refine dr 2007 (k := ?_) | refine dr 2012 (k := ?_)))); all_goals ((try conv => whnf); try with_reducible exact trivial)
  rintro _ rfl
  rcases idxC_spec p (E.take m) with ⟨he, hn⟩ | ⟨k, he, hk, hp, hn⟩
  · have hn' : ∀ j, j < m → p (E.getD j (C6.all (-3))) = false := fun j hj => by rw [← take_getD hj]; exact hn j (by omega)
    have hleft := leftC_none hm hn'
    rw [he]
    (repeat' ((conv => whnf); (first | (with_reducible first | apply spl | apply spl') <;> intro hc <;> try (exfalso; omega) | with_reducible refine iJ fun hc => ?_ | refine vcq (k := ?_) | refine dr 4 (k := ?_) | refine dr 2007 (k := ?_) | refine dr 2012 (k := ?_)))); all_goals ((try conv => whnf); try with_reducible exact trivial)
    refine ⟨_, _, ⟨E, rfl, rfl, rfl, fun i hi => ?_⟩, some [some 0], ?_⟩
    · rw [hleft] at hi ⊢
      rw [take_getD (by omega)]
    · rw [hleft, hlen]
      (repeat' ((conv => whnf); (first | (with_reducible first | apply spl | apply spl') <;> intro hc <;> try (exfalso; omega) | with_reducible refine iJ fun hc => ?_ | refine vcq (k := ?_) | refine dr 4 (k := ?_) | refine dr 2007 (k := ?_) | refine dr 2012 (k := ?_)))); all_goals ((try conv => whnf); try with_reducible exact trivial)
  · rw [he]
    have hkm : k < m := by omega
    rw [take_getD hkm] at hp
    have hn' : ∀ j, j < k → p (E.getD j (C6.all (-3))) = false := fun j hj => by rw [← take_getD (show j < m by omega)]; exact hn j hj
    have hl1 : leftC p E (k + 1) = E.take k := by rw [leftC_succ (by omega), if_pos hp, leftC_none (by omega) hn']
    have hl2 : (leftC p E (k + 1)).length = k := by rw [hl1]; simp; omega
    (repeat' ((conv => whnf); (first | (with_reducible first | apply spl | apply spl') <;> intro hc <;> try (exfalso; omega) | with_reducible refine iJ fun hc => ?_ | refine vcq (k := ?_) | refine dr 4 (k := ?_) | refine dr 2007 (k := ?_) | refine dr 2012 (k := ?_)))); all_goals ((try conv => whnf); try with_reducible exact trivial)
    · refine ⟨Nat × List C6, fun i => i.1 ≤ m ∧ i.2.length = E.length ∧ (leftC p E i.1).length < i.1 ∧ (∀ a, a < (leftC p E i.1).length → i.2.getD a (C6.all (-3)) = (leftC p E i.1).getD a (C6.all (-3))) ∧ ∀ a, i.1 ≤ a → i.2.getD a (C6.all (-3)) = E.getD a (C6.all (-3)), fun i => m - i.1, fun i => [(5, .int .i64 (leftC p E i.1).length), (6, .int .i64 i.1)], fun i => [(0, .row 68 6 E.length (eR i.2) false)], fun _ => [], (k + 1, E), ⟨⟨by dsimp only; omega, rfl, by dsimp only; omega, fun a ha => ?_, fun a _ => rfl⟩, some [some 0], ?_⟩, ?_⟩
      · dsimp only at ha ⊢
        rw [hl1] at ha ⊢
        rw [take_getD (by simp at ha; omega)]
      · (repeat' ((conv => whnf); (first | (with_reducible first | apply spl | apply spl') <;> intro hc <;> try (exfalso; omega) | with_reducible refine iJ fun hc => ?_ | refine vcq (k := ?_) | refine dr 4 (k := ?_) | refine dr 2007 (k := ?_) | refine dr 2012 (k := ?_)))); all_goals ((try conv => whnf); try with_reducible exact trivial)
      · rintro ⟨j, G⟩ ⟨h1, h2, h3, h4, h5⟩
        dsimp only at h1 h2 h3 h4 h5
        have hle := leftC_le p E j
        have hz : 0 + (j : Int).toNat = j := by omega
        (repeat' ((conv => whnf); (first | (with_reducible first | apply spl | apply spl') <;> intro hc <;> try (exfalso; omega) | with_reducible refine iJ fun hc => ?_ | refine vcq (k := ?_) | refine dr 4 (k := ?_) | refine dr 2007 (k := ?_) | refine dr 2012 (k := ?_)))); all_goals ((try conv => whnf); try with_reducible exact trivial)
        · refine scall_fn (G.getD (0 + (j : Int).toNat) (C6.all (-3))) rfl rfl ?_
          rintro _ rfl
          rw [hz]
          have hjm : j < m := by dsimp only at hc; omega
          have hgj := h5 j (Nat.le_refl j)
          have hsucc := leftC_succ (p := p) (E := E) (j := j) (by omega)
          (repeat' ((conv => whnf); (first | (with_reducible first | apply spl | apply spl') <;> intro hc <;> try (exfalso; omega) | with_reducible refine iJ fun hc => ?_ | refine vcq (k := ?_) | refine dr 4 (k := ?_) | refine dr 2007 (k := ?_) | refine dr 2012 (k := ?_)))); all_goals ((try conv => whnf); try with_reducible exact trivial)
          · -- kept
            have hpf : ¬ p (E.getD j (C6.all (-3))) = true := by rw [← hgj]; assumption
            rw [if_neg hpf] at hsucc
            have hsl : (leftC p E (j + 1)).length = (leftC p E j).length + 1 := by rw [hsucc]; simp
            refine ⟨(j + 1, G.set (leftC p E j).length (G.getD j (C6.all (-3)))), ⟨⟨by dsimp only; omega, by dsimp only; rw [List.length_set]; exact h2, by dsimp only; omega, fun a ha => ?_, fun a ha => ?_⟩, by dsimp only; omega⟩, some [some 0], ?_⟩
            · dsimp only at ha ⊢
              rw [hsl] at ha
              rw [hsucc]
              simp only [List.getD_eq_getElem?_getD, List.getElem?_set, List.getElem?_append] at h4 hgj ⊢
              by_cases hal : a < (leftC p E j).length
              · rw [if_neg (by omega), if_pos hal]
                exact h4 a hal
              · have : a = (leftC p E j).length := by omega
                subst this
                rw [if_pos rfl, if_pos (by omega), if_neg (by omega)]
                simp [hgj]
            · dsimp only at ha ⊢
              rw [← h5 a (by omega)]
              simp only [List.getD_eq_getElem?_getD, List.getElem?_set]
              rw [if_neg (by omega)]
            · (repeat' ((conv => whnf); (first | (with_reducible first | apply spl | apply spl') <;> intro hc <;> try (exfalso; omega) | with_reducible refine iJ fun hc => ?_ | refine vcq (k := ?_) | refine dr 4 (k := ?_) | refine dr 2007 (k := ?_) | refine dr 2012 (k := ?_)))); all_goals ((try conv => whnf); try with_reducible exact trivial)
              refine ⟨fun a _ => ?_, ?_⟩
              · have := congrFun (eR_all (G := G) (e := (leftC p E j).length) (by omega) (G.getD j (C6.all (-3)))) a
                simp only [Nat.zero_add, Int.toNat_natCast]
                exact this
              · (repeat' ((conv => whnf); (first | (with_reducible first | apply spl | apply spl') <;> intro hc <;> try (exfalso; omega) | with_reducible refine iJ fun hc => ?_ | refine vcq (k := ?_) | refine dr 4 (k := ?_) | refine dr 2007 (k := ?_) | refine dr 2012 (k := ?_)))); all_goals ((try conv => whnf); try with_reducible exact trivial)
          · -- dropped
            have hpt : p (E.getD j (C6.all (-3))) = true := by rw [← hgj]; exact Classical.not_not.1 (by assumption)
            rw [if_pos hpt] at hsucc
            refine ⟨(j + 1, G), ⟨⟨by dsimp only; omega, h2, by dsimp only; rw [hsucc]; omega, fun a ha => ?_, fun a ha => ?_⟩, by dsimp only; omega⟩, some [some 0], ?_⟩
            · dsimp only at ha ⊢
              rw [hsucc] at ha ⊢
              exact h4 a ha
            · dsimp only at ha ⊢
              exact h5 a (by omega)
            · rw [← hsucc]
              (repeat' ((conv => whnf); (first | (with_reducible first | apply spl | apply spl') <;> intro hc <;> try (exfalso; omega) | with_reducible refine iJ fun hc => ?_ | refine vcq (k := ?_) | refine dr 4 (k := ?_) | refine dr 2007 (k := ?_) | refine dr 2012 (k := ?_)))); all_goals ((try conv => whnf); try with_reducible exact trivial)
        · have hjm : j = m := by dsimp only at hc; omega
          subst hjm
          have hcl := fun k => clearC_getD (G := G) (a := (leftC p E j).length) (b := j - (leftC p E j).length) (k := k)
          refine ⟨_, _, ⟨clearC G (leftC p E j).length (j - (leftC p E j).length), by unfold clearC; simp [h2], rfl, rfl, fun i hi => ?_⟩, some [some 0], ?_⟩
          · rw [hcl i (by omega), if_neg (by omega)]
            exact h4 i hi
          · (repeat' ((conv => whnf); (first | (with_reducible first | apply spl | apply spl') <;> intro hc <;> try (exfalso; omega) | with_reducible refine iJ fun hc => ?_ | refine vcq (k := ?_) | refine dr 4 (k := ?_) | refine dr 2007 (k := ?_) | refine dr 2012 (k := ?_)))); all_goals ((try conv => whnf); try with_reducible exact trivial)
            refine ⟨fun a ha => ?_, ?_⟩
            · unfold eR rowOf
              rw [hcl a (by omega)]
              have e1 : (((leftC p E j).length : Nat) : Int).toNat = (leftC p E j).length := by omega
              have e2 : ((j : Int) - ((leftC p E j).length : Nat)).toNat = j - (leftC p E j).length := by omega
              simp only [Nat.zero_add, e1, e2]
              split <;> rfl
            · (repeat' ((conv => whnf); (first | (with_reducible first | apply spl | apply spl') <;> intro hc <;> try (exfalso; omega) | with_reducible refine iJ fun hc => ?_ | refine vcq (k := ?_) | refine dr 4 (k := ?_) | refine dr 2007 (k := ?_) | refine dr 2012 (k := ?_)))); all_goals ((try conv => whnf); try with_reducible exact trivial)
def stH2 (s : PS) : List O := [.cells 71 (stCs s 2), .gone, .row 68 6 s.E.length (eR s.E) false]
theorem eR_snoc {F G : List C6} {x : C6} (hg : ∀ i, i < F.length → G.getD i (C6.all (-3)) = F.getD i (C6.all (-3))) : ∀ i, i < F.length + 1 → appF F.length (eR G) (fun _ => x.c) i = eR (F ++ [x]) i := by
  intro i hi
  unfold appF eR rowOf
  by_cases h : i < F.length
  · rw [if_pos h, hg i h]
    simp only [List.getD_eq_getElem?_getD, List.getElem?_append_left h]
  · rw [if_neg h]
    obtain rfl : i = F.length := by omega
    simp
theorem tidy_E (s : PS) : s.tidy.E = leftC isN s.E (s.E.length - 1) ++ [s.ep (s.E.length - 1)] := by
  unfold PS.tidy leftC
  simp only [List.dropLast_eq_take]
  congr 1
  apply List.filter_congr
  intro x _
  simp [isN]
theorem tidy71 (s : PS) (hs : s.Sm) : Sx.Callee Try.prog 71 [.ptr 0 0] (stH s) (fun v H => v = .tup [] ∧ H = stH2 s.tidy) := by
  have h1 := hs.ne
  have h2 := hs.len
  refine callee_ent Try.E_ok Try.func71 rfl (by kernel_rfl) ?_
  (repeat' ((conv => whnf); (first | (with_reducible first | apply spl | apply spl') <;> intro hc <;> try (exfalso; omega) | with_reducible refine iJ fun hc => ?_ | refine vcq (k := ?_) | refine dr 2012 (k := ?_) | refine dr 2007 (k := ?_)))); all_goals ((try conv => whnf); try with_reducible exact trivial)
  refine Callee.mono (current68 s hs) ?_
  rintro _ _ ⟨rfl, rfl⟩
  (repeat' ((conv => whnf); (first | (with_reducible first | apply spl | apply spl') <;> intro hc <;> try (exfalso; omega) | with_reducible refine iJ fun hc => ?_ | refine vcq (k := ?_) | refine dr 2012 (k := ?_) | refine dr 2007 (k := ?_)))); all_goals ((try conv => whnf); try with_reducible exact trivial)
  refine callee_frame [1] (delete86 isN s.E h2 (s.E.length - 1) (by omega)) rfl ?_ ?_
  · (repeat' ((conv => whnf); (first | (with_reducible first | apply spl | apply spl') <;> intro hc <;> try (exfalso; omega) | with_reducible refine iJ fun hc => ?_ | refine vcq (k := ?_) | refine dr 4 (k := ?_) | refine dr 2007 (k := ?_) | refine dr 2012 (k := ?_)))); all_goals ((try conv => whnf); try with_reducible exact trivial)
    refine ⟨semOb_fn (a' := []) (b' := []) (fun i => isNone87 i) (plain_of Try.func87 (by kernel_rfl) (by kernel_rfl)) ?_, ?_⟩
    · (repeat' ((conv => whnf); (first | (with_reducible first | apply spl | apply spl') <;> intro hc <;> try (exfalso; omega) | with_reducible refine iJ fun hc => ?_ | refine vcq (k := ?_) | refine dr 4 (k := ?_) | refine dr 2007 (k := ?_) | refine dr 2012 (k := ?_)))); all_goals ((try conv => whnf); try with_reducible exact trivial)
    · (repeat' ((conv => whnf); (first | (with_reducible first | apply spl | apply spl') <;> intro hc <;> try (exfalso; omega) | with_reducible refine iJ fun hc => ?_ | refine vcq (k := ?_) | refine dr 4 (k := ?_) | refine dr 2007 (k := ?_) | refine dr 2012 (k := ?_)))); all_goals ((try conv => whnf); try with_reducible exact trivial)
  · rintro _ _ ⟨G, hG, rfl, rfl, hg⟩
    have hle := leftC_le isN s.E (s.E.length - 1)
    have hE := tidy_E s
    have hEl : s.tidy.E.length = (leftC isN s.E (s.E.length - 1)).length + 1 := by rw [hE]; simp
    (repeat' ((conv => whnf); (first | (with_reducible first | apply spl | apply spl') <;> intro hc <;> try (exfalso; omega) | with_reducible refine iJ fun hc => ?_ | refine vcq (k := ?_) | refine dr 2012 (k := ?_) | refine dr 2007 (k := ?_)))); all_goals ((try conv => whnf); try with_reducible exact trivial)
    have hn : ((s.E.length : Int) - 1).toNat = s.E.length - 1 := by omega
    refine ⟨_, _, ⟨rfl, rfl⟩, some [some 0, some 1, some 4], ?_⟩
    (repeat' ((conv => whnf); (first | (with_reducible first | apply spl | apply spl') <;> intro hc <;> try (exfalso; omega) | with_reducible refine iJ fun hc => ?_ | refine vcq (k := ?_) | refine dr 4 (k := ?_) | refine dr 2007 (k := ?_) | refine dr 2012 (k := ?_)))); all_goals ((try conv => whnf); try with_reducible exact trivial)
    refine ⟨?_, ?_⟩
    · rw [hE, hn]
      exact eR_snoc hg
    · (repeat' ((conv => whnf); (first | (with_reducible first | apply spl | apply spl') <;> intro hc <;> try (exfalso; omega) | with_reducible refine iJ fun hc => ?_ | refine vcq (k := ?_) | refine dr 4 (k := ?_) | refine dr 2007 (k := ?_) | refine dr 2012 (k := ?_)))); all_goals ((try conv => whnf); try with_reducible exact trivial)
end Go.Proofs


namespace Go.Proofs
open Go Go.Sx
set_option maxRecDepth 100000
set_option maxHeartbeats 4000000
theorem tidy_len (s : PS) : s.tidy.E.length ≤ s.E.length - 1 + 1 ∧ 0 < s.tidy.E.length := by
  have := leftC_le isN s.E (s.E.length - 1)
  rw [tidy_E]
  simp
  omega
theorem PS.Sm.put {s : PS} (h : s.Sm) (b : Nat) (n : Int) : (s.put b n).Sm := ⟨by unfold PS.put; simpa using h.ne, by unfold PS.put; simpa using h.len, h.W⟩
theorem stH_put {s : PS} (hs : s.Sm) {b : Nat} (hb : b < 6) (n : Int) : stH (s.put b n) = [.cells 71 (stCs s 1), .row 68 6 s.E.length (fun j => spliceP (j = s.E.length - 1) (eR s.E j) b [.int .i64 n]) false] := by
  have h1 := hs.ne
  rw [eR_set (by omega) hb]
  unfold stH stCs PS.put PS.ep
  simp only [List.length_set]
theorem order43 (s : PS) (hs : s.Sm) (hl : s.E.length ≤ 1000) (hW : s.W ≤ 100000) (k : Int) (o : Int × Int) (ho : o.1 = 1 ∨ o.1 = 2 → 0 ≤ o.2 ∧ o.2 < 6) : Sx.Callee Try.prog 43 [.ptr 0 0, .int .i64 k, oV o] (stH s) (fun v H => v = .tup [] ∧ H = stH2 (s.order k o)) := by
  have h1 := hs.ne
  have h2 := hs.len
  have h3 := hs.W
  have hn : ((s.E.length : Int) - 1).toNat = s.E.length - 1 := by omega
  refine callee_ent Try.E_ok Try.func43 rfl (by kernel_rfl) ?_
  by_cases c1 : o.1 = 1
  · obtain ⟨b, hb, e⟩ : ∃ b : Nat, b < 6 ∧ o.2 = b := ⟨o.2.toNat, by have := ho (.inl c1); omega, by have := ho (.inl c1); omega⟩
    obtain ⟨o1, o2⟩ := o
    dsimp only at c1 e
    subst c1 e
    have ht := tidy71 (s.put b k) (hs.put b k)
    have ho' : s.order k (1, (b : Int)) = (s.put b k).tidy := rfl
    rw [ho']
    rcases six hb with rfl | rfl | rfl | rfl | rfl | rfl
    all_goals
      (repeat' ((conv => whnf); (first | (with_reducible first | apply spl | apply spl') <;> intro hc <;> try (exfalso; omega) | with_reducible refine iJ fun hc => ?_ | refine vcq (k := ?_) | refine dr 305020401032004 (k := ?_) | refine dr 9 (k := ?_) | refine dr 2007 (k := ?_)))); all_goals ((try conv => whnf); try with_reducible exact trivial)
      refine callee_frame [0, 1] (current68 s hs) rfl ?_ ?_
      · (repeat' ((conv => whnf); (first | (with_reducible first | apply spl | apply spl') <;> intro hc <;> try (exfalso; omega) | with_reducible refine iJ fun hc => ?_ | refine vcq (k := ?_) | refine dr 305020401032004 (k := ?_) | refine dr 9 (k := ?_) | refine dr 2007 (k := ?_)))); all_goals ((try conv => whnf); try with_reducible exact trivial)
      · rintro _ _ ⟨rfl, rfl⟩
        (repeat' ((conv => whnf); (first | (with_reducible first | apply spl | apply spl') <;> intro hc <;> try (exfalso; omega) | with_reducible refine iJ fun hc => ?_ | refine vcq (k := ?_) | refine dr 305020401032004 (k := ?_) | refine dr 9 (k := ?_) | refine dr 2007 (k := ?_)))); all_goals ((try conv => whnf); try with_reducible exact trivial)
        refine callee_frame [0, 1] ht rfl ?_ ?_
        · rw [stH_put hs (by omega), ← hn]
          (repeat' ((conv => whnf); (first | (with_reducible first | apply spl | apply spl') <;> intro hc <;> try (exfalso; omega) | with_reducible refine iJ fun hc => ?_ | refine vcq (k := ?_) | refine dr 305020401032004 (k := ?_) | refine dr 9 (k := ?_) | refine dr 2007 (k := ?_)))); all_goals ((try conv => whnf); try with_reducible exact trivial)
        · rintro _ _ ⟨rfl, rfl⟩
          (repeat' ((conv => whnf); (first | (with_reducible first | apply spl | apply spl') <;> intro hc <;> try (exfalso; omega) | with_reducible refine iJ fun hc => ?_ | refine vcq (k := ?_) | refine dr 305020401032004 (k := ?_) | refine dr 9 (k := ?_) | refine dr 2007 (k := ?_)))); all_goals ((try conv => whnf); try with_reducible exact trivial)
          refine ⟨_, _, ⟨rfl, rfl⟩, some [some 0, some 1, some 3], ?_⟩
          (repeat' ((conv => whnf); (first | (with_reducible first | apply spl | apply spl') <;> intro hc <;> try (exfalso; omega) | with_reducible refine iJ fun hc => ?_ | refine vcq (k := ?_) | refine dr 305020401032004 (k := ?_) | refine dr 9 (k := ?_) | refine dr 2007 (k := ?_)))); all_goals ((try conv => whnf); try with_reducible exact trivial)
  by_cases c2 : o.1 = 2
  · obtain ⟨b, hb, e⟩ : ∃ b : Nat, b < 6 ∧ o.2 = b := ⟨o.2.toNat, by have := ho (.inr c2); omega, by have := ho (.inr c2); omega⟩
    obtain ⟨o1, o2⟩ := o
    dsimp only at c1 c2 e
    subst c2 e
    have hp := hs.put b k
    have hpl : (s.put b k).E.length = s.E.length := by unfold PS.put; simp
    have hwa := writeAll69 (s.put b k) hp (by rw [hpl]; have : (s.put b k).W = s.W := rfl; omega) (s.E.length - 1) (by rw [hpl]; omega)
    have hel := PS.wrE_len (s.put b k) (s.E.length - 1)
    have hew := PS.wrE_W (s.put b k) (s.E.length - 1)
    have hpw : (s.put b k).W = s.W := rfl
    generalize hs2 : (s.put b k).wrE (s.E.length - 1) = s2 at *
    have hsm2 : s2.Sm := ⟨by omega, by omega, by omega⟩
    have hw := write70 s2 hsm2 (s.E.length - 1) b (by omega) hb
    have hsm3 := hsm2.wr (e := s.E.length - 1) (b := b) (by omega)
    have ht := tidy71 (s2.wr (s.E.length - 1) b) hsm3
    have ho' : s.order k (2, (b : Int)) = (s2.wr (s.E.length - 1) b).tidy := by rw [← hs2]; rfl
    rw [ho']
    have hl2 : (s.E.length : Int) - 1 = ((s.E.length - 1 : Nat) : Int) := by omega
    rcases six hb with rfl | rfl | rfl | rfl | rfl | rfl
    all_goals
      (repeat' ((conv => whnf); (first | (with_reducible first | apply spl | apply spl') <;> intro hc <;> try (exfalso; omega) | with_reducible refine iJ fun hc => ?_ | refine vcq (k := ?_) | refine dr 305020401032004 (k := ?_) | refine dr 9 (k := ?_) | refine dr 2007 (k := ?_)))); all_goals ((try conv => whnf); try with_reducible exact trivial)
      refine callee_frame [0, 1] (current68 s hs) rfl ?_ ?_
      · (repeat' ((conv => whnf); (first | (with_reducible first | apply spl | apply spl') <;> intro hc <;> try (exfalso; omega) | with_reducible refine iJ fun hc => ?_ | refine vcq (k := ?_) | refine dr 305020401032004 (k := ?_) | refine dr 9 (k := ?_) | refine dr 2007 (k := ?_)))); all_goals ((try conv => whnf); try with_reducible exact trivial)
      · rintro _ _ ⟨rfl, rfl⟩
        (repeat' ((conv => whnf); (first | (with_reducible first | apply spl | apply spl') <;> intro hc <;> try (exfalso; omega) | with_reducible refine iJ fun hc => ?_ | refine vcq (k := ?_) | refine dr 305020401032004 (k := ?_) | refine dr 9 (k := ?_) | refine dr 2007 (k := ?_)))); all_goals ((try conv => whnf); try with_reducible exact trivial)
        refine callee_frame [0, 1] hwa rfl ?_ ?_
        · rw [stH_put hs (by omega), ← hn]
          (repeat' ((conv => whnf); (first | (with_reducible first | apply spl | apply spl') <;> intro hc <;> try (exfalso; omega) | with_reducible refine iJ fun hc => ?_ | refine vcq (k := ?_) | refine dr 305020401032004 (k := ?_) | refine dr 9 (k := ?_) | refine dr 2007 (k := ?_)))); all_goals ((try conv => whnf); try with_reducible exact trivial)
        · rintro _ _ ⟨rfl, rfl⟩
          (repeat' ((conv => whnf); (first | (with_reducible first | apply spl | apply spl') <;> intro hc <;> try (exfalso; omega) | with_reducible refine iJ fun hc => ?_ | refine vcq (k := ?_) | refine dr 305020401032004 (k := ?_) | refine dr 9 (k := ?_) | refine dr 2007 (k := ?_)))); all_goals ((try conv => whnf); try with_reducible exact trivial)
          refine callee_frame [0, 1] hw rfl ?_ ?_
          · (repeat' ((conv => whnf); (first | (with_reducible first | apply spl | apply spl') <;> intro hc <;> try (exfalso; omega) | with_reducible refine iJ fun hc => ?_ | refine vcq (k := ?_) | refine dr 305020401032004 (k := ?_) | refine dr 9 (k := ?_) | refine dr 2007 (k := ?_)))); all_goals ((try conv => whnf); try with_reducible exact trivial)
          · rintro _ _ ⟨rfl, rfl⟩
            (repeat' ((conv => whnf); (first | (with_reducible first | apply spl | apply spl') <;> intro hc <;> try (exfalso; omega) | with_reducible refine iJ fun hc => ?_ | refine vcq (k := ?_) | refine dr 305020401032004 (k := ?_) | refine dr 9 (k := ?_) | refine dr 2007 (k := ?_)))); all_goals ((try conv => whnf); try with_reducible exact trivial)
            refine callee_frame [0, 1] ht rfl ?_ ?_
            · (repeat' ((conv => whnf); (first | (with_reducible first | apply spl | apply spl') <;> intro hc <;> try (exfalso; omega) | with_reducible refine iJ fun hc => ?_ | refine vcq (k := ?_) | refine dr 305020401032004 (k := ?_) | refine dr 9 (k := ?_) | refine dr 2007 (k := ?_)))); all_goals ((try conv => whnf); try with_reducible exact trivial)
            · rintro _ _ ⟨rfl, rfl⟩
              (repeat' ((conv => whnf); (first | (with_reducible first | apply spl | apply spl') <;> intro hc <;> try (exfalso; omega) | with_reducible refine iJ fun hc => ?_ | refine vcq (k := ?_) | refine dr 305020401032004 (k := ?_) | refine dr 9 (k := ?_) | refine dr 2007 (k := ?_)))); all_goals ((try conv => whnf); try with_reducible exact trivial)
              refine ⟨_, _, ⟨rfl, rfl⟩, some [some 0, some 1, some 3], ?_⟩
              (repeat' ((conv => whnf); (first | (with_reducible first | apply spl | apply spl') <;> intro hc <;> try (exfalso; omega) | with_reducible refine iJ fun hc => ?_ | refine vcq (k := ?_) | refine dr 305020401032004 (k := ?_) | refine dr 9 (k := ?_) | refine dr 2007 (k := ?_)))); all_goals ((try conv => whnf); try with_reducible exact trivial)
  by_cases c3 : o.1 = 3
  · have hsm3 : (⟨s.M, s.E ++ [C6.all (-3)], s.W⟩ : PS).Sm := ⟨by simp, by simp; omega, h3⟩
    have ht := tidy71 _ hsm3
    have ho' : s.order k o = (⟨s.M, s.E ++ [C6.all (-3)], s.W⟩ : PS).tidy := by unfold PS.order; rw [if_neg c1, if_neg c2, if_pos c3]
    rw [ho']
    (repeat' ((conv => whnf); (first | (with_reducible first | apply spl | apply spl') <;> intro hc <;> try (exfalso; omega) | with_reducible refine iJ fun hc => ?_ | refine vcq (k := ?_) | refine dr 2007 (k := ?_)))); all_goals ((try conv => whnf); try with_reducible exact trivial)
    refine pcall_intro (all67 (-3)) rfl ?_
    (repeat' ((conv => whnf); (first | (with_reducible first | apply spl | apply spl') <;> intro hc <;> try (exfalso; omega) | with_reducible refine iJ fun hc => ?_ | refine vcq (k := ?_) | refine dr 2007 (k := ?_)))); all_goals ((try conv => whnf); try with_reducible exact trivial)
    refine callee_frame [0, 4] ht rfl ?_ ?_
    · (repeat' ((conv => whnf); (first | (with_reducible first | apply spl | apply spl') <;> intro hc <;> try (exfalso; omega) | with_reducible refine iJ fun hc => ?_ | refine vcq (k := ?_) | refine dr 305020401032004 (k := ?_) | refine dr 9 (k := ?_) | refine dr 2007 (k := ?_)))); all_goals ((try conv => whnf); try with_reducible exact trivial)
      refine ⟨by simp, ?_⟩
      (repeat' ((conv => whnf); (first | (with_reducible first | apply spl | apply spl') <;> intro hc <;> try (exfalso; omega) | with_reducible refine iJ fun hc => ?_ | refine vcq (k := ?_) | refine dr 305020401032004 (k := ?_) | refine dr 9 (k := ?_) | refine dr 2007 (k := ?_)))); all_goals ((try conv => whnf); try with_reducible exact trivial)
      refine ⟨by simp, eR_snoc (fun _ _ => rfl), ?_⟩
      (repeat' ((conv => whnf); (first | (with_reducible first | apply spl | apply spl') <;> intro hc <;> try (exfalso; omega) | with_reducible refine iJ fun hc => ?_ | refine vcq (k := ?_) | refine dr 305020401032004 (k := ?_) | refine dr 9 (k := ?_) | refine dr 2007 (k := ?_)))); all_goals ((try conv => whnf); try with_reducible exact trivial)
    · rintro _ _ ⟨rfl, rfl⟩
      (repeat' ((conv => whnf); (first | (with_reducible first | apply spl | apply spl') <;> intro hc <;> try (exfalso; omega) | with_reducible refine iJ fun hc => ?_ | refine vcq (k := ?_) | refine dr 305020401032004 (k := ?_) | refine dr 9 (k := ?_) | refine dr 2007 (k := ?_)))); all_goals ((try conv => whnf); try with_reducible exact trivial)
      refine ⟨_, _, ⟨rfl, rfl⟩, some [some 0, some 1, some 5], ?_⟩
      (repeat' ((conv => whnf); (first | (with_reducible first | apply spl | apply spl') <;> intro hc <;> try (exfalso; omega) | with_reducible refine iJ fun hc => ?_ | refine vcq (k := ?_) | refine dr 305020401032004 (k := ?_) | refine dr 9 (k := ?_) | refine dr 2007 (k := ?_)))); all_goals ((try conv => whnf); try with_reducible exact trivial)
  by_cases c4 : o.1 = 4
  · have hwa := writeAll69 s hs (by omega) s.E.length (Nat.le_refl _)
    have hel := PS.wrE_len s s.E.length
    have hew := PS.wrE_W s s.E.length
    have ho' : s.order k o = (s.wrE s.E.length).tidy := by unfold PS.order; rw [if_neg c1, if_neg c2, if_neg c3, if_pos c4]
    rw [ho']
    generalize s.wrE s.E.length = s2 at *
    have hsm2 : s2.Sm := ⟨by omega, by omega, by omega⟩
    have ht := tidy71 s2 hsm2
    (repeat' ((conv => whnf); (first | (with_reducible first | apply spl | apply spl') <;> intro hc <;> try (exfalso; omega) | with_reducible refine iJ fun hc => ?_ | refine vcq (k := ?_) | refine dr 305020401032004 (k := ?_) | refine dr 9 (k := ?_) | refine dr 2007 (k := ?_)))); all_goals ((try conv => whnf); try with_reducible exact trivial)
    refine callee_frame [0, 1] hwa rfl ?_ ?_
    · (repeat' ((conv => whnf); (first | (with_reducible first | apply spl | apply spl') <;> intro hc <;> try (exfalso; omega) | with_reducible refine iJ fun hc => ?_ | refine vcq (k := ?_) | refine dr 305020401032004 (k := ?_) | refine dr 9 (k := ?_) | refine dr 2007 (k := ?_)))); all_goals ((try conv => whnf); try with_reducible exact trivial)
    · rintro _ _ ⟨rfl, rfl⟩
      (repeat' ((conv => whnf); (first | (with_reducible first | apply spl | apply spl') <;> intro hc <;> try (exfalso; omega) | with_reducible refine iJ fun hc => ?_ | refine vcq (k := ?_) | refine dr 305020401032004 (k := ?_) | refine dr 9 (k := ?_) | refine dr 2007 (k := ?_)))); all_goals ((try conv => whnf); try with_reducible exact trivial)
      refine callee_frame [0, 1] ht rfl ?_ ?_
      · (repeat' ((conv => whnf); (first | (with_reducible first | apply spl | apply spl') <;> intro hc <;> try (exfalso; omega) | with_reducible refine iJ fun hc => ?_ | refine vcq (k := ?_) | refine dr 305020401032004 (k := ?_) | refine dr 9 (k := ?_) | refine dr 2007 (k := ?_)))); all_goals ((try conv => whnf); try with_reducible exact trivial)
      · rintro _ _ ⟨rfl, rfl⟩
        (repeat' ((conv => whnf); (first | (with_reducible first | apply spl | apply spl') <;> intro hc <;> try (exfalso; omega) | with_reducible refine iJ fun hc => ?_ | refine vcq (k := ?_) | refine dr 305020401032004 (k := ?_) | refine dr 9 (k := ?_) | refine dr 2007 (k := ?_)))); all_goals ((try conv => whnf); try with_reducible exact trivial)
        refine ⟨_, _, ⟨rfl, rfl⟩, some [some 0, some 1, some 3], ?_⟩
        (repeat' ((conv => whnf); (first | (with_reducible first | apply spl | apply spl') <;> intro hc <;> try (exfalso; omega) | with_reducible refine iJ fun hc => ?_ | refine vcq (k := ?_) | refine dr 305020401032004 (k := ?_) | refine dr 9 (k := ?_) | refine dr 2007 (k := ?_)))); all_goals ((try conv => whnf); try with_reducible exact trivial)
  · have ho' : s.order k o = s.tidy := by unfold PS.order; rw [if_neg c1, if_neg c2, if_neg c3, if_neg c4]
    rw [ho']
    have ht := tidy71 s hs
    (repeat' ((conv => whnf); (first | (with_reducible first | apply spl | apply spl') <;> intro hc <;> try (exfalso; omega) | with_reducible refine iJ fun hc => ?_ | refine vcq (k := ?_) | refine dr 305020401032004 (k := ?_) | refine dr 9 (k := ?_) | refine dr 2007 (k := ?_)))); all_goals ((try conv => whnf); try with_reducible exact trivial)
    refine callee_frame [0, 1] ht rfl ?_ ?_
    · (repeat' ((conv => whnf); (first | (with_reducible first | apply spl | apply spl') <;> intro hc <;> try (exfalso; omega) | with_reducible refine iJ fun hc => ?_ | refine vcq (k := ?_) | refine dr 305020401032004 (k := ?_) | refine dr 9 (k := ?_) | refine dr 2007 (k := ?_)))); all_goals ((try conv => whnf); try with_reducible exact trivial)
    · rintro _ _ ⟨rfl, rfl⟩
      (repeat' ((conv => whnf); (first | (with_reducible first | apply spl | apply spl') <;> intro hc <;> try (exfalso; omega) | with_reducible refine iJ fun hc => ?_ | refine vcq (k := ?_) | refine dr 305020401032004 (k := ?_) | refine dr 9 (k := ?_) | refine dr 2007 (k := ?_)))); all_goals ((try conv => whnf); try with_reducible exact trivial)
      refine ⟨_, _, ⟨rfl, rfl⟩, some [some 0, some 1, some 3], ?_⟩
      (repeat' ((conv => whnf); (first | (with_reducible first | apply spl | apply spl') <;> intro hc <;> try (exfalso; omega) | with_reducible refine iJ fun hc => ?_ | refine vcq (k := ?_) | refine dr 305020401032004 (k := ?_) | refine dr 9 (k := ?_) | refine dr 2007 (k := ?_)))); all_goals ((try conv => whnf); try with_reducible exact trivial)
end Go.Proofs


namespace Go.Proofs
open Go Go.Sx
set_option maxRecDepth 100000
set_option maxHeartbeats 4000000
theorem first72 (s : PS) (hl : s.E.length ≤ 1000000) : PureC Try.prog 72 false [stI s] (· = .tup [.int .i64 (idxC isS s.E), .prop (0 ≤ idxC isS s.E) inferInstance]) := by
  refine pureC_of_exec Try.E_ok Try.func72 rfl (by kernel_rfl) ?_
  (repeat' ((conv => whnf); (first | (with_reducible first | apply spl | apply spl') <;> intro hc <;> try (exfalso; omega) | with_reducible refine iJ fun hc => ?_ | refine vcq (k := ?_) | fail))); all_goals ((try conv => whnf); try with_reducible exact trivial)
  refine callee_view (index88 isS s.E hl) ?_
  (repeat' ((conv => whnf); (first | (with_reducible first | apply spl | apply spl') <;> intro hc <;> try (exfalso; omega) | with_reducible refine iJ fun hc => ?_ | refine vcq (k := ?_) | fail))); all_goals ((try conv => whnf); try with_reducible exact trivial)
  refine ⟨semOb_fn (a' := []) (b' := []) (fun i => isSome89 i) (plain_of Try.func89 (by kernel_rfl) (by kernel_rfl)) ?_, ?_⟩
  · (repeat' ((conv => whnf); (first | (with_reducible first | apply spl | apply spl') <;> intro hc <;> try (exfalso; omega) | with_reducible refine iJ fun hc => ?_ | refine vcq (k := ?_) | fail))); all_goals ((try conv => whnf); try with_reducible exact trivial)
  · rintro _ rfl
    (repeat' ((conv => whnf); (first | (with_reducible first | apply spl | apply spl') <;> intro hc <;> try (exfalso; omega) | with_reducible refine iJ fun hc => ?_ | refine vcq (k := ?_) | fail))); all_goals ((try conv => whnf); try with_reducible exact trivial)
    refine ⟨_, rfl, ?_⟩
    (repeat' ((conv => whnf); (first | (with_reducible first | apply spl | apply spl') <;> intro hc <;> try (exfalso; omega) | with_reducible refine iJ fun hc => ?_ | refine vcq (k := ?_) | fail))); all_goals ((try conv => whnf); try with_reducible exact trivial)
def PS.can (s : PS) (b : Nat) : Prop := 0 ≤ idxC isS s.E ∧ (s.ep (idxC isS s.E).toNat).get b ≠ -3
instance (s : PS) (b : Nat) : Decidable (s.can b) := inferInstanceAs (Decidable (_ ∧ _))
theorem can52 (s : PS) (hl : s.E.length ≤ 1000000) (b : Nat) (hb : b < 6) : PureC Try.prog 52 false [stI s, .int .i64 b] (· = .prop (s.can b) inferInstance) := by
  have hlt := idxC_spec isS s.E
  refine pureC_of_exec Try.E_ok Try.func52 rfl (by kernel_rfl) ?_
  rcases six hb with rfl | rfl | rfl | rfl | rfl | rfl
  all_goals
    (repeat' ((conv => whnf); (first | (with_reducible first | apply spl | apply spl') <;> intro hc <;> try (exfalso; omega) | with_reducible refine iJ fun hc => ?_ | refine vcq (k := ?_) | fail))); all_goals ((try conv => whnf); try with_reducible exact trivial)
    refine callee_fo (first72 s hl) rfl ?_
    rintro _ rfl
    (repeat' ((conv => whnf); (first | (with_reducible first | apply spl | apply spl') <;> intro hc <;> try (exfalso; omega) | with_reducible refine iJ fun hc => ?_ | refine vcq (k := ?_) | fail))); all_goals ((try conv => whnf); try with_reducible exact trivial)
    refine ⟨_, rfl, ?_⟩
    (repeat' ((conv => whnf); (first | (with_reducible first | apply spl | apply spl') <;> intro hc <;> try (exfalso; omega) | with_reducible refine iJ fun hc => ?_ | refine vcq (k := ?_) | fail))); all_goals ((try conv => whnf); try with_reducible exact trivial)
def cntC (x : C6) : Nat → Int
  | 0 => 0
  | b + 1 => cntC x b + if x.get b = -3 then 0 else 1
def cntE (E : List C6) : Nat → Int
  | 0 => 0
  | e + 1 => cntE E e + cntC (E.getD e (C6.all (-3))) 6
def PS.waits (s : PS) : Int := cntE s.E s.E.length
theorem cntC_pos {x : C6} {b : Nat} (h : x.get b ≠ -3) : cntC x (b + 1) = cntC x b + 1 := by show cntC x b + (if _ then _ else _) = _; rw [if_neg h]
theorem cntC_neg {x : C6} {b : Nat} (h : x.get b = -3) : cntC x (b + 1) = cntC x b := by show cntC x b + (if _ then _ else _) = _; rw [if_pos h]; omega
theorem cntC_le (x : C6) : ∀ b : Nat, 0 ≤ cntC x b ∧ cntC x b ≤ b
  | 0 => by simp [cntC]
  | b + 1 => by have := cntC_le x b; unfold cntC; split <;> omega
theorem cntE_le (E : List C6) : ∀ e : Nat, 0 ≤ cntE E e ∧ cntE E e ≤ 6 * e
  | 0 => by simp [cntE]
  | e + 1 => by have := cntE_le E e; have := cntC_le (E.getD e (C6.all (-3))) 6; unfold cntE; omega
theorem waits44 (s : PS) (hl : s.E.length ≤ 1000000) : PureC Try.prog 44 false [stI s] (· = .int .i64 s.waits) := by
  refine pureC_of_exec Try.E_ok Try.func44 rfl (by kernel_rfl) ?_
  (repeat' ((conv => whnf); (first | (with_reducible first | apply spl | apply spl') <;> intro hc <;> try (exfalso; omega) | with_reducible refine iJ fun hc => ?_ | refine vcq (k := ?_) | fail))); all_goals ((try conv => whnf); try with_reducible exact trivial)
  refine ⟨Nat, fun i => i ≤ s.E.length, fun i => s.E.length - i, fun i => [(12, .int .i64 i), (2, .int .i64 (cntE s.E i))], fun _ => [], fun _ => [], 0, ⟨by omega, none, ?_⟩, ?_⟩
  · (repeat' ((conv => whnf); (first | (with_reducible first | apply spl | apply spl') <;> intro hc <;> try (exfalso; omega) | with_reducible refine iJ fun hc => ?_ | refine vcq (k := ?_) | fail))); all_goals ((try conv => whnf); try with_reducible exact trivial)
  · intro i hi
    have hi : i ≤ s.E.length := hi
    have hci := cntE_le s.E i
    have e0 : cntC (s.E.getD i (C6.all (-3))) 0 = 0 := rfl
    have eS : cntE s.E (i + 1) = cntE s.E i + cntC (s.E.getD i (C6.all (-3))) 6 := rfl
    (repeat' ((conv => whnf); (first | (with_reducible first | apply spl | apply spl') <;> intro hc <;> try (exfalso; omega) | with_reducible refine iJ fun hc => ?_ | refine vcq (k := ?_) | fail))); all_goals ((try conv => whnf); try with_reducible exact trivial)
    · refine ⟨Nat, fun b => b ≤ 6, fun b => 6 - b, fun b => [(17, .int .i64 b), (2, .int .i64 (cntE s.E i + cntC (s.E.getD i (C6.all (-3))) b))], fun _ => [], fun _ => [], 0, ⟨by omega, some [some 0], ?_⟩, ?_⟩
      · (repeat' ((conv => whnf); (first | (with_reducible first | apply spl | apply spl') <;> intro hc <;> try (exfalso; omega) | with_reducible refine iJ fun hc => ?_ | refine vcq (k := ?_) | fail))); all_goals ((try conv => whnf); try with_reducible exact trivial)
      · intro b hb
        have hb : b ≤ 6 := hb
        have hcb := cntC_le (s.E.getD i (C6.all (-3))) b
        by_cases h6 : b < 6
        · rcases six h6 with rfl | rfl | rfl | rfl | rfl | rfl
          · (repeat' ((conv => whnf); (first | (with_reducible first | apply spl | apply spl') <;> intro hc <;> try (exfalso; omega) | with_reducible refine iJ fun hc => ?_ | refine vcq (k := ?_) | fail))); all_goals ((try conv => whnf); try with_reducible exact trivial)
            · have e : cntC (s.E.getD i (C6.all (-3))) 1 = cntC (s.E.getD i (C6.all (-3))) 0 + 1 := cntC_pos (b := 0) hc
              refine ⟨1, ⟨by dsimp only; omega, by dsimp only; omega⟩, some [some 0], ?_⟩
              (repeat' ((conv => whnf); (first | (with_reducible first | apply spl | apply spl') <;> intro hc <;> try (exfalso; omega) | with_reducible refine iJ fun hc => ?_ | refine vcq (k := ?_) | fail))); all_goals ((try conv => whnf); try with_reducible exact trivial)
            · have e : cntC (s.E.getD i (C6.all (-3))) 1 = cntC (s.E.getD i (C6.all (-3))) 0 := cntC_neg (b := 0) (Classical.not_not.1 hc)
              refine ⟨1, ⟨by dsimp only; omega, by dsimp only; omega⟩, some [some 0], ?_⟩
              (repeat' ((conv => whnf); (first | (with_reducible first | apply spl | apply spl') <;> intro hc <;> try (exfalso; omega) | with_reducible refine iJ fun hc => ?_ | refine vcq (k := ?_) | fail))); all_goals ((try conv => whnf); try with_reducible exact trivial)
          · (repeat' ((conv => whnf); (first | (with_reducible first | apply spl | apply spl') <;> intro hc <;> try (exfalso; omega) | with_reducible refine iJ fun hc => ?_ | refine vcq (k := ?_) | fail))); all_goals ((try conv => whnf); try with_reducible exact trivial)
            · have e : cntC (s.E.getD i (C6.all (-3))) 2 = cntC (s.E.getD i (C6.all (-3))) 1 + 1 := cntC_pos (b := 1) hc
              refine ⟨2, ⟨by dsimp only; omega, by dsimp only; omega⟩, some [some 0], ?_⟩
              (repeat' ((conv => whnf); (first | (with_reducible first | apply spl | apply spl') <;> intro hc <;> try (exfalso; omega) | with_reducible refine iJ fun hc => ?_ | refine vcq (k := ?_) | fail))); all_goals ((try conv => whnf); try with_reducible exact trivial)
            · have e : cntC (s.E.getD i (C6.all (-3))) 2 = cntC (s.E.getD i (C6.all (-3))) 1 := cntC_neg (b := 1) (Classical.not_not.1 hc)
              refine ⟨2, ⟨by dsimp only; omega, by dsimp only; omega⟩, some [some 0], ?_⟩
              (repeat' ((conv => whnf); (first | (with_reducible first | apply spl | apply spl') <;> intro hc <;> try (exfalso; omega) | with_reducible refine iJ fun hc => ?_ | refine vcq (k := ?_) | fail))); all_goals ((try conv => whnf); try with_reducible exact trivial)
          · (repeat' ((conv => whnf); (first | (with_reducible first | apply spl | apply spl') <;> intro hc <;> try (exfalso; omega) | with_reducible refine iJ fun hc => ?_ | refine vcq (k := ?_) | fail))); all_goals ((try conv => whnf); try with_reducible exact trivial)
            · have e : cntC (s.E.getD i (C6.all (-3))) 3 = cntC (s.E.getD i (C6.all (-3))) 2 + 1 := cntC_pos (b := 2) hc
              refine ⟨3, ⟨by dsimp only; omega, by dsimp only; omega⟩, some [some 0], ?_⟩
              (repeat' ((conv => whnf); (first | (with_reducible first | apply spl | apply spl') <;> intro hc <;> try (exfalso; omega) | with_reducible refine iJ fun hc => ?_ | refine vcq (k := ?_) | fail))); all_goals ((try conv => whnf); try with_reducible exact trivial)
            · have e : cntC (s.E.getD i (C6.all (-3))) 3 = cntC (s.E.getD i (C6.all (-3))) 2 := cntC_neg (b := 2) (Classical.not_not.1 hc)
              refine ⟨3, ⟨by dsimp only; omega, by dsimp only; omega⟩, some [some 0], ?_⟩
              (repeat' ((conv => whnf); (first | (with_reducible first | apply spl | apply spl') <;> intro hc <;> try (exfalso; omega) | with_reducible refine iJ fun hc => ?_ | refine vcq (k := ?_) | fail))); all_goals ((try conv => whnf); try with_reducible exact trivial)
          · (repeat' ((conv => whnf); (first | (with_reducible first | apply spl | apply spl') <;> intro hc <;> try (exfalso; omega) | with_reducible refine iJ fun hc => ?_ | refine vcq (k := ?_) | fail))); all_goals ((try conv => whnf); try with_reducible exact trivial)
            · have e : cntC (s.E.getD i (C6.all (-3))) 4 = cntC (s.E.getD i (C6.all (-3))) 3 + 1 := cntC_pos (b := 3) hc
              refine ⟨4, ⟨by dsimp only; omega, by dsimp only; omega⟩, some [some 0], ?_⟩
              (repeat' ((conv => whnf); (first | (with_reducible first | apply spl | apply spl') <;> intro hc <;> try (exfalso; omega) | with_reducible refine iJ fun hc => ?_ | refine vcq (k := ?_) | fail))); all_goals ((try conv => whnf); try with_reducible exact trivial)
            · have e : cntC (s.E.getD i (C6.all (-3))) 4 = cntC (s.E.getD i (C6.all (-3))) 3 := cntC_neg (b := 3) (Classical.not_not.1 hc)
              refine ⟨4, ⟨by dsimp only; omega, by dsimp only; omega⟩, some [some 0], ?_⟩
              (repeat' ((conv => whnf); (first | (with_reducible first | apply spl | apply spl') <;> intro hc <;> try (exfalso; omega) | with_reducible refine iJ fun hc => ?_ | refine vcq (k := ?_) | fail))); all_goals ((try conv => whnf); try with_reducible exact trivial)
          · (repeat' ((conv => whnf); (first | (with_reducible first | apply spl | apply spl') <;> intro hc <;> try (exfalso; omega) | with_reducible refine iJ fun hc => ?_ | refine vcq (k := ?_) | fail))); all_goals ((try conv => whnf); try with_reducible exact trivial)
            · have e : cntC (s.E.getD i (C6.all (-3))) 5 = cntC (s.E.getD i (C6.all (-3))) 4 + 1 := cntC_pos (b := 4) hc
              refine ⟨5, ⟨by dsimp only; omega, by dsimp only; omega⟩, some [some 0], ?_⟩
              (repeat' ((conv => whnf); (first | (with_reducible first | apply spl | apply spl') <;> intro hc <;> try (exfalso; omega) | with_reducible refine iJ fun hc => ?_ | refine vcq (k := ?_) | fail))); all_goals ((try conv => whnf); try with_reducible exact trivial)
            · have e : cntC (s.E.getD i (C6.all (-3))) 5 = cntC (s.E.getD i (C6.all (-3))) 4 := cntC_neg (b := 4) (Classical.not_not.1 hc)
              refine ⟨5, ⟨by dsimp only; omega, by dsimp only; omega⟩, some [some 0], ?_⟩
              (repeat' ((conv => whnf); (first | (with_reducible first | apply spl | apply spl') <;> intro hc <;> try (exfalso; omega) | with_reducible refine iJ fun hc => ?_ | refine vcq (k := ?_) | fail))); all_goals ((try conv => whnf); try with_reducible exact trivial)
          · (repeat' ((conv => whnf); (first | (with_reducible first | apply spl | apply spl') <;> intro hc <;> try (exfalso; omega) | with_reducible refine iJ fun hc => ?_ | refine vcq (k := ?_) | fail))); all_goals ((try conv => whnf); try with_reducible exact trivial)
            · have e : cntC (s.E.getD i (C6.all (-3))) 6 = cntC (s.E.getD i (C6.all (-3))) 5 + 1 := cntC_pos (b := 5) hc
              refine ⟨6, ⟨by dsimp only; omega, by dsimp only; omega⟩, some [some 0], ?_⟩
              (repeat' ((conv => whnf); (first | (with_reducible first | apply spl | apply spl') <;> intro hc <;> try (exfalso; omega) | with_reducible refine iJ fun hc => ?_ | refine vcq (k := ?_) | fail))); all_goals ((try conv => whnf); try with_reducible exact trivial)
            · have e : cntC (s.E.getD i (C6.all (-3))) 6 = cntC (s.E.getD i (C6.all (-3))) 5 := cntC_neg (b := 5) (Classical.not_not.1 hc)
              refine ⟨6, ⟨by dsimp only; omega, by dsimp only; omega⟩, some [some 0], ?_⟩
              (repeat' ((conv => whnf); (first | (with_reducible first | apply spl | apply spl') <;> intro hc <;> try (exfalso; omega) | with_reducible refine iJ fun hc => ?_ | refine vcq (k := ?_) | fail))); all_goals ((try conv => whnf); try with_reducible exact trivial)
        · obtain rfl : b = 6 := by omega
          (repeat' ((conv => whnf); (first | (with_reducible first | apply spl | apply spl') <;> intro hc <;> try (exfalso; omega) | with_reducible refine iJ fun hc => ?_ | refine vcq (k := ?_) | fail))); all_goals ((try conv => whnf); try with_reducible exact trivial)
          refine ⟨i + 1, ⟨by dsimp only; omega, by dsimp only; omega⟩, some [], ?_⟩
          (repeat' ((conv => whnf); (first | (with_reducible first | apply spl | apply spl') <;> intro hc <;> try (exfalso; omega) | with_reducible refine iJ fun hc => ?_ | refine vcq (k := ?_) | fail))); all_goals ((try conv => whnf); try with_reducible exact trivial)
    · obtain rfl : i = s.E.length := by omega
      refine ⟨_, rfl, ?_⟩
      (repeat' ((conv => whnf); (first | (with_reducible first | apply spl | apply spl') <;> intro hc <;> try (exfalso; omega) | with_reducible refine iJ fun hc => ?_ | refine vcq (k := ?_) | fail))); all_goals ((try conv => whnf); try with_reducible exact trivial)
theorem begin42 : NewC Try.prog 42 [] (fun r H => r = .ptr 0 0 ∧ H = stH PS.begin) := by
  refine newC_ent Try.E_ok Try.func42 rfl (by kernel_rfl) ?_
  (repeat' ((conv => whnf); (first | (with_reducible first | apply spl | apply spl') <;> intro hc <;> try (exfalso; omega) | with_reducible refine iJ fun hc => ?_ | refine vcq (k := ?_) | fail))); all_goals ((try conv => whnf); try with_reducible exact trivial); (repeat' ((first | (refine callee_fo (all67 (-1)) rfl ?_; rintro _ rfl) | (refine pcall_intro (all67 (-1)) rfl ?_) | (refine pcall_soft (fun _ => all67 (-1)) rfl ?_) | (refine callee_fo (all67 (-3)) rfl ?_; rintro _ rfl) | (refine pcall_intro (all67 (-3)) rfl ?_) | (refine pcall_soft (fun _ => all67 (-3)) rfl ?_)); (repeat' ((conv => whnf); (first | (with_reducible first | apply spl | apply spl') <;> intro hc <;> try (exfalso; omega) | with_reducible refine iJ fun hc => ?_ | refine vcq (k := ?_) | fail))); all_goals ((try conv => whnf); try with_reducible exact trivial))); (all_goals (try (refine ⟨_, rfl, ?_⟩; (repeat' ((conv => whnf); (first | (with_reducible first | apply spl | apply spl') <;> intro hc <;> try (exfalso; omega) | with_reducible refine iJ fun hc => ?_ | refine vcq (k := ?_) | fail))); all_goals ((try conv => whnf); try with_reducible exact trivial))))
  refine ⟨_, _, ⟨rfl, rfl⟩, some [some 1, some 0], ?_⟩
  (repeat' ((conv => whnf); (first | (with_reducible first | apply spl | apply spl') <;> intro hc <;> try (exfalso; omega) | with_reducible refine iJ fun hc => ?_ | refine vcq (k := ?_) | fail))); all_goals ((try conv => whnf); try with_reducible exact trivial)
  refine ⟨fun i hi => ?_, ?_⟩
  · obtain rfl : i = 0 := by omega
    rfl
  · (repeat' ((conv => whnf); (first | (with_reducible first | apply spl | apply spl') <;> intro hc <;> try (exfalso; omega) | with_reducible refine iJ fun hc => ?_ | refine vcq (k := ?_) | fail))); all_goals ((try conv => whnf); try with_reducible exact trivial)
theorem clone90 (E : List C6) (hl : 0 < E.length ∧ E.length ≤ 1000000) : NewC Try.prog 90 [.sl 6 E.length (eR E)] (fun r H => r = .osl 0 E.length ∧ H = [.row 68 6 E.length (eR E) false]) := by
  refine newC_ent Try.E_ok Try.func90 rfl (by kernel_rfl) ?_
  (repeat' ((conv => whnf); (first | (with_reducible first | apply spl | apply spl') <;> intro hc <;> try (exfalso; omega) | with_reducible refine iJ fun hc => ?_ | refine vcq (k := ?_) | fail))); all_goals ((try conv => whnf); try with_reducible exact trivial)
  refine ⟨_, _, ⟨rfl, rfl⟩, some [some 1], ?_⟩
  (repeat' ((conv => whnf); (first | (with_reducible first | apply spl | apply spl') <;> intro hc <;> try (exfalso; omega) | with_reducible refine iJ fun hc => ?_ | refine vcq (k := ?_) | fail))); all_goals ((try conv => whnf); try with_reducible exact trivial)
theorem clone75 (s : PS) (hs : s.Sm) : NewC Try.prog 75 [stI s] (fun r H => r = .ptr 0 0 ∧ H = stH s) := by
  have h1 := hs.ne
  have h2 := hs.len
  refine newC_ent Try.E_ok Try.func75 rfl (by kernel_rfl) ?_
  (repeat' ((conv => whnf); (first | (with_reducible first | apply spl | apply spl') <;> intro hc <;> try (exfalso; omega) | with_reducible refine iJ fun hc => ?_ | refine vcq (k := ?_) | fail))); all_goals ((try conv => whnf); try with_reducible exact trivial)
  refine callee_new (clone90 s.E ⟨h1, h2⟩) rfl ?_
  rintro _ _ ⟨rfl, rfl⟩
  (repeat' ((conv => whnf); (first | (with_reducible first | apply spl | apply spl') <;> intro hc <;> try (exfalso; omega) | with_reducible refine iJ fun hc => ?_ | refine vcq (k := ?_) | fail))); all_goals ((try conv => whnf); try with_reducible exact trivial)
  refine ⟨_, _, ⟨rfl, rfl⟩, some [some 0, some 1], ?_⟩
  (repeat' ((conv => whnf); (first | (with_reducible first | apply spl | apply spl') <;> intro hc <;> try (exfalso; omega) | with_reducible refine iJ fun hc => ?_ | refine vcq (k := ?_) | fail))); all_goals ((try conv => whnf); try with_reducible exact trivial)
def PS.drain (s : PS) (b : Nat) : PS := (s.wr (idxC isS s.E).toNat b).tidy
theorem first72o (s : PS) (hl : s.E.length ≤ 1000000) : Sx.Callee Try.prog 72 [.ptr 0 0] (stH s) (fun v H => v = .tup [.int .i64 (idxC isS s.E), .prop (0 ≤ idxC isS s.E) inferInstance] ∧ H = stH s) := by
  refine callee_view (first72 s hl) ?_
  (repeat' ((conv => whnf); (first | (with_reducible first | apply spl | apply spl') <;> intro hc <;> try (exfalso; omega) | with_reducible refine iJ fun hc => ?_ | refine vcq (k := ?_) | fail))); all_goals ((try conv => whnf); try with_reducible exact trivial)
  rintro _ rfl
  exact ⟨rfl, rfl⟩
theorem drain53 (s : PS) (hs : s.Sm) (hW : s.W ≤ 100000) (b : Nat) (hb : b < 6) (hf : 0 ≤ idxC isS s.E) : Sx.Callee Try.prog 53 [.ptr 0 0, .int .i64 b] (stH s) (fun v H => v = .tup [] ∧ H = stH2 (s.drain b)) := by
  have h1 := hs.ne
  have h2 := hs.len
  have h3 := hs.W
  have hi : (idxC isS s.E).toNat < s.E.length := by
    rcases idxC_spec isS s.E with ⟨h, _⟩ | ⟨i, h, h5, _⟩
    · omega
    · omega
  obtain ⟨k, hk⟩ : ∃ k : Nat, idxC isS s.E = k := ⟨(idxC isS s.E).toNat, by omega⟩
  have hw := write70 s hs k b (by omega) hb
  have hsm := hs.wr (e := k) (b := b) (by omega)
  have ht := tidy71 _ hsm
  have hd : s.drain b = (s.wr k b).tidy := by unfold PS.drain; rw [hk]; rfl
  rw [hd]
  refine callee_exec Try.E_ok Try.func53 rfl (by kernel_rfl) ?_
  (repeat' ((conv => whnf); (first | (with_reducible first | apply spl | apply spl') <;> intro hc <;> try (exfalso; omega) | with_reducible refine iJ fun hc => ?_ | refine vcq (k := ?_) | fail))); all_goals ((try conv => whnf); try with_reducible exact trivial)
  refine Callee.mono (first72o s h2) ?_
  rintro _ _ ⟨rfl, rfl⟩
  rw [hk]
  (repeat' ((conv => whnf); (first | (with_reducible first | apply spl | apply spl') <;> intro hc <;> try (exfalso; omega) | with_reducible refine iJ fun hc => ?_ | refine vcq (k := ?_) | fail))); all_goals ((try conv => whnf); try with_reducible exact trivial)
  refine Callee.mono hw ?_
  rintro _ _ ⟨rfl, rfl⟩
  (repeat' ((conv => whnf); (first | (with_reducible first | apply spl | apply spl') <;> intro hc <;> try (exfalso; omega) | with_reducible refine iJ fun hc => ?_ | refine vcq (k := ?_) | fail))); all_goals ((try conv => whnf); try with_reducible exact trivial)
  refine Callee.mono ht ?_
  rintro _ _ ⟨rfl, rfl⟩
  (repeat' ((conv => whnf); (first | (with_reducible first | apply spl | apply spl') <;> intro hc <;> try (exfalso; omega) | with_reducible refine iJ fun hc => ?_ | refine vcq (k := ?_) | fail))); all_goals ((try conv => whnf); try with_reducible exact trivial)
end Go.Proofs


namespace Go.Proofs
open Go Go.Sx
set_option maxRecDepth 100000
set_option maxHeartbeats 4000000
noncomputable def iteI (p : Prop) (a : Int) : Int := @ite _ p (Classical.propDecidable p) a 0
noncomputable def shE (E : List C6) (K : Nat) : Nat → Nat → List V
  | 0, _ => []
  | r + 1, i => .int .i64 (iteI (i < K) (E.getD i (C6.all (-3))).a0) :: .int .i64 (iteI (i < K) (E.getD i (C6.all (-3))).a1) :: .int .i64 (iteI (i < K) (E.getD i (C6.all (-3))).a2) ::
      .int .i64 (iteI (i < K) (E.getD i (C6.all (-3))).a3) :: .int .i64 (iteI (i < K) (E.getD i (C6.all (-3))).a4) :: .int .i64 (iteI (i < K) (E.getD i (C6.all (-3))).a5) :: shE E K r (i + 1)
noncomputable def shC (s : PS) : List V := .int .i64 s.M.a0 :: .int .i64 s.M.a1 :: .int .i64 s.M.a2 :: .int .i64 s.M.a3 :: .int .i64 s.M.a4 :: .int .i64 s.M.a5 :: .int .i64 s.E.length :: shE s.E (min s.E.length 17) 17 0
theorem shape76 (s : PS) (_hl : s.E.length ≤ 1000000) : PureC Try.prog 76 false [stI s] (· = .agg (shC s)) := by
  refine pureC_of_exec Try.E_ok Try.func76 rfl (by kernel_rfl) ?_
  (repeat' ((conv => whnf); (first | (with_reducible first | apply spl | apply spl') <;> intro hc <;> try (exfalso; omega) | with_reducible refine iJ fun hc => ?_ | refine vcq (k := ?_) | refine dr 11 (k := ?_) | refine dr 6 (k := ?_)))); all_goals ((try conv => whnf); try with_reducible exact trivial)
  refine ⟨_, rfl, ?_⟩
  (repeat' ((conv => whnf); (first | (with_reducible first | apply spl | apply spl') <;> intro hc <;> try (exfalso; omega) | with_reducible refine iJ fun hc => ?_ | refine vcq (k := ?_) | refine dr 11 (k := ?_) | refine dr 6 (k := ?_)))); all_goals ((try conv => whnf); try with_reducible exact trivial)
end Go.Proofs


namespace Go.Proofs
open Go Go.Sx
set_option maxRecDepth 100000
set_option maxHeartbeats 4000000
def drV (D : List (Int × Int)) : V := .sl 2 D.length (rowOf oC (0, 0) D)
structure Trip where
  s : PS
  D : List (Int × Int)
def trC (t : Trip) : List V := [stI t.s, drV t.D]
def trV (t : Trip) : V := .agg [stI t.s, drV t.D]
def Trip.with (t : Trip) (d : Int × Int) : Trip := ⟨t.s.drain d.2.toNat, t.D ++ [d]⟩
theorem sl0_lit {I : Nat → Prop} {w : World} {sz : Nat} {f : Nat → List V} {v : Value} (h : Den I [] w (.sl sz 0 f) v) : ∃ a cap, v = .slice a 0 cap := by
  rcases h with ⟨_, a, cap, rfl⟩ | ⟨b, o, cap, rfl, _⟩
  · exact ⟨a, cap, rfl⟩
  · exact ⟨_, cap, rfl⟩
theorem nnew_intro {P : Program} {g : FuncId} {args : List V} {R : V → List O → Prop} {F : V → List O → Prop} {G G2 : Prop} (h : NewC P g args R) (hfo : foL args = true) (hf : ∀ v obs, R v obs → F v obs) : G ∨ (∃ R, NNew P g args R ∧ ∀ v obs, R v obs → F v obs) ∨ G2 := by
  refine .inr (.inl ⟨R, ?_, hf⟩)
  unfold NNew
  exact ⟨hfo, h⟩
theorem clone91n (D : List (Int × Int)) (hl : 0 < D.length ∧ D.length ≤ 1000000) : NewC Try.prog 91 [drV D] (fun r H => r = .osl 0 D.length ∧ H = [.row 37 2 D.length (rowOf oC (0, 0) D) false]) := by
  refine newC_ent Try.E_ok Try.func91 rfl (by kernel_rfl) ?_
  (repeat' ((conv => whnf); (first | (with_reducible first | apply spl | apply spl') <;> intro hc <;> try (exfalso; omega) | with_reducible refine iJ fun hc => ?_ | refine vcq (k := ?_) | refine dr 61105080407030502042007 (k := ?_)))); all_goals ((try conv => whnf); try with_reducible exact trivial)
  refine ⟨_, _, ⟨rfl, rfl⟩, some [some 1], ?_⟩
  (repeat' ((conv => whnf); (first | (with_reducible first | apply spl | apply spl') <;> intro hc <;> try (exfalso; omega) | with_reducible refine iJ fun hc => ?_ | refine vcq (k := ?_) | refine dr 61105080407030502042007 (k := ?_)))); all_goals ((try conv => whnf); try with_reducible exact trivial)
theorem clone91z (cap : Nat) : PureC Try.prog 91 false [.lit (.slice none 0 cap)] (· = .lit (.slice none 0 0)) := by
  refine pureC_of_exec Try.E_ok Try.func91 rfl (by kernel_rfl) ?_
  (repeat' ((conv => whnf); (first | (with_reducible first | apply spl | apply spl') <;> intro hc <;> try (exfalso; omega) | with_reducible refine iJ fun hc => ?_ | refine vcq (k := ?_) | refine dr 61105080407030502042007 (k := ?_)))); all_goals ((try conv => whnf); try with_reducible exact trivial)
  refine ⟨_, rfl, ?_⟩
  (repeat' ((conv => whnf); (first | (with_reducible first | apply spl | apply spl') <;> intro hc <;> try (exfalso; omega) | with_reducible refine iJ fun hc => ?_ | refine vcq (k := ?_) | refine dr 61105080407030502042007 (k := ?_)))); all_goals ((try conv => whnf); try with_reducible exact trivial)
theorem clone91s (a : Addr) (cap : Nat) : NewC Try.prog 91 [.lit (.slice (some a) 0 cap)] (fun r H => r = .osl 0 0 ∧ H = [.row 37 2 0 (rowOf oC (0, 0) []) false]) := by
  refine newC_ent Try.E_ok Try.func91 rfl (by kernel_rfl) ?_
  (repeat' ((conv => whnf); (first | (with_reducible first | apply spl | apply spl') <;> intro hc <;> try (exfalso; omega) | with_reducible refine iJ fun hc => ?_ | refine vcq (k := ?_) | refine dr 61105080407030502042007 (k := ?_)))); all_goals ((try conv => whnf); try with_reducible exact trivial)
  refine ⟨_, _, ⟨rfl, rfl⟩, some [some 1], ?_⟩
  (repeat' ((conv => whnf); (first | (with_reducible first | apply spl | apply spl') <;> intro hc <;> try (exfalso; omega) | with_reducible refine iJ fun hc => ?_ | refine vcq (k := ?_) | refine dr 61105080407030502042007 (k := ?_)))); all_goals ((try conv => whnf); try with_reducible exact trivial)
theorem with78n (t : Trip) (hs : t.s.Sm) (hl : 0 < t.D.length ∧ t.D.length ≤ 100000) (hW : t.s.W ≤ 100000) (a : Int) (b : Nat) (hb : b < 6) (hf : 0 ≤ idxC isS t.s.E) : PureC Try.prog 78 false [trV t, .agg [.int .i64 a, .int .i64 b]] (· = trV (t.with (a, (b : Int)))) := by
  have hd := drain53 t.s hs hW b hb hf
  refine pureC_of_exec Try.E_ok Try.func78 rfl (by kernel_rfl) ?_
  (repeat' ((conv => whnf); (first | (with_reducible first | apply spl | apply spl') <;> intro hc <;> try (exfalso; omega) | with_reducible refine iJ fun hc => ?_ | refine vcq (k := ?_) | refine dr 61105080407030502042007 (k := ?_)))); all_goals ((try conv => whnf); try with_reducible exact trivial)
  refine nnew_intro (clone75 t.s hs) rfl ?_
  rintro _ _ ⟨rfl, rfl⟩
  (repeat' ((conv => whnf); (first | (with_reducible first | apply spl | apply spl') <;> intro hc <;> try (exfalso; omega) | with_reducible refine iJ fun hc => ?_ | refine vcq (k := ?_) | refine dr 61105080407030502042007 (k := ?_)))); all_goals ((try conv => whnf); try with_reducible exact trivial)
  refine nnew_intro (clone91n t.D ⟨hl.1, by omega⟩) rfl ?_
  rintro _ _ ⟨rfl, rfl⟩
  (repeat' ((conv => whnf); (first | (with_reducible first | apply spl | apply spl') <;> intro hc <;> try (exfalso; omega) | with_reducible refine iJ fun hc => ?_ | refine vcq (k := ?_) | refine dr 61105080407030502042007 (k := ?_)))); all_goals ((try conv => whnf); try with_reducible exact trivial)
  refine callee_frame [5, 6] hd rfl ?_ ?_
  · (repeat' ((conv => whnf); (first | (with_reducible first | apply spl | apply spl') <;> intro hc <;> try (exfalso; omega) | with_reducible refine iJ fun hc => ?_ | refine vcq (k := ?_) | refine dr 61105080407030502042007 (k := ?_)))); all_goals ((try conv => whnf); try with_reducible exact trivial)
  · rintro _ _ ⟨rfl, rfl⟩
    (repeat' ((conv => whnf); (first | (with_reducible first | apply spl | apply spl') <;> intro hc <;> try (exfalso; omega) | with_reducible refine iJ fun hc => ?_ | refine vcq (k := ?_) | refine dr 61105080407030502042007 (k := ?_)))); all_goals ((try conv => whnf); try with_reducible exact trivial)
    refine ⟨_, rfl, ?_⟩
    have e1 : (t.with (a, (b : Int))).s = t.s.drain b := by simp [Trip.with]
    have e2 : (t.with (a, (b : Int))).D = t.D ++ [(a, (b : Int))] := rfl
    unfold trV
    rw [e1, e2]
    (repeat' ((conv => whnf); (first | (with_reducible first | apply spl | apply spl') <;> intro hc <;> try (exfalso; omega) | with_reducible refine iJ fun hc => ?_ | refine vcq (k := ?_) | refine dr 61105080407030502042007 (k := ?_)))); all_goals ((try conv => whnf); try with_reducible exact trivial)
    refine ⟨by simp, rowOf_snoc (c := oC) (a := (a, (b : Int))) (l := t.D) rfl (fun _ _ => rfl), .inr fun i hi => rfl, ?_⟩
    (repeat' ((conv => whnf); (first | (with_reducible first | apply spl | apply spl') <;> intro hc <;> try (exfalso; omega) | with_reducible refine iJ fun hc => ?_ | refine vcq (k := ?_) | refine dr 61105080407030502042007 (k := ?_)))); all_goals ((try conv => whnf); try with_reducible exact trivial)
theorem with78z (t : Trip) (hs : t.s.Sm) (hl : t.D = []) (hW : t.s.W ≤ 100000) (a : Int) (b : Nat) (hb : b < 6) (hf : 0 ≤ idxC isS t.s.E) (cap : Nat) : PureC Try.prog 78 false [.agg [stI t.s, .lit (.slice none 0 cap)], .agg [.int .i64 a, .int .i64 b]] (· = trV (t.with (a, (b : Int)))) := by
  have hd := drain53 t.s hs hW b hb hf
  refine pureC_of_exec Try.E_ok Try.func78 rfl (by kernel_rfl) ?_
  (repeat' ((conv => whnf); (first | (with_reducible first | apply spl | apply spl') <;> intro hc <;> try (exfalso; omega) | with_reducible refine iJ fun hc => ?_ | refine vcq (k := ?_) | refine dr 61105080407030502042007 (k := ?_)))); all_goals ((try conv => whnf); try with_reducible exact trivial)
  refine nnew_intro (clone75 t.s hs) rfl ?_
  rintro _ _ ⟨rfl, rfl⟩
  (repeat' ((conv => whnf); (first | (with_reducible first | apply spl | apply spl') <;> intro hc <;> try (exfalso; omega) | with_reducible refine iJ fun hc => ?_ | refine vcq (k := ?_) | refine dr 61105080407030502042007 (k := ?_)))); all_goals ((try conv => whnf); try with_reducible exact trivial)
  refine pcall_intro (clone91z cap) rfl ?_
  (repeat' ((conv => whnf); (first | (with_reducible first | apply spl | apply spl') <;> intro hc <;> try (exfalso; omega) | with_reducible refine iJ fun hc => ?_ | refine vcq (k := ?_) | refine dr 61105080407030502042007 (k := ?_)))); all_goals ((try conv => whnf); try with_reducible exact trivial)
  refine callee_frame [5, 6] hd rfl ?_ ?_
  · (repeat' ((conv => whnf); (first | (with_reducible first | apply spl | apply spl') <;> intro hc <;> try (exfalso; omega) | with_reducible refine iJ fun hc => ?_ | refine vcq (k := ?_) | refine dr 61105080407030502042007 (k := ?_)))); all_goals ((try conv => whnf); try with_reducible exact trivial)
  · rintro _ _ ⟨rfl, rfl⟩
    (repeat' ((conv => whnf); (first | (with_reducible first | apply spl | apply spl') <;> intro hc <;> try (exfalso; omega) | with_reducible refine iJ fun hc => ?_ | refine vcq (k := ?_) | refine dr 61105080407030502042007 (k := ?_)))); all_goals ((try conv => whnf); try with_reducible exact trivial)
    refine ⟨_, rfl, ?_⟩
    have e1 : (t.with (a, (b : Int))).s = t.s.drain b := by simp [Trip.with]
    have e2 : (t.with (a, (b : Int))).D = t.D ++ [(a, (b : Int))] := rfl
    unfold trV
    rw [e1, e2]
    (repeat' ((conv => whnf); (first | (with_reducible first | apply spl | apply spl') <;> intro hc <;> try (exfalso; omega) | with_reducible refine iJ fun hc => ?_ | refine vcq (k := ?_) | refine dr 61105080407030502042007 (k := ?_)))); all_goals ((try conv => whnf); try with_reducible exact trivial)
    rw [hl]
    refine ⟨rfl, fun i hi => ?_, .inr fun i hi => rfl, ?_⟩
    · have : i = 0 := by omega
      subst this
      rfl
    (repeat' ((conv => whnf); (first | (with_reducible first | apply spl | apply spl') <;> intro hc <;> try (exfalso; omega) | with_reducible refine iJ fun hc => ?_ | refine vcq (k := ?_) | refine dr 61105080407030502042007 (k := ?_)))); all_goals ((try conv => whnf); try with_reducible exact trivial)
theorem with78s (t : Trip) (hs : t.s.Sm) (hl : t.D = []) (hW : t.s.W ≤ 100000) (a : Int) (b : Nat) (hb : b < 6) (hf : 0 ≤ idxC isS t.s.E) (ad : Addr) (cap : Nat) : PureC Try.prog 78 false [.agg [stI t.s, .lit (.slice (some ad) 0 cap)], .agg [.int .i64 a, .int .i64 b]] (· = trV (t.with (a, (b : Int)))) := by
  have hd := drain53 t.s hs hW b hb hf
  refine pureC_of_exec Try.E_ok Try.func78 rfl (by kernel_rfl) ?_
  (repeat' ((conv => whnf); (first | (with_reducible first | apply spl | apply spl') <;> intro hc <;> try (exfalso; omega) | with_reducible refine iJ fun hc => ?_ | refine vcq (k := ?_) | refine dr 61105080407030502042007 (k := ?_)))); all_goals ((try conv => whnf); try with_reducible exact trivial)
  refine nnew_intro (clone75 t.s hs) rfl ?_
  rintro _ _ ⟨rfl, rfl⟩
  (repeat' ((conv => whnf); (first | (with_reducible first | apply spl | apply spl') <;> intro hc <;> try (exfalso; omega) | with_reducible refine iJ fun hc => ?_ | refine vcq (k := ?_) | refine dr 61105080407030502042007 (k := ?_)))); all_goals ((try conv => whnf); try with_reducible exact trivial)
  refine nnew_intro (clone91s ad cap) rfl ?_
  rintro _ _ ⟨rfl, rfl⟩
  (repeat' ((conv => whnf); (first | (with_reducible first | apply spl | apply spl') <;> intro hc <;> try (exfalso; omega) | with_reducible refine iJ fun hc => ?_ | refine vcq (k := ?_) | refine dr 61105080407030502042007 (k := ?_)))); all_goals ((try conv => whnf); try with_reducible exact trivial)
  refine callee_frame [5, 6] hd rfl ?_ ?_
  · (repeat' ((conv => whnf); (first | (with_reducible first | apply spl | apply spl') <;> intro hc <;> try (exfalso; omega) | with_reducible refine iJ fun hc => ?_ | refine vcq (k := ?_) | refine dr 61105080407030502042007 (k := ?_)))); all_goals ((try conv => whnf); try with_reducible exact trivial)
  · rintro _ _ ⟨rfl, rfl⟩
    (repeat' ((conv => whnf); (first | (with_reducible first | apply spl | apply spl') <;> intro hc <;> try (exfalso; omega) | with_reducible refine iJ fun hc => ?_ | refine vcq (k := ?_) | refine dr 61105080407030502042007 (k := ?_)))); all_goals ((try conv => whnf); try with_reducible exact trivial)
    refine ⟨_, rfl, ?_⟩
    have e1 : (t.with (a, (b : Int))).s = t.s.drain b := by simp [Trip.with]
    have e2 : (t.with (a, (b : Int))).D = t.D ++ [(a, (b : Int))] := rfl
    unfold trV
    rw [e1, e2]
    (repeat' ((conv => whnf); (first | (with_reducible first | apply spl | apply spl') <;> intro hc <;> try (exfalso; omega) | with_reducible refine iJ fun hc => ?_ | refine vcq (k := ?_) | refine dr 61105080407030502042007 (k := ?_)))); all_goals ((try conv => whnf); try with_reducible exact trivial)
    rw [hl]
    refine ⟨rfl, fun i hi => ?_, .inr fun i hi => rfl, ?_⟩
    · have : i = 0 := by omega
      subst this
      rfl
    (repeat' ((conv => whnf); (first | (with_reducible first | apply spl | apply spl') <;> intro hc <;> try (exfalso; omega) | with_reducible refine iJ fun hc => ?_ | refine vcq (k := ?_) | refine dr 61105080407030502042007 (k := ?_)))); all_goals ((try conv => whnf); try with_reducible exact trivial)
theorem with78 (t : Trip) (hs : t.s.Sm) (hl : t.D.length ≤ 100000) (hW : t.s.W ≤ 100000) (a : Int) (b : Nat) (hb : b < 6) (hf : 0 ≤ idxC isS t.s.E) : PureC Try.prog 78 false [trV t, .agg [.int .i64 a, .int .i64 b]] (· = trV (t.with (a, (b : Int)))) := by
  rcases Nat.eq_zero_or_pos t.D.length with h0 | h0
  · have h0' : t.D = [] := List.length_eq_zero_iff.1 h0
    refine ⟨(with78z t hs h0' hW a b hb hf 0).1, fun I w vals hI hd => ?_⟩
    obtain ⟨v, vs, rfl, ⟨us, rfl, h1, p, _, rfl, hp, q, _, rfl, hq, rfl⟩, h2⟩ := hd
    have hq : Den I [] w (.sl 2 0 (rowOf oC (0, 0) t.D)) q := by
      have := hq
      unfold drV at this
      rwa [h0] at this
    obtain ⟨ad, cap, rfl⟩ := sl0_lit hq
    cases ad with
    | none => exact (with78z t hs h0' hW a b hb hf cap).2 I w _ hI ⟨_, _, rfl, ⟨_, rfl, h1, p, _, rfl, hp, _, _, rfl, rfl, rfl⟩, h2⟩
    | some ad => exact (with78s t hs h0' hW a b hb hf ad cap).2 I w _ hI ⟨_, _, rfl, ⟨_, rfl, h1, p, _, rfl, hp, _, _, rfl, rfl, rfl⟩, h2⟩
  · exact with78n t hs ⟨h0, hl⟩ hW a b hb hf
end Go.Proofs


namespace Go.Proofs
open Go Go.Sx
set_option maxRecDepth 100000
set_option maxHeartbeats 4000000
namespace PS
theorem put_len (s : PS) (b : Nat) (n : Int) : (s.put b n).E.length = s.E.length := by simp [put]
theorem order_size (s : PS) (h : 0 < s.E.length) (n : Int) (o : Int × Int) :
    0 < (s.order n o).E.length ∧ (s.order n o).E.length ≤ s.E.length + 1 ∧ s.W ≤ (s.order n o).W ∧ (s.order n o).W ≤ s.W + 6 * s.E.length + 1 := by
  unfold order
  split
  · have h1 := tidy_len (s.put o.2.toNat n)
    have h2 := put_len s o.2.toNat n
    exact ⟨h1.2, by omega, show s.W ≤ s.W by omega, show s.W ≤ _ by omega⟩
  split
  · have h2 := put_len s o.2.toNat n
    generalize hp : s.put o.2.toNat n = s1 at *
    have hW : s1.W = s.W := by rw [← hp]; rfl
    have h3 := wrE_len s1 (s.E.length - 1)
    have h4 := wrE_W s1 (s.E.length - 1)
    generalize s1.wrE (s.E.length - 1) = s2 at *
    have h5 := wr_len s2 (s.E.length - 1) o.2.toNat
    have h6 := wr_W s2 (s.E.length - 1) o.2.toNat
    generalize s2.wr (s.E.length - 1) o.2.toNat = s3 at *
    have h1 := tidy_len s3
    exact ⟨h1.2, by omega, show s.W ≤ s3.W by omega, show s3.W ≤ _ by omega⟩
  split
  · have h1 := tidy_len (⟨s.M, s.E ++ [C6.all (-3)], s.W⟩ : PS)
    simp only [List.length_append, List.length_cons, List.length_nil] at h1
    exact ⟨h1.2, by omega, show s.W ≤ s.W by omega, show s.W ≤ _ by omega⟩
  split
  · have h3 := wrE_len s s.E.length
    have h4 := wrE_W s s.E.length
    generalize s.wrE s.E.length = s2 at *
    have h1 := tidy_len s2
    exact ⟨h1.2, by omega, show s.W ≤ s2.W by omega, show s2.W ≤ _ by omega⟩
  · have h1 := tidy_len s
    exact ⟨h1.2, by omega, show s.W ≤ s.W by omega, show s.W ≤ _ by omega⟩
def run (l : List (Int × Int)) : Nat → PS
  | 0 => begin
  | k + 1 => (run l k).order k (l.getD k (0, 0))
theorem run_size (l : List (Int × Int)) : ∀ k, k ≤ 16 → 0 < (run l k).E.length ∧ (run l k).E.length ≤ k + 1 ∧ 0 ≤ (run l k).W ∧ (run l k).W ≤ 103 * k
  | 0, _ => by simp [run, begin]
  | k + 1, h => by
    have h1 := run_size l k (by omega)
    have h2 := order_size (run l k) h1.1 k (l.getD k (0, 0))
    simp only [run]
    omega
end PS
theorem PS.waits_le (s : PS) : 0 ≤ s.waits ∧ s.waits ≤ 6 * s.E.length := cntE_le s.E s.E.length
theorem Cache.chk_ok {x : Cache} (h : x.chk = 0) : x.Ok := by
  unfold Cache.chk at h
  split at h
  · assumption
  · omega
theorem Cache.Ok.blk {x : Cache} (h : x.Ok) {k : Nat} (hk : k < x.l.length) : (x.l.getD k (0, 0)).1 = 1 ∨ (x.l.getD k (0, 0)).1 = 2 → 0 ≤ (x.l.getD k (0, 0)).2 ∧ (x.l.getD k (0, 0)).2 < 6 := by
  have e : x.l.getD k (0, 0) = x.l[k] := by simp [List.getD_eq_getElem?_getD, hk]
  rw [e]
  intro hp
  have h1 := h.ord x.l[k] (List.getElem_mem hk)
  have h2 := h.n
  unfold Cache.OkO at h1
  omega
theorem Writes14 (x : Cache) (hl : x.l.length ≤ 1000000) : PureC Try.prog 14 false [x.v] (· = .tup (if x.chk = 0 then [.int .i64 ((PS.run x.l x.l.length).W + (PS.run x.l x.l.length).waits), .int .i64 0] else [.int .i64 0, .int .i64 x.chk])) := by
  refine pureC_of_exec Try.E_ok Try.func14 rfl (by kernel_rfl) ?_
  have hck := check36 x hl
  (repeat' ((conv => whnf); (first | (with_reducible first | apply spl | apply spl') <;> intro hc <;> try (exfalso; omega) | with_reducible refine iJ fun hc => ?_ | refine vcq (k := ?_) | refine dr 9 (k := ?_)))); all_goals ((try conv => whnf); try with_reducible exact trivial); (repeat' ((first | (refine callee_fo (check36 x hl) rfl ?_; rintro _ rfl) | (refine pcall_intro (check36 x hl) rfl ?_) | (refine pcall_soft (fun _ => check36 x hl) rfl ?_)); (repeat' ((conv => whnf); (first | (with_reducible first | apply spl | apply spl') <;> intro hc <;> try (exfalso; omega) | with_reducible refine iJ fun hc => ?_ | refine vcq (k := ?_) | refine dr 9 (k := ?_)))); all_goals ((try conv => whnf); try with_reducible exact trivial))); (all_goals (try (refine ⟨_, rfl, ?_⟩; (repeat' ((conv => whnf); (first | (with_reducible first | apply spl | apply spl') <;> intro hc <;> try (exfalso; omega) | with_reducible refine iJ fun hc => ?_ | refine vcq (k := ?_) | refine dr 9 (k := ?_)))); all_goals ((try conv => whnf); try with_reducible exact trivial))))
  · rw [if_neg hc]
    (repeat' ((conv => whnf); (first | (with_reducible first | apply spl | apply spl') <;> intro hc <;> try (exfalso; omega) | with_reducible refine iJ fun hc => ?_ | refine vcq (k := ?_) | refine dr 9 (k := ?_)))); all_goals ((try conv => whnf); try with_reducible exact trivial)
  · have hx := Cache.chk_ok (Classical.not_not.1 hc)
    have hl16 := hx.len
    rw [if_pos (Classical.not_not.1 hc)]
    refine callee_new begin42 rfl ?_
    rintro _ _ ⟨rfl, rfl⟩
    (repeat' ((conv => whnf); (first | (with_reducible first | apply spl | apply spl') <;> intro hc <;> try (exfalso; omega) | with_reducible refine iJ fun hc => ?_ | refine vcq (k := ?_) | refine dr 9 (k := ?_)))); all_goals ((try conv => whnf); try with_reducible exact trivial)
    refine ⟨Nat, fun k => k ≤ x.l.length, fun k => x.l.length - k, fun k => [(17, .int .i64 k)], fun k => [(1, .cells 71 (stCs (PS.run x.l k) 2)), (2, .row 68 6 (PS.run x.l k).E.length (eR (PS.run x.l k).E) false)], fun _ => [], 0, ⟨by omega, none, ?_⟩, ?_⟩
    · (repeat' ((conv => whnf); (first | (with_reducible first | apply spl | apply spl') <;> intro hc <;> try (exfalso; omega) | with_reducible refine iJ fun hc => ?_ | refine vcq (k := ?_) | refine dr 9 (k := ?_)))); all_goals ((try conv => whnf); try with_reducible exact trivial)
      rfl
    · intro k hk
      have hk : k ≤ x.l.length := hk
      have hsz := PS.run_size x.l k (by omega)
      have hsm : (PS.run x.l k).Sm := ⟨hsz.1, by omega, by omega⟩
      (repeat' ((conv => whnf); (first | (with_reducible first | apply spl | apply spl') <;> intro hc <;> try (exfalso; omega) | with_reducible refine iJ fun hc => ?_ | refine vcq (k := ?_) | refine dr 9 (k := ?_)))); all_goals ((try conv => whnf); try with_reducible exact trivial)
      · have hk1 : k < x.l.length := by omega
        refine callee_frame [1, 2] (order43 (PS.run x.l k) hsm (by omega) (by omega) k (x.l.getD k (0, 0)) (hx.blk hk1)) rfl ?_ ?_
        · (repeat' ((conv => whnf); (first | (with_reducible first | apply spl | apply spl') <;> intro hc <;> try (exfalso; omega) | with_reducible refine iJ fun hc => ?_ | refine vcq (k := ?_) | refine dr 9 (k := ?_)))); all_goals ((try conv => whnf); try with_reducible exact trivial)
        · rintro _ _ ⟨rfl, rfl⟩
          (repeat' ((conv => whnf); (first | (with_reducible first | apply spl | apply spl') <;> intro hc <;> try (exfalso; omega) | with_reducible refine iJ fun hc => ?_ | refine vcq (k := ?_) | refine dr 9 (k := ?_)))); all_goals ((try conv => whnf); try with_reducible exact trivial)
          refine ⟨k + 1, ⟨by omega, by dsimp only; omega⟩, some [some 0, some 1, some 4], ?_⟩
          (repeat' ((conv => whnf); (first | (with_reducible first | apply spl | apply spl') <;> intro hc <;> try (exfalso; omega) | with_reducible refine iJ fun hc => ?_ | refine vcq (k := ?_) | refine dr 9 (k := ?_)))); all_goals ((try conv => whnf); try with_reducible exact trivial)
      · obtain rfl : k = x.l.length := by omega
        refine pcall_view (waits44 (PS.run x.l x.l.length) (by omega)) ?_ ?_
        · (repeat' ((conv => whnf); (first | (with_reducible first | apply spl | apply spl') <;> intro hc <;> try (exfalso; omega) | with_reducible refine iJ fun hc => ?_ | refine vcq (k := ?_) | refine dr 9 (k := ?_)))); all_goals ((try conv => whnf); try with_reducible exact trivial)
        · have hw := (PS.run x.l x.l.length).waits_le
          (repeat' ((conv => whnf); (first | (with_reducible first | apply spl | apply spl') <;> intro hc <;> try (exfalso; omega) | with_reducible refine iJ fun hc => ?_ | refine vcq (k := ?_) | refine dr 9 (k := ?_)))); all_goals ((try conv => whnf); try with_reducible exact trivial)
          refine ⟨_, rfl, ?_⟩
          (repeat' ((conv => whnf); (first | (with_reducible first | apply spl | apply spl') <;> intro hc <;> try (exfalso; omega) | with_reducible refine iJ fun hc => ?_ | refine vcq (k := ?_) | refine dr 9 (k := ?_)))); all_goals ((try conv => whnf); try with_reducible exact trivial)
end Go.Proofs


namespace Go.Proofs
open Go Go.Sx
set_option maxRecDepth 100000
set_option maxHeartbeats 4000000
inductive Rch (x : Cache) : Nat → PS → List (Int × Int) → Prop
  | begin : Rch x 0 PS.begin []
  | drain {k : Nat} {s : PS} {D : List (Int × Int)} {b : Nat} : Rch x k s D → (b : Int) < x.n → s.can b → Rch x k (s.drain b) (D ++ [((k : Int), (b : Int))])
  | order {k : Nat} {s : PS} {D : List (Int × Int)} : Rch x k s D → k < x.l.length → Rch x (k + 1) (s.order k (x.l.getD k (0, 0))) D
noncomputable def shIE (E : List C6) (K : Nat) : Nat → Nat → List Int
  | 0, _ => []
  | r + 1, i => iteI (i < K) (E.getD i (C6.all (-3))).a0 :: iteI (i < K) (E.getD i (C6.all (-3))).a1 :: iteI (i < K) (E.getD i (C6.all (-3))).a2 ::
      iteI (i < K) (E.getD i (C6.all (-3))).a3 :: iteI (i < K) (E.getD i (C6.all (-3))).a4 :: iteI (i < K) (E.getD i (C6.all (-3))).a5 :: shIE E K r (i + 1)
noncomputable def shI (s : PS) : List Int := s.M.a0 :: s.M.a1 :: s.M.a2 :: s.M.a3 :: s.M.a4 :: s.M.a5 :: (s.E.length : Int) :: shIE s.E (min s.E.length 17) 17 0
def K109 : List IntKind := List.replicate 109 .i64
def shF (f : Nat → Int) : List Int := [f 0, f 1, f 2, f 3, f 4, f 5, f 6, f 7, f 8, f 9, f 10, f 11, f 12, f 13, f 14, f 15, f 16, f 17, f 18, f 19, f 20, f 21, f 22, f 23, f 24, f 25, f 26, f 27, f 28, f 29, f 30, f 31, f 32, f 33, f 34, f 35, f 36, f 37, f 38, f 39, f 40, f 41, f 42, f 43, f 44, f 45, f 46, f 47, f 48, f 49, f 50, f 51, f 52, f 53, f 54, f 55, f 56, f 57, f 58, f 59, f 60, f 61, f 62, f 63, f 64, f 65, f 66, f 67, f 68, f 69, f 70, f 71, f 72, f 73, f 74, f 75, f 76, f 77, f 78, f 79, f 80, f 81, f 82, f 83, f 84, f 85, f 86, f 87, f 88, f 89, f 90, f 91, f 92, f 93, f 94, f 95, f 96, f 97, f 98, f 99, f 100, f 101, f 102, f 103, f 104, f 105, f 106, f 107, f 108]
def shFV (f : Nat → Int) : List V := [.int .i64 (f 0), .int .i64 (f 1), .int .i64 (f 2), .int .i64 (f 3), .int .i64 (f 4), .int .i64 (f 5), .int .i64 (f 6), .int .i64 (f 7), .int .i64 (f 8), .int .i64 (f 9), .int .i64 (f 10), .int .i64 (f 11), .int .i64 (f 12), .int .i64 (f 13), .int .i64 (f 14), .int .i64 (f 15), .int .i64 (f 16), .int .i64 (f 17), .int .i64 (f 18), .int .i64 (f 19), .int .i64 (f 20), .int .i64 (f 21), .int .i64 (f 22), .int .i64 (f 23), .int .i64 (f 24), .int .i64 (f 25), .int .i64 (f 26), .int .i64 (f 27), .int .i64 (f 28), .int .i64 (f 29), .int .i64 (f 30), .int .i64 (f 31), .int .i64 (f 32), .int .i64 (f 33), .int .i64 (f 34), .int .i64 (f 35), .int .i64 (f 36), .int .i64 (f 37), .int .i64 (f 38), .int .i64 (f 39), .int .i64 (f 40), .int .i64 (f 41), .int .i64 (f 42), .int .i64 (f 43), .int .i64 (f 44), .int .i64 (f 45), .int .i64 (f 46), .int .i64 (f 47), .int .i64 (f 48), .int .i64 (f 49), .int .i64 (f 50), .int .i64 (f 51), .int .i64 (f 52), .int .i64 (f 53), .int .i64 (f 54), .int .i64 (f 55), .int .i64 (f 56), .int .i64 (f 57), .int .i64 (f 58), .int .i64 (f 59), .int .i64 (f 60), .int .i64 (f 61), .int .i64 (f 62), .int .i64 (f 63), .int .i64 (f 64), .int .i64 (f 65), .int .i64 (f 66), .int .i64 (f 67), .int .i64 (f 68), .int .i64 (f 69), .int .i64 (f 70), .int .i64 (f 71), .int .i64 (f 72), .int .i64 (f 73), .int .i64 (f 74), .int .i64 (f 75), .int .i64 (f 76), .int .i64 (f 77), .int .i64 (f 78), .int .i64 (f 79), .int .i64 (f 80), .int .i64 (f 81), .int .i64 (f 82), .int .i64 (f 83), .int .i64 (f 84), .int .i64 (f 85), .int .i64 (f 86), .int .i64 (f 87), .int .i64 (f 88), .int .i64 (f 89), .int .i64 (f 90), .int .i64 (f 91), .int .i64 (f 92), .int .i64 (f 93), .int .i64 (f 94), .int .i64 (f 95), .int .i64 (f 96), .int .i64 (f 97), .int .i64 (f 98), .int .i64 (f 99), .int .i64 (f 100), .int .i64 (f 101), .int .i64 (f 102), .int .i64 (f 103), .int .i64 (f 104), .int .i64 (f 105), .int .i64 (f 106), .int .i64 (f 107), .int .i64 (f 108)]
noncomputable def shf (s : PS) (i : Nat) : Int := (shI s).getD i 0
theorem shape76f (s : PS) (hl : s.E.length ≤ 1000000) : PureC Try.prog 76 false [stI s] (· = .agg (shFV (shf s))) := shape76 s hl
noncomputable def Trip.sh (t : Trip) : List Int := shF (shf t.s)
def Trip.none : Trip := ⟨PS.begin, []⟩
structure Trip.Good (x : Cache) (k : Nat) (t : Trip) : Prop where
  r : Rch x k t.s t.D
  sm : t.s.Sm
  len : t.s.E.length ≤ 17
  W : t.s.W ≤ 1000
  D : t.D.length ≤ 1000
noncomputable def cntV (dom : List Int → Prop) (c : List Int → Int) (k : List Int) : Int := @ite _ (dom k) (Classical.propDecidable _) (c k) 0
noncomputable def cntUp (dom : List Int → Prop) (c : List Int → Int) (k : List Int) (k' : List Int) : Int := @ite _ (k' = k) (Classical.propDecidable _) (cntV dom c k + 1) (c k')
theorem cntUp_eq (dom : List Int → Prop) (c : List Int → Int) (k k' : List Int) (h : domPut dom k k') :
    valPut (valEnt dom (fun k => [.int .i64 (c k)]) [.int .i64 0]) k [.int .i64 (cntV dom c k + 1)] k' = [.int .i64 (cntUp dom c k k')] := by
  unfold valPut valEnt mrgL cntUp
  by_cases hk : k' = k
  · subst hk
    simp [pickDL, pickD]
  · have hd : dom k' := h.resolve_left hk
    simp [pickDL, pickD, hk, hd]
theorem cntV_again (dom : List Int → Prop) (c : List Int → Int) (k : List Int) : V.int .i64 (@ite _ (domPut dom k k) (Classical.propDecidable _) (cntV dom c k) 0) = V.int .i64 (cntV dom c k) := by
  rw [if_pos (show domPut dom k k from .inl rfl)]
theorem cnt_new {dom : List Int → Prop} {c : List Int → Int} {k : List Int} (h : ∀ k, dom k → 1 ≤ c k) :
    (@ite _ (domPut dom k k) (Classical.propDecidable _) (@ite _ (k = k) (Classical.propDecidable _) (cntV dom c k + 1) (cntV dom c k)) 0 = 1) ↔ ¬ dom k := by
  rw [if_pos (show domPut dom k k from .inl rfl), if_pos rfl]
  unfold cntV
  split
  · rename_i hk
    have := h k hk
    exact ⟨fun e => by omega, fun e => absurd hk e⟩
  · rename_i hk
    exact ⟨fun _ => hk, fun _ => by omega⟩
theorem cntUp_le {dom : List Int → Prop} {c : List Int → Int} {k : List Int} {n : Nat} (h : ∀ k, dom k → 1 ≤ c k ∧ c k ≤ n) : ∀ k', domPut dom k k' → 1 ≤ cntUp dom c k k' ∧ cntUp dom c k k' ≤ (n + 1 : Nat) := by
  intro k' hk'
  unfold cntUp cntV
  split
  · split
    · rename_i h2; have := h k h2; omega
    · omega
  · rename_i hne
    have := h k' (hk'.resolve_left hne)
    omega
end Go.Proofs


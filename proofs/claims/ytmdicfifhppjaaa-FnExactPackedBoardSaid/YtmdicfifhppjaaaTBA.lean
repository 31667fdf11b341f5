/-
Pure functions and what the code of them does, by program; without conditions.
-/
import Derived.Test.YtmdicfifhppjaaaTBC
import Derived.Test.YtmdicfifhppjaaaProg
import Derived.Test.YtmdicfifhppjaaaLvNil
namespace Go.Proofs.Ytmdicfifhppjaaa
open Go Go.Lv Go.Proofs
def tt : TT := [
  (2, ⟨.int .i64, 1, 8, .int .i64 0⟩),
  (3, ⟨.int .i64, 1, 8, .int .i64 0⟩),
  (4, ⟨.bool, 1, 1, .bool false⟩),
  (5, ⟨.int .u8, 1, 1, .int .u8 0⟩),
  (6, ⟨.int .u8, 1, 1, .int .u8 0⟩),
  (7, ⟨.struct [(0, 2), (1, 3), (2, 4), (3, 6)], 4, 24, .agg [.int .i64 0, .int .i64 0, .bool false, .int .u8 0]⟩),
  (8, ⟨.struct [(0, 2), (1, 3), (2, 4), (3, 6)], 4, 24, .agg [.int .i64 0, .int .i64 0, .bool false, .int .u8 0]⟩),
  (12, ⟨.int .u64, 1, 8, .int .u64 0⟩),
  (21, ⟨.int .i32, 1, 4, .int .i32 0⟩),
  (28, ⟨.array 4 3, 4, 32, .ints 4 [0, 0, 0, 0]⟩),
  (29, ⟨.array 4 28, 16, 128, .ints 16 [0, 0, 0, 0, 0, 0, 0, 0, 0, 0, 0, 0, 0, 0, 0, 0]⟩),
  (30, ⟨.struct [(0, 29)], 16, 128, .ints 16 [0, 0, 0, 0, 0, 0, 0, 0, 0, 0, 0, 0, 0, 0, 0, 0]⟩),
  (31, ⟨.struct [(0, 29)], 16, 128, .ints 16 [0, 0, 0, 0, 0, 0, 0, 0, 0, 0, 0, 0, 0, 0, 0, 0]⟩),
  (33, ⟨.struct [(0, 29)], 16, 128, .ints 16 [0, 0, 0, 0, 0, 0, 0, 0, 0, 0, 0, 0, 0, 0, 0, 0]⟩),
  (39, ⟨.array 3 3, 3, 24, .ints 3 [0, 0, 0]⟩),
  (48, ⟨.array 2 3, 2, 16, .ints 2 [0, 0]⟩),
  (53, ⟨.slice 39, 1, 24, .z0⟩),
  (59, ⟨.slice 3, 1, 24, .z0⟩),
  (67, ⟨.array 18 3, 18, 144, .ints 18 [0, 0, 0, 0, 0, 0, 0, 0, 0, 0, 0, 0, 0, 0, 0, 0, 0, 0]⟩),
  (76, ⟨.int .u64, 1, 8, .int .u64 0⟩),
  (87, ⟨.slice 48, 1, 24, .z0⟩),
  (92, ⟨.array 16 48, 32, 256, .ints 32 [0, 0, 0, 0, 0, 0, 0, 0, 0, 0, 0, 0, 0, 0, 0, 0, 0, 0, 0, 0, 0, 0, 0, 0, 0, 0, 0, 0, 0, 0, 0, 0]⟩),
  (98, ⟨.slice 28, 1, 24, .z0⟩),
  (101, ⟨.int .u32, 1, 4, .int .u32 0⟩),
  (103, ⟨.int .u64, 1, 8, .int .u64 0⟩),
  (117, ⟨.slice 59, 1, 24, .z0⟩),
  (126, ⟨.int .u8, 1, 1, .int .u8 0⟩),
  (127, ⟨.int .u8, 1, 1, .int .u8 0⟩),
  (130, ⟨.int .i32, 1, 4, .int .i32 0⟩),
  (131, ⟨.int .i32, 1, 4, .int .i32 0⟩)]
set_option maxRecDepth 100000 in
theorem ttok : TTok Try.prog tt := ttB_ok (by kernel_rfl)
theorem mixed : Try.prog.follows .mixedOrders = true := by kernel_rfl
theorem deep : 6 ≤ Try.prog.depth := by decide +kernel
end Go.Proofs.Ytmdicfifhppjaaa

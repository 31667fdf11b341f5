/-
Pure functions and what the code of them does, by program; without conditions.
-/
import Derived.Test.YtplclbkelohajaaProg
import Derived.Test.YtplclbkelohajaaLvNil
namespace Go.Proofs.Ytplclbkelohajaa
open Go Go.Lv Go.Proofs
def tt : TT := [
  (2, ⟨.int .i64, 1, 8, .int .i64 0⟩),
  (3, ⟨.int .i64, 1, 8, .int .i64 0⟩),
  (4, ⟨.bool, 1, 1, .bool false⟩),
  (5, ⟨.int .u8, 1, 1, .int .u8 0⟩),
  (6, ⟨.int .u8, 1, 1, .int .u8 0⟩),
  (7, ⟨.struct [(0, 2), (1, 3), (2, 4), (3, 6)], 4, 24, .agg [.int .i64 0, .int .i64 0, .bool false, .int .u8 0]⟩),
  (8, ⟨.struct [(0, 2), (1, 3), (2, 4), (3, 6)], 4, 24, .agg [.int .i64 0, .int .i64 0, .bool false, .int .u8 0]⟩),
  (12, ⟨.int .u64, 1, 8, .int .u64 0⟩),
  (21, ⟨.int .i32, 1, 4, .int .i32 0⟩),
  (22, ⟨.array 4 3, 4, 32, .ints 4 [0, 0, 0, 0]⟩),
  (23, ⟨.array 4 22, 16, 128, .ints 16 [0, 0, 0, 0, 0, 0, 0, 0, 0, 0, 0, 0, 0, 0, 0, 0]⟩),
  (24, ⟨.struct [(0, 23)], 16, 128, .ints 16 [0, 0, 0, 0, 0, 0, 0, 0, 0, 0, 0, 0, 0, 0, 0, 0]⟩),
  (25, ⟨.struct [(0, 23)], 16, 128, .ints 16 [0, 0, 0, 0, 0, 0, 0, 0, 0, 0, 0, 0, 0, 0, 0, 0]⟩),
  (26, ⟨.array 3 3, 3, 24, .ints 3 [0, 0, 0]⟩),
  (29, ⟨.struct [(0, 23)], 16, 128, .ints 16 [0, 0, 0, 0, 0, 0, 0, 0, 0, 0, 0, 0, 0, 0, 0, 0]⟩),
  (33, ⟨.array 2 3, 2, 16, .ints 2 [0, 0]⟩),
  (34, ⟨.struct [(0, 3), (1, 33), (3, 3)], 4, 32, .ints 4 [0, 0, 0, 0]⟩),
  (35, ⟨.struct [(0, 3), (1, 33), (3, 3)], 4, 32, .ints 4 [0, 0, 0, 0]⟩),
  (38, ⟨.struct [(0, 3), (1, 33), (3, 3)], 4, 32, .ints 4 [0, 0, 0, 0]⟩),
  (42, ⟨.slice 38, 1, 24, .z0⟩),
  (48, ⟨.slice 26, 1, 24, .z0⟩),
  (54, ⟨.slice 33, 1, 24, .z0⟩),
  (57, ⟨.slice 3, 1, 24, .z0⟩),
  (85, ⟨.slice 22, 1, 24, .z0⟩),
  (102, ⟨.array 4 33, 8, 64, .ints 8 [0, 0, 0, 0, 0, 0, 0, 0]⟩),
  (108, ⟨.array 4 4, 4, 4, .bools 4 [false, false, false, false]⟩),
  (127, ⟨.int .u32, 1, 4, .int .u32 0⟩),
  (128, ⟨.int .u8, 1, 1, .int .u8 0⟩),
  (129, ⟨.int .u8, 1, 1, .int .u8 0⟩),
  (132, ⟨.int .i32, 1, 4, .int .i32 0⟩),
  (133, ⟨.int .i32, 1, 4, .int .i32 0⟩)]
set_option maxRecDepth 100000 in
theorem ttok : TTok Try.prog tt := ttB_ok (by kernel_rfl)
theorem mixed : Try.prog.follows .mixedOrders = true := by kernel_rfl
theorem deep : 6 ≤ Try.prog.depth := by decide +kernel
end Go.Proofs.Ytplclbkelohajaa

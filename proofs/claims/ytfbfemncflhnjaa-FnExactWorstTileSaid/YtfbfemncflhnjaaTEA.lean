/-
Pure functions and what the code of them does, by program; without conditions.
-/
import Derived.Test.YtfbfemncflhnjaaProg
import Derived.Test.YtfbfemncflhnjaaLvNil
namespace Go.Proofs.Ytfbfemncflhnjaa
open Go Go.Lv Go.Proofs
def tt : TT := [
  (2, ⟨.int .i64, 1, 8, .int .i64 0⟩),
  (3, ⟨.int .i64, 1, 8, .int .i64 0⟩),
  (4, ⟨.bool, 1, 1, .bool false⟩),
  (5, ⟨.int .u8, 1, 1, .int .u8 0⟩),
  (6, ⟨.int .u8, 1, 1, .int .u8 0⟩),
  (7, ⟨.struct [(0, 2), (1, 3), (2, 4), (3, 6)], 4, 24, .agg [.int .i64 0, .int .i64 0, .bool false, .int .u8 0]⟩),
  (8, ⟨.struct [(0, 2), (1, 3), (2, 4), (3, 6)], 4, 24, .agg [.int .i64 0, .int .i64 0, .bool false, .int .u8 0]⟩),
  (12, ⟨.int .u64, 1, 8, .int .u64 0⟩),
  (21, ⟨.int .i32, 1, 4, .int .i32 0⟩),
  (22, ⟨.array 4 3, 4, 32, .ints 4 [0, 0, 0, 0]⟩),
  (23, ⟨.array 4 22, 16, 128, .ints 16 [0, 0, 0, 0, 0, 0, 0, 0, 0, 0, 0, 0, 0, 0, 0, 0]⟩),
  (24, ⟨.struct [(0, 23)], 16, 128, .ints 16 [0, 0, 0, 0, 0, 0, 0, 0, 0, 0, 0, 0, 0, 0, 0, 0]⟩),
  (25, ⟨.struct [(0, 23)], 16, 128, .ints 16 [0, 0, 0, 0, 0, 0, 0, 0, 0, 0, 0, 0, 0, 0, 0, 0]⟩),
  (26, ⟨.array 3 3, 3, 24, .ints 3 [0, 0, 0]⟩),
  (29, ⟨.struct [(0, 23)], 16, 128, .ints 16 [0, 0, 0, 0, 0, 0, 0, 0, 0, 0, 0, 0, 0, 0, 0, 0]⟩),
  (33, ⟨.array 2 3, 2, 16, .ints 2 [0, 0]⟩),
  (34, ⟨.struct [(0, 3), (1, 33), (3, 3)], 4, 32, .ints 4 [0, 0, 0, 0]⟩),
  (35, ⟨.struct [(0, 3), (1, 33), (3, 3)], 4, 32, .ints 4 [0, 0, 0, 0]⟩),
  (38, ⟨.struct [(0, 3), (1, 33), (3, 3)], 4, 32, .ints 4 [0, 0, 0, 0]⟩),
  (47, ⟨.slice 26, 1, 24, .z0⟩),
  (55, ⟨.slice 38, 1, 24, .z0⟩),
  (65, ⟨.slice 3, 1, 24, .z0⟩),
  (75, ⟨.slice 35, 1, 24, .z0⟩),
  (88, ⟨.slice 29, 1, 24, .z0⟩),
  (97, ⟨.slice 33, 1, 24, .z0⟩),
  (132, ⟨.map 29 65, 1, 8, .any⟩),
  (149, ⟨.map 29 4, 1, 8, .any⟩),
  (168, ⟨.array 18 3, 18, 144, .ints 18 [0, 0, 0, 0, 0, 0, 0, 0, 0, 0, 0, 0, 0, 0, 0, 0, 0, 0]⟩),
  (171, ⟨.array 16 33, 32, 256, .ints 32 [0, 0, 0, 0, 0, 0, 0, 0, 0, 0, 0, 0, 0, 0, 0, 0, 0, 0, 0, 0, 0, 0, 0, 0, 0, 0, 0, 0, 0, 0, 0, 0]⟩),
  (177, ⟨.slice 22, 1, 24, .z0⟩),
  (178, ⟨.array 4 177, 4, 96, .agg [.z0, .z0, .z0, .z0]⟩),
  (201, ⟨.array 4 33, 8, 64, .ints 8 [0, 0, 0, 0, 0, 0, 0, 0]⟩),
  (217, ⟨.int .u64, 1, 8, .int .u64 0⟩),
  (224, ⟨.array 4 4, 4, 4, .bools 4 [false, false, false, false]⟩),
  (226, ⟨.map 33 4, 1, 8, .any⟩),
  (235, ⟨.slice 55, 1, 24, .z0⟩),
  (238, ⟨.slice 65, 1, 24, .z0⟩),
  (241, ⟨.int .i64, 1, 8, .int .i64 0⟩),
  (248, ⟨.int .u32, 1, 4, .int .u32 0⟩),
  (250, ⟨.int .u64, 1, 8, .int .u64 0⟩),
  (259, ⟨.int .u64, 1, 8, .int .u64 0⟩),
  (290, ⟨.int .u8, 1, 1, .int .u8 0⟩),
  (291, ⟨.int .u8, 1, 1, .int .u8 0⟩),
  (294, ⟨.int .i32, 1, 4, .int .i32 0⟩),
  (295, ⟨.int .i32, 1, 4, .int .i32 0⟩)]
set_option maxRecDepth 100000 in
theorem ttok : TTok Try.prog tt := ttB_ok (by kernel_rfl)
theorem mixed : Try.prog.follows .mixedOrders = true := by kernel_rfl
theorem deep : 6 ≤ Try.prog.depth := by decide +kernel
end Go.Proofs.Ytfbfemncflhnjaa

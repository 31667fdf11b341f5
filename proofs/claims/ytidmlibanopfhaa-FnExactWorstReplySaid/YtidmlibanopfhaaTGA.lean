/-
Pure functions and what the code of them does, by program; without conditions.
-/
import Derived.Test.YtidmlibanopfhaaProg
import Derived.Test.YtidmlibanopfhaaLvNil
namespace Go.Proofs.Ytidmlibanopfhaa
open Go Go.Lv Go.Proofs
theorem isSome_cond {α : Type} {b : Bool} {x : α} (h : (bif b then some x else none).isSome = true) : b = true := by cases b; exact h; rfl
def tt : TT := [
  (2, ⟨.int .i64, 1, 8, .int .i64 0⟩),
  (3, ⟨.int .i64, 1, 8, .int .i64 0⟩),
  (4, ⟨.bool, 1, 1, .bool false⟩),
  (5, ⟨.int .u8, 1, 1, .int .u8 0⟩),
  (6, ⟨.int .u8, 1, 1, .int .u8 0⟩),
  (7, ⟨.struct [(0, 2), (1, 3), (2, 4), (3, 6)], 4, 24, .agg [.int .i64 0, .int .i64 0, .bool false, .int .u8 0]⟩),
  (8, ⟨.struct [(0, 2), (1, 3), (2, 4), (3, 6)], 4, 24, .agg [.int .i64 0, .int .i64 0, .bool false, .int .u8 0]⟩),
  (12, ⟨.int .u64, 1, 8, .int .u64 0⟩),
  (21, ⟨.int .i32, 1, 4, .int .i32 0⟩),
  (22, ⟨.array 4 3, 4, 32, .ints 4 [0, 0, 0, 0]⟩),
  (23, ⟨.array 4 22, 16, 128, .ints 16 [0, 0, 0, 0, 0, 0, 0, 0, 0, 0, 0, 0, 0, 0, 0, 0]⟩),
  (24, ⟨.struct [(0, 23)], 16, 128, .ints 16 [0, 0, 0, 0, 0, 0, 0, 0, 0, 0, 0, 0, 0, 0, 0, 0]⟩),
  (25, ⟨.struct [(0, 23)], 16, 128, .ints 16 [0, 0, 0, 0, 0, 0, 0, 0, 0, 0, 0, 0, 0, 0, 0, 0]⟩),
  (28, ⟨.struct [(0, 23)], 16, 128, .ints 16 [0, 0, 0, 0, 0, 0, 0, 0, 0, 0, 0, 0, 0, 0, 0, 0]⟩),
  (35, ⟨.array 3 3, 3, 24, .ints 3 [0, 0, 0]⟩),
  (42, ⟨.slice 3, 1, 24, .z0⟩),
  (71, ⟨.slice 22, 1, 24, .z0⟩),
  (80, ⟨.array 2 3, 2, 16, .ints 2 [0, 0]⟩),
  (81, ⟨.array 4 80, 8, 64, .ints 8 [0, 0, 0, 0, 0, 0, 0, 0]⟩),
  (84, ⟨.slice 35, 1, 24, .z0⟩),
  (91, ⟨.array 4 4, 4, 4, .bools 4 [false, false, false, false]⟩),
  (97, ⟨.slice 80, 1, 24, .z0⟩),
  (116, ⟨.int .u32, 1, 4, .int .u32 0⟩),
  (117, ⟨.int .u8, 1, 1, .int .u8 0⟩),
  (118, ⟨.int .u8, 1, 1, .int .u8 0⟩),
  (121, ⟨.int .i32, 1, 4, .int .i32 0⟩),
  (122, ⟨.int .i32, 1, 4, .int .i32 0⟩)]
set_option maxRecDepth 100000 in
theorem ttok : TTok Try.prog tt := ttB_ok (by kernel_rfl)
theorem mixed : Try.prog.follows .mixedOrders = true := by kernel_rfl
theorem deep : 6 ≤ Try.prog.depth := by decide +kernel
end Go.Proofs.Ytidmlibanopfhaa

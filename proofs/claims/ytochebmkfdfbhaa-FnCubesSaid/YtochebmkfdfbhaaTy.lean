/- The types of this program, as a table; printed by a program from the translation. -/
import Derived.Test.YtochebmkfdfbhaaProg
import Derived.Test.YtochebmkfdfbhaaA3
import Derived.KernelRfl
set_option linter.all false
namespace Go.Proofs.Ytochebmkfdfbhaa
open Go.RowKit

def tyTab : List (Nat × TS) := [
  (1, ⟨.func, 1, 8, [.func]⟩),
  (2, ⟨.int .i64, 1, 8, [.int .i64]⟩),
  (3, ⟨.int .i64, 1, 8, [.int .i64]⟩),
  (4, ⟨.bool, 1, 1, [.bool]⟩),
  (5, ⟨.int .u8, 1, 1, [.int .u8]⟩),
  (6, ⟨.int .u8, 1, 1, [.int .u8]⟩),
  (7, ⟨.struct [(0, 1), (1, 1), (2, 1), (3, 1)], 4, 24, [.int .i64, .int .i64, .bool, .int .u8]⟩),
  (8, ⟨.struct [(0, 1), (1, 1), (2, 1), (3, 1)], 4, 24, [.int .i64, .int .i64, .bool, .int .u8]⟩),
  (9, ⟨.string, 1, 16, [.str]⟩),
  (10, ⟨.string, 1, 16, [.str]⟩),
  (11, ⟨.string, 1, 16, [.str]⟩),
  (12, ⟨.int .u64, 1, 8, [.int .u64]⟩),
  (13, ⟨.struct [(0, 1), (1, 1)], 2, 24, [.str, .int .u64]⟩),
  (14, ⟨.struct [(0, 1), (1, 1)], 2, 24, [.str, .int .u64]⟩),
  (15, ⟨.pointer 57, 1, 8, [.ptr]⟩),
  (16, ⟨.pointer 60, 1, 8, [.ptr]⟩),
  (17, ⟨.pointer 68, 1, 8, [.ptr]⟩),
  (18, ⟨.struct [(0, 1)], 1, 8, [.ptr]⟩),
  (19, ⟨.struct [(0, 1)], 1, 8, [.ptr]⟩),
  (20, ⟨.other, 1, 16, [.iface]⟩),
  (21, ⟨.int .i32, 1, 4, [.int .i32]⟩),
  (22, ⟨.slice 5, 1, 24, [.slice]⟩),
  (23, ⟨.func, 1, 8, [.func]⟩),
  (25, ⟨.func, 1, 8, [.func]⟩),
  (27, ⟨.func, 1, 8, [.func]⟩),
  (29, ⟨.func, 1, 8, [.func]⟩),
  (30, ⟨.slice 9, 1, 24, [.slice]⟩),
  (31, ⟨.func, 1, 8, [.func]⟩),
  (32, ⟨.func, 1, 8, [.func]⟩),
  (33, ⟨.pointer 36, 1, 8, [.ptr]⟩),
  (34, ⟨.int .u64, 1, 8, [.int .u64]⟩),
  (35, ⟨.struct [(0, 1), (1, 1), (2, 1)], 3, 40, [.slice, .int .i64, .int .u64]⟩),
  (36, ⟨.struct [(0, 1), (1, 1), (2, 1)], 3, 40, [.slice, .int .i64, .int .u64]⟩),
  (37, ⟨.func, 1, 8, [.func]⟩),
  (38, ⟨.func, 1, 8, [.func]⟩),
  (39, ⟨.func, 1, 8, [.func]⟩),
  (40, ⟨.func, 1, 8, [.func]⟩),
  (41, ⟨.func, 1, 8, [.func]⟩),
  (42, ⟨.func, 1, 8, [.func]⟩),
  (43, ⟨.func, 1, 8, [.func]⟩),
  (44, ⟨.func, 1, 8, [.func]⟩),
  (45, ⟨.func, 1, 8, [.func]⟩),
  (46, ⟨.func, 1, 8, [.func]⟩),
  (47, ⟨.func, 1, 8, [.func]⟩),
  (48, ⟨.func, 1, 8, [.func]⟩),
  (49, ⟨.int .u64, 1, 8, [.int .u64]⟩),
  (50, ⟨.func, 1, 8, [.func]⟩),
  (51, ⟨.func, 1, 8, [.func]⟩),
  (52, ⟨.int .u32, 1, 4, [.int .u32]⟩),
  (54, ⟨.func, 1, 8, [.func]⟩),
  (55, ⟨.func, 1, 8, [.func]⟩),
  (56, ⟨.struct [(0, 1), (1, 1), (2, 1), (3, 1)], 4, 40, [.ptr, .ptr, .ptr, .str]⟩),
  (57, ⟨.struct [(0, 1), (1, 1), (2, 1), (3, 1)], 4, 40, [.ptr, .ptr, .ptr, .str]⟩),
  (58, ⟨.row, 0, 0, []⟩),
  (61, ⟨.int .u8, 1, 1, [.int .u8]⟩),
  (62, ⟨.int .u8, 1, 1, [.int .u8]⟩),
  (63, ⟨.func, 1, 8, [.func]⟩),
  (64, ⟨.pointer 5, 1, 8, [.ptr]⟩),
  (65, ⟨.int .i32, 1, 4, [.int .i32]⟩),
  (66, ⟨.int .i32, 1, 4, [.int .i32]⟩),
  (67, ⟨.struct [(0, 1), (1, 1), (2, 1), (3, 1), (4, 1), (5, 1), (6, 1), (7, 1), (8, 1), (9, 1), (10, 1)], 11, 48, [.int .u64, .int .u64, .int .u32, .int .u8, .int .u8, .int .u8, .int .u8, .func, .ptr, .int .i32, .int .i32]⟩),
  (68, ⟨.struct [(0, 1), (1, 1), (2, 1), (3, 1), (4, 1), (5, 1), (6, 1), (7, 1), (8, 1), (9, 1), (10, 1)], 11, 48, [.int .u64, .int .u64, .int .u32, .int .u8, .int .u8, .int .u8, .int .u8, .func, .ptr, .int .i32, .int .i32]⟩)]

theorem tyTab_ok : tyTab.all (fun p => decide (tsOf Try.prog p.1 = some p.2)) = true := by kernel_rfl
instance : PT Try.prog := ⟨tyTab, tyTab_ok⟩
theorem mixed_ok : Try.prog.follows .mixedOrders = true := by kernel_rfl
end Go.Proofs.Ytochebmkfdfbhaa

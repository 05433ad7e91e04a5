/- Texts of the proof. -/
import Derived.Test.YtkfipajabmhkbaaChecked
import Derived.KernelRfl
import Derived.Test.YtkfipajabmhkbaaStableDoesPe
import Derived.Test.YtkfipajabmhkbaaStableDoesPf
section
namespace Go.Proofs
open Go.Tm
def Try.tmL : List (Nat × TI) := [
 (1, { kind := 1, size := 1, offs := [], zero := [.nilfn], el := 0, esz := 0, eby := 0, eagg := false, ik := none, eqs := false, ezero := [] }),
 (2, { kind := 6, size := 1, offs := [], zero := [.int .i64 0], el := 0, esz := 0, eby := 0, eagg := false, ik := some .i64, eqs := false, ezero := [] }),
 (3, { kind := 6, size := 1, offs := [], zero := [.int .i64 0], el := 0, esz := 0, eby := 0, eagg := false, ik := some .i64, eqs := false, ezero := [] }),
 (4, { kind := 8, size := 1, offs := [], zero := [.bool false], el := 0, esz := 0, eby := 0, eagg := false, ik := none, eqs := false, ezero := [] }),
 (5, { kind := 6, size := 1, offs := [], zero := [.int .u8 0], el := 0, esz := 0, eby := 0, eagg := false, ik := some .u8, eqs := false, ezero := [] }),
 (6, { kind := 6, size := 1, offs := [], zero := [.int .u8 0], el := 0, esz := 0, eby := 0, eagg := false, ik := some .u8, eqs := false, ezero := [] }),
 (7, { kind := 2, size := 4, offs := [(0, 1, false), (1, 1, false), (2, 1, false), (3, 1, false)], zero := [.int .i64 0, .int .i64 0, .bool false, .int .u8 0], el := 0, esz := 0, eby := 0, eagg := false, ik := none, eqs := false, ezero := [] }),
 (8, { kind := 2, size := 4, offs := [(0, 1, false), (1, 1, false), (2, 1, false), (3, 1, false)], zero := [.int .i64 0, .int .i64 0, .bool false, .int .u8 0], el := 0, esz := 0, eby := 0, eagg := false, ik := none, eqs := false, ezero := [] }),
 (9, { kind := 5, size := 1, offs := [], zero := [.str []], el := 0, esz := 0, eby := 0, eagg := false, ik := none, eqs := false, ezero := [] }),
 (10, { kind := 5, size := 1, offs := [], zero := [.str []], el := 0, esz := 0, eby := 0, eagg := false, ik := none, eqs := false, ezero := [] }),
 (11, { kind := 5, size := 1, offs := [], zero := [.str []], el := 0, esz := 0, eby := 0, eagg := false, ik := none, eqs := false, ezero := [] }),
 (12, { kind := 6, size := 1, offs := [], zero := [.int .u64 0], el := 0, esz := 0, eby := 0, eagg := false, ik := some .u64, eqs := false, ezero := [] }),
 (13, { kind := 2, size := 2, offs := [(0, 1, false), (1, 1, false)], zero := [.str [], .int .u64 0], el := 0, esz := 0, eby := 0, eagg := false, ik := none, eqs := false, ezero := [] }),
 (14, { kind := 2, size := 2, offs := [(0, 1, false), (1, 1, false)], zero := [.str [], .int .u64 0], el := 0, esz := 0, eby := 0, eagg := false, ik := none, eqs := false, ezero := [] }),
 (15, { kind := 1, size := 1, offs := [], zero := [.nilptr], el := 0, esz := 0, eby := 0, eagg := false, ik := none, eqs := false, ezero := [] }),
 (16, { kind := 1, size := 1, offs := [], zero := [.nilptr], el := 0, esz := 0, eby := 0, eagg := false, ik := none, eqs := false, ezero := [] }),
 (17, { kind := 1, size := 1, offs := [], zero := [.nilptr], el := 0, esz := 0, eby := 0, eagg := false, ik := none, eqs := false, ezero := [] }),
 (18, { kind := 2, size := 1, offs := [(0, 1, false)], zero := [.nilptr], el := 0, esz := 0, eby := 0, eagg := false, ik := none, eqs := false, ezero := [] }),
 (19, { kind := 2, size := 1, offs := [(0, 1, false)], zero := [.nilptr], el := 0, esz := 0, eby := 0, eagg := false, ik := none, eqs := false, ezero := [] }),
 (20, { kind := 7, size := 1, offs := [], zero := [.nilIface], el := 0, esz := 0, eby := 0, eagg := false, ik := none, eqs := false, ezero := [] }),
 (21, { kind := 6, size := 1, offs := [], zero := [.int .i32 0], el := 0, esz := 0, eby := 0, eagg := false, ik := some .i32, eqs := false, ezero := [] }),
 (22, { kind := 3, size := 1, offs := [], zero := [.imm 0 [] 0], el := 34, esz := 1, eby := 24, eagg := false, ik := none, eqs := false, ezero := [.imm 0 [] 0] }),
 (23, { kind := 3, size := 1, offs := [], zero := [.imm 0 [] 0], el := 67, esz := 5, eby := 48, eagg := true, ik := none, eqs := false, ezero := [.int .i64 0, .int .i64 0, .int .i64 0, .int .i64 0, .str []] }),
 (24, { kind := 2, size := 2, offs := [(0, 1, false), (1, 1, false)], zero := [.imm 0 [] 0, .imm 0 [] 0], el := 0, esz := 0, eby := 0, eagg := false, ik := none, eqs := false, ezero := [] }),
 (25, { kind := 2, size := 2, offs := [(0, 1, false), (1, 1, false)], zero := [.imm 0 [] 0, .imm 0 [] 0], el := 0, esz := 0, eby := 0, eagg := false, ik := none, eqs := false, ezero := [] }),
 (26, { kind := 2, size := 5, offs := [(0, 1, false), (1, 1, false), (2, 1, false), (3, 1, false), (4, 1, false)], zero := [.int .u8 0, .int .i64 0, .int .i64 0, .int .i64 0, .str []], el := 0, esz := 0, eby := 0, eagg := false, ik := none, eqs := false, ezero := [] }),
 (27, { kind := 2, size := 5, offs := [(0, 1, false), (1, 1, false), (2, 1, false), (3, 1, false), (4, 1, false)], zero := [.int .u8 0, .int .i64 0, .int .i64 0, .int .i64 0, .str []], el := 0, esz := 0, eby := 0, eagg := false, ik := none, eqs := true, ezero := [] }),
 (28, { kind := 1, size := 1, offs := [], zero := [.nilfn], el := 0, esz := 0, eby := 0, eagg := false, ik := none, eqs := false, ezero := [] }),
 (29, { kind := 1, size := 1, offs := [], zero := [.nilfn], el := 0, esz := 0, eby := 0, eagg := false, ik := none, eqs := false, ezero := [] }),
 (30, { kind := 6, size := 1, offs := [], zero := [.int .i64 0], el := 0, esz := 0, eby := 0, eagg := false, ik := some .i64, eqs := false, ezero := [] }),
 (32, { kind := 1, size := 1, offs := [], zero := [.nilfn], el := 0, esz := 0, eby := 0, eagg := false, ik := none, eqs := false, ezero := [] }),
 (33, { kind := 1, size := 1, offs := [], zero := [.nilfn], el := 0, esz := 0, eby := 0, eagg := false, ik := none, eqs := false, ezero := [] }),
 (34, { kind := 3, size := 1, offs := [], zero := [.imm 0 [] 0], el := 9, esz := 1, eby := 16, eagg := false, ik := none, eqs := false, ezero := [.str []] }),
 (35, { kind := 1, size := 1, offs := [], zero := [.nilfn], el := 0, esz := 0, eby := 0, eagg := false, ik := none, eqs := false, ezero := [] }),
 (36, { kind := 2, size := 3, offs := [(0, 1, false), (1, 1, false), (2, 1, false)], zero := [.int .i64 0, .int .i64 0, .str []], el := 0, esz := 0, eby := 0, eagg := false, ik := none, eqs := false, ezero := [] }),
 (37, { kind := 2, size := 3, offs := [(0, 1, false), (1, 1, false), (2, 1, false)], zero := [.int .i64 0, .int .i64 0, .str []], el := 0, esz := 0, eby := 0, eagg := false, ik := none, eqs := true, ezero := [] }),
 (39, { kind := 1, size := 1, offs := [], zero := [.nilfn], el := 0, esz := 0, eby := 0, eagg := false, ik := none, eqs := false, ezero := [] }),
 (40, { kind := 1, size := 1, offs := [], zero := [.nilfn], el := 0, esz := 0, eby := 0, eagg := false, ik := none, eqs := false, ezero := [] }),
 (41, { kind := 1, size := 1, offs := [], zero := [.nilfn], el := 0, esz := 0, eby := 0, eagg := false, ik := none, eqs := false, ezero := [] }),
 (43, { kind := 1, size := 1, offs := [], zero := [.nilfn], el := 0, esz := 0, eby := 0, eagg := false, ik := none, eqs := false, ezero := [] }),
 (45, { kind := 1, size := 1, offs := [], zero := [.nilfn], el := 0, esz := 0, eby := 0, eagg := false, ik := none, eqs := false, ezero := [] }),
 (46, { kind := 1, size := 1, offs := [], zero := [.nilfn], el := 0, esz := 0, eby := 0, eagg := false, ik := none, eqs := false, ezero := [] }),
 (47, { kind := 1, size := 1, offs := [], zero := [.nilfn], el := 0, esz := 0, eby := 0, eagg := false, ik := none, eqs := false, ezero := [] }),
 (48, { kind := 1, size := 1, offs := [], zero := [.nilfn], el := 0, esz := 0, eby := 0, eagg := false, ik := none, eqs := false, ezero := [] }),
 (49, { kind := 1, size := 1, offs := [], zero := [.nilfn], el := 0, esz := 0, eby := 0, eagg := false, ik := none, eqs := false, ezero := [] }),
 (50, { kind := 1, size := 1, offs := [], zero := [.nilfn], el := 0, esz := 0, eby := 0, eagg := false, ik := none, eqs := false, ezero := [] }),
 (51, { kind := 1, size := 1, offs := [], zero := [.nilfn], el := 0, esz := 0, eby := 0, eagg := false, ik := none, eqs := false, ezero := [] }),
 (52, { kind := 1, size := 1, offs := [], zero := [.nilfn], el := 0, esz := 0, eby := 0, eagg := false, ik := none, eqs := false, ezero := [] }),
 (53, { kind := 1, size := 1, offs := [], zero := [.nilfn], el := 0, esz := 0, eby := 0, eagg := false, ik := none, eqs := false, ezero := [] }),
 (55, { kind := 1, size := 1, offs := [], zero := [.nilfn], el := 0, esz := 0, eby := 0, eagg := false, ik := none, eqs := false, ezero := [] }),
 (57, { kind := 1, size := 1, offs := [], zero := [.nilfn], el := 0, esz := 0, eby := 0, eagg := false, ik := none, eqs := false, ezero := [] }),
 (58, { kind := 1, size := 1, offs := [], zero := [.nilfn], el := 0, esz := 0, eby := 0, eagg := false, ik := none, eqs := false, ezero := [] }),
 (60, { kind := 1, size := 1, offs := [], zero := [.nilfn], el := 0, esz := 0, eby := 0, eagg := false, ik := none, eqs := false, ezero := [] }),
 (61, { kind := 1, size := 1, offs := [], zero := [.nilfn], el := 0, esz := 0, eby := 0, eagg := false, ik := none, eqs := false, ezero := [] }),
 (63, { kind := 1, size := 1, offs := [], zero := [.nilfn], el := 0, esz := 0, eby := 0, eagg := false, ik := none, eqs := false, ezero := [] }),
 (64, { kind := 1, size := 1, offs := [], zero := [.nilfn], el := 0, esz := 0, eby := 0, eagg := false, ik := none, eqs := false, ezero := [] }),
 (65, { kind := 1, size := 1, offs := [], zero := [.nilfn], el := 0, esz := 0, eby := 0, eagg := false, ik := none, eqs := false, ezero := [] }),
 (66, { kind := 2, size := 5, offs := [(0, 1, false), (1, 1, false), (2, 3, true)], zero := [.int .i64 0, .int .i64 0, .int .i64 0, .int .i64 0, .str []], el := 0, esz := 0, eby := 0, eagg := false, ik := none, eqs := false, ezero := [] }),
 (67, { kind := 2, size := 5, offs := [(0, 1, false), (1, 1, false), (2, 3, true)], zero := [.int .i64 0, .int .i64 0, .int .i64 0, .int .i64 0, .str []], el := 0, esz := 0, eby := 0, eagg := false, ik := none, eqs := true, ezero := [] }),
 (68, { kind := 1, size := 1, offs := [], zero := [.nilfn], el := 0, esz := 0, eby := 0, eagg := false, ik := none, eqs := false, ezero := [] }),
 (69, { kind := 1, size := 1, offs := [], zero := [.nilfn], el := 0, esz := 0, eby := 0, eagg := false, ik := none, eqs := false, ezero := [] }),
 (70, { kind := 1, size := 1, offs := [], zero := [.nilptr], el := 0, esz := 0, eby := 0, eagg := false, ik := none, eqs := false, ezero := [] }),
 (71, { kind := 1, size := 1, offs := [], zero := [.nilfn], el := 0, esz := 0, eby := 0, eagg := false, ik := none, eqs := false, ezero := [] }),
 (72, { kind := 1, size := 1, offs := [], zero := [.nilfn], el := 0, esz := 0, eby := 0, eagg := false, ik := none, eqs := false, ezero := [] }),
 (73, { kind := 1, size := 1, offs := [], zero := [.nilfn], el := 0, esz := 0, eby := 0, eagg := false, ik := none, eqs := false, ezero := [] }),
 (74, { kind := 1, size := 1, offs := [], zero := [.nilfn], el := 0, esz := 0, eby := 0, eagg := false, ik := none, eqs := false, ezero := [] }),
 (76, { kind := 1, size := 1, offs := [], zero := [.nilfn], el := 0, esz := 0, eby := 0, eagg := false, ik := none, eqs := false, ezero := [] }),
 (77, { kind := 1, size := 1, offs := [], zero := [.nilfn], el := 0, esz := 0, eby := 0, eagg := false, ik := none, eqs := false, ezero := [] }),
 (78, { kind := 1, size := 1, offs := [], zero := [.nilfn], el := 0, esz := 0, eby := 0, eagg := false, ik := none, eqs := false, ezero := [] }),
 (79, { kind := 1, size := 1, offs := [], zero := [.nilfn], el := 0, esz := 0, eby := 0, eagg := false, ik := none, eqs := false, ezero := [] }),
 (80, { kind := 1, size := 1, offs := [], zero := [.nilfn], el := 0, esz := 0, eby := 0, eagg := false, ik := none, eqs := false, ezero := [] }),
 (81, { kind := 1, size := 1, offs := [], zero := [.nilfn], el := 0, esz := 0, eby := 0, eagg := false, ik := none, eqs := false, ezero := [] }),
 (82, { kind := 1, size := 1, offs := [], zero := [.nilfn], el := 0, esz := 0, eby := 0, eagg := false, ik := none, eqs := false, ezero := [] }),
 (83, { kind := 1, size := 1, offs := [], zero := [.nilfn], el := 0, esz := 0, eby := 0, eagg := false, ik := none, eqs := false, ezero := [] }),
 (84, { kind := 1, size := 1, offs := [], zero := [.nilfn], el := 0, esz := 0, eby := 0, eagg := false, ik := none, eqs := false, ezero := [] }),
 (85, { kind := 1, size := 1, offs := [], zero := [.nilfn], el := 0, esz := 0, eby := 0, eagg := false, ik := none, eqs := false, ezero := [] }),
 (86, { kind := 1, size := 1, offs := [], zero := [.nilfn], el := 0, esz := 0, eby := 0, eagg := false, ik := none, eqs := false, ezero := [] }),
 (87, { kind := 1, size := 1, offs := [], zero := [.nilfn], el := 0, esz := 0, eby := 0, eagg := false, ik := none, eqs := false, ezero := [] }),
 (89, { kind := 1, size := 1, offs := [], zero := [.nilfn], el := 0, esz := 0, eby := 0, eagg := false, ik := none, eqs := false, ezero := [] }),
 (91, { kind := 1, size := 1, offs := [], zero := [.nilfn], el := 0, esz := 0, eby := 0, eagg := false, ik := none, eqs := false, ezero := [] }),
 (92, { kind := 1, size := 1, offs := [], zero := [.nilfn], el := 0, esz := 0, eby := 0, eagg := false, ik := none, eqs := false, ezero := [] }),
 (93, { kind := 3, size := 1, offs := [], zero := [.imm 0 [] 0], el := 27, esz := 5, eby := 48, eagg := true, ik := none, eqs := false, ezero := [.int .u8 0, .int .i64 0, .int .i64 0, .int .i64 0, .str []] }),
 (94, { kind := 1, size := 1, offs := [], zero := [.nilfn], el := 0, esz := 0, eby := 0, eagg := false, ik := none, eqs := false, ezero := [] }),
 (95, { kind := 1, size := 1, offs := [], zero := [.nilfn], el := 0, esz := 0, eby := 0, eagg := false, ik := none, eqs := false, ezero := [] }),
 (96, { kind := 3, size := 1, offs := [], zero := [.imm 0 [] 0], el := 5, esz := 1, eby := 1, eagg := false, ik := none, eqs := false, ezero := [.int .u8 0] }),
 (98, { kind := 1, size := 1, offs := [], zero := [.nilfn], el := 0, esz := 0, eby := 0, eagg := false, ik := none, eqs := false, ezero := [] }),
 (99, { kind := 1, size := 1, offs := [], zero := [.nilfn], el := 0, esz := 0, eby := 0, eagg := false, ik := none, eqs := false, ezero := [] }),
 (101, { kind := 1, size := 1, offs := [], zero := [.nilfn], el := 0, esz := 0, eby := 0, eagg := false, ik := none, eqs := false, ezero := [] }),
 (103, { kind := 1, size := 1, offs := [], zero := [.nilfn], el := 0, esz := 0, eby := 0, eagg := false, ik := none, eqs := false, ezero := [] }),
 (104, { kind := 1, size := 1, offs := [], zero := [.nilfn], el := 0, esz := 0, eby := 0, eagg := false, ik := none, eqs := false, ezero := [] }),
 (105, { kind := 1, size := 1, offs := [], zero := [.nilptr], el := 0, esz := 0, eby := 0, eagg := false, ik := none, eqs := false, ezero := [] }),
 (106, { kind := 1, size := 1, offs := [], zero := [.nilfn], el := 0, esz := 0, eby := 0, eagg := false, ik := none, eqs := false, ezero := [] }),
 (107, { kind := 1, size := 1, offs := [], zero := [.nilfn], el := 0, esz := 0, eby := 0, eagg := false, ik := none, eqs := false, ezero := [] }),
 (108, { kind := 1, size := 1, offs := [], zero := [.nilfn], el := 0, esz := 0, eby := 0, eagg := false, ik := none, eqs := false, ezero := [] }),
 (109, { kind := 1, size := 1, offs := [], zero := [.nilfn], el := 0, esz := 0, eby := 0, eagg := false, ik := none, eqs := false, ezero := [] }),
 (110, { kind := 1, size := 1, offs := [], zero := [.nilfn], el := 0, esz := 0, eby := 0, eagg := false, ik := none, eqs := false, ezero := [] }),
 (111, { kind := 1, size := 1, offs := [], zero := [.nilfn], el := 0, esz := 0, eby := 0, eagg := false, ik := none, eqs := false, ezero := [] }),
 (112, { kind := 1, size := 1, offs := [], zero := [.nilfn], el := 0, esz := 0, eby := 0, eagg := false, ik := none, eqs := false, ezero := [] }),
 (113, { kind := 6, size := 1, offs := [], zero := [.int .u64 0], el := 0, esz := 0, eby := 0, eagg := false, ik := some .u64, eqs := false, ezero := [] }),
 (114, { kind := 1, size := 1, offs := [], zero := [.nilfn], el := 0, esz := 0, eby := 0, eagg := false, ik := none, eqs := false, ezero := [] }),
 (115, { kind := 1, size := 1, offs := [], zero := [.nilfn], el := 0, esz := 0, eby := 0, eagg := false, ik := none, eqs := false, ezero := [] }),
 (116, { kind := 1, size := 1, offs := [], zero := [.nilptr], el := 0, esz := 0, eby := 0, eagg := false, ik := none, eqs := false, ezero := [] }),
 (117, { kind := 2, size := 2, offs := [(0, 1, false), (1, 1, false)], zero := [.imm 0 [] 0, .bool false], el := 0, esz := 0, eby := 0, eagg := false, ik := none, eqs := false, ezero := [] }),
 (118, { kind := 2, size := 2, offs := [(0, 1, false), (1, 1, false)], zero := [.imm 0 [] 0, .bool false], el := 0, esz := 0, eby := 0, eagg := false, ik := none, eqs := false, ezero := [] }),
 (119, { kind := 1, size := 1, offs := [], zero := [.nilfn], el := 0, esz := 0, eby := 0, eagg := false, ik := none, eqs := false, ezero := [] }),
 (120, { kind := 1, size := 1, offs := [], zero := [.nilfn], el := 0, esz := 0, eby := 0, eagg := false, ik := none, eqs := false, ezero := [] }),
 (121, { kind := 1, size := 1, offs := [], zero := [.nilfn], el := 0, esz := 0, eby := 0, eagg := false, ik := none, eqs := false, ezero := [] }),
 (123, { kind := 1, size := 1, offs := [], zero := [.nilfn], el := 0, esz := 0, eby := 0, eagg := false, ik := none, eqs := false, ezero := [] }),
 (124, { kind := 1, size := 1, offs := [], zero := [.nilfn], el := 0, esz := 0, eby := 0, eagg := false, ik := none, eqs := false, ezero := [] }),
 (125, { kind := 1, size := 1, offs := [], zero := [.nilfn], el := 0, esz := 0, eby := 0, eagg := false, ik := none, eqs := false, ezero := [] }),
 (126, { kind := 1, size := 1, offs := [], zero := [.nilfn], el := 0, esz := 0, eby := 0, eagg := false, ik := none, eqs := false, ezero := [] }),
 (127, { kind := 1, size := 1, offs := [], zero := [.nilfn], el := 0, esz := 0, eby := 0, eagg := false, ik := none, eqs := false, ezero := [] }),
 (128, { kind := 1, size := 1, offs := [], zero := [.nilfn], el := 0, esz := 0, eby := 0, eagg := false, ik := none, eqs := false, ezero := [] }),
 (129, { kind := 1, size := 1, offs := [], zero := [.nilfn], el := 0, esz := 0, eby := 0, eagg := false, ik := none, eqs := false, ezero := [] }),
 (130, { kind := 3, size := 1, offs := [], zero := [.imm 0 [] 0], el := 3, esz := 1, eby := 8, eagg := false, ik := none, eqs := false, ezero := [.int .i64 0] }),
 (132, { kind := 1, size := 1, offs := [], zero := [.nilfn], el := 0, esz := 0, eby := 0, eagg := false, ik := none, eqs := false, ezero := [] }),
 (134, { kind := 1, size := 1, offs := [], zero := [.nilfn], el := 0, esz := 0, eby := 0, eagg := false, ik := none, eqs := false, ezero := [] }),
 (135, { kind := 1, size := 1, offs := [], zero := [.nilfn], el := 0, esz := 0, eby := 0, eagg := false, ik := none, eqs := false, ezero := [] }),
 (136, { kind := 1, size := 1, offs := [], zero := [.nilfn], el := 0, esz := 0, eby := 0, eagg := false, ik := none, eqs := false, ezero := [] }),
 (137, { kind := 1, size := 1, offs := [], zero := [.nilfn], el := 0, esz := 0, eby := 0, eagg := false, ik := none, eqs := false, ezero := [] }),
 (138, { kind := 2, size := 4, offs := [(0, 1, false), (1, 1, false), (2, 1, false), (3, 1, false)], zero := [.nilptr, .nilptr, .nilptr, .str []], el := 0, esz := 0, eby := 0, eagg := false, ik := none, eqs := false, ezero := [] }),
 (139, { kind := 2, size := 4, offs := [(0, 1, false), (1, 1, false), (2, 1, false), (3, 1, false)], zero := [.nilptr, .nilptr, .nilptr, .str []], el := 0, esz := 0, eby := 0, eagg := false, ik := none, eqs := false, ezero := [] }),
 (140, { kind := 4, size := 0, offs := [], zero := [], el := 0, esz := 0, eby := 0, eagg := false, ik := none, eqs := false, ezero := [] }),
 (143, { kind := 6, size := 1, offs := [], zero := [.int .u32 0], el := 0, esz := 0, eby := 0, eagg := false, ik := some .u32, eqs := false, ezero := [] }),
 (144, { kind := 6, size := 1, offs := [], zero := [.int .u8 0], el := 0, esz := 0, eby := 0, eagg := false, ik := some .u8, eqs := false, ezero := [] }),
 (145, { kind := 6, size := 1, offs := [], zero := [.int .u8 0], el := 0, esz := 0, eby := 0, eagg := false, ik := some .u8, eqs := false, ezero := [] }),
 (146, { kind := 1, size := 1, offs := [], zero := [.nilfn], el := 0, esz := 0, eby := 0, eagg := false, ik := none, eqs := false, ezero := [] }),
 (147, { kind := 1, size := 1, offs := [], zero := [.nilptr], el := 0, esz := 0, eby := 0, eagg := false, ik := none, eqs := false, ezero := [] }),
 (148, { kind := 6, size := 1, offs := [], zero := [.int .i32 0], el := 0, esz := 0, eby := 0, eagg := false, ik := some .i32, eqs := false, ezero := [] }),
 (149, { kind := 6, size := 1, offs := [], zero := [.int .i32 0], el := 0, esz := 0, eby := 0, eagg := false, ik := some .i32, eqs := false, ezero := [] }),
 (150, { kind := 2, size := 11, offs := [(0, 1, false), (1, 1, false), (2, 1, false), (3, 1, false), (4, 1, false), (5, 1, false), (6, 1, false), (7, 1, false), (8, 1, false), (9, 1, false), (10, 1, false)], zero := [.int .u64 0, .int .u64 0, .int .u32 0, .int .u8 0, .int .u8 0, .int .u8 0, .int .u8 0, .nilfn, .nilptr, .int .i32 0, .int .i32 0], el := 0, esz := 0, eby := 0, eagg := false, ik := none, eqs := false, ezero := [] }),
 (151, { kind := 2, size := 11, offs := [(0, 1, false), (1, 1, false), (2, 1, false), (3, 1, false), (4, 1, false), (5, 1, false), (6, 1, false), (7, 1, false), (8, 1, false), (9, 1, false), (10, 1, false)], zero := [.int .u64 0, .int .u64 0, .int .u32 0, .int .u8 0, .int .u8 0, .int .u8 0, .int .u8 0, .nilfn, .nilptr, .int .i32 0, .int .i32 0], el := 0, esz := 0, eby := 0, eagg := false, ik := none, eqs := false, ezero := [] })]
def Try.tm (t : Nat) : TI := match getL Try.tmL t with | some x => x | none => default
theorem Try.tmAll : (Try.tmL.all fun x => tiChk Try.prog x.1 x.2 && (!x.2.eqs || eqsChk Try.prog x.1 x.2)) = true := by kernel_rfl
theorem Try.tmOk : TabOk Try.prog Try.tm := tabOk_of Try.tmAll
theorem Try.tmMixed : Try.prog.follows .mixedOrders = true := by kernel_rfl
end Go.Proofs
end
section
namespace Go.Proofs
open Go.Tm
theorem Try.tm_1 : Try.tm 1 = { kind := 1, size := 1, offs := [], zero := [.nilfn], el := 0, esz := 0, eby := 0, eagg := false, ik := none, eqs := false, ezero := [] } := by kernel_rfl
theorem Try.tm_2 : Try.tm 2 = { kind := 6, size := 1, offs := [], zero := [.int .i64 0], el := 0, esz := 0, eby := 0, eagg := false, ik := some .i64, eqs := false, ezero := [] } := by kernel_rfl
theorem Try.tm_3 : Try.tm 3 = { kind := 6, size := 1, offs := [], zero := [.int .i64 0], el := 0, esz := 0, eby := 0, eagg := false, ik := some .i64, eqs := false, ezero := [] } := by kernel_rfl
theorem Try.tm_4 : Try.tm 4 = { kind := 8, size := 1, offs := [], zero := [.bool false], el := 0, esz := 0, eby := 0, eagg := false, ik := none, eqs := false, ezero := [] } := by kernel_rfl
theorem Try.tm_5 : Try.tm 5 = { kind := 6, size := 1, offs := [], zero := [.int .u8 0], el := 0, esz := 0, eby := 0, eagg := false, ik := some .u8, eqs := false, ezero := [] } := by kernel_rfl
theorem Try.tm_6 : Try.tm 6 = { kind := 6, size := 1, offs := [], zero := [.int .u8 0], el := 0, esz := 0, eby := 0, eagg := false, ik := some .u8, eqs := false, ezero := [] } := by kernel_rfl
theorem Try.tm_7 : Try.tm 7 = { kind := 2, size := 4, offs := [(0, 1, false), (1, 1, false), (2, 1, false), (3, 1, false)], zero := [.int .i64 0, .int .i64 0, .bool false, .int .u8 0], el := 0, esz := 0, eby := 0, eagg := false, ik := none, eqs := false, ezero := [] } := by kernel_rfl
theorem Try.tm_8 : Try.tm 8 = { kind := 2, size := 4, offs := [(0, 1, false), (1, 1, false), (2, 1, false), (3, 1, false)], zero := [.int .i64 0, .int .i64 0, .bool false, .int .u8 0], el := 0, esz := 0, eby := 0, eagg := false, ik := none, eqs := false, ezero := [] } := by kernel_rfl
theorem Try.tm_9 : Try.tm 9 = { kind := 5, size := 1, offs := [], zero := [.str []], el := 0, esz := 0, eby := 0, eagg := false, ik := none, eqs := false, ezero := [] } := by kernel_rfl
theorem Try.tm_10 : Try.tm 10 = { kind := 5, size := 1, offs := [], zero := [.str []], el := 0, esz := 0, eby := 0, eagg := false, ik := none, eqs := false, ezero := [] } := by kernel_rfl
theorem Try.tm_11 : Try.tm 11 = { kind := 5, size := 1, offs := [], zero := [.str []], el := 0, esz := 0, eby := 0, eagg := false, ik := none, eqs := false, ezero := [] } := by kernel_rfl
theorem Try.tm_12 : Try.tm 12 = { kind := 6, size := 1, offs := [], zero := [.int .u64 0], el := 0, esz := 0, eby := 0, eagg := false, ik := some .u64, eqs := false, ezero := [] } := by kernel_rfl
theorem Try.tm_13 : Try.tm 13 = { kind := 2, size := 2, offs := [(0, 1, false), (1, 1, false)], zero := [.str [], .int .u64 0], el := 0, esz := 0, eby := 0, eagg := false, ik := none, eqs := false, ezero := [] } := by kernel_rfl
theorem Try.tm_14 : Try.tm 14 = { kind := 2, size := 2, offs := [(0, 1, false), (1, 1, false)], zero := [.str [], .int .u64 0], el := 0, esz := 0, eby := 0, eagg := false, ik := none, eqs := false, ezero := [] } := by kernel_rfl
theorem Try.tm_15 : Try.tm 15 = { kind := 1, size := 1, offs := [], zero := [.nilptr], el := 0, esz := 0, eby := 0, eagg := false, ik := none, eqs := false, ezero := [] } := by kernel_rfl
theorem Try.tm_16 : Try.tm 16 = { kind := 1, size := 1, offs := [], zero := [.nilptr], el := 0, esz := 0, eby := 0, eagg := false, ik := none, eqs := false, ezero := [] } := by kernel_rfl
theorem Try.tm_17 : Try.tm 17 = { kind := 1, size := 1, offs := [], zero := [.nilptr], el := 0, esz := 0, eby := 0, eagg := false, ik := none, eqs := false, ezero := [] } := by kernel_rfl
theorem Try.tm_18 : Try.tm 18 = { kind := 2, size := 1, offs := [(0, 1, false)], zero := [.nilptr], el := 0, esz := 0, eby := 0, eagg := false, ik := none, eqs := false, ezero := [] } := by kernel_rfl
theorem Try.tm_19 : Try.tm 19 = { kind := 2, size := 1, offs := [(0, 1, false)], zero := [.nilptr], el := 0, esz := 0, eby := 0, eagg := false, ik := none, eqs := false, ezero := [] } := by kernel_rfl
theorem Try.tm_20 : Try.tm 20 = { kind := 7, size := 1, offs := [], zero := [.nilIface], el := 0, esz := 0, eby := 0, eagg := false, ik := none, eqs := false, ezero := [] } := by kernel_rfl
theorem Try.tm_21 : Try.tm 21 = { kind := 6, size := 1, offs := [], zero := [.int .i32 0], el := 0, esz := 0, eby := 0, eagg := false, ik := some .i32, eqs := false, ezero := [] } := by kernel_rfl
theorem Try.tm_22 : Try.tm 22 = { kind := 3, size := 1, offs := [], zero := [.imm 0 [] 0], el := 34, esz := 1, eby := 24, eagg := false, ik := none, eqs := false, ezero := [.imm 0 [] 0] } := by kernel_rfl
theorem Try.tm_23 : Try.tm 23 = { kind := 3, size := 1, offs := [], zero := [.imm 0 [] 0], el := 67, esz := 5, eby := 48, eagg := true, ik := none, eqs := false, ezero := [.int .i64 0, .int .i64 0, .int .i64 0, .int .i64 0, .str []] } := by kernel_rfl
theorem Try.tm_24 : Try.tm 24 = { kind := 2, size := 2, offs := [(0, 1, false), (1, 1, false)], zero := [.imm 0 [] 0, .imm 0 [] 0], el := 0, esz := 0, eby := 0, eagg := false, ik := none, eqs := false, ezero := [] } := by kernel_rfl
theorem Try.tm_25 : Try.tm 25 = { kind := 2, size := 2, offs := [(0, 1, false), (1, 1, false)], zero := [.imm 0 [] 0, .imm 0 [] 0], el := 0, esz := 0, eby := 0, eagg := false, ik := none, eqs := false, ezero := [] } := by kernel_rfl
theorem Try.tm_26 : Try.tm 26 = { kind := 2, size := 5, offs := [(0, 1, false), (1, 1, false), (2, 1, false), (3, 1, false), (4, 1, false)], zero := [.int .u8 0, .int .i64 0, .int .i64 0, .int .i64 0, .str []], el := 0, esz := 0, eby := 0, eagg := false, ik := none, eqs := false, ezero := [] } := by kernel_rfl
theorem Try.tm_27 : Try.tm 27 = { kind := 2, size := 5, offs := [(0, 1, false), (1, 1, false), (2, 1, false), (3, 1, false), (4, 1, false)], zero := [.int .u8 0, .int .i64 0, .int .i64 0, .int .i64 0, .str []], el := 0, esz := 0, eby := 0, eagg := false, ik := none, eqs := true, ezero := [] } := by kernel_rfl
theorem Try.tm_28 : Try.tm 28 = { kind := 1, size := 1, offs := [], zero := [.nilfn], el := 0, esz := 0, eby := 0, eagg := false, ik := none, eqs := false, ezero := [] } := by kernel_rfl
theorem Try.tm_29 : Try.tm 29 = { kind := 1, size := 1, offs := [], zero := [.nilfn], el := 0, esz := 0, eby := 0, eagg := false, ik := none, eqs := false, ezero := [] } := by kernel_rfl
theorem Try.tm_30 : Try.tm 30 = { kind := 6, size := 1, offs := [], zero := [.int .i64 0], el := 0, esz := 0, eby := 0, eagg := false, ik := some .i64, eqs := false, ezero := [] } := by kernel_rfl
theorem Try.tm_32 : Try.tm 32 = { kind := 1, size := 1, offs := [], zero := [.nilfn], el := 0, esz := 0, eby := 0, eagg := false, ik := none, eqs := false, ezero := [] } := by kernel_rfl
theorem Try.tm_33 : Try.tm 33 = { kind := 1, size := 1, offs := [], zero := [.nilfn], el := 0, esz := 0, eby := 0, eagg := false, ik := none, eqs := false, ezero := [] } := by kernel_rfl
theorem Try.tm_34 : Try.tm 34 = { kind := 3, size := 1, offs := [], zero := [.imm 0 [] 0], el := 9, esz := 1, eby := 16, eagg := false, ik := none, eqs := false, ezero := [.str []] } := by kernel_rfl
theorem Try.tm_35 : Try.tm 35 = { kind := 1, size := 1, offs := [], zero := [.nilfn], el := 0, esz := 0, eby := 0, eagg := false, ik := none, eqs := false, ezero := [] } := by kernel_rfl
theorem Try.tm_36 : Try.tm 36 = { kind := 2, size := 3, offs := [(0, 1, false), (1, 1, false), (2, 1, false)], zero := [.int .i64 0, .int .i64 0, .str []], el := 0, esz := 0, eby := 0, eagg := false, ik := none, eqs := false, ezero := [] } := by kernel_rfl
theorem Try.tm_37 : Try.tm 37 = { kind := 2, size := 3, offs := [(0, 1, false), (1, 1, false), (2, 1, false)], zero := [.int .i64 0, .int .i64 0, .str []], el := 0, esz := 0, eby := 0, eagg := false, ik := none, eqs := true, ezero := [] } := by kernel_rfl
theorem Try.tm_39 : Try.tm 39 = { kind := 1, size := 1, offs := [], zero := [.nilfn], el := 0, esz := 0, eby := 0, eagg := false, ik := none, eqs := false, ezero := [] } := by kernel_rfl
theorem Try.tm_40 : Try.tm 40 = { kind := 1, size := 1, offs := [], zero := [.nilfn], el := 0, esz := 0, eby := 0, eagg := false, ik := none, eqs := false, ezero := [] } := by kernel_rfl
theorem Try.tm_41 : Try.tm 41 = { kind := 1, size := 1, offs := [], zero := [.nilfn], el := 0, esz := 0, eby := 0, eagg := false, ik := none, eqs := false, ezero := [] } := by kernel_rfl
theorem Try.tm_43 : Try.tm 43 = { kind := 1, size := 1, offs := [], zero := [.nilfn], el := 0, esz := 0, eby := 0, eagg := false, ik := none, eqs := false, ezero := [] } := by kernel_rfl
theorem Try.tm_45 : Try.tm 45 = { kind := 1, size := 1, offs := [], zero := [.nilfn], el := 0, esz := 0, eby := 0, eagg := false, ik := none, eqs := false, ezero := [] } := by kernel_rfl
theorem Try.tm_46 : Try.tm 46 = { kind := 1, size := 1, offs := [], zero := [.nilfn], el := 0, esz := 0, eby := 0, eagg := false, ik := none, eqs := false, ezero := [] } := by kernel_rfl
theorem Try.tm_47 : Try.tm 47 = { kind := 1, size := 1, offs := [], zero := [.nilfn], el := 0, esz := 0, eby := 0, eagg := false, ik := none, eqs := false, ezero := [] } := by kernel_rfl
theorem Try.tm_48 : Try.tm 48 = { kind := 1, size := 1, offs := [], zero := [.nilfn], el := 0, esz := 0, eby := 0, eagg := false, ik := none, eqs := false, ezero := [] } := by kernel_rfl
theorem Try.tm_49 : Try.tm 49 = { kind := 1, size := 1, offs := [], zero := [.nilfn], el := 0, esz := 0, eby := 0, eagg := false, ik := none, eqs := false, ezero := [] } := by kernel_rfl
theorem Try.tm_50 : Try.tm 50 = { kind := 1, size := 1, offs := [], zero := [.nilfn], el := 0, esz := 0, eby := 0, eagg := false, ik := none, eqs := false, ezero := [] } := by kernel_rfl
theorem Try.tm_51 : Try.tm 51 = { kind := 1, size := 1, offs := [], zero := [.nilfn], el := 0, esz := 0, eby := 0, eagg := false, ik := none, eqs := false, ezero := [] } := by kernel_rfl
theorem Try.tm_52 : Try.tm 52 = { kind := 1, size := 1, offs := [], zero := [.nilfn], el := 0, esz := 0, eby := 0, eagg := false, ik := none, eqs := false, ezero := [] } := by kernel_rfl
theorem Try.tm_53 : Try.tm 53 = { kind := 1, size := 1, offs := [], zero := [.nilfn], el := 0, esz := 0, eby := 0, eagg := false, ik := none, eqs := false, ezero := [] } := by kernel_rfl
theorem Try.tm_55 : Try.tm 55 = { kind := 1, size := 1, offs := [], zero := [.nilfn], el := 0, esz := 0, eby := 0, eagg := false, ik := none, eqs := false, ezero := [] } := by kernel_rfl
theorem Try.tm_57 : Try.tm 57 = { kind := 1, size := 1, offs := [], zero := [.nilfn], el := 0, esz := 0, eby := 0, eagg := false, ik := none, eqs := false, ezero := [] } := by kernel_rfl
theorem Try.tm_58 : Try.tm 58 = { kind := 1, size := 1, offs := [], zero := [.nilfn], el := 0, esz := 0, eby := 0, eagg := false, ik := none, eqs := false, ezero := [] } := by kernel_rfl
theorem Try.tm_60 : Try.tm 60 = { kind := 1, size := 1, offs := [], zero := [.nilfn], el := 0, esz := 0, eby := 0, eagg := false, ik := none, eqs := false, ezero := [] } := by kernel_rfl
theorem Try.tm_61 : Try.tm 61 = { kind := 1, size := 1, offs := [], zero := [.nilfn], el := 0, esz := 0, eby := 0, eagg := false, ik := none, eqs := false, ezero := [] } := by kernel_rfl
theorem Try.tm_63 : Try.tm 63 = { kind := 1, size := 1, offs := [], zero := [.nilfn], el := 0, esz := 0, eby := 0, eagg := false, ik := none, eqs := false, ezero := [] } := by kernel_rfl
theorem Try.tm_64 : Try.tm 64 = { kind := 1, size := 1, offs := [], zero := [.nilfn], el := 0, esz := 0, eby := 0, eagg := false, ik := none, eqs := false, ezero := [] } := by kernel_rfl
theorem Try.tm_65 : Try.tm 65 = { kind := 1, size := 1, offs := [], zero := [.nilfn], el := 0, esz := 0, eby := 0, eagg := false, ik := none, eqs := false, ezero := [] } := by kernel_rfl
theorem Try.tm_66 : Try.tm 66 = { kind := 2, size := 5, offs := [(0, 1, false), (1, 1, false), (2, 3, true)], zero := [.int .i64 0, .int .i64 0, .int .i64 0, .int .i64 0, .str []], el := 0, esz := 0, eby := 0, eagg := false, ik := none, eqs := false, ezero := [] } := by kernel_rfl
theorem Try.tm_67 : Try.tm 67 = { kind := 2, size := 5, offs := [(0, 1, false), (1, 1, false), (2, 3, true)], zero := [.int .i64 0, .int .i64 0, .int .i64 0, .int .i64 0, .str []], el := 0, esz := 0, eby := 0, eagg := false, ik := none, eqs := true, ezero := [] } := by kernel_rfl
theorem Try.tm_68 : Try.tm 68 = { kind := 1, size := 1, offs := [], zero := [.nilfn], el := 0, esz := 0, eby := 0, eagg := false, ik := none, eqs := false, ezero := [] } := by kernel_rfl
theorem Try.tm_69 : Try.tm 69 = { kind := 1, size := 1, offs := [], zero := [.nilfn], el := 0, esz := 0, eby := 0, eagg := false, ik := none, eqs := false, ezero := [] } := by kernel_rfl
theorem Try.tm_70 : Try.tm 70 = { kind := 1, size := 1, offs := [], zero := [.nilptr], el := 0, esz := 0, eby := 0, eagg := false, ik := none, eqs := false, ezero := [] } := by kernel_rfl
theorem Try.tm_71 : Try.tm 71 = { kind := 1, size := 1, offs := [], zero := [.nilfn], el := 0, esz := 0, eby := 0, eagg := false, ik := none, eqs := false, ezero := [] } := by kernel_rfl
theorem Try.tm_72 : Try.tm 72 = { kind := 1, size := 1, offs := [], zero := [.nilfn], el := 0, esz := 0, eby := 0, eagg := false, ik := none, eqs := false, ezero := [] } := by kernel_rfl
theorem Try.tm_73 : Try.tm 73 = { kind := 1, size := 1, offs := [], zero := [.nilfn], el := 0, esz := 0, eby := 0, eagg := false, ik := none, eqs := false, ezero := [] } := by kernel_rfl
theorem Try.tm_74 : Try.tm 74 = { kind := 1, size := 1, offs := [], zero := [.nilfn], el := 0, esz := 0, eby := 0, eagg := false, ik := none, eqs := false, ezero := [] } := by kernel_rfl
theorem Try.tm_76 : Try.tm 76 = { kind := 1, size := 1, offs := [], zero := [.nilfn], el := 0, esz := 0, eby := 0, eagg := false, ik := none, eqs := false, ezero := [] } := by kernel_rfl
theorem Try.tm_77 : Try.tm 77 = { kind := 1, size := 1, offs := [], zero := [.nilfn], el := 0, esz := 0, eby := 0, eagg := false, ik := none, eqs := false, ezero := [] } := by kernel_rfl
theorem Try.tm_78 : Try.tm 78 = { kind := 1, size := 1, offs := [], zero := [.nilfn], el := 0, esz := 0, eby := 0, eagg := false, ik := none, eqs := false, ezero := [] } := by kernel_rfl
theorem Try.tm_79 : Try.tm 79 = { kind := 1, size := 1, offs := [], zero := [.nilfn], el := 0, esz := 0, eby := 0, eagg := false, ik := none, eqs := false, ezero := [] } := by kernel_rfl
theorem Try.tm_80 : Try.tm 80 = { kind := 1, size := 1, offs := [], zero := [.nilfn], el := 0, esz := 0, eby := 0, eagg := false, ik := none, eqs := false, ezero := [] } := by kernel_rfl
theorem Try.tm_81 : Try.tm 81 = { kind := 1, size := 1, offs := [], zero := [.nilfn], el := 0, esz := 0, eby := 0, eagg := false, ik := none, eqs := false, ezero := [] } := by kernel_rfl
theorem Try.tm_82 : Try.tm 82 = { kind := 1, size := 1, offs := [], zero := [.nilfn], el := 0, esz := 0, eby := 0, eagg := false, ik := none, eqs := false, ezero := [] } := by kernel_rfl
theorem Try.tm_83 : Try.tm 83 = { kind := 1, size := 1, offs := [], zero := [.nilfn], el := 0, esz := 0, eby := 0, eagg := false, ik := none, eqs := false, ezero := [] } := by kernel_rfl
theorem Try.tm_84 : Try.tm 84 = { kind := 1, size := 1, offs := [], zero := [.nilfn], el := 0, esz := 0, eby := 0, eagg := false, ik := none, eqs := false, ezero := [] } := by kernel_rfl
theorem Try.tm_85 : Try.tm 85 = { kind := 1, size := 1, offs := [], zero := [.nilfn], el := 0, esz := 0, eby := 0, eagg := false, ik := none, eqs := false, ezero := [] } := by kernel_rfl
theorem Try.tm_86 : Try.tm 86 = { kind := 1, size := 1, offs := [], zero := [.nilfn], el := 0, esz := 0, eby := 0, eagg := false, ik := none, eqs := false, ezero := [] } := by kernel_rfl
theorem Try.tm_87 : Try.tm 87 = { kind := 1, size := 1, offs := [], zero := [.nilfn], el := 0, esz := 0, eby := 0, eagg := false, ik := none, eqs := false, ezero := [] } := by kernel_rfl
theorem Try.tm_89 : Try.tm 89 = { kind := 1, size := 1, offs := [], zero := [.nilfn], el := 0, esz := 0, eby := 0, eagg := false, ik := none, eqs := false, ezero := [] } := by kernel_rfl
theorem Try.tm_91 : Try.tm 91 = { kind := 1, size := 1, offs := [], zero := [.nilfn], el := 0, esz := 0, eby := 0, eagg := false, ik := none, eqs := false, ezero := [] } := by kernel_rfl
theorem Try.tm_92 : Try.tm 92 = { kind := 1, size := 1, offs := [], zero := [.nilfn], el := 0, esz := 0, eby := 0, eagg := false, ik := none, eqs := false, ezero := [] } := by kernel_rfl
theorem Try.tm_93 : Try.tm 93 = { kind := 3, size := 1, offs := [], zero := [.imm 0 [] 0], el := 27, esz := 5, eby := 48, eagg := true, ik := none, eqs := false, ezero := [.int .u8 0, .int .i64 0, .int .i64 0, .int .i64 0, .str []] } := by kernel_rfl
theorem Try.tm_94 : Try.tm 94 = { kind := 1, size := 1, offs := [], zero := [.nilfn], el := 0, esz := 0, eby := 0, eagg := false, ik := none, eqs := false, ezero := [] } := by kernel_rfl
theorem Try.tm_95 : Try.tm 95 = { kind := 1, size := 1, offs := [], zero := [.nilfn], el := 0, esz := 0, eby := 0, eagg := false, ik := none, eqs := false, ezero := [] } := by kernel_rfl
theorem Try.tm_96 : Try.tm 96 = { kind := 3, size := 1, offs := [], zero := [.imm 0 [] 0], el := 5, esz := 1, eby := 1, eagg := false, ik := none, eqs := false, ezero := [.int .u8 0] } := by kernel_rfl
theorem Try.tm_98 : Try.tm 98 = { kind := 1, size := 1, offs := [], zero := [.nilfn], el := 0, esz := 0, eby := 0, eagg := false, ik := none, eqs := false, ezero := [] } := by kernel_rfl
theorem Try.tm_99 : Try.tm 99 = { kind := 1, size := 1, offs := [], zero := [.nilfn], el := 0, esz := 0, eby := 0, eagg := false, ik := none, eqs := false, ezero := [] } := by kernel_rfl
theorem Try.tm_101 : Try.tm 101 = { kind := 1, size := 1, offs := [], zero := [.nilfn], el := 0, esz := 0, eby := 0, eagg := false, ik := none, eqs := false, ezero := [] } := by kernel_rfl
theorem Try.tm_103 : Try.tm 103 = { kind := 1, size := 1, offs := [], zero := [.nilfn], el := 0, esz := 0, eby := 0, eagg := false, ik := none, eqs := false, ezero := [] } := by kernel_rfl
theorem Try.tm_104 : Try.tm 104 = { kind := 1, size := 1, offs := [], zero := [.nilfn], el := 0, esz := 0, eby := 0, eagg := false, ik := none, eqs := false, ezero := [] } := by kernel_rfl
theorem Try.tm_105 : Try.tm 105 = { kind := 1, size := 1, offs := [], zero := [.nilptr], el := 0, esz := 0, eby := 0, eagg := false, ik := none, eqs := false, ezero := [] } := by kernel_rfl
theorem Try.tm_106 : Try.tm 106 = { kind := 1, size := 1, offs := [], zero := [.nilfn], el := 0, esz := 0, eby := 0, eagg := false, ik := none, eqs := false, ezero := [] } := by kernel_rfl
theorem Try.tm_107 : Try.tm 107 = { kind := 1, size := 1, offs := [], zero := [.nilfn], el := 0, esz := 0, eby := 0, eagg := false, ik := none, eqs := false, ezero := [] } := by kernel_rfl
theorem Try.tm_108 : Try.tm 108 = { kind := 1, size := 1, offs := [], zero := [.nilfn], el := 0, esz := 0, eby := 0, eagg := false, ik := none, eqs := false, ezero := [] } := by kernel_rfl
theorem Try.tm_109 : Try.tm 109 = { kind := 1, size := 1, offs := [], zero := [.nilfn], el := 0, esz := 0, eby := 0, eagg := false, ik := none, eqs := false, ezero := [] } := by kernel_rfl
theorem Try.tm_110 : Try.tm 110 = { kind := 1, size := 1, offs := [], zero := [.nilfn], el := 0, esz := 0, eby := 0, eagg := false, ik := none, eqs := false, ezero := [] } := by kernel_rfl
theorem Try.tm_111 : Try.tm 111 = { kind := 1, size := 1, offs := [], zero := [.nilfn], el := 0, esz := 0, eby := 0, eagg := false, ik := none, eqs := false, ezero := [] } := by kernel_rfl
theorem Try.tm_112 : Try.tm 112 = { kind := 1, size := 1, offs := [], zero := [.nilfn], el := 0, esz := 0, eby := 0, eagg := false, ik := none, eqs := false, ezero := [] } := by kernel_rfl
theorem Try.tm_113 : Try.tm 113 = { kind := 6, size := 1, offs := [], zero := [.int .u64 0], el := 0, esz := 0, eby := 0, eagg := false, ik := some .u64, eqs := false, ezero := [] } := by kernel_rfl
theorem Try.tm_114 : Try.tm 114 = { kind := 1, size := 1, offs := [], zero := [.nilfn], el := 0, esz := 0, eby := 0, eagg := false, ik := none, eqs := false, ezero := [] } := by kernel_rfl
theorem Try.tm_115 : Try.tm 115 = { kind := 1, size := 1, offs := [], zero := [.nilfn], el := 0, esz := 0, eby := 0, eagg := false, ik := none, eqs := false, ezero := [] } := by kernel_rfl
theorem Try.tm_116 : Try.tm 116 = { kind := 1, size := 1, offs := [], zero := [.nilptr], el := 0, esz := 0, eby := 0, eagg := false, ik := none, eqs := false, ezero := [] } := by kernel_rfl
theorem Try.tm_117 : Try.tm 117 = { kind := 2, size := 2, offs := [(0, 1, false), (1, 1, false)], zero := [.imm 0 [] 0, .bool false], el := 0, esz := 0, eby := 0, eagg := false, ik := none, eqs := false, ezero := [] } := by kernel_rfl
theorem Try.tm_118 : Try.tm 118 = { kind := 2, size := 2, offs := [(0, 1, false), (1, 1, false)], zero := [.imm 0 [] 0, .bool false], el := 0, esz := 0, eby := 0, eagg := false, ik := none, eqs := false, ezero := [] } := by kernel_rfl
theorem Try.tm_119 : Try.tm 119 = { kind := 1, size := 1, offs := [], zero := [.nilfn], el := 0, esz := 0, eby := 0, eagg := false, ik := none, eqs := false, ezero := [] } := by kernel_rfl
theorem Try.tm_120 : Try.tm 120 = { kind := 1, size := 1, offs := [], zero := [.nilfn], el := 0, esz := 0, eby := 0, eagg := false, ik := none, eqs := false, ezero := [] } := by kernel_rfl
theorem Try.tm_121 : Try.tm 121 = { kind := 1, size := 1, offs := [], zero := [.nilfn], el := 0, esz := 0, eby := 0, eagg := false, ik := none, eqs := false, ezero := [] } := by kernel_rfl
theorem Try.tm_123 : Try.tm 123 = { kind := 1, size := 1, offs := [], zero := [.nilfn], el := 0, esz := 0, eby := 0, eagg := false, ik := none, eqs := false, ezero := [] } := by kernel_rfl
theorem Try.tm_124 : Try.tm 124 = { kind := 1, size := 1, offs := [], zero := [.nilfn], el := 0, esz := 0, eby := 0, eagg := false, ik := none, eqs := false, ezero := [] } := by kernel_rfl
theorem Try.tm_125 : Try.tm 125 = { kind := 1, size := 1, offs := [], zero := [.nilfn], el := 0, esz := 0, eby := 0, eagg := false, ik := none, eqs := false, ezero := [] } := by kernel_rfl
theorem Try.tm_126 : Try.tm 126 = { kind := 1, size := 1, offs := [], zero := [.nilfn], el := 0, esz := 0, eby := 0, eagg := false, ik := none, eqs := false, ezero := [] } := by kernel_rfl
theorem Try.tm_127 : Try.tm 127 = { kind := 1, size := 1, offs := [], zero := [.nilfn], el := 0, esz := 0, eby := 0, eagg := false, ik := none, eqs := false, ezero := [] } := by kernel_rfl
theorem Try.tm_128 : Try.tm 128 = { kind := 1, size := 1, offs := [], zero := [.nilfn], el := 0, esz := 0, eby := 0, eagg := false, ik := none, eqs := false, ezero := [] } := by kernel_rfl
theorem Try.tm_129 : Try.tm 129 = { kind := 1, size := 1, offs := [], zero := [.nilfn], el := 0, esz := 0, eby := 0, eagg := false, ik := none, eqs := false, ezero := [] } := by kernel_rfl
theorem Try.tm_130 : Try.tm 130 = { kind := 3, size := 1, offs := [], zero := [.imm 0 [] 0], el := 3, esz := 1, eby := 8, eagg := false, ik := none, eqs := false, ezero := [.int .i64 0] } := by kernel_rfl
theorem Try.tm_132 : Try.tm 132 = { kind := 1, size := 1, offs := [], zero := [.nilfn], el := 0, esz := 0, eby := 0, eagg := false, ik := none, eqs := false, ezero := [] } := by kernel_rfl
theorem Try.tm_134 : Try.tm 134 = { kind := 1, size := 1, offs := [], zero := [.nilfn], el := 0, esz := 0, eby := 0, eagg := false, ik := none, eqs := false, ezero := [] } := by kernel_rfl
theorem Try.tm_135 : Try.tm 135 = { kind := 1, size := 1, offs := [], zero := [.nilfn], el := 0, esz := 0, eby := 0, eagg := false, ik := none, eqs := false, ezero := [] } := by kernel_rfl
theorem Try.tm_136 : Try.tm 136 = { kind := 1, size := 1, offs := [], zero := [.nilfn], el := 0, esz := 0, eby := 0, eagg := false, ik := none, eqs := false, ezero := [] } := by kernel_rfl
theorem Try.tm_137 : Try.tm 137 = { kind := 1, size := 1, offs := [], zero := [.nilfn], el := 0, esz := 0, eby := 0, eagg := false, ik := none, eqs := false, ezero := [] } := by kernel_rfl
theorem Try.tm_138 : Try.tm 138 = { kind := 2, size := 4, offs := [(0, 1, false), (1, 1, false), (2, 1, false), (3, 1, false)], zero := [.nilptr, .nilptr, .nilptr, .str []], el := 0, esz := 0, eby := 0, eagg := false, ik := none, eqs := false, ezero := [] } := by kernel_rfl
theorem Try.tm_139 : Try.tm 139 = { kind := 2, size := 4, offs := [(0, 1, false), (1, 1, false), (2, 1, false), (3, 1, false)], zero := [.nilptr, .nilptr, .nilptr, .str []], el := 0, esz := 0, eby := 0, eagg := false, ik := none, eqs := false, ezero := [] } := by kernel_rfl
theorem Try.tm_140 : Try.tm 140 = { kind := 4, size := 0, offs := [], zero := [], el := 0, esz := 0, eby := 0, eagg := false, ik := none, eqs := false, ezero := [] } := by kernel_rfl
theorem Try.tm_143 : Try.tm 143 = { kind := 6, size := 1, offs := [], zero := [.int .u32 0], el := 0, esz := 0, eby := 0, eagg := false, ik := some .u32, eqs := false, ezero := [] } := by kernel_rfl
theorem Try.tm_144 : Try.tm 144 = { kind := 6, size := 1, offs := [], zero := [.int .u8 0], el := 0, esz := 0, eby := 0, eagg := false, ik := some .u8, eqs := false, ezero := [] } := by kernel_rfl
theorem Try.tm_145 : Try.tm 145 = { kind := 6, size := 1, offs := [], zero := [.int .u8 0], el := 0, esz := 0, eby := 0, eagg := false, ik := some .u8, eqs := false, ezero := [] } := by kernel_rfl
theorem Try.tm_146 : Try.tm 146 = { kind := 1, size := 1, offs := [], zero := [.nilfn], el := 0, esz := 0, eby := 0, eagg := false, ik := none, eqs := false, ezero := [] } := by kernel_rfl
theorem Try.tm_147 : Try.tm 147 = { kind := 1, size := 1, offs := [], zero := [.nilptr], el := 0, esz := 0, eby := 0, eagg := false, ik := none, eqs := false, ezero := [] } := by kernel_rfl
theorem Try.tm_148 : Try.tm 148 = { kind := 6, size := 1, offs := [], zero := [.int .i32 0], el := 0, esz := 0, eby := 0, eagg := false, ik := some .i32, eqs := false, ezero := [] } := by kernel_rfl
theorem Try.tm_149 : Try.tm 149 = { kind := 6, size := 1, offs := [], zero := [.int .i32 0], el := 0, esz := 0, eby := 0, eagg := false, ik := some .i32, eqs := false, ezero := [] } := by kernel_rfl
theorem Try.tm_150 : Try.tm 150 = { kind := 2, size := 11, offs := [(0, 1, false), (1, 1, false), (2, 1, false), (3, 1, false), (4, 1, false), (5, 1, false), (6, 1, false), (7, 1, false), (8, 1, false), (9, 1, false), (10, 1, false)], zero := [.int .u64 0, .int .u64 0, .int .u32 0, .int .u8 0, .int .u8 0, .int .u8 0, .int .u8 0, .nilfn, .nilptr, .int .i32 0, .int .i32 0], el := 0, esz := 0, eby := 0, eagg := false, ik := none, eqs := false, ezero := [] } := by kernel_rfl
theorem Try.tm_151 : Try.tm 151 = { kind := 2, size := 11, offs := [(0, 1, false), (1, 1, false), (2, 1, false), (3, 1, false), (4, 1, false), (5, 1, false), (6, 1, false), (7, 1, false), (8, 1, false), (9, 1, false), (10, 1, false)], zero := [.int .u64 0, .int .u64 0, .int .u32 0, .int .u8 0, .int .u8 0, .int .u8 0, .int .u8 0, .nilfn, .nilptr, .int .i32 0, .int .i32 0], el := 0, esz := 0, eby := 0, eagg := false, ik := none, eqs := false, ezero := [] } := by kernel_rfl
end Go.Proofs
end
section
namespace Go.Proofs
open Go.Tm
theorem Try.S : Seat Try.prog Try.tm := ⟨Try.tmOk, Try.tmMixed⟩
end Go.Proofs
end
section
namespace Go.Proofs
open Go.Tm
set_option linter.unusedVariables false
def m_ballot_node (a0 : Int) : Option Bool :=
 some ((decide (a0 ≥ 0)) && (decide (a0 < 6)))
def m_ballot_Of (a0 : Int) : Option (Int × Int × Int) :=
 Option.bind (if ¬ (((wr .i64 (a0.tdiv 8)) < 1) ∨ ((wr .i64 (a0.tdiv 8)) > 1048576)) then m_ballot_node (a0.tmod 8) else some default) fun v1 =>
 if (((wr .i64 (a0.tdiv 8)) < 1) ∨ ((wr .i64 (a0.tdiv 8)) > 1048576)) ∨ (¬ (v1 = true)) then
 some (0, 0, 50)
 else
 some ((wr .i64 (a0.tdiv 8)), (a0.tmod 8), 0)
def m_ballot_Check (a0 : Int) : Option Int :=
 Option.bind (m_ballot_Of a0) fun v1 =>
 if ¬ (v1.2.2 = 0) then
 some v1.2.2
 else
 some 0
def m_towncrierref05_May (a0 : Int) : Option Bool :=
 some (((decide (a0 ≥ 8)) && (decide (a0 ≤ 8388613))) && (decide ((a0.tmod 8) < 6)))
end Go.Proofs
end
section
namespace Go.Proofs
open Go.Tm Go.RowKit Go.WideShapes
set_option maxRecDepth 100000
set_option maxHeartbeats 4000000
set_option linter.unusedSimpArgs false
set_option linter.unusedVariables false
attribute [local go_sem] argVars runE runK isCallV stepE aop opd opdsL opds opdO ev ofVal keep List.any natbeq Bool.false_or Bool.true_or aggEq cond_true cond_false Bool.cond_false_right Bool.cond_true_left beq_true beq_false imp_self implies_true getR getL put St.app effL del nwB blt_dec Nat.lt_irrefl Nat.lt_add_one ble_dec Nat.le_refl Nat.beq_refl roomNZ appendIn capS capK mkZ_zero mkZL_zero zeroEl D.ids D.idsL bin arith sarith binT dpick Tm.part splice fillD oneD loadD storeD srcD sliceD idxOk decide_true gval dstAt D.cells List.map_cons List.map_nil List.take List.drop List.length_map List.append Int.toNat_natCast and_true true_and decide_false List.length_cons List.length_nil List.append_nil List.nil_append Bool.and_true Bool.true_and Bool.not_false Bool.not_true ne_eq not_false_eq_true BEq.rfl List.getElem?_cons_zero List.getElem?_cons_succ List.getElem?_nil Nat.zero_add List.all_cons List.all_nil List.isEmpty_cons List.isEmpty_nil Option.getD_some Option.getD_none List.any_cons List.any_nil List.drop_succ_cons List.drop_zero unfL unf okM okML low3 List.cons_append true_or or_true Nat.zero_mul Nat.zero_le findD_int findD_str  getD_int getD_str getD_bool Option.isSome_map keyD List.length_replicate List.map_replicate setEl List.length_set bytesD_map map_ub mx_len mkZ_one mkZL_one mkM mkML mk1_int mk1_str mk1_bool drop_map take_map take_map_len List.take_length Int.toNat_zero toNat_pred fpOf metIds opIds mvV mvH mvF pickL D.ren D.renL Blk.ren List.map_append List.length_append Bool.not_not Bool.or_not_self Bool.not_or_self Bool.or_true
attribute [local go_sem] Try.tm_1 Try.tm_2 Try.tm_3 Try.tm_4 Try.tm_5 Try.tm_6 Try.tm_7 Try.tm_8 Try.tm_9 Try.tm_10 Try.tm_11 Try.tm_12 Try.tm_13 Try.tm_14 Try.tm_15 Try.tm_16 Try.tm_17 Try.tm_18 Try.tm_19 Try.tm_20 Try.tm_21 Try.tm_22 Try.tm_23 Try.tm_24 Try.tm_25 Try.tm_26 Try.tm_27 Try.tm_28 Try.tm_29 Try.tm_30 Try.tm_32 Try.tm_33 Try.tm_34 Try.tm_35 Try.tm_36 Try.tm_37 Try.tm_39 Try.tm_40 Try.tm_41 Try.tm_43 Try.tm_45 Try.tm_46 Try.tm_47 Try.tm_48 Try.tm_49 Try.tm_50 Try.tm_51 Try.tm_52 Try.tm_53 Try.tm_55 Try.tm_57 Try.tm_58 Try.tm_60 Try.tm_61 Try.tm_63 Try.tm_64 Try.tm_65 Try.tm_66 Try.tm_67 Try.tm_68 Try.tm_69 Try.tm_70 Try.tm_71 Try.tm_72 Try.tm_73 Try.tm_74 Try.tm_76 Try.tm_77 Try.tm_78 Try.tm_79 Try.tm_80 Try.tm_81 Try.tm_82 Try.tm_83 Try.tm_84 Try.tm_85 Try.tm_86 Try.tm_87 Try.tm_89 Try.tm_91 Try.tm_92 Try.tm_93 Try.tm_94 Try.tm_95 Try.tm_96 Try.tm_98 Try.tm_99 Try.tm_101 Try.tm_103 Try.tm_104 Try.tm_105 Try.tm_106 Try.tm_107 Try.tm_108 Try.tm_109 Try.tm_110 Try.tm_111 Try.tm_112 Try.tm_113 Try.tm_114 Try.tm_115 Try.tm_116 Try.tm_117 Try.tm_118 Try.tm_119 Try.tm_120 Try.tm_121 Try.tm_123 Try.tm_124 Try.tm_125 Try.tm_126 Try.tm_127 Try.tm_128 Try.tm_129 Try.tm_130 Try.tm_132 Try.tm_134 Try.tm_135 Try.tm_136 Try.tm_137 Try.tm_138 Try.tm_139 Try.tm_140 Try.tm_143 Try.tm_144 Try.tm_145 Try.tm_146 Try.tm_147 Try.tm_148 Try.tm_149 Try.tm_150 Try.tm_151 dL_str nL_str TVote.d TSeen.d TStable.d TStable.n TRecord.d mk1_dL_str mk1_TVote mk1_TSeen mk1_TStable mk1_TRecord Try.f90 Try.f82 Try.f63 Try.f71
theorem callP_ballot_node (a0 : Int) (r : Bool) (h : m_ballot_node a0 = some r) : CallP Try.prog 90 [.int .i64 a0] (.bool r) := by
 refine callP_intro Try.tmOk 2 Try.func90 rfl (by decide) rfl rfl (Nat.le_of_ble_eq_true rfl) ?_
 intro hwf
 unfold m_ballot_node at h
 refine .seq ?_
 refine .pl Try.S [0] ?_
 refine .seq ?_
 refine .pl Try.S [0] ?_
 have hq := Option.some.inj h
 subst r
 exact .ret ⟨.inr rfl, rsi⟩
theorem callP_ballot_Of (a0 : Int) (r : Int × Int × Int) (h : m_ballot_Of a0 = some r) : CallP Try.prog 82 [.int .i64 a0] (.tuple [.int .i64 r.1, .int .i64 r.2.1, .int .i64 r.2.2]) := by
 refine callP_intro Try.tmOk 2 Try.func82 rfl (by decide) rfl rfl (Nat.le_of_ble_eq_true rfl) ?_
 intro hwf
 unfold m_ballot_Of at h
 refine .seq ?_
 refine .pl Try.S [0] ?_
 refine .seq ?_
 refine .pl Try.S [0] ?_
 refine .seq ?_
 refine .seq ?_
 obtain ⟨v1, hv1, h⟩ := bind_some h
 refine .rg Try.S [2, 3] ?_
 refine .rn 8 ?_
 refine .gcall (r := .bool v1) rfl rfl rfl rfl rfl (fun hg => ⟨[], [.int .i64 (a0.tmod 8)], _, rfl, gd hg, rfl, (callP_ballot_node (a0.tmod 8) v1 (ite_lc hv1 hg))⟩) ?_
 refine .rn 2 ?_
 refine .nil ⟨nofun, ?_⟩
 refine .cond rfl rfl (fun hc1 => ?_) (fun hc1 => ?_)
 ·skip
  replace h := ite_lc h hc1
  refine .seq ?_
  refine .pl Try.S [] ?_
  have hq := Option.some.inj h
  subst r
  exact .ret ⟨.inr rfl, rsi⟩
 ·skip
  replace h := ite_rc h hc1
  refine .skip ?_
  refine .seq ?_
  refine .pl Try.S [2, 3] ?_
  have hq := Option.some.inj h
  subst r
  exact .ret ⟨.inr rfl, rsi⟩
theorem callP_ballot_Check (a0 : Int) (r : Int) (h : m_ballot_Check a0 = some r) : CallP Try.prog 63 [.int .i64 a0] (.int .i64 r) := by
 refine callP_intro Try.tmOk 2 Try.func63 rfl (by decide) rfl rfl (Nat.le_of_ble_eq_true rfl) ?_
 intro hwf
 unfold m_ballot_Check at h
 refine .seq ?_
 refine .pl Try.S [0] ?_
 refine .seq ?_
 refine .seq ?_
 obtain ⟨v1, hv1, h⟩ := bind_some h
 refine .rg Try.S [0] ?_
 refine .rn 1 ?_
 refine .call (r := .tuple [.int .i64 v1.1, .int .i64 v1.2.1, .int .i64 v1.2.2]) rfl rfl rfl rfl rfl rfl (callP_ballot_Of a0 v1 hv1) ?_
 refine .rn 7 ?_
 refine .nil ⟨nofun, ?_⟩
 refine .seq ?_
 refine .pl Try.S [5] ?_
 refine .cond rfl rfl (fun hc1 => ?_) (fun hc1 => ?_)
 ·skip
  replace h := ite_lc h hc1
  refine .seq ?_
  refine .pl Try.S [5] ?_
  have hq := Option.some.inj h
  subst r
  exact .ret ⟨.inr rfl, rsi⟩
 ·skip
  replace h := ite_rc h hc1
  refine .skip ?_
  refine .seq ?_
  refine .pl Try.S [] ?_
  have hq := Option.some.inj h
  subst r
  exact .ret ⟨.inr rfl, rsi⟩
theorem callP_towncrierref05_May (a0 : Int) (r : Bool) (h : m_towncrierref05_May a0 = some r) : CallP Try.prog 71 [.int .i64 a0] (.bool r) := by
 refine callP_intro Try.tmOk 2 Try.func71 rfl (by decide) rfl rfl (Nat.le_of_ble_eq_true rfl) ?_
 intro hwf
 unfold m_towncrierref05_May at h
 refine .seq ?_
 refine .pl Try.S [0] ?_
 refine .seq ?_
 refine .rg Try.S [0] ?_
 refine .rn 6 ?_
 refine .rn 6 ?_
 refine .nil ⟨nofun, ?_⟩
 have hq := Option.some.inj h
 subst r
 exact .ret ⟨.inr rfl, rsi⟩
end Go.Proofs
end
section
namespace Go.Proofs
open Go.Tm
set_option linter.unusedVariables false
def m_cmp_isNaN_int (a0 : Int) : Option Bool :=
 some (a0 != a0)
def m_cmp_Compare_int (a0 : Int) (a1 : Int) : Option Int :=
 Option.bind (m_cmp_isNaN_int a0) fun v1 =>
 Option.bind (m_cmp_isNaN_int a1) fun v2 =>
 if v1 = true then
 if v2 = true then
 some 0
 else
 some (-1)
 else
 if v2 = true then
 some 1
 else
 if a0 < a1 then
 some (-1)
 else
 if a0 > a1 then
 some 1
 else
 some 0
def m_cmp_Or_int_loop1 : List Int → Option (Int ⊕ Unit)
 | [] =>
  some (.inr ())
 | y1 :: rest1 =>
  if ¬ (y1 = 0) then
  some (.inl y1)
  else
  m_cmp_Or_int_loop1 rest1 
def m_cmp_Or_int (a0 : List Int) : Option Int :=
 Option.bind (α := Int ⊕ Unit) (m_cmp_Or_int_loop1 a0 ) fun z => match z with
 | (.inl r) => some r
 | (.inr _) =>
 some 0
def m_stable_place (a0 : TSeen) (a1 : TSeen) : Option Int :=
 Option.bind (m_cmp_Compare_int a0.Group a1.Group) fun v1 =>
 Option.bind (m_cmp_Compare_int a0.Slot a1.Slot) fun v2 =>
 Option.bind (m_cmp_Or_int [v1, v2]) fun v3 =>
 some v3
def m_slices_BinarySearchFunc_Seen_Seen_Seen_loop1 (a0 : List TSeen) (a1 : TSeen) (a2 : TSeen → TSeen → Option Int) : Nat → Int → Int → Option (Int)
 | 0, _, _ => none
 | fu1 + 1, n2, n3 =>
  if n2 < n3 then
  if (0 ≤ (wr .i64 (shw false .u64 (wr .u64 (wr .i64 (n2 + n3))) 1)) ∧ (wr .i64 (shw false .u64 (wr .u64 (wr .i64 (n2 + n3))) 1)) < (a0.length : Int)) then
  Option.bind (a2 (a0.getD (wr .i64 (shw false .u64 (wr .u64 (wr .i64 (n2 + n3))) 1)).toNat default) a1) fun v1 =>
  if v1 < 0 then
  m_slices_BinarySearchFunc_Seen_Seen_Seen_loop1 a0 a1 a2 fu1 (wr .i64 ((wr .i64 (shw false .u64 (wr .u64 (wr .i64 (n2 + n3))) 1)) + 1)) n3
  else
  m_slices_BinarySearchFunc_Seen_Seen_Seen_loop1 a0 a1 a2 fu1 n2 (wr .i64 (shw false .u64 (wr .u64 (wr .i64 (n2 + n3))) 1))
  else none
  else
  some n2
def m_slices_BinarySearchFunc_Seen_Seen_Seen (a0 : List TSeen) (a1 : TSeen) (a2 : TSeen → TSeen → Option Int) : Option (Int × Bool) :=
 Option.bind (α := Int) (m_slices_BinarySearchFunc_Seen_Seen_Seen_loop1 a0 a1 a2 (a0.length + 1) 0 (a0.length : Int)) fun n1 =>
 if (n1 < (a0.length : Int)) → (0 ≤ n1 ∧ n1 < (a0.length : Int)) then
 Option.bind (if n1 < (a0.length : Int) then a2 (a0.getD n1.toNat default) a1 else some default) fun v2 =>
 some (n1, ((decide (n1 < (a0.length : Int))) && (v2 == 0)))
 else none
def m_slices_IndexFunc_string_string_loop1 (a1 : (List UInt8) → Option Bool) : List (List UInt8) → Nat → Option (Int ⊕ Unit)
 | [], n1 =>
  some (.inr ())
 | y1 :: rest1, n1 =>
  Option.bind (a1 (y1)) fun v1 =>
  if v1 = true then
  some (.inl (n1 : Int))
  else
  m_slices_IndexFunc_string_string_loop1 a1 rest1 (n1 + 1) 
def m_slices_IndexFunc_string_string (a0 : List (List UInt8)) (a1 : (List UInt8) → Option Bool) : Option Int :=
 Option.bind (α := Int ⊕ Unit) (m_slices_IndexFunc_string_string_loop1 a1 a0 0 ) fun z => match z with
 | (.inl r) => some r
 | (.inr _) =>
 some (-1)
def m_slices_ContainsFunc_string_string (a0 : List (List UInt8)) (a1 : (List UInt8) → Option Bool) : Option Bool :=
 Option.bind (m_slices_IndexFunc_string_string a0 a1) fun v1 =>
 some (decide (v1 ≥ 0))
def m_stable_Check_1 (a0 : List UInt8) : Option Bool :=
 some (decide ((a0.length : Int) > 1024))
def m_vote_Check (a0 : TVote) : Option Int :=
 Option.bind (if ¬ (a0.Promised = 0) then m_ballot_Check a0.Promised else some default) fun v1 =>
 Option.bind (α := Bool) (if a0.Ballot = 0 then
 some (((a0.Promised == 0) || (v1 == 0)) && (a0.Value == []))
 else
 Option.bind (if (a0.Promised = 0) ∨ (v1 = 0) then m_ballot_Check a0.Ballot else some default) fun v2 =>
 some (((((a0.Promised == 0) || (v1 == 0)) && (v2 == 0)) && (decide (a0.Ballot ≤ a0.Promised))) && (decide ((a0.Value.length : Int) ≤ 1024)))) fun b1 =>
 if ¬ (b1 = true) then
 some 8
 else
 some 0
def m_record_has (a0 : Int) : Option (Bool × Bool) :=
 some (((a0 == 1) || (a0 == 2)), ((a0 == 2) || (a0 == 3)))
def m_record_Check (a0 : TRecord) : Option Int :=
 Option.bind (m_record_has a0.Kind) fun v1 =>
 Option.bind (if (((((((((v1.1 = true) ∨ (v1.2 = true)) ∧ (a0.Group ≥ 0)) ∧ (a0.Group < 4)) ∧ (a0.Slot ≥ 1)) ∧ (a0.Slot ≤ 200)) ∧ ((a0.Value.length : Int) ≤ 1024)) ∧ ((v1.2 = true) ∨ (a0.Value = []))) ∧ (¬ ((¬ (v1.1 = true)) ∧ (a0.Ballot = 0)))) ∧ (v1.1 = true) then m_ballot_Check a0.Ballot else some default) fun v2 =>
 if ¬ (((((((((v1.1 = true) ∨ (v1.2 = true)) ∧ (a0.Group ≥ 0)) ∧ (a0.Group < 4)) ∧ (a0.Slot ≥ 1)) ∧ (a0.Slot ≤ 200)) ∧ ((a0.Value.length : Int) ≤ 1024)) ∧ ((v1.2 = true) ∨ (a0.Value = []))) ∧ (((¬ (v1.1 = true)) ∧ (a0.Ballot = 0)) ∨ ((v1.1 = true) ∧ (v2 = 0)))) then
 some 8
 else
 some 0
def m_stable_Check_loop1 : List (List (List UInt8)) → Option (Int ⊕ Unit)
 | [] =>
  some (.inr ())
 | y1 :: rest1 =>
  Option.bind (if ¬ (((y1).length : Int) > 200) then m_slices_ContainsFunc_string_string (y1) m_stable_Check_1 else some default) fun v1 =>
  if (((y1).length : Int) > 200) ∨ (v1 = true) then
  some (.inl 8)
  else
  m_stable_Check_loop1 rest1 
def m_stable_Check_loop2 (a0 : TStable) : List TSeen → Nat → Option (Int ⊕ Unit)
 | [], n2 =>
  some (.inr ())
 | y2 :: rest2, n2 =>
  if (¬ ((y2.Group < 0) ∨ (y2.Group ≥ (a0.Logs.length : Int)))) → (0 ≤ y2.Group ∧ y2.Group < (a0.Logs.length : Int)) then
  Option.bind (if ¬ (((((y2.Group < 0) ∨ (y2.Group ≥ (a0.Logs.length : Int))) ∨ (y2.Slot ≤ ((a0.Logs.getD (y2.Group).toNat default).length : Int))) ∨ (y2.Slot > 200)) ∨ (y2.Vote.Promised = 0)) then m_vote_Check (y2.Vote) else some default) fun v2 =>
  Option.bind (if (¬ ((((((y2.Group < 0) ∨ (y2.Group ≥ (a0.Logs.length : Int))) ∨ (y2.Slot ≤ ((a0.Logs.getD (y2.Group).toNat default).length : Int))) ∨ (y2.Slot > 200)) ∨ (y2.Vote.Promised = 0)) ∨ (¬ (v2 = 0)))) ∧ ((n2 : Int) > 0) then m_stable_place (a0.Votes.getD (n2 - 1) default) (y2) else some default) fun v3 =>
  if ((((((y2.Group < 0) ∨ (y2.Group ≥ (a0.Logs.length : Int))) ∨ (y2.Slot ≤ ((a0.Logs.getD (y2.Group).toNat default).length : Int))) ∨ (y2.Slot > 200)) ∨ (y2.Vote.Promised = 0)) ∨ (¬ (v2 = 0))) ∨ (((n2 : Int) > 0) ∧ (v3 ≥ 0)) then
  some (.inl 8)
  else
  m_stable_Check_loop2 a0 rest2 (n2 + 1) 
  else none
def m_stable_Check (a0 : TStable) : Option Int :=
 if ((a0.Logs.length : Int) < 1) ∨ ((a0.Logs.length : Int) > 4) then
 some 8
 else
 Option.bind (α := Int ⊕ Unit) (m_stable_Check_loop1 a0.Logs ) fun z => match z with
 | (.inl r) => some r
 | (.inr _) =>
 Option.bind (α := Int ⊕ Unit) (m_stable_Check_loop2 a0 a0.Votes 0 ) fun z => match z with
 | (.inl r) => some r
 | (.inr _) =>
 some 0
def m_stable_At (a0 : TStable) (a1 : Int) (a2 : Int) : Option (TVote × Int) :=
 Option.bind (m_stable_Check a0) fun v1 =>
 if ¬ (v1 = 0) then
 some ((⟨0, 0, []⟩ : TVote), v1)
 else
 if (a1 < 0) ∨ (a1 ≥ (a0.Logs.length : Int)) then
 some ((⟨0, 0, []⟩ : TVote), 6)
 else
 if (a2 < 1) ∨ (a2 > 200) then
 some ((⟨0, 0, []⟩ : TVote), 2)
 else
 Option.bind (m_slices_BinarySearchFunc_Seen_Seen_Seen a0.Votes (⟨a1, a2, (⟨0, 0, []⟩ : TVote)⟩ : TSeen) m_stable_place) fun v2 =>
 if v2.2 = true then
 if (0 ≤ v2.1 ∧ v2.1 < (a0.Votes.length : Int)) then
 some ((a0.Votes.getD v2.1.toNat default).Vote, 0)
 else none
 else
 some ((⟨0, 0, []⟩ : TVote), 0)
def m_slices_Clone_string_string (a0 : List (List UInt8)) : Option ((List (List UInt8))) :=
 if a0.length * 16 ≤ 140737488355328 then
 some a0
 else none
def m_slices_Clone_Seen_Seen (a0 : List TSeen) : Option ((List TSeen)) :=
 if a0.length * 48 ≤ 140737488355328 then
 some a0
 else none
def m_stable_Twin_loop1 : List (List (List UInt8)) → (List (List (List UInt8))) → Option ((List (List (List UInt8))))
 | [], l2 =>
  some l2
 | y1 :: rest1, l2 =>
  Option.bind (m_slices_Clone_string_string (y1)) fun v2 =>
  if l2.length + [v2].length < 1000000 then
  m_stable_Twin_loop1 rest1 (l2 ++ [v2])
  else none
theorem m_stable_Twin_loop1_n (l2 : List (List (List UInt8))) : m_stable_Twin_loop1 [] l2 =
  (some l2 : Option ((List (List (List UInt8))))) := rfl
theorem m_stable_Twin_loop1_c (y1 : (List (List UInt8))) (rest1 : List (List (List UInt8))) (l2 : List (List (List UInt8))) : m_stable_Twin_loop1 (y1 :: rest1) l2 =
  (Option.bind (m_slices_Clone_string_string (y1)) fun v2 =>
  if l2.length + [v2].length < 1000000 then
  m_stable_Twin_loop1 rest1 (l2 ++ [v2])
  else none : Option ((List (List (List UInt8))))) := rfl
def m_stable_Twin (a0 : TStable) : Option TStable :=
 Option.bind (m_slices_Clone_Seen_Seen a0.Votes) fun v1 =>
 Option.bind (α := (List (List (List UInt8)))) (m_stable_Twin_loop1 a0.Logs []) fun l1 =>
 some (⟨l1, v1⟩ : TStable)
def m_slices_Equal_string_string_loop1 (a1 : List (List UInt8)) : List (List UInt8) → Nat → Option (Bool ⊕ Unit)
 | [], n1 =>
  some (.inr ())
 | y1 :: rest1, n1 =>
  if n1 < a1.length then
  if ¬ (y1 = (a1.getD n1 default)) then
  some (.inl false)
  else
  m_slices_Equal_string_string_loop1 a1 rest1 (n1 + 1) 
  else none
def m_slices_Equal_string_string (a0 : List (List UInt8)) (a1 : List (List UInt8)) : Option Bool :=
 if ¬ ((a0.length : Int) = (a1.length : Int)) then
 some false
 else
 Option.bind (α := Bool ⊕ Unit) (m_slices_Equal_string_string_loop1 a1 a0 0 ) fun z => match z with
 | (.inl r) => some r
 | (.inr _) =>
 some true
def m_slices_Equal_Seen_Seen_loop1 (a1 : List TSeen) : List TSeen → Nat → Option (Bool ⊕ Unit)
 | [], n1 =>
  some (.inr ())
 | y1 :: rest1, n1 =>
  if n1 < a1.length then
  if ¬ ((y1.Group = (a1.getD n1 default).Group) ∧ (y1.Slot = (a1.getD n1 default).Slot) ∧ (y1.Vote.Promised = (a1.getD n1 default).Vote.Promised) ∧ (y1.Vote.Ballot = (a1.getD n1 default).Vote.Ballot) ∧ (y1.Vote.Value = (a1.getD n1 default).Vote.Value)) then
  some (.inl false)
  else
  m_slices_Equal_Seen_Seen_loop1 a1 rest1 (n1 + 1) 
  else none
def m_slices_Equal_Seen_Seen (a0 : List TSeen) (a1 : List TSeen) : Option Bool :=
 if ¬ ((a0.length : Int) = (a1.length : Int)) then
 some false
 else
 Option.bind (α := Bool ⊕ Unit) (m_slices_Equal_Seen_Seen_loop1 a1 a0 0 ) fun z => match z with
 | (.inl r) => some r
 | (.inr _) =>
 some true
def m_slices_EqualFunc_string_string_string_string_loop1 (a1 : List (List (List UInt8))) (a2 : (List (List UInt8)) → (List (List UInt8)) → Option Bool) : List (List (List UInt8)) → Nat → Option (Bool ⊕ Unit)
 | [], n1 =>
  some (.inr ())
 | y1 :: rest1, n1 =>
  if n1 < a1.length then
  Option.bind (a2 (y1) (a1.getD n1 default)) fun v1 =>
  if ¬ (v1 = true) then
  some (.inl false)
  else
  m_slices_EqualFunc_string_string_string_string_loop1 a1 a2 rest1 (n1 + 1) 
  else none
def m_slices_EqualFunc_string_string_string_string (a0 : List (List (List UInt8))) (a1 : List (List (List UInt8))) (a2 : (List (List UInt8)) → (List (List UInt8)) → Option Bool) : Option Bool :=
 if ¬ ((a0.length : Int) = (a1.length : Int)) then
 some false
 else
 Option.bind (α := Bool ⊕ Unit) (m_slices_EqualFunc_string_string_string_string_loop1 a1 a2 a0 0 ) fun z => match z with
 | (.inl r) => some r
 | (.inr _) =>
 some true
def m_stable_Same (a0 : TStable) (a1 : TStable) : Option Bool :=
 Option.bind (m_slices_EqualFunc_string_string_string_string a0.Logs a1.Logs m_slices_Equal_string_string) fun v1 =>
 Option.bind (if v1 = true then m_slices_Equal_Seen_Seen a0.Votes a1.Votes else some default) fun v2 =>
 some (v1 && v2)
def m_towncrierref07_May (a0 : TVote) : Option Bool :=
 Option.bind (if ¬ (a0.Promised = 0) then m_towncrierref05_May a0.Promised else some default) fun v1 =>
 if (¬ (a0.Promised = 0)) ∧ (¬ (v1 = true)) then
 some false
 else
 if a0.Ballot = 0 then
 some (a0.Value == [])
 else
 Option.bind (m_towncrierref05_May a0.Ballot) fun v2 =>
 some ((v2 && (decide (a0.Ballot ≤ a0.Promised))) && (decide ((a0.Value.length : Int) ≤ 1024)))
def m_towncrierref10_May (a0 : TRecord) : Option Bool :=
 if (((a0.Group < 0) ∨ (a0.Group ≥ 4)) ∨ (a0.Slot < 1)) ∨ (a0.Slot > 200) then
 some false
 else
 if a0.Kind = 1 then
 Option.bind (m_towncrierref05_May a0.Ballot) fun v1 =>
 some (v1 && (a0.Value == []))
 else
 if a0.Kind = 2 then
 Option.bind (m_towncrierref05_May a0.Ballot) fun v2 =>
 some (v2 && (decide ((a0.Value.length : Int) ≤ 1024)))
 else
 if a0.Kind = 3 then
 some ((a0.Ballot == 0) && (decide ((a0.Value.length : Int) ≤ 1024)))
 else
 some false
def m_towncrierref11_ahead (a0 : TSeen) (a1 : TSeen) : Option Bool :=
 some ((decide (a0.Group < a1.Group)) || ((a0.Group == a1.Group) && (decide (a0.Slot < a1.Slot))))
def m_towncrierref11_MayLog_loop1 : List (List UInt8) → Option (Bool ⊕ Unit)
 | [] =>
  some (.inr ())
 | y1 :: rest1 =>
  if ((y1).length : Int) > 1024 then
  some (.inl false)
  else
  m_towncrierref11_MayLog_loop1 rest1 
theorem m_towncrierref11_MayLog_loop1_n : m_towncrierref11_MayLog_loop1 [] =
  (some (.inr ()) : Option (Bool ⊕ Unit)) := rfl
theorem m_towncrierref11_MayLog_loop1_c (y1 : (List UInt8)) (rest1 : List (List UInt8)) : m_towncrierref11_MayLog_loop1 (y1 :: rest1) =
  (if ((y1).length : Int) > 1024 then
  some (.inl false)
  else
  m_towncrierref11_MayLog_loop1 rest1 : Option (Bool ⊕ Unit)) := rfl
def m_towncrierref11_MayLog (a0 : List (List UInt8)) : Option Bool :=
 if (a0.length : Int) > 200 then
 some false
 else
 Option.bind (α := Bool ⊕ Unit) (m_towncrierref11_MayLog_loop1 a0 ) fun z => match z with
 | (.inl r) => some r
 | (.inr _) =>
 some true
def m_towncrierref11_May_loop1 : List (List (List UInt8)) → Option (Bool ⊕ Unit)
 | [] =>
  some (.inr ())
 | y1 :: rest1 =>
  Option.bind (m_towncrierref11_MayLog (y1)) fun v1 =>
  if ¬ (v1 = true) then
  some (.inl false)
  else
  m_towncrierref11_May_loop1 rest1 
def m_towncrierref11_May_loop2 (a0 : TStable) : List TSeen → Nat → Option (Bool ⊕ Unit)
 | [], n2 =>
  some (.inr ())
 | y2 :: rest2, n2 =>
  if (¬ (((y2.Group < 0) ∨ (y2.Group ≥ (a0.Logs.length : Int))) ∨ (y2.Slot > 200))) → (0 ≤ y2.Group ∧ y2.Group < (a0.Logs.length : Int)) then
  Option.bind (if ¬ ((((y2.Group < 0) ∨ (y2.Group ≥ (a0.Logs.length : Int))) ∨ (y2.Slot > 200)) ∨ (y2.Slot ≤ ((a0.Logs.getD (y2.Group).toNat default).length : Int))) then m_towncrierref07_May (y2.Vote) else some default) fun v2 =>
  Option.bind (if (¬ ((((((y2.Group < 0) ∨ (y2.Group ≥ (a0.Logs.length : Int))) ∨ (y2.Slot > 200)) ∨ (y2.Slot ≤ ((a0.Logs.getD (y2.Group).toNat default).length : Int))) ∨ (¬ (v2 = true))) ∨ (y2.Vote.Promised = 0))) ∧ ((n2 : Int) > 0) then m_towncrierref11_ahead (a0.Votes.getD (n2 - 1) default) (y2) else some default) fun v3 =>
  if ((((((y2.Group < 0) ∨ (y2.Group ≥ (a0.Logs.length : Int))) ∨ (y2.Slot > 200)) ∨ (y2.Slot ≤ ((a0.Logs.getD (y2.Group).toNat default).length : Int))) ∨ (¬ (v2 = true))) ∨ (y2.Vote.Promised = 0)) ∨ (((n2 : Int) > 0) ∧ (¬ (v3 = true))) then
  some (.inl false)
  else
  m_towncrierref11_May_loop2 a0 rest2 (n2 + 1) 
  else none
def m_towncrierref11_May (a0 : TStable) : Option Bool :=
 if ((a0.Logs.length : Int) < 1) ∨ ((a0.Logs.length : Int) > 4) then
 some false
 else
 Option.bind (α := Bool ⊕ Unit) (m_towncrierref11_May_loop1 a0.Logs ) fun z => match z with
 | (.inl r) => some r
 | (.inr _) =>
 Option.bind (α := Bool ⊕ Unit) (m_towncrierref11_May_loop2 a0 a0.Votes 0 ) fun z => match z with
 | (.inl r) => some r
 | (.inr _) =>
 some true
def m_towncrierref01_SameTexts_loop1 (b : List (List UInt8)) : List (List UInt8) → Nat → Option (Bool ⊕ Unit)
 | [], n1 =>
  some (.inr ())
 | y1 :: rest1, n1 =>
  if n1 < b.length then
  if ¬ (y1 = (b.getD n1 default)) then
  some (.inl false)
  else
  m_towncrierref01_SameTexts_loop1 b rest1 (n1 + 1) 
  else none
def m_towncrierref01_SameTexts (a : List (List UInt8)) (b : List (List UInt8)) : Option Bool :=
 if ¬ ((a.length : Int) = (b.length : Int)) then
 some false
 else
 Option.bind (α := Bool ⊕ Unit) (m_towncrierref01_SameTexts_loop1 b a 0 ) fun z => match z with
 | (.inl r) => some r
 | (.inr _) =>
 some true
def m_towncrierref11_SameVotes_loop1 (a1 : List TSeen) : List TSeen → Nat → Option (Bool ⊕ Unit)
 | [], n1 =>
  some (.inr ())
 | y1 :: rest1, n1 =>
  if n1 < a1.length then
  if ¬ ((y1.Group = (a1.getD n1 default).Group) ∧ (y1.Slot = (a1.getD n1 default).Slot) ∧ (y1.Vote.Promised = (a1.getD n1 default).Vote.Promised) ∧ (y1.Vote.Ballot = (a1.getD n1 default).Vote.Ballot) ∧ (y1.Vote.Value = (a1.getD n1 default).Vote.Value)) then
  some (.inl false)
  else
  m_towncrierref11_SameVotes_loop1 a1 rest1 (n1 + 1) 
  else none
def m_towncrierref11_SameVotes (a0 : List TSeen) (a1 : List TSeen) : Option Bool :=
 if ¬ ((a0.length : Int) = (a1.length : Int)) then
 some false
 else
 Option.bind (α := Bool ⊕ Unit) (m_towncrierref11_SameVotes_loop1 a1 a0 0 ) fun z => match z with
 | (.inl r) => some r
 | (.inr _) =>
 some true
def m_towncrierref11_Same_loop1 (a1 : TStable) : List (List (List UInt8)) → Nat → Option (Bool ⊕ Unit)
 | [], n1 =>
  some (.inr ())
 | y1 :: rest1, n1 =>
  if n1 < a1.Logs.length then
  Option.bind (m_towncrierref01_SameTexts (y1) (a1.Logs.getD n1 default)) fun v2 =>
  if ¬ (v2 = true) then
  some (.inl false)
  else
  m_towncrierref11_Same_loop1 a1 rest1 (n1 + 1) 
  else none
def m_towncrierref11_Same (a0 : TStable) (a1 : TStable) : Option Bool :=
 Option.bind (if ¬ (¬ ((a0.Logs.length : Int) = (a1.Logs.length : Int))) then m_towncrierref11_SameVotes a0.Votes a1.Votes else some default) fun v1 =>
 if (¬ ((a0.Logs.length : Int) = (a1.Logs.length : Int))) ∨ (¬ (v1 = true)) then
 some false
 else
 Option.bind (α := Bool ⊕ Unit) (m_towncrierref11_Same_loop1 a1 a0.Logs 0 ) fun z => match z with
 | (.inl r) => some r
 | (.inr _) =>
 some true
def m_towncrierref11_Vote_loop1 (a1 : Int) (a2 : Int) : List TSeen → Option (TVote ⊕ Unit)
 | [] =>
  some (.inr ())
 | y1 :: rest1 =>
  if (y1.Group = a1) ∧ (y1.Slot = a2) then
  some (.inl y1.Vote)
  else
  m_towncrierref11_Vote_loop1 a1 a2 rest1 
def m_towncrierref11_Vote (a0 : List TSeen) (a1 : Int) (a2 : Int) : Option TVote :=
 Option.bind (α := TVote ⊕ Unit) (m_towncrierref11_Vote_loop1 a1 a2 a0 ) fun z => match z with
 | (.inl r) => some r
 | (.inr _) =>
 some (⟨0, 0, []⟩ : TVote)
def m_towncrierref11_With_loop1 (a1 : TSeen) : List TSeen → (List TSeen) → Option ((List TSeen))
 | [], l2 =>
  some l2
 | y1 :: rest1, l2 =>
  Option.bind (α := (List TSeen)) (Option.bind (m_towncrierref11_ahead (y1) a1) fun v1 =>
  if v1 = true then
  if l2.length + [y1].length < 1000000 then
  some (l2 ++ [y1])
  else none
  else
  some l2) fun l3 =>
  m_towncrierref11_With_loop1 a1 rest1 l3
theorem m_towncrierref11_With_loop1_n (a1 : TSeen) (l2 : List TSeen) : m_towncrierref11_With_loop1 a1 [] l2 =
  (some l2 : Option ((List TSeen))) := rfl
theorem m_towncrierref11_With_loop1_c (a1 : TSeen) (y1 : TSeen) (rest1 : List TSeen) (l2 : List TSeen) : m_towncrierref11_With_loop1 a1 (y1 :: rest1) l2 =
  (Option.bind (α := (List TSeen)) (Option.bind (m_towncrierref11_ahead (y1) a1) fun v1 =>
  if v1 = true then
  if l2.length + [y1].length < 1000000 then
  some (l2 ++ [y1])
  else none
  else
  some l2) fun l3 =>
  m_towncrierref11_With_loop1 a1 rest1 l3 : Option ((List TSeen))) := rfl
def m_towncrierref11_With_loop2 (a1 : TSeen) : List TSeen → (List TSeen) → Option ((List TSeen))
 | [], l6 =>
  some l6
 | y2 :: rest2, l6 =>
  Option.bind (α := (List TSeen)) (Option.bind (m_towncrierref11_ahead a1 (y2)) fun v2 =>
  if v2 = true then
  if l6.length + [y2].length < 1000000 then
  some (l6 ++ [y2])
  else none
  else
  some l6) fun l7 =>
  m_towncrierref11_With_loop2 a1 rest2 l7
theorem m_towncrierref11_With_loop2_n (a1 : TSeen) (l6 : List TSeen) : m_towncrierref11_With_loop2 a1 [] l6 =
  (some l6 : Option ((List TSeen))) := rfl
theorem m_towncrierref11_With_loop2_c (a1 : TSeen) (y2 : TSeen) (rest2 : List TSeen) (l6 : List TSeen) : m_towncrierref11_With_loop2 a1 (y2 :: rest2) l6 =
  (Option.bind (α := (List TSeen)) (Option.bind (m_towncrierref11_ahead a1 (y2)) fun v2 =>
  if v2 = true then
  if l6.length + [y2].length < 1000000 then
  some (l6 ++ [y2])
  else none
  else
  some l6) fun l7 =>
  m_towncrierref11_With_loop2 a1 rest2 l7 : Option ((List TSeen))) := rfl
def m_towncrierref11_With (a0 : List TSeen) (a1 : TSeen) : Option ((List TSeen)) :=
 Option.bind (α := (List TSeen)) (m_towncrierref11_With_loop1 a1 a0 []) fun l1 =>
 Option.bind (α := (List TSeen)) (if ¬ ((a1.Vote.Promised = 0) ∧ (a1.Vote.Ballot = 0) ∧ (a1.Vote.Value = [])) then
 if l1.length + [a1].length < 1000000 then
 some (l1 ++ [a1])
 else none
 else
 some l1) fun l4 =>
 Option.bind (α := (List TSeen)) (m_towncrierref11_With_loop2 a1 a0 l4) fun l5 =>
 some l5
def m_towncrierref11_At (a0 : TStable) (a1 : Int) (a2 : Int) : Option (TVote × Int) :=
 Option.bind (m_towncrierref11_May a0) fun v1 =>
 if ¬ (v1 = true) then
 some ((⟨0, 0, []⟩ : TVote), 8)
 else
 if (a1 < 0) ∨ (a1 ≥ (a0.Logs.length : Int)) then
 some ((⟨0, 0, []⟩ : TVote), 6)
 else
 if (a2 < 1) ∨ (a2 > 200) then
 some ((⟨0, 0, []⟩ : TVote), 2)
 else
 Option.bind (m_towncrierref11_Vote a0.Votes a1 a2) fun v2 =>
 some (v2, 0)
def m_towncrierref01_Great_loop1 : List (List UInt8) → Nat → Int → Option (Int)
 | [], n3, n2 =>
  some n2
 | y1 :: rest1, n3, n2 =>
  if ((n3 : Int) < 2000) then
  m_towncrierref01_Great_loop1 rest1 (n3 + 1) (wr .i64 (n2 + (min ((y1).length : Int) 100000)))
  else
  some n2
theorem m_towncrierref01_Great_loop1_n (n3 : Nat) (n2 : Int) : m_towncrierref01_Great_loop1 [] n3 n2 =
  (some n2 : Option (Int)) := rfl
theorem m_towncrierref01_Great_loop1_c (y1 : (List UInt8)) (rest1 : List (List UInt8)) (n3 : Nat) (n2 : Int) : m_towncrierref01_Great_loop1 (y1 :: rest1) n3 n2 =
  (if ((n3 : Int) < 2000) then
  m_towncrierref01_Great_loop1 rest1 (n3 + 1) (wr .i64 (n2 + (min ((y1).length : Int) 100000)))
  else
  some n2 : Option (Int)) := rfl
def m_towncrierref01_Great (l : List (List UInt8)) : Option Bool :=
 Option.bind (α := Int) (m_towncrierref01_Great_loop1 l 0 0) fun n1 =>
 some ((decide ((l.length : Int) > 1000)) || (decide (n1 > 100000)))
def m_towncrierref11_Great_loop1 : List (List (List UInt8)) → Nat → Option (Bool ⊕ Unit)
 | [], n1 =>
  some (.inr ())
 | y1 :: rest1, n1 =>
  if ((n1 : Int) < 20) then
  Option.bind (m_towncrierref01_Great (y1)) fun v1 =>
  if v1 = true then
  some (.inl true)
  else
  m_towncrierref11_Great_loop1 rest1 (n1 + 1) 
  else
  some (.inr ())
def m_towncrierref11_Great_loop2 : List TSeen → Nat → Int → Option (Int)
 | [], n4, n3 =>
  some n3
 | y2 :: rest2, n4, n3 =>
  if ((n4 : Int) < 2000) then
  m_towncrierref11_Great_loop2 rest2 (n4 + 1) (wr .i64 (n3 + (min ((y2.Vote.Value).length : Int) 100000)))
  else
  some n3
theorem m_towncrierref11_Great_loop2_n (n4 : Nat) (n3 : Int) : m_towncrierref11_Great_loop2 [] n4 n3 =
  (some n3 : Option (Int)) := rfl
theorem m_towncrierref11_Great_loop2_c (y2 : TSeen) (rest2 : List TSeen) (n4 : Nat) (n3 : Int) : m_towncrierref11_Great_loop2 (y2 :: rest2) n4 n3 =
  (if ((n4 : Int) < 2000) then
  m_towncrierref11_Great_loop2 rest2 (n4 + 1) (wr .i64 (n3 + (min ((y2.Vote.Value).length : Int) 100000)))
  else
  some n3 : Option (Int)) := rfl
def m_towncrierref11_Great (a0 : TStable) : Option Bool :=
 Option.bind (α := Bool ⊕ Unit) (m_towncrierref11_Great_loop1 a0.Logs 0 ) fun z => match z with
 | (.inl r) => some r
 | (.inr _) =>
 Option.bind (α := Int) (m_towncrierref11_Great_loop2 a0.Votes 0 0) fun n2 =>
 some (((decide ((a0.Logs.length : Int) > 10)) || (decide ((a0.Votes.length : Int) > 1000))) || (decide (n2 > 100000)))
def m_vote_asked (a0 : TVote) (a1 : Int) (a2 : List UInt8) : Option Int :=
 Option.bind (m_vote_Check a0) fun v1 =>
 if ¬ (v1 = 0) then
 some v1
 else
 Option.bind (m_ballot_Check a1) fun v2 =>
 if ¬ (v2 = 0) then
 some v2
 else
 if (a2.length : Int) > 1024 then
 some 3
 else
 if a1 < a0.Promised then
 some 70
 else
 some 0
def m_vote_Prepare (a0 : TVote) (a1 : Int) : Option (TVote × Int) :=
 Option.bind (m_vote_asked a0 a1 []) fun v1 =>
 if ¬ (v1 = 0) then
 some ((⟨0, 0, []⟩ : TVote), v1)
 else
 some ((⟨a1, a0.Ballot, a0.Value⟩ : TVote), 0)
def m_vote_Accept (a0 : TVote) (a1 : Int) (a2 : List UInt8) : Option (TVote × Int) :=
 Option.bind (m_vote_asked a0 a1 a2) fun v1 =>
 if ¬ (v1 = 0) then
 some ((⟨0, 0, []⟩ : TVote), v1)
 else
 some ((⟨a1, a1, a2⟩ : TVote), 0)
def m_towncrierref07_asked (a0 : TVote) (a1 : Int) : Option Int :=
 Option.bind (m_towncrierref07_May a0) fun v1 =>
 if ¬ (v1 = true) then
 some 8
 else
 Option.bind (m_towncrierref05_May a1) fun v2 =>
 if ¬ (v2 = true) then
 some 50
 else
 some 0
def m_towncrierref07_Prepare (a0 : TVote) (a1 : Int) : Option (TVote × Int) :=
 Option.bind (m_towncrierref07_asked a0 a1) fun v1 =>
 if ¬ (v1 = 0) then
 some ((⟨0, 0, []⟩ : TVote), v1)
 else
 if a1 < a0.Promised then
 some ((⟨0, 0, []⟩ : TVote), 70)
 else
 some ((⟨a1, a0.Ballot, a0.Value⟩ : TVote), 0)
def m_towncrierref07_Accept (a0 : TVote) (a1 : Int) (a2 : List UInt8) : Option (TVote × Int) :=
 Option.bind (m_towncrierref07_asked a0 a1) fun v1 =>
 if ¬ (v1 = 0) then
 some ((⟨0, 0, []⟩ : TVote), v1)
 else
 if (a2.length : Int) > 1024 then
 some ((⟨0, 0, []⟩ : TVote), 3)
 else
 if a1 < a0.Promised then
 some ((⟨0, 0, []⟩ : TVote), 70)
 else
 some ((⟨a1, a1, a2⟩ : TVote), 0)
end Go.Proofs
end

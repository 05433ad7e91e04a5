/- Texts of the proof. -/
import Derived.Test.YtbbinddkhlmlcaaGreatChecked
import Derived.KernelRfl
import Derived.Lib.Overlaps
import Derived.Test.YtbbinddkhlmlcaaGreatDecreeRunsPe
import Derived.Test.YtbbinddkhlmlcaaGreatDecreeRunsPf
section
namespace Go.Proofs
open Go.Tm
def Tryz.tmL : List (Nat × TI) := [
 (1, { kind := 1, size := 1, offs := [], zero := [.nilfn], el := 0, esz := 0, eby := 0, eagg := false, ik := none, eqs := false, ezero := [] }),
 (2, { kind := 6, size := 1, offs := [], zero := [.int .i64 0], el := 0, esz := 0, eby := 0, eagg := false, ik := some .i64, eqs := false, ezero := [] }),
 (3, { kind := 6, size := 1, offs := [], zero := [.int .i64 0], el := 0, esz := 0, eby := 0, eagg := false, ik := some .i64, eqs := false, ezero := [] }),
 (4, { kind := 8, size := 1, offs := [], zero := [.bool false], el := 0, esz := 0, eby := 0, eagg := false, ik := none, eqs := false, ezero := [] }),
 (5, { kind := 6, size := 1, offs := [], zero := [.int .u8 0], el := 0, esz := 0, eby := 0, eagg := false, ik := some .u8, eqs := false, ezero := [] }),
 (6, { kind := 6, size := 1, offs := [], zero := [.int .u8 0], el := 0, esz := 0, eby := 0, eagg := false, ik := some .u8, eqs := false, ezero := [] }),
 (7, { kind := 2, size := 4, offs := [(0, 1, false), (1, 1, false), (2, 1, false), (3, 1, false)], zero := [.int .i64 0, .int .i64 0, .bool false, .int .u8 0], el := 0, esz := 0, eby := 0, eagg := false, ik := none, eqs := false, ezero := [] }),
 (8, { kind := 2, size := 4, offs := [(0, 1, false), (1, 1, false), (2, 1, false), (3, 1, false)], zero := [.int .i64 0, .int .i64 0, .bool false, .int .u8 0], el := 0, esz := 0, eby := 0, eagg := false, ik := none, eqs := false, ezero := [] }),
 (9, { kind := 5, size := 1, offs := [], zero := [.str []], el := 0, esz := 0, eby := 0, eagg := false, ik := none, eqs := false, ezero := [] }),
 (10, { kind := 5, size := 1, offs := [], zero := [.str []], el := 0, esz := 0, eby := 0, eagg := false, ik := none, eqs := false, ezero := [] }),
 (11, { kind := 5, size := 1, offs := [], zero := [.str []], el := 0, esz := 0, eby := 0, eagg := false, ik := none, eqs := false, ezero := [] }),
 (12, { kind := 6, size := 1, offs := [], zero := [.int .u64 0], el := 0, esz := 0, eby := 0, eagg := false, ik := some .u64, eqs := false, ezero := [] }),
 (13, { kind := 2, size := 2, offs := [(0, 1, false), (1, 1, false)], zero := [.str [], .int .u64 0], el := 0, esz := 0, eby := 0, eagg := false, ik := none, eqs := false, ezero := [] }),
 (14, { kind := 2, size := 2, offs := [(0, 1, false), (1, 1, false)], zero := [.str [], .int .u64 0], el := 0, esz := 0, eby := 0, eagg := false, ik := none, eqs := false, ezero := [] }),
 (15, { kind := 1, size := 1, offs := [], zero := [.nilptr], el := 0, esz := 0, eby := 0, eagg := false, ik := none, eqs := false, ezero := [] }),
 (16, { kind := 1, size := 1, offs := [], zero := [.nilptr], el := 0, esz := 0, eby := 0, eagg := false, ik := none, eqs := false, ezero := [] }),
 (17, { kind := 1, size := 1, offs := [], zero := [.nilptr], el := 0, esz := 0, eby := 0, eagg := false, ik := none, eqs := false, ezero := [] }),
 (18, { kind := 2, size := 1, offs := [(0, 1, false)], zero := [.nilptr], el := 0, esz := 0, eby := 0, eagg := false, ik := none, eqs := false, ezero := [] }),
 (19, { kind := 2, size := 1, offs := [(0, 1, false)], zero := [.nilptr], el := 0, esz := 0, eby := 0, eagg := false, ik := none, eqs := false, ezero := [] }),
 (20, { kind := 7, size := 1, offs := [], zero := [.nilIface], el := 0, esz := 0, eby := 0, eagg := false, ik := none, eqs := false, ezero := [] }),
 (21, { kind := 6, size := 1, offs := [], zero := [.int .i32 0], el := 0, esz := 0, eby := 0, eagg := false, ik := some .i32, eqs := false, ezero := [] }),
 (22, { kind := 3, size := 1, offs := [], zero := [.imm 0 [] 0], el := 3, esz := 1, eby := 8, eagg := false, ik := none, eqs := false, ezero := [.int .i64 0] }),
 (23, { kind := 3, size := 1, offs := [], zero := [.imm 0 [] 0], el := 59, esz := 3, eby := 32, eagg := true, ik := none, eqs := false, ezero := [.int .i64 0, .int .i64 0, .str []] }),
 (24, { kind := 3, size := 1, offs := [], zero := [.imm 0 [] 0], el := 57, esz := 7, eby := 120, eagg := true, ik := none, eqs := false, ezero := [.int .u8 0, .int .i64 0, .imm 0 [] 0, .str [], .str [], .imm 0 [] 0, .imm 0 [] 0] }),
 (25, { kind := 3, size := 1, offs := [], zero := [.imm 0 [] 0], el := 51, esz := 10, eby := 88, eagg := true, ik := none, eqs := false, ezero := [.int .i64 0, .int .i64 0, .int .u8 0, .int .i64 0, .int .i64 0, .int .i64 0, .int .i64 0, .str [], .int .i64 0, .int .i64 0] }),
 (26, { kind := 3, size := 1, offs := [], zero := [.imm 0 [] 0], el := 53, esz := 2, eby := 24, eagg := true, ik := none, eqs := false, ezero := [.int .i64 0, .str []] }),
 (27, { kind := 2, size := 5, offs := [(0, 1, false), (1, 1, false), (2, 1, false), (3, 1, false), (4, 1, false)], zero := [.imm 0 [] 0, .imm 0 [] 0, .imm 0 [] 0, .imm 0 [] 0, .imm 0 [] 0], el := 0, esz := 0, eby := 0, eagg := false, ik := none, eqs := false, ezero := [] }),
 (28, { kind := 2, size := 5, offs := [(0, 1, false), (1, 1, false), (2, 1, false), (3, 1, false), (4, 1, false)], zero := [.imm 0 [] 0, .imm 0 [] 0, .imm 0 [] 0, .imm 0 [] 0, .imm 0 [] 0], el := 0, esz := 0, eby := 0, eagg := false, ik := none, eqs := false, ezero := [] }),
 (29, { kind := 2, size := 4, offs := [(0, 1, false), (1, 1, false), (2, 1, false), (3, 1, false)], zero := [.int .u8 0, .int .i64 0, .int .i64 0, .str []], el := 0, esz := 0, eby := 0, eagg := false, ik := none, eqs := false, ezero := [] }),
 (30, { kind := 2, size := 4, offs := [(0, 1, false), (1, 1, false), (2, 1, false), (3, 1, false)], zero := [.int .u8 0, .int .i64 0, .int .i64 0, .str []], el := 0, esz := 0, eby := 0, eagg := false, ik := none, eqs := true, ezero := [] }),
 (31, { kind := 1, size := 1, offs := [], zero := [.nilfn], el := 0, esz := 0, eby := 0, eagg := false, ik := none, eqs := false, ezero := [] }),
 (32, { kind := 1, size := 1, offs := [], zero := [.nilfn], el := 0, esz := 0, eby := 0, eagg := false, ik := none, eqs := false, ezero := [] }),
 (33, { kind := 6, size := 1, offs := [], zero := [.int .i64 0], el := 0, esz := 0, eby := 0, eagg := false, ik := some .i64, eqs := false, ezero := [] }),
 (35, { kind := 1, size := 1, offs := [], zero := [.nilfn], el := 0, esz := 0, eby := 0, eagg := false, ik := none, eqs := false, ezero := [] }),
 (37, { kind := 1, size := 1, offs := [], zero := [.nilfn], el := 0, esz := 0, eby := 0, eagg := false, ik := none, eqs := false, ezero := [] }),
 (38, { kind := 1, size := 1, offs := [], zero := [.nilfn], el := 0, esz := 0, eby := 0, eagg := false, ik := none, eqs := false, ezero := [] }),
 (39, { kind := 1, size := 1, offs := [], zero := [.nilfn], el := 0, esz := 0, eby := 0, eagg := false, ik := none, eqs := false, ezero := [] }),
 (40, { kind := 1, size := 1, offs := [], zero := [.nilfn], el := 0, esz := 0, eby := 0, eagg := false, ik := none, eqs := false, ezero := [] }),
 (41, { kind := 1, size := 1, offs := [], zero := [.nilfn], el := 0, esz := 0, eby := 0, eagg := false, ik := none, eqs := false, ezero := [] }),
 (42, { kind := 3, size := 1, offs := [], zero := [.imm 0 [] 0], el := 30, esz := 4, eby := 40, eagg := true, ik := none, eqs := false, ezero := [.int .u8 0, .int .i64 0, .int .i64 0, .str []] }),
 (43, { kind := 1, size := 1, offs := [], zero := [.nilfn], el := 0, esz := 0, eby := 0, eagg := false, ik := none, eqs := false, ezero := [] }),
 (44, { kind := 1, size := 1, offs := [], zero := [.nilfn], el := 0, esz := 0, eby := 0, eagg := false, ik := none, eqs := false, ezero := [] }),
 (45, { kind := 1, size := 1, offs := [], zero := [.nilfn], el := 0, esz := 0, eby := 0, eagg := false, ik := none, eqs := false, ezero := [] }),
 (46, { kind := 1, size := 1, offs := [], zero := [.nilfn], el := 0, esz := 0, eby := 0, eagg := false, ik := none, eqs := false, ezero := [] }),
 (47, { kind := 1, size := 1, offs := [], zero := [.nilfn], el := 0, esz := 0, eby := 0, eagg := false, ik := none, eqs := false, ezero := [] }),
 (48, { kind := 1, size := 1, offs := [], zero := [.nilfn], el := 0, esz := 0, eby := 0, eagg := false, ik := none, eqs := false, ezero := [] }),
 (49, { kind := 1, size := 1, offs := [], zero := [.nilfn], el := 0, esz := 0, eby := 0, eagg := false, ik := none, eqs := false, ezero := [] }),
 (50, { kind := 2, size := 10, offs := [(0, 1, false), (1, 1, false), (2, 1, false), (3, 1, false), (4, 1, false), (5, 1, false), (6, 1, false), (7, 1, false), (8, 1, false), (9, 1, false)], zero := [.int .i64 0, .int .i64 0, .int .u8 0, .int .i64 0, .int .i64 0, .int .i64 0, .int .i64 0, .str [], .int .i64 0, .int .i64 0], el := 0, esz := 0, eby := 0, eagg := false, ik := none, eqs := false, ezero := [] }),
 (51, { kind := 2, size := 10, offs := [(0, 1, false), (1, 1, false), (2, 1, false), (3, 1, false), (4, 1, false), (5, 1, false), (6, 1, false), (7, 1, false), (8, 1, false), (9, 1, false)], zero := [.int .i64 0, .int .i64 0, .int .u8 0, .int .i64 0, .int .i64 0, .int .i64 0, .int .i64 0, .str [], .int .i64 0, .int .i64 0], el := 0, esz := 0, eby := 0, eagg := false, ik := none, eqs := true, ezero := [] }),
 (52, { kind := 2, size := 2, offs := [(0, 1, false), (1, 1, false)], zero := [.int .i64 0, .str []], el := 0, esz := 0, eby := 0, eagg := false, ik := none, eqs := false, ezero := [] }),
 (53, { kind := 2, size := 2, offs := [(0, 1, false), (1, 1, false)], zero := [.int .i64 0, .str []], el := 0, esz := 0, eby := 0, eagg := false, ik := none, eqs := true, ezero := [] }),
 (54, { kind := 1, size := 1, offs := [], zero := [.nilfn], el := 0, esz := 0, eby := 0, eagg := false, ik := none, eqs := false, ezero := [] }),
 (55, { kind := 3, size := 1, offs := [], zero := [.imm 0 [] 0], el := 91, esz := 3, eby := 32, eagg := true, ik := none, eqs := false, ezero := [.int .i64 0, .int .i64 0, .str []] }),
 (56, { kind := 2, size := 7, offs := [(0, 1, false), (1, 1, false), (2, 1, false), (3, 1, false), (4, 1, false), (5, 1, false), (6, 1, false)], zero := [.int .u8 0, .int .i64 0, .imm 0 [] 0, .str [], .str [], .imm 0 [] 0, .imm 0 [] 0], el := 0, esz := 0, eby := 0, eagg := false, ik := none, eqs := false, ezero := [] }),
 (57, { kind := 2, size := 7, offs := [(0, 1, false), (1, 1, false), (2, 1, false), (3, 1, false), (4, 1, false), (5, 1, false), (6, 1, false)], zero := [.int .u8 0, .int .i64 0, .imm 0 [] 0, .str [], .str [], .imm 0 [] 0, .imm 0 [] 0], el := 0, esz := 0, eby := 0, eagg := false, ik := none, eqs := false, ezero := [] }),
 (58, { kind := 2, size := 3, offs := [(0, 1, false), (1, 1, false), (2, 1, false)], zero := [.int .i64 0, .int .i64 0, .str []], el := 0, esz := 0, eby := 0, eagg := false, ik := none, eqs := false, ezero := [] }),
 (59, { kind := 2, size := 3, offs := [(0, 1, false), (1, 1, false), (2, 1, false)], zero := [.int .i64 0, .int .i64 0, .str []], el := 0, esz := 0, eby := 0, eagg := false, ik := none, eqs := true, ezero := [] }),
 (60, { kind := 1, size := 1, offs := [], zero := [.nilfn], el := 0, esz := 0, eby := 0, eagg := false, ik := none, eqs := false, ezero := [] }),
 (61, { kind := 1, size := 1, offs := [], zero := [.nilptr], el := 0, esz := 0, eby := 0, eagg := false, ik := none, eqs := false, ezero := [] }),
 (62, { kind := 2, size := 5, offs := [(0, 5, true)], zero := [.imm 0 [] 0, .imm 0 [] 0, .imm 0 [] 0, .imm 0 [] 0, .imm 0 [] 0], el := 0, esz := 0, eby := 0, eagg := false, ik := none, eqs := false, ezero := [] }),
 (63, { kind := 2, size := 5, offs := [(0, 5, true)], zero := [.imm 0 [] 0, .imm 0 [] 0, .imm 0 [] 0, .imm 0 [] 0, .imm 0 [] 0], el := 0, esz := 0, eby := 0, eagg := false, ik := none, eqs := false, ezero := [] }),
 (64, { kind := 1, size := 1, offs := [], zero := [.nilfn], el := 0, esz := 0, eby := 0, eagg := false, ik := none, eqs := false, ezero := [] }),
 (65, { kind := 1, size := 1, offs := [], zero := [.nilfn], el := 0, esz := 0, eby := 0, eagg := false, ik := none, eqs := false, ezero := [] }),
 (66, { kind := 1, size := 1, offs := [], zero := [.nilfn], el := 0, esz := 0, eby := 0, eagg := false, ik := none, eqs := false, ezero := [] }),
 (67, { kind := 1, size := 1, offs := [], zero := [.nilfn], el := 0, esz := 0, eby := 0, eagg := false, ik := none, eqs := false, ezero := [] }),
 (68, { kind := 1, size := 1, offs := [], zero := [.nilfn], el := 0, esz := 0, eby := 0, eagg := false, ik := none, eqs := false, ezero := [] }),
 (69, { kind := 1, size := 1, offs := [], zero := [.nilptr], el := 0, esz := 0, eby := 0, eagg := false, ik := none, eqs := false, ezero := [] }),
 (70, { kind := 1, size := 1, offs := [], zero := [.nilfn], el := 0, esz := 0, eby := 0, eagg := false, ik := none, eqs := false, ezero := [] }),
 (71, { kind := 1, size := 1, offs := [], zero := [.nilfn], el := 0, esz := 0, eby := 0, eagg := false, ik := none, eqs := false, ezero := [] }),
 (72, { kind := 1, size := 1, offs := [], zero := [.nilfn], el := 0, esz := 0, eby := 0, eagg := false, ik := none, eqs := false, ezero := [] }),
 (73, { kind := 1, size := 1, offs := [], zero := [.nilfn], el := 0, esz := 0, eby := 0, eagg := false, ik := none, eqs := false, ezero := [] }),
 (74, { kind := 1, size := 1, offs := [], zero := [.nilfn], el := 0, esz := 0, eby := 0, eagg := false, ik := none, eqs := false, ezero := [] }),
 (75, { kind := 1, size := 1, offs := [], zero := [.nilfn], el := 0, esz := 0, eby := 0, eagg := false, ik := none, eqs := false, ezero := [] }),
 (76, { kind := 1, size := 1, offs := [], zero := [.nilfn], el := 0, esz := 0, eby := 0, eagg := false, ik := none, eqs := false, ezero := [] }),
 (77, { kind := 1, size := 1, offs := [], zero := [.nilfn], el := 0, esz := 0, eby := 0, eagg := false, ik := none, eqs := false, ezero := [] }),
 (78, { kind := 1, size := 1, offs := [], zero := [.nilfn], el := 0, esz := 0, eby := 0, eagg := false, ik := none, eqs := false, ezero := [] }),
 (79, { kind := 1, size := 1, offs := [], zero := [.nilfn], el := 0, esz := 0, eby := 0, eagg := false, ik := none, eqs := false, ezero := [] }),
 (81, { kind := 1, size := 1, offs := [], zero := [.nilfn], el := 0, esz := 0, eby := 0, eagg := false, ik := none, eqs := false, ezero := [] }),
 (82, { kind := 1, size := 1, offs := [], zero := [.nilfn], el := 0, esz := 0, eby := 0, eagg := false, ik := none, eqs := false, ezero := [] }),
 (83, { kind := 1, size := 1, offs := [], zero := [.nilfn], el := 0, esz := 0, eby := 0, eagg := false, ik := none, eqs := false, ezero := [] }),
 (84, { kind := 1, size := 1, offs := [], zero := [.nilfn], el := 0, esz := 0, eby := 0, eagg := false, ik := none, eqs := false, ezero := [] }),
 (85, { kind := 1, size := 1, offs := [], zero := [.nilfn], el := 0, esz := 0, eby := 0, eagg := false, ik := none, eqs := false, ezero := [] }),
 (86, { kind := 1, size := 1, offs := [], zero := [.nilfn], el := 0, esz := 0, eby := 0, eagg := false, ik := none, eqs := false, ezero := [] }),
 (87, { kind := 1, size := 1, offs := [], zero := [.nilfn], el := 0, esz := 0, eby := 0, eagg := false, ik := none, eqs := false, ezero := [] }),
 (88, { kind := 1, size := 1, offs := [], zero := [.nilfn], el := 0, esz := 0, eby := 0, eagg := false, ik := none, eqs := false, ezero := [] }),
 (89, { kind := 1, size := 1, offs := [], zero := [.nilfn], el := 0, esz := 0, eby := 0, eagg := false, ik := none, eqs := false, ezero := [] }),
 (90, { kind := 2, size := 3, offs := [(0, 1, false), (1, 1, false), (2, 1, false)], zero := [.int .i64 0, .int .i64 0, .str []], el := 0, esz := 0, eby := 0, eagg := false, ik := none, eqs := false, ezero := [] }),
 (91, { kind := 2, size := 3, offs := [(0, 1, false), (1, 1, false), (2, 1, false)], zero := [.int .i64 0, .int .i64 0, .str []], el := 0, esz := 0, eby := 0, eagg := false, ik := none, eqs := true, ezero := [] }),
 (93, { kind := 1, size := 1, offs := [], zero := [.nilfn], el := 0, esz := 0, eby := 0, eagg := false, ik := none, eqs := false, ezero := [] }),
 (95, { kind := 1, size := 1, offs := [], zero := [.nilfn], el := 0, esz := 0, eby := 0, eagg := false, ik := none, eqs := false, ezero := [] }),
 (97, { kind := 1, size := 1, offs := [], zero := [.nilfn], el := 0, esz := 0, eby := 0, eagg := false, ik := none, eqs := false, ezero := [] }),
 (98, { kind := 1, size := 1, offs := [], zero := [.nilfn], el := 0, esz := 0, eby := 0, eagg := false, ik := none, eqs := false, ezero := [] }),
 (99, { kind := 1, size := 1, offs := [], zero := [.nilfn], el := 0, esz := 0, eby := 0, eagg := false, ik := none, eqs := false, ezero := [] }),
 (100, { kind := 1, size := 1, offs := [], zero := [.nilfn], el := 0, esz := 0, eby := 0, eagg := false, ik := none, eqs := false, ezero := [] }),
 (102, { kind := 1, size := 1, offs := [], zero := [.nilfn], el := 0, esz := 0, eby := 0, eagg := false, ik := none, eqs := false, ezero := [] }),
 (104, { kind := 1, size := 1, offs := [], zero := [.nilfn], el := 0, esz := 0, eby := 0, eagg := false, ik := none, eqs := false, ezero := [] }),
 (106, { kind := 1, size := 1, offs := [], zero := [.nilfn], el := 0, esz := 0, eby := 0, eagg := false, ik := none, eqs := false, ezero := [] }),
 (107, { kind := 1, size := 1, offs := [], zero := [.nilfn], el := 0, esz := 0, eby := 0, eagg := false, ik := none, eqs := false, ezero := [] }),
 (108, { kind := 1, size := 1, offs := [], zero := [.nilfn], el := 0, esz := 0, eby := 0, eagg := false, ik := none, eqs := false, ezero := [] }),
 (109, { kind := 1, size := 1, offs := [], zero := [.nilfn], el := 0, esz := 0, eby := 0, eagg := false, ik := none, eqs := false, ezero := [] }),
 (110, { kind := 1, size := 1, offs := [], zero := [.nilfn], el := 0, esz := 0, eby := 0, eagg := false, ik := none, eqs := false, ezero := [] }),
 (111, { kind := 1, size := 1, offs := [], zero := [.nilfn], el := 0, esz := 0, eby := 0, eagg := false, ik := none, eqs := false, ezero := [] }),
 (112, { kind := 1, size := 1, offs := [], zero := [.nilfn], el := 0, esz := 0, eby := 0, eagg := false, ik := none, eqs := false, ezero := [] }),
 (113, { kind := 1, size := 1, offs := [], zero := [.nilfn], el := 0, esz := 0, eby := 0, eagg := false, ik := none, eqs := false, ezero := [] }),
 (114, { kind := 1, size := 1, offs := [], zero := [.nilfn], el := 0, esz := 0, eby := 0, eagg := false, ik := none, eqs := false, ezero := [] }),
 (115, { kind := 1, size := 1, offs := [], zero := [.nilfn], el := 0, esz := 0, eby := 0, eagg := false, ik := none, eqs := false, ezero := [] }),
 (116, { kind := 1, size := 1, offs := [], zero := [.nilfn], el := 0, esz := 0, eby := 0, eagg := false, ik := none, eqs := false, ezero := [] }),
 (117, { kind := 1, size := 1, offs := [], zero := [.nilfn], el := 0, esz := 0, eby := 0, eagg := false, ik := none, eqs := false, ezero := [] }),
 (118, { kind := 1, size := 1, offs := [], zero := [.nilfn], el := 0, esz := 0, eby := 0, eagg := false, ik := none, eqs := false, ezero := [] }),
 (119, { kind := 1, size := 1, offs := [], zero := [.nilfn], el := 0, esz := 0, eby := 0, eagg := false, ik := none, eqs := false, ezero := [] }),
 (120, { kind := 1, size := 1, offs := [], zero := [.nilfn], el := 0, esz := 0, eby := 0, eagg := false, ik := none, eqs := false, ezero := [] }),
 (121, { kind := 1, size := 1, offs := [], zero := [.nilfn], el := 0, esz := 0, eby := 0, eagg := false, ik := none, eqs := false, ezero := [] }),
 (122, { kind := 1, size := 1, offs := [], zero := [.nilfn], el := 0, esz := 0, eby := 0, eagg := false, ik := none, eqs := false, ezero := [] }),
 (123, { kind := 1, size := 1, offs := [], zero := [.nilfn], el := 0, esz := 0, eby := 0, eagg := false, ik := none, eqs := false, ezero := [] }),
 (124, { kind := 1, size := 1, offs := [], zero := [.nilfn], el := 0, esz := 0, eby := 0, eagg := false, ik := none, eqs := false, ezero := [] }),
 (125, { kind := 1, size := 1, offs := [], zero := [.nilfn], el := 0, esz := 0, eby := 0, eagg := false, ik := none, eqs := false, ezero := [] }),
 (126, { kind := 1, size := 1, offs := [], zero := [.nilfn], el := 0, esz := 0, eby := 0, eagg := false, ik := none, eqs := false, ezero := [] }),
 (128, { kind := 1, size := 1, offs := [], zero := [.nilfn], el := 0, esz := 0, eby := 0, eagg := false, ik := none, eqs := false, ezero := [] }),
 (129, { kind := 1, size := 1, offs := [], zero := [.nilfn], el := 0, esz := 0, eby := 0, eagg := false, ik := none, eqs := false, ezero := [] }),
 (130, { kind := 1, size := 1, offs := [], zero := [.nilfn], el := 0, esz := 0, eby := 0, eagg := false, ik := none, eqs := false, ezero := [] }),
 (131, { kind := 1, size := 1, offs := [], zero := [.nilfn], el := 0, esz := 0, eby := 0, eagg := false, ik := none, eqs := false, ezero := [] }),
 (132, { kind := 1, size := 1, offs := [], zero := [.nilfn], el := 0, esz := 0, eby := 0, eagg := false, ik := none, eqs := false, ezero := [] }),
 (133, { kind := 1, size := 1, offs := [], zero := [.nilfn], el := 0, esz := 0, eby := 0, eagg := false, ik := none, eqs := false, ezero := [] }),
 (134, { kind := 1, size := 1, offs := [], zero := [.nilfn], el := 0, esz := 0, eby := 0, eagg := false, ik := none, eqs := false, ezero := [] }),
 (135, { kind := 6, size := 1, offs := [], zero := [.int .u64 0], el := 0, esz := 0, eby := 0, eagg := false, ik := some .u64, eqs := false, ezero := [] }),
 (136, { kind := 1, size := 1, offs := [], zero := [.nilfn], el := 0, esz := 0, eby := 0, eagg := false, ik := none, eqs := false, ezero := [] }),
 (137, { kind := 1, size := 1, offs := [], zero := [.nilfn], el := 0, esz := 0, eby := 0, eagg := false, ik := none, eqs := false, ezero := [] }),
 (138, { kind := 1, size := 1, offs := [], zero := [.nilfn], el := 0, esz := 0, eby := 0, eagg := false, ik := none, eqs := false, ezero := [] }),
 (139, { kind := 1, size := 1, offs := [], zero := [.nilfn], el := 0, esz := 0, eby := 0, eagg := false, ik := none, eqs := false, ezero := [] }),
 (140, { kind := 6, size := 1, offs := [], zero := [.int .u32 0], el := 0, esz := 0, eby := 0, eagg := false, ik := some .u32, eqs := false, ezero := [] }),
 (141, { kind := 1, size := 1, offs := [], zero := [.nilfn], el := 0, esz := 0, eby := 0, eagg := false, ik := none, eqs := false, ezero := [] }),
 (142, { kind := 6, size := 1, offs := [], zero := [.int .u64 0], el := 0, esz := 0, eby := 0, eagg := false, ik := some .u64, eqs := false, ezero := [] }),
 (143, { kind := 1, size := 1, offs := [], zero := [.nilfn], el := 0, esz := 0, eby := 0, eagg := false, ik := none, eqs := false, ezero := [] }),
 (144, { kind := 1, size := 1, offs := [], zero := [.nilfn], el := 0, esz := 0, eby := 0, eagg := false, ik := none, eqs := false, ezero := [] }),
 (145, { kind := 1, size := 1, offs := [], zero := [.nilfn], el := 0, esz := 0, eby := 0, eagg := false, ik := none, eqs := false, ezero := [] }),
 (146, { kind := 2, size := 4, offs := [(0, 1, false), (1, 1, false), (2, 1, false), (3, 1, false)], zero := [.nilptr, .nilptr, .nilptr, .str []], el := 0, esz := 0, eby := 0, eagg := false, ik := none, eqs := false, ezero := [] }),
 (147, { kind := 2, size := 4, offs := [(0, 1, false), (1, 1, false), (2, 1, false), (3, 1, false)], zero := [.nilptr, .nilptr, .nilptr, .str []], el := 0, esz := 0, eby := 0, eagg := false, ik := none, eqs := false, ezero := [] }),
 (148, { kind := 4, size := 0, offs := [], zero := [], el := 0, esz := 0, eby := 0, eagg := false, ik := none, eqs := false, ezero := [] }),
 (151, { kind := 1, size := 1, offs := [], zero := [.nilfn], el := 0, esz := 0, eby := 0, eagg := false, ik := none, eqs := false, ezero := [] }),
 (152, { kind := 6, size := 1, offs := [], zero := [.int .u8 0], el := 0, esz := 0, eby := 0, eagg := false, ik := some .u8, eqs := false, ezero := [] }),
 (153, { kind := 6, size := 1, offs := [], zero := [.int .u8 0], el := 0, esz := 0, eby := 0, eagg := false, ik := some .u8, eqs := false, ezero := [] }),
 (154, { kind := 1, size := 1, offs := [], zero := [.nilfn], el := 0, esz := 0, eby := 0, eagg := false, ik := none, eqs := false, ezero := [] }),
 (155, { kind := 1, size := 1, offs := [], zero := [.nilptr], el := 0, esz := 0, eby := 0, eagg := false, ik := none, eqs := false, ezero := [] }),
 (156, { kind := 6, size := 1, offs := [], zero := [.int .i32 0], el := 0, esz := 0, eby := 0, eagg := false, ik := some .i32, eqs := false, ezero := [] }),
 (157, { kind := 6, size := 1, offs := [], zero := [.int .i32 0], el := 0, esz := 0, eby := 0, eagg := false, ik := some .i32, eqs := false, ezero := [] }),
 (158, { kind := 2, size := 11, offs := [(0, 1, false), (1, 1, false), (2, 1, false), (3, 1, false), (4, 1, false), (5, 1, false), (6, 1, false), (7, 1, false), (8, 1, false), (9, 1, false), (10, 1, false)], zero := [.int .u64 0, .int .u64 0, .int .u32 0, .int .u8 0, .int .u8 0, .int .u8 0, .int .u8 0, .nilfn, .nilptr, .int .i32 0, .int .i32 0], el := 0, esz := 0, eby := 0, eagg := false, ik := none, eqs := false, ezero := [] }),
 (159, { kind := 2, size := 11, offs := [(0, 1, false), (1, 1, false), (2, 1, false), (3, 1, false), (4, 1, false), (5, 1, false), (6, 1, false), (7, 1, false), (8, 1, false), (9, 1, false), (10, 1, false)], zero := [.int .u64 0, .int .u64 0, .int .u32 0, .int .u8 0, .int .u8 0, .int .u8 0, .int .u8 0, .nilfn, .nilptr, .int .i32 0, .int .i32 0], el := 0, esz := 0, eby := 0, eagg := false, ik := none, eqs := false, ezero := [] })]
def Tryz.tm (t : Nat) : TI := match getL Tryz.tmL t with | some x => x | none => default
theorem Tryz.tmAll : (Tryz.tmL.all fun x => tiChk Tryz.prog x.1 x.2 && (!x.2.eqs || eqsChk Tryz.prog x.1 x.2)) = true := by kernel_rfl
theorem Tryz.tmOk : TabOk Tryz.prog Tryz.tm := tabOk_of Tryz.tmAll
theorem Tryz.tmMixed : Tryz.prog.follows .mixedOrders = true := by kernel_rfl
end Go.Proofs
end
section
namespace Go.Proofs
open Go.Tm
theorem Tryz.tm_1 : Tryz.tm 1 = { kind := 1, size := 1, offs := [], zero := [.nilfn], el := 0, esz := 0, eby := 0, eagg := false, ik := none, eqs := false, ezero := [] } := by kernel_rfl
theorem Tryz.tm_2 : Tryz.tm 2 = { kind := 6, size := 1, offs := [], zero := [.int .i64 0], el := 0, esz := 0, eby := 0, eagg := false, ik := some .i64, eqs := false, ezero := [] } := by kernel_rfl
theorem Tryz.tm_3 : Tryz.tm 3 = { kind := 6, size := 1, offs := [], zero := [.int .i64 0], el := 0, esz := 0, eby := 0, eagg := false, ik := some .i64, eqs := false, ezero := [] } := by kernel_rfl
theorem Tryz.tm_4 : Tryz.tm 4 = { kind := 8, size := 1, offs := [], zero := [.bool false], el := 0, esz := 0, eby := 0, eagg := false, ik := none, eqs := false, ezero := [] } := by kernel_rfl
theorem Tryz.tm_5 : Tryz.tm 5 = { kind := 6, size := 1, offs := [], zero := [.int .u8 0], el := 0, esz := 0, eby := 0, eagg := false, ik := some .u8, eqs := false, ezero := [] } := by kernel_rfl
theorem Tryz.tm_6 : Tryz.tm 6 = { kind := 6, size := 1, offs := [], zero := [.int .u8 0], el := 0, esz := 0, eby := 0, eagg := false, ik := some .u8, eqs := false, ezero := [] } := by kernel_rfl
theorem Tryz.tm_7 : Tryz.tm 7 = { kind := 2, size := 4, offs := [(0, 1, false), (1, 1, false), (2, 1, false), (3, 1, false)], zero := [.int .i64 0, .int .i64 0, .bool false, .int .u8 0], el := 0, esz := 0, eby := 0, eagg := false, ik := none, eqs := false, ezero := [] } := by kernel_rfl
theorem Tryz.tm_8 : Tryz.tm 8 = { kind := 2, size := 4, offs := [(0, 1, false), (1, 1, false), (2, 1, false), (3, 1, false)], zero := [.int .i64 0, .int .i64 0, .bool false, .int .u8 0], el := 0, esz := 0, eby := 0, eagg := false, ik := none, eqs := false, ezero := [] } := by kernel_rfl
theorem Tryz.tm_9 : Tryz.tm 9 = { kind := 5, size := 1, offs := [], zero := [.str []], el := 0, esz := 0, eby := 0, eagg := false, ik := none, eqs := false, ezero := [] } := by kernel_rfl
theorem Tryz.tm_10 : Tryz.tm 10 = { kind := 5, size := 1, offs := [], zero := [.str []], el := 0, esz := 0, eby := 0, eagg := false, ik := none, eqs := false, ezero := [] } := by kernel_rfl
theorem Tryz.tm_11 : Tryz.tm 11 = { kind := 5, size := 1, offs := [], zero := [.str []], el := 0, esz := 0, eby := 0, eagg := false, ik := none, eqs := false, ezero := [] } := by kernel_rfl
theorem Tryz.tm_12 : Tryz.tm 12 = { kind := 6, size := 1, offs := [], zero := [.int .u64 0], el := 0, esz := 0, eby := 0, eagg := false, ik := some .u64, eqs := false, ezero := [] } := by kernel_rfl
theorem Tryz.tm_13 : Tryz.tm 13 = { kind := 2, size := 2, offs := [(0, 1, false), (1, 1, false)], zero := [.str [], .int .u64 0], el := 0, esz := 0, eby := 0, eagg := false, ik := none, eqs := false, ezero := [] } := by kernel_rfl
theorem Tryz.tm_14 : Tryz.tm 14 = { kind := 2, size := 2, offs := [(0, 1, false), (1, 1, false)], zero := [.str [], .int .u64 0], el := 0, esz := 0, eby := 0, eagg := false, ik := none, eqs := false, ezero := [] } := by kernel_rfl
theorem Tryz.tm_15 : Tryz.tm 15 = { kind := 1, size := 1, offs := [], zero := [.nilptr], el := 0, esz := 0, eby := 0, eagg := false, ik := none, eqs := false, ezero := [] } := by kernel_rfl
theorem Tryz.tm_16 : Tryz.tm 16 = { kind := 1, size := 1, offs := [], zero := [.nilptr], el := 0, esz := 0, eby := 0, eagg := false, ik := none, eqs := false, ezero := [] } := by kernel_rfl
theorem Tryz.tm_17 : Tryz.tm 17 = { kind := 1, size := 1, offs := [], zero := [.nilptr], el := 0, esz := 0, eby := 0, eagg := false, ik := none, eqs := false, ezero := [] } := by kernel_rfl
theorem Tryz.tm_18 : Tryz.tm 18 = { kind := 2, size := 1, offs := [(0, 1, false)], zero := [.nilptr], el := 0, esz := 0, eby := 0, eagg := false, ik := none, eqs := false, ezero := [] } := by kernel_rfl
theorem Tryz.tm_19 : Tryz.tm 19 = { kind := 2, size := 1, offs := [(0, 1, false)], zero := [.nilptr], el := 0, esz := 0, eby := 0, eagg := false, ik := none, eqs := false, ezero := [] } := by kernel_rfl
theorem Tryz.tm_20 : Tryz.tm 20 = { kind := 7, size := 1, offs := [], zero := [.nilIface], el := 0, esz := 0, eby := 0, eagg := false, ik := none, eqs := false, ezero := [] } := by kernel_rfl
theorem Tryz.tm_21 : Tryz.tm 21 = { kind := 6, size := 1, offs := [], zero := [.int .i32 0], el := 0, esz := 0, eby := 0, eagg := false, ik := some .i32, eqs := false, ezero := [] } := by kernel_rfl
theorem Tryz.tm_22 : Tryz.tm 22 = { kind := 3, size := 1, offs := [], zero := [.imm 0 [] 0], el := 3, esz := 1, eby := 8, eagg := false, ik := none, eqs := false, ezero := [.int .i64 0] } := by kernel_rfl
theorem Tryz.tm_23 : Tryz.tm 23 = { kind := 3, size := 1, offs := [], zero := [.imm 0 [] 0], el := 59, esz := 3, eby := 32, eagg := true, ik := none, eqs := false, ezero := [.int .i64 0, .int .i64 0, .str []] } := by kernel_rfl
theorem Tryz.tm_24 : Tryz.tm 24 = { kind := 3, size := 1, offs := [], zero := [.imm 0 [] 0], el := 57, esz := 7, eby := 120, eagg := true, ik := none, eqs := false, ezero := [.int .u8 0, .int .i64 0, .imm 0 [] 0, .str [], .str [], .imm 0 [] 0, .imm 0 [] 0] } := by kernel_rfl
theorem Tryz.tm_25 : Tryz.tm 25 = { kind := 3, size := 1, offs := [], zero := [.imm 0 [] 0], el := 51, esz := 10, eby := 88, eagg := true, ik := none, eqs := false, ezero := [.int .i64 0, .int .i64 0, .int .u8 0, .int .i64 0, .int .i64 0, .int .i64 0, .int .i64 0, .str [], .int .i64 0, .int .i64 0] } := by kernel_rfl
theorem Tryz.tm_26 : Tryz.tm 26 = { kind := 3, size := 1, offs := [], zero := [.imm 0 [] 0], el := 53, esz := 2, eby := 24, eagg := true, ik := none, eqs := false, ezero := [.int .i64 0, .str []] } := by kernel_rfl
theorem Tryz.tm_27 : Tryz.tm 27 = { kind := 2, size := 5, offs := [(0, 1, false), (1, 1, false), (2, 1, false), (3, 1, false), (4, 1, false)], zero := [.imm 0 [] 0, .imm 0 [] 0, .imm 0 [] 0, .imm 0 [] 0, .imm 0 [] 0], el := 0, esz := 0, eby := 0, eagg := false, ik := none, eqs := false, ezero := [] } := by kernel_rfl
theorem Tryz.tm_28 : Tryz.tm 28 = { kind := 2, size := 5, offs := [(0, 1, false), (1, 1, false), (2, 1, false), (3, 1, false), (4, 1, false)], zero := [.imm 0 [] 0, .imm 0 [] 0, .imm 0 [] 0, .imm 0 [] 0, .imm 0 [] 0], el := 0, esz := 0, eby := 0, eagg := false, ik := none, eqs := false, ezero := [] } := by kernel_rfl
theorem Tryz.tm_29 : Tryz.tm 29 = { kind := 2, size := 4, offs := [(0, 1, false), (1, 1, false), (2, 1, false), (3, 1, false)], zero := [.int .u8 0, .int .i64 0, .int .i64 0, .str []], el := 0, esz := 0, eby := 0, eagg := false, ik := none, eqs := false, ezero := [] } := by kernel_rfl
theorem Tryz.tm_30 : Tryz.tm 30 = { kind := 2, size := 4, offs := [(0, 1, false), (1, 1, false), (2, 1, false), (3, 1, false)], zero := [.int .u8 0, .int .i64 0, .int .i64 0, .str []], el := 0, esz := 0, eby := 0, eagg := false, ik := none, eqs := true, ezero := [] } := by kernel_rfl
theorem Tryz.tm_31 : Tryz.tm 31 = { kind := 1, size := 1, offs := [], zero := [.nilfn], el := 0, esz := 0, eby := 0, eagg := false, ik := none, eqs := false, ezero := [] } := by kernel_rfl
theorem Tryz.tm_32 : Tryz.tm 32 = { kind := 1, size := 1, offs := [], zero := [.nilfn], el := 0, esz := 0, eby := 0, eagg := false, ik := none, eqs := false, ezero := [] } := by kernel_rfl
theorem Tryz.tm_33 : Tryz.tm 33 = { kind := 6, size := 1, offs := [], zero := [.int .i64 0], el := 0, esz := 0, eby := 0, eagg := false, ik := some .i64, eqs := false, ezero := [] } := by kernel_rfl
theorem Tryz.tm_35 : Tryz.tm 35 = { kind := 1, size := 1, offs := [], zero := [.nilfn], el := 0, esz := 0, eby := 0, eagg := false, ik := none, eqs := false, ezero := [] } := by kernel_rfl
theorem Tryz.tm_37 : Tryz.tm 37 = { kind := 1, size := 1, offs := [], zero := [.nilfn], el := 0, esz := 0, eby := 0, eagg := false, ik := none, eqs := false, ezero := [] } := by kernel_rfl
theorem Tryz.tm_38 : Tryz.tm 38 = { kind := 1, size := 1, offs := [], zero := [.nilfn], el := 0, esz := 0, eby := 0, eagg := false, ik := none, eqs := false, ezero := [] } := by kernel_rfl
theorem Tryz.tm_39 : Tryz.tm 39 = { kind := 1, size := 1, offs := [], zero := [.nilfn], el := 0, esz := 0, eby := 0, eagg := false, ik := none, eqs := false, ezero := [] } := by kernel_rfl
theorem Tryz.tm_40 : Tryz.tm 40 = { kind := 1, size := 1, offs := [], zero := [.nilfn], el := 0, esz := 0, eby := 0, eagg := false, ik := none, eqs := false, ezero := [] } := by kernel_rfl
theorem Tryz.tm_41 : Tryz.tm 41 = { kind := 1, size := 1, offs := [], zero := [.nilfn], el := 0, esz := 0, eby := 0, eagg := false, ik := none, eqs := false, ezero := [] } := by kernel_rfl
theorem Tryz.tm_42 : Tryz.tm 42 = { kind := 3, size := 1, offs := [], zero := [.imm 0 [] 0], el := 30, esz := 4, eby := 40, eagg := true, ik := none, eqs := false, ezero := [.int .u8 0, .int .i64 0, .int .i64 0, .str []] } := by kernel_rfl
theorem Tryz.tm_43 : Tryz.tm 43 = { kind := 1, size := 1, offs := [], zero := [.nilfn], el := 0, esz := 0, eby := 0, eagg := false, ik := none, eqs := false, ezero := [] } := by kernel_rfl
theorem Tryz.tm_44 : Tryz.tm 44 = { kind := 1, size := 1, offs := [], zero := [.nilfn], el := 0, esz := 0, eby := 0, eagg := false, ik := none, eqs := false, ezero := [] } := by kernel_rfl
theorem Tryz.tm_45 : Tryz.tm 45 = { kind := 1, size := 1, offs := [], zero := [.nilfn], el := 0, esz := 0, eby := 0, eagg := false, ik := none, eqs := false, ezero := [] } := by kernel_rfl
theorem Tryz.tm_46 : Tryz.tm 46 = { kind := 1, size := 1, offs := [], zero := [.nilfn], el := 0, esz := 0, eby := 0, eagg := false, ik := none, eqs := false, ezero := [] } := by kernel_rfl
theorem Tryz.tm_47 : Tryz.tm 47 = { kind := 1, size := 1, offs := [], zero := [.nilfn], el := 0, esz := 0, eby := 0, eagg := false, ik := none, eqs := false, ezero := [] } := by kernel_rfl
theorem Tryz.tm_48 : Tryz.tm 48 = { kind := 1, size := 1, offs := [], zero := [.nilfn], el := 0, esz := 0, eby := 0, eagg := false, ik := none, eqs := false, ezero := [] } := by kernel_rfl
theorem Tryz.tm_49 : Tryz.tm 49 = { kind := 1, size := 1, offs := [], zero := [.nilfn], el := 0, esz := 0, eby := 0, eagg := false, ik := none, eqs := false, ezero := [] } := by kernel_rfl
theorem Tryz.tm_50 : Tryz.tm 50 = { kind := 2, size := 10, offs := [(0, 1, false), (1, 1, false), (2, 1, false), (3, 1, false), (4, 1, false), (5, 1, false), (6, 1, false), (7, 1, false), (8, 1, false), (9, 1, false)], zero := [.int .i64 0, .int .i64 0, .int .u8 0, .int .i64 0, .int .i64 0, .int .i64 0, .int .i64 0, .str [], .int .i64 0, .int .i64 0], el := 0, esz := 0, eby := 0, eagg := false, ik := none, eqs := false, ezero := [] } := by kernel_rfl
theorem Tryz.tm_51 : Tryz.tm 51 = { kind := 2, size := 10, offs := [(0, 1, false), (1, 1, false), (2, 1, false), (3, 1, false), (4, 1, false), (5, 1, false), (6, 1, false), (7, 1, false), (8, 1, false), (9, 1, false)], zero := [.int .i64 0, .int .i64 0, .int .u8 0, .int .i64 0, .int .i64 0, .int .i64 0, .int .i64 0, .str [], .int .i64 0, .int .i64 0], el := 0, esz := 0, eby := 0, eagg := false, ik := none, eqs := true, ezero := [] } := by kernel_rfl
theorem Tryz.tm_52 : Tryz.tm 52 = { kind := 2, size := 2, offs := [(0, 1, false), (1, 1, false)], zero := [.int .i64 0, .str []], el := 0, esz := 0, eby := 0, eagg := false, ik := none, eqs := false, ezero := [] } := by kernel_rfl
theorem Tryz.tm_53 : Tryz.tm 53 = { kind := 2, size := 2, offs := [(0, 1, false), (1, 1, false)], zero := [.int .i64 0, .str []], el := 0, esz := 0, eby := 0, eagg := false, ik := none, eqs := true, ezero := [] } := by kernel_rfl
theorem Tryz.tm_54 : Tryz.tm 54 = { kind := 1, size := 1, offs := [], zero := [.nilfn], el := 0, esz := 0, eby := 0, eagg := false, ik := none, eqs := false, ezero := [] } := by kernel_rfl
theorem Tryz.tm_55 : Tryz.tm 55 = { kind := 3, size := 1, offs := [], zero := [.imm 0 [] 0], el := 91, esz := 3, eby := 32, eagg := true, ik := none, eqs := false, ezero := [.int .i64 0, .int .i64 0, .str []] } := by kernel_rfl
theorem Tryz.tm_56 : Tryz.tm 56 = { kind := 2, size := 7, offs := [(0, 1, false), (1, 1, false), (2, 1, false), (3, 1, false), (4, 1, false), (5, 1, false), (6, 1, false)], zero := [.int .u8 0, .int .i64 0, .imm 0 [] 0, .str [], .str [], .imm 0 [] 0, .imm 0 [] 0], el := 0, esz := 0, eby := 0, eagg := false, ik := none, eqs := false, ezero := [] } := by kernel_rfl
theorem Tryz.tm_57 : Tryz.tm 57 = { kind := 2, size := 7, offs := [(0, 1, false), (1, 1, false), (2, 1, false), (3, 1, false), (4, 1, false), (5, 1, false), (6, 1, false)], zero := [.int .u8 0, .int .i64 0, .imm 0 [] 0, .str [], .str [], .imm 0 [] 0, .imm 0 [] 0], el := 0, esz := 0, eby := 0, eagg := false, ik := none, eqs := false, ezero := [] } := by kernel_rfl
theorem Tryz.tm_58 : Tryz.tm 58 = { kind := 2, size := 3, offs := [(0, 1, false), (1, 1, false), (2, 1, false)], zero := [.int .i64 0, .int .i64 0, .str []], el := 0, esz := 0, eby := 0, eagg := false, ik := none, eqs := false, ezero := [] } := by kernel_rfl
theorem Tryz.tm_59 : Tryz.tm 59 = { kind := 2, size := 3, offs := [(0, 1, false), (1, 1, false), (2, 1, false)], zero := [.int .i64 0, .int .i64 0, .str []], el := 0, esz := 0, eby := 0, eagg := false, ik := none, eqs := true, ezero := [] } := by kernel_rfl
theorem Tryz.tm_60 : Tryz.tm 60 = { kind := 1, size := 1, offs := [], zero := [.nilfn], el := 0, esz := 0, eby := 0, eagg := false, ik := none, eqs := false, ezero := [] } := by kernel_rfl
theorem Tryz.tm_61 : Tryz.tm 61 = { kind := 1, size := 1, offs := [], zero := [.nilptr], el := 0, esz := 0, eby := 0, eagg := false, ik := none, eqs := false, ezero := [] } := by kernel_rfl
theorem Tryz.tm_62 : Tryz.tm 62 = { kind := 2, size := 5, offs := [(0, 5, true)], zero := [.imm 0 [] 0, .imm 0 [] 0, .imm 0 [] 0, .imm 0 [] 0, .imm 0 [] 0], el := 0, esz := 0, eby := 0, eagg := false, ik := none, eqs := false, ezero := [] } := by kernel_rfl
theorem Tryz.tm_63 : Tryz.tm 63 = { kind := 2, size := 5, offs := [(0, 5, true)], zero := [.imm 0 [] 0, .imm 0 [] 0, .imm 0 [] 0, .imm 0 [] 0, .imm 0 [] 0], el := 0, esz := 0, eby := 0, eagg := false, ik := none, eqs := false, ezero := [] } := by kernel_rfl
theorem Tryz.tm_64 : Tryz.tm 64 = { kind := 1, size := 1, offs := [], zero := [.nilfn], el := 0, esz := 0, eby := 0, eagg := false, ik := none, eqs := false, ezero := [] } := by kernel_rfl
theorem Tryz.tm_65 : Tryz.tm 65 = { kind := 1, size := 1, offs := [], zero := [.nilfn], el := 0, esz := 0, eby := 0, eagg := false, ik := none, eqs := false, ezero := [] } := by kernel_rfl
theorem Tryz.tm_66 : Tryz.tm 66 = { kind := 1, size := 1, offs := [], zero := [.nilfn], el := 0, esz := 0, eby := 0, eagg := false, ik := none, eqs := false, ezero := [] } := by kernel_rfl
theorem Tryz.tm_67 : Tryz.tm 67 = { kind := 1, size := 1, offs := [], zero := [.nilfn], el := 0, esz := 0, eby := 0, eagg := false, ik := none, eqs := false, ezero := [] } := by kernel_rfl
theorem Tryz.tm_68 : Tryz.tm 68 = { kind := 1, size := 1, offs := [], zero := [.nilfn], el := 0, esz := 0, eby := 0, eagg := false, ik := none, eqs := false, ezero := [] } := by kernel_rfl
theorem Tryz.tm_69 : Tryz.tm 69 = { kind := 1, size := 1, offs := [], zero := [.nilptr], el := 0, esz := 0, eby := 0, eagg := false, ik := none, eqs := false, ezero := [] } := by kernel_rfl
theorem Tryz.tm_70 : Tryz.tm 70 = { kind := 1, size := 1, offs := [], zero := [.nilfn], el := 0, esz := 0, eby := 0, eagg := false, ik := none, eqs := false, ezero := [] } := by kernel_rfl
theorem Tryz.tm_71 : Tryz.tm 71 = { kind := 1, size := 1, offs := [], zero := [.nilfn], el := 0, esz := 0, eby := 0, eagg := false, ik := none, eqs := false, ezero := [] } := by kernel_rfl
theorem Tryz.tm_72 : Tryz.tm 72 = { kind := 1, size := 1, offs := [], zero := [.nilfn], el := 0, esz := 0, eby := 0, eagg := false, ik := none, eqs := false, ezero := [] } := by kernel_rfl
theorem Tryz.tm_73 : Tryz.tm 73 = { kind := 1, size := 1, offs := [], zero := [.nilfn], el := 0, esz := 0, eby := 0, eagg := false, ik := none, eqs := false, ezero := [] } := by kernel_rfl
theorem Tryz.tm_74 : Tryz.tm 74 = { kind := 1, size := 1, offs := [], zero := [.nilfn], el := 0, esz := 0, eby := 0, eagg := false, ik := none, eqs := false, ezero := [] } := by kernel_rfl
theorem Tryz.tm_75 : Tryz.tm 75 = { kind := 1, size := 1, offs := [], zero := [.nilfn], el := 0, esz := 0, eby := 0, eagg := false, ik := none, eqs := false, ezero := [] } := by kernel_rfl
theorem Tryz.tm_76 : Tryz.tm 76 = { kind := 1, size := 1, offs := [], zero := [.nilfn], el := 0, esz := 0, eby := 0, eagg := false, ik := none, eqs := false, ezero := [] } := by kernel_rfl
theorem Tryz.tm_77 : Tryz.tm 77 = { kind := 1, size := 1, offs := [], zero := [.nilfn], el := 0, esz := 0, eby := 0, eagg := false, ik := none, eqs := false, ezero := [] } := by kernel_rfl
theorem Tryz.tm_78 : Tryz.tm 78 = { kind := 1, size := 1, offs := [], zero := [.nilfn], el := 0, esz := 0, eby := 0, eagg := false, ik := none, eqs := false, ezero := [] } := by kernel_rfl
theorem Tryz.tm_79 : Tryz.tm 79 = { kind := 1, size := 1, offs := [], zero := [.nilfn], el := 0, esz := 0, eby := 0, eagg := false, ik := none, eqs := false, ezero := [] } := by kernel_rfl
theorem Tryz.tm_81 : Tryz.tm 81 = { kind := 1, size := 1, offs := [], zero := [.nilfn], el := 0, esz := 0, eby := 0, eagg := false, ik := none, eqs := false, ezero := [] } := by kernel_rfl
theorem Tryz.tm_82 : Tryz.tm 82 = { kind := 1, size := 1, offs := [], zero := [.nilfn], el := 0, esz := 0, eby := 0, eagg := false, ik := none, eqs := false, ezero := [] } := by kernel_rfl
theorem Tryz.tm_83 : Tryz.tm 83 = { kind := 1, size := 1, offs := [], zero := [.nilfn], el := 0, esz := 0, eby := 0, eagg := false, ik := none, eqs := false, ezero := [] } := by kernel_rfl
theorem Tryz.tm_84 : Tryz.tm 84 = { kind := 1, size := 1, offs := [], zero := [.nilfn], el := 0, esz := 0, eby := 0, eagg := false, ik := none, eqs := false, ezero := [] } := by kernel_rfl
theorem Tryz.tm_85 : Tryz.tm 85 = { kind := 1, size := 1, offs := [], zero := [.nilfn], el := 0, esz := 0, eby := 0, eagg := false, ik := none, eqs := false, ezero := [] } := by kernel_rfl
theorem Tryz.tm_86 : Tryz.tm 86 = { kind := 1, size := 1, offs := [], zero := [.nilfn], el := 0, esz := 0, eby := 0, eagg := false, ik := none, eqs := false, ezero := [] } := by kernel_rfl
theorem Tryz.tm_87 : Tryz.tm 87 = { kind := 1, size := 1, offs := [], zero := [.nilfn], el := 0, esz := 0, eby := 0, eagg := false, ik := none, eqs := false, ezero := [] } := by kernel_rfl
theorem Tryz.tm_88 : Tryz.tm 88 = { kind := 1, size := 1, offs := [], zero := [.nilfn], el := 0, esz := 0, eby := 0, eagg := false, ik := none, eqs := false, ezero := [] } := by kernel_rfl
theorem Tryz.tm_89 : Tryz.tm 89 = { kind := 1, size := 1, offs := [], zero := [.nilfn], el := 0, esz := 0, eby := 0, eagg := false, ik := none, eqs := false, ezero := [] } := by kernel_rfl
theorem Tryz.tm_90 : Tryz.tm 90 = { kind := 2, size := 3, offs := [(0, 1, false), (1, 1, false), (2, 1, false)], zero := [.int .i64 0, .int .i64 0, .str []], el := 0, esz := 0, eby := 0, eagg := false, ik := none, eqs := false, ezero := [] } := by kernel_rfl
theorem Tryz.tm_91 : Tryz.tm 91 = { kind := 2, size := 3, offs := [(0, 1, false), (1, 1, false), (2, 1, false)], zero := [.int .i64 0, .int .i64 0, .str []], el := 0, esz := 0, eby := 0, eagg := false, ik := none, eqs := true, ezero := [] } := by kernel_rfl
theorem Tryz.tm_93 : Tryz.tm 93 = { kind := 1, size := 1, offs := [], zero := [.nilfn], el := 0, esz := 0, eby := 0, eagg := false, ik := none, eqs := false, ezero := [] } := by kernel_rfl
theorem Tryz.tm_95 : Tryz.tm 95 = { kind := 1, size := 1, offs := [], zero := [.nilfn], el := 0, esz := 0, eby := 0, eagg := false, ik := none, eqs := false, ezero := [] } := by kernel_rfl
theorem Tryz.tm_97 : Tryz.tm 97 = { kind := 1, size := 1, offs := [], zero := [.nilfn], el := 0, esz := 0, eby := 0, eagg := false, ik := none, eqs := false, ezero := [] } := by kernel_rfl
theorem Tryz.tm_98 : Tryz.tm 98 = { kind := 1, size := 1, offs := [], zero := [.nilfn], el := 0, esz := 0, eby := 0, eagg := false, ik := none, eqs := false, ezero := [] } := by kernel_rfl
theorem Tryz.tm_99 : Tryz.tm 99 = { kind := 1, size := 1, offs := [], zero := [.nilfn], el := 0, esz := 0, eby := 0, eagg := false, ik := none, eqs := false, ezero := [] } := by kernel_rfl
theorem Tryz.tm_100 : Tryz.tm 100 = { kind := 1, size := 1, offs := [], zero := [.nilfn], el := 0, esz := 0, eby := 0, eagg := false, ik := none, eqs := false, ezero := [] } := by kernel_rfl
theorem Tryz.tm_102 : Tryz.tm 102 = { kind := 1, size := 1, offs := [], zero := [.nilfn], el := 0, esz := 0, eby := 0, eagg := false, ik := none, eqs := false, ezero := [] } := by kernel_rfl
theorem Tryz.tm_104 : Tryz.tm 104 = { kind := 1, size := 1, offs := [], zero := [.nilfn], el := 0, esz := 0, eby := 0, eagg := false, ik := none, eqs := false, ezero := [] } := by kernel_rfl
theorem Tryz.tm_106 : Tryz.tm 106 = { kind := 1, size := 1, offs := [], zero := [.nilfn], el := 0, esz := 0, eby := 0, eagg := false, ik := none, eqs := false, ezero := [] } := by kernel_rfl
theorem Tryz.tm_107 : Tryz.tm 107 = { kind := 1, size := 1, offs := [], zero := [.nilfn], el := 0, esz := 0, eby := 0, eagg := false, ik := none, eqs := false, ezero := [] } := by kernel_rfl
theorem Tryz.tm_108 : Tryz.tm 108 = { kind := 1, size := 1, offs := [], zero := [.nilfn], el := 0, esz := 0, eby := 0, eagg := false, ik := none, eqs := false, ezero := [] } := by kernel_rfl
theorem Tryz.tm_109 : Tryz.tm 109 = { kind := 1, size := 1, offs := [], zero := [.nilfn], el := 0, esz := 0, eby := 0, eagg := false, ik := none, eqs := false, ezero := [] } := by kernel_rfl
theorem Tryz.tm_110 : Tryz.tm 110 = { kind := 1, size := 1, offs := [], zero := [.nilfn], el := 0, esz := 0, eby := 0, eagg := false, ik := none, eqs := false, ezero := [] } := by kernel_rfl
theorem Tryz.tm_111 : Tryz.tm 111 = { kind := 1, size := 1, offs := [], zero := [.nilfn], el := 0, esz := 0, eby := 0, eagg := false, ik := none, eqs := false, ezero := [] } := by kernel_rfl
theorem Tryz.tm_112 : Tryz.tm 112 = { kind := 1, size := 1, offs := [], zero := [.nilfn], el := 0, esz := 0, eby := 0, eagg := false, ik := none, eqs := false, ezero := [] } := by kernel_rfl
theorem Tryz.tm_113 : Tryz.tm 113 = { kind := 1, size := 1, offs := [], zero := [.nilfn], el := 0, esz := 0, eby := 0, eagg := false, ik := none, eqs := false, ezero := [] } := by kernel_rfl
theorem Tryz.tm_114 : Tryz.tm 114 = { kind := 1, size := 1, offs := [], zero := [.nilfn], el := 0, esz := 0, eby := 0, eagg := false, ik := none, eqs := false, ezero := [] } := by kernel_rfl
theorem Tryz.tm_115 : Tryz.tm 115 = { kind := 1, size := 1, offs := [], zero := [.nilfn], el := 0, esz := 0, eby := 0, eagg := false, ik := none, eqs := false, ezero := [] } := by kernel_rfl
theorem Tryz.tm_116 : Tryz.tm 116 = { kind := 1, size := 1, offs := [], zero := [.nilfn], el := 0, esz := 0, eby := 0, eagg := false, ik := none, eqs := false, ezero := [] } := by kernel_rfl
theorem Tryz.tm_117 : Tryz.tm 117 = { kind := 1, size := 1, offs := [], zero := [.nilfn], el := 0, esz := 0, eby := 0, eagg := false, ik := none, eqs := false, ezero := [] } := by kernel_rfl
theorem Tryz.tm_118 : Tryz.tm 118 = { kind := 1, size := 1, offs := [], zero := [.nilfn], el := 0, esz := 0, eby := 0, eagg := false, ik := none, eqs := false, ezero := [] } := by kernel_rfl
theorem Tryz.tm_119 : Tryz.tm 119 = { kind := 1, size := 1, offs := [], zero := [.nilfn], el := 0, esz := 0, eby := 0, eagg := false, ik := none, eqs := false, ezero := [] } := by kernel_rfl
theorem Tryz.tm_120 : Tryz.tm 120 = { kind := 1, size := 1, offs := [], zero := [.nilfn], el := 0, esz := 0, eby := 0, eagg := false, ik := none, eqs := false, ezero := [] } := by kernel_rfl
theorem Tryz.tm_121 : Tryz.tm 121 = { kind := 1, size := 1, offs := [], zero := [.nilfn], el := 0, esz := 0, eby := 0, eagg := false, ik := none, eqs := false, ezero := [] } := by kernel_rfl
theorem Tryz.tm_122 : Tryz.tm 122 = { kind := 1, size := 1, offs := [], zero := [.nilfn], el := 0, esz := 0, eby := 0, eagg := false, ik := none, eqs := false, ezero := [] } := by kernel_rfl
theorem Tryz.tm_123 : Tryz.tm 123 = { kind := 1, size := 1, offs := [], zero := [.nilfn], el := 0, esz := 0, eby := 0, eagg := false, ik := none, eqs := false, ezero := [] } := by kernel_rfl
theorem Tryz.tm_124 : Tryz.tm 124 = { kind := 1, size := 1, offs := [], zero := [.nilfn], el := 0, esz := 0, eby := 0, eagg := false, ik := none, eqs := false, ezero := [] } := by kernel_rfl
theorem Tryz.tm_125 : Tryz.tm 125 = { kind := 1, size := 1, offs := [], zero := [.nilfn], el := 0, esz := 0, eby := 0, eagg := false, ik := none, eqs := false, ezero := [] } := by kernel_rfl
theorem Tryz.tm_126 : Tryz.tm 126 = { kind := 1, size := 1, offs := [], zero := [.nilfn], el := 0, esz := 0, eby := 0, eagg := false, ik := none, eqs := false, ezero := [] } := by kernel_rfl
theorem Tryz.tm_128 : Tryz.tm 128 = { kind := 1, size := 1, offs := [], zero := [.nilfn], el := 0, esz := 0, eby := 0, eagg := false, ik := none, eqs := false, ezero := [] } := by kernel_rfl
theorem Tryz.tm_129 : Tryz.tm 129 = { kind := 1, size := 1, offs := [], zero := [.nilfn], el := 0, esz := 0, eby := 0, eagg := false, ik := none, eqs := false, ezero := [] } := by kernel_rfl
theorem Tryz.tm_130 : Tryz.tm 130 = { kind := 1, size := 1, offs := [], zero := [.nilfn], el := 0, esz := 0, eby := 0, eagg := false, ik := none, eqs := false, ezero := [] } := by kernel_rfl
theorem Tryz.tm_131 : Tryz.tm 131 = { kind := 1, size := 1, offs := [], zero := [.nilfn], el := 0, esz := 0, eby := 0, eagg := false, ik := none, eqs := false, ezero := [] } := by kernel_rfl
theorem Tryz.tm_132 : Tryz.tm 132 = { kind := 1, size := 1, offs := [], zero := [.nilfn], el := 0, esz := 0, eby := 0, eagg := false, ik := none, eqs := false, ezero := [] } := by kernel_rfl
theorem Tryz.tm_133 : Tryz.tm 133 = { kind := 1, size := 1, offs := [], zero := [.nilfn], el := 0, esz := 0, eby := 0, eagg := false, ik := none, eqs := false, ezero := [] } := by kernel_rfl
theorem Tryz.tm_134 : Tryz.tm 134 = { kind := 1, size := 1, offs := [], zero := [.nilfn], el := 0, esz := 0, eby := 0, eagg := false, ik := none, eqs := false, ezero := [] } := by kernel_rfl
theorem Tryz.tm_135 : Tryz.tm 135 = { kind := 6, size := 1, offs := [], zero := [.int .u64 0], el := 0, esz := 0, eby := 0, eagg := false, ik := some .u64, eqs := false, ezero := [] } := by kernel_rfl
theorem Tryz.tm_136 : Tryz.tm 136 = { kind := 1, size := 1, offs := [], zero := [.nilfn], el := 0, esz := 0, eby := 0, eagg := false, ik := none, eqs := false, ezero := [] } := by kernel_rfl
theorem Tryz.tm_137 : Tryz.tm 137 = { kind := 1, size := 1, offs := [], zero := [.nilfn], el := 0, esz := 0, eby := 0, eagg := false, ik := none, eqs := false, ezero := [] } := by kernel_rfl
theorem Tryz.tm_138 : Tryz.tm 138 = { kind := 1, size := 1, offs := [], zero := [.nilfn], el := 0, esz := 0, eby := 0, eagg := false, ik := none, eqs := false, ezero := [] } := by kernel_rfl
theorem Tryz.tm_139 : Tryz.tm 139 = { kind := 1, size := 1, offs := [], zero := [.nilfn], el := 0, esz := 0, eby := 0, eagg := false, ik := none, eqs := false, ezero := [] } := by kernel_rfl
theorem Tryz.tm_140 : Tryz.tm 140 = { kind := 6, size := 1, offs := [], zero := [.int .u32 0], el := 0, esz := 0, eby := 0, eagg := false, ik := some .u32, eqs := false, ezero := [] } := by kernel_rfl
theorem Tryz.tm_141 : Tryz.tm 141 = { kind := 1, size := 1, offs := [], zero := [.nilfn], el := 0, esz := 0, eby := 0, eagg := false, ik := none, eqs := false, ezero := [] } := by kernel_rfl
theorem Tryz.tm_142 : Tryz.tm 142 = { kind := 6, size := 1, offs := [], zero := [.int .u64 0], el := 0, esz := 0, eby := 0, eagg := false, ik := some .u64, eqs := false, ezero := [] } := by kernel_rfl
theorem Tryz.tm_143 : Tryz.tm 143 = { kind := 1, size := 1, offs := [], zero := [.nilfn], el := 0, esz := 0, eby := 0, eagg := false, ik := none, eqs := false, ezero := [] } := by kernel_rfl
theorem Tryz.tm_144 : Tryz.tm 144 = { kind := 1, size := 1, offs := [], zero := [.nilfn], el := 0, esz := 0, eby := 0, eagg := false, ik := none, eqs := false, ezero := [] } := by kernel_rfl
theorem Tryz.tm_145 : Tryz.tm 145 = { kind := 1, size := 1, offs := [], zero := [.nilfn], el := 0, esz := 0, eby := 0, eagg := false, ik := none, eqs := false, ezero := [] } := by kernel_rfl
theorem Tryz.tm_146 : Tryz.tm 146 = { kind := 2, size := 4, offs := [(0, 1, false), (1, 1, false), (2, 1, false), (3, 1, false)], zero := [.nilptr, .nilptr, .nilptr, .str []], el := 0, esz := 0, eby := 0, eagg := false, ik := none, eqs := false, ezero := [] } := by kernel_rfl
theorem Tryz.tm_147 : Tryz.tm 147 = { kind := 2, size := 4, offs := [(0, 1, false), (1, 1, false), (2, 1, false), (3, 1, false)], zero := [.nilptr, .nilptr, .nilptr, .str []], el := 0, esz := 0, eby := 0, eagg := false, ik := none, eqs := false, ezero := [] } := by kernel_rfl
theorem Tryz.tm_148 : Tryz.tm 148 = { kind := 4, size := 0, offs := [], zero := [], el := 0, esz := 0, eby := 0, eagg := false, ik := none, eqs := false, ezero := [] } := by kernel_rfl
theorem Tryz.tm_151 : Tryz.tm 151 = { kind := 1, size := 1, offs := [], zero := [.nilfn], el := 0, esz := 0, eby := 0, eagg := false, ik := none, eqs := false, ezero := [] } := by kernel_rfl
theorem Tryz.tm_152 : Tryz.tm 152 = { kind := 6, size := 1, offs := [], zero := [.int .u8 0], el := 0, esz := 0, eby := 0, eagg := false, ik := some .u8, eqs := false, ezero := [] } := by kernel_rfl
theorem Tryz.tm_153 : Tryz.tm 153 = { kind := 6, size := 1, offs := [], zero := [.int .u8 0], el := 0, esz := 0, eby := 0, eagg := false, ik := some .u8, eqs := false, ezero := [] } := by kernel_rfl
theorem Tryz.tm_154 : Tryz.tm 154 = { kind := 1, size := 1, offs := [], zero := [.nilfn], el := 0, esz := 0, eby := 0, eagg := false, ik := none, eqs := false, ezero := [] } := by kernel_rfl
theorem Tryz.tm_155 : Tryz.tm 155 = { kind := 1, size := 1, offs := [], zero := [.nilptr], el := 0, esz := 0, eby := 0, eagg := false, ik := none, eqs := false, ezero := [] } := by kernel_rfl
theorem Tryz.tm_156 : Tryz.tm 156 = { kind := 6, size := 1, offs := [], zero := [.int .i32 0], el := 0, esz := 0, eby := 0, eagg := false, ik := some .i32, eqs := false, ezero := [] } := by kernel_rfl
theorem Tryz.tm_157 : Tryz.tm 157 = { kind := 6, size := 1, offs := [], zero := [.int .i32 0], el := 0, esz := 0, eby := 0, eagg := false, ik := some .i32, eqs := false, ezero := [] } := by kernel_rfl
theorem Tryz.tm_158 : Tryz.tm 158 = { kind := 2, size := 11, offs := [(0, 1, false), (1, 1, false), (2, 1, false), (3, 1, false), (4, 1, false), (5, 1, false), (6, 1, false), (7, 1, false), (8, 1, false), (9, 1, false), (10, 1, false)], zero := [.int .u64 0, .int .u64 0, .int .u32 0, .int .u8 0, .int .u8 0, .int .u8 0, .int .u8 0, .nilfn, .nilptr, .int .i32 0, .int .i32 0], el := 0, esz := 0, eby := 0, eagg := false, ik := none, eqs := false, ezero := [] } := by kernel_rfl
theorem Tryz.tm_159 : Tryz.tm 159 = { kind := 2, size := 11, offs := [(0, 1, false), (1, 1, false), (2, 1, false), (3, 1, false), (4, 1, false), (5, 1, false), (6, 1, false), (7, 1, false), (8, 1, false), (9, 1, false), (10, 1, false)], zero := [.int .u64 0, .int .u64 0, .int .u32 0, .int .u8 0, .int .u8 0, .int .u8 0, .int .u8 0, .nilfn, .nilptr, .int .i32 0, .int .i32 0], el := 0, esz := 0, eby := 0, eagg := false, ik := none, eqs := false, ezero := [] } := by kernel_rfl
end Go.Proofs
end
section
namespace Go.Proofs
open Go.Tm
theorem zS : Seat Tryz.prog Tryz.tm := ⟨Tryz.tmOk, Tryz.tmMixed⟩
end Go.Proofs
end
section
namespace Go.Tm
open Go.RowKit Go.WideShapes
theorem overs_of {P : Program} {K : FuncId} {fn : Func} {t r : TypeId} (hf : P.funcs[K]? = some fn) (hname : (fn.name == "runtime.NumGoroutine") = false) (hb : fn.body.isNone = true) (hn : Extern.findNext fn = none)
  (he : Extern.find fn = some (Extern.SlicesOverlaps.overlaps #[t, t] #[r])) {ti : TI} (ht : tiChk P t ti = true) (hk : ti.kind = 3) : Overs P K := by
 intro w x y la ca lb cb cx cy Tx Ty hne hs hx hy hz
 obtain ⟨el, j, hu, hj, hj1, hj2, hj3, hj4, _, hel'⟩ := zb7 ht hk
 subst hel'
 have hsz : ∀ w : World, (sizeOf ti.el).run P w = .ok j.size w := fun w => by simp [sizeOf, typeInfo, hj]
 obtain ⟨xb, xo, xs⟩ := x
 simp only at hs hx hne
 subst hs
 rw [run_callFunc_extern hf hname hb hn he, Go.Lib.run_overlaps_apart w t r ti.el hu j.size hsz ⟨xb, xo, none⟩ y la ca lb cb hne Tx Ty cx.size cy.size (by simp [World.shape?, hx]) (by simp [World.shape?, hy]) hz (by simp [World.frozen?, hx]) (by simp [World.frozen?, hx])]
 rfl
theorem callH_capW {P : Program} {K : FuncId} {i k s n m : Nat} {e s' : Nat} {p p' : Bool} {l l' : List D} {post : List D} {H : List (Nat × Blk)} (hE : Enters P K) (hH : getL H i = some (.arr e s p l)) (hik : i ≠ k) (hm0 : 0 < m \/ 0 < n)
  (hin : ∀ c, capK c = true -> n <= c -> m <= c -> CallH P K (.ref i s 0 n (some c) :: post) H (.ref i s 0 m (some c)) [(i, some (.arr e s' p' l'))] (k, k))
  (hout : ∀ c, capK c = true -> n <= c -> c < m -> CallH P K (.ref i s 0 n (some c) :: post) H (.ref k s 0 m none) [(k, some (.arr e s' p' l')), (i, none)] (k, k + 1)) :
  CallH P K (.ref i s 0 n (some uC) :: post) H (.ref k s 0 m (some uC)) [(k, some (.arr e s' p' l')), (i, none)] (k, k + 1) := by
 refine ⟨hE, fun fr w g hp nu vs hM hHs hnw hvs => ?_⟩
 simp only [reps] at hvs
 obtain ⟨v0, vs, rfl, h0, hvs⟩ := hvs
 have h0' := h0
 simp only [rep] at h0
 obtain ⟨q1, ad, cap, rfl, q2, q3, q4, q5, q6⟩ := h0
 have hc : rep (cx w g hp) (.ref i s 0 n (some cap)) (.slice ad n cap) := by
  simp only [rep]
  exact ⟨q1, ad, cap, rfl, q2, q3, q4, ⟨fun c h _ => by cases h; rfl, fun h => by cases h⟩, q6⟩
 have hargs : reps (cx w g hp) (.ref i s 0 n (some cap) :: post) (.slice ad n cap :: vs) := by
  simp only [reps]
  exact ⟨_, _, rfl, hc, hvs⟩
 have hck : capK cap = true := Nat.ble_eq_true_of_le (by omega)
 by_cases hcase : cap < m
 ·refine ((hout cap hck q2 hcase).2 fr w g hp nu _ hM hHs hnw hargs).mono ?_
  rintro ee w' ⟨v, g', he, ha⟩
  exact ⟨v, g', he, ha.gz, ha.gs, ha.keep, ha.mem, ha.own, rep_unk ha.res rfl⟩
 ·have hq6 := q6
  rcases q6 with q6 | ⟨b1, T1, n1, z1, _, z2, z3⟩
  ·omega
  refine ((hin cap hck q2 (by omega)).2 fr w g hp nu _ hM hHs (fun id h1 h2 => by have h1 : k <= id := h1; have h2 : id < k := h2; omega) hargs).mono ?_
  rintro ee w' ⟨v, g', he, ha⟩
  have hki : Nat.beq k i = false := zav fun e => hik e.symm
  have hnk : nu k = true := hnw k (Nat.le_refl _) (Nat.lt_succ_self _)
  have hpi : hp i = some (.arr e s p l) := hHs i _ hH
  have hni : nu i = false := by
   cases h : nu i
   ·rfl
   ·rw [(hM.nw i h).2] at hpi; cases hpi
  have hσi : g'.σ i = some (b1, 0) := (ha.gs i hni).trans z1
  let E0 : En := ⟨w', fr, fun _ => True, g', effN nu (k, k)⟩
  let F0 : FrS := ⟨fun _ => .undef, effH hp [(i, some (.arr e s' p' l'))], effN nu (k, k)⟩
  let a0 : Act := ⟨#[], []⟩
  have hR0 : Rel E0 0 F0 a0 w' g' := ⟨Nat.zero_le _, rfl, fun _ => by simp only [F0, rep], ha.mem, fun _ _ _ _ _ => .inr trivial, Keep.refl _ _, ⟨rfl, rfl⟩, fun _ _ => rfl, fun _ h => h⟩
  have hpi' : effH hp [(i, some (.arr e s' p' l'))] i = some (.arr e s' p' l') := by simp [effH, getL]
  have hnk0 : F0.nu k = true := by
   show effN nu (k, k) k = true
   simp [effN, hnk]
  obtain ⟨r1, _⟩ := Rel.made hR0 (m := k) (blk := .arr e s' p' l') (loc := some (b1, 0)) (kl := some i) (w' := w') hnk0 ((Keep.refl _ w').mono fun _ _ h => h)
   (by rintro b o h; cases h; exact .inr ⟨i, 0, rfl, by show effH hp [(i, some (.arr e s' p' l'))] i ≠ none; rw [hpi']; simp, hσi⟩)
   (by
    intro C hC hle hrf hσ
    rcases ha.mem.hd i _ hpi' with ⟨_, h⟩ | ⟨b', cs, h1, h2, h3, h4⟩
    ·have h : g'.σ i = none := h
     rw [hσi] at h; cases h
    ·have h1 : g'.σ i = some (b', 0) := h1
     rw [hσi] at h1
     simp only [Option.some.injEq, Prod.mk.injEq] at h1
     obtain ⟨rfl, _⟩ := h1
     exact .inr ⟨b1, cs, hσ, by subst hC; exact h2, h3, elems_le (C := { cx w' g' (effH hp [(i, some (.arr e s' p' l'))]) with rf := !p' }) (C' := { C with rf := !p' }) (le_rf hle rfl _ _ id) _ _ _ _ (by subst hC; rfl) h4⟩)
  have hhp : effH (effH hp [(i, some (.arr e s' p' l'))]) ((k, some (.arr e s' p' l')) :: kill (some i)) = effH hp [(k, some (.arr e s' p' l')), (i, none)] := by
   funext x
   simp only [effH, kill, getL]
   cases h1 : Nat.beq k x
   ·cases h2 : Nat.beq i x <;> simp
   ·simp
  have hnn : effN (effN nu (k, k)) (k, k + 1) = effN nu (k, k + 1) := by
   funext x
   simp only [effN]
   have : (decide (k <= x) && decide (x < k)) = false := by
    cases hx : decide (k <= x) <;> simp at hx ⊢
    omega
   rw [this]; simp
  have hmem := r1.mem
  simp only [FrS.eff, F0] at hmem
  rw [hhp, hnn] at hmem
  have hpk : effH hp [(k, some (.arr e s' p' l')), (i, none)] i = none := by simp [effH, getL, hki]
  refine ⟨v, setσ g' k (some (b1, 0)), he, ha.gz, fun id hid => ?_, ha.keep, hmem, ?_, ?_⟩
  ·have : id ≠ k := by rintro rfl; rw [hnk] at hid; cases hid
   show (if id = k then _ else g'.σ id) = g.σ id
   rw [if_neg this]
   exact ha.gs id hid
  ·rintro b0 ⟨id, o, h1, h2⟩
   have h2 : (if id = k then some (b1, 0) else g'.σ id) = some (b0, o) := h2
   by_cases hidk : id = k
   ·rw [if_pos hidk] at h2
    simp only [Option.some.injEq, Prod.mk.injEq] at h2
    obtain ⟨rfl, rfl⟩ := h2
    exact ha.own b1 ⟨i, 0, by rw [hpi']; simp, hσi⟩
   ·rw [if_neg hidk] at h2
    by_cases hidi : id = i
    ·subst hidi
     rw [hpk] at h1
     exact absurd rfl h1
    ·refine ha.own b0 ⟨id, o, ?_, h2⟩
     have a1 : Nat.beq k id = false := zav fun e => hidk e.symm
     have a2 : Nat.beq i id = false := zav fun e => hidi e.symm
     simp only [effH, getL, a1, a2] at h1 ⊢
     exact h1
  ·have hres := ha.res
   simp only [rep] at hres ⊢
   obtain ⟨_, ad', cap', hv, k1, k2, k3, k4, k5⟩ := hres
   have hcc := k4.1 cap rfl (Nat.ble_eq_true_of_le (by omega))
   subst hcc
   have hsh : w'.shape? b1 = some (T1, n1) := by
    have := ha.keep.shp b1 (shape_lt (w := w) z2)
    rw [this]; exact z2
   refine ⟨by simp [cx], ad', cap', hv, k1, k2, k3, ⟨(fun c h hk => by cases h; cases hk), (fun h => by cases h)⟩, ?_⟩
   rcases k5 with k5 | ⟨b, T, nn, y1, y2, y3, y4⟩
   ·exact .inl k5
   ·have y1 : g'.σ i = some (b, 0) := y1
    rw [hσi] at y1
    simp only [Option.some.injEq, Prod.mk.injEq] at y1
    obtain ⟨rfl, _⟩ := y1
    exact .inr ⟨b1, T, nn, by simp [cx, setσ], y2, y3, y4⟩
end Go.Tm
end
section
namespace Go.Proofs
open Go.Tm Go.RowKit Go.WideShapes
set_option maxRecDepth 100000
set_option linter.unusedSimpArgs false
set_option linter.unusedVariables false
attribute [local go_sem] argVars runE runK isCallV stepE aop opd opdsL opds opdO ev ofVal keep List.any natbeq Bool.false_or Bool.true_or aggEq cond_true cond_false Bool.cond_false_right Bool.cond_true_left beq_true beq_false imp_self implies_true getR getL put St.app effL del nwB blt_dec Nat.lt_irrefl Nat.lt_add_one ble_dec Nat.le_refl Nat.beq_refl roomNZ appendIn capS mkZ_zero mkZL_zero zeroEl D.ids D.idsL bin arith sarith binT dpick Tm.part splice fillD oneD loadD storeD srcD sliceD idxOk decide_true gval dstAt D.cells List.map_cons List.map_nil List.take List.drop List.length_map List.append Int.toNat_natCast and_true true_and decide_false List.length_cons List.length_nil List.append_nil List.nil_append Bool.and_true Bool.true_and Bool.not_false Bool.not_true ne_eq not_false_eq_true BEq.rfl List.getElem?_cons_zero List.getElem?_cons_succ List.getElem?_nil Nat.zero_add List.all_cons List.all_nil List.isEmpty_cons List.isEmpty_nil Option.getD_some Option.getD_none List.any_cons List.any_nil List.drop_succ_cons List.drop_zero unfL unf okM okML low3 List.cons_append true_or or_true Nat.zero_mul Nat.zero_le fpOf opIds
theorem overs105 : Overs Tryz.prog 105 := overs_of (r := 4) Tryz.func105 (by kernel_rfl) (by kernel_rfl) (by kernel_rfl) (by kernel_rfl) (Tryz.tmOk.1 55 (by decide)) rfl
theorem ins98e (i j k : Nat) (hij : i ≠ j) (hik : i ≠ k) (hjk : j ≠ k) (L : List D) (x : D) (P Q : Bool) (hL : L.length < 1000000) :
  CallH Tryz.prog 98 [.ref i 3 0 L.length (some uC), .int .i64 (L.length : Int), .ref j 3 0 1 (some 1)] [(i, .arr 91 3 P L), (j, .arr 91 3 Q [x])] (.ref k 3 0 (L.length + 1) (some uC)) [(k, some (.arr 91 3 (P && Q) (L ++ [x]))), (i, none)] (k, k + 1) := by
 have bij : Nat.beq i j = false := zav hij
 have bik : Nat.beq i k = false := zav hik
 have bjk : Nat.beq j k = false := zav hjk
 have bji : Nat.beq j i = false := zav (Ne.symm hij)
 have bki : Nat.beq k i = false := zav (Ne.symm hik)
 have bkj : Nat.beq k j = false := zav (Ne.symm hjk)
 have n10 : ¬ ((1 : Int) = 0) := by omega
 have hx : (1 : Nat) <= 1 := Nat.le_refl _
 refine za8 Tryz.tmOk Tryz.func98 rfl (by decide) (lb rfl) (by simp) ?_
 intro hwf
 refine .seq ?_
 refine .pp zS [0, 1, 2] (by intro q hq; simp only [go_sem, za7, Nat.reduceSub, Int.reduceEq, Nat.reduceLT, Nat.reduceDiv, Nat.reduceAdd, Nat.reduceBEq, Nat.reduceLeDiff, reduceCtorEq, Nat.reduceEqDiff, Nat.reduceMod, capK, bij, bik, bjk, bji, bki, bkj]; exact hq) ?_
 refine .seq ?_
 refine .pp zS [0, 1, 2] (by intro q hq; simp only [go_sem, za7, Nat.reduceSub, Int.reduceEq, Nat.reduceLT, Nat.reduceDiv, Nat.reduceAdd, Nat.reduceBEq, Nat.reduceLeDiff, reduceCtorEq, Nat.reduceEqDiff, Nat.reduceMod, capK, Tryz.tm_55, Tryz.tm_3, bij, bik, bjk, bji, bki, bkj]; exact hq) ?_
 refine .seq ?_
 refine .pp zS [0, 1, 2] (by intro q hq; simp only [go_sem, za7, Nat.reduceSub, Int.reduceEq, Nat.reduceLT, Nat.reduceDiv, Nat.reduceAdd, Nat.reduceBEq, Nat.reduceLeDiff, reduceCtorEq, Nat.reduceEqDiff, Nat.reduceMod, capK, Tryz.tm_55, Tryz.tm_3, bij, bik, bjk, bji, bki, bkj]; exact hq) ?_
 refine .seq ?_
 refine .seq ?_
 refine .pp zS [0, 1, 2, 7] (by intro q hq; simp only [go_sem, za7, Nat.reduceSub, Int.reduceEq, Nat.reduceLT, Nat.reduceDiv, Nat.reduceAdd, Nat.reduceBEq, Nat.reduceLeDiff, reduceCtorEq, Nat.reduceEqDiff, Nat.reduceMod, capK, Tryz.tm_55, Tryz.tm_3]; exact hq) ?_
 refine .cond rfl rfl (fun hc => by simp at hc) (fun hc => ?_)
 refine .skip ?_
 refine .seq ?_
 refine .pp zS [0, 1, 2, 7] (by intro q hq; simp only [go_sem, za7, Nat.reduceSub, Int.reduceEq, Nat.reduceLT, Nat.reduceDiv, Nat.reduceAdd, Nat.reduceBEq, Nat.reduceLeDiff, reduceCtorEq, Nat.reduceEqDiff, Nat.reduceMod, capK, Tryz.tm_55, Tryz.tm_3]; exact hq) ?_
 refine .seq ?_
 refine .seq ?_
 refine .pp zS [0, 1, 2, 7, 8] (by intro q hq; simp only [go_sem, za7, Nat.reduceSub, Int.reduceEq, Nat.reduceLT, Nat.reduceDiv, Nat.reduceAdd, Nat.reduceBEq, Nat.reduceLeDiff, reduceCtorEq, Nat.reduceEqDiff, Nat.reduceMod, capK, Tryz.tm_55, Tryz.tm_3]; exact hq) ?_
 refine .cond rfl rfl (fun hc => ?_) (fun hc => by simp at hc)
 refine .seq ?_
 refine .pp zS [0, 2] (by intro q hq; simp only [go_sem, za7, Nat.reduceSub, Int.reduceEq, Nat.reduceLT, Nat.reduceDiv, Nat.reduceAdd, Nat.reduceBEq, Nat.reduceLeDiff, reduceCtorEq, Nat.reduceEqDiff, Nat.reduceMod, capK, Tryz.tm_55, Tryz.tm_3, bij, bik, bjk, bji, bki, bkj]; exact hq) ?_
 refine .ret ⟨.inr rfl, retH [j, k] ?_ ?_⟩
 ·simp only [ResIs, resL, resD, resT, go_sem, za7, Nat.reduceSub, Int.reduceEq, Nat.reduceLT, Nat.reduceDiv, Nat.reduceAdd, Nat.reduceBEq, Nat.reduceLeDiff, reduceCtorEq, Nat.reduceEqDiff, Nat.reduceMod, Tryz.f98]
 ·simp only [pickL, getL, effL, put, del, Nat.beq_refl, cond_true, cond_false, bij, bik, bjk, bji, bki, bkj, List.take_length]
theorem ins98g (i j k : Nat) (hij : i ≠ j) (hik : i ≠ k) (hjk : j ≠ k) (L : List D) (x : D) (P Q : Bool) (at' c : Nat) (hck : capK c = true) (hat : at' < L.length) (hL : L.length < 1000000) (h1 : L.length <= c) (h2 : c < L.length + 1) :
  CallH Tryz.prog 98 [.ref i 3 0 L.length (some c), .int .i64 (at' : Int), .ref j 3 0 1 (some 1)] [(i, .arr 91 3 P L), (j, .arr 91 3 Q [x])] (.ref k 3 0 (L.length + 1) none) [(k, some (.arr 91 3 (P && Q) (L.take at' ++ x :: L.drop at'))), (i, none)] (k, k + 1) := by
 obtain rfl : c = L.length := by omega
 have hck2 := hck
 have bij : Nat.beq i j = false := zav hij
 have bik : Nat.beq i k = false := zav hik
 have bjk : Nat.beq j k = false := zav hjk
 have bji : Nat.beq j i = false := zav (Ne.symm hij)
 have bki : Nat.beq k i = false := zav (Ne.symm hik)
 have bkj : Nat.beq k j = false := zav (Ne.symm hjk)
 have hw : wr .i64 ((L.length : Int) + ((1 : Nat) : Int)) = ((L.length + 1 : Nat) : Int) := wr_eq _ _ (by show (-9223372036854775808 : Int) <= _; omega) (by show _ <= (9223372036854775807 : Int); omega)
 have hw2 : wr .i64 (((L.length + 1 : Nat) : Int) - (at' : Int)) = ((L.length + 1 - at' : Nat) : Int) := by
  rw [wr_eq _ _ (by show (-9223372036854775808 : Int) <= _; omega) (by show _ <= (9223372036854775807 : Int); omega)]
  omega
 have hw3 : wr .i64 ((at' : Int) + ((1 : Nat) : Int)) = ((at' + 1 : Nat) : Int) := wr_eq _ _ (by show (-9223372036854775808 : Int) <= _; omega) (by show _ <= (9223372036854775807 : Int); omega)
 have ha : at' + (L.length + 1 - at') = L.length + 1 := by omega
 have pq : (P && Q && P) = (P && Q) := by cases P <;> cases Q <;> rfl
 have hm1 : Nat.min 1 (L.length + 1 - at') = 1 := by show min 1 (L.length + 1 - at') = 1; omega
 have hm2 : Nat.min (L.length - at') (L.length + 1 - (at' + 1)) = L.length - at' := by show min (L.length - at') (L.length + 1 - (at' + 1)) = L.length - at'; omega
 have tk : (L.take at').length = at' := by simp; omega
 have e1 : List.take at' (List.take at' L ++ List.replicate (L.length + 1 - at') (D.agg [D.int .i64 0, D.int .i64 0, D.str []])) = List.take at' L := by
  rw [List.take_append_of_le_length (by omega), List.take_of_length_le (by omega)]
 have e2 : List.drop (at' + 1) (List.take at' L ++ List.replicate (L.length + 1 - at') (D.agg [D.int .i64 0, D.int .i64 0, D.str []])) = List.replicate (L.length - at') (D.agg [D.int .i64 0, D.int .i64 0, D.str []]) := by
  rw [List.drop_append, List.drop_eq_nil_of_le (by omega), tk, List.nil_append, List.drop_replicate]
  congr 1; omega
 have e3 : List.take (at' + 1) (List.take at' L ++ [x] ++ List.replicate (L.length - at') (D.agg [D.int .i64 0, D.int .i64 0, D.str []])) = List.take at' L ++ [x] := by
  rw [List.take_append_of_le_length (by simp; omega), List.take_of_length_le (by simp; omega)]
 have e4 : List.drop (at' + 1 + (L.length - at')) (List.take at' L ++ [x] ++ List.replicate (L.length - at') (D.agg [D.int .i64 0, D.int .i64 0, D.str []])) = [] := List.drop_eq_nil_of_le (by simp; omega)
 have e5 : List.take (L.length - at') (List.drop at' L) = List.drop at' L := List.take_of_length_le (by simp)
 have l1 : (List.take at' L ++ List.replicate (L.length + 1 - at') (D.agg [D.int .i64 0, D.int .i64 0, D.str []])).length = L.length + 1 := by simp; omega
 have l2 : (List.take at' L ++ [x] ++ List.replicate (L.length - at') (D.agg [D.int .i64 0, D.int .i64 0, D.str []])).length = L.length + 1 := by simp; omega
 refine za8 Tryz.tmOk Tryz.func98 rfl (by decide) (lb rfl) (by simp) ?_
 intro hwf
 refine .seq ?_
 refine .pp zS [0, 1, 2] (by intro q hq; simp only [go_sem, za7, Nat.reduceSub, Int.reduceEq, Nat.reduceLT, Nat.reduceDiv, Nat.reduceAdd, Nat.reduceBEq, Nat.reduceLeDiff, reduceCtorEq, Nat.reduceEqDiff, Nat.reduceMod, hck]; exact hq) ?_
 refine .seq ?_
 refine .pp zS [0, 1, 2] (by intro q hq; simp only [go_sem, za7, Nat.reduceSub, Int.reduceEq, Nat.reduceLT, Nat.reduceDiv, Nat.reduceAdd, Nat.reduceBEq, Nat.reduceLeDiff, reduceCtorEq, Nat.reduceEqDiff, Nat.reduceMod, Tryz.tm_55, Tryz.tm_3, hck]; exact hq) ?_
 refine .seq ?_
 refine .pp zS [0, 1, 2] (by intro q hq; simp only [go_sem, za7, Nat.reduceSub, Int.reduceEq, Nat.reduceLT, Nat.reduceDiv, Nat.reduceAdd, Nat.reduceBEq, Nat.reduceLeDiff, reduceCtorEq, Nat.reduceEqDiff, Nat.reduceMod, Tryz.tm_55, Tryz.tm_3, hck]; exact hq) ?_
 refine .seq ?_
 refine .seq ?_
 refine .pp zS [0, 1, 2, 7] (by intro q hq; simp only [go_sem, za7, Nat.reduceSub, Int.reduceEq, Nat.reduceLT, Nat.reduceDiv, Nat.reduceAdd, Nat.reduceBEq, Nat.reduceLeDiff, reduceCtorEq, Nat.reduceEqDiff, Nat.reduceMod, Tryz.tm_55, Tryz.tm_3, hck]; exact hq) ?_
 refine .cond rfl rfl (fun hc => by simp at hc) (fun hc => ?_)
 refine .skip ?_
 refine .seq ?_
 refine .pp zS [0, 1, 2, 7] (by intro q hq; simp only [go_sem, za7, Nat.reduceSub, Int.reduceEq, Nat.reduceLT, Nat.reduceDiv, Nat.reduceAdd, Nat.reduceBEq, Nat.reduceLeDiff, reduceCtorEq, Nat.reduceEqDiff, Nat.reduceMod, Tryz.tm_55, Tryz.tm_3, hck]; exact hq) ?_
 refine .seq ?_
 refine .seq ?_
 refine .pp zS [0, 1, 2, 7, 8] (by intro q hq; simp only [go_sem, za7, Nat.reduceSub, Int.reduceEq, Nat.reduceLT, Nat.reduceDiv, Nat.reduceAdd, Nat.reduceBEq, Nat.reduceLeDiff, reduceCtorEq, Nat.reduceEqDiff, Nat.reduceMod, Tryz.tm_55, Tryz.tm_3, hck]; exact hq) ?_
 refine .cond rfl rfl (fun hc => by simp at hc; omega) (fun hc => ?_)
 refine .skip ?_
 refine .seq ?_
 refine .seq ?_
 refine .pp zS [0, 1, 2, 7, 8] (by intro q hq; simp only [go_sem, za7, Nat.reduceSub, Int.reduceEq, Nat.reduceLT, Nat.reduceDiv, Nat.reduceAdd, Nat.reduceBEq, Nat.reduceLeDiff, reduceCtorEq, Nat.reduceEqDiff, Nat.reduceMod, Tryz.tm_55, Tryz.tm_3, hck, hw]; exact hq) ?_
 refine .cond rfl rfl (fun hc => ?_) (fun hc => by simp at hc; omega)
 refine .seq ?_
 refine .pp zS [0, 1, 2, 7, 8] (by intro q hq; simp only [go_sem, za7, Nat.reduceSub, Int.reduceEq, Nat.reduceLT, Nat.reduceDiv, Nat.reduceAdd, Nat.reduceBEq, Nat.reduceLeDiff, reduceCtorEq, Nat.reduceEqDiff, Nat.reduceMod, Tryz.tm_55, Tryz.tm_3, hck, hw, hw2, ha, appendZ, Int.sub_zero, Int.toNat_zero, Int.toNat_sub, bij, bik, bjk, bji, bki, bkj]; exact hq) ?_
 refine .seq ?_
 refine .pp zS [0, 1, 2, 7, 8, 9] (by intro q hq; simp only [go_sem, za7, Nat.reduceSub, Int.reduceEq, Nat.reduceLT, Nat.reduceDiv, Nat.reduceAdd, Nat.reduceBEq, Nat.reduceLeDiff, reduceCtorEq, Nat.reduceEqDiff, Nat.reduceMod, Tryz.tm_55, Tryz.tm_3, hck, hw, hw2, ha, appendZ, Int.sub_zero, Int.toNat_zero, Int.toNat_sub, bij, bik, bjk, bji, bki, bkj, Int.toNat_sub, hm1, e1, e2, List.take_one, List.take_succ_cons]; exact hq) ?_
 refine .seq ?_
 refine .drawn Tryz.tmOk Tryz.tmMixed [0, 1, 2, 7, 8, 9] (by decide +kernel) (by intro q hq; simp only [go_sem, za7, Nat.reduceSub, Int.reduceEq, Nat.reduceLT, Nat.reduceDiv, Nat.reduceAdd, Nat.reduceBEq, Nat.reduceLeDiff, reduceCtorEq, Nat.reduceEqDiff, Nat.reduceMod, Tryz.tm_55, Tryz.tm_3, hck, hw, hw2, hw3, ha, appendZ, capS, bij, bik, bjk, bji, bki, bkj, Int.toNat_sub, hm1, hm2, e3, e4, e5]; exact hq) (schedB_of (by kernel_rfl)) (by first | rfl | (simp only [go_sem, Nat.reduceLeDiff]; done) | (simp only [go_sem, Nat.reduceLeDiff]; rfl) | (simp; done) | (simp [oneD] <;> omega) | (simp_all; done) | (simp_all [oneD] <;> omega)) (by first | exact Nat.le_refl _ | exact Nat.le_of_ble_eq_true rfl | (dsimp only; omega) | (simp <;> omega)) ?_
 refine .seq ?_
 refine .pp zS [9] (by intro q hq; simp only [go_sem, za7, Nat.reduceSub, Int.reduceEq, Nat.reduceLT, Nat.reduceDiv, Nat.reduceAdd, Nat.reduceBEq, Nat.reduceLeDiff, reduceCtorEq, Nat.reduceEqDiff, Nat.reduceMod, Tryz.tm_55, Tryz.tm_3, hck]; exact hq) ?_
 refine .ret ⟨.inr rfl, retH [j, k] ?_ ?_⟩
 ·simp only [ResIs, resL, resD, resT, go_sem, za7, Nat.reduceSub, Int.reduceEq, Nat.reduceLT, Nat.reduceDiv, Nat.reduceAdd, Nat.reduceBEq, Nat.reduceLeDiff, reduceCtorEq, Nat.reduceEqDiff, Nat.reduceMod, Tryz.f98]
 ·simp only [pickL, getL, effL, put, del, Nat.beq_refl, cond_true, cond_false, bij, bik, bjk, bji, bki, bkj, pq, List.append_assoc, List.singleton_append, List.append_nil]
theorem ins98r (i j k : Nat) (hij : i ≠ j) (L : List D) (x : D) (P Q : Bool) (at' c : Nat) (hck : capK c = true) (hat : at' < L.length) (hL : L.length < 1000000) (h1 : L.length + 1 <= c) :
  CallH Tryz.prog 98 [.ref i 3 0 L.length (some c), .int .i64 (at' : Int), .ref j 3 0 1 (some 1)] [(i, .arr 91 3 P L), (j, .arr 91 3 Q [x])] (.ref i 3 0 (L.length + 1) (some c)) [(i, some (.arr 91 3 (P && Q) (L.take at' ++ x :: L.drop at')))] (k, k) := by
 have bij : Nat.beq i j = false := zav hij
 have bji : Nat.beq j i = false := zav (Ne.symm hij)
 have hw : wr .i64 ((L.length : Int) + ((1 : Nat) : Int)) = ((L.length + 1 : Nat) : Int) := wr_eq _ _ (by show (-9223372036854775808 : Int) <= _; omega) (by show _ <= (9223372036854775807 : Int); omega)
 have hw3 : wr .i64 ((at' : Int) + ((1 : Nat) : Int)) = ((at' + 1 : Nat) : Int) := wr_eq _ _ (by show (-9223372036854775808 : Int) <= _; omega) (by show _ <= (9223372036854775807 : Int); omega)
 have hm1 : Nat.min 1 (L.length + 1 - at') = 1 := by show min 1 (L.length + 1 - at') = 1; omega
 have hm2 : Nat.min (L.length + 1 - at') (L.length + 1 - (at' + 1)) = L.length - at' := by show min (L.length + 1 - at') (L.length + 1 - (at' + 1)) = L.length - at'; omega
 have hn1 : L.length + 1 - (at' + 1) = (L.length - at' - 1) + 1 := by omega
 have tk : (L.take at').length = at' := by simp; omega
 have tk1 : (L.take (at' + 1)).length = at' + 1 := by simp; omega
 have e5 : List.take (L.length - at') (List.drop at' L) = List.drop at' L := List.take_of_length_le (by simp)
 have e4 : List.drop (at' + 1 + (L.length - at')) L = [] := List.drop_eq_nil_of_le (by omega)
 have e1 : List.take at' (List.take (at' + 1) L ++ List.drop at' L) = List.take at' L := by
  rw [List.take_append_of_le_length (by omega), List.take_take]
  congr 1; omega
 have e2 : List.drop (at' + 1) (List.take (at' + 1) L ++ List.drop at' L) = List.drop at' L := by
  rw [List.drop_append, List.drop_eq_nil_of_le (by omega), tk1, Nat.sub_self, List.drop_zero, List.nil_append]
 refine za8 Tryz.tmOk Tryz.func98 rfl (by decide) (lb rfl) (by simp) ?_
 intro hwf
 refine .seq ?_
 refine .pp zS [0, 1, 2] (by intro q hq; simp only [go_sem, za7, Nat.reduceSub, Int.reduceEq, Nat.reduceLT, Nat.reduceDiv, Nat.reduceAdd, Nat.reduceBEq, Nat.reduceLeDiff, reduceCtorEq, Nat.reduceEqDiff, Nat.reduceMod, hck]; exact hq) ?_
 refine .seq ?_
 refine .pp zS [0, 1, 2] (by intro q hq; simp only [go_sem, za7, Nat.reduceSub, Int.reduceEq, Nat.reduceLT, Nat.reduceDiv, Nat.reduceAdd, Nat.reduceBEq, Nat.reduceLeDiff, reduceCtorEq, Nat.reduceEqDiff, Nat.reduceMod, Tryz.tm_55, Tryz.tm_3, hck]; exact hq) ?_
 refine .seq ?_
 refine .pp zS [0, 1, 2] (by intro q hq; simp only [go_sem, za7, Nat.reduceSub, Int.reduceEq, Nat.reduceLT, Nat.reduceDiv, Nat.reduceAdd, Nat.reduceBEq, Nat.reduceLeDiff, reduceCtorEq, Nat.reduceEqDiff, Nat.reduceMod, Tryz.tm_55, Tryz.tm_3, hck]; exact hq) ?_
 refine .seq ?_
 refine .seq ?_
 refine .pp zS [0, 1, 2, 7] (by intro q hq; simp only [go_sem, za7, Nat.reduceSub, Int.reduceEq, Nat.reduceLT, Nat.reduceDiv, Nat.reduceAdd, Nat.reduceBEq, Nat.reduceLeDiff, reduceCtorEq, Nat.reduceEqDiff, Nat.reduceMod, Tryz.tm_55, Tryz.tm_3, hck]; exact hq) ?_
 refine .cond rfl rfl (fun hc => by simp at hc) (fun hc => ?_)
 refine .skip ?_
 refine .seq ?_
 refine .pp zS [0, 1, 2, 7] (by intro q hq; simp only [go_sem, za7, Nat.reduceSub, Int.reduceEq, Nat.reduceLT, Nat.reduceDiv, Nat.reduceAdd, Nat.reduceBEq, Nat.reduceLeDiff, reduceCtorEq, Nat.reduceEqDiff, Nat.reduceMod, Tryz.tm_55, Tryz.tm_3, hck]; exact hq) ?_
 refine .seq ?_
 refine .seq ?_
 refine .pp zS [0, 1, 2, 7, 8] (by intro q hq; simp only [go_sem, za7, Nat.reduceSub, Int.reduceEq, Nat.reduceLT, Nat.reduceDiv, Nat.reduceAdd, Nat.reduceBEq, Nat.reduceLeDiff, reduceCtorEq, Nat.reduceEqDiff, Nat.reduceMod, Tryz.tm_55, Tryz.tm_3, hck]; exact hq) ?_
 refine .cond rfl rfl (fun hc => by simp at hc; omega) (fun hc => ?_)
 refine .skip ?_
 refine .seq ?_
 refine .seq ?_
 refine .pp zS [0, 1, 2, 7, 8] (by intro q hq; simp only [go_sem, za7, Nat.reduceSub, Int.reduceEq, Nat.reduceLT, Nat.reduceDiv, Nat.reduceAdd, Nat.reduceBEq, Nat.reduceLeDiff, reduceCtorEq, Nat.reduceEqDiff, Nat.reduceMod, Tryz.tm_55, Tryz.tm_3, hck, hw]; exact hq) ?_
 refine .cond rfl rfl (fun hc => by simp at hc; omega) (fun hc => ?_)
 refine .skip ?_
 refine .seq ?_
 refine .pp zS [0, 1, 2, 7, 8] (by intro q hq; simp only [go_sem, za7, Nat.reduceSub, Int.reduceEq, Nat.reduceLT, Nat.reduceDiv, Nat.reduceAdd, Nat.reduceBEq, Nat.reduceLeDiff, reduceCtorEq, Nat.reduceEqDiff, Nat.reduceMod, Tryz.tm_55, Tryz.tm_3, hck, hw, roomV, Option.isSome, Int.sub_zero, Int.toNat_zero, Nat.sub_zero, bij, bji]; exact hq) ?_
 refine .seq ?_
 refine .seq ?_
 refine .reg Tryz.tmOk Tryz.tmMixed [0, 1, 2, 7] (by decide +kernel) ?_
 refine .R (dr := false) (.inr fun _ _ _ h => ⟨nofun, h.2⟩) (by intro q hq; simp only [go_sem, za7, Nat.reduceSub, Int.reduceEq, Nat.reduceLT, Nat.reduceDiv, Nat.reduceAdd, Nat.reduceBEq, Nat.reduceLeDiff, reduceCtorEq, Nat.reduceEqDiff, Nat.reduceMod, Tryz.tm_55, Tryz.tm_3, hck, hw3, Int.toNat_sub, bij, bji]; exact hq) (by first | rfl | (simp only [go_sem, Nat.reduceLeDiff]; done) | (simp only [go_sem, Nat.reduceLeDiff]; rfl) | (simp; done) | (simp [oneD] <;> omega) | (simp_all; done) | (simp_all [oneD] <;> omega)) (by first | exact Nat.le_refl _ | exact Nat.le_of_ble_eq_true rfl | (dsimp only; omega) | (simp <;> omega)) ?_
 refine .overs (i := j) (j := i) rfl rfl rfl rfl rfl overs105 ⟨3, 0, 0, some 1, 3 - 1, at' + 1, L.length - at' - 1, some (c - (at' + 1)), 91, 3, Q, [x], 91, 3, P, L, by
  show [D.ref j 3 0 1 (some 1), D.ref i 3 (at' + 1) (L.length + 1 - (at' + 1)) (some (c - (at' + 1)))] = _
  rw [hn1], by simp only [getL, bij, cond_false, Nat.beq_refl, cond_true], by simp only [getL, Nat.beq_refl, cond_true], Ne.symm hij⟩ ?_
 refine .R (dr := false) (.inr fun _ _ _ h => ⟨nofun, h.2⟩) (by intro q hq; simp only [go_sem, za7, Nat.reduceSub, Int.reduceEq, Nat.reduceLT, Nat.reduceDiv, Nat.reduceAdd, Nat.reduceBEq, Nat.reduceLeDiff, reduceCtorEq, Nat.reduceEqDiff, Nat.reduceMod, Tryz.tm_55, Tryz.tm_3, hck]; exact hq) (by first | rfl | (simp only [go_sem, Nat.reduceLeDiff]; done) | (simp only [go_sem, Nat.reduceLeDiff]; rfl) | (simp; done) | (simp [oneD] <;> omega) | (simp_all; done) | (simp_all [oneD] <;> omega)) (by first | exact Nat.le_refl _ | exact Nat.le_of_ble_eq_true rfl | (dsimp only; omega) | (simp <;> omega)) ?_
 refine .nil ⟨nofun, ?_⟩
 refine .cond rfl rfl (fun hc => ?_) (fun hc => by cases hc)
 refine .seq ?_
 refine .drawn Tryz.tmOk Tryz.tmMixed [0, 1, 2, 7] (by decide +kernel) (by intro q hq; simp only [go_sem, za7, Nat.reduceSub, Int.reduceEq, Nat.reduceLT, Nat.reduceDiv, Nat.reduceAdd, Nat.reduceBEq, Nat.reduceLeDiff, reduceCtorEq, Nat.reduceEqDiff, Nat.reduceMod, Tryz.tm_55, Tryz.tm_3, hck, hw3, Int.toNat_sub, hm2, e4, e5, bij, bji, Bool.and_self, List.append_nil]; exact hq) (schedB_of (by kernel_rfl)) (by first | rfl | (simp only [go_sem, Nat.reduceLeDiff]; done) | (simp only [go_sem, Nat.reduceLeDiff]; rfl) | (simp; done) | (simp [oneD] <;> omega) | (simp_all; done) | (simp_all [oneD] <;> omega)) (by first | exact Nat.le_refl _ | exact Nat.le_of_ble_eq_true rfl | (dsimp only; omega) | (simp <;> omega)) ?_
 refine .seq ?_
 refine .pp zS [0, 1, 2] (by intro q hq; simp only [go_sem, za7, Nat.reduceSub, Int.reduceEq, Nat.reduceLT, Nat.reduceDiv, Nat.reduceAdd, Nat.reduceBEq, Nat.reduceLeDiff, reduceCtorEq, Nat.reduceEqDiff, Nat.reduceMod, Tryz.tm_55, Tryz.tm_3, hck, Int.toNat_sub, hm1, e1, e2, bij, bji, List.take_succ_cons]; exact hq) ?_
 refine .seq ?_
 refine .pp zS [0] (by intro q hq; simp only [go_sem, za7, Nat.reduceSub, Int.reduceEq, Nat.reduceLT, Nat.reduceDiv, Nat.reduceAdd, Nat.reduceBEq, Nat.reduceLeDiff, reduceCtorEq, Nat.reduceEqDiff, Nat.reduceMod, Tryz.tm_55, Tryz.tm_3, hck]; exact hq) ?_
 refine .ret ⟨.inr rfl, retH [i, j] ?_ ?_⟩
 ·simp only [ResIs, resL, resD, resT, go_sem, za7, Nat.reduceSub, Int.reduceEq, Nat.reduceLT, Nat.reduceDiv, Nat.reduceAdd, Nat.reduceBEq, Nat.reduceLeDiff, reduceCtorEq, Nat.reduceEqDiff, Nat.reduceMod, Tryz.f98]
 ·simp only [pickL, getL, effL, put, del, Nat.beq_refl, cond_true, cond_false, bij, bji, List.append_assoc, List.singleton_append, List.append_nil]
theorem ins98 (i j k : Nat) (hij : i ≠ j) (hik : i ≠ k) (hjk : j ≠ k) (L : List D) (x : D) (P Q : Bool) (at' : Nat) (hat : at' <= L.length) (hL : L.length < 1000000) :
  CallH Tryz.prog 98 [.ref i 3 0 L.length (some uC), .int .i64 (at' : Int), .ref j 3 0 1 (some 1)] [(i, .arr 91 3 P L), (j, .arr 91 3 Q [x])] (.ref k 3 0 (L.length + 1) (some uC)) [(k, some (.arr 91 3 (P && Q) (L.take at' ++ x :: L.drop at'))), (i, none)] (k, k + 1) := by
 by_cases h : at' = L.length
 ·subst h
  have := ins98e i j k hij hik hjk L x P Q hL
  rw [List.take_length, List.drop_length]
  exact this
 ·exact callH_capW (l := L) (p := P) (ins98e i j k hij hik hjk L x P Q hL).1 (by simp only [getL, Nat.beq_refl, cond_true]) hik (by omega)
   (fun c hc _ h2 => ins98r i j k hij L x P Q at' c hc (by omega) hL h2)
   (fun c hc h1 h2 => ins98g i j k hij hik hjk L x P Q at' c hc (by omega) hL h1 h2)
end Go.Proofs
end
section
namespace Go.Proofs
open Go.Tm Go.RowKit Go.WideShapes
set_option maxRecDepth 100000
set_option linter.unusedSimpArgs false
set_option linter.unusedVariables false
attribute [local go_sem] argVars runE runK isCallV stepE aop opd opdsL opds opdO ev ofVal keep List.any natbeq Bool.false_or Bool.true_or aggEq cond_true cond_false Bool.cond_false_right Bool.cond_true_left beq_true beq_false imp_self implies_true getR getL put St.app effL del nwB blt_dec Nat.lt_irrefl Nat.lt_add_one ble_dec Nat.le_refl Nat.beq_refl roomNZ appendIn capS mkZ_zero mkZL_zero zeroEl D.ids D.idsL bin arith sarith binT dpick Tm.part splice fillD oneD loadD storeD srcD sliceD idxOk decide_true gval dstAt D.cells List.map_cons List.map_nil List.take List.drop List.length_map List.append Int.toNat_natCast and_true true_and decide_false List.length_cons List.length_nil List.append_nil List.nil_append Bool.and_true Bool.true_and Bool.not_false Bool.not_true ne_eq not_false_eq_true BEq.rfl List.getElem?_cons_zero List.getElem?_cons_succ List.getElem?_nil Nat.zero_add List.all_cons List.all_nil List.isEmpty_cons List.isEmpty_nil Option.getD_some Option.getD_none List.any_cons List.any_nil List.drop_succ_cons List.drop_zero unfL unf okM okML low3 List.cons_append true_or or_true Nat.zero_mul Nat.zero_le fpOf opIds
theorem overs109 : Overs Tryz.prog 109 := overs_of (r := 4) Tryz.func109 (by kernel_rfl) (by kernel_rfl) (by kernel_rfl) (by kernel_rfl) (Tryz.tmOk.1 22 (by decide)) rfl
theorem ins101e (i j k : Nat) (hij : i ≠ j) (hik : i ≠ k) (hjk : j ≠ k) (L : List D) (x : D) (P Q : Bool) (hL : L.length < 1000000) :
  CallH Tryz.prog 101 [.ref i 1 0 L.length (some uC), .int .i64 (L.length : Int), .ref j 1 0 1 (some 1)] [(i, .arr 3 1 P L), (j, .arr 3 1 Q [x])] (.ref k 1 0 (L.length + 1) (some uC)) [(k, some (.arr 3 1 (P && Q) (L ++ [x]))), (i, none)] (k, k + 1) := by
 have bij : Nat.beq i j = false := zav hij
 have bik : Nat.beq i k = false := zav hik
 have bjk : Nat.beq j k = false := zav hjk
 have bji : Nat.beq j i = false := zav (Ne.symm hij)
 have bki : Nat.beq k i = false := zav (Ne.symm hik)
 have bkj : Nat.beq k j = false := zav (Ne.symm hjk)
 have n10 : ¬ ((1 : Int) = 0) := by omega
 have hx : (1 : Nat) <= 1 := Nat.le_refl _
 refine za8 Tryz.tmOk Tryz.func101 rfl (by decide) (lb rfl) (by simp) ?_
 intro hwf
 refine .seq ?_
 refine .pp zS [0, 1, 2] (by intro q hq; simp only [go_sem, za7, Nat.reduceSub, Int.reduceEq, Nat.reduceLT, Nat.reduceDiv, Nat.reduceAdd, Nat.reduceBEq, Nat.reduceLeDiff, reduceCtorEq, Nat.reduceEqDiff, Nat.reduceMod, capK, bij, bik, bjk, bji, bki, bkj]; exact hq) ?_
 refine .seq ?_
 refine .pp zS [0, 1, 2] (by intro q hq; simp only [go_sem, za7, Nat.reduceSub, Int.reduceEq, Nat.reduceLT, Nat.reduceDiv, Nat.reduceAdd, Nat.reduceBEq, Nat.reduceLeDiff, reduceCtorEq, Nat.reduceEqDiff, Nat.reduceMod, capK, Tryz.tm_22, Tryz.tm_3, bij, bik, bjk, bji, bki, bkj]; exact hq) ?_
 refine .seq ?_
 refine .pp zS [0, 1, 2] (by intro q hq; simp only [go_sem, za7, Nat.reduceSub, Int.reduceEq, Nat.reduceLT, Nat.reduceDiv, Nat.reduceAdd, Nat.reduceBEq, Nat.reduceLeDiff, reduceCtorEq, Nat.reduceEqDiff, Nat.reduceMod, capK, Tryz.tm_22, Tryz.tm_3, bij, bik, bjk, bji, bki, bkj]; exact hq) ?_
 refine .seq ?_
 refine .seq ?_
 refine .pp zS [0, 1, 2, 7] (by intro q hq; simp only [go_sem, za7, Nat.reduceSub, Int.reduceEq, Nat.reduceLT, Nat.reduceDiv, Nat.reduceAdd, Nat.reduceBEq, Nat.reduceLeDiff, reduceCtorEq, Nat.reduceEqDiff, Nat.reduceMod, capK, Tryz.tm_22, Tryz.tm_3]; exact hq) ?_
 refine .cond rfl rfl (fun hc => by simp at hc) (fun hc => ?_)
 refine .skip ?_
 refine .seq ?_
 refine .pp zS [0, 1, 2, 7] (by intro q hq; simp only [go_sem, za7, Nat.reduceSub, Int.reduceEq, Nat.reduceLT, Nat.reduceDiv, Nat.reduceAdd, Nat.reduceBEq, Nat.reduceLeDiff, reduceCtorEq, Nat.reduceEqDiff, Nat.reduceMod, capK, Tryz.tm_22, Tryz.tm_3]; exact hq) ?_
 refine .seq ?_
 refine .seq ?_
 refine .pp zS [0, 1, 2, 7, 8] (by intro q hq; simp only [go_sem, za7, Nat.reduceSub, Int.reduceEq, Nat.reduceLT, Nat.reduceDiv, Nat.reduceAdd, Nat.reduceBEq, Nat.reduceLeDiff, reduceCtorEq, Nat.reduceEqDiff, Nat.reduceMod, capK, Tryz.tm_22, Tryz.tm_3]; exact hq) ?_
 refine .cond rfl rfl (fun hc => ?_) (fun hc => by simp at hc)
 refine .seq ?_
 refine .pp zS [0, 2] (by intro q hq; simp only [go_sem, za7, Nat.reduceSub, Int.reduceEq, Nat.reduceLT, Nat.reduceDiv, Nat.reduceAdd, Nat.reduceBEq, Nat.reduceLeDiff, reduceCtorEq, Nat.reduceEqDiff, Nat.reduceMod, capK, Tryz.tm_22, Tryz.tm_3, bij, bik, bjk, bji, bki, bkj]; exact hq) ?_
 refine .ret ⟨.inr rfl, retH [j, k] ?_ ?_⟩
 ·simp only [ResIs, resL, resD, resT, go_sem, za7, Nat.reduceSub, Int.reduceEq, Nat.reduceLT, Nat.reduceDiv, Nat.reduceAdd, Nat.reduceBEq, Nat.reduceLeDiff, reduceCtorEq, Nat.reduceEqDiff, Nat.reduceMod, Tryz.f101]
 ·simp only [pickL, getL, effL, put, del, Nat.beq_refl, cond_true, cond_false, bij, bik, bjk, bji, bki, bkj, List.take_length]
theorem ins101g (i j k : Nat) (hij : i ≠ j) (hik : i ≠ k) (hjk : j ≠ k) (L : List D) (x : D) (P Q : Bool) (at' c : Nat) (hck : capK c = true) (hat : at' < L.length) (hL : L.length < 1000000) (h1 : L.length <= c) (h2 : c < L.length + 1) :
  CallH Tryz.prog 101 [.ref i 1 0 L.length (some c), .int .i64 (at' : Int), .ref j 1 0 1 (some 1)] [(i, .arr 3 1 P L), (j, .arr 3 1 Q [x])] (.ref k 1 0 (L.length + 1) none) [(k, some (.arr 3 1 (P && Q) (L.take at' ++ x :: L.drop at'))), (i, none)] (k, k + 1) := by
 obtain rfl : c = L.length := by omega
 have hck2 := hck
 have bij : Nat.beq i j = false := zav hij
 have bik : Nat.beq i k = false := zav hik
 have bjk : Nat.beq j k = false := zav hjk
 have bji : Nat.beq j i = false := zav (Ne.symm hij)
 have bki : Nat.beq k i = false := zav (Ne.symm hik)
 have bkj : Nat.beq k j = false := zav (Ne.symm hjk)
 have hw : wr .i64 ((L.length : Int) + ((1 : Nat) : Int)) = ((L.length + 1 : Nat) : Int) := wr_eq _ _ (by show (-9223372036854775808 : Int) <= _; omega) (by show _ <= (9223372036854775807 : Int); omega)
 have hw2 : wr .i64 (((L.length + 1 : Nat) : Int) - (at' : Int)) = ((L.length + 1 - at' : Nat) : Int) := by
  rw [wr_eq _ _ (by show (-9223372036854775808 : Int) <= _; omega) (by show _ <= (9223372036854775807 : Int); omega)]
  omega
 have hw3 : wr .i64 ((at' : Int) + ((1 : Nat) : Int)) = ((at' + 1 : Nat) : Int) := wr_eq _ _ (by show (-9223372036854775808 : Int) <= _; omega) (by show _ <= (9223372036854775807 : Int); omega)
 have ha : at' + (L.length + 1 - at') = L.length + 1 := by omega
 have pq : (P && Q && P) = (P && Q) := by cases P <;> cases Q <;> rfl
 have hm1 : Nat.min 1 (L.length + 1 - at') = 1 := by show min 1 (L.length + 1 - at') = 1; omega
 have hm2 : Nat.min (L.length - at') (L.length + 1 - (at' + 1)) = L.length - at' := by show min (L.length - at') (L.length + 1 - (at' + 1)) = L.length - at'; omega
 have tk : (L.take at').length = at' := by simp; omega
 have e1 : List.take at' (List.take at' L ++ List.replicate (L.length + 1 - at') (D.int .i64 0)) = List.take at' L := by
  rw [List.take_append_of_le_length (by omega), List.take_of_length_le (by omega)]
 have e2 : List.drop (at' + 1) (List.take at' L ++ List.replicate (L.length + 1 - at') (D.int .i64 0)) = List.replicate (L.length - at') (D.int .i64 0) := by
  rw [List.drop_append, List.drop_eq_nil_of_le (by omega), tk, List.nil_append, List.drop_replicate]
  congr 1; omega
 have e3 : List.take (at' + 1) (List.take at' L ++ [x] ++ List.replicate (L.length - at') (D.int .i64 0)) = List.take at' L ++ [x] := by
  rw [List.take_append_of_le_length (by simp; omega), List.take_of_length_le (by simp; omega)]
 have e4 : List.drop (at' + 1 + (L.length - at')) (List.take at' L ++ [x] ++ List.replicate (L.length - at') (D.int .i64 0)) = [] := List.drop_eq_nil_of_le (by simp; omega)
 have e5 : List.take (L.length - at') (List.drop at' L) = List.drop at' L := List.take_of_length_le (by simp)
 have l1 : (List.take at' L ++ List.replicate (L.length + 1 - at') (D.int .i64 0)).length = L.length + 1 := by simp; omega
 have l2 : (List.take at' L ++ [x] ++ List.replicate (L.length - at') (D.int .i64 0)).length = L.length + 1 := by simp; omega
 refine za8 Tryz.tmOk Tryz.func101 rfl (by decide) (lb rfl) (by simp) ?_
 intro hwf
 refine .seq ?_
 refine .pp zS [0, 1, 2] (by intro q hq; simp only [go_sem, za7, Nat.reduceSub, Int.reduceEq, Nat.reduceLT, Nat.reduceDiv, Nat.reduceAdd, Nat.reduceBEq, Nat.reduceLeDiff, reduceCtorEq, Nat.reduceEqDiff, Nat.reduceMod, hck]; exact hq) ?_
 refine .seq ?_
 refine .pp zS [0, 1, 2] (by intro q hq; simp only [go_sem, za7, Nat.reduceSub, Int.reduceEq, Nat.reduceLT, Nat.reduceDiv, Nat.reduceAdd, Nat.reduceBEq, Nat.reduceLeDiff, reduceCtorEq, Nat.reduceEqDiff, Nat.reduceMod, Tryz.tm_22, Tryz.tm_3, hck]; exact hq) ?_
 refine .seq ?_
 refine .pp zS [0, 1, 2] (by intro q hq; simp only [go_sem, za7, Nat.reduceSub, Int.reduceEq, Nat.reduceLT, Nat.reduceDiv, Nat.reduceAdd, Nat.reduceBEq, Nat.reduceLeDiff, reduceCtorEq, Nat.reduceEqDiff, Nat.reduceMod, Tryz.tm_22, Tryz.tm_3, hck]; exact hq) ?_
 refine .seq ?_
 refine .seq ?_
 refine .pp zS [0, 1, 2, 7] (by intro q hq; simp only [go_sem, za7, Nat.reduceSub, Int.reduceEq, Nat.reduceLT, Nat.reduceDiv, Nat.reduceAdd, Nat.reduceBEq, Nat.reduceLeDiff, reduceCtorEq, Nat.reduceEqDiff, Nat.reduceMod, Tryz.tm_22, Tryz.tm_3, hck]; exact hq) ?_
 refine .cond rfl rfl (fun hc => by simp at hc) (fun hc => ?_)
 refine .skip ?_
 refine .seq ?_
 refine .pp zS [0, 1, 2, 7] (by intro q hq; simp only [go_sem, za7, Nat.reduceSub, Int.reduceEq, Nat.reduceLT, Nat.reduceDiv, Nat.reduceAdd, Nat.reduceBEq, Nat.reduceLeDiff, reduceCtorEq, Nat.reduceEqDiff, Nat.reduceMod, Tryz.tm_22, Tryz.tm_3, hck]; exact hq) ?_
 refine .seq ?_
 refine .seq ?_
 refine .pp zS [0, 1, 2, 7, 8] (by intro q hq; simp only [go_sem, za7, Nat.reduceSub, Int.reduceEq, Nat.reduceLT, Nat.reduceDiv, Nat.reduceAdd, Nat.reduceBEq, Nat.reduceLeDiff, reduceCtorEq, Nat.reduceEqDiff, Nat.reduceMod, Tryz.tm_22, Tryz.tm_3, hck]; exact hq) ?_
 refine .cond rfl rfl (fun hc => by simp at hc; omega) (fun hc => ?_)
 refine .skip ?_
 refine .seq ?_
 refine .seq ?_
 refine .pp zS [0, 1, 2, 7, 8] (by intro q hq; simp only [go_sem, za7, Nat.reduceSub, Int.reduceEq, Nat.reduceLT, Nat.reduceDiv, Nat.reduceAdd, Nat.reduceBEq, Nat.reduceLeDiff, reduceCtorEq, Nat.reduceEqDiff, Nat.reduceMod, Tryz.tm_22, Tryz.tm_3, hck, hw]; exact hq) ?_
 refine .cond rfl rfl (fun hc => ?_) (fun hc => by simp at hc; omega)
 refine .seq ?_
 refine .pp zS [0, 1, 2, 7, 8] (by intro q hq; simp only [go_sem, za7, Nat.reduceSub, Int.reduceEq, Nat.reduceLT, Nat.reduceDiv, Nat.reduceAdd, Nat.reduceBEq, Nat.reduceLeDiff, reduceCtorEq, Nat.reduceEqDiff, Nat.reduceMod, Tryz.tm_22, Tryz.tm_3, hck, hw, hw2, ha, appendZ, Int.sub_zero, Int.toNat_zero, Int.toNat_sub, bij, bik, bjk, bji, bki, bkj]; exact hq) ?_
 refine .seq ?_
 refine .pp zS [0, 1, 2, 7, 8, 9] (by intro q hq; simp only [go_sem, za7, Nat.reduceSub, Int.reduceEq, Nat.reduceLT, Nat.reduceDiv, Nat.reduceAdd, Nat.reduceBEq, Nat.reduceLeDiff, reduceCtorEq, Nat.reduceEqDiff, Nat.reduceMod, Tryz.tm_22, Tryz.tm_3, hck, hw, hw2, ha, appendZ, Int.sub_zero, Int.toNat_zero, Int.toNat_sub, bij, bik, bjk, bji, bki, bkj, Int.toNat_sub, hm1, e1, e2, List.take_one, List.take_succ_cons]; exact hq) ?_
 refine .seq ?_
 refine .drawn Tryz.tmOk Tryz.tmMixed [0, 1, 2, 7, 8, 9] (by decide +kernel) (by intro q hq; simp only [go_sem, za7, Nat.reduceSub, Int.reduceEq, Nat.reduceLT, Nat.reduceDiv, Nat.reduceAdd, Nat.reduceBEq, Nat.reduceLeDiff, reduceCtorEq, Nat.reduceEqDiff, Nat.reduceMod, Tryz.tm_22, Tryz.tm_3, hck, hw, hw2, hw3, ha, appendZ, capS, bij, bik, bjk, bji, bki, bkj, Int.toNat_sub, hm1, hm2, e3, e4, e5]; exact hq) (schedB_of (by kernel_rfl)) (by first | rfl | (simp only [go_sem, Nat.reduceLeDiff]; done) | (simp only [go_sem, Nat.reduceLeDiff]; rfl) | (simp; done) | (simp [oneD] <;> omega) | (simp_all; done) | (simp_all [oneD] <;> omega)) (by first | exact Nat.le_refl _ | exact Nat.le_of_ble_eq_true rfl | (dsimp only; omega) | (simp <;> omega)) ?_
 refine .seq ?_
 refine .pp zS [9] (by intro q hq; simp only [go_sem, za7, Nat.reduceSub, Int.reduceEq, Nat.reduceLT, Nat.reduceDiv, Nat.reduceAdd, Nat.reduceBEq, Nat.reduceLeDiff, reduceCtorEq, Nat.reduceEqDiff, Nat.reduceMod, Tryz.tm_22, Tryz.tm_3, hck]; exact hq) ?_
 refine .ret ⟨.inr rfl, retH [j, k] ?_ ?_⟩
 ·simp only [ResIs, resL, resD, resT, go_sem, za7, Nat.reduceSub, Int.reduceEq, Nat.reduceLT, Nat.reduceDiv, Nat.reduceAdd, Nat.reduceBEq, Nat.reduceLeDiff, reduceCtorEq, Nat.reduceEqDiff, Nat.reduceMod, Tryz.f101]
 ·simp only [pickL, getL, effL, put, del, Nat.beq_refl, cond_true, cond_false, bij, bik, bjk, bji, bki, bkj, pq, List.append_assoc, List.singleton_append, List.append_nil]
theorem ins101r (i j k : Nat) (hij : i ≠ j) (L : List D) (x : D) (P Q : Bool) (at' c : Nat) (hck : capK c = true) (hat : at' < L.length) (hL : L.length < 1000000) (h1 : L.length + 1 <= c) :
  CallH Tryz.prog 101 [.ref i 1 0 L.length (some c), .int .i64 (at' : Int), .ref j 1 0 1 (some 1)] [(i, .arr 3 1 P L), (j, .arr 3 1 Q [x])] (.ref i 1 0 (L.length + 1) (some c)) [(i, some (.arr 3 1 (P && Q) (L.take at' ++ x :: L.drop at')))] (k, k) := by
 have bij : Nat.beq i j = false := zav hij
 have bji : Nat.beq j i = false := zav (Ne.symm hij)
 have hw : wr .i64 ((L.length : Int) + ((1 : Nat) : Int)) = ((L.length + 1 : Nat) : Int) := wr_eq _ _ (by show (-9223372036854775808 : Int) <= _; omega) (by show _ <= (9223372036854775807 : Int); omega)
 have hw3 : wr .i64 ((at' : Int) + ((1 : Nat) : Int)) = ((at' + 1 : Nat) : Int) := wr_eq _ _ (by show (-9223372036854775808 : Int) <= _; omega) (by show _ <= (9223372036854775807 : Int); omega)
 have hm1 : Nat.min 1 (L.length + 1 - at') = 1 := by show min 1 (L.length + 1 - at') = 1; omega
 have hm2 : Nat.min (L.length + 1 - at') (L.length + 1 - (at' + 1)) = L.length - at' := by show min (L.length + 1 - at') (L.length + 1 - (at' + 1)) = L.length - at'; omega
 have hn1 : L.length + 1 - (at' + 1) = (L.length - at' - 1) + 1 := by omega
 have tk : (L.take at').length = at' := by simp; omega
 have tk1 : (L.take (at' + 1)).length = at' + 1 := by simp; omega
 have e5 : List.take (L.length - at') (List.drop at' L) = List.drop at' L := List.take_of_length_le (by simp)
 have e4 : List.drop (at' + 1 + (L.length - at')) L = [] := List.drop_eq_nil_of_le (by omega)
 have e1 : List.take at' (List.take (at' + 1) L ++ List.drop at' L) = List.take at' L := by
  rw [List.take_append_of_le_length (by omega), List.take_take]
  congr 1; omega
 have e2 : List.drop (at' + 1) (List.take (at' + 1) L ++ List.drop at' L) = List.drop at' L := by
  rw [List.drop_append, List.drop_eq_nil_of_le (by omega), tk1, Nat.sub_self, List.drop_zero, List.nil_append]
 refine za8 Tryz.tmOk Tryz.func101 rfl (by decide) (lb rfl) (by simp) ?_
 intro hwf
 refine .seq ?_
 refine .pp zS [0, 1, 2] (by intro q hq; simp only [go_sem, za7, Nat.reduceSub, Int.reduceEq, Nat.reduceLT, Nat.reduceDiv, Nat.reduceAdd, Nat.reduceBEq, Nat.reduceLeDiff, reduceCtorEq, Nat.reduceEqDiff, Nat.reduceMod, hck]; exact hq) ?_
 refine .seq ?_
 refine .pp zS [0, 1, 2] (by intro q hq; simp only [go_sem, za7, Nat.reduceSub, Int.reduceEq, Nat.reduceLT, Nat.reduceDiv, Nat.reduceAdd, Nat.reduceBEq, Nat.reduceLeDiff, reduceCtorEq, Nat.reduceEqDiff, Nat.reduceMod, Tryz.tm_22, Tryz.tm_3, hck]; exact hq) ?_
 refine .seq ?_
 refine .pp zS [0, 1, 2] (by intro q hq; simp only [go_sem, za7, Nat.reduceSub, Int.reduceEq, Nat.reduceLT, Nat.reduceDiv, Nat.reduceAdd, Nat.reduceBEq, Nat.reduceLeDiff, reduceCtorEq, Nat.reduceEqDiff, Nat.reduceMod, Tryz.tm_22, Tryz.tm_3, hck]; exact hq) ?_
 refine .seq ?_
 refine .seq ?_
 refine .pp zS [0, 1, 2, 7] (by intro q hq; simp only [go_sem, za7, Nat.reduceSub, Int.reduceEq, Nat.reduceLT, Nat.reduceDiv, Nat.reduceAdd, Nat.reduceBEq, Nat.reduceLeDiff, reduceCtorEq, Nat.reduceEqDiff, Nat.reduceMod, Tryz.tm_22, Tryz.tm_3, hck]; exact hq) ?_
 refine .cond rfl rfl (fun hc => by simp at hc) (fun hc => ?_)
 refine .skip ?_
 refine .seq ?_
 refine .pp zS [0, 1, 2, 7] (by intro q hq; simp only [go_sem, za7, Nat.reduceSub, Int.reduceEq, Nat.reduceLT, Nat.reduceDiv, Nat.reduceAdd, Nat.reduceBEq, Nat.reduceLeDiff, reduceCtorEq, Nat.reduceEqDiff, Nat.reduceMod, Tryz.tm_22, Tryz.tm_3, hck]; exact hq) ?_
 refine .seq ?_
 refine .seq ?_
 refine .pp zS [0, 1, 2, 7, 8] (by intro q hq; simp only [go_sem, za7, Nat.reduceSub, Int.reduceEq, Nat.reduceLT, Nat.reduceDiv, Nat.reduceAdd, Nat.reduceBEq, Nat.reduceLeDiff, reduceCtorEq, Nat.reduceEqDiff, Nat.reduceMod, Tryz.tm_22, Tryz.tm_3, hck]; exact hq) ?_
 refine .cond rfl rfl (fun hc => by simp at hc; omega) (fun hc => ?_)
 refine .skip ?_
 refine .seq ?_
 refine .seq ?_
 refine .pp zS [0, 1, 2, 7, 8] (by intro q hq; simp only [go_sem, za7, Nat.reduceSub, Int.reduceEq, Nat.reduceLT, Nat.reduceDiv, Nat.reduceAdd, Nat.reduceBEq, Nat.reduceLeDiff, reduceCtorEq, Nat.reduceEqDiff, Nat.reduceMod, Tryz.tm_22, Tryz.tm_3, hck, hw]; exact hq) ?_
 refine .cond rfl rfl (fun hc => by simp at hc; omega) (fun hc => ?_)
 refine .skip ?_
 refine .seq ?_
 refine .pp zS [0, 1, 2, 7, 8] (by intro q hq; simp only [go_sem, za7, Nat.reduceSub, Int.reduceEq, Nat.reduceLT, Nat.reduceDiv, Nat.reduceAdd, Nat.reduceBEq, Nat.reduceLeDiff, reduceCtorEq, Nat.reduceEqDiff, Nat.reduceMod, Tryz.tm_22, Tryz.tm_3, hck, hw, roomV, Option.isSome, Int.sub_zero, Int.toNat_zero, Nat.sub_zero, bij, bji]; exact hq) ?_
 refine .seq ?_
 refine .seq ?_
 refine .reg Tryz.tmOk Tryz.tmMixed [0, 1, 2, 7] (by decide +kernel) ?_
 refine .R (dr := false) (.inr fun _ _ _ h => ⟨nofun, h.2⟩) (by intro q hq; simp only [go_sem, za7, Nat.reduceSub, Int.reduceEq, Nat.reduceLT, Nat.reduceDiv, Nat.reduceAdd, Nat.reduceBEq, Nat.reduceLeDiff, reduceCtorEq, Nat.reduceEqDiff, Nat.reduceMod, Tryz.tm_22, Tryz.tm_3, hck, hw3, Int.toNat_sub, bij, bji]; exact hq) (by first | rfl | (simp only [go_sem, Nat.reduceLeDiff]; done) | (simp only [go_sem, Nat.reduceLeDiff]; rfl) | (simp; done) | (simp [oneD] <;> omega) | (simp_all; done) | (simp_all [oneD] <;> omega)) (by first | exact Nat.le_refl _ | exact Nat.le_of_ble_eq_true rfl | (dsimp only; omega) | (simp <;> omega)) ?_
 refine .overs (i := j) (j := i) rfl rfl rfl rfl rfl overs109 ⟨1, 0, 0, some 1, 1 - 1, at' + 1, L.length - at' - 1, some (c - (at' + 1)), 3, 1, Q, [x], 3, 1, P, L, by
  show [D.ref j 1 0 1 (some 1), D.ref i 1 (at' + 1) (L.length + 1 - (at' + 1)) (some (c - (at' + 1)))] = _
  rw [hn1], by simp only [getL, bij, cond_false, Nat.beq_refl, cond_true], by simp only [getL, Nat.beq_refl, cond_true], Ne.symm hij⟩ ?_
 refine .R (dr := false) (.inr fun _ _ _ h => ⟨nofun, h.2⟩) (by intro q hq; simp only [go_sem, za7, Nat.reduceSub, Int.reduceEq, Nat.reduceLT, Nat.reduceDiv, Nat.reduceAdd, Nat.reduceBEq, Nat.reduceLeDiff, reduceCtorEq, Nat.reduceEqDiff, Nat.reduceMod, Tryz.tm_22, Tryz.tm_3, hck]; exact hq) (by first | rfl | (simp only [go_sem, Nat.reduceLeDiff]; done) | (simp only [go_sem, Nat.reduceLeDiff]; rfl) | (simp; done) | (simp [oneD] <;> omega) | (simp_all; done) | (simp_all [oneD] <;> omega)) (by first | exact Nat.le_refl _ | exact Nat.le_of_ble_eq_true rfl | (dsimp only; omega) | (simp <;> omega)) ?_
 refine .nil ⟨nofun, ?_⟩
 refine .cond rfl rfl (fun hc => ?_) (fun hc => by cases hc)
 refine .seq ?_
 refine .drawn Tryz.tmOk Tryz.tmMixed [0, 1, 2, 7] (by decide +kernel) (by intro q hq; simp only [go_sem, za7, Nat.reduceSub, Int.reduceEq, Nat.reduceLT, Nat.reduceDiv, Nat.reduceAdd, Nat.reduceBEq, Nat.reduceLeDiff, reduceCtorEq, Nat.reduceEqDiff, Nat.reduceMod, Tryz.tm_22, Tryz.tm_3, hck, hw3, Int.toNat_sub, hm2, e4, e5, bij, bji, Bool.and_self, List.append_nil]; exact hq) (schedB_of (by kernel_rfl)) (by first | rfl | (simp only [go_sem, Nat.reduceLeDiff]; done) | (simp only [go_sem, Nat.reduceLeDiff]; rfl) | (simp; done) | (simp [oneD] <;> omega) | (simp_all; done) | (simp_all [oneD] <;> omega)) (by first | exact Nat.le_refl _ | exact Nat.le_of_ble_eq_true rfl | (dsimp only; omega) | (simp <;> omega)) ?_
 refine .seq ?_
 refine .pp zS [0, 1, 2] (by intro q hq; simp only [go_sem, za7, Nat.reduceSub, Int.reduceEq, Nat.reduceLT, Nat.reduceDiv, Nat.reduceAdd, Nat.reduceBEq, Nat.reduceLeDiff, reduceCtorEq, Nat.reduceEqDiff, Nat.reduceMod, Tryz.tm_22, Tryz.tm_3, hck, Int.toNat_sub, hm1, e1, e2, bij, bji, List.take_succ_cons]; exact hq) ?_
 refine .seq ?_
 refine .pp zS [0] (by intro q hq; simp only [go_sem, za7, Nat.reduceSub, Int.reduceEq, Nat.reduceLT, Nat.reduceDiv, Nat.reduceAdd, Nat.reduceBEq, Nat.reduceLeDiff, reduceCtorEq, Nat.reduceEqDiff, Nat.reduceMod, Tryz.tm_22, Tryz.tm_3, hck]; exact hq) ?_
 refine .ret ⟨.inr rfl, retH [i, j] ?_ ?_⟩
 ·simp only [ResIs, resL, resD, resT, go_sem, za7, Nat.reduceSub, Int.reduceEq, Nat.reduceLT, Nat.reduceDiv, Nat.reduceAdd, Nat.reduceBEq, Nat.reduceLeDiff, reduceCtorEq, Nat.reduceEqDiff, Nat.reduceMod, Tryz.f101]
 ·simp only [pickL, getL, effL, put, del, Nat.beq_refl, cond_true, cond_false, bij, bji, List.append_assoc, List.singleton_append, List.append_nil]
theorem ins101 (i j k : Nat) (hij : i ≠ j) (hik : i ≠ k) (hjk : j ≠ k) (L : List D) (x : D) (P Q : Bool) (at' : Nat) (hat : at' <= L.length) (hL : L.length < 1000000) :
  CallH Tryz.prog 101 [.ref i 1 0 L.length (some uC), .int .i64 (at' : Int), .ref j 1 0 1 (some 1)] [(i, .arr 3 1 P L), (j, .arr 3 1 Q [x])] (.ref k 1 0 (L.length + 1) (some uC)) [(k, some (.arr 3 1 (P && Q) (L.take at' ++ x :: L.drop at'))), (i, none)] (k, k + 1) := by
 by_cases h : at' = L.length
 ·subst h
  have := ins101e i j k hij hik hjk L x P Q hL
  rw [List.take_length, List.drop_length]
  exact this
 ·exact callH_capW (l := L) (p := P) (ins101e i j k hij hik hjk L x P Q hL).1 (by simp only [getL, Nat.beq_refl, cond_true]) hik (by omega)
   (fun c hc _ h2 => ins101r i j k hij L x P Q at' c hc (by omega) hL h2)
   (fun c hc h1 h2 => ins101g i j k hij hik hjk L x P Q at' c hc (by omega) hL h1 h2)
end Go.Proofs
end
section
namespace Go.Proofs
open Go.Tm Go.RowKit Go.WideShapes
set_option maxRecDepth 100000
set_option linter.unusedSimpArgs false
set_option linter.unusedVariables false
attribute [local go_sem] argVars runE runK isCallV stepE aop opd opdsL opds opdO ev ofVal keep List.any natbeq Bool.false_or Bool.true_or aggEq cond_true cond_false Bool.cond_false_right Bool.cond_true_left beq_true beq_false imp_self implies_true getR getL put St.app effL del nwB blt_dec Nat.lt_irrefl Nat.lt_add_one ble_dec Nat.le_refl Nat.beq_refl roomNZ capS mkZ_zero mkZL_zero zeroEl D.ids D.idsL bin arith sarith binT dpick Tm.part splice fillD oneD loadD storeD srcD sliceD idxOk decide_true gval dstAt D.cells List.map_cons List.map_nil List.take List.drop List.length_map List.append Int.toNat_natCast and_true true_and decide_false List.length_cons List.length_nil List.append_nil List.nil_append Bool.and_true Bool.true_and Bool.not_false Bool.not_true ne_eq not_false_eq_true BEq.rfl List.getElem?_cons_zero List.getElem?_cons_succ List.getElem?_nil Nat.zero_add List.all_cons List.all_nil List.isEmpty_cons List.isEmpty_nil Option.getD_some Option.getD_none List.any_cons List.any_nil List.drop_succ_cons List.drop_zero unfL unf okM okML low3 List.cons_append true_or or_true Nat.zero_mul Nat.zero_le fpOf opIds
theorem del25r (i k : Nat) (L : List D) (P : Bool) (at' c : Nat) (hck : capK c = true) (hat : at' < L.length) (hL : L.length < 1000000) (h1 : L.length <= c) :
  CallH Tryz.prog 25 [.ref i 10 0 L.length (some c), .int .i64 (at' : Int), .int .i64 ((at' + 1 : Nat) : Int)] [(i, .arr 51 10 P L)] (.ref i 10 0 (L.length - 1) (some c)) [(i, some (.arr 51 10 P (L.take at' ++ L.drop (at' + 1))))] (k, k) := by
 have e5 : List.take (L.length - (at' + 1)) (List.drop (at' + 1) L) = List.drop (at' + 1) L := List.take_of_length_le (by simp)
 have hl : at' + (L.drop (at' + 1)).length = L.length - 1 := by simp; omega
 have hm : Nat.blt at' L.length = true := Nat.ble_eq_true_of_le hat
 have hcL : L.length - 1 <= c := by omega
 have hm2 : at' < L.length := hat
 have hne : ¬ ((at' : Int) = ((at' + 1 : Nat) : Int)) := by omega
 have ha : Nat.beq at' (at' + 1) = false := zav (by omega)
 have l1 : (L.take at' ++ L.drop (at' + 1)).length = L.length - 1 := by simp; omega
 have l2 : (L.take at' ++ L.drop (at' + 1) ++ L.drop (L.length - 1)).length = L.length := by simp; omega
 have t1 : List.take (L.length - 1) (L.take at' ++ L.drop (at' + 1) ++ L.drop (L.length - 1)) = L.take at' ++ L.drop (at' + 1) := by
  rw [List.take_append_of_le_length (by omega), List.take_of_length_le (by omega)]
 have t2 : ∀ R S : List D, List.take (L.length - 1) (L.take at' ++ L.drop (at' + 1) ++ R ++ S) = L.take at' ++ L.drop (at' + 1) := fun R S => by
  rw [List.append_assoc _ R S, List.take_append_of_le_length (by omega), List.take_of_length_le (by omega)]
 have q1 : Int.toNat ((L.length : Int) - ((L.length - 1 : Nat) : Int)) = 1 := by omega
 have q2 : Int.toNat ((L.length - 1 : Nat) : Int) = L.length - 1 := by omega
 have q3 : Int.toNat (((L.length : Int)) - ((at' + 1 : Nat) : Int)) = L.length - (at' + 1) := by omega
 refine za8 Tryz.tmOk Tryz.func25 rfl (by decide) (lb rfl) (by simp) ?_
 intro hwf
 refine .seq ?_
 refine .pp zS [0, 1, 2] (by intro q hq; simp only [go_sem, za7, Nat.reduceSub, Int.reduceEq, Nat.reduceLT, Nat.reduceDiv, Nat.reduceAdd, Nat.reduceBEq, Nat.reduceLeDiff, reduceCtorEq, Nat.reduceEqDiff, Nat.reduceMod, hck]; exact hq) ?_
 refine .seq ?_
 refine .pp zS [0, 1, 2] (by intro q hq; simp only [go_sem, za7, Nat.reduceSub, Int.reduceEq, Nat.reduceLT, Nat.reduceDiv, Nat.reduceAdd, Nat.reduceBEq, Nat.reduceLeDiff, reduceCtorEq, Nat.reduceEqDiff, Nat.reduceMod, Tryz.tm_25, Tryz.tm_3, hck, slice3D, opdO]; exact hq) ?_
 refine .seq ?_
 refine .seq ?_
 refine .pp zS [0, 1, 2] (by intro q hq; simp only [go_sem, za7, Nat.reduceSub, Int.reduceEq, Nat.reduceLT, Nat.reduceDiv, Nat.reduceAdd, Nat.reduceBEq, Nat.reduceLeDiff, reduceCtorEq, Nat.reduceEqDiff, Nat.reduceMod, Tryz.tm_25, Tryz.tm_3, hck]; exact hq) ?_
 refine .cond rfl rfl (fun hc => by simp at hc; omega) (fun hc => ?_)
 refine .skip ?_
 refine .seq ?_
 refine .pp zS [0, 1, 2] (by intro q hq; simp only [go_sem, za7, Nat.reduceSub, Int.reduceEq, Nat.reduceLT, Nat.reduceDiv, Nat.reduceAdd, Nat.reduceBEq, Nat.reduceLeDiff, reduceCtorEq, Nat.reduceEqDiff, Nat.reduceMod, Tryz.tm_25, Tryz.tm_3, hck]; exact hq) ?_
 refine .seq ?_
 refine .drawn Tryz.tmOk Tryz.tmMixed [0, 1, 2, 7] (by decide +kernel) (by intro q hq; simp only [go_sem, za7, Nat.reduceSub, Int.reduceEq, Nat.reduceLT, Nat.reduceDiv, Nat.reduceAdd, Nat.reduceBEq, Nat.reduceLeDiff, reduceCtorEq, Nat.reduceEqDiff, Nat.reduceMod, Tryz.tm_25, Tryz.tm_3, hck, hm2, hcL, e5, q3, hl, Bool.and_self, Int.sub_zero, Int.toNat_zero, Nat.sub_zero, appendIn]; exact hq) (schedB_of (by kernel_rfl)) (by first | rfl | (simp only [go_sem, Nat.reduceLeDiff]; done) | (simp only [go_sem, Nat.reduceLeDiff]; rfl) | (simp; done) | (simp [oneD] <;> omega) | (simp_all; done) | (simp_all [oneD] <;> omega)) (by first | exact Nat.le_refl _ | exact Nat.le_of_ble_eq_true rfl | (dsimp only; omega) | (simp <;> omega)) ?_
 refine .seq ?_
 refine .pp zS [0, 7] (by intro q hq; simp only [go_sem, za7, Nat.reduceSub, Int.reduceEq, Nat.reduceLT, Nat.reduceDiv, Nat.reduceAdd, Nat.reduceBEq, Nat.reduceLeDiff, reduceCtorEq, Nat.reduceEqDiff, Nat.reduceMod, Tryz.tm_25, Tryz.tm_3, hck, roomV, Option.isSome, q1, q2, t1, l2, Nat.zero_add]; exact hq) ?_
 refine .goes (.pre i (L.length - 1) _ (by simp only [getL, Nat.beq_refl, cond_true]; rfl) .refl) ?_
 simp only [put, Nat.beq_refl, cond_true, t2]
 refine .seq ?_
 refine .pp zS [0] (by intro q hq; simp only [go_sem, za7, Nat.reduceSub, Int.reduceEq, Nat.reduceLT, Nat.reduceDiv, Nat.reduceAdd, Nat.reduceBEq, Nat.reduceLeDiff, reduceCtorEq, Nat.reduceEqDiff, Nat.reduceMod, Tryz.tm_25, Tryz.tm_3, hck]; exact hq) ?_
 refine .ret ⟨.inr rfl, retH [i] ?_ ?_⟩
 ·simp only [ResIs, resL, resD, resT, go_sem, za7, Nat.reduceSub, Int.reduceEq, Nat.reduceLT, Nat.reduceDiv, Nat.reduceAdd, Nat.reduceBEq, Nat.reduceLeDiff, reduceCtorEq, Nat.reduceEqDiff, Nat.reduceMod, Tryz.f25]
 ·simp only [pickL, getL, effL, put, del, Nat.beq_refl, cond_true, cond_false, List.append_assoc, List.singleton_append, List.append_nil]
theorem del25 (i k : Nat) (hik : i ≠ k) (L : List D) (P : Bool) (at' : Nat) (hat : at' < L.length) (hL : L.length < 1000000) :
  CallH Tryz.prog 25 [.ref i 10 0 L.length (some uC), .int .i64 (at' : Int), .int .i64 ((at' + 1 : Nat) : Int)] [(i, .arr 51 10 P L)] (.ref k 10 0 (L.length - 1) (some uC)) [(k, some (.arr 51 10 P (L.take at' ++ L.drop (at' + 1)))), (i, none)] (k, k + 1) := by
 exact callH_capW (l := L) (p := P) ⟨Tryz.f25, Tryz.func25, by decide, rfl⟩ (by simp only [getL, Nat.beq_refl, cond_true]) hik (.inr (by omega))
   (fun c hc h1 _ => del25r i k L P at' c hc hat hL h1)
   (fun c hc h1 h2 => by omega)
end Go.Proofs
end
section
namespace Go.Proofs
open Go.Tm
structure TPromise where
 Node : Int
 Ballot : Int
 Value : List UInt8
 deriving Inhabited, DecidableEq
structure TAttempt where
 Phase : Int
 Ballot : Int
 Members : List Int
 Wish : List UInt8
 Value : List UInt8
 Promises : List TPromise
 Accepted : List Int
 deriving Inhabited, DecidableEq
def TPromise.d (x : TPromise) : D := .agg [.int .i64 x.Node, .int .i64 x.Ballot, .str x.Value]
theorem pl_TPromise : Pl TPromise.d := ⟨fun _ => rfl, fun _ => rfl, fun q h _ => by first | rfl | simp [TPromise.d, okM, okML, h]⟩
theorem mk1_TPromise (l : List TPromise) : mkML 1 (l.map TPromise.d) = l.map TPromise.d := mkML_map 1 (fun _ => rfl) l
theorem zbu : Pl0 TPromise.d := ⟨pl_TPromise, fun _ _ => rfl⟩
def TAttempt.d (x : TAttempt) : D := .agg [.int .u8 x.Phase, .int .i64 x.Ballot, .imm 1 (x.Members.map (D.int .i64)) 4, .str x.Wish, .str x.Value, .imm 3 (x.Promises.map TPromise.d) 4, .imm 1 (x.Accepted.map (D.int .i64)) 4]
def TAttempt.n (x : TAttempt) : D := .agg [.int .u8 x.Phase, .int .i64 x.Ballot, .imm 1 (x.Members.map (D.int .i64)) 12, .str x.Wish, .str x.Value, .imm 3 (x.Promises.map TPromise.d) 12, .imm 1 (x.Accepted.map (D.int .i64)) 12]
theorem zc5 : PlN TAttempt.n TAttempt.d := ⟨fun _ => rfl, fun _ => rfl, fun _ => by first | rfl | simp [TAttempt.n, okM, okML, low3], fun _ => by first | rfl | simp [TAttempt.n, okM, okML, new1]⟩
theorem mk1_TAttempt (l : List TAttempt) : mkML 1 (l.map TAttempt.d) = l.map TAttempt.n := mkML_map 1 (fun _ => rfl) l
end Go.Proofs
end

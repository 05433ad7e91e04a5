/- Texts of the proof. -/
import Derived.Test.YtdoegejmepcmpaaChecked
import Derived.KernelRfl
import Derived.Lib.Overlaps
import Derived.Test.YtdoegejmepcmpaaSkeenDoesPe
import Derived.Test.YtdoegejmepcmpaaSkeenDoesPf
section
namespace Go.Proofs
open Go.Tm
def Try.tmL : List (Nat × TI) := [
 (1, { kind := 1, size := 1, offs := [], zero := [.nilfn], el := 0, esz := 0, eby := 0, eagg := false, ik := none, eqs := false, ezero := [] }),
 (2, { kind := 6, size := 1, offs := [], zero := [.int .i64 0], el := 0, esz := 0, eby := 0, eagg := false, ik := some .i64, eqs := false, ezero := [] }),
 (3, { kind := 6, size := 1, offs := [], zero := [.int .i64 0], el := 0, esz := 0, eby := 0, eagg := false, ik := some .i64, eqs := false, ezero := [] }),
 (4, { kind := 8, size := 1, offs := [], zero := [.bool false], el := 0, esz := 0, eby := 0, eagg := false, ik := none, eqs := false, ezero := [] }),
 (5, { kind := 6, size := 1, offs := [], zero := [.int .u8 0], el := 0, esz := 0, eby := 0, eagg := false, ik := some .u8, eqs := false, ezero := [] }),
 (6, { kind := 6, size := 1, offs := [], zero := [.int .u8 0], el := 0, esz := 0, eby := 0, eagg := false, ik := some .u8, eqs := false, ezero := [] }),
 (7, { kind := 2, size := 4, offs := [(0, 1, false), (1, 1, false), (2, 1, false), (3, 1, false)], zero := [.int .i64 0, .int .i64 0, .bool false, .int .u8 0], el := 0, esz := 0, eby := 0, eagg := false, ik := none, eqs := false, ezero := [] }),
 (8, { kind := 2, size := 4, offs := [(0, 1, false), (1, 1, false), (2, 1, false), (3, 1, false)], zero := [.int .i64 0, .int .i64 0, .bool false, .int .u8 0], el := 0, esz := 0, eby := 0, eagg := false, ik := none, eqs := false, ezero := [] }),
 (9, { kind := 5, size := 1, offs := [], zero := [.str []], el := 0, esz := 0, eby := 0, eagg := false, ik := none, eqs := false, ezero := [] }),
 (10, { kind := 5, size := 1, offs := [], zero := [.str []], el := 0, esz := 0, eby := 0, eagg := false, ik := none, eqs := false, ezero := [] }),
 (11, { kind := 5, size := 1, offs := [], zero := [.str []], el := 0, esz := 0, eby := 0, eagg := false, ik := none, eqs := false, ezero := [] }),
 (12, { kind := 6, size := 1, offs := [], zero := [.int .u64 0], el := 0, esz := 0, eby := 0, eagg := false, ik := some .u64, eqs := false, ezero := [] }),
 (13, { kind := 2, size := 2, offs := [(0, 1, false), (1, 1, false)], zero := [.str [], .int .u64 0], el := 0, esz := 0, eby := 0, eagg := false, ik := none, eqs := false, ezero := [] }),
 (14, { kind := 2, size := 2, offs := [(0, 1, false), (1, 1, false)], zero := [.str [], .int .u64 0], el := 0, esz := 0, eby := 0, eagg := false, ik := none, eqs := false, ezero := [] }),
 (15, { kind := 1, size := 1, offs := [], zero := [.nilptr], el := 0, esz := 0, eby := 0, eagg := false, ik := none, eqs := false, ezero := [] }),
 (16, { kind := 1, size := 1, offs := [], zero := [.nilptr], el := 0, esz := 0, eby := 0, eagg := false, ik := none, eqs := false, ezero := [] }),
 (17, { kind := 1, size := 1, offs := [], zero := [.nilptr], el := 0, esz := 0, eby := 0, eagg := false, ik := none, eqs := false, ezero := [] }),
 (18, { kind := 2, size := 1, offs := [(0, 1, false)], zero := [.nilptr], el := 0, esz := 0, eby := 0, eagg := false, ik := none, eqs := false, ezero := [] }),
 (19, { kind := 2, size := 1, offs := [(0, 1, false)], zero := [.nilptr], el := 0, esz := 0, eby := 0, eagg := false, ik := none, eqs := false, ezero := [] }),
 (20, { kind := 7, size := 1, offs := [], zero := [.nilIface], el := 0, esz := 0, eby := 0, eagg := false, ik := none, eqs := false, ezero := [] }),
 (21, { kind := 6, size := 1, offs := [], zero := [.int .i32 0], el := 0, esz := 0, eby := 0, eagg := false, ik := some .i32, eqs := false, ezero := [] }),
 (22, { kind := 3, size := 1, offs := [], zero := [.imm 0 [] 0], el := 52, esz := 7, eby := 88, eagg := true, ik := none, eqs := false, ezero := [.int .i64 0, .imm 0 [] 0, .int .i64 0, .str [], .str [], .int .i64 0, .bool false] }),
 (23, { kind := 3, size := 1, offs := [], zero := [.imm 0 [] 0], el := 70, esz := 2, eby := 16, eagg := true, ik := none, eqs := false, ezero := [.int .i64 0, .int .i64 0] }),
 (24, { kind := 2, size := 3, offs := [(0, 1, false), (1, 1, false), (2, 1, false)], zero := [.int .i64 0, .imm 0 [] 0, .imm 0 [] 0], el := 0, esz := 0, eby := 0, eagg := false, ik := none, eqs := false, ezero := [] }),
 (25, { kind := 2, size := 3, offs := [(0, 1, false), (1, 1, false), (2, 1, false)], zero := [.int .i64 0, .imm 0 [] 0, .imm 0 [] 0], el := 0, esz := 0, eby := 0, eagg := false, ik := none, eqs := false, ezero := [] }),
 (26, { kind := 3, size := 1, offs := [], zero := [.imm 0 [] 0], el := 3, esz := 1, eby := 8, eagg := false, ik := none, eqs := false, ezero := [.int .i64 0] }),
 (27, { kind := 2, size := 5, offs := [(0, 1, false), (1, 1, false), (2, 1, false), (3, 1, false), (4, 1, false)], zero := [.int .i64 0, .imm 0 [] 0, .int .i64 0, .str [], .str []], el := 0, esz := 0, eby := 0, eagg := false, ik := none, eqs := false, ezero := [] }),
 (28, { kind := 2, size := 5, offs := [(0, 1, false), (1, 1, false), (2, 1, false), (3, 1, false), (4, 1, false)], zero := [.int .i64 0, .imm 0 [] 0, .int .i64 0, .str [], .str []], el := 0, esz := 0, eby := 0, eagg := false, ik := none, eqs := false, ezero := [] }),
 (29, { kind := 2, size := 12, offs := [(0, 1, false), (1, 5, true), (6, 1, false), (7, 1, false), (8, 1, false), (9, 1, false), (10, 1, false), (11, 1, false)], zero := [.int .u8 0, .int .i64 0, .imm 0 [] 0, .int .i64 0, .str [], .str [], .int .i64 0, .int .i64 0, .imm 0 [] 0, .int .i64 0, .int .i64 0, .int .i64 0], el := 0, esz := 0, eby := 0, eagg := false, ik := none, eqs := false, ezero := [] }),
 (30, { kind := 2, size := 12, offs := [(0, 1, false), (1, 5, true), (6, 1, false), (7, 1, false), (8, 1, false), (9, 1, false), (10, 1, false), (11, 1, false)], zero := [.int .u8 0, .int .i64 0, .imm 0 [] 0, .int .i64 0, .str [], .str [], .int .i64 0, .int .i64 0, .imm 0 [] 0, .int .i64 0, .int .i64 0, .int .i64 0], el := 0, esz := 0, eby := 0, eagg := false, ik := none, eqs := false, ezero := [] }),
 (31, { kind := 1, size := 1, offs := [], zero := [.nilfn], el := 0, esz := 0, eby := 0, eagg := false, ik := none, eqs := false, ezero := [] }),
 (32, { kind := 1, size := 1, offs := [], zero := [.nilfn], el := 0, esz := 0, eby := 0, eagg := false, ik := none, eqs := false, ezero := [] }),
 (33, { kind := 1, size := 1, offs := [], zero := [.nilfn], el := 0, esz := 0, eby := 0, eagg := false, ik := none, eqs := false, ezero := [] }),
 (34, { kind := 3, size := 1, offs := [], zero := [.imm 0 [] 0], el := 28, esz := 5, eby := 72, eagg := true, ik := none, eqs := false, ezero := [.int .i64 0, .imm 0 [] 0, .int .i64 0, .str [], .str []] }),
 (35, { kind := 6, size := 1, offs := [], zero := [.int .i64 0], el := 0, esz := 0, eby := 0, eagg := false, ik := some .i64, eqs := false, ezero := [] }),
 (37, { kind := 1, size := 1, offs := [], zero := [.nilfn], el := 0, esz := 0, eby := 0, eagg := false, ik := none, eqs := false, ezero := [] }),
 (39, { kind := 1, size := 1, offs := [], zero := [.nilfn], el := 0, esz := 0, eby := 0, eagg := false, ik := none, eqs := false, ezero := [] }),
 (41, { kind := 1, size := 1, offs := [], zero := [.nilfn], el := 0, esz := 0, eby := 0, eagg := false, ik := none, eqs := false, ezero := [] }),
 (43, { kind := 1, size := 1, offs := [], zero := [.nilfn], el := 0, esz := 0, eby := 0, eagg := false, ik := none, eqs := false, ezero := [] }),
 (44, { kind := 1, size := 1, offs := [], zero := [.nilfn], el := 0, esz := 0, eby := 0, eagg := false, ik := none, eqs := false, ezero := [] }),
 (45, { kind := 1, size := 1, offs := [], zero := [.nilfn], el := 0, esz := 0, eby := 0, eagg := false, ik := none, eqs := false, ezero := [] }),
 (46, { kind := 1, size := 1, offs := [], zero := [.nilfn], el := 0, esz := 0, eby := 0, eagg := false, ik := none, eqs := false, ezero := [] }),
 (47, { kind := 1, size := 1, offs := [], zero := [.nilfn], el := 0, esz := 0, eby := 0, eagg := false, ik := none, eqs := false, ezero := [] }),
 (48, { kind := 1, size := 1, offs := [], zero := [.nilfn], el := 0, esz := 0, eby := 0, eagg := false, ik := none, eqs := false, ezero := [] }),
 (49, { kind := 1, size := 1, offs := [], zero := [.nilfn], el := 0, esz := 0, eby := 0, eagg := false, ik := none, eqs := false, ezero := [] }),
 (50, { kind := 1, size := 1, offs := [], zero := [.nilfn], el := 0, esz := 0, eby := 0, eagg := false, ik := none, eqs := false, ezero := [] }),
 (51, { kind := 2, size := 7, offs := [(0, 5, true), (5, 1, false), (6, 1, false)], zero := [.int .i64 0, .imm 0 [] 0, .int .i64 0, .str [], .str [], .int .i64 0, .bool false], el := 0, esz := 0, eby := 0, eagg := false, ik := none, eqs := false, ezero := [] }),
 (52, { kind := 2, size := 7, offs := [(0, 5, true), (5, 1, false), (6, 1, false)], zero := [.int .i64 0, .imm 0 [] 0, .int .i64 0, .str [], .str [], .int .i64 0, .bool false], el := 0, esz := 0, eby := 0, eagg := false, ik := none, eqs := false, ezero := [] }),
 (53, { kind := 1, size := 1, offs := [], zero := [.nilfn], el := 0, esz := 0, eby := 0, eagg := false, ik := none, eqs := false, ezero := [] }),
 (54, { kind := 1, size := 1, offs := [], zero := [.nilfn], el := 0, esz := 0, eby := 0, eagg := false, ik := none, eqs := false, ezero := [] }),
 (55, { kind := 1, size := 1, offs := [], zero := [.nilptr], el := 0, esz := 0, eby := 0, eagg := false, ik := none, eqs := false, ezero := [] }),
 (56, { kind := 2, size := 3, offs := [(0, 3, true)], zero := [.int .i64 0, .imm 0 [] 0, .imm 0 [] 0], el := 0, esz := 0, eby := 0, eagg := false, ik := none, eqs := false, ezero := [] }),
 (57, { kind := 2, size := 3, offs := [(0, 3, true)], zero := [.int .i64 0, .imm 0 [] 0, .imm 0 [] 0], el := 0, esz := 0, eby := 0, eagg := false, ik := none, eqs := false, ezero := [] }),
 (58, { kind := 1, size := 1, offs := [], zero := [.nilfn], el := 0, esz := 0, eby := 0, eagg := false, ik := none, eqs := false, ezero := [] }),
 (59, { kind := 1, size := 1, offs := [], zero := [.nilfn], el := 0, esz := 0, eby := 0, eagg := false, ik := none, eqs := false, ezero := [] }),
 (60, { kind := 1, size := 1, offs := [], zero := [.nilfn], el := 0, esz := 0, eby := 0, eagg := false, ik := none, eqs := false, ezero := [] }),
 (61, { kind := 1, size := 1, offs := [], zero := [.nilfn], el := 0, esz := 0, eby := 0, eagg := false, ik := none, eqs := false, ezero := [] }),
 (63, { kind := 1, size := 1, offs := [], zero := [.nilfn], el := 0, esz := 0, eby := 0, eagg := false, ik := none, eqs := false, ezero := [] }),
 (65, { kind := 1, size := 1, offs := [], zero := [.nilfn], el := 0, esz := 0, eby := 0, eagg := false, ik := none, eqs := false, ezero := [] }),
 (66, { kind := 1, size := 1, offs := [], zero := [.nilfn], el := 0, esz := 0, eby := 0, eagg := false, ik := none, eqs := false, ezero := [] }),
 (67, { kind := 1, size := 1, offs := [], zero := [.nilfn], el := 0, esz := 0, eby := 0, eagg := false, ik := none, eqs := false, ezero := [] }),
 (68, { kind := 1, size := 1, offs := [], zero := [.nilfn], el := 0, esz := 0, eby := 0, eagg := false, ik := none, eqs := false, ezero := [] }),
 (69, { kind := 2, size := 2, offs := [(0, 1, false), (1, 1, false)], zero := [.int .i64 0, .int .i64 0], el := 0, esz := 0, eby := 0, eagg := false, ik := none, eqs := false, ezero := [] }),
 (70, { kind := 2, size := 2, offs := [(0, 1, false), (1, 1, false)], zero := [.int .i64 0, .int .i64 0], el := 0, esz := 0, eby := 0, eagg := false, ik := none, eqs := true, ezero := [] }),
 (71, { kind := 1, size := 1, offs := [], zero := [.nilfn], el := 0, esz := 0, eby := 0, eagg := false, ik := none, eqs := false, ezero := [] }),
 (72, { kind := 1, size := 1, offs := [], zero := [.nilfn], el := 0, esz := 0, eby := 0, eagg := false, ik := none, eqs := false, ezero := [] }),
 (73, { kind := 1, size := 1, offs := [], zero := [.nilfn], el := 0, esz := 0, eby := 0, eagg := false, ik := none, eqs := false, ezero := [] }),
 (74, { kind := 9, size := 1, offs := [], zero := [.nilmap], el := 3, esz := 1, eby := 0, eagg := false, ik := none, eqs := false, ezero := [.int .i64 0] }),
 (75, { kind := 1, size := 1, offs := [], zero := [.nilfn], el := 0, esz := 0, eby := 0, eagg := false, ik := none, eqs := false, ezero := [] }),
 (76, { kind := 1, size := 1, offs := [], zero := [.nilfn], el := 0, esz := 0, eby := 0, eagg := false, ik := none, eqs := false, ezero := [] }),
 (77, { kind := 1, size := 1, offs := [], zero := [.nilfn], el := 0, esz := 0, eby := 0, eagg := false, ik := none, eqs := false, ezero := [] }),
 (78, { kind := 1, size := 1, offs := [], zero := [.nilfn], el := 0, esz := 0, eby := 0, eagg := false, ik := none, eqs := false, ezero := [] }),
 (79, { kind := 1, size := 1, offs := [], zero := [.nilfn], el := 0, esz := 0, eby := 0, eagg := false, ik := none, eqs := false, ezero := [] }),
 (80, { kind := 1, size := 1, offs := [], zero := [.nilfn], el := 0, esz := 0, eby := 0, eagg := false, ik := none, eqs := false, ezero := [] }),
 (81, { kind := 1, size := 1, offs := [], zero := [.nilfn], el := 0, esz := 0, eby := 0, eagg := false, ik := none, eqs := false, ezero := [] }),
 (82, { kind := 1, size := 1, offs := [], zero := [.nilfn], el := 0, esz := 0, eby := 0, eagg := false, ik := none, eqs := false, ezero := [] }),
 (83, { kind := 1, size := 1, offs := [], zero := [.nilfn], el := 0, esz := 0, eby := 0, eagg := false, ik := none, eqs := false, ezero := [] }),
 (84, { kind := 1, size := 1, offs := [], zero := [.nilfn], el := 0, esz := 0, eby := 0, eagg := false, ik := none, eqs := false, ezero := [] }),
 (85, { kind := 1, size := 1, offs := [], zero := [.nilfn], el := 0, esz := 0, eby := 0, eagg := false, ik := none, eqs := false, ezero := [] }),
 (86, { kind := 1, size := 1, offs := [], zero := [.nilfn], el := 0, esz := 0, eby := 0, eagg := false, ik := none, eqs := false, ezero := [] }),
 (87, { kind := 1, size := 1, offs := [], zero := [.nilfn], el := 0, esz := 0, eby := 0, eagg := false, ik := none, eqs := false, ezero := [] }),
 (89, { kind := 1, size := 1, offs := [], zero := [.nilfn], el := 0, esz := 0, eby := 0, eagg := false, ik := none, eqs := false, ezero := [] }),
 (90, { kind := 1, size := 1, offs := [], zero := [.nilfn], el := 0, esz := 0, eby := 0, eagg := false, ik := none, eqs := false, ezero := [] }),
 (91, { kind := 1, size := 1, offs := [], zero := [.nilfn], el := 0, esz := 0, eby := 0, eagg := false, ik := none, eqs := false, ezero := [] }),
 (92, { kind := 1, size := 1, offs := [], zero := [.nilfn], el := 0, esz := 0, eby := 0, eagg := false, ik := none, eqs := false, ezero := [] }),
 (93, { kind := 1, size := 1, offs := [], zero := [.nilfn], el := 0, esz := 0, eby := 0, eagg := false, ik := none, eqs := false, ezero := [] }),
 (94, { kind := 1, size := 1, offs := [], zero := [.nilfn], el := 0, esz := 0, eby := 0, eagg := false, ik := none, eqs := false, ezero := [] }),
 (95, { kind := 1, size := 1, offs := [], zero := [.nilfn], el := 0, esz := 0, eby := 0, eagg := false, ik := none, eqs := false, ezero := [] }),
 (96, { kind := 1, size := 1, offs := [], zero := [.nilfn], el := 0, esz := 0, eby := 0, eagg := false, ik := none, eqs := false, ezero := [] }),
 (97, { kind := 1, size := 1, offs := [], zero := [.nilfn], el := 0, esz := 0, eby := 0, eagg := false, ik := none, eqs := false, ezero := [] }),
 (98, { kind := 1, size := 1, offs := [], zero := [.nilfn], el := 0, esz := 0, eby := 0, eagg := false, ik := none, eqs := false, ezero := [] }),
 (99, { kind := 1, size := 1, offs := [], zero := [.nilfn], el := 0, esz := 0, eby := 0, eagg := false, ik := none, eqs := false, ezero := [] }),
 (100, { kind := 1, size := 1, offs := [], zero := [.nilfn], el := 0, esz := 0, eby := 0, eagg := false, ik := none, eqs := false, ezero := [] }),
 (101, { kind := 1, size := 1, offs := [], zero := [.nilfn], el := 0, esz := 0, eby := 0, eagg := false, ik := none, eqs := false, ezero := [] }),
 (102, { kind := 1, size := 1, offs := [], zero := [.nilfn], el := 0, esz := 0, eby := 0, eagg := false, ik := none, eqs := false, ezero := [] }),
 (103, { kind := 1, size := 1, offs := [], zero := [.nilfn], el := 0, esz := 0, eby := 0, eagg := false, ik := none, eqs := false, ezero := [] }),
 (104, { kind := 1, size := 1, offs := [], zero := [.nilfn], el := 0, esz := 0, eby := 0, eagg := false, ik := none, eqs := false, ezero := [] }),
 (105, { kind := 1, size := 1, offs := [], zero := [.nilfn], el := 0, esz := 0, eby := 0, eagg := false, ik := none, eqs := false, ezero := [] }),
 (106, { kind := 1, size := 1, offs := [], zero := [.nilfn], el := 0, esz := 0, eby := 0, eagg := false, ik := none, eqs := false, ezero := [] }),
 (107, { kind := 1, size := 1, offs := [], zero := [.nilfn], el := 0, esz := 0, eby := 0, eagg := false, ik := none, eqs := false, ezero := [] }),
 (108, { kind := 6, size := 1, offs := [], zero := [.int .u64 0], el := 0, esz := 0, eby := 0, eagg := false, ik := some .u64, eqs := false, ezero := [] }),
 (109, { kind := 1, size := 1, offs := [], zero := [.nilfn], el := 0, esz := 0, eby := 0, eagg := false, ik := none, eqs := false, ezero := [] }),
 (110, { kind := 1, size := 1, offs := [], zero := [.nilfn], el := 0, esz := 0, eby := 0, eagg := false, ik := none, eqs := false, ezero := [] }),
 (111, { kind := 1, size := 1, offs := [], zero := [.nilfn], el := 0, esz := 0, eby := 0, eagg := false, ik := none, eqs := false, ezero := [] }),
 (112, { kind := 2, size := 4, offs := [(0, 1, false), (1, 1, false), (2, 1, false), (3, 1, false)], zero := [.nilptr, .nilptr, .nilptr, .str []], el := 0, esz := 0, eby := 0, eagg := false, ik := none, eqs := false, ezero := [] }),
 (113, { kind := 2, size := 4, offs := [(0, 1, false), (1, 1, false), (2, 1, false), (3, 1, false)], zero := [.nilptr, .nilptr, .nilptr, .str []], el := 0, esz := 0, eby := 0, eagg := false, ik := none, eqs := false, ezero := [] }),
 (114, { kind := 4, size := 0, offs := [], zero := [], el := 0, esz := 0, eby := 0, eagg := false, ik := none, eqs := false, ezero := [] }),
 (117, { kind := 1, size := 1, offs := [], zero := [.nilfn], el := 0, esz := 0, eby := 0, eagg := false, ik := none, eqs := false, ezero := [] }),
 (118, { kind := 6, size := 1, offs := [], zero := [.int .u32 0], el := 0, esz := 0, eby := 0, eagg := false, ik := some .u32, eqs := false, ezero := [] }),
 (119, { kind := 6, size := 1, offs := [], zero := [.int .u8 0], el := 0, esz := 0, eby := 0, eagg := false, ik := some .u8, eqs := false, ezero := [] }),
 (120, { kind := 6, size := 1, offs := [], zero := [.int .u8 0], el := 0, esz := 0, eby := 0, eagg := false, ik := some .u8, eqs := false, ezero := [] }),
 (121, { kind := 1, size := 1, offs := [], zero := [.nilfn], el := 0, esz := 0, eby := 0, eagg := false, ik := none, eqs := false, ezero := [] }),
 (122, { kind := 1, size := 1, offs := [], zero := [.nilptr], el := 0, esz := 0, eby := 0, eagg := false, ik := none, eqs := false, ezero := [] }),
 (123, { kind := 6, size := 1, offs := [], zero := [.int .i32 0], el := 0, esz := 0, eby := 0, eagg := false, ik := some .i32, eqs := false, ezero := [] }),
 (124, { kind := 6, size := 1, offs := [], zero := [.int .i32 0], el := 0, esz := 0, eby := 0, eagg := false, ik := some .i32, eqs := false, ezero := [] }),
 (125, { kind := 2, size := 11, offs := [(0, 1, false), (1, 1, false), (2, 1, false), (3, 1, false), (4, 1, false), (5, 1, false), (6, 1, false), (7, 1, false), (8, 1, false), (9, 1, false), (10, 1, false)], zero := [.int .u64 0, .int .u64 0, .int .u32 0, .int .u8 0, .int .u8 0, .int .u8 0, .int .u8 0, .nilfn, .nilptr, .int .i32 0, .int .i32 0], el := 0, esz := 0, eby := 0, eagg := false, ik := none, eqs := false, ezero := [] }),
 (126, { kind := 2, size := 11, offs := [(0, 1, false), (1, 1, false), (2, 1, false), (3, 1, false), (4, 1, false), (5, 1, false), (6, 1, false), (7, 1, false), (8, 1, false), (9, 1, false), (10, 1, false)], zero := [.int .u64 0, .int .u64 0, .int .u32 0, .int .u8 0, .int .u8 0, .int .u8 0, .int .u8 0, .nilfn, .nilptr, .int .i32 0, .int .i32 0], el := 0, esz := 0, eby := 0, eagg := false, ik := none, eqs := false, ezero := [] })]
def Try.tm (t : Nat) : TI := match getL Try.tmL t with | some x => x | none => default
theorem Try.tmAll : (Try.tmL.all fun x => tiChk Try.prog x.1 x.2 && (!x.2.eqs || eqsChk Try.prog x.1 x.2)) = true := by kernel_rfl
theorem Try.tmOk : TabOk Try.prog Try.tm := tabOk_of Try.tmAll
theorem Try.tmMixed : Try.prog.follows .mixedOrders = true := by kernel_rfl
end Go.Proofs
end
section
namespace Go.Proofs
open Go.Tm
theorem Try.tm_1 : Try.tm 1 = { kind := 1, size := 1, offs := [], zero := [.nilfn], el := 0, esz := 0, eby := 0, eagg := false, ik := none, eqs := false, ezero := [] } := by kernel_rfl
theorem Try.tm_2 : Try.tm 2 = { kind := 6, size := 1, offs := [], zero := [.int .i64 0], el := 0, esz := 0, eby := 0, eagg := false, ik := some .i64, eqs := false, ezero := [] } := by kernel_rfl
theorem Try.tm_3 : Try.tm 3 = { kind := 6, size := 1, offs := [], zero := [.int .i64 0], el := 0, esz := 0, eby := 0, eagg := false, ik := some .i64, eqs := false, ezero := [] } := by kernel_rfl
theorem Try.tm_4 : Try.tm 4 = { kind := 8, size := 1, offs := [], zero := [.bool false], el := 0, esz := 0, eby := 0, eagg := false, ik := none, eqs := false, ezero := [] } := by kernel_rfl
theorem Try.tm_5 : Try.tm 5 = { kind := 6, size := 1, offs := [], zero := [.int .u8 0], el := 0, esz := 0, eby := 0, eagg := false, ik := some .u8, eqs := false, ezero := [] } := by kernel_rfl
theorem Try.tm_6 : Try.tm 6 = { kind := 6, size := 1, offs := [], zero := [.int .u8 0], el := 0, esz := 0, eby := 0, eagg := false, ik := some .u8, eqs := false, ezero := [] } := by kernel_rfl
theorem Try.tm_7 : Try.tm 7 = { kind := 2, size := 4, offs := [(0, 1, false), (1, 1, false), (2, 1, false), (3, 1, false)], zero := [.int .i64 0, .int .i64 0, .bool false, .int .u8 0], el := 0, esz := 0, eby := 0, eagg := false, ik := none, eqs := false, ezero := [] } := by kernel_rfl
theorem Try.tm_8 : Try.tm 8 = { kind := 2, size := 4, offs := [(0, 1, false), (1, 1, false), (2, 1, false), (3, 1, false)], zero := [.int .i64 0, .int .i64 0, .bool false, .int .u8 0], el := 0, esz := 0, eby := 0, eagg := false, ik := none, eqs := false, ezero := [] } := by kernel_rfl
theorem Try.tm_9 : Try.tm 9 = { kind := 5, size := 1, offs := [], zero := [.str []], el := 0, esz := 0, eby := 0, eagg := false, ik := none, eqs := false, ezero := [] } := by kernel_rfl
theorem Try.tm_10 : Try.tm 10 = { kind := 5, size := 1, offs := [], zero := [.str []], el := 0, esz := 0, eby := 0, eagg := false, ik := none, eqs := false, ezero := [] } := by kernel_rfl
theorem Try.tm_11 : Try.tm 11 = { kind := 5, size := 1, offs := [], zero := [.str []], el := 0, esz := 0, eby := 0, eagg := false, ik := none, eqs := false, ezero := [] } := by kernel_rfl
theorem Try.tm_12 : Try.tm 12 = { kind := 6, size := 1, offs := [], zero := [.int .u64 0], el := 0, esz := 0, eby := 0, eagg := false, ik := some .u64, eqs := false, ezero := [] } := by kernel_rfl
theorem Try.tm_13 : Try.tm 13 = { kind := 2, size := 2, offs := [(0, 1, false), (1, 1, false)], zero := [.str [], .int .u64 0], el := 0, esz := 0, eby := 0, eagg := false, ik := none, eqs := false, ezero := [] } := by kernel_rfl
theorem Try.tm_14 : Try.tm 14 = { kind := 2, size := 2, offs := [(0, 1, false), (1, 1, false)], zero := [.str [], .int .u64 0], el := 0, esz := 0, eby := 0, eagg := false, ik := none, eqs := false, ezero := [] } := by kernel_rfl
theorem Try.tm_15 : Try.tm 15 = { kind := 1, size := 1, offs := [], zero := [.nilptr], el := 0, esz := 0, eby := 0, eagg := false, ik := none, eqs := false, ezero := [] } := by kernel_rfl
theorem Try.tm_16 : Try.tm 16 = { kind := 1, size := 1, offs := [], zero := [.nilptr], el := 0, esz := 0, eby := 0, eagg := false, ik := none, eqs := false, ezero := [] } := by kernel_rfl
theorem Try.tm_17 : Try.tm 17 = { kind := 1, size := 1, offs := [], zero := [.nilptr], el := 0, esz := 0, eby := 0, eagg := false, ik := none, eqs := false, ezero := [] } := by kernel_rfl
theorem Try.tm_18 : Try.tm 18 = { kind := 2, size := 1, offs := [(0, 1, false)], zero := [.nilptr], el := 0, esz := 0, eby := 0, eagg := false, ik := none, eqs := false, ezero := [] } := by kernel_rfl
theorem Try.tm_19 : Try.tm 19 = { kind := 2, size := 1, offs := [(0, 1, false)], zero := [.nilptr], el := 0, esz := 0, eby := 0, eagg := false, ik := none, eqs := false, ezero := [] } := by kernel_rfl
theorem Try.tm_20 : Try.tm 20 = { kind := 7, size := 1, offs := [], zero := [.nilIface], el := 0, esz := 0, eby := 0, eagg := false, ik := none, eqs := false, ezero := [] } := by kernel_rfl
theorem Try.tm_21 : Try.tm 21 = { kind := 6, size := 1, offs := [], zero := [.int .i32 0], el := 0, esz := 0, eby := 0, eagg := false, ik := some .i32, eqs := false, ezero := [] } := by kernel_rfl
theorem Try.tm_22 : Try.tm 22 = { kind := 3, size := 1, offs := [], zero := [.imm 0 [] 0], el := 52, esz := 7, eby := 88, eagg := true, ik := none, eqs := false, ezero := [.int .i64 0, .imm 0 [] 0, .int .i64 0, .str [], .str [], .int .i64 0, .bool false] } := by kernel_rfl
theorem Try.tm_23 : Try.tm 23 = { kind := 3, size := 1, offs := [], zero := [.imm 0 [] 0], el := 70, esz := 2, eby := 16, eagg := true, ik := none, eqs := false, ezero := [.int .i64 0, .int .i64 0] } := by kernel_rfl
theorem Try.tm_24 : Try.tm 24 = { kind := 2, size := 3, offs := [(0, 1, false), (1, 1, false), (2, 1, false)], zero := [.int .i64 0, .imm 0 [] 0, .imm 0 [] 0], el := 0, esz := 0, eby := 0, eagg := false, ik := none, eqs := false, ezero := [] } := by kernel_rfl
theorem Try.tm_25 : Try.tm 25 = { kind := 2, size := 3, offs := [(0, 1, false), (1, 1, false), (2, 1, false)], zero := [.int .i64 0, .imm 0 [] 0, .imm 0 [] 0], el := 0, esz := 0, eby := 0, eagg := false, ik := none, eqs := false, ezero := [] } := by kernel_rfl
theorem Try.tm_26 : Try.tm 26 = { kind := 3, size := 1, offs := [], zero := [.imm 0 [] 0], el := 3, esz := 1, eby := 8, eagg := false, ik := none, eqs := false, ezero := [.int .i64 0] } := by kernel_rfl
theorem Try.tm_27 : Try.tm 27 = { kind := 2, size := 5, offs := [(0, 1, false), (1, 1, false), (2, 1, false), (3, 1, false), (4, 1, false)], zero := [.int .i64 0, .imm 0 [] 0, .int .i64 0, .str [], .str []], el := 0, esz := 0, eby := 0, eagg := false, ik := none, eqs := false, ezero := [] } := by kernel_rfl
theorem Try.tm_28 : Try.tm 28 = { kind := 2, size := 5, offs := [(0, 1, false), (1, 1, false), (2, 1, false), (3, 1, false), (4, 1, false)], zero := [.int .i64 0, .imm 0 [] 0, .int .i64 0, .str [], .str []], el := 0, esz := 0, eby := 0, eagg := false, ik := none, eqs := false, ezero := [] } := by kernel_rfl
theorem Try.tm_29 : Try.tm 29 = { kind := 2, size := 12, offs := [(0, 1, false), (1, 5, true), (6, 1, false), (7, 1, false), (8, 1, false), (9, 1, false), (10, 1, false), (11, 1, false)], zero := [.int .u8 0, .int .i64 0, .imm 0 [] 0, .int .i64 0, .str [], .str [], .int .i64 0, .int .i64 0, .imm 0 [] 0, .int .i64 0, .int .i64 0, .int .i64 0], el := 0, esz := 0, eby := 0, eagg := false, ik := none, eqs := false, ezero := [] } := by kernel_rfl
theorem Try.tm_30 : Try.tm 30 = { kind := 2, size := 12, offs := [(0, 1, false), (1, 5, true), (6, 1, false), (7, 1, false), (8, 1, false), (9, 1, false), (10, 1, false), (11, 1, false)], zero := [.int .u8 0, .int .i64 0, .imm 0 [] 0, .int .i64 0, .str [], .str [], .int .i64 0, .int .i64 0, .imm 0 [] 0, .int .i64 0, .int .i64 0, .int .i64 0], el := 0, esz := 0, eby := 0, eagg := false, ik := none, eqs := false, ezero := [] } := by kernel_rfl
theorem Try.tm_31 : Try.tm 31 = { kind := 1, size := 1, offs := [], zero := [.nilfn], el := 0, esz := 0, eby := 0, eagg := false, ik := none, eqs := false, ezero := [] } := by kernel_rfl
theorem Try.tm_32 : Try.tm 32 = { kind := 1, size := 1, offs := [], zero := [.nilfn], el := 0, esz := 0, eby := 0, eagg := false, ik := none, eqs := false, ezero := [] } := by kernel_rfl
theorem Try.tm_33 : Try.tm 33 = { kind := 1, size := 1, offs := [], zero := [.nilfn], el := 0, esz := 0, eby := 0, eagg := false, ik := none, eqs := false, ezero := [] } := by kernel_rfl
theorem Try.tm_34 : Try.tm 34 = { kind := 3, size := 1, offs := [], zero := [.imm 0 [] 0], el := 28, esz := 5, eby := 72, eagg := true, ik := none, eqs := false, ezero := [.int .i64 0, .imm 0 [] 0, .int .i64 0, .str [], .str []] } := by kernel_rfl
theorem Try.tm_35 : Try.tm 35 = { kind := 6, size := 1, offs := [], zero := [.int .i64 0], el := 0, esz := 0, eby := 0, eagg := false, ik := some .i64, eqs := false, ezero := [] } := by kernel_rfl
theorem Try.tm_37 : Try.tm 37 = { kind := 1, size := 1, offs := [], zero := [.nilfn], el := 0, esz := 0, eby := 0, eagg := false, ik := none, eqs := false, ezero := [] } := by kernel_rfl
theorem Try.tm_39 : Try.tm 39 = { kind := 1, size := 1, offs := [], zero := [.nilfn], el := 0, esz := 0, eby := 0, eagg := false, ik := none, eqs := false, ezero := [] } := by kernel_rfl
theorem Try.tm_41 : Try.tm 41 = { kind := 1, size := 1, offs := [], zero := [.nilfn], el := 0, esz := 0, eby := 0, eagg := false, ik := none, eqs := false, ezero := [] } := by kernel_rfl
theorem Try.tm_43 : Try.tm 43 = { kind := 1, size := 1, offs := [], zero := [.nilfn], el := 0, esz := 0, eby := 0, eagg := false, ik := none, eqs := false, ezero := [] } := by kernel_rfl
theorem Try.tm_44 : Try.tm 44 = { kind := 1, size := 1, offs := [], zero := [.nilfn], el := 0, esz := 0, eby := 0, eagg := false, ik := none, eqs := false, ezero := [] } := by kernel_rfl
theorem Try.tm_45 : Try.tm 45 = { kind := 1, size := 1, offs := [], zero := [.nilfn], el := 0, esz := 0, eby := 0, eagg := false, ik := none, eqs := false, ezero := [] } := by kernel_rfl
theorem Try.tm_46 : Try.tm 46 = { kind := 1, size := 1, offs := [], zero := [.nilfn], el := 0, esz := 0, eby := 0, eagg := false, ik := none, eqs := false, ezero := [] } := by kernel_rfl
theorem Try.tm_47 : Try.tm 47 = { kind := 1, size := 1, offs := [], zero := [.nilfn], el := 0, esz := 0, eby := 0, eagg := false, ik := none, eqs := false, ezero := [] } := by kernel_rfl
theorem Try.tm_48 : Try.tm 48 = { kind := 1, size := 1, offs := [], zero := [.nilfn], el := 0, esz := 0, eby := 0, eagg := false, ik := none, eqs := false, ezero := [] } := by kernel_rfl
theorem Try.tm_49 : Try.tm 49 = { kind := 1, size := 1, offs := [], zero := [.nilfn], el := 0, esz := 0, eby := 0, eagg := false, ik := none, eqs := false, ezero := [] } := by kernel_rfl
theorem Try.tm_50 : Try.tm 50 = { kind := 1, size := 1, offs := [], zero := [.nilfn], el := 0, esz := 0, eby := 0, eagg := false, ik := none, eqs := false, ezero := [] } := by kernel_rfl
theorem Try.tm_51 : Try.tm 51 = { kind := 2, size := 7, offs := [(0, 5, true), (5, 1, false), (6, 1, false)], zero := [.int .i64 0, .imm 0 [] 0, .int .i64 0, .str [], .str [], .int .i64 0, .bool false], el := 0, esz := 0, eby := 0, eagg := false, ik := none, eqs := false, ezero := [] } := by kernel_rfl
theorem Try.tm_52 : Try.tm 52 = { kind := 2, size := 7, offs := [(0, 5, true), (5, 1, false), (6, 1, false)], zero := [.int .i64 0, .imm 0 [] 0, .int .i64 0, .str [], .str [], .int .i64 0, .bool false], el := 0, esz := 0, eby := 0, eagg := false, ik := none, eqs := false, ezero := [] } := by kernel_rfl
theorem Try.tm_53 : Try.tm 53 = { kind := 1, size := 1, offs := [], zero := [.nilfn], el := 0, esz := 0, eby := 0, eagg := false, ik := none, eqs := false, ezero := [] } := by kernel_rfl
theorem Try.tm_54 : Try.tm 54 = { kind := 1, size := 1, offs := [], zero := [.nilfn], el := 0, esz := 0, eby := 0, eagg := false, ik := none, eqs := false, ezero := [] } := by kernel_rfl
theorem Try.tm_55 : Try.tm 55 = { kind := 1, size := 1, offs := [], zero := [.nilptr], el := 0, esz := 0, eby := 0, eagg := false, ik := none, eqs := false, ezero := [] } := by kernel_rfl
theorem Try.tm_56 : Try.tm 56 = { kind := 2, size := 3, offs := [(0, 3, true)], zero := [.int .i64 0, .imm 0 [] 0, .imm 0 [] 0], el := 0, esz := 0, eby := 0, eagg := false, ik := none, eqs := false, ezero := [] } := by kernel_rfl
theorem Try.tm_57 : Try.tm 57 = { kind := 2, size := 3, offs := [(0, 3, true)], zero := [.int .i64 0, .imm 0 [] 0, .imm 0 [] 0], el := 0, esz := 0, eby := 0, eagg := false, ik := none, eqs := false, ezero := [] } := by kernel_rfl
theorem Try.tm_58 : Try.tm 58 = { kind := 1, size := 1, offs := [], zero := [.nilfn], el := 0, esz := 0, eby := 0, eagg := false, ik := none, eqs := false, ezero := [] } := by kernel_rfl
theorem Try.tm_59 : Try.tm 59 = { kind := 1, size := 1, offs := [], zero := [.nilfn], el := 0, esz := 0, eby := 0, eagg := false, ik := none, eqs := false, ezero := [] } := by kernel_rfl
theorem Try.tm_60 : Try.tm 60 = { kind := 1, size := 1, offs := [], zero := [.nilfn], el := 0, esz := 0, eby := 0, eagg := false, ik := none, eqs := false, ezero := [] } := by kernel_rfl
theorem Try.tm_61 : Try.tm 61 = { kind := 1, size := 1, offs := [], zero := [.nilfn], el := 0, esz := 0, eby := 0, eagg := false, ik := none, eqs := false, ezero := [] } := by kernel_rfl
theorem Try.tm_63 : Try.tm 63 = { kind := 1, size := 1, offs := [], zero := [.nilfn], el := 0, esz := 0, eby := 0, eagg := false, ik := none, eqs := false, ezero := [] } := by kernel_rfl
theorem Try.tm_65 : Try.tm 65 = { kind := 1, size := 1, offs := [], zero := [.nilfn], el := 0, esz := 0, eby := 0, eagg := false, ik := none, eqs := false, ezero := [] } := by kernel_rfl
theorem Try.tm_66 : Try.tm 66 = { kind := 1, size := 1, offs := [], zero := [.nilfn], el := 0, esz := 0, eby := 0, eagg := false, ik := none, eqs := false, ezero := [] } := by kernel_rfl
theorem Try.tm_67 : Try.tm 67 = { kind := 1, size := 1, offs := [], zero := [.nilfn], el := 0, esz := 0, eby := 0, eagg := false, ik := none, eqs := false, ezero := [] } := by kernel_rfl
theorem Try.tm_68 : Try.tm 68 = { kind := 1, size := 1, offs := [], zero := [.nilfn], el := 0, esz := 0, eby := 0, eagg := false, ik := none, eqs := false, ezero := [] } := by kernel_rfl
theorem Try.tm_69 : Try.tm 69 = { kind := 2, size := 2, offs := [(0, 1, false), (1, 1, false)], zero := [.int .i64 0, .int .i64 0], el := 0, esz := 0, eby := 0, eagg := false, ik := none, eqs := false, ezero := [] } := by kernel_rfl
theorem Try.tm_70 : Try.tm 70 = { kind := 2, size := 2, offs := [(0, 1, false), (1, 1, false)], zero := [.int .i64 0, .int .i64 0], el := 0, esz := 0, eby := 0, eagg := false, ik := none, eqs := true, ezero := [] } := by kernel_rfl
theorem Try.tm_71 : Try.tm 71 = { kind := 1, size := 1, offs := [], zero := [.nilfn], el := 0, esz := 0, eby := 0, eagg := false, ik := none, eqs := false, ezero := [] } := by kernel_rfl
theorem Try.tm_72 : Try.tm 72 = { kind := 1, size := 1, offs := [], zero := [.nilfn], el := 0, esz := 0, eby := 0, eagg := false, ik := none, eqs := false, ezero := [] } := by kernel_rfl
theorem Try.tm_73 : Try.tm 73 = { kind := 1, size := 1, offs := [], zero := [.nilfn], el := 0, esz := 0, eby := 0, eagg := false, ik := none, eqs := false, ezero := [] } := by kernel_rfl
theorem Try.tm_74 : Try.tm 74 = { kind := 9, size := 1, offs := [], zero := [.nilmap], el := 3, esz := 1, eby := 0, eagg := false, ik := none, eqs := false, ezero := [.int .i64 0] } := by kernel_rfl
theorem Try.tm_75 : Try.tm 75 = { kind := 1, size := 1, offs := [], zero := [.nilfn], el := 0, esz := 0, eby := 0, eagg := false, ik := none, eqs := false, ezero := [] } := by kernel_rfl
theorem Try.tm_76 : Try.tm 76 = { kind := 1, size := 1, offs := [], zero := [.nilfn], el := 0, esz := 0, eby := 0, eagg := false, ik := none, eqs := false, ezero := [] } := by kernel_rfl
theorem Try.tm_77 : Try.tm 77 = { kind := 1, size := 1, offs := [], zero := [.nilfn], el := 0, esz := 0, eby := 0, eagg := false, ik := none, eqs := false, ezero := [] } := by kernel_rfl
theorem Try.tm_78 : Try.tm 78 = { kind := 1, size := 1, offs := [], zero := [.nilfn], el := 0, esz := 0, eby := 0, eagg := false, ik := none, eqs := false, ezero := [] } := by kernel_rfl
theorem Try.tm_79 : Try.tm 79 = { kind := 1, size := 1, offs := [], zero := [.nilfn], el := 0, esz := 0, eby := 0, eagg := false, ik := none, eqs := false, ezero := [] } := by kernel_rfl
theorem Try.tm_80 : Try.tm 80 = { kind := 1, size := 1, offs := [], zero := [.nilfn], el := 0, esz := 0, eby := 0, eagg := false, ik := none, eqs := false, ezero := [] } := by kernel_rfl
theorem Try.tm_81 : Try.tm 81 = { kind := 1, size := 1, offs := [], zero := [.nilfn], el := 0, esz := 0, eby := 0, eagg := false, ik := none, eqs := false, ezero := [] } := by kernel_rfl
theorem Try.tm_82 : Try.tm 82 = { kind := 1, size := 1, offs := [], zero := [.nilfn], el := 0, esz := 0, eby := 0, eagg := false, ik := none, eqs := false, ezero := [] } := by kernel_rfl
theorem Try.tm_83 : Try.tm 83 = { kind := 1, size := 1, offs := [], zero := [.nilfn], el := 0, esz := 0, eby := 0, eagg := false, ik := none, eqs := false, ezero := [] } := by kernel_rfl
theorem Try.tm_84 : Try.tm 84 = { kind := 1, size := 1, offs := [], zero := [.nilfn], el := 0, esz := 0, eby := 0, eagg := false, ik := none, eqs := false, ezero := [] } := by kernel_rfl
theorem Try.tm_85 : Try.tm 85 = { kind := 1, size := 1, offs := [], zero := [.nilfn], el := 0, esz := 0, eby := 0, eagg := false, ik := none, eqs := false, ezero := [] } := by kernel_rfl
theorem Try.tm_86 : Try.tm 86 = { kind := 1, size := 1, offs := [], zero := [.nilfn], el := 0, esz := 0, eby := 0, eagg := false, ik := none, eqs := false, ezero := [] } := by kernel_rfl
theorem Try.tm_87 : Try.tm 87 = { kind := 1, size := 1, offs := [], zero := [.nilfn], el := 0, esz := 0, eby := 0, eagg := false, ik := none, eqs := false, ezero := [] } := by kernel_rfl
theorem Try.tm_89 : Try.tm 89 = { kind := 1, size := 1, offs := [], zero := [.nilfn], el := 0, esz := 0, eby := 0, eagg := false, ik := none, eqs := false, ezero := [] } := by kernel_rfl
theorem Try.tm_90 : Try.tm 90 = { kind := 1, size := 1, offs := [], zero := [.nilfn], el := 0, esz := 0, eby := 0, eagg := false, ik := none, eqs := false, ezero := [] } := by kernel_rfl
theorem Try.tm_91 : Try.tm 91 = { kind := 1, size := 1, offs := [], zero := [.nilfn], el := 0, esz := 0, eby := 0, eagg := false, ik := none, eqs := false, ezero := [] } := by kernel_rfl
theorem Try.tm_92 : Try.tm 92 = { kind := 1, size := 1, offs := [], zero := [.nilfn], el := 0, esz := 0, eby := 0, eagg := false, ik := none, eqs := false, ezero := [] } := by kernel_rfl
theorem Try.tm_93 : Try.tm 93 = { kind := 1, size := 1, offs := [], zero := [.nilfn], el := 0, esz := 0, eby := 0, eagg := false, ik := none, eqs := false, ezero := [] } := by kernel_rfl
theorem Try.tm_94 : Try.tm 94 = { kind := 1, size := 1, offs := [], zero := [.nilfn], el := 0, esz := 0, eby := 0, eagg := false, ik := none, eqs := false, ezero := [] } := by kernel_rfl
theorem Try.tm_95 : Try.tm 95 = { kind := 1, size := 1, offs := [], zero := [.nilfn], el := 0, esz := 0, eby := 0, eagg := false, ik := none, eqs := false, ezero := [] } := by kernel_rfl
theorem Try.tm_96 : Try.tm 96 = { kind := 1, size := 1, offs := [], zero := [.nilfn], el := 0, esz := 0, eby := 0, eagg := false, ik := none, eqs := false, ezero := [] } := by kernel_rfl
theorem Try.tm_97 : Try.tm 97 = { kind := 1, size := 1, offs := [], zero := [.nilfn], el := 0, esz := 0, eby := 0, eagg := false, ik := none, eqs := false, ezero := [] } := by kernel_rfl
theorem Try.tm_98 : Try.tm 98 = { kind := 1, size := 1, offs := [], zero := [.nilfn], el := 0, esz := 0, eby := 0, eagg := false, ik := none, eqs := false, ezero := [] } := by kernel_rfl
theorem Try.tm_99 : Try.tm 99 = { kind := 1, size := 1, offs := [], zero := [.nilfn], el := 0, esz := 0, eby := 0, eagg := false, ik := none, eqs := false, ezero := [] } := by kernel_rfl
theorem Try.tm_100 : Try.tm 100 = { kind := 1, size := 1, offs := [], zero := [.nilfn], el := 0, esz := 0, eby := 0, eagg := false, ik := none, eqs := false, ezero := [] } := by kernel_rfl
theorem Try.tm_101 : Try.tm 101 = { kind := 1, size := 1, offs := [], zero := [.nilfn], el := 0, esz := 0, eby := 0, eagg := false, ik := none, eqs := false, ezero := [] } := by kernel_rfl
theorem Try.tm_102 : Try.tm 102 = { kind := 1, size := 1, offs := [], zero := [.nilfn], el := 0, esz := 0, eby := 0, eagg := false, ik := none, eqs := false, ezero := [] } := by kernel_rfl
theorem Try.tm_103 : Try.tm 103 = { kind := 1, size := 1, offs := [], zero := [.nilfn], el := 0, esz := 0, eby := 0, eagg := false, ik := none, eqs := false, ezero := [] } := by kernel_rfl
theorem Try.tm_104 : Try.tm 104 = { kind := 1, size := 1, offs := [], zero := [.nilfn], el := 0, esz := 0, eby := 0, eagg := false, ik := none, eqs := false, ezero := [] } := by kernel_rfl
theorem Try.tm_105 : Try.tm 105 = { kind := 1, size := 1, offs := [], zero := [.nilfn], el := 0, esz := 0, eby := 0, eagg := false, ik := none, eqs := false, ezero := [] } := by kernel_rfl
theorem Try.tm_106 : Try.tm 106 = { kind := 1, size := 1, offs := [], zero := [.nilfn], el := 0, esz := 0, eby := 0, eagg := false, ik := none, eqs := false, ezero := [] } := by kernel_rfl
theorem Try.tm_107 : Try.tm 107 = { kind := 1, size := 1, offs := [], zero := [.nilfn], el := 0, esz := 0, eby := 0, eagg := false, ik := none, eqs := false, ezero := [] } := by kernel_rfl
theorem Try.tm_108 : Try.tm 108 = { kind := 6, size := 1, offs := [], zero := [.int .u64 0], el := 0, esz := 0, eby := 0, eagg := false, ik := some .u64, eqs := false, ezero := [] } := by kernel_rfl
theorem Try.tm_109 : Try.tm 109 = { kind := 1, size := 1, offs := [], zero := [.nilfn], el := 0, esz := 0, eby := 0, eagg := false, ik := none, eqs := false, ezero := [] } := by kernel_rfl
theorem Try.tm_110 : Try.tm 110 = { kind := 1, size := 1, offs := [], zero := [.nilfn], el := 0, esz := 0, eby := 0, eagg := false, ik := none, eqs := false, ezero := [] } := by kernel_rfl
theorem Try.tm_111 : Try.tm 111 = { kind := 1, size := 1, offs := [], zero := [.nilfn], el := 0, esz := 0, eby := 0, eagg := false, ik := none, eqs := false, ezero := [] } := by kernel_rfl
theorem Try.tm_112 : Try.tm 112 = { kind := 2, size := 4, offs := [(0, 1, false), (1, 1, false), (2, 1, false), (3, 1, false)], zero := [.nilptr, .nilptr, .nilptr, .str []], el := 0, esz := 0, eby := 0, eagg := false, ik := none, eqs := false, ezero := [] } := by kernel_rfl
theorem Try.tm_113 : Try.tm 113 = { kind := 2, size := 4, offs := [(0, 1, false), (1, 1, false), (2, 1, false), (3, 1, false)], zero := [.nilptr, .nilptr, .nilptr, .str []], el := 0, esz := 0, eby := 0, eagg := false, ik := none, eqs := false, ezero := [] } := by kernel_rfl
theorem Try.tm_114 : Try.tm 114 = { kind := 4, size := 0, offs := [], zero := [], el := 0, esz := 0, eby := 0, eagg := false, ik := none, eqs := false, ezero := [] } := by kernel_rfl
theorem Try.tm_117 : Try.tm 117 = { kind := 1, size := 1, offs := [], zero := [.nilfn], el := 0, esz := 0, eby := 0, eagg := false, ik := none, eqs := false, ezero := [] } := by kernel_rfl
theorem Try.tm_118 : Try.tm 118 = { kind := 6, size := 1, offs := [], zero := [.int .u32 0], el := 0, esz := 0, eby := 0, eagg := false, ik := some .u32, eqs := false, ezero := [] } := by kernel_rfl
theorem Try.tm_119 : Try.tm 119 = { kind := 6, size := 1, offs := [], zero := [.int .u8 0], el := 0, esz := 0, eby := 0, eagg := false, ik := some .u8, eqs := false, ezero := [] } := by kernel_rfl
theorem Try.tm_120 : Try.tm 120 = { kind := 6, size := 1, offs := [], zero := [.int .u8 0], el := 0, esz := 0, eby := 0, eagg := false, ik := some .u8, eqs := false, ezero := [] } := by kernel_rfl
theorem Try.tm_121 : Try.tm 121 = { kind := 1, size := 1, offs := [], zero := [.nilfn], el := 0, esz := 0, eby := 0, eagg := false, ik := none, eqs := false, ezero := [] } := by kernel_rfl
theorem Try.tm_122 : Try.tm 122 = { kind := 1, size := 1, offs := [], zero := [.nilptr], el := 0, esz := 0, eby := 0, eagg := false, ik := none, eqs := false, ezero := [] } := by kernel_rfl
theorem Try.tm_123 : Try.tm 123 = { kind := 6, size := 1, offs := [], zero := [.int .i32 0], el := 0, esz := 0, eby := 0, eagg := false, ik := some .i32, eqs := false, ezero := [] } := by kernel_rfl
theorem Try.tm_124 : Try.tm 124 = { kind := 6, size := 1, offs := [], zero := [.int .i32 0], el := 0, esz := 0, eby := 0, eagg := false, ik := some .i32, eqs := false, ezero := [] } := by kernel_rfl
theorem Try.tm_125 : Try.tm 125 = { kind := 2, size := 11, offs := [(0, 1, false), (1, 1, false), (2, 1, false), (3, 1, false), (4, 1, false), (5, 1, false), (6, 1, false), (7, 1, false), (8, 1, false), (9, 1, false), (10, 1, false)], zero := [.int .u64 0, .int .u64 0, .int .u32 0, .int .u8 0, .int .u8 0, .int .u8 0, .int .u8 0, .nilfn, .nilptr, .int .i32 0, .int .i32 0], el := 0, esz := 0, eby := 0, eagg := false, ik := none, eqs := false, ezero := [] } := by kernel_rfl
theorem Try.tm_126 : Try.tm 126 = { kind := 2, size := 11, offs := [(0, 1, false), (1, 1, false), (2, 1, false), (3, 1, false), (4, 1, false), (5, 1, false), (6, 1, false), (7, 1, false), (8, 1, false), (9, 1, false), (10, 1, false)], zero := [.int .u64 0, .int .u64 0, .int .u32 0, .int .u8 0, .int .u8 0, .int .u8 0, .int .u8 0, .nilfn, .nilptr, .int .i32 0, .int .i32 0], el := 0, esz := 0, eby := 0, eagg := false, ik := none, eqs := false, ezero := [] } := by kernel_rfl
end Go.Proofs
end
section
namespace Go.Proofs
open Go.Tm
theorem Try.S : Seat Try.prog Try.tm := ⟨Try.tmOk, Try.tmMixed⟩
end Go.Proofs
end
section
namespace Go.Tm
theorem lb {a b : Nat} (h : Nat.ble a b = true) : a ≤ b := Nat.le_of_ble_eq_true h
section
variable {P : Program} {tab : Nat → TI} {lim n : Nat}
theorem Ok.pp {id : Nat} {ops : Array Oper} {st st' : St} {vc : Bool} {acc : List FP} {Q : Exit → St → Prop} (S : Seat P tab) (V : List Nat)
  (h : Comes (runE tab true false ops.toList ops.toList ⟨keep V st.vars, st.heap, st.nx⟩ true []) st' vc acc []) (hQ : Q .normal st') (hok : regOk n ops false = true := by decide +kernel)
  (hv : vc = true := by first | rfl | (simp only [go_sem, Nat.reduceLeDiff]; done) | (simp only [go_sem, Nat.reduceLeDiff]; rfl) | (simp; done) | (simp [oneD] <;> omega) | (simp_all; done) | (simp_all [oneD] <;> omega)) (hlim : st'.nx ≤ lim := by first | exact Nat.le_refl _ | exact Nat.le_of_ble_eq_true rfl | (dsimp only; omega) | (simp <;> omega)) : Ok P lim n (.region id ops false) st Q :=
 .plain S.tm S.mixed V hok h hv hlim hQ
theorem Ok.px {X : Prop} {id : Nat} {ops : Array Oper} {st st' : St} {vc : Bool} {acc : List FP} {Q : Exit → St → Prop} (S : Seat P tab) (x : X) (V : List Nat) (hQ : Q .normal st') (hok : regOk n ops false = true := by decide +kernel)
  (h : X → Comes (runE tab true false ops.toList ops.toList ⟨keep V st.vars, st.heap, st.nx⟩ true []) st' vc acc [] := by intro x q hq; simp only [go_sem, Nat.reduceSub, Int.reduceEq, Nat.reduceLT, Nat.reduceDiv, Nat.reduceAdd, Nat.reduceBEq, Nat.reduceLeDiff, reduceCtorEq, Nat.reduceEqDiff, Nat.reduceMod, Nat.reduceMul, x]; exact hq)
  (hv : vc = true := by first | rfl | (simp only [go_sem, Nat.reduceLeDiff]; done) | (simp only [go_sem, Nat.reduceLeDiff]; rfl) | (simp; done) | (simp [oneD] <;> omega) | (simp_all; done) | (simp_all [oneD] <;> omega)) (hlim : st'.nx ≤ lim := by first | exact Nat.le_refl _ | exact Nat.le_of_ble_eq_true rfl | (dsimp only; omega) | (simp <;> omega)) : Ok P lim n (.region id ops false) st Q :=
 .plain S.tm S.mixed V hok (h x) hv hlim hQ
theorem Ok.dx {X : Prop} {id : Nat} {ops : Array Oper} {st st' : St} {vc : Bool} {acc : List FP} {Q : Exit → St → Prop} (S : Seat P tab) (x : X) (V : List Nat) (hQ : Q .normal st') (hok : regOk n ops true = true := by decide +kernel)
  (h : X → Comes (runE tab true true ops.toList ops.toList ⟨keep V st.vars, st.heap, st.nx⟩ true []) st' vc acc [] := by intro x q hq; simp only [go_sem, Nat.reduceSub, Int.reduceEq, Nat.reduceLT, Nat.reduceDiv, Nat.reduceAdd, Nat.reduceBEq, Nat.reduceLeDiff, reduceCtorEq, Nat.reduceEqDiff, Nat.reduceMod, Nat.reduceMul, x]; exact hq)
  (hs : schedB ops (fun i => (acc[i]?).getD fpDflt) = true := by exact schedB_of (by kernel_rfl))
  (hv : vc = true := by first | rfl | (simp only [go_sem, Nat.reduceLeDiff]; done) | (simp only [go_sem, Nat.reduceLeDiff]; rfl) | (simp; done) | (simp [oneD] <;> omega) | (simp_all; done) | (simp_all [oneD] <;> omega)) (hlim : st'.nx ≤ lim := by first | exact Nat.le_refl _ | exact Nat.le_of_ble_eq_true rfl | (dsimp only; omega) | (simp <;> omega)) : Ok P lim n (.region id ops true) st Q :=
 .drawn S.tm S.mixed V hok (h x) hs hv hlim hQ
theorem WRun.rx {X1 X2 X3 X4 : Prop} {ops : Array Oper} (k : Nat) {l l' : List Oper} {st st' : St} {acc acc' : List FP} {Q : St → List FP → Prop} {vc : Bool} (x1 : X1) (x2 : X2) (x3 : X3) (x4 : X4)
  (hQ : WRun P tab true lim ops l' st' acc' Q)
  (h : X1 → X2 → X3 → X4 → Comes (runK tab true true ops.toList k l st true acc) st' vc acc' l' := by intro x1 x2 x3 x4 q hq; simp only [go_sem, Nat.reduceSub, Int.reduceEq, Nat.reduceLT, Nat.reduceDiv, Nat.reduceAdd, Nat.reduceBEq, Nat.reduceLeDiff, reduceCtorEq, Nat.reduceEqDiff, Nat.reduceMod, Nat.reduceMul, x1, x2, x3, x4]; exact hq)
  (hv : vc = true := by first | rfl | (simp only [go_sem, Nat.reduceLeDiff]; done) | (simp only [go_sem, Nat.reduceLeDiff]; rfl) | (simp; done) | (simp [oneD] <;> omega) | (simp_all; done) | (simp_all [oneD] <;> omega)) (hlim : st'.nx ≤ lim := by first | exact Nat.le_refl _ | exact Nat.le_of_ble_eq_true rfl | (dsimp only; omega) | (simp <;> omega)) : WRun P tab true lim ops l st acc Q :=
 WRun.EN k (h x1 x2 x3 x4).eq (.inl rfl) hv hlim hQ
end
end Go.Tm
end
section
namespace Go.Tm
theorem sj {α : Type} {a b : α} (h : some a = some b) : a = b := Option.some.inj h
section
variable {P : Program} {tab : Nat → TI} {lim n : Nat}
end
end Go.Tm
end
section
namespace Go.Tm
open Go.RowKit Go.WideShapes
theorem Goes.blk {lim n0 : Nat} {st s : St} (id : Nat) (blk blk' : Blk) (hd : getL st.heap id = some blk) (hw : ∀ C : Cx, C.rf = true → holds C id blk → holds C id blk') (h : Goes lim n0 ⟨st.vars, put st.heap id blk', st.nx⟩ s) : Goes lim n0 st s := by
 intro E n F a w g hE hF hR
 obtain ⟨h1, h2, h3⟩ := hF
 have hid : F.hp id = some blk := by rw [h2]; exact hd
 have hp : ∀ i, getL (put st.heap id blk') i = if id = i then some blk' else F.hp i := by
  intro i; rw [getL_put, h2]
 have hne : ∀ i, getL (put st.heap id blk') i ≠ none ↔ F.hp i ≠ none := by
  intro i
  rw [hp]
  by_cases e : id = i
  ·subst e; simp [hid]
  ·rw [if_neg e]
 have hown : ownB g (getL (put st.heap id blk')) = ownB g F.hp := by
  funext b
  apply propext
  constructor
  ·rintro ⟨i, o, k1, k2⟩; exact ⟨i, o, (hne i).1 k1, k2⟩
  ·rintro ⟨i, o, k1, k2⟩; exact ⟨i, o, (hne i).2 k1, k2⟩
 have hcx : cx w g (getL (put st.heap id blk')) = cx w g F.hp := by simp only [cx, hown]
 refine h E n ⟨F.rd, getL (put st.heap id blk'), F.nu⟩ a w g hE ⟨h1, rfl, h3⟩ ⟨hR.sz, hR.df, fun t => by rw [hcx]; exact hR.rd t, ⟨fun i blk2 hb => ?_, fun i i' b o o' k1 k2 => hR.mem.inj i i' b o o' ((hne i).1 k1) ((hne i').1 k2), fun i hi => ?_, ?_, hR.mem.fl⟩, fun i b o k1 => hR.base i b o ((hne i).1 k1), hR.keep, hR.gz, hR.gs, hR.nu⟩
 ·have hb : getL (put st.heap id blk') i = some blk2 := hb
  rw [hcx]
  rw [hp] at hb
  by_cases e : id = i
  ·subst e
   rw [if_pos rfl] at hb
   cases hb
   exact hw _ rfl (hR.mem.hd id _ hid)
  ·rw [if_neg e] at hb
   exact hR.mem.hd i blk2 hb
 ·obtain ⟨k1, k2⟩ := hR.mem.nw i hi
  refine ⟨k1, ?_⟩
  rcases Classical.em (getL (put st.heap id blk') i = none) with e | e
  ·exact e
  ·exact absurd k2 ((hne i).1 e)
 ·rw [hown]; exact hR.mem.zs
theorem Goes.sub {lim n0 : Nat} {st s : St} (V H : List Nat) (h1 : (⟨pickL V st.vars, pickL H st.heap, s.nx⟩ : St) = s := by first | with_reducible rfl | rfl | (simp only [go_sem, Nat.reduceBEq, Nat.reduceAdd]; rfl)) (hn : st.nx ≤ s.nx := by exact Nat.le_of_ble_eq_true rfl) : Goes lim n0 st s :=
 fun _ _ _ _ _ g _ hF hR => by
  obtain ⟨F', h2, h3⟩ := hR.sub hF (sub_of V H st hn)
  rw [h1] at h2
  exact ⟨F', g, h2, h3⟩
end Go.Tm
end
section
namespace Go.Tm
open Go.RowKit Go.WideShapes
section
variable {fr : Nat} {w : World} {g : Gh} {hp : Nat → Option Blk}
end
def FrzR (hp : Nat → Option Blk) (d d' : D) : Prop := ∀ (fr : Nat) (w : World) (g : Gh), (∀ id blk, hp id = some blk → holds (cx w g hp) id blk) → g.zn 1 = some (fun b => fr ≤ b) → (∀ b, ownB g hp b → fr ≤ b) → ∀ v, rep (cx w g hp) d v → rep (cx0 w fr) d' v
def FrzRs (hp : Nat → Option Blk) (l l' : List D) : Prop := ∀ (fr : Nat) (w : World) (g : Gh), (∀ id blk, hp id = some blk → holds (cx w g hp) id blk) → g.zn 1 = some (fun b => fr ≤ b) → (∀ b, ownB g hp b → fr ≤ b) → ∀ vs, reps (cx w g hp) l vs → reps (cx0 w fr) l' vs
theorem FrzR.of {hp : Nat → Option Blk} {d d' : D} (h : frz hp d = (d', true)) : FrzR hp d d' := fun _ _ _ hd hz ho v hv => by
 have h1 : d' = (frz hp d).1 := by rw [h]
 rw [h1]
 exact frz_ok hd hz ho d v hv (by rw [h])
theorem FrzRs.nil {hp : Nat → Option Blk} : FrzRs hp [] [] := fun _ _ _ _ _ _ vs h => by simp only [reps] at h ⊢; exact h
theorem FrzRs.cons {hp : Nat → Option Blk} {d d' : D} {l l' : List D} (h : FrzR hp d d') (hl : FrzRs hp l l') : FrzRs hp (d :: l) (d' :: l') := fun fr w g hd hz ho vs hv => by
 simp only [reps] at hv ⊢
 obtain ⟨v, vs', rfl, h1, h2⟩ := hv
 exact ⟨v, vs', rfl, h fr w g hd hz ho v h1, hl fr w g hd hz ho vs' h2⟩
theorem FrzR.agg {hp : Nat → Option Blk} {l l' : List D} (h : FrzRs hp l l') : FrzR hp (.agg l) (.agg l') := fun fr w g hd hz ho v hv => by
 simp only [rep] at hv ⊢
 obtain ⟨cs, rfl, h1⟩ := hv
 exact ⟨cs, rfl, h fr w g hd hz ho cs h1⟩
end Go.Tm
end
section
namespace Go.Tm
open Go.RowKit Go.WideShapes
end Go.Tm
end
section
namespace Go.Tm
open Go.RowKit Go.WideShapes
end Go.Tm
end
section
namespace Go.Proofs
open Go.Tm
set_option linter.unusedVariables false
def m_slices_Index_int_int_loop1 (v : Int) : List Int → Nat → Option (Int ⊕ Unit)
 | [], n1 =>
  some (.inr ())
 | y1 :: rest1, n1 =>
  if v = y1 then
  some (.inl (n1 : Int))
  else
  m_slices_Index_int_int_loop1 v rest1 (n1 + 1) 
def m_slices_Index_int_int (s : List Int) (v : Int) : Option Int :=
 Option.bind (α := Int ⊕ Unit) (m_slices_Index_int_int_loop1 v s 0 ) fun z => match z with
 | (.inl r) => some r
 | (.inr _) =>
 some (-1)
def m_towncrierref01_SameInts_loop1 (b : List Int) : List Int → Nat → Option (Bool ⊕ Unit)
 | [], n1 =>
  some (.inr ())
 | y1 :: rest1, n1 =>
  if n1 < b.length then
  if ¬ (y1 = (b.getD n1 default)) then
  some (.inl false)
  else
  m_towncrierref01_SameInts_loop1 b rest1 (n1 + 1) 
  else none
def m_towncrierref01_SameInts (a : List Int) (b : List Int) : Option Bool :=
 if ¬ ((a.length : Int) = (b.length : Int)) then
 some false
 else
 Option.bind (α := Bool ⊕ Unit) (m_towncrierref01_SameInts_loop1 b a 0 ) fun z => match z with
 | (.inl r) => some r
 | (.inr _) =>
 some true
def m_slices_Contains_int_int (a0 : List Int) (a1 : Int) : Option Bool :=
 Option.bind (m_slices_Index_int_int a0 a1) fun v1 =>
 some (decide (v1 ≥ 0))
def m_quorum_Check_loop1 : List Int → Int → Option (Int ⊕ Int)
 | [], n2 =>
  some (.inr n2)
 | y1 :: rest1, n2 =>
  if (y1 ≤ n2) ∨ (y1 ≥ 6) then
  some (.inl 60)
  else
  m_quorum_Check_loop1 rest1 (y1)
def m_quorum_Check (a0 : List Int) : Option Int :=
 if (a0.length : Int) > 6 then
 some 4
 else
 Option.bind (α := Int ⊕ Int) (m_quorum_Check_loop1 a0 (-1)) fun z => match z with
 | (.inl r) => some r
 | (.inr n1) =>
 if n1 < 0 then
 some 60
 else
 some 0
def m_towncrierref06_Has_loop1 (a1 : Int) : List Int → Option (Bool ⊕ Unit)
 | [] =>
  some (.inr ())
 | y1 :: rest1 =>
  if y1 = a1 then
  some (.inl true)
  else
  m_towncrierref06_Has_loop1 a1 rest1 
def m_towncrierref06_Has (a0 : List Int) (a1 : Int) : Option Bool :=
 Option.bind (α := Bool ⊕ Unit) (m_towncrierref06_Has_loop1 a1 a0 ) fun z => match z with
 | (.inl r) => some r
 | (.inr _) =>
 some false
def m_towncrierref06_May_loop1 (a0 : List Int) : List Int → Nat → Option (Bool ⊕ Unit)
 | [], n1 =>
  some (.inr ())
 | y1 :: rest1, n1 =>
  if ((y1 < 0) ∨ (y1 ≥ 6)) ∨ (((n1 : Int) > 0) ∧ (y1 ≤ (a0.getD (n1 - 1) default))) then
  some (.inl false)
  else
  m_towncrierref06_May_loop1 a0 rest1 (n1 + 1) 
def m_towncrierref06_May (a0 : List Int) : Option Bool :=
 Option.bind (α := Bool ⊕ Unit) (m_towncrierref06_May_loop1 a0 a0 0 ) fun z => match z with
 | (.inl r) => some r
 | (.inr _) =>
 some ((decide ((a0.length : Int) ≥ 1)) && (decide ((a0.length : Int) ≤ 6)))
def m_towncrierref06_Check (a0 : List Int) : Option Int :=
 if (a0.length : Int) > 6 then
 some 4
 else
 Option.bind (m_towncrierref06_May a0) fun v1 =>
 if ¬ (v1 = true) then
 some 60
 else
 some 0
end Go.Proofs
end
section
namespace Go.Proofs
open Go.Tm Go.RowKit Go.WideShapes
set_option maxRecDepth 100000
set_option maxHeartbeats 4000000
set_option linter.unusedSimpArgs false
set_option linter.unusedVariables false
attribute [local go_sem] argVars runE runK isCallV stepE aop opd opdsL opds opdO ev ofVal keep List.any natbeq Bool.false_or Bool.true_or aggEq cond_true cond_false Bool.cond_false_right Bool.cond_true_left beq_true beq_false imp_self implies_true getR getL put St.app effL del nwB blt_dec Nat.lt_irrefl Nat.lt_add_one ble_dec Nat.le_refl Nat.beq_refl roomNZ appendIn capS capK mkZ_zero mkZL_zero zeroEl D.ids D.idsL bin arith sarith binT dpick Tm.part splice fillD oneD loadD storeD srcD sliceD idxOk decide_true gval dstAt D.cells List.map_cons List.map_nil List.take List.drop List.length_map List.append Int.toNat_natCast and_true true_and decide_false List.length_cons List.length_nil List.append_nil List.nil_append Bool.and_true Bool.true_and Bool.not_false Bool.not_true ne_eq not_false_eq_true BEq.rfl List.getElem?_cons_zero List.getElem?_cons_succ List.getElem?_nil Nat.zero_add List.all_cons List.all_nil List.isEmpty_cons List.isEmpty_nil Option.getD_some Option.getD_none List.any_cons List.any_nil List.drop_succ_cons List.drop_zero unfL unf okM okML low3 List.cons_append true_or or_true Nat.zero_mul Nat.zero_le findD_int findD_str  getD_int getD_str getD_bool Option.isSome_map keyD List.length_replicate List.map_replicate setEl List.length_set bytesD_map map_ub mx_len mkZ_one mkZL_one mkM mkML mk1_int mk1_str mk1_bool drop_map take_map take_map_len List.take_length Int.toNat_zero toNat_pred fpOf metIds opIds mvV mvH mvF pickL D.ren D.renL Blk.ren List.map_append List.length_append Bool.not_not Bool.or_not_self Bool.not_or_self Bool.or_true
attribute [local go_sem] Try.tm_1 Try.tm_2 Try.tm_3 Try.tm_4 Try.tm_5 Try.tm_6 Try.tm_7 Try.tm_8 Try.tm_9 Try.tm_10 Try.tm_11 Try.tm_12 Try.tm_13 Try.tm_14 Try.tm_15 Try.tm_16 Try.tm_17 Try.tm_18 Try.tm_19 Try.tm_20 Try.tm_21 Try.tm_22 Try.tm_23 Try.tm_24 Try.tm_25 Try.tm_26 Try.tm_27 Try.tm_28 Try.tm_29 Try.tm_30 Try.tm_31 Try.tm_32 Try.tm_33 Try.tm_34 Try.tm_35 Try.tm_37 Try.tm_39 Try.tm_41 Try.tm_43 Try.tm_44 Try.tm_45 Try.tm_46 Try.tm_47 Try.tm_48 Try.tm_49 Try.tm_50 Try.tm_51 Try.tm_52 Try.tm_53 Try.tm_54 Try.tm_55 Try.tm_56 Try.tm_57 Try.tm_58 Try.tm_59 Try.tm_60 Try.tm_61 Try.tm_63 Try.tm_65 Try.tm_66 Try.tm_67 Try.tm_68 Try.tm_69 Try.tm_70 Try.tm_71 Try.tm_72 Try.tm_73 Try.tm_74 Try.tm_75 Try.tm_76 Try.tm_77 Try.tm_78 Try.tm_79 Try.tm_80 Try.tm_81 Try.tm_82 Try.tm_83 Try.tm_84 Try.tm_85 Try.tm_86 Try.tm_87 Try.tm_89 Try.tm_90 Try.tm_91 Try.tm_92 Try.tm_93 Try.tm_94 Try.tm_95 Try.tm_96 Try.tm_97 Try.tm_98 Try.tm_99 Try.tm_100 Try.tm_101 Try.tm_102 Try.tm_103 Try.tm_104 Try.tm_105 Try.tm_106 Try.tm_107 Try.tm_108 Try.tm_109 Try.tm_110 Try.tm_111 Try.tm_112 Try.tm_113 Try.tm_114 Try.tm_117 Try.tm_118 Try.tm_119 Try.tm_120 Try.tm_121 Try.tm_122 Try.tm_123 Try.tm_124 Try.tm_125 Try.tm_126 TMessage.d TMessage.n TWait.d TWait.n TStamp.d TSkeen.d TSkeen.n TCommand.d TCommand.n Tskeen_clock.d Tskeen_clock.n mk1_TStamp Try.f73 Try.f50 Try.f54 Try.f70 Try.f60 Try.f76 Try.f59
def Try.St_slices_Index_int_int_1 : St := ⟨[], [], 0⟩
attribute [local go_sem] Try.St_slices_Index_int_int_1
def Try.St_slices_Index_int_int_3 (s : List Int) (v : Int) (n1 : Nat) : St := ⟨[(0, .imm 1 (s.map (D.int .i64)) 4), (1, .int .i64 v), (7, .int .i64 (s.length : Int)), (8, .int .i64 (n1 : Int))], [], 0⟩
attribute [local go_sem] Try.St_slices_Index_int_int_3
theorem callP_slices_Index_int_int (s : List Int) (v : Int) (r : Int) (h : m_slices_Index_int_int s v = some r) : CallP Try.prog 73 [.imm 1 (s.map (D.int .i64)) 4, .int .i64 v] (.int .i64 r) := by
 refine callP_intro Try.tmOk 2 Try.func73 rfl (by decide) rfl rfl (Nat.le_of_ble_eq_true rfl) ?_
 intro hwf
 unfold m_slices_Index_int_int at h
 refine .seq ?_
 refine .pl Try.S [0, 1] ?_
 obtain ⟨x1, hx1, h⟩ := bind_some h
 refine .seqM 0 (fun (j : Unit) => Try.St_slices_Index_int_int_1) (fun j => x1 = (.inr j)) (Nat.le_of_ble_eq_true rfl) ?_ ?_
 ·skip
  refine .seq ?_
  refine .pl Try.S [0, 1] ?_
  refine .block ?_
  refine .loopG 0 (fun (j : Nat) => Try.St_slices_Index_int_int_3 s v j) (fun j => j ≤ s.length ∧ m_slices_Index_int_int_loop1 v (s.drop j) j  = some x1) (fun j => s.length - j) (0) (Nat.le_of_ble_eq_true rfl) ?_ ⟨Nat.zero_le _, hx1⟩ ?_
  ·skip
   exact .m [0, 1, 7, 8] [] []
  rintro n1 ⟨hi1, hx1⟩
  simp only [Try.St_slices_Index_int_int_3]
  refine .wf 7 (.int .i64 (s.length : Int)) rfl ?_
  intro hln1
  replace hln1 : (s.length : Int) ≤ 9223372036854775807 := by simp only [wf, wfL, IntKind.max, IntKind.min, IntKind.signed, IntKind.bits, List.length_map] at hln1; first | exact hln1.2 | exact hln1.1 | (simp at hln1; omega)
  refine .seq ?_
  refine .pl Try.S [0, 1, 7, 8] ?_
  refine .seq ?_
  refine .cond rfl rfl (fun hc1 => ?_) (fun hc1 => ?_)
  ·skip
   have h1 : n1 < s.length := by simpa using hc1
   have hwn1 : wr .i64 ((n1 : Int) + 1) = ((n1 + 1 : Nat) : Int) := wr_succ h1 hln1
   have hpn1 : wr .i64 ((n1 : Int) - 1) = (n1 : Int) - 1 := wr_pred h1 hln1
   rw [List.drop_eq_getElem_cons h1, m_slices_Index_int_int_loop1] at hx1
   refine .skip ?_
   refine .seq ?_
   refine .block ?_
   refine .seq ?_
   refine .plx Try.S hwn1 [0, 1, 7, 8] ?_
   refine .seq ?_
   have e1 := nth_map (D.int .i64) s n1 h1
   refine .plx Try.S (And.intro e1 hwn1) [0, 1, 5, 7, 8] ?_
   refine .cond rfl rfl (fun hc2 => ?_) (fun hc2 => ?_)
   ·skip
    replace hx1 := ite_lc hx1 hc2
    refine .seq ?_
    refine .plx Try.S hwn1 [5] ?_
    have hq := Option.some.inj hx1
    subst x1
    try dsimp only at h
    have hq := Option.some.inj h
    subst r
    exact .ret ⟨.inr rfl, rsi⟩
   ·skip
    replace hx1 := ite_rc hx1 hc2
    refine .skip ?_
    refine .plx Try.S hwn1 [0, 1, 7, 8] ?_
    refine ⟨n1 + 1, ?_, ⟨by omega, hx1⟩, by dsimp only; omega⟩
    exact .m [0, 1, 7, 8] [] []
  ·skip
   have h2 : n1 = s.length := by have h2b := of_decide_eq_false hc1; omega
   rw [List.drop_of_length_le (by omega), m_slices_Index_int_int_loop1] at hx1
   refine .exit ?_
   refine ⟨_, ?_, (Option.some.inj hx1).symm⟩
   exact .m [] [] []
 ·skip
  rintro ⟨⟩ hj1
  subst x1
  try dsimp only at h
  simp only [Try.St_slices_Index_int_int_1]
  refine .seq ?_
  refine .pl Try.S [] ?_
  have hq := Option.some.inj h
  subst r
  exact .ret ⟨.inr rfl, rsi⟩
def Try.St_towncrierref01_SameInts_1 : St := ⟨[], [], 0⟩
attribute [local go_sem] Try.St_towncrierref01_SameInts_1
def Try.St_towncrierref01_SameInts_3 (a : List Int) (b : List Int) (n1 : Nat) : St := ⟨[(0, .imm 1 (a.map (D.int .i64)) 4), (1, .imm 1 (b.map (D.int .i64)) 4), (5, .int .i64 (n1 : Int))], [], 0⟩
attribute [local go_sem] Try.St_towncrierref01_SameInts_3
theorem callP_towncrierref01_SameInts (a : List Int) (b : List Int) (r : Bool) (h : m_towncrierref01_SameInts a b = some r) : CallP Try.prog 50 [.imm 1 (a.map (D.int .i64)) 4, .imm 1 (b.map (D.int .i64)) 4] (.bool r) := by
 refine callP_intro Try.tmOk 2 Try.func50 rfl (by decide) rfl rfl (Nat.le_of_ble_eq_true rfl) ?_
 intro hwf
 unfold m_towncrierref01_SameInts at h
 refine .seq ?_
 refine .pl Try.S [0, 1] ?_
 refine .seq ?_
 refine .seq ?_
 refine .pl Try.S [0, 1] ?_
 refine .cond rfl rfl (fun hc1 => ?_) (fun hc1 => ?_)
 ·skip
  replace h := ite_lc h hc1
  refine .seq ?_
  refine .pl Try.S [] ?_
  have hq := Option.some.inj h
  subst r
  exact .ret ⟨.inr rfl, rsi⟩
 ·skip
  replace h := ite_rc h hc1
  refine .skip ?_
  obtain ⟨x1, hx1, h⟩ := bind_some h
  refine .seqM 0 (fun (j : Unit) => Try.St_towncrierref01_SameInts_1) (fun j => x1 = (.inr j)) (Nat.le_of_ble_eq_true rfl) ?_ ?_
  ·skip
   refine .seq ?_
   refine .pl Try.S [0, 1] ?_
   refine .block ?_
   refine .loopG 0 (fun (j : Nat) => Try.St_towncrierref01_SameInts_3 a b j) (fun j => j ≤ a.length ∧ m_towncrierref01_SameInts_loop1 b (a.drop j) j  = some x1) (fun j => a.length - j) (0) (Nat.le_of_ble_eq_true rfl) ?_ ⟨Nat.zero_le _, hx1⟩ ?_
   ·skip
    exact .m [0, 1, 5] [] []
   rintro n1 ⟨hi1, hx1⟩
   simp only [Try.St_towncrierref01_SameInts_3]
   refine .wf 0 (.imm 1 (a.map (D.int .i64)) 4) rfl ?_
   intro hln1
   replace hln1 : (a.length : Int) ≤ 9223372036854775807 := by simp only [wf, wfL, IntKind.max, IntKind.min, IntKind.signed, IntKind.bits, List.length_map] at hln1; first | exact hln1.2 | exact hln1.1 | (simp at hln1; omega)
   refine .seq ?_
   refine .seq ?_
   refine .pl Try.S [0, 1, 5] ?_
   refine .cond rfl rfl (fun hc2 => ?_) (fun hc2 => ?_)
   ·skip
    have h1 : n1 < a.length := by simpa using hc2
    have hwn1 : wr .i64 ((n1 : Int) + 1) = ((n1 + 1 : Nat) : Int) := wr_succ h1 hln1
    have hpn1 : wr .i64 ((n1 : Int) - 1) = (n1 : Int) - 1 := wr_pred h1 hln1
    rw [List.drop_eq_getElem_cons h1, m_towncrierref01_SameInts_loop1] at hx1
    refine .skip ?_
    refine .seq ?_
    refine .block ?_
    refine .seq ?_
    obtain ⟨k1, hx1⟩ := ite_ck hx1
    have e1 := nth_map (D.int .i64) a n1 h1
    have e2 := nth_mapD (D.int .i64) b n1
    replace e2 := e2 k1
    refine .rg Try.S [0, 1, 5] ?_
    refine .rdx 6 (And.intro e1 (And.intro e2 hwn1)) ?_
    refine .rdx 3 (And.intro e1 (And.intro e2 hwn1)) ?_
    refine .nil ⟨fun _ => schedB_of (by kernel_rfl), ?_⟩
    refine .cond rfl rfl (fun hc3 => ?_) (fun hc3 => ?_)
    ·skip
     replace hx1 := ite_lc hx1 hc3
     refine .seq ?_
     refine .plx Try.S hwn1 [] ?_
     have hq := Option.some.inj hx1
     subst x1
     try dsimp only at h
     have hq := Option.some.inj h
     subst r
     exact .ret ⟨.inr rfl, rsi⟩
    ·skip
     replace hx1 := ite_rc hx1 hc3
     refine .skip ?_
     refine .plx Try.S hwn1 [0, 1, 5] ?_
     refine ⟨n1 + 1, ?_, ⟨by omega, hx1⟩, by dsimp only; omega⟩
     exact .m [0, 1, 5] [] []
   ·skip
    have h2 : n1 = a.length := by have h2b := of_decide_eq_false hc2; omega
    rw [List.drop_of_length_le (by omega), m_towncrierref01_SameInts_loop1] at hx1
    refine .exit ?_
    refine ⟨_, ?_, (Option.some.inj hx1).symm⟩
    exact .m [] [] []
  ·skip
   rintro ⟨⟩ hj1
   subst x1
   try dsimp only at h
   simp only [Try.St_towncrierref01_SameInts_1]
   refine .seq ?_
   refine .pl Try.S [] ?_
   have hq := Option.some.inj h
   subst r
   exact .ret ⟨.inr rfl, rsi⟩
theorem callP_slices_Contains_int_int (a0 : List Int) (a1 : Int) (r : Bool) (h : m_slices_Contains_int_int a0 a1 = some r) : CallP Try.prog 54 [.imm 1 (a0.map (D.int .i64)) 4, .int .i64 a1] (.bool r) := by
 refine callP_intro Try.tmOk 2 Try.func54 rfl (by decide) rfl rfl (Nat.le_of_ble_eq_true rfl) ?_
 intro hwf
 unfold m_slices_Contains_int_int at h
 refine .seq ?_
 refine .pl Try.S [0, 1] ?_
 refine .seq ?_
 obtain ⟨v1, hv1, h⟩ := bind_some h
 refine .rg Try.S [0, 1] ?_
 refine .rn 2 ?_
 refine .call (r := .int .i64 v1) rfl rfl rfl rfl rfl rfl (callP_slices_Index_int_int a0 a1 v1 hv1) ?_
 refine .rn 2 ?_
 refine .nil ⟨nofun, ?_⟩
 have hq := Option.some.inj h
 subst r
 exact .ret ⟨.inr rfl, rsi⟩
def Try.St_quorum_Check_1 (n1 : Int) : St := ⟨[(3, .int .i64 n1)], [], 0⟩
attribute [local go_sem] Try.St_quorum_Check_1
def Try.St_quorum_Check_3 (a0 : List Int) (n3 : Nat) (n2 : Int) : St := ⟨[(3, .int .i64 n2), (9, .imm 1 (a0.map (D.int .i64)) 4), (10, .int .i64 (a0.length : Int)), (11, .int .i64 (n3 : Int))], [], 0⟩
attribute [local go_sem] Try.St_quorum_Check_3
theorem callP_quorum_Check (a0 : List Int) (r : Int) (h : m_quorum_Check a0 = some r) : CallP Try.prog 70 [.imm 1 (a0.map (D.int .i64)) 4] (.int .i64 r) := by
 refine callP_intro Try.tmOk 2 Try.func70 rfl (by decide) rfl rfl (Nat.le_of_ble_eq_true rfl) ?_
 intro hwf
 unfold m_quorum_Check at h
 refine .seq ?_
 refine .pl Try.S [0] ?_
 refine .seq ?_
 refine .seq ?_
 refine .pl Try.S [0] ?_
 refine .cond rfl rfl (fun hc1 => ?_) (fun hc1 => ?_)
 ·skip
  replace h := ite_lc h hc1
  refine .seq ?_
  refine .pl Try.S [] ?_
  have hq := Option.some.inj h
  subst r
  exact .ret ⟨.inr rfl, rsi⟩
 ·skip
  replace h := ite_rc h hc1
  refine .skip ?_
  refine .seq ?_
  refine .pl Try.S [0] ?_
  obtain ⟨x1, hx1, h⟩ := bind_some h
  refine .seqM 0 (fun (j : Int) => Try.St_quorum_Check_1 j) (fun j => x1 = (.inr j)) (Nat.le_of_ble_eq_true rfl) ?_ ?_
  ·skip
   refine .seq ?_
   refine .pl Try.S [0, 3] ?_
   refine .block ?_
   refine .loopG 0 (fun (j : Nat × Int) => Try.St_quorum_Check_3 a0 j.1 j.2) (fun j => j.1 ≤ a0.length ∧ m_quorum_Check_loop1 (a0.drop j.1) j.2 = some x1) (fun j => a0.length - j.1) (0, (-1)) (Nat.le_of_ble_eq_true rfl) ?_ ⟨Nat.zero_le _, hx1⟩ ?_
   ·skip
    exact .m [3, 9, 10, 11] [] []
   rintro ⟨n3, n2⟩ ⟨hi1, hx1⟩
   simp only [Try.St_quorum_Check_3]
   simp only at hi1 hx1
   refine .wf 10 (.int .i64 (a0.length : Int)) rfl ?_
   intro hln3
   replace hln3 : (a0.length : Int) ≤ 9223372036854775807 := by simp only [wf, wfL, IntKind.max, IntKind.min, IntKind.signed, IntKind.bits, List.length_map] at hln3; first | exact hln3.2 | exact hln3.1 | (simp at hln3; omega)
   refine .seq ?_
   refine .pl Try.S [3, 9, 10, 11] ?_
   refine .seq ?_
   refine .cond rfl rfl (fun hc2 => ?_) (fun hc2 => ?_)
   ·skip
    have h1 : n3 < a0.length := by simpa using hc2
    have hwn3 : wr .i64 ((n3 : Int) + 1) = ((n3 + 1 : Nat) : Int) := wr_succ h1 hln3
    have hpn3 : wr .i64 ((n3 : Int) - 1) = (n3 : Int) - 1 := wr_pred h1 hln3
    rw [List.drop_eq_getElem_cons h1, m_quorum_Check_loop1] at hx1
    refine .skip ?_
    refine .seq ?_
    refine .block ?_
    refine .seq ?_
    have e1 := nth_map (D.int .i64) a0 n3 h1
    refine .plx Try.S (And.intro e1 hwn3) [3, 9, 10, 11] ?_
    refine .seq ?_
    refine .seq ?_
    refine .plx Try.S hwn3 [3, 5, 9, 10, 11] ?_
    refine .cond rfl rfl (fun hc3 => ?_) (fun hc3 => ?_)
    ·skip
     replace hx1 := ite_lc hx1 hc3
     refine .seq ?_
     refine .plx Try.S hwn3 [] ?_
     have hq := Option.some.inj hx1
     subst x1
     try dsimp only at h
     have hq := Option.some.inj h
     subst r
     exact .ret ⟨.inr rfl, rsi⟩
    ·skip
     replace hx1 := ite_rc hx1 hc3
     refine .skip ?_
     refine .plx Try.S hwn3 [5, 9, 10, 11] ?_
     refine .plx Try.S hwn3 [3, 9, 10, 11] ?_
     refine ⟨(n3 + 1, _), ?_, ⟨by omega, hx1⟩, by dsimp only; omega⟩
     exact .m [3, 9, 10, 11] [] []
   ·skip
    have h2 : n3 = a0.length := by have h2b := of_decide_eq_false hc2; omega
    rw [List.drop_of_length_le (by omega), m_quorum_Check_loop1] at hx1
    refine .exit ?_
    refine ⟨_, ?_, (Option.some.inj hx1).symm⟩
    exact .m [3] [] []
  ·skip
   rintro n1 hj1
   subst x1
   try dsimp only at h
   simp only [Try.St_quorum_Check_1]
   refine .seq ?_
   refine .seq ?_
   refine .pl Try.S [3] ?_
   refine .cond rfl rfl (fun hc4 => ?_) (fun hc4 => ?_)
   ·skip
    replace h := ite_lc h hc4
    refine .seq ?_
    refine .pl Try.S [] ?_
    have hq := Option.some.inj h
    subst r
    exact .ret ⟨.inr rfl, rsi⟩
   ·skip
    replace h := ite_rc h hc4
    refine .skip ?_
    refine .seq ?_
    refine .pl Try.S [] ?_
    have hq := Option.some.inj h
    subst r
    exact .ret ⟨.inr rfl, rsi⟩
def Try.St_towncrierref06_Has_1 : St := ⟨[], [], 0⟩
attribute [local go_sem] Try.St_towncrierref06_Has_1
def Try.St_towncrierref06_Has_3 (a0 : List Int) (a1 : Int) (n1 : Nat) : St := ⟨[(0, .imm 1 (a0.map (D.int .i64)) 4), (1, .int .i64 a1), (5, .int .i64 (n1 : Int))], [], 0⟩
attribute [local go_sem] Try.St_towncrierref06_Has_3
theorem callP_towncrierref06_Has (a0 : List Int) (a1 : Int) (r : Bool) (h : m_towncrierref06_Has a0 a1 = some r) : CallP Try.prog 60 [.imm 1 (a0.map (D.int .i64)) 4, .int .i64 a1] (.bool r) := by
 refine callP_intro Try.tmOk 2 Try.func60 rfl (by decide) rfl rfl (Nat.le_of_ble_eq_true rfl) ?_
 intro hwf
 unfold m_towncrierref06_Has at h
 refine .seq ?_
 refine .pl Try.S [0, 1] ?_
 obtain ⟨x1, hx1, h⟩ := bind_some h
 refine .seqM 0 (fun (j : Unit) => Try.St_towncrierref06_Has_1) (fun j => x1 = (.inr j)) (Nat.le_of_ble_eq_true rfl) ?_ ?_
 ·skip
  refine .seq ?_
  refine .pl Try.S [0, 1] ?_
  refine .block ?_
  refine .loopG 0 (fun (j : Nat) => Try.St_towncrierref06_Has_3 a0 a1 j) (fun j => j ≤ a0.length ∧ m_towncrierref06_Has_loop1 a1 (a0.drop j)  = some x1) (fun j => a0.length - j) (0) (Nat.le_of_ble_eq_true rfl) ?_ ⟨Nat.zero_le _, hx1⟩ ?_
  ·skip
   exact .m [0, 1, 5] [] []
  rintro n1 ⟨hi1, hx1⟩
  simp only [Try.St_towncrierref06_Has_3]
  refine .wf 0 (.imm 1 (a0.map (D.int .i64)) 4) rfl ?_
  intro hln1
  replace hln1 : (a0.length : Int) ≤ 9223372036854775807 := by simp only [wf, wfL, IntKind.max, IntKind.min, IntKind.signed, IntKind.bits, List.length_map] at hln1; first | exact hln1.2 | exact hln1.1 | (simp at hln1; omega)
  refine .seq ?_
  refine .seq ?_
  refine .pl Try.S [0, 1, 5] ?_
  refine .cond rfl rfl (fun hc1 => ?_) (fun hc1 => ?_)
  ·skip
   have h1 : n1 < a0.length := by simpa using hc1
   have hwn1 : wr .i64 ((n1 : Int) + 1) = ((n1 + 1 : Nat) : Int) := wr_succ h1 hln1
   have hpn1 : wr .i64 ((n1 : Int) - 1) = (n1 : Int) - 1 := wr_pred h1 hln1
   rw [List.drop_eq_getElem_cons h1, m_towncrierref06_Has_loop1] at hx1
   refine .skip ?_
   refine .seq ?_
   refine .block ?_
   refine .seq ?_
   have e1 := nth_map (D.int .i64) a0 n1 h1
   refine .plx Try.S (And.intro e1 hwn1) [0, 1, 5] ?_
   refine .cond rfl rfl (fun hc2 => ?_) (fun hc2 => ?_)
   ·skip
    replace hx1 := ite_lc hx1 hc2
    refine .seq ?_
    refine .plx Try.S hwn1 [] ?_
    have hq := Option.some.inj hx1
    subst x1
    try dsimp only at h
    have hq := Option.some.inj h
    subst r
    exact .ret ⟨.inr rfl, rsi⟩
   ·skip
    replace hx1 := ite_rc hx1 hc2
    refine .skip ?_
    refine .plx Try.S hwn1 [0, 1, 5] ?_
    refine ⟨n1 + 1, ?_, ⟨by omega, hx1⟩, by dsimp only; omega⟩
    exact .m [0, 1, 5] [] []
  ·skip
   have h2 : n1 = a0.length := by have h2b := of_decide_eq_false hc1; omega
   rw [List.drop_of_length_le (by omega), m_towncrierref06_Has_loop1] at hx1
   refine .exit ?_
   refine ⟨_, ?_, (Option.some.inj hx1).symm⟩
   exact .m [] [] []
 ·skip
  rintro ⟨⟩ hj1
  subst x1
  try dsimp only at h
  simp only [Try.St_towncrierref06_Has_1]
  refine .seq ?_
  refine .pl Try.S [] ?_
  have hq := Option.some.inj h
  subst r
  exact .ret ⟨.inr rfl, rsi⟩
def Try.St_towncrierref06_May_1 (a0 : List Int) : St := ⟨[(0, .imm 1 (a0.map (D.int .i64)) 4)], [], 0⟩
attribute [local go_sem] Try.St_towncrierref06_May_1
def Try.St_towncrierref06_May_3 (a0 : List Int) (n1 : Nat) : St := ⟨[(0, .imm 1 (a0.map (D.int .i64)) 4), (3, .int .i64 (n1 : Int))], [], 0⟩
attribute [local go_sem] Try.St_towncrierref06_May_3
theorem callP_towncrierref06_May (a0 : List Int) (r : Bool) (h : m_towncrierref06_May a0 = some r) : CallP Try.prog 76 [.imm 1 (a0.map (D.int .i64)) 4] (.bool r) := by
 refine callP_intro Try.tmOk 2 Try.func76 rfl (by decide) rfl rfl (Nat.le_of_ble_eq_true rfl) ?_
 intro hwf
 unfold m_towncrierref06_May at h
 refine .seq ?_
 refine .pl Try.S [0] ?_
 obtain ⟨x1, hx1, h⟩ := bind_some h
 refine .seqM 0 (fun (j : Unit) => Try.St_towncrierref06_May_1 a0) (fun j => x1 = (.inr j)) (Nat.le_of_ble_eq_true rfl) ?_ ?_
 ·skip
  refine .seq ?_
  refine .pl Try.S [0] ?_
  refine .block ?_
  refine .loopG 0 (fun (j : Nat) => Try.St_towncrierref06_May_3 a0 j) (fun j => j ≤ a0.length ∧ m_towncrierref06_May_loop1 a0 (a0.drop j) j  = some x1) (fun j => a0.length - j) (0) (Nat.le_of_ble_eq_true rfl) ?_ ⟨Nat.zero_le _, hx1⟩ ?_
  ·skip
   exact .m [0, 3] [] []
  rintro n1 ⟨hi1, hx1⟩
  simp only [Try.St_towncrierref06_May_3]
  refine .wf 0 (.imm 1 (a0.map (D.int .i64)) 4) rfl ?_
  intro hln1
  replace hln1 : (a0.length : Int) ≤ 9223372036854775807 := by simp only [wf, wfL, IntKind.max, IntKind.min, IntKind.signed, IntKind.bits, List.length_map] at hln1; first | exact hln1.2 | exact hln1.1 | (simp at hln1; omega)
  refine .seq ?_
  refine .seq ?_
  refine .pl Try.S [0, 3] ?_
  refine .cond rfl rfl (fun hc1 => ?_) (fun hc1 => ?_)
  ·skip
   have h1 : n1 < a0.length := by simpa using hc1
   have hwn1 : wr .i64 ((n1 : Int) + 1) = ((n1 + 1 : Nat) : Int) := wr_succ h1 hln1
   have hpn1 : wr .i64 ((n1 : Int) - 1) = (n1 : Int) - 1 := wr_pred h1 hln1
   rw [List.drop_eq_getElem_cons h1, m_towncrierref06_May_loop1] at hx1
   refine .skip ?_
   refine .seq ?_
   refine .block ?_
   refine .seq ?_
   have e1 := nth_map (D.int .i64) a0 n1 h1
   have e2 := nth_map (D.int .i64) a0 n1 h1
   have e3 := nth_map (D.int .i64) a0 n1 h1
   have e4 := nth_mapD (D.int .i64) a0 (n1 - 1) (by omega)
   refine .rg Try.S [0, 3] ?_
   refine .rdx 6 (And.intro e1 (And.intro e2 (And.intro e3 (And.intro e4 (And.intro hpn1 hwn1))))) ?_
   refine .rdx 6 (And.intro e1 (And.intro e2 (And.intro e3 (And.intro e4 (And.intro hpn1 hwn1))))) ?_
   refine .rdx 6 (And.intro e1 (And.intro e2 (And.intro e3 (And.intro e4 (And.intro hpn1 hwn1))))) ?_
   refine .rdx 6 (And.intro e1 (And.intro e2 (And.intro e3 (And.intro e4 (And.intro hpn1 hwn1))))) ?_
   refine .rdx 4 (And.intro e1 (And.intro e2 (And.intro e3 (And.intro e4 (And.intro hpn1 hwn1))))) ?_
   refine .nil ⟨fun _ => schedB_of (by kernel_rfl), ?_⟩
   refine .cond rfl rfl (fun hc2 => ?_) (fun hc2 => ?_)
   ·skip
    replace hx1 := ite_lc hx1 hc2
    refine .seq ?_
    refine .plx Try.S hwn1 [] ?_
    have hq := Option.some.inj hx1
    subst x1
    try dsimp only at h
    have hq := Option.some.inj h
    subst r
    exact .ret ⟨.inr rfl, rsi⟩
   ·skip
    replace hx1 := ite_rc hx1 hc2
    refine .skip ?_
    refine .plx Try.S hwn1 [0, 3] ?_
    refine ⟨n1 + 1, ?_, ⟨by omega, hx1⟩, by dsimp only; omega⟩
    exact .m [0, 3] [] []
  ·skip
   have h2 : n1 = a0.length := by have h2b := of_decide_eq_false hc1; omega
   rw [List.drop_of_length_le (by omega), m_towncrierref06_May_loop1] at hx1
   refine .exit ?_
   refine ⟨_, ?_, (Option.some.inj hx1).symm⟩
   exact .m [0] [] []
 ·skip
  rintro ⟨⟩ hj1
  subst x1
  try dsimp only at h
  simp only [Try.St_towncrierref06_May_1]
  refine .seq ?_
  refine .rg Try.S [0] ?_
  refine .rn 6 ?_
  refine .rn 3 ?_
  refine .nil ⟨nofun, ?_⟩
  have hq := Option.some.inj h
  subst r
  exact .ret ⟨.inr rfl, rsi⟩
theorem callP_towncrierref06_Check (a0 : List Int) (r : Int) (h : m_towncrierref06_Check a0 = some r) : CallP Try.prog 59 [.imm 1 (a0.map (D.int .i64)) 4] (.int .i64 r) := by
 refine callP_intro Try.tmOk 2 Try.func59 rfl (by decide) rfl rfl (Nat.le_of_ble_eq_true rfl) ?_
 intro hwf
 unfold m_towncrierref06_Check at h
 refine .seq ?_
 refine .pl Try.S [0] ?_
 refine .seq ?_
 refine .seq ?_
 refine .pl Try.S [0] ?_
 refine .cond rfl rfl (fun hc1 => ?_) (fun hc1 => ?_)
 ·skip
  replace h := ite_lc h hc1
  refine .seq ?_
  refine .pl Try.S [] ?_
  have hq := Option.some.inj h
  subst r
  exact .ret ⟨.inr rfl, rsi⟩
 ·skip
  replace h := ite_rc h hc1
  refine .skip ?_
  refine .seq ?_
  refine .seq ?_
  obtain ⟨v1, hv1, h⟩ := bind_some h
  refine .rg Try.S [0] ?_
  refine .rn 1 ?_
  refine .call (r := .bool v1) rfl rfl rfl rfl rfl rfl (callP_towncrierref06_May a0 v1 hv1) ?_
  refine .rn 1 ?_
  refine .nil ⟨nofun, ?_⟩
  refine .cond rfl rfl (fun hc2 => ?_) (fun hc2 => ?_)
  ·skip
   replace h := ite_lc h hc2
   refine .seq ?_
   refine .pl Try.S [] ?_
   have hq := Option.some.inj h
   subst r
   exact .ret ⟨.inr rfl, rsi⟩
  ·skip
   replace h := ite_rc h hc2
   refine .skip ?_
   refine .seq ?_
   refine .pl Try.S [] ?_
   have hq := Option.some.inj h
   subst r
   exact .ret ⟨.inr rfl, rsi⟩
end Go.Proofs
end
section
namespace Go.Proofs
open Go.Tm
set_option linter.unusedVariables false
def m_slices_Equal_int_int_loop1 (a1 : List Int) : List Int → Nat → Option (Bool ⊕ Unit)
 | [], n1 =>
  some (.inr ())
 | y1 :: rest1, n1 =>
  if n1 < a1.length then
  if ¬ (y1 = (a1.getD n1 default)) then
  some (.inl false)
  else
  m_slices_Equal_int_int_loop1 a1 rest1 (n1 + 1) 
  else none
def m_slices_Equal_int_int (a0 : List Int) (a1 : List Int) : Option Bool :=
 if ¬ ((a0.length : Int) = (a1.length : Int)) then
 some false
 else
 Option.bind (α := Bool ⊕ Unit) (m_slices_Equal_int_int_loop1 a1 a0 0 ) fun z => match z with
 | (.inl r) => some r
 | (.inr _) =>
 some true
end Go.Proofs
end
section
namespace Go.Proofs
open Go.Tm Go.RowKit Go.WideShapes
set_option maxRecDepth 100000
set_option maxHeartbeats 4000000
set_option linter.unusedSimpArgs false
set_option linter.unusedVariables false
attribute [local go_sem] argVars runE runK isCallV stepE aop opd opdsL opds opdO ev ofVal keep List.any natbeq Bool.false_or Bool.true_or aggEq cond_true cond_false Bool.cond_false_right Bool.cond_true_left beq_true beq_false imp_self implies_true getR getL put St.app effL del nwB blt_dec Nat.lt_irrefl Nat.lt_add_one ble_dec Nat.le_refl Nat.beq_refl roomNZ appendIn capS capK mkZ_zero mkZL_zero zeroEl D.ids D.idsL bin arith sarith binT dpick Tm.part splice fillD oneD loadD storeD srcD sliceD idxOk decide_true gval dstAt D.cells List.map_cons List.map_nil List.take List.drop List.length_map List.append Int.toNat_natCast and_true true_and decide_false List.length_cons List.length_nil List.append_nil List.nil_append Bool.and_true Bool.true_and Bool.not_false Bool.not_true ne_eq not_false_eq_true BEq.rfl List.getElem?_cons_zero List.getElem?_cons_succ List.getElem?_nil Nat.zero_add List.all_cons List.all_nil List.isEmpty_cons List.isEmpty_nil Option.getD_some Option.getD_none List.any_cons List.any_nil List.drop_succ_cons List.drop_zero unfL unf okM okML low3 List.cons_append true_or or_true Nat.zero_mul Nat.zero_le findD_int findD_str  getD_int getD_str getD_bool Option.isSome_map keyD List.length_replicate List.map_replicate setEl List.length_set bytesD_map map_ub mx_len mkZ_one mkZL_one mkM mkML mk1_int mk1_str mk1_bool drop_map take_map take_map_len List.take_length Int.toNat_zero toNat_pred fpOf metIds opIds mvV mvH mvF pickL D.ren D.renL Blk.ren List.map_append List.length_append Bool.not_not Bool.or_not_self Bool.not_or_self Bool.or_true
attribute [local go_sem] Try.tm_1 Try.tm_2 Try.tm_3 Try.tm_4 Try.tm_5 Try.tm_6 Try.tm_7 Try.tm_8 Try.tm_9 Try.tm_10 Try.tm_11 Try.tm_12 Try.tm_13 Try.tm_14 Try.tm_15 Try.tm_16 Try.tm_17 Try.tm_18 Try.tm_19 Try.tm_20 Try.tm_21 Try.tm_22 Try.tm_23 Try.tm_24 Try.tm_25 Try.tm_26 Try.tm_27 Try.tm_28 Try.tm_29 Try.tm_30 Try.tm_31 Try.tm_32 Try.tm_33 Try.tm_34 Try.tm_35 Try.tm_37 Try.tm_39 Try.tm_41 Try.tm_43 Try.tm_44 Try.tm_45 Try.tm_46 Try.tm_47 Try.tm_48 Try.tm_49 Try.tm_50 Try.tm_51 Try.tm_52 Try.tm_53 Try.tm_54 Try.tm_55 Try.tm_56 Try.tm_57 Try.tm_58 Try.tm_59 Try.tm_60 Try.tm_61 Try.tm_63 Try.tm_65 Try.tm_66 Try.tm_67 Try.tm_68 Try.tm_69 Try.tm_70 Try.tm_71 Try.tm_72 Try.tm_73 Try.tm_74 Try.tm_75 Try.tm_76 Try.tm_77 Try.tm_78 Try.tm_79 Try.tm_80 Try.tm_81 Try.tm_82 Try.tm_83 Try.tm_84 Try.tm_85 Try.tm_86 Try.tm_87 Try.tm_89 Try.tm_90 Try.tm_91 Try.tm_92 Try.tm_93 Try.tm_94 Try.tm_95 Try.tm_96 Try.tm_97 Try.tm_98 Try.tm_99 Try.tm_100 Try.tm_101 Try.tm_102 Try.tm_103 Try.tm_104 Try.tm_105 Try.tm_106 Try.tm_107 Try.tm_108 Try.tm_109 Try.tm_110 Try.tm_111 Try.tm_112 Try.tm_113 Try.tm_114 Try.tm_117 Try.tm_118 Try.tm_119 Try.tm_120 Try.tm_121 Try.tm_122 Try.tm_123 Try.tm_124 Try.tm_125 Try.tm_126 TMessage.d TMessage.n TWait.d TWait.n TStamp.d TSkeen.d TSkeen.n TCommand.d TCommand.n Tskeen_clock.d Tskeen_clock.n mk1_TStamp Try.f69
def Try.St_slices_Equal_int_int_1 : St := ⟨[], [], 0⟩
attribute [local go_sem] Try.St_slices_Equal_int_int_1
def Try.St_slices_Equal_int_int_3 (a0 : List Int) (a1 : List Int) (n1 : Nat) : St := ⟨[(0, .imm 1 (a0.map (D.int .i64)) 4), (1, .imm 1 (a1.map (D.int .i64)) 4), (12, .int .i64 (a0.length : Int)), (13, .int .i64 (n1 : Int))], [], 0⟩
attribute [local go_sem] Try.St_slices_Equal_int_int_3
theorem callP_slices_Equal_int_int (a0 : List Int) (a1 : List Int) (r : Bool) (h : m_slices_Equal_int_int a0 a1 = some r) : CallP Try.prog 69 [.imm 1 (a0.map (D.int .i64)) 4, .imm 1 (a1.map (D.int .i64)) 4] (.bool r) := by
 refine callP_intro Try.tmOk 2 Try.func69 rfl (by decide) rfl rfl (Nat.le_of_ble_eq_true rfl) ?_
 intro hwf
 unfold m_slices_Equal_int_int at h
 refine .seq ?_
 refine .pl Try.S [0, 1] ?_
 refine .seq ?_
 refine .seq ?_
 refine .pl Try.S [0, 1] ?_
 refine .cond rfl rfl (fun hc1 => ?_) (fun hc1 => ?_)
 ·skip
  replace h := ite_lc h hc1
  refine .seq ?_
  refine .pl Try.S [] ?_
  have hq := Option.some.inj h
  subst r
  exact .ret ⟨.inr rfl, rsi⟩
 ·skip
  replace h := ite_rc h hc1
  refine .skip ?_
  obtain ⟨x1, hx1, h⟩ := bind_some h
  refine .seqM 0 (fun (j : Unit) => Try.St_slices_Equal_int_int_1) (fun j => x1 = (.inr j)) (Nat.le_of_ble_eq_true rfl) ?_ ?_
  ·skip
   refine .seq ?_
   refine .pl Try.S [0, 1] ?_
   refine .block ?_
   refine .loopG 0 (fun (j : Nat) => Try.St_slices_Equal_int_int_3 a0 a1 j) (fun j => j ≤ a0.length ∧ m_slices_Equal_int_int_loop1 a1 (a0.drop j) j  = some x1) (fun j => a0.length - j) (0) (Nat.le_of_ble_eq_true rfl) ?_ ⟨Nat.zero_le _, hx1⟩ ?_
   ·skip
    exact .m [0, 1, 12, 13] [] []
   rintro n1 ⟨hi1, hx1⟩
   simp only [Try.St_slices_Equal_int_int_3]
   refine .wf 12 (.int .i64 (a0.length : Int)) rfl ?_
   intro hln1
   replace hln1 : (a0.length : Int) ≤ 9223372036854775807 := by simp only [wf, wfL, IntKind.max, IntKind.min, IntKind.signed, IntKind.bits, List.length_map] at hln1; first | exact hln1.2 | exact hln1.1 | (simp at hln1; omega)
   refine .seq ?_
   refine .pl Try.S [0, 1, 12, 13] ?_
   refine .seq ?_
   refine .cond rfl rfl (fun hc2 => ?_) (fun hc2 => ?_)
   ·skip
    have h1 : n1 < a0.length := by simpa using hc2
    have hwn1 : wr .i64 ((n1 : Int) + 1) = ((n1 + 1 : Nat) : Int) := wr_succ h1 hln1
    have hpn1 : wr .i64 ((n1 : Int) - 1) = (n1 : Int) - 1 := wr_pred h1 hln1
    rw [List.drop_eq_getElem_cons h1, m_slices_Equal_int_int_loop1] at hx1
    refine .skip ?_
    refine .seq ?_
    refine .block ?_
    refine .seq ?_
    refine .plx Try.S hwn1 [0, 1, 12, 13] ?_
    refine .seq ?_
    obtain ⟨k1, hx1⟩ := ite_ck hx1
    have e1 := nth_map (D.int .i64) a0 n1 h1
    have e2 := nth_mapD (D.int .i64) a1 n1
    replace e2 := e2 k1
    refine .rg Try.S [0, 1, 5, 12, 13] ?_
    refine .rdx 6 (And.intro e1 (And.intro e2 hwn1)) ?_
    refine .rdx 3 (And.intro e1 (And.intro e2 hwn1)) ?_
    refine .nil ⟨fun _ => schedB_of (by kernel_rfl), ?_⟩
    refine .cond rfl rfl (fun hc3 => ?_) (fun hc3 => ?_)
    ·skip
     replace hx1 := ite_lc hx1 hc3
     refine .seq ?_
     refine .plx Try.S hwn1 [] ?_
     have hq := Option.some.inj hx1
     subst x1
     try dsimp only at h
     have hq := Option.some.inj h
     subst r
     exact .ret ⟨.inr rfl, rsi⟩
    ·skip
     replace hx1 := ite_rc hx1 hc3
     refine .skip ?_
     refine .plx Try.S hwn1 [0, 1, 12, 13] ?_
     refine ⟨n1 + 1, ?_, ⟨by omega, hx1⟩, by dsimp only; omega⟩
     exact .m [0, 1, 12, 13] [] []
   ·skip
    have h2 : n1 = a0.length := by have h2b := of_decide_eq_false hc2; omega
    rw [List.drop_of_length_le (by omega), m_slices_Equal_int_int_loop1] at hx1
    refine .exit ?_
    refine ⟨_, ?_, (Option.some.inj hx1).symm⟩
    exact .m [] [] []
  ·skip
   rintro ⟨⟩ hj1
   subst x1
   try dsimp only at h
   simp only [Try.St_slices_Equal_int_int_1]
   refine .seq ?_
   refine .pl Try.S [] ?_
   have hq := Option.some.inj h
   subst r
   exact .ret ⟨.inr rfl, rsi⟩
end Go.Proofs
end
section
namespace Go.Proofs
open Go.Tm
set_option linter.unusedVariables false
def m_slices_Clone_int_int (a0 : List Int) : Option ((List Int)) :=
 if a0.length * 8 ≤ 140737488355328 then
 some a0
 else none
end Go.Proofs
end
section
namespace Go.Proofs
open Go.Tm Go.RowKit Go.WideShapes
set_option maxRecDepth 100000
set_option maxHeartbeats 4000000
set_option linter.unusedSimpArgs false
set_option linter.unusedVariables false
attribute [local go_sem] argVars runE runK isCallV stepE aop opd opdsL opds opdO ev ofVal keep List.any natbeq Bool.false_or Bool.true_or aggEq cond_true cond_false Bool.cond_false_right Bool.cond_true_left beq_true beq_false imp_self implies_true getR getL put St.app effL del nwB blt_dec Nat.lt_irrefl Nat.lt_add_one ble_dec Nat.le_refl Nat.beq_refl roomNZ appendIn capS capK mkZ_zero mkZL_zero zeroEl D.ids D.idsL bin arith sarith binT dpick Tm.part splice fillD oneD loadD storeD srcD sliceD idxOk decide_true gval dstAt D.cells List.map_cons List.map_nil List.take List.drop List.length_map List.append Int.toNat_natCast and_true true_and decide_false List.length_cons List.length_nil List.append_nil List.nil_append Bool.and_true Bool.true_and Bool.not_false Bool.not_true ne_eq not_false_eq_true BEq.rfl List.getElem?_cons_zero List.getElem?_cons_succ List.getElem?_nil Nat.zero_add List.all_cons List.all_nil List.isEmpty_cons List.isEmpty_nil Option.getD_some Option.getD_none List.any_cons List.any_nil List.drop_succ_cons List.drop_zero unfL unf okM okML low3 List.cons_append true_or or_true Nat.zero_mul Nat.zero_le findD_int findD_str  getD_int getD_str getD_bool Option.isSome_map keyD List.length_replicate List.map_replicate setEl List.length_set bytesD_map map_ub mx_len mkZ_one mkZL_one mkM mkML mk1_int mk1_str mk1_bool drop_map take_map take_map_len List.take_length Int.toNat_zero toNat_pred fpOf metIds opIds mvV mvH mvF pickL D.ren D.renL Blk.ren List.map_append List.length_append Bool.not_not Bool.or_not_self Bool.not_or_self Bool.or_true
attribute [local go_sem] Try.tm_1 Try.tm_2 Try.tm_3 Try.tm_4 Try.tm_5 Try.tm_6 Try.tm_7 Try.tm_8 Try.tm_9 Try.tm_10 Try.tm_11 Try.tm_12 Try.tm_13 Try.tm_14 Try.tm_15 Try.tm_16 Try.tm_17 Try.tm_18 Try.tm_19 Try.tm_20 Try.tm_21 Try.tm_22 Try.tm_23 Try.tm_24 Try.tm_25 Try.tm_26 Try.tm_27 Try.tm_28 Try.tm_29 Try.tm_30 Try.tm_31 Try.tm_32 Try.tm_33 Try.tm_34 Try.tm_35 Try.tm_37 Try.tm_39 Try.tm_41 Try.tm_43 Try.tm_44 Try.tm_45 Try.tm_46 Try.tm_47 Try.tm_48 Try.tm_49 Try.tm_50 Try.tm_51 Try.tm_52 Try.tm_53 Try.tm_54 Try.tm_55 Try.tm_56 Try.tm_57 Try.tm_58 Try.tm_59 Try.tm_60 Try.tm_61 Try.tm_63 Try.tm_65 Try.tm_66 Try.tm_67 Try.tm_68 Try.tm_69 Try.tm_70 Try.tm_71 Try.tm_72 Try.tm_73 Try.tm_74 Try.tm_75 Try.tm_76 Try.tm_77 Try.tm_78 Try.tm_79 Try.tm_80 Try.tm_81 Try.tm_82 Try.tm_83 Try.tm_84 Try.tm_85 Try.tm_86 Try.tm_87 Try.tm_89 Try.tm_90 Try.tm_91 Try.tm_92 Try.tm_93 Try.tm_94 Try.tm_95 Try.tm_96 Try.tm_97 Try.tm_98 Try.tm_99 Try.tm_100 Try.tm_101 Try.tm_102 Try.tm_103 Try.tm_104 Try.tm_105 Try.tm_106 Try.tm_107 Try.tm_108 Try.tm_109 Try.tm_110 Try.tm_111 Try.tm_112 Try.tm_113 Try.tm_114 Try.tm_117 Try.tm_118 Try.tm_119 Try.tm_120 Try.tm_121 Try.tm_122 Try.tm_123 Try.tm_124 Try.tm_125 Try.tm_126 TMessage.d TMessage.n TWait.d TWait.n TStamp.d TSkeen.d TSkeen.n TCommand.d TCommand.n Tskeen_clock.d Tskeen_clock.n mk1_TStamp Try.f31
def Try.Re_slices_Clone_int_int (r : (List Int)) : St := ⟨[(2, .ref 0 1 0 r.length (some unkC))], [(0, .arr 3 1 true (r.map (D.int .i64)))], 1⟩
attribute [local go_sem] Try.Re_slices_Clone_int_int
theorem callH_slices_Clone_int_int (a0 : List Int) (r : (List Int)) (h : m_slices_Clone_int_int a0 = some r) : CallH Try.prog 31 [.imm 1 (a0.map (D.int .i64)) 4] [] (.ref 0 1 0 r.length (some unkC)) [(0, some (.arr 3 1 true (r.map (D.int .i64))))] (0, 3) := by
 refine callH_intro' Try.tmOk Try.func31 rfl (by decide) (Nat.le_of_ble_eq_true rfl) (by simp) ?_
 intro hwf
 unfold m_slices_Clone_int_int at h
 refine .ends 0 (Nat.le_refl _) ?_
 refine .nil4 0 1 (a0.map (D.int .i64)) rfl ?_ (fun hl => ?_)
 ·skip
  refine .seq ?_
  refine .pl Try.S [0] ?_
  refine .seq ?_
  refine .seq ?_
  refine .pl Try.S [0] ?_
  refine .cond rfl rfl (fun hc => by cases hc) (fun hc => ?_)
  refine .skip ?_
  obtain ⟨k1, h⟩ := ite_ck h
  refine .seqM 0 (fun (_ : Unit) => ⟨[(2, .ref 0 1 0 a0.length (some unkC))], [(0, .arr 3 1 true (a0.map (D.int .i64)))], 1⟩) (fun _ => True) (Nat.le_of_ble_eq_true rfl) ?_ (fun _ _ => ?_)
  ·skip
   rcases list_cases a0 with hE1 | ⟨y, ys, hE1⟩
   ·skip
    have hM1 : a0.map (D.int .i64) = [] := by rw [hE1]; simp
    refine .plain Try.tmOk Try.tmMixed [0] (by decide +kernel) (by intro q hq; simp only [go_sem, Nat.reduceSub, Int.reduceEq, Nat.reduceLT, Nat.reduceDiv, Nat.reduceAdd, Nat.reduceBEq, Nat.reduceLeDiff, reduceCtorEq, Nat.reduceEqDiff, Nat.reduceMod, Nat.reduceMul, Try.tm_26, appendD_nil hM1]; exact hq) (by first | rfl | (simp only [go_sem, Nat.reduceLeDiff]; done) | (simp only [go_sem, Nat.reduceLeDiff]; rfl) | (simp; done) | (simp [oneD] <;> omega) | (simp_all; done) | (simp_all [oneD] <;> omega)) (by first | exact Nat.le_refl _ | exact Nat.le_of_ble_eq_true rfl | (dsimp only; omega) | (simp <;> omega)) ?_
    refine ⟨(), ?_, trivial⟩
    refine Goes.new0 1 3 (Nat.le_of_ble_eq_true rfl) ?_
    refine Goes.wk 2 _ (.ref 0 1 0 0 (some unkC)) rfl (.own0 0 _ _ _ (by decide)) ?_
    exact .mx hE1 [2] [0] []
   ·skip
    have hM1 : a0.map (D.int .i64) ≠ [] := by rw [hE1]; simp
    refine .plain Try.tmOk Try.tmMixed [0] (by decide +kernel) (by intro q hq; simp only [go_sem, Nat.reduceSub, Int.reduceEq, Nat.reduceLT, Nat.reduceDiv, Nat.reduceAdd, Nat.reduceBEq, Nat.reduceLeDiff, reduceCtorEq, Nat.reduceEqDiff, Nat.reduceMod, Nat.reduceMul, Try.tm_26, appendD_cons hM1]; exact hq) (by first | rfl | (simp only [go_sem, Nat.reduceLeDiff]; done) | (simp only [go_sem, Nat.reduceLeDiff]; rfl) | (simp; done) | (simp [oneD] <;> omega) | (simp_all; done) | (simp_all [oneD] <;> omega)) (by first | exact Nat.le_refl _ | exact Nat.le_of_ble_eq_true rfl | (dsimp only; omega) | (simp <;> omega)) ?_
    refine ⟨(), ?_, trivial⟩
    refine Goes.wk 2 _ (.ref 0 1 0 a0.length (some unkC)) rfl (.unk _ _ _ _ _) ?_
    exact .mx hE1 [2] [0] []
  have hq := Option.some.inj h
  subst r
  refine .ret ⟨Try.Re_slices_Clone_int_int a0, ?_, .inr rfl, retH [0] ?_ ?_⟩
  ·skip
   exact .m [2] [0] []
  ·exact rsi0
  ·rfl
 ·skip
  have hE0 : a0 = [] := by simpa using hl
  obtain ⟨k1, h⟩ := ite_ck h
  refine .seq ?_
  refine .pl Try.S [0] ?_
  refine .seq ?_
  refine .seq ?_
  refine .pl Try.S [0] ?_
  refine .cond rfl rfl (fun hc => ?_) (fun hc => by cases hc)
  refine .seq ?_
  refine .pl Try.S [] ?_
  have hq := Option.some.inj h
  subst r
  refine .ret ⟨Try.Re_slices_Clone_int_int a0, ?_, .inr rfl, retH [0] ?_ ?_⟩
  ·skip
   refine Goes.new0 1 3 (Nat.le_of_ble_eq_true rfl) ?_
   refine Goes.wk 2 _ (.ref 0 1 0 0 (some unkC)) rfl (.own0 0 _ _ _ (by decide)) ?_
   exact .mx hE0 [2] [0] []
  ·exact rsi0
  ·rfl
theorem callP_slices_Clone_int_int (a0 : List Int) (r : (List Int)) (h : m_slices_Clone_int_int a0 = some r) : CallP Try.prog 31 [.imm 1 (a0.map (D.int .i64)) 4] (.imm 1 (r.map (D.int .i64)) 13) :=
 callP_frz (frz_ref0 pl0_i64 rfl rfl) (callH_slices_Clone_int_int a0 r h)
end Go.Proofs
end
section
namespace Go.Tm
open Go.RowKit Go.WideShapes
theorem overs_of {P : Program} {K : FuncId} {fn : Func} {t r : TypeId} (hf : P.funcs[K]? = some fn) (hname : (fn.name == "runtime.NumGoroutine") = false) (hb : fn.body.isNone = true) (hn : Extern.findNext fn = none)
  (he : Extern.find fn = some (Extern.SlicesOverlaps.overlaps #[t, t] #[r])) {ti : TI} (ht : tiChk P t ti = true) (hk : ti.kind = 3) : Overs P K := by
 intro w x y la ca lb cb cx cy Tx Ty hne hs hx hy hz
 obtain ⟨el, j, hu, hj, hj1, hj2, hj3, hj4, _, hel'⟩ := ti_slice ht hk
 subst hel'
 have hsz : ∀ w : World, (sizeOf ti.el).run P w = .ok j.size w := fun w => by simp [sizeOf, typeInfo, hj]
 obtain ⟨xb, xo, xs⟩ := x
 simp only at hs hx hne
 subst hs
 rw [run_callFunc_extern hf hname hb hn he, Go.Lib.run_overlaps_apart w t r ti.el hu j.size hsz ⟨xb, xo, none⟩ y la ca lb cb hne Tx Ty cx.size cy.size (by simp [World.shape?, hx]) (by simp [World.shape?, hy]) hz (by simp [World.frozen?, hx]) (by simp [World.frozen?, hx])]
 rfl
theorem callH_capW {P : Program} {K : FuncId} {i k s n m : Nat} {e s' : Nat} {p p' : Bool} {l l' : List D} {post : List D} {H : List (Nat × Blk)} (hE : Enters P K) (hH : getL H i = some (.arr e s p l)) (hik : i ≠ k) (hm0 : 0 < m ∨ 0 < n)
  (hin : ∀ c, capK c = true → n ≤ c → m ≤ c → CallH P K (.ref i s 0 n (some c) :: post) H (.ref i s 0 m (some c)) [(i, some (.arr e s' p' l'))] (k, k))
  (hout : ∀ c, capK c = true → n ≤ c → c < m → CallH P K (.ref i s 0 n (some c) :: post) H (.ref k s 0 m none) [(k, some (.arr e s' p' l')), (i, none)] (k, k + 1)) :
  CallH P K (.ref i s 0 n (some unkC) :: post) H (.ref k s 0 m (some unkC)) [(k, some (.arr e s' p' l')), (i, none)] (k, k + 1) := by
 refine ⟨hE, fun fr w g hp nu vs hM hHs hnw hvs => ?_⟩
 simp only [reps] at hvs
 obtain ⟨v0, vs, rfl, h0, hvs⟩ := hvs
 have h0' := h0
 simp only [rep] at h0
 obtain ⟨q1, ad, cap, rfl, q2, q3, q4, q5, q6⟩ := h0
 have hc : rep (cx w g hp) (.ref i s 0 n (some cap)) (.slice ad n cap) := by
  simp only [rep]
  exact ⟨q1, ad, cap, rfl, q2, q3, q4, ⟨fun c h _ => by cases h; rfl, fun h => by cases h⟩, q6⟩
 have hargs : reps (cx w g hp) (.ref i s 0 n (some cap) :: post) (.slice ad n cap :: vs) := by
  simp only [reps]
  exact ⟨_, _, rfl, hc, hvs⟩
 have hck : capK cap = true := Nat.ble_eq_true_of_le (by omega)
 by_cases hcase : cap < m
 ·refine ((hout cap hck q2 hcase).2 fr w g hp nu _ hM hHs hnw hargs).mono ?_
  rintro ee w' ⟨v, g', he, ha⟩
  exact ⟨v, g', he, ha.gz, ha.gs, ha.keep, ha.mem, ha.own, rep_unk ha.res rfl⟩
 ·have hq6 := q6
  rcases q6 with q6 | ⟨b1, T1, n1, z1, _, z2, z3⟩
  ·omega
  refine ((hin cap hck q2 (by omega)).2 fr w g hp nu _ hM hHs (fun id h1 h2 => by have h1 : k ≤ id := h1; have h2 : id < k := h2; omega) hargs).mono ?_
  rintro ee w' ⟨v, g', he, ha⟩
  have hki : Nat.beq k i = false := beq_ne fun e => hik e.symm
  have hnk : nu k = true := hnw k (Nat.le_refl _) (Nat.lt_succ_self _)
  have hpi : hp i = some (.arr e s p l) := hHs i _ hH
  have hni : nu i = false := by
   cases h : nu i
   ·rfl
   ·rw [(hM.nw i h).2] at hpi; cases hpi
  have hσi : g'.σ i = some (b1, 0) := (ha.gs i hni).trans z1
  let E0 : En := ⟨w', fr, fun _ => True, g', effN nu (k, k)⟩
  let F0 : FrS := ⟨fun _ => .undef, effH hp [(i, some (.arr e s' p' l'))], effN nu (k, k)⟩
  let a0 : Act := ⟨#[], []⟩
  have hR0 : Rel E0 0 F0 a0 w' g' := ⟨Nat.zero_le _, rfl, fun _ => by simp only [F0, rep], ha.mem, fun _ _ _ _ _ => .inr trivial, Keep.refl _ _, ⟨rfl, rfl⟩, fun _ _ => rfl, fun _ h => h⟩
  have hpi' : effH hp [(i, some (.arr e s' p' l'))] i = some (.arr e s' p' l') := by simp [effH, getL]
  have hnk0 : F0.nu k = true := by
   show effN nu (k, k) k = true
   simp [effN, hnk]
  obtain ⟨r1, _⟩ := Rel.made hR0 (m := k) (blk := .arr e s' p' l') (loc := some (b1, 0)) (kl := some i) (w' := w') hnk0 ((Keep.refl _ w').mono fun _ _ h => h)
   (by rintro b o h; cases h; exact .inr ⟨i, 0, rfl, by show effH hp [(i, some (.arr e s' p' l'))] i ≠ none; rw [hpi']; simp, hσi⟩)
   (by
    intro C hC hle hrf hσ
    rcases ha.mem.hd i _ hpi' with ⟨_, h⟩ | ⟨b', cs, h1, h2, h3, h4⟩
    ·have h : g'.σ i = none := h
     rw [hσi] at h; cases h
    ·have h1 : g'.σ i = some (b', 0) := h1
     rw [hσi] at h1
     simp only [Option.some.injEq, Prod.mk.injEq] at h1
     obtain ⟨rfl, _⟩ := h1
     exact .inr ⟨b1, cs, hσ, by subst hC; exact h2, h3, elems_le (C := { cx w' g' (effH hp [(i, some (.arr e s' p' l'))]) with rf := !p' }) (C' := { C with rf := !p' }) (le_rf hle rfl _ _ id) _ _ _ _ (by subst hC; rfl) h4⟩)
  have hhp : effH (effH hp [(i, some (.arr e s' p' l'))]) ((k, some (.arr e s' p' l')) :: kill (some i)) = effH hp [(k, some (.arr e s' p' l')), (i, none)] := by
   funext x
   simp only [effH, kill, getL]
   cases h1 : Nat.beq k x
   ·cases h2 : Nat.beq i x <;> simp
   ·simp
  have hnn : effN (effN nu (k, k)) (k, k + 1) = effN nu (k, k + 1) := by
   funext x
   simp only [effN]
   have : (decide (k ≤ x) && decide (x < k)) = false := by
    cases hx : decide (k ≤ x) <;> simp at hx ⊢
    omega
   rw [this]; simp
  have hmem := r1.mem
  simp only [FrS.eff, F0] at hmem
  rw [hhp, hnn] at hmem
  have hpk : effH hp [(k, some (.arr e s' p' l')), (i, none)] i = none := by simp [effH, getL, hki]
  refine ⟨v, setσ g' k (some (b1, 0)), he, ha.gz, fun id hid => ?_, ha.keep, hmem, ?_, ?_⟩
  ·have : id ≠ k := by rintro rfl; rw [hnk] at hid; cases hid
   show (if id = k then _ else g'.σ id) = g.σ id
   rw [if_neg this]
   exact ha.gs id hid
  ·rintro b0 ⟨id, o, h1, h2⟩
   have h2 : (if id = k then some (b1, 0) else g'.σ id) = some (b0, o) := h2
   by_cases hidk : id = k
   ·rw [if_pos hidk] at h2
    simp only [Option.some.injEq, Prod.mk.injEq] at h2
    obtain ⟨rfl, rfl⟩ := h2
    exact ha.own b1 ⟨i, 0, by rw [hpi']; simp, hσi⟩
   ·rw [if_neg hidk] at h2
    by_cases hidi : id = i
    ·subst hidi
     rw [hpk] at h1
     exact absurd rfl h1
    ·refine ha.own b0 ⟨id, o, ?_, h2⟩
     have a1 : Nat.beq k id = false := beq_ne fun e => hidk e.symm
     have a2 : Nat.beq i id = false := beq_ne fun e => hidi e.symm
     simp only [effH, getL, a1, a2] at h1 ⊢
     exact h1
  ·have hres := ha.res
   simp only [rep] at hres ⊢
   obtain ⟨_, ad', cap', hv, k1, k2, k3, k4, k5⟩ := hres
   have hcc := k4.1 cap rfl (Nat.ble_eq_true_of_le (by omega))
   subst hcc
   have hsh : w'.shape? b1 = some (T1, n1) := by
    have := ha.keep.shp b1 (shape_lt (w := w) z2)
    rw [this]; exact z2
   refine ⟨by simp [cx], ad', cap', hv, k1, k2, k3, ⟨(fun c h hk => by cases h; cases hk), (fun h => by cases h)⟩, ?_⟩
   rcases k5 with k5 | ⟨b, T, nn, y1, y2, y3, y4⟩
   ·exact .inl k5
   ·have y1 : g'.σ i = some (b, 0) := y1
    rw [hσi] at y1
    simp only [Option.some.injEq, Prod.mk.injEq] at y1
    obtain ⟨rfl, _⟩ := y1
    exact .inr ⟨b1, T, nn, by simp [cx, setσ], y2, y3, y4⟩
end Go.Tm
end

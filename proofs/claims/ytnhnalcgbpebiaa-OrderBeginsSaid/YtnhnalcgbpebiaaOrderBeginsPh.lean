/- Texts of the proof. -/
import Derived.Test.YtnhnalcgbpebiaaChecked
import Derived.KernelRfl
import Derived.Test.YtnhnalcgbpebiaaOrderBeginsPf
import Derived.Test.YtnhnalcgbpebiaaOrderBeginsPg
section
namespace Go.Proofs
open Go.Tm
def Try.tmL : List (Nat × TI) := [
  (1, { kind := 1, size := 1, offs := [], zero := [.nilfn], el := 0, esz := 0, eby := 0, eagg := false, ik := none, eqs := false, ezero := [] }),
  (2, { kind := 6, size := 1, offs := [], zero := [.int .i64 0], el := 0, esz := 0, eby := 0, eagg := false, ik := some .i64, eqs := false, ezero := [] }),
  (3, { kind := 6, size := 1, offs := [], zero := [.int .i64 0], el := 0, esz := 0, eby := 0, eagg := false, ik := some .i64, eqs := false, ezero := [] }),
  (4, { kind := 8, size := 1, offs := [], zero := [.bool false], el := 0, esz := 0, eby := 0, eagg := false, ik := none, eqs := false, ezero := [] }),
  (5, { kind := 6, size := 1, offs := [], zero := [.int .u8 0], el := 0, esz := 0, eby := 0, eagg := false, ik := some .u8, eqs := false, ezero := [] }),
  (6, { kind := 6, size := 1, offs := [], zero := [.int .u8 0], el := 0, esz := 0, eby := 0, eagg := false, ik := some .u8, eqs := false, ezero := [] }),
  (7, { kind := 2, size := 4, offs := [(0, 1, false), (1, 1, false), (2, 1, false), (3, 1, false)], zero := [.int .i64 0, .int .i64 0, .bool false, .int .u8 0], el := 0, esz := 0, eby := 0, eagg := false, ik := none, eqs := false, ezero := [] }),
  (8, { kind := 2, size := 4, offs := [(0, 1, false), (1, 1, false), (2, 1, false), (3, 1, false)], zero := [.int .i64 0, .int .i64 0, .bool false, .int .u8 0], el := 0, esz := 0, eby := 0, eagg := false, ik := none, eqs := false, ezero := [] }),
  (9, { kind := 5, size := 1, offs := [], zero := [.str []], el := 0, esz := 0, eby := 0, eagg := false, ik := none, eqs := false, ezero := [] }),
  (10, { kind := 5, size := 1, offs := [], zero := [.str []], el := 0, esz := 0, eby := 0, eagg := false, ik := none, eqs := false, ezero := [] }),
  (11, { kind := 5, size := 1, offs := [], zero := [.str []], el := 0, esz := 0, eby := 0, eagg := false, ik := none, eqs := false, ezero := [] }),
  (12, { kind := 6, size := 1, offs := [], zero := [.int .u64 0], el := 0, esz := 0, eby := 0, eagg := false, ik := some .u64, eqs := false, ezero := [] }),
  (13, { kind := 2, size := 2, offs := [(0, 1, false), (1, 1, false)], zero := [.str [], .int .u64 0], el := 0, esz := 0, eby := 0, eagg := false, ik := none, eqs := false, ezero := [] }),
  (14, { kind := 2, size := 2, offs := [(0, 1, false), (1, 1, false)], zero := [.str [], .int .u64 0], el := 0, esz := 0, eby := 0, eagg := false, ik := none, eqs := false, ezero := [] }),
  (15, { kind := 1, size := 1, offs := [], zero := [.nilptr], el := 0, esz := 0, eby := 0, eagg := false, ik := none, eqs := false, ezero := [] }),
  (16, { kind := 1, size := 1, offs := [], zero := [.nilptr], el := 0, esz := 0, eby := 0, eagg := false, ik := none, eqs := false, ezero := [] }),
  (17, { kind := 1, size := 1, offs := [], zero := [.nilptr], el := 0, esz := 0, eby := 0, eagg := false, ik := none, eqs := false, ezero := [] }),
  (18, { kind := 2, size := 1, offs := [(0, 1, false)], zero := [.nilptr], el := 0, esz := 0, eby := 0, eagg := false, ik := none, eqs := false, ezero := [] }),
  (19, { kind := 2, size := 1, offs := [(0, 1, false)], zero := [.nilptr], el := 0, esz := 0, eby := 0, eagg := false, ik := none, eqs := false, ezero := [] }),
  (20, { kind := 7, size := 1, offs := [], zero := [.nilIface], el := 0, esz := 0, eby := 0, eagg := false, ik := none, eqs := false, ezero := [] }),
  (21, { kind := 6, size := 1, offs := [], zero := [.int .i32 0], el := 0, esz := 0, eby := 0, eagg := false, ik := some .i32, eqs := false, ezero := [] }),
  (22, { kind := 3, size := 1, offs := [], zero := [.imm 0 [] 0], el := 3, esz := 1, eby := 8, eagg := false, ik := none, eqs := false, ezero := [.int .i64 0] }),
  (23, { kind := 3, size := 1, offs := [], zero := [.imm 0 [] 0], el := 27, esz := 3, eby := 32, eagg := true, ik := none, eqs := false, ezero := [.int .i64 0, .int .i64 0, .str []] }),
  (24, { kind := 2, size := 7, offs := [(0, 1, false), (1, 1, false), (2, 1, false), (3, 1, false), (4, 1, false), (5, 1, false), (6, 1, false)], zero := [.int .u8 0, .int .i64 0, .imm 0 [] 0, .str [], .str [], .imm 0 [] 0, .imm 0 [] 0], el := 0, esz := 0, eby := 0, eagg := false, ik := none, eqs := false, ezero := [] }),
  (25, { kind := 2, size := 7, offs := [(0, 1, false), (1, 1, false), (2, 1, false), (3, 1, false), (4, 1, false), (5, 1, false), (6, 1, false)], zero := [.int .u8 0, .int .i64 0, .imm 0 [] 0, .str [], .str [], .imm 0 [] 0, .imm 0 [] 0], el := 0, esz := 0, eby := 0, eagg := false, ik := none, eqs := false, ezero := [] }),
  (26, { kind := 2, size := 3, offs := [(0, 1, false), (1, 1, false), (2, 1, false)], zero := [.int .i64 0, .int .i64 0, .str []], el := 0, esz := 0, eby := 0, eagg := false, ik := none, eqs := false, ezero := [] }),
  (27, { kind := 2, size := 3, offs := [(0, 1, false), (1, 1, false), (2, 1, false)], zero := [.int .i64 0, .int .i64 0, .str []], el := 0, esz := 0, eby := 0, eagg := false, ik := none, eqs := true, ezero := [] }),
  (28, { kind := 1, size := 1, offs := [], zero := [.nilfn], el := 0, esz := 0, eby := 0, eagg := false, ik := none, eqs := false, ezero := [] }),
  (29, { kind := 1, size := 1, offs := [], zero := [.nilfn], el := 0, esz := 0, eby := 0, eagg := false, ik := none, eqs := false, ezero := [] }),
  (30, { kind := 6, size := 1, offs := [], zero := [.int .i64 0], el := 0, esz := 0, eby := 0, eagg := false, ik := some .i64, eqs := false, ezero := [] }),
  (32, { kind := 1, size := 1, offs := [], zero := [.nilfn], el := 0, esz := 0, eby := 0, eagg := false, ik := none, eqs := false, ezero := [] }),
  (34, { kind := 1, size := 1, offs := [], zero := [.nilfn], el := 0, esz := 0, eby := 0, eagg := false, ik := none, eqs := false, ezero := [] }),
  (35, { kind := 1, size := 1, offs := [], zero := [.nilfn], el := 0, esz := 0, eby := 0, eagg := false, ik := none, eqs := false, ezero := [] }),
  (36, { kind := 1, size := 1, offs := [], zero := [.nilfn], el := 0, esz := 0, eby := 0, eagg := false, ik := none, eqs := false, ezero := [] }),
  (37, { kind := 1, size := 1, offs := [], zero := [.nilfn], el := 0, esz := 0, eby := 0, eagg := false, ik := none, eqs := false, ezero := [] }),
  (38, { kind := 1, size := 1, offs := [], zero := [.nilfn], el := 0, esz := 0, eby := 0, eagg := false, ik := none, eqs := false, ezero := [] }),
  (39, { kind := 1, size := 1, offs := [], zero := [.nilfn], el := 0, esz := 0, eby := 0, eagg := false, ik := none, eqs := false, ezero := [] }),
  (40, { kind := 1, size := 1, offs := [], zero := [.nilfn], el := 0, esz := 0, eby := 0, eagg := false, ik := none, eqs := false, ezero := [] }),
  (41, { kind := 3, size := 1, offs := [], zero := [.imm 0 [] 0], el := 52, esz := 1, eby := 24, eagg := false, ik := none, eqs := false, ezero := [.imm 0 [] 0] }),
  (42, { kind := 3, size := 1, offs := [], zero := [.imm 0 [] 0], el := 153, esz := 5, eby := 48, eagg := true, ik := none, eqs := false, ezero := [.int .i64 0, .int .i64 0, .int .i64 0, .int .i64 0, .str []] }),
  (43, { kind := 2, size := 2, offs := [(0, 1, false), (1, 1, false)], zero := [.imm 0 [] 0, .imm 0 [] 0], el := 0, esz := 0, eby := 0, eagg := false, ik := none, eqs := false, ezero := [] }),
  (44, { kind := 2, size := 2, offs := [(0, 1, false), (1, 1, false)], zero := [.imm 0 [] 0, .imm 0 [] 0], el := 0, esz := 0, eby := 0, eagg := false, ik := none, eqs := false, ezero := [] }),
  (45, { kind := 2, size := 5, offs := [(0, 1, false), (1, 1, false), (2, 1, false), (3, 1, false), (4, 1, false)], zero := [.int .u8 0, .int .i64 0, .int .i64 0, .int .i64 0, .str []], el := 0, esz := 0, eby := 0, eagg := false, ik := none, eqs := false, ezero := [] }),
  (46, { kind := 2, size := 5, offs := [(0, 1, false), (1, 1, false), (2, 1, false), (3, 1, false), (4, 1, false)], zero := [.int .u8 0, .int .i64 0, .int .i64 0, .int .i64 0, .str []], el := 0, esz := 0, eby := 0, eagg := false, ik := none, eqs := true, ezero := [] }),
  (47, { kind := 1, size := 1, offs := [], zero := [.nilfn], el := 0, esz := 0, eby := 0, eagg := false, ik := none, eqs := false, ezero := [] }),
  (48, { kind := 1, size := 1, offs := [], zero := [.nilfn], el := 0, esz := 0, eby := 0, eagg := false, ik := none, eqs := false, ezero := [] }),
  (50, { kind := 1, size := 1, offs := [], zero := [.nilfn], el := 0, esz := 0, eby := 0, eagg := false, ik := none, eqs := false, ezero := [] }),
  (51, { kind := 1, size := 1, offs := [], zero := [.nilfn], el := 0, esz := 0, eby := 0, eagg := false, ik := none, eqs := false, ezero := [] }),
  (52, { kind := 3, size := 1, offs := [], zero := [.imm 0 [] 0], el := 9, esz := 1, eby := 16, eagg := false, ik := none, eqs := false, ezero := [.str []] }),
  (53, { kind := 1, size := 1, offs := [], zero := [.nilfn], el := 0, esz := 0, eby := 0, eagg := false, ik := none, eqs := false, ezero := [] }),
  (54, { kind := 2, size := 3, offs := [(0, 1, false), (1, 1, false), (2, 1, false)], zero := [.int .i64 0, .int .i64 0, .str []], el := 0, esz := 0, eby := 0, eagg := false, ik := none, eqs := false, ezero := [] }),
  (55, { kind := 2, size := 3, offs := [(0, 1, false), (1, 1, false), (2, 1, false)], zero := [.int .i64 0, .int .i64 0, .str []], el := 0, esz := 0, eby := 0, eagg := false, ik := none, eqs := true, ezero := [] }),
  (57, { kind := 1, size := 1, offs := [], zero := [.nilfn], el := 0, esz := 0, eby := 0, eagg := false, ik := none, eqs := false, ezero := [] }),
  (58, { kind := 1, size := 1, offs := [], zero := [.nilfn], el := 0, esz := 0, eby := 0, eagg := false, ik := none, eqs := false, ezero := [] }),
  (59, { kind := 1, size := 1, offs := [], zero := [.nilfn], el := 0, esz := 0, eby := 0, eagg := false, ik := none, eqs := false, ezero := [] }),
  (61, { kind := 1, size := 1, offs := [], zero := [.nilfn], el := 0, esz := 0, eby := 0, eagg := false, ik := none, eqs := false, ezero := [] }),
  (63, { kind := 1, size := 1, offs := [], zero := [.nilfn], el := 0, esz := 0, eby := 0, eagg := false, ik := none, eqs := false, ezero := [] }),
  (64, { kind := 1, size := 1, offs := [], zero := [.nilfn], el := 0, esz := 0, eby := 0, eagg := false, ik := none, eqs := false, ezero := [] }),
  (65, { kind := 1, size := 1, offs := [], zero := [.nilfn], el := 0, esz := 0, eby := 0, eagg := false, ik := none, eqs := false, ezero := [] }),
  (66, { kind := 1, size := 1, offs := [], zero := [.nilfn], el := 0, esz := 0, eby := 0, eagg := false, ik := none, eqs := false, ezero := [] }),
  (67, { kind := 1, size := 1, offs := [], zero := [.nilfn], el := 0, esz := 0, eby := 0, eagg := false, ik := none, eqs := false, ezero := [] }),
  (68, { kind := 1, size := 1, offs := [], zero := [.nilfn], el := 0, esz := 0, eby := 0, eagg := false, ik := none, eqs := false, ezero := [] }),
  (69, { kind := 1, size := 1, offs := [], zero := [.nilfn], el := 0, esz := 0, eby := 0, eagg := false, ik := none, eqs := false, ezero := [] }),
  (70, { kind := 1, size := 1, offs := [], zero := [.nilfn], el := 0, esz := 0, eby := 0, eagg := false, ik := none, eqs := false, ezero := [] }),
  (71, { kind := 1, size := 1, offs := [], zero := [.nilfn], el := 0, esz := 0, eby := 0, eagg := false, ik := none, eqs := false, ezero := [] }),
  (73, { kind := 1, size := 1, offs := [], zero := [.nilfn], el := 0, esz := 0, eby := 0, eagg := false, ik := none, eqs := false, ezero := [] }),
  (75, { kind := 1, size := 1, offs := [], zero := [.nilfn], el := 0, esz := 0, eby := 0, eagg := false, ik := none, eqs := false, ezero := [] }),
  (76, { kind := 1, size := 1, offs := [], zero := [.nilfn], el := 0, esz := 0, eby := 0, eagg := false, ik := none, eqs := false, ezero := [] }),
  (78, { kind := 1, size := 1, offs := [], zero := [.nilfn], el := 0, esz := 0, eby := 0, eagg := false, ik := none, eqs := false, ezero := [] }),
  (79, { kind := 1, size := 1, offs := [], zero := [.nilfn], el := 0, esz := 0, eby := 0, eagg := false, ik := none, eqs := false, ezero := [] }),
  (80, { kind := 3, size := 1, offs := [], zero := [.imm 0 [] 0], el := 90, esz := 7, eby := 88, eagg := true, ik := none, eqs := false, ezero := [.int .i64 0, .imm 0 [] 0, .int .i64 0, .str [], .str [], .int .i64 0, .bool false] }),
  (81, { kind := 3, size := 1, offs := [], zero := [.imm 0 [] 0], el := 103, esz := 2, eby := 16, eagg := true, ik := none, eqs := false, ezero := [.int .i64 0, .int .i64 0] }),
  (82, { kind := 2, size := 3, offs := [(0, 1, false), (1, 1, false), (2, 1, false)], zero := [.int .i64 0, .imm 0 [] 0, .imm 0 [] 0], el := 0, esz := 0, eby := 0, eagg := false, ik := none, eqs := false, ezero := [] }),
  (83, { kind := 2, size := 3, offs := [(0, 1, false), (1, 1, false), (2, 1, false)], zero := [.int .i64 0, .imm 0 [] 0, .imm 0 [] 0], el := 0, esz := 0, eby := 0, eagg := false, ik := none, eqs := false, ezero := [] }),
  (84, { kind := 1, size := 1, offs := [], zero := [.nilfn], el := 0, esz := 0, eby := 0, eagg := false, ik := none, eqs := false, ezero := [] }),
  (85, { kind := 1, size := 1, offs := [], zero := [.nilfn], el := 0, esz := 0, eby := 0, eagg := false, ik := none, eqs := false, ezero := [] }),
  (86, { kind := 1, size := 1, offs := [], zero := [.nilfn], el := 0, esz := 0, eby := 0, eagg := false, ik := none, eqs := false, ezero := [] }),
  (87, { kind := 2, size := 5, offs := [(0, 1, false), (1, 1, false), (2, 1, false), (3, 1, false), (4, 1, false)], zero := [.int .i64 0, .imm 0 [] 0, .int .i64 0, .str [], .str []], el := 0, esz := 0, eby := 0, eagg := false, ik := none, eqs := false, ezero := [] }),
  (88, { kind := 2, size := 5, offs := [(0, 1, false), (1, 1, false), (2, 1, false), (3, 1, false), (4, 1, false)], zero := [.int .i64 0, .imm 0 [] 0, .int .i64 0, .str [], .str []], el := 0, esz := 0, eby := 0, eagg := false, ik := none, eqs := false, ezero := [] }),
  (89, { kind := 2, size := 7, offs := [(0, 5, true), (5, 1, false), (6, 1, false)], zero := [.int .i64 0, .imm 0 [] 0, .int .i64 0, .str [], .str [], .int .i64 0, .bool false], el := 0, esz := 0, eby := 0, eagg := false, ik := none, eqs := false, ezero := [] }),
  (90, { kind := 2, size := 7, offs := [(0, 5, true), (5, 1, false), (6, 1, false)], zero := [.int .i64 0, .imm 0 [] 0, .int .i64 0, .str [], .str [], .int .i64 0, .bool false], el := 0, esz := 0, eby := 0, eagg := false, ik := none, eqs := false, ezero := [] }),
  (91, { kind := 3, size := 1, offs := [], zero := [.imm 0 [] 0], el := 88, esz := 5, eby := 72, eagg := true, ik := none, eqs := false, ezero := [.int .i64 0, .imm 0 [] 0, .int .i64 0, .str [], .str []] }),
  (93, { kind := 1, size := 1, offs := [], zero := [.nilfn], el := 0, esz := 0, eby := 0, eagg := false, ik := none, eqs := false, ezero := [] }),
  (94, { kind := 2, size := 12, offs := [(0, 1, false), (1, 5, true), (6, 1, false), (7, 1, false), (8, 1, false), (9, 1, false), (10, 1, false), (11, 1, false)], zero := [.int .u8 0, .int .i64 0, .imm 0 [] 0, .int .i64 0, .str [], .str [], .int .i64 0, .int .i64 0, .imm 0 [] 0, .int .i64 0, .int .i64 0, .int .i64 0], el := 0, esz := 0, eby := 0, eagg := false, ik := none, eqs := false, ezero := [] }),
  (95, { kind := 2, size := 12, offs := [(0, 1, false), (1, 5, true), (6, 1, false), (7, 1, false), (8, 1, false), (9, 1, false), (10, 1, false), (11, 1, false)], zero := [.int .u8 0, .int .i64 0, .imm 0 [] 0, .int .i64 0, .str [], .str [], .int .i64 0, .int .i64 0, .imm 0 [] 0, .int .i64 0, .int .i64 0, .int .i64 0], el := 0, esz := 0, eby := 0, eagg := false, ik := none, eqs := false, ezero := [] }),
  (96, { kind := 1, size := 1, offs := [], zero := [.nilfn], el := 0, esz := 0, eby := 0, eagg := false, ik := none, eqs := false, ezero := [] }),
  (97, { kind := 1, size := 1, offs := [], zero := [.nilfn], el := 0, esz := 0, eby := 0, eagg := false, ik := none, eqs := false, ezero := [] }),
  (98, { kind := 3, size := 1, offs := [], zero := [.imm 0 [] 0], el := 95, esz := 12, eby := 144, eagg := true, ik := none, eqs := false, ezero := [.int .u8 0, .int .i64 0, .imm 0 [] 0, .int .i64 0, .str [], .str [], .int .i64 0, .int .i64 0, .imm 0 [] 0, .int .i64 0, .int .i64 0, .int .i64 0] }),
  (99, { kind := 1, size := 1, offs := [], zero := [.nilfn], el := 0, esz := 0, eby := 0, eagg := false, ik := none, eqs := false, ezero := [] }),
  (100, { kind := 1, size := 1, offs := [], zero := [.nilfn], el := 0, esz := 0, eby := 0, eagg := false, ik := none, eqs := false, ezero := [] }),
  (101, { kind := 1, size := 1, offs := [], zero := [.nilfn], el := 0, esz := 0, eby := 0, eagg := false, ik := none, eqs := false, ezero := [] }),
  (102, { kind := 2, size := 2, offs := [(0, 1, false), (1, 1, false)], zero := [.int .i64 0, .int .i64 0], el := 0, esz := 0, eby := 0, eagg := false, ik := none, eqs := false, ezero := [] }),
  (103, { kind := 2, size := 2, offs := [(0, 1, false), (1, 1, false)], zero := [.int .i64 0, .int .i64 0], el := 0, esz := 0, eby := 0, eagg := false, ik := none, eqs := true, ezero := [] }),
  (104, { kind := 1, size := 1, offs := [], zero := [.nilfn], el := 0, esz := 0, eby := 0, eagg := false, ik := none, eqs := false, ezero := [] }),
  (105, { kind := 1, size := 1, offs := [], zero := [.nilfn], el := 0, esz := 0, eby := 0, eagg := false, ik := none, eqs := false, ezero := [] }),
  (106, { kind := 1, size := 1, offs := [], zero := [.nilfn], el := 0, esz := 0, eby := 0, eagg := false, ik := none, eqs := false, ezero := [] }),
  (107, { kind := 1, size := 1, offs := [], zero := [.nilfn], el := 0, esz := 0, eby := 0, eagg := false, ik := none, eqs := false, ezero := [] }),
  (109, { kind := 1, size := 1, offs := [], zero := [.nilfn], el := 0, esz := 0, eby := 0, eagg := false, ik := none, eqs := false, ezero := [] }),
  (111, { kind := 1, size := 1, offs := [], zero := [.nilfn], el := 0, esz := 0, eby := 0, eagg := false, ik := none, eqs := false, ezero := [] }),
  (113, { kind := 1, size := 1, offs := [], zero := [.nilfn], el := 0, esz := 0, eby := 0, eagg := false, ik := none, eqs := false, ezero := [] }),
  (114, { kind := 1, size := 1, offs := [], zero := [.nilfn], el := 0, esz := 0, eby := 0, eagg := false, ik := none, eqs := false, ezero := [] }),
  (115, { kind := 1, size := 1, offs := [], zero := [.nilfn], el := 0, esz := 0, eby := 0, eagg := false, ik := none, eqs := false, ezero := [] }),
  (116, { kind := 1, size := 1, offs := [], zero := [.nilfn], el := 0, esz := 0, eby := 0, eagg := false, ik := none, eqs := false, ezero := [] }),
  (117, { kind := 1, size := 1, offs := [], zero := [.nilfn], el := 0, esz := 0, eby := 0, eagg := false, ik := none, eqs := false, ezero := [] }),
  (118, { kind := 1, size := 1, offs := [], zero := [.nilfn], el := 0, esz := 0, eby := 0, eagg := false, ik := none, eqs := false, ezero := [] }),
  (119, { kind := 1, size := 1, offs := [], zero := [.nilfn], el := 0, esz := 0, eby := 0, eagg := false, ik := none, eqs := false, ezero := [] }),
  (120, { kind := 1, size := 1, offs := [], zero := [.nilfn], el := 0, esz := 0, eby := 0, eagg := false, ik := none, eqs := false, ezero := [] }),
  (121, { kind := 1, size := 1, offs := [], zero := [.nilfn], el := 0, esz := 0, eby := 0, eagg := false, ik := none, eqs := false, ezero := [] }),
  (123, { kind := 1, size := 1, offs := [], zero := [.nilfn], el := 0, esz := 0, eby := 0, eagg := false, ik := none, eqs := false, ezero := [] }),
  (124, { kind := 1, size := 1, offs := [], zero := [.nilfn], el := 0, esz := 0, eby := 0, eagg := false, ik := none, eqs := false, ezero := [] }),
  (125, { kind := 1, size := 1, offs := [], zero := [.nilfn], el := 0, esz := 0, eby := 0, eagg := false, ik := none, eqs := false, ezero := [] }),
  (127, { kind := 1, size := 1, offs := [], zero := [.nilfn], el := 0, esz := 0, eby := 0, eagg := false, ik := none, eqs := false, ezero := [] }),
  (128, { kind := 1, size := 1, offs := [], zero := [.nilfn], el := 0, esz := 0, eby := 0, eagg := false, ik := none, eqs := false, ezero := [] }),
  (129, { kind := 1, size := 1, offs := [], zero := [.nilfn], el := 0, esz := 0, eby := 0, eagg := false, ik := none, eqs := false, ezero := [] }),
  (130, { kind := 1, size := 1, offs := [], zero := [.nilfn], el := 0, esz := 0, eby := 0, eagg := false, ik := none, eqs := false, ezero := [] }),
  (131, { kind := 1, size := 1, offs := [], zero := [.nilfn], el := 0, esz := 0, eby := 0, eagg := false, ik := none, eqs := false, ezero := [] }),
  (132, { kind := 1, size := 1, offs := [], zero := [.nilfn], el := 0, esz := 0, eby := 0, eagg := false, ik := none, eqs := false, ezero := [] }),
  (133, { kind := 1, size := 1, offs := [], zero := [.nilfn], el := 0, esz := 0, eby := 0, eagg := false, ik := none, eqs := false, ezero := [] }),
  (134, { kind := 1, size := 1, offs := [], zero := [.nilfn], el := 0, esz := 0, eby := 0, eagg := false, ik := none, eqs := false, ezero := [] }),
  (135, { kind := 1, size := 1, offs := [], zero := [.nilfn], el := 0, esz := 0, eby := 0, eagg := false, ik := none, eqs := false, ezero := [] }),
  (136, { kind := 1, size := 1, offs := [], zero := [.nilfn], el := 0, esz := 0, eby := 0, eagg := false, ik := none, eqs := false, ezero := [] }),
  (137, { kind := 1, size := 1, offs := [], zero := [.nilfn], el := 0, esz := 0, eby := 0, eagg := false, ik := none, eqs := false, ezero := [] }),
  (138, { kind := 1, size := 1, offs := [], zero := [.nilfn], el := 0, esz := 0, eby := 0, eagg := false, ik := none, eqs := false, ezero := [] }),
  (139, { kind := 1, size := 1, offs := [], zero := [.nilfn], el := 0, esz := 0, eby := 0, eagg := false, ik := none, eqs := false, ezero := [] }),
  (140, { kind := 1, size := 1, offs := [], zero := [.nilfn], el := 0, esz := 0, eby := 0, eagg := false, ik := none, eqs := false, ezero := [] }),
  (141, { kind := 1, size := 1, offs := [], zero := [.nilfn], el := 0, esz := 0, eby := 0, eagg := false, ik := none, eqs := false, ezero := [] }),
  (142, { kind := 1, size := 1, offs := [], zero := [.nilfn], el := 0, esz := 0, eby := 0, eagg := false, ik := none, eqs := false, ezero := [] }),
  (143, { kind := 1, size := 1, offs := [], zero := [.nilfn], el := 0, esz := 0, eby := 0, eagg := false, ik := none, eqs := false, ezero := [] }),
  (144, { kind := 1, size := 1, offs := [], zero := [.nilfn], el := 0, esz := 0, eby := 0, eagg := false, ik := none, eqs := false, ezero := [] }),
  (145, { kind := 1, size := 1, offs := [], zero := [.nilfn], el := 0, esz := 0, eby := 0, eagg := false, ik := none, eqs := false, ezero := [] }),
  (146, { kind := 1, size := 1, offs := [], zero := [.nilfn], el := 0, esz := 0, eby := 0, eagg := false, ik := none, eqs := false, ezero := [] }),
  (147, { kind := 1, size := 1, offs := [], zero := [.nilfn], el := 0, esz := 0, eby := 0, eagg := false, ik := none, eqs := false, ezero := [] }),
  (149, { kind := 1, size := 1, offs := [], zero := [.nilfn], el := 0, esz := 0, eby := 0, eagg := false, ik := none, eqs := false, ezero := [] }),
  (150, { kind := 1, size := 1, offs := [], zero := [.nilfn], el := 0, esz := 0, eby := 0, eagg := false, ik := none, eqs := false, ezero := [] }),
  (151, { kind := 1, size := 1, offs := [], zero := [.nilfn], el := 0, esz := 0, eby := 0, eagg := false, ik := none, eqs := false, ezero := [] }),
  (152, { kind := 2, size := 5, offs := [(0, 1, false), (1, 1, false), (2, 3, true)], zero := [.int .i64 0, .int .i64 0, .int .i64 0, .int .i64 0, .str []], el := 0, esz := 0, eby := 0, eagg := false, ik := none, eqs := false, ezero := [] }),
  (153, { kind := 2, size := 5, offs := [(0, 1, false), (1, 1, false), (2, 3, true)], zero := [.int .i64 0, .int .i64 0, .int .i64 0, .int .i64 0, .str []], el := 0, esz := 0, eby := 0, eagg := false, ik := none, eqs := true, ezero := [] }),
  (154, { kind := 1, size := 1, offs := [], zero := [.nilfn], el := 0, esz := 0, eby := 0, eagg := false, ik := none, eqs := false, ezero := [] }),
  (155, { kind := 1, size := 1, offs := [], zero := [.nilfn], el := 0, esz := 0, eby := 0, eagg := false, ik := none, eqs := false, ezero := [] }),
  (156, { kind := 1, size := 1, offs := [], zero := [.nilptr], el := 0, esz := 0, eby := 0, eagg := false, ik := none, eqs := false, ezero := [] }),
  (157, { kind := 1, size := 1, offs := [], zero := [.nilfn], el := 0, esz := 0, eby := 0, eagg := false, ik := none, eqs := false, ezero := [] }),
  (158, { kind := 1, size := 1, offs := [], zero := [.nilfn], el := 0, esz := 0, eby := 0, eagg := false, ik := none, eqs := false, ezero := [] }),
  (159, { kind := 1, size := 1, offs := [], zero := [.nilfn], el := 0, esz := 0, eby := 0, eagg := false, ik := none, eqs := false, ezero := [] }),
  (160, { kind := 1, size := 1, offs := [], zero := [.nilfn], el := 0, esz := 0, eby := 0, eagg := false, ik := none, eqs := false, ezero := [] }),
  (162, { kind := 1, size := 1, offs := [], zero := [.nilfn], el := 0, esz := 0, eby := 0, eagg := false, ik := none, eqs := false, ezero := [] }),
  (163, { kind := 1, size := 1, offs := [], zero := [.nilfn], el := 0, esz := 0, eby := 0, eagg := false, ik := none, eqs := false, ezero := [] }),
  (164, { kind := 1, size := 1, offs := [], zero := [.nilfn], el := 0, esz := 0, eby := 0, eagg := false, ik := none, eqs := false, ezero := [] }),
  (165, { kind := 1, size := 1, offs := [], zero := [.nilfn], el := 0, esz := 0, eby := 0, eagg := false, ik := none, eqs := false, ezero := [] }),
  (166, { kind := 1, size := 1, offs := [], zero := [.nilfn], el := 0, esz := 0, eby := 0, eagg := false, ik := none, eqs := false, ezero := [] }),
  (167, { kind := 1, size := 1, offs := [], zero := [.nilfn], el := 0, esz := 0, eby := 0, eagg := false, ik := none, eqs := false, ezero := [] }),
  (168, { kind := 1, size := 1, offs := [], zero := [.nilfn], el := 0, esz := 0, eby := 0, eagg := false, ik := none, eqs := false, ezero := [] }),
  (169, { kind := 1, size := 1, offs := [], zero := [.nilfn], el := 0, esz := 0, eby := 0, eagg := false, ik := none, eqs := false, ezero := [] }),
  (170, { kind := 1, size := 1, offs := [], zero := [.nilfn], el := 0, esz := 0, eby := 0, eagg := false, ik := none, eqs := false, ezero := [] }),
  (171, { kind := 1, size := 1, offs := [], zero := [.nilfn], el := 0, esz := 0, eby := 0, eagg := false, ik := none, eqs := false, ezero := [] }),
  (172, { kind := 1, size := 1, offs := [], zero := [.nilfn], el := 0, esz := 0, eby := 0, eagg := false, ik := none, eqs := false, ezero := [] }),
  (173, { kind := 1, size := 1, offs := [], zero := [.nilfn], el := 0, esz := 0, eby := 0, eagg := false, ik := none, eqs := false, ezero := [] }),
  (175, { kind := 1, size := 1, offs := [], zero := [.nilfn], el := 0, esz := 0, eby := 0, eagg := false, ik := none, eqs := false, ezero := [] }),
  (177, { kind := 1, size := 1, offs := [], zero := [.nilfn], el := 0, esz := 0, eby := 0, eagg := false, ik := none, eqs := false, ezero := [] }),
  (178, { kind := 1, size := 1, offs := [], zero := [.nilfn], el := 0, esz := 0, eby := 0, eagg := false, ik := none, eqs := false, ezero := [] }),
  (179, { kind := 3, size := 1, offs := [], zero := [.imm 0 [] 0], el := 46, esz := 5, eby := 48, eagg := true, ik := none, eqs := false, ezero := [.int .u8 0, .int .i64 0, .int .i64 0, .int .i64 0, .str []] }),
  (180, { kind := 1, size := 1, offs := [], zero := [.nilfn], el := 0, esz := 0, eby := 0, eagg := false, ik := none, eqs := false, ezero := [] }),
  (181, { kind := 1, size := 1, offs := [], zero := [.nilfn], el := 0, esz := 0, eby := 0, eagg := false, ik := none, eqs := false, ezero := [] }),
  (182, { kind := 3, size := 1, offs := [], zero := [.imm 0 [] 0], el := 5, esz := 1, eby := 1, eagg := false, ik := none, eqs := false, ezero := [.int .u8 0] }),
  (184, { kind := 1, size := 1, offs := [], zero := [.nilfn], el := 0, esz := 0, eby := 0, eagg := false, ik := none, eqs := false, ezero := [] }),
  (185, { kind := 1, size := 1, offs := [], zero := [.nilfn], el := 0, esz := 0, eby := 0, eagg := false, ik := none, eqs := false, ezero := [] }),
  (187, { kind := 1, size := 1, offs := [], zero := [.nilfn], el := 0, esz := 0, eby := 0, eagg := false, ik := none, eqs := false, ezero := [] }),
  (189, { kind := 1, size := 1, offs := [], zero := [.nilfn], el := 0, esz := 0, eby := 0, eagg := false, ik := none, eqs := false, ezero := [] }),
  (191, { kind := 1, size := 1, offs := [], zero := [.nilfn], el := 0, esz := 0, eby := 0, eagg := false, ik := none, eqs := false, ezero := [] }),
  (192, { kind := 1, size := 1, offs := [], zero := [.nilfn], el := 0, esz := 0, eby := 0, eagg := false, ik := none, eqs := false, ezero := [] }),
  (193, { kind := 9, size := 1, offs := [], zero := [.nilmap], el := 3, esz := 1, eby := 0, eagg := false, ik := none, eqs := false, ezero := [.int .i64 0] }),
  (194, { kind := 1, size := 1, offs := [], zero := [.nilfn], el := 0, esz := 0, eby := 0, eagg := false, ik := none, eqs := false, ezero := [] }),
  (195, { kind := 1, size := 1, offs := [], zero := [.nilfn], el := 0, esz := 0, eby := 0, eagg := false, ik := none, eqs := false, ezero := [] }),
  (196, { kind := 1, size := 1, offs := [], zero := [.nilfn], el := 0, esz := 0, eby := 0, eagg := false, ik := none, eqs := false, ezero := [] }),
  (197, { kind := 1, size := 1, offs := [], zero := [.nilfn], el := 0, esz := 0, eby := 0, eagg := false, ik := none, eqs := false, ezero := [] }),
  (198, { kind := 1, size := 1, offs := [], zero := [.nilfn], el := 0, esz := 0, eby := 0, eagg := false, ik := none, eqs := false, ezero := [] }),
  (199, { kind := 1, size := 1, offs := [], zero := [.nilfn], el := 0, esz := 0, eby := 0, eagg := false, ik := none, eqs := false, ezero := [] }),
  (200, { kind := 1, size := 1, offs := [], zero := [.nilfn], el := 0, esz := 0, eby := 0, eagg := false, ik := none, eqs := false, ezero := [] }),
  (201, { kind := 1, size := 1, offs := [], zero := [.nilfn], el := 0, esz := 0, eby := 0, eagg := false, ik := none, eqs := false, ezero := [] }),
  (202, { kind := 1, size := 1, offs := [], zero := [.nilfn], el := 0, esz := 0, eby := 0, eagg := false, ik := none, eqs := false, ezero := [] }),
  (203, { kind := 1, size := 1, offs := [], zero := [.nilptr], el := 0, esz := 0, eby := 0, eagg := false, ik := none, eqs := false, ezero := [] }),
  (204, { kind := 2, size := 3, offs := [(0, 3, true)], zero := [.int .i64 0, .imm 0 [] 0, .imm 0 [] 0], el := 0, esz := 0, eby := 0, eagg := false, ik := none, eqs := false, ezero := [] }),
  (205, { kind := 2, size := 3, offs := [(0, 3, true)], zero := [.int .i64 0, .imm 0 [] 0, .imm 0 [] 0], el := 0, esz := 0, eby := 0, eagg := false, ik := none, eqs := false, ezero := [] }),
  (206, { kind := 1, size := 1, offs := [], zero := [.nilfn], el := 0, esz := 0, eby := 0, eagg := false, ik := none, eqs := false, ezero := [] }),
  (207, { kind := 1, size := 1, offs := [], zero := [.nilfn], el := 0, esz := 0, eby := 0, eagg := false, ik := none, eqs := false, ezero := [] }),
  (208, { kind := 1, size := 1, offs := [], zero := [.nilfn], el := 0, esz := 0, eby := 0, eagg := false, ik := none, eqs := false, ezero := [] }),
  (209, { kind := 1, size := 1, offs := [], zero := [.nilfn], el := 0, esz := 0, eby := 0, eagg := false, ik := none, eqs := false, ezero := [] }),
  (210, { kind := 1, size := 1, offs := [], zero := [.nilfn], el := 0, esz := 0, eby := 0, eagg := false, ik := none, eqs := false, ezero := [] }),
  (211, { kind := 1, size := 1, offs := [], zero := [.nilfn], el := 0, esz := 0, eby := 0, eagg := false, ik := none, eqs := false, ezero := [] }),
  (212, { kind := 1, size := 1, offs := [], zero := [.nilfn], el := 0, esz := 0, eby := 0, eagg := false, ik := none, eqs := false, ezero := [] }),
  (213, { kind := 1, size := 1, offs := [], zero := [.nilfn], el := 0, esz := 0, eby := 0, eagg := false, ik := none, eqs := false, ezero := [] }),
  (214, { kind := 1, size := 1, offs := [], zero := [.nilfn], el := 0, esz := 0, eby := 0, eagg := false, ik := none, eqs := false, ezero := [] }),
  (215, { kind := 1, size := 1, offs := [], zero := [.nilfn], el := 0, esz := 0, eby := 0, eagg := false, ik := none, eqs := false, ezero := [] }),
  (216, { kind := 1, size := 1, offs := [], zero := [.nilfn], el := 0, esz := 0, eby := 0, eagg := false, ik := none, eqs := false, ezero := [] }),
  (217, { kind := 1, size := 1, offs := [], zero := [.nilfn], el := 0, esz := 0, eby := 0, eagg := false, ik := none, eqs := false, ezero := [] }),
  (218, { kind := 1, size := 1, offs := [], zero := [.nilfn], el := 0, esz := 0, eby := 0, eagg := false, ik := none, eqs := false, ezero := [] }),
  (219, { kind := 1, size := 1, offs := [], zero := [.nilfn], el := 0, esz := 0, eby := 0, eagg := false, ik := none, eqs := false, ezero := [] }),
  (220, { kind := 1, size := 1, offs := [], zero := [.nilfn], el := 0, esz := 0, eby := 0, eagg := false, ik := none, eqs := false, ezero := [] }),
  (221, { kind := 1, size := 1, offs := [], zero := [.nilfn], el := 0, esz := 0, eby := 0, eagg := false, ik := none, eqs := false, ezero := [] }),
  (223, { kind := 1, size := 1, offs := [], zero := [.nilfn], el := 0, esz := 0, eby := 0, eagg := false, ik := none, eqs := false, ezero := [] }),
  (224, { kind := 2, size := 19, offs := [(0, 12, true), (12, 3, true), (15, 3, true), (18, 1, false)], zero := [.int .u8 0, .int .i64 0, .imm 0 [] 0, .int .i64 0, .str [], .str [], .int .i64 0, .int .i64 0, .imm 0 [] 0, .int .i64 0, .int .i64 0, .int .i64 0, .int .i64 0, .imm 0 [] 0, .imm 0 [] 0, .int .i64 0, .imm 0 [] 0, .imm 0 [] 0, .imm 0 [] 0], el := 0, esz := 0, eby := 0, eagg := false, ik := none, eqs := false, ezero := [] }),
  (225, { kind := 2, size := 19, offs := [(0, 12, true), (12, 3, true), (15, 3, true), (18, 1, false)], zero := [.int .u8 0, .int .i64 0, .imm 0 [] 0, .int .i64 0, .str [], .str [], .int .i64 0, .int .i64 0, .imm 0 [] 0, .int .i64 0, .int .i64 0, .int .i64 0, .int .i64 0, .imm 0 [] 0, .imm 0 [] 0, .int .i64 0, .imm 0 [] 0, .imm 0 [] 0, .imm 0 [] 0], el := 0, esz := 0, eby := 0, eagg := false, ik := none, eqs := false, ezero := [] }),
  (226, { kind := 1, size := 1, offs := [], zero := [.nilfn], el := 0, esz := 0, eby := 0, eagg := false, ik := none, eqs := false, ezero := [] }),
  (227, { kind := 3, size := 1, offs := [], zero := [.imm 0 [] 0], el := 231, esz := 6, eby := 80, eagg := true, ik := none, eqs := false, ezero := [.int .i64 0, .int .i64 0, .imm 0 [] 0, .int .i64 0, .str [], .str []] }),
  (229, { kind := 1, size := 1, offs := [], zero := [.nilfn], el := 0, esz := 0, eby := 0, eagg := false, ik := none, eqs := false, ezero := [] }),
  (230, { kind := 2, size := 6, offs := [(0, 1, false), (1, 5, true)], zero := [.int .i64 0, .int .i64 0, .imm 0 [] 0, .int .i64 0, .str [], .str []], el := 0, esz := 0, eby := 0, eagg := false, ik := none, eqs := false, ezero := [] }),
  (231, { kind := 2, size := 6, offs := [(0, 1, false), (1, 5, true)], zero := [.int .i64 0, .int .i64 0, .imm 0 [] 0, .int .i64 0, .str [], .str []], el := 0, esz := 0, eby := 0, eagg := false, ik := none, eqs := false, ezero := [] }),
  (232, { kind := 3, size := 1, offs := [], zero := [.imm 0 [] 0], el := 227, esz := 1, eby := 24, eagg := false, ik := none, eqs := false, ezero := [.imm 0 [] 0] }),
  (233, { kind := 3, size := 1, offs := [], zero := [.imm 0 [] 0], el := 227, esz := 1, eby := 24, eagg := false, ik := none, eqs := false, ezero := [.imm 0 [] 0] }),
  (235, { kind := 1, size := 1, offs := [], zero := [.nilfn], el := 0, esz := 0, eby := 0, eagg := false, ik := none, eqs := false, ezero := [] }),
  (236, { kind := 1, size := 1, offs := [], zero := [.nilfn], el := 0, esz := 0, eby := 0, eagg := false, ik := none, eqs := false, ezero := [] }),
  (237, { kind := 1, size := 1, offs := [], zero := [.nilfn], el := 0, esz := 0, eby := 0, eagg := false, ik := none, eqs := false, ezero := [] }),
  (238, { kind := 1, size := 1, offs := [], zero := [.nilfn], el := 0, esz := 0, eby := 0, eagg := false, ik := none, eqs := false, ezero := [] }),
  (239, { kind := 1, size := 1, offs := [], zero := [.nilfn], el := 0, esz := 0, eby := 0, eagg := false, ik := none, eqs := false, ezero := [] }),
  (240, { kind := 6, size := 1, offs := [], zero := [.int .u64 0], el := 0, esz := 0, eby := 0, eagg := false, ik := some .u64, eqs := false, ezero := [] }),
  (241, { kind := 1, size := 1, offs := [], zero := [.nilfn], el := 0, esz := 0, eby := 0, eagg := false, ik := none, eqs := false, ezero := [] }),
  (242, { kind := 1, size := 1, offs := [], zero := [.nilfn], el := 0, esz := 0, eby := 0, eagg := false, ik := none, eqs := false, ezero := [] }),
  (243, { kind := 1, size := 1, offs := [], zero := [.nilfn], el := 0, esz := 0, eby := 0, eagg := false, ik := none, eqs := false, ezero := [] }),
  (244, { kind := 1, size := 1, offs := [], zero := [.nilfn], el := 0, esz := 0, eby := 0, eagg := false, ik := none, eqs := false, ezero := [] }),
  (245, { kind := 1, size := 1, offs := [], zero := [.nilfn], el := 0, esz := 0, eby := 0, eagg := false, ik := none, eqs := false, ezero := [] }),
  (246, { kind := 1, size := 1, offs := [], zero := [.nilptr], el := 0, esz := 0, eby := 0, eagg := false, ik := none, eqs := false, ezero := [] }),
  (247, { kind := 1, size := 1, offs := [], zero := [.nilfn], el := 0, esz := 0, eby := 0, eagg := false, ik := none, eqs := false, ezero := [] }),
  (248, { kind := 1, size := 1, offs := [], zero := [.nilfn], el := 0, esz := 0, eby := 0, eagg := false, ik := none, eqs := false, ezero := [] }),
  (249, { kind := 1, size := 1, offs := [], zero := [.nilfn], el := 0, esz := 0, eby := 0, eagg := false, ik := none, eqs := false, ezero := [] }),
  (250, { kind := 1, size := 1, offs := [], zero := [.nilfn], el := 0, esz := 0, eby := 0, eagg := false, ik := none, eqs := false, ezero := [] }),
  (251, { kind := 1, size := 1, offs := [], zero := [.nilfn], el := 0, esz := 0, eby := 0, eagg := false, ik := none, eqs := false, ezero := [] }),
  (252, { kind := 1, size := 1, offs := [], zero := [.nilfn], el := 0, esz := 0, eby := 0, eagg := false, ik := none, eqs := false, ezero := [] }),
  (253, { kind := 1, size := 1, offs := [], zero := [.nilfn], el := 0, esz := 0, eby := 0, eagg := false, ik := none, eqs := false, ezero := [] }),
  (254, { kind := 1, size := 1, offs := [], zero := [.nilfn], el := 0, esz := 0, eby := 0, eagg := false, ik := none, eqs := false, ezero := [] }),
  (255, { kind := 1, size := 1, offs := [], zero := [.nilptr], el := 0, esz := 0, eby := 0, eagg := false, ik := none, eqs := false, ezero := [] }),
  (256, { kind := 2, size := 2, offs := [(0, 1, false), (1, 1, false)], zero := [.imm 0 [] 0, .bool false], el := 0, esz := 0, eby := 0, eagg := false, ik := none, eqs := false, ezero := [] }),
  (257, { kind := 2, size := 2, offs := [(0, 1, false), (1, 1, false)], zero := [.imm 0 [] 0, .bool false], el := 0, esz := 0, eby := 0, eagg := false, ik := none, eqs := false, ezero := [] }),
  (258, { kind := 1, size := 1, offs := [], zero := [.nilfn], el := 0, esz := 0, eby := 0, eagg := false, ik := none, eqs := false, ezero := [] }),
  (259, { kind := 1, size := 1, offs := [], zero := [.nilfn], el := 0, esz := 0, eby := 0, eagg := false, ik := none, eqs := false, ezero := [] }),
  (260, { kind := 1, size := 1, offs := [], zero := [.nilfn], el := 0, esz := 0, eby := 0, eagg := false, ik := none, eqs := false, ezero := [] }),
  (262, { kind := 1, size := 1, offs := [], zero := [.nilfn], el := 0, esz := 0, eby := 0, eagg := false, ik := none, eqs := false, ezero := [] }),
  (263, { kind := 1, size := 1, offs := [], zero := [.nilfn], el := 0, esz := 0, eby := 0, eagg := false, ik := none, eqs := false, ezero := [] }),
  (264, { kind := 1, size := 1, offs := [], zero := [.nilfn], el := 0, esz := 0, eby := 0, eagg := false, ik := none, eqs := false, ezero := [] }),
  (265, { kind := 1, size := 1, offs := [], zero := [.nilfn], el := 0, esz := 0, eby := 0, eagg := false, ik := none, eqs := false, ezero := [] }),
  (266, { kind := 1, size := 1, offs := [], zero := [.nilfn], el := 0, esz := 0, eby := 0, eagg := false, ik := none, eqs := false, ezero := [] }),
  (267, { kind := 1, size := 1, offs := [], zero := [.nilfn], el := 0, esz := 0, eby := 0, eagg := false, ik := none, eqs := false, ezero := [] }),
  (269, { kind := 1, size := 1, offs := [], zero := [.nilfn], el := 0, esz := 0, eby := 0, eagg := false, ik := none, eqs := false, ezero := [] }),
  (270, { kind := 1, size := 1, offs := [], zero := [.nilfn], el := 0, esz := 0, eby := 0, eagg := false, ik := none, eqs := false, ezero := [] }),
  (271, { kind := 1, size := 1, offs := [], zero := [.nilfn], el := 0, esz := 0, eby := 0, eagg := false, ik := none, eqs := false, ezero := [] }),
  (272, { kind := 1, size := 1, offs := [], zero := [.nilfn], el := 0, esz := 0, eby := 0, eagg := false, ik := none, eqs := false, ezero := [] }),
  (273, { kind := 1, size := 1, offs := [], zero := [.nilfn], el := 0, esz := 0, eby := 0, eagg := false, ik := none, eqs := false, ezero := [] }),
  (274, { kind := 1, size := 1, offs := [], zero := [.nilfn], el := 0, esz := 0, eby := 0, eagg := false, ik := none, eqs := false, ezero := [] }),
  (275, { kind := 1, size := 1, offs := [], zero := [.nilfn], el := 0, esz := 0, eby := 0, eagg := false, ik := none, eqs := false, ezero := [] }),
  (276, { kind := 1, size := 1, offs := [], zero := [.nilfn], el := 0, esz := 0, eby := 0, eagg := false, ik := none, eqs := false, ezero := [] }),
  (277, { kind := 1, size := 1, offs := [], zero := [.nilfn], el := 0, esz := 0, eby := 0, eagg := false, ik := none, eqs := false, ezero := [] }),
  (278, { kind := 1, size := 1, offs := [], zero := [.nilfn], el := 0, esz := 0, eby := 0, eagg := false, ik := none, eqs := false, ezero := [] }),
  (280, { kind := 1, size := 1, offs := [], zero := [.nilfn], el := 0, esz := 0, eby := 0, eagg := false, ik := none, eqs := false, ezero := [] }),
  (281, { kind := 1, size := 1, offs := [], zero := [.nilfn], el := 0, esz := 0, eby := 0, eagg := false, ik := none, eqs := false, ezero := [] }),
  (282, { kind := 1, size := 1, offs := [], zero := [.nilfn], el := 0, esz := 0, eby := 0, eagg := false, ik := none, eqs := false, ezero := [] }),
  (283, { kind := 9, size := 1, offs := [], zero := [.nilmap], el := 3, esz := 5, eby := 0, eagg := true, ik := none, eqs := false, ezero := [.int .i64 0, .imm 0 [] 0, .int .i64 0, .str [], .str []] }),
  (284, { kind := 1, size := 1, offs := [], zero := [.nilfn], el := 0, esz := 0, eby := 0, eagg := false, ik := none, eqs := false, ezero := [] }),
  (286, { kind := 1, size := 1, offs := [], zero := [.nilfn], el := 0, esz := 0, eby := 0, eagg := false, ik := none, eqs := false, ezero := [] }),
  (288, { kind := 1, size := 1, offs := [], zero := [.nilfn], el := 0, esz := 0, eby := 0, eagg := false, ik := none, eqs := false, ezero := [] }),
  (289, { kind := 1, size := 1, offs := [], zero := [.nilfn], el := 0, esz := 0, eby := 0, eagg := false, ik := none, eqs := false, ezero := [] }),
  (290, { kind := 1, size := 1, offs := [], zero := [.nilfn], el := 0, esz := 0, eby := 0, eagg := false, ik := none, eqs := false, ezero := [] }),
  (291, { kind := 1, size := 1, offs := [], zero := [.nilfn], el := 0, esz := 0, eby := 0, eagg := false, ik := none, eqs := false, ezero := [] }),
  (292, { kind := 1, size := 1, offs := [], zero := [.nilfn], el := 0, esz := 0, eby := 0, eagg := false, ik := none, eqs := false, ezero := [] }),
  (294, { kind := 1, size := 1, offs := [], zero := [.nilfn], el := 0, esz := 0, eby := 0, eagg := false, ik := none, eqs := false, ezero := [] }),
  (296, { kind := 1, size := 1, offs := [], zero := [.nilfn], el := 0, esz := 0, eby := 0, eagg := false, ik := none, eqs := false, ezero := [] }),
  (297, { kind := 1, size := 1, offs := [], zero := [.nilfn], el := 0, esz := 0, eby := 0, eagg := false, ik := none, eqs := false, ezero := [] }),
  (298, { kind := 1, size := 1, offs := [], zero := [.nilfn], el := 0, esz := 0, eby := 0, eagg := false, ik := none, eqs := false, ezero := [] }),
  (299, { kind := 1, size := 1, offs := [], zero := [.nilfn], el := 0, esz := 0, eby := 0, eagg := false, ik := none, eqs := false, ezero := [] }),
  (300, { kind := 1, size := 1, offs := [], zero := [.nilfn], el := 0, esz := 0, eby := 0, eagg := false, ik := none, eqs := false, ezero := [] }),
  (302, { kind := 1, size := 1, offs := [], zero := [.nilfn], el := 0, esz := 0, eby := 0, eagg := false, ik := none, eqs := false, ezero := [] }),
  (303, { kind := 1, size := 1, offs := [], zero := [.nilfn], el := 0, esz := 0, eby := 0, eagg := false, ik := none, eqs := false, ezero := [] }),
  (304, { kind := 1, size := 1, offs := [], zero := [.nilfn], el := 0, esz := 0, eby := 0, eagg := false, ik := none, eqs := false, ezero := [] }),
  (305, { kind := 1, size := 1, offs := [], zero := [.nilfn], el := 0, esz := 0, eby := 0, eagg := false, ik := none, eqs := false, ezero := [] }),
  (306, { kind := 1, size := 1, offs := [], zero := [.nilfn], el := 0, esz := 0, eby := 0, eagg := false, ik := none, eqs := false, ezero := [] }),
  (307, { kind := 1, size := 1, offs := [], zero := [.nilfn], el := 0, esz := 0, eby := 0, eagg := false, ik := none, eqs := false, ezero := [] }),
  (308, { kind := 1, size := 1, offs := [], zero := [.nilfn], el := 0, esz := 0, eby := 0, eagg := false, ik := none, eqs := false, ezero := [] }),
  (309, { kind := 1, size := 1, offs := [], zero := [.nilfn], el := 0, esz := 0, eby := 0, eagg := false, ik := none, eqs := false, ezero := [] }),
  (310, { kind := 6, size := 1, offs := [], zero := [.int .u32 0], el := 0, esz := 0, eby := 0, eagg := false, ik := some .u32, eqs := false, ezero := [] }),
  (311, { kind := 1, size := 1, offs := [], zero := [.nilfn], el := 0, esz := 0, eby := 0, eagg := false, ik := none, eqs := false, ezero := [] }),
  (312, { kind := 6, size := 1, offs := [], zero := [.int .u64 0], el := 0, esz := 0, eby := 0, eagg := false, ik := some .u64, eqs := false, ezero := [] }),
  (313, { kind := 1, size := 1, offs := [], zero := [.nilfn], el := 0, esz := 0, eby := 0, eagg := false, ik := none, eqs := false, ezero := [] }),
  (314, { kind := 1, size := 1, offs := [], zero := [.nilptr], el := 0, esz := 0, eby := 0, eagg := false, ik := none, eqs := false, ezero := [] }),
  (315, { kind := 2, size := 2, offs := [(0, 1, false), (1, 1, false)], zero := [.imm 0 [] 0, .bool false], el := 0, esz := 0, eby := 0, eagg := false, ik := none, eqs := false, ezero := [] }),
  (316, { kind := 2, size := 2, offs := [(0, 1, false), (1, 1, false)], zero := [.imm 0 [] 0, .bool false], el := 0, esz := 0, eby := 0, eagg := false, ik := none, eqs := false, ezero := [] }),
  (317, { kind := 1, size := 1, offs := [], zero := [.nilfn], el := 0, esz := 0, eby := 0, eagg := false, ik := none, eqs := false, ezero := [] }),
  (318, { kind := 1, size := 1, offs := [], zero := [.nilfn], el := 0, esz := 0, eby := 0, eagg := false, ik := none, eqs := false, ezero := [] }),
  (319, { kind := 1, size := 1, offs := [], zero := [.nilfn], el := 0, esz := 0, eby := 0, eagg := false, ik := none, eqs := false, ezero := [] }),
  (320, { kind := 1, size := 1, offs := [], zero := [.nilfn], el := 0, esz := 0, eby := 0, eagg := false, ik := none, eqs := false, ezero := [] }),
  (321, { kind := 1, size := 1, offs := [], zero := [.nilfn], el := 0, esz := 0, eby := 0, eagg := false, ik := none, eqs := false, ezero := [] }),
  (322, { kind := 1, size := 1, offs := [], zero := [.nilfn], el := 0, esz := 0, eby := 0, eagg := false, ik := none, eqs := false, ezero := [] }),
  (324, { kind := 1, size := 1, offs := [], zero := [.nilfn], el := 0, esz := 0, eby := 0, eagg := false, ik := none, eqs := false, ezero := [] }),
  (325, { kind := 2, size := 4, offs := [(0, 1, false), (1, 1, false), (2, 1, false), (3, 1, false)], zero := [.nilptr, .nilptr, .nilptr, .str []], el := 0, esz := 0, eby := 0, eagg := false, ik := none, eqs := false, ezero := [] }),
  (326, { kind := 2, size := 4, offs := [(0, 1, false), (1, 1, false), (2, 1, false), (3, 1, false)], zero := [.nilptr, .nilptr, .nilptr, .str []], el := 0, esz := 0, eby := 0, eagg := false, ik := none, eqs := false, ezero := [] }),
  (327, { kind := 4, size := 0, offs := [], zero := [], el := 0, esz := 0, eby := 0, eagg := false, ik := none, eqs := false, ezero := [] }),
  (330, { kind := 6, size := 1, offs := [], zero := [.int .u8 0], el := 0, esz := 0, eby := 0, eagg := false, ik := some .u8, eqs := false, ezero := [] }),
  (331, { kind := 6, size := 1, offs := [], zero := [.int .u8 0], el := 0, esz := 0, eby := 0, eagg := false, ik := some .u8, eqs := false, ezero := [] }),
  (332, { kind := 1, size := 1, offs := [], zero := [.nilfn], el := 0, esz := 0, eby := 0, eagg := false, ik := none, eqs := false, ezero := [] }),
  (333, { kind := 1, size := 1, offs := [], zero := [.nilptr], el := 0, esz := 0, eby := 0, eagg := false, ik := none, eqs := false, ezero := [] }),
  (334, { kind := 6, size := 1, offs := [], zero := [.int .i32 0], el := 0, esz := 0, eby := 0, eagg := false, ik := some .i32, eqs := false, ezero := [] }),
  (335, { kind := 6, size := 1, offs := [], zero := [.int .i32 0], el := 0, esz := 0, eby := 0, eagg := false, ik := some .i32, eqs := false, ezero := [] }),
  (336, { kind := 2, size := 11, offs := [(0, 1, false), (1, 1, false), (2, 1, false), (3, 1, false), (4, 1, false), (5, 1, false), (6, 1, false), (7, 1, false), (8, 1, false), (9, 1, false), (10, 1, false)], zero := [.int .u64 0, .int .u64 0, .int .u32 0, .int .u8 0, .int .u8 0, .int .u8 0, .int .u8 0, .nilfn, .nilptr, .int .i32 0, .int .i32 0], el := 0, esz := 0, eby := 0, eagg := false, ik := none, eqs := false, ezero := [] }),
  (337, { kind := 2, size := 11, offs := [(0, 1, false), (1, 1, false), (2, 1, false), (3, 1, false), (4, 1, false), (5, 1, false), (6, 1, false), (7, 1, false), (8, 1, false), (9, 1, false), (10, 1, false)], zero := [.int .u64 0, .int .u64 0, .int .u32 0, .int .u8 0, .int .u8 0, .int .u8 0, .int .u8 0, .nilfn, .nilptr, .int .i32 0, .int .i32 0], el := 0, esz := 0, eby := 0, eagg := false, ik := none, eqs := false, ezero := [] })]
def Try.tm (t : Nat) : TI := match getL Try.tmL t with | some x => x | none => default
theorem Try.tmAll : (Try.tmL.all fun x => tiChk Try.prog x.1 x.2 && (!x.2.eqs || eqsChk Try.prog x.1 x.2)) = true := by kernel_rfl
theorem Try.tmOk : TabOk Try.prog Try.tm := tabOk_of Try.tmAll
theorem Try.tmMixed : Try.prog.follows .mixedOrders = true := by kernel_rfl
end Go.Proofs
end
section
namespace Go.Proofs
open Go.Tm
theorem Try.tm_1 : Try.tm 1 = { kind := 1, size := 1, offs := [], zero := [.nilfn], el := 0, esz := 0, eby := 0, eagg := false, ik := none, eqs := false, ezero := [] } := by kernel_rfl
theorem Try.tm_2 : Try.tm 2 = { kind := 6, size := 1, offs := [], zero := [.int .i64 0], el := 0, esz := 0, eby := 0, eagg := false, ik := some .i64, eqs := false, ezero := [] } := by kernel_rfl
theorem Try.tm_3 : Try.tm 3 = { kind := 6, size := 1, offs := [], zero := [.int .i64 0], el := 0, esz := 0, eby := 0, eagg := false, ik := some .i64, eqs := false, ezero := [] } := by kernel_rfl
theorem Try.tm_4 : Try.tm 4 = { kind := 8, size := 1, offs := [], zero := [.bool false], el := 0, esz := 0, eby := 0, eagg := false, ik := none, eqs := false, ezero := [] } := by kernel_rfl
theorem Try.tm_5 : Try.tm 5 = { kind := 6, size := 1, offs := [], zero := [.int .u8 0], el := 0, esz := 0, eby := 0, eagg := false, ik := some .u8, eqs := false, ezero := [] } := by kernel_rfl
theorem Try.tm_6 : Try.tm 6 = { kind := 6, size := 1, offs := [], zero := [.int .u8 0], el := 0, esz := 0, eby := 0, eagg := false, ik := some .u8, eqs := false, ezero := [] } := by kernel_rfl
theorem Try.tm_7 : Try.tm 7 = { kind := 2, size := 4, offs := [(0, 1, false), (1, 1, false), (2, 1, false), (3, 1, false)], zero := [.int .i64 0, .int .i64 0, .bool false, .int .u8 0], el := 0, esz := 0, eby := 0, eagg := false, ik := none, eqs := false, ezero := [] } := by kernel_rfl
theorem Try.tm_8 : Try.tm 8 = { kind := 2, size := 4, offs := [(0, 1, false), (1, 1, false), (2, 1, false), (3, 1, false)], zero := [.int .i64 0, .int .i64 0, .bool false, .int .u8 0], el := 0, esz := 0, eby := 0, eagg := false, ik := none, eqs := false, ezero := [] } := by kernel_rfl
theorem Try.tm_9 : Try.tm 9 = { kind := 5, size := 1, offs := [], zero := [.str []], el := 0, esz := 0, eby := 0, eagg := false, ik := none, eqs := false, ezero := [] } := by kernel_rfl
theorem Try.tm_10 : Try.tm 10 = { kind := 5, size := 1, offs := [], zero := [.str []], el := 0, esz := 0, eby := 0, eagg := false, ik := none, eqs := false, ezero := [] } := by kernel_rfl
theorem Try.tm_11 : Try.tm 11 = { kind := 5, size := 1, offs := [], zero := [.str []], el := 0, esz := 0, eby := 0, eagg := false, ik := none, eqs := false, ezero := [] } := by kernel_rfl
theorem Try.tm_12 : Try.tm 12 = { kind := 6, size := 1, offs := [], zero := [.int .u64 0], el := 0, esz := 0, eby := 0, eagg := false, ik := some .u64, eqs := false, ezero := [] } := by kernel_rfl
theorem Try.tm_13 : Try.tm 13 = { kind := 2, size := 2, offs := [(0, 1, false), (1, 1, false)], zero := [.str [], .int .u64 0], el := 0, esz := 0, eby := 0, eagg := false, ik := none, eqs := false, ezero := [] } := by kernel_rfl
theorem Try.tm_14 : Try.tm 14 = { kind := 2, size := 2, offs := [(0, 1, false), (1, 1, false)], zero := [.str [], .int .u64 0], el := 0, esz := 0, eby := 0, eagg := false, ik := none, eqs := false, ezero := [] } := by kernel_rfl
theorem Try.tm_15 : Try.tm 15 = { kind := 1, size := 1, offs := [], zero := [.nilptr], el := 0, esz := 0, eby := 0, eagg := false, ik := none, eqs := false, ezero := [] } := by kernel_rfl
theorem Try.tm_16 : Try.tm 16 = { kind := 1, size := 1, offs := [], zero := [.nilptr], el := 0, esz := 0, eby := 0, eagg := false, ik := none, eqs := false, ezero := [] } := by kernel_rfl
theorem Try.tm_17 : Try.tm 17 = { kind := 1, size := 1, offs := [], zero := [.nilptr], el := 0, esz := 0, eby := 0, eagg := false, ik := none, eqs := false, ezero := [] } := by kernel_rfl
theorem Try.tm_18 : Try.tm 18 = { kind := 2, size := 1, offs := [(0, 1, false)], zero := [.nilptr], el := 0, esz := 0, eby := 0, eagg := false, ik := none, eqs := false, ezero := [] } := by kernel_rfl
theorem Try.tm_19 : Try.tm 19 = { kind := 2, size := 1, offs := [(0, 1, false)], zero := [.nilptr], el := 0, esz := 0, eby := 0, eagg := false, ik := none, eqs := false, ezero := [] } := by kernel_rfl
theorem Try.tm_20 : Try.tm 20 = { kind := 7, size := 1, offs := [], zero := [.nilIface], el := 0, esz := 0, eby := 0, eagg := false, ik := none, eqs := false, ezero := [] } := by kernel_rfl
theorem Try.tm_21 : Try.tm 21 = { kind := 6, size := 1, offs := [], zero := [.int .i32 0], el := 0, esz := 0, eby := 0, eagg := false, ik := some .i32, eqs := false, ezero := [] } := by kernel_rfl
theorem Try.tm_22 : Try.tm 22 = { kind := 3, size := 1, offs := [], zero := [.imm 0 [] 0], el := 3, esz := 1, eby := 8, eagg := false, ik := none, eqs := false, ezero := [.int .i64 0] } := by kernel_rfl
theorem Try.tm_23 : Try.tm 23 = { kind := 3, size := 1, offs := [], zero := [.imm 0 [] 0], el := 27, esz := 3, eby := 32, eagg := true, ik := none, eqs := false, ezero := [.int .i64 0, .int .i64 0, .str []] } := by kernel_rfl
theorem Try.tm_24 : Try.tm 24 = { kind := 2, size := 7, offs := [(0, 1, false), (1, 1, false), (2, 1, false), (3, 1, false), (4, 1, false), (5, 1, false), (6, 1, false)], zero := [.int .u8 0, .int .i64 0, .imm 0 [] 0, .str [], .str [], .imm 0 [] 0, .imm 0 [] 0], el := 0, esz := 0, eby := 0, eagg := false, ik := none, eqs := false, ezero := [] } := by kernel_rfl
theorem Try.tm_25 : Try.tm 25 = { kind := 2, size := 7, offs := [(0, 1, false), (1, 1, false), (2, 1, false), (3, 1, false), (4, 1, false), (5, 1, false), (6, 1, false)], zero := [.int .u8 0, .int .i64 0, .imm 0 [] 0, .str [], .str [], .imm 0 [] 0, .imm 0 [] 0], el := 0, esz := 0, eby := 0, eagg := false, ik := none, eqs := false, ezero := [] } := by kernel_rfl
theorem Try.tm_26 : Try.tm 26 = { kind := 2, size := 3, offs := [(0, 1, false), (1, 1, false), (2, 1, false)], zero := [.int .i64 0, .int .i64 0, .str []], el := 0, esz := 0, eby := 0, eagg := false, ik := none, eqs := false, ezero := [] } := by kernel_rfl
theorem Try.tm_27 : Try.tm 27 = { kind := 2, size := 3, offs := [(0, 1, false), (1, 1, false), (2, 1, false)], zero := [.int .i64 0, .int .i64 0, .str []], el := 0, esz := 0, eby := 0, eagg := false, ik := none, eqs := true, ezero := [] } := by kernel_rfl
theorem Try.tm_28 : Try.tm 28 = { kind := 1, size := 1, offs := [], zero := [.nilfn], el := 0, esz := 0, eby := 0, eagg := false, ik := none, eqs := false, ezero := [] } := by kernel_rfl
theorem Try.tm_29 : Try.tm 29 = { kind := 1, size := 1, offs := [], zero := [.nilfn], el := 0, esz := 0, eby := 0, eagg := false, ik := none, eqs := false, ezero := [] } := by kernel_rfl
theorem Try.tm_30 : Try.tm 30 = { kind := 6, size := 1, offs := [], zero := [.int .i64 0], el := 0, esz := 0, eby := 0, eagg := false, ik := some .i64, eqs := false, ezero := [] } := by kernel_rfl
theorem Try.tm_32 : Try.tm 32 = { kind := 1, size := 1, offs := [], zero := [.nilfn], el := 0, esz := 0, eby := 0, eagg := false, ik := none, eqs := false, ezero := [] } := by kernel_rfl
theorem Try.tm_34 : Try.tm 34 = { kind := 1, size := 1, offs := [], zero := [.nilfn], el := 0, esz := 0, eby := 0, eagg := false, ik := none, eqs := false, ezero := [] } := by kernel_rfl
theorem Try.tm_35 : Try.tm 35 = { kind := 1, size := 1, offs := [], zero := [.nilfn], el := 0, esz := 0, eby := 0, eagg := false, ik := none, eqs := false, ezero := [] } := by kernel_rfl
theorem Try.tm_36 : Try.tm 36 = { kind := 1, size := 1, offs := [], zero := [.nilfn], el := 0, esz := 0, eby := 0, eagg := false, ik := none, eqs := false, ezero := [] } := by kernel_rfl
theorem Try.tm_37 : Try.tm 37 = { kind := 1, size := 1, offs := [], zero := [.nilfn], el := 0, esz := 0, eby := 0, eagg := false, ik := none, eqs := false, ezero := [] } := by kernel_rfl
theorem Try.tm_38 : Try.tm 38 = { kind := 1, size := 1, offs := [], zero := [.nilfn], el := 0, esz := 0, eby := 0, eagg := false, ik := none, eqs := false, ezero := [] } := by kernel_rfl
theorem Try.tm_39 : Try.tm 39 = { kind := 1, size := 1, offs := [], zero := [.nilfn], el := 0, esz := 0, eby := 0, eagg := false, ik := none, eqs := false, ezero := [] } := by kernel_rfl
theorem Try.tm_40 : Try.tm 40 = { kind := 1, size := 1, offs := [], zero := [.nilfn], el := 0, esz := 0, eby := 0, eagg := false, ik := none, eqs := false, ezero := [] } := by kernel_rfl
theorem Try.tm_41 : Try.tm 41 = { kind := 3, size := 1, offs := [], zero := [.imm 0 [] 0], el := 52, esz := 1, eby := 24, eagg := false, ik := none, eqs := false, ezero := [.imm 0 [] 0] } := by kernel_rfl
theorem Try.tm_42 : Try.tm 42 = { kind := 3, size := 1, offs := [], zero := [.imm 0 [] 0], el := 153, esz := 5, eby := 48, eagg := true, ik := none, eqs := false, ezero := [.int .i64 0, .int .i64 0, .int .i64 0, .int .i64 0, .str []] } := by kernel_rfl
theorem Try.tm_43 : Try.tm 43 = { kind := 2, size := 2, offs := [(0, 1, false), (1, 1, false)], zero := [.imm 0 [] 0, .imm 0 [] 0], el := 0, esz := 0, eby := 0, eagg := false, ik := none, eqs := false, ezero := [] } := by kernel_rfl
theorem Try.tm_44 : Try.tm 44 = { kind := 2, size := 2, offs := [(0, 1, false), (1, 1, false)], zero := [.imm 0 [] 0, .imm 0 [] 0], el := 0, esz := 0, eby := 0, eagg := false, ik := none, eqs := false, ezero := [] } := by kernel_rfl
theorem Try.tm_45 : Try.tm 45 = { kind := 2, size := 5, offs := [(0, 1, false), (1, 1, false), (2, 1, false), (3, 1, false), (4, 1, false)], zero := [.int .u8 0, .int .i64 0, .int .i64 0, .int .i64 0, .str []], el := 0, esz := 0, eby := 0, eagg := false, ik := none, eqs := false, ezero := [] } := by kernel_rfl
theorem Try.tm_46 : Try.tm 46 = { kind := 2, size := 5, offs := [(0, 1, false), (1, 1, false), (2, 1, false), (3, 1, false), (4, 1, false)], zero := [.int .u8 0, .int .i64 0, .int .i64 0, .int .i64 0, .str []], el := 0, esz := 0, eby := 0, eagg := false, ik := none, eqs := true, ezero := [] } := by kernel_rfl
theorem Try.tm_47 : Try.tm 47 = { kind := 1, size := 1, offs := [], zero := [.nilfn], el := 0, esz := 0, eby := 0, eagg := false, ik := none, eqs := false, ezero := [] } := by kernel_rfl
theorem Try.tm_48 : Try.tm 48 = { kind := 1, size := 1, offs := [], zero := [.nilfn], el := 0, esz := 0, eby := 0, eagg := false, ik := none, eqs := false, ezero := [] } := by kernel_rfl
theorem Try.tm_50 : Try.tm 50 = { kind := 1, size := 1, offs := [], zero := [.nilfn], el := 0, esz := 0, eby := 0, eagg := false, ik := none, eqs := false, ezero := [] } := by kernel_rfl
theorem Try.tm_51 : Try.tm 51 = { kind := 1, size := 1, offs := [], zero := [.nilfn], el := 0, esz := 0, eby := 0, eagg := false, ik := none, eqs := false, ezero := [] } := by kernel_rfl
theorem Try.tm_52 : Try.tm 52 = { kind := 3, size := 1, offs := [], zero := [.imm 0 [] 0], el := 9, esz := 1, eby := 16, eagg := false, ik := none, eqs := false, ezero := [.str []] } := by kernel_rfl
theorem Try.tm_53 : Try.tm 53 = { kind := 1, size := 1, offs := [], zero := [.nilfn], el := 0, esz := 0, eby := 0, eagg := false, ik := none, eqs := false, ezero := [] } := by kernel_rfl
theorem Try.tm_54 : Try.tm 54 = { kind := 2, size := 3, offs := [(0, 1, false), (1, 1, false), (2, 1, false)], zero := [.int .i64 0, .int .i64 0, .str []], el := 0, esz := 0, eby := 0, eagg := false, ik := none, eqs := false, ezero := [] } := by kernel_rfl
theorem Try.tm_55 : Try.tm 55 = { kind := 2, size := 3, offs := [(0, 1, false), (1, 1, false), (2, 1, false)], zero := [.int .i64 0, .int .i64 0, .str []], el := 0, esz := 0, eby := 0, eagg := false, ik := none, eqs := true, ezero := [] } := by kernel_rfl
theorem Try.tm_57 : Try.tm 57 = { kind := 1, size := 1, offs := [], zero := [.nilfn], el := 0, esz := 0, eby := 0, eagg := false, ik := none, eqs := false, ezero := [] } := by kernel_rfl
theorem Try.tm_58 : Try.tm 58 = { kind := 1, size := 1, offs := [], zero := [.nilfn], el := 0, esz := 0, eby := 0, eagg := false, ik := none, eqs := false, ezero := [] } := by kernel_rfl
theorem Try.tm_59 : Try.tm 59 = { kind := 1, size := 1, offs := [], zero := [.nilfn], el := 0, esz := 0, eby := 0, eagg := false, ik := none, eqs := false, ezero := [] } := by kernel_rfl
theorem Try.tm_61 : Try.tm 61 = { kind := 1, size := 1, offs := [], zero := [.nilfn], el := 0, esz := 0, eby := 0, eagg := false, ik := none, eqs := false, ezero := [] } := by kernel_rfl
theorem Try.tm_63 : Try.tm 63 = { kind := 1, size := 1, offs := [], zero := [.nilfn], el := 0, esz := 0, eby := 0, eagg := false, ik := none, eqs := false, ezero := [] } := by kernel_rfl
theorem Try.tm_64 : Try.tm 64 = { kind := 1, size := 1, offs := [], zero := [.nilfn], el := 0, esz := 0, eby := 0, eagg := false, ik := none, eqs := false, ezero := [] } := by kernel_rfl
theorem Try.tm_65 : Try.tm 65 = { kind := 1, size := 1, offs := [], zero := [.nilfn], el := 0, esz := 0, eby := 0, eagg := false, ik := none, eqs := false, ezero := [] } := by kernel_rfl
theorem Try.tm_66 : Try.tm 66 = { kind := 1, size := 1, offs := [], zero := [.nilfn], el := 0, esz := 0, eby := 0, eagg := false, ik := none, eqs := false, ezero := [] } := by kernel_rfl
theorem Try.tm_67 : Try.tm 67 = { kind := 1, size := 1, offs := [], zero := [.nilfn], el := 0, esz := 0, eby := 0, eagg := false, ik := none, eqs := false, ezero := [] } := by kernel_rfl
theorem Try.tm_68 : Try.tm 68 = { kind := 1, size := 1, offs := [], zero := [.nilfn], el := 0, esz := 0, eby := 0, eagg := false, ik := none, eqs := false, ezero := [] } := by kernel_rfl
theorem Try.tm_69 : Try.tm 69 = { kind := 1, size := 1, offs := [], zero := [.nilfn], el := 0, esz := 0, eby := 0, eagg := false, ik := none, eqs := false, ezero := [] } := by kernel_rfl
theorem Try.tm_70 : Try.tm 70 = { kind := 1, size := 1, offs := [], zero := [.nilfn], el := 0, esz := 0, eby := 0, eagg := false, ik := none, eqs := false, ezero := [] } := by kernel_rfl
theorem Try.tm_71 : Try.tm 71 = { kind := 1, size := 1, offs := [], zero := [.nilfn], el := 0, esz := 0, eby := 0, eagg := false, ik := none, eqs := false, ezero := [] } := by kernel_rfl
theorem Try.tm_73 : Try.tm 73 = { kind := 1, size := 1, offs := [], zero := [.nilfn], el := 0, esz := 0, eby := 0, eagg := false, ik := none, eqs := false, ezero := [] } := by kernel_rfl
theorem Try.tm_75 : Try.tm 75 = { kind := 1, size := 1, offs := [], zero := [.nilfn], el := 0, esz := 0, eby := 0, eagg := false, ik := none, eqs := false, ezero := [] } := by kernel_rfl
theorem Try.tm_76 : Try.tm 76 = { kind := 1, size := 1, offs := [], zero := [.nilfn], el := 0, esz := 0, eby := 0, eagg := false, ik := none, eqs := false, ezero := [] } := by kernel_rfl
theorem Try.tm_78 : Try.tm 78 = { kind := 1, size := 1, offs := [], zero := [.nilfn], el := 0, esz := 0, eby := 0, eagg := false, ik := none, eqs := false, ezero := [] } := by kernel_rfl
theorem Try.tm_79 : Try.tm 79 = { kind := 1, size := 1, offs := [], zero := [.nilfn], el := 0, esz := 0, eby := 0, eagg := false, ik := none, eqs := false, ezero := [] } := by kernel_rfl
theorem Try.tm_80 : Try.tm 80 = { kind := 3, size := 1, offs := [], zero := [.imm 0 [] 0], el := 90, esz := 7, eby := 88, eagg := true, ik := none, eqs := false, ezero := [.int .i64 0, .imm 0 [] 0, .int .i64 0, .str [], .str [], .int .i64 0, .bool false] } := by kernel_rfl
theorem Try.tm_81 : Try.tm 81 = { kind := 3, size := 1, offs := [], zero := [.imm 0 [] 0], el := 103, esz := 2, eby := 16, eagg := true, ik := none, eqs := false, ezero := [.int .i64 0, .int .i64 0] } := by kernel_rfl
theorem Try.tm_82 : Try.tm 82 = { kind := 2, size := 3, offs := [(0, 1, false), (1, 1, false), (2, 1, false)], zero := [.int .i64 0, .imm 0 [] 0, .imm 0 [] 0], el := 0, esz := 0, eby := 0, eagg := false, ik := none, eqs := false, ezero := [] } := by kernel_rfl
theorem Try.tm_83 : Try.tm 83 = { kind := 2, size := 3, offs := [(0, 1, false), (1, 1, false), (2, 1, false)], zero := [.int .i64 0, .imm 0 [] 0, .imm 0 [] 0], el := 0, esz := 0, eby := 0, eagg := false, ik := none, eqs := false, ezero := [] } := by kernel_rfl
theorem Try.tm_84 : Try.tm 84 = { kind := 1, size := 1, offs := [], zero := [.nilfn], el := 0, esz := 0, eby := 0, eagg := false, ik := none, eqs := false, ezero := [] } := by kernel_rfl
theorem Try.tm_85 : Try.tm 85 = { kind := 1, size := 1, offs := [], zero := [.nilfn], el := 0, esz := 0, eby := 0, eagg := false, ik := none, eqs := false, ezero := [] } := by kernel_rfl
theorem Try.tm_86 : Try.tm 86 = { kind := 1, size := 1, offs := [], zero := [.nilfn], el := 0, esz := 0, eby := 0, eagg := false, ik := none, eqs := false, ezero := [] } := by kernel_rfl
theorem Try.tm_87 : Try.tm 87 = { kind := 2, size := 5, offs := [(0, 1, false), (1, 1, false), (2, 1, false), (3, 1, false), (4, 1, false)], zero := [.int .i64 0, .imm 0 [] 0, .int .i64 0, .str [], .str []], el := 0, esz := 0, eby := 0, eagg := false, ik := none, eqs := false, ezero := [] } := by kernel_rfl
theorem Try.tm_88 : Try.tm 88 = { kind := 2, size := 5, offs := [(0, 1, false), (1, 1, false), (2, 1, false), (3, 1, false), (4, 1, false)], zero := [.int .i64 0, .imm 0 [] 0, .int .i64 0, .str [], .str []], el := 0, esz := 0, eby := 0, eagg := false, ik := none, eqs := false, ezero := [] } := by kernel_rfl
theorem Try.tm_89 : Try.tm 89 = { kind := 2, size := 7, offs := [(0, 5, true), (5, 1, false), (6, 1, false)], zero := [.int .i64 0, .imm 0 [] 0, .int .i64 0, .str [], .str [], .int .i64 0, .bool false], el := 0, esz := 0, eby := 0, eagg := false, ik := none, eqs := false, ezero := [] } := by kernel_rfl
theorem Try.tm_90 : Try.tm 90 = { kind := 2, size := 7, offs := [(0, 5, true), (5, 1, false), (6, 1, false)], zero := [.int .i64 0, .imm 0 [] 0, .int .i64 0, .str [], .str [], .int .i64 0, .bool false], el := 0, esz := 0, eby := 0, eagg := false, ik := none, eqs := false, ezero := [] } := by kernel_rfl
theorem Try.tm_91 : Try.tm 91 = { kind := 3, size := 1, offs := [], zero := [.imm 0 [] 0], el := 88, esz := 5, eby := 72, eagg := true, ik := none, eqs := false, ezero := [.int .i64 0, .imm 0 [] 0, .int .i64 0, .str [], .str []] } := by kernel_rfl
theorem Try.tm_93 : Try.tm 93 = { kind := 1, size := 1, offs := [], zero := [.nilfn], el := 0, esz := 0, eby := 0, eagg := false, ik := none, eqs := false, ezero := [] } := by kernel_rfl
theorem Try.tm_94 : Try.tm 94 = { kind := 2, size := 12, offs := [(0, 1, false), (1, 5, true), (6, 1, false), (7, 1, false), (8, 1, false), (9, 1, false), (10, 1, false), (11, 1, false)], zero := [.int .u8 0, .int .i64 0, .imm 0 [] 0, .int .i64 0, .str [], .str [], .int .i64 0, .int .i64 0, .imm 0 [] 0, .int .i64 0, .int .i64 0, .int .i64 0], el := 0, esz := 0, eby := 0, eagg := false, ik := none, eqs := false, ezero := [] } := by kernel_rfl
theorem Try.tm_95 : Try.tm 95 = { kind := 2, size := 12, offs := [(0, 1, false), (1, 5, true), (6, 1, false), (7, 1, false), (8, 1, false), (9, 1, false), (10, 1, false), (11, 1, false)], zero := [.int .u8 0, .int .i64 0, .imm 0 [] 0, .int .i64 0, .str [], .str [], .int .i64 0, .int .i64 0, .imm 0 [] 0, .int .i64 0, .int .i64 0, .int .i64 0], el := 0, esz := 0, eby := 0, eagg := false, ik := none, eqs := false, ezero := [] } := by kernel_rfl
theorem Try.tm_96 : Try.tm 96 = { kind := 1, size := 1, offs := [], zero := [.nilfn], el := 0, esz := 0, eby := 0, eagg := false, ik := none, eqs := false, ezero := [] } := by kernel_rfl
theorem Try.tm_97 : Try.tm 97 = { kind := 1, size := 1, offs := [], zero := [.nilfn], el := 0, esz := 0, eby := 0, eagg := false, ik := none, eqs := false, ezero := [] } := by kernel_rfl
theorem Try.tm_98 : Try.tm 98 = { kind := 3, size := 1, offs := [], zero := [.imm 0 [] 0], el := 95, esz := 12, eby := 144, eagg := true, ik := none, eqs := false, ezero := [.int .u8 0, .int .i64 0, .imm 0 [] 0, .int .i64 0, .str [], .str [], .int .i64 0, .int .i64 0, .imm 0 [] 0, .int .i64 0, .int .i64 0, .int .i64 0] } := by kernel_rfl
theorem Try.tm_99 : Try.tm 99 = { kind := 1, size := 1, offs := [], zero := [.nilfn], el := 0, esz := 0, eby := 0, eagg := false, ik := none, eqs := false, ezero := [] } := by kernel_rfl
theorem Try.tm_100 : Try.tm 100 = { kind := 1, size := 1, offs := [], zero := [.nilfn], el := 0, esz := 0, eby := 0, eagg := false, ik := none, eqs := false, ezero := [] } := by kernel_rfl
theorem Try.tm_101 : Try.tm 101 = { kind := 1, size := 1, offs := [], zero := [.nilfn], el := 0, esz := 0, eby := 0, eagg := false, ik := none, eqs := false, ezero := [] } := by kernel_rfl
theorem Try.tm_102 : Try.tm 102 = { kind := 2, size := 2, offs := [(0, 1, false), (1, 1, false)], zero := [.int .i64 0, .int .i64 0], el := 0, esz := 0, eby := 0, eagg := false, ik := none, eqs := false, ezero := [] } := by kernel_rfl
theorem Try.tm_103 : Try.tm 103 = { kind := 2, size := 2, offs := [(0, 1, false), (1, 1, false)], zero := [.int .i64 0, .int .i64 0], el := 0, esz := 0, eby := 0, eagg := false, ik := none, eqs := true, ezero := [] } := by kernel_rfl
theorem Try.tm_104 : Try.tm 104 = { kind := 1, size := 1, offs := [], zero := [.nilfn], el := 0, esz := 0, eby := 0, eagg := false, ik := none, eqs := false, ezero := [] } := by kernel_rfl
theorem Try.tm_105 : Try.tm 105 = { kind := 1, size := 1, offs := [], zero := [.nilfn], el := 0, esz := 0, eby := 0, eagg := false, ik := none, eqs := false, ezero := [] } := by kernel_rfl
theorem Try.tm_106 : Try.tm 106 = { kind := 1, size := 1, offs := [], zero := [.nilfn], el := 0, esz := 0, eby := 0, eagg := false, ik := none, eqs := false, ezero := [] } := by kernel_rfl
theorem Try.tm_107 : Try.tm 107 = { kind := 1, size := 1, offs := [], zero := [.nilfn], el := 0, esz := 0, eby := 0, eagg := false, ik := none, eqs := false, ezero := [] } := by kernel_rfl
theorem Try.tm_109 : Try.tm 109 = { kind := 1, size := 1, offs := [], zero := [.nilfn], el := 0, esz := 0, eby := 0, eagg := false, ik := none, eqs := false, ezero := [] } := by kernel_rfl
theorem Try.tm_111 : Try.tm 111 = { kind := 1, size := 1, offs := [], zero := [.nilfn], el := 0, esz := 0, eby := 0, eagg := false, ik := none, eqs := false, ezero := [] } := by kernel_rfl
theorem Try.tm_113 : Try.tm 113 = { kind := 1, size := 1, offs := [], zero := [.nilfn], el := 0, esz := 0, eby := 0, eagg := false, ik := none, eqs := false, ezero := [] } := by kernel_rfl
theorem Try.tm_114 : Try.tm 114 = { kind := 1, size := 1, offs := [], zero := [.nilfn], el := 0, esz := 0, eby := 0, eagg := false, ik := none, eqs := false, ezero := [] } := by kernel_rfl
theorem Try.tm_115 : Try.tm 115 = { kind := 1, size := 1, offs := [], zero := [.nilfn], el := 0, esz := 0, eby := 0, eagg := false, ik := none, eqs := false, ezero := [] } := by kernel_rfl
theorem Try.tm_116 : Try.tm 116 = { kind := 1, size := 1, offs := [], zero := [.nilfn], el := 0, esz := 0, eby := 0, eagg := false, ik := none, eqs := false, ezero := [] } := by kernel_rfl
theorem Try.tm_117 : Try.tm 117 = { kind := 1, size := 1, offs := [], zero := [.nilfn], el := 0, esz := 0, eby := 0, eagg := false, ik := none, eqs := false, ezero := [] } := by kernel_rfl
theorem Try.tm_118 : Try.tm 118 = { kind := 1, size := 1, offs := [], zero := [.nilfn], el := 0, esz := 0, eby := 0, eagg := false, ik := none, eqs := false, ezero := [] } := by kernel_rfl
theorem Try.tm_119 : Try.tm 119 = { kind := 1, size := 1, offs := [], zero := [.nilfn], el := 0, esz := 0, eby := 0, eagg := false, ik := none, eqs := false, ezero := [] } := by kernel_rfl
theorem Try.tm_120 : Try.tm 120 = { kind := 1, size := 1, offs := [], zero := [.nilfn], el := 0, esz := 0, eby := 0, eagg := false, ik := none, eqs := false, ezero := [] } := by kernel_rfl
theorem Try.tm_121 : Try.tm 121 = { kind := 1, size := 1, offs := [], zero := [.nilfn], el := 0, esz := 0, eby := 0, eagg := false, ik := none, eqs := false, ezero := [] } := by kernel_rfl
theorem Try.tm_123 : Try.tm 123 = { kind := 1, size := 1, offs := [], zero := [.nilfn], el := 0, esz := 0, eby := 0, eagg := false, ik := none, eqs := false, ezero := [] } := by kernel_rfl
theorem Try.tm_124 : Try.tm 124 = { kind := 1, size := 1, offs := [], zero := [.nilfn], el := 0, esz := 0, eby := 0, eagg := false, ik := none, eqs := false, ezero := [] } := by kernel_rfl
theorem Try.tm_125 : Try.tm 125 = { kind := 1, size := 1, offs := [], zero := [.nilfn], el := 0, esz := 0, eby := 0, eagg := false, ik := none, eqs := false, ezero := [] } := by kernel_rfl
theorem Try.tm_127 : Try.tm 127 = { kind := 1, size := 1, offs := [], zero := [.nilfn], el := 0, esz := 0, eby := 0, eagg := false, ik := none, eqs := false, ezero := [] } := by kernel_rfl
theorem Try.tm_128 : Try.tm 128 = { kind := 1, size := 1, offs := [], zero := [.nilfn], el := 0, esz := 0, eby := 0, eagg := false, ik := none, eqs := false, ezero := [] } := by kernel_rfl
theorem Try.tm_129 : Try.tm 129 = { kind := 1, size := 1, offs := [], zero := [.nilfn], el := 0, esz := 0, eby := 0, eagg := false, ik := none, eqs := false, ezero := [] } := by kernel_rfl
theorem Try.tm_130 : Try.tm 130 = { kind := 1, size := 1, offs := [], zero := [.nilfn], el := 0, esz := 0, eby := 0, eagg := false, ik := none, eqs := false, ezero := [] } := by kernel_rfl
theorem Try.tm_131 : Try.tm 131 = { kind := 1, size := 1, offs := [], zero := [.nilfn], el := 0, esz := 0, eby := 0, eagg := false, ik := none, eqs := false, ezero := [] } := by kernel_rfl
theorem Try.tm_132 : Try.tm 132 = { kind := 1, size := 1, offs := [], zero := [.nilfn], el := 0, esz := 0, eby := 0, eagg := false, ik := none, eqs := false, ezero := [] } := by kernel_rfl
theorem Try.tm_133 : Try.tm 133 = { kind := 1, size := 1, offs := [], zero := [.nilfn], el := 0, esz := 0, eby := 0, eagg := false, ik := none, eqs := false, ezero := [] } := by kernel_rfl
theorem Try.tm_134 : Try.tm 134 = { kind := 1, size := 1, offs := [], zero := [.nilfn], el := 0, esz := 0, eby := 0, eagg := false, ik := none, eqs := false, ezero := [] } := by kernel_rfl
theorem Try.tm_135 : Try.tm 135 = { kind := 1, size := 1, offs := [], zero := [.nilfn], el := 0, esz := 0, eby := 0, eagg := false, ik := none, eqs := false, ezero := [] } := by kernel_rfl
theorem Try.tm_136 : Try.tm 136 = { kind := 1, size := 1, offs := [], zero := [.nilfn], el := 0, esz := 0, eby := 0, eagg := false, ik := none, eqs := false, ezero := [] } := by kernel_rfl
theorem Try.tm_137 : Try.tm 137 = { kind := 1, size := 1, offs := [], zero := [.nilfn], el := 0, esz := 0, eby := 0, eagg := false, ik := none, eqs := false, ezero := [] } := by kernel_rfl
theorem Try.tm_138 : Try.tm 138 = { kind := 1, size := 1, offs := [], zero := [.nilfn], el := 0, esz := 0, eby := 0, eagg := false, ik := none, eqs := false, ezero := [] } := by kernel_rfl
theorem Try.tm_139 : Try.tm 139 = { kind := 1, size := 1, offs := [], zero := [.nilfn], el := 0, esz := 0, eby := 0, eagg := false, ik := none, eqs := false, ezero := [] } := by kernel_rfl
theorem Try.tm_140 : Try.tm 140 = { kind := 1, size := 1, offs := [], zero := [.nilfn], el := 0, esz := 0, eby := 0, eagg := false, ik := none, eqs := false, ezero := [] } := by kernel_rfl
theorem Try.tm_141 : Try.tm 141 = { kind := 1, size := 1, offs := [], zero := [.nilfn], el := 0, esz := 0, eby := 0, eagg := false, ik := none, eqs := false, ezero := [] } := by kernel_rfl
theorem Try.tm_142 : Try.tm 142 = { kind := 1, size := 1, offs := [], zero := [.nilfn], el := 0, esz := 0, eby := 0, eagg := false, ik := none, eqs := false, ezero := [] } := by kernel_rfl
theorem Try.tm_143 : Try.tm 143 = { kind := 1, size := 1, offs := [], zero := [.nilfn], el := 0, esz := 0, eby := 0, eagg := false, ik := none, eqs := false, ezero := [] } := by kernel_rfl
theorem Try.tm_144 : Try.tm 144 = { kind := 1, size := 1, offs := [], zero := [.nilfn], el := 0, esz := 0, eby := 0, eagg := false, ik := none, eqs := false, ezero := [] } := by kernel_rfl
theorem Try.tm_145 : Try.tm 145 = { kind := 1, size := 1, offs := [], zero := [.nilfn], el := 0, esz := 0, eby := 0, eagg := false, ik := none, eqs := false, ezero := [] } := by kernel_rfl
theorem Try.tm_146 : Try.tm 146 = { kind := 1, size := 1, offs := [], zero := [.nilfn], el := 0, esz := 0, eby := 0, eagg := false, ik := none, eqs := false, ezero := [] } := by kernel_rfl
theorem Try.tm_147 : Try.tm 147 = { kind := 1, size := 1, offs := [], zero := [.nilfn], el := 0, esz := 0, eby := 0, eagg := false, ik := none, eqs := false, ezero := [] } := by kernel_rfl
theorem Try.tm_149 : Try.tm 149 = { kind := 1, size := 1, offs := [], zero := [.nilfn], el := 0, esz := 0, eby := 0, eagg := false, ik := none, eqs := false, ezero := [] } := by kernel_rfl
theorem Try.tm_150 : Try.tm 150 = { kind := 1, size := 1, offs := [], zero := [.nilfn], el := 0, esz := 0, eby := 0, eagg := false, ik := none, eqs := false, ezero := [] } := by kernel_rfl
theorem Try.tm_151 : Try.tm 151 = { kind := 1, size := 1, offs := [], zero := [.nilfn], el := 0, esz := 0, eby := 0, eagg := false, ik := none, eqs := false, ezero := [] } := by kernel_rfl
theorem Try.tm_152 : Try.tm 152 = { kind := 2, size := 5, offs := [(0, 1, false), (1, 1, false), (2, 3, true)], zero := [.int .i64 0, .int .i64 0, .int .i64 0, .int .i64 0, .str []], el := 0, esz := 0, eby := 0, eagg := false, ik := none, eqs := false, ezero := [] } := by kernel_rfl
theorem Try.tm_153 : Try.tm 153 = { kind := 2, size := 5, offs := [(0, 1, false), (1, 1, false), (2, 3, true)], zero := [.int .i64 0, .int .i64 0, .int .i64 0, .int .i64 0, .str []], el := 0, esz := 0, eby := 0, eagg := false, ik := none, eqs := true, ezero := [] } := by kernel_rfl
theorem Try.tm_154 : Try.tm 154 = { kind := 1, size := 1, offs := [], zero := [.nilfn], el := 0, esz := 0, eby := 0, eagg := false, ik := none, eqs := false, ezero := [] } := by kernel_rfl
theorem Try.tm_155 : Try.tm 155 = { kind := 1, size := 1, offs := [], zero := [.nilfn], el := 0, esz := 0, eby := 0, eagg := false, ik := none, eqs := false, ezero := [] } := by kernel_rfl
theorem Try.tm_156 : Try.tm 156 = { kind := 1, size := 1, offs := [], zero := [.nilptr], el := 0, esz := 0, eby := 0, eagg := false, ik := none, eqs := false, ezero := [] } := by kernel_rfl
theorem Try.tm_157 : Try.tm 157 = { kind := 1, size := 1, offs := [], zero := [.nilfn], el := 0, esz := 0, eby := 0, eagg := false, ik := none, eqs := false, ezero := [] } := by kernel_rfl
theorem Try.tm_158 : Try.tm 158 = { kind := 1, size := 1, offs := [], zero := [.nilfn], el := 0, esz := 0, eby := 0, eagg := false, ik := none, eqs := false, ezero := [] } := by kernel_rfl
theorem Try.tm_159 : Try.tm 159 = { kind := 1, size := 1, offs := [], zero := [.nilfn], el := 0, esz := 0, eby := 0, eagg := false, ik := none, eqs := false, ezero := [] } := by kernel_rfl
theorem Try.tm_160 : Try.tm 160 = { kind := 1, size := 1, offs := [], zero := [.nilfn], el := 0, esz := 0, eby := 0, eagg := false, ik := none, eqs := false, ezero := [] } := by kernel_rfl
theorem Try.tm_162 : Try.tm 162 = { kind := 1, size := 1, offs := [], zero := [.nilfn], el := 0, esz := 0, eby := 0, eagg := false, ik := none, eqs := false, ezero := [] } := by kernel_rfl
theorem Try.tm_163 : Try.tm 163 = { kind := 1, size := 1, offs := [], zero := [.nilfn], el := 0, esz := 0, eby := 0, eagg := false, ik := none, eqs := false, ezero := [] } := by kernel_rfl
theorem Try.tm_164 : Try.tm 164 = { kind := 1, size := 1, offs := [], zero := [.nilfn], el := 0, esz := 0, eby := 0, eagg := false, ik := none, eqs := false, ezero := [] } := by kernel_rfl
theorem Try.tm_165 : Try.tm 165 = { kind := 1, size := 1, offs := [], zero := [.nilfn], el := 0, esz := 0, eby := 0, eagg := false, ik := none, eqs := false, ezero := [] } := by kernel_rfl
theorem Try.tm_166 : Try.tm 166 = { kind := 1, size := 1, offs := [], zero := [.nilfn], el := 0, esz := 0, eby := 0, eagg := false, ik := none, eqs := false, ezero := [] } := by kernel_rfl
theorem Try.tm_167 : Try.tm 167 = { kind := 1, size := 1, offs := [], zero := [.nilfn], el := 0, esz := 0, eby := 0, eagg := false, ik := none, eqs := false, ezero := [] } := by kernel_rfl
theorem Try.tm_168 : Try.tm 168 = { kind := 1, size := 1, offs := [], zero := [.nilfn], el := 0, esz := 0, eby := 0, eagg := false, ik := none, eqs := false, ezero := [] } := by kernel_rfl
theorem Try.tm_169 : Try.tm 169 = { kind := 1, size := 1, offs := [], zero := [.nilfn], el := 0, esz := 0, eby := 0, eagg := false, ik := none, eqs := false, ezero := [] } := by kernel_rfl
theorem Try.tm_170 : Try.tm 170 = { kind := 1, size := 1, offs := [], zero := [.nilfn], el := 0, esz := 0, eby := 0, eagg := false, ik := none, eqs := false, ezero := [] } := by kernel_rfl
theorem Try.tm_171 : Try.tm 171 = { kind := 1, size := 1, offs := [], zero := [.nilfn], el := 0, esz := 0, eby := 0, eagg := false, ik := none, eqs := false, ezero := [] } := by kernel_rfl
theorem Try.tm_172 : Try.tm 172 = { kind := 1, size := 1, offs := [], zero := [.nilfn], el := 0, esz := 0, eby := 0, eagg := false, ik := none, eqs := false, ezero := [] } := by kernel_rfl
theorem Try.tm_173 : Try.tm 173 = { kind := 1, size := 1, offs := [], zero := [.nilfn], el := 0, esz := 0, eby := 0, eagg := false, ik := none, eqs := false, ezero := [] } := by kernel_rfl
theorem Try.tm_175 : Try.tm 175 = { kind := 1, size := 1, offs := [], zero := [.nilfn], el := 0, esz := 0, eby := 0, eagg := false, ik := none, eqs := false, ezero := [] } := by kernel_rfl
theorem Try.tm_177 : Try.tm 177 = { kind := 1, size := 1, offs := [], zero := [.nilfn], el := 0, esz := 0, eby := 0, eagg := false, ik := none, eqs := false, ezero := [] } := by kernel_rfl
theorem Try.tm_178 : Try.tm 178 = { kind := 1, size := 1, offs := [], zero := [.nilfn], el := 0, esz := 0, eby := 0, eagg := false, ik := none, eqs := false, ezero := [] } := by kernel_rfl
theorem Try.tm_179 : Try.tm 179 = { kind := 3, size := 1, offs := [], zero := [.imm 0 [] 0], el := 46, esz := 5, eby := 48, eagg := true, ik := none, eqs := false, ezero := [.int .u8 0, .int .i64 0, .int .i64 0, .int .i64 0, .str []] } := by kernel_rfl
theorem Try.tm_180 : Try.tm 180 = { kind := 1, size := 1, offs := [], zero := [.nilfn], el := 0, esz := 0, eby := 0, eagg := false, ik := none, eqs := false, ezero := [] } := by kernel_rfl
theorem Try.tm_181 : Try.tm 181 = { kind := 1, size := 1, offs := [], zero := [.nilfn], el := 0, esz := 0, eby := 0, eagg := false, ik := none, eqs := false, ezero := [] } := by kernel_rfl
theorem Try.tm_182 : Try.tm 182 = { kind := 3, size := 1, offs := [], zero := [.imm 0 [] 0], el := 5, esz := 1, eby := 1, eagg := false, ik := none, eqs := false, ezero := [.int .u8 0] } := by kernel_rfl
theorem Try.tm_184 : Try.tm 184 = { kind := 1, size := 1, offs := [], zero := [.nilfn], el := 0, esz := 0, eby := 0, eagg := false, ik := none, eqs := false, ezero := [] } := by kernel_rfl
theorem Try.tm_185 : Try.tm 185 = { kind := 1, size := 1, offs := [], zero := [.nilfn], el := 0, esz := 0, eby := 0, eagg := false, ik := none, eqs := false, ezero := [] } := by kernel_rfl
theorem Try.tm_187 : Try.tm 187 = { kind := 1, size := 1, offs := [], zero := [.nilfn], el := 0, esz := 0, eby := 0, eagg := false, ik := none, eqs := false, ezero := [] } := by kernel_rfl
theorem Try.tm_189 : Try.tm 189 = { kind := 1, size := 1, offs := [], zero := [.nilfn], el := 0, esz := 0, eby := 0, eagg := false, ik := none, eqs := false, ezero := [] } := by kernel_rfl
theorem Try.tm_191 : Try.tm 191 = { kind := 1, size := 1, offs := [], zero := [.nilfn], el := 0, esz := 0, eby := 0, eagg := false, ik := none, eqs := false, ezero := [] } := by kernel_rfl
theorem Try.tm_192 : Try.tm 192 = { kind := 1, size := 1, offs := [], zero := [.nilfn], el := 0, esz := 0, eby := 0, eagg := false, ik := none, eqs := false, ezero := [] } := by kernel_rfl
theorem Try.tm_193 : Try.tm 193 = { kind := 9, size := 1, offs := [], zero := [.nilmap], el := 3, esz := 1, eby := 0, eagg := false, ik := none, eqs := false, ezero := [.int .i64 0] } := by kernel_rfl
theorem Try.tm_194 : Try.tm 194 = { kind := 1, size := 1, offs := [], zero := [.nilfn], el := 0, esz := 0, eby := 0, eagg := false, ik := none, eqs := false, ezero := [] } := by kernel_rfl
theorem Try.tm_195 : Try.tm 195 = { kind := 1, size := 1, offs := [], zero := [.nilfn], el := 0, esz := 0, eby := 0, eagg := false, ik := none, eqs := false, ezero := [] } := by kernel_rfl
theorem Try.tm_196 : Try.tm 196 = { kind := 1, size := 1, offs := [], zero := [.nilfn], el := 0, esz := 0, eby := 0, eagg := false, ik := none, eqs := false, ezero := [] } := by kernel_rfl
theorem Try.tm_197 : Try.tm 197 = { kind := 1, size := 1, offs := [], zero := [.nilfn], el := 0, esz := 0, eby := 0, eagg := false, ik := none, eqs := false, ezero := [] } := by kernel_rfl
theorem Try.tm_198 : Try.tm 198 = { kind := 1, size := 1, offs := [], zero := [.nilfn], el := 0, esz := 0, eby := 0, eagg := false, ik := none, eqs := false, ezero := [] } := by kernel_rfl
theorem Try.tm_199 : Try.tm 199 = { kind := 1, size := 1, offs := [], zero := [.nilfn], el := 0, esz := 0, eby := 0, eagg := false, ik := none, eqs := false, ezero := [] } := by kernel_rfl
theorem Try.tm_200 : Try.tm 200 = { kind := 1, size := 1, offs := [], zero := [.nilfn], el := 0, esz := 0, eby := 0, eagg := false, ik := none, eqs := false, ezero := [] } := by kernel_rfl
theorem Try.tm_201 : Try.tm 201 = { kind := 1, size := 1, offs := [], zero := [.nilfn], el := 0, esz := 0, eby := 0, eagg := false, ik := none, eqs := false, ezero := [] } := by kernel_rfl
theorem Try.tm_202 : Try.tm 202 = { kind := 1, size := 1, offs := [], zero := [.nilfn], el := 0, esz := 0, eby := 0, eagg := false, ik := none, eqs := false, ezero := [] } := by kernel_rfl
theorem Try.tm_203 : Try.tm 203 = { kind := 1, size := 1, offs := [], zero := [.nilptr], el := 0, esz := 0, eby := 0, eagg := false, ik := none, eqs := false, ezero := [] } := by kernel_rfl
theorem Try.tm_204 : Try.tm 204 = { kind := 2, size := 3, offs := [(0, 3, true)], zero := [.int .i64 0, .imm 0 [] 0, .imm 0 [] 0], el := 0, esz := 0, eby := 0, eagg := false, ik := none, eqs := false, ezero := [] } := by kernel_rfl
theorem Try.tm_205 : Try.tm 205 = { kind := 2, size := 3, offs := [(0, 3, true)], zero := [.int .i64 0, .imm 0 [] 0, .imm 0 [] 0], el := 0, esz := 0, eby := 0, eagg := false, ik := none, eqs := false, ezero := [] } := by kernel_rfl
theorem Try.tm_206 : Try.tm 206 = { kind := 1, size := 1, offs := [], zero := [.nilfn], el := 0, esz := 0, eby := 0, eagg := false, ik := none, eqs := false, ezero := [] } := by kernel_rfl
theorem Try.tm_207 : Try.tm 207 = { kind := 1, size := 1, offs := [], zero := [.nilfn], el := 0, esz := 0, eby := 0, eagg := false, ik := none, eqs := false, ezero := [] } := by kernel_rfl
theorem Try.tm_208 : Try.tm 208 = { kind := 1, size := 1, offs := [], zero := [.nilfn], el := 0, esz := 0, eby := 0, eagg := false, ik := none, eqs := false, ezero := [] } := by kernel_rfl
theorem Try.tm_209 : Try.tm 209 = { kind := 1, size := 1, offs := [], zero := [.nilfn], el := 0, esz := 0, eby := 0, eagg := false, ik := none, eqs := false, ezero := [] } := by kernel_rfl
theorem Try.tm_210 : Try.tm 210 = { kind := 1, size := 1, offs := [], zero := [.nilfn], el := 0, esz := 0, eby := 0, eagg := false, ik := none, eqs := false, ezero := [] } := by kernel_rfl
theorem Try.tm_211 : Try.tm 211 = { kind := 1, size := 1, offs := [], zero := [.nilfn], el := 0, esz := 0, eby := 0, eagg := false, ik := none, eqs := false, ezero := [] } := by kernel_rfl
theorem Try.tm_212 : Try.tm 212 = { kind := 1, size := 1, offs := [], zero := [.nilfn], el := 0, esz := 0, eby := 0, eagg := false, ik := none, eqs := false, ezero := [] } := by kernel_rfl
theorem Try.tm_213 : Try.tm 213 = { kind := 1, size := 1, offs := [], zero := [.nilfn], el := 0, esz := 0, eby := 0, eagg := false, ik := none, eqs := false, ezero := [] } := by kernel_rfl
theorem Try.tm_214 : Try.tm 214 = { kind := 1, size := 1, offs := [], zero := [.nilfn], el := 0, esz := 0, eby := 0, eagg := false, ik := none, eqs := false, ezero := [] } := by kernel_rfl
theorem Try.tm_215 : Try.tm 215 = { kind := 1, size := 1, offs := [], zero := [.nilfn], el := 0, esz := 0, eby := 0, eagg := false, ik := none, eqs := false, ezero := [] } := by kernel_rfl
theorem Try.tm_216 : Try.tm 216 = { kind := 1, size := 1, offs := [], zero := [.nilfn], el := 0, esz := 0, eby := 0, eagg := false, ik := none, eqs := false, ezero := [] } := by kernel_rfl
theorem Try.tm_217 : Try.tm 217 = { kind := 1, size := 1, offs := [], zero := [.nilfn], el := 0, esz := 0, eby := 0, eagg := false, ik := none, eqs := false, ezero := [] } := by kernel_rfl
theorem Try.tm_218 : Try.tm 218 = { kind := 1, size := 1, offs := [], zero := [.nilfn], el := 0, esz := 0, eby := 0, eagg := false, ik := none, eqs := false, ezero := [] } := by kernel_rfl
theorem Try.tm_219 : Try.tm 219 = { kind := 1, size := 1, offs := [], zero := [.nilfn], el := 0, esz := 0, eby := 0, eagg := false, ik := none, eqs := false, ezero := [] } := by kernel_rfl
theorem Try.tm_220 : Try.tm 220 = { kind := 1, size := 1, offs := [], zero := [.nilfn], el := 0, esz := 0, eby := 0, eagg := false, ik := none, eqs := false, ezero := [] } := by kernel_rfl
theorem Try.tm_221 : Try.tm 221 = { kind := 1, size := 1, offs := [], zero := [.nilfn], el := 0, esz := 0, eby := 0, eagg := false, ik := none, eqs := false, ezero := [] } := by kernel_rfl
theorem Try.tm_223 : Try.tm 223 = { kind := 1, size := 1, offs := [], zero := [.nilfn], el := 0, esz := 0, eby := 0, eagg := false, ik := none, eqs := false, ezero := [] } := by kernel_rfl
theorem Try.tm_224 : Try.tm 224 = { kind := 2, size := 19, offs := [(0, 12, true), (12, 3, true), (15, 3, true), (18, 1, false)], zero := [.int .u8 0, .int .i64 0, .imm 0 [] 0, .int .i64 0, .str [], .str [], .int .i64 0, .int .i64 0, .imm 0 [] 0, .int .i64 0, .int .i64 0, .int .i64 0, .int .i64 0, .imm 0 [] 0, .imm 0 [] 0, .int .i64 0, .imm 0 [] 0, .imm 0 [] 0, .imm 0 [] 0], el := 0, esz := 0, eby := 0, eagg := false, ik := none, eqs := false, ezero := [] } := by kernel_rfl
theorem Try.tm_225 : Try.tm 225 = { kind := 2, size := 19, offs := [(0, 12, true), (12, 3, true), (15, 3, true), (18, 1, false)], zero := [.int .u8 0, .int .i64 0, .imm 0 [] 0, .int .i64 0, .str [], .str [], .int .i64 0, .int .i64 0, .imm 0 [] 0, .int .i64 0, .int .i64 0, .int .i64 0, .int .i64 0, .imm 0 [] 0, .imm 0 [] 0, .int .i64 0, .imm 0 [] 0, .imm 0 [] 0, .imm 0 [] 0], el := 0, esz := 0, eby := 0, eagg := false, ik := none, eqs := false, ezero := [] } := by kernel_rfl
theorem Try.tm_226 : Try.tm 226 = { kind := 1, size := 1, offs := [], zero := [.nilfn], el := 0, esz := 0, eby := 0, eagg := false, ik := none, eqs := false, ezero := [] } := by kernel_rfl
theorem Try.tm_227 : Try.tm 227 = { kind := 3, size := 1, offs := [], zero := [.imm 0 [] 0], el := 231, esz := 6, eby := 80, eagg := true, ik := none, eqs := false, ezero := [.int .i64 0, .int .i64 0, .imm 0 [] 0, .int .i64 0, .str [], .str []] } := by kernel_rfl
theorem Try.tm_229 : Try.tm 229 = { kind := 1, size := 1, offs := [], zero := [.nilfn], el := 0, esz := 0, eby := 0, eagg := false, ik := none, eqs := false, ezero := [] } := by kernel_rfl
theorem Try.tm_230 : Try.tm 230 = { kind := 2, size := 6, offs := [(0, 1, false), (1, 5, true)], zero := [.int .i64 0, .int .i64 0, .imm 0 [] 0, .int .i64 0, .str [], .str []], el := 0, esz := 0, eby := 0, eagg := false, ik := none, eqs := false, ezero := [] } := by kernel_rfl
theorem Try.tm_231 : Try.tm 231 = { kind := 2, size := 6, offs := [(0, 1, false), (1, 5, true)], zero := [.int .i64 0, .int .i64 0, .imm 0 [] 0, .int .i64 0, .str [], .str []], el := 0, esz := 0, eby := 0, eagg := false, ik := none, eqs := false, ezero := [] } := by kernel_rfl
theorem Try.tm_232 : Try.tm 232 = { kind := 3, size := 1, offs := [], zero := [.imm 0 [] 0], el := 227, esz := 1, eby := 24, eagg := false, ik := none, eqs := false, ezero := [.imm 0 [] 0] } := by kernel_rfl
theorem Try.tm_233 : Try.tm 233 = { kind := 3, size := 1, offs := [], zero := [.imm 0 [] 0], el := 227, esz := 1, eby := 24, eagg := false, ik := none, eqs := false, ezero := [.imm 0 [] 0] } := by kernel_rfl
theorem Try.tm_235 : Try.tm 235 = { kind := 1, size := 1, offs := [], zero := [.nilfn], el := 0, esz := 0, eby := 0, eagg := false, ik := none, eqs := false, ezero := [] } := by kernel_rfl
theorem Try.tm_236 : Try.tm 236 = { kind := 1, size := 1, offs := [], zero := [.nilfn], el := 0, esz := 0, eby := 0, eagg := false, ik := none, eqs := false, ezero := [] } := by kernel_rfl
theorem Try.tm_237 : Try.tm 237 = { kind := 1, size := 1, offs := [], zero := [.nilfn], el := 0, esz := 0, eby := 0, eagg := false, ik := none, eqs := false, ezero := [] } := by kernel_rfl
theorem Try.tm_238 : Try.tm 238 = { kind := 1, size := 1, offs := [], zero := [.nilfn], el := 0, esz := 0, eby := 0, eagg := false, ik := none, eqs := false, ezero := [] } := by kernel_rfl
theorem Try.tm_239 : Try.tm 239 = { kind := 1, size := 1, offs := [], zero := [.nilfn], el := 0, esz := 0, eby := 0, eagg := false, ik := none, eqs := false, ezero := [] } := by kernel_rfl
theorem Try.tm_240 : Try.tm 240 = { kind := 6, size := 1, offs := [], zero := [.int .u64 0], el := 0, esz := 0, eby := 0, eagg := false, ik := some .u64, eqs := false, ezero := [] } := by kernel_rfl
theorem Try.tm_241 : Try.tm 241 = { kind := 1, size := 1, offs := [], zero := [.nilfn], el := 0, esz := 0, eby := 0, eagg := false, ik := none, eqs := false, ezero := [] } := by kernel_rfl
theorem Try.tm_242 : Try.tm 242 = { kind := 1, size := 1, offs := [], zero := [.nilfn], el := 0, esz := 0, eby := 0, eagg := false, ik := none, eqs := false, ezero := [] } := by kernel_rfl
theorem Try.tm_243 : Try.tm 243 = { kind := 1, size := 1, offs := [], zero := [.nilfn], el := 0, esz := 0, eby := 0, eagg := false, ik := none, eqs := false, ezero := [] } := by kernel_rfl
theorem Try.tm_244 : Try.tm 244 = { kind := 1, size := 1, offs := [], zero := [.nilfn], el := 0, esz := 0, eby := 0, eagg := false, ik := none, eqs := false, ezero := [] } := by kernel_rfl
theorem Try.tm_245 : Try.tm 245 = { kind := 1, size := 1, offs := [], zero := [.nilfn], el := 0, esz := 0, eby := 0, eagg := false, ik := none, eqs := false, ezero := [] } := by kernel_rfl
theorem Try.tm_246 : Try.tm 246 = { kind := 1, size := 1, offs := [], zero := [.nilptr], el := 0, esz := 0, eby := 0, eagg := false, ik := none, eqs := false, ezero := [] } := by kernel_rfl
theorem Try.tm_247 : Try.tm 247 = { kind := 1, size := 1, offs := [], zero := [.nilfn], el := 0, esz := 0, eby := 0, eagg := false, ik := none, eqs := false, ezero := [] } := by kernel_rfl
theorem Try.tm_248 : Try.tm 248 = { kind := 1, size := 1, offs := [], zero := [.nilfn], el := 0, esz := 0, eby := 0, eagg := false, ik := none, eqs := false, ezero := [] } := by kernel_rfl
theorem Try.tm_249 : Try.tm 249 = { kind := 1, size := 1, offs := [], zero := [.nilfn], el := 0, esz := 0, eby := 0, eagg := false, ik := none, eqs := false, ezero := [] } := by kernel_rfl
theorem Try.tm_250 : Try.tm 250 = { kind := 1, size := 1, offs := [], zero := [.nilfn], el := 0, esz := 0, eby := 0, eagg := false, ik := none, eqs := false, ezero := [] } := by kernel_rfl
theorem Try.tm_251 : Try.tm 251 = { kind := 1, size := 1, offs := [], zero := [.nilfn], el := 0, esz := 0, eby := 0, eagg := false, ik := none, eqs := false, ezero := [] } := by kernel_rfl
theorem Try.tm_252 : Try.tm 252 = { kind := 1, size := 1, offs := [], zero := [.nilfn], el := 0, esz := 0, eby := 0, eagg := false, ik := none, eqs := false, ezero := [] } := by kernel_rfl
theorem Try.tm_253 : Try.tm 253 = { kind := 1, size := 1, offs := [], zero := [.nilfn], el := 0, esz := 0, eby := 0, eagg := false, ik := none, eqs := false, ezero := [] } := by kernel_rfl
theorem Try.tm_254 : Try.tm 254 = { kind := 1, size := 1, offs := [], zero := [.nilfn], el := 0, esz := 0, eby := 0, eagg := false, ik := none, eqs := false, ezero := [] } := by kernel_rfl
theorem Try.tm_255 : Try.tm 255 = { kind := 1, size := 1, offs := [], zero := [.nilptr], el := 0, esz := 0, eby := 0, eagg := false, ik := none, eqs := false, ezero := [] } := by kernel_rfl
theorem Try.tm_256 : Try.tm 256 = { kind := 2, size := 2, offs := [(0, 1, false), (1, 1, false)], zero := [.imm 0 [] 0, .bool false], el := 0, esz := 0, eby := 0, eagg := false, ik := none, eqs := false, ezero := [] } := by kernel_rfl
theorem Try.tm_257 : Try.tm 257 = { kind := 2, size := 2, offs := [(0, 1, false), (1, 1, false)], zero := [.imm 0 [] 0, .bool false], el := 0, esz := 0, eby := 0, eagg := false, ik := none, eqs := false, ezero := [] } := by kernel_rfl
theorem Try.tm_258 : Try.tm 258 = { kind := 1, size := 1, offs := [], zero := [.nilfn], el := 0, esz := 0, eby := 0, eagg := false, ik := none, eqs := false, ezero := [] } := by kernel_rfl
theorem Try.tm_259 : Try.tm 259 = { kind := 1, size := 1, offs := [], zero := [.nilfn], el := 0, esz := 0, eby := 0, eagg := false, ik := none, eqs := false, ezero := [] } := by kernel_rfl
theorem Try.tm_260 : Try.tm 260 = { kind := 1, size := 1, offs := [], zero := [.nilfn], el := 0, esz := 0, eby := 0, eagg := false, ik := none, eqs := false, ezero := [] } := by kernel_rfl
theorem Try.tm_262 : Try.tm 262 = { kind := 1, size := 1, offs := [], zero := [.nilfn], el := 0, esz := 0, eby := 0, eagg := false, ik := none, eqs := false, ezero := [] } := by kernel_rfl
theorem Try.tm_263 : Try.tm 263 = { kind := 1, size := 1, offs := [], zero := [.nilfn], el := 0, esz := 0, eby := 0, eagg := false, ik := none, eqs := false, ezero := [] } := by kernel_rfl
theorem Try.tm_264 : Try.tm 264 = { kind := 1, size := 1, offs := [], zero := [.nilfn], el := 0, esz := 0, eby := 0, eagg := false, ik := none, eqs := false, ezero := [] } := by kernel_rfl
theorem Try.tm_265 : Try.tm 265 = { kind := 1, size := 1, offs := [], zero := [.nilfn], el := 0, esz := 0, eby := 0, eagg := false, ik := none, eqs := false, ezero := [] } := by kernel_rfl
theorem Try.tm_266 : Try.tm 266 = { kind := 1, size := 1, offs := [], zero := [.nilfn], el := 0, esz := 0, eby := 0, eagg := false, ik := none, eqs := false, ezero := [] } := by kernel_rfl
theorem Try.tm_267 : Try.tm 267 = { kind := 1, size := 1, offs := [], zero := [.nilfn], el := 0, esz := 0, eby := 0, eagg := false, ik := none, eqs := false, ezero := [] } := by kernel_rfl
theorem Try.tm_269 : Try.tm 269 = { kind := 1, size := 1, offs := [], zero := [.nilfn], el := 0, esz := 0, eby := 0, eagg := false, ik := none, eqs := false, ezero := [] } := by kernel_rfl
theorem Try.tm_270 : Try.tm 270 = { kind := 1, size := 1, offs := [], zero := [.nilfn], el := 0, esz := 0, eby := 0, eagg := false, ik := none, eqs := false, ezero := [] } := by kernel_rfl
theorem Try.tm_271 : Try.tm 271 = { kind := 1, size := 1, offs := [], zero := [.nilfn], el := 0, esz := 0, eby := 0, eagg := false, ik := none, eqs := false, ezero := [] } := by kernel_rfl
theorem Try.tm_272 : Try.tm 272 = { kind := 1, size := 1, offs := [], zero := [.nilfn], el := 0, esz := 0, eby := 0, eagg := false, ik := none, eqs := false, ezero := [] } := by kernel_rfl
theorem Try.tm_273 : Try.tm 273 = { kind := 1, size := 1, offs := [], zero := [.nilfn], el := 0, esz := 0, eby := 0, eagg := false, ik := none, eqs := false, ezero := [] } := by kernel_rfl
theorem Try.tm_274 : Try.tm 274 = { kind := 1, size := 1, offs := [], zero := [.nilfn], el := 0, esz := 0, eby := 0, eagg := false, ik := none, eqs := false, ezero := [] } := by kernel_rfl
theorem Try.tm_275 : Try.tm 275 = { kind := 1, size := 1, offs := [], zero := [.nilfn], el := 0, esz := 0, eby := 0, eagg := false, ik := none, eqs := false, ezero := [] } := by kernel_rfl
theorem Try.tm_276 : Try.tm 276 = { kind := 1, size := 1, offs := [], zero := [.nilfn], el := 0, esz := 0, eby := 0, eagg := false, ik := none, eqs := false, ezero := [] } := by kernel_rfl
theorem Try.tm_277 : Try.tm 277 = { kind := 1, size := 1, offs := [], zero := [.nilfn], el := 0, esz := 0, eby := 0, eagg := false, ik := none, eqs := false, ezero := [] } := by kernel_rfl
theorem Try.tm_278 : Try.tm 278 = { kind := 1, size := 1, offs := [], zero := [.nilfn], el := 0, esz := 0, eby := 0, eagg := false, ik := none, eqs := false, ezero := [] } := by kernel_rfl
theorem Try.tm_280 : Try.tm 280 = { kind := 1, size := 1, offs := [], zero := [.nilfn], el := 0, esz := 0, eby := 0, eagg := false, ik := none, eqs := false, ezero := [] } := by kernel_rfl
theorem Try.tm_281 : Try.tm 281 = { kind := 1, size := 1, offs := [], zero := [.nilfn], el := 0, esz := 0, eby := 0, eagg := false, ik := none, eqs := false, ezero := [] } := by kernel_rfl
theorem Try.tm_282 : Try.tm 282 = { kind := 1, size := 1, offs := [], zero := [.nilfn], el := 0, esz := 0, eby := 0, eagg := false, ik := none, eqs := false, ezero := [] } := by kernel_rfl
theorem Try.tm_283 : Try.tm 283 = { kind := 9, size := 1, offs := [], zero := [.nilmap], el := 3, esz := 5, eby := 0, eagg := true, ik := none, eqs := false, ezero := [.int .i64 0, .imm 0 [] 0, .int .i64 0, .str [], .str []] } := by kernel_rfl
theorem Try.tm_284 : Try.tm 284 = { kind := 1, size := 1, offs := [], zero := [.nilfn], el := 0, esz := 0, eby := 0, eagg := false, ik := none, eqs := false, ezero := [] } := by kernel_rfl
theorem Try.tm_286 : Try.tm 286 = { kind := 1, size := 1, offs := [], zero := [.nilfn], el := 0, esz := 0, eby := 0, eagg := false, ik := none, eqs := false, ezero := [] } := by kernel_rfl
theorem Try.tm_288 : Try.tm 288 = { kind := 1, size := 1, offs := [], zero := [.nilfn], el := 0, esz := 0, eby := 0, eagg := false, ik := none, eqs := false, ezero := [] } := by kernel_rfl
theorem Try.tm_289 : Try.tm 289 = { kind := 1, size := 1, offs := [], zero := [.nilfn], el := 0, esz := 0, eby := 0, eagg := false, ik := none, eqs := false, ezero := [] } := by kernel_rfl
theorem Try.tm_290 : Try.tm 290 = { kind := 1, size := 1, offs := [], zero := [.nilfn], el := 0, esz := 0, eby := 0, eagg := false, ik := none, eqs := false, ezero := [] } := by kernel_rfl
theorem Try.tm_291 : Try.tm 291 = { kind := 1, size := 1, offs := [], zero := [.nilfn], el := 0, esz := 0, eby := 0, eagg := false, ik := none, eqs := false, ezero := [] } := by kernel_rfl
theorem Try.tm_292 : Try.tm 292 = { kind := 1, size := 1, offs := [], zero := [.nilfn], el := 0, esz := 0, eby := 0, eagg := false, ik := none, eqs := false, ezero := [] } := by kernel_rfl
theorem Try.tm_294 : Try.tm 294 = { kind := 1, size := 1, offs := [], zero := [.nilfn], el := 0, esz := 0, eby := 0, eagg := false, ik := none, eqs := false, ezero := [] } := by kernel_rfl
theorem Try.tm_296 : Try.tm 296 = { kind := 1, size := 1, offs := [], zero := [.nilfn], el := 0, esz := 0, eby := 0, eagg := false, ik := none, eqs := false, ezero := [] } := by kernel_rfl
theorem Try.tm_297 : Try.tm 297 = { kind := 1, size := 1, offs := [], zero := [.nilfn], el := 0, esz := 0, eby := 0, eagg := false, ik := none, eqs := false, ezero := [] } := by kernel_rfl
theorem Try.tm_298 : Try.tm 298 = { kind := 1, size := 1, offs := [], zero := [.nilfn], el := 0, esz := 0, eby := 0, eagg := false, ik := none, eqs := false, ezero := [] } := by kernel_rfl
theorem Try.tm_299 : Try.tm 299 = { kind := 1, size := 1, offs := [], zero := [.nilfn], el := 0, esz := 0, eby := 0, eagg := false, ik := none, eqs := false, ezero := [] } := by kernel_rfl
theorem Try.tm_300 : Try.tm 300 = { kind := 1, size := 1, offs := [], zero := [.nilfn], el := 0, esz := 0, eby := 0, eagg := false, ik := none, eqs := false, ezero := [] } := by kernel_rfl
theorem Try.tm_302 : Try.tm 302 = { kind := 1, size := 1, offs := [], zero := [.nilfn], el := 0, esz := 0, eby := 0, eagg := false, ik := none, eqs := false, ezero := [] } := by kernel_rfl
theorem Try.tm_303 : Try.tm 303 = { kind := 1, size := 1, offs := [], zero := [.nilfn], el := 0, esz := 0, eby := 0, eagg := false, ik := none, eqs := false, ezero := [] } := by kernel_rfl
theorem Try.tm_304 : Try.tm 304 = { kind := 1, size := 1, offs := [], zero := [.nilfn], el := 0, esz := 0, eby := 0, eagg := false, ik := none, eqs := false, ezero := [] } := by kernel_rfl
theorem Try.tm_305 : Try.tm 305 = { kind := 1, size := 1, offs := [], zero := [.nilfn], el := 0, esz := 0, eby := 0, eagg := false, ik := none, eqs := false, ezero := [] } := by kernel_rfl
theorem Try.tm_306 : Try.tm 306 = { kind := 1, size := 1, offs := [], zero := [.nilfn], el := 0, esz := 0, eby := 0, eagg := false, ik := none, eqs := false, ezero := [] } := by kernel_rfl
theorem Try.tm_307 : Try.tm 307 = { kind := 1, size := 1, offs := [], zero := [.nilfn], el := 0, esz := 0, eby := 0, eagg := false, ik := none, eqs := false, ezero := [] } := by kernel_rfl
theorem Try.tm_308 : Try.tm 308 = { kind := 1, size := 1, offs := [], zero := [.nilfn], el := 0, esz := 0, eby := 0, eagg := false, ik := none, eqs := false, ezero := [] } := by kernel_rfl
theorem Try.tm_309 : Try.tm 309 = { kind := 1, size := 1, offs := [], zero := [.nilfn], el := 0, esz := 0, eby := 0, eagg := false, ik := none, eqs := false, ezero := [] } := by kernel_rfl
theorem Try.tm_310 : Try.tm 310 = { kind := 6, size := 1, offs := [], zero := [.int .u32 0], el := 0, esz := 0, eby := 0, eagg := false, ik := some .u32, eqs := false, ezero := [] } := by kernel_rfl
theorem Try.tm_311 : Try.tm 311 = { kind := 1, size := 1, offs := [], zero := [.nilfn], el := 0, esz := 0, eby := 0, eagg := false, ik := none, eqs := false, ezero := [] } := by kernel_rfl
theorem Try.tm_312 : Try.tm 312 = { kind := 6, size := 1, offs := [], zero := [.int .u64 0], el := 0, esz := 0, eby := 0, eagg := false, ik := some .u64, eqs := false, ezero := [] } := by kernel_rfl
theorem Try.tm_313 : Try.tm 313 = { kind := 1, size := 1, offs := [], zero := [.nilfn], el := 0, esz := 0, eby := 0, eagg := false, ik := none, eqs := false, ezero := [] } := by kernel_rfl
theorem Try.tm_314 : Try.tm 314 = { kind := 1, size := 1, offs := [], zero := [.nilptr], el := 0, esz := 0, eby := 0, eagg := false, ik := none, eqs := false, ezero := [] } := by kernel_rfl
theorem Try.tm_315 : Try.tm 315 = { kind := 2, size := 2, offs := [(0, 1, false), (1, 1, false)], zero := [.imm 0 [] 0, .bool false], el := 0, esz := 0, eby := 0, eagg := false, ik := none, eqs := false, ezero := [] } := by kernel_rfl
theorem Try.tm_316 : Try.tm 316 = { kind := 2, size := 2, offs := [(0, 1, false), (1, 1, false)], zero := [.imm 0 [] 0, .bool false], el := 0, esz := 0, eby := 0, eagg := false, ik := none, eqs := false, ezero := [] } := by kernel_rfl
theorem Try.tm_317 : Try.tm 317 = { kind := 1, size := 1, offs := [], zero := [.nilfn], el := 0, esz := 0, eby := 0, eagg := false, ik := none, eqs := false, ezero := [] } := by kernel_rfl
theorem Try.tm_318 : Try.tm 318 = { kind := 1, size := 1, offs := [], zero := [.nilfn], el := 0, esz := 0, eby := 0, eagg := false, ik := none, eqs := false, ezero := [] } := by kernel_rfl
theorem Try.tm_319 : Try.tm 319 = { kind := 1, size := 1, offs := [], zero := [.nilfn], el := 0, esz := 0, eby := 0, eagg := false, ik := none, eqs := false, ezero := [] } := by kernel_rfl
theorem Try.tm_320 : Try.tm 320 = { kind := 1, size := 1, offs := [], zero := [.nilfn], el := 0, esz := 0, eby := 0, eagg := false, ik := none, eqs := false, ezero := [] } := by kernel_rfl
theorem Try.tm_321 : Try.tm 321 = { kind := 1, size := 1, offs := [], zero := [.nilfn], el := 0, esz := 0, eby := 0, eagg := false, ik := none, eqs := false, ezero := [] } := by kernel_rfl
theorem Try.tm_322 : Try.tm 322 = { kind := 1, size := 1, offs := [], zero := [.nilfn], el := 0, esz := 0, eby := 0, eagg := false, ik := none, eqs := false, ezero := [] } := by kernel_rfl
theorem Try.tm_324 : Try.tm 324 = { kind := 1, size := 1, offs := [], zero := [.nilfn], el := 0, esz := 0, eby := 0, eagg := false, ik := none, eqs := false, ezero := [] } := by kernel_rfl
theorem Try.tm_325 : Try.tm 325 = { kind := 2, size := 4, offs := [(0, 1, false), (1, 1, false), (2, 1, false), (3, 1, false)], zero := [.nilptr, .nilptr, .nilptr, .str []], el := 0, esz := 0, eby := 0, eagg := false, ik := none, eqs := false, ezero := [] } := by kernel_rfl
theorem Try.tm_326 : Try.tm 326 = { kind := 2, size := 4, offs := [(0, 1, false), (1, 1, false), (2, 1, false), (3, 1, false)], zero := [.nilptr, .nilptr, .nilptr, .str []], el := 0, esz := 0, eby := 0, eagg := false, ik := none, eqs := false, ezero := [] } := by kernel_rfl
theorem Try.tm_327 : Try.tm 327 = { kind := 4, size := 0, offs := [], zero := [], el := 0, esz := 0, eby := 0, eagg := false, ik := none, eqs := false, ezero := [] } := by kernel_rfl
theorem Try.tm_330 : Try.tm 330 = { kind := 6, size := 1, offs := [], zero := [.int .u8 0], el := 0, esz := 0, eby := 0, eagg := false, ik := some .u8, eqs := false, ezero := [] } := by kernel_rfl
theorem Try.tm_331 : Try.tm 331 = { kind := 6, size := 1, offs := [], zero := [.int .u8 0], el := 0, esz := 0, eby := 0, eagg := false, ik := some .u8, eqs := false, ezero := [] } := by kernel_rfl
theorem Try.tm_332 : Try.tm 332 = { kind := 1, size := 1, offs := [], zero := [.nilfn], el := 0, esz := 0, eby := 0, eagg := false, ik := none, eqs := false, ezero := [] } := by kernel_rfl
theorem Try.tm_333 : Try.tm 333 = { kind := 1, size := 1, offs := [], zero := [.nilptr], el := 0, esz := 0, eby := 0, eagg := false, ik := none, eqs := false, ezero := [] } := by kernel_rfl
theorem Try.tm_334 : Try.tm 334 = { kind := 6, size := 1, offs := [], zero := [.int .i32 0], el := 0, esz := 0, eby := 0, eagg := false, ik := some .i32, eqs := false, ezero := [] } := by kernel_rfl
theorem Try.tm_335 : Try.tm 335 = { kind := 6, size := 1, offs := [], zero := [.int .i32 0], el := 0, esz := 0, eby := 0, eagg := false, ik := some .i32, eqs := false, ezero := [] } := by kernel_rfl
theorem Try.tm_336 : Try.tm 336 = { kind := 2, size := 11, offs := [(0, 1, false), (1, 1, false), (2, 1, false), (3, 1, false), (4, 1, false), (5, 1, false), (6, 1, false), (7, 1, false), (8, 1, false), (9, 1, false), (10, 1, false)], zero := [.int .u64 0, .int .u64 0, .int .u32 0, .int .u8 0, .int .u8 0, .int .u8 0, .int .u8 0, .nilfn, .nilptr, .int .i32 0, .int .i32 0], el := 0, esz := 0, eby := 0, eagg := false, ik := none, eqs := false, ezero := [] } := by kernel_rfl
theorem Try.tm_337 : Try.tm 337 = { kind := 2, size := 11, offs := [(0, 1, false), (1, 1, false), (2, 1, false), (3, 1, false), (4, 1, false), (5, 1, false), (6, 1, false), (7, 1, false), (8, 1, false), (9, 1, false), (10, 1, false)], zero := [.int .u64 0, .int .u64 0, .int .u32 0, .int .u8 0, .int .u8 0, .int .u8 0, .int .u8 0, .nilfn, .nilptr, .int .i32 0, .int .i32 0], el := 0, esz := 0, eby := 0, eagg := false, ik := none, eqs := false, ezero := [] } := by kernel_rfl
end Go.Proofs
end
section
namespace Go.Proofs
open Go.Tm
theorem Try.S : Seat Try.prog Try.tm := ⟨Try.tmOk, Try.tmMixed⟩
end Go.Proofs
end
section
namespace Go.Proofs
open Go.Tm
set_option linter.unusedVariables false
def m_slices_Index_int_int_loop1 (v : Int) : List Int → Nat → Option (Int ⊕ Unit)
  | [], n1 =>
    some (.inr ())
  | y1 :: rest1, n1 =>
    if v = y1 then
    some (.inl (n1 : Int))
    else
    m_slices_Index_int_int_loop1 v rest1 (n1 + 1) 
def m_slices_Index_int_int (s : List Int) (v : Int) : Option Int :=
  Option.bind (α := Int ⊕ Unit) (m_slices_Index_int_int_loop1 v s 0 ) fun z => match z with
  | (.inl r) => some r
  | (.inr _) =>
  some (-1)
def m_towncrierref01_SameInts_loop1 (b : List Int) : List Int → Nat → Option (Bool ⊕ Unit)
  | [], n1 =>
    some (.inr ())
  | y1 :: rest1, n1 =>
    if n1 < b.length then
    if ¬ (y1 = (b.getD n1 default)) then
    some (.inl false)
    else
    m_towncrierref01_SameInts_loop1 b rest1 (n1 + 1) 
    else none
def m_towncrierref01_SameInts (a : List Int) (b : List Int) : Option Bool :=
  if ¬ ((a.length : Int) = (b.length : Int)) then
  some false
  else
  Option.bind (α := Bool ⊕ Unit) (m_towncrierref01_SameInts_loop1 b a 0 ) fun z => match z with
  | (.inl r) => some r
  | (.inr _) =>
  some true
def m_slices_Contains_int_int (a0 : List Int) (a1 : Int) : Option Bool :=
  Option.bind (m_slices_Index_int_int a0 a1) fun v1 =>
  some (decide (v1 ≥ 0))
def m_quorum_Has (a0 : List Int) (a1 : Int) : Option Bool :=
  Option.bind (m_slices_Contains_int_int a0 a1) fun v1 =>
  some v1
def m_quorum_Check_loop1 : List Int → Int → Option (Int ⊕ Int)
  | [], n2 =>
    some (.inr n2)
  | y1 :: rest1, n2 =>
    if (y1 ≤ n2) ∨ (y1 ≥ 6) then
    some (.inl 60)
    else
    m_quorum_Check_loop1 rest1 (y1)
def m_quorum_Check (a0 : List Int) : Option Int :=
  if (a0.length : Int) > 6 then
  some 4
  else
  Option.bind (α := Int ⊕ Int) (m_quorum_Check_loop1 a0 (-1)) fun z => match z with
  | (.inl r) => some r
  | (.inr n1) =>
  if n1 < 0 then
  some 60
  else
  some 0
end Go.Proofs
end

/- The types of this seat as the Tm logic reads them; by program (gentabm.py). -/
import Derived.Test.YtiikjgnpbgngaaaChecked
import Derived.KernelRfl
import Derived.Test.YtiikjgnpbgngaaaNodeNewsPe
import Derived.Test.YtiikjgnpbgngaaaNodeNewsPf
section
namespace Go.Proofs
open Go.Tm

def Try.tmL : List (Nat × TI) := [
  (1, { kind := 1, size := 1, offs := [], zero := [.nilfn], el := 0, esz := 0, eby := 0, eagg := false, ik := none, eqs := false, ezero := [] }),
  (2, { kind := 6, size := 1, offs := [], zero := [.int .i64 0], el := 0, esz := 0, eby := 0, eagg := false, ik := some .i64, eqs := false, ezero := [] }),
  (3, { kind := 6, size := 1, offs := [], zero := [.int .i64 0], el := 0, esz := 0, eby := 0, eagg := false, ik := some .i64, eqs := false, ezero := [] }),
  (4, { kind := 8, size := 1, offs := [], zero := [.bool false], el := 0, esz := 0, eby := 0, eagg := false, ik := none, eqs := false, ezero := [] }),
  (5, { kind := 6, size := 1, offs := [], zero := [.int .u8 0], el := 0, esz := 0, eby := 0, eagg := false, ik := some .u8, eqs := false, ezero := [] }),
  (6, { kind := 6, size := 1, offs := [], zero := [.int .u8 0], el := 0, esz := 0, eby := 0, eagg := false, ik := some .u8, eqs := false, ezero := [] }),
  (7, { kind := 2, size := 4, offs := [(0, 1, false), (1, 1, false), (2, 1, false), (3, 1, false)], zero := [.int .i64 0, .int .i64 0, .bool false, .int .u8 0], el := 0, esz := 0, eby := 0, eagg := false, ik := none, eqs := false, ezero := [] }),
  (8, { kind := 2, size := 4, offs := [(0, 1, false), (1, 1, false), (2, 1, false), (3, 1, false)], zero := [.int .i64 0, .int .i64 0, .bool false, .int .u8 0], el := 0, esz := 0, eby := 0, eagg := false, ik := none, eqs := false, ezero := [] }),
  (9, { kind := 5, size := 1, offs := [], zero := [.str []], el := 0, esz := 0, eby := 0, eagg := false, ik := none, eqs := false, ezero := [] }),
  (10, { kind := 5, size := 1, offs := [], zero := [.str []], el := 0, esz := 0, eby := 0, eagg := false, ik := none, eqs := false, ezero := [] }),
  (11, { kind := 5, size := 1, offs := [], zero := [.str []], el := 0, esz := 0, eby := 0, eagg := false, ik := none, eqs := false, ezero := [] }),
  (12, { kind := 6, size := 1, offs := [], zero := [.int .u64 0], el := 0, esz := 0, eby := 0, eagg := false, ik := some .u64, eqs := false, ezero := [] }),
  (13, { kind := 2, size := 2, offs := [(0, 1, false), (1, 1, false)], zero := [.str [], .int .u64 0], el := 0, esz := 0, eby := 0, eagg := false, ik := none, eqs := false, ezero := [] }),
  (14, { kind := 2, size := 2, offs := [(0, 1, false), (1, 1, false)], zero := [.str [], .int .u64 0], el := 0, esz := 0, eby := 0, eagg := false, ik := none, eqs := false, ezero := [] }),
  (15, { kind := 1, size := 1, offs := [], zero := [.nilptr], el := 0, esz := 0, eby := 0, eagg := false, ik := none, eqs := false, ezero := [] }),
  (16, { kind := 1, size := 1, offs := [], zero := [.nilptr], el := 0, esz := 0, eby := 0, eagg := false, ik := none, eqs := false, ezero := [] }),
  (17, { kind := 1, size := 1, offs := [], zero := [.nilptr], el := 0, esz := 0, eby := 0, eagg := false, ik := none, eqs := false, ezero := [] }),
  (18, { kind := 2, size := 1, offs := [(0, 1, false)], zero := [.nilptr], el := 0, esz := 0, eby := 0, eagg := false, ik := none, eqs := false, ezero := [] }),
  (19, { kind := 2, size := 1, offs := [(0, 1, false)], zero := [.nilptr], el := 0, esz := 0, eby := 0, eagg := false, ik := none, eqs := false, ezero := [] }),
  (20, { kind := 7, size := 1, offs := [], zero := [.nilIface], el := 0, esz := 0, eby := 0, eagg := false, ik := none, eqs := false, ezero := [] }),
  (21, { kind := 6, size := 1, offs := [], zero := [.int .i32 0], el := 0, esz := 0, eby := 0, eagg := false, ik := some .i32, eqs := false, ezero := [] }),
  (22, { kind := 3, size := 1, offs := [], zero := [.imm 0 [] 0], el := 45, esz := 2, eby := 48, eagg := true, ik := none, eqs := false, ezero := [.imm 0 [] 0, .imm 0 [] 0] }),
  (23, { kind := 1, size := 1, offs := [], zero := [.nilfn], el := 0, esz := 0, eby := 0, eagg := false, ik := none, eqs := false, ezero := [] }),
  (24, { kind := 3, size := 1, offs := [], zero := [.imm 0 [] 0], el := 52, esz := 15, eby := 264, eagg := true, ik := none, eqs := false, ezero := [.int .i64 0, .int .i64 0, .imm 0 [] 0, .imm 0 [] 0, .imm 0 [] 0, .imm 0 [] 0, .int .u8 0, .int .i64 0, .imm 0 [] 0, .str [], .str [], .imm 0 [] 0, .imm 0 [] 0, .imm 0 [] 0, .int .i64 0] }),
  (25, { kind := 3, size := 1, offs := [], zero := [.imm 0 [] 0], el := 82, esz := 3, eby := 24, eagg := true, ik := none, eqs := false, ezero := [.int .i64 0, .int .i64 0, .int .i64 0] }),
  (26, { kind := 2, size := 4, offs := [(0, 1, false), (1, 1, false), (2, 1, false), (3, 1, false)], zero := [.int .i64 0, .imm 0 [] 0, .imm 0 [] 0, .imm 0 [] 0], el := 0, esz := 0, eby := 0, eagg := false, ik := none, eqs := false, ezero := [] }),
  (27, { kind := 2, size := 4, offs := [(0, 1, false), (1, 1, false), (2, 1, false), (3, 1, false)], zero := [.int .i64 0, .imm 0 [] 0, .imm 0 [] 0, .imm 0 [] 0], el := 0, esz := 0, eby := 0, eagg := false, ik := none, eqs := false, ezero := [] }),
  (28, { kind := 3, size := 1, offs := [], zero := [.imm 0 [] 0], el := 5, esz := 1, eby := 1, eagg := false, ik := none, eqs := false, ezero := [.int .u8 0] }),
  (29, { kind := 3, size := 1, offs := [], zero := [.imm 0 [] 0], el := 84, esz := 2, eby := 32, eagg := true, ik := none, eqs := false, ezero := [.bool false, .imm 0 [] 0] }),
  (30, { kind := 2, size := 2, offs := [(0, 1, false), (1, 1, false)], zero := [.imm 0 [] 0, .imm 0 [] 0], el := 0, esz := 0, eby := 0, eagg := false, ik := none, eqs := false, ezero := [] }),
  (31, { kind := 2, size := 2, offs := [(0, 1, false), (1, 1, false)], zero := [.imm 0 [] 0, .imm 0 [] 0], el := 0, esz := 0, eby := 0, eagg := false, ik := none, eqs := false, ezero := [] }),
  (32, { kind := 3, size := 1, offs := [], zero := [.imm 0 [] 0], el := 86, esz := 10, eby := 88, eagg := true, ik := none, eqs := false, ezero := [.int .i64 0, .int .i64 0, .int .u8 0, .int .i64 0, .int .i64 0, .int .i64 0, .int .i64 0, .str [], .int .i64 0, .int .i64 0] }),
  (33, { kind := 2, size := 8, offs := [(0, 1, false), (1, 4, true), (5, 2, true), (7, 1, false)], zero := [.bool false, .int .i64 0, .imm 0 [] 0, .imm 0 [] 0, .imm 0 [] 0, .imm 0 [] 0, .imm 0 [] 0, .imm 0 [] 0], el := 0, esz := 0, eby := 0, eagg := false, ik := none, eqs := false, ezero := [] }),
  (34, { kind := 2, size := 8, offs := [(0, 1, false), (1, 4, true), (5, 2, true), (7, 1, false)], zero := [.bool false, .int .i64 0, .imm 0 [] 0, .imm 0 [] 0, .imm 0 [] 0, .imm 0 [] 0, .imm 0 [] 0, .imm 0 [] 0], el := 0, esz := 0, eby := 0, eagg := false, ik := none, eqs := false, ezero := [] }),
  (35, { kind := 6, size := 1, offs := [], zero := [.int .i64 0], el := 0, esz := 0, eby := 0, eagg := false, ik := some .i64, eqs := false, ezero := [] }),
  (37, { kind := 1, size := 1, offs := [], zero := [.nilfn], el := 0, esz := 0, eby := 0, eagg := false, ik := none, eqs := false, ezero := [] }),
  (39, { kind := 1, size := 1, offs := [], zero := [.nilfn], el := 0, esz := 0, eby := 0, eagg := false, ik := none, eqs := false, ezero := [] }),
  (40, { kind := 1, size := 1, offs := [], zero := [.nilfn], el := 0, esz := 0, eby := 0, eagg := false, ik := none, eqs := false, ezero := [] }),
  (41, { kind := 1, size := 1, offs := [], zero := [.nilfn], el := 0, esz := 0, eby := 0, eagg := false, ik := none, eqs := false, ezero := [] }),
  (42, { kind := 1, size := 1, offs := [], zero := [.nilfn], el := 0, esz := 0, eby := 0, eagg := false, ik := none, eqs := false, ezero := [] }),
  (43, { kind := 3, size := 1, offs := [], zero := [.imm 0 [] 0], el := 3, esz := 1, eby := 8, eagg := false, ik := none, eqs := false, ezero := [.int .i64 0] }),
  (44, { kind := 2, size := 2, offs := [(0, 1, false), (1, 1, false)], zero := [.imm 0 [] 0, .imm 0 [] 0], el := 0, esz := 0, eby := 0, eagg := false, ik := none, eqs := false, ezero := [] }),
  (45, { kind := 2, size := 2, offs := [(0, 1, false), (1, 1, false)], zero := [.imm 0 [] 0, .imm 0 [] 0], el := 0, esz := 0, eby := 0, eagg := false, ik := none, eqs := false, ezero := [] }),
  (46, { kind := 3, size := 1, offs := [], zero := [.imm 0 [] 0], el := 9, esz := 1, eby := 16, eagg := false, ik := none, eqs := false, ezero := [.str []] }),
  (47, { kind := 3, size := 1, offs := [], zero := [.imm 0 [] 0], el := 63, esz := 5, eby := 48, eagg := true, ik := none, eqs := false, ezero := [.int .i64 0, .int .i64 0, .int .i64 0, .int .i64 0, .str []] }),
  (48, { kind := 3, size := 1, offs := [], zero := [.imm 0 [] 0], el := 88, esz := 3, eby := 32, eagg := true, ik := none, eqs := false, ezero := [.int .i64 0, .int .i64 0, .str []] }),
  (49, { kind := 2, size := 7, offs := [(0, 1, false), (1, 1, false), (2, 1, false), (3, 1, false), (4, 1, false), (5, 1, false), (6, 1, false)], zero := [.int .u8 0, .int .i64 0, .imm 0 [] 0, .str [], .str [], .imm 0 [] 0, .imm 0 [] 0], el := 0, esz := 0, eby := 0, eagg := false, ik := none, eqs := false, ezero := [] }),
  (50, { kind := 2, size := 7, offs := [(0, 1, false), (1, 1, false), (2, 1, false), (3, 1, false), (4, 1, false), (5, 1, false), (6, 1, false)], zero := [.int .u8 0, .int .i64 0, .imm 0 [] 0, .str [], .str [], .imm 0 [] 0, .imm 0 [] 0], el := 0, esz := 0, eby := 0, eagg := false, ik := none, eqs := false, ezero := [] }),
  (51, { kind := 2, size := 15, offs := [(0, 1, false), (1, 1, false), (2, 2, true), (4, 1, false), (5, 1, false), (6, 7, true), (13, 1, false), (14, 1, false)], zero := [.int .i64 0, .int .i64 0, .imm 0 [] 0, .imm 0 [] 0, .imm 0 [] 0, .imm 0 [] 0, .int .u8 0, .int .i64 0, .imm 0 [] 0, .str [], .str [], .imm 0 [] 0, .imm 0 [] 0, .imm 0 [] 0, .int .i64 0], el := 0, esz := 0, eby := 0, eagg := false, ik := none, eqs := false, ezero := [] }),
  (52, { kind := 2, size := 15, offs := [(0, 1, false), (1, 1, false), (2, 2, true), (4, 1, false), (5, 1, false), (6, 7, true), (13, 1, false), (14, 1, false)], zero := [.int .i64 0, .int .i64 0, .imm 0 [] 0, .imm 0 [] 0, .imm 0 [] 0, .imm 0 [] 0, .int .u8 0, .int .i64 0, .imm 0 [] 0, .str [], .str [], .imm 0 [] 0, .imm 0 [] 0, .imm 0 [] 0, .int .i64 0], el := 0, esz := 0, eby := 0, eagg := false, ik := none, eqs := false, ezero := [] }),
  (54, { kind := 1, size := 1, offs := [], zero := [.nilfn], el := 0, esz := 0, eby := 0, eagg := false, ik := none, eqs := false, ezero := [] }),
  (56, { kind := 1, size := 1, offs := [], zero := [.nilfn], el := 0, esz := 0, eby := 0, eagg := false, ik := none, eqs := false, ezero := [] }),
  (57, { kind := 1, size := 1, offs := [], zero := [.nilfn], el := 0, esz := 0, eby := 0, eagg := false, ik := none, eqs := false, ezero := [] }),
  (58, { kind := 1, size := 1, offs := [], zero := [.nilfn], el := 0, esz := 0, eby := 0, eagg := false, ik := none, eqs := false, ezero := [] }),
  (59, { kind := 1, size := 1, offs := [], zero := [.nilfn], el := 0, esz := 0, eby := 0, eagg := false, ik := none, eqs := false, ezero := [] }),
  (60, { kind := 2, size := 3, offs := [(0, 1, false), (1, 1, false), (2, 1, false)], zero := [.int .i64 0, .int .i64 0, .str []], el := 0, esz := 0, eby := 0, eagg := false, ik := none, eqs := false, ezero := [] }),
  (61, { kind := 2, size := 3, offs := [(0, 1, false), (1, 1, false), (2, 1, false)], zero := [.int .i64 0, .int .i64 0, .str []], el := 0, esz := 0, eby := 0, eagg := false, ik := none, eqs := true, ezero := [] }),
  (62, { kind := 2, size := 5, offs := [(0, 1, false), (1, 1, false), (2, 3, true)], zero := [.int .i64 0, .int .i64 0, .int .i64 0, .int .i64 0, .str []], el := 0, esz := 0, eby := 0, eagg := false, ik := none, eqs := false, ezero := [] }),
  (63, { kind := 2, size := 5, offs := [(0, 1, false), (1, 1, false), (2, 3, true)], zero := [.int .i64 0, .int .i64 0, .int .i64 0, .int .i64 0, .str []], el := 0, esz := 0, eby := 0, eagg := false, ik := none, eqs := true, ezero := [] }),
  (64, { kind := 1, size := 1, offs := [], zero := [.nilfn], el := 0, esz := 0, eby := 0, eagg := false, ik := none, eqs := false, ezero := [] }),
  (65, { kind := 1, size := 1, offs := [], zero := [.nilfn], el := 0, esz := 0, eby := 0, eagg := false, ik := none, eqs := false, ezero := [] }),
  (66, { kind := 1, size := 1, offs := [], zero := [.nilfn], el := 0, esz := 0, eby := 0, eagg := false, ik := none, eqs := false, ezero := [] }),
  (67, { kind := 1, size := 1, offs := [], zero := [.nilptr], el := 0, esz := 0, eby := 0, eagg := false, ik := none, eqs := false, ezero := [] }),
  (68, { kind := 1, size := 1, offs := [], zero := [.nilfn], el := 0, esz := 0, eby := 0, eagg := false, ik := none, eqs := false, ezero := [] }),
  (69, { kind := 3, size := 1, offs := [], zero := [.imm 0 [] 0], el := 129, esz := 5, eby := 48, eagg := true, ik := none, eqs := false, ezero := [.int .u8 0, .int .i64 0, .int .i64 0, .int .i64 0, .str []] }),
  (70, { kind := 2, size := 6, offs := [(0, 4, true), (4, 1, false), (5, 1, false)], zero := [.int .i64 0, .imm 0 [] 0, .imm 0 [] 0, .imm 0 [] 0, .imm 0 [] 0, .imm 0 [] 0], el := 0, esz := 0, eby := 0, eagg := false, ik := none, eqs := false, ezero := [] }),
  (71, { kind := 2, size := 6, offs := [(0, 4, true), (4, 1, false), (5, 1, false)], zero := [.int .i64 0, .imm 0 [] 0, .imm 0 [] 0, .imm 0 [] 0, .imm 0 [] 0, .imm 0 [] 0], el := 0, esz := 0, eby := 0, eagg := false, ik := none, eqs := false, ezero := [] }),
  (72, { kind := 1, size := 1, offs := [], zero := [.nilfn], el := 0, esz := 0, eby := 0, eagg := false, ik := none, eqs := false, ezero := [] }),
  (74, { kind := 1, size := 1, offs := [], zero := [.nilfn], el := 0, esz := 0, eby := 0, eagg := false, ik := none, eqs := false, ezero := [] }),
  (75, { kind := 1, size := 1, offs := [], zero := [.nilfn], el := 0, esz := 0, eby := 0, eagg := false, ik := none, eqs := false, ezero := [] }),
  (76, { kind := 1, size := 1, offs := [], zero := [.nilfn], el := 0, esz := 0, eby := 0, eagg := false, ik := none, eqs := false, ezero := [] }),
  (78, { kind := 1, size := 1, offs := [], zero := [.nilfn], el := 0, esz := 0, eby := 0, eagg := false, ik := none, eqs := false, ezero := [] }),
  (79, { kind := 1, size := 1, offs := [], zero := [.nilfn], el := 0, esz := 0, eby := 0, eagg := false, ik := none, eqs := false, ezero := [] }),
  (80, { kind := 1, size := 1, offs := [], zero := [.nilfn], el := 0, esz := 0, eby := 0, eagg := false, ik := none, eqs := false, ezero := [] }),
  (81, { kind := 2, size := 3, offs := [(0, 1, false), (1, 1, false), (2, 1, false)], zero := [.int .i64 0, .int .i64 0, .int .i64 0], el := 0, esz := 0, eby := 0, eagg := false, ik := none, eqs := false, ezero := [] }),
  (82, { kind := 2, size := 3, offs := [(0, 1, false), (1, 1, false), (2, 1, false)], zero := [.int .i64 0, .int .i64 0, .int .i64 0], el := 0, esz := 0, eby := 0, eagg := false, ik := none, eqs := true, ezero := [] }),
  (83, { kind := 2, size := 2, offs := [(0, 1, false), (1, 1, false)], zero := [.bool false, .imm 0 [] 0], el := 0, esz := 0, eby := 0, eagg := false, ik := none, eqs := false, ezero := [] }),
  (84, { kind := 2, size := 2, offs := [(0, 1, false), (1, 1, false)], zero := [.bool false, .imm 0 [] 0], el := 0, esz := 0, eby := 0, eagg := false, ik := none, eqs := false, ezero := [] }),
  (85, { kind := 2, size := 10, offs := [(0, 1, false), (1, 1, false), (2, 1, false), (3, 1, false), (4, 1, false), (5, 1, false), (6, 1, false), (7, 1, false), (8, 1, false), (9, 1, false)], zero := [.int .i64 0, .int .i64 0, .int .u8 0, .int .i64 0, .int .i64 0, .int .i64 0, .int .i64 0, .str [], .int .i64 0, .int .i64 0], el := 0, esz := 0, eby := 0, eagg := false, ik := none, eqs := false, ezero := [] }),
  (86, { kind := 2, size := 10, offs := [(0, 1, false), (1, 1, false), (2, 1, false), (3, 1, false), (4, 1, false), (5, 1, false), (6, 1, false), (7, 1, false), (8, 1, false), (9, 1, false)], zero := [.int .i64 0, .int .i64 0, .int .u8 0, .int .i64 0, .int .i64 0, .int .i64 0, .int .i64 0, .str [], .int .i64 0, .int .i64 0], el := 0, esz := 0, eby := 0, eagg := false, ik := none, eqs := true, ezero := [] }),
  (87, { kind := 2, size := 3, offs := [(0, 1, false), (1, 1, false), (2, 1, false)], zero := [.int .i64 0, .int .i64 0, .str []], el := 0, esz := 0, eby := 0, eagg := false, ik := none, eqs := false, ezero := [] }),
  (88, { kind := 2, size := 3, offs := [(0, 1, false), (1, 1, false), (2, 1, false)], zero := [.int .i64 0, .int .i64 0, .str []], el := 0, esz := 0, eby := 0, eagg := false, ik := none, eqs := true, ezero := [] }),
  (89, { kind := 1, size := 1, offs := [], zero := [.nilfn], el := 0, esz := 0, eby := 0, eagg := false, ik := none, eqs := false, ezero := [] }),
  (90, { kind := 1, size := 1, offs := [], zero := [.nilfn], el := 0, esz := 0, eby := 0, eagg := false, ik := none, eqs := false, ezero := [] }),
  (91, { kind := 1, size := 1, offs := [], zero := [.nilfn], el := 0, esz := 0, eby := 0, eagg := false, ik := none, eqs := false, ezero := [] }),
  (92, { kind := 1, size := 1, offs := [], zero := [.nilfn], el := 0, esz := 0, eby := 0, eagg := false, ik := none, eqs := false, ezero := [] }),
  (93, { kind := 1, size := 1, offs := [], zero := [.nilfn], el := 0, esz := 0, eby := 0, eagg := false, ik := none, eqs := false, ezero := [] }),
  (94, { kind := 1, size := 1, offs := [], zero := [.nilfn], el := 0, esz := 0, eby := 0, eagg := false, ik := none, eqs := false, ezero := [] }),
  (95, { kind := 1, size := 1, offs := [], zero := [.nilfn], el := 0, esz := 0, eby := 0, eagg := false, ik := none, eqs := false, ezero := [] }),
  (96, { kind := 1, size := 1, offs := [], zero := [.nilfn], el := 0, esz := 0, eby := 0, eagg := false, ik := none, eqs := false, ezero := [] }),
  (97, { kind := 1, size := 1, offs := [], zero := [.nilfn], el := 0, esz := 0, eby := 0, eagg := false, ik := none, eqs := false, ezero := [] }),
  (98, { kind := 1, size := 1, offs := [], zero := [.nilfn], el := 0, esz := 0, eby := 0, eagg := false, ik := none, eqs := false, ezero := [] }),
  (99, { kind := 1, size := 1, offs := [], zero := [.nilfn], el := 0, esz := 0, eby := 0, eagg := false, ik := none, eqs := false, ezero := [] }),
  (100, { kind := 1, size := 1, offs := [], zero := [.nilfn], el := 0, esz := 0, eby := 0, eagg := false, ik := none, eqs := false, ezero := [] }),
  (101, { kind := 6, size := 1, offs := [], zero := [.int .u64 0], el := 0, esz := 0, eby := 0, eagg := false, ik := some .u64, eqs := false, ezero := [] }),
  (102, { kind := 1, size := 1, offs := [], zero := [.nilfn], el := 0, esz := 0, eby := 0, eagg := false, ik := none, eqs := false, ezero := [] }),
  (103, { kind := 1, size := 1, offs := [], zero := [.nilfn], el := 0, esz := 0, eby := 0, eagg := false, ik := none, eqs := false, ezero := [] }),
  (104, { kind := 1, size := 1, offs := [], zero := [.nilfn], el := 0, esz := 0, eby := 0, eagg := false, ik := none, eqs := false, ezero := [] }),
  (105, { kind := 1, size := 1, offs := [], zero := [.nilfn], el := 0, esz := 0, eby := 0, eagg := false, ik := none, eqs := false, ezero := [] }),
  (106, { kind := 1, size := 1, offs := [], zero := [.nilfn], el := 0, esz := 0, eby := 0, eagg := false, ik := none, eqs := false, ezero := [] }),
  (107, { kind := 1, size := 1, offs := [], zero := [.nilfn], el := 0, esz := 0, eby := 0, eagg := false, ik := none, eqs := false, ezero := [] }),
  (108, { kind := 1, size := 1, offs := [], zero := [.nilfn], el := 0, esz := 0, eby := 0, eagg := false, ik := none, eqs := false, ezero := [] }),
  (109, { kind := 1, size := 1, offs := [], zero := [.nilfn], el := 0, esz := 0, eby := 0, eagg := false, ik := none, eqs := false, ezero := [] }),
  (110, { kind := 1, size := 1, offs := [], zero := [.nilfn], el := 0, esz := 0, eby := 0, eagg := false, ik := none, eqs := false, ezero := [] }),
  (111, { kind := 1, size := 1, offs := [], zero := [.nilfn], el := 0, esz := 0, eby := 0, eagg := false, ik := none, eqs := false, ezero := [] }),
  (112, { kind := 1, size := 1, offs := [], zero := [.nilfn], el := 0, esz := 0, eby := 0, eagg := false, ik := none, eqs := false, ezero := [] }),
  (113, { kind := 2, size := 4, offs := [(0, 1, false), (1, 1, false), (2, 1, false), (3, 1, false)], zero := [.nilptr, .nilptr, .nilptr, .str []], el := 0, esz := 0, eby := 0, eagg := false, ik := none, eqs := false, ezero := [] }),
  (114, { kind := 2, size := 4, offs := [(0, 1, false), (1, 1, false), (2, 1, false), (3, 1, false)], zero := [.nilptr, .nilptr, .nilptr, .str []], el := 0, esz := 0, eby := 0, eagg := false, ik := none, eqs := false, ezero := [] }),
  (115, { kind := 4, size := 0, offs := [], zero := [], el := 0, esz := 0, eby := 0, eagg := false, ik := none, eqs := false, ezero := [] }),
  (118, { kind := 1, size := 1, offs := [], zero := [.nilfn], el := 0, esz := 0, eby := 0, eagg := false, ik := none, eqs := false, ezero := [] }),
  (119, { kind := 6, size := 1, offs := [], zero := [.int .u32 0], el := 0, esz := 0, eby := 0, eagg := false, ik := some .u32, eqs := false, ezero := [] }),
  (120, { kind := 6, size := 1, offs := [], zero := [.int .u8 0], el := 0, esz := 0, eby := 0, eagg := false, ik := some .u8, eqs := false, ezero := [] }),
  (121, { kind := 6, size := 1, offs := [], zero := [.int .u8 0], el := 0, esz := 0, eby := 0, eagg := false, ik := some .u8, eqs := false, ezero := [] }),
  (122, { kind := 1, size := 1, offs := [], zero := [.nilfn], el := 0, esz := 0, eby := 0, eagg := false, ik := none, eqs := false, ezero := [] }),
  (123, { kind := 1, size := 1, offs := [], zero := [.nilptr], el := 0, esz := 0, eby := 0, eagg := false, ik := none, eqs := false, ezero := [] }),
  (124, { kind := 6, size := 1, offs := [], zero := [.int .i32 0], el := 0, esz := 0, eby := 0, eagg := false, ik := some .i32, eqs := false, ezero := [] }),
  (125, { kind := 6, size := 1, offs := [], zero := [.int .i32 0], el := 0, esz := 0, eby := 0, eagg := false, ik := some .i32, eqs := false, ezero := [] }),
  (126, { kind := 2, size := 11, offs := [(0, 1, false), (1, 1, false), (2, 1, false), (3, 1, false), (4, 1, false), (5, 1, false), (6, 1, false), (7, 1, false), (8, 1, false), (9, 1, false), (10, 1, false)], zero := [.int .u64 0, .int .u64 0, .int .u32 0, .int .u8 0, .int .u8 0, .int .u8 0, .int .u8 0, .nilfn, .nilptr, .int .i32 0, .int .i32 0], el := 0, esz := 0, eby := 0, eagg := false, ik := none, eqs := false, ezero := [] }),
  (127, { kind := 2, size := 11, offs := [(0, 1, false), (1, 1, false), (2, 1, false), (3, 1, false), (4, 1, false), (5, 1, false), (6, 1, false), (7, 1, false), (8, 1, false), (9, 1, false), (10, 1, false)], zero := [.int .u64 0, .int .u64 0, .int .u32 0, .int .u8 0, .int .u8 0, .int .u8 0, .int .u8 0, .nilfn, .nilptr, .int .i32 0, .int .i32 0], el := 0, esz := 0, eby := 0, eagg := false, ik := none, eqs := false, ezero := [] }),
  (128, { kind := 2, size := 5, offs := [(0, 1, false), (1, 1, false), (2, 1, false), (3, 1, false), (4, 1, false)], zero := [.int .u8 0, .int .i64 0, .int .i64 0, .int .i64 0, .str []], el := 0, esz := 0, eby := 0, eagg := false, ik := none, eqs := false, ezero := [] }),
  (129, { kind := 2, size := 5, offs := [(0, 1, false), (1, 1, false), (2, 1, false), (3, 1, false), (4, 1, false)], zero := [.int .u8 0, .int .i64 0, .int .i64 0, .int .i64 0, .str []], el := 0, esz := 0, eby := 0, eagg := false, ik := none, eqs := true, ezero := [] })]
def Try.tm (t : Nat) : TI := match getL Try.tmL t with | some x => x | none => default
theorem Try.tmAll : (Try.tmL.all fun x => tiChk Try.prog x.1 x.2 && (!x.2.eqs || eqsChk Try.prog x.1 x.2)) = true := by kernel_rfl
theorem Try.tmOk : TabOk Try.prog Try.tm := tabOk_of Try.tmAll
theorem Try.tmMixed : Try.prog.follows .mixedOrders = true := by kernel_rfl
end Go.Proofs
end
section
/- The types one by one; by program (gentabm.py). -/

namespace Go.Proofs
open Go.Tm

theorem Try.tm_1 : Try.tm 1 = { kind := 1, size := 1, offs := [], zero := [.nilfn], el := 0, esz := 0, eby := 0, eagg := false, ik := none, eqs := false, ezero := [] } := by kernel_rfl
theorem Try.tm_2 : Try.tm 2 = { kind := 6, size := 1, offs := [], zero := [.int .i64 0], el := 0, esz := 0, eby := 0, eagg := false, ik := some .i64, eqs := false, ezero := [] } := by kernel_rfl
theorem Try.tm_3 : Try.tm 3 = { kind := 6, size := 1, offs := [], zero := [.int .i64 0], el := 0, esz := 0, eby := 0, eagg := false, ik := some .i64, eqs := false, ezero := [] } := by kernel_rfl
theorem Try.tm_4 : Try.tm 4 = { kind := 8, size := 1, offs := [], zero := [.bool false], el := 0, esz := 0, eby := 0, eagg := false, ik := none, eqs := false, ezero := [] } := by kernel_rfl
theorem Try.tm_5 : Try.tm 5 = { kind := 6, size := 1, offs := [], zero := [.int .u8 0], el := 0, esz := 0, eby := 0, eagg := false, ik := some .u8, eqs := false, ezero := [] } := by kernel_rfl
theorem Try.tm_6 : Try.tm 6 = { kind := 6, size := 1, offs := [], zero := [.int .u8 0], el := 0, esz := 0, eby := 0, eagg := false, ik := some .u8, eqs := false, ezero := [] } := by kernel_rfl
theorem Try.tm_7 : Try.tm 7 = { kind := 2, size := 4, offs := [(0, 1, false), (1, 1, false), (2, 1, false), (3, 1, false)], zero := [.int .i64 0, .int .i64 0, .bool false, .int .u8 0], el := 0, esz := 0, eby := 0, eagg := false, ik := none, eqs := false, ezero := [] } := by kernel_rfl
theorem Try.tm_8 : Try.tm 8 = { kind := 2, size := 4, offs := [(0, 1, false), (1, 1, false), (2, 1, false), (3, 1, false)], zero := [.int .i64 0, .int .i64 0, .bool false, .int .u8 0], el := 0, esz := 0, eby := 0, eagg := false, ik := none, eqs := false, ezero := [] } := by kernel_rfl
theorem Try.tm_9 : Try.tm 9 = { kind := 5, size := 1, offs := [], zero := [.str []], el := 0, esz := 0, eby := 0, eagg := false, ik := none, eqs := false, ezero := [] } := by kernel_rfl
theorem Try.tm_10 : Try.tm 10 = { kind := 5, size := 1, offs := [], zero := [.str []], el := 0, esz := 0, eby := 0, eagg := false, ik := none, eqs := false, ezero := [] } := by kernel_rfl
theorem Try.tm_11 : Try.tm 11 = { kind := 5, size := 1, offs := [], zero := [.str []], el := 0, esz := 0, eby := 0, eagg := false, ik := none, eqs := false, ezero := [] } := by kernel_rfl
theorem Try.tm_12 : Try.tm 12 = { kind := 6, size := 1, offs := [], zero := [.int .u64 0], el := 0, esz := 0, eby := 0, eagg := false, ik := some .u64, eqs := false, ezero := [] } := by kernel_rfl
theorem Try.tm_13 : Try.tm 13 = { kind := 2, size := 2, offs := [(0, 1, false), (1, 1, false)], zero := [.str [], .int .u64 0], el := 0, esz := 0, eby := 0, eagg := false, ik := none, eqs := false, ezero := [] } := by kernel_rfl
theorem Try.tm_14 : Try.tm 14 = { kind := 2, size := 2, offs := [(0, 1, false), (1, 1, false)], zero := [.str [], .int .u64 0], el := 0, esz := 0, eby := 0, eagg := false, ik := none, eqs := false, ezero := [] } := by kernel_rfl
theorem Try.tm_15 : Try.tm 15 = { kind := 1, size := 1, offs := [], zero := [.nilptr], el := 0, esz := 0, eby := 0, eagg := false, ik := none, eqs := false, ezero := [] } := by kernel_rfl
theorem Try.tm_16 : Try.tm 16 = { kind := 1, size := 1, offs := [], zero := [.nilptr], el := 0, esz := 0, eby := 0, eagg := false, ik := none, eqs := false, ezero := [] } := by kernel_rfl
theorem Try.tm_17 : Try.tm 17 = { kind := 1, size := 1, offs := [], zero := [.nilptr], el := 0, esz := 0, eby := 0, eagg := false, ik := none, eqs := false, ezero := [] } := by kernel_rfl
theorem Try.tm_18 : Try.tm 18 = { kind := 2, size := 1, offs := [(0, 1, false)], zero := [.nilptr], el := 0, esz := 0, eby := 0, eagg := false, ik := none, eqs := false, ezero := [] } := by kernel_rfl
theorem Try.tm_19 : Try.tm 19 = { kind := 2, size := 1, offs := [(0, 1, false)], zero := [.nilptr], el := 0, esz := 0, eby := 0, eagg := false, ik := none, eqs := false, ezero := [] } := by kernel_rfl
theorem Try.tm_20 : Try.tm 20 = { kind := 7, size := 1, offs := [], zero := [.nilIface], el := 0, esz := 0, eby := 0, eagg := false, ik := none, eqs := false, ezero := [] } := by kernel_rfl
theorem Try.tm_21 : Try.tm 21 = { kind := 6, size := 1, offs := [], zero := [.int .i32 0], el := 0, esz := 0, eby := 0, eagg := false, ik := some .i32, eqs := false, ezero := [] } := by kernel_rfl
theorem Try.tm_22 : Try.tm 22 = { kind := 3, size := 1, offs := [], zero := [.imm 0 [] 0], el := 45, esz := 2, eby := 48, eagg := true, ik := none, eqs := false, ezero := [.imm 0 [] 0, .imm 0 [] 0] } := by kernel_rfl
theorem Try.tm_23 : Try.tm 23 = { kind := 1, size := 1, offs := [], zero := [.nilfn], el := 0, esz := 0, eby := 0, eagg := false, ik := none, eqs := false, ezero := [] } := by kernel_rfl
theorem Try.tm_24 : Try.tm 24 = { kind := 3, size := 1, offs := [], zero := [.imm 0 [] 0], el := 52, esz := 15, eby := 264, eagg := true, ik := none, eqs := false, ezero := [.int .i64 0, .int .i64 0, .imm 0 [] 0, .imm 0 [] 0, .imm 0 [] 0, .imm 0 [] 0, .int .u8 0, .int .i64 0, .imm 0 [] 0, .str [], .str [], .imm 0 [] 0, .imm 0 [] 0, .imm 0 [] 0, .int .i64 0] } := by kernel_rfl
theorem Try.tm_25 : Try.tm 25 = { kind := 3, size := 1, offs := [], zero := [.imm 0 [] 0], el := 82, esz := 3, eby := 24, eagg := true, ik := none, eqs := false, ezero := [.int .i64 0, .int .i64 0, .int .i64 0] } := by kernel_rfl
theorem Try.tm_26 : Try.tm 26 = { kind := 2, size := 4, offs := [(0, 1, false), (1, 1, false), (2, 1, false), (3, 1, false)], zero := [.int .i64 0, .imm 0 [] 0, .imm 0 [] 0, .imm 0 [] 0], el := 0, esz := 0, eby := 0, eagg := false, ik := none, eqs := false, ezero := [] } := by kernel_rfl
theorem Try.tm_27 : Try.tm 27 = { kind := 2, size := 4, offs := [(0, 1, false), (1, 1, false), (2, 1, false), (3, 1, false)], zero := [.int .i64 0, .imm 0 [] 0, .imm 0 [] 0, .imm 0 [] 0], el := 0, esz := 0, eby := 0, eagg := false, ik := none, eqs := false, ezero := [] } := by kernel_rfl
theorem Try.tm_28 : Try.tm 28 = { kind := 3, size := 1, offs := [], zero := [.imm 0 [] 0], el := 5, esz := 1, eby := 1, eagg := false, ik := none, eqs := false, ezero := [.int .u8 0] } := by kernel_rfl
theorem Try.tm_29 : Try.tm 29 = { kind := 3, size := 1, offs := [], zero := [.imm 0 [] 0], el := 84, esz := 2, eby := 32, eagg := true, ik := none, eqs := false, ezero := [.bool false, .imm 0 [] 0] } := by kernel_rfl
theorem Try.tm_30 : Try.tm 30 = { kind := 2, size := 2, offs := [(0, 1, false), (1, 1, false)], zero := [.imm 0 [] 0, .imm 0 [] 0], el := 0, esz := 0, eby := 0, eagg := false, ik := none, eqs := false, ezero := [] } := by kernel_rfl
theorem Try.tm_31 : Try.tm 31 = { kind := 2, size := 2, offs := [(0, 1, false), (1, 1, false)], zero := [.imm 0 [] 0, .imm 0 [] 0], el := 0, esz := 0, eby := 0, eagg := false, ik := none, eqs := false, ezero := [] } := by kernel_rfl
theorem Try.tm_32 : Try.tm 32 = { kind := 3, size := 1, offs := [], zero := [.imm 0 [] 0], el := 86, esz := 10, eby := 88, eagg := true, ik := none, eqs := false, ezero := [.int .i64 0, .int .i64 0, .int .u8 0, .int .i64 0, .int .i64 0, .int .i64 0, .int .i64 0, .str [], .int .i64 0, .int .i64 0] } := by kernel_rfl
theorem Try.tm_33 : Try.tm 33 = { kind := 2, size := 8, offs := [(0, 1, false), (1, 4, true), (5, 2, true), (7, 1, false)], zero := [.bool false, .int .i64 0, .imm 0 [] 0, .imm 0 [] 0, .imm 0 [] 0, .imm 0 [] 0, .imm 0 [] 0, .imm 0 [] 0], el := 0, esz := 0, eby := 0, eagg := false, ik := none, eqs := false, ezero := [] } := by kernel_rfl
theorem Try.tm_34 : Try.tm 34 = { kind := 2, size := 8, offs := [(0, 1, false), (1, 4, true), (5, 2, true), (7, 1, false)], zero := [.bool false, .int .i64 0, .imm 0 [] 0, .imm 0 [] 0, .imm 0 [] 0, .imm 0 [] 0, .imm 0 [] 0, .imm 0 [] 0], el := 0, esz := 0, eby := 0, eagg := false, ik := none, eqs := false, ezero := [] } := by kernel_rfl
theorem Try.tm_35 : Try.tm 35 = { kind := 6, size := 1, offs := [], zero := [.int .i64 0], el := 0, esz := 0, eby := 0, eagg := false, ik := some .i64, eqs := false, ezero := [] } := by kernel_rfl
theorem Try.tm_37 : Try.tm 37 = { kind := 1, size := 1, offs := [], zero := [.nilfn], el := 0, esz := 0, eby := 0, eagg := false, ik := none, eqs := false, ezero := [] } := by kernel_rfl
theorem Try.tm_39 : Try.tm 39 = { kind := 1, size := 1, offs := [], zero := [.nilfn], el := 0, esz := 0, eby := 0, eagg := false, ik := none, eqs := false, ezero := [] } := by kernel_rfl
theorem Try.tm_40 : Try.tm 40 = { kind := 1, size := 1, offs := [], zero := [.nilfn], el := 0, esz := 0, eby := 0, eagg := false, ik := none, eqs := false, ezero := [] } := by kernel_rfl
theorem Try.tm_41 : Try.tm 41 = { kind := 1, size := 1, offs := [], zero := [.nilfn], el := 0, esz := 0, eby := 0, eagg := false, ik := none, eqs := false, ezero := [] } := by kernel_rfl
theorem Try.tm_42 : Try.tm 42 = { kind := 1, size := 1, offs := [], zero := [.nilfn], el := 0, esz := 0, eby := 0, eagg := false, ik := none, eqs := false, ezero := [] } := by kernel_rfl
theorem Try.tm_43 : Try.tm 43 = { kind := 3, size := 1, offs := [], zero := [.imm 0 [] 0], el := 3, esz := 1, eby := 8, eagg := false, ik := none, eqs := false, ezero := [.int .i64 0] } := by kernel_rfl
theorem Try.tm_44 : Try.tm 44 = { kind := 2, size := 2, offs := [(0, 1, false), (1, 1, false)], zero := [.imm 0 [] 0, .imm 0 [] 0], el := 0, esz := 0, eby := 0, eagg := false, ik := none, eqs := false, ezero := [] } := by kernel_rfl
theorem Try.tm_45 : Try.tm 45 = { kind := 2, size := 2, offs := [(0, 1, false), (1, 1, false)], zero := [.imm 0 [] 0, .imm 0 [] 0], el := 0, esz := 0, eby := 0, eagg := false, ik := none, eqs := false, ezero := [] } := by kernel_rfl
theorem Try.tm_46 : Try.tm 46 = { kind := 3, size := 1, offs := [], zero := [.imm 0 [] 0], el := 9, esz := 1, eby := 16, eagg := false, ik := none, eqs := false, ezero := [.str []] } := by kernel_rfl
theorem Try.tm_47 : Try.tm 47 = { kind := 3, size := 1, offs := [], zero := [.imm 0 [] 0], el := 63, esz := 5, eby := 48, eagg := true, ik := none, eqs := false, ezero := [.int .i64 0, .int .i64 0, .int .i64 0, .int .i64 0, .str []] } := by kernel_rfl
theorem Try.tm_48 : Try.tm 48 = { kind := 3, size := 1, offs := [], zero := [.imm 0 [] 0], el := 88, esz := 3, eby := 32, eagg := true, ik := none, eqs := false, ezero := [.int .i64 0, .int .i64 0, .str []] } := by kernel_rfl
theorem Try.tm_49 : Try.tm 49 = { kind := 2, size := 7, offs := [(0, 1, false), (1, 1, false), (2, 1, false), (3, 1, false), (4, 1, false), (5, 1, false), (6, 1, false)], zero := [.int .u8 0, .int .i64 0, .imm 0 [] 0, .str [], .str [], .imm 0 [] 0, .imm 0 [] 0], el := 0, esz := 0, eby := 0, eagg := false, ik := none, eqs := false, ezero := [] } := by kernel_rfl
theorem Try.tm_50 : Try.tm 50 = { kind := 2, size := 7, offs := [(0, 1, false), (1, 1, false), (2, 1, false), (3, 1, false), (4, 1, false), (5, 1, false), (6, 1, false)], zero := [.int .u8 0, .int .i64 0, .imm 0 [] 0, .str [], .str [], .imm 0 [] 0, .imm 0 [] 0], el := 0, esz := 0, eby := 0, eagg := false, ik := none, eqs := false, ezero := [] } := by kernel_rfl
theorem Try.tm_51 : Try.tm 51 = { kind := 2, size := 15, offs := [(0, 1, false), (1, 1, false), (2, 2, true), (4, 1, false), (5, 1, false), (6, 7, true), (13, 1, false), (14, 1, false)], zero := [.int .i64 0, .int .i64 0, .imm 0 [] 0, .imm 0 [] 0, .imm 0 [] 0, .imm 0 [] 0, .int .u8 0, .int .i64 0, .imm 0 [] 0, .str [], .str [], .imm 0 [] 0, .imm 0 [] 0, .imm 0 [] 0, .int .i64 0], el := 0, esz := 0, eby := 0, eagg := false, ik := none, eqs := false, ezero := [] } := by kernel_rfl
theorem Try.tm_52 : Try.tm 52 = { kind := 2, size := 15, offs := [(0, 1, false), (1, 1, false), (2, 2, true), (4, 1, false), (5, 1, false), (6, 7, true), (13, 1, false), (14, 1, false)], zero := [.int .i64 0, .int .i64 0, .imm 0 [] 0, .imm 0 [] 0, .imm 0 [] 0, .imm 0 [] 0, .int .u8 0, .int .i64 0, .imm 0 [] 0, .str [], .str [], .imm 0 [] 0, .imm 0 [] 0, .imm 0 [] 0, .int .i64 0], el := 0, esz := 0, eby := 0, eagg := false, ik := none, eqs := false, ezero := [] } := by kernel_rfl
theorem Try.tm_54 : Try.tm 54 = { kind := 1, size := 1, offs := [], zero := [.nilfn], el := 0, esz := 0, eby := 0, eagg := false, ik := none, eqs := false, ezero := [] } := by kernel_rfl
theorem Try.tm_56 : Try.tm 56 = { kind := 1, size := 1, offs := [], zero := [.nilfn], el := 0, esz := 0, eby := 0, eagg := false, ik := none, eqs := false, ezero := [] } := by kernel_rfl
theorem Try.tm_57 : Try.tm 57 = { kind := 1, size := 1, offs := [], zero := [.nilfn], el := 0, esz := 0, eby := 0, eagg := false, ik := none, eqs := false, ezero := [] } := by kernel_rfl
theorem Try.tm_58 : Try.tm 58 = { kind := 1, size := 1, offs := [], zero := [.nilfn], el := 0, esz := 0, eby := 0, eagg := false, ik := none, eqs := false, ezero := [] } := by kernel_rfl
theorem Try.tm_59 : Try.tm 59 = { kind := 1, size := 1, offs := [], zero := [.nilfn], el := 0, esz := 0, eby := 0, eagg := false, ik := none, eqs := false, ezero := [] } := by kernel_rfl
theorem Try.tm_60 : Try.tm 60 = { kind := 2, size := 3, offs := [(0, 1, false), (1, 1, false), (2, 1, false)], zero := [.int .i64 0, .int .i64 0, .str []], el := 0, esz := 0, eby := 0, eagg := false, ik := none, eqs := false, ezero := [] } := by kernel_rfl
theorem Try.tm_61 : Try.tm 61 = { kind := 2, size := 3, offs := [(0, 1, false), (1, 1, false), (2, 1, false)], zero := [.int .i64 0, .int .i64 0, .str []], el := 0, esz := 0, eby := 0, eagg := false, ik := none, eqs := true, ezero := [] } := by kernel_rfl
theorem Try.tm_62 : Try.tm 62 = { kind := 2, size := 5, offs := [(0, 1, false), (1, 1, false), (2, 3, true)], zero := [.int .i64 0, .int .i64 0, .int .i64 0, .int .i64 0, .str []], el := 0, esz := 0, eby := 0, eagg := false, ik := none, eqs := false, ezero := [] } := by kernel_rfl
theorem Try.tm_63 : Try.tm 63 = { kind := 2, size := 5, offs := [(0, 1, false), (1, 1, false), (2, 3, true)], zero := [.int .i64 0, .int .i64 0, .int .i64 0, .int .i64 0, .str []], el := 0, esz := 0, eby := 0, eagg := false, ik := none, eqs := true, ezero := [] } := by kernel_rfl
theorem Try.tm_64 : Try.tm 64 = { kind := 1, size := 1, offs := [], zero := [.nilfn], el := 0, esz := 0, eby := 0, eagg := false, ik := none, eqs := false, ezero := [] } := by kernel_rfl
theorem Try.tm_65 : Try.tm 65 = { kind := 1, size := 1, offs := [], zero := [.nilfn], el := 0, esz := 0, eby := 0, eagg := false, ik := none, eqs := false, ezero := [] } := by kernel_rfl
theorem Try.tm_66 : Try.tm 66 = { kind := 1, size := 1, offs := [], zero := [.nilfn], el := 0, esz := 0, eby := 0, eagg := false, ik := none, eqs := false, ezero := [] } := by kernel_rfl
theorem Try.tm_67 : Try.tm 67 = { kind := 1, size := 1, offs := [], zero := [.nilptr], el := 0, esz := 0, eby := 0, eagg := false, ik := none, eqs := false, ezero := [] } := by kernel_rfl
theorem Try.tm_68 : Try.tm 68 = { kind := 1, size := 1, offs := [], zero := [.nilfn], el := 0, esz := 0, eby := 0, eagg := false, ik := none, eqs := false, ezero := [] } := by kernel_rfl
theorem Try.tm_69 : Try.tm 69 = { kind := 3, size := 1, offs := [], zero := [.imm 0 [] 0], el := 129, esz := 5, eby := 48, eagg := true, ik := none, eqs := false, ezero := [.int .u8 0, .int .i64 0, .int .i64 0, .int .i64 0, .str []] } := by kernel_rfl
theorem Try.tm_70 : Try.tm 70 = { kind := 2, size := 6, offs := [(0, 4, true), (4, 1, false), (5, 1, false)], zero := [.int .i64 0, .imm 0 [] 0, .imm 0 [] 0, .imm 0 [] 0, .imm 0 [] 0, .imm 0 [] 0], el := 0, esz := 0, eby := 0, eagg := false, ik := none, eqs := false, ezero := [] } := by kernel_rfl
theorem Try.tm_71 : Try.tm 71 = { kind := 2, size := 6, offs := [(0, 4, true), (4, 1, false), (5, 1, false)], zero := [.int .i64 0, .imm 0 [] 0, .imm 0 [] 0, .imm 0 [] 0, .imm 0 [] 0, .imm 0 [] 0], el := 0, esz := 0, eby := 0, eagg := false, ik := none, eqs := false, ezero := [] } := by kernel_rfl
theorem Try.tm_72 : Try.tm 72 = { kind := 1, size := 1, offs := [], zero := [.nilfn], el := 0, esz := 0, eby := 0, eagg := false, ik := none, eqs := false, ezero := [] } := by kernel_rfl
theorem Try.tm_74 : Try.tm 74 = { kind := 1, size := 1, offs := [], zero := [.nilfn], el := 0, esz := 0, eby := 0, eagg := false, ik := none, eqs := false, ezero := [] } := by kernel_rfl
theorem Try.tm_75 : Try.tm 75 = { kind := 1, size := 1, offs := [], zero := [.nilfn], el := 0, esz := 0, eby := 0, eagg := false, ik := none, eqs := false, ezero := [] } := by kernel_rfl
theorem Try.tm_76 : Try.tm 76 = { kind := 1, size := 1, offs := [], zero := [.nilfn], el := 0, esz := 0, eby := 0, eagg := false, ik := none, eqs := false, ezero := [] } := by kernel_rfl
theorem Try.tm_78 : Try.tm 78 = { kind := 1, size := 1, offs := [], zero := [.nilfn], el := 0, esz := 0, eby := 0, eagg := false, ik := none, eqs := false, ezero := [] } := by kernel_rfl
theorem Try.tm_79 : Try.tm 79 = { kind := 1, size := 1, offs := [], zero := [.nilfn], el := 0, esz := 0, eby := 0, eagg := false, ik := none, eqs := false, ezero := [] } := by kernel_rfl
theorem Try.tm_80 : Try.tm 80 = { kind := 1, size := 1, offs := [], zero := [.nilfn], el := 0, esz := 0, eby := 0, eagg := false, ik := none, eqs := false, ezero := [] } := by kernel_rfl
theorem Try.tm_81 : Try.tm 81 = { kind := 2, size := 3, offs := [(0, 1, false), (1, 1, false), (2, 1, false)], zero := [.int .i64 0, .int .i64 0, .int .i64 0], el := 0, esz := 0, eby := 0, eagg := false, ik := none, eqs := false, ezero := [] } := by kernel_rfl
theorem Try.tm_82 : Try.tm 82 = { kind := 2, size := 3, offs := [(0, 1, false), (1, 1, false), (2, 1, false)], zero := [.int .i64 0, .int .i64 0, .int .i64 0], el := 0, esz := 0, eby := 0, eagg := false, ik := none, eqs := true, ezero := [] } := by kernel_rfl
theorem Try.tm_83 : Try.tm 83 = { kind := 2, size := 2, offs := [(0, 1, false), (1, 1, false)], zero := [.bool false, .imm 0 [] 0], el := 0, esz := 0, eby := 0, eagg := false, ik := none, eqs := false, ezero := [] } := by kernel_rfl
theorem Try.tm_84 : Try.tm 84 = { kind := 2, size := 2, offs := [(0, 1, false), (1, 1, false)], zero := [.bool false, .imm 0 [] 0], el := 0, esz := 0, eby := 0, eagg := false, ik := none, eqs := false, ezero := [] } := by kernel_rfl
theorem Try.tm_85 : Try.tm 85 = { kind := 2, size := 10, offs := [(0, 1, false), (1, 1, false), (2, 1, false), (3, 1, false), (4, 1, false), (5, 1, false), (6, 1, false), (7, 1, false), (8, 1, false), (9, 1, false)], zero := [.int .i64 0, .int .i64 0, .int .u8 0, .int .i64 0, .int .i64 0, .int .i64 0, .int .i64 0, .str [], .int .i64 0, .int .i64 0], el := 0, esz := 0, eby := 0, eagg := false, ik := none, eqs := false, ezero := [] } := by kernel_rfl
theorem Try.tm_86 : Try.tm 86 = { kind := 2, size := 10, offs := [(0, 1, false), (1, 1, false), (2, 1, false), (3, 1, false), (4, 1, false), (5, 1, false), (6, 1, false), (7, 1, false), (8, 1, false), (9, 1, false)], zero := [.int .i64 0, .int .i64 0, .int .u8 0, .int .i64 0, .int .i64 0, .int .i64 0, .int .i64 0, .str [], .int .i64 0, .int .i64 0], el := 0, esz := 0, eby := 0, eagg := false, ik := none, eqs := true, ezero := [] } := by kernel_rfl
theorem Try.tm_87 : Try.tm 87 = { kind := 2, size := 3, offs := [(0, 1, false), (1, 1, false), (2, 1, false)], zero := [.int .i64 0, .int .i64 0, .str []], el := 0, esz := 0, eby := 0, eagg := false, ik := none, eqs := false, ezero := [] } := by kernel_rfl
theorem Try.tm_88 : Try.tm 88 = { kind := 2, size := 3, offs := [(0, 1, false), (1, 1, false), (2, 1, false)], zero := [.int .i64 0, .int .i64 0, .str []], el := 0, esz := 0, eby := 0, eagg := false, ik := none, eqs := true, ezero := [] } := by kernel_rfl
theorem Try.tm_89 : Try.tm 89 = { kind := 1, size := 1, offs := [], zero := [.nilfn], el := 0, esz := 0, eby := 0, eagg := false, ik := none, eqs := false, ezero := [] } := by kernel_rfl
theorem Try.tm_90 : Try.tm 90 = { kind := 1, size := 1, offs := [], zero := [.nilfn], el := 0, esz := 0, eby := 0, eagg := false, ik := none, eqs := false, ezero := [] } := by kernel_rfl
theorem Try.tm_91 : Try.tm 91 = { kind := 1, size := 1, offs := [], zero := [.nilfn], el := 0, esz := 0, eby := 0, eagg := false, ik := none, eqs := false, ezero := [] } := by kernel_rfl
theorem Try.tm_92 : Try.tm 92 = { kind := 1, size := 1, offs := [], zero := [.nilfn], el := 0, esz := 0, eby := 0, eagg := false, ik := none, eqs := false, ezero := [] } := by kernel_rfl
theorem Try.tm_93 : Try.tm 93 = { kind := 1, size := 1, offs := [], zero := [.nilfn], el := 0, esz := 0, eby := 0, eagg := false, ik := none, eqs := false, ezero := [] } := by kernel_rfl
theorem Try.tm_94 : Try.tm 94 = { kind := 1, size := 1, offs := [], zero := [.nilfn], el := 0, esz := 0, eby := 0, eagg := false, ik := none, eqs := false, ezero := [] } := by kernel_rfl
theorem Try.tm_95 : Try.tm 95 = { kind := 1, size := 1, offs := [], zero := [.nilfn], el := 0, esz := 0, eby := 0, eagg := false, ik := none, eqs := false, ezero := [] } := by kernel_rfl
theorem Try.tm_96 : Try.tm 96 = { kind := 1, size := 1, offs := [], zero := [.nilfn], el := 0, esz := 0, eby := 0, eagg := false, ik := none, eqs := false, ezero := [] } := by kernel_rfl
theorem Try.tm_97 : Try.tm 97 = { kind := 1, size := 1, offs := [], zero := [.nilfn], el := 0, esz := 0, eby := 0, eagg := false, ik := none, eqs := false, ezero := [] } := by kernel_rfl
theorem Try.tm_98 : Try.tm 98 = { kind := 1, size := 1, offs := [], zero := [.nilfn], el := 0, esz := 0, eby := 0, eagg := false, ik := none, eqs := false, ezero := [] } := by kernel_rfl
theorem Try.tm_99 : Try.tm 99 = { kind := 1, size := 1, offs := [], zero := [.nilfn], el := 0, esz := 0, eby := 0, eagg := false, ik := none, eqs := false, ezero := [] } := by kernel_rfl
theorem Try.tm_100 : Try.tm 100 = { kind := 1, size := 1, offs := [], zero := [.nilfn], el := 0, esz := 0, eby := 0, eagg := false, ik := none, eqs := false, ezero := [] } := by kernel_rfl
theorem Try.tm_101 : Try.tm 101 = { kind := 6, size := 1, offs := [], zero := [.int .u64 0], el := 0, esz := 0, eby := 0, eagg := false, ik := some .u64, eqs := false, ezero := [] } := by kernel_rfl
theorem Try.tm_102 : Try.tm 102 = { kind := 1, size := 1, offs := [], zero := [.nilfn], el := 0, esz := 0, eby := 0, eagg := false, ik := none, eqs := false, ezero := [] } := by kernel_rfl
theorem Try.tm_103 : Try.tm 103 = { kind := 1, size := 1, offs := [], zero := [.nilfn], el := 0, esz := 0, eby := 0, eagg := false, ik := none, eqs := false, ezero := [] } := by kernel_rfl
theorem Try.tm_104 : Try.tm 104 = { kind := 1, size := 1, offs := [], zero := [.nilfn], el := 0, esz := 0, eby := 0, eagg := false, ik := none, eqs := false, ezero := [] } := by kernel_rfl
theorem Try.tm_105 : Try.tm 105 = { kind := 1, size := 1, offs := [], zero := [.nilfn], el := 0, esz := 0, eby := 0, eagg := false, ik := none, eqs := false, ezero := [] } := by kernel_rfl
theorem Try.tm_106 : Try.tm 106 = { kind := 1, size := 1, offs := [], zero := [.nilfn], el := 0, esz := 0, eby := 0, eagg := false, ik := none, eqs := false, ezero := [] } := by kernel_rfl
theorem Try.tm_107 : Try.tm 107 = { kind := 1, size := 1, offs := [], zero := [.nilfn], el := 0, esz := 0, eby := 0, eagg := false, ik := none, eqs := false, ezero := [] } := by kernel_rfl
theorem Try.tm_108 : Try.tm 108 = { kind := 1, size := 1, offs := [], zero := [.nilfn], el := 0, esz := 0, eby := 0, eagg := false, ik := none, eqs := false, ezero := [] } := by kernel_rfl
theorem Try.tm_109 : Try.tm 109 = { kind := 1, size := 1, offs := [], zero := [.nilfn], el := 0, esz := 0, eby := 0, eagg := false, ik := none, eqs := false, ezero := [] } := by kernel_rfl
theorem Try.tm_110 : Try.tm 110 = { kind := 1, size := 1, offs := [], zero := [.nilfn], el := 0, esz := 0, eby := 0, eagg := false, ik := none, eqs := false, ezero := [] } := by kernel_rfl
theorem Try.tm_111 : Try.tm 111 = { kind := 1, size := 1, offs := [], zero := [.nilfn], el := 0, esz := 0, eby := 0, eagg := false, ik := none, eqs := false, ezero := [] } := by kernel_rfl
theorem Try.tm_112 : Try.tm 112 = { kind := 1, size := 1, offs := [], zero := [.nilfn], el := 0, esz := 0, eby := 0, eagg := false, ik := none, eqs := false, ezero := [] } := by kernel_rfl
theorem Try.tm_113 : Try.tm 113 = { kind := 2, size := 4, offs := [(0, 1, false), (1, 1, false), (2, 1, false), (3, 1, false)], zero := [.nilptr, .nilptr, .nilptr, .str []], el := 0, esz := 0, eby := 0, eagg := false, ik := none, eqs := false, ezero := [] } := by kernel_rfl
theorem Try.tm_114 : Try.tm 114 = { kind := 2, size := 4, offs := [(0, 1, false), (1, 1, false), (2, 1, false), (3, 1, false)], zero := [.nilptr, .nilptr, .nilptr, .str []], el := 0, esz := 0, eby := 0, eagg := false, ik := none, eqs := false, ezero := [] } := by kernel_rfl
theorem Try.tm_115 : Try.tm 115 = { kind := 4, size := 0, offs := [], zero := [], el := 0, esz := 0, eby := 0, eagg := false, ik := none, eqs := false, ezero := [] } := by kernel_rfl
theorem Try.tm_118 : Try.tm 118 = { kind := 1, size := 1, offs := [], zero := [.nilfn], el := 0, esz := 0, eby := 0, eagg := false, ik := none, eqs := false, ezero := [] } := by kernel_rfl
theorem Try.tm_119 : Try.tm 119 = { kind := 6, size := 1, offs := [], zero := [.int .u32 0], el := 0, esz := 0, eby := 0, eagg := false, ik := some .u32, eqs := false, ezero := [] } := by kernel_rfl
theorem Try.tm_120 : Try.tm 120 = { kind := 6, size := 1, offs := [], zero := [.int .u8 0], el := 0, esz := 0, eby := 0, eagg := false, ik := some .u8, eqs := false, ezero := [] } := by kernel_rfl
theorem Try.tm_121 : Try.tm 121 = { kind := 6, size := 1, offs := [], zero := [.int .u8 0], el := 0, esz := 0, eby := 0, eagg := false, ik := some .u8, eqs := false, ezero := [] } := by kernel_rfl
theorem Try.tm_122 : Try.tm 122 = { kind := 1, size := 1, offs := [], zero := [.nilfn], el := 0, esz := 0, eby := 0, eagg := false, ik := none, eqs := false, ezero := [] } := by kernel_rfl
theorem Try.tm_123 : Try.tm 123 = { kind := 1, size := 1, offs := [], zero := [.nilptr], el := 0, esz := 0, eby := 0, eagg := false, ik := none, eqs := false, ezero := [] } := by kernel_rfl
theorem Try.tm_124 : Try.tm 124 = { kind := 6, size := 1, offs := [], zero := [.int .i32 0], el := 0, esz := 0, eby := 0, eagg := false, ik := some .i32, eqs := false, ezero := [] } := by kernel_rfl
theorem Try.tm_125 : Try.tm 125 = { kind := 6, size := 1, offs := [], zero := [.int .i32 0], el := 0, esz := 0, eby := 0, eagg := false, ik := some .i32, eqs := false, ezero := [] } := by kernel_rfl
theorem Try.tm_126 : Try.tm 126 = { kind := 2, size := 11, offs := [(0, 1, false), (1, 1, false), (2, 1, false), (3, 1, false), (4, 1, false), (5, 1, false), (6, 1, false), (7, 1, false), (8, 1, false), (9, 1, false), (10, 1, false)], zero := [.int .u64 0, .int .u64 0, .int .u32 0, .int .u8 0, .int .u8 0, .int .u8 0, .int .u8 0, .nilfn, .nilptr, .int .i32 0, .int .i32 0], el := 0, esz := 0, eby := 0, eagg := false, ik := none, eqs := false, ezero := [] } := by kernel_rfl
theorem Try.tm_127 : Try.tm 127 = { kind := 2, size := 11, offs := [(0, 1, false), (1, 1, false), (2, 1, false), (3, 1, false), (4, 1, false), (5, 1, false), (6, 1, false), (7, 1, false), (8, 1, false), (9, 1, false), (10, 1, false)], zero := [.int .u64 0, .int .u64 0, .int .u32 0, .int .u8 0, .int .u8 0, .int .u8 0, .int .u8 0, .nilfn, .nilptr, .int .i32 0, .int .i32 0], el := 0, esz := 0, eby := 0, eagg := false, ik := none, eqs := false, ezero := [] } := by kernel_rfl
theorem Try.tm_128 : Try.tm 128 = { kind := 2, size := 5, offs := [(0, 1, false), (1, 1, false), (2, 1, false), (3, 1, false), (4, 1, false)], zero := [.int .u8 0, .int .i64 0, .int .i64 0, .int .i64 0, .str []], el := 0, esz := 0, eby := 0, eagg := false, ik := none, eqs := false, ezero := [] } := by kernel_rfl
theorem Try.tm_129 : Try.tm 129 = { kind := 2, size := 5, offs := [(0, 1, false), (1, 1, false), (2, 1, false), (3, 1, false), (4, 1, false)], zero := [.int .u8 0, .int .i64 0, .int .i64 0, .int .i64 0, .str []], el := 0, esz := 0, eby := 0, eagg := false, ik := none, eqs := true, ezero := [] } := by kernel_rfl
end Go.Proofs
end
section
namespace Go.Proofs
open Go.Tm
theorem Try.S : Seat Try.prog Try.tm := ⟨Try.tmOk, Try.tmMixed⟩
end Go.Proofs
end
section
/- Models of functions, printed by gw.py. -/

namespace Go.Proofs
open Go.Tm
set_option linter.unusedVariables false

def m_towncrierref01_SameInts_loop1 (b : List Int) : List Int → Nat → Option (Bool ⊕ Unit)
  | [], n1 =>
    some (.inr ())
  | y1 :: rest1, n1 =>
    if n1 < b.length then
    if ¬ (y1 = (b.getD n1 default)) then
    some (.inl false)
    else
    m_towncrierref01_SameInts_loop1 b rest1 (n1 + 1) 
    else none
def m_towncrierref01_SameInts (a : List Int) (b : List Int) : Option Bool :=
  if ¬ ((a.length : Int) = (b.length : Int)) then
  some false
  else
  Option.bind (α := Bool ⊕ Unit) (m_towncrierref01_SameInts_loop1 b a 0 ) fun z => match z with
  | (.inl r) => some r
  | (.inr _) =>
  some true

def m_towncrierref01_SameTexts_loop1 (b : List (List UInt8)) : List (List UInt8) → Nat → Option (Bool ⊕ Unit)
  | [], n1 =>
    some (.inr ())
  | y1 :: rest1, n1 =>
    if n1 < b.length then
    if ¬ (y1 = (b.getD n1 default)) then
    some (.inl false)
    else
    m_towncrierref01_SameTexts_loop1 b rest1 (n1 + 1) 
    else none
def m_towncrierref01_SameTexts (a : List (List UInt8)) (b : List (List UInt8)) : Option Bool :=
  if ¬ ((a.length : Int) = (b.length : Int)) then
  some false
  else
  Option.bind (α := Bool ⊕ Unit) (m_towncrierref01_SameTexts_loop1 b a 0 ) fun z => match z with
  | (.inl r) => some r
  | (.inr _) =>
  some true

def m_towncrierref01_Great_loop1 : List (List UInt8) → Nat → Int → Option (Int)
  | [], n3, n2 =>
    some n2
  | y1 :: rest1, n3, n2 =>
    if ((n3 : Int) < 2000) then
    m_towncrierref01_Great_loop1 rest1 (n3 + 1) (wr .i64 (n2 + (min ((y1).length : Int) 100000)))
    else
    some n2
theorem m_towncrierref01_Great_loop1_n (n3 : Nat) (n2 : Int) : m_towncrierref01_Great_loop1 [] n3 n2 =
    (some n2 : Option (Int)) := rfl
theorem m_towncrierref01_Great_loop1_c (y1 : (List UInt8)) (rest1 : List (List UInt8)) (n3 : Nat) (n2 : Int) : m_towncrierref01_Great_loop1 (y1 :: rest1) n3 n2 =
    (if ((n3 : Int) < 2000) then
    m_towncrierref01_Great_loop1 rest1 (n3 + 1) (wr .i64 (n2 + (min ((y1).length : Int) 100000)))
    else
    some n2 : Option (Int)) := rfl
def m_towncrierref01_Great (l : List (List UInt8)) : Option Bool :=
  Option.bind (α := Int) (m_towncrierref01_Great_loop1 l 0 0) fun n1 =>
  some ((decide ((l.length : Int) > 1000)) || (decide (n1 > 100000)))

def m_slices_Index_int_int_loop1 (v : Int) : List Int → Nat → Option (Int ⊕ Unit)
  | [], n1 =>
    some (.inr ())
  | y1 :: rest1, n1 =>
    if v = y1 then
    some (.inl (n1 : Int))
    else
    m_slices_Index_int_int_loop1 v rest1 (n1 + 1) 
def m_slices_Index_int_int (s : List Int) (v : Int) : Option Int :=
  Option.bind (α := Int ⊕ Unit) (m_slices_Index_int_int_loop1 v s 0 ) fun z => match z with
  | (.inl r) => some r
  | (.inr _) =>
  some (-1)

def m_slices_Contains_int_int (a0 : List Int) (a1 : Int) : Option Bool :=
  Option.bind (m_slices_Index_int_int a0 a1) fun v1 =>
  some (decide (v1 ≥ 0))

def m_quorum_Has (a0 : List Int) (a1 : Int) : Option Bool :=
  Option.bind (m_slices_Contains_int_int a0 a1) fun v1 =>
  some v1

def m_quorum_Check_loop1 : List Int → Int → Option (Int ⊕ Int)
  | [], n2 =>
    some (.inr n2)
  | y1 :: rest1, n2 =>
    if (y1 ≤ n2) ∨ (y1 ≥ 6) then
    some (.inl 60)
    else
    m_quorum_Check_loop1 rest1 (y1)
def m_quorum_Check (a0 : List Int) : Option Int :=
  if (a0.length : Int) > 6 then
  some 4
  else
  Option.bind (α := Int ⊕ Int) (m_quorum_Check_loop1 a0 (-1)) fun z => match z with
  | (.inl r) => some r
  | (.inr n1) =>
  if n1 < 0 then
  some 60
  else
  some 0

def m_quorum_set_loop1 : List Int → Int → Option (Int)
  | [], n2 =>
    some n2
  | y1 :: rest1, n2 =>
    Option.bind (α := Int) (if (y1 ≥ 0) ∧ (y1 < 6) then
    if 0 ≤ y1 then
    some (bitw .or .u64 n2 (shw true .u64 1 (y1)))
    else none
    else
    some n2) fun n4 =>
    m_quorum_set_loop1 rest1 n4
def m_quorum_set (a0 : List Int) : Option Int :=
  Option.bind (α := Int) (m_quorum_set_loop1 a0 0) fun n1 =>
  some n1

def m_towncrierref06_Has_loop1 (a1 : Int) : List Int → Option (Bool ⊕ Unit)
  | [] =>
    some (.inr ())
  | y1 :: rest1 =>
    if y1 = a1 then
    some (.inl true)
    else
    m_towncrierref06_Has_loop1 a1 rest1 
def m_towncrierref06_Has (a0 : List Int) (a1 : Int) : Option Bool :=
  Option.bind (α := Bool ⊕ Unit) (m_towncrierref06_Has_loop1 a1 a0 ) fun z => match z with
  | (.inl r) => some r
  | (.inr _) =>
  some false

def m_towncrierref06_Within_loop1 (a1 : List Int) : List Int → Option (Bool ⊕ Unit)
  | [] =>
    some (.inr ())
  | y1 :: rest1 =>
    Option.bind (m_towncrierref06_Has a1 (y1)) fun v1 =>
    if ¬ (v1 = true) then
    some (.inl false)
    else
    m_towncrierref06_Within_loop1 a1 rest1 
def m_towncrierref06_Within (a0 : List Int) (a1 : List Int) : Option Bool :=
  Option.bind (α := Bool ⊕ Unit) (m_towncrierref06_Within_loop1 a1 a0 ) fun z => match z with
  | (.inl r) => some r
  | (.inr _) =>
  some true

def m_towncrierref06_May_loop1 (a0 : List Int) : List Int → Nat → Option (Bool ⊕ Unit)
  | [], n1 =>
    some (.inr ())
  | y1 :: rest1, n1 =>
    if ((y1 < 0) ∨ (y1 ≥ 6)) ∨ (((n1 : Int) > 0) ∧ (y1 ≤ (a0.getD (n1 - 1) default))) then
    some (.inl false)
    else
    m_towncrierref06_May_loop1 a0 rest1 (n1 + 1) 
def m_towncrierref06_May (a0 : List Int) : Option Bool :=
  Option.bind (α := Bool ⊕ Unit) (m_towncrierref06_May_loop1 a0 a0 0 ) fun z => match z with
  | (.inl r) => some r
  | (.inr _) =>
  some ((decide ((a0.length : Int) ≥ 1)) && (decide ((a0.length : Int) ≤ 6)))

def m_towncrierref06_Check (a0 : List Int) : Option Int :=
  if (a0.length : Int) > 6 then
  some 4
  else
  Option.bind (m_towncrierref06_May a0) fun v1 =>
  if ¬ (v1 = true) then
  some 60
  else
  some 0

def m_towncrierref06_same_loop1 (a1 : List Int) : List Int → Nat → Option (Bool ⊕ Unit)
  | [], n1 =>
    some (.inr ())
  | y1 :: rest1, n1 =>
    if n1 < a1.length then
    if ¬ (y1 = (a1.getD n1 default)) then
    some (.inl false)
    else
    m_towncrierref06_same_loop1 a1 rest1 (n1 + 1) 
    else none
def m_towncrierref06_same (a0 : List Int) (a1 : List Int) : Option Bool :=
  if ¬ ((a0.length : Int) = (a1.length : Int)) then
  some false
  else
  Option.bind (α := Bool ⊕ Unit) (m_towncrierref06_same_loop1 a1 a0 0 ) fun z => match z with
  | (.inl r) => some r
  | (.inr _) =>
  some true

def m_towncrierref06_SameGroup (a0 : TGroup) (a1 : TGroup) : Option Bool :=
  Option.bind (m_towncrierref06_same a0.Roster a1.Roster) fun v1 =>
  Option.bind (if v1 = true then m_towncrierref06_same a0.Members a1.Members else some default) fun v2 =>
  some (v1 && v2)

def m_towncrierref06_MayGroup (a0 : TGroup) : Option Bool :=
  Option.bind (m_towncrierref06_May a0.Roster) fun v1 =>
  Option.bind (if v1 = true then m_towncrierref06_May a0.Members else some default) fun v2 =>
  Option.bind (if (v1 = true) ∧ (v2 = true) then m_towncrierref06_Within a0.Members a0.Roster else some default) fun v3 =>
  some ((v1 && v2) && v3)

def m_towncrierref06_CheckGroup (a0 : TGroup) : Option Int :=
  Option.bind (m_towncrierref06_Check a0.Roster) fun v1 =>
  Option.bind (α := Int) (if v1 = 0 then
  Option.bind (m_towncrierref06_Check a0.Members) fun v2 =>
  some v2
  else
  some v1) fun n1 =>
  Option.bind (α := Int) (Option.bind (if n1 = 0 then m_towncrierref06_MayGroup a0 else some default) fun v3 =>
  if (n1 = 0) ∧ (¬ (v3 = true)) then
  some 60
  else
  some n1) fun n2 =>
  some n2

def m_towncrierref05_Node (a0 : Int) : Option Bool :=
  some ((decide (a0 ≥ 0)) && (decide (a0 < 6)))

def m_quorum_CheckGroup (a0 : TGroup) : Option Int :=
  Option.bind (m_quorum_Check a0.Roster) fun v1 =>
  if ¬ (v1 = 0) then
  some v1
  else
  Option.bind (m_quorum_Check a0.Members) fun v2 =>
  if ¬ (v2 = 0) then
  some v2
  else
  Option.bind (m_quorum_set a0.Members) fun v3 =>
  Option.bind (m_quorum_set a0.Roster) fun v4 =>
  if ¬ ((bitw .andNot .u64 v3 v4) = 0) then
  some 60
  else
  some 0

def m_towncrierref11_SameVotes_loop1 (a1 : List TSeen) : List TSeen → Nat → Option (Bool ⊕ Unit)
  | [], n1 =>
    some (.inr ())
  | y1 :: rest1, n1 =>
    if n1 < a1.length then
    if ¬ ((y1.Group = (a1.getD n1 default).Group) ∧ (y1.Slot = (a1.getD n1 default).Slot) ∧ (y1.Vote.Promised = (a1.getD n1 default).Vote.Promised) ∧ (y1.Vote.Ballot = (a1.getD n1 default).Vote.Ballot) ∧ (y1.Vote.Value = (a1.getD n1 default).Vote.Value)) then
    some (.inl false)
    else
    m_towncrierref11_SameVotes_loop1 a1 rest1 (n1 + 1) 
    else none
def m_towncrierref11_SameVotes (a0 : List TSeen) (a1 : List TSeen) : Option Bool :=
  if ¬ ((a0.length : Int) = (a1.length : Int)) then
  some false
  else
  Option.bind (α := Bool ⊕ Unit) (m_towncrierref11_SameVotes_loop1 a1 a0 0 ) fun z => match z with
  | (.inl r) => some r
  | (.inr _) =>
  some true

def m_towncrierref08_Same_loop1 (a1 : TAttempt) : List TPromise → Nat → Option (Bool ⊕ Unit)
  | [], n1 =>
    some (.inr ())
  | y1 :: rest1, n1 =>
    if n1 < a1.Promises.length then
    if ¬ ((y1.Node = (a1.Promises.getD n1 default).Node) ∧ (y1.Ballot = (a1.Promises.getD n1 default).Ballot) ∧ (y1.Value = (a1.Promises.getD n1 default).Value)) then
    some (.inl false)
    else
    m_towncrierref08_Same_loop1 a1 rest1 (n1 + 1) 
    else none
def m_towncrierref08_Same (a0 : TAttempt) (a1 : TAttempt) : Option Bool :=
  Option.bind (if ¬ ((¬ (a0.Phase = a1.Phase)) ∨ (¬ (a0.Ballot = a1.Ballot))) then m_towncrierref01_SameInts a0.Members a1.Members else some default) fun v1 =>
  Option.bind (if ¬ ((((((¬ (a0.Phase = a1.Phase)) ∨ (¬ (a0.Ballot = a1.Ballot))) ∨ (¬ (v1 = true))) ∨ (¬ (a0.Wish = a1.Wish))) ∨ (¬ (a0.Value = a1.Value))) ∨ (¬ ((a0.Promises.length : Int) = (a1.Promises.length : Int)))) then m_towncrierref01_SameInts a0.Accepted a1.Accepted else some default) fun v2 =>
  if ((((((¬ (a0.Phase = a1.Phase)) ∨ (¬ (a0.Ballot = a1.Ballot))) ∨ (¬ (v1 = true))) ∨ (¬ (a0.Wish = a1.Wish))) ∨ (¬ (a0.Value = a1.Value))) ∨ (¬ ((a0.Promises.length : Int) = (a1.Promises.length : Int)))) ∨ (¬ (v2 = true)) then
  some false
  else
  Option.bind (α := Bool ⊕ Unit) (m_towncrierref08_Same_loop1 a1 a0.Promises 0 ) fun z => match z with
  | (.inl r) => some r
  | (.inr _) =>
  some true

def m_towncrierref08_Great_loop1 : List TPromise → Nat → Int → Option (Int)
  | [], n3, n2 =>
    some n2
  | y1 :: rest1, n3, n2 =>
    if ((n3 : Int) < 100) then
    m_towncrierref08_Great_loop1 rest1 (n3 + 1) (wr .i64 (n2 + (min ((y1.Value).length : Int) 100000)))
    else
    some n2
theorem m_towncrierref08_Great_loop1_n (n3 : Nat) (n2 : Int) : m_towncrierref08_Great_loop1 [] n3 n2 =
    (some n2 : Option (Int)) := rfl
theorem m_towncrierref08_Great_loop1_c (y1 : TPromise) (rest1 : List TPromise) (n3 : Nat) (n2 : Int) : m_towncrierref08_Great_loop1 (y1 :: rest1) n3 n2 =
    (if ((n3 : Int) < 100) then
    m_towncrierref08_Great_loop1 rest1 (n3 + 1) (wr .i64 (n2 + (min ((y1.Value).length : Int) 100000)))
    else
    some n2 : Option (Int)) := rfl
def m_towncrierref08_Great (a0 : TAttempt) : Option Bool :=
  Option.bind (α := Int) (m_towncrierref08_Great_loop1 a0.Promises 0 (wr .i64 ((a0.Wish.length : Int) + (a0.Value.length : Int)))) fun n1 =>
  some ((((decide ((a0.Members.length : Int) > 100)) || (decide ((a0.Promises.length : Int) > 50))) || (decide ((a0.Accepted.length : Int) > 100))) || (decide (n1 > 50000)))

def m_towncrierref03_Same_loop1 (a1 : TDisk) : List TPut → Nat → Option (Bool ⊕ Unit)
  | [], n1 =>
    some (.inr ())
  | y1 :: rest1, n1 =>
    if n1 < a1.Wait.length then
    if (¬ ((!(y1.Swap == (a1.Wait.getD n1 default).Swap)) = true)) → n1 < a1.Wait.length then
    if ((!(y1.Swap == (a1.Wait.getD n1 default).Swap)) = true) ∨ (¬ ((toBytes (y1.Data)) = (toBytes ((a1.Wait.getD n1 default).Data)))) then
    some (.inl false)
    else
    m_towncrierref03_Same_loop1 a1 rest1 (n1 + 1) 
    else none
    else none
def m_towncrierref03_Same (a0 : TDisk) (a1 : TDisk) : Option Bool :=
  if (¬ ((toBytes a0.Data) = (toBytes a1.Data))) ∨ (¬ ((a0.Wait.length : Int) = (a1.Wait.length : Int))) then
  some false
  else
  Option.bind (α := Bool ⊕ Unit) (m_towncrierref03_Same_loop1 a1 a0.Wait 0 ) fun z => match z with
  | (.inl r) => some r
  | (.inr _) =>
  some true

def m_towncrierref25_SameMail_loop1 (a1 : List TMail) : List TMail → Nat → Option (Bool ⊕ Unit)
  | [], n1 =>
    some (.inr ())
  | y1 :: rest1, n1 =>
    if n1 < a1.length then
    if ¬ ((y1.From = (a1.getD n1 default).From) ∧ (y1.To = (a1.getD n1 default).To) ∧ (y1.Kind = (a1.getD n1 default).Kind) ∧ (y1.Group = (a1.getD n1 default).Group) ∧ (y1.Slot = (a1.getD n1 default).Slot) ∧ (y1.Ballot = (a1.getD n1 default).Ballot) ∧ (y1.Prior = (a1.getD n1 default).Prior) ∧ (y1.Value = (a1.getD n1 default).Value) ∧ (y1.Id = (a1.getD n1 default).Id) ∧ (y1.Time = (a1.getD n1 default).Time)) then
    some (.inl false)
    else
    m_towncrierref25_SameMail_loop1 a1 rest1 (n1 + 1) 
    else none
def m_towncrierref25_SameMail (a0 : List TMail) (a1 : List TMail) : Option Bool :=
  if ¬ ((a0.length : Int) = (a1.length : Int)) then
  some false
  else
  Option.bind (α := Bool ⊕ Unit) (m_towncrierref25_SameMail_loop1 a1 a0 0 ) fun z => match z with
  | (.inl r) => some r
  | (.inr _) =>
  some true

def m_towncrierref25_Same (a0 : TSeat) (a1 : TSeat) : Option Bool :=
  Option.bind (if (a0.Me = a1.Me) ∧ (a0.Number = a1.Number) then m_towncrierref06_SameGroup a0.Group a1.Group else some default) fun v1 =>
  Option.bind (if ((a0.Me = a1.Me) ∧ (a0.Number = a1.Number)) ∧ (v1 = true) then m_towncrierref01_SameTexts a0.Log a1.Log else some default) fun v2 =>
  Option.bind (if (((a0.Me = a1.Me) ∧ (a0.Number = a1.Number)) ∧ (v1 = true)) ∧ (v2 = true) then m_towncrierref11_SameVotes a0.Votes a1.Votes else some default) fun v3 =>
  Option.bind (if ((((a0.Me = a1.Me) ∧ (a0.Number = a1.Number)) ∧ (v1 = true)) ∧ (v2 = true)) ∧ (v3 = true) then m_towncrierref08_Same a0.Try a1.Try else some default) fun v4 =>
  Option.bind (if (((((a0.Me = a1.Me) ∧ (a0.Number = a1.Number)) ∧ (v1 = true)) ∧ (v2 = true)) ∧ (v3 = true)) ∧ (v4 = true) then m_towncrierref01_SameTexts a0.Wishes a1.Wishes else some default) fun v5 =>
  some ((((((((a0.Me == a1.Me) && (a0.Number == a1.Number)) && v1) && v2) && v3) && v4) && v5) && (a0.Heard == a1.Heard))

def m_towncrierref25_Great_loop1 : List TSeen → Nat → Int → Option (Int)
  | [], n3, n2 =>
    some n2
  | y1 :: rest1, n3, n2 =>
    if ((n3 : Int) < 400) then
    m_towncrierref25_Great_loop1 rest1 (n3 + 1) (wr .i64 (n2 + (min ((y1.Vote.Value).length : Int) 100000)))
    else
    some n2
theorem m_towncrierref25_Great_loop1_n (n3 : Nat) (n2 : Int) : m_towncrierref25_Great_loop1 [] n3 n2 =
    (some n2 : Option (Int)) := rfl
theorem m_towncrierref25_Great_loop1_c (y1 : TSeen) (rest1 : List TSeen) (n3 : Nat) (n2 : Int) : m_towncrierref25_Great_loop1 (y1 :: rest1) n3 n2 =
    (if ((n3 : Int) < 400) then
    m_towncrierref25_Great_loop1 rest1 (n3 + 1) (wr .i64 (n2 + (min ((y1.Vote.Value).length : Int) 100000)))
    else
    some n2 : Option (Int)) := rfl
def m_towncrierref25_Great (a0 : TSeat) : Option Bool :=
  Option.bind (α := Int) (m_towncrierref25_Great_loop1 a0.Votes 0 0) fun n1 =>
  Option.bind (if ¬ (((a0.Log.length : Int) > 250) ∨ ((a0.Wishes.length : Int) > 250)) then m_towncrierref01_Great a0.Log else some default) fun v1 =>
  Option.bind (if ¬ ((((a0.Log.length : Int) > 250) ∨ ((a0.Wishes.length : Int) > 250)) ∨ (v1 = true)) then m_towncrierref01_Great a0.Wishes else some default) fun v2 =>
  Option.bind (if ¬ (((((a0.Log.length : Int) > 250) ∨ ((a0.Wishes.length : Int) > 250)) ∨ (v1 = true)) ∨ (v2 = true)) then m_towncrierref08_Great a0.Try else some default) fun v3 =>
  some (((((((((decide ((a0.Log.length : Int) > 250)) || (decide ((a0.Wishes.length : Int) > 250))) || v1) || v2) || v3) || (decide ((a0.Votes.length : Int) > 300))) || (decide (n1 > 50000))) || (decide ((a0.Group.Roster.length : Int) > 100))) || (decide ((a0.Group.Members.length : Int) > 100)))

def m_towncrierref26_SameGroups_loop1 (a1 : List TGroup) : List TGroup → Nat → Option (Bool ⊕ Unit)
  | [], n1 =>
    some (.inr ())
  | y1 :: rest1, n1 =>
    if n1 < a1.length then
    Option.bind (m_towncrierref06_SameGroup (y1) (a1.getD n1 default)) fun v1 =>
    if ¬ (v1 = true) then
    some (.inl false)
    else
    m_towncrierref26_SameGroups_loop1 a1 rest1 (n1 + 1) 
    else none
def m_towncrierref26_SameGroups (a0 : List TGroup) (a1 : List TGroup) : Option Bool :=
  if ¬ ((a0.length : Int) = (a1.length : Int)) then
  some false
  else
  Option.bind (α := Bool ⊕ Unit) (m_towncrierref26_SameGroups_loop1 a1 a0 0 ) fun z => match z with
  | (.inl r) => some r
  | (.inr _) =>
  some true
end Go.Proofs
end

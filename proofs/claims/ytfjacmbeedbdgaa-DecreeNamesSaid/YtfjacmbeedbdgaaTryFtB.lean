/- The functions that this law runs, as a table; by program (genft.py). -/
import Derived.Test.YtfjacmbeedbdgaaTryTab
import Derived.Test.YtfjacmbeedbdgaaTmQuick
namespace Go.Proofs
open Go.Tm

def Try.ptLB : List (Nat × List (Nat × List (Nat × Nat))) := [
  (9, [(2, [(0, 1), (4, 5), (0, 6), (1, 6), (2, 6), (3, 6), (4, 6), (5, 6), (5, 7)]), (3, [(0, 1), (4, 5), (0, 6), (1, 6), (2, 6), (3, 6), (4, 6), (5, 6), (5, 7)]), (4, [(0, 1), (4, 5), (0, 6), (1, 6), (2, 6), (3, 6), (4, 6), (5, 6), (5, 7)])]),
  (18, [(6, [(0, 2), (1, 2), (0, 3), (1, 3), (2, 4), (3, 4)])]),
  (21, [(10, [(0, 1), (0, 2), (0, 3), (6, 8), (7, 8), (6, 12), (7, 12), (8, 12), (9, 12), (10, 12), (11, 12), (6, 13), (7, 13), (8, 13), (9, 13), (10, 13), (11, 13)]), (13, [(0, 2), (1, 2), (0, 3), (1, 3), (0, 4), (1, 4)])]),
  (24, [(10, [(2, 5), (3, 5), (4, 5), (2, 6), (3, 6), (4, 6), (10, 12), (11, 12), (10, 13), (11, 13)]), (12, [(2, 4), (3, 4), (2, 5), (3, 5), (2, 6), (3, 6), (2, 8), (3, 8), (4, 8), (5, 8), (6, 8), (7, 8), (2, 9), (3, 9), (4, 9), (5, 9), (6, 9), (7, 9), (2, 10), (3, 10), (4, 10), (5, 10), (6, 10), (7, 10), (14, 16), (15, 16), (14, 17), (15, 17), (14, 19), (15, 19), (16, 19), (17, 19), (18, 19), (14, 20), (15, 20), (16, 20), (17, 20), (18, 20), (14, 21), (15, 21), (16, 21), (17, 21), (18, 21)]), (13, [(6, 8), (7, 8), (6, 9), (7, 9), (6, 10), (7, 10), (8, 10), (9, 10), (6, 11), (7, 11), (8, 11), (9, 11), (6, 12), (7, 12)])]),
  (30, [(1, [(0, 3), (1, 3), (2, 3), (0, 4), (1, 4), (2, 4), (0, 6), (1, 6), (2, 6), (3, 6), (4, 6), (5, 6), (0, 7), (1, 7), (2, 7), (3, 7), (4, 7), (5, 7), (5, 9), (8, 9)])]),
  (36, [(4, [(0, 2), (1, 2), (0, 3), (1, 3), (2, 3)])]),
  (37, [(12, [(0, 5), (1, 5), (2, 5), (3, 5), (4, 5), (0, 6), (1, 6), (2, 6), (3, 6), (4, 6), (0, 7), (1, 7), (2, 7), (3, 7), (4, 7), (5, 7), (6, 7)]), (21, [(4, 6), (5, 6), (4, 7), (5, 7), (4, 8), (5, 8), (4, 9), (5, 9), (4, 10), (5, 10), (4, 11), (5, 11)]), (23, [(0, 5), (1, 5), (2, 5), (3, 5), (4, 5), (0, 6), (1, 6), (2, 6), (3, 6), (4, 6), (0, 9), (1, 9), (2, 9), (3, 9), (4, 9), (5, 9), (6, 9), (7, 9), (8, 9)]), (25, [(0, 1), (0, 2), (0, 3), (0, 4), (0, 5), (0, 6), (1, 6), (2, 6), (3, 6), (4, 6), (5, 6), (0, 7), (1, 7), (2, 7), (3, 7), (4, 7), (5, 7), (0, 8), (1, 8), (2, 8), (3, 8), (4, 8), (5, 8), (6, 8), (7, 8), (0, 9), (1, 9), (2, 9), (3, 9), (4, 9), (5, 9), (6, 9), (7, 9), (0, 10), (1, 10), (2, 10), (3, 10), (4, 10), (5, 10), (6, 10), (7, 10), (0, 11)])]),
  (53, [(1, [(0, 2), (1, 2), (0, 6), (1, 6), (2, 6), (3, 6), (4, 6), (5, 6), (0, 7), (1, 7), (2, 7), (3, 7), (4, 7), (5, 7)])]),
  (54, [(11, [(0, 1), (0, 2), (1, 2), (0, 3), (0, 5), (1, 5), (2, 5), (3, 5), (4, 5), (0, 6), (1, 6), (2, 6), (3, 6), (4, 6), (5, 6), (0, 7), (1, 7), (2, 7), (3, 7), (4, 7)]), (15, [(0, 1), (0, 2), (1, 2), (0, 3), (0, 5), (1, 5), (2, 5), (3, 5), (4, 5), (0, 6), (1, 6), (2, 6), (3, 6), (4, 6), (5, 6), (0, 7), (1, 7), (2, 7), (3, 7), (4, 7)])]),
  (68, [(11, [(0, 1), (0, 2), (1, 2), (0, 3), (0, 5), (1, 5), (2, 5), (3, 5), (4, 5), (0, 6), (1, 6), (2, 6), (3, 6), (4, 6), (5, 6), (0, 7), (1, 7), (2, 7), (3, 7), (4, 7)]), (15, [(0, 1), (0, 2), (1, 2), (0, 3), (0, 5), (1, 5), (2, 5), (3, 5), (4, 5), (0, 6), (1, 6), (2, 6), (3, 6), (4, 6), (5, 6), (0, 7), (1, 7), (2, 7), (3, 7), (4, 7)])]),
  (73, [(6, [(0, 1), (0, 4), (1, 4), (2, 4), (3, 4), (0, 5), (1, 5), (2, 5), (3, 5), (4, 5), (0, 6), (1, 6), (2, 6), (3, 6), (0, 7), (1, 7), (2, 7), (3, 7)])]),
  (74, [(6, [(0, 1), (0, 4), (1, 4), (2, 4), (3, 4), (0, 5), (1, 5), (2, 5), (3, 5), (4, 5), (0, 6), (1, 6), (2, 6), (3, 6), (0, 7), (1, 7), (2, 7), (3, 7)])]),
  (75, [(1, [(0, 3), (1, 3), (2, 3), (0, 4), (1, 4), (2, 4), (0, 6), (1, 6), (2, 6), (3, 6), (4, 6), (5, 6), (0, 7), (1, 7), (2, 7), (3, 7), (4, 7), (5, 7), (0, 9), (1, 9), (2, 9), (3, 9), (4, 9), (5, 9), (6, 9), (7, 9), (8, 9), (0, 10), (1, 10), (2, 10), (3, 10), (4, 10), (5, 10), (6, 10), (7, 10), (8, 10), (5, 12), (8, 12), (11, 12)]), (6, [(0, 2), (1, 2), (0, 3), (1, 3), (2, 3), (0, 4), (1, 4), (2, 4)])]),
  (77, [(5, [(0, 5), (1, 5), (2, 5), (3, 5), (4, 5), (0, 6), (1, 6), (2, 6), (3, 6), (4, 6), (5, 6), (0, 7), (1, 7), (2, 7), (3, 7), (4, 7), (5, 7), (6, 7), (0, 8), (1, 8), (2, 8), (3, 8), (4, 8), (5, 8), (0, 9), (1, 9), (2, 9), (3, 9), (4, 9), (5, 9), (0, 10), (1, 10), (2, 10), (3, 10), (4, 10), (5, 10), (0, 11), (1, 11), (2, 11), (3, 11), (4, 11), (5, 11), (10, 11), (11, 12), (11, 13)]), (8, [(0, 5), (1, 5), (2, 5), (3, 5), (4, 5), (0, 6), (1, 6), (2, 6), (3, 6), (4, 6), (5, 6), (0, 7), (1, 7), (2, 7), (3, 7), (4, 7), (5, 7), (0, 8), (1, 8), (2, 8), (3, 8), (4, 8), (5, 8), (0, 9), (1, 9), (2, 9), (3, 9), (4, 9), (5, 9), (0, 10), (1, 10), (2, 10), (3, 10), (4, 10), (5, 10), (0, 11), (1, 11), (2, 11), (3, 11), (4, 11), (5, 11), (6, 11), (7, 11), (8, 11), (9, 11), (10, 11), (0, 12), (1, 12), (2, 12), (3, 12), (4, 12), (5, 12), (6, 12), (7, 12), (8, 12), (9, 12), (10, 12), (11, 12), (0, 13), (1, 13), (2, 13), (3, 13), (4, 13), (5, 13), (0, 14), (1, 14), (2, 14), (3, 14), (4, 14), (5, 14), (0, 15), (1, 15), (2, 15), (3, 15), (4, 15), (5, 15), (0, 16), (1, 16), (2, 16), (3, 16), (4, 16), (5, 16), (15, 16), (16, 17), (16, 18)])]),
  (78, [(5, [(0, 1), (0, 3), (1, 3), (2, 3), (0, 4), (1, 4), (2, 4), (3, 4), (0, 5), (1, 5), (2, 5)])]),
  (79, [(1, [(0, 2), (1, 2), (0, 3), (1, 3), (0, 4), (1, 4), (0, 5), (1, 5), (0, 6), (1, 6), (0, 7), (1, 7), (2, 7), (3, 7), (4, 7), (5, 7), (6, 7), (0, 8), (1, 8), (2, 8), (3, 8), (4, 8), (5, 8), (6, 8), (0, 9), (1, 9), (0, 10), (1, 10), (0, 11), (1, 11), (2, 11), (3, 11), (4, 11), (5, 11), (6, 11), (7, 11), (8, 11), (9, 11), (10, 11), (2, 12), (3, 12), (4, 12), (5, 12), (6, 12), (7, 12), (8, 12), (9, 12), (10, 12)]), (12, [(0, 2), (1, 2), (0, 3), (1, 3), (0, 4), (1, 4), (2, 4), (3, 4), (0, 5), (1, 5), (2, 5), (3, 5), (2, 6), (3, 6), (2, 7), (3, 7)]), (17, [(0, 5), (1, 5), (2, 5), (3, 5), (4, 5), (0, 9), (1, 9), (2, 9), (3, 9), (4, 9), (5, 9), (6, 9), (7, 9), (8, 9), (0, 10), (1, 10), (2, 10), (3, 10), (4, 10), (5, 10), (6, 10), (7, 10), (8, 10)]), (18, [(0, 5), (1, 5), (2, 5), (3, 5), (4, 5), (0, 6), (1, 6), (2, 6), (3, 6), (4, 6), (5, 6)]), (19, [(0, 1), (0, 2), (0, 3), (0, 4), (0, 5), (0, 6), (1, 6), (2, 6), (3, 6), (4, 6), (5, 6), (0, 7), (1, 7), (2, 7), (3, 7), (4, 7), (5, 7), (0, 8)])]),
  (86, [(1, [(0, 3), (1, 3), (2, 3), (0, 4), (1, 4), (2, 4), (0, 5), (1, 5), (2, 5), (0, 6), (1, 6), (2, 6), (0, 8), (1, 8), (2, 8), (3, 8), (4, 8), (5, 8), (6, 8), (7, 8), (0, 9), (1, 9), (2, 9), (3, 9), (4, 9), (5, 9), (6, 9), (7, 9), (0, 10), (1, 10), (2, 10), (3, 10), (4, 10), (5, 10), (6, 10), (7, 10), (0, 11), (1, 11), (2, 11), (3, 11), (4, 11), (5, 11), (6, 11), (7, 11), (0, 13), (1, 13), (2, 13), (3, 13), (4, 13), (5, 13), (6, 13), (7, 13), (8, 13), (9, 13), (10, 13), (11, 13), (12, 13), (0, 14), (1, 14), (2, 14), (3, 14), (4, 14), (5, 14), (6, 14), (7, 14), (8, 14), (9, 14), (10, 14), (11, 14), (12, 14), (0, 15), (1, 15), (2, 15), (3, 15), (4, 15), (5, 15), (6, 15), (7, 15), (8, 15), (9, 15), (10, 15), (11, 15), (12, 15)])]),
  (89, [(1, [(0, 1), (0, 4), (1, 4), (2, 4), (3, 4)])]),
  (99, [(6, [(0, 1), (0, 2), (0, 3), (0, 4), (0, 5), (0, 6), (1, 6), (2, 6), (3, 6), (4, 6), (5, 6), (0, 7), (1, 7), (2, 7), (3, 7), (4, 7), (5, 7), (0, 8)])]),
  (100, [(1, [(0, 5), (1, 5), (2, 5), (3, 5), (4, 5), (0, 8), (1, 8), (2, 8), (3, 8), (4, 8), (5, 8), (6, 8), (7, 8), (0, 9), (1, 9), (2, 9), (3, 9), (4, 9), (5, 9), (6, 9), (7, 9), (8, 9), (12, 13), (0, 14), (1, 14), (2, 14), (3, 14), (4, 14), (5, 14), (6, 14), (7, 14), (8, 14), (9, 14), (10, 14), (11, 14), (12, 14), (13, 14), (13, 15)]), (3, [(0, 5), (1, 5), (2, 5), (3, 5), (4, 5), (0, 6), (1, 6), (2, 6), (3, 6), (4, 6), (5, 6)]), (7, [(0, 5), (1, 5), (2, 5), (3, 5), (4, 5), (0, 8), (1, 8), (2, 8), (3, 8), (4, 8), (5, 8), (6, 8), (7, 8), (0, 9), (1, 9), (2, 9), (3, 9), (4, 9), (5, 9), (6, 9), (7, 9), (8, 9), (0, 10), (1, 10), (2, 10), (3, 10), (4, 10), (5, 10), (6, 10), (7, 10), (8, 10), (13, 14), (0, 15), (1, 15), (2, 15), (3, 15), (4, 15), (5, 15), (6, 15), (7, 15), (8, 15), (9, 15), (10, 15), (11, 15), (12, 15), (13, 15), (14, 15), (14, 16)]), (9, [(0, 5), (1, 5), (2, 5), (3, 5), (4, 5), (0, 6), (1, 6), (2, 6), (3, 6), (4, 6), (5, 6)])]),
  (101, [(3, [(0, 1), (0, 2), (0, 3), (0, 4), (0, 5), (0, 6), (1, 6), (2, 6), (3, 6), (4, 6), (5, 6), (0, 7), (1, 7), (2, 7), (3, 7), (4, 7), (5, 7), (6, 7), (0, 8), (1, 8), (2, 8), (3, 8), (4, 8), (5, 8), (6, 8), (0, 9), (1, 9), (2, 9), (3, 9), (4, 9), (5, 9), (0, 10), (1, 10), (2, 10), (3, 10), (4, 10), (5, 10), (0, 11)]), (4, [(0, 5), (1, 5), (2, 5), (3, 5), (4, 5), (0, 6), (1, 6), (2, 6), (3, 6), (4, 6), (5, 6)])]),
  (108, [(3, [(0, 1), (0, 2), (1, 2), (0, 3), (1, 3), (2, 3), (0, 4), (1, 4), (2, 4), (3, 4), (0, 5), (1, 5), (2, 5), (3, 5), (4, 5), (0, 6), (1, 6), (2, 6), (3, 6), (0, 7), (1, 7), (2, 7), (3, 7), (0, 8), (1, 8), (2, 8), (3, 8), (4, 8), (5, 8), (6, 8), (7, 8), (0, 9), (1, 9), (2, 9), (3, 9), (4, 9), (5, 9), (6, 9), (7, 9), (8, 9), (0, 10), (1, 10), (2, 10), (3, 10), (4, 10), (5, 10), (6, 10), (7, 10), (0, 11), (1, 11), (2, 11), (3, 11), (4, 11), (5, 11), (6, 11), (7, 11), (2, 12), (3, 12), (2, 13), (3, 13)])]),
  (109, [(3, [(0, 1), (0, 2), (1, 2), (0, 3), (1, 3), (2, 3), (0, 4), (1, 4), (2, 4), (3, 4), (0, 5), (1, 5), (2, 5), (3, 5), (4, 5), (0, 6), (1, 6), (2, 6), (3, 6), (0, 7), (1, 7), (2, 7), (3, 7), (0, 8), (1, 8), (2, 8), (3, 8), (4, 8), (5, 8), (6, 8), (7, 8), (0, 9), (1, 9), (2, 9), (3, 9), (4, 9), (5, 9), (6, 9), (7, 9), (8, 9), (0, 10), (1, 10), (2, 10), (3, 10), (4, 10), (5, 10), (6, 10), (7, 10), (0, 11), (1, 11), (2, 11), (3, 11), (4, 11), (5, 11), (6, 11), (7, 11), (2, 12), (3, 12), (2, 13), (3, 13)])])]
noncomputable def Try.ptB (K r : Nat) : List (Nat × Nat) := match getLQ Try.ptLB K with | some l => (match getLQ l r with | some x => x | none => []) | none => []
noncomputable def Try.ftLB : List (Nat × Func) := [(9, Try.f9), (13, Try.f13), (18, Try.f18), (21, Try.f21), (22, Try.f22), (24, Try.f24), (28, Try.f28), (30, Try.f30), (32, Try.f32), (36, Try.f36), (37, Try.f37), (38, Try.f38), (39, Try.f39), (40, Try.f40), (41, Try.f41), (42, Try.f42), (45, Try.f45), (46, Try.f46), (47, Try.f47), (50, Try.f50), (51, Try.f51), (52, Try.f52), (53, Try.f53), (54, Try.f54), (55, Try.f55), (56, Try.f56), (57, Try.f57), (58, Try.f58), (59, Try.f59), (60, Try.f60), (61, Try.f61), (62, Try.f62), (67, Try.f67), (68, Try.f68), (69, Try.f69), (73, Try.f73), (74, Try.f74), (75, Try.f75), (76, Try.f76), (77, Try.f77), (78, Try.f78), (79, Try.f79), (80, Try.f80), (81, Try.f81), (82, Try.f82), (83, Try.f83), (84, Try.f84), (85, Try.f85), (86, Try.f86), (87, Try.f87), (88, Try.f88), (89, Try.f89), (90, Try.f90), (91, Try.f91), (93, Try.f93), (94, Try.f94), (95, Try.f95), (96, Try.f96), (97, Try.f97), (98, Try.f98), (99, Try.f99), (100, Try.f100), (101, Try.f101), (102, Try.f102), (103, Try.f103), (104, Try.f104), (105, Try.f105), (106, Try.f106), (107, Try.f107), (108, Try.f108), (109, Try.f109)]
theorem Try.okB_9 : bodyOk Try.f9 (Try.ptB 9) = true := by kernel_rfl
theorem Try.okB_13 : bodyOk Try.f13 (Try.ptB 13) = true := by kernel_rfl
theorem Try.okB_18 : bodyOk Try.f18 (Try.ptB 18) = true := by kernel_rfl
theorem Try.okB_21 : bodyOk Try.f21 (Try.ptB 21) = true := by kernel_rfl
theorem Try.okB_22 : bodyOk Try.f22 (Try.ptB 22) = true := by kernel_rfl
theorem Try.okB_24 : bodyOk Try.f24 (Try.ptB 24) = true := by kernel_rfl
theorem Try.okB_28 : bodyOk Try.f28 (Try.ptB 28) = true := by kernel_rfl
theorem Try.okB_30 : bodyOk Try.f30 (Try.ptB 30) = true := by kernel_rfl
theorem Try.okB_32 : bodyOk Try.f32 (Try.ptB 32) = true := by kernel_rfl
theorem Try.okB_36 : bodyOk Try.f36 (Try.ptB 36) = true := by kernel_rfl
theorem Try.okB_37 : bodyOk Try.f37 (Try.ptB 37) = true := by kernel_rfl
theorem Try.okB_38 : bodyOk Try.f38 (Try.ptB 38) = true := by kernel_rfl
theorem Try.okB_39 : bodyOk Try.f39 (Try.ptB 39) = true := by kernel_rfl
theorem Try.okB_40 : bodyOk Try.f40 (Try.ptB 40) = true := by kernel_rfl
theorem Try.okB_41 : bodyOk Try.f41 (Try.ptB 41) = true := by kernel_rfl
theorem Try.okB_42 : bodyOk Try.f42 (Try.ptB 42) = true := by kernel_rfl
theorem Try.okB_45 : bodyOk Try.f45 (Try.ptB 45) = true := by kernel_rfl
theorem Try.okB_46 : bodyOk Try.f46 (Try.ptB 46) = true := by kernel_rfl
theorem Try.okB_47 : bodyOk Try.f47 (Try.ptB 47) = true := by kernel_rfl
theorem Try.okB_50 : bodyOk Try.f50 (Try.ptB 50) = true := by kernel_rfl
theorem Try.okB_51 : bodyOk Try.f51 (Try.ptB 51) = true := by kernel_rfl
theorem Try.okB_52 : bodyOk Try.f52 (Try.ptB 52) = true := by kernel_rfl
theorem Try.okB_53 : bodyOk Try.f53 (Try.ptB 53) = true := by kernel_rfl
theorem Try.okB_54 : bodyOk Try.f54 (Try.ptB 54) = true := by kernel_rfl
theorem Try.okB_55 : bodyOk Try.f55 (Try.ptB 55) = true := by kernel_rfl
theorem Try.okB_56 : bodyOk Try.f56 (Try.ptB 56) = true := by kernel_rfl
theorem Try.okB_57 : bodyOk Try.f57 (Try.ptB 57) = true := by kernel_rfl
theorem Try.okB_58 : bodyOk Try.f58 (Try.ptB 58) = true := by kernel_rfl
theorem Try.okB_59 : bodyOk Try.f59 (Try.ptB 59) = true := by kernel_rfl
theorem Try.okB_60 : bodyOk Try.f60 (Try.ptB 60) = true := by kernel_rfl
theorem Try.okB_61 : bodyOk Try.f61 (Try.ptB 61) = true := by kernel_rfl
theorem Try.okB_62 : bodyOk Try.f62 (Try.ptB 62) = true := by kernel_rfl
theorem Try.okB_67 : bodyOk Try.f67 (Try.ptB 67) = true := by kernel_rfl
theorem Try.okB_68 : bodyOk Try.f68 (Try.ptB 68) = true := by kernel_rfl
theorem Try.okB_69 : bodyOk Try.f69 (Try.ptB 69) = true := by kernel_rfl
theorem Try.okB_73 : bodyOk Try.f73 (Try.ptB 73) = true := by kernel_rfl
theorem Try.okB_74 : bodyOk Try.f74 (Try.ptB 74) = true := by kernel_rfl
theorem Try.okB_75 : bodyOk Try.f75 (Try.ptB 75) = true := by kernel_rfl
theorem Try.okB_76 : bodyOk Try.f76 (Try.ptB 76) = true := by kernel_rfl
theorem Try.okB_77 : bodyOk Try.f77 (Try.ptB 77) = true := by kernel_rfl
theorem Try.okB_78 : bodyOk Try.f78 (Try.ptB 78) = true := by kernel_rfl
theorem Try.okB_79 : bodyOk Try.f79 (Try.ptB 79) = true := by kernel_rfl
theorem Try.okB_80 : bodyOk Try.f80 (Try.ptB 80) = true := by kernel_rfl
theorem Try.okB_81 : bodyOk Try.f81 (Try.ptB 81) = true := by kernel_rfl
theorem Try.okB_82 : bodyOk Try.f82 (Try.ptB 82) = true := by kernel_rfl
theorem Try.okB_83 : bodyOk Try.f83 (Try.ptB 83) = true := by kernel_rfl
theorem Try.okB_84 : bodyOk Try.f84 (Try.ptB 84) = true := by kernel_rfl
theorem Try.okB_85 : bodyOk Try.f85 (Try.ptB 85) = true := by kernel_rfl
theorem Try.okB_86 : bodyOk Try.f86 (Try.ptB 86) = true := by kernel_rfl
theorem Try.okB_87 : bodyOk Try.f87 (Try.ptB 87) = true := by kernel_rfl
theorem Try.okB_88 : bodyOk Try.f88 (Try.ptB 88) = true := by kernel_rfl
theorem Try.okB_89 : bodyOk Try.f89 (Try.ptB 89) = true := by kernel_rfl
theorem Try.okB_90 : bodyOk Try.f90 (Try.ptB 90) = true := by kernel_rfl
theorem Try.okB_91 : bodyOk Try.f91 (Try.ptB 91) = true := by kernel_rfl
theorem Try.okB_93 : bodyOk Try.f93 (Try.ptB 93) = true := by kernel_rfl
theorem Try.okB_94 : bodyOk Try.f94 (Try.ptB 94) = true := by kernel_rfl
theorem Try.okB_95 : bodyOk Try.f95 (Try.ptB 95) = true := by kernel_rfl
theorem Try.okB_96 : bodyOk Try.f96 (Try.ptB 96) = true := by kernel_rfl
theorem Try.okB_97 : bodyOk Try.f97 (Try.ptB 97) = true := by kernel_rfl
theorem Try.okB_98 : bodyOk Try.f98 (Try.ptB 98) = true := by kernel_rfl
theorem Try.okB_99 : bodyOk Try.f99 (Try.ptB 99) = true := by kernel_rfl
theorem Try.okB_100 : bodyOk Try.f100 (Try.ptB 100) = true := by kernel_rfl
theorem Try.okB_101 : bodyOk Try.f101 (Try.ptB 101) = true := by kernel_rfl
theorem Try.okB_102 : bodyOk Try.f102 (Try.ptB 102) = true := by kernel_rfl
theorem Try.okB_103 : bodyOk Try.f103 (Try.ptB 103) = true := by kernel_rfl
theorem Try.okB_104 : bodyOk Try.f104 (Try.ptB 104) = true := by kernel_rfl
theorem Try.okB_105 : bodyOk Try.f105 (Try.ptB 105) = true := by kernel_rfl
theorem Try.okB_106 : bodyOk Try.f106 (Try.ptB 106) = true := by kernel_rfl
theorem Try.okB_107 : bodyOk Try.f107 (Try.ptB 107) = true := by kernel_rfl
theorem Try.okB_108 : bodyOk Try.f108 (Try.ptB 108) = true := by kernel_rfl
theorem Try.okB_109 : bodyOk Try.f109 (Try.ptB 109) = true := by kernel_rfl
theorem Try.ftOkB : FtOk Try.prog (getLQ Try.ftLB) Try.ptB := FtL.okQ (FtL.cons Try.func9 (by decide) Try.okB_9 (FtL.cons Try.func13 (by decide) Try.okB_13 (FtL.cons Try.func18 (by decide) Try.okB_18 (FtL.cons Try.func21 (by decide) Try.okB_21 (FtL.cons Try.func22 (by decide) Try.okB_22 (FtL.cons Try.func24 (by decide) Try.okB_24 (FtL.cons Try.func28 (by decide) Try.okB_28 (FtL.cons Try.func30 (by decide) Try.okB_30 (FtL.cons Try.func32 (by decide) Try.okB_32 (FtL.cons Try.func36 (by decide) Try.okB_36 (FtL.cons Try.func37 (by decide) Try.okB_37 (FtL.cons Try.func38 (by decide) Try.okB_38 (FtL.cons Try.func39 (by decide) Try.okB_39 (FtL.cons Try.func40 (by decide) Try.okB_40 (FtL.cons Try.func41 (by decide) Try.okB_41 (FtL.cons Try.func42 (by decide) Try.okB_42 (FtL.cons Try.func45 (by decide) Try.okB_45 (FtL.cons Try.func46 (by decide) Try.okB_46 (FtL.cons Try.func47 (by decide) Try.okB_47 (FtL.cons Try.func50 (by decide) Try.okB_50 (FtL.cons Try.func51 (by decide) Try.okB_51 (FtL.cons Try.func52 (by decide) Try.okB_52 (FtL.cons Try.func53 (by decide) Try.okB_53 (FtL.cons Try.func54 (by decide) Try.okB_54 (FtL.cons Try.func55 (by decide) Try.okB_55 (FtL.cons Try.func56 (by decide) Try.okB_56 (FtL.cons Try.func57 (by decide) Try.okB_57 (FtL.cons Try.func58 (by decide) Try.okB_58 (FtL.cons Try.func59 (by decide) Try.okB_59 (FtL.cons Try.func60 (by decide) Try.okB_60 (FtL.cons Try.func61 (by decide) Try.okB_61 (FtL.cons Try.func62 (by decide) Try.okB_62 (FtL.cons Try.func67 (by decide) Try.okB_67 (FtL.cons Try.func68 (by decide) Try.okB_68 (FtL.cons Try.func69 (by decide) Try.okB_69 (FtL.cons Try.func73 (by decide) Try.okB_73 (FtL.cons Try.func74 (by decide) Try.okB_74 (FtL.cons Try.func75 (by decide) Try.okB_75 (FtL.cons Try.func76 (by decide) Try.okB_76 (FtL.cons Try.func77 (by decide) Try.okB_77 (FtL.cons Try.func78 (by decide) Try.okB_78 (FtL.cons Try.func79 (by decide) Try.okB_79 (FtL.cons Try.func80 (by decide) Try.okB_80 (FtL.cons Try.func81 (by decide) Try.okB_81 (FtL.cons Try.func82 (by decide) Try.okB_82 (FtL.cons Try.func83 (by decide) Try.okB_83 (FtL.cons Try.func84 (by decide) Try.okB_84 (FtL.cons Try.func85 (by decide) Try.okB_85 (FtL.cons Try.func86 (by decide) Try.okB_86 (FtL.cons Try.func87 (by decide) Try.okB_87 (FtL.cons Try.func88 (by decide) Try.okB_88 (FtL.cons Try.func89 (by decide) Try.okB_89 (FtL.cons Try.func90 (by decide) Try.okB_90 (FtL.cons Try.func91 (by decide) Try.okB_91 (FtL.cons Try.func93 (by decide) Try.okB_93 (FtL.cons Try.func94 (by decide) Try.okB_94 (FtL.cons Try.func95 (by decide) Try.okB_95 (FtL.cons Try.func96 (by decide) Try.okB_96 (FtL.cons Try.func97 (by decide) Try.okB_97 (FtL.cons Try.func98 (by decide) Try.okB_98 (FtL.cons Try.func99 (by decide) Try.okB_99 (FtL.cons Try.func100 (by decide) Try.okB_100 (FtL.cons Try.func101 (by decide) Try.okB_101 (FtL.cons Try.func102 (by decide) Try.okB_102 (FtL.cons Try.func103 (by decide) Try.okB_103 (FtL.cons Try.func104 (by decide) Try.okB_104 (FtL.cons Try.func105 (by decide) Try.okB_105 (FtL.cons Try.func106 (by decide) Try.okB_106 (FtL.cons Try.func107 (by decide) Try.okB_107 (FtL.cons Try.func108 (by decide) Try.okB_108 (FtL.cons Try.func109 (by decide) Try.okB_109 FtL.nil)))))))))))))))))))))))))))))))))))))))))))))))))))))))))))))))))))))))
end Go.Proofs

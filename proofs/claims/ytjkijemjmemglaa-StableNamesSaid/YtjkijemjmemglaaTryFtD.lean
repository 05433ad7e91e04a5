/- The functions that this law runs, as a table; by program (genft.py). -/
import Derived.Test.YtjkijemjmemglaaTryTab
import Derived.Test.YtjkijemjmemglaaTmQuick
namespace Go.Proofs
open Go.Tm

def Try.ptLD : List (Nat × List (Nat × List (Nat × Nat))) := [
  (4, [(4, [(0, 1), (4, 5), (0, 6), (1, 6), (2, 6), (3, 6), (4, 6), (5, 6), (5, 7)]), (5, [(0, 1), (4, 5), (5, 6)]), (6, [(0, 1), (4, 5), (5, 6)]), (7, [(0, 1), (4, 5), (0, 6), (1, 6), (2, 6), (3, 6), (4, 6), (5, 6), (5, 7)]), (8, [(0, 1), (4, 5), (0, 6), (1, 6), (2, 6), (3, 6), (4, 6), (5, 6), (5, 7)]), (10, [(0, 1), (4, 5), (0, 6), (1, 6), (2, 6), (3, 6), (4, 6), (5, 6), (5, 7)])]),
  (13, [(6, [(0, 1), (0, 2), (1, 2), (0, 3), (0, 4), (7, 8), (0, 9), (1, 9), (2, 9), (3, 9), (4, 9), (5, 9), (6, 9), (7, 9), (8, 9), (8, 10)])]),
  (22, [(6, [(0, 1), (0, 4), (1, 4), (2, 4), (3, 4), (0, 5), (1, 5), (2, 5), (3, 5), (4, 5), (0, 6), (1, 6), (2, 6), (3, 6), (0, 7), (1, 7), (2, 7), (3, 7)])]),
  (46, [(12, [(4, 6), (5, 6), (4, 7), (5, 7), (4, 8), (5, 8), (12, 14), (13, 14), (12, 15), (13, 15), (12, 16), (13, 16), (14, 16), (15, 16), (12, 17), (13, 17), (14, 17), (15, 17), (12, 18), (13, 18), (12, 19), (13, 19), (12, 20), (13, 20), (44, 46), (45, 46), (44, 47), (45, 47), (44, 50), (45, 50), (46, 50), (47, 50), (48, 50), (49, 50)])]),
  (48, [(15, [(0, 2), (1, 2), (2, 3)])]),
  (50, [(5, [(0, 2), (1, 2), (0, 3), (1, 3), (0, 4), (1, 4)])]),
  (51, [(1, [(0, 2), (1, 2), (0, 3), (1, 3), (0, 4), (1, 4), (0, 5), (1, 5), (0, 6), (1, 6)]), (3, [(0, 4), (1, 4), (2, 4), (3, 4), (0, 5), (1, 5), (2, 5), (3, 5)]), (4, [(0, 2), (1, 2), (0, 3), (1, 3), (0, 4), (1, 4), (0, 5), (1, 5), (12, 14), (13, 14), (12, 15), (13, 15), (12, 16), (13, 16), (12, 17), (13, 17), (12, 18), (13, 18)]), (7, [(0, 4), (1, 4), (2, 4), (3, 4), (7, 8), (8, 9)]), (12, [(0, 1), (0, 2), (0, 3), (0, 4), (1, 4), (2, 4), (3, 4), (0, 5), (1, 5), (2, 5), (3, 5), (0, 6), (1, 6), (2, 6), (3, 6), (0, 7)]), (23, [(0, 1), (0, 2), (0, 3), (0, 4), (0, 5), (1, 5), (2, 5), (3, 5), (4, 5), (0, 6), (1, 6), (2, 6), (3, 6), (4, 6), (5, 6), (0, 7), (1, 7), (2, 7), (3, 7), (4, 7), (5, 7), (0, 8)]), (24, [(0, 4), (1, 4), (2, 4), (3, 4), (0, 5), (1, 5), (2, 5), (3, 5), (4, 5)])]),
  (52, [(11, [(0, 1), (0, 2), (1, 2), (0, 3), (0, 4), (1, 4), (2, 4), (3, 4), (0, 5), (1, 5), (2, 5), (3, 5), (1, 6), (2, 6), (3, 6), (4, 6), (5, 6), (1, 7), (2, 7), (3, 7), (4, 7), (5, 7), (4, 8), (5, 8)])]),
  (87, [(1, [(0, 2), (1, 2), (0, 3), (1, 3), (0, 5), (1, 5), (2, 5), (3, 5), (4, 5), (0, 6), (1, 6), (2, 6), (3, 6), (4, 6), (0, 7), (1, 7), (2, 7), (3, 7), (4, 7), (5, 7), (6, 7), (0, 8), (1, 8), (2, 8), (3, 8), (4, 8), (5, 8), (6, 8)])]),
  (95, [(5, [(0, 1), (0, 2), (1, 2), (0, 3), (0, 4), (0, 5), (1, 5), (2, 5), (3, 5), (4, 5)]), (8, [(0, 1), (0, 2), (1, 2), (0, 3), (0, 4), (0, 5), (0, 6), (5, 6), (0, 7), (5, 7), (6, 7), (0, 8), (5, 8), (0, 9), (5, 9), (0, 10), (5, 10), (6, 10), (7, 10), (8, 10), (9, 10), (0, 11), (0, 12), (0, 13), (12, 14), (13, 14)])]),
  (98, [(5, [(0, 1), (0, 3), (1, 3), (2, 3), (0, 4), (1, 4), (2, 4), (3, 4), (0, 5), (1, 5), (2, 5)])]),
  (99, [(11, [(0, 1), (0, 2), (1, 2), (0, 3), (0, 5), (1, 5), (2, 5), (3, 5), (4, 5), (0, 6), (1, 6), (2, 6), (3, 6), (4, 6), (5, 6), (0, 7), (1, 7), (2, 7), (3, 7), (4, 7)]), (15, [(0, 1), (0, 2), (1, 2), (0, 3), (0, 5), (1, 5), (2, 5), (3, 5), (4, 5), (0, 6), (1, 6), (2, 6), (3, 6), (4, 6), (5, 6), (0, 7), (1, 7), (2, 7), (3, 7), (4, 7)])]),
  (139, [(3, [(0, 1), (0, 2), (1, 2), (0, 3), (1, 3), (2, 3), (0, 4), (1, 4), (2, 4), (3, 4), (0, 5), (1, 5), (2, 5), (3, 5), (4, 5), (0, 6), (1, 6), (2, 6), (3, 6), (0, 7), (1, 7), (2, 7), (3, 7), (0, 8), (1, 8), (2, 8), (3, 8), (4, 8), (5, 8), (6, 8), (7, 8), (0, 9), (1, 9), (2, 9), (3, 9), (4, 9), (5, 9), (6, 9), (7, 9), (8, 9), (0, 10), (1, 10), (2, 10), (3, 10), (4, 10), (5, 10), (6, 10), (7, 10), (0, 11), (1, 11), (2, 11), (3, 11), (4, 11), (5, 11), (6, 11), (7, 11), (2, 12), (3, 12), (2, 13), (3, 13)])])]
noncomputable def Try.ptD (K r : Nat) : List (Nat × Nat) := match getLQ Try.ptLD K with | some l => (match getLQ l r with | some x => x | none => []) | none => []
noncomputable def Try.ftLD : List (Nat × Func) := [(4, Try.f4), (13, Try.f13), (14, Try.f14), (15, Try.f15), (16, Try.f16), (17, Try.f17), (18, Try.f18), (19, Try.f19), (20, Try.f20), (21, Try.f21), (22, Try.f22), (46, Try.f46), (47, Try.f47), (48, Try.f48), (49, Try.f49), (50, Try.f50), (51, Try.f51), (52, Try.f52), (53, Try.f53), (80, Try.f80), (81, Try.f81), (84, Try.f84), (85, Try.f85), (86, Try.f86), (87, Try.f87), (88, Try.f88), (89, Try.f89), (90, Try.f90), (91, Try.f91), (92, Try.f92), (93, Try.f93), (94, Try.f94), (95, Try.f95), (96, Try.f96), (97, Try.f97), (98, Try.f98), (99, Try.f99), (100, Try.f100), (101, Try.f101), (102, Try.f102), (119, Try.f119), (120, Try.f120), (121, Try.f121), (122, Try.f122), (123, Try.f123), (124, Try.f124), (125, Try.f125), (126, Try.f126), (135, Try.f135), (136, Try.f136), (139, Try.f139)]
theorem Try.okD_4 : bodyOk Try.f4 (Try.ptD 4) = true := by kernel_rfl
theorem Try.okD_13 : bodyOk Try.f13 (Try.ptD 13) = true := by kernel_rfl
theorem Try.okD_14 : bodyOk Try.f14 (Try.ptD 14) = true := by kernel_rfl
theorem Try.okD_15 : bodyOk Try.f15 (Try.ptD 15) = true := by kernel_rfl
theorem Try.okD_16 : bodyOk Try.f16 (Try.ptD 16) = true := by kernel_rfl
theorem Try.okD_17 : bodyOk Try.f17 (Try.ptD 17) = true := by kernel_rfl
theorem Try.okD_18 : bodyOk Try.f18 (Try.ptD 18) = true := by kernel_rfl
theorem Try.okD_19 : bodyOk Try.f19 (Try.ptD 19) = true := by kernel_rfl
theorem Try.okD_20 : bodyOk Try.f20 (Try.ptD 20) = true := by kernel_rfl
theorem Try.okD_21 : bodyOk Try.f21 (Try.ptD 21) = true := by kernel_rfl
theorem Try.okD_22 : bodyOk Try.f22 (Try.ptD 22) = true := by kernel_rfl
theorem Try.okD_46 : bodyOk Try.f46 (Try.ptD 46) = true := by kernel_rfl
theorem Try.okD_47 : bodyOk Try.f47 (Try.ptD 47) = true := by kernel_rfl
theorem Try.okD_48 : bodyOk Try.f48 (Try.ptD 48) = true := by kernel_rfl
theorem Try.okD_49 : bodyOk Try.f49 (Try.ptD 49) = true := by kernel_rfl
theorem Try.okD_50 : bodyOk Try.f50 (Try.ptD 50) = true := by kernel_rfl
theorem Try.okD_51 : bodyOk Try.f51 (Try.ptD 51) = true := by kernel_rfl
theorem Try.okD_52 : bodyOk Try.f52 (Try.ptD 52) = true := by kernel_rfl
theorem Try.okD_53 : bodyOk Try.f53 (Try.ptD 53) = true := by kernel_rfl
theorem Try.okD_80 : bodyOk Try.f80 (Try.ptD 80) = true := by kernel_rfl
theorem Try.okD_81 : bodyOk Try.f81 (Try.ptD 81) = true := by kernel_rfl
theorem Try.okD_84 : bodyOk Try.f84 (Try.ptD 84) = true := by kernel_rfl
theorem Try.okD_85 : bodyOk Try.f85 (Try.ptD 85) = true := by kernel_rfl
theorem Try.okD_86 : bodyOk Try.f86 (Try.ptD 86) = true := by kernel_rfl
theorem Try.okD_87 : bodyOk Try.f87 (Try.ptD 87) = true := by kernel_rfl
theorem Try.okD_88 : bodyOk Try.f88 (Try.ptD 88) = true := by kernel_rfl
theorem Try.okD_89 : bodyOk Try.f89 (Try.ptD 89) = true := by kernel_rfl
theorem Try.okD_90 : bodyOk Try.f90 (Try.ptD 90) = true := by kernel_rfl
theorem Try.okD_91 : bodyOk Try.f91 (Try.ptD 91) = true := by kernel_rfl
theorem Try.okD_92 : bodyOk Try.f92 (Try.ptD 92) = true := by kernel_rfl
theorem Try.okD_93 : bodyOk Try.f93 (Try.ptD 93) = true := by kernel_rfl
theorem Try.okD_94 : bodyOk Try.f94 (Try.ptD 94) = true := by kernel_rfl
theorem Try.okD_95 : bodyOk Try.f95 (Try.ptD 95) = true := by kernel_rfl
theorem Try.okD_96 : bodyOk Try.f96 (Try.ptD 96) = true := by kernel_rfl
theorem Try.okD_97 : bodyOk Try.f97 (Try.ptD 97) = true := by kernel_rfl
theorem Try.okD_98 : bodyOk Try.f98 (Try.ptD 98) = true := by kernel_rfl
theorem Try.okD_99 : bodyOk Try.f99 (Try.ptD 99) = true := by kernel_rfl
theorem Try.okD_100 : bodyOk Try.f100 (Try.ptD 100) = true := by kernel_rfl
theorem Try.okD_101 : bodyOk Try.f101 (Try.ptD 101) = true := by kernel_rfl
theorem Try.okD_102 : bodyOk Try.f102 (Try.ptD 102) = true := by kernel_rfl
theorem Try.okD_119 : bodyOk Try.f119 (Try.ptD 119) = true := by kernel_rfl
theorem Try.okD_120 : bodyOk Try.f120 (Try.ptD 120) = true := by kernel_rfl
theorem Try.okD_121 : bodyOk Try.f121 (Try.ptD 121) = true := by kernel_rfl
theorem Try.okD_122 : bodyOk Try.f122 (Try.ptD 122) = true := by kernel_rfl
theorem Try.okD_123 : bodyOk Try.f123 (Try.ptD 123) = true := by kernel_rfl
theorem Try.okD_124 : bodyOk Try.f124 (Try.ptD 124) = true := by kernel_rfl
theorem Try.okD_125 : bodyOk Try.f125 (Try.ptD 125) = true := by kernel_rfl
theorem Try.okD_126 : bodyOk Try.f126 (Try.ptD 126) = true := by kernel_rfl
theorem Try.okD_135 : bodyOk Try.f135 (Try.ptD 135) = true := by kernel_rfl
theorem Try.okD_136 : bodyOk Try.f136 (Try.ptD 136) = true := by kernel_rfl
theorem Try.okD_139 : bodyOk Try.f139 (Try.ptD 139) = true := by kernel_rfl
theorem Try.ftOkD : FtOk Try.prog (getLQ Try.ftLD) Try.ptD := FtL.okQ (FtL.cons Try.func4 (by decide) Try.okD_4 (FtL.cons Try.func13 (by decide) Try.okD_13 (FtL.cons Try.func14 (by decide) Try.okD_14 (FtL.cons Try.func15 (by decide) Try.okD_15 (FtL.cons Try.func16 (by decide) Try.okD_16 (FtL.cons Try.func17 (by decide) Try.okD_17 (FtL.cons Try.func18 (by decide) Try.okD_18 (FtL.cons Try.func19 (by decide) Try.okD_19 (FtL.cons Try.func20 (by decide) Try.okD_20 (FtL.cons Try.func21 (by decide) Try.okD_21 (FtL.cons Try.func22 (by decide) Try.okD_22 (FtL.cons Try.func46 (by decide) Try.okD_46 (FtL.cons Try.func47 (by decide) Try.okD_47 (FtL.cons Try.func48 (by decide) Try.okD_48 (FtL.cons Try.func49 (by decide) Try.okD_49 (FtL.cons Try.func50 (by decide) Try.okD_50 (FtL.cons Try.func51 (by decide) Try.okD_51 (FtL.cons Try.func52 (by decide) Try.okD_52 (FtL.cons Try.func53 (by decide) Try.okD_53 (FtL.cons Try.func80 (by decide) Try.okD_80 (FtL.cons Try.func81 (by decide) Try.okD_81 (FtL.cons Try.func84 (by decide) Try.okD_84 (FtL.cons Try.func85 (by decide) Try.okD_85 (FtL.cons Try.func86 (by decide) Try.okD_86 (FtL.cons Try.func87 (by decide) Try.okD_87 (FtL.cons Try.func88 (by decide) Try.okD_88 (FtL.cons Try.func89 (by decide) Try.okD_89 (FtL.cons Try.func90 (by decide) Try.okD_90 (FtL.cons Try.func91 (by decide) Try.okD_91 (FtL.cons Try.func92 (by decide) Try.okD_92 (FtL.cons Try.func93 (by decide) Try.okD_93 (FtL.cons Try.func94 (by decide) Try.okD_94 (FtL.cons Try.func95 (by decide) Try.okD_95 (FtL.cons Try.func96 (by decide) Try.okD_96 (FtL.cons Try.func97 (by decide) Try.okD_97 (FtL.cons Try.func98 (by decide) Try.okD_98 (FtL.cons Try.func99 (by decide) Try.okD_99 (FtL.cons Try.func100 (by decide) Try.okD_100 (FtL.cons Try.func101 (by decide) Try.okD_101 (FtL.cons Try.func102 (by decide) Try.okD_102 (FtL.cons Try.func119 (by decide) Try.okD_119 (FtL.cons Try.func120 (by decide) Try.okD_120 (FtL.cons Try.func121 (by decide) Try.okD_121 (FtL.cons Try.func122 (by decide) Try.okD_122 (FtL.cons Try.func123 (by decide) Try.okD_123 (FtL.cons Try.func124 (by decide) Try.okD_124 (FtL.cons Try.func125 (by decide) Try.okD_125 (FtL.cons Try.func126 (by decide) Try.okD_126 (FtL.cons Try.func135 (by decide) Try.okD_135 (FtL.cons Try.func136 (by decide) Try.okD_136 (FtL.cons Try.func139 (by decide) Try.okD_139 FtL.nil)))))))))))))))))))))))))))))))))))))))))))))))))))
end Go.Proofs

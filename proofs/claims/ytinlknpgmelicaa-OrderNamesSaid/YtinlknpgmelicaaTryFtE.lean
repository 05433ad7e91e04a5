/- The functions that this law runs, as a table; by program (genft.py). -/
import Derived.Test.YtinlknpgmelicaaTryTab
import Derived.Test.YtinlknpgmelicaaTmQuick
namespace Go.Proofs
open Go.Tm

def Try.ptLE : List (Nat × List (Nat × List (Nat × Nat))) := [
  (5, [(7, [(0, 3), (1, 3), (2, 3)]), (9, [(1, 2), (5, 6), (5, 7), (6, 7), (6, 8), (7, 8), (7, 9)])]),
  (12, [(10, [(0, 1), (0, 2), (0, 3), (1, 3), (2, 3), (3, 4)]), (15, [(10, 12), (11, 12), (10, 13), (11, 13), (20, 23), (21, 23), (22, 23), (20, 24), (21, 24), (22, 24), (20, 25), (21, 25), (22, 25), (23, 25), (24, 25), (20, 26), (21, 26), (22, 26), (23, 26), (24, 26), (20, 27), (21, 27), (22, 27), (20, 28), (21, 28), (22, 28), (20, 29), (21, 29), (22, 29), (20, 30), (21, 30), (22, 30), (35, 36), (35, 37), (35, 38), (48, 49), (48, 50)])]),
  (28, [(2, [(0, 1), (0, 2), (1, 2), (1, 3), (2, 3), (2, 4)])]),
  (31, [(4, [(0, 1), (0, 3), (1, 3), (2, 3), (0, 4), (1, 4), (2, 4), (3, 4), (0, 5), (1, 5), (2, 5)])]),
  (36, [(1, [(0, 3), (1, 3), (2, 3), (0, 4), (1, 4), (2, 4), (5, 6)]), (5, [(0, 2), (1, 2), (0, 3), (1, 3), (2, 3), (0, 4), (1, 4), (2, 4), (0, 5), (1, 5), (2, 5), (3, 5), (4, 5), (0, 6), (1, 6), (2, 6), (0, 7), (1, 7), (2, 7), (0, 8), (1, 8), (2, 8), (0, 9), (1, 9), (2, 9), (0, 10), (1, 10), (2, 10)])]),
  (37, [(8, [(0, 1), (0, 2), (0, 3), (0, 4), (0, 5), (0, 6), (1, 6), (2, 6), (3, 6), (4, 6), (5, 6), (0, 7), (1, 7), (2, 7), (3, 7), (4, 7), (5, 7), (6, 7), (0, 8), (1, 8), (2, 8), (3, 8), (4, 8), (5, 8), (6, 8), (7, 8), (0, 9), (1, 9), (2, 9), (3, 9), (4, 9), (5, 9), (6, 9), (7, 9), (0, 10), (1, 10), (2, 10), (3, 10), (4, 10), (5, 10), (6, 10), (7, 10), (0, 11), (1, 11), (2, 11), (3, 11), (4, 11), (5, 11), (6, 11), (7, 11), (0, 12), (1, 12), (2, 12), (3, 12), (4, 12), (5, 12), (6, 12), (7, 12), (0, 13), (1, 13), (2, 13), (3, 13), (4, 13), (5, 13), (6, 13), (0, 14), (1, 14), (2, 14), (3, 14), (4, 14), (5, 14), (6, 14), (0, 15)])]),
  (38, [(2, [(0, 5), (1, 5), (2, 5), (3, 5), (4, 5), (0, 6), (1, 6), (2, 6), (3, 6), (4, 6), (5, 6), (0, 7), (1, 7), (2, 7), (3, 7), (4, 7), (5, 7), (0, 8), (1, 8), (2, 8), (3, 8), (4, 8), (5, 8), (0, 9), (1, 9), (2, 9), (3, 9), (4, 9), (5, 9), (0, 10), (1, 10), (2, 10), (3, 10), (4, 10), (5, 10), (0, 11), (1, 11), (2, 11), (3, 11), (4, 11), (5, 11), (6, 11), (7, 11), (8, 11), (9, 11), (10, 11), (0, 12), (1, 12), (2, 12), (3, 12), (4, 12), (5, 12), (6, 12), (7, 12), (8, 12), (9, 12), (10, 12), (11, 12), (11, 13), (11, 14), (11, 15)])]),
  (39, [(6, [(0, 1), (0, 2), (0, 3), (0, 4), (0, 5), (0, 6), (1, 6), (2, 6), (3, 6), (4, 6), (5, 6), (0, 7), (1, 7), (2, 7), (3, 7), (4, 7), (5, 7), (0, 8), (1, 8), (2, 8), (3, 8), (4, 8), (5, 8), (0, 9)])]),
  (41, [(1, [(0, 2), (1, 2), (0, 3), (1, 3), (0, 5), (1, 5), (2, 5), (3, 5), (4, 5), (0, 6), (1, 6), (2, 6), (3, 6), (4, 6), (0, 7), (1, 7), (2, 7), (3, 7), (4, 7), (5, 7), (6, 7), (0, 8), (1, 8), (2, 8), (3, 8), (4, 8), (5, 8), (6, 8)])]),
  (44, [(7, [(0, 1), (0, 2), (1, 2), (0, 3), (0, 4), (0, 5), (1, 5), (2, 5), (3, 5), (4, 5)])]),
  (45, [(1, [(0, 2), (1, 2)]), (3, [(0, 2), (1, 2)])]),
  (61, [(3, [(0, 1), (0, 2), (0, 3), (0, 4), (1, 4), (2, 4), (3, 4), (0, 5), (0, 6), (0, 7), (10, 11), (11, 12)])]),
  (68, [(6, [(0, 1), (0, 4), (1, 4), (2, 4), (3, 4), (0, 5), (1, 5), (2, 5), (3, 5), (4, 5), (0, 6), (1, 6), (2, 6), (3, 6), (0, 7), (1, 7), (2, 7), (3, 7)])]),
  (71, [(13, [(0, 1), (0, 2), (0, 3), (0, 4), (4, 5)]), (14, [(0, 2), (1, 2), (0, 3), (1, 3), (2, 4), (3, 4), (2, 5), (3, 5)]), (15, [(0, 1), (0, 2), (0, 3), (0, 4), (0, 5), (0, 6), (0, 7), (0, 8), (8, 9)]), (17, [(0, 1), (0, 2), (0, 3), (0, 4), (4, 5)]), (20, [(0, 2), (1, 2), (0, 3), (1, 3), (0, 4), (1, 4), (2, 4), (3, 4), (0, 5), (1, 5), (2, 5), (3, 5), (2, 6), (3, 6), (4, 6), (5, 6), (2, 7), (3, 7), (4, 7), (5, 7), (4, 8), (5, 8), (4, 9), (5, 9)])]),
  (78, [(11, [(0, 1), (0, 2), (1, 2), (0, 3), (0, 5), (1, 5), (2, 5), (3, 5), (4, 5), (0, 6), (1, 6), (2, 6), (3, 6), (4, 6), (5, 6), (0, 7), (1, 7), (2, 7), (3, 7), (4, 7)]), (15, [(0, 1), (0, 2), (1, 2), (0, 3), (0, 5), (1, 5), (2, 5), (3, 5), (4, 5), (0, 6), (1, 6), (2, 6), (3, 6), (4, 6), (5, 6), (0, 7), (1, 7), (2, 7), (3, 7), (4, 7)])]),
  (79, [(5, [(0, 1), (0, 3), (1, 3), (2, 3), (0, 4), (1, 4), (2, 4), (3, 4), (0, 5), (1, 5), (2, 5)])]),
  (113, [(6, [(0, 1), (0, 4), (1, 4), (2, 4), (3, 4), (0, 5), (1, 5), (2, 5), (3, 5), (4, 5), (0, 6), (1, 6), (2, 6), (3, 6), (0, 7), (1, 7), (2, 7), (3, 7)])]),
  (138, [(3, [(0, 1), (0, 2), (1, 2), (0, 3), (1, 3), (2, 3), (0, 4), (1, 4), (2, 4), (3, 4), (0, 5), (1, 5), (2, 5), (3, 5), (4, 5), (0, 6), (1, 6), (2, 6), (3, 6), (0, 7), (1, 7), (2, 7), (3, 7), (0, 8), (1, 8), (2, 8), (3, 8), (4, 8), (5, 8), (6, 8), (7, 8), (0, 9), (1, 9), (2, 9), (3, 9), (4, 9), (5, 9), (6, 9), (7, 9), (8, 9), (0, 10), (1, 10), (2, 10), (3, 10), (4, 10), (5, 10), (6, 10), (7, 10), (0, 11), (1, 11), (2, 11), (3, 11), (4, 11), (5, 11), (6, 11), (7, 11), (2, 12), (3, 12), (2, 13), (3, 13)])]),
  (143, [(1, [(0, 1), (0, 2), (0, 3), (0, 4), (0, 5), (1, 5), (2, 5), (3, 5), (4, 5), (0, 6), (1, 6), (2, 6), (3, 6), (4, 6), (5, 6), (0, 7), (1, 7), (2, 7), (3, 7), (4, 7), (5, 7), (0, 8), (1, 8), (2, 8), (3, 8), (4, 8), (5, 8), (0, 9), (1, 9), (2, 9), (3, 9), (4, 9), (5, 9), (0, 10), (1, 10), (2, 10), (3, 10), (4, 10), (5, 10), (0, 11), (1, 11), (2, 11), (3, 11), (4, 11), (0, 12)])])]
noncomputable def Try.ptE (K r : Nat) : List (Nat × Nat) := match getLQ Try.ptLE K with | some l => (match getLQ l r with | some x => x | none => []) | none => []
noncomputable def Try.ftLE : List (Nat × Func) := [(5, Try.f5), (10, Try.f10), (12, Try.f12), (23, Try.f23), (24, Try.f24), (25, Try.f25), (26, Try.f26), (27, Try.f27), (28, Try.f28), (29, Try.f29), (30, Try.f30), (31, Try.f31), (32, Try.f32), (34, Try.f34), (35, Try.f35), (36, Try.f36), (37, Try.f37), (38, Try.f38), (39, Try.f39), (40, Try.f40), (41, Try.f41), (42, Try.f42), (43, Try.f43), (44, Try.f44), (45, Try.f45), (54, Try.f54), (55, Try.f55), (56, Try.f56), (57, Try.f57), (58, Try.f58), (59, Try.f59), (60, Try.f60), (61, Try.f61), (62, Try.f62), (63, Try.f63), (64, Try.f64), (65, Try.f65), (66, Try.f66), (67, Try.f67), (68, Try.f68), (69, Try.f69), (70, Try.f70), (71, Try.f71), (72, Try.f72), (73, Try.f73), (74, Try.f74), (75, Try.f75), (76, Try.f76), (77, Try.f77), (78, Try.f78), (79, Try.f79), (80, Try.f80), (81, Try.f81), (82, Try.f82), (83, Try.f83), (89, Try.f89), (91, Try.f91), (101, Try.f101), (102, Try.f102), (103, Try.f103), (104, Try.f104), (105, Try.f105), (106, Try.f106), (107, Try.f107), (108, Try.f108), (109, Try.f109), (110, Try.f110), (111, Try.f111), (112, Try.f112), (113, Try.f113), (114, Try.f114), (115, Try.f115), (116, Try.f116), (117, Try.f117), (118, Try.f118), (119, Try.f119), (121, Try.f121), (122, Try.f122), (127, Try.f127), (128, Try.f128), (129, Try.f129), (130, Try.f130), (131, Try.f131), (132, Try.f132), (133, Try.f133), (134, Try.f134), (137, Try.f137), (138, Try.f138), (140, Try.f140), (141, Try.f141), (142, Try.f142), (143, Try.f143), (144, Try.f144)]
theorem Try.okE_5 : bodyOk Try.f5 (Try.ptE 5) = true := by kernel_rfl
theorem Try.okE_10 : bodyOk Try.f10 (Try.ptE 10) = true := by kernel_rfl
theorem Try.okE_12 : bodyOk Try.f12 (Try.ptE 12) = true := by kernel_rfl
theorem Try.okE_23 : bodyOk Try.f23 (Try.ptE 23) = true := by kernel_rfl
theorem Try.okE_24 : bodyOk Try.f24 (Try.ptE 24) = true := by kernel_rfl
theorem Try.okE_25 : bodyOk Try.f25 (Try.ptE 25) = true := by kernel_rfl
theorem Try.okE_26 : bodyOk Try.f26 (Try.ptE 26) = true := by kernel_rfl
theorem Try.okE_27 : bodyOk Try.f27 (Try.ptE 27) = true := by kernel_rfl
theorem Try.okE_28 : bodyOk Try.f28 (Try.ptE 28) = true := by kernel_rfl
theorem Try.okE_29 : bodyOk Try.f29 (Try.ptE 29) = true := by kernel_rfl
theorem Try.okE_30 : bodyOk Try.f30 (Try.ptE 30) = true := by kernel_rfl
theorem Try.okE_31 : bodyOk Try.f31 (Try.ptE 31) = true := by kernel_rfl
theorem Try.okE_32 : bodyOk Try.f32 (Try.ptE 32) = true := by kernel_rfl
theorem Try.okE_34 : bodyOk Try.f34 (Try.ptE 34) = true := by kernel_rfl
theorem Try.okE_35 : bodyOk Try.f35 (Try.ptE 35) = true := by kernel_rfl
theorem Try.okE_36 : bodyOk Try.f36 (Try.ptE 36) = true := by kernel_rfl
theorem Try.okE_37 : bodyOk Try.f37 (Try.ptE 37) = true := by kernel_rfl
theorem Try.okE_38 : bodyOk Try.f38 (Try.ptE 38) = true := by kernel_rfl
theorem Try.okE_39 : bodyOk Try.f39 (Try.ptE 39) = true := by kernel_rfl
theorem Try.okE_40 : bodyOk Try.f40 (Try.ptE 40) = true := by kernel_rfl
theorem Try.okE_41 : bodyOk Try.f41 (Try.ptE 41) = true := by kernel_rfl
theorem Try.okE_42 : bodyOk Try.f42 (Try.ptE 42) = true := by kernel_rfl
theorem Try.okE_43 : bodyOk Try.f43 (Try.ptE 43) = true := by kernel_rfl
theorem Try.okE_44 : bodyOk Try.f44 (Try.ptE 44) = true := by kernel_rfl
theorem Try.okE_45 : bodyOk Try.f45 (Try.ptE 45) = true := by kernel_rfl
theorem Try.okE_54 : bodyOk Try.f54 (Try.ptE 54) = true := by kernel_rfl
theorem Try.okE_55 : bodyOk Try.f55 (Try.ptE 55) = true := by kernel_rfl
theorem Try.okE_56 : bodyOk Try.f56 (Try.ptE 56) = true := by kernel_rfl
theorem Try.okE_57 : bodyOk Try.f57 (Try.ptE 57) = true := by kernel_rfl
theorem Try.okE_58 : bodyOk Try.f58 (Try.ptE 58) = true := by kernel_rfl
theorem Try.okE_59 : bodyOk Try.f59 (Try.ptE 59) = true := by kernel_rfl
theorem Try.okE_60 : bodyOk Try.f60 (Try.ptE 60) = true := by kernel_rfl
theorem Try.okE_61 : bodyOk Try.f61 (Try.ptE 61) = true := by kernel_rfl
theorem Try.okE_62 : bodyOk Try.f62 (Try.ptE 62) = true := by kernel_rfl
theorem Try.okE_63 : bodyOk Try.f63 (Try.ptE 63) = true := by kernel_rfl
theorem Try.okE_64 : bodyOk Try.f64 (Try.ptE 64) = true := by kernel_rfl
theorem Try.okE_65 : bodyOk Try.f65 (Try.ptE 65) = true := by kernel_rfl
theorem Try.okE_66 : bodyOk Try.f66 (Try.ptE 66) = true := by kernel_rfl
theorem Try.okE_67 : bodyOk Try.f67 (Try.ptE 67) = true := by kernel_rfl
theorem Try.okE_68 : bodyOk Try.f68 (Try.ptE 68) = true := by kernel_rfl
theorem Try.okE_69 : bodyOk Try.f69 (Try.ptE 69) = true := by kernel_rfl
theorem Try.okE_70 : bodyOk Try.f70 (Try.ptE 70) = true := by kernel_rfl
theorem Try.okE_71 : bodyOk Try.f71 (Try.ptE 71) = true := by kernel_rfl
theorem Try.okE_72 : bodyOk Try.f72 (Try.ptE 72) = true := by kernel_rfl
theorem Try.okE_73 : bodyOk Try.f73 (Try.ptE 73) = true := by kernel_rfl
theorem Try.okE_74 : bodyOk Try.f74 (Try.ptE 74) = true := by kernel_rfl
theorem Try.okE_75 : bodyOk Try.f75 (Try.ptE 75) = true := by kernel_rfl
theorem Try.okE_76 : bodyOk Try.f76 (Try.ptE 76) = true := by kernel_rfl
theorem Try.okE_77 : bodyOk Try.f77 (Try.ptE 77) = true := by kernel_rfl
theorem Try.okE_78 : bodyOk Try.f78 (Try.ptE 78) = true := by kernel_rfl
theorem Try.okE_79 : bodyOk Try.f79 (Try.ptE 79) = true := by kernel_rfl
theorem Try.okE_80 : bodyOk Try.f80 (Try.ptE 80) = true := by kernel_rfl
theorem Try.okE_81 : bodyOk Try.f81 (Try.ptE 81) = true := by kernel_rfl
theorem Try.okE_82 : bodyOk Try.f82 (Try.ptE 82) = true := by kernel_rfl
theorem Try.okE_83 : bodyOk Try.f83 (Try.ptE 83) = true := by kernel_rfl
theorem Try.okE_89 : bodyOk Try.f89 (Try.ptE 89) = true := by kernel_rfl
theorem Try.okE_91 : bodyOk Try.f91 (Try.ptE 91) = true := by kernel_rfl
theorem Try.okE_101 : bodyOk Try.f101 (Try.ptE 101) = true := by kernel_rfl
theorem Try.okE_102 : bodyOk Try.f102 (Try.ptE 102) = true := by kernel_rfl
theorem Try.okE_103 : bodyOk Try.f103 (Try.ptE 103) = true := by kernel_rfl
theorem Try.okE_104 : bodyOk Try.f104 (Try.ptE 104) = true := by kernel_rfl
theorem Try.okE_105 : bodyOk Try.f105 (Try.ptE 105) = true := by kernel_rfl
theorem Try.okE_106 : bodyOk Try.f106 (Try.ptE 106) = true := by kernel_rfl
theorem Try.okE_107 : bodyOk Try.f107 (Try.ptE 107) = true := by kernel_rfl
theorem Try.okE_108 : bodyOk Try.f108 (Try.ptE 108) = true := by kernel_rfl
theorem Try.okE_109 : bodyOk Try.f109 (Try.ptE 109) = true := by kernel_rfl
theorem Try.okE_110 : bodyOk Try.f110 (Try.ptE 110) = true := by kernel_rfl
theorem Try.okE_111 : bodyOk Try.f111 (Try.ptE 111) = true := by kernel_rfl
theorem Try.okE_112 : bodyOk Try.f112 (Try.ptE 112) = true := by kernel_rfl
theorem Try.okE_113 : bodyOk Try.f113 (Try.ptE 113) = true := by kernel_rfl
theorem Try.okE_114 : bodyOk Try.f114 (Try.ptE 114) = true := by kernel_rfl
theorem Try.okE_115 : bodyOk Try.f115 (Try.ptE 115) = true := by kernel_rfl
theorem Try.okE_116 : bodyOk Try.f116 (Try.ptE 116) = true := by kernel_rfl
theorem Try.okE_117 : bodyOk Try.f117 (Try.ptE 117) = true := by kernel_rfl
theorem Try.okE_118 : bodyOk Try.f118 (Try.ptE 118) = true := by kernel_rfl
theorem Try.okE_119 : bodyOk Try.f119 (Try.ptE 119) = true := by kernel_rfl
theorem Try.okE_121 : bodyOk Try.f121 (Try.ptE 121) = true := by kernel_rfl
theorem Try.okE_122 : bodyOk Try.f122 (Try.ptE 122) = true := by kernel_rfl
theorem Try.okE_127 : bodyOk Try.f127 (Try.ptE 127) = true := by kernel_rfl
theorem Try.okE_128 : bodyOk Try.f128 (Try.ptE 128) = true := by kernel_rfl
theorem Try.okE_129 : bodyOk Try.f129 (Try.ptE 129) = true := by kernel_rfl
theorem Try.okE_130 : bodyOk Try.f130 (Try.ptE 130) = true := by kernel_rfl
theorem Try.okE_131 : bodyOk Try.f131 (Try.ptE 131) = true := by kernel_rfl
theorem Try.okE_132 : bodyOk Try.f132 (Try.ptE 132) = true := by kernel_rfl
theorem Try.okE_133 : bodyOk Try.f133 (Try.ptE 133) = true := by kernel_rfl
theorem Try.okE_134 : bodyOk Try.f134 (Try.ptE 134) = true := by kernel_rfl
theorem Try.okE_137 : bodyOk Try.f137 (Try.ptE 137) = true := by kernel_rfl
theorem Try.okE_138 : bodyOk Try.f138 (Try.ptE 138) = true := by kernel_rfl
theorem Try.okE_140 : bodyOk Try.f140 (Try.ptE 140) = true := by kernel_rfl
theorem Try.okE_141 : bodyOk Try.f141 (Try.ptE 141) = true := by kernel_rfl
theorem Try.okE_142 : bodyOk Try.f142 (Try.ptE 142) = true := by kernel_rfl
theorem Try.okE_143 : bodyOk Try.f143 (Try.ptE 143) = true := by kernel_rfl
theorem Try.okE_144 : bodyOk Try.f144 (Try.ptE 144) = true := by kernel_rfl
theorem Try.ftOkE : FtOk Try.prog (getLQ Try.ftLE) Try.ptE := FtL.okQ (FtL.cons Try.func5 (by decide) Try.okE_5 (FtL.cons Try.func10 (by decide) Try.okE_10 (FtL.cons Try.func12 (by decide) Try.okE_12 (FtL.cons Try.func23 (by decide) Try.okE_23 (FtL.cons Try.func24 (by decide) Try.okE_24 (FtL.cons Try.func25 (by decide) Try.okE_25 (FtL.cons Try.func26 (by decide) Try.okE_26 (FtL.cons Try.func27 (by decide) Try.okE_27 (FtL.cons Try.func28 (by decide) Try.okE_28 (FtL.cons Try.func29 (by decide) Try.okE_29 (FtL.cons Try.func30 (by decide) Try.okE_30 (FtL.cons Try.func31 (by decide) Try.okE_31 (FtL.cons Try.func32 (by decide) Try.okE_32 (FtL.cons Try.func34 (by decide) Try.okE_34 (FtL.cons Try.func35 (by decide) Try.okE_35 (FtL.cons Try.func36 (by decide) Try.okE_36 (FtL.cons Try.func37 (by decide) Try.okE_37 (FtL.cons Try.func38 (by decide) Try.okE_38 (FtL.cons Try.func39 (by decide) Try.okE_39 (FtL.cons Try.func40 (by decide) Try.okE_40 (FtL.cons Try.func41 (by decide) Try.okE_41 (FtL.cons Try.func42 (by decide) Try.okE_42 (FtL.cons Try.func43 (by decide) Try.okE_43 (FtL.cons Try.func44 (by decide) Try.okE_44 (FtL.cons Try.func45 (by decide) Try.okE_45 (FtL.cons Try.func54 (by decide) Try.okE_54 (FtL.cons Try.func55 (by decide) Try.okE_55 (FtL.cons Try.func56 (by decide) Try.okE_56 (FtL.cons Try.func57 (by decide) Try.okE_57 (FtL.cons Try.func58 (by decide) Try.okE_58 (FtL.cons Try.func59 (by decide) Try.okE_59 (FtL.cons Try.func60 (by decide) Try.okE_60 (FtL.cons Try.func61 (by decide) Try.okE_61 (FtL.cons Try.func62 (by decide) Try.okE_62 (FtL.cons Try.func63 (by decide) Try.okE_63 (FtL.cons Try.func64 (by decide) Try.okE_64 (FtL.cons Try.func65 (by decide) Try.okE_65 (FtL.cons Try.func66 (by decide) Try.okE_66 (FtL.cons Try.func67 (by decide) Try.okE_67 (FtL.cons Try.func68 (by decide) Try.okE_68 (FtL.cons Try.func69 (by decide) Try.okE_69 (FtL.cons Try.func70 (by decide) Try.okE_70 (FtL.cons Try.func71 (by decide) Try.okE_71 (FtL.cons Try.func72 (by decide) Try.okE_72 (FtL.cons Try.func73 (by decide) Try.okE_73 (FtL.cons Try.func74 (by decide) Try.okE_74 (FtL.cons Try.func75 (by decide) Try.okE_75 (FtL.cons Try.func76 (by decide) Try.okE_76 (FtL.cons Try.func77 (by decide) Try.okE_77 (FtL.cons Try.func78 (by decide) Try.okE_78 (FtL.cons Try.func79 (by decide) Try.okE_79 (FtL.cons Try.func80 (by decide) Try.okE_80 (FtL.cons Try.func81 (by decide) Try.okE_81 (FtL.cons Try.func82 (by decide) Try.okE_82 (FtL.cons Try.func83 (by decide) Try.okE_83 (FtL.cons Try.func89 (by decide) Try.okE_89 (FtL.cons Try.func91 (by decide) Try.okE_91 (FtL.cons Try.func101 (by decide) Try.okE_101 (FtL.cons Try.func102 (by decide) Try.okE_102 (FtL.cons Try.func103 (by decide) Try.okE_103 (FtL.cons Try.func104 (by decide) Try.okE_104 (FtL.cons Try.func105 (by decide) Try.okE_105 (FtL.cons Try.func106 (by decide) Try.okE_106 (FtL.cons Try.func107 (by decide) Try.okE_107 (FtL.cons Try.func108 (by decide) Try.okE_108 (FtL.cons Try.func109 (by decide) Try.okE_109 (FtL.cons Try.func110 (by decide) Try.okE_110 (FtL.cons Try.func111 (by decide) Try.okE_111 (FtL.cons Try.func112 (by decide) Try.okE_112 (FtL.cons Try.func113 (by decide) Try.okE_113 (FtL.cons Try.func114 (by decide) Try.okE_114 (FtL.cons Try.func115 (by decide) Try.okE_115 (FtL.cons Try.func116 (by decide) Try.okE_116 (FtL.cons Try.func117 (by decide) Try.okE_117 (FtL.cons Try.func118 (by decide) Try.okE_118 (FtL.cons Try.func119 (by decide) Try.okE_119 (FtL.cons Try.func121 (by decide) Try.okE_121 (FtL.cons Try.func122 (by decide) Try.okE_122 (FtL.cons Try.func127 (by decide) Try.okE_127 (FtL.cons Try.func128 (by decide) Try.okE_128 (FtL.cons Try.func129 (by decide) Try.okE_129 (FtL.cons Try.func130 (by decide) Try.okE_130 (FtL.cons Try.func131 (by decide) Try.okE_131 (FtL.cons Try.func132 (by decide) Try.okE_132 (FtL.cons Try.func133 (by decide) Try.okE_133 (FtL.cons Try.func134 (by decide) Try.okE_134 (FtL.cons Try.func137 (by decide) Try.okE_137 (FtL.cons Try.func138 (by decide) Try.okE_138 (FtL.cons Try.func140 (by decide) Try.okE_140 (FtL.cons Try.func141 (by decide) Try.okE_141 (FtL.cons Try.func142 (by decide) Try.okE_142 (FtL.cons Try.func143 (by decide) Try.okE_143 (FtL.cons Try.func144 (by decide) Try.okE_144 FtL.nil)))))))))))))))))))))))))))))))))))))))))))))))))))))))))))))))))))))))))))))))))))))))))))))
end Go.Proofs

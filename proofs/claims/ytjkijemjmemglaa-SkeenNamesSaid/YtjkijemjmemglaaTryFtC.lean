/- The functions that this law runs, as a table; by program (genft.py). -/
import Derived.Test.YtjkijemjmemglaaTryTab
import Derived.Test.YtjkijemjmemglaaTmQuick
namespace Go.Proofs
open Go.Tm

def Try.ptLC : List (Nat × List (Nat × List (Nat × Nat))) := [
  (6, [(7, [(0, 1), (0, 2), (1, 2), (0, 3), (0, 4), (7, 8), (7, 9), (8, 9), (0, 10), (1, 10), (2, 10), (3, 10), (4, 10), (5, 10), (6, 10), (7, 10), (8, 10), (9, 10), (8, 11), (9, 11), (9, 12)])]),
  (9, [(7, [(0, 2), (1, 2), (0, 6), (1, 6), (2, 6), (3, 6), (4, 6), (5, 6), (0, 7), (1, 7), (2, 7), (3, 7), (4, 7), (5, 7), (0, 8), (1, 8), (2, 8), (3, 8), (4, 8), (5, 8), (6, 8), (7, 8), (0, 9), (1, 9), (2, 9), (3, 9), (4, 9), (5, 9), (0, 10), (1, 10), (2, 10), (3, 10), (4, 10), (5, 10), (0, 11), (1, 11), (2, 11), (3, 11), (4, 11), (5, 11), (6, 12), (7, 12), (8, 12), (9, 12), (10, 12), (11, 12)])]),
  (12, [(10, [(0, 1), (0, 2), (0, 3), (1, 3), (2, 3), (3, 4)]), (15, [(10, 12), (11, 12), (10, 13), (11, 13), (20, 23), (21, 23), (22, 23), (20, 24), (21, 24), (22, 24), (20, 25), (21, 25), (22, 25), (23, 25), (24, 25), (20, 26), (21, 26), (22, 26), (23, 26), (24, 26), (20, 27), (21, 27), (22, 27), (20, 28), (21, 28), (22, 28), (20, 29), (21, 29), (22, 29), (20, 30), (21, 30), (22, 30), (35, 36), (35, 37), (35, 38), (48, 49), (48, 50)])]),
  (36, [(1, [(0, 3), (1, 3), (2, 3), (0, 4), (1, 4), (2, 4), (5, 6)]), (5, [(0, 2), (1, 2), (0, 3), (1, 3), (2, 3), (0, 4), (1, 4), (2, 4), (0, 5), (1, 5), (2, 5), (3, 5), (4, 5), (0, 6), (1, 6), (2, 6), (0, 7), (1, 7), (2, 7), (0, 8), (1, 8), (2, 8), (0, 9), (1, 9), (2, 9), (0, 10), (1, 10), (2, 10)])]),
  (37, [(8, [(0, 1), (0, 2), (0, 3), (0, 4), (0, 5), (0, 6), (1, 6), (2, 6), (3, 6), (4, 6), (5, 6), (0, 7), (1, 7), (2, 7), (3, 7), (4, 7), (5, 7), (6, 7), (0, 8), (1, 8), (2, 8), (3, 8), (4, 8), (5, 8), (6, 8), (7, 8), (0, 9), (1, 9), (2, 9), (3, 9), (4, 9), (5, 9), (6, 9), (7, 9), (0, 10), (1, 10), (2, 10), (3, 10), (4, 10), (5, 10), (6, 10), (7, 10), (0, 11), (1, 11), (2, 11), (3, 11), (4, 11), (5, 11), (6, 11), (7, 11), (0, 12), (1, 12), (2, 12), (3, 12), (4, 12), (5, 12), (6, 12), (7, 12), (0, 13), (1, 13), (2, 13), (3, 13), (4, 13), (5, 13), (6, 13), (0, 14), (1, 14), (2, 14), (3, 14), (4, 14), (5, 14), (6, 14), (0, 15)])]),
  (38, [(2, [(0, 5), (1, 5), (2, 5), (3, 5), (4, 5), (0, 6), (1, 6), (2, 6), (3, 6), (4, 6), (5, 6), (0, 7), (1, 7), (2, 7), (3, 7), (4, 7), (5, 7), (0, 8), (1, 8), (2, 8), (3, 8), (4, 8), (5, 8), (0, 9), (1, 9), (2, 9), (3, 9), (4, 9), (5, 9), (0, 10), (1, 10), (2, 10), (3, 10), (4, 10), (5, 10), (0, 11), (1, 11), (2, 11), (3, 11), (4, 11), (5, 11), (6, 11), (7, 11), (8, 11), (9, 11), (10, 11), (0, 12), (1, 12), (2, 12), (3, 12), (4, 12), (5, 12), (6, 12), (7, 12), (8, 12), (9, 12), (10, 12), (11, 12), (11, 13), (11, 14), (11, 15)])]),
  (39, [(6, [(0, 1), (0, 2), (0, 3), (0, 4), (0, 5), (0, 6), (1, 6), (2, 6), (3, 6), (4, 6), (5, 6), (0, 7), (1, 7), (2, 7), (3, 7), (4, 7), (5, 7), (0, 8), (1, 8), (2, 8), (3, 8), (4, 8), (5, 8), (0, 9)])]),
  (41, [(1, [(0, 2), (1, 2), (0, 3), (1, 3), (0, 5), (1, 5), (2, 5), (3, 5), (4, 5), (0, 6), (1, 6), (2, 6), (3, 6), (4, 6), (0, 7), (1, 7), (2, 7), (3, 7), (4, 7), (5, 7), (6, 7), (0, 8), (1, 8), (2, 8), (3, 8), (4, 8), (5, 8), (6, 8)])]),
  (44, [(7, [(0, 1), (0, 2), (1, 2), (0, 3), (0, 4), (0, 5), (1, 5), (2, 5), (3, 5), (4, 5)])]),
  (45, [(1, [(0, 2), (1, 2)]), (3, [(0, 2), (1, 2)])]),
  (71, [(13, [(0, 1), (0, 2), (0, 3), (0, 4), (4, 5)]), (14, [(0, 2), (1, 2), (0, 3), (1, 3), (2, 4), (3, 4), (2, 5), (3, 5)]), (15, [(0, 1), (0, 2), (0, 3), (0, 4), (0, 5), (0, 6), (0, 7), (0, 8), (8, 9)]), (17, [(0, 1), (0, 2), (0, 3), (0, 4), (4, 5)]), (20, [(0, 2), (1, 2), (0, 3), (1, 3), (0, 4), (1, 4), (2, 4), (3, 4), (0, 5), (1, 5), (2, 5), (3, 5), (2, 6), (3, 6), (4, 6), (5, 6), (2, 7), (3, 7), (4, 7), (5, 7), (4, 8), (5, 8), (4, 9), (5, 9)])]),
  (78, [(11, [(0, 1), (0, 2), (1, 2), (0, 3), (0, 5), (1, 5), (2, 5), (3, 5), (4, 5), (0, 6), (1, 6), (2, 6), (3, 6), (4, 6), (5, 6), (0, 7), (1, 7), (2, 7), (3, 7), (4, 7)]), (15, [(0, 1), (0, 2), (1, 2), (0, 3), (0, 5), (1, 5), (2, 5), (3, 5), (4, 5), (0, 6), (1, 6), (2, 6), (3, 6), (4, 6), (5, 6), (0, 7), (1, 7), (2, 7), (3, 7), (4, 7)])]),
  (79, [(5, [(0, 1), (0, 3), (1, 3), (2, 3), (0, 4), (1, 4), (2, 4), (3, 4), (0, 5), (1, 5), (2, 5)])]),
  (113, [(6, [(0, 1), (0, 4), (1, 4), (2, 4), (3, 4), (0, 5), (1, 5), (2, 5), (3, 5), (4, 5), (0, 6), (1, 6), (2, 6), (3, 6), (0, 7), (1, 7), (2, 7), (3, 7)])]),
  (138, [(3, [(0, 1), (0, 2), (1, 2), (0, 3), (1, 3), (2, 3), (0, 4), (1, 4), (2, 4), (3, 4), (0, 5), (1, 5), (2, 5), (3, 5), (4, 5), (0, 6), (1, 6), (2, 6), (3, 6), (0, 7), (1, 7), (2, 7), (3, 7), (0, 8), (1, 8), (2, 8), (3, 8), (4, 8), (5, 8), (6, 8), (7, 8), (0, 9), (1, 9), (2, 9), (3, 9), (4, 9), (5, 9), (6, 9), (7, 9), (8, 9), (0, 10), (1, 10), (2, 10), (3, 10), (4, 10), (5, 10), (6, 10), (7, 10), (0, 11), (1, 11), (2, 11), (3, 11), (4, 11), (5, 11), (6, 11), (7, 11), (2, 12), (3, 12), (2, 13), (3, 13)])])]
noncomputable def Try.ptC (K r : Nat) : List (Nat × Nat) := match getLQ Try.ptLC K with | some l => (match getLQ l r with | some x => x | none => []) | none => []
noncomputable def Try.ftLC : List (Nat × Func) := [(3, Try.f3), (6, Try.f6), (7, Try.f7), (8, Try.f8), (9, Try.f9), (10, Try.f10), (11, Try.f11), (12, Try.f12), (32, Try.f32), (33, Try.f33), (34, Try.f34), (35, Try.f35), (36, Try.f36), (37, Try.f37), (38, Try.f38), (39, Try.f39), (40, Try.f40), (41, Try.f41), (42, Try.f42), (43, Try.f43), (44, Try.f44), (45, Try.f45), (69, Try.f69), (70, Try.f70), (71, Try.f71), (72, Try.f72), (73, Try.f73), (74, Try.f74), (75, Try.f75), (76, Try.f76), (77, Try.f77), (78, Try.f78), (79, Try.f79), (80, Try.f80), (81, Try.f81), (82, Try.f82), (83, Try.f83), (106, Try.f106), (112, Try.f112), (113, Try.f113), (114, Try.f114), (115, Try.f115), (116, Try.f116), (117, Try.f117), (118, Try.f118), (119, Try.f119), (133, Try.f133), (134, Try.f134), (138, Try.f138)]
theorem Try.okC_3 : bodyOk Try.f3 (Try.ptC 3) = true := by kernel_rfl
theorem Try.okC_6 : bodyOk Try.f6 (Try.ptC 6) = true := by kernel_rfl
theorem Try.okC_7 : bodyOk Try.f7 (Try.ptC 7) = true := by kernel_rfl
theorem Try.okC_8 : bodyOk Try.f8 (Try.ptC 8) = true := by kernel_rfl
theorem Try.okC_9 : bodyOk Try.f9 (Try.ptC 9) = true := by kernel_rfl
theorem Try.okC_10 : bodyOk Try.f10 (Try.ptC 10) = true := by kernel_rfl
theorem Try.okC_11 : bodyOk Try.f11 (Try.ptC 11) = true := by kernel_rfl
theorem Try.okC_12 : bodyOk Try.f12 (Try.ptC 12) = true := by kernel_rfl
theorem Try.okC_32 : bodyOk Try.f32 (Try.ptC 32) = true := by kernel_rfl
theorem Try.okC_33 : bodyOk Try.f33 (Try.ptC 33) = true := by kernel_rfl
theorem Try.okC_34 : bodyOk Try.f34 (Try.ptC 34) = true := by kernel_rfl
theorem Try.okC_35 : bodyOk Try.f35 (Try.ptC 35) = true := by kernel_rfl
theorem Try.okC_36 : bodyOk Try.f36 (Try.ptC 36) = true := by kernel_rfl
theorem Try.okC_37 : bodyOk Try.f37 (Try.ptC 37) = true := by kernel_rfl
theorem Try.okC_38 : bodyOk Try.f38 (Try.ptC 38) = true := by kernel_rfl
theorem Try.okC_39 : bodyOk Try.f39 (Try.ptC 39) = true := by kernel_rfl
theorem Try.okC_40 : bodyOk Try.f40 (Try.ptC 40) = true := by kernel_rfl
theorem Try.okC_41 : bodyOk Try.f41 (Try.ptC 41) = true := by kernel_rfl
theorem Try.okC_42 : bodyOk Try.f42 (Try.ptC 42) = true := by kernel_rfl
theorem Try.okC_43 : bodyOk Try.f43 (Try.ptC 43) = true := by kernel_rfl
theorem Try.okC_44 : bodyOk Try.f44 (Try.ptC 44) = true := by kernel_rfl
theorem Try.okC_45 : bodyOk Try.f45 (Try.ptC 45) = true := by kernel_rfl
theorem Try.okC_69 : bodyOk Try.f69 (Try.ptC 69) = true := by kernel_rfl
theorem Try.okC_70 : bodyOk Try.f70 (Try.ptC 70) = true := by kernel_rfl
theorem Try.okC_71 : bodyOk Try.f71 (Try.ptC 71) = true := by kernel_rfl
theorem Try.okC_72 : bodyOk Try.f72 (Try.ptC 72) = true := by kernel_rfl
theorem Try.okC_73 : bodyOk Try.f73 (Try.ptC 73) = true := by kernel_rfl
theorem Try.okC_74 : bodyOk Try.f74 (Try.ptC 74) = true := by kernel_rfl
theorem Try.okC_75 : bodyOk Try.f75 (Try.ptC 75) = true := by kernel_rfl
theorem Try.okC_76 : bodyOk Try.f76 (Try.ptC 76) = true := by kernel_rfl
theorem Try.okC_77 : bodyOk Try.f77 (Try.ptC 77) = true := by kernel_rfl
theorem Try.okC_78 : bodyOk Try.f78 (Try.ptC 78) = true := by kernel_rfl
theorem Try.okC_79 : bodyOk Try.f79 (Try.ptC 79) = true := by kernel_rfl
theorem Try.okC_80 : bodyOk Try.f80 (Try.ptC 80) = true := by kernel_rfl
theorem Try.okC_81 : bodyOk Try.f81 (Try.ptC 81) = true := by kernel_rfl
theorem Try.okC_82 : bodyOk Try.f82 (Try.ptC 82) = true := by kernel_rfl
theorem Try.okC_83 : bodyOk Try.f83 (Try.ptC 83) = true := by kernel_rfl
theorem Try.okC_106 : bodyOk Try.f106 (Try.ptC 106) = true := by kernel_rfl
theorem Try.okC_112 : bodyOk Try.f112 (Try.ptC 112) = true := by kernel_rfl
theorem Try.okC_113 : bodyOk Try.f113 (Try.ptC 113) = true := by kernel_rfl
theorem Try.okC_114 : bodyOk Try.f114 (Try.ptC 114) = true := by kernel_rfl
theorem Try.okC_115 : bodyOk Try.f115 (Try.ptC 115) = true := by kernel_rfl
theorem Try.okC_116 : bodyOk Try.f116 (Try.ptC 116) = true := by kernel_rfl
theorem Try.okC_117 : bodyOk Try.f117 (Try.ptC 117) = true := by kernel_rfl
theorem Try.okC_118 : bodyOk Try.f118 (Try.ptC 118) = true := by kernel_rfl
theorem Try.okC_119 : bodyOk Try.f119 (Try.ptC 119) = true := by kernel_rfl
theorem Try.okC_133 : bodyOk Try.f133 (Try.ptC 133) = true := by kernel_rfl
theorem Try.okC_134 : bodyOk Try.f134 (Try.ptC 134) = true := by kernel_rfl
theorem Try.okC_138 : bodyOk Try.f138 (Try.ptC 138) = true := by kernel_rfl
theorem Try.ftOkC : FtOk Try.prog (getLQ Try.ftLC) Try.ptC := FtL.okQ (FtL.cons Try.func3 (by decide) Try.okC_3 (FtL.cons Try.func6 (by decide) Try.okC_6 (FtL.cons Try.func7 (by decide) Try.okC_7 (FtL.cons Try.func8 (by decide) Try.okC_8 (FtL.cons Try.func9 (by decide) Try.okC_9 (FtL.cons Try.func10 (by decide) Try.okC_10 (FtL.cons Try.func11 (by decide) Try.okC_11 (FtL.cons Try.func12 (by decide) Try.okC_12 (FtL.cons Try.func32 (by decide) Try.okC_32 (FtL.cons Try.func33 (by decide) Try.okC_33 (FtL.cons Try.func34 (by decide) Try.okC_34 (FtL.cons Try.func35 (by decide) Try.okC_35 (FtL.cons Try.func36 (by decide) Try.okC_36 (FtL.cons Try.func37 (by decide) Try.okC_37 (FtL.cons Try.func38 (by decide) Try.okC_38 (FtL.cons Try.func39 (by decide) Try.okC_39 (FtL.cons Try.func40 (by decide) Try.okC_40 (FtL.cons Try.func41 (by decide) Try.okC_41 (FtL.cons Try.func42 (by decide) Try.okC_42 (FtL.cons Try.func43 (by decide) Try.okC_43 (FtL.cons Try.func44 (by decide) Try.okC_44 (FtL.cons Try.func45 (by decide) Try.okC_45 (FtL.cons Try.func69 (by decide) Try.okC_69 (FtL.cons Try.func70 (by decide) Try.okC_70 (FtL.cons Try.func71 (by decide) Try.okC_71 (FtL.cons Try.func72 (by decide) Try.okC_72 (FtL.cons Try.func73 (by decide) Try.okC_73 (FtL.cons Try.func74 (by decide) Try.okC_74 (FtL.cons Try.func75 (by decide) Try.okC_75 (FtL.cons Try.func76 (by decide) Try.okC_76 (FtL.cons Try.func77 (by decide) Try.okC_77 (FtL.cons Try.func78 (by decide) Try.okC_78 (FtL.cons Try.func79 (by decide) Try.okC_79 (FtL.cons Try.func80 (by decide) Try.okC_80 (FtL.cons Try.func81 (by decide) Try.okC_81 (FtL.cons Try.func82 (by decide) Try.okC_82 (FtL.cons Try.func83 (by decide) Try.okC_83 (FtL.cons Try.func106 (by decide) Try.okC_106 (FtL.cons Try.func112 (by decide) Try.okC_112 (FtL.cons Try.func113 (by decide) Try.okC_113 (FtL.cons Try.func114 (by decide) Try.okC_114 (FtL.cons Try.func115 (by decide) Try.okC_115 (FtL.cons Try.func116 (by decide) Try.okC_116 (FtL.cons Try.func117 (by decide) Try.okC_117 (FtL.cons Try.func118 (by decide) Try.okC_118 (FtL.cons Try.func119 (by decide) Try.okC_119 (FtL.cons Try.func133 (by decide) Try.okC_133 (FtL.cons Try.func134 (by decide) Try.okC_134 (FtL.cons Try.func138 (by decide) Try.okC_138 FtL.nil)))))))))))))))))))))))))))))))))))))))))))))))))
end Go.Proofs

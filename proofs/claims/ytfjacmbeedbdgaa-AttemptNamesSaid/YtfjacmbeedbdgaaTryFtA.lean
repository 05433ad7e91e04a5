/- The functions that this law runs, as a table; by program (genft.py). -/
import Derived.Test.YtfjacmbeedbdgaaTryTab
import Derived.Test.YtfjacmbeedbdgaaTmZero
namespace Go.Proofs
open Go.Tm

def Try.ptLA : List (Nat × List (Nat × List (Nat × Nat))) := [
  (18, [(6, [(0, 2), (1, 2), (0, 3), (1, 3), (2, 4), (3, 4)])]),
  (21, [(10, [(0, 1), (0, 2), (0, 3), (6, 8), (7, 8), (6, 12), (7, 12), (8, 12), (9, 12), (10, 12), (11, 12), (6, 13), (7, 13), (8, 13), (9, 13), (10, 13), (11, 13)]), (13, [(0, 2), (1, 2), (0, 3), (1, 3), (0, 4), (1, 4)])]),
  (24, [(10, [(2, 5), (3, 5), (4, 5), (2, 6), (3, 6), (4, 6), (10, 12), (11, 12), (10, 13), (11, 13)]), (12, [(2, 4), (3, 4), (2, 5), (3, 5), (2, 6), (3, 6), (2, 8), (3, 8), (4, 8), (5, 8), (6, 8), (7, 8), (2, 9), (3, 9), (4, 9), (5, 9), (6, 9), (7, 9), (2, 10), (3, 10), (4, 10), (5, 10), (6, 10), (7, 10), (14, 16), (15, 16), (14, 17), (15, 17), (14, 19), (15, 19), (16, 19), (17, 19), (18, 19), (14, 20), (15, 20), (16, 20), (17, 20), (18, 20), (14, 21), (15, 21), (16, 21), (17, 21), (18, 21)]), (13, [(6, 8), (7, 8), (6, 9), (7, 9), (6, 10), (7, 10), (8, 10), (9, 10), (6, 11), (7, 11), (8, 11), (9, 11), (6, 12), (7, 12)])]),
  (30, [(1, [(0, 3), (1, 3), (2, 3), (0, 4), (1, 4), (2, 4), (0, 6), (1, 6), (2, 6), (3, 6), (4, 6), (5, 6), (0, 7), (1, 7), (2, 7), (3, 7), (4, 7), (5, 7), (5, 9), (8, 9)])]),
  (53, [(1, [(0, 2), (1, 2), (0, 6), (1, 6), (2, 6), (3, 6), (4, 6), (5, 6), (0, 7), (1, 7), (2, 7), (3, 7), (4, 7), (5, 7)])]),
  (54, [(11, [(0, 1), (0, 2), (1, 2), (0, 3), (0, 5), (1, 5), (2, 5), (3, 5), (4, 5), (0, 6), (1, 6), (2, 6), (3, 6), (4, 6), (5, 6), (0, 7), (1, 7), (2, 7), (3, 7), (4, 7)]), (15, [(0, 1), (0, 2), (1, 2), (0, 3), (0, 5), (1, 5), (2, 5), (3, 5), (4, 5), (0, 6), (1, 6), (2, 6), (3, 6), (4, 6), (5, 6), (0, 7), (1, 7), (2, 7), (3, 7), (4, 7)])]),
  (68, [(11, [(0, 1), (0, 2), (1, 2), (0, 3), (0, 5), (1, 5), (2, 5), (3, 5), (4, 5), (0, 6), (1, 6), (2, 6), (3, 6), (4, 6), (5, 6), (0, 7), (1, 7), (2, 7), (3, 7), (4, 7)]), (15, [(0, 1), (0, 2), (1, 2), (0, 3), (0, 5), (1, 5), (2, 5), (3, 5), (4, 5), (0, 6), (1, 6), (2, 6), (3, 6), (4, 6), (5, 6), (0, 7), (1, 7), (2, 7), (3, 7), (4, 7)])]),
  (73, [(6, [(0, 1), (0, 4), (1, 4), (2, 4), (3, 4), (0, 5), (1, 5), (2, 5), (3, 5), (4, 5), (0, 6), (1, 6), (2, 6), (3, 6), (0, 7), (1, 7), (2, 7), (3, 7)])]),
  (74, [(6, [(0, 1), (0, 4), (1, 4), (2, 4), (3, 4), (0, 5), (1, 5), (2, 5), (3, 5), (4, 5), (0, 6), (1, 6), (2, 6), (3, 6), (0, 7), (1, 7), (2, 7), (3, 7)])]),
  (86, [(1, [(0, 3), (1, 3), (2, 3), (0, 4), (1, 4), (2, 4), (0, 5), (1, 5), (2, 5), (0, 6), (1, 6), (2, 6), (0, 8), (1, 8), (2, 8), (3, 8), (4, 8), (5, 8), (6, 8), (7, 8), (0, 9), (1, 9), (2, 9), (3, 9), (4, 9), (5, 9), (6, 9), (7, 9), (0, 10), (1, 10), (2, 10), (3, 10), (4, 10), (5, 10), (6, 10), (7, 10), (0, 11), (1, 11), (2, 11), (3, 11), (4, 11), (5, 11), (6, 11), (7, 11), (0, 13), (1, 13), (2, 13), (3, 13), (4, 13), (5, 13), (6, 13), (7, 13), (8, 13), (9, 13), (10, 13), (11, 13), (12, 13), (0, 14), (1, 14), (2, 14), (3, 14), (4, 14), (5, 14), (6, 14), (7, 14), (8, 14), (9, 14), (10, 14), (11, 14), (12, 14), (0, 15), (1, 15), (2, 15), (3, 15), (4, 15), (5, 15), (6, 15), (7, 15), (8, 15), (9, 15), (10, 15), (11, 15), (12, 15)])]),
  (89, [(1, [(0, 1), (0, 4), (1, 4), (2, 4), (3, 4)])]),
  (108, [(3, [(0, 1), (0, 2), (1, 2), (0, 3), (1, 3), (2, 3), (0, 4), (1, 4), (2, 4), (3, 4), (0, 5), (1, 5), (2, 5), (3, 5), (4, 5), (0, 6), (1, 6), (2, 6), (3, 6), (0, 7), (1, 7), (2, 7), (3, 7), (0, 8), (1, 8), (2, 8), (3, 8), (4, 8), (5, 8), (6, 8), (7, 8), (0, 9), (1, 9), (2, 9), (3, 9), (4, 9), (5, 9), (6, 9), (7, 9), (8, 9), (0, 10), (1, 10), (2, 10), (3, 10), (4, 10), (5, 10), (6, 10), (7, 10), (0, 11), (1, 11), (2, 11), (3, 11), (4, 11), (5, 11), (6, 11), (7, 11), (2, 12), (3, 12), (2, 13), (3, 13)])]),
  (109, [(3, [(0, 1), (0, 2), (1, 2), (0, 3), (1, 3), (2, 3), (0, 4), (1, 4), (2, 4), (3, 4), (0, 5), (1, 5), (2, 5), (3, 5), (4, 5), (0, 6), (1, 6), (2, 6), (3, 6), (0, 7), (1, 7), (2, 7), (3, 7), (0, 8), (1, 8), (2, 8), (3, 8), (4, 8), (5, 8), (6, 8), (7, 8), (0, 9), (1, 9), (2, 9), (3, 9), (4, 9), (5, 9), (6, 9), (7, 9), (8, 9), (0, 10), (1, 10), (2, 10), (3, 10), (4, 10), (5, 10), (6, 10), (7, 10), (0, 11), (1, 11), (2, 11), (3, 11), (4, 11), (5, 11), (6, 11), (7, 11), (2, 12), (3, 12), (2, 13), (3, 13)])])]
def Try.ptA (K r : Nat) : List (Nat × Nat) := match getL Try.ptLA K with | some l => (match getL l r with | some x => x | none => []) | none => []
noncomputable def Try.ftLA : List (Nat × Func) := [(6, Try.f6), (13, Try.f13), (18, Try.f18), (20, Try.f20), (21, Try.f21), (22, Try.f22), (24, Try.f24), (28, Try.f28), (30, Try.f30), (32, Try.f32), (33, Try.f33), (34, Try.f34), (45, Try.f45), (46, Try.f46), (47, Try.f47), (50, Try.f50), (51, Try.f51), (52, Try.f52), (53, Try.f53), (54, Try.f54), (55, Try.f55), (56, Try.f56), (57, Try.f57), (58, Try.f58), (59, Try.f59), (60, Try.f60), (61, Try.f61), (62, Try.f62), (67, Try.f67), (68, Try.f68), (69, Try.f69), (73, Try.f73), (74, Try.f74), (81, Try.f81), (83, Try.f83), (84, Try.f84), (85, Try.f85), (86, Try.f86), (87, Try.f87), (88, Try.f88), (89, Try.f89), (90, Try.f90), (91, Try.f91), (103, Try.f103), (104, Try.f104), (105, Try.f105), (106, Try.f106), (108, Try.f108), (109, Try.f109)]
theorem Try.okA_6 : bodyOk Try.f6 (Try.ptA 6) = true := by kernel_rfl
theorem Try.okA_13 : bodyOk Try.f13 (Try.ptA 13) = true := by kernel_rfl
theorem Try.okA_18 : bodyOk Try.f18 (Try.ptA 18) = true := by kernel_rfl
theorem Try.okA_20 : bodyOk Try.f20 (Try.ptA 20) = true := by kernel_rfl
theorem Try.okA_21 : bodyOk Try.f21 (Try.ptA 21) = true := by kernel_rfl
theorem Try.okA_22 : bodyOk Try.f22 (Try.ptA 22) = true := by kernel_rfl
theorem Try.okA_24 : bodyOk Try.f24 (Try.ptA 24) = true := by kernel_rfl
theorem Try.okA_28 : bodyOk Try.f28 (Try.ptA 28) = true := by kernel_rfl
theorem Try.okA_30 : bodyOk Try.f30 (Try.ptA 30) = true := by kernel_rfl
theorem Try.okA_32 : bodyOk Try.f32 (Try.ptA 32) = true := by kernel_rfl
theorem Try.okA_33 : bodyOk Try.f33 (Try.ptA 33) = true := by kernel_rfl
theorem Try.okA_34 : bodyOk Try.f34 (Try.ptA 34) = true := by kernel_rfl
theorem Try.okA_45 : bodyOk Try.f45 (Try.ptA 45) = true := by kernel_rfl
theorem Try.okA_46 : bodyOk Try.f46 (Try.ptA 46) = true := by kernel_rfl
theorem Try.okA_47 : bodyOk Try.f47 (Try.ptA 47) = true := by kernel_rfl
theorem Try.okA_50 : bodyOk Try.f50 (Try.ptA 50) = true := by kernel_rfl
theorem Try.okA_51 : bodyOk Try.f51 (Try.ptA 51) = true := by kernel_rfl
theorem Try.okA_52 : bodyOk Try.f52 (Try.ptA 52) = true := by kernel_rfl
theorem Try.okA_53 : bodyOk Try.f53 (Try.ptA 53) = true := by kernel_rfl
theorem Try.okA_54 : bodyOk Try.f54 (Try.ptA 54) = true := by kernel_rfl
theorem Try.okA_55 : bodyOk Try.f55 (Try.ptA 55) = true := by kernel_rfl
theorem Try.okA_56 : bodyOk Try.f56 (Try.ptA 56) = true := by kernel_rfl
theorem Try.okA_57 : bodyOk Try.f57 (Try.ptA 57) = true := by kernel_rfl
theorem Try.okA_58 : bodyOk Try.f58 (Try.ptA 58) = true := by kernel_rfl
theorem Try.okA_59 : bodyOk Try.f59 (Try.ptA 59) = true := by kernel_rfl
theorem Try.okA_60 : bodyOk Try.f60 (Try.ptA 60) = true := by kernel_rfl
theorem Try.okA_61 : bodyOk Try.f61 (Try.ptA 61) = true := by kernel_rfl
theorem Try.okA_62 : bodyOk Try.f62 (Try.ptA 62) = true := by kernel_rfl
theorem Try.okA_67 : bodyOk Try.f67 (Try.ptA 67) = true := by kernel_rfl
theorem Try.okA_68 : bodyOk Try.f68 (Try.ptA 68) = true := by kernel_rfl
theorem Try.okA_69 : bodyOk Try.f69 (Try.ptA 69) = true := by kernel_rfl
theorem Try.okA_73 : bodyOk Try.f73 (Try.ptA 73) = true := by kernel_rfl
theorem Try.okA_74 : bodyOk Try.f74 (Try.ptA 74) = true := by kernel_rfl
theorem Try.okA_81 : bodyOk Try.f81 (Try.ptA 81) = true := by kernel_rfl
theorem Try.okA_83 : bodyOk Try.f83 (Try.ptA 83) = true := by kernel_rfl
theorem Try.okA_84 : bodyOk Try.f84 (Try.ptA 84) = true := by kernel_rfl
theorem Try.okA_85 : bodyOk Try.f85 (Try.ptA 85) = true := by kernel_rfl
theorem Try.okA_86 : bodyOk Try.f86 (Try.ptA 86) = true := by kernel_rfl
theorem Try.okA_87 : bodyOk Try.f87 (Try.ptA 87) = true := by kernel_rfl
theorem Try.okA_88 : bodyOk Try.f88 (Try.ptA 88) = true := by kernel_rfl
theorem Try.okA_89 : bodyOk Try.f89 (Try.ptA 89) = true := by kernel_rfl
theorem Try.okA_90 : bodyOk Try.f90 (Try.ptA 90) = true := by kernel_rfl
theorem Try.okA_91 : bodyOk Try.f91 (Try.ptA 91) = true := by kernel_rfl
theorem Try.okA_103 : bodyOk Try.f103 (Try.ptA 103) = true := by kernel_rfl
theorem Try.okA_104 : bodyOk Try.f104 (Try.ptA 104) = true := by kernel_rfl
theorem Try.okA_105 : bodyOk Try.f105 (Try.ptA 105) = true := by kernel_rfl
theorem Try.okA_106 : bodyOk Try.f106 (Try.ptA 106) = true := by kernel_rfl
theorem Try.okA_108 : bodyOk Try.f108 (Try.ptA 108) = true := by kernel_rfl
theorem Try.okA_109 : bodyOk Try.f109 (Try.ptA 109) = true := by kernel_rfl
theorem Try.ftOkA : FtOk Try.prog (getL Try.ftLA) Try.ptA := FtL.ok (FtL.cons Try.func6 (by decide) Try.okA_6 (FtL.cons Try.func13 (by decide) Try.okA_13 (FtL.cons Try.func18 (by decide) Try.okA_18 (FtL.cons Try.func20 (by decide) Try.okA_20 (FtL.cons Try.func21 (by decide) Try.okA_21 (FtL.cons Try.func22 (by decide) Try.okA_22 (FtL.cons Try.func24 (by decide) Try.okA_24 (FtL.cons Try.func28 (by decide) Try.okA_28 (FtL.cons Try.func30 (by decide) Try.okA_30 (FtL.cons Try.func32 (by decide) Try.okA_32 (FtL.cons Try.func33 (by decide) Try.okA_33 (FtL.cons Try.func34 (by decide) Try.okA_34 (FtL.cons Try.func45 (by decide) Try.okA_45 (FtL.cons Try.func46 (by decide) Try.okA_46 (FtL.cons Try.func47 (by decide) Try.okA_47 (FtL.cons Try.func50 (by decide) Try.okA_50 (FtL.cons Try.func51 (by decide) Try.okA_51 (FtL.cons Try.func52 (by decide) Try.okA_52 (FtL.cons Try.func53 (by decide) Try.okA_53 (FtL.cons Try.func54 (by decide) Try.okA_54 (FtL.cons Try.func55 (by decide) Try.okA_55 (FtL.cons Try.func56 (by decide) Try.okA_56 (FtL.cons Try.func57 (by decide) Try.okA_57 (FtL.cons Try.func58 (by decide) Try.okA_58 (FtL.cons Try.func59 (by decide) Try.okA_59 (FtL.cons Try.func60 (by decide) Try.okA_60 (FtL.cons Try.func61 (by decide) Try.okA_61 (FtL.cons Try.func62 (by decide) Try.okA_62 (FtL.cons Try.func67 (by decide) Try.okA_67 (FtL.cons Try.func68 (by decide) Try.okA_68 (FtL.cons Try.func69 (by decide) Try.okA_69 (FtL.cons Try.func73 (by decide) Try.okA_73 (FtL.cons Try.func74 (by decide) Try.okA_74 (FtL.cons Try.func81 (by decide) Try.okA_81 (FtL.cons Try.func83 (by decide) Try.okA_83 (FtL.cons Try.func84 (by decide) Try.okA_84 (FtL.cons Try.func85 (by decide) Try.okA_85 (FtL.cons Try.func86 (by decide) Try.okA_86 (FtL.cons Try.func87 (by decide) Try.okA_87 (FtL.cons Try.func88 (by decide) Try.okA_88 (FtL.cons Try.func89 (by decide) Try.okA_89 (FtL.cons Try.func90 (by decide) Try.okA_90 (FtL.cons Try.func91 (by decide) Try.okA_91 (FtL.cons Try.func103 (by decide) Try.okA_103 (FtL.cons Try.func104 (by decide) Try.okA_104 (FtL.cons Try.func105 (by decide) Try.okA_105 (FtL.cons Try.func106 (by decide) Try.okA_106 (FtL.cons Try.func108 (by decide) Try.okA_108 (FtL.cons Try.func109 (by decide) Try.okA_109 FtL.nil)))))))))))))))))))))))))))))))))))))))))))))))))
end Go.Proofs

/- Known calls of one closed run, each reckoned by itself; by program (genknowl.py). -/
import Derived.Test.YtinlknpgmelicaaTryFtE
import Derived.Test.YtinlknpgmelicaaTmLook
import Derived.Test.YtinlknpgmelicaaSyInsS
import Derived.Test.YtinlknpgmelicaaSyInsW
namespace Go.Proofs
open Go.Tm
set_option maxRecDepth 100000

def Try.lkE : List (Nat × Nat × Nat) := [(78, 7, 83), (99, 5, 104)]
theorem Try.lkOE : LookOk Try.prog Try.lkE := (.cons (fun i j k h1 h2 h3 L x p q a ha hL => ins78 i j k h1 h2 h3 L x p q a ha hL) (.cons (fun i j k h1 h2 h3 L x p q a ha hL => ins99 i j k h1 h2 h3 L x p q a ha hL) .nil))
theorem Try.lkSE : CallSound Try.prog (callXL (lookF Try.lkE) (getLQ Try.ftLE) Try.ptE Try.tm 2000 60) := callXL_sound Try.tmOk Try.tmMixed Try.ftOkE (lookF_sound _ Try.lkOE) 60

def Try.eE0 : Ent := ⟨108, [.ref 179 1 0 4 (some 4)],
 [(179, .arr 9 1 true [.str [1, 9, 1, 1, 0, 0, 0], .str [1, 5, 2, 0, 1, 0, 0, 0], .str [2, 9, 1], .str [2, 5, 2]])], 183,
 { d := .tuple [.ref 258 12 0 4 none, .int .i64 0], vc := true, eff := [(210, some (.arr 3 1 true [.int .i64 0, .int .i64 1])),
  (188, some (.arr 3 1 true [.int .i64 1])),
  (258, some (.arr 33 12 false [.agg [.int .u8 1, .int .i64 9, .ref 188 1 0 1 none, .int .i64 0, .str [], .str [], .int .i64 0, .int .i64 0, .imm 0 [] 0, .int .i64 0, .int .i64 0, .int .i64 0], .agg [.int .u8 1, .int .i64 5, .ref 210 1 0 2 none, .int .i64 0, .str [], .str [], .int .i64 0, .int .i64 0, .imm 0 [] 0, .int .i64 0, .int .i64 0, .int .i64 0], .agg [.int .u8 2, .int .i64 0, .imm 0 [] 0, .int .i64 0, .str [], .str [], .int .i64 9, .int .i64 1, .imm 0 [] 0, .int .i64 0, .int .i64 0, .int .i64 0], .agg [.int .u8 2, .int .i64 0, .imm 0 [] 0, .int .i64 0, .str [], .str [], .int .i64 5, .int .i64 2, .imm 0 [] 0, .int .i64 0, .int .i64 0, .int .i64 0]]))], nw := (183, 259), met := [179] }⟩
theorem Try.rE0 : runFQ (getLQ Try.ftLE) Try.ptE Try.tm 2000 (callKQ [] (callXL (lookF Try.lkE) (getLQ Try.ftLE) Try.ptE Try.tm 2000 60)) Try.eE0.K Try.eE0.args Try.eE0.heap Try.eE0.nx = some Try.eE0.out := by kernel_rfl
theorem Try.kE0 : EntOk Try.prog Try.eE0 := entOk_of_runL Try.tmOk Try.tmMixed Try.ftOkE Try.lkSE (l := []) .nil Try.rE0

def Try.eE1 : Ent := ⟨10, [.agg [.int .i64 2, .ref 325 7 0 2 none, .imm 0 [] 0], .int .i64 1, .agg [.int .u8 2, .int .i64 0, .imm 0 [] 0, .int .i64 0, .str [], .str [], .int .i64 9, .int .i64 1, .imm 0 [] 0, .int .i64 0, .int .i64 0, .int .i64 0]],
 [(317, .arr 3 1 true [.int .i64 1]),
  (323, .arr 3 1 true [.int .i64 0, .int .i64 1]),
  (325, .arr 83 7 false [.agg [.int .i64 5, .ref 323 1 0 2 none, .int .i64 0, .str [], .str [], .int .i64 2, .bool false], .agg [.int .i64 9, .ref 317 1 0 1 none, .int .i64 0, .str [], .str [], .int .i64 1, .bool false]])], 343,
 { d := .tuple [.agg [.int .i64 2, .ref 375 7 0 1 none, .ref 400 2 0 1 none], .ref 402 5 0 1 none, .int .i64 0], vc := true, eff := [(377, some (.arr 3 1 true [.int .i64 1])),
  (402, some (.arr 31 5 false [.agg [.int .i64 9, .ref 377 1 0 1 none, .int .i64 0, .str [], .str []]])),
  (400, some (.arr 72 2 true [.agg [.int .i64 1, .int .i64 9]])),
  (376, some (.arr 3 1 true [.int .i64 0, .int .i64 1])),
  (375, some (.arr 83 7 false [.agg [.int .i64 5, .ref 376 1 0 2 none, .int .i64 0, .str [], .str [], .int .i64 2, .bool false], .agg [.int .i64 0, .imm 0 [] 0, .int .i64 0, .str [], .str [], .int .i64 0, .bool false]]))], nw := (343, 406), met := [317, 323, 325] }⟩
theorem Try.rE1 : runFQ (getLQ Try.ftLE) Try.ptE Try.tm 2000 (callKQ [] (callXL (lookF Try.lkE) (getLQ Try.ftLE) Try.ptE Try.tm 2000 60)) Try.eE1.K Try.eE1.args Try.eE1.heap Try.eE1.nx = some Try.eE1.out := by kernel_rfl
theorem Try.kE1 : EntOk Try.prog Try.eE1 := entOk_of_runL Try.tmOk Try.tmMixed Try.ftOkE Try.lkSE (l := []) .nil Try.rE1

def Try.eE2 : Ent := ⟨108, [.ref 644 1 0 4 (some 4)],
 [(644, .arr 9 1 true [.str [1, 9, 1, 1, 0, 0, 0], .str [1, 5, 2, 0, 1, 0, 0, 0], .str [2, 9, 1], .str [2, 5, 2]])], 771,
 { d := .tuple [.ref 846 12 0 4 none, .int .i64 0], vc := true, eff := [(798, some (.arr 3 1 true [.int .i64 0, .int .i64 1])),
  (776, some (.arr 3 1 true [.int .i64 1])),
  (846, some (.arr 33 12 false [.agg [.int .u8 1, .int .i64 9, .ref 776 1 0 1 none, .int .i64 0, .str [], .str [], .int .i64 0, .int .i64 0, .imm 0 [] 0, .int .i64 0, .int .i64 0, .int .i64 0], .agg [.int .u8 1, .int .i64 5, .ref 798 1 0 2 none, .int .i64 0, .str [], .str [], .int .i64 0, .int .i64 0, .imm 0 [] 0, .int .i64 0, .int .i64 0, .int .i64 0], .agg [.int .u8 2, .int .i64 0, .imm 0 [] 0, .int .i64 0, .str [], .str [], .int .i64 9, .int .i64 1, .imm 0 [] 0, .int .i64 0, .int .i64 0, .int .i64 0], .agg [.int .u8 2, .int .i64 0, .imm 0 [] 0, .int .i64 0, .str [], .str [], .int .i64 5, .int .i64 2, .imm 0 [] 0, .int .i64 0, .int .i64 0, .int .i64 0]]))], nw := (771, 847), met := [644] }⟩
theorem Try.rE2 : runFQ (getLQ Try.ftLE) Try.ptE Try.tm 2000 (callKQ [] (callXL (lookF Try.lkE) (getLQ Try.ftLE) Try.ptE Try.tm 2000 60)) Try.eE2.K Try.eE2.args Try.eE2.heap Try.eE2.nx = some Try.eE2.out := by kernel_rfl
theorem Try.kE2 : EntOk Try.prog Try.eE2 := entOk_of_runL Try.tmOk Try.tmMixed Try.ftOkE Try.lkSE (l := []) .nil Try.rE2

def Try.eE3 : Ent := ⟨10, [.agg [.int .i64 2, .ref 913 7 0 2 none, .imm 0 [] 0], .int .i64 1, .agg [.int .u8 2, .int .i64 0, .imm 0 [] 0, .int .i64 0, .str [], .str [], .int .i64 9, .int .i64 1, .imm 0 [] 0, .int .i64 0, .int .i64 0, .int .i64 0]],
 [(905, .arr 3 1 true [.int .i64 1]),
  (911, .arr 3 1 true [.int .i64 0, .int .i64 1]),
  (913, .arr 83 7 false [.agg [.int .i64 5, .ref 911 1 0 2 none, .int .i64 0, .str [], .str [], .int .i64 2, .bool false], .agg [.int .i64 9, .ref 905 1 0 1 none, .int .i64 0, .str [], .str [], .int .i64 1, .bool false]])], 931,
 { d := .tuple [.agg [.int .i64 2, .ref 963 7 0 1 none, .ref 988 2 0 1 none], .ref 990 5 0 1 none, .int .i64 0], vc := true, eff := [(965, some (.arr 3 1 true [.int .i64 1])),
  (990, some (.arr 31 5 false [.agg [.int .i64 9, .ref 965 1 0 1 none, .int .i64 0, .str [], .str []]])),
  (988, some (.arr 72 2 true [.agg [.int .i64 1, .int .i64 9]])),
  (964, some (.arr 3 1 true [.int .i64 0, .int .i64 1])),
  (963, some (.arr 83 7 false [.agg [.int .i64 5, .ref 964 1 0 2 none, .int .i64 0, .str [], .str [], .int .i64 2, .bool false], .agg [.int .i64 0, .imm 0 [] 0, .int .i64 0, .str [], .str [], .int .i64 0, .bool false]]))], nw := (931, 994), met := [905, 911, 913] }⟩
theorem Try.rE3 : runFQ (getLQ Try.ftLE) Try.ptE Try.tm 2000 (callKQ [] (callXL (lookF Try.lkE) (getLQ Try.ftLE) Try.ptE Try.tm 2000 60)) Try.eE3.K Try.eE3.args Try.eE3.heap Try.eE3.nx = some Try.eE3.out := by kernel_rfl
theorem Try.kE3 : EntOk Try.prog Try.eE3 := entOk_of_runL Try.tmOk Try.tmMixed Try.ftOkE Try.lkSE (l := []) .nil Try.rE3

def Try.eE4 : Ent := ⟨54, [.int .i64 0, .ref 525 1 0 2 (some 2)],
 [(525, .arr 9 1 true [.str [1, 5, 2, 0, 1, 0, 0, 0], .str [2, 5, 2]])], 649,
 { d := .tuple [.ref 723 6 0 1 none, .int .i64 0], vc := true, eff := [(658, some (.arr 3 1 true [.int .i64 0, .int .i64 1])),
  (723, some (.arr 117 6 false [.agg [.int .i64 1, .int .i64 5, .ref 658 1 0 2 none, .int .i64 0, .str [], .str []]]))], nw := (649, 767), met := [525] }⟩
theorem Try.rE4 : runFQ (getLQ Try.ftLE) Try.ptE Try.tm 2000 (callKQ [] (callXL (lookF Try.lkE) (getLQ Try.ftLE) Try.ptE Try.tm 2000 60)) Try.eE4.K Try.eE4.args Try.eE4.heap Try.eE4.nx = some Try.eE4.out := by kernel_rfl
theorem Try.kE4 : EntOk Try.prog Try.eE4 := entOk_of_runL Try.tmOk Try.tmMixed Try.ftOkE Try.lkSE (l := []) .nil Try.rE4

def Try.eE5 : Ent := ⟨108, [.ref 1239 1 0 4 (some 4)],
 [(1239, .arr 9 1 true [.str [1, 9, 1, 1, 0, 0, 0], .str [1, 5, 2, 0, 1, 0, 0, 0], .str [2, 9, 1], .str [2, 5, 2]])], 1363,
 { d := .tuple [.ref 1438 12 0 4 none, .int .i64 0], vc := true, eff := [(1390, some (.arr 3 1 true [.int .i64 0, .int .i64 1])),
  (1368, some (.arr 3 1 true [.int .i64 1])),
  (1438, some (.arr 33 12 false [.agg [.int .u8 1, .int .i64 9, .ref 1368 1 0 1 none, .int .i64 0, .str [], .str [], .int .i64 0, .int .i64 0, .imm 0 [] 0, .int .i64 0, .int .i64 0, .int .i64 0], .agg [.int .u8 1, .int .i64 5, .ref 1390 1 0 2 none, .int .i64 0, .str [], .str [], .int .i64 0, .int .i64 0, .imm 0 [] 0, .int .i64 0, .int .i64 0, .int .i64 0], .agg [.int .u8 2, .int .i64 0, .imm 0 [] 0, .int .i64 0, .str [], .str [], .int .i64 9, .int .i64 1, .imm 0 [] 0, .int .i64 0, .int .i64 0, .int .i64 0], .agg [.int .u8 2, .int .i64 0, .imm 0 [] 0, .int .i64 0, .str [], .str [], .int .i64 5, .int .i64 2, .imm 0 [] 0, .int .i64 0, .int .i64 0, .int .i64 0]]))], nw := (1363, 1439), met := [1239] }⟩
theorem Try.rE5 : runFQ (getLQ Try.ftLE) Try.ptE Try.tm 2000 (callKQ [] (callXL (lookF Try.lkE) (getLQ Try.ftLE) Try.ptE Try.tm 2000 60)) Try.eE5.K Try.eE5.args Try.eE5.heap Try.eE5.nx = some Try.eE5.out := by kernel_rfl
theorem Try.kE5 : EntOk Try.prog Try.eE5 := entOk_of_runL Try.tmOk Try.tmMixed Try.ftOkE Try.lkSE (l := []) .nil Try.rE5

def Try.eE6 : Ent := ⟨10, [.agg [.int .i64 2, .ref 1505 7 0 2 none, .imm 0 [] 0], .int .i64 1, .agg [.int .u8 2, .int .i64 0, .imm 0 [] 0, .int .i64 0, .str [], .str [], .int .i64 9, .int .i64 1, .imm 0 [] 0, .int .i64 0, .int .i64 0, .int .i64 0]],
 [(1497, .arr 3 1 true [.int .i64 1]),
  (1503, .arr 3 1 true [.int .i64 0, .int .i64 1]),
  (1505, .arr 83 7 false [.agg [.int .i64 5, .ref 1503 1 0 2 none, .int .i64 0, .str [], .str [], .int .i64 2, .bool false], .agg [.int .i64 9, .ref 1497 1 0 1 none, .int .i64 0, .str [], .str [], .int .i64 1, .bool false]])], 1523,
 { d := .tuple [.agg [.int .i64 2, .ref 1555 7 0 1 none, .ref 1580 2 0 1 none], .ref 1582 5 0 1 none, .int .i64 0], vc := true, eff := [(1557, some (.arr 3 1 true [.int .i64 1])),
  (1582, some (.arr 31 5 false [.agg [.int .i64 9, .ref 1557 1 0 1 none, .int .i64 0, .str [], .str []]])),
  (1580, some (.arr 72 2 true [.agg [.int .i64 1, .int .i64 9]])),
  (1556, some (.arr 3 1 true [.int .i64 0, .int .i64 1])),
  (1555, some (.arr 83 7 false [.agg [.int .i64 5, .ref 1556 1 0 2 none, .int .i64 0, .str [], .str [], .int .i64 2, .bool false], .agg [.int .i64 0, .imm 0 [] 0, .int .i64 0, .str [], .str [], .int .i64 0, .bool false]]))], nw := (1523, 1586), met := [1497, 1503, 1505] }⟩
theorem Try.rE6 : runFQ (getLQ Try.ftLE) Try.ptE Try.tm 2000 (callKQ [] (callXL (lookF Try.lkE) (getLQ Try.ftLE) Try.ptE Try.tm 2000 60)) Try.eE6.K Try.eE6.args Try.eE6.heap Try.eE6.nx = some Try.eE6.out := by kernel_rfl
theorem Try.kE6 : EntOk Try.prog Try.eE6 := entOk_of_runL Try.tmOk Try.tmMixed Try.ftOkE Try.lkSE (l := []) .nil Try.rE6

def Try.eE7 : Ent := ⟨54, [.int .i64 0, .ref 1120 1 0 2 (some 2)],
 [(1120, .arr 9 1 true [.str [1, 5, 2, 0, 1, 0, 0, 0], .str [2, 5, 2]])], 1241,
 { d := .tuple [.ref 1315 6 0 1 none, .int .i64 0], vc := true, eff := [(1250, some (.arr 3 1 true [.int .i64 0, .int .i64 1])),
  (1315, some (.arr 117 6 false [.agg [.int .i64 1, .int .i64 5, .ref 1250 1 0 2 none, .int .i64 0, .str [], .str []]]))], nw := (1241, 1359), met := [1120] }⟩
theorem Try.rE7 : runFQ (getLQ Try.ftLE) Try.ptE Try.tm 2000 (callKQ [] (callXL (lookF Try.lkE) (getLQ Try.ftLE) Try.ptE Try.tm 2000 60)) Try.eE7.K Try.eE7.args Try.eE7.heap Try.eE7.nx = some Try.eE7.out := by kernel_rfl
theorem Try.kE7 : EntOk Try.prog Try.eE7 := entOk_of_runL Try.tmOk Try.tmMixed Try.ftOkE Try.lkSE (l := []) .nil Try.rE7

def Try.eE8 : Ent := ⟨108, [.ref 1120 1 0 2 (some 2)],
 [(1120, .arr 9 1 true [.str [1, 5, 2, 0, 1, 0, 0, 0], .str [2, 5, 2]])], 1654,
 { d := .tuple [.ref 1692 12 0 2 none, .int .i64 0], vc := true, eff := [(1661, some (.arr 3 1 true [.int .i64 0, .int .i64 1])),
  (1692, some (.arr 33 12 false [.agg [.int .u8 1, .int .i64 5, .ref 1661 1 0 2 none, .int .i64 0, .str [], .str [], .int .i64 0, .int .i64 0, .imm 0 [] 0, .int .i64 0, .int .i64 0, .int .i64 0], .agg [.int .u8 2, .int .i64 0, .imm 0 [] 0, .int .i64 0, .str [], .str [], .int .i64 5, .int .i64 2, .imm 0 [] 0, .int .i64 0, .int .i64 0, .int .i64 0]]))], nw := (1654, 1693), met := [1120] }⟩
theorem Try.rE8 : runFQ (getLQ Try.ftLE) Try.ptE Try.tm 2000 (callKQ [] (callXL (lookF Try.lkE) (getLQ Try.ftLE) Try.ptE Try.tm 2000 60)) Try.eE8.K Try.eE8.args Try.eE8.heap Try.eE8.nx = some Try.eE8.out := by kernel_rfl
theorem Try.kE8 : EntOk Try.prog Try.eE8 := entOk_of_runL Try.tmOk Try.tmMixed Try.ftOkE Try.lkSE (l := []) .nil Try.rE8

def Try.eE9 : Ent := ⟨108, [.ref 1239 1 0 4 (some 4)],
 [(1239, .arr 9 1 true [.str [1, 9, 1, 1, 0, 0, 0], .str [1, 5, 2, 0, 1, 0, 0, 0], .str [2, 9, 1], .str [2, 5, 2]])], 1782,
 { d := .tuple [.ref 1857 12 0 4 none, .int .i64 0], vc := true, eff := [(1809, some (.arr 3 1 true [.int .i64 0, .int .i64 1])),
  (1787, some (.arr 3 1 true [.int .i64 1])),
  (1857, some (.arr 33 12 false [.agg [.int .u8 1, .int .i64 9, .ref 1787 1 0 1 none, .int .i64 0, .str [], .str [], .int .i64 0, .int .i64 0, .imm 0 [] 0, .int .i64 0, .int .i64 0, .int .i64 0], .agg [.int .u8 1, .int .i64 5, .ref 1809 1 0 2 none, .int .i64 0, .str [], .str [], .int .i64 0, .int .i64 0, .imm 0 [] 0, .int .i64 0, .int .i64 0, .int .i64 0], .agg [.int .u8 2, .int .i64 0, .imm 0 [] 0, .int .i64 0, .str [], .str [], .int .i64 9, .int .i64 1, .imm 0 [] 0, .int .i64 0, .int .i64 0, .int .i64 0], .agg [.int .u8 2, .int .i64 0, .imm 0 [] 0, .int .i64 0, .str [], .str [], .int .i64 5, .int .i64 2, .imm 0 [] 0, .int .i64 0, .int .i64 0, .int .i64 0]]))], nw := (1782, 1858), met := [1239] }⟩
theorem Try.rE9 : runFQ (getLQ Try.ftLE) Try.ptE Try.tm 2000 (callKQ [] (callXL (lookF Try.lkE) (getLQ Try.ftLE) Try.ptE Try.tm 2000 60)) Try.eE9.K Try.eE9.args Try.eE9.heap Try.eE9.nx = some Try.eE9.out := by kernel_rfl
theorem Try.kE9 : EntOk Try.prog Try.eE9 := entOk_of_runL Try.tmOk Try.tmMixed Try.ftOkE Try.lkSE (l := []) .nil Try.rE9

def Try.eE10 : Ent := ⟨10, [.agg [.int .i64 2, .ref 1922 7 0 2 none, .imm 0 [] 0], .int .i64 1, .agg [.int .u8 2, .int .i64 0, .imm 0 [] 0, .int .i64 0, .str [], .str [], .int .i64 9, .int .i64 1, .imm 0 [] 0, .int .i64 0, .int .i64 0, .int .i64 0]],
 [(1914, .arr 3 1 true [.int .i64 1]),
  (1920, .arr 3 1 true [.int .i64 0, .int .i64 1]),
  (1922, .arr 83 7 false [.agg [.int .i64 5, .ref 1920 1 0 2 none, .int .i64 0, .str [], .str [], .int .i64 2, .bool false], .agg [.int .i64 9, .ref 1914 1 0 1 none, .int .i64 0, .str [], .str [], .int .i64 1, .bool false]])], 1938,
 { d := .tuple [.agg [.int .i64 2, .ref 1970 7 0 1 none, .ref 1995 2 0 1 none], .ref 1997 5 0 1 none, .int .i64 0], vc := true, eff := [(1972, some (.arr 3 1 true [.int .i64 1])),
  (1997, some (.arr 31 5 false [.agg [.int .i64 9, .ref 1972 1 0 1 none, .int .i64 0, .str [], .str []]])),
  (1995, some (.arr 72 2 true [.agg [.int .i64 1, .int .i64 9]])),
  (1971, some (.arr 3 1 true [.int .i64 0, .int .i64 1])),
  (1970, some (.arr 83 7 false [.agg [.int .i64 5, .ref 1971 1 0 2 none, .int .i64 0, .str [], .str [], .int .i64 2, .bool false], .agg [.int .i64 0, .imm 0 [] 0, .int .i64 0, .str [], .str [], .int .i64 0, .bool false]]))], nw := (1938, 2001), met := [1914, 1920, 1922] }⟩
theorem Try.rE10 : runFQ (getLQ Try.ftLE) Try.ptE Try.tm 2000 (callKQ [] (callXL (lookF Try.lkE) (getLQ Try.ftLE) Try.ptE Try.tm 2000 60)) Try.eE10.K Try.eE10.args Try.eE10.heap Try.eE10.nx = some Try.eE10.out := by kernel_rfl
theorem Try.kE10 : EntOk Try.prog Try.eE10 := entOk_of_runL Try.tmOk Try.tmMixed Try.ftOkE Try.lkSE (l := []) .nil Try.rE10

def Try.eE11 : Ent := ⟨60, [.int .i64 1, .ref 1239 1 0 4 (some 4), .fn (.func 61) [.ptr 1641 0, .ptr 1652 0]],
 [(1652, .box [.bool true]),
  (1390, .arr 3 1 true [.int .i64 0, .int .i64 1]),
  (1368, .arr 3 1 true [.int .i64 1]),
  (1521, .arr 117 6 false [.agg [.int .i64 1, .int .i64 9, .ref 1368 1 0 1 none, .int .i64 0, .str [], .str []], .agg [.int .i64 2, .int .i64 5, .ref 1390 1 0 2 none, .int .i64 0, .str [], .str []]]),
  (1250, .arr 3 1 true [.int .i64 0, .int .i64 1]),
  (1315, .arr 117 6 false [.agg [.int .i64 1, .int .i64 5, .ref 1250 1 0 2 none, .int .i64 0, .str [], .str []]]),
  (1640, .arr 113 1 false [.ref 1315 6 0 1 none, .ref 1521 6 0 2 none]),
  (1641, .box [.ref 1640 1 0 2 none]),
  (1239, .arr 9 1 true [.str [1, 9, 1, 1, 0, 0, 0], .str [1, 5, 2, 0, 1, 0, 0, 0], .str [2, 9, 1], .str [2, 5, 2]])], 1781,
 { d := .tuple [.agg [.int .i64 2, .imm 7 [] 9, .ref 2074 2 0 2 none], .int .i64 0], vc := true, eff := [(1652, some (.box [.bool true])),
  (2074, some (.arr 72 2 true [.agg [.int .i64 1, .int .i64 9], .agg [.int .i64 2, .int .i64 5]]))], nw := (1781, 2075), met := [1652, 1390, 1368, 1521, 1250, 1315, 1640, 1641, 1239] }⟩
theorem Try.rE11 : runFQ (getLQ Try.ftLE) Try.ptE Try.tm 2000 (callKQ [Try.eE9, Try.eE10] (callXL (lookF Try.lkE) (getLQ Try.ftLE) Try.ptE Try.tm 2000 60)) Try.eE11.K Try.eE11.args Try.eE11.heap Try.eE11.nx = some Try.eE11.out := by kernel_rfl
theorem Try.kE11 : EntOk Try.prog Try.eE11 := entOk_of_runL Try.tmOk Try.tmMixed Try.ftOkE Try.lkSE (l := [Try.eE9, Try.eE10]) (.cons Try.kE9 (.cons Try.kE10 .nil)) Try.rE11

def Try.eE12 : Ent := ⟨57, [.ref 1240 1 0 2 (some 2)],
 [(1239, .arr 9 1 true [.str [1, 9, 1, 1, 0, 0, 0], .str [1, 5, 2, 0, 1, 0, 0, 0], .str [2, 9, 1], .str [2, 5, 2]]),
  (1120, .arr 9 1 true [.str [1, 5, 2, 0, 1, 0, 0, 0], .str [2, 5, 2]]),
  (1240, .arr 53 1 false [.ref 1120 1 0 2 (some 2), .ref 1239 1 0 4 (some 4)])], 1241,
 { d := .tuple [.ref 1640 1 0 2 none, .int .i64 0], vc := true, eff := [(1390, some (.arr 3 1 true [.int .i64 0, .int .i64 1])),
  (1368, some (.arr 3 1 true [.int .i64 1])),
  (1521, some (.arr 117 6 false [.agg [.int .i64 1, .int .i64 9, .ref 1368 1 0 1 none, .int .i64 0, .str [], .str []], .agg [.int .i64 2, .int .i64 5, .ref 1390 1 0 2 none, .int .i64 0, .str [], .str []]])),
  (1250, some (.arr 3 1 true [.int .i64 0, .int .i64 1])),
  (1315, some (.arr 117 6 false [.agg [.int .i64 1, .int .i64 5, .ref 1250 1 0 2 none, .int .i64 0, .str [], .str []]])),
  (1640, some (.arr 113 1 false [.ref 1315 6 0 1 none, .ref 1521 6 0 2 none]))], nw := (1241, 1641), met := [1239, 1120, 1240] }⟩
theorem Try.rE12 : runFQ (getLQ Try.ftLE) Try.ptE Try.tm 2000 (callKQ [Try.eE7, Try.eE5, Try.eE6] (callXL (lookF Try.lkE) (getLQ Try.ftLE) Try.ptE Try.tm 2000 60)) Try.eE12.K Try.eE12.args Try.eE12.heap Try.eE12.nx = some Try.eE12.out := by kernel_rfl
theorem Try.kE12 : EntOk Try.prog Try.eE12 := entOk_of_runL Try.tmOk Try.tmMixed Try.ftOkE Try.lkSE (l := [Try.eE7, Try.eE5, Try.eE6]) (.cons Try.kE7 (.cons Try.kE5 (.cons Try.kE6 .nil))) Try.rE12

def Try.eE13 : Ent := ⟨108, [.ref 2554 1 0 4 (some 4)],
 [(2554, .arr 9 1 true [.str [1, 9, 1, 1, 0, 0, 0], .str [1, 5, 2, 0, 1, 0, 0, 0], .str [2, 9, 1], .str [2, 5, 2]])], 2559,
 { d := .tuple [.ref 2634 12 0 4 none, .int .i64 0], vc := true, eff := [(2586, some (.arr 3 1 true [.int .i64 0, .int .i64 1])),
  (2564, some (.arr 3 1 true [.int .i64 1])),
  (2634, some (.arr 33 12 false [.agg [.int .u8 1, .int .i64 9, .ref 2564 1 0 1 none, .int .i64 0, .str [], .str [], .int .i64 0, .int .i64 0, .imm 0 [] 0, .int .i64 0, .int .i64 0, .int .i64 0], .agg [.int .u8 1, .int .i64 5, .ref 2586 1 0 2 none, .int .i64 0, .str [], .str [], .int .i64 0, .int .i64 0, .imm 0 [] 0, .int .i64 0, .int .i64 0, .int .i64 0], .agg [.int .u8 2, .int .i64 0, .imm 0 [] 0, .int .i64 0, .str [], .str [], .int .i64 9, .int .i64 1, .imm 0 [] 0, .int .i64 0, .int .i64 0, .int .i64 0], .agg [.int .u8 2, .int .i64 0, .imm 0 [] 0, .int .i64 0, .str [], .str [], .int .i64 5, .int .i64 2, .imm 0 [] 0, .int .i64 0, .int .i64 0, .int .i64 0]]))], nw := (2559, 2635), met := [2554] }⟩
theorem Try.rE13 : runFQ (getLQ Try.ftLE) Try.ptE Try.tm 2000 (callKQ [] (callXL (lookF Try.lkE) (getLQ Try.ftLE) Try.ptE Try.tm 2000 60)) Try.eE13.K Try.eE13.args Try.eE13.heap Try.eE13.nx = some Try.eE13.out := by kernel_rfl
theorem Try.kE13 : EntOk Try.prog Try.eE13 := entOk_of_runL Try.tmOk Try.tmMixed Try.ftOkE Try.lkSE (l := []) .nil Try.rE13

def Try.eE14 : Ent := ⟨10, [.agg [.int .i64 2, .ref 2699 7 0 2 none, .imm 0 [] 0], .int .i64 1, .agg [.int .u8 2, .int .i64 0, .imm 0 [] 0, .int .i64 0, .str [], .str [], .int .i64 9, .int .i64 1, .imm 0 [] 0, .int .i64 0, .int .i64 0, .int .i64 0]],
 [(2691, .arr 3 1 true [.int .i64 1]),
  (2697, .arr 3 1 true [.int .i64 0, .int .i64 1]),
  (2699, .arr 83 7 false [.agg [.int .i64 5, .ref 2697 1 0 2 none, .int .i64 0, .str [], .str [], .int .i64 2, .bool false], .agg [.int .i64 9, .ref 2691 1 0 1 none, .int .i64 0, .str [], .str [], .int .i64 1, .bool false]])], 2715,
 { d := .tuple [.agg [.int .i64 2, .ref 2747 7 0 1 none, .ref 2772 2 0 1 none], .ref 2774 5 0 1 none, .int .i64 0], vc := true, eff := [(2749, some (.arr 3 1 true [.int .i64 1])),
  (2774, some (.arr 31 5 false [.agg [.int .i64 9, .ref 2749 1 0 1 none, .int .i64 0, .str [], .str []]])),
  (2772, some (.arr 72 2 true [.agg [.int .i64 1, .int .i64 9]])),
  (2748, some (.arr 3 1 true [.int .i64 0, .int .i64 1])),
  (2747, some (.arr 83 7 false [.agg [.int .i64 5, .ref 2748 1 0 2 none, .int .i64 0, .str [], .str [], .int .i64 2, .bool false], .agg [.int .i64 0, .imm 0 [] 0, .int .i64 0, .str [], .str [], .int .i64 0, .bool false]]))], nw := (2715, 2778), met := [2691, 2697, 2699] }⟩
theorem Try.rE14 : runFQ (getLQ Try.ftLE) Try.ptE Try.tm 2000 (callKQ [] (callXL (lookF Try.lkE) (getLQ Try.ftLE) Try.ptE Try.tm 2000 60)) Try.eE14.K Try.eE14.args Try.eE14.heap Try.eE14.nx = some Try.eE14.out := by kernel_rfl
theorem Try.kE14 : EntOk Try.prog Try.eE14 := entOk_of_runL Try.tmOk Try.tmMixed Try.ftOkE Try.lkSE (l := []) .nil Try.rE14

def Try.eE15 : Ent := ⟨108, [.ref 3013 1 0 4 (some 4)],
 [(3013, .arr 9 1 true [.str [1, 9, 1, 1, 0, 0, 0], .str [1, 5, 2, 0, 1, 0, 0, 0], .str [2, 9, 1], .str [2, 5, 2]])], 3157,
 { d := .tuple [.ref 3232 12 0 4 none, .int .i64 0], vc := true, eff := [(3184, some (.arr 3 1 true [.int .i64 0, .int .i64 1])),
  (3162, some (.arr 3 1 true [.int .i64 1])),
  (3232, some (.arr 33 12 false [.agg [.int .u8 1, .int .i64 9, .ref 3162 1 0 1 none, .int .i64 0, .str [], .str [], .int .i64 0, .int .i64 0, .imm 0 [] 0, .int .i64 0, .int .i64 0, .int .i64 0], .agg [.int .u8 1, .int .i64 5, .ref 3184 1 0 2 none, .int .i64 0, .str [], .str [], .int .i64 0, .int .i64 0, .imm 0 [] 0, .int .i64 0, .int .i64 0, .int .i64 0], .agg [.int .u8 2, .int .i64 0, .imm 0 [] 0, .int .i64 0, .str [], .str [], .int .i64 9, .int .i64 1, .imm 0 [] 0, .int .i64 0, .int .i64 0, .int .i64 0], .agg [.int .u8 2, .int .i64 0, .imm 0 [] 0, .int .i64 0, .str [], .str [], .int .i64 5, .int .i64 2, .imm 0 [] 0, .int .i64 0, .int .i64 0, .int .i64 0]]))], nw := (3157, 3233), met := [3013] }⟩
theorem Try.rE15 : runFQ (getLQ Try.ftLE) Try.ptE Try.tm 2000 (callKQ [] (callXL (lookF Try.lkE) (getLQ Try.ftLE) Try.ptE Try.tm 2000 60)) Try.eE15.K Try.eE15.args Try.eE15.heap Try.eE15.nx = some Try.eE15.out := by kernel_rfl
theorem Try.kE15 : EntOk Try.prog Try.eE15 := entOk_of_runL Try.tmOk Try.tmMixed Try.ftOkE Try.lkSE (l := []) .nil Try.rE15

def Try.eE16 : Ent := ⟨10, [.agg [.int .i64 2, .ref 3299 7 0 2 none, .imm 0 [] 0], .int .i64 1, .agg [.int .u8 2, .int .i64 0, .imm 0 [] 0, .int .i64 0, .str [], .str [], .int .i64 9, .int .i64 1, .imm 0 [] 0, .int .i64 0, .int .i64 0, .int .i64 0]],
 [(3291, .arr 3 1 true [.int .i64 1]),
  (3297, .arr 3 1 true [.int .i64 0, .int .i64 1]),
  (3299, .arr 83 7 false [.agg [.int .i64 5, .ref 3297 1 0 2 none, .int .i64 0, .str [], .str [], .int .i64 2, .bool false], .agg [.int .i64 9, .ref 3291 1 0 1 none, .int .i64 0, .str [], .str [], .int .i64 1, .bool false]])], 3317,
 { d := .tuple [.agg [.int .i64 2, .ref 3349 7 0 1 none, .ref 3374 2 0 1 none], .ref 3376 5 0 1 none, .int .i64 0], vc := true, eff := [(3351, some (.arr 3 1 true [.int .i64 1])),
  (3376, some (.arr 31 5 false [.agg [.int .i64 9, .ref 3351 1 0 1 none, .int .i64 0, .str [], .str []]])),
  (3374, some (.arr 72 2 true [.agg [.int .i64 1, .int .i64 9]])),
  (3350, some (.arr 3 1 true [.int .i64 0, .int .i64 1])),
  (3349, some (.arr 83 7 false [.agg [.int .i64 5, .ref 3350 1 0 2 none, .int .i64 0, .str [], .str [], .int .i64 2, .bool false], .agg [.int .i64 0, .imm 0 [] 0, .int .i64 0, .str [], .str [], .int .i64 0, .bool false]]))], nw := (3317, 3380), met := [3291, 3297, 3299] }⟩
theorem Try.rE16 : runFQ (getLQ Try.ftLE) Try.ptE Try.tm 2000 (callKQ [] (callXL (lookF Try.lkE) (getLQ Try.ftLE) Try.ptE Try.tm 2000 60)) Try.eE16.K Try.eE16.args Try.eE16.heap Try.eE16.nx = some Try.eE16.out := by kernel_rfl
theorem Try.kE16 : EntOk Try.prog Try.eE16 := entOk_of_runL Try.tmOk Try.tmMixed Try.ftOkE Try.lkSE (l := []) .nil Try.rE16

def Try.eE17 : Ent := ⟨54, [.int .i64 0, .ref 2894 1 0 2 (some 2)],
 [(2894, .arr 9 1 true [.str [1, 5, 2, 0, 1, 0, 0, 0], .str [2, 5, 3]])], 3035,
 { d := .tuple [.ref 3109 6 0 1 none, .int .i64 0], vc := true, eff := [(3044, some (.arr 3 1 true [.int .i64 0, .int .i64 1])),
  (3109, some (.arr 117 6 false [.agg [.int .i64 1, .int .i64 5, .ref 3044 1 0 2 none, .int .i64 0, .str [], .str []]]))], nw := (3035, 3153), met := [2894] }⟩
theorem Try.rE17 : runFQ (getLQ Try.ftLE) Try.ptE Try.tm 2000 (callKQ [] (callXL (lookF Try.lkE) (getLQ Try.ftLE) Try.ptE Try.tm 2000 60)) Try.eE17.K Try.eE17.args Try.eE17.heap Try.eE17.nx = some Try.eE17.out := by kernel_rfl
theorem Try.kE17 : EntOk Try.prog Try.eE17 := entOk_of_runL Try.tmOk Try.tmMixed Try.ftOkE Try.lkSE (l := []) .nil Try.rE17

def Try.eE18 : Ent := ⟨108, [.ref 2894 1 0 2 (some 2)],
 [(2894, .arr 9 1 true [.str [1, 5, 2, 0, 1, 0, 0, 0], .str [2, 5, 3]])], 3448,
 { d := .tuple [.ref 3486 12 0 2 none, .int .i64 0], vc := true, eff := [(3455, some (.arr 3 1 true [.int .i64 0, .int .i64 1])),
  (3486, some (.arr 33 12 false [.agg [.int .u8 1, .int .i64 5, .ref 3455 1 0 2 none, .int .i64 0, .str [], .str [], .int .i64 0, .int .i64 0, .imm 0 [] 0, .int .i64 0, .int .i64 0, .int .i64 0], .agg [.int .u8 2, .int .i64 0, .imm 0 [] 0, .int .i64 0, .str [], .str [], .int .i64 5, .int .i64 3, .imm 0 [] 0, .int .i64 0, .int .i64 0, .int .i64 0]]))], nw := (3448, 3487), met := [2894] }⟩
theorem Try.rE18 : runFQ (getLQ Try.ftLE) Try.ptE Try.tm 2000 (callKQ [] (callXL (lookF Try.lkE) (getLQ Try.ftLE) Try.ptE Try.tm 2000 60)) Try.eE18.K Try.eE18.args Try.eE18.heap Try.eE18.nx = some Try.eE18.out := by kernel_rfl
theorem Try.kE18 : EntOk Try.prog Try.eE18 := entOk_of_runL Try.tmOk Try.tmMixed Try.ftOkE Try.lkSE (l := []) .nil Try.rE18

def Try.eE19 : Ent := ⟨108, [.ref 3013 1 0 4 (some 4)],
 [(3013, .arr 9 1 true [.str [1, 9, 1, 1, 0, 0, 0], .str [1, 5, 2, 0, 1, 0, 0, 0], .str [2, 9, 1], .str [2, 5, 2]])], 3576,
 { d := .tuple [.ref 3651 12 0 4 none, .int .i64 0], vc := true, eff := [(3603, some (.arr 3 1 true [.int .i64 0, .int .i64 1])),
  (3581, some (.arr 3 1 true [.int .i64 1])),
  (3651, some (.arr 33 12 false [.agg [.int .u8 1, .int .i64 9, .ref 3581 1 0 1 none, .int .i64 0, .str [], .str [], .int .i64 0, .int .i64 0, .imm 0 [] 0, .int .i64 0, .int .i64 0, .int .i64 0], .agg [.int .u8 1, .int .i64 5, .ref 3603 1 0 2 none, .int .i64 0, .str [], .str [], .int .i64 0, .int .i64 0, .imm 0 [] 0, .int .i64 0, .int .i64 0, .int .i64 0], .agg [.int .u8 2, .int .i64 0, .imm 0 [] 0, .int .i64 0, .str [], .str [], .int .i64 9, .int .i64 1, .imm 0 [] 0, .int .i64 0, .int .i64 0, .int .i64 0], .agg [.int .u8 2, .int .i64 0, .imm 0 [] 0, .int .i64 0, .str [], .str [], .int .i64 5, .int .i64 2, .imm 0 [] 0, .int .i64 0, .int .i64 0, .int .i64 0]]))], nw := (3576, 3652), met := [3013] }⟩
theorem Try.rE19 : runFQ (getLQ Try.ftLE) Try.ptE Try.tm 2000 (callKQ [] (callXL (lookF Try.lkE) (getLQ Try.ftLE) Try.ptE Try.tm 2000 60)) Try.eE19.K Try.eE19.args Try.eE19.heap Try.eE19.nx = some Try.eE19.out := by kernel_rfl
theorem Try.kE19 : EntOk Try.prog Try.eE19 := entOk_of_runL Try.tmOk Try.tmMixed Try.ftOkE Try.lkSE (l := []) .nil Try.rE19

def Try.eE20 : Ent := ⟨10, [.agg [.int .i64 2, .ref 3716 7 0 2 none, .imm 0 [] 0], .int .i64 1, .agg [.int .u8 2, .int .i64 0, .imm 0 [] 0, .int .i64 0, .str [], .str [], .int .i64 9, .int .i64 1, .imm 0 [] 0, .int .i64 0, .int .i64 0, .int .i64 0]],
 [(3708, .arr 3 1 true [.int .i64 1]),
  (3714, .arr 3 1 true [.int .i64 0, .int .i64 1]),
  (3716, .arr 83 7 false [.agg [.int .i64 5, .ref 3714 1 0 2 none, .int .i64 0, .str [], .str [], .int .i64 2, .bool false], .agg [.int .i64 9, .ref 3708 1 0 1 none, .int .i64 0, .str [], .str [], .int .i64 1, .bool false]])], 3732,
 { d := .tuple [.agg [.int .i64 2, .ref 3764 7 0 1 none, .ref 3789 2 0 1 none], .ref 3791 5 0 1 none, .int .i64 0], vc := true, eff := [(3766, some (.arr 3 1 true [.int .i64 1])),
  (3791, some (.arr 31 5 false [.agg [.int .i64 9, .ref 3766 1 0 1 none, .int .i64 0, .str [], .str []]])),
  (3789, some (.arr 72 2 true [.agg [.int .i64 1, .int .i64 9]])),
  (3765, some (.arr 3 1 true [.int .i64 0, .int .i64 1])),
  (3764, some (.arr 83 7 false [.agg [.int .i64 5, .ref 3765 1 0 2 none, .int .i64 0, .str [], .str [], .int .i64 2, .bool false], .agg [.int .i64 0, .imm 0 [] 0, .int .i64 0, .str [], .str [], .int .i64 0, .bool false]]))], nw := (3732, 3795), met := [3708, 3714, 3716] }⟩
theorem Try.rE20 : runFQ (getLQ Try.ftLE) Try.ptE Try.tm 2000 (callKQ [] (callXL (lookF Try.lkE) (getLQ Try.ftLE) Try.ptE Try.tm 2000 60)) Try.eE20.K Try.eE20.args Try.eE20.heap Try.eE20.nx = some Try.eE20.out := by kernel_rfl
theorem Try.kE20 : EntOk Try.prog Try.eE20 := entOk_of_runL Try.tmOk Try.tmMixed Try.ftOkE Try.lkSE (l := []) .nil Try.rE20

def Try.eE21 : Ent := ⟨60, [.int .i64 1, .ref 3013 1 0 4 (some 4), .fn (.func 61) [.ptr 3435 0, .ptr 3446 0]],
 [(3446, .box [.bool false]),
  (3184, .arr 3 1 true [.int .i64 0, .int .i64 1]),
  (3162, .arr 3 1 true [.int .i64 1]),
  (3315, .arr 117 6 false [.agg [.int .i64 1, .int .i64 9, .ref 3162 1 0 1 none, .int .i64 0, .str [], .str []], .agg [.int .i64 2, .int .i64 5, .ref 3184 1 0 2 none, .int .i64 0, .str [], .str []]]),
  (3044, .arr 3 1 true [.int .i64 0, .int .i64 1]),
  (3109, .arr 117 6 false [.agg [.int .i64 1, .int .i64 5, .ref 3044 1 0 2 none, .int .i64 0, .str [], .str []]]),
  (3434, .arr 113 1 false [.ref 3109 6 0 1 none, .ref 3315 6 0 2 none]),
  (3435, .box [.ref 3434 1 0 2 none]),
  (3013, .arr 9 1 true [.str [1, 9, 1, 1, 0, 0, 0], .str [1, 5, 2, 0, 1, 0, 0, 0], .str [2, 9, 1], .str [2, 5, 2]])], 3575,
 { d := .tuple [.agg [.int .i64 2, .imm 7 [] 9, .ref 3868 2 0 2 none], .int .i64 0], vc := true, eff := [(3446, some (.box [.bool false])),
  (3868, some (.arr 72 2 true [.agg [.int .i64 1, .int .i64 9], .agg [.int .i64 2, .int .i64 5]]))], nw := (3575, 3869), met := [3446, 3184, 3162, 3315, 3044, 3109, 3434, 3435, 3013] }⟩
theorem Try.rE21 : runFQ (getLQ Try.ftLE) Try.ptE Try.tm 2000 (callKQ [Try.eE19, Try.eE20] (callXL (lookF Try.lkE) (getLQ Try.ftLE) Try.ptE Try.tm 2000 60)) Try.eE21.K Try.eE21.args Try.eE21.heap Try.eE21.nx = some Try.eE21.out := by kernel_rfl
theorem Try.kE21 : EntOk Try.prog Try.eE21 := entOk_of_runL Try.tmOk Try.tmMixed Try.ftOkE Try.lkSE (l := [Try.eE19, Try.eE20]) (.cons Try.kE19 (.cons Try.kE20 .nil)) Try.rE21

def Try.eE22 : Ent := ⟨57, [.ref 3014 1 0 2 (some 2)],
 [(3013, .arr 9 1 true [.str [1, 9, 1, 1, 0, 0, 0], .str [1, 5, 2, 0, 1, 0, 0, 0], .str [2, 9, 1], .str [2, 5, 2]]),
  (2894, .arr 9 1 true [.str [1, 5, 2, 0, 1, 0, 0, 0], .str [2, 5, 3]]),
  (3014, .arr 53 1 false [.ref 2894 1 0 2 (some 2), .ref 3013 1 0 4 (some 4)])], 3035,
 { d := .tuple [.ref 3434 1 0 2 none, .int .i64 0], vc := true, eff := [(3184, some (.arr 3 1 true [.int .i64 0, .int .i64 1])),
  (3162, some (.arr 3 1 true [.int .i64 1])),
  (3315, some (.arr 117 6 false [.agg [.int .i64 1, .int .i64 9, .ref 3162 1 0 1 none, .int .i64 0, .str [], .str []], .agg [.int .i64 2, .int .i64 5, .ref 3184 1 0 2 none, .int .i64 0, .str [], .str []]])),
  (3044, some (.arr 3 1 true [.int .i64 0, .int .i64 1])),
  (3109, some (.arr 117 6 false [.agg [.int .i64 1, .int .i64 5, .ref 3044 1 0 2 none, .int .i64 0, .str [], .str []]])),
  (3434, some (.arr 113 1 false [.ref 3109 6 0 1 none, .ref 3315 6 0 2 none]))], nw := (3035, 3435), met := [3013, 2894, 3014] }⟩
theorem Try.rE22 : runFQ (getLQ Try.ftLE) Try.ptE Try.tm 2000 (callKQ [Try.eE17, Try.eE15, Try.eE16] (callXL (lookF Try.lkE) (getLQ Try.ftLE) Try.ptE Try.tm 2000 60)) Try.eE22.K Try.eE22.args Try.eE22.heap Try.eE22.nx = some Try.eE22.out := by kernel_rfl
theorem Try.kE22 : EntOk Try.prog Try.eE22 := entOk_of_runL Try.tmOk Try.tmMixed Try.ftOkE Try.lkSE (l := [Try.eE17, Try.eE15, Try.eE16]) (.cons Try.kE17 (.cons Try.kE15 (.cons Try.kE16 .nil))) Try.rE22

def Try.eE23 : Ent := ⟨57, [.ref 4049 1 0 1 (some 2)],
 [(4048, .arr 9 1 true [.str [1, 9, 1, 1, 0, 0, 0], .str [1, 5, 2, 0, 1, 0, 0, 0], .str [2, 9, 1], .str [2, 5, 2]]),
  (3929, .arr 9 1 true [.str [1, 5, 2, 0, 1, 0, 0, 0], .str [2, 5, 2]]),
  (4049, .arr 53 1 false [.ref 3929 1 0 2 (some 2), .ref 4048 1 0 4 (some 4)])], 4053,
 { d := .tuple [.ref 4172 1 0 1 none, .int .i64 0], vc := true, eff := [(4062, some (.arr 3 1 true [.int .i64 0, .int .i64 1])),
  (4127, some (.arr 117 6 false [.agg [.int .i64 1, .int .i64 5, .ref 4062 1 0 2 none, .int .i64 0, .str [], .str []]])),
  (4172, some (.arr 113 1 false [.ref 4127 6 0 1 none]))], nw := (4053, 4173), met := [4048, 3929, 4049] }⟩
theorem Try.rE23 : runFQ (getLQ Try.ftLE) Try.ptE Try.tm 2000 (callKQ [] (callXL (lookF Try.lkE) (getLQ Try.ftLE) Try.ptE Try.tm 2000 60)) Try.eE23.K Try.eE23.args Try.eE23.heap Try.eE23.nx = some Try.eE23.out := by kernel_rfl
theorem Try.kE23 : EntOk Try.prog Try.eE23 := entOk_of_runL Try.tmOk Try.tmMixed Try.ftOkE Try.lkSE (l := []) .nil Try.rE23

def Try.eE24 : Ent := ⟨108, [.ref 4363 1 0 4 (some 4)],
 [(4363, .arr 9 1 true [.str [1, 9, 1, 1, 0, 0, 0], .str [1, 5, 2, 0, 1, 0, 0, 0], .str [2, 9, 1], .str [2, 5, 2]])], 4368,
 { d := .tuple [.ref 4443 12 0 4 none, .int .i64 0], vc := true, eff := [(4395, some (.arr 3 1 true [.int .i64 0, .int .i64 1])),
  (4373, some (.arr 3 1 true [.int .i64 1])),
  (4443, some (.arr 33 12 false [.agg [.int .u8 1, .int .i64 9, .ref 4373 1 0 1 none, .int .i64 0, .str [], .str [], .int .i64 0, .int .i64 0, .imm 0 [] 0, .int .i64 0, .int .i64 0, .int .i64 0], .agg [.int .u8 1, .int .i64 5, .ref 4395 1 0 2 none, .int .i64 0, .str [], .str [], .int .i64 0, .int .i64 0, .imm 0 [] 0, .int .i64 0, .int .i64 0, .int .i64 0], .agg [.int .u8 2, .int .i64 0, .imm 0 [] 0, .int .i64 0, .str [], .str [], .int .i64 9, .int .i64 1, .imm 0 [] 0, .int .i64 0, .int .i64 0, .int .i64 0], .agg [.int .u8 2, .int .i64 0, .imm 0 [] 0, .int .i64 0, .str [], .str [], .int .i64 5, .int .i64 2, .imm 0 [] 0, .int .i64 0, .int .i64 0, .int .i64 0]]))], nw := (4368, 4444), met := [4363] }⟩
theorem Try.rE24 : runFQ (getLQ Try.ftLE) Try.ptE Try.tm 2000 (callKQ [] (callXL (lookF Try.lkE) (getLQ Try.ftLE) Try.ptE Try.tm 2000 60)) Try.eE24.K Try.eE24.args Try.eE24.heap Try.eE24.nx = some Try.eE24.out := by kernel_rfl
theorem Try.kE24 : EntOk Try.prog Try.eE24 := entOk_of_runL Try.tmOk Try.tmMixed Try.ftOkE Try.lkSE (l := []) .nil Try.rE24

def Try.eE25 : Ent := ⟨10, [.agg [.int .i64 2, .ref 4508 7 0 2 none, .imm 0 [] 0], .int .i64 1, .agg [.int .u8 2, .int .i64 0, .imm 0 [] 0, .int .i64 0, .str [], .str [], .int .i64 9, .int .i64 1, .imm 0 [] 0, .int .i64 0, .int .i64 0, .int .i64 0]],
 [(4500, .arr 3 1 true [.int .i64 1]),
  (4506, .arr 3 1 true [.int .i64 0, .int .i64 1]),
  (4508, .arr 83 7 false [.agg [.int .i64 5, .ref 4506 1 0 2 none, .int .i64 0, .str [], .str [], .int .i64 2, .bool false], .agg [.int .i64 9, .ref 4500 1 0 1 none, .int .i64 0, .str [], .str [], .int .i64 1, .bool false]])], 4524,
 { d := .tuple [.agg [.int .i64 2, .ref 4556 7 0 1 none, .ref 4581 2 0 1 none], .ref 4583 5 0 1 none, .int .i64 0], vc := true, eff := [(4558, some (.arr 3 1 true [.int .i64 1])),
  (4583, some (.arr 31 5 false [.agg [.int .i64 9, .ref 4558 1 0 1 none, .int .i64 0, .str [], .str []]])),
  (4581, some (.arr 72 2 true [.agg [.int .i64 1, .int .i64 9]])),
  (4557, some (.arr 3 1 true [.int .i64 0, .int .i64 1])),
  (4556, some (.arr 83 7 false [.agg [.int .i64 5, .ref 4557 1 0 2 none, .int .i64 0, .str [], .str [], .int .i64 2, .bool false], .agg [.int .i64 0, .imm 0 [] 0, .int .i64 0, .str [], .str [], .int .i64 0, .bool false]]))], nw := (4524, 4587), met := [4500, 4506, 4508] }⟩
theorem Try.rE25 : runFQ (getLQ Try.ftLE) Try.ptE Try.tm 2000 (callKQ [] (callXL (lookF Try.lkE) (getLQ Try.ftLE) Try.ptE Try.tm 2000 60)) Try.eE25.K Try.eE25.args Try.eE25.heap Try.eE25.nx = some Try.eE25.out := by kernel_rfl
theorem Try.kE25 : EntOk Try.prog Try.eE25 := entOk_of_runL Try.tmOk Try.tmMixed Try.ftOkE Try.lkSE (l := []) .nil Try.rE25

def Try.eE26 : Ent := ⟨24, [],
 [], 4184,
 { d := .ref 4364 1 0 2 (some 2), vc := true, eff := [(4363, some (.arr 9 1 true [.str [1, 9, 1, 1, 0, 0, 0], .str [1, 5, 2, 0, 1, 0, 0, 0], .str [2, 9, 1], .str [2, 5, 2]])),
  (4244, some (.arr 9 1 true [.str [1, 5, 2, 0, 1, 0, 0, 0], .str [2, 5, 2]])),
  (4364, some (.arr 53 1 false [.ref 4244 1 0 2 (some 2), .ref 4363 1 0 4 (some 4)]))], nw := (4184, 4365), met := [] }⟩
theorem Try.rE26 : runFQ (getLQ Try.ftLE) Try.ptE Try.tm 2000 (callKQ [] (callXL (lookF Try.lkE) (getLQ Try.ftLE) Try.ptE Try.tm 2000 60)) Try.eE26.K Try.eE26.args Try.eE26.heap Try.eE26.nx = some Try.eE26.out := by kernel_rfl
theorem Try.kE26 : EntOk Try.prog Try.eE26 := entOk_of_runL Try.tmOk Try.tmMixed Try.ftOkE Try.lkSE (l := []) .nil Try.rE26

def Try.eE27 : Ent := ⟨28, [.int .i64 0, .ref 2135 1 0 2 (some 2)],
 [(2135, .arr 9 1 true [.str [1, 5, 2, 0, 1, 0, 0, 0], .str [2, 5, 2]])], 2256,
 { d := .tuple [.agg [.int .i64 2, .imm 7 [] 9, .ref 2373 2 0 1 none], .ref 2370 5 0 1 none, .int .i64 0], vc := true, eff := [(2353, some (.arr 3 1 true [.int .i64 0, .int .i64 1])),
  (2370, some (.arr 31 5 false [.agg [.int .i64 5, .ref 2353 1 0 2 none, .int .i64 0, .str [], .str []]])),
  (2373, some (.arr 72 2 true [.agg [.int .i64 2, .int .i64 5]]))], nw := (2256, 2374), met := [2135] }⟩
theorem Try.rE27 : runFQ (getLQ Try.ftLE) Try.ptE Try.tm 2000 (callKQ [] (callXL (lookF Try.lkE) (getLQ Try.ftLE) Try.ptE Try.tm 2000 60)) Try.eE27.K Try.eE27.args Try.eE27.heap Try.eE27.nx = some Try.eE27.out := by kernel_rfl
theorem Try.kE27 : EntOk Try.prog Try.eE27 := entOk_of_runL Try.tmOk Try.tmMixed Try.ftOkE Try.lkSE (l := []) .nil Try.rE27

def Try.eE28 : Ent := ⟨25, [.ref 645 1 0 2 (some 2), .agg [.int .i64 5, .ref 647 1 0 2 (some 2), .int .i64 0, .str [], .str []]],
 [(647, .arr 3 1 true [.int .i64 0, .int .i64 1]),
  (644, .arr 9 1 true [.str [1, 9, 1, 1, 0, 0, 0], .str [1, 5, 2, 0, 1, 0, 0, 0], .str [2, 9, 1], .str [2, 5, 2]]),
  (525, .arr 9 1 true [.str [1, 5, 2, 0, 1, 0, 0, 0], .str [2, 5, 2]]),
  (645, .arr 53 1 false [.ref 525 1 0 2 (some 2), .ref 644 1 0 4 (some 4)])], 648,
 { d := .tuple [.int .i64 2, .bool true, .int .i64 0], vc := true, eff := [], nw := (648, 1060), met := [647, 644, 525, 645] }⟩
theorem Try.rE28 : runFQ (getLQ Try.ftLE) Try.ptE Try.tm 2000 (callKQ [Try.eE4, Try.eE2, Try.eE3] (callXL (lookF Try.lkE) (getLQ Try.ftLE) Try.ptE Try.tm 2000 60)) Try.eE28.K Try.eE28.args Try.eE28.heap Try.eE28.nx = some Try.eE28.out := by kernel_rfl
theorem Try.kE28 : EntOk Try.prog Try.eE28 := entOk_of_runL Try.tmOk Try.tmMixed Try.ftOkE Try.lkSE (l := [Try.eE4, Try.eE2, Try.eE3]) (.cons Try.kE4 (.cons Try.kE2 (.cons Try.kE3 .nil))) Try.rE28

def Try.eE29 : Ent := ⟨23, [.int .i64 1, .ref 179 1 0 4 (some 4)],
 [(179, .arr 9 1 true [.str [1, 9, 1, 1, 0, 0, 0], .str [1, 5, 2, 0, 1, 0, 0, 0], .str [2, 9, 1], .str [2, 5, 2]])], 181,
 { d := .tuple [.ref 464 2 0 2 none, .int .i64 0], vc := true, eff := [(464, some (.arr 72 2 true [.agg [.int .i64 1, .int .i64 9], .agg [.int .i64 2, .int .i64 5]]))], nw := (181, 465), met := [179] }⟩
theorem Try.rE29 : runFQ (getLQ Try.ftLE) Try.ptE Try.tm 2000 (callKQ [Try.eE0, Try.eE1] (callXL (lookF Try.lkE) (getLQ Try.ftLE) Try.ptE Try.tm 2000 60)) Try.eE29.K Try.eE29.args Try.eE29.heap Try.eE29.nx = some Try.eE29.out := by kernel_rfl
theorem Try.kE29 : EntOk Try.prog Try.eE29 := entOk_of_runL Try.tmOk Try.tmMixed Try.ftOkE Try.lkSE (l := [Try.eE0, Try.eE1]) (.cons Try.kE0 (.cons Try.kE1 .nil)) Try.rE29

def Try.eE30 : Ent := ⟨24, [],
 [], 0,
 { d := .ref 180 1 0 2 (some 2), vc := true, eff := [(179, some (.arr 9 1 true [.str [1, 9, 1, 1, 0, 0, 0], .str [1, 5, 2, 0, 1, 0, 0, 0], .str [2, 9, 1], .str [2, 5, 2]])),
  (60, some (.arr 9 1 true [.str [1, 5, 2, 0, 1, 0, 0, 0], .str [2, 5, 2]])),
  (180, some (.arr 53 1 false [.ref 60 1 0 2 (some 2), .ref 179 1 0 4 (some 4)]))], nw := (0, 181), met := [] }⟩
theorem Try.rE30 : runFQ (getLQ Try.ftLE) Try.ptE Try.tm 2000 (callKQ [] (callXL (lookF Try.lkE) (getLQ Try.ftLE) Try.ptE Try.tm 2000 60)) Try.eE30.K Try.eE30.args Try.eE30.heap Try.eE30.nx = some Try.eE30.out := by kernel_rfl
theorem Try.kE30 : EntOk Try.prog Try.eE30 := entOk_of_runL Try.tmOk Try.tmMixed Try.ftOkE Try.lkSE (l := []) .nil Try.rE30

def Try.eE31 : Ent := ⟨24, [],
 [], 465,
 { d := .ref 645 1 0 2 (some 2), vc := true, eff := [(644, some (.arr 9 1 true [.str [1, 9, 1, 1, 0, 0, 0], .str [1, 5, 2, 0, 1, 0, 0, 0], .str [2, 9, 1], .str [2, 5, 2]])),
  (525, some (.arr 9 1 true [.str [1, 5, 2, 0, 1, 0, 0, 0], .str [2, 5, 2]])),
  (645, some (.arr 53 1 false [.ref 525 1 0 2 (some 2), .ref 644 1 0 4 (some 4)]))], nw := (465, 646), met := [] }⟩
theorem Try.rE31 : runFQ (getLQ Try.ftLE) Try.ptE Try.tm 2000 (callKQ [] (callXL (lookF Try.lkE) (getLQ Try.ftLE) Try.ptE Try.tm 2000 60)) Try.eE31.K Try.eE31.args Try.eE31.heap Try.eE31.nx = some Try.eE31.out := by kernel_rfl
theorem Try.kE31 : EntOk Try.prog Try.eE31 := entOk_of_runL Try.tmOk Try.tmMixed Try.ftOkE Try.lkSE (l := []) .nil Try.rE31

def Try.eE32 : Ent := ⟨24, [],
 [], 1060,
 { d := .ref 1240 1 0 2 (some 2), vc := true, eff := [(1239, some (.arr 9 1 true [.str [1, 9, 1, 1, 0, 0, 0], .str [1, 5, 2, 0, 1, 0, 0, 0], .str [2, 9, 1], .str [2, 5, 2]])),
  (1120, some (.arr 9 1 true [.str [1, 5, 2, 0, 1, 0, 0, 0], .str [2, 5, 2]])),
  (1240, some (.arr 53 1 false [.ref 1120 1 0 2 (some 2), .ref 1239 1 0 4 (some 4)]))], nw := (1060, 1241), met := [] }⟩
theorem Try.rE32 : runFQ (getLQ Try.ftLE) Try.ptE Try.tm 2000 (callKQ [] (callXL (lookF Try.lkE) (getLQ Try.ftLE) Try.ptE Try.tm 2000 60)) Try.eE32.K Try.eE32.args Try.eE32.heap Try.eE32.nx = some Try.eE32.out := by kernel_rfl
theorem Try.kE32 : EntOk Try.prog Try.eE32 := entOk_of_runL Try.tmOk Try.tmMixed Try.ftOkE Try.lkSE (l := []) .nil Try.rE32

def Try.eE33 : Ent := ⟨24, [],
 [], 2075,
 { d := .ref 2255 1 0 2 (some 2), vc := true, eff := [(2254, some (.arr 9 1 true [.str [1, 9, 1, 1, 0, 0, 0], .str [1, 5, 2, 0, 1, 0, 0, 0], .str [2, 9, 1], .str [2, 5, 2]])),
  (2135, some (.arr 9 1 true [.str [1, 5, 2, 0, 1, 0, 0, 0], .str [2, 5, 2]])),
  (2255, some (.arr 53 1 false [.ref 2135 1 0 2 (some 2), .ref 2254 1 0 4 (some 4)]))], nw := (2075, 2256), met := [] }⟩
theorem Try.rE33 : runFQ (getLQ Try.ftLE) Try.ptE Try.tm 2000 (callKQ [] (callXL (lookF Try.lkE) (getLQ Try.ftLE) Try.ptE Try.tm 2000 60)) Try.eE33.K Try.eE33.args Try.eE33.heap Try.eE33.nx = some Try.eE33.out := by kernel_rfl
theorem Try.kE33 : EntOk Try.prog Try.eE33 := entOk_of_runL Try.tmOk Try.tmMixed Try.ftOkE Try.lkSE (l := []) .nil Try.rE33

def Try.eE34 : Ent := ⟨24, [],
 [], 2375,
 { d := .ref 2555 1 0 2 (some 2), vc := true, eff := [(2554, some (.arr 9 1 true [.str [1, 9, 1, 1, 0, 0, 0], .str [1, 5, 2, 0, 1, 0, 0, 0], .str [2, 9, 1], .str [2, 5, 2]])),
  (2435, some (.arr 9 1 true [.str [1, 5, 2, 0, 1, 0, 0, 0], .str [2, 5, 2]])),
  (2555, some (.arr 53 1 false [.ref 2435 1 0 2 (some 2), .ref 2554 1 0 4 (some 4)]))], nw := (2375, 2556), met := [] }⟩
theorem Try.rE34 : runFQ (getLQ Try.ftLE) Try.ptE Try.tm 2000 (callKQ [] (callXL (lookF Try.lkE) (getLQ Try.ftLE) Try.ptE Try.tm 2000 60)) Try.eE34.K Try.eE34.args Try.eE34.heap Try.eE34.nx = some Try.eE34.out := by kernel_rfl
theorem Try.kE34 : EntOk Try.prog Try.eE34 := entOk_of_runL Try.tmOk Try.tmMixed Try.ftOkE Try.lkSE (l := []) .nil Try.rE34

def Try.eE35 : Ent := ⟨24, [],
 [], 2834,
 { d := .ref 3014 1 0 2 (some 2), vc := true, eff := [(3013, some (.arr 9 1 true [.str [1, 9, 1, 1, 0, 0, 0], .str [1, 5, 2, 0, 1, 0, 0, 0], .str [2, 9, 1], .str [2, 5, 2]])),
  (2894, some (.arr 9 1 true [.str [1, 5, 2, 0, 1, 0, 0, 0], .str [2, 5, 2]])),
  (3014, some (.arr 53 1 false [.ref 2894 1 0 2 (some 2), .ref 3013 1 0 4 (some 4)]))], nw := (2834, 3015), met := [] }⟩
theorem Try.rE35 : runFQ (getLQ Try.ftLE) Try.ptE Try.tm 2000 (callKQ [] (callXL (lookF Try.lkE) (getLQ Try.ftLE) Try.ptE Try.tm 2000 60)) Try.eE35.K Try.eE35.args Try.eE35.heap Try.eE35.nx = some Try.eE35.out := by kernel_rfl
theorem Try.kE35 : EntOk Try.prog Try.eE35 := entOk_of_runL Try.tmOk Try.tmMixed Try.ftOkE Try.lkSE (l := []) .nil Try.rE35

def Try.eE36 : Ent := ⟨24, [],
 [], 3869,
 { d := .ref 4049 1 0 2 (some 2), vc := true, eff := [(4048, some (.arr 9 1 true [.str [1, 9, 1, 1, 0, 0, 0], .str [1, 5, 2, 0, 1, 0, 0, 0], .str [2, 9, 1], .str [2, 5, 2]])),
  (3929, some (.arr 9 1 true [.str [1, 5, 2, 0, 1, 0, 0, 0], .str [2, 5, 2]])),
  (4049, some (.arr 53 1 false [.ref 3929 1 0 2 (some 2), .ref 4048 1 0 4 (some 4)]))], nw := (3869, 4050), met := [] }⟩
theorem Try.rE36 : runFQ (getLQ Try.ftLE) Try.ptE Try.tm 2000 (callKQ [] (callXL (lookF Try.lkE) (getLQ Try.ftLE) Try.ptE Try.tm 2000 60)) Try.eE36.K Try.eE36.args Try.eE36.heap Try.eE36.nx = some Try.eE36.out := by kernel_rfl
theorem Try.kE36 : EntOk Try.prog Try.eE36 := entOk_of_runL Try.tmOk Try.tmMixed Try.ftOkE Try.lkSE (l := []) .nil Try.rE36

def Try.eE37 : Ent := ⟨30, [],
 [], 4184,
 { d := .bool true, vc := true, eff := [], nw := (4184, 4643), met := [] }⟩
theorem Try.rE37 : runFQ (getLQ Try.ftLE) Try.ptE Try.tm 2000 (callKQ [Try.eE26, Try.eE24, Try.eE25] (callXL (lookF Try.lkE) (getLQ Try.ftLE) Try.ptE Try.tm 2000 60)) Try.eE37.K Try.eE37.args Try.eE37.heap Try.eE37.nx = some Try.eE37.out := by kernel_rfl
theorem Try.kE37 : EntOk Try.prog Try.eE37 := entOk_of_runL Try.tmOk Try.tmMixed Try.ftOkE Try.lkSE (l := [Try.eE26, Try.eE24, Try.eE25]) (.cons Try.kE26 (.cons Try.kE24 (.cons Try.kE25 .nil))) Try.rE37

def Try.eE38 : Ent := ⟨28, [.int .i64 1, .ref 2554 1 0 4 (some 4)],
 [(2554, .arr 9 1 true [.str [1, 9, 1, 1, 0, 0, 0], .str [1, 5, 2, 0, 1, 0, 0, 0], .str [2, 9, 1], .str [2, 5, 2]])], 2556,
 { d := .tuple [.agg [.int .i64 2, .imm 7 [] 9, .ref 2832 2 0 2 none], .ref 2829 5 0 2 none, .int .i64 0], vc := true, eff := [(2812, some (.arr 3 1 true [.int .i64 0, .int .i64 1])),
  (2749, some (.arr 3 1 true [.int .i64 1])),
  (2829, some (.arr 31 5 false [.agg [.int .i64 9, .ref 2749 1 0 1 none, .int .i64 0, .str [], .str []], .agg [.int .i64 5, .ref 2812 1 0 2 none, .int .i64 0, .str [], .str []]])),
  (2832, some (.arr 72 2 true [.agg [.int .i64 1, .int .i64 9], .agg [.int .i64 2, .int .i64 5]]))], nw := (2556, 2833), met := [2554] }⟩
theorem Try.rE38 : runFQ (getLQ Try.ftLE) Try.ptE Try.tm 2000 (callKQ [Try.eE13, Try.eE14] (callXL (lookF Try.lkE) (getLQ Try.ftLE) Try.ptE Try.tm 2000 60)) Try.eE38.K Try.eE38.args Try.eE38.heap Try.eE38.nx = some Try.eE38.out := by kernel_rfl
theorem Try.kE38 : EntOk Try.prog Try.eE38 := entOk_of_runL Try.tmOk Try.tmMixed Try.ftOkE Try.lkSE (l := [Try.eE13, Try.eE14]) (.cons Try.kE13 (.cons Try.kE14 .nil)) Try.rE38

def Try.eE39 : Ent := ⟨27, [.ref 1240 1 0 2 (some 2)],
 [(1239, .arr 9 1 true [.str [1, 9, 1, 1, 0, 0, 0], .str [1, 5, 2, 0, 1, 0, 0, 0], .str [2, 9, 1], .str [2, 5, 2]]),
  (1120, .arr 9 1 true [.str [1, 5, 2, 0, 1, 0, 0, 0], .str [2, 5, 2]]),
  (1240, .arr 53 1 false [.ref 1120 1 0 2 (some 2), .ref 1239 1 0 4 (some 4)])], 1241,
 { d := .tuple [.bool true, .int .i64 0], vc := true, eff := [], nw := (1241, 2075), met := [1239, 1120, 1240] }⟩
theorem Try.rE39 : runFQ (getLQ Try.ftLE) Try.ptE Try.tm 2000 (callKQ [Try.eE11, Try.eE12, Try.eE8] (callXL (lookF Try.lkE) (getLQ Try.ftLE) Try.ptE Try.tm 2000 60)) Try.eE39.K Try.eE39.args Try.eE39.heap Try.eE39.nx = some Try.eE39.out := by kernel_rfl
theorem Try.kE39 : EntOk Try.prog Try.eE39 := entOk_of_runL Try.tmOk Try.tmMixed Try.ftOkE Try.lkSE (l := [Try.eE11, Try.eE12, Try.eE8]) (.cons Try.kE11 (.cons Try.kE12 (.cons Try.kE8 .nil))) Try.rE39

theorem Try.rEtop : saysTrue (runFQ (getLQ Try.ftLE) Try.ptE Try.tm 2000 (callKQ [Try.eE27, Try.eE28, Try.eE29, Try.eE30, Try.eE31, Try.eE32, Try.eE33, Try.eE34, Try.eE35, Try.eE36, Try.eE37, Try.eE38, Try.eE39, Try.eE21, Try.eE22, Try.eE18, Try.eE23] (callXL (lookF Try.lkE) (getLQ Try.ftLE) Try.ptE Try.tm 2000 60)) 5 [] [] 0) = true := by kernel_rfl
theorem Try.namesE : CallP Try.prog 5 [] (.bool true) := callP_knownL Try.tmOk Try.tmMixed Try.ftOkE Try.lkSE (l := [Try.eE27, Try.eE28, Try.eE29, Try.eE30, Try.eE31, Try.eE32, Try.eE33, Try.eE34, Try.eE35, Try.eE36, Try.eE37, Try.eE38, Try.eE39, Try.eE21, Try.eE22, Try.eE18, Try.eE23]) (.cons Try.kE27 (.cons Try.kE28 (.cons Try.kE29 (.cons Try.kE30 (.cons Try.kE31 (.cons Try.kE32 (.cons Try.kE33 (.cons Try.kE34 (.cons Try.kE35 (.cons Try.kE36 (.cons Try.kE37 (.cons Try.kE38 (.cons Try.kE39 (.cons Try.kE21 (.cons Try.kE22 (.cons Try.kE18 (.cons Try.kE23 .nil))))))))))))))))) Try.rEtop

end Go.Proofs

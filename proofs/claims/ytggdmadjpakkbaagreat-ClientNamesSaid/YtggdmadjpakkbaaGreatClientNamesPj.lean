/- Known calls of one closed run, each reckoned by itself; by program (genknow.py). -/
import Derived.Test.YtggdmadjpakkbaaGreatClientNamesPi
import Derived.Test.YtggdmadjpakkbaaGreatClientNamesPh
namespace Go.Proofs
open Go.Tm
set_option maxRecDepth 100000

def Tryz.eI0 : Ent := ⟨9, [.agg [.int .i64 0, .ref 51 2 0 1 none, .ref 64 15 0 1 none, .imm 0 [] 0], .int .i64 0, .agg [.int .u8 1, .int .i64 0, .ref 73 1 0 1 (some 1), .int .i64 0, .str [107], .str [], .int .i64 0, .int .i64 0, .imm 0 [] 0, .int .i64 0, .int .i64 0, .int .i64 0]],
 [(73, .arr 3 1 true [.int .i64 0]),
  (59, .arr 3 1 true [.int .i64 0]),
  (58, .arr 3 1 true [.int .i64 0]),
  (64, .arr 61 15 false [.agg [.int .i64 0, .int .i64 0, .ref 58 1 0 1 none, .ref 59 1 0 1 none, .imm 0 [] 0, .imm 0 [] 0, .int .u8 0, .int .i64 0, .imm 0 [] 0, .str [], .str [], .imm 0 [] 0, .imm 0 [] 0, .imm 0 [] 0, .int .i64 0]]),
  (49, .arr 3 1 true [.int .i64 0]),
  (48, .arr 3 1 true [.int .i64 0]),
  (51, .arr 56 2 false [.agg [.ref 48 1 0 1 none, .ref 49 1 0 1 none]])], 369,
 { d := .tuple [.agg [.int .i64 0, .ref 414 2 0 1 none, .ref 423 15 0 1 none, .imm 0 [] 0], .imm 0 [] 0, .int .i64 0], vc := true, eff := [(499, some (.arr 9 1 true [.str [1, 0, 1, 0, 0, 1, 107, 0]])),
  (476, some (.arr 3 1 true [.int .i64 0])),
  (475, some (.arr 3 1 true [.int .i64 0])),
  (423, some (.arr 61 15 false [.agg [.int .i64 0, .int .i64 0, .ref 475 1 0 1 none, .ref 476 1 0 1 none, .imm 0 [] 0, .imm 0 [] 0, .int .u8 0, .int .i64 0, .imm 0 [] 0, .str [], .str [], .imm 0 [] 0, .imm 0 [] 0, .ref 499 1 0 1 none, .int .i64 0]])),
  (412, some (.arr 3 1 true [.int .i64 0])),
  (411, some (.arr 3 1 true [.int .i64 0])),
  (414, some (.arr 56 2 false [.agg [.ref 411 1 0 1 none, .ref 412 1 0 1 none]]))], nw := (369, 501), met := [73, 59, 58, 64, 49, 48, 51] }⟩
theorem Tryz.rI0 : runFQ (getLQ Tryz.ftLI) Tryz.ptI Tryz.tm 2000 (callN (callKQ [] noCall) (getLQ Tryz.ftLI) Tryz.ptI Tryz.tm 2000 60) Tryz.eI0.K Tryz.eI0.args Tryz.eI0.heap Tryz.eI0.nx = some Tryz.eI0.out := by kernel_rfl
theorem Tryz.kI0 : EntOk Tryz.prog Tryz.eI0 := entOk_of_runN Tryz.tmOk Tryz.tmMixed Tryz.ftOkI (l := []) .nil Tryz.rI0

def Tryz.eI1 : Ent := ⟨56, [.agg [.ref 38 2 0 1 none, .ref 68 8 0 1 none, .imm 0 [] 0]],
 [(59, .arr 3 1 true [.int .i64 0]),
  (58, .arr 3 1 true [.int .i64 0]),
  (64, .arr 61 15 false [.agg [.int .i64 0, .int .i64 0, .ref 58 1 0 1 none, .ref 59 1 0 1 none, .imm 0 [] 0, .imm 0 [] 0, .int .u8 0, .int .i64 0, .imm 0 [] 0, .str [], .str [], .imm 0 [] 0, .imm 0 [] 0, .imm 0 [] 0, .int .i64 0]]),
  (49, .arr 3 1 true [.int .i64 0]),
  (48, .arr 3 1 true [.int .i64 0]),
  (51, .arr 56 2 false [.agg [.ref 48 1 0 1 none, .ref 49 1 0 1 none]]),
  (68, .arr 132 8 false [.agg [.bool true, .int .i64 0, .ref 51 2 0 1 none, .ref 64 15 0 1 none, .imm 0 [] 0, .imm 0 [] 0, .imm 0 [] 0, .imm 0 [] 0]]),
  (36, .arr 3 1 true [.int .i64 0]),
  (35, .arr 3 1 true [.int .i64 0]),
  (38, .arr 56 2 false [.agg [.ref 35 1 0 1 none, .ref 36 1 0 1 none]])], 194,
 { d := .int .i64 0, vc := true, eff := [], nw := (194, 292), met := [59, 58, 64, 49, 48, 51, 68, 36, 35, 38] }⟩
theorem Tryz.rI1 : runFQ (getLQ Tryz.ftLI) Tryz.ptI Tryz.tm 2000 (callN (callKQ [] noCall) (getLQ Tryz.ftLI) Tryz.ptI Tryz.tm 2000 60) Tryz.eI1.K Tryz.eI1.args Tryz.eI1.heap Tryz.eI1.nx = some Tryz.eI1.out := by kernel_rfl
theorem Tryz.kI1 : EntOk Tryz.prog Tryz.eI1 := entOk_of_runN Tryz.tmOk Tryz.tmMixed Tryz.ftOkI (l := []) .nil Tryz.rI1

def Tryz.eI2 : Ent := ⟨80, [.agg [.ref 38 2 0 1 none, .ref 68 8 0 1 none, .imm 0 [] 0, .ref 70 1 0 1 (some 1)], .int .i64 0],
 [(70, .arr 3 1 true [.int .i64 0]),
  (59, .arr 3 1 true [.int .i64 0]),
  (58, .arr 3 1 true [.int .i64 0]),
  (64, .arr 61 15 false [.agg [.int .i64 0, .int .i64 0, .ref 58 1 0 1 none, .ref 59 1 0 1 none, .imm 0 [] 0, .imm 0 [] 0, .int .u8 0, .int .i64 0, .imm 0 [] 0, .str [], .str [], .imm 0 [] 0, .imm 0 [] 0, .imm 0 [] 0, .int .i64 0]]),
  (49, .arr 3 1 true [.int .i64 0]),
  (48, .arr 3 1 true [.int .i64 0]),
  (51, .arr 56 2 false [.agg [.ref 48 1 0 1 none, .ref 49 1 0 1 none]]),
  (68, .arr 132 8 false [.agg [.bool true, .int .i64 0, .ref 51 2 0 1 none, .ref 64 15 0 1 none, .imm 0 [] 0, .imm 0 [] 0, .imm 0 [] 0, .imm 0 [] 0]]),
  (36, .arr 3 1 true [.int .i64 0]),
  (35, .arr 3 1 true [.int .i64 0]),
  (38, .arr 56 2 false [.agg [.ref 35 1 0 1 none, .ref 36 1 0 1 none]])], 84,
 { d := .tuple [.int .i64 0, .fn (.func 152) [.ptr 85 0], .int .i64 0], vc := true, eff := [(85, some (.box [.int .i64 0]))], nw := (84, 185), met := [70, 59, 58, 64, 49, 48, 51, 68, 36, 35, 38] }⟩
theorem Tryz.rI2 : runFQ (getLQ Tryz.ftLI) Tryz.ptI Tryz.tm 2000 (callN (callKQ [] noCall) (getLQ Tryz.ftLI) Tryz.ptI Tryz.tm 2000 60) Tryz.eI2.K Tryz.eI2.args Tryz.eI2.heap Tryz.eI2.nx = some Tryz.eI2.out := by kernel_rfl
theorem Tryz.kI2 : EntOk Tryz.prog Tryz.eI2 := entOk_of_runN Tryz.tmOk Tryz.tmMixed Tryz.ftOkI (l := []) .nil Tryz.rI2

def Tryz.eI3 : Ent := ⟨43, [.ptr 972 0, .int .i64 0, .agg [.int .u8 1, .int .i64 1, .ref 75 1 0 1 (some 1), .int .i64 0, .str [107], .str [], .int .i64 0, .int .i64 0, .imm 0 [] 0, .int .i64 0, .int .i64 0, .int .i64 0]],
 [(75, .arr 3 1 true [.int .i64 0]),
  (967, .arr 9 1 true [.str [1, 0, 1, 0, 0, 1, 107, 0]]),
  (966, .arr 3 1 true [.int .i64 0]),
  (965, .arr 3 1 true [.int .i64 0]),
  (971, .arr 61 15 false [.agg [.int .i64 0, .int .i64 0, .ref 965 1 0 1 none, .ref 966 1 0 1 none, .imm 0 [] 0, .imm 0 [] 0, .int .u8 0, .int .i64 0, .imm 0 [] 0, .str [], .str [], .imm 0 [] 0, .imm 0 [] 0, .ref 967 1 0 1 none, .int .i64 0]]),
  (959, .arr 3 1 true [.int .i64 0]),
  (958, .arr 3 1 true [.int .i64 0]),
  (961, .arr 56 2 false [.agg [.ref 958 1 0 1 none, .ref 959 1 0 1 none]]),
  (972, .box [.int .i64 0, .ref 961 2 0 1 none, .ref 971 15 0 1 none, .imm 0 [] 0, .imm 0 [] 0, .imm 0 [] 0])], 973,
 { d := .int .i64 0, vc := true, eff := [(971, some (.arr 61 15 false [.agg [.int .i64 0, .int .i64 0, .ref 1041 1 0 1 none, .ref 1042 1 0 1 none, .imm 0 [] 0, .imm 0 [] 0, .int .u8 0, .int .i64 0, .imm 0 [] 0, .str [], .str [], .imm 0 [] 0, .imm 0 [] 0, .ref 1066 1 0 2 none, .int .i64 0]])),
  (1066, some (.arr 9 1 true [.str [1, 0, 1, 0, 0, 1, 107, 0], .str [1, 1, 1, 0, 0, 1, 107, 0]])),
  (1042, some (.arr 3 1 true [.int .i64 0])),
  (1041, some (.arr 3 1 true [.int .i64 0]))], nw := (973, 1068), met := [75, 967, 966, 965, 971, 959, 958, 961, 972] }⟩
theorem Tryz.rI3 : runFQ (getLQ Tryz.ftLI) Tryz.ptI Tryz.tm 2000 (callN (callKQ [] noCall) (getLQ Tryz.ftLI) Tryz.ptI Tryz.tm 2000 60) Tryz.eI3.K Tryz.eI3.args Tryz.eI3.heap Tryz.eI3.nx = some Tryz.eI3.out := by kernel_rfl
theorem Tryz.kI3 : EntOk Tryz.prog Tryz.eI3 := entOk_of_runN Tryz.tmOk Tryz.tmMixed Tryz.ftOkI (l := []) .nil Tryz.rI3

def Tryz.eI4 : Ent := ⟨131, [.agg [.bool true, .int .i64 0, .ref 414 2 0 1 none, .ref 423 15 0 1 none, .imm 0 [] 0, .imm 1 [] 0, .imm 0 [] 0, .imm 10 [] 0], .bool true],
 [(499, .arr 9 1 true [.str [1, 0, 1, 0, 0, 1, 107, 0]]),
  (476, .arr 3 1 true [.int .i64 0]),
  (475, .arr 3 1 true [.int .i64 0]),
  (423, .arr 61 15 false [.agg [.int .i64 0, .int .i64 0, .ref 475 1 0 1 none, .ref 476 1 0 1 none, .imm 0 [] 0, .imm 0 [] 0, .int .u8 0, .int .i64 0, .imm 0 [] 0, .str [], .str [], .imm 0 [] 0, .imm 0 [] 0, .ref 499 1 0 1 none, .int .i64 0]]),
  (412, .arr 3 1 true [.int .i64 0]),
  (411, .arr 3 1 true [.int .i64 0]),
  (414, .arr 56 2 false [.agg [.ref 411 1 0 1 none, .ref 412 1 0 1 none]])], 813,
 { d := .int .i64 0, vc := true, eff := [], nw := (813, 896), met := [499, 476, 475, 423, 412, 411, 414] }⟩
theorem Tryz.rI4 : runFQ (getLQ Tryz.ftLI) Tryz.ptI Tryz.tm 2000 (callN (callKQ [] noCall) (getLQ Tryz.ftLI) Tryz.ptI Tryz.tm 2000 60) Tryz.eI4.K Tryz.eI4.args Tryz.eI4.heap Tryz.eI4.nx = some Tryz.eI4.out := by kernel_rfl
theorem Tryz.kI4 : EntOk Tryz.prog Tryz.eI4 := entOk_of_runN Tryz.tmOk Tryz.tmMixed Tryz.ftOkI (l := []) .nil Tryz.rI4

def Tryz.eI5 : Ent := ⟨56, [.agg [.ref 520 2 0 1 none, .ref 544 8 0 1 none, .imm 0 [] 0]],
 [(499, .arr 9 1 true [.str [1, 0, 1, 0, 0, 1, 107, 0]]),
  (476, .arr 3 1 true [.int .i64 0]),
  (475, .arr 3 1 true [.int .i64 0]),
  (423, .arr 61 15 false [.agg [.int .i64 0, .int .i64 0, .ref 475 1 0 1 none, .ref 476 1 0 1 none, .imm 0 [] 0, .imm 0 [] 0, .int .u8 0, .int .i64 0, .imm 0 [] 0, .str [], .str [], .imm 0 [] 0, .imm 0 [] 0, .ref 499 1 0 1 none, .int .i64 0]]),
  (412, .arr 3 1 true [.int .i64 0]),
  (411, .arr 3 1 true [.int .i64 0]),
  (414, .arr 56 2 false [.agg [.ref 411 1 0 1 none, .ref 412 1 0 1 none]]),
  (544, .arr 132 8 false [.agg [.bool true, .int .i64 0, .ref 414 2 0 1 none, .ref 423 15 0 1 none, .imm 0 [] 0, .imm 1 [] 0, .imm 0 [] 0, .imm 10 [] 0]]),
  (518, .arr 3 1 true [.int .i64 0]),
  (517, .arr 3 1 true [.int .i64 0]),
  (520, .arr 56 2 false [.agg [.ref 517 1 0 1 none, .ref 518 1 0 1 none]])], 687,
 { d := .int .i64 0, vc := true, eff := [], nw := (687, 803), met := [499, 476, 475, 423, 412, 411, 414, 544, 518, 517, 520] }⟩
theorem Tryz.rI5 : runFQ (getLQ Tryz.ftLI) Tryz.ptI Tryz.tm 2000 (callN (callKQ [] noCall) (getLQ Tryz.ftLI) Tryz.ptI Tryz.tm 2000 60) Tryz.eI5.K Tryz.eI5.args Tryz.eI5.heap Tryz.eI5.nx = some Tryz.eI5.out := by kernel_rfl
theorem Tryz.kI5 : EntOk Tryz.prog Tryz.eI5 := entOk_of_runN Tryz.tmOk Tryz.tmMixed Tryz.ftOkI (l := []) .nil Tryz.rI5

def Tryz.eI6 : Ent := ⟨80, [.agg [.ref 520 2 0 1 none, .ref 544 8 0 1 none, .imm 0 [] 0, .ref 189 1 0 1 none], .int .i64 0],
 [(189, .arr 3 1 true [.int .i64 1]),
  (499, .arr 9 1 true [.str [1, 0, 1, 0, 0, 1, 107, 0]]),
  (476, .arr 3 1 true [.int .i64 0]),
  (475, .arr 3 1 true [.int .i64 0]),
  (423, .arr 61 15 false [.agg [.int .i64 0, .int .i64 0, .ref 475 1 0 1 none, .ref 476 1 0 1 none, .imm 0 [] 0, .imm 0 [] 0, .int .u8 0, .int .i64 0, .imm 0 [] 0, .str [], .str [], .imm 0 [] 0, .imm 0 [] 0, .ref 499 1 0 1 none, .int .i64 0]]),
  (412, .arr 3 1 true [.int .i64 0]),
  (411, .arr 3 1 true [.int .i64 0]),
  (414, .arr 56 2 false [.agg [.ref 411 1 0 1 none, .ref 412 1 0 1 none]]),
  (544, .arr 132 8 false [.agg [.bool true, .int .i64 0, .ref 414 2 0 1 none, .ref 423 15 0 1 none, .imm 0 [] 0, .imm 1 [] 0, .imm 0 [] 0, .imm 10 [] 0]]),
  (518, .arr 3 1 true [.int .i64 0]),
  (517, .arr 3 1 true [.int .i64 0]),
  (520, .arr 56 2 false [.agg [.ref 517 1 0 1 none, .ref 518 1 0 1 none]])], 559,
 { d := .tuple [.int .i64 1, .fn (.func 152) [.ptr 560 0], .int .i64 0], vc := true, eff := [(560, some (.box [.int .i64 0]))], nw := (559, 678), met := [189, 499, 476, 475, 423, 412, 411, 414, 544, 518, 517, 520] }⟩
theorem Tryz.rI6 : runFQ (getLQ Tryz.ftLI) Tryz.ptI Tryz.tm 2000 (callN (callKQ [] noCall) (getLQ Tryz.ftLI) Tryz.ptI Tryz.tm 2000 60) Tryz.eI6.K Tryz.eI6.args Tryz.eI6.heap Tryz.eI6.nx = some Tryz.eI6.out := by kernel_rfl
theorem Tryz.kI6 : EntOk Tryz.prog Tryz.eI6 := entOk_of_runN Tryz.tmOk Tryz.tmMixed Tryz.ftOkI (l := []) .nil Tryz.rI6

def Tryz.eI7 : Ent := ⟨34, [.agg [.ref 520 2 0 1 none, .ref 544 8 0 1 none, .imm 0 [] 0, .ref 189 1 0 1 none], .int .i64 0, .agg [.int .i64 0, .ref 75 1 0 1 (some 1), .int .i64 0, .str [107], .str []]],
 [(75, .arr 3 1 true [.int .i64 0]),
  (189, .arr 3 1 true [.int .i64 1]),
  (499, .arr 9 1 true [.str [1, 0, 1, 0, 0, 1, 107, 0]]),
  (476, .arr 3 1 true [.int .i64 0]),
  (475, .arr 3 1 true [.int .i64 0]),
  (423, .arr 61 15 false [.agg [.int .i64 0, .int .i64 0, .ref 475 1 0 1 none, .ref 476 1 0 1 none, .imm 0 [] 0, .imm 0 [] 0, .int .u8 0, .int .i64 0, .imm 0 [] 0, .str [], .str [], .imm 0 [] 0, .imm 0 [] 0, .ref 499 1 0 1 none, .int .i64 0]]),
  (412, .arr 3 1 true [.int .i64 0]),
  (411, .arr 3 1 true [.int .i64 0]),
  (414, .arr 56 2 false [.agg [.ref 411 1 0 1 none, .ref 412 1 0 1 none]]),
  (544, .arr 132 8 false [.agg [.bool true, .int .i64 0, .ref 414 2 0 1 none, .ref 423 15 0 1 none, .imm 0 [] 0, .imm 1 [] 0, .imm 0 [] 0, .imm 10 [] 0]]),
  (518, .arr 3 1 true [.int .i64 0]),
  (517, .arr 3 1 true [.int .i64 0]),
  (520, .arr 56 2 false [.agg [.ref 517 1 0 1 none, .ref 518 1 0 1 none]])], 556,
 { d := .tuple [.agg [.ref 1087 2 0 1 none, .ref 1112 8 0 1 none, .imm 0 [] 0, .ref 682 1 0 1 none], .int .i64 1, .int .i64 0], vc := true, eff := [(682, some (.arr 3 1 true [.int .i64 2])),
  (1066, some (.arr 9 1 true [.str [1, 0, 1, 0, 0, 1, 107, 0], .str [1, 1, 1, 0, 0, 1, 107, 0]])),
  (1042, some (.arr 3 1 true [.int .i64 0])),
  (1041, some (.arr 3 1 true [.int .i64 0])),
  (971, some (.arr 61 15 false [.agg [.int .i64 0, .int .i64 0, .ref 1041 1 0 1 none, .ref 1042 1 0 1 none, .imm 0 [] 0, .imm 0 [] 0, .int .u8 0, .int .i64 0, .imm 0 [] 0, .str [], .str [], .imm 0 [] 0, .imm 0 [] 0, .ref 1066 1 0 2 none, .int .i64 0]])),
  (959, some (.arr 3 1 true [.int .i64 0])),
  (958, some (.arr 3 1 true [.int .i64 0])),
  (961, some (.arr 56 2 false [.agg [.ref 958 1 0 1 none, .ref 959 1 0 1 none]])),
  (1112, some (.arr 132 8 false [.agg [.bool true, .int .i64 0, .ref 961 2 0 1 none, .ref 971 15 0 1 none, .imm 0 [] 0, .imm 1 [] 0, .imm 0 [] 0, .imm 10 [] 0]])),
  (1085, some (.arr 3 1 true [.int .i64 0])),
  (1084, some (.arr 3 1 true [.int .i64 0])),
  (1087, some (.arr 56 2 false [.agg [.ref 1084 1 0 1 none, .ref 1085 1 0 1 none]]))], nw := (556, 1117), met := [75, 189, 499, 476, 475, 423, 412, 411, 414, 544, 518, 517, 520] }⟩
theorem Tryz.rI7 : runFQ (getLQ Tryz.ftLI) Tryz.ptI Tryz.tm 2000 (callN (callKQ [Tryz.eI6, Tryz.eI5, Tryz.eI4, Tryz.eI3] noCall) (getLQ Tryz.ftLI) Tryz.ptI Tryz.tm 2000 60) Tryz.eI7.K Tryz.eI7.args Tryz.eI7.heap Tryz.eI7.nx = some Tryz.eI7.out := by kernel_rfl
theorem Tryz.kI7 : EntOk Tryz.prog Tryz.eI7 := entOk_of_runN Tryz.tmOk Tryz.tmMixed Tryz.ftOkI (l := [Tryz.eI6, Tryz.eI5, Tryz.eI4, Tryz.eI3]) (.cons Tryz.kI6 (.cons Tryz.kI5 (.cons Tryz.kI4 (.cons Tryz.kI3 .nil)))) Tryz.rI7

def Tryz.eI8 : Ent := ⟨120, [.agg [.bool true, .int .i64 0, .ref 961 2 0 1 none, .ref 971 15 0 1 none, .imm 0 [] 0, .imm 1 [] 0, .imm 0 [] 0, .imm 10 [] 0]],
 [(1066, .arr 9 1 true [.str [1, 0, 1, 0, 0, 1, 107, 0], .str [1, 1, 1, 0, 0, 1, 107, 0]]),
  (1042, .arr 3 1 true [.int .i64 0]),
  (1041, .arr 3 1 true [.int .i64 0]),
  (971, .arr 61 15 false [.agg [.int .i64 0, .int .i64 0, .ref 1041 1 0 1 none, .ref 1042 1 0 1 none, .imm 0 [] 0, .imm 0 [] 0, .int .u8 0, .int .i64 0, .imm 0 [] 0, .str [], .str [], .imm 0 [] 0, .imm 0 [] 0, .ref 1066 1 0 2 none, .int .i64 0]]),
  (959, .arr 3 1 true [.int .i64 0]),
  (958, .arr 3 1 true [.int .i64 0]),
  (961, .arr 56 2 false [.agg [.ref 958 1 0 1 none, .ref 959 1 0 1 none]])], 1157,
 { d := .int .i64 0, vc := true, eff := [], nw := (1157, 1257), met := [1066, 1042, 1041, 971, 959, 958, 961] }⟩
theorem Tryz.rI8 : runFQ (getLQ Tryz.ftLI) Tryz.ptI Tryz.tm 2000 (callN (callKQ [] noCall) (getLQ Tryz.ftLI) Tryz.ptI Tryz.tm 2000 60) Tryz.eI8.K Tryz.eI8.args Tryz.eI8.heap Tryz.eI8.nx = some Tryz.eI8.out := by kernel_rfl
theorem Tryz.kI8 : EntOk Tryz.prog Tryz.eI8 := entOk_of_runN Tryz.tmOk Tryz.tmMixed Tryz.ftOkI (l := []) .nil Tryz.rI8

def Tryz.eI9 : Ent := ⟨131, [.agg [.bool true, .int .i64 0, .ref 961 2 0 1 none, .ref 971 15 0 1 none, .imm 0 [] 0, .imm 1 [] 0, .imm 0 [] 0, .imm 10 [] 0], .bool true],
 [(1066, .arr 9 1 true [.str [1, 0, 1, 0, 0, 1, 107, 0], .str [1, 1, 1, 0, 0, 1, 107, 0]]),
  (1042, .arr 3 1 true [.int .i64 0]),
  (1041, .arr 3 1 true [.int .i64 0]),
  (971, .arr 61 15 false [.agg [.int .i64 0, .int .i64 0, .ref 1041 1 0 1 none, .ref 1042 1 0 1 none, .imm 0 [] 0, .imm 0 [] 0, .int .u8 0, .int .i64 0, .imm 0 [] 0, .str [], .str [], .imm 0 [] 0, .imm 0 [] 0, .ref 1066 1 0 2 none, .int .i64 0]]),
  (959, .arr 3 1 true [.int .i64 0]),
  (958, .arr 3 1 true [.int .i64 0]),
  (961, .arr 56 2 false [.agg [.ref 958 1 0 1 none, .ref 959 1 0 1 none]])], 1264,
 { d := .int .i64 0, vc := true, eff := [], nw := (1264, 1365), met := [1066, 1042, 1041, 971, 959, 958, 961] }⟩
theorem Tryz.rI9 : runFQ (getLQ Tryz.ftLI) Tryz.ptI Tryz.tm 2000 (callN (callKQ [] noCall) (getLQ Tryz.ftLI) Tryz.ptI Tryz.tm 2000 60) Tryz.eI9.K Tryz.eI9.args Tryz.eI9.heap Tryz.eI9.nx = some Tryz.eI9.out := by kernel_rfl
theorem Tryz.kI9 : EntOk Tryz.prog Tryz.eI9 := entOk_of_runN Tryz.tmOk Tryz.tmMixed Tryz.ftOkI (l := []) .nil Tryz.rI9

def Tryz.eI10 : Ent := ⟨64, [.agg [.bool false, .int .i64 0, .imm 0 [] 0, .imm 0 [] 0, .imm 0 [] 0, .imm 0 [] 0, .imm 0 [] 0, .imm 0 [] 0], .ref 1087 2 0 1 none],
 [(1085, .arr 3 1 true [.int .i64 0]),
  (1084, .arr 3 1 true [.int .i64 0]),
  (1087, .arr 56 2 false [.agg [.ref 1084 1 0 1 none, .ref 1085 1 0 1 none]])], 1370,
 { d := .tuple [.agg [.bool true, .int .i64 0, .ref 1444 2 0 1 none, .ref 1457 15 0 1 none, .imm 0 [] 0, .imm 1 [] 0, .imm 0 [] 0, .imm 0 [] 0], .int .i64 0], vc := true, eff := [(1452, some (.arr 3 1 true [.int .i64 0])),
  (1451, some (.arr 3 1 true [.int .i64 0])),
  (1457, some (.arr 61 15 false [.agg [.int .i64 0, .int .i64 0, .ref 1451 1 0 1 none, .ref 1452 1 0 1 none, .imm 0 [] 0, .imm 0 [] 0, .int .u8 0, .int .i64 0, .imm 0 [] 0, .str [], .str [], .imm 0 [] 0, .imm 0 [] 0, .imm 0 [] 0, .int .i64 0]])),
  (1442, some (.arr 3 1 true [.int .i64 0])),
  (1441, some (.arr 3 1 true [.int .i64 0])),
  (1444, some (.arr 56 2 false [.agg [.ref 1441 1 0 1 none, .ref 1442 1 0 1 none]]))], nw := (1370, 1487), met := [1085, 1084, 1087] }⟩
theorem Tryz.rI10 : runFQ (getLQ Tryz.ftLI) Tryz.ptI Tryz.tm 2000 (callN (callKQ [] noCall) (getLQ Tryz.ftLI) Tryz.ptI Tryz.tm 2000 60) Tryz.eI10.K Tryz.eI10.args Tryz.eI10.heap Tryz.eI10.nx = some Tryz.eI10.out := by kernel_rfl
theorem Tryz.kI10 : EntOk Tryz.prog Tryz.eI10 := entOk_of_runN Tryz.tmOk Tryz.tmMixed Tryz.ftOkI (l := []) .nil Tryz.rI10

def Tryz.eI11 : Ent := ⟨120, [.agg [.bool true, .int .i64 0, .ref 961 2 0 1 none, .ref 971 15 0 1 none, .imm 0 [] 0, .imm 1 [] 0, .imm 0 [] 0, .imm 10 [] 0]],
 [(1066, .arr 9 1 true [.str [1, 0, 1, 0, 0, 1, 107, 0], .str [1, 1, 1, 0, 0, 1, 107, 0]]),
  (1042, .arr 3 1 true [.int .i64 0]),
  (1041, .arr 3 1 true [.int .i64 0]),
  (971, .arr 61 15 false [.agg [.int .i64 0, .int .i64 0, .ref 1041 1 0 1 none, .ref 1042 1 0 1 none, .imm 0 [] 0, .imm 0 [] 0, .int .u8 0, .int .i64 0, .imm 0 [] 0, .str [], .str [], .imm 0 [] 0, .imm 0 [] 0, .ref 1066 1 0 2 none, .int .i64 0]]),
  (959, .arr 3 1 true [.int .i64 0]),
  (958, .arr 3 1 true [.int .i64 0]),
  (961, .arr 56 2 false [.agg [.ref 958 1 0 1 none, .ref 959 1 0 1 none]])], 1529,
 { d := .int .i64 0, vc := true, eff := [], nw := (1529, 1629), met := [1066, 1042, 1041, 971, 959, 958, 961] }⟩
theorem Tryz.rI11 : runFQ (getLQ Tryz.ftLI) Tryz.ptI Tryz.tm 2000 (callN (callKQ [] noCall) (getLQ Tryz.ftLI) Tryz.ptI Tryz.tm 2000 60) Tryz.eI11.K Tryz.eI11.args Tryz.eI11.heap Tryz.eI11.nx = some Tryz.eI11.out := by kernel_rfl
theorem Tryz.kI11 : EntOk Tryz.prog Tryz.eI11 := entOk_of_runN Tryz.tmOk Tryz.tmMixed Tryz.ftOkI (l := []) .nil Tryz.rI11

def Tryz.eI12 : Ent := ⟨120, [.agg [.bool true, .int .i64 0, .ref 961 2 0 1 none, .ref 971 15 0 1 none, .imm 0 [] 0, .imm 1 [] 0, .imm 0 [] 0, .imm 10 [] 0]],
 [(1066, .arr 9 1 true [.str [1, 0, 1, 0, 0, 1, 107, 0], .str [1, 1, 1, 0, 0, 1, 107, 0]]),
  (1042, .arr 3 1 true [.int .i64 0]),
  (1041, .arr 3 1 true [.int .i64 0]),
  (971, .arr 61 15 false [.agg [.int .i64 0, .int .i64 0, .ref 1041 1 0 1 none, .ref 1042 1 0 1 none, .imm 0 [] 0, .imm 0 [] 0, .int .u8 0, .int .i64 0, .imm 0 [] 0, .str [], .str [], .imm 0 [] 0, .imm 0 [] 0, .ref 1066 1 0 2 none, .int .i64 0]]),
  (959, .arr 3 1 true [.int .i64 0]),
  (958, .arr 3 1 true [.int .i64 0]),
  (961, .arr 56 2 false [.agg [.ref 958 1 0 1 none, .ref 959 1 0 1 none]])], 1666,
 { d := .int .i64 0, vc := true, eff := [], nw := (1666, 1766), met := [1066, 1042, 1041, 971, 959, 958, 961] }⟩
theorem Tryz.rI12 : runFQ (getLQ Tryz.ftLI) Tryz.ptI Tryz.tm 2000 (callN (callKQ [] noCall) (getLQ Tryz.ftLI) Tryz.ptI Tryz.tm 2000 60) Tryz.eI12.K Tryz.eI12.args Tryz.eI12.heap Tryz.eI12.nx = some Tryz.eI12.out := by kernel_rfl
theorem Tryz.kI12 : EntOk Tryz.prog Tryz.eI12 := entOk_of_runN Tryz.tmOk Tryz.tmMixed Tryz.ftOkI (l := []) .nil Tryz.rI12

def Tryz.eI13 : Ent := ⟨231, [.agg [.ref 2017 1 0 1 none, .ref 2018 1 0 1 none], .imm 0 [] 0],
 [(2018, .arr 3 1 true [.int .i64 0]),
  (2017, .arr 3 1 true [.int .i64 0])], 2023,
 { d := .tuple [.ref 2028 1 0 1 none, .int .i64 0], vc := true, eff := [(2028, some (.arr 3 1 true [.int .i64 0]))], nw := (2023, 2029), met := [2018, 2017] }⟩
theorem Tryz.rI13 : runFI (getL Tryz.frLI) (getL Tryz.fyLI) Tryz.ptI Tryz.tm 2000 (callN (callKQ [] noCall) (getLQ Tryz.ftLI) Tryz.ptI Tryz.tm 2000 60) Tryz.eI13.K Tryz.eI13.args Tryz.eI13.heap Tryz.eI13.nx = some Tryz.eI13.out := by kernel_rfl
theorem Tryz.kI13 : EntOk Tryz.prog Tryz.eI13 := entOk_of_runNI Tryz.tmOk Tryz.tmMixed Tryz.ftOkI Tryz.frOkI Tryz.fyOkI (l := []) .nil Tryz.rI13

def Tryz.eI14 : Ent := ⟨112, [.ptr 2022 0],
 [(2019, .arr 9 1 true [.str [1, 0, 1, 0, 0, 1, 107, 0], .str [1, 1, 1, 0, 0, 1, 107, 0]]),
  (2018, .arr 3 1 true [.int .i64 0]),
  (2017, .arr 3 1 true [.int .i64 0]),
  (2022, .box [.int .i64 0, .int .i64 0, .ref 2017 1 0 1 none, .ref 2018 1 0 1 none, .imm 0 [] 0, .imm 0 [] 0, .int .u8 0, .int .i64 0, .imm 0 [] 0, .str [], .str [], .imm 0 [] 0, .imm 0 [] 0, .ref 2019 1 0 2 none, .int .i64 0, .imm 0 [] 0, .imm 0 [] 0])], 2023,
 { d := .tuple [], vc := true, eff := [(2019, some (.arr 9 1 true [.str [1, 1, 1, 0, 0, 1, 107, 0], .str []])),
  (2022, some (.box [.int .i64 0, .int .i64 0, .ref 2017 1 0 1 none, .ref 2018 1 0 1 none, .ref 2111 1 0 1 none, .ref 2042 5 0 0 none, .int .u8 0, .int .i64 0, .imm 0 [] 0, .str [], .str [], .imm 0 [] 0, .imm 0 [] 0, .ref 2019 1 0 1 none, .int .i64 0, .ref 2105 5 0 3 none, .imm 0 [] 0])),
  (2105, some (.arr 287 5 true [.agg [.int .u8 1, .int .i64 0, .int .i64 1, .int .i64 8, .str []], .agg [.int .u8 2, .int .i64 0, .int .i64 1, .int .i64 8, .str [1, 0, 1, 0, 0, 1, 107, 0]], .agg [.int .u8 3, .int .i64 0, .int .i64 1, .int .i64 0, .str [1, 0, 1, 0, 0, 1, 107, 0]]])),
  (2042, some (.arr 119 5 true [.agg [.int .i64 0, .int .i64 0, .int .i64 0, .int .i64 0, .str []]])),
  (2111, some (.arr 9 1 true [.str [1, 0, 1, 0, 0, 1, 107, 0]]))], nw := (2023, 2113), met := [2019, 2018, 2017, 2022] }⟩
theorem Tryz.rI14 : runFQ (getLQ Tryz.ftLI) Tryz.ptI Tryz.tm 2000 (callN (callKQ [Tryz.eI13] noCall) (getLQ Tryz.ftLI) Tryz.ptI Tryz.tm 2000 60) Tryz.eI14.K Tryz.eI14.args Tryz.eI14.heap Tryz.eI14.nx = some Tryz.eI14.out := by kernel_rfl
theorem Tryz.kI14 : EntOk Tryz.prog Tryz.eI14 := entOk_of_runN Tryz.tmOk Tryz.tmMixed Tryz.ftOkI (l := [Tryz.eI13]) (.cons Tryz.kI13 .nil) Tryz.rI14

def Tryz.eI15 : Ent := ⟨41, [.agg [.int .i64 0, .ref 961 2 0 1 none, .ref 971 15 0 1 none, .imm 0 [] 0]],
 [(1066, .arr 9 1 true [.str [1, 0, 1, 0, 0, 1, 107, 0], .str [1, 1, 1, 0, 0, 1, 107, 0]]),
  (1042, .arr 3 1 true [.int .i64 0]),
  (1041, .arr 3 1 true [.int .i64 0]),
  (971, .arr 61 15 false [.agg [.int .i64 0, .int .i64 0, .ref 1041 1 0 1 none, .ref 1042 1 0 1 none, .imm 0 [] 0, .imm 0 [] 0, .int .u8 0, .int .i64 0, .imm 0 [] 0, .str [], .str [], .imm 0 [] 0, .imm 0 [] 0, .ref 1066 1 0 2 none, .int .i64 0]]),
  (959, .arr 3 1 true [.int .i64 0]),
  (958, .arr 3 1 true [.int .i64 0]),
  (961, .arr 56 2 false [.agg [.ref 958 1 0 1 none, .ref 959 1 0 1 none]])], 1879,
 { d := .int .i64 0, vc := true, eff := [], nw := (1879, 1940), met := [1066, 1042, 1041, 971, 959, 958, 961] }⟩
theorem Tryz.rI15 : runFQ (getLQ Tryz.ftLI) Tryz.ptI Tryz.tm 2000 (callN (callKQ [] noCall) (getLQ Tryz.ftLI) Tryz.ptI Tryz.tm 2000 60) Tryz.eI15.K Tryz.eI15.args Tryz.eI15.heap Tryz.eI15.nx = some Tryz.eI15.out := by kernel_rfl
theorem Tryz.kI15 : EntOk Tryz.prog Tryz.eI15 := entOk_of_runN Tryz.tmOk Tryz.tmMixed Tryz.ftOkI (l := []) .nil Tryz.rI15

def Tryz.eI16 : Ent := ⟨50, [.ptr 1958 0, .int .i64 0, .fn (.func 51) []],
 [(1953, .arr 9 1 true [.str [1, 0, 1, 0, 0, 1, 107, 0], .str [1, 1, 1, 0, 0, 1, 107, 0]]),
  (1952, .arr 3 1 true [.int .i64 0]),
  (1951, .arr 3 1 true [.int .i64 0]),
  (1957, .arr 61 15 false [.agg [.int .i64 0, .int .i64 0, .ref 1951 1 0 1 none, .ref 1952 1 0 1 none, .imm 0 [] 0, .imm 0 [] 0, .int .u8 0, .int .i64 0, .imm 0 [] 0, .str [], .str [], .imm 0 [] 0, .imm 0 [] 0, .ref 1953 1 0 2 none, .int .i64 0]]),
  (1945, .arr 3 1 true [.int .i64 0]),
  (1944, .arr 3 1 true [.int .i64 0]),
  (1947, .arr 56 2 false [.agg [.ref 1944 1 0 1 none, .ref 1945 1 0 1 none]]),
  (1958, .box [.int .i64 0, .ref 1947 2 0 1 none, .ref 1957 15 0 1 none, .imm 0 [] 0, .imm 0 [] 0, .imm 0 [] 0])], 1969,
 { d := .int .i64 0, vc := true, eff := [(1958, some (.box [.int .i64 0, .ref 1947 2 0 1 none, .ref 1957 15 0 1 none, .imm 0 [] 0, .ref 2114 5 0 3 none, .imm 10 [] 0])),
  (1957, some (.arr 61 15 false [.agg [.int .i64 0, .int .i64 0, .ref 2017 1 0 1 none, .ref 2018 1 0 1 none, .ref 2111 1 0 1 none, .ref 2042 5 0 0 none, .int .u8 0, .int .i64 0, .imm 0 [] 0, .str [], .str [], .imm 0 [] 0, .imm 0 [] 0, .ref 2019 1 0 1 none, .int .i64 0]])),
  (2114, some (.arr 287 5 true [.agg [.int .u8 1, .int .i64 0, .int .i64 1, .int .i64 8, .str []], .agg [.int .u8 2, .int .i64 0, .int .i64 1, .int .i64 8, .str [1, 0, 1, 0, 0, 1, 107, 0]], .agg [.int .u8 3, .int .i64 0, .int .i64 1, .int .i64 0, .str [1, 0, 1, 0, 0, 1, 107, 0]]])),
  (2019, some (.arr 9 1 true [.str [1, 1, 1, 0, 0, 1, 107, 0], .str []])),
  (2042, some (.arr 119 5 true [.agg [.int .i64 0, .int .i64 0, .int .i64 0, .int .i64 0, .str []]])),
  (2111, some (.arr 9 1 true [.str [1, 0, 1, 0, 0, 1, 107, 0]])),
  (2018, some (.arr 3 1 true [.int .i64 0])),
  (2017, some (.arr 3 1 true [.int .i64 0]))], nw := (1969, 2115), met := [1953, 1952, 1951, 1957, 1945, 1944, 1947, 1958] }⟩
theorem Tryz.rI16 : runFQ (getLQ Tryz.ftLI) Tryz.ptI Tryz.tm 2000 (callN (callKQ [Tryz.eI14] noCall) (getLQ Tryz.ftLI) Tryz.ptI Tryz.tm 2000 60) Tryz.eI16.K Tryz.eI16.args Tryz.eI16.heap Tryz.eI16.nx = some Tryz.eI16.out := by kernel_rfl
theorem Tryz.kI16 : EntOk Tryz.prog Tryz.eI16 := entOk_of_runN Tryz.tmOk Tryz.tmMixed Tryz.ftOkI (l := [Tryz.eI14]) (.cons Tryz.kI14 .nil) Tryz.rI16

def Tryz.eI17 : Ent := ⟨131, [.agg [.bool true, .int .i64 0, .ref 961 2 0 1 none, .ref 971 15 0 1 none, .imm 0 [] 0, .imm 1 [] 0, .imm 0 [] 0, .imm 10 [] 0], .bool true],
 [(1066, .arr 9 1 true [.str [1, 0, 1, 0, 0, 1, 107, 0], .str [1, 1, 1, 0, 0, 1, 107, 0]]),
  (1042, .arr 3 1 true [.int .i64 0]),
  (1041, .arr 3 1 true [.int .i64 0]),
  (971, .arr 61 15 false [.agg [.int .i64 0, .int .i64 0, .ref 1041 1 0 1 none, .ref 1042 1 0 1 none, .imm 0 [] 0, .imm 0 [] 0, .int .u8 0, .int .i64 0, .imm 0 [] 0, .str [], .str [], .imm 0 [] 0, .imm 0 [] 0, .ref 1066 1 0 2 none, .int .i64 0]]),
  (959, .arr 3 1 true [.int .i64 0]),
  (958, .arr 3 1 true [.int .i64 0]),
  (961, .arr 56 2 false [.agg [.ref 958 1 0 1 none, .ref 959 1 0 1 none]])], 1776,
 { d := .int .i64 0, vc := true, eff := [], nw := (1776, 1877), met := [1066, 1042, 1041, 971, 959, 958, 961] }⟩
theorem Tryz.rI17 : runFQ (getLQ Tryz.ftLI) Tryz.ptI Tryz.tm 2000 (callN (callKQ [] noCall) (getLQ Tryz.ftLI) Tryz.ptI Tryz.tm 2000 60) Tryz.eI17.K Tryz.eI17.args Tryz.eI17.heap Tryz.eI17.nx = some Tryz.eI17.out := by kernel_rfl
theorem Tryz.kI17 : EntOk Tryz.prog Tryz.eI17 := entOk_of_runN Tryz.tmOk Tryz.tmMixed Tryz.ftOkI (l := []) .nil Tryz.rI17

def Tryz.eI18 : Ent := ⟨15, [.agg [.int .i64 0, .ref 961 2 0 1 none, .ref 971 15 0 1 none, .imm 0 [] 0]],
 [(1066, .arr 9 1 true [.str [1, 0, 1, 0, 0, 1, 107, 0], .str [1, 1, 1, 0, 0, 1, 107, 0]]),
  (1042, .arr 3 1 true [.int .i64 0]),
  (1041, .arr 3 1 true [.int .i64 0]),
  (971, .arr 61 15 false [.agg [.int .i64 0, .int .i64 0, .ref 1041 1 0 1 none, .ref 1042 1 0 1 none, .imm 0 [] 0, .imm 0 [] 0, .int .u8 0, .int .i64 0, .imm 0 [] 0, .str [], .str [], .imm 0 [] 0, .imm 0 [] 0, .ref 1066 1 0 2 none, .int .i64 0]]),
  (959, .arr 3 1 true [.int .i64 0]),
  (958, .arr 3 1 true [.int .i64 0]),
  (961, .arr 56 2 false [.agg [.ref 958 1 0 1 none, .ref 959 1 0 1 none]])], 1877,
 { d := .tuple [.agg [.int .i64 0, .ref 1947 2 0 1 none, .ref 1957 15 0 1 none, .imm 0 [] 0], .ref 2114 5 0 3 none, .imm 10 [] 0, .int .i64 0], vc := true, eff := [(2114, some (.arr 287 5 true [.agg [.int .u8 1, .int .i64 0, .int .i64 1, .int .i64 8, .str []], .agg [.int .u8 2, .int .i64 0, .int .i64 1, .int .i64 8, .str [1, 0, 1, 0, 0, 1, 107, 0]], .agg [.int .u8 3, .int .i64 0, .int .i64 1, .int .i64 0, .str [1, 0, 1, 0, 0, 1, 107, 0]]])),
  (2019, some (.arr 9 1 true [.str [1, 1, 1, 0, 0, 1, 107, 0], .str []])),
  (2042, some (.arr 119 5 true [.agg [.int .i64 0, .int .i64 0, .int .i64 0, .int .i64 0, .str []]])),
  (2111, some (.arr 9 1 true [.str [1, 0, 1, 0, 0, 1, 107, 0]])),
  (2018, some (.arr 3 1 true [.int .i64 0])),
  (2017, some (.arr 3 1 true [.int .i64 0])),
  (1957, some (.arr 61 15 false [.agg [.int .i64 0, .int .i64 0, .ref 2017 1 0 1 none, .ref 2018 1 0 1 none, .ref 2111 1 0 1 none, .ref 2042 5 0 0 none, .int .u8 0, .int .i64 0, .imm 0 [] 0, .str [], .str [], .imm 0 [] 0, .imm 0 [] 0, .ref 2019 1 0 1 none, .int .i64 0]])),
  (1945, some (.arr 3 1 true [.int .i64 0])),
  (1944, some (.arr 3 1 true [.int .i64 0])),
  (1947, some (.arr 56 2 false [.agg [.ref 1944 1 0 1 none, .ref 1945 1 0 1 none]]))], nw := (1877, 2181), met := [1066, 1042, 1041, 971, 959, 958, 961] }⟩
theorem Tryz.rI18 : runFQ (getLQ Tryz.ftLI) Tryz.ptI Tryz.tm 2000 (callN (callKQ [Tryz.eI15, Tryz.eI16] noCall) (getLQ Tryz.ftLI) Tryz.ptI Tryz.tm 2000 60) Tryz.eI18.K Tryz.eI18.args Tryz.eI18.heap Tryz.eI18.nx = some Tryz.eI18.out := by kernel_rfl
theorem Tryz.kI18 : EntOk Tryz.prog Tryz.eI18 := entOk_of_runN Tryz.tmOk Tryz.tmMixed Tryz.ftOkI (l := [Tryz.eI15, Tryz.eI16]) (.cons Tryz.kI15 (.cons Tryz.kI16 .nil)) Tryz.rI18

def Tryz.eI19 : Ent := ⟨21, [.agg [.ref 1087 2 0 1 none, .ref 1112 8 0 1 none, .imm 0 [] 0], .agg [.int .u8 1, .int .i64 0, .int .i64 0, .int .i64 0, .int .i64 0, .int .i64 0, .int .u8 0, .int .i64 0, .imm 0 [] 0, .int .i64 0, .str [], .str [], .int .i64 0, .int .i64 0, .imm 0 [] 0, .int .i64 0, .int .i64 0, .int .i64 0]],
 [(1066, .arr 9 1 true [.str [1, 0, 1, 0, 0, 1, 107, 0], .str [1, 1, 1, 0, 0, 1, 107, 0]]),
  (1042, .arr 3 1 true [.int .i64 0]),
  (1041, .arr 3 1 true [.int .i64 0]),
  (971, .arr 61 15 false [.agg [.int .i64 0, .int .i64 0, .ref 1041 1 0 1 none, .ref 1042 1 0 1 none, .imm 0 [] 0, .imm 0 [] 0, .int .u8 0, .int .i64 0, .imm 0 [] 0, .str [], .str [], .imm 0 [] 0, .imm 0 [] 0, .ref 1066 1 0 2 none, .int .i64 0]]),
  (959, .arr 3 1 true [.int .i64 0]),
  (958, .arr 3 1 true [.int .i64 0]),
  (961, .arr 56 2 false [.agg [.ref 958 1 0 1 none, .ref 959 1 0 1 none]]),
  (1112, .arr 132 8 false [.agg [.bool true, .int .i64 0, .ref 961 2 0 1 none, .ref 971 15 0 1 none, .imm 0 [] 0, .imm 1 [] 0, .imm 0 [] 0, .imm 10 [] 0]]),
  (1085, .arr 3 1 true [.int .i64 0]),
  (1084, .arr 3 1 true [.int .i64 0]),
  (1087, .arr 56 2 false [.agg [.ref 1084 1 0 1 none, .ref 1085 1 0 1 none]])], 1633,
 { d := .tuple [.agg [.ref 2339 2 0 1 none, .ref 2364 8 0 1 none, .imm 0 [] 0], .int .i64 0], vc := true, eff := [(2323, some (.arr 5 1 true [.int .u8 12, .int .u8 3, .int .u8 0, .int .u8 1, .int .u8 8, .int .u8 1, .int .u8 0, .int .u8 1, .int .u8 0, .int .u8 0, .int .u8 1, .int .u8 107, .int .u8 0])),
  (2319, some (.arr 5 1 true [.int .u8 13, .int .u8 2, .int .u8 0, .int .u8 1, .int .u8 8, .int .u8 8, .int .u8 1, .int .u8 0, .int .u8 1, .int .u8 0, .int .u8 0, .int .u8 1, .int .u8 107, .int .u8 0])),
  (2315, some (.arr 5 1 true [.int .u8 4, .int .u8 1, .int .u8 0, .int .u8 1, .int .u8 8])),
  (2325, some (.arr 307 2 false [.agg [.bool false, .ref 2315 1 0 5 none], .agg [.bool false, .ref 2319 1 0 14 none], .agg [.bool false, .ref 2323 1 0 13 none]])),
  (2019, some (.arr 9 1 true [.str [1, 1, 1, 0, 0, 1, 107, 0], .str []])),
  (2042, some (.arr 119 5 true [.agg [.int .i64 0, .int .i64 0, .int .i64 0, .int .i64 0, .str []]])),
  (2111, some (.arr 9 1 true [.str [1, 0, 1, 0, 0, 1, 107, 0]])),
  (2018, some (.arr 3 1 true [.int .i64 0])),
  (2017, some (.arr 3 1 true [.int .i64 0])),
  (1957, some (.arr 61 15 false [.agg [.int .i64 0, .int .i64 0, .ref 2017 1 0 1 none, .ref 2018 1 0 1 none, .ref 2111 1 0 1 none, .ref 2042 5 0 0 none, .int .u8 0, .int .i64 0, .imm 0 [] 0, .str [], .str [], .imm 0 [] 0, .imm 0 [] 0, .ref 2019 1 0 1 none, .int .i64 0]])),
  (1945, some (.arr 3 1 true [.int .i64 0])),
  (1944, some (.arr 3 1 true [.int .i64 0])),
  (1947, some (.arr 56 2 false [.agg [.ref 1944 1 0 1 none, .ref 1945 1 0 1 none]])),
  (2364, some (.arr 132 8 false [.agg [.bool true, .int .i64 0, .ref 1947 2 0 1 none, .ref 1957 15 0 1 none, .imm 0 [] 0, .imm 0 [] 0, .ref 2325 2 0 3 none, .imm 10 [] 0]])),
  (2337, some (.arr 3 1 true [.int .i64 0])),
  (2336, some (.arr 3 1 true [.int .i64 0])),
  (2339, some (.arr 56 2 false [.agg [.ref 2336 1 0 1 none, .ref 2337 1 0 1 none]]))], nw := (1633, 2365), met := [1066, 1042, 1041, 971, 959, 958, 961, 1112, 1085, 1084, 1087] }⟩
theorem Tryz.rI19 : runFQ (getLQ Tryz.ftLI) Tryz.ptI Tryz.tm 2000 (callN (callKQ [Tryz.eI12, Tryz.eI17, Tryz.eI18] noCall) (getLQ Tryz.ftLI) Tryz.ptI Tryz.tm 2000 60) Tryz.eI19.K Tryz.eI19.args Tryz.eI19.heap Tryz.eI19.nx = some Tryz.eI19.out := by kernel_rfl
theorem Tryz.kI19 : EntOk Tryz.prog Tryz.eI19 := entOk_of_runN Tryz.tmOk Tryz.tmMixed Tryz.ftOkI (l := [Tryz.eI12, Tryz.eI17, Tryz.eI18]) (.cons Tryz.kI12 (.cons Tryz.kI17 (.cons Tryz.kI18 .nil))) Tryz.rI19

def Tryz.eI20 : Ent := ⟨89, [.agg [.int .i64 0, .int .i64 0, .ref 2017 1 0 1 none, .ref 2018 1 0 1 none, .ref 2111 1 0 1 none, .ref 2042 5 0 0 none, .int .u8 0, .int .i64 0, .imm 0 [] 0, .str [], .str [], .imm 0 [] 0, .imm 0 [] 0, .ref 2019 1 0 1 none, .int .i64 0]],
 [(2019, .arr 9 1 true [.str [1, 1, 1, 0, 0, 1, 107, 0], .str []]),
  (2042, .arr 119 5 true [.agg [.int .i64 0, .int .i64 0, .int .i64 0, .int .i64 0, .str []]]),
  (2111, .arr 9 1 true [.str [1, 0, 1, 0, 0, 1, 107, 0]]),
  (2018, .arr 3 1 true [.int .i64 0]),
  (2017, .arr 3 1 true [.int .i64 0])], 2415,
 { d := .int .i64 0, vc := true, eff := [], nw := (2415, 2461), met := [2019, 2042, 2111, 2018, 2017] }⟩
theorem Tryz.rI20 : runFQ (getLQ Tryz.ftLI) Tryz.ptI Tryz.tm 2000 (callN (callKQ [] noCall) (getLQ Tryz.ftLI) Tryz.ptI Tryz.tm 2000 60) Tryz.eI20.K Tryz.eI20.args Tryz.eI20.heap Tryz.eI20.nx = some Tryz.eI20.out := by kernel_rfl
theorem Tryz.kI20 : EntOk Tryz.prog Tryz.eI20 := entOk_of_runN Tryz.tmOk Tryz.tmMixed Tryz.ftOkI (l := []) .nil Tryz.rI20

def Tryz.eI21 : Ent := ⟨138, [.int .i64 1, .ref 2545 1 0 3 none],
 [(2545, .arr 9 1 true [.str [1, 0, 1, 8], .str [2, 0, 1, 8, 8, 1, 0, 1, 0, 0, 1, 107, 0], .str [3, 0, 1, 8, 1, 0, 1, 0, 0, 1, 107, 0]])], 2596,
 { d := .tuple [.agg [.ref 2598 1 0 1 (some 1), .ref 2614 5 0 0 none], .int .i64 0], vc := true, eff := [(2614, some (.arr 119 5 true [.agg [.int .i64 0, .int .i64 0, .int .i64 0, .int .i64 0, .str []]])),
  (2650, some (.arr 9 1 true [.str [1, 0, 1, 0, 0, 1, 107, 0]])),
  (2598, some (.arr 40 1 false [.ref 2650 1 0 1 none]))], nw := (2596, 2651), met := [2545] }⟩
theorem Tryz.rI21 : runFQ (getLQ Tryz.ftLI) Tryz.ptI Tryz.tm 2000 (callN (callKQ [] noCall) (getLQ Tryz.ftLI) Tryz.ptI Tryz.tm 2000 60) Tryz.eI21.K Tryz.eI21.args Tryz.eI21.heap Tryz.eI21.nx = some Tryz.eI21.out := by kernel_rfl
theorem Tryz.kI21 : EntOk Tryz.prog Tryz.eI21 := entOk_of_runN Tryz.tmOk Tryz.tmMixed Tryz.ftOkI (l := []) .nil Tryz.rI21

def Tryz.eI22 : Ent := ⟨120, [.agg [.bool true, .int .i64 0, .ref 1947 2 0 1 none, .ref 1957 15 0 1 none, .imm 0 [] 0, .imm 0 [] 0, .ref 2325 2 0 3 none, .imm 10 [] 0]],
 [(2323, .arr 5 1 true [.int .u8 12, .int .u8 3, .int .u8 0, .int .u8 1, .int .u8 8, .int .u8 1, .int .u8 0, .int .u8 1, .int .u8 0, .int .u8 0, .int .u8 1, .int .u8 107, .int .u8 0]),
  (2319, .arr 5 1 true [.int .u8 13, .int .u8 2, .int .u8 0, .int .u8 1, .int .u8 8, .int .u8 8, .int .u8 1, .int .u8 0, .int .u8 1, .int .u8 0, .int .u8 0, .int .u8 1, .int .u8 107, .int .u8 0]),
  (2315, .arr 5 1 true [.int .u8 4, .int .u8 1, .int .u8 0, .int .u8 1, .int .u8 8]),
  (2325, .arr 307 2 false [.agg [.bool false, .ref 2315 1 0 5 none], .agg [.bool false, .ref 2319 1 0 14 none], .agg [.bool false, .ref 2323 1 0 13 none]]),
  (2019, .arr 9 1 true [.str [1, 1, 1, 0, 0, 1, 107, 0], .str []]),
  (2042, .arr 119 5 true [.agg [.int .i64 0, .int .i64 0, .int .i64 0, .int .i64 0, .str []]]),
  (2111, .arr 9 1 true [.str [1, 0, 1, 0, 0, 1, 107, 0]]),
  (2018, .arr 3 1 true [.int .i64 0]),
  (2017, .arr 3 1 true [.int .i64 0]),
  (1957, .arr 61 15 false [.agg [.int .i64 0, .int .i64 0, .ref 2017 1 0 1 none, .ref 2018 1 0 1 none, .ref 2111 1 0 1 none, .ref 2042 5 0 0 none, .int .u8 0, .int .i64 0, .imm 0 [] 0, .str [], .str [], .imm 0 [] 0, .imm 0 [] 0, .ref 2019 1 0 1 none, .int .i64 0]]),
  (1945, .arr 3 1 true [.int .i64 0]),
  (1944, .arr 3 1 true [.int .i64 0]),
  (1947, .arr 56 2 false [.agg [.ref 1944 1 0 1 none, .ref 1945 1 0 1 none]])], 2403,
 { d := .int .i64 0, vc := true, eff := [], nw := (2403, 2660), met := [2323, 2319, 2315, 2325, 2019, 2042, 2111, 2018, 2017, 1957, 1945, 1944, 1947] }⟩
theorem Tryz.rI22 : runFQ (getLQ Tryz.ftLI) Tryz.ptI Tryz.tm 2000 (callN (callKQ [Tryz.eI21, Tryz.eI20] noCall) (getLQ Tryz.ftLI) Tryz.ptI Tryz.tm 2000 60) Tryz.eI22.K Tryz.eI22.args Tryz.eI22.heap Tryz.eI22.nx = some Tryz.eI22.out := by kernel_rfl
theorem Tryz.kI22 : EntOk Tryz.prog Tryz.eI22 := entOk_of_runN Tryz.tmOk Tryz.tmMixed Tryz.ftOkI (l := [Tryz.eI21, Tryz.eI20]) (.cons Tryz.kI21 (.cons Tryz.kI20 .nil)) Tryz.rI22

def Tryz.eI23 : Ent := ⟨89, [.agg [.int .i64 0, .int .i64 0, .ref 2017 1 0 1 none, .ref 2018 1 0 1 none, .ref 2111 1 0 1 none, .ref 2042 5 0 0 none, .int .u8 0, .int .i64 0, .imm 0 [] 0, .str [], .str [], .imm 0 [] 0, .imm 0 [] 0, .ref 2019 1 0 1 none, .int .i64 0]],
 [(2019, .arr 9 1 true [.str [1, 1, 1, 0, 0, 1, 107, 0], .str []]),
  (2042, .arr 119 5 true [.agg [.int .i64 0, .int .i64 0, .int .i64 0, .int .i64 0, .str []]]),
  (2111, .arr 9 1 true [.str [1, 0, 1, 0, 0, 1, 107, 0]]),
  (2018, .arr 3 1 true [.int .i64 0]),
  (2017, .arr 3 1 true [.int .i64 0])], 2709,
 { d := .int .i64 0, vc := true, eff := [], nw := (2709, 2755), met := [2019, 2042, 2111, 2018, 2017] }⟩
theorem Tryz.rI23 : runFQ (getLQ Tryz.ftLI) Tryz.ptI Tryz.tm 2000 (callN (callKQ [] noCall) (getLQ Tryz.ftLI) Tryz.ptI Tryz.tm 2000 60) Tryz.eI23.K Tryz.eI23.args Tryz.eI23.heap Tryz.eI23.nx = some Tryz.eI23.out := by kernel_rfl
theorem Tryz.kI23 : EntOk Tryz.prog Tryz.eI23 := entOk_of_runN Tryz.tmOk Tryz.tmMixed Tryz.ftOkI (l := []) .nil Tryz.rI23

def Tryz.eI24 : Ent := ⟨138, [.int .i64 1, .ref 2839 1 0 3 none],
 [(2839, .arr 9 1 true [.str [1, 0, 1, 8], .str [2, 0, 1, 8, 8, 1, 0, 1, 0, 0, 1, 107, 0], .str [3, 0, 1, 8, 1, 0, 1, 0, 0, 1, 107, 0]])], 2890,
 { d := .tuple [.agg [.ref 2892 1 0 1 (some 1), .ref 2908 5 0 0 none], .int .i64 0], vc := true, eff := [(2908, some (.arr 119 5 true [.agg [.int .i64 0, .int .i64 0, .int .i64 0, .int .i64 0, .str []]])),
  (2944, some (.arr 9 1 true [.str [1, 0, 1, 0, 0, 1, 107, 0]])),
  (2892, some (.arr 40 1 false [.ref 2944 1 0 1 none]))], nw := (2890, 2945), met := [2839] }⟩
theorem Tryz.rI24 : runFQ (getLQ Tryz.ftLI) Tryz.ptI Tryz.tm 2000 (callN (callKQ [] noCall) (getLQ Tryz.ftLI) Tryz.ptI Tryz.tm 2000 60) Tryz.eI24.K Tryz.eI24.args Tryz.eI24.heap Tryz.eI24.nx = some Tryz.eI24.out := by kernel_rfl
theorem Tryz.kI24 : EntOk Tryz.prog Tryz.eI24 := entOk_of_runN Tryz.tmOk Tryz.tmMixed Tryz.ftOkI (l := []) .nil Tryz.rI24

def Tryz.eI25 : Ent := ⟨120, [.agg [.bool true, .int .i64 0, .ref 1947 2 0 1 none, .ref 1957 15 0 1 none, .imm 0 [] 0, .imm 0 [] 0, .ref 2325 2 0 3 none, .imm 10 [] 0]],
 [(2323, .arr 5 1 true [.int .u8 12, .int .u8 3, .int .u8 0, .int .u8 1, .int .u8 8, .int .u8 1, .int .u8 0, .int .u8 1, .int .u8 0, .int .u8 0, .int .u8 1, .int .u8 107, .int .u8 0]),
  (2319, .arr 5 1 true [.int .u8 13, .int .u8 2, .int .u8 0, .int .u8 1, .int .u8 8, .int .u8 8, .int .u8 1, .int .u8 0, .int .u8 1, .int .u8 0, .int .u8 0, .int .u8 1, .int .u8 107, .int .u8 0]),
  (2315, .arr 5 1 true [.int .u8 4, .int .u8 1, .int .u8 0, .int .u8 1, .int .u8 8]),
  (2325, .arr 307 2 false [.agg [.bool false, .ref 2315 1 0 5 none], .agg [.bool false, .ref 2319 1 0 14 none], .agg [.bool false, .ref 2323 1 0 13 none]]),
  (2019, .arr 9 1 true [.str [1, 1, 1, 0, 0, 1, 107, 0], .str []]),
  (2042, .arr 119 5 true [.agg [.int .i64 0, .int .i64 0, .int .i64 0, .int .i64 0, .str []]]),
  (2111, .arr 9 1 true [.str [1, 0, 1, 0, 0, 1, 107, 0]]),
  (2018, .arr 3 1 true [.int .i64 0]),
  (2017, .arr 3 1 true [.int .i64 0]),
  (1957, .arr 61 15 false [.agg [.int .i64 0, .int .i64 0, .ref 2017 1 0 1 none, .ref 2018 1 0 1 none, .ref 2111 1 0 1 none, .ref 2042 5 0 0 none, .int .u8 0, .int .i64 0, .imm 0 [] 0, .str [], .str [], .imm 0 [] 0, .imm 0 [] 0, .ref 2019 1 0 1 none, .int .i64 0]]),
  (1945, .arr 3 1 true [.int .i64 0]),
  (1944, .arr 3 1 true [.int .i64 0]),
  (1947, .arr 56 2 false [.agg [.ref 1944 1 0 1 none, .ref 1945 1 0 1 none]])], 2697,
 { d := .int .i64 0, vc := true, eff := [], nw := (2697, 2954), met := [2323, 2319, 2315, 2325, 2019, 2042, 2111, 2018, 2017, 1957, 1945, 1944, 1947] }⟩
theorem Tryz.rI25 : runFQ (getLQ Tryz.ftLI) Tryz.ptI Tryz.tm 2000 (callN (callKQ [Tryz.eI24, Tryz.eI23] noCall) (getLQ Tryz.ftLI) Tryz.ptI Tryz.tm 2000 60) Tryz.eI25.K Tryz.eI25.args Tryz.eI25.heap Tryz.eI25.nx = some Tryz.eI25.out := by kernel_rfl
theorem Tryz.kI25 : EntOk Tryz.prog Tryz.eI25 := entOk_of_runN Tryz.tmOk Tryz.tmMixed Tryz.ftOkI (l := [Tryz.eI24, Tryz.eI23]) (.cons Tryz.kI24 (.cons Tryz.kI23 .nil)) Tryz.rI25

def Tryz.eI26 : Ent := ⟨89, [.agg [.int .i64 0, .int .i64 0, .ref 2017 1 0 1 none, .ref 2018 1 0 1 none, .ref 2111 1 0 1 none, .ref 2042 5 0 0 none, .int .u8 0, .int .i64 0, .imm 0 [] 0, .str [], .str [], .imm 0 [] 0, .imm 0 [] 0, .ref 2019 1 0 1 none, .int .i64 0]],
 [(2019, .arr 9 1 true [.str [1, 1, 1, 0, 0, 1, 107, 0], .str []]),
  (2042, .arr 119 5 true [.agg [.int .i64 0, .int .i64 0, .int .i64 0, .int .i64 0, .str []]]),
  (2111, .arr 9 1 true [.str [1, 0, 1, 0, 0, 1, 107, 0]]),
  (2018, .arr 3 1 true [.int .i64 0]),
  (2017, .arr 3 1 true [.int .i64 0])], 2977,
 { d := .int .i64 0, vc := true, eff := [], nw := (2977, 3023), met := [2019, 2042, 2111, 2018, 2017] }⟩
theorem Tryz.rI26 : runFQ (getLQ Tryz.ftLI) Tryz.ptI Tryz.tm 2000 (callN (callKQ [] noCall) (getLQ Tryz.ftLI) Tryz.ptI Tryz.tm 2000 60) Tryz.eI26.K Tryz.eI26.args Tryz.eI26.heap Tryz.eI26.nx = some Tryz.eI26.out := by kernel_rfl
theorem Tryz.kI26 : EntOk Tryz.prog Tryz.eI26 := entOk_of_runN Tryz.tmOk Tryz.tmMixed Tryz.ftOkI (l := []) .nil Tryz.rI26

def Tryz.eI27 : Ent := ⟨138, [.int .i64 1, .ref 3107 1 0 3 none],
 [(3107, .arr 9 1 true [.str [1, 0, 1, 8], .str [2, 0, 1, 8, 8, 1, 0, 1, 0, 0, 1, 107, 0], .str [3, 0, 1, 8, 1, 0, 1, 0, 0, 1, 107, 0]])], 3158,
 { d := .tuple [.agg [.ref 3160 1 0 1 (some 1), .ref 3176 5 0 0 none], .int .i64 0], vc := true, eff := [(3176, some (.arr 119 5 true [.agg [.int .i64 0, .int .i64 0, .int .i64 0, .int .i64 0, .str []]])),
  (3212, some (.arr 9 1 true [.str [1, 0, 1, 0, 0, 1, 107, 0]])),
  (3160, some (.arr 40 1 false [.ref 3212 1 0 1 none]))], nw := (3158, 3213), met := [3107] }⟩
theorem Tryz.rI27 : runFQ (getLQ Tryz.ftLI) Tryz.ptI Tryz.tm 2000 (callN (callKQ [] noCall) (getLQ Tryz.ftLI) Tryz.ptI Tryz.tm 2000 60) Tryz.eI27.K Tryz.eI27.args Tryz.eI27.heap Tryz.eI27.nx = some Tryz.eI27.out := by kernel_rfl
theorem Tryz.kI27 : EntOk Tryz.prog Tryz.eI27 := entOk_of_runN Tryz.tmOk Tryz.tmMixed Tryz.ftOkI (l := []) .nil Tryz.rI27

def Tryz.eI28 : Ent := ⟨89, [.agg [.int .i64 0, .int .i64 0, .ref 2017 1 0 1 none, .ref 2018 1 0 1 none, .ref 2111 1 0 1 none, .ref 2042 5 0 0 none, .int .u8 0, .int .i64 0, .imm 0 [] 0, .str [], .str [], .imm 0 [] 0, .imm 0 [] 0, .ref 2019 1 0 1 none, .int .i64 0]],
 [(2019, .arr 9 1 true [.str [1, 1, 1, 0, 0, 1, 107, 0], .str []]),
  (2042, .arr 119 5 true [.agg [.int .i64 0, .int .i64 0, .int .i64 0, .int .i64 0, .str []]]),
  (2111, .arr 9 1 true [.str [1, 0, 1, 0, 0, 1, 107, 0]]),
  (2018, .arr 3 1 true [.int .i64 0]),
  (2017, .arr 3 1 true [.int .i64 0])], 3230,
 { d := .int .i64 0, vc := true, eff := [], nw := (3230, 3276), met := [2019, 2042, 2111, 2018, 2017] }⟩
theorem Tryz.rI28 : runFQ (getLQ Tryz.ftLI) Tryz.ptI Tryz.tm 2000 (callN (callKQ [] noCall) (getLQ Tryz.ftLI) Tryz.ptI Tryz.tm 2000 60) Tryz.eI28.K Tryz.eI28.args Tryz.eI28.heap Tryz.eI28.nx = some Tryz.eI28.out := by kernel_rfl
theorem Tryz.kI28 : EntOk Tryz.prog Tryz.eI28 := entOk_of_runN Tryz.tmOk Tryz.tmMixed Tryz.ftOkI (l := []) .nil Tryz.rI28

def Tryz.eI29 : Ent := ⟨96, [.agg [.int .i64 0, .int .i64 0, .ref 3352 1 0 1 none, .ref 3353 1 0 1 none, .ref 3354 1 0 1 none, .imm 5 [] 9, .int .u8 0, .int .i64 0, .imm 0 [] 0, .str [], .str [], .imm 0 [] 0, .imm 0 [] 0, .ref 3355 1 0 1 none, .int .i64 0], .str [2, 0, 1]],
 [(3355, .arr 9 1 true [.str [1, 1, 1, 0, 0, 1, 107, 0]]),
  (3354, .arr 9 1 true [.str [1, 0, 1, 0, 0, 1, 107, 0]]),
  (3353, .arr 3 1 true [.int .i64 0]),
  (3352, .arr 3 1 true [.int .i64 0])], 3515,
 { d := .tuple [.agg [.int .i64 0, .int .i64 0, .ref 3565 1 0 1 none, .ref 3566 1 0 1 none, .ref 3567 1 0 1 none, .imm 5 [] 9, .int .u8 0, .int .i64 0, .imm 0 [] 0, .str [], .str [], .imm 0 [] 0, .imm 0 [] 0, .ref 3588 1 0 2 none, .int .i64 0], .int .i64 0], vc := true, eff := [(3588, some (.arr 9 1 true [.str [1, 1, 1, 0, 0, 1, 107, 0], .str [2, 0, 1]])),
  (3567, some (.arr 9 1 true [.str [1, 0, 1, 0, 0, 1, 107, 0]])),
  (3566, some (.arr 3 1 true [.int .i64 0])),
  (3565, some (.arr 3 1 true [.int .i64 0]))], nw := (3515, 3589), met := [3355, 3354, 3353, 3352] }⟩
theorem Tryz.rI29 : runFQ (getLQ Tryz.ftLI) Tryz.ptI Tryz.tm 2000 (callN (callKQ [] noCall) (getLQ Tryz.ftLI) Tryz.ptI Tryz.tm 2000 60) Tryz.eI29.K Tryz.eI29.args Tryz.eI29.heap Tryz.eI29.nx = some Tryz.eI29.out := by kernel_rfl
theorem Tryz.kI29 : EntOk Tryz.prog Tryz.eI29 := entOk_of_runN Tryz.tmOk Tryz.tmMixed Tryz.ftOkI (l := []) .nil Tryz.rI29

def Tryz.eI30 : Ent := ⟨231, [.agg [.ref 3655 1 0 1 none, .ref 3656 1 0 1 none], .ref 3657 1 0 1 none],
 [(3657, .arr 9 1 true [.str [1, 0, 1, 0, 0, 1, 107, 0]]),
  (3656, .arr 3 1 true [.int .i64 0]),
  (3655, .arr 3 1 true [.int .i64 0])], 3662,
 { d := .tuple [.ref 3688 1 0 1 none, .int .i64 0], vc := true, eff := [(3688, some (.arr 3 1 true [.int .i64 0]))], nw := (3662, 3689), met := [3657, 3656, 3655] }⟩
theorem Tryz.rI30 : runFI (getL Tryz.frLI) (getL Tryz.fyLI) Tryz.ptI Tryz.tm 2000 (callN (callKQ [] noCall) (getLQ Tryz.ftLI) Tryz.ptI Tryz.tm 2000 60) Tryz.eI30.K Tryz.eI30.args Tryz.eI30.heap Tryz.eI30.nx = some Tryz.eI30.out := by kernel_rfl
theorem Tryz.kI30 : EntOk Tryz.prog Tryz.eI30 := entOk_of_runNI Tryz.tmOk Tryz.tmMixed Tryz.ftOkI Tryz.frOkI Tryz.fyOkI (l := []) .nil Tryz.rI30

def Tryz.eI31 : Ent := ⟨112, [.ptr 3661 0],
 [(3658, .arr 9 1 true [.str [1, 1, 1, 0, 0, 1, 107, 0], .str [2, 0, 1]]),
  (3657, .arr 9 1 true [.str [1, 0, 1, 0, 0, 1, 107, 0]]),
  (3656, .arr 3 1 true [.int .i64 0]),
  (3655, .arr 3 1 true [.int .i64 0]),
  (3661, .box [.int .i64 0, .int .i64 0, .ref 3655 1 0 1 none, .ref 3656 1 0 1 none, .ref 3657 1 0 1 none, .imm 5 [] 9, .int .u8 0, .int .i64 0, .imm 0 [] 0, .str [], .str [], .imm 0 [] 0, .imm 0 [] 0, .ref 3658 1 0 2 none, .int .i64 0, .imm 0 [] 0, .imm 0 [] 0])], 3662,
 { d := .tuple [], vc := true, eff := [(3657, none),
  (3658, some (.arr 9 1 true [.str [2, 0, 1], .str []])),
  (3661, some (.box [.int .i64 0, .int .i64 0, .ref 3655 1 0 1 none, .ref 3656 1 0 1 none, .ref 3771 1 0 2 none, .ref 3702 5 0 0 none, .int .u8 0, .int .i64 0, .imm 0 [] 0, .str [], .str [], .imm 0 [] 0, .imm 0 [] 0, .ref 3658 1 0 1 none, .int .i64 0, .ref 3765 5 0 3 none, .imm 0 [] 0])),
  (3765, some (.arr 287 5 true [.agg [.int .u8 1, .int .i64 0, .int .i64 2, .int .i64 8, .str []], .agg [.int .u8 2, .int .i64 0, .int .i64 2, .int .i64 8, .str [1, 1, 1, 0, 0, 1, 107, 0]], .agg [.int .u8 3, .int .i64 0, .int .i64 2, .int .i64 0, .str [1, 1, 1, 0, 0, 1, 107, 0]]])),
  (3702, some (.arr 119 5 true [.agg [.int .i64 0, .int .i64 0, .int .i64 0, .int .i64 0, .str []]])),
  (3771, some (.arr 9 1 true [.str [1, 0, 1, 0, 0, 1, 107, 0], .str [1, 1, 1, 0, 0, 1, 107, 0]]))], nw := (3662, 3773), met := [3658, 3657, 3656, 3655, 3661] }⟩
theorem Tryz.rI31 : runFQ (getLQ Tryz.ftLI) Tryz.ptI Tryz.tm 2000 (callN (callKQ [Tryz.eI30] noCall) (getLQ Tryz.ftLI) Tryz.ptI Tryz.tm 2000 60) Tryz.eI31.K Tryz.eI31.args Tryz.eI31.heap Tryz.eI31.nx = some Tryz.eI31.out := by kernel_rfl
theorem Tryz.kI31 : EntOk Tryz.prog Tryz.eI31 := entOk_of_runN Tryz.tmOk Tryz.tmMixed Tryz.ftOkI (l := [Tryz.eI30]) (.cons Tryz.kI30 .nil) Tryz.rI31

def Tryz.eI32 : Ent := ⟨75, [.ref 3771 1 0 2 none],
 [(3771, .arr 9 1 true [.str [1, 0, 1, 0, 0, 1, 107, 0], .str [1, 1, 1, 0, 0, 1, 107, 0]])], 3781,
 { d := .tuple [.ref 3820 12 0 2 none, .int .i64 0], vc := true, eff := [(3806, some (.arr 3 1 true [.int .i64 0])),
  (3786, some (.arr 3 1 true [.int .i64 0])),
  (3820, some (.arr 39 12 false [.agg [.int .u8 1, .int .i64 0, .ref 3786 1 0 1 none, .int .i64 0, .str [107], .str [], .int .i64 0, .int .i64 0, .imm 0 [] 0, .int .i64 0, .int .i64 0, .int .i64 0], .agg [.int .u8 1, .int .i64 1, .ref 3806 1 0 1 none, .int .i64 0, .str [107], .str [], .int .i64 0, .int .i64 0, .imm 0 [] 0, .int .i64 0, .int .i64 0, .int .i64 0]]))], nw := (3781, 3821), met := [3771] }⟩
theorem Tryz.rI32 : runFQ (getLQ Tryz.ftLI) Tryz.ptI Tryz.tm 2000 (callN (callKQ [] noCall) (getLQ Tryz.ftLI) Tryz.ptI Tryz.tm 2000 60) Tryz.eI32.K Tryz.eI32.args Tryz.eI32.heap Tryz.eI32.nx = some Tryz.eI32.out := by kernel_rfl
theorem Tryz.kI32 : EntOk Tryz.prog Tryz.eI32 := entOk_of_runN Tryz.tmOk Tryz.tmMixed Tryz.ftOkI (l := []) .nil Tryz.rI32

def Tryz.eI33 : Ent := ⟨50, [.ptr 3360 0, .int .i64 0, .fn (.func 51) []],
 [(3588, .arr 9 1 true [.str [1, 1, 1, 0, 0, 1, 107, 0], .str [2, 0, 1]]),
  (3567, .arr 9 1 true [.str [1, 0, 1, 0, 0, 1, 107, 0]]),
  (3566, .arr 3 1 true [.int .i64 0]),
  (3565, .arr 3 1 true [.int .i64 0]),
  (3359, .arr 61 15 false [.agg [.int .i64 0, .int .i64 0, .ref 3565 1 0 1 none, .ref 3566 1 0 1 none, .ref 3567 1 0 1 none, .imm 5 [] 9, .int .u8 0, .int .i64 0, .imm 0 [] 0, .str [], .str [], .imm 0 [] 0, .imm 0 [] 0, .ref 3588 1 0 2 none, .int .i64 0]]),
  (3346, .arr 3 1 true [.int .i64 0]),
  (3345, .arr 3 1 true [.int .i64 0]),
  (3348, .arr 56 2 false [.agg [.ref 3345 1 0 1 none, .ref 3346 1 0 1 none]]),
  (3360, .box [.int .i64 0, .ref 3348 2 0 1 none, .ref 3359 15 0 1 none, .imm 0 [] 0, .imm 0 [] 0, .imm 0 [] 0])], 3590,
 { d := .int .i64 0, vc := true, eff := [(3360, some (.box [.int .i64 0, .ref 3348 2 0 1 none, .ref 3359 15 0 1 none, .imm 0 [] 0, .ref 3774 5 0 3 none, .imm 10 [] 0])),
  (3359, some (.arr 61 15 false [.agg [.int .i64 0, .int .i64 0, .ref 3655 1 0 1 none, .ref 3656 1 0 1 none, .ref 3771 1 0 2 none, .ref 3702 5 0 0 none, .int .u8 0, .int .i64 0, .imm 0 [] 0, .str [], .str [], .imm 0 [] 0, .imm 0 [] 0, .ref 3658 1 0 1 none, .int .i64 0]])),
  (3774, some (.arr 287 5 true [.agg [.int .u8 1, .int .i64 0, .int .i64 2, .int .i64 8, .str []], .agg [.int .u8 2, .int .i64 0, .int .i64 2, .int .i64 8, .str [1, 1, 1, 0, 0, 1, 107, 0]], .agg [.int .u8 3, .int .i64 0, .int .i64 2, .int .i64 0, .str [1, 1, 1, 0, 0, 1, 107, 0]]])),
  (3658, some (.arr 9 1 true [.str [2, 0, 1], .str []])),
  (3702, some (.arr 119 5 true [.agg [.int .i64 0, .int .i64 0, .int .i64 0, .int .i64 0, .str []]])),
  (3771, some (.arr 9 1 true [.str [1, 0, 1, 0, 0, 1, 107, 0], .str [1, 1, 1, 0, 0, 1, 107, 0]])),
  (3656, some (.arr 3 1 true [.int .i64 0])),
  (3655, some (.arr 3 1 true [.int .i64 0]))], nw := (3590, 3775), met := [3588, 3567, 3566, 3565, 3359, 3346, 3345, 3348, 3360] }⟩
theorem Tryz.rI33 : runFQ (getLQ Tryz.ftLI) Tryz.ptI Tryz.tm 2000 (callN (callKQ [Tryz.eI31] noCall) (getLQ Tryz.ftLI) Tryz.ptI Tryz.tm 2000 60) Tryz.eI33.K Tryz.eI33.args Tryz.eI33.heap Tryz.eI33.nx = some Tryz.eI33.out := by kernel_rfl
theorem Tryz.kI33 : EntOk Tryz.prog Tryz.eI33 := entOk_of_runN Tryz.tmOk Tryz.tmMixed Tryz.ftOkI (l := [Tryz.eI31]) (.cons Tryz.kI31 .nil) Tryz.rI33

def Tryz.eI34 : Ent := ⟨49, [.ptr 3360 0, .int .i64 0, .agg [.int .i64 0, .ref 3421 1 0 1 none, .int .i64 0, .str [107], .str []]],
 [(3421, .arr 3 1 true [.int .i64 0]),
  (3355, .arr 9 1 true [.str [1, 1, 1, 0, 0, 1, 107, 0]]),
  (3354, .arr 9 1 true [.str [1, 0, 1, 0, 0, 1, 107, 0]]),
  (3353, .arr 3 1 true [.int .i64 0]),
  (3352, .arr 3 1 true [.int .i64 0]),
  (3359, .arr 61 15 false [.agg [.int .i64 0, .int .i64 0, .ref 3352 1 0 1 none, .ref 3353 1 0 1 none, .ref 3354 1 0 1 none, .imm 5 [] 9, .int .u8 0, .int .i64 0, .imm 0 [] 0, .str [], .str [], .imm 0 [] 0, .imm 0 [] 0, .ref 3355 1 0 1 none, .int .i64 0]]),
  (3346, .arr 3 1 true [.int .i64 0]),
  (3345, .arr 3 1 true [.int .i64 0]),
  (3348, .arr 56 2 false [.agg [.ref 3345 1 0 1 none, .ref 3346 1 0 1 none]]),
  (3360, .box [.int .i64 0, .ref 3348 2 0 1 none, .ref 3359 15 0 1 none, .imm 0 [] 0, .imm 0 [] 0, .imm 0 [] 0])], 3425,
 { d := .tuple [], vc := true, eff := [(3359, some (.arr 61 15 false [.agg [.int .i64 0, .int .i64 0, .ref 3565 1 0 1 none, .ref 3566 1 0 1 none, .ref 3567 1 0 1 none, .imm 5 [] 9, .int .u8 0, .int .i64 0, .imm 0 [] 0, .str [], .str [], .imm 0 [] 0, .imm 0 [] 0, .ref 3588 1 0 2 none, .int .i64 0]])),
  (3588, some (.arr 9 1 true [.str [1, 1, 1, 0, 0, 1, 107, 0], .str [2, 0, 1]])),
  (3567, some (.arr 9 1 true [.str [1, 0, 1, 0, 0, 1, 107, 0]])),
  (3566, some (.arr 3 1 true [.int .i64 0])),
  (3565, some (.arr 3 1 true [.int .i64 0]))], nw := (3425, 3590), met := [3421, 3355, 3354, 3353, 3352, 3359, 3346, 3345, 3348, 3360] }⟩
theorem Tryz.rI34 : runFQ (getLQ Tryz.ftLI) Tryz.ptI Tryz.tm 2000 (callN (callKQ [Tryz.eI29] noCall) (getLQ Tryz.ftLI) Tryz.ptI Tryz.tm 2000 60) Tryz.eI34.K Tryz.eI34.args Tryz.eI34.heap Tryz.eI34.nx = some Tryz.eI34.out := by kernel_rfl
theorem Tryz.kI34 : EntOk Tryz.prog Tryz.eI34 := entOk_of_runN Tryz.tmOk Tryz.tmMixed Tryz.ftOkI (l := [Tryz.eI29]) (.cons Tryz.kI29 .nil) Tryz.rI34

def Tryz.eI35 : Ent := ⟨41, [.agg [.int .i64 0, .ref 1947 2 0 1 none, .ref 1957 15 0 1 none, .imm 0 [] 0]],
 [(2019, .arr 9 1 true [.str [1, 1, 1, 0, 0, 1, 107, 0], .str []]),
  (2042, .arr 119 5 true [.agg [.int .i64 0, .int .i64 0, .int .i64 0, .int .i64 0, .str []]]),
  (2111, .arr 9 1 true [.str [1, 0, 1, 0, 0, 1, 107, 0]]),
  (2018, .arr 3 1 true [.int .i64 0]),
  (2017, .arr 3 1 true [.int .i64 0]),
  (1957, .arr 61 15 false [.agg [.int .i64 0, .int .i64 0, .ref 2017 1 0 1 none, .ref 2018 1 0 1 none, .ref 2111 1 0 1 none, .ref 2042 5 0 0 none, .int .u8 0, .int .i64 0, .imm 0 [] 0, .str [], .str [], .imm 0 [] 0, .imm 0 [] 0, .ref 2019 1 0 1 none, .int .i64 0]]),
  (1945, .arr 3 1 true [.int .i64 0]),
  (1944, .arr 3 1 true [.int .i64 0]),
  (1947, .arr 56 2 false [.agg [.ref 1944 1 0 1 none, .ref 1945 1 0 1 none]])], 3224,
 { d := .int .i64 0, vc := true, eff := [], nw := (3224, 3341), met := [2019, 2042, 2111, 2018, 2017, 1957, 1945, 1944, 1947] }⟩
theorem Tryz.rI35 : runFQ (getLQ Tryz.ftLI) Tryz.ptI Tryz.tm 2000 (callN (callKQ [Tryz.eI28] noCall) (getLQ Tryz.ftLI) Tryz.ptI Tryz.tm 2000 60) Tryz.eI35.K Tryz.eI35.args Tryz.eI35.heap Tryz.eI35.nx = some Tryz.eI35.out := by kernel_rfl
theorem Tryz.kI35 : EntOk Tryz.prog Tryz.eI35 := entOk_of_runN Tryz.tmOk Tryz.tmMixed Tryz.ftOkI (l := [Tryz.eI28]) (.cons Tryz.kI28 .nil) Tryz.rI35

def Tryz.eI36 : Ent := ⟨52, [.ptr 3360 0],
 [(3774, .arr 287 5 true [.agg [.int .u8 1, .int .i64 0, .int .i64 2, .int .i64 8, .str []], .agg [.int .u8 2, .int .i64 0, .int .i64 2, .int .i64 8, .str [1, 1, 1, 0, 0, 1, 107, 0]], .agg [.int .u8 3, .int .i64 0, .int .i64 2, .int .i64 0, .str [1, 1, 1, 0, 0, 1, 107, 0]]]),
  (3658, .arr 9 1 true [.str [2, 0, 1], .str []]),
  (3702, .arr 119 5 true [.agg [.int .i64 0, .int .i64 0, .int .i64 0, .int .i64 0, .str []]]),
  (3771, .arr 9 1 true [.str [1, 0, 1, 0, 0, 1, 107, 0], .str [1, 1, 1, 0, 0, 1, 107, 0]]),
  (3656, .arr 3 1 true [.int .i64 0]),
  (3655, .arr 3 1 true [.int .i64 0]),
  (3359, .arr 61 15 false [.agg [.int .i64 0, .int .i64 0, .ref 3655 1 0 1 none, .ref 3656 1 0 1 none, .ref 3771 1 0 2 none, .ref 3702 5 0 0 none, .int .u8 0, .int .i64 0, .imm 0 [] 0, .str [], .str [], .imm 0 [] 0, .imm 0 [] 0, .ref 3658 1 0 1 none, .int .i64 0]]),
  (3346, .arr 3 1 true [.int .i64 0]),
  (3345, .arr 3 1 true [.int .i64 0]),
  (3348, .arr 56 2 false [.agg [.ref 3345 1 0 1 none, .ref 3346 1 0 1 none]]),
  (3360, .box [.int .i64 0, .ref 3348 2 0 1 none, .ref 3359 15 0 1 none, .imm 0 [] 0, .ref 3774 5 0 3 none, .imm 10 [] 0])], 3775,
 { d := .tuple [], vc := true, eff := [(3360, some (.box [.int .i64 0, .ref 3348 2 0 1 none, .ref 3359 15 0 1 none, .imm 0 [] 0, .ref 3774 5 0 3 none, .imm 10 [] 0]))], nw := (3775, 3917), met := [3774, 3658, 3702, 3771, 3656, 3655, 3359, 3346, 3345, 3348, 3360] }⟩
theorem Tryz.rI36 : runFQ (getLQ Tryz.ftLI) Tryz.ptI Tryz.tm 2000 (callN (callKQ [Tryz.eI32] noCall) (getLQ Tryz.ftLI) Tryz.ptI Tryz.tm 2000 60) Tryz.eI36.K Tryz.eI36.args Tryz.eI36.heap Tryz.eI36.nx = some Tryz.eI36.out := by kernel_rfl
theorem Tryz.kI36 : EntOk Tryz.prog Tryz.eI36 := entOk_of_runN Tryz.tmOk Tryz.tmMixed Tryz.ftOkI (l := [Tryz.eI32]) (.cons Tryz.kI32 .nil) Tryz.rI36

def Tryz.eI37 : Ent := ⟨131, [.agg [.bool true, .int .i64 0, .ref 1947 2 0 1 none, .ref 1957 15 0 1 none, .imm 0 [] 0, .imm 0 [] 0, .ref 2325 2 0 3 none, .imm 10 [] 0], .bool true],
 [(2323, .arr 5 1 true [.int .u8 12, .int .u8 3, .int .u8 0, .int .u8 1, .int .u8 8, .int .u8 1, .int .u8 0, .int .u8 1, .int .u8 0, .int .u8 0, .int .u8 1, .int .u8 107, .int .u8 0]),
  (2319, .arr 5 1 true [.int .u8 13, .int .u8 2, .int .u8 0, .int .u8 1, .int .u8 8, .int .u8 8, .int .u8 1, .int .u8 0, .int .u8 1, .int .u8 0, .int .u8 0, .int .u8 1, .int .u8 107, .int .u8 0]),
  (2315, .arr 5 1 true [.int .u8 4, .int .u8 1, .int .u8 0, .int .u8 1, .int .u8 8]),
  (2325, .arr 307 2 false [.agg [.bool false, .ref 2315 1 0 5 none], .agg [.bool false, .ref 2319 1 0 14 none], .agg [.bool false, .ref 2323 1 0 13 none]]),
  (2019, .arr 9 1 true [.str [1, 1, 1, 0, 0, 1, 107, 0], .str []]),
  (2042, .arr 119 5 true [.agg [.int .i64 0, .int .i64 0, .int .i64 0, .int .i64 0, .str []]]),
  (2111, .arr 9 1 true [.str [1, 0, 1, 0, 0, 1, 107, 0]]),
  (2018, .arr 3 1 true [.int .i64 0]),
  (2017, .arr 3 1 true [.int .i64 0]),
  (1957, .arr 61 15 false [.agg [.int .i64 0, .int .i64 0, .ref 2017 1 0 1 none, .ref 2018 1 0 1 none, .ref 2111 1 0 1 none, .ref 2042 5 0 0 none, .int .u8 0, .int .i64 0, .imm 0 [] 0, .str [], .str [], .imm 0 [] 0, .imm 0 [] 0, .ref 2019 1 0 1 none, .int .i64 0]]),
  (1945, .arr 3 1 true [.int .i64 0]),
  (1944, .arr 3 1 true [.int .i64 0]),
  (1947, .arr 56 2 false [.agg [.ref 1944 1 0 1 none, .ref 1945 1 0 1 none]])], 2964,
 { d := .int .i64 0, vc := true, eff := [], nw := (2964, 3222), met := [2323, 2319, 2315, 2325, 2019, 2042, 2111, 2018, 2017, 1957, 1945, 1944, 1947] }⟩
theorem Tryz.rI37 : runFQ (getLQ Tryz.ftLI) Tryz.ptI Tryz.tm 2000 (callN (callKQ [Tryz.eI27, Tryz.eI26] noCall) (getLQ Tryz.ftLI) Tryz.ptI Tryz.tm 2000 60) Tryz.eI37.K Tryz.eI37.args Tryz.eI37.heap Tryz.eI37.nx = some Tryz.eI37.out := by kernel_rfl
theorem Tryz.kI37 : EntOk Tryz.prog Tryz.eI37 := entOk_of_runN Tryz.tmOk Tryz.tmMixed Tryz.ftOkI (l := [Tryz.eI27, Tryz.eI26]) (.cons Tryz.kI27 (.cons Tryz.kI26 .nil)) Tryz.rI37

def Tryz.eI38 : Ent := ⟨15, [.agg [.int .i64 0, .ref 1947 2 0 1 none, .ref 1957 15 0 1 none, .imm 0 [] 0]],
 [(2019, .arr 9 1 true [.str [1, 1, 1, 0, 0, 1, 107, 0], .str []]),
  (2042, .arr 119 5 true [.agg [.int .i64 0, .int .i64 0, .int .i64 0, .int .i64 0, .str []]]),
  (2111, .arr 9 1 true [.str [1, 0, 1, 0, 0, 1, 107, 0]]),
  (2018, .arr 3 1 true [.int .i64 0]),
  (2017, .arr 3 1 true [.int .i64 0]),
  (1957, .arr 61 15 false [.agg [.int .i64 0, .int .i64 0, .ref 2017 1 0 1 none, .ref 2018 1 0 1 none, .ref 2111 1 0 1 none, .ref 2042 5 0 0 none, .int .u8 0, .int .i64 0, .imm 0 [] 0, .str [], .str [], .imm 0 [] 0, .imm 0 [] 0, .ref 2019 1 0 1 none, .int .i64 0]]),
  (1945, .arr 3 1 true [.int .i64 0]),
  (1944, .arr 3 1 true [.int .i64 0]),
  (1947, .arr 56 2 false [.agg [.ref 1944 1 0 1 none, .ref 1945 1 0 1 none]])], 3222,
 { d := .tuple [.agg [.int .i64 0, .ref 3348 2 0 1 none, .ref 3359 15 0 1 none, .imm 0 [] 0], .ref 3774 5 0 3 none, .imm 10 [] 0, .int .i64 0], vc := true, eff := [(3774, some (.arr 287 5 true [.agg [.int .u8 1, .int .i64 0, .int .i64 2, .int .i64 8, .str []], .agg [.int .u8 2, .int .i64 0, .int .i64 2, .int .i64 8, .str [1, 1, 1, 0, 0, 1, 107, 0]], .agg [.int .u8 3, .int .i64 0, .int .i64 2, .int .i64 0, .str [1, 1, 1, 0, 0, 1, 107, 0]]])),
  (3658, some (.arr 9 1 true [.str [2, 0, 1], .str []])),
  (3702, some (.arr 119 5 true [.agg [.int .i64 0, .int .i64 0, .int .i64 0, .int .i64 0, .str []]])),
  (3771, some (.arr 9 1 true [.str [1, 0, 1, 0, 0, 1, 107, 0], .str [1, 1, 1, 0, 0, 1, 107, 0]])),
  (3656, some (.arr 3 1 true [.int .i64 0])),
  (3655, some (.arr 3 1 true [.int .i64 0])),
  (3359, some (.arr 61 15 false [.agg [.int .i64 0, .int .i64 0, .ref 3655 1 0 1 none, .ref 3656 1 0 1 none, .ref 3771 1 0 2 none, .ref 3702 5 0 0 none, .int .u8 0, .int .i64 0, .imm 0 [] 0, .str [], .str [], .imm 0 [] 0, .imm 0 [] 0, .ref 3658 1 0 1 none, .int .i64 0]])),
  (3346, some (.arr 3 1 true [.int .i64 0])),
  (3345, some (.arr 3 1 true [.int .i64 0])),
  (3348, some (.arr 56 2 false [.agg [.ref 3345 1 0 1 none, .ref 3346 1 0 1 none]]))], nw := (3222, 3917), met := [2019, 2042, 2111, 2018, 2017, 1957, 1945, 1944, 1947] }⟩
theorem Tryz.rI38 : runFQ (getLQ Tryz.ftLI) Tryz.ptI Tryz.tm 2000 (callN (callKQ [Tryz.eI33, Tryz.eI34, Tryz.eI35, Tryz.eI36] noCall) (getLQ Tryz.ftLI) Tryz.ptI Tryz.tm 2000 60) Tryz.eI38.K Tryz.eI38.args Tryz.eI38.heap Tryz.eI38.nx = some Tryz.eI38.out := by kernel_rfl
theorem Tryz.kI38 : EntOk Tryz.prog Tryz.eI38 := entOk_of_runN Tryz.tmOk Tryz.tmMixed Tryz.ftOkI (l := [Tryz.eI33, Tryz.eI34, Tryz.eI35, Tryz.eI36]) (.cons Tryz.kI33 (.cons Tryz.kI34 (.cons Tryz.kI35 (.cons Tryz.kI36 .nil)))) Tryz.rI38

def Tryz.eI39 : Ent := ⟨68, [.agg [.ref 2339 2 0 1 none, .ref 2364 8 0 1 none, .imm 0 [] 0], .int .i64 0, .fn (.func 59) []],
 [(2323, .arr 5 1 true [.int .u8 12, .int .u8 3, .int .u8 0, .int .u8 1, .int .u8 8, .int .u8 1, .int .u8 0, .int .u8 1, .int .u8 0, .int .u8 0, .int .u8 1, .int .u8 107, .int .u8 0]),
  (2319, .arr 5 1 true [.int .u8 13, .int .u8 2, .int .u8 0, .int .u8 1, .int .u8 8, .int .u8 8, .int .u8 1, .int .u8 0, .int .u8 1, .int .u8 0, .int .u8 0, .int .u8 1, .int .u8 107, .int .u8 0]),
  (2315, .arr 5 1 true [.int .u8 4, .int .u8 1, .int .u8 0, .int .u8 1, .int .u8 8]),
  (2325, .arr 307 2 false [.agg [.bool false, .ref 2315 1 0 5 none], .agg [.bool false, .ref 2319 1 0 14 none], .agg [.bool false, .ref 2323 1 0 13 none]]),
  (2019, .arr 9 1 true [.str [1, 1, 1, 0, 0, 1, 107, 0], .str []]),
  (2042, .arr 119 5 true [.agg [.int .i64 0, .int .i64 0, .int .i64 0, .int .i64 0, .str []]]),
  (2111, .arr 9 1 true [.str [1, 0, 1, 0, 0, 1, 107, 0]]),
  (2018, .arr 3 1 true [.int .i64 0]),
  (2017, .arr 3 1 true [.int .i64 0]),
  (1957, .arr 61 15 false [.agg [.int .i64 0, .int .i64 0, .ref 2017 1 0 1 none, .ref 2018 1 0 1 none, .ref 2111 1 0 1 none, .ref 2042 5 0 0 none, .int .u8 0, .int .i64 0, .imm 0 [] 0, .str [], .str [], .imm 0 [] 0, .imm 0 [] 0, .ref 2019 1 0 1 none, .int .i64 0]]),
  (1945, .arr 3 1 true [.int .i64 0]),
  (1944, .arr 3 1 true [.int .i64 0]),
  (1947, .arr 56 2 false [.agg [.ref 1944 1 0 1 none, .ref 1945 1 0 1 none]]),
  (2364, .arr 132 8 false [.agg [.bool true, .int .i64 0, .ref 1947 2 0 1 none, .ref 1957 15 0 1 none, .imm 0 [] 0, .imm 0 [] 0, .ref 2325 2 0 3 none, .imm 10 [] 0]]),
  (2337, .arr 3 1 true [.int .i64 0]),
  (2336, .arr 3 1 true [.int .i64 0]),
  (2339, .arr 56 2 false [.agg [.ref 2336 1 0 1 none, .ref 2337 1 0 1 none]])], 2958,
 { d := .tuple [.agg [.ref 4156 2 0 1 none, .ref 4194 8 0 1 none, .imm 0 [] 0], .int .i64 0], vc := true, eff := [(4137, some (.arr 5 1 true [.int .u8 12, .int .u8 3, .int .u8 0, .int .u8 2, .int .u8 8, .int .u8 1, .int .u8 1, .int .u8 1, .int .u8 0, .int .u8 0, .int .u8 1, .int .u8 107, .int .u8 0])),
  (4133, some (.arr 5 1 true [.int .u8 13, .int .u8 2, .int .u8 0, .int .u8 2, .int .u8 8, .int .u8 8, .int .u8 1, .int .u8 1, .int .u8 1, .int .u8 0, .int .u8 0, .int .u8 1, .int .u8 107, .int .u8 0])),
  (4129, some (.arr 5 1 true [.int .u8 4, .int .u8 1, .int .u8 0, .int .u8 2, .int .u8 8])),
  (4125, some (.arr 5 1 true [.int .u8 12, .int .u8 3, .int .u8 0, .int .u8 1, .int .u8 8, .int .u8 1, .int .u8 0, .int .u8 1, .int .u8 0, .int .u8 0, .int .u8 1, .int .u8 107, .int .u8 0])),
  (4121, some (.arr 5 1 true [.int .u8 13, .int .u8 2, .int .u8 0, .int .u8 1, .int .u8 8, .int .u8 8, .int .u8 1, .int .u8 0, .int .u8 1, .int .u8 0, .int .u8 0, .int .u8 1, .int .u8 107, .int .u8 0])),
  (4117, some (.arr 5 1 true [.int .u8 4, .int .u8 1, .int .u8 0, .int .u8 1, .int .u8 8])),
  (4139, some (.arr 307 2 false [.agg [.bool false, .ref 4117 1 0 5 none], .agg [.bool false, .ref 4121 1 0 14 none], .agg [.bool false, .ref 4125 1 0 13 none], .agg [.bool false, .ref 4129 1 0 5 none], .agg [.bool false, .ref 4133 1 0 14 none], .agg [.bool false, .ref 4137 1 0 13 none]])),
  (3658, some (.arr 9 1 true [.str [2, 0, 1], .str []])),
  (3702, some (.arr 119 5 true [.agg [.int .i64 0, .int .i64 0, .int .i64 0, .int .i64 0, .str []]])),
  (3771, some (.arr 9 1 true [.str [1, 0, 1, 0, 0, 1, 107, 0], .str [1, 1, 1, 0, 0, 1, 107, 0]])),
  (3656, some (.arr 3 1 true [.int .i64 0])),
  (3655, some (.arr 3 1 true [.int .i64 0])),
  (3359, some (.arr 61 15 false [.agg [.int .i64 0, .int .i64 0, .ref 3655 1 0 1 none, .ref 3656 1 0 1 none, .ref 3771 1 0 2 none, .ref 3702 5 0 0 none, .int .u8 0, .int .i64 0, .imm 0 [] 0, .str [], .str [], .imm 0 [] 0, .imm 0 [] 0, .ref 3658 1 0 1 none, .int .i64 0]])),
  (3346, some (.arr 3 1 true [.int .i64 0])),
  (3345, some (.arr 3 1 true [.int .i64 0])),
  (3348, some (.arr 56 2 false [.agg [.ref 3345 1 0 1 none, .ref 3346 1 0 1 none]])),
  (4194, some (.arr 132 8 false [.agg [.bool true, .int .i64 0, .ref 3348 2 0 1 none, .ref 3359 15 0 1 none, .imm 0 [] 0, .imm 0 [] 0, .ref 4139 2 0 6 none, .imm 10 [] 0]])),
  (4154, some (.arr 3 1 true [.int .i64 0])),
  (4153, some (.arr 3 1 true [.int .i64 0])),
  (4156, some (.arr 56 2 false [.agg [.ref 4153 1 0 1 none, .ref 4154 1 0 1 none]]))], nw := (2958, 4195), met := [2323, 2319, 2315, 2325, 2019, 2042, 2111, 2018, 2017, 1957, 1945, 1944, 1947, 2364, 2337, 2336, 2339] }⟩
theorem Tryz.rI39 : runFQ (getLQ Tryz.ftLI) Tryz.ptI Tryz.tm 2000 (callN (callKQ [Tryz.eI37, Tryz.eI38] noCall) (getLQ Tryz.ftLI) Tryz.ptI Tryz.tm 2000 60) Tryz.eI39.K Tryz.eI39.args Tryz.eI39.heap Tryz.eI39.nx = some Tryz.eI39.out := by kernel_rfl
theorem Tryz.kI39 : EntOk Tryz.prog Tryz.eI39 := entOk_of_runN Tryz.tmOk Tryz.tmMixed Tryz.ftOkI (l := [Tryz.eI37, Tryz.eI38]) (.cons Tryz.kI37 (.cons Tryz.kI38 .nil)) Tryz.rI39

def Tryz.eI40 : Ent := ⟨75, [.ref 3771 1 0 2 none],
 [(3771, .arr 9 1 true [.str [1, 0, 1, 0, 0, 1, 107, 0], .str [1, 1, 1, 0, 0, 1, 107, 0]])], 4316,
 { d := .tuple [.ref 4355 12 0 2 none, .int .i64 0], vc := true, eff := [(4341, some (.arr 3 1 true [.int .i64 0])),
  (4321, some (.arr 3 1 true [.int .i64 0])),
  (4355, some (.arr 39 12 false [.agg [.int .u8 1, .int .i64 0, .ref 4321 1 0 1 none, .int .i64 0, .str [107], .str [], .int .i64 0, .int .i64 0, .imm 0 [] 0, .int .i64 0, .int .i64 0, .int .i64 0], .agg [.int .u8 1, .int .i64 1, .ref 4341 1 0 1 none, .int .i64 0, .str [107], .str [], .int .i64 0, .int .i64 0, .imm 0 [] 0, .int .i64 0, .int .i64 0, .int .i64 0]]))], nw := (4316, 4356), met := [3771] }⟩
theorem Tryz.rI40 : runFQ (getLQ Tryz.ftLI) Tryz.ptI Tryz.tm 2000 (callN (callKQ [] noCall) (getLQ Tryz.ftLI) Tryz.ptI Tryz.tm 2000 60) Tryz.eI40.K Tryz.eI40.args Tryz.eI40.heap Tryz.eI40.nx = some Tryz.eI40.out := by kernel_rfl
theorem Tryz.kI40 : EntOk Tryz.prog Tryz.eI40 := entOk_of_runN Tryz.tmOk Tryz.tmMixed Tryz.ftOkI (l := []) .nil Tryz.rI40

def Tryz.eI41 : Ent := ⟨89, [.agg [.int .i64 0, .int .i64 0, .ref 3655 1 0 1 none, .ref 3656 1 0 1 none, .ref 3771 1 0 2 none, .ref 3702 5 0 0 none, .int .u8 0, .int .i64 0, .imm 0 [] 0, .str [], .str [], .imm 0 [] 0, .imm 0 [] 0, .ref 3658 1 0 1 none, .int .i64 0]],
 [(3658, .arr 9 1 true [.str [2, 0, 1], .str []]),
  (3702, .arr 119 5 true [.agg [.int .i64 0, .int .i64 0, .int .i64 0, .int .i64 0, .str []]]),
  (3771, .arr 9 1 true [.str [1, 0, 1, 0, 0, 1, 107, 0], .str [1, 1, 1, 0, 0, 1, 107, 0]]),
  (3656, .arr 3 1 true [.int .i64 0]),
  (3655, .arr 3 1 true [.int .i64 0])], 4247,
 { d := .int .i64 0, vc := true, eff := [], nw := (4247, 4310), met := [3658, 3702, 3771, 3656, 3655] }⟩
theorem Tryz.rI41 : runFQ (getLQ Tryz.ftLI) Tryz.ptI Tryz.tm 2000 (callN (callKQ [] noCall) (getLQ Tryz.ftLI) Tryz.ptI Tryz.tm 2000 60) Tryz.eI41.K Tryz.eI41.args Tryz.eI41.heap Tryz.eI41.nx = some Tryz.eI41.out := by kernel_rfl
theorem Tryz.kI41 : EntOk Tryz.prog Tryz.eI41 := entOk_of_runN Tryz.tmOk Tryz.tmMixed Tryz.ftOkI (l := []) .nil Tryz.rI41

def Tryz.eI42 : Ent := ⟨210, [.str [2, 0, 1, 8, 8, 1, 0, 1, 0, 0, 1, 107, 0]],
 [], 4585,
 { d := .tuple [.agg [.int .u8 2, .int .i64 0, .int .i64 1, .int .i64 8, .str [1, 0, 1, 0, 0, 1, 107, 0]], .int .i64 0], vc := true, eff := [], nw := (4585, 4590), met := [] }⟩
theorem Tryz.rI42 : runFQ (getLQ Tryz.ftLI) Tryz.ptI Tryz.tm 2000 (callN (callKQ [] noCall) (getLQ Tryz.ftLI) Tryz.ptI Tryz.tm 2000 60) Tryz.eI42.K Tryz.eI42.args Tryz.eI42.heap Tryz.eI42.nx = some Tryz.eI42.out := by kernel_rfl
theorem Tryz.kI42 : EntOk Tryz.prog Tryz.eI42 := entOk_of_runN Tryz.tmOk Tryz.tmMixed Tryz.ftOkI (l := []) .nil Tryz.rI42

def Tryz.eI43 : Ent := ⟨210, [.str [2, 0, 2, 8, 8, 1, 1, 1, 0, 0, 1, 107, 0]],
 [], 4635,
 { d := .tuple [.agg [.int .u8 2, .int .i64 0, .int .i64 2, .int .i64 8, .str [1, 1, 1, 0, 0, 1, 107, 0]], .int .i64 0], vc := true, eff := [], nw := (4635, 4640), met := [] }⟩
theorem Tryz.rI43 : runFQ (getLQ Tryz.ftLI) Tryz.ptI Tryz.tm 2000 (callN (callKQ [] noCall) (getLQ Tryz.ftLI) Tryz.ptI Tryz.tm 2000 60) Tryz.eI43.K Tryz.eI43.args Tryz.eI43.heap Tryz.eI43.nx = some Tryz.eI43.out := by kernel_rfl
theorem Tryz.kI43 : EntOk Tryz.prog Tryz.eI43 := entOk_of_runN Tryz.tmOk Tryz.tmMixed Tryz.ftOkI (l := []) .nil Tryz.rI43

end Go.Proofs

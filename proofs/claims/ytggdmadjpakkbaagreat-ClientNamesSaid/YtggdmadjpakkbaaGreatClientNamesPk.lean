/- Known calls of one closed run, each reckoned by itself; by program (genknow.py). -/
import Derived.Test.YtggdmadjpakkbaaGreatClientNamesPj
namespace Go.Proofs
open Go.Tm
set_option maxRecDepth 100000

def Tryz.eI44 : Ent := ⟨210, [.str [1, 0, 1, 8]],
 [], 4570,
 { d := .tuple [.agg [.int .u8 1, .int .i64 0, .int .i64 1, .int .i64 8, .str []], .int .i64 0], vc := true, eff := [], nw := (4570, 4575), met := [] }⟩
theorem Tryz.rI44 : runFQ (getLQ Tryz.ftLI) Tryz.ptI Tryz.tm 2000 (callN (callKQ [] noCall) (getLQ Tryz.ftLI) Tryz.ptI Tryz.tm 2000 60) Tryz.eI44.K Tryz.eI44.args Tryz.eI44.heap Tryz.eI44.nx = some Tryz.eI44.out := by kernel_rfl
theorem Tryz.kI44 : EntOk Tryz.prog Tryz.eI44 := entOk_of_runN Tryz.tmOk Tryz.tmMixed Tryz.ftOkI (l := []) .nil Tryz.rI44

def Tryz.eI45 : Ent := ⟨138, [.int .i64 1, .ref 4485 1 0 6 none],
 [(4485, .arr 9 1 true [.str [1, 0, 1, 8], .str [2, 0, 1, 8, 8, 1, 0, 1, 0, 0, 1, 107, 0], .str [3, 0, 1, 8, 1, 0, 1, 0, 0, 1, 107, 0], .str [1, 0, 2, 8], .str [2, 0, 2, 8, 8, 1, 1, 1, 0, 0, 1, 107, 0], .str [3, 0, 2, 8, 1, 1, 1, 0, 0, 1, 107, 0]])], 4566,
 { d := .tuple [.agg [.ref 4568 1 0 1 (some 1), .ref 4584 5 0 0 none], .int .i64 0], vc := true, eff := [(4584, some (.arr 119 5 true [.agg [.int .i64 0, .int .i64 0, .int .i64 0, .int .i64 0, .str []]])),
  (4670, some (.arr 9 1 true [.str [1, 0, 1, 0, 0, 1, 107, 0], .str [1, 1, 1, 0, 0, 1, 107, 0]])),
  (4568, some (.arr 40 1 false [.ref 4670 1 0 2 none]))], nw := (4566, 4671), met := [4485] }⟩
theorem Tryz.rI45 : runFQ (getLQ Tryz.ftLI) Tryz.ptI Tryz.tm 2000 (callN (callKQ [Tryz.eI42, Tryz.eI43, Tryz.eI44] noCall) (getLQ Tryz.ftLI) Tryz.ptI Tryz.tm 2000 60) Tryz.eI45.K Tryz.eI45.args Tryz.eI45.heap Tryz.eI45.nx = some Tryz.eI45.out := by kernel_rfl
theorem Tryz.kI45 : EntOk Tryz.prog Tryz.eI45 := entOk_of_runN Tryz.tmOk Tryz.tmMixed Tryz.ftOkI (l := [Tryz.eI42, Tryz.eI43, Tryz.eI44]) (.cons Tryz.kI42 (.cons Tryz.kI43 (.cons Tryz.kI44 .nil))) Tryz.rI45

def Tryz.eI46 : Ent := ⟨41, [.agg [.int .i64 0, .ref 3348 2 0 1 none, .ref 3359 15 0 1 none, .imm 0 [] 0]],
 [(3658, .arr 9 1 true [.str [2, 0, 1], .str []]),
  (3702, .arr 119 5 true [.agg [.int .i64 0, .int .i64 0, .int .i64 0, .int .i64 0, .str []]]),
  (3771, .arr 9 1 true [.str [1, 0, 1, 0, 0, 1, 107, 0], .str [1, 1, 1, 0, 0, 1, 107, 0]]),
  (3656, .arr 3 1 true [.int .i64 0]),
  (3655, .arr 3 1 true [.int .i64 0]),
  (3359, .arr 61 15 false [.agg [.int .i64 0, .int .i64 0, .ref 3655 1 0 1 none, .ref 3656 1 0 1 none, .ref 3771 1 0 2 none, .ref 3702 5 0 0 none, .int .u8 0, .int .i64 0, .imm 0 [] 0, .str [], .str [], .imm 0 [] 0, .imm 0 [] 0, .ref 3658 1 0 1 none, .int .i64 0]]),
  (3346, .arr 3 1 true [.int .i64 0]),
  (3345, .arr 3 1 true [.int .i64 0]),
  (3348, .arr 56 2 false [.agg [.ref 3345 1 0 1 none, .ref 3346 1 0 1 none]])], 4241,
 { d := .int .i64 0, vc := true, eff := [], nw := (4241, 4451), met := [3658, 3702, 3771, 3656, 3655, 3359, 3346, 3345, 3348] }⟩
theorem Tryz.rI46 : runFQ (getLQ Tryz.ftLI) Tryz.ptI Tryz.tm 2000 (callN (callKQ [Tryz.eI41, Tryz.eI40] noCall) (getLQ Tryz.ftLI) Tryz.ptI Tryz.tm 2000 60) Tryz.eI46.K Tryz.eI46.args Tryz.eI46.heap Tryz.eI46.nx = some Tryz.eI46.out := by kernel_rfl
theorem Tryz.kI46 : EntOk Tryz.prog Tryz.eI46 := entOk_of_runN Tryz.tmOk Tryz.tmMixed Tryz.ftOkI (l := [Tryz.eI41, Tryz.eI40]) (.cons Tryz.kI41 (.cons Tryz.kI40 .nil)) Tryz.rI46

def Tryz.eI47 : Ent := ⟨75, [.ref 3771 1 0 2 none],
 [(3771, .arr 9 1 true [.str [1, 0, 1, 0, 0, 1, 107, 0], .str [1, 1, 1, 0, 0, 1, 107, 0]])], 4772,
 { d := .tuple [.ref 4811 12 0 2 none, .int .i64 0], vc := true, eff := [(4797, some (.arr 3 1 true [.int .i64 0])),
  (4777, some (.arr 3 1 true [.int .i64 0])),
  (4811, some (.arr 39 12 false [.agg [.int .u8 1, .int .i64 0, .ref 4777 1 0 1 none, .int .i64 0, .str [107], .str [], .int .i64 0, .int .i64 0, .imm 0 [] 0, .int .i64 0, .int .i64 0, .int .i64 0], .agg [.int .u8 1, .int .i64 1, .ref 4797 1 0 1 none, .int .i64 0, .str [107], .str [], .int .i64 0, .int .i64 0, .imm 0 [] 0, .int .i64 0, .int .i64 0, .int .i64 0]]))], nw := (4772, 4812), met := [3771] }⟩
theorem Tryz.rI47 : runFQ (getLQ Tryz.ftLI) Tryz.ptI Tryz.tm 2000 (callN (callKQ [] noCall) (getLQ Tryz.ftLI) Tryz.ptI Tryz.tm 2000 60) Tryz.eI47.K Tryz.eI47.args Tryz.eI47.heap Tryz.eI47.nx = some Tryz.eI47.out := by kernel_rfl
theorem Tryz.kI47 : EntOk Tryz.prog Tryz.eI47 := entOk_of_runN Tryz.tmOk Tryz.tmMixed Tryz.ftOkI (l := []) .nil Tryz.rI47

def Tryz.eI48 : Ent := ⟨89, [.agg [.int .i64 0, .int .i64 0, .ref 3655 1 0 1 none, .ref 3656 1 0 1 none, .ref 3771 1 0 2 none, .ref 3702 5 0 0 none, .int .u8 0, .int .i64 0, .imm 0 [] 0, .str [], .str [], .imm 0 [] 0, .imm 0 [] 0, .ref 3658 1 0 1 none, .int .i64 0]],
 [(3658, .arr 9 1 true [.str [2, 0, 1], .str []]),
  (3702, .arr 119 5 true [.agg [.int .i64 0, .int .i64 0, .int .i64 0, .int .i64 0, .str []]]),
  (3771, .arr 9 1 true [.str [1, 0, 1, 0, 0, 1, 107, 0], .str [1, 1, 1, 0, 0, 1, 107, 0]]),
  (3656, .arr 3 1 true [.int .i64 0]),
  (3655, .arr 3 1 true [.int .i64 0])], 4703,
 { d := .int .i64 0, vc := true, eff := [], nw := (4703, 4766), met := [3658, 3702, 3771, 3656, 3655] }⟩
theorem Tryz.rI48 : runFQ (getLQ Tryz.ftLI) Tryz.ptI Tryz.tm 2000 (callN (callKQ [] noCall) (getLQ Tryz.ftLI) Tryz.ptI Tryz.tm 2000 60) Tryz.eI48.K Tryz.eI48.args Tryz.eI48.heap Tryz.eI48.nx = some Tryz.eI48.out := by kernel_rfl
theorem Tryz.kI48 : EntOk Tryz.prog Tryz.eI48 := entOk_of_runN Tryz.tmOk Tryz.tmMixed Tryz.ftOkI (l := []) .nil Tryz.rI48

def Tryz.eI49 : Ent := ⟨210, [.str [2, 0, 1, 8, 8, 1, 0, 1, 0, 0, 1, 107, 0]],
 [], 5041,
 { d := .tuple [.agg [.int .u8 2, .int .i64 0, .int .i64 1, .int .i64 8, .str [1, 0, 1, 0, 0, 1, 107, 0]], .int .i64 0], vc := true, eff := [], nw := (5041, 5046), met := [] }⟩
theorem Tryz.rI49 : runFQ (getLQ Tryz.ftLI) Tryz.ptI Tryz.tm 2000 (callN (callKQ [] noCall) (getLQ Tryz.ftLI) Tryz.ptI Tryz.tm 2000 60) Tryz.eI49.K Tryz.eI49.args Tryz.eI49.heap Tryz.eI49.nx = some Tryz.eI49.out := by kernel_rfl
theorem Tryz.kI49 : EntOk Tryz.prog Tryz.eI49 := entOk_of_runN Tryz.tmOk Tryz.tmMixed Tryz.ftOkI (l := []) .nil Tryz.rI49

def Tryz.eI50 : Ent := ⟨210, [.str [2, 0, 2, 8, 8, 1, 1, 1, 0, 0, 1, 107, 0]],
 [], 5091,
 { d := .tuple [.agg [.int .u8 2, .int .i64 0, .int .i64 2, .int .i64 8, .str [1, 1, 1, 0, 0, 1, 107, 0]], .int .i64 0], vc := true, eff := [], nw := (5091, 5096), met := [] }⟩
theorem Tryz.rI50 : runFQ (getLQ Tryz.ftLI) Tryz.ptI Tryz.tm 2000 (callN (callKQ [] noCall) (getLQ Tryz.ftLI) Tryz.ptI Tryz.tm 2000 60) Tryz.eI50.K Tryz.eI50.args Tryz.eI50.heap Tryz.eI50.nx = some Tryz.eI50.out := by kernel_rfl
theorem Tryz.kI50 : EntOk Tryz.prog Tryz.eI50 := entOk_of_runN Tryz.tmOk Tryz.tmMixed Tryz.ftOkI (l := []) .nil Tryz.rI50

def Tryz.eI51 : Ent := ⟨210, [.str [1, 0, 1, 8]],
 [], 5026,
 { d := .tuple [.agg [.int .u8 1, .int .i64 0, .int .i64 1, .int .i64 8, .str []], .int .i64 0], vc := true, eff := [], nw := (5026, 5031), met := [] }⟩
theorem Tryz.rI51 : runFQ (getLQ Tryz.ftLI) Tryz.ptI Tryz.tm 2000 (callN (callKQ [] noCall) (getLQ Tryz.ftLI) Tryz.ptI Tryz.tm 2000 60) Tryz.eI51.K Tryz.eI51.args Tryz.eI51.heap Tryz.eI51.nx = some Tryz.eI51.out := by kernel_rfl
theorem Tryz.kI51 : EntOk Tryz.prog Tryz.eI51 := entOk_of_runN Tryz.tmOk Tryz.tmMixed Tryz.ftOkI (l := []) .nil Tryz.rI51

def Tryz.eI52 : Ent := ⟨138, [.int .i64 1, .ref 4941 1 0 6 none],
 [(4941, .arr 9 1 true [.str [1, 0, 1, 8], .str [2, 0, 1, 8, 8, 1, 0, 1, 0, 0, 1, 107, 0], .str [3, 0, 1, 8, 1, 0, 1, 0, 0, 1, 107, 0], .str [1, 0, 2, 8], .str [2, 0, 2, 8, 8, 1, 1, 1, 0, 0, 1, 107, 0], .str [3, 0, 2, 8, 1, 1, 1, 0, 0, 1, 107, 0]])], 5022,
 { d := .tuple [.agg [.ref 5024 1 0 1 (some 1), .ref 5040 5 0 0 none], .int .i64 0], vc := true, eff := [(5040, some (.arr 119 5 true [.agg [.int .i64 0, .int .i64 0, .int .i64 0, .int .i64 0, .str []]])),
  (5126, some (.arr 9 1 true [.str [1, 0, 1, 0, 0, 1, 107, 0], .str [1, 1, 1, 0, 0, 1, 107, 0]])),
  (5024, some (.arr 40 1 false [.ref 5126 1 0 2 none]))], nw := (5022, 5127), met := [4941] }⟩
theorem Tryz.rI52 : runFQ (getLQ Tryz.ftLI) Tryz.ptI Tryz.tm 2000 (callN (callKQ [Tryz.eI49, Tryz.eI50, Tryz.eI51] noCall) (getLQ Tryz.ftLI) Tryz.ptI Tryz.tm 2000 60) Tryz.eI52.K Tryz.eI52.args Tryz.eI52.heap Tryz.eI52.nx = some Tryz.eI52.out := by kernel_rfl
theorem Tryz.kI52 : EntOk Tryz.prog Tryz.eI52 := entOk_of_runN Tryz.tmOk Tryz.tmMixed Tryz.ftOkI (l := [Tryz.eI49, Tryz.eI50, Tryz.eI51]) (.cons Tryz.kI49 (.cons Tryz.kI50 (.cons Tryz.kI51 .nil))) Tryz.rI52

def Tryz.eI53 : Ent := ⟨41, [.agg [.int .i64 0, .ref 3348 2 0 1 none, .ref 3359 15 0 1 none, .imm 0 [] 0]],
 [(3658, .arr 9 1 true [.str [2, 0, 1], .str []]),
  (3702, .arr 119 5 true [.agg [.int .i64 0, .int .i64 0, .int .i64 0, .int .i64 0, .str []]]),
  (3771, .arr 9 1 true [.str [1, 0, 1, 0, 0, 1, 107, 0], .str [1, 1, 1, 0, 0, 1, 107, 0]]),
  (3656, .arr 3 1 true [.int .i64 0]),
  (3655, .arr 3 1 true [.int .i64 0]),
  (3359, .arr 61 15 false [.agg [.int .i64 0, .int .i64 0, .ref 3655 1 0 1 none, .ref 3656 1 0 1 none, .ref 3771 1 0 2 none, .ref 3702 5 0 0 none, .int .u8 0, .int .i64 0, .imm 0 [] 0, .str [], .str [], .imm 0 [] 0, .imm 0 [] 0, .ref 3658 1 0 1 none, .int .i64 0]]),
  (3346, .arr 3 1 true [.int .i64 0]),
  (3345, .arr 3 1 true [.int .i64 0]),
  (3348, .arr 56 2 false [.agg [.ref 3345 1 0 1 none, .ref 3346 1 0 1 none]])], 4697,
 { d := .int .i64 0, vc := true, eff := [], nw := (4697, 4907), met := [3658, 3702, 3771, 3656, 3655, 3359, 3346, 3345, 3348] }⟩
theorem Tryz.rI53 : runFQ (getLQ Tryz.ftLI) Tryz.ptI Tryz.tm 2000 (callN (callKQ [Tryz.eI48, Tryz.eI47] noCall) (getLQ Tryz.ftLI) Tryz.ptI Tryz.tm 2000 60) Tryz.eI53.K Tryz.eI53.args Tryz.eI53.heap Tryz.eI53.nx = some Tryz.eI53.out := by kernel_rfl
theorem Tryz.kI53 : EntOk Tryz.prog Tryz.eI53 := entOk_of_runN Tryz.tmOk Tryz.tmMixed Tryz.ftOkI (l := [Tryz.eI48, Tryz.eI47]) (.cons Tryz.kI48 (.cons Tryz.kI47 .nil)) Tryz.rI53

def Tryz.eI54 : Ent := ⟨36, [.agg [.ref 4156 2 0 1 none, .ref 4194 8 0 1 none, .imm 0 [] 0, .ref 4196 1 0 1 none]],
 [(4196, .arr 3 1 true [.int .i64 2]),
  (4137, .arr 5 1 true [.int .u8 12, .int .u8 3, .int .u8 0, .int .u8 2, .int .u8 8, .int .u8 1, .int .u8 1, .int .u8 1, .int .u8 0, .int .u8 0, .int .u8 1, .int .u8 107, .int .u8 0]),
  (4133, .arr 5 1 true [.int .u8 13, .int .u8 2, .int .u8 0, .int .u8 2, .int .u8 8, .int .u8 8, .int .u8 1, .int .u8 1, .int .u8 1, .int .u8 0, .int .u8 0, .int .u8 1, .int .u8 107, .int .u8 0]),
  (4129, .arr 5 1 true [.int .u8 4, .int .u8 1, .int .u8 0, .int .u8 2, .int .u8 8]),
  (4125, .arr 5 1 true [.int .u8 12, .int .u8 3, .int .u8 0, .int .u8 1, .int .u8 8, .int .u8 1, .int .u8 0, .int .u8 1, .int .u8 0, .int .u8 0, .int .u8 1, .int .u8 107, .int .u8 0]),
  (4121, .arr 5 1 true [.int .u8 13, .int .u8 2, .int .u8 0, .int .u8 1, .int .u8 8, .int .u8 8, .int .u8 1, .int .u8 0, .int .u8 1, .int .u8 0, .int .u8 0, .int .u8 1, .int .u8 107, .int .u8 0]),
  (4117, .arr 5 1 true [.int .u8 4, .int .u8 1, .int .u8 0, .int .u8 1, .int .u8 8]),
  (4139, .arr 307 2 false [.agg [.bool false, .ref 4117 1 0 5 none], .agg [.bool false, .ref 4121 1 0 14 none], .agg [.bool false, .ref 4125 1 0 13 none], .agg [.bool false, .ref 4129 1 0 5 none], .agg [.bool false, .ref 4133 1 0 14 none], .agg [.bool false, .ref 4137 1 0 13 none]]),
  (3658, .arr 9 1 true [.str [2, 0, 1], .str []]),
  (3702, .arr 119 5 true [.agg [.int .i64 0, .int .i64 0, .int .i64 0, .int .i64 0, .str []]]),
  (3771, .arr 9 1 true [.str [1, 0, 1, 0, 0, 1, 107, 0], .str [1, 1, 1, 0, 0, 1, 107, 0]]),
  (3656, .arr 3 1 true [.int .i64 0]),
  (3655, .arr 3 1 true [.int .i64 0]),
  (3359, .arr 61 15 false [.agg [.int .i64 0, .int .i64 0, .ref 3655 1 0 1 none, .ref 3656 1 0 1 none, .ref 3771 1 0 2 none, .ref 3702 5 0 0 none, .int .u8 0, .int .i64 0, .imm 0 [] 0, .str [], .str [], .imm 0 [] 0, .imm 0 [] 0, .ref 3658 1 0 1 none, .int .i64 0]]),
  (3346, .arr 3 1 true [.int .i64 0]),
  (3345, .arr 3 1 true [.int .i64 0]),
  (3348, .arr 56 2 false [.agg [.ref 3345 1 0 1 none, .ref 3346 1 0 1 none]]),
  (4194, .arr 132 8 false [.agg [.bool true, .int .i64 0, .ref 3348 2 0 1 none, .ref 3359 15 0 1 none, .imm 0 [] 0, .imm 0 [] 0, .ref 4139 2 0 6 none, .imm 10 [] 0]]),
  (4154, .arr 3 1 true [.int .i64 0]),
  (4153, .arr 3 1 true [.int .i64 0]),
  (4156, .arr 56 2 false [.agg [.ref 4153 1 0 1 none, .ref 4154 1 0 1 none]])], 4201,
 { d := .int .i64 0, vc := true, eff := [], nw := (4201, 4684), met := [4196, 4137, 4133, 4129, 4125, 4121, 4117, 4139, 3658, 3702, 3771, 3656, 3655, 3359, 3346, 3345, 3348, 4194, 4154, 4153, 4156] }⟩
theorem Tryz.rI54 : runFQ (getLQ Tryz.ftLI) Tryz.ptI Tryz.tm 2000 (callN (callKQ [Tryz.eI45, Tryz.eI46] noCall) (getLQ Tryz.ftLI) Tryz.ptI Tryz.tm 2000 60) Tryz.eI54.K Tryz.eI54.args Tryz.eI54.heap Tryz.eI54.nx = some Tryz.eI54.out := by kernel_rfl
theorem Tryz.kI54 : EntOk Tryz.prog Tryz.eI54 := entOk_of_runN Tryz.tmOk Tryz.tmMixed Tryz.ftOkI (l := [Tryz.eI45, Tryz.eI46]) (.cons Tryz.kI45 (.cons Tryz.kI46 .nil)) Tryz.rI54

def Tryz.eI55 : Ent := ⟨64, [.agg [.bool false, .int .i64 0, .imm 0 [] 0, .imm 0 [] 0, .imm 0 [] 0, .imm 1 [] 0, .imm 0 [] 0, .imm 0 [] 0], .ref 4156 2 0 1 none],
 [(4154, .arr 3 1 true [.int .i64 0]),
  (4153, .arr 3 1 true [.int .i64 0]),
  (4156, .arr 56 2 false [.agg [.ref 4153 1 0 1 none, .ref 4154 1 0 1 none]])], 5147,
 { d := .tuple [.agg [.bool true, .int .i64 0, .ref 5221 2 0 1 none, .ref 5234 15 0 1 none, .imm 0 [] 0, .imm 1 [] 0, .imm 0 [] 0, .imm 0 [] 0], .int .i64 0], vc := true, eff := [(5229, some (.arr 3 1 true [.int .i64 0])),
  (5228, some (.arr 3 1 true [.int .i64 0])),
  (5234, some (.arr 61 15 false [.agg [.int .i64 0, .int .i64 0, .ref 5228 1 0 1 none, .ref 5229 1 0 1 none, .imm 0 [] 0, .imm 0 [] 0, .int .u8 0, .int .i64 0, .imm 0 [] 0, .str [], .str [], .imm 0 [] 0, .imm 0 [] 0, .imm 0 [] 0, .int .i64 0]])),
  (5219, some (.arr 3 1 true [.int .i64 0])),
  (5218, some (.arr 3 1 true [.int .i64 0])),
  (5221, some (.arr 56 2 false [.agg [.ref 5218 1 0 1 none, .ref 5219 1 0 1 none]]))], nw := (5147, 5264), met := [4154, 4153, 4156] }⟩
theorem Tryz.rI55 : runFQ (getLQ Tryz.ftLI) Tryz.ptI Tryz.tm 2000 (callN (callKQ [] noCall) (getLQ Tryz.ftLI) Tryz.ptI Tryz.tm 2000 60) Tryz.eI55.K Tryz.eI55.args Tryz.eI55.heap Tryz.eI55.nx = some Tryz.eI55.out := by kernel_rfl
theorem Tryz.kI55 : EntOk Tryz.prog Tryz.eI55 := entOk_of_runN Tryz.tmOk Tryz.tmMixed Tryz.ftOkI (l := []) .nil Tryz.rI55

def Tryz.eI56 : Ent := ⟨75, [.ref 3771 1 0 2 none],
 [(3771, .arr 9 1 true [.str [1, 0, 1, 0, 0, 1, 107, 0], .str [1, 1, 1, 0, 0, 1, 107, 0]])], 5382,
 { d := .tuple [.ref 5421 12 0 2 none, .int .i64 0], vc := true, eff := [(5407, some (.arr 3 1 true [.int .i64 0])),
  (5387, some (.arr 3 1 true [.int .i64 0])),
  (5421, some (.arr 39 12 false [.agg [.int .u8 1, .int .i64 0, .ref 5387 1 0 1 none, .int .i64 0, .str [107], .str [], .int .i64 0, .int .i64 0, .imm 0 [] 0, .int .i64 0, .int .i64 0, .int .i64 0], .agg [.int .u8 1, .int .i64 1, .ref 5407 1 0 1 none, .int .i64 0, .str [107], .str [], .int .i64 0, .int .i64 0, .imm 0 [] 0, .int .i64 0, .int .i64 0, .int .i64 0]]))], nw := (5382, 5422), met := [3771] }⟩
theorem Tryz.rI56 : runFQ (getLQ Tryz.ftLI) Tryz.ptI Tryz.tm 2000 (callN (callKQ [] noCall) (getLQ Tryz.ftLI) Tryz.ptI Tryz.tm 2000 60) Tryz.eI56.K Tryz.eI56.args Tryz.eI56.heap Tryz.eI56.nx = some Tryz.eI56.out := by kernel_rfl
theorem Tryz.kI56 : EntOk Tryz.prog Tryz.eI56 := entOk_of_runN Tryz.tmOk Tryz.tmMixed Tryz.ftOkI (l := []) .nil Tryz.rI56

def Tryz.eI57 : Ent := ⟨89, [.agg [.int .i64 0, .int .i64 0, .ref 3655 1 0 1 none, .ref 3656 1 0 1 none, .ref 3771 1 0 2 none, .ref 3702 5 0 0 none, .int .u8 0, .int .i64 0, .imm 0 [] 0, .str [], .str [], .imm 0 [] 0, .imm 0 [] 0, .ref 3658 1 0 1 none, .int .i64 0]],
 [(3658, .arr 9 1 true [.str [2, 0, 1], .str []]),
  (3702, .arr 119 5 true [.agg [.int .i64 0, .int .i64 0, .int .i64 0, .int .i64 0, .str []]]),
  (3771, .arr 9 1 true [.str [1, 0, 1, 0, 0, 1, 107, 0], .str [1, 1, 1, 0, 0, 1, 107, 0]]),
  (3656, .arr 3 1 true [.int .i64 0]),
  (3655, .arr 3 1 true [.int .i64 0])], 5313,
 { d := .int .i64 0, vc := true, eff := [], nw := (5313, 5376), met := [3658, 3702, 3771, 3656, 3655] }⟩
theorem Tryz.rI57 : runFQ (getLQ Tryz.ftLI) Tryz.ptI Tryz.tm 2000 (callN (callKQ [] noCall) (getLQ Tryz.ftLI) Tryz.ptI Tryz.tm 2000 60) Tryz.eI57.K Tryz.eI57.args Tryz.eI57.heap Tryz.eI57.nx = some Tryz.eI57.out := by kernel_rfl
theorem Tryz.kI57 : EntOk Tryz.prog Tryz.eI57 := entOk_of_runN Tryz.tmOk Tryz.tmMixed Tryz.ftOkI (l := []) .nil Tryz.rI57

def Tryz.eI58 : Ent := ⟨210, [.str [2, 0, 1, 8, 8, 1, 0, 1, 0, 0, 1, 107, 0]],
 [], 5651,
 { d := .tuple [.agg [.int .u8 2, .int .i64 0, .int .i64 1, .int .i64 8, .str [1, 0, 1, 0, 0, 1, 107, 0]], .int .i64 0], vc := true, eff := [], nw := (5651, 5656), met := [] }⟩
theorem Tryz.rI58 : runFQ (getLQ Tryz.ftLI) Tryz.ptI Tryz.tm 2000 (callN (callKQ [] noCall) (getLQ Tryz.ftLI) Tryz.ptI Tryz.tm 2000 60) Tryz.eI58.K Tryz.eI58.args Tryz.eI58.heap Tryz.eI58.nx = some Tryz.eI58.out := by kernel_rfl
theorem Tryz.kI58 : EntOk Tryz.prog Tryz.eI58 := entOk_of_runN Tryz.tmOk Tryz.tmMixed Tryz.ftOkI (l := []) .nil Tryz.rI58

def Tryz.eI59 : Ent := ⟨210, [.str [2, 0, 2, 8, 8, 1, 1, 1, 0, 0, 1, 107, 0]],
 [], 5701,
 { d := .tuple [.agg [.int .u8 2, .int .i64 0, .int .i64 2, .int .i64 8, .str [1, 1, 1, 0, 0, 1, 107, 0]], .int .i64 0], vc := true, eff := [], nw := (5701, 5706), met := [] }⟩
theorem Tryz.rI59 : runFQ (getLQ Tryz.ftLI) Tryz.ptI Tryz.tm 2000 (callN (callKQ [] noCall) (getLQ Tryz.ftLI) Tryz.ptI Tryz.tm 2000 60) Tryz.eI59.K Tryz.eI59.args Tryz.eI59.heap Tryz.eI59.nx = some Tryz.eI59.out := by kernel_rfl
theorem Tryz.kI59 : EntOk Tryz.prog Tryz.eI59 := entOk_of_runN Tryz.tmOk Tryz.tmMixed Tryz.ftOkI (l := []) .nil Tryz.rI59

def Tryz.eI60 : Ent := ⟨210, [.str [1, 0, 1, 8]],
 [], 5636,
 { d := .tuple [.agg [.int .u8 1, .int .i64 0, .int .i64 1, .int .i64 8, .str []], .int .i64 0], vc := true, eff := [], nw := (5636, 5641), met := [] }⟩
theorem Tryz.rI60 : runFQ (getLQ Tryz.ftLI) Tryz.ptI Tryz.tm 2000 (callN (callKQ [] noCall) (getLQ Tryz.ftLI) Tryz.ptI Tryz.tm 2000 60) Tryz.eI60.K Tryz.eI60.args Tryz.eI60.heap Tryz.eI60.nx = some Tryz.eI60.out := by kernel_rfl
theorem Tryz.kI60 : EntOk Tryz.prog Tryz.eI60 := entOk_of_runN Tryz.tmOk Tryz.tmMixed Tryz.ftOkI (l := []) .nil Tryz.rI60

def Tryz.eI61 : Ent := ⟨138, [.int .i64 1, .ref 5551 1 0 6 none],
 [(5551, .arr 9 1 true [.str [1, 0, 1, 8], .str [2, 0, 1, 8, 8, 1, 0, 1, 0, 0, 1, 107, 0], .str [3, 0, 1, 8, 1, 0, 1, 0, 0, 1, 107, 0], .str [1, 0, 2, 8], .str [2, 0, 2, 8, 8, 1, 1, 1, 0, 0, 1, 107, 0], .str [3, 0, 2, 8, 1, 1, 1, 0, 0, 1, 107, 0]])], 5632,
 { d := .tuple [.agg [.ref 5634 1 0 1 (some 1), .ref 5650 5 0 0 none], .int .i64 0], vc := true, eff := [(5650, some (.arr 119 5 true [.agg [.int .i64 0, .int .i64 0, .int .i64 0, .int .i64 0, .str []]])),
  (5736, some (.arr 9 1 true [.str [1, 0, 1, 0, 0, 1, 107, 0], .str [1, 1, 1, 0, 0, 1, 107, 0]])),
  (5634, some (.arr 40 1 false [.ref 5736 1 0 2 none]))], nw := (5632, 5737), met := [5551] }⟩
theorem Tryz.rI61 : runFQ (getLQ Tryz.ftLI) Tryz.ptI Tryz.tm 2000 (callN (callKQ [Tryz.eI58, Tryz.eI59, Tryz.eI60] noCall) (getLQ Tryz.ftLI) Tryz.ptI Tryz.tm 2000 60) Tryz.eI61.K Tryz.eI61.args Tryz.eI61.heap Tryz.eI61.nx = some Tryz.eI61.out := by kernel_rfl
theorem Tryz.kI61 : EntOk Tryz.prog Tryz.eI61 := entOk_of_runN Tryz.tmOk Tryz.tmMixed Tryz.ftOkI (l := [Tryz.eI58, Tryz.eI59, Tryz.eI60]) (.cons Tryz.kI58 (.cons Tryz.kI59 (.cons Tryz.kI60 .nil))) Tryz.rI61

def Tryz.eI62 : Ent := ⟨41, [.agg [.int .i64 0, .ref 3348 2 0 1 none, .ref 3359 15 0 1 none, .imm 0 [] 0]],
 [(3658, .arr 9 1 true [.str [2, 0, 1], .str []]),
  (3702, .arr 119 5 true [.agg [.int .i64 0, .int .i64 0, .int .i64 0, .int .i64 0, .str []]]),
  (3771, .arr 9 1 true [.str [1, 0, 1, 0, 0, 1, 107, 0], .str [1, 1, 1, 0, 0, 1, 107, 0]]),
  (3656, .arr 3 1 true [.int .i64 0]),
  (3655, .arr 3 1 true [.int .i64 0]),
  (3359, .arr 61 15 false [.agg [.int .i64 0, .int .i64 0, .ref 3655 1 0 1 none, .ref 3656 1 0 1 none, .ref 3771 1 0 2 none, .ref 3702 5 0 0 none, .int .u8 0, .int .i64 0, .imm 0 [] 0, .str [], .str [], .imm 0 [] 0, .imm 0 [] 0, .ref 3658 1 0 1 none, .int .i64 0]]),
  (3346, .arr 3 1 true [.int .i64 0]),
  (3345, .arr 3 1 true [.int .i64 0]),
  (3348, .arr 56 2 false [.agg [.ref 3345 1 0 1 none, .ref 3346 1 0 1 none]])], 5307,
 { d := .int .i64 0, vc := true, eff := [], nw := (5307, 5517), met := [3658, 3702, 3771, 3656, 3655, 3359, 3346, 3345, 3348] }⟩
theorem Tryz.rI62 : runFQ (getLQ Tryz.ftLI) Tryz.ptI Tryz.tm 2000 (callN (callKQ [Tryz.eI57, Tryz.eI56] noCall) (getLQ Tryz.ftLI) Tryz.ptI Tryz.tm 2000 60) Tryz.eI62.K Tryz.eI62.args Tryz.eI62.heap Tryz.eI62.nx = some Tryz.eI62.out := by kernel_rfl
theorem Tryz.kI62 : EntOk Tryz.prog Tryz.eI62 := entOk_of_runN Tryz.tmOk Tryz.tmMixed Tryz.ftOkI (l := [Tryz.eI57, Tryz.eI56]) (.cons Tryz.kI57 (.cons Tryz.kI56 .nil)) Tryz.rI62

def Tryz.eI63 : Ent := ⟨75, [.ref 3771 1 0 2 none],
 [(3771, .arr 9 1 true [.str [1, 0, 1, 0, 0, 1, 107, 0], .str [1, 1, 1, 0, 0, 1, 107, 0]])], 5838,
 { d := .tuple [.ref 5877 12 0 2 none, .int .i64 0], vc := true, eff := [(5863, some (.arr 3 1 true [.int .i64 0])),
  (5843, some (.arr 3 1 true [.int .i64 0])),
  (5877, some (.arr 39 12 false [.agg [.int .u8 1, .int .i64 0, .ref 5843 1 0 1 none, .int .i64 0, .str [107], .str [], .int .i64 0, .int .i64 0, .imm 0 [] 0, .int .i64 0, .int .i64 0, .int .i64 0], .agg [.int .u8 1, .int .i64 1, .ref 5863 1 0 1 none, .int .i64 0, .str [107], .str [], .int .i64 0, .int .i64 0, .imm 0 [] 0, .int .i64 0, .int .i64 0, .int .i64 0]]))], nw := (5838, 5878), met := [3771] }⟩
theorem Tryz.rI63 : runFQ (getLQ Tryz.ftLI) Tryz.ptI Tryz.tm 2000 (callN (callKQ [] noCall) (getLQ Tryz.ftLI) Tryz.ptI Tryz.tm 2000 60) Tryz.eI63.K Tryz.eI63.args Tryz.eI63.heap Tryz.eI63.nx = some Tryz.eI63.out := by kernel_rfl
theorem Tryz.kI63 : EntOk Tryz.prog Tryz.eI63 := entOk_of_runN Tryz.tmOk Tryz.tmMixed Tryz.ftOkI (l := []) .nil Tryz.rI63

def Tryz.eI64 : Ent := ⟨89, [.agg [.int .i64 0, .int .i64 0, .ref 3655 1 0 1 none, .ref 3656 1 0 1 none, .ref 3771 1 0 2 none, .ref 3702 5 0 0 none, .int .u8 0, .int .i64 0, .imm 0 [] 0, .str [], .str [], .imm 0 [] 0, .imm 0 [] 0, .ref 3658 1 0 1 none, .int .i64 0]],
 [(3658, .arr 9 1 true [.str [2, 0, 1], .str []]),
  (3702, .arr 119 5 true [.agg [.int .i64 0, .int .i64 0, .int .i64 0, .int .i64 0, .str []]]),
  (3771, .arr 9 1 true [.str [1, 0, 1, 0, 0, 1, 107, 0], .str [1, 1, 1, 0, 0, 1, 107, 0]]),
  (3656, .arr 3 1 true [.int .i64 0]),
  (3655, .arr 3 1 true [.int .i64 0])], 5769,
 { d := .int .i64 0, vc := true, eff := [], nw := (5769, 5832), met := [3658, 3702, 3771, 3656, 3655] }⟩
theorem Tryz.rI64 : runFQ (getLQ Tryz.ftLI) Tryz.ptI Tryz.tm 2000 (callN (callKQ [] noCall) (getLQ Tryz.ftLI) Tryz.ptI Tryz.tm 2000 60) Tryz.eI64.K Tryz.eI64.args Tryz.eI64.heap Tryz.eI64.nx = some Tryz.eI64.out := by kernel_rfl
theorem Tryz.kI64 : EntOk Tryz.prog Tryz.eI64 := entOk_of_runN Tryz.tmOk Tryz.tmMixed Tryz.ftOkI (l := []) .nil Tryz.rI64

def Tryz.eI65 : Ent := ⟨210, [.str [2, 0, 1, 8, 8, 1, 0, 1, 0, 0, 1, 107, 0]],
 [], 6107,
 { d := .tuple [.agg [.int .u8 2, .int .i64 0, .int .i64 1, .int .i64 8, .str [1, 0, 1, 0, 0, 1, 107, 0]], .int .i64 0], vc := true, eff := [], nw := (6107, 6112), met := [] }⟩
theorem Tryz.rI65 : runFQ (getLQ Tryz.ftLI) Tryz.ptI Tryz.tm 2000 (callN (callKQ [] noCall) (getLQ Tryz.ftLI) Tryz.ptI Tryz.tm 2000 60) Tryz.eI65.K Tryz.eI65.args Tryz.eI65.heap Tryz.eI65.nx = some Tryz.eI65.out := by kernel_rfl
theorem Tryz.kI65 : EntOk Tryz.prog Tryz.eI65 := entOk_of_runN Tryz.tmOk Tryz.tmMixed Tryz.ftOkI (l := []) .nil Tryz.rI65

def Tryz.eI66 : Ent := ⟨210, [.str [2, 0, 2, 8, 8, 1, 1, 1, 0, 0, 1, 107, 0]],
 [], 6157,
 { d := .tuple [.agg [.int .u8 2, .int .i64 0, .int .i64 2, .int .i64 8, .str [1, 1, 1, 0, 0, 1, 107, 0]], .int .i64 0], vc := true, eff := [], nw := (6157, 6162), met := [] }⟩
theorem Tryz.rI66 : runFQ (getLQ Tryz.ftLI) Tryz.ptI Tryz.tm 2000 (callN (callKQ [] noCall) (getLQ Tryz.ftLI) Tryz.ptI Tryz.tm 2000 60) Tryz.eI66.K Tryz.eI66.args Tryz.eI66.heap Tryz.eI66.nx = some Tryz.eI66.out := by kernel_rfl
theorem Tryz.kI66 : EntOk Tryz.prog Tryz.eI66 := entOk_of_runN Tryz.tmOk Tryz.tmMixed Tryz.ftOkI (l := []) .nil Tryz.rI66

def Tryz.eI67 : Ent := ⟨210, [.str [1, 0, 1, 8]],
 [], 6092,
 { d := .tuple [.agg [.int .u8 1, .int .i64 0, .int .i64 1, .int .i64 8, .str []], .int .i64 0], vc := true, eff := [], nw := (6092, 6097), met := [] }⟩
theorem Tryz.rI67 : runFQ (getLQ Tryz.ftLI) Tryz.ptI Tryz.tm 2000 (callN (callKQ [] noCall) (getLQ Tryz.ftLI) Tryz.ptI Tryz.tm 2000 60) Tryz.eI67.K Tryz.eI67.args Tryz.eI67.heap Tryz.eI67.nx = some Tryz.eI67.out := by kernel_rfl
theorem Tryz.kI67 : EntOk Tryz.prog Tryz.eI67 := entOk_of_runN Tryz.tmOk Tryz.tmMixed Tryz.ftOkI (l := []) .nil Tryz.rI67

def Tryz.eI68 : Ent := ⟨138, [.int .i64 1, .ref 6007 1 0 6 none],
 [(6007, .arr 9 1 true [.str [1, 0, 1, 8], .str [2, 0, 1, 8, 8, 1, 0, 1, 0, 0, 1, 107, 0], .str [3, 0, 1, 8, 1, 0, 1, 0, 0, 1, 107, 0], .str [1, 0, 2, 8], .str [2, 0, 2, 8, 8, 1, 1, 1, 0, 0, 1, 107, 0], .str [3, 0, 2, 8, 1, 1, 1, 0, 0, 1, 107, 0]])], 6088,
 { d := .tuple [.agg [.ref 6090 1 0 1 (some 1), .ref 6106 5 0 0 none], .int .i64 0], vc := true, eff := [(6106, some (.arr 119 5 true [.agg [.int .i64 0, .int .i64 0, .int .i64 0, .int .i64 0, .str []]])),
  (6192, some (.arr 9 1 true [.str [1, 0, 1, 0, 0, 1, 107, 0], .str [1, 1, 1, 0, 0, 1, 107, 0]])),
  (6090, some (.arr 40 1 false [.ref 6192 1 0 2 none]))], nw := (6088, 6193), met := [6007] }⟩
theorem Tryz.rI68 : runFQ (getLQ Tryz.ftLI) Tryz.ptI Tryz.tm 2000 (callN (callKQ [Tryz.eI65, Tryz.eI66, Tryz.eI67] noCall) (getLQ Tryz.ftLI) Tryz.ptI Tryz.tm 2000 60) Tryz.eI68.K Tryz.eI68.args Tryz.eI68.heap Tryz.eI68.nx = some Tryz.eI68.out := by kernel_rfl
theorem Tryz.kI68 : EntOk Tryz.prog Tryz.eI68 := entOk_of_runN Tryz.tmOk Tryz.tmMixed Tryz.ftOkI (l := [Tryz.eI65, Tryz.eI66, Tryz.eI67]) (.cons Tryz.kI65 (.cons Tryz.kI66 (.cons Tryz.kI67 .nil))) Tryz.rI68

def Tryz.eI69 : Ent := ⟨41, [.agg [.int .i64 0, .ref 3348 2 0 1 none, .ref 3359 15 0 1 none, .imm 0 [] 0]],
 [(3658, .arr 9 1 true [.str [2, 0, 1], .str []]),
  (3702, .arr 119 5 true [.agg [.int .i64 0, .int .i64 0, .int .i64 0, .int .i64 0, .str []]]),
  (3771, .arr 9 1 true [.str [1, 0, 1, 0, 0, 1, 107, 0], .str [1, 1, 1, 0, 0, 1, 107, 0]]),
  (3656, .arr 3 1 true [.int .i64 0]),
  (3655, .arr 3 1 true [.int .i64 0]),
  (3359, .arr 61 15 false [.agg [.int .i64 0, .int .i64 0, .ref 3655 1 0 1 none, .ref 3656 1 0 1 none, .ref 3771 1 0 2 none, .ref 3702 5 0 0 none, .int .u8 0, .int .i64 0, .imm 0 [] 0, .str [], .str [], .imm 0 [] 0, .imm 0 [] 0, .ref 3658 1 0 1 none, .int .i64 0]]),
  (3346, .arr 3 1 true [.int .i64 0]),
  (3345, .arr 3 1 true [.int .i64 0]),
  (3348, .arr 56 2 false [.agg [.ref 3345 1 0 1 none, .ref 3346 1 0 1 none]])], 5763,
 { d := .int .i64 0, vc := true, eff := [], nw := (5763, 5973), met := [3658, 3702, 3771, 3656, 3655, 3359, 3346, 3345, 3348] }⟩
theorem Tryz.rI69 : runFQ (getLQ Tryz.ftLI) Tryz.ptI Tryz.tm 2000 (callN (callKQ [Tryz.eI64, Tryz.eI63] noCall) (getLQ Tryz.ftLI) Tryz.ptI Tryz.tm 2000 60) Tryz.eI69.K Tryz.eI69.args Tryz.eI69.heap Tryz.eI69.nx = some Tryz.eI69.out := by kernel_rfl
theorem Tryz.kI69 : EntOk Tryz.prog Tryz.eI69 := entOk_of_runN Tryz.tmOk Tryz.tmMixed Tryz.ftOkI (l := [Tryz.eI64, Tryz.eI63]) (.cons Tryz.kI64 (.cons Tryz.kI63 .nil)) Tryz.rI69

def Tryz.eI70 : Ent := ⟨36, [.agg [.ref 4156 2 0 1 none, .ref 4194 8 0 1 none, .imm 0 [] 0, .ref 4196 1 0 1 none]],
 [(4196, .arr 3 1 true [.int .i64 2]),
  (4137, .arr 5 1 true [.int .u8 12, .int .u8 3, .int .u8 0, .int .u8 2, .int .u8 8, .int .u8 1, .int .u8 1, .int .u8 1, .int .u8 0, .int .u8 0, .int .u8 1, .int .u8 107, .int .u8 0]),
  (4133, .arr 5 1 true [.int .u8 13, .int .u8 2, .int .u8 0, .int .u8 2, .int .u8 8, .int .u8 8, .int .u8 1, .int .u8 1, .int .u8 1, .int .u8 0, .int .u8 0, .int .u8 1, .int .u8 107, .int .u8 0]),
  (4129, .arr 5 1 true [.int .u8 4, .int .u8 1, .int .u8 0, .int .u8 2, .int .u8 8]),
  (4125, .arr 5 1 true [.int .u8 12, .int .u8 3, .int .u8 0, .int .u8 1, .int .u8 8, .int .u8 1, .int .u8 0, .int .u8 1, .int .u8 0, .int .u8 0, .int .u8 1, .int .u8 107, .int .u8 0]),
  (4121, .arr 5 1 true [.int .u8 13, .int .u8 2, .int .u8 0, .int .u8 1, .int .u8 8, .int .u8 8, .int .u8 1, .int .u8 0, .int .u8 1, .int .u8 0, .int .u8 0, .int .u8 1, .int .u8 107, .int .u8 0]),
  (4117, .arr 5 1 true [.int .u8 4, .int .u8 1, .int .u8 0, .int .u8 1, .int .u8 8]),
  (4139, .arr 307 2 false [.agg [.bool false, .ref 4117 1 0 5 none], .agg [.bool false, .ref 4121 1 0 14 none], .agg [.bool false, .ref 4125 1 0 13 none], .agg [.bool false, .ref 4129 1 0 5 none], .agg [.bool false, .ref 4133 1 0 14 none], .agg [.bool false, .ref 4137 1 0 13 none]]),
  (3658, .arr 9 1 true [.str [2, 0, 1], .str []]),
  (3702, .arr 119 5 true [.agg [.int .i64 0, .int .i64 0, .int .i64 0, .int .i64 0, .str []]]),
  (3771, .arr 9 1 true [.str [1, 0, 1, 0, 0, 1, 107, 0], .str [1, 1, 1, 0, 0, 1, 107, 0]]),
  (3656, .arr 3 1 true [.int .i64 0]),
  (3655, .arr 3 1 true [.int .i64 0]),
  (3359, .arr 61 15 false [.agg [.int .i64 0, .int .i64 0, .ref 3655 1 0 1 none, .ref 3656 1 0 1 none, .ref 3771 1 0 2 none, .ref 3702 5 0 0 none, .int .u8 0, .int .i64 0, .imm 0 [] 0, .str [], .str [], .imm 0 [] 0, .imm 0 [] 0, .ref 3658 1 0 1 none, .int .i64 0]]),
  (3346, .arr 3 1 true [.int .i64 0]),
  (3345, .arr 3 1 true [.int .i64 0]),
  (3348, .arr 56 2 false [.agg [.ref 3345 1 0 1 none, .ref 3346 1 0 1 none]]),
  (4194, .arr 132 8 false [.agg [.bool true, .int .i64 0, .ref 3348 2 0 1 none, .ref 3359 15 0 1 none, .imm 0 [] 0, .imm 0 [] 0, .ref 4139 2 0 6 none, .imm 10 [] 0]]),
  (4154, .arr 3 1 true [.int .i64 0]),
  (4153, .arr 3 1 true [.int .i64 0]),
  (4156, .arr 56 2 false [.agg [.ref 4153 1 0 1 none, .ref 4154 1 0 1 none]])], 5267,
 { d := .int .i64 0, vc := true, eff := [], nw := (5267, 5750), met := [4196, 4137, 4133, 4129, 4125, 4121, 4117, 4139, 3658, 3702, 3771, 3656, 3655, 3359, 3346, 3345, 3348, 4194, 4154, 4153, 4156] }⟩
theorem Tryz.rI70 : runFQ (getLQ Tryz.ftLI) Tryz.ptI Tryz.tm 2000 (callN (callKQ [Tryz.eI61, Tryz.eI62] noCall) (getLQ Tryz.ftLI) Tryz.ptI Tryz.tm 2000 60) Tryz.eI70.K Tryz.eI70.args Tryz.eI70.heap Tryz.eI70.nx = some Tryz.eI70.out := by kernel_rfl
theorem Tryz.kI70 : EntOk Tryz.prog Tryz.eI70 := entOk_of_runN Tryz.tmOk Tryz.tmMixed Tryz.ftOkI (l := [Tryz.eI61, Tryz.eI62]) (.cons Tryz.kI61 (.cons Tryz.kI62 .nil)) Tryz.rI70

def Tryz.eI71 : Ent := ⟨64, [.agg [.bool false, .int .i64 0, .imm 0 [] 0, .imm 0 [] 0, .imm 0 [] 0, .imm 1 [] 0, .imm 0 [] 0, .imm 0 [] 0], .ref 4156 2 0 1 none],
 [(4154, .arr 3 1 true [.int .i64 0]),
  (4153, .arr 3 1 true [.int .i64 0]),
  (4156, .arr 56 2 false [.agg [.ref 4153 1 0 1 none, .ref 4154 1 0 1 none]])], 6213,
 { d := .tuple [.agg [.bool true, .int .i64 0, .ref 6287 2 0 1 none, .ref 6300 15 0 1 none, .imm 0 [] 0, .imm 1 [] 0, .imm 0 [] 0, .imm 0 [] 0], .int .i64 0], vc := true, eff := [(6295, some (.arr 3 1 true [.int .i64 0])),
  (6294, some (.arr 3 1 true [.int .i64 0])),
  (6300, some (.arr 61 15 false [.agg [.int .i64 0, .int .i64 0, .ref 6294 1 0 1 none, .ref 6295 1 0 1 none, .imm 0 [] 0, .imm 0 [] 0, .int .u8 0, .int .i64 0, .imm 0 [] 0, .str [], .str [], .imm 0 [] 0, .imm 0 [] 0, .imm 0 [] 0, .int .i64 0]])),
  (6285, some (.arr 3 1 true [.int .i64 0])),
  (6284, some (.arr 3 1 true [.int .i64 0])),
  (6287, some (.arr 56 2 false [.agg [.ref 6284 1 0 1 none, .ref 6285 1 0 1 none]]))], nw := (6213, 6330), met := [4154, 4153, 4156] }⟩
theorem Tryz.rI71 : runFQ (getLQ Tryz.ftLI) Tryz.ptI Tryz.tm 2000 (callN (callKQ [] noCall) (getLQ Tryz.ftLI) Tryz.ptI Tryz.tm 2000 60) Tryz.eI71.K Tryz.eI71.args Tryz.eI71.heap Tryz.eI71.nx = some Tryz.eI71.out := by kernel_rfl
theorem Tryz.kI71 : EntOk Tryz.prog Tryz.eI71 := entOk_of_runN Tryz.tmOk Tryz.tmMixed Tryz.ftOkI (l := []) .nil Tryz.rI71

def Tryz.eI72 : Ent := ⟨9, [.agg [.int .i64 0, .ref 6807 2 0 1 none, .ref 6820 15 0 1 none, .imm 0 [] 0], .int .i64 0, .agg [.int .u8 1, .int .i64 0, .ref 6829 1 0 1 (some 1), .int .i64 0, .str [107], .str [], .int .i64 0, .int .i64 0, .imm 0 [] 0, .int .i64 0, .int .i64 0, .int .i64 0]],
 [(6829, .arr 3 1 true [.int .i64 0]),
  (6815, .arr 3 1 true [.int .i64 0]),
  (6814, .arr 3 1 true [.int .i64 0]),
  (6820, .arr 61 15 false [.agg [.int .i64 0, .int .i64 0, .ref 6814 1 0 1 none, .ref 6815 1 0 1 none, .imm 0 [] 0, .imm 0 [] 0, .int .u8 0, .int .i64 0, .imm 0 [] 0, .str [], .str [], .imm 0 [] 0, .imm 0 [] 0, .imm 0 [] 0, .int .i64 0]]),
  (6805, .arr 3 1 true [.int .i64 0]),
  (6804, .arr 3 1 true [.int .i64 0]),
  (6807, .arr 56 2 false [.agg [.ref 6804 1 0 1 none, .ref 6805 1 0 1 none]])], 7126,
 { d := .tuple [.agg [.int .i64 0, .ref 7171 2 0 1 none, .ref 7180 15 0 1 none, .imm 0 [] 0], .imm 0 [] 0, .int .i64 0], vc := true, eff := [(7256, some (.arr 9 1 true [.str [1, 0, 1, 0, 0, 1, 107, 0]])),
  (7233, some (.arr 3 1 true [.int .i64 0])),
  (7232, some (.arr 3 1 true [.int .i64 0])),
  (7180, some (.arr 61 15 false [.agg [.int .i64 0, .int .i64 0, .ref 7232 1 0 1 none, .ref 7233 1 0 1 none, .imm 0 [] 0, .imm 0 [] 0, .int .u8 0, .int .i64 0, .imm 0 [] 0, .str [], .str [], .imm 0 [] 0, .imm 0 [] 0, .ref 7256 1 0 1 none, .int .i64 0]])),
  (7169, some (.arr 3 1 true [.int .i64 0])),
  (7168, some (.arr 3 1 true [.int .i64 0])),
  (7171, some (.arr 56 2 false [.agg [.ref 7168 1 0 1 none, .ref 7169 1 0 1 none]]))], nw := (7126, 7258), met := [6829, 6815, 6814, 6820, 6805, 6804, 6807] }⟩
theorem Tryz.rI72 : runFQ (getLQ Tryz.ftLI) Tryz.ptI Tryz.tm 2000 (callN (callKQ [] noCall) (getLQ Tryz.ftLI) Tryz.ptI Tryz.tm 2000 60) Tryz.eI72.K Tryz.eI72.args Tryz.eI72.heap Tryz.eI72.nx = some Tryz.eI72.out := by kernel_rfl
theorem Tryz.kI72 : EntOk Tryz.prog Tryz.eI72 := entOk_of_runN Tryz.tmOk Tryz.tmMixed Tryz.ftOkI (l := []) .nil Tryz.rI72

def Tryz.eI73 : Ent := ⟨56, [.agg [.ref 6794 2 0 1 none, .ref 6824 8 0 1 none, .imm 0 [] 0]],
 [(6815, .arr 3 1 true [.int .i64 0]),
  (6814, .arr 3 1 true [.int .i64 0]),
  (6820, .arr 61 15 false [.agg [.int .i64 0, .int .i64 0, .ref 6814 1 0 1 none, .ref 6815 1 0 1 none, .imm 0 [] 0, .imm 0 [] 0, .int .u8 0, .int .i64 0, .imm 0 [] 0, .str [], .str [], .imm 0 [] 0, .imm 0 [] 0, .imm 0 [] 0, .int .i64 0]]),
  (6805, .arr 3 1 true [.int .i64 0]),
  (6804, .arr 3 1 true [.int .i64 0]),
  (6807, .arr 56 2 false [.agg [.ref 6804 1 0 1 none, .ref 6805 1 0 1 none]]),
  (6824, .arr 132 8 false [.agg [.bool true, .int .i64 0, .ref 6807 2 0 1 none, .ref 6820 15 0 1 none, .imm 0 [] 0, .imm 0 [] 0, .imm 0 [] 0, .imm 0 [] 0]]),
  (6792, .arr 3 1 true [.int .i64 0]),
  (6791, .arr 3 1 true [.int .i64 0]),
  (6794, .arr 56 2 false [.agg [.ref 6791 1 0 1 none, .ref 6792 1 0 1 none]])], 6951,
 { d := .int .i64 0, vc := true, eff := [], nw := (6951, 7049), met := [6815, 6814, 6820, 6805, 6804, 6807, 6824, 6792, 6791, 6794] }⟩
theorem Tryz.rI73 : runFQ (getLQ Tryz.ftLI) Tryz.ptI Tryz.tm 2000 (callN (callKQ [] noCall) (getLQ Tryz.ftLI) Tryz.ptI Tryz.tm 2000 60) Tryz.eI73.K Tryz.eI73.args Tryz.eI73.heap Tryz.eI73.nx = some Tryz.eI73.out := by kernel_rfl
theorem Tryz.kI73 : EntOk Tryz.prog Tryz.eI73 := entOk_of_runN Tryz.tmOk Tryz.tmMixed Tryz.ftOkI (l := []) .nil Tryz.rI73

def Tryz.eI74 : Ent := ⟨80, [.agg [.ref 6794 2 0 1 none, .ref 6824 8 0 1 none, .imm 0 [] 0, .ref 6826 1 0 1 (some 1)], .int .i64 0],
 [(6826, .arr 3 1 true [.int .i64 0]),
  (6815, .arr 3 1 true [.int .i64 0]),
  (6814, .arr 3 1 true [.int .i64 0]),
  (6820, .arr 61 15 false [.agg [.int .i64 0, .int .i64 0, .ref 6814 1 0 1 none, .ref 6815 1 0 1 none, .imm 0 [] 0, .imm 0 [] 0, .int .u8 0, .int .i64 0, .imm 0 [] 0, .str [], .str [], .imm 0 [] 0, .imm 0 [] 0, .imm 0 [] 0, .int .i64 0]]),
  (6805, .arr 3 1 true [.int .i64 0]),
  (6804, .arr 3 1 true [.int .i64 0]),
  (6807, .arr 56 2 false [.agg [.ref 6804 1 0 1 none, .ref 6805 1 0 1 none]]),
  (6824, .arr 132 8 false [.agg [.bool true, .int .i64 0, .ref 6807 2 0 1 none, .ref 6820 15 0 1 none, .imm 0 [] 0, .imm 0 [] 0, .imm 0 [] 0, .imm 0 [] 0]]),
  (6792, .arr 3 1 true [.int .i64 0]),
  (6791, .arr 3 1 true [.int .i64 0]),
  (6794, .arr 56 2 false [.agg [.ref 6791 1 0 1 none, .ref 6792 1 0 1 none]])], 6841,
 { d := .tuple [.int .i64 0, .fn (.func 152) [.ptr 6842 0], .int .i64 0], vc := true, eff := [(6842, some (.box [.int .i64 0]))], nw := (6841, 6942), met := [6826, 6815, 6814, 6820, 6805, 6804, 6807, 6824, 6792, 6791, 6794] }⟩
theorem Tryz.rI74 : runFQ (getLQ Tryz.ftLI) Tryz.ptI Tryz.tm 2000 (callN (callKQ [] noCall) (getLQ Tryz.ftLI) Tryz.ptI Tryz.tm 2000 60) Tryz.eI74.K Tryz.eI74.args Tryz.eI74.heap Tryz.eI74.nx = some Tryz.eI74.out := by kernel_rfl
theorem Tryz.kI74 : EntOk Tryz.prog Tryz.eI74 := entOk_of_runN Tryz.tmOk Tryz.tmMixed Tryz.ftOkI (l := []) .nil Tryz.rI74

def Tryz.eI75 : Ent := ⟨231, [.agg [.ref 7745 1 0 1 none, .ref 7746 1 0 1 none], .imm 0 [] 0],
 [(7746, .arr 3 1 true [.int .i64 0]),
  (7745, .arr 3 1 true [.int .i64 0])], 7751,
 { d := .tuple [.ref 7756 1 0 1 none, .int .i64 0], vc := true, eff := [(7756, some (.arr 3 1 true [.int .i64 0]))], nw := (7751, 7757), met := [7746, 7745] }⟩
theorem Tryz.rI75 : runFI (getL Tryz.frLI) (getL Tryz.fyLI) Tryz.ptI Tryz.tm 2000 (callN (callKQ [] noCall) (getLQ Tryz.ftLI) Tryz.ptI Tryz.tm 2000 60) Tryz.eI75.K Tryz.eI75.args Tryz.eI75.heap Tryz.eI75.nx = some Tryz.eI75.out := by kernel_rfl
theorem Tryz.kI75 : EntOk Tryz.prog Tryz.eI75 := entOk_of_runNI Tryz.tmOk Tryz.tmMixed Tryz.ftOkI Tryz.frOkI Tryz.fyOkI (l := []) .nil Tryz.rI75

def Tryz.eI76 : Ent := ⟨112, [.ptr 7750 0],
 [(7747, .arr 9 1 true [.str [1, 0, 1, 0, 0, 1, 107, 0]]),
  (7746, .arr 3 1 true [.int .i64 0]),
  (7745, .arr 3 1 true [.int .i64 0]),
  (7750, .box [.int .i64 0, .int .i64 0, .ref 7745 1 0 1 none, .ref 7746 1 0 1 none, .imm 0 [] 0, .imm 0 [] 0, .int .u8 0, .int .i64 0, .imm 0 [] 0, .str [], .str [], .imm 0 [] 0, .imm 0 [] 0, .ref 7747 1 0 1 none, .int .i64 0, .imm 0 [] 0, .imm 0 [] 0])], 7751,
 { d := .tuple [], vc := true, eff := [(7747, some (.arr 9 1 true [.str []])),
  (7750, some (.box [.int .i64 0, .int .i64 0, .ref 7745 1 0 1 none, .ref 7746 1 0 1 none, .ref 7839 1 0 1 none, .ref 7770 5 0 0 none, .int .u8 0, .int .i64 0, .imm 0 [] 0, .str [], .str [], .imm 0 [] 0, .imm 0 [] 0, .ref 7747 1 0 0 none, .int .i64 0, .ref 7833 5 0 3 none, .imm 0 [] 0])),
  (7833, some (.arr 287 5 true [.agg [.int .u8 1, .int .i64 0, .int .i64 1, .int .i64 8, .str []], .agg [.int .u8 2, .int .i64 0, .int .i64 1, .int .i64 8, .str [1, 0, 1, 0, 0, 1, 107, 0]], .agg [.int .u8 3, .int .i64 0, .int .i64 1, .int .i64 0, .str [1, 0, 1, 0, 0, 1, 107, 0]]])),
  (7770, some (.arr 119 5 true [.agg [.int .i64 0, .int .i64 0, .int .i64 0, .int .i64 0, .str []]])),
  (7839, some (.arr 9 1 true [.str [1, 0, 1, 0, 0, 1, 107, 0]]))], nw := (7751, 7841), met := [7747, 7746, 7745, 7750] }⟩
theorem Tryz.rI76 : runFQ (getLQ Tryz.ftLI) Tryz.ptI Tryz.tm 2000 (callN (callKQ [Tryz.eI75] noCall) (getLQ Tryz.ftLI) Tryz.ptI Tryz.tm 2000 60) Tryz.eI76.K Tryz.eI76.args Tryz.eI76.heap Tryz.eI76.nx = some Tryz.eI76.out := by kernel_rfl
theorem Tryz.kI76 : EntOk Tryz.prog Tryz.eI76 := entOk_of_runN Tryz.tmOk Tryz.tmMixed Tryz.ftOkI (l := [Tryz.eI75]) (.cons Tryz.kI75 .nil) Tryz.rI76

def Tryz.eI77 : Ent := ⟨52, [.ptr 7704 0],
 [(7842, .arr 287 5 true [.agg [.int .u8 1, .int .i64 0, .int .i64 1, .int .i64 8, .str []], .agg [.int .u8 2, .int .i64 0, .int .i64 1, .int .i64 8, .str [1, 0, 1, 0, 0, 1, 107, 0]], .agg [.int .u8 3, .int .i64 0, .int .i64 1, .int .i64 0, .str [1, 0, 1, 0, 0, 1, 107, 0]]]),
  (7747, .arr 9 1 true [.str []]),
  (7770, .arr 119 5 true [.agg [.int .i64 0, .int .i64 0, .int .i64 0, .int .i64 0, .str []]]),
  (7839, .arr 9 1 true [.str [1, 0, 1, 0, 0, 1, 107, 0]]),
  (7746, .arr 3 1 true [.int .i64 0]),
  (7745, .arr 3 1 true [.int .i64 0]),
  (7703, .arr 61 15 false [.agg [.int .i64 0, .int .i64 0, .ref 7745 1 0 1 none, .ref 7746 1 0 1 none, .ref 7839 1 0 1 none, .ref 7770 5 0 0 none, .int .u8 0, .int .i64 0, .imm 0 [] 0, .str [], .str [], .imm 0 [] 0, .imm 0 [] 0, .ref 7747 1 0 0 none, .int .i64 0]]),
  (7691, .arr 3 1 true [.int .i64 0]),
  (7690, .arr 3 1 true [.int .i64 0]),
  (7693, .arr 56 2 false [.agg [.ref 7690 1 0 1 none, .ref 7691 1 0 1 none]]),
  (7704, .box [.int .i64 0, .ref 7693 2 0 1 none, .ref 7703 15 0 1 none, .imm 0 [] 0, .ref 7842 5 0 3 none, .imm 10 [] 0])], 7843,
 { d := .tuple [], vc := true, eff := [(7704, some (.box [.int .i64 0, .ref 7693 2 0 1 none, .ref 7703 15 0 1 none, .imm 0 [] 0, .ref 7842 5 0 3 none, .imm 10 [] 0]))], nw := (7843, 7909), met := [7842, 7747, 7770, 7839, 7746, 7745, 7703, 7691, 7690, 7693, 7704] }⟩
theorem Tryz.rI77 : runFQ (getLQ Tryz.ftLI) Tryz.ptI Tryz.tm 2000 (callN (callKQ [] noCall) (getLQ Tryz.ftLI) Tryz.ptI Tryz.tm 2000 60) Tryz.eI77.K Tryz.eI77.args Tryz.eI77.heap Tryz.eI77.nx = some Tryz.eI77.out := by kernel_rfl
theorem Tryz.kI77 : EntOk Tryz.prog Tryz.eI77 := entOk_of_runN Tryz.tmOk Tryz.tmMixed Tryz.ftOkI (l := []) .nil Tryz.rI77

def Tryz.eI78 : Ent := ⟨41, [.agg [.int .i64 0, .ref 7171 2 0 1 none, .ref 7180 15 0 1 none, .imm 0 [] 0]],
 [(7256, .arr 9 1 true [.str [1, 0, 1, 0, 0, 1, 107, 0]]),
  (7233, .arr 3 1 true [.int .i64 0]),
  (7232, .arr 3 1 true [.int .i64 0]),
  (7180, .arr 61 15 false [.agg [.int .i64 0, .int .i64 0, .ref 7232 1 0 1 none, .ref 7233 1 0 1 none, .imm 0 [] 0, .imm 0 [] 0, .int .u8 0, .int .i64 0, .imm 0 [] 0, .str [], .str [], .imm 0 [] 0, .imm 0 [] 0, .ref 7256 1 0 1 none, .int .i64 0]]),
  (7169, .arr 3 1 true [.int .i64 0]),
  (7168, .arr 3 1 true [.int .i64 0]),
  (7171, .arr 56 2 false [.agg [.ref 7168 1 0 1 none, .ref 7169 1 0 1 none]])], 7643,
 { d := .int .i64 0, vc := true, eff := [], nw := (7643, 7686), met := [7256, 7233, 7232, 7180, 7169, 7168, 7171] }⟩
theorem Tryz.rI78 : runFQ (getLQ Tryz.ftLI) Tryz.ptI Tryz.tm 2000 (callN (callKQ [] noCall) (getLQ Tryz.ftLI) Tryz.ptI Tryz.tm 2000 60) Tryz.eI78.K Tryz.eI78.args Tryz.eI78.heap Tryz.eI78.nx = some Tryz.eI78.out := by kernel_rfl
theorem Tryz.kI78 : EntOk Tryz.prog Tryz.eI78 := entOk_of_runN Tryz.tmOk Tryz.tmMixed Tryz.ftOkI (l := []) .nil Tryz.rI78

def Tryz.eI79 : Ent := ⟨131, [.agg [.bool true, .int .i64 0, .ref 7171 2 0 1 none, .ref 7180 15 0 1 none, .imm 0 [] 0, .imm 1 [] 0, .imm 0 [] 0, .imm 10 [] 0], .bool true],
 [(7256, .arr 9 1 true [.str [1, 0, 1, 0, 0, 1, 107, 0]]),
  (7233, .arr 3 1 true [.int .i64 0]),
  (7232, .arr 3 1 true [.int .i64 0]),
  (7180, .arr 61 15 false [.agg [.int .i64 0, .int .i64 0, .ref 7232 1 0 1 none, .ref 7233 1 0 1 none, .imm 0 [] 0, .imm 0 [] 0, .int .u8 0, .int .i64 0, .imm 0 [] 0, .str [], .str [], .imm 0 [] 0, .imm 0 [] 0, .ref 7256 1 0 1 none, .int .i64 0]]),
  (7169, .arr 3 1 true [.int .i64 0]),
  (7168, .arr 3 1 true [.int .i64 0]),
  (7171, .arr 56 2 false [.agg [.ref 7168 1 0 1 none, .ref 7169 1 0 1 none]])], 7558,
 { d := .int .i64 0, vc := true, eff := [], nw := (7558, 7641), met := [7256, 7233, 7232, 7180, 7169, 7168, 7171] }⟩
theorem Tryz.rI79 : runFQ (getLQ Tryz.ftLI) Tryz.ptI Tryz.tm 2000 (callN (callKQ [] noCall) (getLQ Tryz.ftLI) Tryz.ptI Tryz.tm 2000 60) Tryz.eI79.K Tryz.eI79.args Tryz.eI79.heap Tryz.eI79.nx = some Tryz.eI79.out := by kernel_rfl
theorem Tryz.kI79 : EntOk Tryz.prog Tryz.eI79 := entOk_of_runN Tryz.tmOk Tryz.tmMixed Tryz.ftOkI (l := []) .nil Tryz.rI79

def Tryz.eI80 : Ent := ⟨15, [.agg [.int .i64 0, .ref 7171 2 0 1 none, .ref 7180 15 0 1 none, .imm 0 [] 0]],
 [(7256, .arr 9 1 true [.str [1, 0, 1, 0, 0, 1, 107, 0]]),
  (7233, .arr 3 1 true [.int .i64 0]),
  (7232, .arr 3 1 true [.int .i64 0]),
  (7180, .arr 61 15 false [.agg [.int .i64 0, .int .i64 0, .ref 7232 1 0 1 none, .ref 7233 1 0 1 none, .imm 0 [] 0, .imm 0 [] 0, .int .u8 0, .int .i64 0, .imm 0 [] 0, .str [], .str [], .imm 0 [] 0, .imm 0 [] 0, .ref 7256 1 0 1 none, .int .i64 0]]),
  (7169, .arr 3 1 true [.int .i64 0]),
  (7168, .arr 3 1 true [.int .i64 0]),
  (7171, .arr 56 2 false [.agg [.ref 7168 1 0 1 none, .ref 7169 1 0 1 none]])], 7641,
 { d := .tuple [.agg [.int .i64 0, .ref 7693 2 0 1 none, .ref 7703 15 0 1 none, .imm 0 [] 0], .ref 7842 5 0 3 none, .imm 10 [] 0, .int .i64 0], vc := true, eff := [(7842, some (.arr 287 5 true [.agg [.int .u8 1, .int .i64 0, .int .i64 1, .int .i64 8, .str []], .agg [.int .u8 2, .int .i64 0, .int .i64 1, .int .i64 8, .str [1, 0, 1, 0, 0, 1, 107, 0]], .agg [.int .u8 3, .int .i64 0, .int .i64 1, .int .i64 0, .str [1, 0, 1, 0, 0, 1, 107, 0]]])),
  (7747, some (.arr 9 1 true [.str []])),
  (7770, some (.arr 119 5 true [.agg [.int .i64 0, .int .i64 0, .int .i64 0, .int .i64 0, .str []]])),
  (7839, some (.arr 9 1 true [.str [1, 0, 1, 0, 0, 1, 107, 0]])),
  (7746, some (.arr 3 1 true [.int .i64 0])),
  (7745, some (.arr 3 1 true [.int .i64 0])),
  (7703, some (.arr 61 15 false [.agg [.int .i64 0, .int .i64 0, .ref 7745 1 0 1 none, .ref 7746 1 0 1 none, .ref 7839 1 0 1 none, .ref 7770 5 0 0 none, .int .u8 0, .int .i64 0, .imm 0 [] 0, .str [], .str [], .imm 0 [] 0, .imm 0 [] 0, .ref 7747 1 0 0 none, .int .i64 0]])),
  (7691, some (.arr 3 1 true [.int .i64 0])),
  (7690, some (.arr 3 1 true [.int .i64 0])),
  (7693, some (.arr 56 2 false [.agg [.ref 7690 1 0 1 none, .ref 7691 1 0 1 none]]))], nw := (7641, 7909), met := [7256, 7233, 7232, 7180, 7169, 7168, 7171] }⟩
theorem Tryz.rI80 : runFQ (getLQ Tryz.ftLI) Tryz.ptI Tryz.tm 2000 (callN (callKQ [Tryz.eI77, Tryz.eI78, Tryz.eI76] noCall) (getLQ Tryz.ftLI) Tryz.ptI Tryz.tm 2000 60) Tryz.eI80.K Tryz.eI80.args Tryz.eI80.heap Tryz.eI80.nx = some Tryz.eI80.out := by kernel_rfl
theorem Tryz.kI80 : EntOk Tryz.prog Tryz.eI80 := entOk_of_runN Tryz.tmOk Tryz.tmMixed Tryz.ftOkI (l := [Tryz.eI77, Tryz.eI78, Tryz.eI76]) (.cons Tryz.kI77 (.cons Tryz.kI78 (.cons Tryz.kI76 .nil))) Tryz.rI80

def Tryz.eI81 : Ent := ⟨56, [.agg [.ref 7277 2 0 1 none, .ref 7301 8 0 1 none, .imm 0 [] 0]],
 [(7256, .arr 9 1 true [.str [1, 0, 1, 0, 0, 1, 107, 0]]),
  (7233, .arr 3 1 true [.int .i64 0]),
  (7232, .arr 3 1 true [.int .i64 0]),
  (7180, .arr 61 15 false [.agg [.int .i64 0, .int .i64 0, .ref 7232 1 0 1 none, .ref 7233 1 0 1 none, .imm 0 [] 0, .imm 0 [] 0, .int .u8 0, .int .i64 0, .imm 0 [] 0, .str [], .str [], .imm 0 [] 0, .imm 0 [] 0, .ref 7256 1 0 1 none, .int .i64 0]]),
  (7169, .arr 3 1 true [.int .i64 0]),
  (7168, .arr 3 1 true [.int .i64 0]),
  (7171, .arr 56 2 false [.agg [.ref 7168 1 0 1 none, .ref 7169 1 0 1 none]]),
  (7301, .arr 132 8 false [.agg [.bool true, .int .i64 0, .ref 7171 2 0 1 none, .ref 7180 15 0 1 none, .imm 0 [] 0, .imm 1 [] 0, .imm 0 [] 0, .imm 10 [] 0]]),
  (7275, .arr 3 1 true [.int .i64 0]),
  (7274, .arr 3 1 true [.int .i64 0]),
  (7277, .arr 56 2 false [.agg [.ref 7274 1 0 1 none, .ref 7275 1 0 1 none]])], 7436,
 { d := .int .i64 0, vc := true, eff := [], nw := (7436, 7552), met := [7256, 7233, 7232, 7180, 7169, 7168, 7171, 7301, 7275, 7274, 7277] }⟩
theorem Tryz.rI81 : runFQ (getLQ Tryz.ftLI) Tryz.ptI Tryz.tm 2000 (callN (callKQ [] noCall) (getLQ Tryz.ftLI) Tryz.ptI Tryz.tm 2000 60) Tryz.eI81.K Tryz.eI81.args Tryz.eI81.heap Tryz.eI81.nx = some Tryz.eI81.out := by kernel_rfl
theorem Tryz.kI81 : EntOk Tryz.prog Tryz.eI81 := entOk_of_runN Tryz.tmOk Tryz.tmMixed Tryz.ftOkI (l := []) .nil Tryz.rI81

def Tryz.eI82 : Ent := ⟨36, [.agg [.ref 7277 2 0 1 none, .ref 7301 8 0 1 none, .imm 0 [] 0, .ref 6946 1 0 1 none]],
 [(6946, .arr 3 1 true [.int .i64 1]),
  (7256, .arr 9 1 true [.str [1, 0, 1, 0, 0, 1, 107, 0]]),
  (7233, .arr 3 1 true [.int .i64 0]),
  (7232, .arr 3 1 true [.int .i64 0]),
  (7180, .arr 61 15 false [.agg [.int .i64 0, .int .i64 0, .ref 7232 1 0 1 none, .ref 7233 1 0 1 none, .imm 0 [] 0, .imm 0 [] 0, .int .u8 0, .int .i64 0, .imm 0 [] 0, .str [], .str [], .imm 0 [] 0, .imm 0 [] 0, .ref 7256 1 0 1 none, .int .i64 0]]),
  (7169, .arr 3 1 true [.int .i64 0]),
  (7168, .arr 3 1 true [.int .i64 0]),
  (7171, .arr 56 2 false [.agg [.ref 7168 1 0 1 none, .ref 7169 1 0 1 none]]),
  (7301, .arr 132 8 false [.agg [.bool true, .int .i64 0, .ref 7171 2 0 1 none, .ref 7180 15 0 1 none, .imm 0 [] 0, .imm 1 [] 0, .imm 0 [] 0, .imm 10 [] 0]]),
  (7275, .arr 3 1 true [.int .i64 0]),
  (7274, .arr 3 1 true [.int .i64 0]),
  (7277, .arr 56 2 false [.agg [.ref 7274 1 0 1 none, .ref 7275 1 0 1 none]])], 7316,
 { d := .int .i64 0, vc := true, eff := [], nw := (7316, 7433), met := [6946, 7256, 7233, 7232, 7180, 7169, 7168, 7171, 7301, 7275, 7274, 7277] }⟩
theorem Tryz.rI82 : runFQ (getLQ Tryz.ftLI) Tryz.ptI Tryz.tm 2000 (callN (callKQ [] noCall) (getLQ Tryz.ftLI) Tryz.ptI Tryz.tm 2000 60) Tryz.eI82.K Tryz.eI82.args Tryz.eI82.heap Tryz.eI82.nx = some Tryz.eI82.out := by kernel_rfl
theorem Tryz.kI82 : EntOk Tryz.prog Tryz.eI82 := entOk_of_runN Tryz.tmOk Tryz.tmMixed Tryz.ftOkI (l := []) .nil Tryz.rI82

def Tryz.eI83 : Ent := ⟨91, [.ptr 8138 0],
 [(7747, .arr 9 1 true [.str []]),
  (7770, .arr 119 5 true [.agg [.int .i64 0, .int .i64 0, .int .i64 0, .int .i64 0, .str []]]),
  (7839, .arr 9 1 true [.str [1, 0, 1, 0, 0, 1, 107, 0]]),
  (7746, .arr 3 1 true [.int .i64 0]),
  (7745, .arr 3 1 true [.int .i64 0]),
  (7703, .arr 61 15 false [.agg [.int .i64 0, .int .i64 0, .ref 7745 1 0 1 none, .ref 7746 1 0 1 none, .ref 7839 1 0 1 none, .ref 7770 5 0 0 none, .int .u8 0, .int .i64 0, .imm 0 [] 0, .str [], .str [], .imm 0 [] 0, .imm 0 [] 0, .ref 7747 1 0 0 none, .int .i64 0]]),
  (7691, .arr 3 1 true [.int .i64 0]),
  (7690, .arr 3 1 true [.int .i64 0]),
  (7693, .arr 56 2 false [.agg [.ref 7690 1 0 1 none, .ref 7691 1 0 1 none]]),
  (8138, .box [.int .i64 0, .ref 7693 2 0 1 none, .ref 7703 15 0 1 none, .imm 0 [] 0, .imm 0 [] 0, .imm 0 [] 0])], 8171,
 { d := .mref 8171, vc := true, eff := [(8171, some (.map []))], nw := (8171, 8236), met := [7747, 7770, 7839, 7746, 7745, 7703, 7691, 7690, 7693, 8138] }⟩
theorem Tryz.rI83 : runFQ (getLQ Tryz.ftLI) Tryz.ptI Tryz.tm 2000 (callN (callKQ [] noCall) (getLQ Tryz.ftLI) Tryz.ptI Tryz.tm 2000 60) Tryz.eI83.K Tryz.eI83.args Tryz.eI83.heap Tryz.eI83.nx = some Tryz.eI83.out := by kernel_rfl
theorem Tryz.kI83 : EntOk Tryz.prog Tryz.eI83 := entOk_of_runN Tryz.tmOk Tryz.tmMixed Tryz.ftOkI (l := []) .nil Tryz.rI83

def Tryz.eI84 : Ent := ⟨138, [.int .i64 1, .ref 8255 1 0 3 none],
 [(8255, .arr 9 1 true [.str [1, 0, 1, 8], .str [2, 0, 1, 8, 8, 1, 0, 1, 0, 0, 1, 107, 0], .str [3, 0, 1, 8, 1, 0, 1, 0, 0, 1, 107, 0]])], 8306,
 { d := .tuple [.agg [.ref 8308 1 0 1 (some 1), .ref 8324 5 0 0 none], .int .i64 0], vc := true, eff := [(8324, some (.arr 119 5 true [.agg [.int .i64 0, .int .i64 0, .int .i64 0, .int .i64 0, .str []]])),
  (8360, some (.arr 9 1 true [.str [1, 0, 1, 0, 0, 1, 107, 0]])),
  (8308, some (.arr 40 1 false [.ref 8360 1 0 1 none]))], nw := (8306, 8361), met := [8255] }⟩
theorem Tryz.rI84 : runFQ (getLQ Tryz.ftLI) Tryz.ptI Tryz.tm 2000 (callN (callKQ [] noCall) (getLQ Tryz.ftLI) Tryz.ptI Tryz.tm 2000 60) Tryz.eI84.K Tryz.eI84.args Tryz.eI84.heap Tryz.eI84.nx = some Tryz.eI84.out := by kernel_rfl
theorem Tryz.kI84 : EntOk Tryz.prog Tryz.eI84 := entOk_of_runN Tryz.tmOk Tryz.tmMixed Tryz.ftOkI (l := []) .nil Tryz.rI84

def Tryz.eI85 : Ent := ⟨120, [.agg [.bool true, .int .i64 0, .ref 7693 2 0 1 none, .ref 7703 15 0 1 none, .imm 0 [] 0, .imm 0 [] 0, .ref 8053 2 0 3 none, .imm 10 [] 0]],
 [(8051, .arr 5 1 true [.int .u8 12, .int .u8 3, .int .u8 0, .int .u8 1, .int .u8 8, .int .u8 1, .int .u8 0, .int .u8 1, .int .u8 0, .int .u8 0, .int .u8 1, .int .u8 107, .int .u8 0]),
  (8047, .arr 5 1 true [.int .u8 13, .int .u8 2, .int .u8 0, .int .u8 1, .int .u8 8, .int .u8 8, .int .u8 1, .int .u8 0, .int .u8 1, .int .u8 0, .int .u8 0, .int .u8 1, .int .u8 107, .int .u8 0]),
  (8043, .arr 5 1 true [.int .u8 4, .int .u8 1, .int .u8 0, .int .u8 1, .int .u8 8]),
  (8053, .arr 307 2 false [.agg [.bool false, .ref 8043 1 0 5 none], .agg [.bool false, .ref 8047 1 0 14 none], .agg [.bool false, .ref 8051 1 0 13 none]]),
  (7747, .arr 9 1 true [.str []]),
  (7770, .arr 119 5 true [.agg [.int .i64 0, .int .i64 0, .int .i64 0, .int .i64 0, .str []]]),
  (7839, .arr 9 1 true [.str [1, 0, 1, 0, 0, 1, 107, 0]]),
  (7746, .arr 3 1 true [.int .i64 0]),
  (7745, .arr 3 1 true [.int .i64 0]),
  (7703, .arr 61 15 false [.agg [.int .i64 0, .int .i64 0, .ref 7745 1 0 1 none, .ref 7746 1 0 1 none, .ref 7839 1 0 1 none, .ref 7770 5 0 0 none, .int .u8 0, .int .i64 0, .imm 0 [] 0, .str [], .str [], .imm 0 [] 0, .imm 0 [] 0, .ref 7747 1 0 0 none, .int .i64 0]]),
  (7691, .arr 3 1 true [.int .i64 0]),
  (7690, .arr 3 1 true [.int .i64 0]),
  (7693, .arr 56 2 false [.agg [.ref 7690 1 0 1 none, .ref 7691 1 0 1 none]])], 8131,
 { d := .int .i64 0, vc := true, eff := [], nw := (8131, 8370), met := [8051, 8047, 8043, 8053, 7747, 7770, 7839, 7746, 7745, 7703, 7691, 7690, 7693] }⟩
theorem Tryz.rI85 : runFQ (getLQ Tryz.ftLI) Tryz.ptI Tryz.tm 2000 (callN (callKQ [Tryz.eI84, Tryz.eI83] noCall) (getLQ Tryz.ftLI) Tryz.ptI Tryz.tm 2000 60) Tryz.eI85.K Tryz.eI85.args Tryz.eI85.heap Tryz.eI85.nx = some Tryz.eI85.out := by kernel_rfl
theorem Tryz.kI85 : EntOk Tryz.prog Tryz.eI85 := entOk_of_runN Tryz.tmOk Tryz.tmMixed Tryz.ftOkI (l := [Tryz.eI84, Tryz.eI83]) (.cons Tryz.kI84 (.cons Tryz.kI83 .nil)) Tryz.rI85

def Tryz.eI86 : Ent := ⟨91, [.ptr 8414 0],
 [(7747, .arr 9 1 true [.str []]),
  (7770, .arr 119 5 true [.agg [.int .i64 0, .int .i64 0, .int .i64 0, .int .i64 0, .str []]]),
  (7839, .arr 9 1 true [.str [1, 0, 1, 0, 0, 1, 107, 0]]),
  (7746, .arr 3 1 true [.int .i64 0]),
  (7745, .arr 3 1 true [.int .i64 0]),
  (7703, .arr 61 15 false [.agg [.int .i64 0, .int .i64 0, .ref 7745 1 0 1 none, .ref 7746 1 0 1 none, .ref 7839 1 0 1 none, .ref 7770 5 0 0 none, .int .u8 0, .int .i64 0, .imm 0 [] 0, .str [], .str [], .imm 0 [] 0, .imm 0 [] 0, .ref 7747 1 0 0 none, .int .i64 0]]),
  (7691, .arr 3 1 true [.int .i64 0]),
  (7690, .arr 3 1 true [.int .i64 0]),
  (7693, .arr 56 2 false [.agg [.ref 7690 1 0 1 none, .ref 7691 1 0 1 none]]),
  (8414, .box [.int .i64 0, .ref 7693 2 0 1 none, .ref 7703 15 0 1 none, .imm 0 [] 0, .imm 0 [] 0, .imm 0 [] 0])], 8447,
 { d := .mref 8447, vc := true, eff := [(8447, some (.map []))], nw := (8447, 8512), met := [7747, 7770, 7839, 7746, 7745, 7703, 7691, 7690, 7693, 8414] }⟩
theorem Tryz.rI86 : runFQ (getLQ Tryz.ftLI) Tryz.ptI Tryz.tm 2000 (callN (callKQ [] noCall) (getLQ Tryz.ftLI) Tryz.ptI Tryz.tm 2000 60) Tryz.eI86.K Tryz.eI86.args Tryz.eI86.heap Tryz.eI86.nx = some Tryz.eI86.out := by kernel_rfl
theorem Tryz.kI86 : EntOk Tryz.prog Tryz.eI86 := entOk_of_runN Tryz.tmOk Tryz.tmMixed Tryz.ftOkI (l := []) .nil Tryz.rI86

def Tryz.eI87 : Ent := ⟨138, [.int .i64 1, .ref 8531 1 0 3 none],
 [(8531, .arr 9 1 true [.str [1, 0, 1, 8], .str [2, 0, 1, 8, 8, 1, 0, 1, 0, 0, 1, 107, 0], .str [3, 0, 1, 8, 1, 0, 1, 0, 0, 1, 107, 0]])], 8582,
 { d := .tuple [.agg [.ref 8584 1 0 1 (some 1), .ref 8600 5 0 0 none], .int .i64 0], vc := true, eff := [(8600, some (.arr 119 5 true [.agg [.int .i64 0, .int .i64 0, .int .i64 0, .int .i64 0, .str []]])),
  (8636, some (.arr 9 1 true [.str [1, 0, 1, 0, 0, 1, 107, 0]])),
  (8584, some (.arr 40 1 false [.ref 8636 1 0 1 none]))], nw := (8582, 8637), met := [8531] }⟩
theorem Tryz.rI87 : runFQ (getLQ Tryz.ftLI) Tryz.ptI Tryz.tm 2000 (callN (callKQ [] noCall) (getLQ Tryz.ftLI) Tryz.ptI Tryz.tm 2000 60) Tryz.eI87.K Tryz.eI87.args Tryz.eI87.heap Tryz.eI87.nx = some Tryz.eI87.out := by kernel_rfl
theorem Tryz.kI87 : EntOk Tryz.prog Tryz.eI87 := entOk_of_runN Tryz.tmOk Tryz.tmMixed Tryz.ftOkI (l := []) .nil Tryz.rI87

def Tryz.eI88 : Ent := ⟨120, [.agg [.bool true, .int .i64 0, .ref 7693 2 0 1 none, .ref 7703 15 0 1 none, .imm 0 [] 0, .imm 0 [] 0, .ref 8053 2 0 3 none, .imm 10 [] 0]],
 [(8051, .arr 5 1 true [.int .u8 12, .int .u8 3, .int .u8 0, .int .u8 1, .int .u8 8, .int .u8 1, .int .u8 0, .int .u8 1, .int .u8 0, .int .u8 0, .int .u8 1, .int .u8 107, .int .u8 0]),
  (8047, .arr 5 1 true [.int .u8 13, .int .u8 2, .int .u8 0, .int .u8 1, .int .u8 8, .int .u8 8, .int .u8 1, .int .u8 0, .int .u8 1, .int .u8 0, .int .u8 0, .int .u8 1, .int .u8 107, .int .u8 0]),
  (8043, .arr 5 1 true [.int .u8 4, .int .u8 1, .int .u8 0, .int .u8 1, .int .u8 8]),
  (8053, .arr 307 2 false [.agg [.bool false, .ref 8043 1 0 5 none], .agg [.bool false, .ref 8047 1 0 14 none], .agg [.bool false, .ref 8051 1 0 13 none]]),
  (7747, .arr 9 1 true [.str []]),
  (7770, .arr 119 5 true [.agg [.int .i64 0, .int .i64 0, .int .i64 0, .int .i64 0, .str []]]),
  (7839, .arr 9 1 true [.str [1, 0, 1, 0, 0, 1, 107, 0]]),
  (7746, .arr 3 1 true [.int .i64 0]),
  (7745, .arr 3 1 true [.int .i64 0]),
  (7703, .arr 61 15 false [.agg [.int .i64 0, .int .i64 0, .ref 7745 1 0 1 none, .ref 7746 1 0 1 none, .ref 7839 1 0 1 none, .ref 7770 5 0 0 none, .int .u8 0, .int .i64 0, .imm 0 [] 0, .str [], .str [], .imm 0 [] 0, .imm 0 [] 0, .ref 7747 1 0 0 none, .int .i64 0]]),
  (7691, .arr 3 1 true [.int .i64 0]),
  (7690, .arr 3 1 true [.int .i64 0]),
  (7693, .arr 56 2 false [.agg [.ref 7690 1 0 1 none, .ref 7691 1 0 1 none]])], 8407,
 { d := .int .i64 0, vc := true, eff := [], nw := (8407, 8646), met := [8051, 8047, 8043, 8053, 7747, 7770, 7839, 7746, 7745, 7703, 7691, 7690, 7693] }⟩
theorem Tryz.rI88 : runFQ (getLQ Tryz.ftLI) Tryz.ptI Tryz.tm 2000 (callN (callKQ [Tryz.eI87, Tryz.eI86] noCall) (getLQ Tryz.ftLI) Tryz.ptI Tryz.tm 2000 60) Tryz.eI88.K Tryz.eI88.args Tryz.eI88.heap Tryz.eI88.nx = some Tryz.eI88.out := by kernel_rfl
theorem Tryz.kI88 : EntOk Tryz.prog Tryz.eI88 := entOk_of_runN Tryz.tmOk Tryz.tmMixed Tryz.ftOkI (l := [Tryz.eI87, Tryz.eI86]) (.cons Tryz.kI87 (.cons Tryz.kI86 .nil)) Tryz.rI88

def Tryz.eI89 : Ent := ⟨91, [.ptr 8664 0],
 [(7747, .arr 9 1 true [.str []]),
  (7770, .arr 119 5 true [.agg [.int .i64 0, .int .i64 0, .int .i64 0, .int .i64 0, .str []]]),
  (7839, .arr 9 1 true [.str [1, 0, 1, 0, 0, 1, 107, 0]]),
  (7746, .arr 3 1 true [.int .i64 0]),
  (7745, .arr 3 1 true [.int .i64 0]),
  (7703, .arr 61 15 false [.agg [.int .i64 0, .int .i64 0, .ref 7745 1 0 1 none, .ref 7746 1 0 1 none, .ref 7839 1 0 1 none, .ref 7770 5 0 0 none, .int .u8 0, .int .i64 0, .imm 0 [] 0, .str [], .str [], .imm 0 [] 0, .imm 0 [] 0, .ref 7747 1 0 0 none, .int .i64 0]]),
  (7691, .arr 3 1 true [.int .i64 0]),
  (7690, .arr 3 1 true [.int .i64 0]),
  (7693, .arr 56 2 false [.agg [.ref 7690 1 0 1 none, .ref 7691 1 0 1 none]]),
  (8664, .box [.int .i64 0, .ref 7693 2 0 1 none, .ref 7703 15 0 1 none, .imm 0 [] 0, .imm 0 [] 0, .imm 0 [] 0])], 8697,
 { d := .mref 8697, vc := true, eff := [(8697, some (.map []))], nw := (8697, 8762), met := [7747, 7770, 7839, 7746, 7745, 7703, 7691, 7690, 7693, 8664] }⟩
theorem Tryz.rI89 : runFQ (getLQ Tryz.ftLI) Tryz.ptI Tryz.tm 2000 (callN (callKQ [] noCall) (getLQ Tryz.ftLI) Tryz.ptI Tryz.tm 2000 60) Tryz.eI89.K Tryz.eI89.args Tryz.eI89.heap Tryz.eI89.nx = some Tryz.eI89.out := by kernel_rfl
theorem Tryz.kI89 : EntOk Tryz.prog Tryz.eI89 := entOk_of_runN Tryz.tmOk Tryz.tmMixed Tryz.ftOkI (l := []) .nil Tryz.rI89

def Tryz.eI90 : Ent := ⟨138, [.int .i64 1, .ref 8781 1 0 3 none],
 [(8781, .arr 9 1 true [.str [1, 0, 1, 8], .str [2, 0, 1, 8, 8, 1, 0, 1, 0, 0, 1, 107, 0], .str [3, 0, 1, 8, 1, 0, 1, 0, 0, 1, 107, 0]])], 8832,
 { d := .tuple [.agg [.ref 8834 1 0 1 (some 1), .ref 8850 5 0 0 none], .int .i64 0], vc := true, eff := [(8850, some (.arr 119 5 true [.agg [.int .i64 0, .int .i64 0, .int .i64 0, .int .i64 0, .str []]])),
  (8886, some (.arr 9 1 true [.str [1, 0, 1, 0, 0, 1, 107, 0]])),
  (8834, some (.arr 40 1 false [.ref 8886 1 0 1 none]))], nw := (8832, 8887), met := [8781] }⟩
theorem Tryz.rI90 : runFQ (getLQ Tryz.ftLI) Tryz.ptI Tryz.tm 2000 (callN (callKQ [] noCall) (getLQ Tryz.ftLI) Tryz.ptI Tryz.tm 2000 60) Tryz.eI90.K Tryz.eI90.args Tryz.eI90.heap Tryz.eI90.nx = some Tryz.eI90.out := by kernel_rfl
theorem Tryz.kI90 : EntOk Tryz.prog Tryz.eI90 := entOk_of_runN Tryz.tmOk Tryz.tmMixed Tryz.ftOkI (l := []) .nil Tryz.rI90

def Tryz.eI91 : Ent := ⟨91, [.ptr 8899 0],
 [(7747, .arr 9 1 true [.str []]),
  (7770, .arr 119 5 true [.agg [.int .i64 0, .int .i64 0, .int .i64 0, .int .i64 0, .str []]]),
  (7839, .arr 9 1 true [.str [1, 0, 1, 0, 0, 1, 107, 0]]),
  (7746, .arr 3 1 true [.int .i64 0]),
  (7745, .arr 3 1 true [.int .i64 0]),
  (7703, .arr 61 15 false [.agg [.int .i64 0, .int .i64 0, .ref 7745 1 0 1 none, .ref 7746 1 0 1 none, .ref 7839 1 0 1 none, .ref 7770 5 0 0 none, .int .u8 0, .int .i64 0, .imm 0 [] 0, .str [], .str [], .imm 0 [] 0, .imm 0 [] 0, .ref 7747 1 0 0 none, .int .i64 0]]),
  (7691, .arr 3 1 true [.int .i64 0]),
  (7690, .arr 3 1 true [.int .i64 0]),
  (7693, .arr 56 2 false [.agg [.ref 7690 1 0 1 none, .ref 7691 1 0 1 none]]),
  (8899, .box [.int .i64 0, .ref 7693 2 0 1 none, .ref 7703 15 0 1 none, .imm 0 [] 0, .imm 0 [] 0, .imm 0 [] 0])], 8932,
 { d := .mref 8932, vc := true, eff := [(8932, some (.map []))], nw := (8932, 8997), met := [7747, 7770, 7839, 7746, 7745, 7703, 7691, 7690, 7693, 8899] }⟩
theorem Tryz.rI91 : runFQ (getLQ Tryz.ftLI) Tryz.ptI Tryz.tm 2000 (callN (callKQ [] noCall) (getLQ Tryz.ftLI) Tryz.ptI Tryz.tm 2000 60) Tryz.eI91.K Tryz.eI91.args Tryz.eI91.heap Tryz.eI91.nx = some Tryz.eI91.out := by kernel_rfl
theorem Tryz.kI91 : EntOk Tryz.prog Tryz.eI91 := entOk_of_runN Tryz.tmOk Tryz.tmMixed Tryz.ftOkI (l := []) .nil Tryz.rI91

def Tryz.eI92 : Ent := ⟨43, [.ptr 9015 0, .int .i64 0, .agg [.int .u8 2, .int .i64 0, .imm 0 [] 0, .int .i64 0, .str [], .str [], .int .i64 0, .int .i64 1, .imm 0 [] 0, .int .i64 0, .int .i64 0, .int .i64 0]],
 [(9010, .arr 9 1 true [.str [1, 0, 1, 0, 0, 1, 107, 0]]),
  (9009, .arr 3 1 true [.int .i64 0]),
  (9008, .arr 3 1 true [.int .i64 0]),
  (9014, .arr 61 15 false [.agg [.int .i64 0, .int .i64 0, .ref 9008 1 0 1 none, .ref 9009 1 0 1 none, .ref 9010 1 0 1 none, .imm 5 [] 9, .int .u8 0, .int .i64 0, .imm 0 [] 0, .str [], .str [], .imm 0 [] 0, .imm 0 [] 0, .imm 1 [] 9, .int .i64 0]]),
  (9002, .arr 3 1 true [.int .i64 0]),
  (9001, .arr 3 1 true [.int .i64 0]),
  (9004, .arr 56 2 false [.agg [.ref 9001 1 0 1 none, .ref 9002 1 0 1 none]]),
  (9015, .box [.int .i64 0, .ref 9004 2 0 1 none, .ref 9014 15 0 1 none, .imm 0 [] 0, .imm 0 [] 0, .imm 0 [] 0])], 9147,
 { d := .int .i64 0, vc := true, eff := [(9014, some (.arr 61 15 false [.agg [.int .i64 0, .int .i64 0, .ref 9202 1 0 1 none, .ref 9203 1 0 1 none, .ref 9204 1 0 1 none, .imm 5 [] 9, .int .u8 0, .int .i64 0, .imm 0 [] 0, .str [], .str [], .imm 0 [] 0, .imm 0 [] 0, .ref 9224 1 0 1 none, .int .i64 0]])),
  (9224, some (.arr 9 1 true [.str [2, 0, 1]])),
  (9204, some (.arr 9 1 true [.str [1, 0, 1, 0, 0, 1, 107, 0]])),
  (9203, some (.arr 3 1 true [.int .i64 0])),
  (9202, some (.arr 3 1 true [.int .i64 0]))], nw := (9147, 9226), met := [9010, 9009, 9008, 9014, 9002, 9001, 9004, 9015] }⟩
theorem Tryz.rI92 : runFQ (getLQ Tryz.ftLI) Tryz.ptI Tryz.tm 2000 (callN (callKQ [] noCall) (getLQ Tryz.ftLI) Tryz.ptI Tryz.tm 2000 60) Tryz.eI92.K Tryz.eI92.args Tryz.eI92.heap Tryz.eI92.nx = some Tryz.eI92.out := by kernel_rfl
theorem Tryz.kI92 : EntOk Tryz.prog Tryz.eI92 := entOk_of_runN Tryz.tmOk Tryz.tmMixed Tryz.ftOkI (l := []) .nil Tryz.rI92

def Tryz.eI93 : Ent := ⟨231, [.agg [.ref 9273 1 0 1 none, .ref 9274 1 0 1 none], .ref 9275 1 0 1 none],
 [(9275, .arr 9 1 true [.str [1, 0, 1, 0, 0, 1, 107, 0]]),
  (9274, .arr 3 1 true [.int .i64 0]),
  (9273, .arr 3 1 true [.int .i64 0])], 9280,
 { d := .tuple [.ref 9306 1 0 1 none, .int .i64 0], vc := true, eff := [(9306, some (.arr 3 1 true [.int .i64 0]))], nw := (9280, 9307), met := [9275, 9274, 9273] }⟩
theorem Tryz.rI93 : runFI (getL Tryz.frLI) (getL Tryz.fyLI) Tryz.ptI Tryz.tm 2000 (callN (callKQ [] noCall) (getLQ Tryz.ftLI) Tryz.ptI Tryz.tm 2000 60) Tryz.eI93.K Tryz.eI93.args Tryz.eI93.heap Tryz.eI93.nx = some Tryz.eI93.out := by kernel_rfl
theorem Tryz.kI93 : EntOk Tryz.prog Tryz.eI93 := entOk_of_runNI Tryz.tmOk Tryz.tmMixed Tryz.ftOkI Tryz.frOkI Tryz.fyOkI (l := []) .nil Tryz.rI93

def Tryz.eI94 : Ent := ⟨112, [.ptr 9279 0],
 [(9276, .arr 9 1 true [.str [2, 0, 1]]),
  (9275, .arr 9 1 true [.str [1, 0, 1, 0, 0, 1, 107, 0]]),
  (9274, .arr 3 1 true [.int .i64 0]),
  (9273, .arr 3 1 true [.int .i64 0]),
  (9279, .box [.int .i64 0, .int .i64 0, .ref 9273 1 0 1 none, .ref 9274 1 0 1 none, .ref 9275 1 0 1 none, .imm 5 [] 9, .int .u8 0, .int .i64 0, .imm 0 [] 0, .str [], .str [], .imm 0 [] 0, .imm 0 [] 0, .ref 9276 1 0 1 none, .int .i64 0, .imm 0 [] 0, .imm 0 [] 0])], 9280,
 { d := .tuple [], vc := true, eff := [(9275, none),
  (9276, some (.arr 9 1 true [.str []])),
  (9279, some (.box [.int .i64 0, .int .i64 0, .ref 9273 1 0 1 none, .ref 9274 1 0 1 none, .ref 9389 1 0 2 none, .ref 9320 5 0 0 none, .int .u8 0, .int .i64 0, .imm 0 [] 0, .str [], .str [], .imm 0 [] 0, .imm 0 [] 0, .ref 9276 1 0 0 none, .int .i64 0, .ref 9383 5 0 3 none, .imm 0 [] 0])),
  (9383, some (.arr 287 5 true [.agg [.int .u8 1, .int .i64 0, .int .i64 2, .int .i64 8, .str []], .agg [.int .u8 2, .int .i64 0, .int .i64 2, .int .i64 8, .str [2, 0, 1]], .agg [.int .u8 3, .int .i64 0, .int .i64 2, .int .i64 0, .str [2, 0, 1]]])),
  (9320, some (.arr 119 5 true [.agg [.int .i64 0, .int .i64 0, .int .i64 0, .int .i64 0, .str []]])),
  (9389, some (.arr 9 1 true [.str [1, 0, 1, 0, 0, 1, 107, 0], .str [2, 0, 1]]))], nw := (9280, 9391), met := [9276, 9275, 9274, 9273, 9279] }⟩
theorem Tryz.rI94 : runFQ (getLQ Tryz.ftLI) Tryz.ptI Tryz.tm 2000 (callN (callKQ [Tryz.eI93] noCall) (getLQ Tryz.ftLI) Tryz.ptI Tryz.tm 2000 60) Tryz.eI94.K Tryz.eI94.args Tryz.eI94.heap Tryz.eI94.nx = some Tryz.eI94.out := by kernel_rfl
theorem Tryz.kI94 : EntOk Tryz.prog Tryz.eI94 := entOk_of_runN Tryz.tmOk Tryz.tmMixed Tryz.ftOkI (l := [Tryz.eI93]) (.cons Tryz.kI93 .nil) Tryz.rI94

def Tryz.eI95 : Ent := ⟨52, [.ptr 9015 0],
 [(9392, .arr 287 5 true [.agg [.int .u8 1, .int .i64 0, .int .i64 2, .int .i64 8, .str []], .agg [.int .u8 2, .int .i64 0, .int .i64 2, .int .i64 8, .str [2, 0, 1]], .agg [.int .u8 3, .int .i64 0, .int .i64 2, .int .i64 0, .str [2, 0, 1]]]),
  (9276, .arr 9 1 true [.str []]),
  (9320, .arr 119 5 true [.agg [.int .i64 0, .int .i64 0, .int .i64 0, .int .i64 0, .str []]]),
  (9389, .arr 9 1 true [.str [1, 0, 1, 0, 0, 1, 107, 0], .str [2, 0, 1]]),
  (9274, .arr 3 1 true [.int .i64 0]),
  (9273, .arr 3 1 true [.int .i64 0]),
  (9014, .arr 61 15 false [.agg [.int .i64 0, .int .i64 0, .ref 9273 1 0 1 none, .ref 9274 1 0 1 none, .ref 9389 1 0 2 none, .ref 9320 5 0 0 none, .int .u8 0, .int .i64 0, .imm 0 [] 0, .str [], .str [], .imm 0 [] 0, .imm 0 [] 0, .ref 9276 1 0 0 none, .int .i64 0]]),
  (9002, .arr 3 1 true [.int .i64 0]),
  (9001, .arr 3 1 true [.int .i64 0]),
  (9004, .arr 56 2 false [.agg [.ref 9001 1 0 1 none, .ref 9002 1 0 1 none]]),
  (9015, .box [.int .i64 0, .ref 9004 2 0 1 none, .ref 9014 15 0 1 none, .imm 0 [] 0, .ref 9392 5 0 3 none, .imm 10 [] 0])], 9393,
 { d := .tuple [], vc := true, eff := [(9015, some (.box [.int .i64 0, .ref 9004 2 0 1 none, .ref 9014 15 0 1 none, .imm 0 [] 0, .ref 9392 5 0 3 none, .imm 10 [] 0]))], nw := (9393, 9514), met := [9392, 9276, 9320, 9389, 9274, 9273, 9014, 9002, 9001, 9004, 9015] }⟩
theorem Tryz.rI95 : runFQ (getLQ Tryz.ftLI) Tryz.ptI Tryz.tm 2000 (callN (callKQ [] noCall) (getLQ Tryz.ftLI) Tryz.ptI Tryz.tm 2000 60) Tryz.eI95.K Tryz.eI95.args Tryz.eI95.heap Tryz.eI95.nx = some Tryz.eI95.out := by kernel_rfl
theorem Tryz.kI95 : EntOk Tryz.prog Tryz.eI95 := entOk_of_runN Tryz.tmOk Tryz.tmMixed Tryz.ftOkI (l := []) .nil Tryz.rI95

def Tryz.eI96 : Ent := ⟨50, [.ptr 9015 0, .int .i64 0, .fn (.func 51) []],
 [(9224, .arr 9 1 true [.str [2, 0, 1]]),
  (9204, .arr 9 1 true [.str [1, 0, 1, 0, 0, 1, 107, 0]]),
  (9203, .arr 3 1 true [.int .i64 0]),
  (9202, .arr 3 1 true [.int .i64 0]),
  (9014, .arr 61 15 false [.agg [.int .i64 0, .int .i64 0, .ref 9202 1 0 1 none, .ref 9203 1 0 1 none, .ref 9204 1 0 1 none, .imm 5 [] 9, .int .u8 0, .int .i64 0, .imm 0 [] 0, .str [], .str [], .imm 0 [] 0, .imm 0 [] 0, .ref 9224 1 0 1 none, .int .i64 0]]),
  (9002, .arr 3 1 true [.int .i64 0]),
  (9001, .arr 3 1 true [.int .i64 0]),
  (9004, .arr 56 2 false [.agg [.ref 9001 1 0 1 none, .ref 9002 1 0 1 none]]),
  (9015, .box [.int .i64 0, .ref 9004 2 0 1 none, .ref 9014 15 0 1 none, .imm 0 [] 0, .imm 0 [] 0, .imm 0 [] 0])], 9226,
 { d := .int .i64 0, vc := true, eff := [(9015, some (.box [.int .i64 0, .ref 9004 2 0 1 none, .ref 9014 15 0 1 none, .imm 0 [] 0, .ref 9392 5 0 3 none, .imm 10 [] 0])),
  (9014, some (.arr 61 15 false [.agg [.int .i64 0, .int .i64 0, .ref 9273 1 0 1 none, .ref 9274 1 0 1 none, .ref 9389 1 0 2 none, .ref 9320 5 0 0 none, .int .u8 0, .int .i64 0, .imm 0 [] 0, .str [], .str [], .imm 0 [] 0, .imm 0 [] 0, .ref 9276 1 0 0 none, .int .i64 0]])),
  (9392, some (.arr 287 5 true [.agg [.int .u8 1, .int .i64 0, .int .i64 2, .int .i64 8, .str []], .agg [.int .u8 2, .int .i64 0, .int .i64 2, .int .i64 8, .str [2, 0, 1]], .agg [.int .u8 3, .int .i64 0, .int .i64 2, .int .i64 0, .str [2, 0, 1]]])),
  (9276, some (.arr 9 1 true [.str []])),
  (9320, some (.arr 119 5 true [.agg [.int .i64 0, .int .i64 0, .int .i64 0, .int .i64 0, .str []]])),
  (9389, some (.arr 9 1 true [.str [1, 0, 1, 0, 0, 1, 107, 0], .str [2, 0, 1]])),
  (9274, some (.arr 3 1 true [.int .i64 0])),
  (9273, some (.arr 3 1 true [.int .i64 0]))], nw := (9226, 9393), met := [9224, 9204, 9203, 9202, 9014, 9002, 9001, 9004, 9015] }⟩
theorem Tryz.rI96 : runFQ (getLQ Tryz.ftLI) Tryz.ptI Tryz.tm 2000 (callN (callKQ [Tryz.eI94] noCall) (getLQ Tryz.ftLI) Tryz.ptI Tryz.tm 2000 60) Tryz.eI96.K Tryz.eI96.args Tryz.eI96.heap Tryz.eI96.nx = some Tryz.eI96.out := by kernel_rfl
theorem Tryz.kI96 : EntOk Tryz.prog Tryz.eI96 := entOk_of_runN Tryz.tmOk Tryz.tmMixed Tryz.ftOkI (l := [Tryz.eI94]) (.cons Tryz.kI94 .nil) Tryz.rI96

end Go.Proofs

/- Known calls of one closed run, each reckoned by itself; by program (genknow.py). -/
import Derived.KernelRfl
import Derived.WideKeyArgs
import Derived.ChangeSame
import Derived.ChangeArms
import Derived.OpenShut
import Derived.Carry
import Derived.Test.YtggdmadjpakkbaaGreatClientNamesPk
import Derived.Test.YtggdmadjpakkbaaGreatClientNamesPf
section
namespace Go.Proofs
open Go.Tm
set_option maxRecDepth 100000

def Tryz.eI97 : Ent := ⟨49, [.ptr 9015 0, .int .i64 0, .agg [.int .i64 0, .ref 9076 1 0 1 none, .int .i64 0, .str [107], .str []]],
 [(9076, .arr 3 1 true [.int .i64 0]),
  (9010, .arr 9 1 true [.str [1, 0, 1, 0, 0, 1, 107, 0]]),
  (9009, .arr 3 1 true [.int .i64 0]),
  (9008, .arr 3 1 true [.int .i64 0]),
  (9014, .arr 61 15 false [.agg [.int .i64 0, .int .i64 0, .ref 9008 1 0 1 none, .ref 9009 1 0 1 none, .ref 9010 1 0 1 none, .imm 5 [] 9, .int .u8 0, .int .i64 0, .imm 0 [] 0, .str [], .str [], .imm 0 [] 0, .imm 0 [] 0, .imm 1 [] 9, .int .i64 0]]),
  (9002, .arr 3 1 true [.int .i64 0]),
  (9001, .arr 3 1 true [.int .i64 0]),
  (9004, .arr 56 2 false [.agg [.ref 9001 1 0 1 none, .ref 9002 1 0 1 none]]),
  (9015, .box [.int .i64 0, .ref 9004 2 0 1 none, .ref 9014 15 0 1 none, .imm 0 [] 0, .imm 0 [] 0, .imm 0 [] 0])], 9080,
 { d := .tuple [], vc := true, eff := [(9014, some (.arr 61 15 false [.agg [.int .i64 0, .int .i64 0, .ref 9202 1 0 1 none, .ref 9203 1 0 1 none, .ref 9204 1 0 1 none, .imm 5 [] 9, .int .u8 0, .int .i64 0, .imm 0 [] 0, .str [], .str [], .imm 0 [] 0, .imm 0 [] 0, .ref 9224 1 0 1 none, .int .i64 0]])),
  (9224, some (.arr 9 1 true [.str [2, 0, 1]])),
  (9204, some (.arr 9 1 true [.str [1, 0, 1, 0, 0, 1, 107, 0]])),
  (9203, some (.arr 3 1 true [.int .i64 0])),
  (9202, some (.arr 3 1 true [.int .i64 0]))], nw := (9080, 9226), met := [9076, 9010, 9009, 9008, 9014, 9002, 9001, 9004, 9015] }⟩
theorem Tryz.rI97 : runFQ (getLQ Tryz.ftLI) Tryz.ptI Tryz.tm 2000 (callN (callKQ [Tryz.eI92] noCall) (getLQ Tryz.ftLI) Tryz.ptI Tryz.tm 2000 60) Tryz.eI97.K Tryz.eI97.args Tryz.eI97.heap Tryz.eI97.nx = some Tryz.eI97.out := by kernel_rfl
theorem Tryz.kI97 : EntOk Tryz.prog Tryz.eI97 := entOk_of_runN Tryz.tmOk Tryz.tmMixed Tryz.ftOkI (l := [Tryz.eI92]) (.cons Tryz.kI92 .nil) Tryz.rI97

def Tryz.eI98 : Ent := ⟨48, [.agg [.int .i64 0, .int .i64 0, .ref 7745 1 0 1 none, .ref 7746 1 0 1 none, .ref 7839 1 0 1 none, .ref 7770 5 0 0 none, .int .u8 0, .int .i64 0, .imm 0 [] 0, .str [], .str [], .imm 0 [] 0, .imm 0 [] 0, .ref 7747 1 0 0 none, .int .i64 0]],
 [(7747, .arr 9 1 true [.str []]),
  (7770, .arr 119 5 true [.agg [.int .i64 0, .int .i64 0, .int .i64 0, .int .i64 0, .str []]]),
  (7839, .arr 9 1 true [.str [1, 0, 1, 0, 0, 1, 107, 0]]),
  (7746, .arr 3 1 true [.int .i64 0]),
  (7745, .arr 3 1 true [.int .i64 0])], 9017,
 { d := .ref 9075 7 0 1 none, vc := true, eff := [(9076, some (.arr 3 1 true [.int .i64 0])),
  (9075, some (.arr 123 7 false [.agg [.int .i64 0, .ref 9076 1 0 1 none, .int .i64 0, .str [107], .str [], .int .i64 1, .bool false]]))], nw := (9017, 9079), met := [7747, 7770, 7839, 7746, 7745] }⟩
theorem Tryz.rI98 : runFQ (getLQ Tryz.ftLI) Tryz.ptI Tryz.tm 2000 (callN (callKQ [] noCall) (getLQ Tryz.ftLI) Tryz.ptI Tryz.tm 2000 60) Tryz.eI98.K Tryz.eI98.args Tryz.eI98.heap Tryz.eI98.nx = some Tryz.eI98.out := by kernel_rfl
theorem Tryz.kI98 : EntOk Tryz.prog Tryz.eI98 := entOk_of_runN Tryz.tmOk Tryz.tmMixed Tryz.ftOkI (l := []) .nil Tryz.rI98

def Tryz.eI99 : Ent := ⟨131, [.agg [.bool true, .int .i64 0, .ref 7693 2 0 1 none, .ref 7703 15 0 1 none, .imm 0 [] 0, .imm 0 [] 0, .ref 8053 2 0 3 none, .imm 10 [] 0], .bool true],
 [(8051, .arr 5 1 true [.int .u8 12, .int .u8 3, .int .u8 0, .int .u8 1, .int .u8 8, .int .u8 1, .int .u8 0, .int .u8 1, .int .u8 0, .int .u8 0, .int .u8 1, .int .u8 107, .int .u8 0]),
  (8047, .arr 5 1 true [.int .u8 13, .int .u8 2, .int .u8 0, .int .u8 1, .int .u8 8, .int .u8 8, .int .u8 1, .int .u8 0, .int .u8 1, .int .u8 0, .int .u8 0, .int .u8 1, .int .u8 107, .int .u8 0]),
  (8043, .arr 5 1 true [.int .u8 4, .int .u8 1, .int .u8 0, .int .u8 1, .int .u8 8]),
  (8053, .arr 307 2 false [.agg [.bool false, .ref 8043 1 0 5 none], .agg [.bool false, .ref 8047 1 0 14 none], .agg [.bool false, .ref 8051 1 0 13 none]]),
  (7747, .arr 9 1 true [.str []]),
  (7770, .arr 119 5 true [.agg [.int .i64 0, .int .i64 0, .int .i64 0, .int .i64 0, .str []]]),
  (7839, .arr 9 1 true [.str [1, 0, 1, 0, 0, 1, 107, 0]]),
  (7746, .arr 3 1 true [.int .i64 0]),
  (7745, .arr 3 1 true [.int .i64 0]),
  (7703, .arr 61 15 false [.agg [.int .i64 0, .int .i64 0, .ref 7745 1 0 1 none, .ref 7746 1 0 1 none, .ref 7839 1 0 1 none, .ref 7770 5 0 0 none, .int .u8 0, .int .i64 0, .imm 0 [] 0, .str [], .str [], .imm 0 [] 0, .imm 0 [] 0, .ref 7747 1 0 0 none, .int .i64 0]]),
  (7691, .arr 3 1 true [.int .i64 0]),
  (7690, .arr 3 1 true [.int .i64 0]),
  (7693, .arr 56 2 false [.agg [.ref 7690 1 0 1 none, .ref 7691 1 0 1 none]])], 8656,
 { d := .int .i64 0, vc := true, eff := [], nw := (8656, 8896), met := [8051, 8047, 8043, 8053, 7747, 7770, 7839, 7746, 7745, 7703, 7691, 7690, 7693] }⟩
theorem Tryz.rI99 : runFQ (getLQ Tryz.ftLI) Tryz.ptI Tryz.tm 2000 (callN (callKQ [Tryz.eI90, Tryz.eI89] noCall) (getLQ Tryz.ftLI) Tryz.ptI Tryz.tm 2000 60) Tryz.eI99.K Tryz.eI99.args Tryz.eI99.heap Tryz.eI99.nx = some Tryz.eI99.out := by kernel_rfl
theorem Tryz.kI99 : EntOk Tryz.prog Tryz.eI99 := entOk_of_runN Tryz.tmOk Tryz.tmMixed Tryz.ftOkI (l := [Tryz.eI90, Tryz.eI89]) (.cons Tryz.kI90 (.cons Tryz.kI89 .nil)) Tryz.rI99

def Tryz.eI100 : Ent := ⟨15, [.agg [.int .i64 0, .ref 7693 2 0 1 none, .ref 7703 15 0 1 none, .imm 0 [] 0]],
 [(7747, .arr 9 1 true [.str []]),
  (7770, .arr 119 5 true [.agg [.int .i64 0, .int .i64 0, .int .i64 0, .int .i64 0, .str []]]),
  (7839, .arr 9 1 true [.str [1, 0, 1, 0, 0, 1, 107, 0]]),
  (7746, .arr 3 1 true [.int .i64 0]),
  (7745, .arr 3 1 true [.int .i64 0]),
  (7703, .arr 61 15 false [.agg [.int .i64 0, .int .i64 0, .ref 7745 1 0 1 none, .ref 7746 1 0 1 none, .ref 7839 1 0 1 none, .ref 7770 5 0 0 none, .int .u8 0, .int .i64 0, .imm 0 [] 0, .str [], .str [], .imm 0 [] 0, .imm 0 [] 0, .ref 7747 1 0 0 none, .int .i64 0]]),
  (7691, .arr 3 1 true [.int .i64 0]),
  (7690, .arr 3 1 true [.int .i64 0]),
  (7693, .arr 56 2 false [.agg [.ref 7690 1 0 1 none, .ref 7691 1 0 1 none]])], 8896,
 { d := .tuple [.agg [.int .i64 0, .ref 9004 2 0 1 none, .ref 9014 15 0 1 none, .imm 0 [] 0], .ref 9392 5 0 3 none, .imm 10 [] 0, .int .i64 0], vc := true, eff := [(9392, some (.arr 287 5 true [.agg [.int .u8 1, .int .i64 0, .int .i64 2, .int .i64 8, .str []], .agg [.int .u8 2, .int .i64 0, .int .i64 2, .int .i64 8, .str [2, 0, 1]], .agg [.int .u8 3, .int .i64 0, .int .i64 2, .int .i64 0, .str [2, 0, 1]]])),
  (9276, some (.arr 9 1 true [.str []])),
  (9320, some (.arr 119 5 true [.agg [.int .i64 0, .int .i64 0, .int .i64 0, .int .i64 0, .str []]])),
  (9389, some (.arr 9 1 true [.str [1, 0, 1, 0, 0, 1, 107, 0], .str [2, 0, 1]])),
  (9274, some (.arr 3 1 true [.int .i64 0])),
  (9273, some (.arr 3 1 true [.int .i64 0])),
  (9014, some (.arr 61 15 false [.agg [.int .i64 0, .int .i64 0, .ref 9273 1 0 1 none, .ref 9274 1 0 1 none, .ref 9389 1 0 2 none, .ref 9320 5 0 0 none, .int .u8 0, .int .i64 0, .imm 0 [] 0, .str [], .str [], .imm 0 [] 0, .imm 0 [] 0, .ref 9276 1 0 0 none, .int .i64 0]])),
  (9002, some (.arr 3 1 true [.int .i64 0])),
  (9001, some (.arr 3 1 true [.int .i64 0])),
  (9004, some (.arr 56 2 false [.agg [.ref 9001 1 0 1 none, .ref 9002 1 0 1 none]]))], nw := (8896, 9514), met := [7747, 7770, 7839, 7746, 7745, 7703, 7691, 7690, 7693] }⟩
theorem Tryz.rI100 : runFQ (getLQ Tryz.ftLI) Tryz.ptI Tryz.tm 2000 (callN (callKQ [Tryz.eI95, Tryz.eI96, Tryz.eI97, Tryz.eI98, Tryz.eI91] noCall) (getLQ Tryz.ftLI) Tryz.ptI Tryz.tm 2000 60) Tryz.eI100.K Tryz.eI100.args Tryz.eI100.heap Tryz.eI100.nx = some Tryz.eI100.out := by kernel_rfl
theorem Tryz.kI100 : EntOk Tryz.prog Tryz.eI100 := entOk_of_runN Tryz.tmOk Tryz.tmMixed Tryz.ftOkI (l := [Tryz.eI95, Tryz.eI96, Tryz.eI97, Tryz.eI98, Tryz.eI91]) (.cons Tryz.kI95 (.cons Tryz.kI96 (.cons Tryz.kI97 (.cons Tryz.kI98 (.cons Tryz.kI91 .nil))))) Tryz.rI100

def Tryz.eI101 : Ent := ⟨68, [.agg [.ref 8067 2 0 1 none, .ref 8092 8 0 1 none, .imm 0 [] 0], .int .i64 0, .fn (.func 59) []],
 [(8051, .arr 5 1 true [.int .u8 12, .int .u8 3, .int .u8 0, .int .u8 1, .int .u8 8, .int .u8 1, .int .u8 0, .int .u8 1, .int .u8 0, .int .u8 0, .int .u8 1, .int .u8 107, .int .u8 0]),
  (8047, .arr 5 1 true [.int .u8 13, .int .u8 2, .int .u8 0, .int .u8 1, .int .u8 8, .int .u8 8, .int .u8 1, .int .u8 0, .int .u8 1, .int .u8 0, .int .u8 0, .int .u8 1, .int .u8 107, .int .u8 0]),
  (8043, .arr 5 1 true [.int .u8 4, .int .u8 1, .int .u8 0, .int .u8 1, .int .u8 8]),
  (8053, .arr 307 2 false [.agg [.bool false, .ref 8043 1 0 5 none], .agg [.bool false, .ref 8047 1 0 14 none], .agg [.bool false, .ref 8051 1 0 13 none]]),
  (7747, .arr 9 1 true [.str []]),
  (7770, .arr 119 5 true [.agg [.int .i64 0, .int .i64 0, .int .i64 0, .int .i64 0, .str []]]),
  (7839, .arr 9 1 true [.str [1, 0, 1, 0, 0, 1, 107, 0]]),
  (7746, .arr 3 1 true [.int .i64 0]),
  (7745, .arr 3 1 true [.int .i64 0]),
  (7703, .arr 61 15 false [.agg [.int .i64 0, .int .i64 0, .ref 7745 1 0 1 none, .ref 7746 1 0 1 none, .ref 7839 1 0 1 none, .ref 7770 5 0 0 none, .int .u8 0, .int .i64 0, .imm 0 [] 0, .str [], .str [], .imm 0 [] 0, .imm 0 [] 0, .ref 7747 1 0 0 none, .int .i64 0]]),
  (7691, .arr 3 1 true [.int .i64 0]),
  (7690, .arr 3 1 true [.int .i64 0]),
  (7693, .arr 56 2 false [.agg [.ref 7690 1 0 1 none, .ref 7691 1 0 1 none]]),
  (8092, .arr 132 8 false [.agg [.bool true, .int .i64 0, .ref 7693 2 0 1 none, .ref 7703 15 0 1 none, .imm 0 [] 0, .imm 0 [] 0, .ref 8053 2 0 3 none, .imm 10 [] 0]]),
  (8065, .arr 3 1 true [.int .i64 0]),
  (8064, .arr 3 1 true [.int .i64 0]),
  (8067, .arr 56 2 false [.agg [.ref 8064 1 0 1 none, .ref 8065 1 0 1 none]])], 8650,
 { d := .tuple [.agg [.ref 9753 2 0 1 none, .ref 9790 8 0 1 none, .imm 0 [] 0], .int .i64 0], vc := true, eff := [(9734, some (.arr 5 1 true [.int .u8 7, .int .u8 3, .int .u8 0, .int .u8 2, .int .u8 3, .int .u8 2, .int .u8 0, .int .u8 1])),
  (9730, some (.arr 5 1 true [.int .u8 8, .int .u8 2, .int .u8 0, .int .u8 2, .int .u8 8, .int .u8 3, .int .u8 2, .int .u8 0, .int .u8 1])),
  (9726, some (.arr 5 1 true [.int .u8 4, .int .u8 1, .int .u8 0, .int .u8 2, .int .u8 8])),
  (9722, some (.arr 5 1 true [.int .u8 12, .int .u8 3, .int .u8 0, .int .u8 1, .int .u8 8, .int .u8 1, .int .u8 0, .int .u8 1, .int .u8 0, .int .u8 0, .int .u8 1, .int .u8 107, .int .u8 0])),
  (9718, some (.arr 5 1 true [.int .u8 13, .int .u8 2, .int .u8 0, .int .u8 1, .int .u8 8, .int .u8 8, .int .u8 1, .int .u8 0, .int .u8 1, .int .u8 0, .int .u8 0, .int .u8 1, .int .u8 107, .int .u8 0])),
  (9714, some (.arr 5 1 true [.int .u8 4, .int .u8 1, .int .u8 0, .int .u8 1, .int .u8 8])),
  (9736, some (.arr 307 2 false [.agg [.bool false, .ref 9714 1 0 5 none], .agg [.bool false, .ref 9718 1 0 14 none], .agg [.bool false, .ref 9722 1 0 13 none], .agg [.bool false, .ref 9726 1 0 5 none], .agg [.bool false, .ref 9730 1 0 9 none], .agg [.bool false, .ref 9734 1 0 8 none]])),
  (9276, some (.arr 9 1 true [.str []])),
  (9320, some (.arr 119 5 true [.agg [.int .i64 0, .int .i64 0, .int .i64 0, .int .i64 0, .str []]])),
  (9389, some (.arr 9 1 true [.str [1, 0, 1, 0, 0, 1, 107, 0], .str [2, 0, 1]])),
  (9274, some (.arr 3 1 true [.int .i64 0])),
  (9273, some (.arr 3 1 true [.int .i64 0])),
  (9014, some (.arr 61 15 false [.agg [.int .i64 0, .int .i64 0, .ref 9273 1 0 1 none, .ref 9274 1 0 1 none, .ref 9389 1 0 2 none, .ref 9320 5 0 0 none, .int .u8 0, .int .i64 0, .imm 0 [] 0, .str [], .str [], .imm 0 [] 0, .imm 0 [] 0, .ref 9276 1 0 0 none, .int .i64 0]])),
  (9002, some (.arr 3 1 true [.int .i64 0])),
  (9001, some (.arr 3 1 true [.int .i64 0])),
  (9004, some (.arr 56 2 false [.agg [.ref 9001 1 0 1 none, .ref 9002 1 0 1 none]])),
  (9790, some (.arr 132 8 false [.agg [.bool true, .int .i64 0, .ref 9004 2 0 1 none, .ref 9014 15 0 1 none, .imm 0 [] 0, .imm 0 [] 0, .ref 9736 2 0 6 none, .imm 10 [] 0]])),
  (9751, some (.arr 3 1 true [.int .i64 0])),
  (9750, some (.arr 3 1 true [.int .i64 0])),
  (9753, some (.arr 56 2 false [.agg [.ref 9750 1 0 1 none, .ref 9751 1 0 1 none]]))], nw := (8650, 9791), met := [8051, 8047, 8043, 8053, 7747, 7770, 7839, 7746, 7745, 7703, 7691, 7690, 7693, 8092, 8065, 8064, 8067] }⟩
theorem Tryz.rI101 : runFQ (getLQ Tryz.ftLI) Tryz.ptI Tryz.tm 2000 (callN (callKQ [Tryz.eI99, Tryz.eI100] noCall) (getLQ Tryz.ftLI) Tryz.ptI Tryz.tm 2000 60) Tryz.eI101.K Tryz.eI101.args Tryz.eI101.heap Tryz.eI101.nx = some Tryz.eI101.out := by kernel_rfl
theorem Tryz.kI101 : EntOk Tryz.prog Tryz.eI101 := entOk_of_runN Tryz.tmOk Tryz.tmMixed Tryz.ftOkI (l := [Tryz.eI99, Tryz.eI100]) (.cons Tryz.kI99 (.cons Tryz.kI100 .nil)) Tryz.rI101

def Tryz.eI102 : Ent := ⟨91, [.ptr 9839 0],
 [(9276, .arr 9 1 true [.str []]),
  (9320, .arr 119 5 true [.agg [.int .i64 0, .int .i64 0, .int .i64 0, .int .i64 0, .str []]]),
  (9389, .arr 9 1 true [.str [1, 0, 1, 0, 0, 1, 107, 0], .str [2, 0, 1]]),
  (9274, .arr 3 1 true [.int .i64 0]),
  (9273, .arr 3 1 true [.int .i64 0]),
  (9014, .arr 61 15 false [.agg [.int .i64 0, .int .i64 0, .ref 9273 1 0 1 none, .ref 9274 1 0 1 none, .ref 9389 1 0 2 none, .ref 9320 5 0 0 none, .int .u8 0, .int .i64 0, .imm 0 [] 0, .str [], .str [], .imm 0 [] 0, .imm 0 [] 0, .ref 9276 1 0 0 none, .int .i64 0]]),
  (9002, .arr 3 1 true [.int .i64 0]),
  (9001, .arr 3 1 true [.int .i64 0]),
  (9004, .arr 56 2 false [.agg [.ref 9001 1 0 1 none, .ref 9002 1 0 1 none]]),
  (9839, .box [.int .i64 0, .ref 9004 2 0 1 none, .ref 9014 15 0 1 none, .imm 0 [] 0, .imm 0 [] 0, .imm 0 [] 0])], 9889,
 { d := .mref 9889, vc := true, eff := [(9889, some (.map []))], nw := (9889, 10009), met := [9276, 9320, 9389, 9274, 9273, 9014, 9002, 9001, 9004, 9839] }⟩
theorem Tryz.rI102 : runFQ (getLQ Tryz.ftLI) Tryz.ptI Tryz.tm 2000 (callN (callKQ [] noCall) (getLQ Tryz.ftLI) Tryz.ptI Tryz.tm 2000 60) Tryz.eI102.K Tryz.eI102.args Tryz.eI102.heap Tryz.eI102.nx = some Tryz.eI102.out := by kernel_rfl
theorem Tryz.kI102 : EntOk Tryz.prog Tryz.eI102 := entOk_of_runN Tryz.tmOk Tryz.tmMixed Tryz.ftOkI (l := []) .nil Tryz.rI102

def Tryz.eI103 : Ent := ⟨210, [.str [2, 0, 1, 8, 8, 1, 0, 1, 0, 0, 1, 107, 0]],
 [], 10143,
 { d := .tuple [.agg [.int .u8 2, .int .i64 0, .int .i64 1, .int .i64 8, .str [1, 0, 1, 0, 0, 1, 107, 0]], .int .i64 0], vc := true, eff := [], nw := (10143, 10148), met := [] }⟩
theorem Tryz.rI103 : runFQ (getLQ Tryz.ftLI) Tryz.ptI Tryz.tm 2000 (callN (callKQ [] noCall) (getLQ Tryz.ftLI) Tryz.ptI Tryz.tm 2000 60) Tryz.eI103.K Tryz.eI103.args Tryz.eI103.heap Tryz.eI103.nx = some Tryz.eI103.out := by kernel_rfl
theorem Tryz.kI103 : EntOk Tryz.prog Tryz.eI103 := entOk_of_runN Tryz.tmOk Tryz.tmMixed Tryz.ftOkI (l := []) .nil Tryz.rI103

def Tryz.eI104 : Ent := ⟨210, [.str [2, 0, 2, 8, 3, 2, 0, 1]],
 [], 10193,
 { d := .tuple [.agg [.int .u8 2, .int .i64 0, .int .i64 2, .int .i64 8, .str [2, 0, 1]], .int .i64 0], vc := true, eff := [], nw := (10193, 10198), met := [] }⟩
theorem Tryz.rI104 : runFQ (getLQ Tryz.ftLI) Tryz.ptI Tryz.tm 2000 (callN (callKQ [] noCall) (getLQ Tryz.ftLI) Tryz.ptI Tryz.tm 2000 60) Tryz.eI104.K Tryz.eI104.args Tryz.eI104.heap Tryz.eI104.nx = some Tryz.eI104.out := by kernel_rfl
theorem Tryz.kI104 : EntOk Tryz.prog Tryz.eI104 := entOk_of_runN Tryz.tmOk Tryz.tmMixed Tryz.ftOkI (l := []) .nil Tryz.rI104

def Tryz.eI105 : Ent := ⟨210, [.str [1, 0, 1, 8]],
 [], 10128,
 { d := .tuple [.agg [.int .u8 1, .int .i64 0, .int .i64 1, .int .i64 8, .str []], .int .i64 0], vc := true, eff := [], nw := (10128, 10133), met := [] }⟩
theorem Tryz.rI105 : runFQ (getLQ Tryz.ftLI) Tryz.ptI Tryz.tm 2000 (callN (callKQ [] noCall) (getLQ Tryz.ftLI) Tryz.ptI Tryz.tm 2000 60) Tryz.eI105.K Tryz.eI105.args Tryz.eI105.heap Tryz.eI105.nx = some Tryz.eI105.out := by kernel_rfl
theorem Tryz.kI105 : EntOk Tryz.prog Tryz.eI105 := entOk_of_runN Tryz.tmOk Tryz.tmMixed Tryz.ftOkI (l := []) .nil Tryz.rI105

def Tryz.eI106 : Ent := ⟨138, [.int .i64 1, .ref 10043 1 0 6 none],
 [(10043, .arr 9 1 true [.str [1, 0, 1, 8], .str [2, 0, 1, 8, 8, 1, 0, 1, 0, 0, 1, 107, 0], .str [3, 0, 1, 8, 1, 0, 1, 0, 0, 1, 107, 0], .str [1, 0, 2, 8], .str [2, 0, 2, 8, 3, 2, 0, 1], .str [3, 0, 2, 3, 2, 0, 1]])], 10124,
 { d := .tuple [.agg [.ref 10126 1 0 1 (some 1), .ref 10142 5 0 0 none], .int .i64 0], vc := true, eff := [(10142, some (.arr 119 5 true [.agg [.int .i64 0, .int .i64 0, .int .i64 0, .int .i64 0, .str []]])),
  (10228, some (.arr 9 1 true [.str [1, 0, 1, 0, 0, 1, 107, 0], .str [2, 0, 1]])),
  (10126, some (.arr 40 1 false [.ref 10228 1 0 2 none]))], nw := (10124, 10229), met := [10043] }⟩
theorem Tryz.rI106 : runFQ (getLQ Tryz.ftLI) Tryz.ptI Tryz.tm 2000 (callN (callKQ [Tryz.eI103, Tryz.eI104, Tryz.eI105] noCall) (getLQ Tryz.ftLI) Tryz.ptI Tryz.tm 2000 60) Tryz.eI106.K Tryz.eI106.args Tryz.eI106.heap Tryz.eI106.nx = some Tryz.eI106.out := by kernel_rfl
theorem Tryz.kI106 : EntOk Tryz.prog Tryz.eI106 := entOk_of_runN Tryz.tmOk Tryz.tmMixed Tryz.ftOkI (l := [Tryz.eI103, Tryz.eI104, Tryz.eI105]) (.cons Tryz.kI103 (.cons Tryz.kI104 (.cons Tryz.kI105 .nil))) Tryz.rI106

def Tryz.eI107 : Ent := ⟨41, [.agg [.int .i64 0, .ref 9004 2 0 1 none, .ref 9014 15 0 1 none, .imm 0 [] 0]],
 [(9276, .arr 9 1 true [.str []]),
  (9320, .arr 119 5 true [.agg [.int .i64 0, .int .i64 0, .int .i64 0, .int .i64 0, .str []]]),
  (9389, .arr 9 1 true [.str [1, 0, 1, 0, 0, 1, 107, 0], .str [2, 0, 1]]),
  (9274, .arr 3 1 true [.int .i64 0]),
  (9273, .arr 3 1 true [.int .i64 0]),
  (9014, .arr 61 15 false [.agg [.int .i64 0, .int .i64 0, .ref 9273 1 0 1 none, .ref 9274 1 0 1 none, .ref 9389 1 0 2 none, .ref 9320 5 0 0 none, .int .u8 0, .int .i64 0, .imm 0 [] 0, .str [], .str [], .imm 0 [] 0, .imm 0 [] 0, .ref 9276 1 0 0 none, .int .i64 0]]),
  (9002, .arr 3 1 true [.int .i64 0]),
  (9001, .arr 3 1 true [.int .i64 0]),
  (9004, .arr 56 2 false [.agg [.ref 9001 1 0 1 none, .ref 9002 1 0 1 none]])], 9838,
 { d := .int .i64 0, vc := true, eff := [], nw := (9838, 10009), met := [9276, 9320, 9389, 9274, 9273, 9014, 9002, 9001, 9004] }⟩
theorem Tryz.rI107 : runFQ (getLQ Tryz.ftLI) Tryz.ptI Tryz.tm 2000 (callN (callKQ [Tryz.eI102] noCall) (getLQ Tryz.ftLI) Tryz.ptI Tryz.tm 2000 60) Tryz.eI107.K Tryz.eI107.args Tryz.eI107.heap Tryz.eI107.nx = some Tryz.eI107.out := by kernel_rfl
theorem Tryz.kI107 : EntOk Tryz.prog Tryz.eI107 := entOk_of_runN Tryz.tmOk Tryz.tmMixed Tryz.ftOkI (l := [Tryz.eI102]) (.cons Tryz.kI102 .nil) Tryz.rI107

def Tryz.eI108 : Ent := ⟨91, [.ptr 10285 0],
 [(9276, .arr 9 1 true [.str []]),
  (9320, .arr 119 5 true [.agg [.int .i64 0, .int .i64 0, .int .i64 0, .int .i64 0, .str []]]),
  (9389, .arr 9 1 true [.str [1, 0, 1, 0, 0, 1, 107, 0], .str [2, 0, 1]]),
  (9274, .arr 3 1 true [.int .i64 0]),
  (9273, .arr 3 1 true [.int .i64 0]),
  (9014, .arr 61 15 false [.agg [.int .i64 0, .int .i64 0, .ref 9273 1 0 1 none, .ref 9274 1 0 1 none, .ref 9389 1 0 2 none, .ref 9320 5 0 0 none, .int .u8 0, .int .i64 0, .imm 0 [] 0, .str [], .str [], .imm 0 [] 0, .imm 0 [] 0, .ref 9276 1 0 0 none, .int .i64 0]]),
  (9002, .arr 3 1 true [.int .i64 0]),
  (9001, .arr 3 1 true [.int .i64 0]),
  (9004, .arr 56 2 false [.agg [.ref 9001 1 0 1 none, .ref 9002 1 0 1 none]]),
  (10285, .box [.int .i64 0, .ref 9004 2 0 1 none, .ref 9014 15 0 1 none, .imm 0 [] 0, .imm 0 [] 0, .imm 0 [] 0])], 10335,
 { d := .mref 10335, vc := true, eff := [(10335, some (.map []))], nw := (10335, 10455), met := [9276, 9320, 9389, 9274, 9273, 9014, 9002, 9001, 9004, 10285] }⟩
theorem Tryz.rI108 : runFQ (getLQ Tryz.ftLI) Tryz.ptI Tryz.tm 2000 (callN (callKQ [] noCall) (getLQ Tryz.ftLI) Tryz.ptI Tryz.tm 2000 60) Tryz.eI108.K Tryz.eI108.args Tryz.eI108.heap Tryz.eI108.nx = some Tryz.eI108.out := by kernel_rfl
theorem Tryz.kI108 : EntOk Tryz.prog Tryz.eI108 := entOk_of_runN Tryz.tmOk Tryz.tmMixed Tryz.ftOkI (l := []) .nil Tryz.rI108

def Tryz.eI109 : Ent := ⟨210, [.str [2, 0, 1, 8, 8, 1, 0, 1, 0, 0, 1, 107, 0]],
 [], 10589,
 { d := .tuple [.agg [.int .u8 2, .int .i64 0, .int .i64 1, .int .i64 8, .str [1, 0, 1, 0, 0, 1, 107, 0]], .int .i64 0], vc := true, eff := [], nw := (10589, 10594), met := [] }⟩
theorem Tryz.rI109 : runFQ (getLQ Tryz.ftLI) Tryz.ptI Tryz.tm 2000 (callN (callKQ [] noCall) (getLQ Tryz.ftLI) Tryz.ptI Tryz.tm 2000 60) Tryz.eI109.K Tryz.eI109.args Tryz.eI109.heap Tryz.eI109.nx = some Tryz.eI109.out := by kernel_rfl
theorem Tryz.kI109 : EntOk Tryz.prog Tryz.eI109 := entOk_of_runN Tryz.tmOk Tryz.tmMixed Tryz.ftOkI (l := []) .nil Tryz.rI109

def Tryz.eI110 : Ent := ⟨210, [.str [2, 0, 2, 8, 3, 2, 0, 1]],
 [], 10639,
 { d := .tuple [.agg [.int .u8 2, .int .i64 0, .int .i64 2, .int .i64 8, .str [2, 0, 1]], .int .i64 0], vc := true, eff := [], nw := (10639, 10644), met := [] }⟩
theorem Tryz.rI110 : runFQ (getLQ Tryz.ftLI) Tryz.ptI Tryz.tm 2000 (callN (callKQ [] noCall) (getLQ Tryz.ftLI) Tryz.ptI Tryz.tm 2000 60) Tryz.eI110.K Tryz.eI110.args Tryz.eI110.heap Tryz.eI110.nx = some Tryz.eI110.out := by kernel_rfl
theorem Tryz.kI110 : EntOk Tryz.prog Tryz.eI110 := entOk_of_runN Tryz.tmOk Tryz.tmMixed Tryz.ftOkI (l := []) .nil Tryz.rI110

def Tryz.eI111 : Ent := ⟨210, [.str [1, 0, 1, 8]],
 [], 10574,
 { d := .tuple [.agg [.int .u8 1, .int .i64 0, .int .i64 1, .int .i64 8, .str []], .int .i64 0], vc := true, eff := [], nw := (10574, 10579), met := [] }⟩
theorem Tryz.rI111 : runFQ (getLQ Tryz.ftLI) Tryz.ptI Tryz.tm 2000 (callN (callKQ [] noCall) (getLQ Tryz.ftLI) Tryz.ptI Tryz.tm 2000 60) Tryz.eI111.K Tryz.eI111.args Tryz.eI111.heap Tryz.eI111.nx = some Tryz.eI111.out := by kernel_rfl
theorem Tryz.kI111 : EntOk Tryz.prog Tryz.eI111 := entOk_of_runN Tryz.tmOk Tryz.tmMixed Tryz.ftOkI (l := []) .nil Tryz.rI111

def Tryz.eI112 : Ent := ⟨138, [.int .i64 1, .ref 10489 1 0 6 none],
 [(10489, .arr 9 1 true [.str [1, 0, 1, 8], .str [2, 0, 1, 8, 8, 1, 0, 1, 0, 0, 1, 107, 0], .str [3, 0, 1, 8, 1, 0, 1, 0, 0, 1, 107, 0], .str [1, 0, 2, 8], .str [2, 0, 2, 8, 3, 2, 0, 1], .str [3, 0, 2, 3, 2, 0, 1]])], 10570,
 { d := .tuple [.agg [.ref 10572 1 0 1 (some 1), .ref 10588 5 0 0 none], .int .i64 0], vc := true, eff := [(10588, some (.arr 119 5 true [.agg [.int .i64 0, .int .i64 0, .int .i64 0, .int .i64 0, .str []]])),
  (10674, some (.arr 9 1 true [.str [1, 0, 1, 0, 0, 1, 107, 0], .str [2, 0, 1]])),
  (10572, some (.arr 40 1 false [.ref 10674 1 0 2 none]))], nw := (10570, 10675), met := [10489] }⟩
theorem Tryz.rI112 : runFQ (getLQ Tryz.ftLI) Tryz.ptI Tryz.tm 2000 (callN (callKQ [Tryz.eI109, Tryz.eI110, Tryz.eI111] noCall) (getLQ Tryz.ftLI) Tryz.ptI Tryz.tm 2000 60) Tryz.eI112.K Tryz.eI112.args Tryz.eI112.heap Tryz.eI112.nx = some Tryz.eI112.out := by kernel_rfl
theorem Tryz.kI112 : EntOk Tryz.prog Tryz.eI112 := entOk_of_runN Tryz.tmOk Tryz.tmMixed Tryz.ftOkI (l := [Tryz.eI109, Tryz.eI110, Tryz.eI111]) (.cons Tryz.kI109 (.cons Tryz.kI110 (.cons Tryz.kI111 .nil))) Tryz.rI112

def Tryz.eI113 : Ent := ⟨41, [.agg [.int .i64 0, .ref 9004 2 0 1 none, .ref 9014 15 0 1 none, .imm 0 [] 0]],
 [(9276, .arr 9 1 true [.str []]),
  (9320, .arr 119 5 true [.agg [.int .i64 0, .int .i64 0, .int .i64 0, .int .i64 0, .str []]]),
  (9389, .arr 9 1 true [.str [1, 0, 1, 0, 0, 1, 107, 0], .str [2, 0, 1]]),
  (9274, .arr 3 1 true [.int .i64 0]),
  (9273, .arr 3 1 true [.int .i64 0]),
  (9014, .arr 61 15 false [.agg [.int .i64 0, .int .i64 0, .ref 9273 1 0 1 none, .ref 9274 1 0 1 none, .ref 9389 1 0 2 none, .ref 9320 5 0 0 none, .int .u8 0, .int .i64 0, .imm 0 [] 0, .str [], .str [], .imm 0 [] 0, .imm 0 [] 0, .ref 9276 1 0 0 none, .int .i64 0]]),
  (9002, .arr 3 1 true [.int .i64 0]),
  (9001, .arr 3 1 true [.int .i64 0]),
  (9004, .arr 56 2 false [.agg [.ref 9001 1 0 1 none, .ref 9002 1 0 1 none]])], 10284,
 { d := .int .i64 0, vc := true, eff := [], nw := (10284, 10455), met := [9276, 9320, 9389, 9274, 9273, 9014, 9002, 9001, 9004] }⟩
theorem Tryz.rI113 : runFQ (getLQ Tryz.ftLI) Tryz.ptI Tryz.tm 2000 (callN (callKQ [Tryz.eI108] noCall) (getLQ Tryz.ftLI) Tryz.ptI Tryz.tm 2000 60) Tryz.eI113.K Tryz.eI113.args Tryz.eI113.heap Tryz.eI113.nx = some Tryz.eI113.out := by kernel_rfl
theorem Tryz.kI113 : EntOk Tryz.prog Tryz.eI113 := entOk_of_runN Tryz.tmOk Tryz.tmMixed Tryz.ftOkI (l := [Tryz.eI108]) (.cons Tryz.kI108 .nil) Tryz.rI113

def Tryz.eI114 : Ent := ⟨91, [.ptr 10708 0],
 [(9276, .arr 9 1 true [.str []]),
  (9320, .arr 119 5 true [.agg [.int .i64 0, .int .i64 0, .int .i64 0, .int .i64 0, .str []]]),
  (9389, .arr 9 1 true [.str [1, 0, 1, 0, 0, 1, 107, 0], .str [2, 0, 1]]),
  (9274, .arr 3 1 true [.int .i64 0]),
  (9273, .arr 3 1 true [.int .i64 0]),
  (9014, .arr 61 15 false [.agg [.int .i64 0, .int .i64 0, .ref 9273 1 0 1 none, .ref 9274 1 0 1 none, .ref 9389 1 0 2 none, .ref 9320 5 0 0 none, .int .u8 0, .int .i64 0, .imm 0 [] 0, .str [], .str [], .imm 0 [] 0, .imm 0 [] 0, .ref 9276 1 0 0 none, .int .i64 0]]),
  (9002, .arr 3 1 true [.int .i64 0]),
  (9001, .arr 3 1 true [.int .i64 0]),
  (9004, .arr 56 2 false [.agg [.ref 9001 1 0 1 none, .ref 9002 1 0 1 none]]),
  (10708, .box [.int .i64 0, .ref 9004 2 0 1 none, .ref 9014 15 0 1 none, .imm 0 [] 0, .imm 0 [] 0, .imm 0 [] 0])], 10758,
 { d := .mref 10758, vc := true, eff := [(10758, some (.map []))], nw := (10758, 10878), met := [9276, 9320, 9389, 9274, 9273, 9014, 9002, 9001, 9004, 10708] }⟩
theorem Tryz.rI114 : runFQ (getLQ Tryz.ftLI) Tryz.ptI Tryz.tm 2000 (callN (callKQ [] noCall) (getLQ Tryz.ftLI) Tryz.ptI Tryz.tm 2000 60) Tryz.eI114.K Tryz.eI114.args Tryz.eI114.heap Tryz.eI114.nx = some Tryz.eI114.out := by kernel_rfl
theorem Tryz.kI114 : EntOk Tryz.prog Tryz.eI114 := entOk_of_runN Tryz.tmOk Tryz.tmMixed Tryz.ftOkI (l := []) .nil Tryz.rI114

def Tryz.eI115 : Ent := ⟨210, [.str [2, 0, 1, 8, 8, 1, 0, 1, 0, 0, 1, 107, 0]],
 [], 11012,
 { d := .tuple [.agg [.int .u8 2, .int .i64 0, .int .i64 1, .int .i64 8, .str [1, 0, 1, 0, 0, 1, 107, 0]], .int .i64 0], vc := true, eff := [], nw := (11012, 11017), met := [] }⟩
theorem Tryz.rI115 : runFQ (getLQ Tryz.ftLI) Tryz.ptI Tryz.tm 2000 (callN (callKQ [] noCall) (getLQ Tryz.ftLI) Tryz.ptI Tryz.tm 2000 60) Tryz.eI115.K Tryz.eI115.args Tryz.eI115.heap Tryz.eI115.nx = some Tryz.eI115.out := by kernel_rfl
theorem Tryz.kI115 : EntOk Tryz.prog Tryz.eI115 := entOk_of_runN Tryz.tmOk Tryz.tmMixed Tryz.ftOkI (l := []) .nil Tryz.rI115

def Tryz.eI116 : Ent := ⟨210, [.str [2, 0, 2, 8, 3, 2, 0, 1]],
 [], 11062,
 { d := .tuple [.agg [.int .u8 2, .int .i64 0, .int .i64 2, .int .i64 8, .str [2, 0, 1]], .int .i64 0], vc := true, eff := [], nw := (11062, 11067), met := [] }⟩
theorem Tryz.rI116 : runFQ (getLQ Tryz.ftLI) Tryz.ptI Tryz.tm 2000 (callN (callKQ [] noCall) (getLQ Tryz.ftLI) Tryz.ptI Tryz.tm 2000 60) Tryz.eI116.K Tryz.eI116.args Tryz.eI116.heap Tryz.eI116.nx = some Tryz.eI116.out := by kernel_rfl
theorem Tryz.kI116 : EntOk Tryz.prog Tryz.eI116 := entOk_of_runN Tryz.tmOk Tryz.tmMixed Tryz.ftOkI (l := []) .nil Tryz.rI116

def Tryz.eI117 : Ent := ⟨210, [.str [1, 0, 1, 8]],
 [], 10997,
 { d := .tuple [.agg [.int .u8 1, .int .i64 0, .int .i64 1, .int .i64 8, .str []], .int .i64 0], vc := true, eff := [], nw := (10997, 11002), met := [] }⟩
theorem Tryz.rI117 : runFQ (getLQ Tryz.ftLI) Tryz.ptI Tryz.tm 2000 (callN (callKQ [] noCall) (getLQ Tryz.ftLI) Tryz.ptI Tryz.tm 2000 60) Tryz.eI117.K Tryz.eI117.args Tryz.eI117.heap Tryz.eI117.nx = some Tryz.eI117.out := by kernel_rfl
theorem Tryz.kI117 : EntOk Tryz.prog Tryz.eI117 := entOk_of_runN Tryz.tmOk Tryz.tmMixed Tryz.ftOkI (l := []) .nil Tryz.rI117

def Tryz.eI118 : Ent := ⟨138, [.int .i64 1, .ref 10912 1 0 6 none],
 [(10912, .arr 9 1 true [.str [1, 0, 1, 8], .str [2, 0, 1, 8, 8, 1, 0, 1, 0, 0, 1, 107, 0], .str [3, 0, 1, 8, 1, 0, 1, 0, 0, 1, 107, 0], .str [1, 0, 2, 8], .str [2, 0, 2, 8, 3, 2, 0, 1], .str [3, 0, 2, 3, 2, 0, 1]])], 10993,
 { d := .tuple [.agg [.ref 10995 1 0 1 (some 1), .ref 11011 5 0 0 none], .int .i64 0], vc := true, eff := [(11011, some (.arr 119 5 true [.agg [.int .i64 0, .int .i64 0, .int .i64 0, .int .i64 0, .str []]])),
  (11097, some (.arr 9 1 true [.str [1, 0, 1, 0, 0, 1, 107, 0], .str [2, 0, 1]])),
  (10995, some (.arr 40 1 false [.ref 11097 1 0 2 none]))], nw := (10993, 11098), met := [10912] }⟩
theorem Tryz.rI118 : runFQ (getLQ Tryz.ftLI) Tryz.ptI Tryz.tm 2000 (callN (callKQ [Tryz.eI115, Tryz.eI116, Tryz.eI117] noCall) (getLQ Tryz.ftLI) Tryz.ptI Tryz.tm 2000 60) Tryz.eI118.K Tryz.eI118.args Tryz.eI118.heap Tryz.eI118.nx = some Tryz.eI118.out := by kernel_rfl
theorem Tryz.kI118 : EntOk Tryz.prog Tryz.eI118 := entOk_of_runN Tryz.tmOk Tryz.tmMixed Tryz.ftOkI (l := [Tryz.eI115, Tryz.eI116, Tryz.eI117]) (.cons Tryz.kI115 (.cons Tryz.kI116 (.cons Tryz.kI117 .nil))) Tryz.rI118

def Tryz.eI119 : Ent := ⟨41, [.agg [.int .i64 0, .ref 9004 2 0 1 none, .ref 9014 15 0 1 none, .imm 0 [] 0]],
 [(9276, .arr 9 1 true [.str []]),
  (9320, .arr 119 5 true [.agg [.int .i64 0, .int .i64 0, .int .i64 0, .int .i64 0, .str []]]),
  (9389, .arr 9 1 true [.str [1, 0, 1, 0, 0, 1, 107, 0], .str [2, 0, 1]]),
  (9274, .arr 3 1 true [.int .i64 0]),
  (9273, .arr 3 1 true [.int .i64 0]),
  (9014, .arr 61 15 false [.agg [.int .i64 0, .int .i64 0, .ref 9273 1 0 1 none, .ref 9274 1 0 1 none, .ref 9389 1 0 2 none, .ref 9320 5 0 0 none, .int .u8 0, .int .i64 0, .imm 0 [] 0, .str [], .str [], .imm 0 [] 0, .imm 0 [] 0, .ref 9276 1 0 0 none, .int .i64 0]]),
  (9002, .arr 3 1 true [.int .i64 0]),
  (9001, .arr 3 1 true [.int .i64 0]),
  (9004, .arr 56 2 false [.agg [.ref 9001 1 0 1 none, .ref 9002 1 0 1 none]])], 10707,
 { d := .int .i64 0, vc := true, eff := [], nw := (10707, 10878), met := [9276, 9320, 9389, 9274, 9273, 9014, 9002, 9001, 9004] }⟩
theorem Tryz.rI119 : runFQ (getLQ Tryz.ftLI) Tryz.ptI Tryz.tm 2000 (callN (callKQ [Tryz.eI114] noCall) (getLQ Tryz.ftLI) Tryz.ptI Tryz.tm 2000 60) Tryz.eI119.K Tryz.eI119.args Tryz.eI119.heap Tryz.eI119.nx = some Tryz.eI119.out := by kernel_rfl
theorem Tryz.kI119 : EntOk Tryz.prog Tryz.eI119 := entOk_of_runN Tryz.tmOk Tryz.tmMixed Tryz.ftOkI (l := [Tryz.eI114]) (.cons Tryz.kI114 .nil) Tryz.rI119

def Tryz.eI120 : Ent := ⟨67, [.agg [.ref 9753 2 0 1 none, .ref 9790 8 0 1 none, .imm 0 [] 0], .int .i64 0],
 [(9734, .arr 5 1 true [.int .u8 7, .int .u8 3, .int .u8 0, .int .u8 2, .int .u8 3, .int .u8 2, .int .u8 0, .int .u8 1]),
  (9730, .arr 5 1 true [.int .u8 8, .int .u8 2, .int .u8 0, .int .u8 2, .int .u8 8, .int .u8 3, .int .u8 2, .int .u8 0, .int .u8 1]),
  (9726, .arr 5 1 true [.int .u8 4, .int .u8 1, .int .u8 0, .int .u8 2, .int .u8 8]),
  (9722, .arr 5 1 true [.int .u8 12, .int .u8 3, .int .u8 0, .int .u8 1, .int .u8 8, .int .u8 1, .int .u8 0, .int .u8 1, .int .u8 0, .int .u8 0, .int .u8 1, .int .u8 107, .int .u8 0]),
  (9718, .arr 5 1 true [.int .u8 13, .int .u8 2, .int .u8 0, .int .u8 1, .int .u8 8, .int .u8 8, .int .u8 1, .int .u8 0, .int .u8 1, .int .u8 0, .int .u8 0, .int .u8 1, .int .u8 107, .int .u8 0]),
  (9714, .arr 5 1 true [.int .u8 4, .int .u8 1, .int .u8 0, .int .u8 1, .int .u8 8]),
  (9736, .arr 307 2 false [.agg [.bool false, .ref 9714 1 0 5 none], .agg [.bool false, .ref 9718 1 0 14 none], .agg [.bool false, .ref 9722 1 0 13 none], .agg [.bool false, .ref 9726 1 0 5 none], .agg [.bool false, .ref 9730 1 0 9 none], .agg [.bool false, .ref 9734 1 0 8 none]]),
  (9276, .arr 9 1 true [.str []]),
  (9320, .arr 119 5 true [.agg [.int .i64 0, .int .i64 0, .int .i64 0, .int .i64 0, .str []]]),
  (9389, .arr 9 1 true [.str [1, 0, 1, 0, 0, 1, 107, 0], .str [2, 0, 1]]),
  (9274, .arr 3 1 true [.int .i64 0]),
  (9273, .arr 3 1 true [.int .i64 0]),
  (9014, .arr 61 15 false [.agg [.int .i64 0, .int .i64 0, .ref 9273 1 0 1 none, .ref 9274 1 0 1 none, .ref 9389 1 0 2 none, .ref 9320 5 0 0 none, .int .u8 0, .int .i64 0, .imm 0 [] 0, .str [], .str [], .imm 0 [] 0, .imm 0 [] 0, .ref 9276 1 0 0 none, .int .i64 0]]),
  (9002, .arr 3 1 true [.int .i64 0]),
  (9001, .arr 3 1 true [.int .i64 0]),
  (9004, .arr 56 2 false [.agg [.ref 9001 1 0 1 none, .ref 9002 1 0 1 none]]),
  (9790, .arr 132 8 false [.agg [.bool true, .int .i64 0, .ref 9004 2 0 1 none, .ref 9014 15 0 1 none, .imm 0 [] 0, .imm 0 [] 0, .ref 9736 2 0 6 none, .imm 10 [] 0]]),
  (9751, .arr 3 1 true [.int .i64 0]),
  (9750, .arr 3 1 true [.int .i64 0]),
  (9753, .arr 56 2 false [.agg [.ref 9750 1 0 1 none, .ref 9751 1 0 1 none]])], 10688,
 { d := .tuple [.agg [.ref 11156 2 0 1 none, .ref 11205 8 0 1 none, .imm 10 [] 0], .int .i64 0], vc := true, eff := [(11129, some (.arr 5 1 true [.int .u8 4, .int .u8 1, .int .u8 0, .int .u8 1, .int .u8 8, .int .u8 13, .int .u8 2, .int .u8 0, .int .u8 1, .int .u8 8, .int .u8 8, .int .u8 1, .int .u8 0, .int .u8 1, .int .u8 0, .int .u8 0, .int .u8 1, .int .u8 107, .int .u8 0, .int .u8 12, .int .u8 3, .int .u8 0, .int .u8 1, .int .u8 8, .int .u8 1, .int .u8 0, .int .u8 1, .int .u8 0, .int .u8 0, .int .u8 1, .int .u8 107, .int .u8 0, .int .u8 4, .int .u8 1, .int .u8 0, .int .u8 2, .int .u8 8, .int .u8 8, .int .u8 2, .int .u8 0, .int .u8 2, .int .u8 8, .int .u8 3, .int .u8 2, .int .u8 0, .int .u8 1, .int .u8 7, .int .u8 3, .int .u8 0, .int .u8 2, .int .u8 3, .int .u8 2, .int .u8 0, .int .u8 1])),
  (11144, some (.arr 9 1 true [.str [1, 0, 1, 0, 0, 1, 107, 0], .str [2, 0, 1]])),
  (11143, some (.arr 3 1 true [.int .i64 0])),
  (11142, some (.arr 3 1 true [.int .i64 0])),
  (11148, some (.arr 61 15 false [.agg [.int .i64 0, .int .i64 0, .ref 11142 1 0 1 none, .ref 11143 1 0 1 none, .ref 11144 1 0 2 none, .imm 5 [] 9, .int .u8 0, .int .i64 0, .imm 0 [] 0, .str [], .str [], .imm 0 [] 0, .imm 0 [] 0, .imm 1 [] 9, .int .i64 0]])),
  (11136, some (.arr 3 1 true [.int .i64 0])),
  (11135, some (.arr 3 1 true [.int .i64 0])),
  (11138, some (.arr 56 2 false [.agg [.ref 11135 1 0 1 none, .ref 11136 1 0 1 none]])),
  (11205, some (.arr 132 8 false [.agg [.bool true, .int .i64 0, .ref 11138 2 0 1 none, .ref 11148 15 0 1 none, .imm 0 [] 0, .ref 11129 1 0 54 none, .imm 0 [] 0, .imm 0 [] 0]])),
  (11154, some (.arr 3 1 true [.int .i64 0])),
  (11153, some (.arr 3 1 true [.int .i64 0])),
  (11156, some (.arr 56 2 false [.agg [.ref 11153 1 0 1 none, .ref 11154 1 0 1 none]]))], nw := (10688, 11208), met := [9734, 9730, 9726, 9722, 9718, 9714, 9736, 9276, 9320, 9389, 9274, 9273, 9014, 9002, 9001, 9004, 9790, 9751, 9750, 9753] }⟩
theorem Tryz.rI120 : runFQ (getLQ Tryz.ftLI) Tryz.ptI Tryz.tm 2000 (callN (callKQ [Tryz.eI118, Tryz.eI119] noCall) (getLQ Tryz.ftLI) Tryz.ptI Tryz.tm 2000 60) Tryz.eI120.K Tryz.eI120.args Tryz.eI120.heap Tryz.eI120.nx = some Tryz.eI120.out := by kernel_rfl
theorem Tryz.kI120 : EntOk Tryz.prog Tryz.eI120 := entOk_of_runN Tryz.tmOk Tryz.tmMixed Tryz.ftOkI (l := [Tryz.eI118, Tryz.eI119]) (.cons Tryz.kI118 (.cons Tryz.kI119 .nil)) Tryz.rI120

def Tryz.eI121 : Ent := ⟨36, [.agg [.ref 9753 2 0 1 none, .ref 9790 8 0 1 none, .imm 0 [] 0, .ref 9792 1 0 1 none]],
 [(9792, .arr 3 1 true [.int .i64 1]),
  (9734, .arr 5 1 true [.int .u8 7, .int .u8 3, .int .u8 0, .int .u8 2, .int .u8 3, .int .u8 2, .int .u8 0, .int .u8 1]),
  (9730, .arr 5 1 true [.int .u8 8, .int .u8 2, .int .u8 0, .int .u8 2, .int .u8 8, .int .u8 3, .int .u8 2, .int .u8 0, .int .u8 1]),
  (9726, .arr 5 1 true [.int .u8 4, .int .u8 1, .int .u8 0, .int .u8 2, .int .u8 8]),
  (9722, .arr 5 1 true [.int .u8 12, .int .u8 3, .int .u8 0, .int .u8 1, .int .u8 8, .int .u8 1, .int .u8 0, .int .u8 1, .int .u8 0, .int .u8 0, .int .u8 1, .int .u8 107, .int .u8 0]),
  (9718, .arr 5 1 true [.int .u8 13, .int .u8 2, .int .u8 0, .int .u8 1, .int .u8 8, .int .u8 8, .int .u8 1, .int .u8 0, .int .u8 1, .int .u8 0, .int .u8 0, .int .u8 1, .int .u8 107, .int .u8 0]),
  (9714, .arr 5 1 true [.int .u8 4, .int .u8 1, .int .u8 0, .int .u8 1, .int .u8 8]),
  (9736, .arr 307 2 false [.agg [.bool false, .ref 9714 1 0 5 none], .agg [.bool false, .ref 9718 1 0 14 none], .agg [.bool false, .ref 9722 1 0 13 none], .agg [.bool false, .ref 9726 1 0 5 none], .agg [.bool false, .ref 9730 1 0 9 none], .agg [.bool false, .ref 9734 1 0 8 none]]),
  (9276, .arr 9 1 true [.str []]),
  (9320, .arr 119 5 true [.agg [.int .i64 0, .int .i64 0, .int .i64 0, .int .i64 0, .str []]]),
  (9389, .arr 9 1 true [.str [1, 0, 1, 0, 0, 1, 107, 0], .str [2, 0, 1]]),
  (9274, .arr 3 1 true [.int .i64 0]),
  (9273, .arr 3 1 true [.int .i64 0]),
  (9014, .arr 61 15 false [.agg [.int .i64 0, .int .i64 0, .ref 9273 1 0 1 none, .ref 9274 1 0 1 none, .ref 9389 1 0 2 none, .ref 9320 5 0 0 none, .int .u8 0, .int .i64 0, .imm 0 [] 0, .str [], .str [], .imm 0 [] 0, .imm 0 [] 0, .ref 9276 1 0 0 none, .int .i64 0]]),
  (9002, .arr 3 1 true [.int .i64 0]),
  (9001, .arr 3 1 true [.int .i64 0]),
  (9004, .arr 56 2 false [.agg [.ref 9001 1 0 1 none, .ref 9002 1 0 1 none]]),
  (9790, .arr 132 8 false [.agg [.bool true, .int .i64 0, .ref 9004 2 0 1 none, .ref 9014 15 0 1 none, .imm 0 [] 0, .imm 0 [] 0, .ref 9736 2 0 6 none, .imm 10 [] 0]]),
  (9751, .arr 3 1 true [.int .i64 0]),
  (9750, .arr 3 1 true [.int .i64 0]),
  (9753, .arr 56 2 false [.agg [.ref 9750 1 0 1 none, .ref 9751 1 0 1 none]])], 9798,
 { d := .int .i64 0, vc := true, eff := [], nw := (9798, 10242), met := [9792, 9734, 9730, 9726, 9722, 9718, 9714, 9736, 9276, 9320, 9389, 9274, 9273, 9014, 9002, 9001, 9004, 9790, 9751, 9750, 9753] }⟩
theorem Tryz.rI121 : runFQ (getLQ Tryz.ftLI) Tryz.ptI Tryz.tm 2000 (callN (callKQ [Tryz.eI106, Tryz.eI107] noCall) (getLQ Tryz.ftLI) Tryz.ptI Tryz.tm 2000 60) Tryz.eI121.K Tryz.eI121.args Tryz.eI121.heap Tryz.eI121.nx = some Tryz.eI121.out := by kernel_rfl
theorem Tryz.kI121 : EntOk Tryz.prog Tryz.eI121 := entOk_of_runN Tryz.tmOk Tryz.tmMixed Tryz.ftOkI (l := [Tryz.eI106, Tryz.eI107]) (.cons Tryz.kI106 (.cons Tryz.kI107 .nil)) Tryz.rI121

def Tryz.eI122 : Ent := ⟨32, [.agg [.ref 9753 2 0 1 none, .ref 9790 8 0 1 none, .imm 0 [] 0, .ref 9792 1 0 1 none], .agg [.int .u8 2, .int .i64 0, .int .i64 0, .int .i64 0, .int .i64 0, .int .i64 0, .int .u8 0, .int .i64 0, .imm 0 [] 0, .int .i64 0, .str [], .str [], .int .i64 0, .int .i64 0, .imm 0 [] 0, .int .i64 0, .int .i64 0, .int .i64 0]],
 [(9792, .arr 3 1 true [.int .i64 1]),
  (9734, .arr 5 1 true [.int .u8 7, .int .u8 3, .int .u8 0, .int .u8 2, .int .u8 3, .int .u8 2, .int .u8 0, .int .u8 1]),
  (9730, .arr 5 1 true [.int .u8 8, .int .u8 2, .int .u8 0, .int .u8 2, .int .u8 8, .int .u8 3, .int .u8 2, .int .u8 0, .int .u8 1]),
  (9726, .arr 5 1 true [.int .u8 4, .int .u8 1, .int .u8 0, .int .u8 2, .int .u8 8]),
  (9722, .arr 5 1 true [.int .u8 12, .int .u8 3, .int .u8 0, .int .u8 1, .int .u8 8, .int .u8 1, .int .u8 0, .int .u8 1, .int .u8 0, .int .u8 0, .int .u8 1, .int .u8 107, .int .u8 0]),
  (9718, .arr 5 1 true [.int .u8 13, .int .u8 2, .int .u8 0, .int .u8 1, .int .u8 8, .int .u8 8, .int .u8 1, .int .u8 0, .int .u8 1, .int .u8 0, .int .u8 0, .int .u8 1, .int .u8 107, .int .u8 0]),
  (9714, .arr 5 1 true [.int .u8 4, .int .u8 1, .int .u8 0, .int .u8 1, .int .u8 8]),
  (9736, .arr 307 2 false [.agg [.bool false, .ref 9714 1 0 5 none], .agg [.bool false, .ref 9718 1 0 14 none], .agg [.bool false, .ref 9722 1 0 13 none], .agg [.bool false, .ref 9726 1 0 5 none], .agg [.bool false, .ref 9730 1 0 9 none], .agg [.bool false, .ref 9734 1 0 8 none]]),
  (9276, .arr 9 1 true [.str []]),
  (9320, .arr 119 5 true [.agg [.int .i64 0, .int .i64 0, .int .i64 0, .int .i64 0, .str []]]),
  (9389, .arr 9 1 true [.str [1, 0, 1, 0, 0, 1, 107, 0], .str [2, 0, 1]]),
  (9274, .arr 3 1 true [.int .i64 0]),
  (9273, .arr 3 1 true [.int .i64 0]),
  (9014, .arr 61 15 false [.agg [.int .i64 0, .int .i64 0, .ref 9273 1 0 1 none, .ref 9274 1 0 1 none, .ref 9389 1 0 2 none, .ref 9320 5 0 0 none, .int .u8 0, .int .i64 0, .imm 0 [] 0, .str [], .str [], .imm 0 [] 0, .imm 0 [] 0, .ref 9276 1 0 0 none, .int .i64 0]]),
  (9002, .arr 3 1 true [.int .i64 0]),
  (9001, .arr 3 1 true [.int .i64 0]),
  (9004, .arr 56 2 false [.agg [.ref 9001 1 0 1 none, .ref 9002 1 0 1 none]]),
  (9790, .arr 132 8 false [.agg [.bool true, .int .i64 0, .ref 9004 2 0 1 none, .ref 9014 15 0 1 none, .imm 0 [] 0, .imm 0 [] 0, .ref 9736 2 0 6 none, .imm 10 [] 0]]),
  (9751, .arr 3 1 true [.int .i64 0]),
  (9750, .arr 3 1 true [.int .i64 0]),
  (9753, .arr 56 2 false [.agg [.ref 9750 1 0 1 none, .ref 9751 1 0 1 none]])], 9795,
 { d := .tuple [.agg [.ref 11156 2 0 1 none, .ref 11205 8 0 1 none, .imm 10 [] 0, .ref 11209 1 0 1 none], .int .i64 0], vc := true, eff := [(11209, some (.arr 3 1 true [.int .i64 1])),
  (11129, some (.arr 5 1 true [.int .u8 4, .int .u8 1, .int .u8 0, .int .u8 1, .int .u8 8, .int .u8 13, .int .u8 2, .int .u8 0, .int .u8 1, .int .u8 8, .int .u8 8, .int .u8 1, .int .u8 0, .int .u8 1, .int .u8 0, .int .u8 0, .int .u8 1, .int .u8 107, .int .u8 0, .int .u8 12, .int .u8 3, .int .u8 0, .int .u8 1, .int .u8 8, .int .u8 1, .int .u8 0, .int .u8 1, .int .u8 0, .int .u8 0, .int .u8 1, .int .u8 107, .int .u8 0, .int .u8 4, .int .u8 1, .int .u8 0, .int .u8 2, .int .u8 8, .int .u8 8, .int .u8 2, .int .u8 0, .int .u8 2, .int .u8 8, .int .u8 3, .int .u8 2, .int .u8 0, .int .u8 1, .int .u8 7, .int .u8 3, .int .u8 0, .int .u8 2, .int .u8 3, .int .u8 2, .int .u8 0, .int .u8 1])),
  (11144, some (.arr 9 1 true [.str [1, 0, 1, 0, 0, 1, 107, 0], .str [2, 0, 1]])),
  (11143, some (.arr 3 1 true [.int .i64 0])),
  (11142, some (.arr 3 1 true [.int .i64 0])),
  (11148, some (.arr 61 15 false [.agg [.int .i64 0, .int .i64 0, .ref 11142 1 0 1 none, .ref 11143 1 0 1 none, .ref 11144 1 0 2 none, .imm 5 [] 9, .int .u8 0, .int .i64 0, .imm 0 [] 0, .str [], .str [], .imm 0 [] 0, .imm 0 [] 0, .imm 1 [] 9, .int .i64 0]])),
  (11136, some (.arr 3 1 true [.int .i64 0])),
  (11135, some (.arr 3 1 true [.int .i64 0])),
  (11138, some (.arr 56 2 false [.agg [.ref 11135 1 0 1 none, .ref 11136 1 0 1 none]])),
  (11205, some (.arr 132 8 false [.agg [.bool true, .int .i64 0, .ref 11138 2 0 1 none, .ref 11148 15 0 1 none, .imm 0 [] 0, .ref 11129 1 0 54 none, .imm 0 [] 0, .imm 0 [] 0]])),
  (11154, some (.arr 3 1 true [.int .i64 0])),
  (11153, some (.arr 3 1 true [.int .i64 0])),
  (11156, some (.arr 56 2 false [.agg [.ref 11153 1 0 1 none, .ref 11154 1 0 1 none]]))], nw := (9795, 11210), met := [9792, 9734, 9730, 9726, 9722, 9718, 9714, 9736, 9276, 9320, 9389, 9274, 9273, 9014, 9002, 9001, 9004, 9790, 9751, 9750, 9753] }⟩
theorem Tryz.rI122 : runFQ (getLQ Tryz.ftLI) Tryz.ptI Tryz.tm 2000 (callN (callKQ [Tryz.eI121, Tryz.eI120, Tryz.eI112, Tryz.eI113] noCall) (getLQ Tryz.ftLI) Tryz.ptI Tryz.tm 2000 60) Tryz.eI122.K Tryz.eI122.args Tryz.eI122.heap Tryz.eI122.nx = some Tryz.eI122.out := by kernel_rfl
theorem Tryz.kI122 : EntOk Tryz.prog Tryz.eI122 := entOk_of_runN Tryz.tmOk Tryz.tmMixed Tryz.ftOkI (l := [Tryz.eI121, Tryz.eI120, Tryz.eI112, Tryz.eI113]) (.cons Tryz.kI121 (.cons Tryz.kI120 (.cons Tryz.kI112 (.cons Tryz.kI113 .nil)))) Tryz.rI122

def Tryz.eI123 : Ent := ⟨32, [.agg [.ref 7277 2 0 1 none, .ref 7301 8 0 1 none, .imm 0 [] 0, .ref 6946 1 0 1 none], .agg [.int .u8 1, .int .i64 0, .int .i64 0, .int .i64 0, .int .i64 0, .int .i64 0, .int .u8 0, .int .i64 0, .imm 0 [] 0, .int .i64 0, .str [], .str [], .int .i64 0, .int .i64 0, .imm 0 [] 0, .int .i64 0, .int .i64 0, .int .i64 0]],
 [(6946, .arr 3 1 true [.int .i64 1]),
  (7256, .arr 9 1 true [.str [1, 0, 1, 0, 0, 1, 107, 0]]),
  (7233, .arr 3 1 true [.int .i64 0]),
  (7232, .arr 3 1 true [.int .i64 0]),
  (7180, .arr 61 15 false [.agg [.int .i64 0, .int .i64 0, .ref 7232 1 0 1 none, .ref 7233 1 0 1 none, .imm 0 [] 0, .imm 0 [] 0, .int .u8 0, .int .i64 0, .imm 0 [] 0, .str [], .str [], .imm 0 [] 0, .imm 0 [] 0, .ref 7256 1 0 1 none, .int .i64 0]]),
  (7169, .arr 3 1 true [.int .i64 0]),
  (7168, .arr 3 1 true [.int .i64 0]),
  (7171, .arr 56 2 false [.agg [.ref 7168 1 0 1 none, .ref 7169 1 0 1 none]]),
  (7301, .arr 132 8 false [.agg [.bool true, .int .i64 0, .ref 7171 2 0 1 none, .ref 7180 15 0 1 none, .imm 0 [] 0, .imm 1 [] 0, .imm 0 [] 0, .imm 10 [] 0]]),
  (7275, .arr 3 1 true [.int .i64 0]),
  (7274, .arr 3 1 true [.int .i64 0]),
  (7277, .arr 56 2 false [.agg [.ref 7274 1 0 1 none, .ref 7275 1 0 1 none]])], 7313,
 { d := .tuple [.agg [.ref 8067 2 0 1 none, .ref 8092 8 0 1 none, .imm 0 [] 0, .ref 8094 1 0 1 none], .int .i64 0], vc := true, eff := [(8094, some (.arr 3 1 true [.int .i64 1])),
  (8051, some (.arr 5 1 true [.int .u8 12, .int .u8 3, .int .u8 0, .int .u8 1, .int .u8 8, .int .u8 1, .int .u8 0, .int .u8 1, .int .u8 0, .int .u8 0, .int .u8 1, .int .u8 107, .int .u8 0])),
  (8047, some (.arr 5 1 true [.int .u8 13, .int .u8 2, .int .u8 0, .int .u8 1, .int .u8 8, .int .u8 8, .int .u8 1, .int .u8 0, .int .u8 1, .int .u8 0, .int .u8 0, .int .u8 1, .int .u8 107, .int .u8 0])),
  (8043, some (.arr 5 1 true [.int .u8 4, .int .u8 1, .int .u8 0, .int .u8 1, .int .u8 8])),
  (8053, some (.arr 307 2 false [.agg [.bool false, .ref 8043 1 0 5 none], .agg [.bool false, .ref 8047 1 0 14 none], .agg [.bool false, .ref 8051 1 0 13 none]])),
  (7747, some (.arr 9 1 true [.str []])),
  (7770, some (.arr 119 5 true [.agg [.int .i64 0, .int .i64 0, .int .i64 0, .int .i64 0, .str []]])),
  (7839, some (.arr 9 1 true [.str [1, 0, 1, 0, 0, 1, 107, 0]])),
  (7746, some (.arr 3 1 true [.int .i64 0])),
  (7745, some (.arr 3 1 true [.int .i64 0])),
  (7703, some (.arr 61 15 false [.agg [.int .i64 0, .int .i64 0, .ref 7745 1 0 1 none, .ref 7746 1 0 1 none, .ref 7839 1 0 1 none, .ref 7770 5 0 0 none, .int .u8 0, .int .i64 0, .imm 0 [] 0, .str [], .str [], .imm 0 [] 0, .imm 0 [] 0, .ref 7747 1 0 0 none, .int .i64 0]])),
  (7691, some (.arr 3 1 true [.int .i64 0])),
  (7690, some (.arr 3 1 true [.int .i64 0])),
  (7693, some (.arr 56 2 false [.agg [.ref 7690 1 0 1 none, .ref 7691 1 0 1 none]])),
  (8092, some (.arr 132 8 false [.agg [.bool true, .int .i64 0, .ref 7693 2 0 1 none, .ref 7703 15 0 1 none, .imm 0 [] 0, .imm 0 [] 0, .ref 8053 2 0 3 none, .imm 10 [] 0]])),
  (8065, some (.arr 3 1 true [.int .i64 0])),
  (8064, some (.arr 3 1 true [.int .i64 0])),
  (8067, some (.arr 56 2 false [.agg [.ref 8064 1 0 1 none, .ref 8065 1 0 1 none]]))], nw := (7313, 8095), met := [6946, 7256, 7233, 7232, 7180, 7169, 7168, 7171, 7301, 7275, 7274, 7277] }⟩
theorem Tryz.rI123 : runFQ (getLQ Tryz.ftLI) Tryz.ptI Tryz.tm 2000 (callN (callKQ [Tryz.eI82, Tryz.eI81, Tryz.eI79, Tryz.eI80] noCall) (getLQ Tryz.ftLI) Tryz.ptI Tryz.tm 2000 60) Tryz.eI123.K Tryz.eI123.args Tryz.eI123.heap Tryz.eI123.nx = some Tryz.eI123.out := by kernel_rfl
theorem Tryz.kI123 : EntOk Tryz.prog Tryz.eI123 := entOk_of_runN Tryz.tmOk Tryz.tmMixed Tryz.ftOkI (l := [Tryz.eI82, Tryz.eI81, Tryz.eI79, Tryz.eI80]) (.cons Tryz.kI82 (.cons Tryz.kI81 (.cons Tryz.kI79 (.cons Tryz.kI80 .nil)))) Tryz.rI123

def Tryz.eI124 : Ent := ⟨34, [.agg [.ref 6794 2 0 1 none, .ref 6824 8 0 1 none, .imm 0 [] 0, .ref 6826 1 0 1 (some 1)], .int .i64 0, .agg [.int .i64 0, .ref 6829 1 0 1 (some 1), .int .i64 0, .str [107], .str []]],
 [(6829, .arr 3 1 true [.int .i64 0]),
  (6826, .arr 3 1 true [.int .i64 0]),
  (6815, .arr 3 1 true [.int .i64 0]),
  (6814, .arr 3 1 true [.int .i64 0]),
  (6820, .arr 61 15 false [.agg [.int .i64 0, .int .i64 0, .ref 6814 1 0 1 none, .ref 6815 1 0 1 none, .imm 0 [] 0, .imm 0 [] 0, .int .u8 0, .int .i64 0, .imm 0 [] 0, .str [], .str [], .imm 0 [] 0, .imm 0 [] 0, .imm 0 [] 0, .int .i64 0]]),
  (6805, .arr 3 1 true [.int .i64 0]),
  (6804, .arr 3 1 true [.int .i64 0]),
  (6807, .arr 56 2 false [.agg [.ref 6804 1 0 1 none, .ref 6805 1 0 1 none]]),
  (6824, .arr 132 8 false [.agg [.bool true, .int .i64 0, .ref 6807 2 0 1 none, .ref 6820 15 0 1 none, .imm 0 [] 0, .imm 0 [] 0, .imm 0 [] 0, .imm 0 [] 0]]),
  (6792, .arr 3 1 true [.int .i64 0]),
  (6791, .arr 3 1 true [.int .i64 0]),
  (6794, .arr 56 2 false [.agg [.ref 6791 1 0 1 none, .ref 6792 1 0 1 none]])], 6838,
 { d := .tuple [.agg [.ref 7277 2 0 1 none, .ref 7301 8 0 1 none, .imm 0 [] 0, .ref 6946 1 0 1 none], .int .i64 0, .int .i64 0], vc := true, eff := [(6946, some (.arr 3 1 true [.int .i64 1])),
  (7256, some (.arr 9 1 true [.str [1, 0, 1, 0, 0, 1, 107, 0]])),
  (7233, some (.arr 3 1 true [.int .i64 0])),
  (7232, some (.arr 3 1 true [.int .i64 0])),
  (7180, some (.arr 61 15 false [.agg [.int .i64 0, .int .i64 0, .ref 7232 1 0 1 none, .ref 7233 1 0 1 none, .imm 0 [] 0, .imm 0 [] 0, .int .u8 0, .int .i64 0, .imm 0 [] 0, .str [], .str [], .imm 0 [] 0, .imm 0 [] 0, .ref 7256 1 0 1 none, .int .i64 0]])),
  (7169, some (.arr 3 1 true [.int .i64 0])),
  (7168, some (.arr 3 1 true [.int .i64 0])),
  (7171, some (.arr 56 2 false [.agg [.ref 7168 1 0 1 none, .ref 7169 1 0 1 none]])),
  (7301, some (.arr 132 8 false [.agg [.bool true, .int .i64 0, .ref 7171 2 0 1 none, .ref 7180 15 0 1 none, .imm 0 [] 0, .imm 1 [] 0, .imm 0 [] 0, .imm 10 [] 0]])),
  (7275, some (.arr 3 1 true [.int .i64 0])),
  (7274, some (.arr 3 1 true [.int .i64 0])),
  (7277, some (.arr 56 2 false [.agg [.ref 7274 1 0 1 none, .ref 7275 1 0 1 none]]))], nw := (6838, 7306), met := [6829, 6826, 6815, 6814, 6820, 6805, 6804, 6807, 6824, 6792, 6791, 6794] }⟩
theorem Tryz.rI124 : runFQ (getLQ Tryz.ftLI) Tryz.ptI Tryz.tm 2000 (callN (callKQ [Tryz.eI74, Tryz.eI73, Tryz.eI72] noCall) (getLQ Tryz.ftLI) Tryz.ptI Tryz.tm 2000 60) Tryz.eI124.K Tryz.eI124.args Tryz.eI124.heap Tryz.eI124.nx = some Tryz.eI124.out := by kernel_rfl
theorem Tryz.kI124 : EntOk Tryz.prog Tryz.eI124 := entOk_of_runN Tryz.tmOk Tryz.tmMixed Tryz.ftOkI (l := [Tryz.eI74, Tryz.eI73, Tryz.eI72]) (.cons Tryz.kI74 (.cons Tryz.kI73 (.cons Tryz.kI72 .nil))) Tryz.rI124

def Tryz.eI125 : Ent := ⟨91, [.ptr 11248 0],
 [(11144, .arr 9 1 true [.str [1, 0, 1, 0, 0, 1, 107, 0], .str [2, 0, 1]]),
  (11143, .arr 3 1 true [.int .i64 0]),
  (11142, .arr 3 1 true [.int .i64 0]),
  (11148, .arr 61 15 false [.agg [.int .i64 0, .int .i64 0, .ref 11142 1 0 1 none, .ref 11143 1 0 1 none, .ref 11144 1 0 2 none, .imm 5 [] 9, .int .u8 0, .int .i64 0, .imm 0 [] 0, .str [], .str [], .imm 0 [] 0, .imm 0 [] 0, .imm 1 [] 9, .int .i64 0]]),
  (11136, .arr 3 1 true [.int .i64 0]),
  (11135, .arr 3 1 true [.int .i64 0]),
  (11138, .arr 56 2 false [.agg [.ref 11135 1 0 1 none, .ref 11136 1 0 1 none]]),
  (11248, .box [.int .i64 0, .ref 11138 2 0 1 none, .ref 11148 15 0 1 none, .imm 0 [] 0, .imm 0 [] 0, .imm 0 [] 0])], 11298,
 { d := .mref 11298, vc := true, eff := [(11298, some (.map []))], nw := (11298, 11418), met := [11144, 11143, 11142, 11148, 11136, 11135, 11138, 11248] }⟩
theorem Tryz.rI125 : runFQ (getLQ Tryz.ftLI) Tryz.ptI Tryz.tm 2000 (callN (callKQ [] noCall) (getLQ Tryz.ftLI) Tryz.ptI Tryz.tm 2000 60) Tryz.eI125.K Tryz.eI125.args Tryz.eI125.heap Tryz.eI125.nx = some Tryz.eI125.out := by kernel_rfl
theorem Tryz.kI125 : EntOk Tryz.prog Tryz.eI125 := entOk_of_runN Tryz.tmOk Tryz.tmMixed Tryz.ftOkI (l := []) .nil Tryz.rI125

def Tryz.eI126 : Ent := ⟨210, [.str [2, 0, 1, 8, 8, 1, 0, 1, 0, 0, 1, 107, 0]],
 [], 11477,
 { d := .tuple [.agg [.int .u8 2, .int .i64 0, .int .i64 1, .int .i64 8, .str [1, 0, 1, 0, 0, 1, 107, 0]], .int .i64 0], vc := true, eff := [], nw := (11477, 11482), met := [] }⟩
theorem Tryz.rI126 : runFQ (getLQ Tryz.ftLI) Tryz.ptI Tryz.tm 2000 (callN (callKQ [] noCall) (getLQ Tryz.ftLI) Tryz.ptI Tryz.tm 2000 60) Tryz.eI126.K Tryz.eI126.args Tryz.eI126.heap Tryz.eI126.nx = some Tryz.eI126.out := by kernel_rfl
theorem Tryz.kI126 : EntOk Tryz.prog Tryz.eI126 := entOk_of_runN Tryz.tmOk Tryz.tmMixed Tryz.ftOkI (l := []) .nil Tryz.rI126

def Tryz.eI127 : Ent := ⟨210, [.str [2, 0, 2, 8, 3, 2, 0, 1]],
 [], 11527,
 { d := .tuple [.agg [.int .u8 2, .int .i64 0, .int .i64 2, .int .i64 8, .str [2, 0, 1]], .int .i64 0], vc := true, eff := [], nw := (11527, 11532), met := [] }⟩
theorem Tryz.rI127 : runFQ (getLQ Tryz.ftLI) Tryz.ptI Tryz.tm 2000 (callN (callKQ [] noCall) (getLQ Tryz.ftLI) Tryz.ptI Tryz.tm 2000 60) Tryz.eI127.K Tryz.eI127.args Tryz.eI127.heap Tryz.eI127.nx = some Tryz.eI127.out := by kernel_rfl
theorem Tryz.kI127 : EntOk Tryz.prog Tryz.eI127 := entOk_of_runN Tryz.tmOk Tryz.tmMixed Tryz.ftOkI (l := []) .nil Tryz.rI127

def Tryz.eI128 : Ent := ⟨210, [.str [1, 0, 1, 8]],
 [], 11462,
 { d := .tuple [.agg [.int .u8 1, .int .i64 0, .int .i64 1, .int .i64 8, .str []], .int .i64 0], vc := true, eff := [], nw := (11462, 11467), met := [] }⟩
theorem Tryz.rI128 : runFQ (getLQ Tryz.ftLI) Tryz.ptI Tryz.tm 2000 (callN (callKQ [] noCall) (getLQ Tryz.ftLI) Tryz.ptI Tryz.tm 2000 60) Tryz.eI128.K Tryz.eI128.args Tryz.eI128.heap Tryz.eI128.nx = some Tryz.eI128.out := by kernel_rfl
theorem Tryz.kI128 : EntOk Tryz.prog Tryz.eI128 := entOk_of_runN Tryz.tmOk Tryz.tmMixed Tryz.ftOkI (l := []) .nil Tryz.rI128

def Tryz.eI129 : Ent := ⟨138, [.int .i64 1, .ref 11435 1 0 6 none],
 [(11435, .arr 9 1 true [.str [1, 0, 1, 8], .str [2, 0, 1, 8, 8, 1, 0, 1, 0, 0, 1, 107, 0], .str [3, 0, 1, 8, 1, 0, 1, 0, 0, 1, 107, 0], .str [1, 0, 2, 8], .str [2, 0, 2, 8, 3, 2, 0, 1], .str [3, 0, 2, 3, 2, 0, 1]])], 11458,
 { d := .tuple [.agg [.ref 11460 1 0 1 (some 1), .ref 11476 5 0 0 none], .int .i64 0], vc := true, eff := [(11476, some (.arr 119 5 true [.agg [.int .i64 0, .int .i64 0, .int .i64 0, .int .i64 0, .str []]])),
  (11562, some (.arr 9 1 true [.str [1, 0, 1, 0, 0, 1, 107, 0], .str [2, 0, 1]])),
  (11460, some (.arr 40 1 false [.ref 11562 1 0 2 none]))], nw := (11458, 11563), met := [11435] }⟩
theorem Tryz.rI129 : runFQ (getLQ Tryz.ftLI) Tryz.ptI Tryz.tm 2000 (callN (callKQ [Tryz.eI126, Tryz.eI127, Tryz.eI128] noCall) (getLQ Tryz.ftLI) Tryz.ptI Tryz.tm 2000 60) Tryz.eI129.K Tryz.eI129.args Tryz.eI129.heap Tryz.eI129.nx = some Tryz.eI129.out := by kernel_rfl
theorem Tryz.kI129 : EntOk Tryz.prog Tryz.eI129 := entOk_of_runN Tryz.tmOk Tryz.tmMixed Tryz.ftOkI (l := [Tryz.eI126, Tryz.eI127, Tryz.eI128]) (.cons Tryz.kI126 (.cons Tryz.kI127 (.cons Tryz.kI128 .nil))) Tryz.rI129

def Tryz.eI130 : Ent := ⟨120, [.agg [.bool true, .int .i64 0, .ref 11138 2 0 1 none, .ref 11148 15 0 1 none, .imm 0 [] 0, .ref 11129 1 0 54 none, .imm 0 [] 0, .imm 0 [] 0]],
 [(11129, .arr 5 1 true [.int .u8 4, .int .u8 1, .int .u8 0, .int .u8 1, .int .u8 8, .int .u8 13, .int .u8 2, .int .u8 0, .int .u8 1, .int .u8 8, .int .u8 8, .int .u8 1, .int .u8 0, .int .u8 1, .int .u8 0, .int .u8 0, .int .u8 1, .int .u8 107, .int .u8 0, .int .u8 12, .int .u8 3, .int .u8 0, .int .u8 1, .int .u8 8, .int .u8 1, .int .u8 0, .int .u8 1, .int .u8 0, .int .u8 0, .int .u8 1, .int .u8 107, .int .u8 0, .int .u8 4, .int .u8 1, .int .u8 0, .int .u8 2, .int .u8 8, .int .u8 8, .int .u8 2, .int .u8 0, .int .u8 2, .int .u8 8, .int .u8 3, .int .u8 2, .int .u8 0, .int .u8 1, .int .u8 7, .int .u8 3, .int .u8 0, .int .u8 2, .int .u8 3, .int .u8 2, .int .u8 0, .int .u8 1]),
  (11144, .arr 9 1 true [.str [1, 0, 1, 0, 0, 1, 107, 0], .str [2, 0, 1]]),
  (11143, .arr 3 1 true [.int .i64 0]),
  (11142, .arr 3 1 true [.int .i64 0]),
  (11148, .arr 61 15 false [.agg [.int .i64 0, .int .i64 0, .ref 11142 1 0 1 none, .ref 11143 1 0 1 none, .ref 11144 1 0 2 none, .imm 5 [] 9, .int .u8 0, .int .i64 0, .imm 0 [] 0, .str [], .str [], .imm 0 [] 0, .imm 0 [] 0, .imm 1 [] 9, .int .i64 0]]),
  (11136, .arr 3 1 true [.int .i64 0]),
  (11135, .arr 3 1 true [.int .i64 0]),
  (11138, .arr 56 2 false [.agg [.ref 11135 1 0 1 none, .ref 11136 1 0 1 none]])], 11244,
 { d := .int .i64 0, vc := true, eff := [], nw := (11244, 11572), met := [11129, 11144, 11143, 11142, 11148, 11136, 11135, 11138] }⟩
theorem Tryz.rI130 : runFQ (getLQ Tryz.ftLI) Tryz.ptI Tryz.tm 2000 (callN (callKQ [Tryz.eI129, Tryz.eI125] noCall) (getLQ Tryz.ftLI) Tryz.ptI Tryz.tm 2000 60) Tryz.eI130.K Tryz.eI130.args Tryz.eI130.heap Tryz.eI130.nx = some Tryz.eI130.out := by kernel_rfl
theorem Tryz.kI130 : EntOk Tryz.prog Tryz.eI130 := entOk_of_runN Tryz.tmOk Tryz.tmMixed Tryz.ftOkI (l := [Tryz.eI129, Tryz.eI125]) (.cons Tryz.kI129 (.cons Tryz.kI125 .nil)) Tryz.rI130

def Tryz.eI131 : Ent := ⟨91, [.ptr 11584 0],
 [(11144, .arr 9 1 true [.str [1, 0, 1, 0, 0, 1, 107, 0], .str [2, 0, 1]]),
  (11143, .arr 3 1 true [.int .i64 0]),
  (11142, .arr 3 1 true [.int .i64 0]),
  (11148, .arr 61 15 false [.agg [.int .i64 0, .int .i64 0, .ref 11142 1 0 1 none, .ref 11143 1 0 1 none, .ref 11144 1 0 2 none, .imm 5 [] 9, .int .u8 0, .int .i64 0, .imm 0 [] 0, .str [], .str [], .imm 0 [] 0, .imm 0 [] 0, .imm 1 [] 9, .int .i64 0]]),
  (11136, .arr 3 1 true [.int .i64 0]),
  (11135, .arr 3 1 true [.int .i64 0]),
  (11138, .arr 56 2 false [.agg [.ref 11135 1 0 1 none, .ref 11136 1 0 1 none]]),
  (11584, .box [.int .i64 0, .ref 11138 2 0 1 none, .ref 11148 15 0 1 none, .imm 0 [] 0, .imm 0 [] 0, .imm 0 [] 0])], 11634,
 { d := .mref 11634, vc := true, eff := [(11634, some (.map []))], nw := (11634, 11754), met := [11144, 11143, 11142, 11148, 11136, 11135, 11138, 11584] }⟩
theorem Tryz.rI131 : runFQ (getLQ Tryz.ftLI) Tryz.ptI Tryz.tm 2000 (callN (callKQ [] noCall) (getLQ Tryz.ftLI) Tryz.ptI Tryz.tm 2000 60) Tryz.eI131.K Tryz.eI131.args Tryz.eI131.heap Tryz.eI131.nx = some Tryz.eI131.out := by kernel_rfl
theorem Tryz.kI131 : EntOk Tryz.prog Tryz.eI131 := entOk_of_runN Tryz.tmOk Tryz.tmMixed Tryz.ftOkI (l := []) .nil Tryz.rI131

def Tryz.eI132 : Ent := ⟨210, [.str [2, 0, 1, 8, 8, 1, 0, 1, 0, 0, 1, 107, 0]],
 [], 11813,
 { d := .tuple [.agg [.int .u8 2, .int .i64 0, .int .i64 1, .int .i64 8, .str [1, 0, 1, 0, 0, 1, 107, 0]], .int .i64 0], vc := true, eff := [], nw := (11813, 11818), met := [] }⟩
theorem Tryz.rI132 : runFQ (getLQ Tryz.ftLI) Tryz.ptI Tryz.tm 2000 (callN (callKQ [] noCall) (getLQ Tryz.ftLI) Tryz.ptI Tryz.tm 2000 60) Tryz.eI132.K Tryz.eI132.args Tryz.eI132.heap Tryz.eI132.nx = some Tryz.eI132.out := by kernel_rfl
theorem Tryz.kI132 : EntOk Tryz.prog Tryz.eI132 := entOk_of_runN Tryz.tmOk Tryz.tmMixed Tryz.ftOkI (l := []) .nil Tryz.rI132

def Tryz.eI133 : Ent := ⟨210, [.str [2, 0, 2, 8, 3, 2, 0, 1]],
 [], 11863,
 { d := .tuple [.agg [.int .u8 2, .int .i64 0, .int .i64 2, .int .i64 8, .str [2, 0, 1]], .int .i64 0], vc := true, eff := [], nw := (11863, 11868), met := [] }⟩
theorem Tryz.rI133 : runFQ (getLQ Tryz.ftLI) Tryz.ptI Tryz.tm 2000 (callN (callKQ [] noCall) (getLQ Tryz.ftLI) Tryz.ptI Tryz.tm 2000 60) Tryz.eI133.K Tryz.eI133.args Tryz.eI133.heap Tryz.eI133.nx = some Tryz.eI133.out := by kernel_rfl
theorem Tryz.kI133 : EntOk Tryz.prog Tryz.eI133 := entOk_of_runN Tryz.tmOk Tryz.tmMixed Tryz.ftOkI (l := []) .nil Tryz.rI133

def Tryz.eI134 : Ent := ⟨210, [.str [1, 0, 1, 8]],
 [], 11798,
 { d := .tuple [.agg [.int .u8 1, .int .i64 0, .int .i64 1, .int .i64 8, .str []], .int .i64 0], vc := true, eff := [], nw := (11798, 11803), met := [] }⟩
theorem Tryz.rI134 : runFQ (getLQ Tryz.ftLI) Tryz.ptI Tryz.tm 2000 (callN (callKQ [] noCall) (getLQ Tryz.ftLI) Tryz.ptI Tryz.tm 2000 60) Tryz.eI134.K Tryz.eI134.args Tryz.eI134.heap Tryz.eI134.nx = some Tryz.eI134.out := by kernel_rfl
theorem Tryz.kI134 : EntOk Tryz.prog Tryz.eI134 := entOk_of_runN Tryz.tmOk Tryz.tmMixed Tryz.ftOkI (l := []) .nil Tryz.rI134

def Tryz.eI135 : Ent := ⟨138, [.int .i64 1, .ref 11771 1 0 6 none],
 [(11771, .arr 9 1 true [.str [1, 0, 1, 8], .str [2, 0, 1, 8, 8, 1, 0, 1, 0, 0, 1, 107, 0], .str [3, 0, 1, 8, 1, 0, 1, 0, 0, 1, 107, 0], .str [1, 0, 2, 8], .str [2, 0, 2, 8, 3, 2, 0, 1], .str [3, 0, 2, 3, 2, 0, 1]])], 11794,
 { d := .tuple [.agg [.ref 11796 1 0 1 (some 1), .ref 11812 5 0 0 none], .int .i64 0], vc := true, eff := [(11812, some (.arr 119 5 true [.agg [.int .i64 0, .int .i64 0, .int .i64 0, .int .i64 0, .str []]])),
  (11898, some (.arr 9 1 true [.str [1, 0, 1, 0, 0, 1, 107, 0], .str [2, 0, 1]])),
  (11796, some (.arr 40 1 false [.ref 11898 1 0 2 none]))], nw := (11794, 11899), met := [11771] }⟩
theorem Tryz.rI135 : runFQ (getLQ Tryz.ftLI) Tryz.ptI Tryz.tm 2000 (callN (callKQ [Tryz.eI132, Tryz.eI133, Tryz.eI134] noCall) (getLQ Tryz.ftLI) Tryz.ptI Tryz.tm 2000 60) Tryz.eI135.K Tryz.eI135.args Tryz.eI135.heap Tryz.eI135.nx = some Tryz.eI135.out := by kernel_rfl
theorem Tryz.kI135 : EntOk Tryz.prog Tryz.eI135 := entOk_of_runN Tryz.tmOk Tryz.tmMixed Tryz.ftOkI (l := [Tryz.eI132, Tryz.eI133, Tryz.eI134]) (.cons Tryz.kI132 (.cons Tryz.kI133 (.cons Tryz.kI134 .nil))) Tryz.rI135

def Tryz.eI136 : Ent := ⟨131, [.agg [.bool true, .int .i64 0, .ref 11138 2 0 1 none, .ref 11148 15 0 1 none, .imm 0 [] 0, .ref 11129 1 0 54 none, .imm 0 [] 0, .imm 0 [] 0], .bool true],
 [(11129, .arr 5 1 true [.int .u8 4, .int .u8 1, .int .u8 0, .int .u8 1, .int .u8 8, .int .u8 13, .int .u8 2, .int .u8 0, .int .u8 1, .int .u8 8, .int .u8 8, .int .u8 1, .int .u8 0, .int .u8 1, .int .u8 0, .int .u8 0, .int .u8 1, .int .u8 107, .int .u8 0, .int .u8 12, .int .u8 3, .int .u8 0, .int .u8 1, .int .u8 8, .int .u8 1, .int .u8 0, .int .u8 1, .int .u8 0, .int .u8 0, .int .u8 1, .int .u8 107, .int .u8 0, .int .u8 4, .int .u8 1, .int .u8 0, .int .u8 2, .int .u8 8, .int .u8 8, .int .u8 2, .int .u8 0, .int .u8 2, .int .u8 8, .int .u8 3, .int .u8 2, .int .u8 0, .int .u8 1, .int .u8 7, .int .u8 3, .int .u8 0, .int .u8 2, .int .u8 3, .int .u8 2, .int .u8 0, .int .u8 1]),
  (11144, .arr 9 1 true [.str [1, 0, 1, 0, 0, 1, 107, 0], .str [2, 0, 1]]),
  (11143, .arr 3 1 true [.int .i64 0]),
  (11142, .arr 3 1 true [.int .i64 0]),
  (11148, .arr 61 15 false [.agg [.int .i64 0, .int .i64 0, .ref 11142 1 0 1 none, .ref 11143 1 0 1 none, .ref 11144 1 0 2 none, .imm 5 [] 9, .int .u8 0, .int .i64 0, .imm 0 [] 0, .str [], .str [], .imm 0 [] 0, .imm 0 [] 0, .imm 1 [] 9, .int .i64 0]]),
  (11136, .arr 3 1 true [.int .i64 0]),
  (11135, .arr 3 1 true [.int .i64 0]),
  (11138, .arr 56 2 false [.agg [.ref 11135 1 0 1 none, .ref 11136 1 0 1 none]])], 11579,
 { d := .int .i64 0, vc := true, eff := [], nw := (11579, 11908), met := [11129, 11144, 11143, 11142, 11148, 11136, 11135, 11138] }⟩
theorem Tryz.rI136 : runFQ (getLQ Tryz.ftLI) Tryz.ptI Tryz.tm 2000 (callN (callKQ [Tryz.eI135, Tryz.eI131] noCall) (getLQ Tryz.ftLI) Tryz.ptI Tryz.tm 2000 60) Tryz.eI136.K Tryz.eI136.args Tryz.eI136.heap Tryz.eI136.nx = some Tryz.eI136.out := by kernel_rfl
theorem Tryz.kI136 : EntOk Tryz.prog Tryz.eI136 := entOk_of_runN Tryz.tmOk Tryz.tmMixed Tryz.ftOkI (l := [Tryz.eI135, Tryz.eI131]) (.cons Tryz.kI135 (.cons Tryz.kI131 .nil)) Tryz.rI136

def Tryz.eI137 : Ent := ⟨210, [.str [2, 0, 1, 8, 8, 1, 0, 1, 0, 0, 1, 107, 0]],
 [], 12006,
 { d := .tuple [.agg [.int .u8 2, .int .i64 0, .int .i64 1, .int .i64 8, .str [1, 0, 1, 0, 0, 1, 107, 0]], .int .i64 0], vc := true, eff := [], nw := (12006, 12011), met := [] }⟩
theorem Tryz.rI137 : runFQ (getLQ Tryz.ftLI) Tryz.ptI Tryz.tm 2000 (callN (callKQ [] noCall) (getLQ Tryz.ftLI) Tryz.ptI Tryz.tm 2000 60) Tryz.eI137.K Tryz.eI137.args Tryz.eI137.heap Tryz.eI137.nx = some Tryz.eI137.out := by kernel_rfl
theorem Tryz.kI137 : EntOk Tryz.prog Tryz.eI137 := entOk_of_runN Tryz.tmOk Tryz.tmMixed Tryz.ftOkI (l := []) .nil Tryz.rI137

def Tryz.eI138 : Ent := ⟨210, [.str [2, 0, 2, 8, 3, 2, 0, 1]],
 [], 12056,
 { d := .tuple [.agg [.int .u8 2, .int .i64 0, .int .i64 2, .int .i64 8, .str [2, 0, 1]], .int .i64 0], vc := true, eff := [], nw := (12056, 12061), met := [] }⟩
theorem Tryz.rI138 : runFQ (getLQ Tryz.ftLI) Tryz.ptI Tryz.tm 2000 (callN (callKQ [] noCall) (getLQ Tryz.ftLI) Tryz.ptI Tryz.tm 2000 60) Tryz.eI138.K Tryz.eI138.args Tryz.eI138.heap Tryz.eI138.nx = some Tryz.eI138.out := by kernel_rfl
theorem Tryz.kI138 : EntOk Tryz.prog Tryz.eI138 := entOk_of_runN Tryz.tmOk Tryz.tmMixed Tryz.ftOkI (l := []) .nil Tryz.rI138

def Tryz.eI139 : Ent := ⟨210, [.str [1, 0, 1, 8]],
 [], 11991,
 { d := .tuple [.agg [.int .u8 1, .int .i64 0, .int .i64 1, .int .i64 8, .str []], .int .i64 0], vc := true, eff := [], nw := (11991, 11996), met := [] }⟩
theorem Tryz.rI139 : runFQ (getLQ Tryz.ftLI) Tryz.ptI Tryz.tm 2000 (callN (callKQ [] noCall) (getLQ Tryz.ftLI) Tryz.ptI Tryz.tm 2000 60) Tryz.eI139.K Tryz.eI139.args Tryz.eI139.heap Tryz.eI139.nx = some Tryz.eI139.out := by kernel_rfl
theorem Tryz.kI139 : EntOk Tryz.prog Tryz.eI139 := entOk_of_runN Tryz.tmOk Tryz.tmMixed Tryz.ftOkI (l := []) .nil Tryz.rI139

def Tryz.eI140 : Ent := ⟨91, [.ptr 12124 0],
 [(12122, .arr 9 1 true [.str [1, 0, 1, 0, 0, 1, 107, 0], .str [2, 0, 1]]),
  (12113, .arr 3 1 true [.int .i64 0]),
  (12112, .arr 3 1 true [.int .i64 0]),
  (12118, .arr 61 15 false [.agg [.int .i64 0, .int .i64 0, .ref 12112 1 0 1 none, .ref 12113 1 0 1 none, .ref 12122 1 0 2 none, .imm 0 [] 0, .int .u8 0, .int .i64 0, .imm 0 [] 0, .str [], .str [], .imm 0 [] 0, .imm 0 [] 0, .imm 0 [] 0, .int .i64 0]]),
  (12103, .arr 3 1 true [.int .i64 0]),
  (12102, .arr 3 1 true [.int .i64 0]),
  (12105, .arr 56 2 false [.agg [.ref 12102 1 0 1 none, .ref 12103 1 0 1 none]]),
  (12124, .box [.int .i64 0, .ref 12105 2 0 1 none, .ref 12118 15 0 1 none, .imm 0 [] 0, .imm 0 [] 0, .imm 0 [] 0])], 12174,
 { d := .mref 12174, vc := true, eff := [(12174, some (.map []))], nw := (12174, 12294), met := [12122, 12113, 12112, 12118, 12103, 12102, 12105, 12124] }⟩
theorem Tryz.rI140 : runFQ (getLQ Tryz.ftLI) Tryz.ptI Tryz.tm 2000 (callN (callKQ [] noCall) (getLQ Tryz.ftLI) Tryz.ptI Tryz.tm 2000 60) Tryz.eI140.K Tryz.eI140.args Tryz.eI140.heap Tryz.eI140.nx = some Tryz.eI140.out := by kernel_rfl
theorem Tryz.kI140 : EntOk Tryz.prog Tryz.eI140 := entOk_of_runN Tryz.tmOk Tryz.tmMixed Tryz.ftOkI (l := []) .nil Tryz.rI140

def Tryz.eI141 : Ent := ⟨138, [.int .i64 1, .ref 11964 1 0 6 none],
 [(11964, .arr 9 1 true [.str [1, 0, 1, 8], .str [2, 0, 1, 8, 8, 1, 0, 1, 0, 0, 1, 107, 0], .str [3, 0, 1, 8, 1, 0, 1, 0, 0, 1, 107, 0], .str [1, 0, 2, 8], .str [2, 0, 2, 8, 3, 2, 0, 1], .str [3, 0, 2, 3, 2, 0, 1]])], 11987,
 { d := .tuple [.agg [.ref 11989 1 0 1 (some 1), .ref 12005 5 0 0 none], .int .i64 0], vc := true, eff := [(12005, some (.arr 119 5 true [.agg [.int .i64 0, .int .i64 0, .int .i64 0, .int .i64 0, .str []]])),
  (12091, some (.arr 9 1 true [.str [1, 0, 1, 0, 0, 1, 107, 0], .str [2, 0, 1]])),
  (11989, some (.arr 40 1 false [.ref 12091 1 0 2 none]))], nw := (11987, 12092), met := [11964] }⟩
theorem Tryz.rI141 : runFQ (getLQ Tryz.ftLI) Tryz.ptI Tryz.tm 2000 (callN (callKQ [Tryz.eI137, Tryz.eI138, Tryz.eI139] noCall) (getLQ Tryz.ftLI) Tryz.ptI Tryz.tm 2000 60) Tryz.eI141.K Tryz.eI141.args Tryz.eI141.heap Tryz.eI141.nx = some Tryz.eI141.out := by kernel_rfl
theorem Tryz.kI141 : EntOk Tryz.prog Tryz.eI141 := entOk_of_runN Tryz.tmOk Tryz.tmMixed Tryz.ftOkI (l := [Tryz.eI137, Tryz.eI138, Tryz.eI139]) (.cons Tryz.kI137 (.cons Tryz.kI138 (.cons Tryz.kI139 .nil))) Tryz.rI141

def Tryz.eI142 : Ent := ⟨14, [.int .i64 0, .ref 11156 2 0 1 none, .agg [.ref 11989 1 0 1 (some 1), .ref 12005 5 0 0 none]],
 [(12005, .arr 119 5 true [.agg [.int .i64 0, .int .i64 0, .int .i64 0, .int .i64 0, .str []]]),
  (12091, .arr 9 1 true [.str [1, 0, 1, 0, 0, 1, 107, 0], .str [2, 0, 1]]),
  (11989, .arr 40 1 false [.ref 12091 1 0 2 none]),
  (11154, .arr 3 1 true [.int .i64 0]),
  (11153, .arr 3 1 true [.int .i64 0]),
  (11156, .arr 56 2 false [.agg [.ref 11153 1 0 1 none, .ref 11154 1 0 1 none]])], 12093,
 { d := .tuple [.agg [.int .i64 0, .ref 12105 2 0 1 none, .ref 12118 15 0 1 none, .imm 0 [] 0], .int .i64 0], vc := true, eff := [(12122, some (.arr 9 1 true [.str [1, 0, 1, 0, 0, 1, 107, 0], .str [2, 0, 1]])),
  (12113, some (.arr 3 1 true [.int .i64 0])),
  (12112, some (.arr 3 1 true [.int .i64 0])),
  (12118, some (.arr 61 15 false [.agg [.int .i64 0, .int .i64 0, .ref 12112 1 0 1 none, .ref 12113 1 0 1 none, .ref 12122 1 0 2 none, .imm 0 [] 0, .int .u8 0, .int .i64 0, .imm 0 [] 0, .str [], .str [], .imm 0 [] 0, .imm 0 [] 0, .imm 0 [] 0, .int .i64 0]])),
  (12103, some (.arr 3 1 true [.int .i64 0])),
  (12102, some (.arr 3 1 true [.int .i64 0])),
  (12105, some (.arr 56 2 false [.agg [.ref 12102 1 0 1 none, .ref 12103 1 0 1 none]]))], nw := (12093, 12294), met := [12005, 12091, 11989, 11154, 11153, 11156] }⟩
theorem Tryz.rI142 : runFQ (getLQ Tryz.ftLI) Tryz.ptI Tryz.tm 2000 (callN (callKQ [Tryz.eI140] noCall) (getLQ Tryz.ftLI) Tryz.ptI Tryz.tm 2000 60) Tryz.eI142.K Tryz.eI142.args Tryz.eI142.heap Tryz.eI142.nx = some Tryz.eI142.out := by kernel_rfl
theorem Tryz.kI142 : EntOk Tryz.prog Tryz.eI142 := entOk_of_runN Tryz.tmOk Tryz.tmMixed Tryz.ftOkI (l := [Tryz.eI140]) (.cons Tryz.kI140 .nil) Tryz.rI142

def Tryz.eI143 : Ent := ⟨74, [.agg [.ref 11156 2 0 1 none, .ref 11205 8 0 1 none, .imm 10 [] 0, .ref 11209 1 0 1 none], .int .i64 0, .int .i64 0],
 [(11209, .arr 3 1 true [.int .i64 1]),
  (11129, .arr 5 1 true [.int .u8 4, .int .u8 1, .int .u8 0, .int .u8 1, .int .u8 8, .int .u8 13, .int .u8 2, .int .u8 0, .int .u8 1, .int .u8 8, .int .u8 8, .int .u8 1, .int .u8 0, .int .u8 1, .int .u8 0, .int .u8 0, .int .u8 1, .int .u8 107, .int .u8 0, .int .u8 12, .int .u8 3, .int .u8 0, .int .u8 1, .int .u8 8, .int .u8 1, .int .u8 0, .int .u8 1, .int .u8 0, .int .u8 0, .int .u8 1, .int .u8 107, .int .u8 0, .int .u8 4, .int .u8 1, .int .u8 0, .int .u8 2, .int .u8 8, .int .u8 8, .int .u8 2, .int .u8 0, .int .u8 2, .int .u8 8, .int .u8 3, .int .u8 2, .int .u8 0, .int .u8 1, .int .u8 7, .int .u8 3, .int .u8 0, .int .u8 2, .int .u8 3, .int .u8 2, .int .u8 0, .int .u8 1]),
  (11144, .arr 9 1 true [.str [1, 0, 1, 0, 0, 1, 107, 0], .str [2, 0, 1]]),
  (11143, .arr 3 1 true [.int .i64 0]),
  (11142, .arr 3 1 true [.int .i64 0]),
  (11148, .arr 61 15 false [.agg [.int .i64 0, .int .i64 0, .ref 11142 1 0 1 none, .ref 11143 1 0 1 none, .ref 11144 1 0 2 none, .imm 5 [] 9, .int .u8 0, .int .i64 0, .imm 0 [] 0, .str [], .str [], .imm 0 [] 0, .imm 0 [] 0, .imm 1 [] 9, .int .i64 0]]),
  (11136, .arr 3 1 true [.int .i64 0]),
  (11135, .arr 3 1 true [.int .i64 0]),
  (11138, .arr 56 2 false [.agg [.ref 11135 1 0 1 none, .ref 11136 1 0 1 none]]),
  (11205, .arr 132 8 false [.agg [.bool true, .int .i64 0, .ref 11138 2 0 1 none, .ref 11148 15 0 1 none, .imm 0 [] 0, .ref 11129 1 0 54 none, .imm 0 [] 0, .imm 0 [] 0]]),
  (11154, .arr 3 1 true [.int .i64 0]),
  (11153, .arr 3 1 true [.int .i64 0]),
  (11156, .arr 56 2 false [.agg [.ref 11153 1 0 1 none, .ref 11154 1 0 1 none]])], 11212,
 { d := .tuple [.ref 12122 1 0 2 none, .int .i64 0], vc := true, eff := [(12122, some (.arr 9 1 true [.str [1, 0, 1, 0, 0, 1, 107, 0], .str [2, 0, 1]]))], nw := (11212, 12296), met := [11209, 11129, 11144, 11143, 11142, 11148, 11136, 11135, 11138, 11205, 11154, 11153, 11156] }⟩
theorem Tryz.rI143 : runFQ (getLQ Tryz.ftLI) Tryz.ptI Tryz.tm 2000 (callN (callKQ [Tryz.eI130, Tryz.eI136, Tryz.eI141, Tryz.eI142] noCall) (getLQ Tryz.ftLI) Tryz.ptI Tryz.tm 2000 60) Tryz.eI143.K Tryz.eI143.args Tryz.eI143.heap Tryz.eI143.nx = some Tryz.eI143.out := by kernel_rfl
theorem Tryz.kI143 : EntOk Tryz.prog Tryz.eI143 := entOk_of_runN Tryz.tmOk Tryz.tmMixed Tryz.ftOkI (l := [Tryz.eI130, Tryz.eI136, Tryz.eI141, Tryz.eI142]) (.cons Tryz.kI130 (.cons Tryz.kI136 (.cons Tryz.kI141 (.cons Tryz.kI142 .nil)))) Tryz.rI143

end Go.Proofs
end
section
/- Known calls of one closed run, each reckoned by itself; by program (genknow.py). -/

namespace Go.Proofs
open Go.Tm
set_option maxRecDepth 100000

def Tryz.eI144 : Ent := ⟨27, [.agg [.ref 6794 2 0 1 none, .ref 6824 8 0 1 none, .imm 0 [] 0, .ref 6826 1 0 1 (some 1)], .ref 6833 39 0 4 (some 4)],
 [(6829, .arr 3 1 true [.int .i64 0]),
  (6833, .arr 89 39 false [.agg [.int .u8 0, .int .i64 0, .int .i64 0, .int .i64 0, .ref 6829 1 0 1 (some 1), .int .i64 0, .str [107], .str [], .int .u8 0, .int .i64 0, .imm 0 [] 0, .int .i64 0, .str [], .str [], .int .i64 0, .int .i64 0, .imm 0 [] 0, .int .i64 0, .int .i64 0, .int .i64 0, .imm 0 [] 0, .int .u8 0, .int .i64 0, .int .i64 0, .int .i64 0, .int .i64 0, .int .i64 0, .int .u8 0, .int .i64 0, .imm 0 [] 0, .int .i64 0, .str [], .str [], .int .i64 0, .int .i64 0, .imm 0 [] 0, .int .i64 0, .int .i64 0, .int .i64 0], .agg [.int .u8 3, .int .i64 0, .int .i64 0, .int .i64 0, .imm 0 [] 0, .int .i64 0, .str [], .str [], .int .u8 0, .int .i64 0, .imm 0 [] 0, .int .i64 0, .str [], .str [], .int .i64 0, .int .i64 0, .imm 0 [] 0, .int .i64 0, .int .i64 0, .int .i64 0, .imm 0 [] 0, .int .u8 1, .int .i64 0, .int .i64 0, .int .i64 0, .int .i64 0, .int .i64 0, .int .u8 0, .int .i64 0, .imm 0 [] 0, .int .i64 0, .str [], .str [], .int .i64 0, .int .i64 0, .imm 0 [] 0, .int .i64 0, .int .i64 0, .int .i64 0], .agg [.int .u8 3, .int .i64 0, .int .i64 0, .int .i64 0, .imm 0 [] 0, .int .i64 0, .str [], .str [], .int .u8 0, .int .i64 0, .imm 0 [] 0, .int .i64 0, .str [], .str [], .int .i64 0, .int .i64 0, .imm 0 [] 0, .int .i64 0, .int .i64 0, .int .i64 0, .imm 0 [] 0, .int .u8 1, .int .i64 0, .int .i64 0, .int .i64 0, .int .i64 0, .int .i64 0, .int .u8 0, .int .i64 0, .imm 0 [] 0, .int .i64 0, .str [], .str [], .int .i64 0, .int .i64 0, .imm 0 [] 0, .int .i64 0, .int .i64 0, .int .i64 0], .agg [.int .u8 3, .int .i64 0, .int .i64 0, .int .i64 0, .imm 0 [] 0, .int .i64 0, .str [], .str [], .int .u8 0, .int .i64 0, .imm 0 [] 0, .int .i64 0, .str [], .str [], .int .i64 0, .int .i64 0, .imm 0 [] 0, .int .i64 0, .int .i64 0, .int .i64 0, .imm 0 [] 0, .int .u8 2, .int .i64 0, .int .i64 0, .int .i64 0, .int .i64 0, .int .i64 0, .int .u8 0, .int .i64 0, .imm 0 [] 0, .int .i64 0, .str [], .str [], .int .i64 0, .int .i64 0, .imm 0 [] 0, .int .i64 0, .int .i64 0, .int .i64 0]]),
  (6826, .arr 3 1 true [.int .i64 0]),
  (6815, .arr 3 1 true [.int .i64 0]),
  (6814, .arr 3 1 true [.int .i64 0]),
  (6820, .arr 61 15 false [.agg [.int .i64 0, .int .i64 0, .ref 6814 1 0 1 none, .ref 6815 1 0 1 none, .imm 0 [] 0, .imm 0 [] 0, .int .u8 0, .int .i64 0, .imm 0 [] 0, .str [], .str [], .imm 0 [] 0, .imm 0 [] 0, .imm 0 [] 0, .int .i64 0]]),
  (6805, .arr 3 1 true [.int .i64 0]),
  (6804, .arr 3 1 true [.int .i64 0]),
  (6807, .arr 56 2 false [.agg [.ref 6804 1 0 1 none, .ref 6805 1 0 1 none]]),
  (6824, .arr 132 8 false [.agg [.bool true, .int .i64 0, .ref 6807 2 0 1 none, .ref 6820 15 0 1 none, .imm 0 [] 0, .imm 0 [] 0, .imm 0 [] 0, .imm 0 [] 0]]),
  (6792, .arr 3 1 true [.int .i64 0]),
  (6791, .arr 3 1 true [.int .i64 0]),
  (6794, .arr 56 2 false [.agg [.ref 6791 1 0 1 none, .ref 6792 1 0 1 none]])], 6834,
 { d := .tuple [.agg [.ref 11156 2 0 1 none, .ref 11205 8 0 1 none, .imm 10 [] 0, .ref 11209 1 0 1 none], .ref 7310 5 0 1 none, .ref 7307 1 0 1 none], vc := true, eff := [(7307, some (.arr 3 1 true [.int .i64 0])),
  (7310, some (.arr 37 5 false [.agg [.int .i64 0, .ref 6829 1 0 1 (some 1), .int .i64 0, .str [107], .str []]])),
  (11209, some (.arr 3 1 true [.int .i64 1])),
  (11129, some (.arr 5 1 true [.int .u8 4, .int .u8 1, .int .u8 0, .int .u8 1, .int .u8 8, .int .u8 13, .int .u8 2, .int .u8 0, .int .u8 1, .int .u8 8, .int .u8 8, .int .u8 1, .int .u8 0, .int .u8 1, .int .u8 0, .int .u8 0, .int .u8 1, .int .u8 107, .int .u8 0, .int .u8 12, .int .u8 3, .int .u8 0, .int .u8 1, .int .u8 8, .int .u8 1, .int .u8 0, .int .u8 1, .int .u8 0, .int .u8 0, .int .u8 1, .int .u8 107, .int .u8 0, .int .u8 4, .int .u8 1, .int .u8 0, .int .u8 2, .int .u8 8, .int .u8 8, .int .u8 2, .int .u8 0, .int .u8 2, .int .u8 8, .int .u8 3, .int .u8 2, .int .u8 0, .int .u8 1, .int .u8 7, .int .u8 3, .int .u8 0, .int .u8 2, .int .u8 3, .int .u8 2, .int .u8 0, .int .u8 1])),
  (11144, some (.arr 9 1 true [.str [1, 0, 1, 0, 0, 1, 107, 0], .str [2, 0, 1]])),
  (11143, some (.arr 3 1 true [.int .i64 0])),
  (11142, some (.arr 3 1 true [.int .i64 0])),
  (11148, some (.arr 61 15 false [.agg [.int .i64 0, .int .i64 0, .ref 11142 1 0 1 none, .ref 11143 1 0 1 none, .ref 11144 1 0 2 none, .imm 5 [] 9, .int .u8 0, .int .i64 0, .imm 0 [] 0, .str [], .str [], .imm 0 [] 0, .imm 0 [] 0, .imm 1 [] 9, .int .i64 0]])),
  (11136, some (.arr 3 1 true [.int .i64 0])),
  (11135, some (.arr 3 1 true [.int .i64 0])),
  (11138, some (.arr 56 2 false [.agg [.ref 11135 1 0 1 none, .ref 11136 1 0 1 none]])),
  (11205, some (.arr 132 8 false [.agg [.bool true, .int .i64 0, .ref 11138 2 0 1 none, .ref 11148 15 0 1 none, .imm 0 [] 0, .ref 11129 1 0 54 none, .imm 0 [] 0, .imm 0 [] 0]])),
  (11154, some (.arr 3 1 true [.int .i64 0])),
  (11153, some (.arr 3 1 true [.int .i64 0])),
  (11156, some (.arr 56 2 false [.agg [.ref 11153 1 0 1 none, .ref 11154 1 0 1 none]]))], nw := (6834, 11210), met := [6829, 6833, 6826, 6815, 6814, 6820, 6805, 6804, 6807, 6824, 6792, 6791, 6794] }⟩
theorem Tryz.rI144 : runFQ (getLQ Tryz.ftLI) Tryz.ptI Tryz.tm 2000 (callN (callKQ [Tryz.eI122, Tryz.eI123, Tryz.eI124, Tryz.eI85, Tryz.eI101, Tryz.eI88] noCall) (getLQ Tryz.ftLI) Tryz.ptI Tryz.tm 2000 60) Tryz.eI144.K Tryz.eI144.args Tryz.eI144.heap Tryz.eI144.nx = some Tryz.eI144.out := by kernel_rfl
theorem Tryz.kI144 : EntOk Tryz.prog Tryz.eI144 := entOk_of_runN Tryz.tmOk Tryz.tmMixed Tryz.ftOkI (l := [Tryz.eI122, Tryz.eI123, Tryz.eI124, Tryz.eI85, Tryz.eI101, Tryz.eI88]) (.cons Tryz.kI122 (.cons Tryz.kI123 (.cons Tryz.kI124 (.cons Tryz.kI85 (.cons Tryz.kI101 (.cons Tryz.kI88 .nil)))))) Tryz.rI144

def Tryz.eI145 : Ent := ⟨35, [],
 [], 6756,
 { d := .bool true, vc := true, eff := [], nw := (6756, 12334), met := [] }⟩
theorem Tryz.rI145 : runFQ (getLQ Tryz.ftLI) Tryz.ptI Tryz.tm 2000 (callN (callKQ [Tryz.eI144, Tryz.eI143] noCall) (getLQ Tryz.ftLI) Tryz.ptI Tryz.tm 2000 60) Tryz.eI145.K Tryz.eI145.args Tryz.eI145.heap Tryz.eI145.nx = some Tryz.eI145.out := by kernel_rfl
theorem Tryz.kI145 : EntOk Tryz.prog Tryz.eI145 := entOk_of_runN Tryz.tmOk Tryz.tmMixed Tryz.ftOkI (l := [Tryz.eI144, Tryz.eI143]) (.cons Tryz.kI144 (.cons Tryz.kI143 .nil)) Tryz.rI145

def Tryz.eI146 : Ent := ⟨27, [.agg [.ref 1087 2 0 1 none, .ref 1112 8 0 1 none, .imm 0 [] 0, .ref 682 1 0 1 none], .ref 1490 39 0 2 (some 2)],
 [(1490, .arr 89 39 true [.agg [.int .u8 3, .int .i64 0, .int .i64 0, .int .i64 0, .imm 0 [] 0, .int .i64 0, .str [], .str [], .int .u8 0, .int .i64 0, .imm 0 [] 0, .int .i64 0, .str [], .str [], .int .i64 0, .int .i64 0, .imm 0 [] 0, .int .i64 0, .int .i64 0, .int .i64 0, .imm 0 [] 0, .int .u8 1, .int .i64 0, .int .i64 0, .int .i64 0, .int .i64 0, .int .i64 0, .int .u8 0, .int .i64 0, .imm 0 [] 0, .int .i64 0, .str [], .str [], .int .i64 0, .int .i64 0, .imm 0 [] 0, .int .i64 0, .int .i64 0, .int .i64 0], .agg [.int .u8 3, .int .i64 0, .int .i64 0, .int .i64 0, .imm 0 [] 0, .int .i64 0, .str [], .str [], .int .u8 0, .int .i64 0, .imm 0 [] 0, .int .i64 0, .str [], .str [], .int .i64 0, .int .i64 0, .imm 0 [] 0, .int .i64 0, .int .i64 0, .int .i64 0, .imm 0 [] 0, .int .u8 1, .int .i64 0, .int .i64 0, .int .i64 0, .int .i64 0, .int .i64 0, .int .u8 0, .int .i64 0, .imm 0 [] 0, .int .i64 0, .str [], .str [], .int .i64 0, .int .i64 0, .imm 0 [] 0, .int .i64 0, .int .i64 0, .int .i64 0]]),
  (682, .arr 3 1 true [.int .i64 2]),
  (1066, .arr 9 1 true [.str [1, 0, 1, 0, 0, 1, 107, 0], .str [1, 1, 1, 0, 0, 1, 107, 0]]),
  (1042, .arr 3 1 true [.int .i64 0]),
  (1041, .arr 3 1 true [.int .i64 0]),
  (971, .arr 61 15 false [.agg [.int .i64 0, .int .i64 0, .ref 1041 1 0 1 none, .ref 1042 1 0 1 none, .imm 0 [] 0, .imm 0 [] 0, .int .u8 0, .int .i64 0, .imm 0 [] 0, .str [], .str [], .imm 0 [] 0, .imm 0 [] 0, .ref 1066 1 0 2 none, .int .i64 0]]),
  (959, .arr 3 1 true [.int .i64 0]),
  (958, .arr 3 1 true [.int .i64 0]),
  (961, .arr 56 2 false [.agg [.ref 958 1 0 1 none, .ref 959 1 0 1 none]]),
  (1112, .arr 132 8 false [.agg [.bool true, .int .i64 0, .ref 961 2 0 1 none, .ref 971 15 0 1 none, .imm 0 [] 0, .imm 1 [] 0, .imm 0 [] 0, .imm 10 [] 0]]),
  (1085, .arr 3 1 true [.int .i64 0]),
  (1084, .arr 3 1 true [.int .i64 0]),
  (1087, .arr 56 2 false [.agg [.ref 1084 1 0 1 none, .ref 1085 1 0 1 none]])], 1491,
 { d := .tuple [.agg [.ref 4156 2 0 1 none, .ref 4194 8 0 1 none, .imm 0 [] 0, .ref 4196 1 0 1 none], .imm 0 [] 0, .imm 0 [] 0], vc := true, eff := [(4196, some (.arr 3 1 true [.int .i64 2])),
  (4137, some (.arr 5 1 true [.int .u8 12, .int .u8 3, .int .u8 0, .int .u8 2, .int .u8 8, .int .u8 1, .int .u8 1, .int .u8 1, .int .u8 0, .int .u8 0, .int .u8 1, .int .u8 107, .int .u8 0])),
  (4133, some (.arr 5 1 true [.int .u8 13, .int .u8 2, .int .u8 0, .int .u8 2, .int .u8 8, .int .u8 8, .int .u8 1, .int .u8 1, .int .u8 1, .int .u8 0, .int .u8 0, .int .u8 1, .int .u8 107, .int .u8 0])),
  (4129, some (.arr 5 1 true [.int .u8 4, .int .u8 1, .int .u8 0, .int .u8 2, .int .u8 8])),
  (4125, some (.arr 5 1 true [.int .u8 12, .int .u8 3, .int .u8 0, .int .u8 1, .int .u8 8, .int .u8 1, .int .u8 0, .int .u8 1, .int .u8 0, .int .u8 0, .int .u8 1, .int .u8 107, .int .u8 0])),
  (4121, some (.arr 5 1 true [.int .u8 13, .int .u8 2, .int .u8 0, .int .u8 1, .int .u8 8, .int .u8 8, .int .u8 1, .int .u8 0, .int .u8 1, .int .u8 0, .int .u8 0, .int .u8 1, .int .u8 107, .int .u8 0])),
  (4117, some (.arr 5 1 true [.int .u8 4, .int .u8 1, .int .u8 0, .int .u8 1, .int .u8 8])),
  (4139, some (.arr 307 2 false [.agg [.bool false, .ref 4117 1 0 5 none], .agg [.bool false, .ref 4121 1 0 14 none], .agg [.bool false, .ref 4125 1 0 13 none], .agg [.bool false, .ref 4129 1 0 5 none], .agg [.bool false, .ref 4133 1 0 14 none], .agg [.bool false, .ref 4137 1 0 13 none]])),
  (3658, some (.arr 9 1 true [.str [2, 0, 1], .str []])),
  (3702, some (.arr 119 5 true [.agg [.int .i64 0, .int .i64 0, .int .i64 0, .int .i64 0, .str []]])),
  (3771, some (.arr 9 1 true [.str [1, 0, 1, 0, 0, 1, 107, 0], .str [1, 1, 1, 0, 0, 1, 107, 0]])),
  (3656, some (.arr 3 1 true [.int .i64 0])),
  (3655, some (.arr 3 1 true [.int .i64 0])),
  (3359, some (.arr 61 15 false [.agg [.int .i64 0, .int .i64 0, .ref 3655 1 0 1 none, .ref 3656 1 0 1 none, .ref 3771 1 0 2 none, .ref 3702 5 0 0 none, .int .u8 0, .int .i64 0, .imm 0 [] 0, .str [], .str [], .imm 0 [] 0, .imm 0 [] 0, .ref 3658 1 0 1 none, .int .i64 0]])),
  (3346, some (.arr 3 1 true [.int .i64 0])),
  (3345, some (.arr 3 1 true [.int .i64 0])),
  (3348, some (.arr 56 2 false [.agg [.ref 3345 1 0 1 none, .ref 3346 1 0 1 none]])),
  (4194, some (.arr 132 8 false [.agg [.bool true, .int .i64 0, .ref 3348 2 0 1 none, .ref 3359 15 0 1 none, .imm 0 [] 0, .imm 0 [] 0, .ref 4139 2 0 6 none, .imm 10 [] 0]])),
  (4154, some (.arr 3 1 true [.int .i64 0])),
  (4153, some (.arr 3 1 true [.int .i64 0])),
  (4156, some (.arr 56 2 false [.agg [.ref 4153 1 0 1 none, .ref 4154 1 0 1 none]]))], nw := (1491, 4197), met := [1490, 682, 1066, 1042, 1041, 971, 959, 958, 961, 1112, 1085, 1084, 1087] }⟩
theorem Tryz.rI146 : runFQ (getLQ Tryz.ftLI) Tryz.ptI Tryz.tm 2000 (callN (callKQ [Tryz.eI19, Tryz.eI11, Tryz.eI22, Tryz.eI39, Tryz.eI25] noCall) (getLQ Tryz.ftLI) Tryz.ptI Tryz.tm 2000 60) Tryz.eI146.K Tryz.eI146.args Tryz.eI146.heap Tryz.eI146.nx = some Tryz.eI146.out := by kernel_rfl
theorem Tryz.kI146 : EntOk Tryz.prog Tryz.eI146 := entOk_of_runN Tryz.tmOk Tryz.tmMixed Tryz.ftOkI (l := [Tryz.eI19, Tryz.eI11, Tryz.eI22, Tryz.eI39, Tryz.eI25]) (.cons Tryz.kI19 (.cons Tryz.kI11 (.cons Tryz.kI22 (.cons Tryz.kI39 (.cons Tryz.kI25 .nil))))) Tryz.rI146

def Tryz.eI147 : Ent := ⟨34, [.agg [.ref 38 2 0 1 none, .ref 68 8 0 1 none, .imm 0 [] 0, .ref 70 1 0 1 (some 1)], .int .i64 0, .agg [.int .i64 0, .ref 6649 1 0 1 (some 1), .int .i64 0, .str [], .str []]],
 [(6649, .arr 3 1 true [.int .i64 1]),
  (70, .arr 3 1 true [.int .i64 0]),
  (59, .arr 3 1 true [.int .i64 0]),
  (58, .arr 3 1 true [.int .i64 0]),
  (64, .arr 61 15 false [.agg [.int .i64 0, .int .i64 0, .ref 58 1 0 1 none, .ref 59 1 0 1 none, .imm 0 [] 0, .imm 0 [] 0, .int .u8 0, .int .i64 0, .imm 0 [] 0, .str [], .str [], .imm 0 [] 0, .imm 0 [] 0, .imm 0 [] 0, .int .i64 0]]),
  (49, .arr 3 1 true [.int .i64 0]),
  (48, .arr 3 1 true [.int .i64 0]),
  (51, .arr 56 2 false [.agg [.ref 48 1 0 1 none, .ref 49 1 0 1 none]]),
  (68, .arr 132 8 false [.agg [.bool true, .int .i64 0, .ref 51 2 0 1 none, .ref 64 15 0 1 none, .imm 0 [] 0, .imm 0 [] 0, .imm 0 [] 0, .imm 0 [] 0]]),
  (36, .arr 3 1 true [.int .i64 0]),
  (35, .arr 3 1 true [.int .i64 0]),
  (38, .arr 56 2 false [.agg [.ref 35 1 0 1 none, .ref 36 1 0 1 none]])], 6650,
 { d := .tuple [.agg [.imm 0 [] 0, .imm 0 [] 0, .imm 0 [] 0, .imm 0 [] 0], .int .i64 0, .int .i64 2], vc := true, eff := [], nw := (6650, 6755), met := [6649, 70, 59, 58, 64, 49, 48, 51, 68, 36, 35, 38] }⟩
theorem Tryz.rI147 : runFQ (getLQ Tryz.ftLI) Tryz.ptI Tryz.tm 2000 (callN (callKQ [] noCall) (getLQ Tryz.ftLI) Tryz.ptI Tryz.tm 2000 60) Tryz.eI147.K Tryz.eI147.args Tryz.eI147.heap Tryz.eI147.nx = some Tryz.eI147.out := by kernel_rfl
theorem Tryz.kI147 : EntOk Tryz.prog Tryz.eI147 := entOk_of_runN Tryz.tmOk Tryz.tmMixed Tryz.ftOkI (l := []) .nil Tryz.rI147

def Tryz.eI148 : Ent := ⟨27, [.agg [.ref 38 2 0 1 none, .ref 68 8 0 1 none, .imm 0 [] 0, .ref 70 1 0 1 (some 1)], .ref 76 39 0 2 (some 2)],
 [(75, .arr 3 1 true [.int .i64 0]),
  (73, .arr 3 1 true [.int .i64 0]),
  (76, .arr 89 39 false [.agg [.int .u8 0, .int .i64 0, .int .i64 0, .int .i64 0, .ref 73 1 0 1 (some 1), .int .i64 0, .str [107], .str [], .int .u8 0, .int .i64 0, .imm 0 [] 0, .int .i64 0, .str [], .str [], .int .i64 0, .int .i64 0, .imm 0 [] 0, .int .i64 0, .int .i64 0, .int .i64 0, .imm 0 [] 0, .int .u8 0, .int .i64 0, .int .i64 0, .int .i64 0, .int .i64 0, .int .i64 0, .int .u8 0, .int .i64 0, .imm 0 [] 0, .int .i64 0, .str [], .str [], .int .i64 0, .int .i64 0, .imm 0 [] 0, .int .i64 0, .int .i64 0, .int .i64 0], .agg [.int .u8 0, .int .i64 0, .int .i64 0, .int .i64 0, .ref 75 1 0 1 (some 1), .int .i64 0, .str [107], .str [], .int .u8 0, .int .i64 0, .imm 0 [] 0, .int .i64 0, .str [], .str [], .int .i64 0, .int .i64 0, .imm 0 [] 0, .int .i64 0, .int .i64 0, .int .i64 0, .imm 0 [] 0, .int .u8 0, .int .i64 0, .int .i64 0, .int .i64 0, .int .i64 0, .int .i64 0, .int .u8 0, .int .i64 0, .imm 0 [] 0, .int .i64 0, .str [], .str [], .int .i64 0, .int .i64 0, .imm 0 [] 0, .int .i64 0, .int .i64 0, .int .i64 0]]),
  (70, .arr 3 1 true [.int .i64 0]),
  (59, .arr 3 1 true [.int .i64 0]),
  (58, .arr 3 1 true [.int .i64 0]),
  (64, .arr 61 15 false [.agg [.int .i64 0, .int .i64 0, .ref 58 1 0 1 none, .ref 59 1 0 1 none, .imm 0 [] 0, .imm 0 [] 0, .int .u8 0, .int .i64 0, .imm 0 [] 0, .str [], .str [], .imm 0 [] 0, .imm 0 [] 0, .imm 0 [] 0, .int .i64 0]]),
  (49, .arr 3 1 true [.int .i64 0]),
  (48, .arr 3 1 true [.int .i64 0]),
  (51, .arr 56 2 false [.agg [.ref 48 1 0 1 none, .ref 49 1 0 1 none]]),
  (68, .arr 132 8 false [.agg [.bool true, .int .i64 0, .ref 51 2 0 1 none, .ref 64 15 0 1 none, .imm 0 [] 0, .imm 0 [] 0, .imm 0 [] 0, .imm 0 [] 0]]),
  (36, .arr 3 1 true [.int .i64 0]),
  (35, .arr 3 1 true [.int .i64 0]),
  (38, .arr 56 2 false [.agg [.ref 35 1 0 1 none, .ref 36 1 0 1 none]])], 77,
 { d := .tuple [.agg [.ref 1087 2 0 1 none, .ref 1112 8 0 1 none, .imm 0 [] 0, .ref 682 1 0 1 none], .ref 1121 5 0 2 none, .ref 1118 1 0 2 none], vc := true, eff := [(1118, some (.arr 3 1 true [.int .i64 0, .int .i64 1])),
  (1121, some (.arr 37 5 false [.agg [.int .i64 0, .ref 73 1 0 1 (some 1), .int .i64 0, .str [107], .str []], .agg [.int .i64 1, .ref 75 1 0 1 (some 1), .int .i64 0, .str [107], .str []]])),
  (682, some (.arr 3 1 true [.int .i64 2])),
  (1066, some (.arr 9 1 true [.str [1, 0, 1, 0, 0, 1, 107, 0], .str [1, 1, 1, 0, 0, 1, 107, 0]])),
  (1042, some (.arr 3 1 true [.int .i64 0])),
  (1041, some (.arr 3 1 true [.int .i64 0])),
  (971, some (.arr 61 15 false [.agg [.int .i64 0, .int .i64 0, .ref 1041 1 0 1 none, .ref 1042 1 0 1 none, .imm 0 [] 0, .imm 0 [] 0, .int .u8 0, .int .i64 0, .imm 0 [] 0, .str [], .str [], .imm 0 [] 0, .imm 0 [] 0, .ref 1066 1 0 2 none, .int .i64 0]])),
  (959, some (.arr 3 1 true [.int .i64 0])),
  (958, some (.arr 3 1 true [.int .i64 0])),
  (961, some (.arr 56 2 false [.agg [.ref 958 1 0 1 none, .ref 959 1 0 1 none]])),
  (1112, some (.arr 132 8 false [.agg [.bool true, .int .i64 0, .ref 961 2 0 1 none, .ref 971 15 0 1 none, .imm 0 [] 0, .imm 1 [] 0, .imm 0 [] 0, .imm 10 [] 0]])),
  (1085, some (.arr 3 1 true [.int .i64 0])),
  (1084, some (.arr 3 1 true [.int .i64 0])),
  (1087, some (.arr 56 2 false [.agg [.ref 1084 1 0 1 none, .ref 1085 1 0 1 none]]))], nw := (77, 1122), met := [75, 73, 76, 70, 59, 58, 64, 49, 48, 51, 68, 36, 35, 38] }⟩
theorem Tryz.rI148 : runFQ (getLQ Tryz.ftLI) Tryz.ptI Tryz.tm 2000 (callN (callKQ [Tryz.eI7, Tryz.eI2, Tryz.eI1, Tryz.eI0] noCall) (getLQ Tryz.ftLI) Tryz.ptI Tryz.tm 2000 60) Tryz.eI148.K Tryz.eI148.args Tryz.eI148.heap Tryz.eI148.nx = some Tryz.eI148.out := by kernel_rfl
theorem Tryz.kI148 : EntOk Tryz.prog Tryz.eI148 := entOk_of_runN Tryz.tmOk Tryz.tmMixed Tryz.ftOkI (l := [Tryz.eI7, Tryz.eI2, Tryz.eI1, Tryz.eI0]) (.cons Tryz.kI7 (.cons Tryz.kI2 (.cons Tryz.kI1 (.cons Tryz.kI0 .nil)))) Tryz.rI148

def Tryz.eI149 : Ent := ⟨33, [.agg [.ref 38 2 0 1 none, .ref 68 8 0 1 none, .imm 0 [] 0, .ref 70 1 0 1 (some 1)], .int .i64 0, .int .i64 0, .agg [.int .u8 2, .int .i64 0, .imm 0 [] 0, .int .i64 0, .str [], .str [], .int .i64 0, .int .i64 1, .imm 0 [] 0, .int .i64 0, .int .i64 0, .int .i64 0]],
 [(70, .arr 3 1 true [.int .i64 0]),
  (59, .arr 3 1 true [.int .i64 0]),
  (58, .arr 3 1 true [.int .i64 0]),
  (64, .arr 61 15 false [.agg [.int .i64 0, .int .i64 0, .ref 58 1 0 1 none, .ref 59 1 0 1 none, .imm 0 [] 0, .imm 0 [] 0, .int .u8 0, .int .i64 0, .imm 0 [] 0, .str [], .str [], .imm 0 [] 0, .imm 0 [] 0, .imm 0 [] 0, .int .i64 0]]),
  (49, .arr 3 1 true [.int .i64 0]),
  (48, .arr 3 1 true [.int .i64 0]),
  (51, .arr 56 2 false [.agg [.ref 48 1 0 1 none, .ref 49 1 0 1 none]]),
  (68, .arr 132 8 false [.agg [.bool true, .int .i64 0, .ref 51 2 0 1 none, .ref 64 15 0 1 none, .imm 0 [] 0, .imm 0 [] 0, .imm 0 [] 0, .imm 0 [] 0]]),
  (36, .arr 3 1 true [.int .i64 0]),
  (35, .arr 3 1 true [.int .i64 0]),
  (38, .arr 56 2 false [.agg [.ref 35 1 0 1 none, .ref 36 1 0 1 none]])], 6442,
 { d := .tuple [.agg [.imm 0 [] 0, .imm 0 [] 0, .imm 0 [] 0, .imm 0 [] 0], .int .i64 0, .int .i64 2], vc := true, eff := [], nw := (6442, 6546), met := [70, 59, 58, 64, 49, 48, 51, 68, 36, 35, 38] }⟩
theorem Tryz.rI149 : runFQ (getLQ Tryz.ftLI) Tryz.ptI Tryz.tm 2000 (callN (callKQ [] noCall) (getLQ Tryz.ftLI) Tryz.ptI Tryz.tm 2000 60) Tryz.eI149.K Tryz.eI149.args Tryz.eI149.heap Tryz.eI149.nx = some Tryz.eI149.out := by kernel_rfl
theorem Tryz.kI149 : EntOk Tryz.prog Tryz.eI149 := entOk_of_runN Tryz.tmOk Tryz.tmMixed Tryz.ftOkI (l := []) .nil Tryz.rI149

def Tryz.eI150 : Ent := ⟨31, [.agg [.ref 4156 2 0 1 none, .ref 4194 8 0 1 none, .imm 0 [] 0, .ref 4196 1 0 1 none], .int .i64 0, .int .i64 0],
 [(4196, .arr 3 1 true [.int .i64 2]),
  (4137, .arr 5 1 true [.int .u8 12, .int .u8 3, .int .u8 0, .int .u8 2, .int .u8 8, .int .u8 1, .int .u8 1, .int .u8 1, .int .u8 0, .int .u8 0, .int .u8 1, .int .u8 107, .int .u8 0]),
  (4133, .arr 5 1 true [.int .u8 13, .int .u8 2, .int .u8 0, .int .u8 2, .int .u8 8, .int .u8 8, .int .u8 1, .int .u8 1, .int .u8 1, .int .u8 0, .int .u8 0, .int .u8 1, .int .u8 107, .int .u8 0]),
  (4129, .arr 5 1 true [.int .u8 4, .int .u8 1, .int .u8 0, .int .u8 2, .int .u8 8]),
  (4125, .arr 5 1 true [.int .u8 12, .int .u8 3, .int .u8 0, .int .u8 1, .int .u8 8, .int .u8 1, .int .u8 0, .int .u8 1, .int .u8 0, .int .u8 0, .int .u8 1, .int .u8 107, .int .u8 0]),
  (4121, .arr 5 1 true [.int .u8 13, .int .u8 2, .int .u8 0, .int .u8 1, .int .u8 8, .int .u8 8, .int .u8 1, .int .u8 0, .int .u8 1, .int .u8 0, .int .u8 0, .int .u8 1, .int .u8 107, .int .u8 0]),
  (4117, .arr 5 1 true [.int .u8 4, .int .u8 1, .int .u8 0, .int .u8 1, .int .u8 8]),
  (4139, .arr 307 2 false [.agg [.bool false, .ref 4117 1 0 5 none], .agg [.bool false, .ref 4121 1 0 14 none], .agg [.bool false, .ref 4125 1 0 13 none], .agg [.bool false, .ref 4129 1 0 5 none], .agg [.bool false, .ref 4133 1 0 14 none], .agg [.bool false, .ref 4137 1 0 13 none]]),
  (3658, .arr 9 1 true [.str [2, 0, 1], .str []]),
  (3702, .arr 119 5 true [.agg [.int .i64 0, .int .i64 0, .int .i64 0, .int .i64 0, .str []]]),
  (3771, .arr 9 1 true [.str [1, 0, 1, 0, 0, 1, 107, 0], .str [1, 1, 1, 0, 0, 1, 107, 0]]),
  (3656, .arr 3 1 true [.int .i64 0]),
  (3655, .arr 3 1 true [.int .i64 0]),
  (3359, .arr 61 15 false [.agg [.int .i64 0, .int .i64 0, .ref 3655 1 0 1 none, .ref 3656 1 0 1 none, .ref 3771 1 0 2 none, .ref 3702 5 0 0 none, .int .u8 0, .int .i64 0, .imm 0 [] 0, .str [], .str [], .imm 0 [] 0, .imm 0 [] 0, .ref 3658 1 0 1 none, .int .i64 0]]),
  (3346, .arr 3 1 true [.int .i64 0]),
  (3345, .arr 3 1 true [.int .i64 0]),
  (3348, .arr 56 2 false [.agg [.ref 3345 1 0 1 none, .ref 3346 1 0 1 none]]),
  (4194, .arr 132 8 false [.agg [.bool true, .int .i64 0, .ref 3348 2 0 1 none, .ref 3359 15 0 1 none, .imm 0 [] 0, .imm 0 [] 0, .ref 4139 2 0 6 none, .imm 10 [] 0]]),
  (4154, .arr 3 1 true [.int .i64 0]),
  (4153, .arr 3 1 true [.int .i64 0]),
  (4156, .arr 56 2 false [.agg [.ref 4153 1 0 1 none, .ref 4154 1 0 1 none]])], 5265,
 { d := .tuple [.imm 0 [] 0, .int .i64 0], vc := true, eff := [], nw := (5265, 6339), met := [4196, 4137, 4133, 4129, 4125, 4121, 4117, 4139, 3658, 3702, 3771, 3656, 3655, 3359, 3346, 3345, 3348, 4194, 4154, 4153, 4156] }⟩
theorem Tryz.rI150 : runFQ (getLQ Tryz.ftLI) Tryz.ptI Tryz.tm 2000 (callN (callKQ [Tryz.eI70, Tryz.eI71, Tryz.eI68, Tryz.eI69] noCall) (getLQ Tryz.ftLI) Tryz.ptI Tryz.tm 2000 60) Tryz.eI150.K Tryz.eI150.args Tryz.eI150.heap Tryz.eI150.nx = some Tryz.eI150.out := by kernel_rfl
theorem Tryz.kI150 : EntOk Tryz.prog Tryz.eI150 := entOk_of_runN Tryz.tmOk Tryz.tmMixed Tryz.ftOkI (l := [Tryz.eI70, Tryz.eI71, Tryz.eI68, Tryz.eI69]) (.cons Tryz.kI70 (.cons Tryz.kI71 (.cons Tryz.kI68 (.cons Tryz.kI69 .nil)))) Tryz.rI150

def Tryz.eI151 : Ent := ⟨29, [.agg [.ref 38 2 0 1 none, .ref 68 8 0 1 none, .imm 0 [] 0, .ref 70 1 0 1 (some 1)], .int .i64 0, .int .i64 1, .int .i64 0],
 [(70, .arr 3 1 true [.int .i64 0]),
  (59, .arr 3 1 true [.int .i64 0]),
  (58, .arr 3 1 true [.int .i64 0]),
  (64, .arr 61 15 false [.agg [.int .i64 0, .int .i64 0, .ref 58 1 0 1 none, .ref 59 1 0 1 none, .imm 0 [] 0, .imm 0 [] 0, .int .u8 0, .int .i64 0, .imm 0 [] 0, .str [], .str [], .imm 0 [] 0, .imm 0 [] 0, .imm 0 [] 0, .int .i64 0]]),
  (49, .arr 3 1 true [.int .i64 0]),
  (48, .arr 3 1 true [.int .i64 0]),
  (51, .arr 56 2 false [.agg [.ref 48 1 0 1 none, .ref 49 1 0 1 none]]),
  (68, .arr 132 8 false [.agg [.bool true, .int .i64 0, .ref 51 2 0 1 none, .ref 64 15 0 1 none, .imm 0 [] 0, .imm 0 [] 0, .imm 0 [] 0, .imm 0 [] 0]]),
  (36, .arr 3 1 true [.int .i64 0]),
  (35, .arr 3 1 true [.int .i64 0]),
  (38, .arr 56 2 false [.agg [.ref 35 1 0 1 none, .ref 36 1 0 1 none]])], 6547,
 { d := .tuple [.bool false, .int .i64 2], vc := true, eff := [], nw := (6547, 6649), met := [70, 59, 58, 64, 49, 48, 51, 68, 36, 35, 38] }⟩
theorem Tryz.rI151 : runFQ (getLQ Tryz.ftLI) Tryz.ptI Tryz.tm 2000 (callN (callKQ [] noCall) (getLQ Tryz.ftLI) Tryz.ptI Tryz.tm 2000 60) Tryz.eI151.K Tryz.eI151.args Tryz.eI151.heap Tryz.eI151.nx = some Tryz.eI151.out := by kernel_rfl
theorem Tryz.kI151 : EntOk Tryz.prog Tryz.eI151 := entOk_of_runN Tryz.tmOk Tryz.tmMixed Tryz.ftOkI (l := []) .nil Tryz.rI151

def Tryz.eI152 : Ent := ⟨32, [.agg [.ref 38 2 0 1 none, .ref 68 8 0 1 none, .imm 0 [] 0, .ref 70 1 0 1 (some 1)], .agg [.int .u8 8, .int .i64 0, .int .i64 0, .int .i64 0, .int .i64 0, .int .i64 0, .int .u8 0, .int .i64 0, .imm 0 [] 0, .int .i64 0, .str [], .str [], .int .i64 0, .int .i64 0, .imm 0 [] 0, .int .i64 0, .int .i64 0, .int .i64 0]],
 [(70, .arr 3 1 true [.int .i64 0]),
  (59, .arr 3 1 true [.int .i64 0]),
  (58, .arr 3 1 true [.int .i64 0]),
  (64, .arr 61 15 false [.agg [.int .i64 0, .int .i64 0, .ref 58 1 0 1 none, .ref 59 1 0 1 none, .imm 0 [] 0, .imm 0 [] 0, .int .u8 0, .int .i64 0, .imm 0 [] 0, .str [], .str [], .imm 0 [] 0, .imm 0 [] 0, .imm 0 [] 0, .int .i64 0]]),
  (49, .arr 3 1 true [.int .i64 0]),
  (48, .arr 3 1 true [.int .i64 0]),
  (51, .arr 56 2 false [.agg [.ref 48 1 0 1 none, .ref 49 1 0 1 none]]),
  (68, .arr 132 8 false [.agg [.bool true, .int .i64 0, .ref 51 2 0 1 none, .ref 64 15 0 1 none, .imm 0 [] 0, .imm 0 [] 0, .imm 0 [] 0, .imm 0 [] 0]]),
  (36, .arr 3 1 true [.int .i64 0]),
  (35, .arr 3 1 true [.int .i64 0]),
  (38, .arr 56 2 false [.agg [.ref 35 1 0 1 none, .ref 36 1 0 1 none]])], 6339,
 { d := .tuple [.agg [.imm 0 [] 0, .imm 0 [] 0, .imm 0 [] 0, .imm 0 [] 0], .int .i64 2], vc := true, eff := [], nw := (6339, 6441), met := [70, 59, 58, 64, 49, 48, 51, 68, 36, 35, 38] }⟩
theorem Tryz.rI152 : runFQ (getLQ Tryz.ftLI) Tryz.ptI Tryz.tm 2000 (callN (callKQ [] noCall) (getLQ Tryz.ftLI) Tryz.ptI Tryz.tm 2000 60) Tryz.eI152.K Tryz.eI152.args Tryz.eI152.heap Tryz.eI152.nx = some Tryz.eI152.out := by kernel_rfl
theorem Tryz.kI152 : EntOk Tryz.prog Tryz.eI152 := entOk_of_runN Tryz.tmOk Tryz.tmMixed Tryz.ftOkI (l := []) .nil Tryz.rI152

def Tryz.eI153 : Ent := ⟨29, [.agg [.ref 4156 2 0 1 none, .ref 4194 8 0 1 none, .imm 0 [] 0, .ref 4196 1 0 1 none], .int .i64 0, .int .i64 0, .int .i64 0],
 [(4196, .arr 3 1 true [.int .i64 2]),
  (4137, .arr 5 1 true [.int .u8 12, .int .u8 3, .int .u8 0, .int .u8 2, .int .u8 8, .int .u8 1, .int .u8 1, .int .u8 1, .int .u8 0, .int .u8 0, .int .u8 1, .int .u8 107, .int .u8 0]),
  (4133, .arr 5 1 true [.int .u8 13, .int .u8 2, .int .u8 0, .int .u8 2, .int .u8 8, .int .u8 8, .int .u8 1, .int .u8 1, .int .u8 1, .int .u8 0, .int .u8 0, .int .u8 1, .int .u8 107, .int .u8 0]),
  (4129, .arr 5 1 true [.int .u8 4, .int .u8 1, .int .u8 0, .int .u8 2, .int .u8 8]),
  (4125, .arr 5 1 true [.int .u8 12, .int .u8 3, .int .u8 0, .int .u8 1, .int .u8 8, .int .u8 1, .int .u8 0, .int .u8 1, .int .u8 0, .int .u8 0, .int .u8 1, .int .u8 107, .int .u8 0]),
  (4121, .arr 5 1 true [.int .u8 13, .int .u8 2, .int .u8 0, .int .u8 1, .int .u8 8, .int .u8 8, .int .u8 1, .int .u8 0, .int .u8 1, .int .u8 0, .int .u8 0, .int .u8 1, .int .u8 107, .int .u8 0]),
  (4117, .arr 5 1 true [.int .u8 4, .int .u8 1, .int .u8 0, .int .u8 1, .int .u8 8]),
  (4139, .arr 307 2 false [.agg [.bool false, .ref 4117 1 0 5 none], .agg [.bool false, .ref 4121 1 0 14 none], .agg [.bool false, .ref 4125 1 0 13 none], .agg [.bool false, .ref 4129 1 0 5 none], .agg [.bool false, .ref 4133 1 0 14 none], .agg [.bool false, .ref 4137 1 0 13 none]]),
  (3658, .arr 9 1 true [.str [2, 0, 1], .str []]),
  (3702, .arr 119 5 true [.agg [.int .i64 0, .int .i64 0, .int .i64 0, .int .i64 0, .str []]]),
  (3771, .arr 9 1 true [.str [1, 0, 1, 0, 0, 1, 107, 0], .str [1, 1, 1, 0, 0, 1, 107, 0]]),
  (3656, .arr 3 1 true [.int .i64 0]),
  (3655, .arr 3 1 true [.int .i64 0]),
  (3359, .arr 61 15 false [.agg [.int .i64 0, .int .i64 0, .ref 3655 1 0 1 none, .ref 3656 1 0 1 none, .ref 3771 1 0 2 none, .ref 3702 5 0 0 none, .int .u8 0, .int .i64 0, .imm 0 [] 0, .str [], .str [], .imm 0 [] 0, .imm 0 [] 0, .ref 3658 1 0 1 none, .int .i64 0]]),
  (3346, .arr 3 1 true [.int .i64 0]),
  (3345, .arr 3 1 true [.int .i64 0]),
  (3348, .arr 56 2 false [.agg [.ref 3345 1 0 1 none, .ref 3346 1 0 1 none]]),
  (4194, .arr 132 8 false [.agg [.bool true, .int .i64 0, .ref 3348 2 0 1 none, .ref 3359 15 0 1 none, .imm 0 [] 0, .imm 0 [] 0, .ref 4139 2 0 6 none, .imm 10 [] 0]]),
  (4154, .arr 3 1 true [.int .i64 0]),
  (4153, .arr 3 1 true [.int .i64 0]),
  (4156, .arr 56 2 false [.agg [.ref 4153 1 0 1 none, .ref 4154 1 0 1 none]])], 4198,
 { d := .tuple [.bool false, .int .i64 0], vc := true, eff := [], nw := (4198, 5265), met := [4196, 4137, 4133, 4129, 4125, 4121, 4117, 4139, 3658, 3702, 3771, 3656, 3655, 3359, 3346, 3345, 3348, 4194, 4154, 4153, 4156] }⟩
theorem Tryz.rI153 : runFQ (getLQ Tryz.ftLI) Tryz.ptI Tryz.tm 2000 (callN (callKQ [Tryz.eI54, Tryz.eI55, Tryz.eI52, Tryz.eI53] noCall) (getLQ Tryz.ftLI) Tryz.ptI Tryz.tm 2000 60) Tryz.eI153.K Tryz.eI153.args Tryz.eI153.heap Tryz.eI153.nx = some Tryz.eI153.out := by kernel_rfl
theorem Tryz.kI153 : EntOk Tryz.prog Tryz.eI153 := entOk_of_runN Tryz.tmOk Tryz.tmMixed Tryz.ftOkI (l := [Tryz.eI54, Tryz.eI55, Tryz.eI52, Tryz.eI53]) (.cons Tryz.kI54 (.cons Tryz.kI55 (.cons Tryz.kI52 (.cons Tryz.kI53 .nil)))) Tryz.rI153

theorem Tryz.rItop : saysTrue (runFQ (getLQ Tryz.ftLI) Tryz.ptI Tryz.tm 2000 (callN (callKQ [Tryz.eI145, Tryz.eI146, Tryz.eI147, Tryz.eI148, Tryz.eI149, Tryz.eI150, Tryz.eI151, Tryz.eI152, Tryz.eI153, Tryz.eI10, Tryz.eI8, Tryz.eI9] noCall) (getLQ Tryz.ftLI) Tryz.ptI Tryz.tm 2000 60) 5 [] [] 0) = true := by kernel_rfl
theorem Tryz.namesI : CallP Tryz.prog 5 [] (.bool true) := callP_knownN Tryz.tmOk Tryz.tmMixed Tryz.ftOkI (l := [Tryz.eI145, Tryz.eI146, Tryz.eI147, Tryz.eI148, Tryz.eI149, Tryz.eI150, Tryz.eI151, Tryz.eI152, Tryz.eI153, Tryz.eI10, Tryz.eI8, Tryz.eI9]) (.cons Tryz.kI145 (.cons Tryz.kI146 (.cons Tryz.kI147 (.cons Tryz.kI148 (.cons Tryz.kI149 (.cons Tryz.kI150 (.cons Tryz.kI151 (.cons Tryz.kI152 (.cons Tryz.kI153 (.cons Tryz.kI10 (.cons Tryz.kI8 (.cons Tryz.kI9 .nil)))))))))))) Tryz.rItop

end Go.Proofs
end
section
/- Rules by which functions' codes are walked through by scripts: regions, calls, loops. -/


namespace Go.Tm
open Go.RowKit Go.WideShapes

/-- what a run comes to, said so that simp may reckon it -/
def Comes (r : Option (St × Bool × List FP × List Oper)) (st' : St) (vc : Bool) (acc : List FP) (l : List Oper) : Prop :=
  ∀ q : St → Bool → List FP → List Oper → Prop, q st' vc acc l → match r with | some (s, v, f, l) => q s v f l | none => False

theorem Comes.eq {r : Option (St × Bool × List FP × List Oper)} {st' : St} {vc : Bool} {acc : List FP} {l : List Oper} (h : Comes r st' vc acc l) : r = some (st', vc, acc, l) := by
  have := h (fun s v f k => (s, v, f, k) = (st', vc, acc, l)) rfl
  cases r with
  | none => exact this.elim
  | some x => exact congrArg some this

section
variable {P : Program} {tab : Nat → TI} {lim n : Nat}

theorem Ok.plain {id : Nat} {ops : Array Oper} {st st' : St} {vc : Bool} {acc : List FP} {Q : Exit → St → Prop} (hT : TabOk P tab) (hm : P.follows .mixedOrders = true) (V : List Nat) (hok : regOk n ops false = true)
    (h : Comes (runE tab true false ops.toList ops.toList ⟨keep V st.vars, st.heap, st.nx⟩ true []) st' vc acc []) (hv : vc = true) (hlim : st'.nx ≤ lim) (hQ : Q .normal st') : Ok P lim n (.region id ops false) st Q :=
  Ok.region (own := true) hT hm V hok (WRun.E h.eq (.inr fun _ _ _ h => ⟨nofun, h.2⟩) hv hlim (.nil ⟨nofun, hQ⟩)).2

theorem Ok.drawn {id : Nat} {ops : Array Oper} {st st' : St} {vc : Bool} {acc : List FP} {Q : Exit → St → Prop} (hT : TabOk P tab) (hm : P.follows .mixedOrders = true) (V : List Nat) (hok : regOk n ops true = true)
    (h : Comes (runE tab true true ops.toList ops.toList ⟨keep V st.vars, st.heap, st.nx⟩ true []) st' vc acc []) (hs : schedB ops (fun i => (acc[i]?).getD fpDflt) = true) (hv : vc = true) (hlim : st'.nx ≤ lim) (hQ : Q .normal st') : Ok P lim n (.region id ops true) st Q :=
  Ok.region (own := true) hT hm V hok (WRun.E h.eq (.inl rfl) hv hlim (.nil ⟨fun _ => hs, hQ⟩)).2

/-- The rule: operations up to the next call. -/
theorem WRun.R {ops : Array Oper} {dr : Bool} {l l' : List Oper} {st st' : St} {acc acc' : List FP} {Q : St → List FP → Prop} {vc : Bool}
    (hdr : dr = true ∨ ∀ st a b, Q st a → Q st b) (h : Comes (runE tab true dr ops.toList l st true acc) st' vc acc' l') (hv : vc = true) (hlim : st'.nx ≤ lim) (hQ : WRun P tab true lim ops l' st' acc' Q) : WRun P tab true lim ops l st acc Q :=
  (WRun.E h.eq hdr hv hlim hQ).2

theorem pureNw {st : St} : ∀ id, ((0 : Nat), (0 : Nat)).1 ≤ id → id < ((0 : Nat), (0 : Nat)).2 → st.nx ≤ id := fun _ _ h => absurd h (Nat.not_lt_zero _)

/-- The rule: a call of a function that turns nothing. -/
theorem WRun.call {ops : Array Oper} {o : Oper} {l : List Oper} {st : St} {acc : List FP} {Q : St → List FP → Prop} {c : Call} {f : Operand} {K : FuncId} {caps ds args : List D} {r : D}
    (ho : o.op = .call c) (hc : c.callee = .value f) (hg : o.guard = none) (hf : opd true (getR st.vars) f = (.fn (.func K) caps, true)) (hds : opds true (getR st.vars) c.args.toList = (ds, true)) (hl : lends (getL st.heap) (ds ++ caps) = (args, true))
    (hK : CallP P K args r) (hQ : WRun P tab true lim ops l (st.app o.dst { d := r, vc := true }) (acc ++ [fpOf o (st.fs lim) { d := r, vc := true }]) Q) : WRun P tab true lim ops (o :: l) st acc Q := by
  obtain ⟨os, st', hch, hq⟩ := hQ
  refine ⟨_, st', .cons (out := { d := r, vc := true }) ?_ pureNw hch, by simpa using hq⟩
  unfold Fires
  simp only [hg]
  unfold Core
  simp only [ho, hc]
  have hl' : lends (st.fs lim).hp (ds ++ caps) = (args, true) := hl
  exact ⟨K, caps, true, ds, true, r, hf, rfl, hds, rfl, .inl ⟨by rw [hl'], by rw [hl']; exact hK, rfl⟩⟩

/-- The rule: a call over own memory. -/
theorem WRun.hcall {ops : Array Oper} {o : Oper} {l : List Oper} {st : St} {acc : List FP} {Q : St → List FP → Prop} {c : Call} {f : Operand} {K : FuncId} {caps ds : List D} {H : List (Nat × Blk)} {r : D} {eff : List (Nat × Option Blk)} {nw : Nat × Nat}
    (ho : o.op = .call c) (hc : c.callee = .value f) (hg : o.guard = none) (hf : opd true (getR st.vars) f = (.fn (.func K) caps, true)) (hds : opds true (getR st.vars) c.args.toList = (ds, true))
    (hK : CallH P K (ds ++ caps) H r eff nw) (hH : ∀ id b, getL H id = some b → getL st.heap id = some b) (hE : ∀ x ∈ eff, x.1 ∈ H.map (·.1) ∨ nw.1 ≤ x.1 ∧ x.1 < nw.2) (hn : nw.1 = nw.2 ∨ st.nx ≤ nw.1 ∧ nw.2 ≤ lim)
    (hQ : WRun P tab true lim ops l (st.app o.dst { d := r, vc := true, eff := eff, nw := nw, met := H.map (·.1) }) (acc ++ [fpOf o (st.fs lim) { d := r, vc := true, eff := eff, nw := nw, met := H.map (·.1) }]) Q) : WRun P tab true lim ops (o :: l) st acc Q := by
  obtain ⟨os, st', hch, hq⟩ := hQ
  have hnn : ∀ id, nw.1 ≤ id → id < nw.2 → st.nx ≤ id ∧ id < lim := by
    intro id h1 h2
    rcases hn with h | ⟨h3, h4⟩ <;> omega
  refine ⟨_, st', .cons (out := { d := r, vc := true, eff := eff, nw := nw, met := H.map (·.1) }) ?_ (fun id h1 h2 => (hnn id h1 h2).1) hch, by simpa using hq⟩
  unfold Fires
  simp only [hg]
  unfold Core
  simp only [ho, hc]
  refine ⟨K, caps, true, ds, true, r, hf, rfl, hds, rfl, .inr (.inl ⟨H, eff, nw, hK, hH, fun id h1 h2 => ?_, hE, rfl⟩)⟩
  have := hnn id h1 h2
  simp only [St.fs, Bool.and_eq_true, decide_eq_true_eq]
  exact this

end

/-- what a function hands back, said so that simp may reckon it -/
def ResIs (tab : Nat → TI) (st : St) (l : List ResultVar) (r : D) : Prop := match resL tab st l with | some (ds, p) => p = true ∧ resT ds = r | none => False

theorem ResIs.to {tab : Nat → TI} {st : St} {l : List ResultVar} {r : D} (h : ResIs tab st l r) : ∃ ds, resL tab st l = some (ds, true) ∧ resT ds = r := by
  unfold ResIs at h
  split at h
  · rename_i ds p he; obtain ⟨rfl, h2⟩ := h; exact ⟨ds, he, h2⟩
  · exact h.elim

theorem OkL.sub {P : Program} {lim n : Nat} {c : Code} {st st' : St} {Q : Exit → St → Prop} (hs : Sub st' st) (h : OkL P lim n c st' Q) : OkL P lim n c st Q := by
  intro E F a w g hF hR
  obtain ⟨F', hF', hR'⟩ := hR.sub hF hs
  exact h E F' a w g hF' hR'

end Go.Tm
end
section
/- A law's row, off its contract: what is handed in, read. -/






namespace Go.Tm
open Go.RowKit Go.WideShapes Go.ChangeShapes

section
variable {H : Type} {enc : TypeId × Value → H} {P : Program} {w : World} {sp : Nat → Bool}

end

section
variable {P : Program} {n : Nat} {t : TypeId} {l : List D}
end
end Go.Tm
end

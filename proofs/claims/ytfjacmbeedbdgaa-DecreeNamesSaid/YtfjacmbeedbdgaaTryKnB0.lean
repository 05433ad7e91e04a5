/- Known calls of one closed run, each reckoned by itself; by program (genknow.py). -/
import Derived.Test.YtfjacmbeedbdgaaTryFtB
import Derived.Test.YtfjacmbeedbdgaaTmQuick
namespace Go.Proofs
open Go.Tm
set_option maxRecDepth 100000

def Try.eB0 : Ent := ⟨79, [.ptr 701 0, .agg [.int .i64 1, .int .i64 0, .int .u8 2, .int .i64 0, .int .i64 0, .int .i64 8, .int .i64 0, .str [], .int .i64 0, .int .i64 0]],
 [(676, .arr 72 10 true [.agg [.int .i64 0, .int .i64 2, .int .u8 1, .int .i64 0, .int .i64 0, .int .i64 8, .int .i64 0, .str [], .int .i64 0, .int .i64 0], .agg [.int .i64 0, .int .i64 0, .int .u8 0, .int .i64 0, .int .i64 0, .int .i64 0, .int .i64 0, .str [], .int .i64 0, .int .i64 0]]),
  (685, .arr 38 3 true [.agg [.int .i64 0, .int .i64 0, .str []]]),
  (683, .arr 3 1 true [.int .i64 0, .int .i64 1, .int .i64 2]),
  (678, .arr 25 7 false [.agg [.int .u8 1, .int .i64 8, .ref 683 1 0 3 none, .str [120], .str [], .ref 685 3 0 1 none, .imm 0 [] 0], .agg [.int .u8 0, .int .i64 0, .imm 0 [] 0, .str [], .str [], .imm 0 [] 0, .imm 0 [] 0], .agg [.int .u8 0, .int .i64 0, .imm 0 [] 0, .str [], .str [], .imm 0 [] 0, .imm 0 [] 0], .agg [.int .u8 0, .int .i64 0, .imm 0 [] 0, .str [], .str [], .imm 0 [] 0, .imm 0 [] 0], .agg [.int .u8 0, .int .i64 0, .imm 0 [] 0, .str [], .str [], .imm 0 [] 0, .imm 0 [] 0], .agg [.int .u8 0, .int .i64 0, .imm 0 [] 0, .str [], .str [], .imm 0 [] 0, .imm 0 [] 0]]),
  (674, .arr 81 3 true [.agg [.int .i64 8, .int .i64 0, .str []], .agg [.int .i64 8, .int .i64 0, .str []], .agg [.int .i64 0, .int .i64 0, .str []], .agg [.int .i64 0, .int .i64 0, .str []], .agg [.int .i64 0, .int .i64 0, .str []], .agg [.int .i64 0, .int .i64 0, .str []]]),
  (672, .arr 3 1 true [.int .i64 0, .int .i64 1, .int .i64 2]),
  (701, .box [.ref 672 1 0 3 none, .ref 674 3 0 6 none, .ref 678 7 0 6 none, .ref 676 10 0 1 none, .imm 0 [] 0])], 703,
 { d := .tuple [], vc := true, eff := [(678, some (.arr 25 7 false [.agg [.int .u8 2, .int .i64 8, .ref 770 1 0 3 none, .str [120], .str [120], .ref 772 3 0 2 none, .ref 776 1 0 1 none], .agg [.int .u8 0, .int .i64 0, .imm 0 [] 0, .str [], .str [], .imm 0 [] 0, .imm 0 [] 0], .agg [.int .u8 0, .int .i64 0, .imm 0 [] 0, .str [], .str [], .imm 0 [] 0, .imm 0 [] 0], .agg [.int .u8 0, .int .i64 0, .imm 0 [] 0, .str [], .str [], .imm 0 [] 0, .imm 0 [] 0], .agg [.int .u8 0, .int .i64 0, .imm 0 [] 0, .str [], .str [], .imm 0 [] 0, .imm 0 [] 0], .agg [.int .u8 0, .int .i64 0, .imm 0 [] 0, .str [], .str [], .imm 0 [] 0, .imm 0 [] 0]])),
  (701, some (.box [.ref 672 1 0 3 none, .ref 674 3 0 6 none, .ref 678 7 0 6 none, .ref 740 10 0 3 none, .imm 0 [] 0])),
  (676, none),
  (674, some (.arr 81 3 true [.agg [.int .i64 8, .int .i64 8, .str [120]], .agg [.int .i64 8, .int .i64 0, .str []], .agg [.int .i64 0, .int .i64 0, .str []], .agg [.int .i64 0, .int .i64 0, .str []], .agg [.int .i64 0, .int .i64 0, .str []], .agg [.int .i64 0, .int .i64 0, .str []]])),
  (740, some (.arr 72 10 true [.agg [.int .i64 0, .int .i64 2, .int .u8 1, .int .i64 0, .int .i64 0, .int .i64 8, .int .i64 0, .str [], .int .i64 0, .int .i64 0], .agg [.int .i64 0, .int .i64 1, .int .u8 3, .int .i64 0, .int .i64 0, .int .i64 8, .int .i64 0, .str [120], .int .i64 0, .int .i64 0], .agg [.int .i64 0, .int .i64 2, .int .u8 3, .int .i64 0, .int .i64 0, .int .i64 8, .int .i64 0, .str [120], .int .i64 0, .int .i64 0]])),
  (776, some (.arr 3 1 true [.int .i64 0])),
  (772, some (.arr 38 3 true [.agg [.int .i64 0, .int .i64 0, .str []], .agg [.int .i64 1, .int .i64 0, .str []]])),
  (770, some (.arr 3 1 true [.int .i64 0, .int .i64 1, .int .i64 2]))], nw := (703, 778), met := [676, 685, 683, 678, 674, 672, 701] }⟩
theorem Try.rB0 : runFQ (getLQ Try.ftLB) Try.ptB Try.tm 2000 (callKQ [] (callXQ (getLQ Try.ftLB) Try.ptB Try.tm 2000 60)) Try.eB0.K Try.eB0.args Try.eB0.heap Try.eB0.nx = some Try.eB0.out := by kernel_rfl
theorem Try.kB0 : EntOk Try.prog Try.eB0 := entOk_of_runQ Try.tmOk Try.tmMixed Try.ftOkB (l := []) .nil Try.rB0

def Try.eB1 : Ent := ⟨37, [.agg [.ref 839 1 0 3 none, .ref 841 3 0 6 none, .ref 845 7 0 6 none, .ref 843 10 0 3 none, .imm 0 [] 0], .agg [.int .u8 2, .int .i64 0, .int .i64 2, .str []]],
 [(843, .arr 72 10 true [.agg [.int .i64 0, .int .i64 2, .int .u8 1, .int .i64 0, .int .i64 0, .int .i64 8, .int .i64 0, .str [], .int .i64 0, .int .i64 0], .agg [.int .i64 0, .int .i64 2, .int .u8 3, .int .i64 0, .int .i64 0, .int .i64 8, .int .i64 0, .str [120], .int .i64 0, .int .i64 0], .agg [.int .i64 1, .int .i64 0, .int .u8 4, .int .i64 0, .int .i64 0, .int .i64 8, .int .i64 0, .str [], .int .i64 0, .int .i64 0]]),
  (854, .arr 3 1 true [.int .i64 0]),
  (852, .arr 38 3 true [.agg [.int .i64 0, .int .i64 0, .str []], .agg [.int .i64 1, .int .i64 0, .str []]]),
  (850, .arr 3 1 true [.int .i64 0, .int .i64 1, .int .i64 2]),
  (845, .arr 25 7 false [.agg [.int .u8 2, .int .i64 8, .ref 850 1 0 3 none, .str [120], .str [120], .ref 852 3 0 2 none, .ref 854 1 0 1 none], .agg [.int .u8 0, .int .i64 0, .imm 0 [] 0, .str [], .str [], .imm 0 [] 0, .imm 0 [] 0], .agg [.int .u8 0, .int .i64 0, .imm 0 [] 0, .str [], .str [], .imm 0 [] 0, .imm 0 [] 0], .agg [.int .u8 0, .int .i64 0, .imm 0 [] 0, .str [], .str [], .imm 0 [] 0, .imm 0 [] 0], .agg [.int .u8 0, .int .i64 0, .imm 0 [] 0, .str [], .str [], .imm 0 [] 0, .imm 0 [] 0], .agg [.int .u8 0, .int .i64 0, .imm 0 [] 0, .str [], .str [], .imm 0 [] 0, .imm 0 [] 0]]),
  (841, .arr 81 3 true [.agg [.int .i64 8, .int .i64 8, .str [120]], .agg [.int .i64 8, .int .i64 8, .str [120]], .agg [.int .i64 0, .int .i64 0, .str []], .agg [.int .i64 0, .int .i64 0, .str []], .agg [.int .i64 0, .int .i64 0, .str []], .agg [.int .i64 0, .int .i64 0, .str []]]),
  (839, .arr 3 1 true [.int .i64 0, .int .i64 1, .int .i64 2])], 882,
 { d := .tuple [.agg [.ref 941 1 0 3 none, .ref 943 3 0 6 none, .ref 947 7 0 6 none, .ref 945 10 0 2 none, .ref 1012 2 0 1 none], .int .i64 0], vc := true, eff := [(1012, some (.arr 74 2 true [.agg [.int .i64 0, .str [120]]])),
  (945, some (.arr 72 10 true [.agg [.int .i64 0, .int .i64 2, .int .u8 1, .int .i64 0, .int .i64 0, .int .i64 8, .int .i64 0, .str [], .int .i64 0, .int .i64 0], .agg [.int .i64 0, .int .i64 2, .int .u8 3, .int .i64 0, .int .i64 0, .int .i64 8, .int .i64 0, .str [120], .int .i64 0, .int .i64 0], .agg [.int .i64 0, .int .i64 0, .int .u8 0, .int .i64 0, .int .i64 0, .int .i64 0, .int .i64 0, .str [], .int .i64 0, .int .i64 0]])),
  (1009, some (.arr 3 1 true [.int .i64 0, .int .i64 1])),
  (1003, some (.arr 38 3 true [.agg [.int .i64 0, .int .i64 0, .str []], .agg [.int .i64 1, .int .i64 0, .str []]])),
  (1001, some (.arr 3 1 true [.int .i64 0, .int .i64 1, .int .i64 2])),
  (947, some (.arr 25 7 false [.agg [.int .u8 3, .int .i64 8, .ref 1001 1 0 3 none, .str [120], .str [120], .ref 1003 3 0 2 none, .ref 1009 1 0 2 none], .agg [.int .u8 0, .int .i64 0, .imm 0 [] 0, .str [], .str [], .imm 0 [] 0, .imm 0 [] 0], .agg [.int .u8 0, .int .i64 0, .imm 0 [] 0, .str [], .str [], .imm 0 [] 0, .imm 0 [] 0], .agg [.int .u8 0, .int .i64 0, .imm 0 [] 0, .str [], .str [], .imm 0 [] 0, .imm 0 [] 0], .agg [.int .u8 0, .int .i64 0, .imm 0 [] 0, .str [], .str [], .imm 0 [] 0, .imm 0 [] 0], .agg [.int .u8 0, .int .i64 0, .imm 0 [] 0, .str [], .str [], .imm 0 [] 0, .imm 0 [] 0]])),
  (943, some (.arr 81 3 true [.agg [.int .i64 8, .int .i64 8, .str [120]], .agg [.int .i64 8, .int .i64 8, .str [120]], .agg [.int .i64 0, .int .i64 0, .str []], .agg [.int .i64 0, .int .i64 0, .str []], .agg [.int .i64 0, .int .i64 0, .str []], .agg [.int .i64 0, .int .i64 0, .str []]])),
  (941, some (.arr 3 1 true [.int .i64 0, .int .i64 1, .int .i64 2]))], nw := (882, 1013), met := [843, 854, 852, 850, 845, 841, 839] }⟩
theorem Try.rB1 : runFQ (getLQ Try.ftLB) Try.ptB Try.tm 2000 (callKQ [] (callXQ (getLQ Try.ftLB) Try.ptB Try.tm 2000 60)) Try.eB1.K Try.eB1.args Try.eB1.heap Try.eB1.nx = some Try.eB1.out := by kernel_rfl
theorem Try.kB1 : EntOk Try.prog Try.eB1 := entOk_of_runQ Try.tmOk Try.tmMixed Try.ftOkB (l := []) .nil Try.rB1

def Try.eB2 : Ent := ⟨37, [.agg [.ref 672 1 0 3 none, .ref 674 3 0 6 none, .ref 678 7 0 6 none, .ref 740 10 0 3 none, .imm 0 [] 0], .agg [.int .u8 2, .int .i64 0, .int .i64 1, .str []]],
 [(740, .arr 72 10 true [.agg [.int .i64 0, .int .i64 2, .int .u8 1, .int .i64 0, .int .i64 0, .int .i64 8, .int .i64 0, .str [], .int .i64 0, .int .i64 0], .agg [.int .i64 0, .int .i64 1, .int .u8 3, .int .i64 0, .int .i64 0, .int .i64 8, .int .i64 0, .str [120], .int .i64 0, .int .i64 0], .agg [.int .i64 0, .int .i64 2, .int .u8 3, .int .i64 0, .int .i64 0, .int .i64 8, .int .i64 0, .str [120], .int .i64 0, .int .i64 0]]),
  (776, .arr 3 1 true [.int .i64 0]),
  (772, .arr 38 3 true [.agg [.int .i64 0, .int .i64 0, .str []], .agg [.int .i64 1, .int .i64 0, .str []]]),
  (770, .arr 3 1 true [.int .i64 0, .int .i64 1, .int .i64 2]),
  (678, .arr 25 7 false [.agg [.int .u8 2, .int .i64 8, .ref 770 1 0 3 none, .str [120], .str [120], .ref 772 3 0 2 none, .ref 776 1 0 1 none], .agg [.int .u8 0, .int .i64 0, .imm 0 [] 0, .str [], .str [], .imm 0 [] 0, .imm 0 [] 0], .agg [.int .u8 0, .int .i64 0, .imm 0 [] 0, .str [], .str [], .imm 0 [] 0, .imm 0 [] 0], .agg [.int .u8 0, .int .i64 0, .imm 0 [] 0, .str [], .str [], .imm 0 [] 0, .imm 0 [] 0], .agg [.int .u8 0, .int .i64 0, .imm 0 [] 0, .str [], .str [], .imm 0 [] 0, .imm 0 [] 0], .agg [.int .u8 0, .int .i64 0, .imm 0 [] 0, .str [], .str [], .imm 0 [] 0, .imm 0 [] 0]]),
  (674, .arr 81 3 true [.agg [.int .i64 8, .int .i64 8, .str [120]], .agg [.int .i64 8, .int .i64 0, .str []], .agg [.int .i64 0, .int .i64 0, .str []], .agg [.int .i64 0, .int .i64 0, .str []], .agg [.int .i64 0, .int .i64 0, .str []], .agg [.int .i64 0, .int .i64 0, .str []]]),
  (672, .arr 3 1 true [.int .i64 0, .int .i64 1, .int .i64 2])], 780,
 { d := .tuple [.agg [.ref 839 1 0 3 none, .ref 841 3 0 6 none, .ref 845 7 0 6 none, .ref 843 10 0 3 none, .imm 0 [] 0], .int .i64 0], vc := true, eff := [(843, some (.arr 72 10 true [.agg [.int .i64 0, .int .i64 2, .int .u8 1, .int .i64 0, .int .i64 0, .int .i64 8, .int .i64 0, .str [], .int .i64 0, .int .i64 0], .agg [.int .i64 0, .int .i64 2, .int .u8 3, .int .i64 0, .int .i64 0, .int .i64 8, .int .i64 0, .str [120], .int .i64 0, .int .i64 0], .agg [.int .i64 1, .int .i64 0, .int .u8 4, .int .i64 0, .int .i64 0, .int .i64 8, .int .i64 0, .str [], .int .i64 0, .int .i64 0]])),
  (854, some (.arr 3 1 true [.int .i64 0])),
  (852, some (.arr 38 3 true [.agg [.int .i64 0, .int .i64 0, .str []], .agg [.int .i64 1, .int .i64 0, .str []]])),
  (850, some (.arr 3 1 true [.int .i64 0, .int .i64 1, .int .i64 2])),
  (845, some (.arr 25 7 false [.agg [.int .u8 2, .int .i64 8, .ref 850 1 0 3 none, .str [120], .str [120], .ref 852 3 0 2 none, .ref 854 1 0 1 none], .agg [.int .u8 0, .int .i64 0, .imm 0 [] 0, .str [], .str [], .imm 0 [] 0, .imm 0 [] 0], .agg [.int .u8 0, .int .i64 0, .imm 0 [] 0, .str [], .str [], .imm 0 [] 0, .imm 0 [] 0], .agg [.int .u8 0, .int .i64 0, .imm 0 [] 0, .str [], .str [], .imm 0 [] 0, .imm 0 [] 0], .agg [.int .u8 0, .int .i64 0, .imm 0 [] 0, .str [], .str [], .imm 0 [] 0, .imm 0 [] 0], .agg [.int .u8 0, .int .i64 0, .imm 0 [] 0, .str [], .str [], .imm 0 [] 0, .imm 0 [] 0]])),
  (841, some (.arr 81 3 true [.agg [.int .i64 8, .int .i64 8, .str [120]], .agg [.int .i64 8, .int .i64 8, .str [120]], .agg [.int .i64 0, .int .i64 0, .str []], .agg [.int .i64 0, .int .i64 0, .str []], .agg [.int .i64 0, .int .i64 0, .str []], .agg [.int .i64 0, .int .i64 0, .str []]])),
  (839, some (.arr 3 1 true [.int .i64 0, .int .i64 1, .int .i64 2]))], nw := (780, 880), met := [740, 776, 772, 770, 678, 674, 672] }⟩
theorem Try.rB2 : runFQ (getLQ Try.ftLB) Try.ptB Try.tm 2000 (callKQ [] (callXQ (getLQ Try.ftLB) Try.ptB Try.tm 2000 60)) Try.eB2.K Try.eB2.args Try.eB2.heap Try.eB2.nx = some Try.eB2.out := by kernel_rfl
theorem Try.kB2 : EntOk Try.prog Try.eB2 := entOk_of_runQ Try.tmOk Try.tmMixed Try.ftOkB (l := []) .nil Try.rB2

def Try.eB3 : Ent := ⟨37, [.agg [.ref 440 1 0 3 none, .ref 441 3 0 6 (some 6), .ref 442 7 0 6 (some 6), .imm 0 [] 0, .imm 0 [] 0], .agg [.int .u8 1, .int .i64 0, .int .i64 0, .str [120]]],
 [(442, .arr 25 7 true [.agg [.int .u8 0, .int .i64 0, .imm 0 [] 0, .str [], .str [], .imm 0 [] 0, .imm 0 [] 0], .agg [.int .u8 0, .int .i64 0, .imm 0 [] 0, .str [], .str [], .imm 0 [] 0, .imm 0 [] 0], .agg [.int .u8 0, .int .i64 0, .imm 0 [] 0, .str [], .str [], .imm 0 [] 0, .imm 0 [] 0], .agg [.int .u8 0, .int .i64 0, .imm 0 [] 0, .str [], .str [], .imm 0 [] 0, .imm 0 [] 0], .agg [.int .u8 0, .int .i64 0, .imm 0 [] 0, .str [], .str [], .imm 0 [] 0, .imm 0 [] 0], .agg [.int .u8 0, .int .i64 0, .imm 0 [] 0, .str [], .str [], .imm 0 [] 0, .imm 0 [] 0]]),
  (441, .arr 81 3 true [.agg [.int .i64 0, .int .i64 0, .str []], .agg [.int .i64 0, .int .i64 0, .str []], .agg [.int .i64 0, .int .i64 0, .str []], .agg [.int .i64 0, .int .i64 0, .str []], .agg [.int .i64 0, .int .i64 0, .str []], .agg [.int .i64 0, .int .i64 0, .str []]]),
  (440, .arr 3 1 true [.int .i64 0, .int .i64 1, .int .i64 2])], 445,
 { d := .tuple [.agg [.ref 482 1 0 3 none, .ref 484 3 0 6 none, .ref 486 7 0 6 none, .ref 518 10 0 2 none, .imm 0 [] 0], .int .i64 0], vc := true, eff := [(518, some (.arr 72 10 true [.agg [.int .i64 0, .int .i64 1, .int .u8 1, .int .i64 0, .int .i64 0, .int .i64 8, .int .i64 0, .str [], .int .i64 0, .int .i64 0], .agg [.int .i64 0, .int .i64 2, .int .u8 1, .int .i64 0, .int .i64 0, .int .i64 8, .int .i64 0, .str [], .int .i64 0, .int .i64 0]])),
  (530, some (.arr 38 3 true [.agg [.int .i64 0, .int .i64 0, .str []]])),
  (528, some (.arr 3 1 true [.int .i64 0, .int .i64 1, .int .i64 2])),
  (486, some (.arr 25 7 false [.agg [.int .u8 1, .int .i64 8, .ref 528 1 0 3 none, .str [120], .str [], .ref 530 3 0 1 none, .imm 0 [] 0], .agg [.int .u8 0, .int .i64 0, .imm 0 [] 0, .str [], .str [], .imm 0 [] 0, .imm 0 [] 0], .agg [.int .u8 0, .int .i64 0, .imm 0 [] 0, .str [], .str [], .imm 0 [] 0, .imm 0 [] 0], .agg [.int .u8 0, .int .i64 0, .imm 0 [] 0, .str [], .str [], .imm 0 [] 0, .imm 0 [] 0], .agg [.int .u8 0, .int .i64 0, .imm 0 [] 0, .str [], .str [], .imm 0 [] 0, .imm 0 [] 0], .agg [.int .u8 0, .int .i64 0, .imm 0 [] 0, .str [], .str [], .imm 0 [] 0, .imm 0 [] 0]])),
  (484, some (.arr 81 3 true [.agg [.int .i64 8, .int .i64 0, .str []], .agg [.int .i64 0, .int .i64 0, .str []], .agg [.int .i64 0, .int .i64 0, .str []], .agg [.int .i64 0, .int .i64 0, .str []], .agg [.int .i64 0, .int .i64 0, .str []], .agg [.int .i64 0, .int .i64 0, .str []]])),
  (482, some (.arr 3 1 true [.int .i64 0, .int .i64 1, .int .i64 2]))], nw := (445, 535), met := [442, 441, 440] }⟩
theorem Try.rB3 : runFQ (getLQ Try.ftLB) Try.ptB Try.tm 2000 (callKQ [] (callXQ (getLQ Try.ftLB) Try.ptB Try.tm 2000 60)) Try.eB3.K Try.eB3.args Try.eB3.heap Try.eB3.nx = some Try.eB3.out := by kernel_rfl
theorem Try.kB3 : EntOk Try.prog Try.eB3 := entOk_of_runQ Try.tmOk Try.tmMixed Try.ftOkB (l := []) .nil Try.rB3

def Try.eB4 : Ent := ⟨37, [.agg [.ref 482 1 0 3 none, .ref 484 3 0 6 none, .ref 486 7 0 6 none, .ref 518 10 0 2 none, .imm 0 [] 0], .agg [.int .u8 2, .int .i64 0, .int .i64 0, .str []]],
 [(518, .arr 72 10 true [.agg [.int .i64 0, .int .i64 1, .int .u8 1, .int .i64 0, .int .i64 0, .int .i64 8, .int .i64 0, .str [], .int .i64 0, .int .i64 0], .agg [.int .i64 0, .int .i64 2, .int .u8 1, .int .i64 0, .int .i64 0, .int .i64 8, .int .i64 0, .str [], .int .i64 0, .int .i64 0]]),
  (530, .arr 38 3 true [.agg [.int .i64 0, .int .i64 0, .str []]]),
  (528, .arr 3 1 true [.int .i64 0, .int .i64 1, .int .i64 2]),
  (486, .arr 25 7 false [.agg [.int .u8 1, .int .i64 8, .ref 528 1 0 3 none, .str [120], .str [], .ref 530 3 0 1 none, .imm 0 [] 0], .agg [.int .u8 0, .int .i64 0, .imm 0 [] 0, .str [], .str [], .imm 0 [] 0, .imm 0 [] 0], .agg [.int .u8 0, .int .i64 0, .imm 0 [] 0, .str [], .str [], .imm 0 [] 0, .imm 0 [] 0], .agg [.int .u8 0, .int .i64 0, .imm 0 [] 0, .str [], .str [], .imm 0 [] 0, .imm 0 [] 0], .agg [.int .u8 0, .int .i64 0, .imm 0 [] 0, .str [], .str [], .imm 0 [] 0, .imm 0 [] 0], .agg [.int .u8 0, .int .i64 0, .imm 0 [] 0, .str [], .str [], .imm 0 [] 0, .imm 0 [] 0]]),
  (484, .arr 81 3 true [.agg [.int .i64 8, .int .i64 0, .str []], .agg [.int .i64 0, .int .i64 0, .str []], .agg [.int .i64 0, .int .i64 0, .str []], .agg [.int .i64 0, .int .i64 0, .str []], .agg [.int .i64 0, .int .i64 0, .str []], .agg [.int .i64 0, .int .i64 0, .str []]]),
  (482, .arr 3 1 true [.int .i64 0, .int .i64 1, .int .i64 2])], 537,
 { d := .tuple [.agg [.ref 584 1 0 3 none, .ref 586 3 0 6 none, .ref 590 7 0 6 none, .ref 588 10 0 2 none, .imm 0 [] 0], .int .i64 0], vc := true, eff := [(588, some (.arr 72 10 true [.agg [.int .i64 0, .int .i64 2, .int .u8 1, .int .i64 0, .int .i64 0, .int .i64 8, .int .i64 0, .str [], .int .i64 0, .int .i64 0], .agg [.int .i64 1, .int .i64 0, .int .u8 2, .int .i64 0, .int .i64 0, .int .i64 8, .int .i64 0, .str [], .int .i64 0, .int .i64 0]])),
  (597, some (.arr 38 3 true [.agg [.int .i64 0, .int .i64 0, .str []]])),
  (595, some (.arr 3 1 true [.int .i64 0, .int .i64 1, .int .i64 2])),
  (590, some (.arr 25 7 false [.agg [.int .u8 1, .int .i64 8, .ref 595 1 0 3 none, .str [120], .str [], .ref 597 3 0 1 none, .imm 0 [] 0], .agg [.int .u8 0, .int .i64 0, .imm 0 [] 0, .str [], .str [], .imm 0 [] 0, .imm 0 [] 0], .agg [.int .u8 0, .int .i64 0, .imm 0 [] 0, .str [], .str [], .imm 0 [] 0, .imm 0 [] 0], .agg [.int .u8 0, .int .i64 0, .imm 0 [] 0, .str [], .str [], .imm 0 [] 0, .imm 0 [] 0], .agg [.int .u8 0, .int .i64 0, .imm 0 [] 0, .str [], .str [], .imm 0 [] 0, .imm 0 [] 0], .agg [.int .u8 0, .int .i64 0, .imm 0 [] 0, .str [], .str [], .imm 0 [] 0, .imm 0 [] 0]])),
  (586, some (.arr 81 3 true [.agg [.int .i64 8, .int .i64 0, .str []], .agg [.int .i64 8, .int .i64 0, .str []], .agg [.int .i64 0, .int .i64 0, .str []], .agg [.int .i64 0, .int .i64 0, .str []], .agg [.int .i64 0, .int .i64 0, .str []], .agg [.int .i64 0, .int .i64 0, .str []]])),
  (584, some (.arr 3 1 true [.int .i64 0, .int .i64 1, .int .i64 2]))], nw := (537, 623), met := [518, 530, 528, 486, 484, 482] }⟩
theorem Try.rB4 : runFQ (getLQ Try.ftLB) Try.ptB Try.tm 2000 (callKQ [] (callXQ (getLQ Try.ftLB) Try.ptB Try.tm 2000 60)) Try.eB4.K Try.eB4.args Try.eB4.heap Try.eB4.nx = some Try.eB4.out := by kernel_rfl
theorem Try.kB4 : EntOk Try.prog Try.eB4 := entOk_of_runQ Try.tmOk Try.tmMixed Try.ftOkB (l := []) .nil Try.rB4

def Try.eB5 : Ent := ⟨40, [.ref 299 1 0 1 (some 1), .ref 301 4 0 1 (some 1)],
 [(301, .arr 66 4 true [.agg [.int .u8 1, .int .i64 4, .int .i64 0, .str [115, 111, 108, 111]]]),
  (299, .arr 3 1 true [.int .i64 4])], 302,
 { d := .tuple [.agg [.ref 347 1 0 1 none, .ref 349 3 0 6 none, .ref 351 7 0 6 none, .imm 0 [] 0, .ref 427 2 0 1 none], .int .i64 0], vc := true, eff := [(427, some (.arr 74 2 true [.agg [.int .i64 4, .str [115, 111, 108, 111]]])),
  (424, some (.arr 3 1 true [.int .i64 4])),
  (420, some (.arr 38 3 true [.agg [.int .i64 4, .int .i64 0, .str []]])),
  (418, some (.arr 3 1 true [.int .i64 4])),
  (351, some (.arr 25 7 false [.agg [.int .u8 0, .int .i64 0, .imm 0 [] 0, .str [], .str [], .imm 0 [] 0, .imm 0 [] 0], .agg [.int .u8 0, .int .i64 0, .imm 0 [] 0, .str [], .str [], .imm 0 [] 0, .imm 0 [] 0], .agg [.int .u8 0, .int .i64 0, .imm 0 [] 0, .str [], .str [], .imm 0 [] 0, .imm 0 [] 0], .agg [.int .u8 0, .int .i64 0, .imm 0 [] 0, .str [], .str [], .imm 0 [] 0, .imm 0 [] 0], .agg [.int .u8 3, .int .i64 12, .ref 418 1 0 1 none, .str [115, 111, 108, 111], .str [115, 111, 108, 111], .ref 420 3 0 1 none, .ref 424 1 0 1 none], .agg [.int .u8 0, .int .i64 0, .imm 0 [] 0, .str [], .str [], .imm 0 [] 0, .imm 0 [] 0]])),
  (349, some (.arr 81 3 true [.agg [.int .i64 0, .int .i64 0, .str []], .agg [.int .i64 0, .int .i64 0, .str []], .agg [.int .i64 0, .int .i64 0, .str []], .agg [.int .i64 0, .int .i64 0, .str []], .agg [.int .i64 12, .int .i64 12, .str [115, 111, 108, 111]], .agg [.int .i64 0, .int .i64 0, .str []]])),
  (347, some (.arr 3 1 true [.int .i64 4]))], nw := (302, 429), met := [301, 299] }⟩
theorem Try.rB5 : runFQ (getLQ Try.ftLB) Try.ptB Try.tm 2000 (callKQ [] (callXQ (getLQ Try.ftLB) Try.ptB Try.tm 2000 60)) Try.eB5.K Try.eB5.args Try.eB5.heap Try.eB5.nx = some Try.eB5.out := by kernel_rfl
theorem Try.kB5 : EntOk Try.prog Try.eB5 := entOk_of_runQ Try.tmOk Try.tmMixed Try.ftOkB (l := []) .nil Try.rB5

def Try.eB6 : Ent := ⟨37, [.agg [.ref 3 1 0 3 none, .ref 4 3 0 6 (some 6), .ref 5 7 0 6 (some 6), .imm 0 [] 0, .imm 0 [] 0], .agg [.int .u8 1, .int .i64 0, .int .i64 0, .str [120]]],
 [(5, .arr 25 7 true [.agg [.int .u8 0, .int .i64 0, .imm 0 [] 0, .str [], .str [], .imm 0 [] 0, .imm 0 [] 0], .agg [.int .u8 0, .int .i64 0, .imm 0 [] 0, .str [], .str [], .imm 0 [] 0, .imm 0 [] 0], .agg [.int .u8 0, .int .i64 0, .imm 0 [] 0, .str [], .str [], .imm 0 [] 0, .imm 0 [] 0], .agg [.int .u8 0, .int .i64 0, .imm 0 [] 0, .str [], .str [], .imm 0 [] 0, .imm 0 [] 0], .agg [.int .u8 0, .int .i64 0, .imm 0 [] 0, .str [], .str [], .imm 0 [] 0, .imm 0 [] 0], .agg [.int .u8 0, .int .i64 0, .imm 0 [] 0, .str [], .str [], .imm 0 [] 0, .imm 0 [] 0]]),
  (4, .arr 81 3 true [.agg [.int .i64 0, .int .i64 0, .str []], .agg [.int .i64 0, .int .i64 0, .str []], .agg [.int .i64 0, .int .i64 0, .str []], .agg [.int .i64 0, .int .i64 0, .str []], .agg [.int .i64 0, .int .i64 0, .str []], .agg [.int .i64 0, .int .i64 0, .str []]]),
  (3, .arr 3 1 true [.int .i64 0, .int .i64 1, .int .i64 2])], 8,
 { d := .tuple [.agg [.ref 45 1 0 3 none, .ref 47 3 0 6 none, .ref 49 7 0 6 none, .ref 81 10 0 2 none, .imm 0 [] 0], .int .i64 0], vc := true, eff := [(81, some (.arr 72 10 true [.agg [.int .i64 0, .int .i64 1, .int .u8 1, .int .i64 0, .int .i64 0, .int .i64 8, .int .i64 0, .str [], .int .i64 0, .int .i64 0], .agg [.int .i64 0, .int .i64 2, .int .u8 1, .int .i64 0, .int .i64 0, .int .i64 8, .int .i64 0, .str [], .int .i64 0, .int .i64 0]])),
  (93, some (.arr 38 3 true [.agg [.int .i64 0, .int .i64 0, .str []]])),
  (91, some (.arr 3 1 true [.int .i64 0, .int .i64 1, .int .i64 2])),
  (49, some (.arr 25 7 false [.agg [.int .u8 1, .int .i64 8, .ref 91 1 0 3 none, .str [120], .str [], .ref 93 3 0 1 none, .imm 0 [] 0], .agg [.int .u8 0, .int .i64 0, .imm 0 [] 0, .str [], .str [], .imm 0 [] 0, .imm 0 [] 0], .agg [.int .u8 0, .int .i64 0, .imm 0 [] 0, .str [], .str [], .imm 0 [] 0, .imm 0 [] 0], .agg [.int .u8 0, .int .i64 0, .imm 0 [] 0, .str [], .str [], .imm 0 [] 0, .imm 0 [] 0], .agg [.int .u8 0, .int .i64 0, .imm 0 [] 0, .str [], .str [], .imm 0 [] 0, .imm 0 [] 0], .agg [.int .u8 0, .int .i64 0, .imm 0 [] 0, .str [], .str [], .imm 0 [] 0, .imm 0 [] 0]])),
  (47, some (.arr 81 3 true [.agg [.int .i64 8, .int .i64 0, .str []], .agg [.int .i64 0, .int .i64 0, .str []], .agg [.int .i64 0, .int .i64 0, .str []], .agg [.int .i64 0, .int .i64 0, .str []], .agg [.int .i64 0, .int .i64 0, .str []], .agg [.int .i64 0, .int .i64 0, .str []]])),
  (45, some (.arr 3 1 true [.int .i64 0, .int .i64 1, .int .i64 2]))], nw := (8, 98), met := [5, 4, 3] }⟩
theorem Try.rB6 : runFQ (getLQ Try.ftLB) Try.ptB Try.tm 2000 (callKQ [] (callXQ (getLQ Try.ftLB) Try.ptB Try.tm 2000 60)) Try.eB6.K Try.eB6.args Try.eB6.heap Try.eB6.nx = some Try.eB6.out := by kernel_rfl
theorem Try.kB6 : EntOk Try.prog Try.eB6 := entOk_of_runQ Try.tmOk Try.tmMixed Try.ftOkB (l := []) .nil Try.rB6

def Try.eB7 : Ent := ⟨41, [],
 [], 430,
 { d := .bool true, vc := true, eff := [], nw := (430, 1015), met := [] }⟩
theorem Try.rB7 : runFQ (getLQ Try.ftLB) Try.ptB Try.tm 2000 (callKQ [Try.eB1, Try.eB2, Try.eB3, Try.eB4, Try.eB0] (callXQ (getLQ Try.ftLB) Try.ptB Try.tm 2000 60)) Try.eB7.K Try.eB7.args Try.eB7.heap Try.eB7.nx = some Try.eB7.out := by kernel_rfl
theorem Try.kB7 : EntOk Try.prog Try.eB7 := entOk_of_runQ Try.tmOk Try.tmMixed Try.ftOkB (l := [Try.eB1, Try.eB2, Try.eB3, Try.eB4, Try.eB0]) (.cons Try.kB1 (.cons Try.kB2 (.cons Try.kB3 (.cons Try.kB4 (.cons Try.kB0 .nil))))) Try.rB7

theorem Try.rBtop : saysTrue (runFQ (getLQ Try.ftLB) Try.ptB Try.tm 2000 (callKQ [Try.eB5, Try.eB6, Try.eB7] (callXQ (getLQ Try.ftLB) Try.ptB Try.tm 2000 60)) 9 [] [] 0) = true := by kernel_rfl
theorem Try.namesB : CallP Try.prog 9 [] (.bool true) := callP_knownQ Try.tmOk Try.tmMixed Try.ftOkB (l := [Try.eB5, Try.eB6, Try.eB7]) (.cons Try.kB5 (.cons Try.kB6 (.cons Try.kB7 .nil))) Try.rBtop

end Go.Proofs

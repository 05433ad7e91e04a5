/- Known calls of one closed run, each reckoned by itself; by program (genknow.py). -/
import Derived.KernelRfl
import Derived.WideKeyArgs
import Derived.ChangeSame
import Derived.ChangeArms
import Derived.OpenShut
import Derived.Carry
import Derived.Test.YtggdmadjpakkbaaGreatBellNamesPh
import Derived.Test.YtggdmadjpakkbaaGreatBellNamesPf
section
namespace Go.Proofs
open Go.Tm
set_option maxRecDepth 100000

def Tryz.eB0 : Ent := ⟨9, [.agg [.int .i64 0, .ref 22 2 0 2 none, .ref 35 15 0 1 none, .imm 0 [] 0], .int .i64 1, .agg [.int .u8 1, .int .i64 5, .ref 38 1 0 2 (some 2), .int .i64 0, .str [], .str [], .int .i64 0, .int .i64 0, .imm 0 [] 0, .int .i64 0, .int .i64 0, .int .i64 0]],
 [(38, .arr 3 1 true [.int .i64 0, .int .i64 1]),
  (30, .arr 3 1 true [.int .i64 0, .int .i64 1]),
  (29, .arr 3 1 true [.int .i64 0, .int .i64 1]),
  (35, .arr 61 15 false [.agg [.int .i64 0, .int .i64 0, .ref 29 1 0 2 none, .ref 30 1 0 2 none, .imm 0 [] 0, .imm 0 [] 0, .int .u8 0, .int .i64 0, .imm 0 [] 0, .str [], .str [], .imm 0 [] 0, .imm 0 [] 0, .imm 0 [] 0, .int .i64 0]]),
  (20, .arr 3 1 true [.int .i64 1, .int .i64 2]),
  (19, .arr 3 1 true [.int .i64 1, .int .i64 2]),
  (15, .arr 3 1 true [.int .i64 0, .int .i64 1]),
  (14, .arr 3 1 true [.int .i64 0, .int .i64 1]),
  (22, .arr 56 2 false [.agg [.ref 14 1 0 2 none, .ref 15 1 0 2 none], .agg [.ref 19 1 0 2 none, .ref 20 1 0 2 none]])], 41,
 { d := .tuple [.agg [.int .i64 0, .ref 94 2 0 2 none, .ref 103 15 0 1 none, .imm 0 [] 0], .ref 148 10 0 2 none, .int .i64 0], vc := true, eff := [(148, some (.arr 63 10 true [.agg [.int .i64 0, .int .i64 1, .int .u8 9, .int .i64 1, .int .i64 0, .int .i64 0, .int .i64 0, .str [1, 5, 2, 0, 1, 0, 0, 0], .int .i64 0, .int .i64 0], .agg [.int .i64 0, .int .i64 2, .int .u8 9, .int .i64 1, .int .i64 0, .int .i64 0, .int .i64 0, .str [1, 5, 2, 0, 1, 0, 0, 0], .int .i64 0, .int .i64 0]])),
  (99, some (.arr 3 1 true [.int .i64 0, .int .i64 1])),
  (98, some (.arr 3 1 true [.int .i64 0, .int .i64 1])),
  (103, some (.arr 61 15 false [.agg [.int .i64 0, .int .i64 0, .ref 98 1 0 2 none, .ref 99 1 0 2 none, .imm 0 [] 0, .imm 0 [] 0, .int .u8 0, .int .i64 0, .imm 0 [] 0, .str [], .str [], .imm 0 [] 0, .imm 0 [] 0, .imm 0 [] 0, .int .i64 0]])),
  (92, some (.arr 3 1 true [.int .i64 1, .int .i64 2])),
  (91, some (.arr 3 1 true [.int .i64 1, .int .i64 2])),
  (87, some (.arr 3 1 true [.int .i64 0, .int .i64 1])),
  (86, some (.arr 3 1 true [.int .i64 0, .int .i64 1])),
  (94, some (.arr 56 2 false [.agg [.ref 86 1 0 2 none, .ref 87 1 0 2 none], .agg [.ref 91 1 0 2 none, .ref 92 1 0 2 none]]))], nw := (41, 149), met := [38, 30, 29, 35, 20, 19, 15, 14, 22] }⟩
theorem Tryz.rB0 : runFQ (getLQ Tryz.ftLB) Tryz.ptB Tryz.tm 2000 (callN (callKQ [] noCall) (getLQ Tryz.ftLB) Tryz.ptB Tryz.tm 2000 60) Tryz.eB0.K Tryz.eB0.args Tryz.eB0.heap Tryz.eB0.nx = some Tryz.eB0.out := by kernel_rfl
theorem Tryz.kB0 : EntOk Tryz.prog Tryz.eB0 := entOk_of_runN Tryz.tmOk Tryz.tmMixed Tryz.ftOkB (l := []) .nil Tryz.rB0

def Tryz.eB1 : Ent := ⟨91, [.ptr 472 0],
 [(470, .arr 9 1 true [.str [1, 5, 2, 0, 1, 0, 0, 0]]),
  (461, .arr 3 1 true [.int .i64 0, .int .i64 1]),
  (460, .arr 3 1 true [.int .i64 0, .int .i64 1]),
  (466, .arr 61 15 false [.agg [.int .i64 0, .int .i64 0, .ref 460 1 0 2 none, .ref 461 1 0 2 none, .ref 470 1 0 1 none, .imm 0 [] 0, .int .u8 0, .int .i64 0, .imm 0 [] 0, .str [], .str [], .imm 0 [] 0, .imm 0 [] 0, .imm 0 [] 0, .int .i64 0]]),
  (451, .arr 3 1 true [.int .i64 1, .int .i64 2]),
  (450, .arr 3 1 true [.int .i64 1, .int .i64 2]),
  (446, .arr 3 1 true [.int .i64 0, .int .i64 1]),
  (445, .arr 3 1 true [.int .i64 0, .int .i64 1]),
  (453, .arr 56 2 false [.agg [.ref 445 1 0 2 none, .ref 446 1 0 2 none], .agg [.ref 450 1 0 2 none, .ref 451 1 0 2 none]]),
  (472, .box [.int .i64 0, .ref 453 2 0 2 none, .ref 466 15 0 1 none, .imm 0 [] 0, .imm 0 [] 0, .imm 0 [] 0])], 510,
 { d := .mref 510, vc := true, eff := [(510, some (.map [(.agg [.int .i64 5, .int .i64 1], .bool true)]))], nw := (510, 577), met := [470, 461, 460, 466, 451, 450, 446, 445, 453, 472] }⟩
theorem Tryz.rB1 : runFQ (getLQ Tryz.ftLB) Tryz.ptB Tryz.tm 2000 (callN (callKQ [] noCall) (getLQ Tryz.ftLB) Tryz.ptB Tryz.tm 2000 60) Tryz.eB1.K Tryz.eB1.args Tryz.eB1.heap Tryz.eB1.nx = some Tryz.eB1.out := by kernel_rfl
theorem Tryz.kB1 : EntOk Tryz.prog Tryz.eB1 := entOk_of_runN Tryz.tmOk Tryz.tmMixed Tryz.ftOkB (l := []) .nil Tryz.rB1

def Tryz.eB2 : Ent := ⟨91, [.ptr 581 0],
 [(470, .arr 9 1 true [.str [1, 5, 2, 0, 1, 0, 0, 0]]),
  (461, .arr 3 1 true [.int .i64 0, .int .i64 1]),
  (460, .arr 3 1 true [.int .i64 0, .int .i64 1]),
  (466, .arr 61 15 false [.agg [.int .i64 0, .int .i64 0, .ref 460 1 0 2 none, .ref 461 1 0 2 none, .ref 470 1 0 1 none, .imm 0 [] 0, .int .u8 0, .int .i64 0, .imm 0 [] 0, .str [], .str [], .imm 0 [] 0, .imm 0 [] 0, .imm 0 [] 0, .int .i64 0]]),
  (451, .arr 3 1 true [.int .i64 1, .int .i64 2]),
  (450, .arr 3 1 true [.int .i64 1, .int .i64 2]),
  (446, .arr 3 1 true [.int .i64 0, .int .i64 1]),
  (445, .arr 3 1 true [.int .i64 0, .int .i64 1]),
  (453, .arr 56 2 false [.agg [.ref 445 1 0 2 none, .ref 446 1 0 2 none], .agg [.ref 450 1 0 2 none, .ref 451 1 0 2 none]]),
  (581, .box [.int .i64 0, .ref 453 2 0 2 none, .ref 466 15 0 1 none, .imm 0 [] 0, .imm 0 [] 0, .imm 0 [] 0])], 619,
 { d := .mref 619, vc := true, eff := [(619, some (.map [(.agg [.int .i64 5, .int .i64 1], .bool true)]))], nw := (619, 686), met := [470, 461, 460, 466, 451, 450, 446, 445, 453, 581] }⟩
theorem Tryz.rB2 : runFQ (getLQ Tryz.ftLB) Tryz.ptB Tryz.tm 2000 (callN (callKQ [] noCall) (getLQ Tryz.ftLB) Tryz.ptB Tryz.tm 2000 60) Tryz.eB2.K Tryz.eB2.args Tryz.eB2.heap Tryz.eB2.nx = some Tryz.eB2.out := by kernel_rfl
theorem Tryz.kB2 : EntOk Tryz.prog Tryz.eB2 := entOk_of_runN Tryz.tmOk Tryz.tmMixed Tryz.ftOkB (l := []) .nil Tryz.rB2

def Tryz.eB3 : Ent := ⟨111, [.ptr 709 0, .int .i64 5, .int .i64 0],
 [(704, .arr 9 1 true [.str [1, 5, 2, 0, 1, 0, 0, 0]]),
  (703, .arr 3 1 true [.int .i64 0, .int .i64 1]),
  (702, .arr 3 1 true [.int .i64 0, .int .i64 1]),
  (708, .arr 61 15 false [.agg [.int .i64 0, .int .i64 0, .ref 702 1 0 2 none, .ref 703 1 0 2 none, .ref 704 1 0 1 none, .imm 0 [] 0, .int .u8 0, .int .i64 0, .imm 0 [] 0, .str [], .str [], .imm 0 [] 0, .imm 0 [] 0, .imm 0 [] 0, .int .i64 0]]),
  (696, .arr 3 1 true [.int .i64 1, .int .i64 2]),
  (695, .arr 3 1 true [.int .i64 1, .int .i64 2]),
  (691, .arr 3 1 true [.int .i64 0, .int .i64 1]),
  (690, .arr 3 1 true [.int .i64 0, .int .i64 1]),
  (698, .arr 56 2 false [.agg [.ref 690 1 0 2 none, .ref 691 1 0 2 none], .agg [.ref 695 1 0 2 none, .ref 696 1 0 2 none]]),
  (709, .box [.int .i64 0, .ref 698 2 0 2 none, .ref 708 15 0 1 none, .imm 0 [] 0, .imm 0 [] 0, .imm 0 [] 0])], 777,
 { d := .int .i64 1, vc := true, eff := [], nw := (777, 845), met := [704, 703, 702, 708, 696, 695, 691, 690, 698, 709] }⟩
theorem Tryz.rB3 : runFQ (getLQ Tryz.ftLB) Tryz.ptB Tryz.tm 2000 (callN (callKQ [] noCall) (getLQ Tryz.ftLB) Tryz.ptB Tryz.tm 2000 60) Tryz.eB3.K Tryz.eB3.args Tryz.eB3.heap Tryz.eB3.nx = some Tryz.eB3.out := by kernel_rfl
theorem Tryz.kB3 : EntOk Tryz.prog Tryz.eB3 := entOk_of_runN Tryz.tmOk Tryz.tmMixed Tryz.ftOkB (l := []) .nil Tryz.rB3

def Tryz.eB4 : Ent := ⟨231, [.agg [.ref 997 1 0 2 none, .ref 998 1 0 2 none], .ref 999 1 0 1 none],
 [(999, .arr 9 1 true [.str [1, 5, 2, 0, 1, 0, 0, 0]]),
  (998, .arr 3 1 true [.int .i64 0, .int .i64 1]),
  (997, .arr 3 1 true [.int .i64 0, .int .i64 1])], 1003,
 { d := .tuple [.ref 1031 1 0 2 none, .int .i64 0], vc := true, eff := [(1031, some (.arr 3 1 true [.int .i64 0, .int .i64 1]))], nw := (1003, 1032), met := [999, 998, 997] }⟩
theorem Tryz.rB4 : runFI (getL Tryz.frLB) (getL Tryz.fyLB) Tryz.ptB Tryz.tm 2000 (callN (callKQ [] noCall) (getLQ Tryz.ftLB) Tryz.ptB Tryz.tm 2000 60) Tryz.eB4.K Tryz.eB4.args Tryz.eB4.heap Tryz.eB4.nx = some Tryz.eB4.out := by kernel_rfl
theorem Tryz.kB4 : EntOk Tryz.prog Tryz.eB4 := entOk_of_runNI Tryz.tmOk Tryz.tmMixed Tryz.ftOkB Tryz.frOkB Tryz.fyOkB (l := []) .nil Tryz.rB4

def Tryz.eB5 : Ent := ⟨49, [.ptr 709 0, .int .i64 0, .agg [.int .i64 5, .ref 772 1 0 2 none, .int .i64 0, .str [], .str []]],
 [(772, .arr 3 1 true [.int .i64 0, .int .i64 1]),
  (704, .arr 9 1 true [.str [1, 5, 2, 0, 1, 0, 0, 0]]),
  (703, .arr 3 1 true [.int .i64 0, .int .i64 1]),
  (702, .arr 3 1 true [.int .i64 0, .int .i64 1]),
  (708, .arr 61 15 false [.agg [.int .i64 0, .int .i64 0, .ref 702 1 0 2 none, .ref 703 1 0 2 none, .ref 704 1 0 1 none, .imm 0 [] 0, .int .u8 0, .int .i64 0, .imm 0 [] 0, .str [], .str [], .imm 0 [] 0, .imm 0 [] 0, .imm 0 [] 0, .int .i64 0]]),
  (696, .arr 3 1 true [.int .i64 1, .int .i64 2]),
  (695, .arr 3 1 true [.int .i64 1, .int .i64 2]),
  (691, .arr 3 1 true [.int .i64 0, .int .i64 1]),
  (690, .arr 3 1 true [.int .i64 0, .int .i64 1]),
  (698, .arr 56 2 false [.agg [.ref 690 1 0 2 none, .ref 691 1 0 2 none], .agg [.ref 695 1 0 2 none, .ref 696 1 0 2 none]]),
  (709, .box [.int .i64 0, .ref 698 2 0 2 none, .ref 708 15 0 1 none, .imm 0 [] 0, .imm 0 [] 0, .imm 0 [] 0])], 776,
 { d := .tuple [], vc := true, eff := [(709, some (.box [.int .i64 0, .ref 698 2 0 2 none, .ref 708 15 0 1 none, .imm 0 [] 0, .imm 0 [] 0, .ref 962 10 0 2 none])),
  (962, some (.arr 63 10 true [.agg [.int .i64 0, .int .i64 1, .int .u8 9, .int .i64 1, .int .i64 0, .int .i64 0, .int .i64 0, .str [1, 5, 2, 0, 1, 0, 0, 0], .int .i64 0, .int .i64 0], .agg [.int .i64 0, .int .i64 2, .int .u8 9, .int .i64 1, .int .i64 0, .int .i64 0, .int .i64 0, .str [1, 5, 2, 0, 1, 0, 0, 0], .int .i64 0, .int .i64 0]]))], nw := (776, 963), met := [772, 704, 703, 702, 708, 696, 695, 691, 690, 698, 709] }⟩
theorem Tryz.rB5 : runFQ (getLQ Tryz.ftLB) Tryz.ptB Tryz.tm 2000 (callN (callKQ [Tryz.eB3] noCall) (getLQ Tryz.ftLB) Tryz.ptB Tryz.tm 2000 60) Tryz.eB5.K Tryz.eB5.args Tryz.eB5.heap Tryz.eB5.nx = some Tryz.eB5.out := by kernel_rfl
theorem Tryz.kB5 : EntOk Tryz.prog Tryz.eB5 := entOk_of_runN Tryz.tmOk Tryz.tmMixed Tryz.ftOkB (l := [Tryz.eB3]) (.cons Tryz.kB3 .nil) Tryz.rB5

def Tryz.eB6 : Ent := ⟨41, [.agg [.int .i64 0, .ref 453 2 0 2 none, .ref 466 15 0 1 none, .imm 0 [] 0]],
 [(470, .arr 9 1 true [.str [1, 5, 2, 0, 1, 0, 0, 0]]),
  (461, .arr 3 1 true [.int .i64 0, .int .i64 1]),
  (460, .arr 3 1 true [.int .i64 0, .int .i64 1]),
  (466, .arr 61 15 false [.agg [.int .i64 0, .int .i64 0, .ref 460 1 0 2 none, .ref 461 1 0 2 none, .ref 470 1 0 1 none, .imm 0 [] 0, .int .u8 0, .int .i64 0, .imm 0 [] 0, .str [], .str [], .imm 0 [] 0, .imm 0 [] 0, .imm 0 [] 0, .int .i64 0]]),
  (451, .arr 3 1 true [.int .i64 1, .int .i64 2]),
  (450, .arr 3 1 true [.int .i64 1, .int .i64 2]),
  (446, .arr 3 1 true [.int .i64 0, .int .i64 1]),
  (445, .arr 3 1 true [.int .i64 0, .int .i64 1]),
  (453, .arr 56 2 false [.agg [.ref 445 1 0 2 none, .ref 446 1 0 2 none], .agg [.ref 450 1 0 2 none, .ref 451 1 0 2 none]])], 580,
 { d := .int .i64 0, vc := true, eff := [], nw := (580, 686), met := [470, 461, 460, 466, 451, 450, 446, 445, 453] }⟩
theorem Tryz.rB6 : runFQ (getLQ Tryz.ftLB) Tryz.ptB Tryz.tm 2000 (callN (callKQ [Tryz.eB2] noCall) (getLQ Tryz.ftLB) Tryz.ptB Tryz.tm 2000 60) Tryz.eB6.K Tryz.eB6.args Tryz.eB6.heap Tryz.eB6.nx = some Tryz.eB6.out := by kernel_rfl
theorem Tryz.kB6 : EntOk Tryz.prog Tryz.eB6 := entOk_of_runN Tryz.tmOk Tryz.tmMixed Tryz.ftOkB (l := [Tryz.eB2]) (.cons Tryz.kB2 .nil) Tryz.rB6

def Tryz.eB7 : Ent := ⟨52, [.ptr 709 0],
 [(1036, .arr 63 10 true [.agg [.int .i64 0, .int .i64 1, .int .u8 9, .int .i64 1, .int .i64 0, .int .i64 0, .int .i64 0, .str [1, 5, 2, 0, 1, 0, 0, 0], .int .i64 0, .int .i64 0], .agg [.int .i64 0, .int .i64 2, .int .u8 9, .int .i64 1, .int .i64 0, .int .i64 0, .int .i64 0, .str [1, 5, 2, 0, 1, 0, 0, 0], .int .i64 0, .int .i64 0], .agg [.int .i64 0, .int .i64 1, .int .u8 7, .int .i64 0, .int .i64 2, .int .i64 0, .int .i64 0, .str [], .int .i64 0, .int .i64 0]]),
  (999, .arr 9 1 true [.str [1, 5, 2, 0, 1, 0, 0, 0]]),
  (998, .arr 3 1 true [.int .i64 0, .int .i64 1]),
  (997, .arr 3 1 true [.int .i64 0, .int .i64 1]),
  (708, .arr 61 15 false [.agg [.int .i64 0, .int .i64 0, .ref 997 1 0 2 none, .ref 998 1 0 2 none, .ref 999 1 0 1 none, .imm 0 [] 0, .int .u8 0, .int .i64 0, .imm 0 [] 0, .str [], .str [], .imm 0 [] 0, .imm 0 [] 0, .imm 0 [] 0, .int .i64 0]]),
  (696, .arr 3 1 true [.int .i64 1, .int .i64 2]),
  (695, .arr 3 1 true [.int .i64 1, .int .i64 2]),
  (691, .arr 3 1 true [.int .i64 0, .int .i64 1]),
  (690, .arr 3 1 true [.int .i64 0, .int .i64 1]),
  (698, .arr 56 2 false [.agg [.ref 690 1 0 2 none, .ref 691 1 0 2 none], .agg [.ref 695 1 0 2 none, .ref 696 1 0 2 none]]),
  (709, .box [.int .i64 0, .ref 698 2 0 2 none, .ref 708 15 0 1 none, .imm 0 [] 0, .imm 5 [] 0, .ref 1036 10 0 3 none])], 1037,
 { d := .tuple [], vc := true, eff := [(709, some (.box [.int .i64 0, .ref 698 2 0 2 none, .ref 708 15 0 1 none, .imm 0 [] 0, .imm 5 [] 0, .ref 1036 10 0 3 none]))], nw := (1037, 1105), met := [1036, 999, 998, 997, 708, 696, 695, 691, 690, 698, 709] }⟩
theorem Tryz.rB7 : runFQ (getLQ Tryz.ftLB) Tryz.ptB Tryz.tm 2000 (callN (callKQ [] noCall) (getLQ Tryz.ftLB) Tryz.ptB Tryz.tm 2000 60) Tryz.eB7.K Tryz.eB7.args Tryz.eB7.heap Tryz.eB7.nx = some Tryz.eB7.out := by kernel_rfl
theorem Tryz.kB7 : EntOk Tryz.prog Tryz.eB7 := entOk_of_runN Tryz.tmOk Tryz.tmMixed Tryz.ftOkB (l := []) .nil Tryz.rB7

def Tryz.eB8 : Ent := ⟨48, [.agg [.int .i64 0, .int .i64 0, .ref 460 1 0 2 none, .ref 461 1 0 2 none, .ref 470 1 0 1 none, .imm 0 [] 0, .int .u8 0, .int .i64 0, .imm 0 [] 0, .str [], .str [], .imm 0 [] 0, .imm 0 [] 0, .imm 0 [] 0, .int .i64 0]],
 [(470, .arr 9 1 true [.str [1, 5, 2, 0, 1, 0, 0, 0]]),
  (461, .arr 3 1 true [.int .i64 0, .int .i64 1]),
  (460, .arr 3 1 true [.int .i64 0, .int .i64 1])], 711,
 { d := .ref 771 7 0 1 none, vc := true, eff := [(772, some (.arr 3 1 true [.int .i64 0, .int .i64 1])),
  (771, some (.arr 123 7 false [.agg [.int .i64 5, .ref 772 1 0 2 none, .int .i64 0, .str [], .str [], .int .i64 1, .bool false]]))], nw := (711, 775), met := [470, 461, 460] }⟩
theorem Tryz.rB8 : runFQ (getLQ Tryz.ftLB) Tryz.ptB Tryz.tm 2000 (callN (callKQ [] noCall) (getLQ Tryz.ftLB) Tryz.ptB Tryz.tm 2000 60) Tryz.eB8.K Tryz.eB8.args Tryz.eB8.heap Tryz.eB8.nx = some Tryz.eB8.out := by kernel_rfl
theorem Tryz.kB8 : EntOk Tryz.prog Tryz.eB8 := entOk_of_runN Tryz.tmOk Tryz.tmMixed Tryz.ftOkB (l := []) .nil Tryz.rB8

def Tryz.eB9 : Ent := ⟨14, [.int .i64 0, .ref 431 2 0 2 (some 2), .agg [.ref 433 1 0 2 (some 2), .imm 0 [] 0]],
 [(432, .arr 9 1 true [.str [1, 5, 2, 0, 1, 0, 0, 0]]),
  (433, .arr 40 1 false [.ref 432 1 0 1 (some 1), .imm 0 [] 0]),
  (430, .arr 3 1 true [.int .i64 1, .int .i64 2]),
  (429, .arr 3 1 true [.int .i64 1, .int .i64 2]),
  (428, .arr 3 1 true [.int .i64 0, .int .i64 1]),
  (427, .arr 3 1 true [.int .i64 0, .int .i64 1]),
  (431, .arr 56 2 false [.agg [.ref 427 1 0 2 (some 2), .ref 428 1 0 2 (some 2)], .agg [.ref 429 1 0 2 (some 2), .ref 430 1 0 2 (some 2)]])], 434,
 { d := .tuple [.agg [.int .i64 0, .ref 453 2 0 2 none, .ref 466 15 0 1 none, .imm 0 [] 0], .int .i64 0], vc := true, eff := [(470, some (.arr 9 1 true [.str [1, 5, 2, 0, 1, 0, 0, 0]])),
  (461, some (.arr 3 1 true [.int .i64 0, .int .i64 1])),
  (460, some (.arr 3 1 true [.int .i64 0, .int .i64 1])),
  (466, some (.arr 61 15 false [.agg [.int .i64 0, .int .i64 0, .ref 460 1 0 2 none, .ref 461 1 0 2 none, .ref 470 1 0 1 none, .imm 0 [] 0, .int .u8 0, .int .i64 0, .imm 0 [] 0, .str [], .str [], .imm 0 [] 0, .imm 0 [] 0, .imm 0 [] 0, .int .i64 0]])),
  (451, some (.arr 3 1 true [.int .i64 1, .int .i64 2])),
  (450, some (.arr 3 1 true [.int .i64 1, .int .i64 2])),
  (446, some (.arr 3 1 true [.int .i64 0, .int .i64 1])),
  (445, some (.arr 3 1 true [.int .i64 0, .int .i64 1])),
  (453, some (.arr 56 2 false [.agg [.ref 445 1 0 2 none, .ref 446 1 0 2 none], .agg [.ref 450 1 0 2 none, .ref 451 1 0 2 none]]))], nw := (434, 577), met := [432, 433, 430, 429, 428, 427, 431] }⟩
theorem Tryz.rB9 : runFQ (getLQ Tryz.ftLB) Tryz.ptB Tryz.tm 2000 (callN (callKQ [Tryz.eB1] noCall) (getLQ Tryz.ftLB) Tryz.ptB Tryz.tm 2000 60) Tryz.eB9.K Tryz.eB9.args Tryz.eB9.heap Tryz.eB9.nx = some Tryz.eB9.out := by kernel_rfl
theorem Tryz.kB9 : EntOk Tryz.prog Tryz.eB9 := entOk_of_runN Tryz.tmOk Tryz.tmMixed Tryz.ftOkB (l := [Tryz.eB1]) (.cons Tryz.kB1 .nil) Tryz.rB9

def Tryz.eB10 : Ent := ⟨15, [.agg [.int .i64 0, .ref 453 2 0 2 none, .ref 466 15 0 1 none, .imm 0 [] 0]],
 [(470, .arr 9 1 true [.str [1, 5, 2, 0, 1, 0, 0, 0]]),
  (461, .arr 3 1 true [.int .i64 0, .int .i64 1]),
  (460, .arr 3 1 true [.int .i64 0, .int .i64 1]),
  (466, .arr 61 15 false [.agg [.int .i64 0, .int .i64 0, .ref 460 1 0 2 none, .ref 461 1 0 2 none, .ref 470 1 0 1 none, .imm 0 [] 0, .int .u8 0, .int .i64 0, .imm 0 [] 0, .str [], .str [], .imm 0 [] 0, .imm 0 [] 0, .imm 0 [] 0, .int .i64 0]]),
  (451, .arr 3 1 true [.int .i64 1, .int .i64 2]),
  (450, .arr 3 1 true [.int .i64 1, .int .i64 2]),
  (446, .arr 3 1 true [.int .i64 0, .int .i64 1]),
  (445, .arr 3 1 true [.int .i64 0, .int .i64 1]),
  (453, .arr 56 2 false [.agg [.ref 445 1 0 2 none, .ref 446 1 0 2 none], .agg [.ref 450 1 0 2 none, .ref 451 1 0 2 none]])], 578,
 { d := .tuple [.agg [.int .i64 0, .ref 698 2 0 2 none, .ref 708 15 0 1 none, .imm 0 [] 0], .imm 5 [] 0, .ref 1036 10 0 3 none, .int .i64 0], vc := true, eff := [(1036, some (.arr 63 10 true [.agg [.int .i64 0, .int .i64 1, .int .u8 9, .int .i64 1, .int .i64 0, .int .i64 0, .int .i64 0, .str [1, 5, 2, 0, 1, 0, 0, 0], .int .i64 0, .int .i64 0], .agg [.int .i64 0, .int .i64 2, .int .u8 9, .int .i64 1, .int .i64 0, .int .i64 0, .int .i64 0, .str [1, 5, 2, 0, 1, 0, 0, 0], .int .i64 0, .int .i64 0], .agg [.int .i64 0, .int .i64 1, .int .u8 7, .int .i64 0, .int .i64 2, .int .i64 0, .int .i64 0, .str [], .int .i64 0, .int .i64 0]])),
  (999, some (.arr 9 1 true [.str [1, 5, 2, 0, 1, 0, 0, 0]])),
  (998, some (.arr 3 1 true [.int .i64 0, .int .i64 1])),
  (997, some (.arr 3 1 true [.int .i64 0, .int .i64 1])),
  (708, some (.arr 61 15 false [.agg [.int .i64 0, .int .i64 0, .ref 997 1 0 2 none, .ref 998 1 0 2 none, .ref 999 1 0 1 none, .imm 0 [] 0, .int .u8 0, .int .i64 0, .imm 0 [] 0, .str [], .str [], .imm 0 [] 0, .imm 0 [] 0, .imm 0 [] 0, .int .i64 0]])),
  (696, some (.arr 3 1 true [.int .i64 1, .int .i64 2])),
  (695, some (.arr 3 1 true [.int .i64 1, .int .i64 2])),
  (691, some (.arr 3 1 true [.int .i64 0, .int .i64 1])),
  (690, some (.arr 3 1 true [.int .i64 0, .int .i64 1])),
  (698, some (.arr 56 2 false [.agg [.ref 690 1 0 2 none, .ref 691 1 0 2 none], .agg [.ref 695 1 0 2 none, .ref 696 1 0 2 none]]))], nw := (578, 1105), met := [470, 461, 460, 466, 451, 450, 446, 445, 453] }⟩
theorem Tryz.rB10 : runFQ (getLQ Tryz.ftLB) Tryz.ptB Tryz.tm 2000 (callN (callKQ [Tryz.eB5, Tryz.eB6, Tryz.eB7, Tryz.eB8, Tryz.eB4] noCall) (getLQ Tryz.ftLB) Tryz.ptB Tryz.tm 2000 60) Tryz.eB10.K Tryz.eB10.args Tryz.eB10.heap Tryz.eB10.nx = some Tryz.eB10.out := by kernel_rfl
theorem Tryz.kB10 : EntOk Tryz.prog Tryz.eB10 := entOk_of_runN Tryz.tmOk Tryz.tmMixed Tryz.ftOkB (l := [Tryz.eB5, Tryz.eB6, Tryz.eB7, Tryz.eB8, Tryz.eB4]) (.cons Tryz.kB5 (.cons Tryz.kB6 (.cons Tryz.kB7 (.cons Tryz.kB8 (.cons Tryz.kB4 .nil))))) Tryz.rB10

def Tryz.eB11 : Ent := ⟨6, [],
 [], 0,
 { d := .bool true, vc := true, eff := [], nw := (0, 191), met := [] }⟩
theorem Tryz.rB11 : runFQ (getLQ Tryz.ftLB) Tryz.ptB Tryz.tm 2000 (callN (callKQ [Tryz.eB0] noCall) (getLQ Tryz.ftLB) Tryz.ptB Tryz.tm 2000 60) Tryz.eB11.K Tryz.eB11.args Tryz.eB11.heap Tryz.eB11.nx = some Tryz.eB11.out := by kernel_rfl
theorem Tryz.kB11 : EntOk Tryz.prog Tryz.eB11 := entOk_of_runN Tryz.tmOk Tryz.tmMixed Tryz.ftOkB (l := [Tryz.eB0]) (.cons Tryz.kB0 .nil) Tryz.rB11

def Tryz.eB12 : Ent := ⟨9, [.agg [.int .i64 0, .ref 262 2 0 2 none, .ref 275 15 0 1 none, .imm 0 [] 0], .int .i64 0, .agg [.int .u8 2, .int .i64 0, .imm 0 [] 0, .int .i64 0, .str [], .str [], .int .i64 5, .int .i64 1, .imm 0 [] 0, .int .i64 0, .int .i64 0, .int .i64 0]],
 [(270, .arr 3 1 true [.int .i64 0, .int .i64 1]),
  (269, .arr 3 1 true [.int .i64 0, .int .i64 1]),
  (275, .arr 61 15 false [.agg [.int .i64 0, .int .i64 0, .ref 269 1 0 2 none, .ref 270 1 0 2 none, .imm 0 [] 0, .imm 0 [] 0, .int .u8 0, .int .i64 0, .imm 0 [] 0, .str [], .str [], .imm 0 [] 0, .imm 0 [] 0, .imm 0 [] 0, .int .i64 0]]),
  (260, .arr 3 1 true [.int .i64 1, .int .i64 2]),
  (259, .arr 3 1 true [.int .i64 1, .int .i64 2]),
  (255, .arr 3 1 true [.int .i64 0, .int .i64 1]),
  (254, .arr 3 1 true [.int .i64 0, .int .i64 1]),
  (262, .arr 56 2 false [.agg [.ref 254 1 0 2 none, .ref 255 1 0 2 none], .agg [.ref 259 1 0 2 none, .ref 260 1 0 2 none]])], 277,
 { d := .tuple [.agg [.int .i64 0, .imm 0 [] 0, .imm 0 [] 0, .imm 0 [] 0], .imm 0 [] 0, .int .i64 2], vc := true, eff := [], nw := (277, 317), met := [270, 269, 275, 260, 259, 255, 254, 262] }⟩
theorem Tryz.rB12 : runFQ (getLQ Tryz.ftLB) Tryz.ptB Tryz.tm 2000 (callN (callKQ [] noCall) (getLQ Tryz.ftLB) Tryz.ptB Tryz.tm 2000 60) Tryz.eB12.K Tryz.eB12.args Tryz.eB12.heap Tryz.eB12.nx = some Tryz.eB12.out := by kernel_rfl
theorem Tryz.kB12 : EntOk Tryz.prog Tryz.eB12 := entOk_of_runN Tryz.tmOk Tryz.tmMixed Tryz.ftOkB (l := []) .nil Tryz.rB12

def Tryz.eB13 : Ent := ⟨10, [.agg [.int .i64 0, .ref 262 2 0 2 none, .ref 275 15 0 1 none, .imm 0 [] 0], .int .i64 1],
 [(270, .arr 3 1 true [.int .i64 0, .int .i64 1]),
  (269, .arr 3 1 true [.int .i64 0, .int .i64 1]),
  (275, .arr 61 15 false [.agg [.int .i64 0, .int .i64 0, .ref 269 1 0 2 none, .ref 270 1 0 2 none, .imm 0 [] 0, .imm 0 [] 0, .int .u8 0, .int .i64 0, .imm 0 [] 0, .str [], .str [], .imm 0 [] 0, .imm 0 [] 0, .imm 0 [] 0, .int .i64 0]]),
  (260, .arr 3 1 true [.int .i64 1, .int .i64 2]),
  (259, .arr 3 1 true [.int .i64 1, .int .i64 2]),
  (255, .arr 3 1 true [.int .i64 0, .int .i64 1]),
  (254, .arr 3 1 true [.int .i64 0, .int .i64 1]),
  (262, .arr 56 2 false [.agg [.ref 254 1 0 2 none, .ref 255 1 0 2 none], .agg [.ref 259 1 0 2 none, .ref 260 1 0 2 none]])], 318,
 { d := .tuple [.imm 0 [] 0, .int .i64 6], vc := true, eff := [], nw := (318, 350), met := [270, 269, 275, 260, 259, 255, 254, 262] }⟩
theorem Tryz.rB13 : runFQ (getLQ Tryz.ftLB) Tryz.ptB Tryz.tm 2000 (callN (callKQ [] noCall) (getLQ Tryz.ftLB) Tryz.ptB Tryz.tm 2000 60) Tryz.eB13.K Tryz.eB13.args Tryz.eB13.heap Tryz.eB13.nx = some Tryz.eB13.out := by kernel_rfl
theorem Tryz.kB13 : EntOk Tryz.prog Tryz.eB13 := entOk_of_runN Tryz.tmOk Tryz.tmMixed Tryz.ftOkB (l := []) .nil Tryz.rB13

def Tryz.eB14 : Ent := ⟨7, [.int .i64 1, .ref 195 2 0 2 (some 2)],
 [(194, .arr 3 1 true [.int .i64 1, .int .i64 2]),
  (193, .arr 3 1 true [.int .i64 1, .int .i64 2]),
  (192, .arr 3 1 true [.int .i64 0, .int .i64 1]),
  (191, .arr 3 1 true [.int .i64 0, .int .i64 1]),
  (195, .arr 56 2 false [.agg [.ref 191 1 0 2 (some 2), .ref 192 1 0 2 (some 2)], .agg [.ref 193 1 0 2 (some 2), .ref 194 1 0 2 (some 2)]])], 196,
 { d := .tuple [.agg [.int .i64 1, .ref 213 2 0 2 none, .ref 238 15 0 2 none, .imm 0 [] 0], .int .i64 0], vc := true, eff := [(233, some (.arr 3 1 true [.int .i64 1, .int .i64 2])),
  (232, some (.arr 3 1 true [.int .i64 1, .int .i64 2])),
  (221, some (.arr 3 1 true [.int .i64 0, .int .i64 1])),
  (220, some (.arr 3 1 true [.int .i64 0, .int .i64 1])),
  (238, some (.arr 61 15 false [.agg [.int .i64 1, .int .i64 0, .ref 220 1 0 2 none, .ref 221 1 0 2 none, .imm 0 [] 0, .imm 0 [] 0, .int .u8 0, .int .i64 0, .imm 0 [] 0, .str [], .str [], .imm 0 [] 0, .imm 0 [] 0, .imm 0 [] 0, .int .i64 0], .agg [.int .i64 1, .int .i64 1, .ref 232 1 0 2 none, .ref 233 1 0 2 none, .imm 0 [] 0, .imm 0 [] 0, .int .u8 0, .int .i64 0, .imm 0 [] 0, .str [], .str [], .imm 0 [] 0, .imm 0 [] 0, .imm 0 [] 0, .int .i64 0]])),
  (211, some (.arr 3 1 true [.int .i64 1, .int .i64 2])),
  (210, some (.arr 3 1 true [.int .i64 1, .int .i64 2])),
  (206, some (.arr 3 1 true [.int .i64 0, .int .i64 1])),
  (205, some (.arr 3 1 true [.int .i64 0, .int .i64 1])),
  (213, some (.arr 56 2 false [.agg [.ref 205 1 0 2 none, .ref 206 1 0 2 none], .agg [.ref 210 1 0 2 none, .ref 211 1 0 2 none]]))], nw := (196, 239), met := [194, 193, 192, 191, 195] }⟩
theorem Tryz.rB14 : runFQ (getLQ Tryz.ftLB) Tryz.ptB Tryz.tm 2000 (callN (callKQ [] noCall) (getLQ Tryz.ftLB) Tryz.ptB Tryz.tm 2000 60) Tryz.eB14.K Tryz.eB14.args Tryz.eB14.heap Tryz.eB14.nx = some Tryz.eB14.out := by kernel_rfl
theorem Tryz.kB14 : EntOk Tryz.prog Tryz.eB14 := entOk_of_runN Tryz.tmOk Tryz.tmMixed Tryz.ftOkB (l := []) .nil Tryz.rB14

theorem Tryz.rBtop : saysTrue (runFQ (getLQ Tryz.ftLB) Tryz.ptB Tryz.tm 2000 (callN (callKQ [Tryz.eB9, Tryz.eB10, Tryz.eB11, Tryz.eB12, Tryz.eB13, Tryz.eB14] noCall) (getLQ Tryz.ftLB) Tryz.ptB Tryz.tm 2000 60) 3 [] [] 0) = true := by kernel_rfl
theorem Tryz.namesB : CallP Tryz.prog 3 [] (.bool true) := callP_knownN Tryz.tmOk Tryz.tmMixed Tryz.ftOkB (l := [Tryz.eB9, Tryz.eB10, Tryz.eB11, Tryz.eB12, Tryz.eB13, Tryz.eB14]) (.cons Tryz.kB9 (.cons Tryz.kB10 (.cons Tryz.kB11 (.cons Tryz.kB12 (.cons Tryz.kB13 (.cons Tryz.kB14 .nil)))))) Tryz.rBtop

end Go.Proofs
end
section
/- Rules by which functions' codes are walked through by scripts: regions, calls, loops. -/


namespace Go.Tm
open Go.RowKit Go.WideShapes

/-- what a run comes to, said so that simp may reckon it -/
def Comes (r : Option (St × Bool × List FP × List Oper)) (st' : St) (vc : Bool) (acc : List FP) (l : List Oper) : Prop :=
  ∀ q : St → Bool → List FP → List Oper → Prop, q st' vc acc l → match r with | some (s, v, f, l) => q s v f l | none => False

theorem Comes.eq {r : Option (St × Bool × List FP × List Oper)} {st' : St} {vc : Bool} {acc : List FP} {l : List Oper} (h : Comes r st' vc acc l) : r = some (st', vc, acc, l) := by
  have := h (fun s v f k => (s, v, f, k) = (st', vc, acc, l)) rfl
  cases r with
  | none => exact this.elim
  | some x => exact congrArg some this

section
variable {P : Program} {tab : Nat → TI} {lim n : Nat}

theorem Ok.plain {id : Nat} {ops : Array Oper} {st st' : St} {vc : Bool} {acc : List FP} {Q : Exit → St → Prop} (hT : TabOk P tab) (hm : P.follows .mixedOrders = true) (V : List Nat) (hok : regOk n ops false = true)
    (h : Comes (runE tab true false ops.toList ops.toList ⟨keep V st.vars, st.heap, st.nx⟩ true []) st' vc acc []) (hv : vc = true) (hlim : st'.nx ≤ lim) (hQ : Q .normal st') : Ok P lim n (.region id ops false) st Q :=
  Ok.region (own := true) hT hm V hok (WRun.E h.eq (.inr fun _ _ _ h => ⟨nofun, h.2⟩) hv hlim (.nil ⟨nofun, hQ⟩)).2

theorem Ok.drawn {id : Nat} {ops : Array Oper} {st st' : St} {vc : Bool} {acc : List FP} {Q : Exit → St → Prop} (hT : TabOk P tab) (hm : P.follows .mixedOrders = true) (V : List Nat) (hok : regOk n ops true = true)
    (h : Comes (runE tab true true ops.toList ops.toList ⟨keep V st.vars, st.heap, st.nx⟩ true []) st' vc acc []) (hs : schedB ops (fun i => (acc[i]?).getD fpDflt) = true) (hv : vc = true) (hlim : st'.nx ≤ lim) (hQ : Q .normal st') : Ok P lim n (.region id ops true) st Q :=
  Ok.region (own := true) hT hm V hok (WRun.E h.eq (.inl rfl) hv hlim (.nil ⟨fun _ => hs, hQ⟩)).2

/-- The rule: operations up to the next call. -/
theorem WRun.R {ops : Array Oper} {dr : Bool} {l l' : List Oper} {st st' : St} {acc acc' : List FP} {Q : St → List FP → Prop} {vc : Bool}
    (hdr : dr = true ∨ ∀ st a b, Q st a → Q st b) (h : Comes (runE tab true dr ops.toList l st true acc) st' vc acc' l') (hv : vc = true) (hlim : st'.nx ≤ lim) (hQ : WRun P tab true lim ops l' st' acc' Q) : WRun P tab true lim ops l st acc Q :=
  (WRun.E h.eq hdr hv hlim hQ).2

theorem pureNw {st : St} : ∀ id, ((0 : Nat), (0 : Nat)).1 ≤ id → id < ((0 : Nat), (0 : Nat)).2 → st.nx ≤ id := fun _ _ h => absurd h (Nat.not_lt_zero _)

/-- The rule: a call of a function that turns nothing. -/
theorem WRun.call {ops : Array Oper} {o : Oper} {l : List Oper} {st : St} {acc : List FP} {Q : St → List FP → Prop} {c : Call} {f : Operand} {K : FuncId} {caps ds args : List D} {r : D}
    (ho : o.op = .call c) (hc : c.callee = .value f) (hg : o.guard = none) (hf : opd true (getR st.vars) f = (.fn (.func K) caps, true)) (hds : opds true (getR st.vars) c.args.toList = (ds, true)) (hl : lends (getL st.heap) (ds ++ caps) = (args, true))
    (hK : CallP P K args r) (hQ : WRun P tab true lim ops l (st.app o.dst { d := r, vc := true }) (acc ++ [fpOf o (st.fs lim) { d := r, vc := true }]) Q) : WRun P tab true lim ops (o :: l) st acc Q := by
  obtain ⟨os, st', hch, hq⟩ := hQ
  refine ⟨_, st', .cons (out := { d := r, vc := true }) ?_ pureNw hch, by simpa using hq⟩
  unfold Fires
  simp only [hg]
  unfold Core
  simp only [ho, hc]
  have hl' : lends (st.fs lim).hp (ds ++ caps) = (args, true) := hl
  exact ⟨K, caps, true, ds, true, r, hf, rfl, hds, rfl, .inl ⟨by rw [hl'], by rw [hl']; exact hK, rfl⟩⟩

/-- The rule: a call over own memory. -/
theorem WRun.hcall {ops : Array Oper} {o : Oper} {l : List Oper} {st : St} {acc : List FP} {Q : St → List FP → Prop} {c : Call} {f : Operand} {K : FuncId} {caps ds : List D} {H : List (Nat × Blk)} {r : D} {eff : List (Nat × Option Blk)} {nw : Nat × Nat}
    (ho : o.op = .call c) (hc : c.callee = .value f) (hg : o.guard = none) (hf : opd true (getR st.vars) f = (.fn (.func K) caps, true)) (hds : opds true (getR st.vars) c.args.toList = (ds, true))
    (hK : CallH P K (ds ++ caps) H r eff nw) (hH : ∀ id b, getL H id = some b → getL st.heap id = some b) (hE : ∀ x ∈ eff, x.1 ∈ H.map (·.1) ∨ nw.1 ≤ x.1 ∧ x.1 < nw.2) (hn : nw.1 = nw.2 ∨ st.nx ≤ nw.1 ∧ nw.2 ≤ lim)
    (hQ : WRun P tab true lim ops l (st.app o.dst { d := r, vc := true, eff := eff, nw := nw, met := H.map (·.1) }) (acc ++ [fpOf o (st.fs lim) { d := r, vc := true, eff := eff, nw := nw, met := H.map (·.1) }]) Q) : WRun P tab true lim ops (o :: l) st acc Q := by
  obtain ⟨os, st', hch, hq⟩ := hQ
  have hnn : ∀ id, nw.1 ≤ id → id < nw.2 → st.nx ≤ id ∧ id < lim := by
    intro id h1 h2
    rcases hn with h | ⟨h3, h4⟩ <;> omega
  refine ⟨_, st', .cons (out := { d := r, vc := true, eff := eff, nw := nw, met := H.map (·.1) }) ?_ (fun id h1 h2 => (hnn id h1 h2).1) hch, by simpa using hq⟩
  unfold Fires
  simp only [hg]
  unfold Core
  simp only [ho, hc]
  refine ⟨K, caps, true, ds, true, r, hf, rfl, hds, rfl, .inr (.inl ⟨H, eff, nw, hK, hH, fun id h1 h2 => ?_, hE, rfl⟩)⟩
  have := hnn id h1 h2
  simp only [St.fs, Bool.and_eq_true, decide_eq_true_eq]
  exact this

end

/-- what a function hands back, said so that simp may reckon it -/
def ResIs (tab : Nat → TI) (st : St) (l : List ResultVar) (r : D) : Prop := match resL tab st l with | some (ds, p) => p = true ∧ resT ds = r | none => False

theorem ResIs.to {tab : Nat → TI} {st : St} {l : List ResultVar} {r : D} (h : ResIs tab st l r) : ∃ ds, resL tab st l = some (ds, true) ∧ resT ds = r := by
  unfold ResIs at h
  split at h
  · rename_i ds p he; obtain ⟨rfl, h2⟩ := h; exact ⟨ds, he, h2⟩
  · exact h.elim

theorem OkL.sub {P : Program} {lim n : Nat} {c : Code} {st st' : St} {Q : Exit → St → Prop} (hs : Sub st' st) (h : OkL P lim n c st' Q) : OkL P lim n c st Q := by
  intro E F a w g hF hR
  obtain ⟨F', hF', hR'⟩ := hR.sub hF hs
  exact h E F' a w g hF' hR'

end Go.Tm
end
section
/- A law's row, off its contract: what is handed in, read. -/






namespace Go.Tm
open Go.RowKit Go.WideShapes Go.ChangeShapes

section
variable {H : Type} {enc : TypeId × Value → H} {P : Program} {w : World} {sp : Nat → Bool}

end

section
variable {P : Program} {n : Nat} {t : TypeId} {l : List D}
end
end Go.Tm
end

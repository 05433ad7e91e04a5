/- Known calls of one closed run, each reckoned by itself; by program (genknow.py). -/
import Derived.Test.YtggdmadjpakkbaaGreatFairNamesPi
import Derived.Test.YtggdmadjpakkbaaGreatFairNamesPh
namespace Go.Proofs
open Go.Tm
set_option maxRecDepth 100000

def Tryz.eF0 : Ent := ⟨9, [.agg [.int .i64 0, .ref 51 2 0 1 none, .ref 64 15 0 1 none, .imm 0 [] 0], .int .i64 0, .agg [.int .u8 1, .int .i64 0, .ref 70 1 0 1 (some 1), .int .i64 0, .str [], .str [], .int .i64 0, .int .i64 0, .imm 0 [] 0, .int .i64 0, .int .i64 0, .int .i64 0]],
 [(70, .arr 3 1 true [.int .i64 0]),
  (59, .arr 3 1 true [.int .i64 0]),
  (58, .arr 3 1 true [.int .i64 0]),
  (64, .arr 61 15 false [.agg [.int .i64 0, .int .i64 0, .ref 58 1 0 1 none, .ref 59 1 0 1 none, .imm 0 [] 0, .imm 0 [] 0, .int .u8 0, .int .i64 0, .imm 0 [] 0, .str [], .str [], .imm 0 [] 0, .imm 0 [] 0, .imm 0 [] 0, .int .i64 0]]),
  (49, .arr 3 1 true [.int .i64 0]),
  (48, .arr 3 1 true [.int .i64 0]),
  (51, .arr 56 2 false [.agg [.ref 48 1 0 1 none, .ref 49 1 0 1 none]])], 249,
 { d := .tuple [.agg [.int .i64 0, .ref 294 2 0 1 none, .ref 303 15 0 1 none, .imm 0 [] 0], .imm 0 [] 0, .int .i64 0], vc := true, eff := [(379, some (.arr 9 1 true [.str [1, 0, 1, 0, 0, 0, 0]])),
  (356, some (.arr 3 1 true [.int .i64 0])),
  (355, some (.arr 3 1 true [.int .i64 0])),
  (303, some (.arr 61 15 false [.agg [.int .i64 0, .int .i64 0, .ref 355 1 0 1 none, .ref 356 1 0 1 none, .imm 0 [] 0, .imm 0 [] 0, .int .u8 0, .int .i64 0, .imm 0 [] 0, .str [], .str [], .imm 0 [] 0, .imm 0 [] 0, .ref 379 1 0 1 none, .int .i64 0]])),
  (292, some (.arr 3 1 true [.int .i64 0])),
  (291, some (.arr 3 1 true [.int .i64 0])),
  (294, some (.arr 56 2 false [.agg [.ref 291 1 0 1 none, .ref 292 1 0 1 none]]))], nw := (249, 381), met := [70, 59, 58, 64, 49, 48, 51] }⟩
theorem Tryz.rF0 : runFQ (getLQ Tryz.ftLF) Tryz.ptF Tryz.tm 2000 (callN (callKQ [] noCall) (getLQ Tryz.ftLF) Tryz.ptF Tryz.tm 2000 60) Tryz.eF0.K Tryz.eF0.args Tryz.eF0.heap Tryz.eF0.nx = some Tryz.eF0.out := by kernel_rfl
theorem Tryz.kF0 : EntOk Tryz.prog Tryz.eF0 := entOk_of_runN Tryz.tmOk Tryz.tmMixed Tryz.ftOkF (l := []) .nil Tryz.rF0

def Tryz.eF1 : Ent := ⟨56, [.agg [.ref 38 2 0 1 none, .ref 68 8 0 1 none, .imm 0 [] 0]],
 [(59, .arr 3 1 true [.int .i64 0]),
  (58, .arr 3 1 true [.int .i64 0]),
  (64, .arr 61 15 false [.agg [.int .i64 0, .int .i64 0, .ref 58 1 0 1 none, .ref 59 1 0 1 none, .imm 0 [] 0, .imm 0 [] 0, .int .u8 0, .int .i64 0, .imm 0 [] 0, .str [], .str [], .imm 0 [] 0, .imm 0 [] 0, .imm 0 [] 0, .int .i64 0]]),
  (49, .arr 3 1 true [.int .i64 0]),
  (48, .arr 3 1 true [.int .i64 0]),
  (51, .arr 56 2 false [.agg [.ref 48 1 0 1 none, .ref 49 1 0 1 none]]),
  (68, .arr 132 8 false [.agg [.bool true, .int .i64 0, .ref 51 2 0 1 none, .ref 64 15 0 1 none, .imm 0 [] 0, .imm 0 [] 0, .imm 0 [] 0, .imm 0 [] 0]]),
  (36, .arr 3 1 true [.int .i64 0]),
  (35, .arr 3 1 true [.int .i64 0]),
  (38, .arr 56 2 false [.agg [.ref 35 1 0 1 none, .ref 36 1 0 1 none]])], 74,
 { d := .int .i64 0, vc := true, eff := [], nw := (74, 172), met := [59, 58, 64, 49, 48, 51, 68, 36, 35, 38] }⟩
theorem Tryz.rF1 : runFQ (getLQ Tryz.ftLF) Tryz.ptF Tryz.tm 2000 (callN (callKQ [] noCall) (getLQ Tryz.ftLF) Tryz.ptF Tryz.tm 2000 60) Tryz.eF1.K Tryz.eF1.args Tryz.eF1.heap Tryz.eF1.nx = some Tryz.eF1.out := by kernel_rfl
theorem Tryz.kF1 : EntOk Tryz.prog Tryz.eF1 := entOk_of_runN Tryz.tmOk Tryz.tmMixed Tryz.ftOkF (l := []) .nil Tryz.rF1

def Tryz.eF2 : Ent := ⟨231, [.agg [.ref 902 1 0 1 none, .ref 903 1 0 1 none], .imm 0 [] 0],
 [(903, .arr 3 1 true [.int .i64 0]),
  (902, .arr 3 1 true [.int .i64 0])], 908,
 { d := .tuple [.ref 913 1 0 1 none, .int .i64 0], vc := true, eff := [(913, some (.arr 3 1 true [.int .i64 0]))], nw := (908, 914), met := [903, 902] }⟩
theorem Tryz.rF2 : runFI (getL Tryz.frLF) (getL Tryz.fyLF) Tryz.ptF Tryz.tm 2000 (callN (callKQ [] noCall) (getLQ Tryz.ftLF) Tryz.ptF Tryz.tm 2000 60) Tryz.eF2.K Tryz.eF2.args Tryz.eF2.heap Tryz.eF2.nx = some Tryz.eF2.out := by kernel_rfl
theorem Tryz.kF2 : EntOk Tryz.prog Tryz.eF2 := entOk_of_runNI Tryz.tmOk Tryz.tmMixed Tryz.ftOkF Tryz.frOkF Tryz.fyOkF (l := []) .nil Tryz.rF2

def Tryz.eF3 : Ent := ⟨112, [.ptr 907 0],
 [(904, .arr 9 1 true [.str [1, 0, 1, 0, 0, 0, 0]]),
  (903, .arr 3 1 true [.int .i64 0]),
  (902, .arr 3 1 true [.int .i64 0]),
  (907, .box [.int .i64 0, .int .i64 0, .ref 902 1 0 1 none, .ref 903 1 0 1 none, .imm 0 [] 0, .imm 0 [] 0, .int .u8 0, .int .i64 0, .imm 0 [] 0, .str [], .str [], .imm 0 [] 0, .imm 0 [] 0, .ref 904 1 0 1 none, .int .i64 0, .imm 0 [] 0, .imm 0 [] 0])], 908,
 { d := .tuple [], vc := true, eff := [(904, some (.arr 9 1 true [.str []])),
  (907, some (.box [.int .i64 0, .int .i64 0, .ref 902 1 0 1 none, .ref 903 1 0 1 none, .ref 996 1 0 1 none, .ref 927 5 0 0 none, .int .u8 0, .int .i64 0, .imm 0 [] 0, .str [], .str [], .imm 0 [] 0, .imm 0 [] 0, .ref 904 1 0 0 none, .int .i64 0, .ref 990 5 0 3 none, .imm 0 [] 0])),
  (990, some (.arr 287 5 true [.agg [.int .u8 1, .int .i64 0, .int .i64 1, .int .i64 8, .str []], .agg [.int .u8 2, .int .i64 0, .int .i64 1, .int .i64 8, .str [1, 0, 1, 0, 0, 0, 0]], .agg [.int .u8 3, .int .i64 0, .int .i64 1, .int .i64 0, .str [1, 0, 1, 0, 0, 0, 0]]])),
  (927, some (.arr 119 5 true [.agg [.int .i64 0, .int .i64 0, .int .i64 0, .int .i64 0, .str []]])),
  (996, some (.arr 9 1 true [.str [1, 0, 1, 0, 0, 0, 0]]))], nw := (908, 998), met := [904, 903, 902, 907] }⟩
theorem Tryz.rF3 : runFQ (getLQ Tryz.ftLF) Tryz.ptF Tryz.tm 2000 (callN (callKQ [Tryz.eF2] noCall) (getLQ Tryz.ftLF) Tryz.ptF Tryz.tm 2000 60) Tryz.eF3.K Tryz.eF3.args Tryz.eF3.heap Tryz.eF3.nx = some Tryz.eF3.out := by kernel_rfl
theorem Tryz.kF3 : EntOk Tryz.prog Tryz.eF3 := entOk_of_runN Tryz.tmOk Tryz.tmMixed Tryz.ftOkF (l := [Tryz.eF2]) (.cons Tryz.kF2 .nil) Tryz.rF3

def Tryz.eF4 : Ent := ⟨52, [.ptr 861 0],
 [(999, .arr 287 5 true [.agg [.int .u8 1, .int .i64 0, .int .i64 1, .int .i64 8, .str []], .agg [.int .u8 2, .int .i64 0, .int .i64 1, .int .i64 8, .str [1, 0, 1, 0, 0, 0, 0]], .agg [.int .u8 3, .int .i64 0, .int .i64 1, .int .i64 0, .str [1, 0, 1, 0, 0, 0, 0]]]),
  (904, .arr 9 1 true [.str []]),
  (927, .arr 119 5 true [.agg [.int .i64 0, .int .i64 0, .int .i64 0, .int .i64 0, .str []]]),
  (996, .arr 9 1 true [.str [1, 0, 1, 0, 0, 0, 0]]),
  (903, .arr 3 1 true [.int .i64 0]),
  (902, .arr 3 1 true [.int .i64 0]),
  (860, .arr 61 15 false [.agg [.int .i64 0, .int .i64 0, .ref 902 1 0 1 none, .ref 903 1 0 1 none, .ref 996 1 0 1 none, .ref 927 5 0 0 none, .int .u8 0, .int .i64 0, .imm 0 [] 0, .str [], .str [], .imm 0 [] 0, .imm 0 [] 0, .ref 904 1 0 0 none, .int .i64 0]]),
  (848, .arr 3 1 true [.int .i64 0]),
  (847, .arr 3 1 true [.int .i64 0]),
  (850, .arr 56 2 false [.agg [.ref 847 1 0 1 none, .ref 848 1 0 1 none]]),
  (861, .box [.int .i64 0, .ref 850 2 0 1 none, .ref 860 15 0 1 none, .imm 0 [] 0, .ref 999 5 0 3 none, .imm 10 [] 0])], 1000,
 { d := .tuple [], vc := true, eff := [(861, some (.box [.int .i64 0, .ref 850 2 0 1 none, .ref 860 15 0 1 none, .imm 0 [] 0, .ref 999 5 0 3 none, .imm 10 [] 0]))], nw := (1000, 1066), met := [999, 904, 927, 996, 903, 902, 860, 848, 847, 850, 861] }⟩
theorem Tryz.rF4 : runFQ (getLQ Tryz.ftLF) Tryz.ptF Tryz.tm 2000 (callN (callKQ [] noCall) (getLQ Tryz.ftLF) Tryz.ptF Tryz.tm 2000 60) Tryz.eF4.K Tryz.eF4.args Tryz.eF4.heap Tryz.eF4.nx = some Tryz.eF4.out := by kernel_rfl
theorem Tryz.kF4 : EntOk Tryz.prog Tryz.eF4 := entOk_of_runN Tryz.tmOk Tryz.tmMixed Tryz.ftOkF (l := []) .nil Tryz.rF4

def Tryz.eF5 : Ent := ⟨41, [.agg [.int .i64 0, .ref 567 2 0 1 none, .ref 577 15 0 1 none, .imm 0 [] 0]],
 [(573, .arr 9 1 true [.str [1, 0, 1, 0, 0, 0, 0]]),
  (572, .arr 3 1 true [.int .i64 0]),
  (571, .arr 3 1 true [.int .i64 0]),
  (577, .arr 61 15 false [.agg [.int .i64 0, .int .i64 0, .ref 571 1 0 1 none, .ref 572 1 0 1 none, .imm 0 [] 0, .imm 0 [] 0, .int .u8 0, .int .i64 0, .imm 0 [] 0, .str [], .str [], .imm 0 [] 0, .imm 0 [] 0, .ref 573 1 0 1 none, .int .i64 0]]),
  (565, .arr 3 1 true [.int .i64 0]),
  (564, .arr 3 1 true [.int .i64 0]),
  (567, .arr 56 2 false [.agg [.ref 564 1 0 1 none, .ref 565 1 0 1 none]])], 800,
 { d := .int .i64 0, vc := true, eff := [], nw := (800, 843), met := [573, 572, 571, 577, 565, 564, 567] }⟩
theorem Tryz.rF5 : runFQ (getLQ Tryz.ftLF) Tryz.ptF Tryz.tm 2000 (callN (callKQ [] noCall) (getLQ Tryz.ftLF) Tryz.ptF Tryz.tm 2000 60) Tryz.eF5.K Tryz.eF5.args Tryz.eF5.heap Tryz.eF5.nx = some Tryz.eF5.out := by kernel_rfl
theorem Tryz.kF5 : EntOk Tryz.prog Tryz.eF5 := entOk_of_runN Tryz.tmOk Tryz.tmMixed Tryz.ftOkF (l := []) .nil Tryz.rF5

def Tryz.eF6 : Ent := ⟨131, [.agg [.bool true, .int .i64 0, .ref 567 2 0 1 none, .ref 577 15 0 1 none, .imm 0 [] 0, .imm 0 [] 0, .imm 0 [] 0, .imm 0 [] 0], .bool true],
 [(573, .arr 9 1 true [.str [1, 0, 1, 0, 0, 0, 0]]),
  (572, .arr 3 1 true [.int .i64 0]),
  (571, .arr 3 1 true [.int .i64 0]),
  (577, .arr 61 15 false [.agg [.int .i64 0, .int .i64 0, .ref 571 1 0 1 none, .ref 572 1 0 1 none, .imm 0 [] 0, .imm 0 [] 0, .int .u8 0, .int .i64 0, .imm 0 [] 0, .str [], .str [], .imm 0 [] 0, .imm 0 [] 0, .ref 573 1 0 1 none, .int .i64 0]]),
  (565, .arr 3 1 true [.int .i64 0]),
  (564, .arr 3 1 true [.int .i64 0]),
  (567, .arr 56 2 false [.agg [.ref 564 1 0 1 none, .ref 565 1 0 1 none]])], 715,
 { d := .int .i64 0, vc := true, eff := [], nw := (715, 798), met := [573, 572, 571, 577, 565, 564, 567] }⟩
theorem Tryz.rF6 : runFQ (getLQ Tryz.ftLF) Tryz.ptF Tryz.tm 2000 (callN (callKQ [] noCall) (getLQ Tryz.ftLF) Tryz.ptF Tryz.tm 2000 60) Tryz.eF6.K Tryz.eF6.args Tryz.eF6.heap Tryz.eF6.nx = some Tryz.eF6.out := by kernel_rfl
theorem Tryz.kF6 : EntOk Tryz.prog Tryz.eF6 := entOk_of_runN Tryz.tmOk Tryz.tmMixed Tryz.ftOkF (l := []) .nil Tryz.rF6

def Tryz.eF7 : Ent := ⟨15, [.agg [.int .i64 0, .ref 567 2 0 1 none, .ref 577 15 0 1 none, .imm 0 [] 0]],
 [(573, .arr 9 1 true [.str [1, 0, 1, 0, 0, 0, 0]]),
  (572, .arr 3 1 true [.int .i64 0]),
  (571, .arr 3 1 true [.int .i64 0]),
  (577, .arr 61 15 false [.agg [.int .i64 0, .int .i64 0, .ref 571 1 0 1 none, .ref 572 1 0 1 none, .imm 0 [] 0, .imm 0 [] 0, .int .u8 0, .int .i64 0, .imm 0 [] 0, .str [], .str [], .imm 0 [] 0, .imm 0 [] 0, .ref 573 1 0 1 none, .int .i64 0]]),
  (565, .arr 3 1 true [.int .i64 0]),
  (564, .arr 3 1 true [.int .i64 0]),
  (567, .arr 56 2 false [.agg [.ref 564 1 0 1 none, .ref 565 1 0 1 none]])], 798,
 { d := .tuple [.agg [.int .i64 0, .ref 850 2 0 1 none, .ref 860 15 0 1 none, .imm 0 [] 0], .ref 999 5 0 3 none, .imm 10 [] 0, .int .i64 0], vc := true, eff := [(999, some (.arr 287 5 true [.agg [.int .u8 1, .int .i64 0, .int .i64 1, .int .i64 8, .str []], .agg [.int .u8 2, .int .i64 0, .int .i64 1, .int .i64 8, .str [1, 0, 1, 0, 0, 0, 0]], .agg [.int .u8 3, .int .i64 0, .int .i64 1, .int .i64 0, .str [1, 0, 1, 0, 0, 0, 0]]])),
  (904, some (.arr 9 1 true [.str []])),
  (927, some (.arr 119 5 true [.agg [.int .i64 0, .int .i64 0, .int .i64 0, .int .i64 0, .str []]])),
  (996, some (.arr 9 1 true [.str [1, 0, 1, 0, 0, 0, 0]])),
  (903, some (.arr 3 1 true [.int .i64 0])),
  (902, some (.arr 3 1 true [.int .i64 0])),
  (860, some (.arr 61 15 false [.agg [.int .i64 0, .int .i64 0, .ref 902 1 0 1 none, .ref 903 1 0 1 none, .ref 996 1 0 1 none, .ref 927 5 0 0 none, .int .u8 0, .int .i64 0, .imm 0 [] 0, .str [], .str [], .imm 0 [] 0, .imm 0 [] 0, .ref 904 1 0 0 none, .int .i64 0]])),
  (848, some (.arr 3 1 true [.int .i64 0])),
  (847, some (.arr 3 1 true [.int .i64 0])),
  (850, some (.arr 56 2 false [.agg [.ref 847 1 0 1 none, .ref 848 1 0 1 none]]))], nw := (798, 1066), met := [573, 572, 571, 577, 565, 564, 567] }⟩
theorem Tryz.rF7 : runFQ (getLQ Tryz.ftLF) Tryz.ptF Tryz.tm 2000 (callN (callKQ [Tryz.eF4, Tryz.eF5, Tryz.eF3] noCall) (getLQ Tryz.ftLF) Tryz.ptF Tryz.tm 2000 60) Tryz.eF7.K Tryz.eF7.args Tryz.eF7.heap Tryz.eF7.nx = some Tryz.eF7.out := by kernel_rfl
theorem Tryz.kF7 : EntOk Tryz.prog Tryz.eF7 := entOk_of_runN Tryz.tmOk Tryz.tmMixed Tryz.ftOkF (l := [Tryz.eF4, Tryz.eF5, Tryz.eF3]) (.cons Tryz.kF4 (.cons Tryz.kF5 (.cons Tryz.kF3 .nil))) Tryz.rF7

def Tryz.eF8 : Ent := ⟨56, [.agg [.ref 555 2 0 1 none, .ref 580 8 0 1 none, .imm 0 [] 0]],
 [(573, .arr 9 1 true [.str [1, 0, 1, 0, 0, 0, 0]]),
  (572, .arr 3 1 true [.int .i64 0]),
  (571, .arr 3 1 true [.int .i64 0]),
  (577, .arr 61 15 false [.agg [.int .i64 0, .int .i64 0, .ref 571 1 0 1 none, .ref 572 1 0 1 none, .imm 0 [] 0, .imm 0 [] 0, .int .u8 0, .int .i64 0, .imm 0 [] 0, .str [], .str [], .imm 0 [] 0, .imm 0 [] 0, .ref 573 1 0 1 none, .int .i64 0]]),
  (565, .arr 3 1 true [.int .i64 0]),
  (564, .arr 3 1 true [.int .i64 0]),
  (567, .arr 56 2 false [.agg [.ref 564 1 0 1 none, .ref 565 1 0 1 none]]),
  (580, .arr 132 8 false [.agg [.bool true, .int .i64 0, .ref 567 2 0 1 none, .ref 577 15 0 1 none, .imm 0 [] 0, .imm 0 [] 0, .imm 0 [] 0, .imm 0 [] 0]]),
  (553, .arr 3 1 true [.int .i64 0]),
  (552, .arr 3 1 true [.int .i64 0]),
  (555, .arr 56 2 false [.agg [.ref 552 1 0 1 none, .ref 553 1 0 1 none]])], 593,
 { d := .int .i64 0, vc := true, eff := [], nw := (593, 709), met := [573, 572, 571, 577, 565, 564, 567, 580, 553, 552, 555] }⟩
theorem Tryz.rF8 : runFQ (getLQ Tryz.ftLF) Tryz.ptF Tryz.tm 2000 (callN (callKQ [] noCall) (getLQ Tryz.ftLF) Tryz.ptF Tryz.tm 2000 60) Tryz.eF8.K Tryz.eF8.args Tryz.eF8.heap Tryz.eF8.nx = some Tryz.eF8.out := by kernel_rfl
theorem Tryz.kF8 : EntOk Tryz.prog Tryz.eF8 := entOk_of_runN Tryz.tmOk Tryz.tmMixed Tryz.ftOkF (l := []) .nil Tryz.rF8

def Tryz.eF9 : Ent := ⟨91, [.ptr 1292 0],
 [(904, .arr 9 1 true [.str []]),
  (927, .arr 119 5 true [.agg [.int .i64 0, .int .i64 0, .int .i64 0, .int .i64 0, .str []]]),
  (996, .arr 9 1 true [.str [1, 0, 1, 0, 0, 0, 0]]),
  (903, .arr 3 1 true [.int .i64 0]),
  (902, .arr 3 1 true [.int .i64 0]),
  (860, .arr 61 15 false [.agg [.int .i64 0, .int .i64 0, .ref 902 1 0 1 none, .ref 903 1 0 1 none, .ref 996 1 0 1 none, .ref 927 5 0 0 none, .int .u8 0, .int .i64 0, .imm 0 [] 0, .str [], .str [], .imm 0 [] 0, .imm 0 [] 0, .ref 904 1 0 0 none, .int .i64 0]]),
  (848, .arr 3 1 true [.int .i64 0]),
  (847, .arr 3 1 true [.int .i64 0]),
  (850, .arr 56 2 false [.agg [.ref 847 1 0 1 none, .ref 848 1 0 1 none]]),
  (1292, .box [.int .i64 0, .ref 850 2 0 1 none, .ref 860 15 0 1 none, .imm 0 [] 0, .imm 0 [] 0, .imm 0 [] 0])], 1325,
 { d := .mref 1325, vc := true, eff := [(1325, some (.map []))], nw := (1325, 1390), met := [904, 927, 996, 903, 902, 860, 848, 847, 850, 1292] }⟩
theorem Tryz.rF9 : runFQ (getLQ Tryz.ftLF) Tryz.ptF Tryz.tm 2000 (callN (callKQ [] noCall) (getLQ Tryz.ftLF) Tryz.ptF Tryz.tm 2000 60) Tryz.eF9.K Tryz.eF9.args Tryz.eF9.heap Tryz.eF9.nx = some Tryz.eF9.out := by kernel_rfl
theorem Tryz.kF9 : EntOk Tryz.prog Tryz.eF9 := entOk_of_runN Tryz.tmOk Tryz.tmMixed Tryz.ftOkF (l := []) .nil Tryz.rF9

def Tryz.eF10 : Ent := ⟨138, [.int .i64 1, .ref 1409 1 0 3 none],
 [(1409, .arr 9 1 true [.str [1, 0, 1, 8], .str [2, 0, 1, 8, 7, 1, 0, 1, 0, 0, 0, 0], .str [3, 0, 1, 7, 1, 0, 1, 0, 0, 0, 0]])], 1460,
 { d := .tuple [.agg [.ref 1462 1 0 1 (some 1), .ref 1478 5 0 0 none], .int .i64 0], vc := true, eff := [(1478, some (.arr 119 5 true [.agg [.int .i64 0, .int .i64 0, .int .i64 0, .int .i64 0, .str []]])),
  (1514, some (.arr 9 1 true [.str [1, 0, 1, 0, 0, 0, 0]])),
  (1462, some (.arr 40 1 false [.ref 1514 1 0 1 none]))], nw := (1460, 1515), met := [1409] }⟩
theorem Tryz.rF10 : runFQ (getLQ Tryz.ftLF) Tryz.ptF Tryz.tm 2000 (callN (callKQ [] noCall) (getLQ Tryz.ftLF) Tryz.ptF Tryz.tm 2000 60) Tryz.eF10.K Tryz.eF10.args Tryz.eF10.heap Tryz.eF10.nx = some Tryz.eF10.out := by kernel_rfl
theorem Tryz.kF10 : EntOk Tryz.prog Tryz.eF10 := entOk_of_runN Tryz.tmOk Tryz.tmMixed Tryz.ftOkF (l := []) .nil Tryz.rF10

def Tryz.eF11 : Ent := ⟨120, [.agg [.bool true, .int .i64 0, .ref 850 2 0 1 none, .ref 860 15 0 1 none, .imm 0 [] 0, .imm 0 [] 0, .ref 1210 2 0 3 none, .imm 10 [] 0]],
 [(1208, .arr 5 1 true [.int .u8 11, .int .u8 3, .int .u8 0, .int .u8 1, .int .u8 7, .int .u8 1, .int .u8 0, .int .u8 1, .int .u8 0, .int .u8 0, .int .u8 0, .int .u8 0]),
  (1204, .arr 5 1 true [.int .u8 12, .int .u8 2, .int .u8 0, .int .u8 1, .int .u8 8, .int .u8 7, .int .u8 1, .int .u8 0, .int .u8 1, .int .u8 0, .int .u8 0, .int .u8 0, .int .u8 0]),
  (1200, .arr 5 1 true [.int .u8 4, .int .u8 1, .int .u8 0, .int .u8 1, .int .u8 8]),
  (1210, .arr 307 2 false [.agg [.bool false, .ref 1200 1 0 5 none], .agg [.bool false, .ref 1204 1 0 13 none], .agg [.bool false, .ref 1208 1 0 12 none]]),
  (904, .arr 9 1 true [.str []]),
  (927, .arr 119 5 true [.agg [.int .i64 0, .int .i64 0, .int .i64 0, .int .i64 0, .str []]]),
  (996, .arr 9 1 true [.str [1, 0, 1, 0, 0, 0, 0]]),
  (903, .arr 3 1 true [.int .i64 0]),
  (902, .arr 3 1 true [.int .i64 0]),
  (860, .arr 61 15 false [.agg [.int .i64 0, .int .i64 0, .ref 902 1 0 1 none, .ref 903 1 0 1 none, .ref 996 1 0 1 none, .ref 927 5 0 0 none, .int .u8 0, .int .i64 0, .imm 0 [] 0, .str [], .str [], .imm 0 [] 0, .imm 0 [] 0, .ref 904 1 0 0 none, .int .i64 0]]),
  (848, .arr 3 1 true [.int .i64 0]),
  (847, .arr 3 1 true [.int .i64 0]),
  (850, .arr 56 2 false [.agg [.ref 847 1 0 1 none, .ref 848 1 0 1 none]])], 1285,
 { d := .int .i64 0, vc := true, eff := [], nw := (1285, 1524), met := [1208, 1204, 1200, 1210, 904, 927, 996, 903, 902, 860, 848, 847, 850] }⟩
theorem Tryz.rF11 : runFQ (getLQ Tryz.ftLF) Tryz.ptF Tryz.tm 2000 (callN (callKQ [Tryz.eF10, Tryz.eF9] noCall) (getLQ Tryz.ftLF) Tryz.ptF Tryz.tm 2000 60) Tryz.eF11.K Tryz.eF11.args Tryz.eF11.heap Tryz.eF11.nx = some Tryz.eF11.out := by kernel_rfl
theorem Tryz.kF11 : EntOk Tryz.prog Tryz.eF11 := entOk_of_runN Tryz.tmOk Tryz.tmMixed Tryz.ftOkF (l := [Tryz.eF10, Tryz.eF9]) (.cons Tryz.kF10 (.cons Tryz.kF9 .nil)) Tryz.rF11

def Tryz.eF12 : Ent := ⟨91, [.ptr 1545 0],
 [(904, .arr 9 1 true [.str []]),
  (927, .arr 119 5 true [.agg [.int .i64 0, .int .i64 0, .int .i64 0, .int .i64 0, .str []]]),
  (996, .arr 9 1 true [.str [1, 0, 1, 0, 0, 0, 0]]),
  (903, .arr 3 1 true [.int .i64 0]),
  (902, .arr 3 1 true [.int .i64 0]),
  (860, .arr 61 15 false [.agg [.int .i64 0, .int .i64 0, .ref 902 1 0 1 none, .ref 903 1 0 1 none, .ref 996 1 0 1 none, .ref 927 5 0 0 none, .int .u8 0, .int .i64 0, .imm 0 [] 0, .str [], .str [], .imm 0 [] 0, .imm 0 [] 0, .ref 904 1 0 0 none, .int .i64 0]]),
  (848, .arr 3 1 true [.int .i64 0]),
  (847, .arr 3 1 true [.int .i64 0]),
  (850, .arr 56 2 false [.agg [.ref 847 1 0 1 none, .ref 848 1 0 1 none]]),
  (1545, .box [.int .i64 0, .ref 850 2 0 1 none, .ref 860 15 0 1 none, .imm 0 [] 0, .imm 0 [] 0, .imm 0 [] 0])], 1578,
 { d := .mref 1578, vc := true, eff := [(1578, some (.map []))], nw := (1578, 1643), met := [904, 927, 996, 903, 902, 860, 848, 847, 850, 1545] }⟩
theorem Tryz.rF12 : runFQ (getLQ Tryz.ftLF) Tryz.ptF Tryz.tm 2000 (callN (callKQ [] noCall) (getLQ Tryz.ftLF) Tryz.ptF Tryz.tm 2000 60) Tryz.eF12.K Tryz.eF12.args Tryz.eF12.heap Tryz.eF12.nx = some Tryz.eF12.out := by kernel_rfl
theorem Tryz.kF12 : EntOk Tryz.prog Tryz.eF12 := entOk_of_runN Tryz.tmOk Tryz.tmMixed Tryz.ftOkF (l := []) .nil Tryz.rF12

def Tryz.eF13 : Ent := ⟨138, [.int .i64 1, .ref 1662 1 0 3 none],
 [(1662, .arr 9 1 true [.str [1, 0, 1, 8], .str [2, 0, 1, 8, 7, 1, 0, 1, 0, 0, 0, 0], .str [3, 0, 1, 7, 1, 0, 1, 0, 0, 0, 0]])], 1713,
 { d := .tuple [.agg [.ref 1715 1 0 1 (some 1), .ref 1731 5 0 0 none], .int .i64 0], vc := true, eff := [(1731, some (.arr 119 5 true [.agg [.int .i64 0, .int .i64 0, .int .i64 0, .int .i64 0, .str []]])),
  (1767, some (.arr 9 1 true [.str [1, 0, 1, 0, 0, 0, 0]])),
  (1715, some (.arr 40 1 false [.ref 1767 1 0 1 none]))], nw := (1713, 1768), met := [1662] }⟩
theorem Tryz.rF13 : runFQ (getLQ Tryz.ftLF) Tryz.ptF Tryz.tm 2000 (callN (callKQ [] noCall) (getLQ Tryz.ftLF) Tryz.ptF Tryz.tm 2000 60) Tryz.eF13.K Tryz.eF13.args Tryz.eF13.heap Tryz.eF13.nx = some Tryz.eF13.out := by kernel_rfl
theorem Tryz.kF13 : EntOk Tryz.prog Tryz.eF13 := entOk_of_runN Tryz.tmOk Tryz.tmMixed Tryz.ftOkF (l := []) .nil Tryz.rF13

def Tryz.eF14 : Ent := ⟨140, [.agg [.bool true, .int .i64 0, .ref 850 2 0 1 none, .ref 860 15 0 1 none, .imm 0 [] 0, .imm 0 [] 0, .ref 1210 2 0 3 none, .imm 10 [] 0], .ptr 1530 0],
 [(1530, .box [.imm 0 [] 0]),
  (1208, .arr 5 1 true [.int .u8 11, .int .u8 3, .int .u8 0, .int .u8 1, .int .u8 7, .int .u8 1, .int .u8 0, .int .u8 1, .int .u8 0, .int .u8 0, .int .u8 0, .int .u8 0]),
  (1204, .arr 5 1 true [.int .u8 12, .int .u8 2, .int .u8 0, .int .u8 1, .int .u8 8, .int .u8 7, .int .u8 1, .int .u8 0, .int .u8 1, .int .u8 0, .int .u8 0, .int .u8 0, .int .u8 0]),
  (1200, .arr 5 1 true [.int .u8 4, .int .u8 1, .int .u8 0, .int .u8 1, .int .u8 8]),
  (1210, .arr 307 2 false [.agg [.bool false, .ref 1200 1 0 5 none], .agg [.bool false, .ref 1204 1 0 13 none], .agg [.bool false, .ref 1208 1 0 12 none]]),
  (904, .arr 9 1 true [.str []]),
  (927, .arr 119 5 true [.agg [.int .i64 0, .int .i64 0, .int .i64 0, .int .i64 0, .str []]]),
  (996, .arr 9 1 true [.str [1, 0, 1, 0, 0, 0, 0]]),
  (903, .arr 3 1 true [.int .i64 0]),
  (902, .arr 3 1 true [.int .i64 0]),
  (860, .arr 61 15 false [.agg [.int .i64 0, .int .i64 0, .ref 902 1 0 1 none, .ref 903 1 0 1 none, .ref 996 1 0 1 none, .ref 927 5 0 0 none, .int .u8 0, .int .i64 0, .imm 0 [] 0, .str [], .str [], .imm 0 [] 0, .imm 0 [] 0, .ref 904 1 0 0 none, .int .i64 0]]),
  (848, .arr 3 1 true [.int .i64 0]),
  (847, .arr 3 1 true [.int .i64 0]),
  (850, .arr 56 2 false [.agg [.ref 847 1 0 1 none, .ref 848 1 0 1 none]])], 1533,
 { d := .tuple [.agg [.bool true, .int .i64 0, .ref 1799 2 0 1 none, .ref 1809 15 0 1 none, .imm 0 [] 0, .ref 1790 1 0 30 none, .imm 0 [] 0, .imm 0 [] 0], .int .i64 0], vc := true, eff := [(1530, some (.box [.imm 0 [] 0])),
  (1790, some (.arr 5 1 true [.int .u8 4, .int .u8 1, .int .u8 0, .int .u8 1, .int .u8 8, .int .u8 12, .int .u8 2, .int .u8 0, .int .u8 1, .int .u8 8, .int .u8 7, .int .u8 1, .int .u8 0, .int .u8 1, .int .u8 0, .int .u8 0, .int .u8 0, .int .u8 0, .int .u8 11, .int .u8 3, .int .u8 0, .int .u8 1, .int .u8 7, .int .u8 1, .int .u8 0, .int .u8 1, .int .u8 0, .int .u8 0, .int .u8 0, .int .u8 0])),
  (1805, some (.arr 9 1 true [.str [1, 0, 1, 0, 0, 0, 0]])),
  (1804, some (.arr 3 1 true [.int .i64 0])),
  (1803, some (.arr 3 1 true [.int .i64 0])),
  (1809, some (.arr 61 15 false [.agg [.int .i64 0, .int .i64 0, .ref 1803 1 0 1 none, .ref 1804 1 0 1 none, .ref 1805 1 0 1 none, .imm 5 [] 9, .int .u8 0, .int .i64 0, .imm 0 [] 0, .str [], .str [], .imm 0 [] 0, .imm 0 [] 0, .imm 1 [] 9, .int .i64 0]])),
  (1797, some (.arr 3 1 true [.int .i64 0])),
  (1796, some (.arr 3 1 true [.int .i64 0])),
  (1799, some (.arr 56 2 false [.agg [.ref 1796 1 0 1 none, .ref 1797 1 0 1 none]]))], nw := (1533, 1810), met := [1530, 1208, 1204, 1200, 1210, 904, 927, 996, 903, 902, 860, 848, 847, 850] }⟩
theorem Tryz.rF14 : runFQ (getLQ Tryz.ftLF) Tryz.ptF Tryz.tm 2000 (callN (callKQ [Tryz.eF13, Tryz.eF12] noCall) (getLQ Tryz.ftLF) Tryz.ptF Tryz.tm 2000 60) Tryz.eF14.K Tryz.eF14.args Tryz.eF14.heap Tryz.eF14.nx = some Tryz.eF14.out := by kernel_rfl
theorem Tryz.kF14 : EntOk Tryz.prog Tryz.eF14 := entOk_of_runN Tryz.tmOk Tryz.tmMixed Tryz.ftOkF (l := [Tryz.eF13, Tryz.eF12]) (.cons Tryz.kF13 (.cons Tryz.kF12 .nil)) Tryz.rF14

def Tryz.eF15 : Ent := ⟨146, [.ptr 581 0],
 [(1790, .arr 5 1 true [.int .u8 4, .int .u8 1, .int .u8 0, .int .u8 1, .int .u8 8, .int .u8 12, .int .u8 2, .int .u8 0, .int .u8 1, .int .u8 8, .int .u8 7, .int .u8 1, .int .u8 0, .int .u8 1, .int .u8 0, .int .u8 0, .int .u8 0, .int .u8 0, .int .u8 11, .int .u8 3, .int .u8 0, .int .u8 1, .int .u8 7, .int .u8 1, .int .u8 0, .int .u8 1, .int .u8 0, .int .u8 0, .int .u8 0, .int .u8 0]),
  (1805, .arr 9 1 true [.str [1, 0, 1, 0, 0, 0, 0]]),
  (1804, .arr 3 1 true [.int .i64 0]),
  (1803, .arr 3 1 true [.int .i64 0]),
  (1809, .arr 61 15 false [.agg [.int .i64 0, .int .i64 0, .ref 1803 1 0 1 none, .ref 1804 1 0 1 none, .ref 1805 1 0 1 none, .imm 5 [] 9, .int .u8 0, .int .i64 0, .imm 0 [] 0, .str [], .str [], .imm 0 [] 0, .imm 0 [] 0, .imm 1 [] 9, .int .i64 0]]),
  (1797, .arr 3 1 true [.int .i64 0]),
  (1796, .arr 3 1 true [.int .i64 0]),
  (1799, .arr 56 2 false [.agg [.ref 1796 1 0 1 none, .ref 1797 1 0 1 none]]),
  (1854, .arr 132 8 false [.agg [.bool true, .int .i64 0, .ref 1799 2 0 1 none, .ref 1809 15 0 1 none, .imm 0 [] 0, .ref 1790 1 0 30 none, .imm 0 [] 0, .imm 0 [] 0]]),
  (1815, .arr 3 1 true [.int .i64 0]),
  (1814, .arr 3 1 true [.int .i64 0]),
  (1817, .arr 56 2 false [.agg [.ref 1814 1 0 1 none, .ref 1815 1 0 1 none]]),
  (581, .box [.ref 1817 2 0 1 none, .ref 1854 8 0 1 none, .imm 10 [] 0, .int .i64 2])], 1858,
 { d := .int .i64 0, vc := true, eff := [], nw := (1858, 1861), met := [1790, 1805, 1804, 1803, 1809, 1797, 1796, 1799, 1854, 1815, 1814, 1817, 581] }⟩
theorem Tryz.rF15 : runFI (getL Tryz.frLF) (getL Tryz.fyLF) Tryz.ptF Tryz.tm 2000 (callN (callKQ [] noCall) (getLQ Tryz.ftLF) Tryz.ptF Tryz.tm 2000 60) Tryz.eF15.K Tryz.eF15.args Tryz.eF15.heap Tryz.eF15.nx = some Tryz.eF15.out := by kernel_rfl
theorem Tryz.kF15 : EntOk Tryz.prog Tryz.eF15 := entOk_of_runNI Tryz.tmOk Tryz.tmMixed Tryz.ftOkF Tryz.frOkF Tryz.fyOkF (l := []) .nil Tryz.rF15

def Tryz.eF16 : Ent := ⟨145, [.ptr 581 0, .agg [.int .u8 1, .int .i64 0, .int .i64 0, .int .i64 0, .int .i64 0, .int .i64 0, .int .u8 0, .int .i64 0, .imm 0 [] 0, .int .i64 0, .str [], .str [], .int .i64 0, .int .i64 0, .imm 0 [] 0, .int .i64 0, .int .i64 0, .int .i64 0]],
 [(573, .arr 9 1 true [.str [1, 0, 1, 0, 0, 0, 0]]),
  (572, .arr 3 1 true [.int .i64 0]),
  (571, .arr 3 1 true [.int .i64 0]),
  (577, .arr 61 15 false [.agg [.int .i64 0, .int .i64 0, .ref 571 1 0 1 none, .ref 572 1 0 1 none, .imm 0 [] 0, .imm 0 [] 0, .int .u8 0, .int .i64 0, .imm 0 [] 0, .str [], .str [], .imm 0 [] 0, .imm 0 [] 0, .ref 573 1 0 1 none, .int .i64 0]]),
  (565, .arr 3 1 true [.int .i64 0]),
  (564, .arr 3 1 true [.int .i64 0]),
  (567, .arr 56 2 false [.agg [.ref 564 1 0 1 none, .ref 565 1 0 1 none]]),
  (580, .arr 132 8 false [.agg [.bool true, .int .i64 0, .ref 567 2 0 1 none, .ref 577 15 0 1 none, .imm 0 [] 0, .imm 0 [] 0, .imm 0 [] 0, .imm 0 [] 0]]),
  (553, .arr 3 1 true [.int .i64 0]),
  (552, .arr 3 1 true [.int .i64 0]),
  (555, .arr 56 2 false [.agg [.ref 552 1 0 1 none, .ref 553 1 0 1 none]]),
  (581, .box [.ref 555 2 0 1 none, .ref 580 8 0 1 none, .imm 0 [] 0, .int .i64 0])], 589,
 { d := .int .i64 0, vc := true, eff := [(581, some (.box [.ref 1224 2 0 1 none, .ref 1249 8 0 1 none, .imm 0 [] 0, .int .i64 1])),
  (1208, some (.arr 5 1 true [.int .u8 11, .int .u8 3, .int .u8 0, .int .u8 1, .int .u8 7, .int .u8 1, .int .u8 0, .int .u8 1, .int .u8 0, .int .u8 0, .int .u8 0, .int .u8 0])),
  (1204, some (.arr 5 1 true [.int .u8 12, .int .u8 2, .int .u8 0, .int .u8 1, .int .u8 8, .int .u8 7, .int .u8 1, .int .u8 0, .int .u8 1, .int .u8 0, .int .u8 0, .int .u8 0, .int .u8 0])),
  (1200, some (.arr 5 1 true [.int .u8 4, .int .u8 1, .int .u8 0, .int .u8 1, .int .u8 8])),
  (1210, some (.arr 307 2 false [.agg [.bool false, .ref 1200 1 0 5 none], .agg [.bool false, .ref 1204 1 0 13 none], .agg [.bool false, .ref 1208 1 0 12 none]])),
  (904, some (.arr 9 1 true [.str []])),
  (927, some (.arr 119 5 true [.agg [.int .i64 0, .int .i64 0, .int .i64 0, .int .i64 0, .str []]])),
  (996, some (.arr 9 1 true [.str [1, 0, 1, 0, 0, 0, 0]])),
  (903, some (.arr 3 1 true [.int .i64 0])),
  (902, some (.arr 3 1 true [.int .i64 0])),
  (860, some (.arr 61 15 false [.agg [.int .i64 0, .int .i64 0, .ref 902 1 0 1 none, .ref 903 1 0 1 none, .ref 996 1 0 1 none, .ref 927 5 0 0 none, .int .u8 0, .int .i64 0, .imm 0 [] 0, .str [], .str [], .imm 0 [] 0, .imm 0 [] 0, .ref 904 1 0 0 none, .int .i64 0]])),
  (848, some (.arr 3 1 true [.int .i64 0])),
  (847, some (.arr 3 1 true [.int .i64 0])),
  (850, some (.arr 56 2 false [.agg [.ref 847 1 0 1 none, .ref 848 1 0 1 none]])),
  (1249, some (.arr 132 8 false [.agg [.bool true, .int .i64 0, .ref 850 2 0 1 none, .ref 860 15 0 1 none, .imm 0 [] 0, .imm 0 [] 0, .ref 1210 2 0 3 none, .imm 10 [] 0]])),
  (1222, some (.arr 3 1 true [.int .i64 0])),
  (1221, some (.arr 3 1 true [.int .i64 0])),
  (1224, some (.arr 56 2 false [.agg [.ref 1221 1 0 1 none, .ref 1222 1 0 1 none]]))], nw := (589, 1251), met := [573, 572, 571, 577, 565, 564, 567, 580, 553, 552, 555, 581] }⟩
theorem Tryz.rF16 : runFQ (getLQ Tryz.ftLF) Tryz.ptF Tryz.tm 2000 (callN (callKQ [Tryz.eF8, Tryz.eF6, Tryz.eF7] noCall) (getLQ Tryz.ftLF) Tryz.ptF Tryz.tm 2000 60) Tryz.eF16.K Tryz.eF16.args Tryz.eF16.heap Tryz.eF16.nx = some Tryz.eF16.out := by kernel_rfl
theorem Tryz.kF16 : EntOk Tryz.prog Tryz.eF16 := entOk_of_runN Tryz.tmOk Tryz.tmMixed Tryz.ftOkF (l := [Tryz.eF8, Tryz.eF6, Tryz.eF7]) (.cons Tryz.kF8 (.cons Tryz.kF6 (.cons Tryz.kF7 .nil))) Tryz.rF16

def Tryz.eF17 : Ent := ⟨91, [.ptr 1967 0],
 [(1805, .arr 9 1 true [.str [1, 0, 1, 0, 0, 0, 0]]),
  (1804, .arr 3 1 true [.int .i64 0]),
  (1803, .arr 3 1 true [.int .i64 0]),
  (1809, .arr 61 15 false [.agg [.int .i64 0, .int .i64 0, .ref 1803 1 0 1 none, .ref 1804 1 0 1 none, .ref 1805 1 0 1 none, .imm 5 [] 9, .int .u8 0, .int .i64 0, .imm 0 [] 0, .str [], .str [], .imm 0 [] 0, .imm 0 [] 0, .imm 1 [] 9, .int .i64 0]]),
  (1797, .arr 3 1 true [.int .i64 0]),
  (1796, .arr 3 1 true [.int .i64 0]),
  (1799, .arr 56 2 false [.agg [.ref 1796 1 0 1 none, .ref 1797 1 0 1 none]]),
  (1967, .box [.int .i64 0, .ref 1799 2 0 1 none, .ref 1809 15 0 1 none, .imm 0 [] 0, .imm 0 [] 0, .imm 0 [] 0])], 2000,
 { d := .mref 2000, vc := true, eff := [(2000, some (.map []))], nw := (2000, 2065), met := [1805, 1804, 1803, 1809, 1797, 1796, 1799, 1967] }⟩
theorem Tryz.rF17 : runFQ (getLQ Tryz.ftLF) Tryz.ptF Tryz.tm 2000 (callN (callKQ [] noCall) (getLQ Tryz.ftLF) Tryz.ptF Tryz.tm 2000 60) Tryz.eF17.K Tryz.eF17.args Tryz.eF17.heap Tryz.eF17.nx = some Tryz.eF17.out := by kernel_rfl
theorem Tryz.kF17 : EntOk Tryz.prog Tryz.eF17 := entOk_of_runN Tryz.tmOk Tryz.tmMixed Tryz.ftOkF (l := []) .nil Tryz.rF17

def Tryz.eF18 : Ent := ⟨138, [.int .i64 1, .ref 2076 1 0 3 none],
 [(2076, .arr 9 1 true [.str [1, 0, 1, 8], .str [2, 0, 1, 8, 7, 1, 0, 1, 0, 0, 0, 0], .str [3, 0, 1, 7, 1, 0, 1, 0, 0, 0, 0]])], 2099,
 { d := .tuple [.agg [.ref 2101 1 0 1 (some 1), .ref 2117 5 0 0 none], .int .i64 0], vc := true, eff := [(2117, some (.arr 119 5 true [.agg [.int .i64 0, .int .i64 0, .int .i64 0, .int .i64 0, .str []]])),
  (2153, some (.arr 9 1 true [.str [1, 0, 1, 0, 0, 0, 0]])),
  (2101, some (.arr 40 1 false [.ref 2153 1 0 1 none]))], nw := (2099, 2154), met := [2076] }⟩
theorem Tryz.rF18 : runFQ (getLQ Tryz.ftLF) Tryz.ptF Tryz.tm 2000 (callN (callKQ [] noCall) (getLQ Tryz.ftLF) Tryz.ptF Tryz.tm 2000 60) Tryz.eF18.K Tryz.eF18.args Tryz.eF18.heap Tryz.eF18.nx = some Tryz.eF18.out := by kernel_rfl
theorem Tryz.kF18 : EntOk Tryz.prog Tryz.eF18 := entOk_of_runN Tryz.tmOk Tryz.tmMixed Tryz.ftOkF (l := []) .nil Tryz.rF18

def Tryz.eF19 : Ent := ⟨91, [.ptr 2178 0],
 [(1805, .arr 9 1 true [.str [1, 0, 1, 0, 0, 0, 0]]),
  (1804, .arr 3 1 true [.int .i64 0]),
  (1803, .arr 3 1 true [.int .i64 0]),
  (1809, .arr 61 15 false [.agg [.int .i64 0, .int .i64 0, .ref 1803 1 0 1 none, .ref 1804 1 0 1 none, .ref 1805 1 0 1 none, .imm 5 [] 9, .int .u8 0, .int .i64 0, .imm 0 [] 0, .str [], .str [], .imm 0 [] 0, .imm 0 [] 0, .imm 1 [] 9, .int .i64 0]]),
  (1797, .arr 3 1 true [.int .i64 0]),
  (1796, .arr 3 1 true [.int .i64 0]),
  (1799, .arr 56 2 false [.agg [.ref 1796 1 0 1 none, .ref 1797 1 0 1 none]]),
  (2178, .box [.int .i64 0, .ref 1799 2 0 1 none, .ref 1809 15 0 1 none, .imm 0 [] 0, .imm 0 [] 0, .imm 0 [] 0])], 2211,
 { d := .mref 2211, vc := true, eff := [(2211, some (.map []))], nw := (2211, 2276), met := [1805, 1804, 1803, 1809, 1797, 1796, 1799, 2178] }⟩
theorem Tryz.rF19 : runFQ (getLQ Tryz.ftLF) Tryz.ptF Tryz.tm 2000 (callN (callKQ [] noCall) (getLQ Tryz.ftLF) Tryz.ptF Tryz.tm 2000 60) Tryz.eF19.K Tryz.eF19.args Tryz.eF19.heap Tryz.eF19.nx = some Tryz.eF19.out := by kernel_rfl
theorem Tryz.kF19 : EntOk Tryz.prog Tryz.eF19 := entOk_of_runN Tryz.tmOk Tryz.tmMixed Tryz.ftOkF (l := []) .nil Tryz.rF19

def Tryz.eF20 : Ent := ⟨138, [.int .i64 1, .ref 2287 1 0 3 none],
 [(2287, .arr 9 1 true [.str [1, 0, 1, 8], .str [2, 0, 1, 8, 7, 1, 0, 1, 0, 0, 0, 0], .str [3, 0, 1, 7, 1, 0, 1, 0, 0, 0, 0]])], 2310,
 { d := .tuple [.agg [.ref 2312 1 0 1 (some 1), .ref 2328 5 0 0 none], .int .i64 0], vc := true, eff := [(2328, some (.arr 119 5 true [.agg [.int .i64 0, .int .i64 0, .int .i64 0, .int .i64 0, .str []]])),
  (2364, some (.arr 9 1 true [.str [1, 0, 1, 0, 0, 0, 0]])),
  (2312, some (.arr 40 1 false [.ref 2364 1 0 1 none]))], nw := (2310, 2365), met := [2287] }⟩
theorem Tryz.rF20 : runFQ (getLQ Tryz.ftLF) Tryz.ptF Tryz.tm 2000 (callN (callKQ [] noCall) (getLQ Tryz.ftLF) Tryz.ptF Tryz.tm 2000 60) Tryz.eF20.K Tryz.eF20.args Tryz.eF20.heap Tryz.eF20.nx = some Tryz.eF20.out := by kernel_rfl
theorem Tryz.kF20 : EntOk Tryz.prog Tryz.eF20 := entOk_of_runN Tryz.tmOk Tryz.tmMixed Tryz.ftOkF (l := []) .nil Tryz.rF20

def Tryz.eF21 : Ent := ⟨91, [.ptr 2377 0],
 [(1805, .arr 9 1 true [.str [1, 0, 1, 0, 0, 0, 0]]),
  (1804, .arr 3 1 true [.int .i64 0]),
  (1803, .arr 3 1 true [.int .i64 0]),
  (1809, .arr 61 15 false [.agg [.int .i64 0, .int .i64 0, .ref 1803 1 0 1 none, .ref 1804 1 0 1 none, .ref 1805 1 0 1 none, .imm 5 [] 9, .int .u8 0, .int .i64 0, .imm 0 [] 0, .str [], .str [], .imm 0 [] 0, .imm 0 [] 0, .imm 1 [] 9, .int .i64 0]]),
  (1797, .arr 3 1 true [.int .i64 0]),
  (1796, .arr 3 1 true [.int .i64 0]),
  (1799, .arr 56 2 false [.agg [.ref 1796 1 0 1 none, .ref 1797 1 0 1 none]]),
  (2377, .box [.int .i64 0, .ref 1799 2 0 1 none, .ref 1809 15 0 1 none, .imm 0 [] 0, .imm 0 [] 0, .imm 0 [] 0])], 2410,
 { d := .mref 2410, vc := true, eff := [(2410, some (.map []))], nw := (2410, 2475), met := [1805, 1804, 1803, 1809, 1797, 1796, 1799, 2377] }⟩
theorem Tryz.rF21 : runFQ (getLQ Tryz.ftLF) Tryz.ptF Tryz.tm 2000 (callN (callKQ [] noCall) (getLQ Tryz.ftLF) Tryz.ptF Tryz.tm 2000 60) Tryz.eF21.K Tryz.eF21.args Tryz.eF21.heap Tryz.eF21.nx = some Tryz.eF21.out := by kernel_rfl
theorem Tryz.kF21 : EntOk Tryz.prog Tryz.eF21 := entOk_of_runN Tryz.tmOk Tryz.tmMixed Tryz.ftOkF (l := []) .nil Tryz.rF21

def Tryz.eF22 : Ent := ⟨43, [.ptr 2493 0, .int .i64 0, .agg [.int .u8 2, .int .i64 0, .imm 0 [] 0, .int .i64 0, .str [], .str [], .int .i64 0, .int .i64 1, .imm 0 [] 0, .int .i64 0, .int .i64 0, .int .i64 0]],
 [(2488, .arr 9 1 true [.str [1, 0, 1, 0, 0, 0, 0]]),
  (2487, .arr 3 1 true [.int .i64 0]),
  (2486, .arr 3 1 true [.int .i64 0]),
  (2492, .arr 61 15 false [.agg [.int .i64 0, .int .i64 0, .ref 2486 1 0 1 none, .ref 2487 1 0 1 none, .ref 2488 1 0 1 none, .imm 5 [] 9, .int .u8 0, .int .i64 0, .imm 0 [] 0, .str [], .str [], .imm 0 [] 0, .imm 0 [] 0, .imm 1 [] 9, .int .i64 0]]),
  (2480, .arr 3 1 true [.int .i64 0]),
  (2479, .arr 3 1 true [.int .i64 0]),
  (2482, .arr 56 2 false [.agg [.ref 2479 1 0 1 none, .ref 2480 1 0 1 none]]),
  (2493, .box [.int .i64 0, .ref 2482 2 0 1 none, .ref 2492 15 0 1 none, .imm 0 [] 0, .imm 0 [] 0, .imm 0 [] 0])], 2625,
 { d := .int .i64 0, vc := true, eff := [(2492, some (.arr 61 15 false [.agg [.int .i64 0, .int .i64 0, .ref 2680 1 0 1 none, .ref 2681 1 0 1 none, .ref 2682 1 0 1 none, .imm 5 [] 9, .int .u8 0, .int .i64 0, .imm 0 [] 0, .str [], .str [], .imm 0 [] 0, .imm 0 [] 0, .ref 2702 1 0 1 none, .int .i64 0]])),
  (2702, some (.arr 9 1 true [.str [2, 0, 1]])),
  (2682, some (.arr 9 1 true [.str [1, 0, 1, 0, 0, 0, 0]])),
  (2681, some (.arr 3 1 true [.int .i64 0])),
  (2680, some (.arr 3 1 true [.int .i64 0]))], nw := (2625, 2704), met := [2488, 2487, 2486, 2492, 2480, 2479, 2482, 2493] }⟩
theorem Tryz.rF22 : runFQ (getLQ Tryz.ftLF) Tryz.ptF Tryz.tm 2000 (callN (callKQ [] noCall) (getLQ Tryz.ftLF) Tryz.ptF Tryz.tm 2000 60) Tryz.eF22.K Tryz.eF22.args Tryz.eF22.heap Tryz.eF22.nx = some Tryz.eF22.out := by kernel_rfl
theorem Tryz.kF22 : EntOk Tryz.prog Tryz.eF22 := entOk_of_runN Tryz.tmOk Tryz.tmMixed Tryz.ftOkF (l := []) .nil Tryz.rF22

def Tryz.eF23 : Ent := ⟨231, [.agg [.ref 2751 1 0 1 none, .ref 2752 1 0 1 none], .ref 2753 1 0 1 none],
 [(2753, .arr 9 1 true [.str [1, 0, 1, 0, 0, 0, 0]]),
  (2752, .arr 3 1 true [.int .i64 0]),
  (2751, .arr 3 1 true [.int .i64 0])], 2758,
 { d := .tuple [.ref 2784 1 0 1 none, .int .i64 0], vc := true, eff := [(2784, some (.arr 3 1 true [.int .i64 0]))], nw := (2758, 2785), met := [2753, 2752, 2751] }⟩
theorem Tryz.rF23 : runFI (getL Tryz.frLF) (getL Tryz.fyLF) Tryz.ptF Tryz.tm 2000 (callN (callKQ [] noCall) (getLQ Tryz.ftLF) Tryz.ptF Tryz.tm 2000 60) Tryz.eF23.K Tryz.eF23.args Tryz.eF23.heap Tryz.eF23.nx = some Tryz.eF23.out := by kernel_rfl
theorem Tryz.kF23 : EntOk Tryz.prog Tryz.eF23 := entOk_of_runNI Tryz.tmOk Tryz.tmMixed Tryz.ftOkF Tryz.frOkF Tryz.fyOkF (l := []) .nil Tryz.rF23

def Tryz.eF24 : Ent := ⟨112, [.ptr 2757 0],
 [(2754, .arr 9 1 true [.str [2, 0, 1]]),
  (2753, .arr 9 1 true [.str [1, 0, 1, 0, 0, 0, 0]]),
  (2752, .arr 3 1 true [.int .i64 0]),
  (2751, .arr 3 1 true [.int .i64 0]),
  (2757, .box [.int .i64 0, .int .i64 0, .ref 2751 1 0 1 none, .ref 2752 1 0 1 none, .ref 2753 1 0 1 none, .imm 5 [] 9, .int .u8 0, .int .i64 0, .imm 0 [] 0, .str [], .str [], .imm 0 [] 0, .imm 0 [] 0, .ref 2754 1 0 1 none, .int .i64 0, .imm 0 [] 0, .imm 0 [] 0])], 2758,
 { d := .tuple [], vc := true, eff := [(2753, none),
  (2754, some (.arr 9 1 true [.str []])),
  (2757, some (.box [.int .i64 0, .int .i64 0, .ref 2751 1 0 1 none, .ref 2752 1 0 1 none, .ref 2867 1 0 2 none, .ref 2798 5 0 0 none, .int .u8 0, .int .i64 0, .imm 0 [] 0, .str [], .str [], .imm 0 [] 0, .imm 0 [] 0, .ref 2754 1 0 0 none, .int .i64 0, .ref 2861 5 0 3 none, .imm 0 [] 0])),
  (2861, some (.arr 287 5 true [.agg [.int .u8 1, .int .i64 0, .int .i64 2, .int .i64 8, .str []], .agg [.int .u8 2, .int .i64 0, .int .i64 2, .int .i64 8, .str [2, 0, 1]], .agg [.int .u8 3, .int .i64 0, .int .i64 2, .int .i64 0, .str [2, 0, 1]]])),
  (2798, some (.arr 119 5 true [.agg [.int .i64 0, .int .i64 0, .int .i64 0, .int .i64 0, .str []]])),
  (2867, some (.arr 9 1 true [.str [1, 0, 1, 0, 0, 0, 0], .str [2, 0, 1]]))], nw := (2758, 2869), met := [2754, 2753, 2752, 2751, 2757] }⟩
theorem Tryz.rF24 : runFQ (getLQ Tryz.ftLF) Tryz.ptF Tryz.tm 2000 (callN (callKQ [Tryz.eF23] noCall) (getLQ Tryz.ftLF) Tryz.ptF Tryz.tm 2000 60) Tryz.eF24.K Tryz.eF24.args Tryz.eF24.heap Tryz.eF24.nx = some Tryz.eF24.out := by kernel_rfl
theorem Tryz.kF24 : EntOk Tryz.prog Tryz.eF24 := entOk_of_runN Tryz.tmOk Tryz.tmMixed Tryz.ftOkF (l := [Tryz.eF23]) (.cons Tryz.kF23 .nil) Tryz.rF24

def Tryz.eF25 : Ent := ⟨52, [.ptr 2493 0],
 [(2870, .arr 287 5 true [.agg [.int .u8 1, .int .i64 0, .int .i64 2, .int .i64 8, .str []], .agg [.int .u8 2, .int .i64 0, .int .i64 2, .int .i64 8, .str [2, 0, 1]], .agg [.int .u8 3, .int .i64 0, .int .i64 2, .int .i64 0, .str [2, 0, 1]]]),
  (2754, .arr 9 1 true [.str []]),
  (2798, .arr 119 5 true [.agg [.int .i64 0, .int .i64 0, .int .i64 0, .int .i64 0, .str []]]),
  (2867, .arr 9 1 true [.str [1, 0, 1, 0, 0, 0, 0], .str [2, 0, 1]]),
  (2752, .arr 3 1 true [.int .i64 0]),
  (2751, .arr 3 1 true [.int .i64 0]),
  (2492, .arr 61 15 false [.agg [.int .i64 0, .int .i64 0, .ref 2751 1 0 1 none, .ref 2752 1 0 1 none, .ref 2867 1 0 2 none, .ref 2798 5 0 0 none, .int .u8 0, .int .i64 0, .imm 0 [] 0, .str [], .str [], .imm 0 [] 0, .imm 0 [] 0, .ref 2754 1 0 0 none, .int .i64 0]]),
  (2480, .arr 3 1 true [.int .i64 0]),
  (2479, .arr 3 1 true [.int .i64 0]),
  (2482, .arr 56 2 false [.agg [.ref 2479 1 0 1 none, .ref 2480 1 0 1 none]]),
  (2493, .box [.int .i64 0, .ref 2482 2 0 1 none, .ref 2492 15 0 1 none, .imm 0 [] 0, .ref 2870 5 0 3 none, .imm 10 [] 0])], 2871,
 { d := .tuple [], vc := true, eff := [(2493, some (.box [.int .i64 0, .ref 2482 2 0 1 none, .ref 2492 15 0 1 none, .imm 0 [] 0, .ref 2870 5 0 3 none, .imm 10 [] 0]))], nw := (2871, 2992), met := [2870, 2754, 2798, 2867, 2752, 2751, 2492, 2480, 2479, 2482, 2493] }⟩
theorem Tryz.rF25 : runFQ (getLQ Tryz.ftLF) Tryz.ptF Tryz.tm 2000 (callN (callKQ [] noCall) (getLQ Tryz.ftLF) Tryz.ptF Tryz.tm 2000 60) Tryz.eF25.K Tryz.eF25.args Tryz.eF25.heap Tryz.eF25.nx = some Tryz.eF25.out := by kernel_rfl
theorem Tryz.kF25 : EntOk Tryz.prog Tryz.eF25 := entOk_of_runN Tryz.tmOk Tryz.tmMixed Tryz.ftOkF (l := []) .nil Tryz.rF25

def Tryz.eF26 : Ent := ⟨50, [.ptr 2493 0, .int .i64 0, .fn (.func 51) []],
 [(2702, .arr 9 1 true [.str [2, 0, 1]]),
  (2682, .arr 9 1 true [.str [1, 0, 1, 0, 0, 0, 0]]),
  (2681, .arr 3 1 true [.int .i64 0]),
  (2680, .arr 3 1 true [.int .i64 0]),
  (2492, .arr 61 15 false [.agg [.int .i64 0, .int .i64 0, .ref 2680 1 0 1 none, .ref 2681 1 0 1 none, .ref 2682 1 0 1 none, .imm 5 [] 9, .int .u8 0, .int .i64 0, .imm 0 [] 0, .str [], .str [], .imm 0 [] 0, .imm 0 [] 0, .ref 2702 1 0 1 none, .int .i64 0]]),
  (2480, .arr 3 1 true [.int .i64 0]),
  (2479, .arr 3 1 true [.int .i64 0]),
  (2482, .arr 56 2 false [.agg [.ref 2479 1 0 1 none, .ref 2480 1 0 1 none]]),
  (2493, .box [.int .i64 0, .ref 2482 2 0 1 none, .ref 2492 15 0 1 none, .imm 0 [] 0, .imm 0 [] 0, .imm 0 [] 0])], 2704,
 { d := .int .i64 0, vc := true, eff := [(2493, some (.box [.int .i64 0, .ref 2482 2 0 1 none, .ref 2492 15 0 1 none, .imm 0 [] 0, .ref 2870 5 0 3 none, .imm 10 [] 0])),
  (2492, some (.arr 61 15 false [.agg [.int .i64 0, .int .i64 0, .ref 2751 1 0 1 none, .ref 2752 1 0 1 none, .ref 2867 1 0 2 none, .ref 2798 5 0 0 none, .int .u8 0, .int .i64 0, .imm 0 [] 0, .str [], .str [], .imm 0 [] 0, .imm 0 [] 0, .ref 2754 1 0 0 none, .int .i64 0]])),
  (2870, some (.arr 287 5 true [.agg [.int .u8 1, .int .i64 0, .int .i64 2, .int .i64 8, .str []], .agg [.int .u8 2, .int .i64 0, .int .i64 2, .int .i64 8, .str [2, 0, 1]], .agg [.int .u8 3, .int .i64 0, .int .i64 2, .int .i64 0, .str [2, 0, 1]]])),
  (2754, some (.arr 9 1 true [.str []])),
  (2798, some (.arr 119 5 true [.agg [.int .i64 0, .int .i64 0, .int .i64 0, .int .i64 0, .str []]])),
  (2867, some (.arr 9 1 true [.str [1, 0, 1, 0, 0, 0, 0], .str [2, 0, 1]])),
  (2752, some (.arr 3 1 true [.int .i64 0])),
  (2751, some (.arr 3 1 true [.int .i64 0]))], nw := (2704, 2871), met := [2702, 2682, 2681, 2680, 2492, 2480, 2479, 2482, 2493] }⟩
theorem Tryz.rF26 : runFQ (getLQ Tryz.ftLF) Tryz.ptF Tryz.tm 2000 (callN (callKQ [Tryz.eF24] noCall) (getLQ Tryz.ftLF) Tryz.ptF Tryz.tm 2000 60) Tryz.eF26.K Tryz.eF26.args Tryz.eF26.heap Tryz.eF26.nx = some Tryz.eF26.out := by kernel_rfl
theorem Tryz.kF26 : EntOk Tryz.prog Tryz.eF26 := entOk_of_runN Tryz.tmOk Tryz.tmMixed Tryz.ftOkF (l := [Tryz.eF24]) (.cons Tryz.kF24 .nil) Tryz.rF26

def Tryz.eF27 : Ent := ⟨49, [.ptr 2493 0, .int .i64 0, .agg [.int .i64 0, .ref 2554 1 0 1 none, .int .i64 0, .str [], .str []]],
 [(2554, .arr 3 1 true [.int .i64 0]),
  (2488, .arr 9 1 true [.str [1, 0, 1, 0, 0, 0, 0]]),
  (2487, .arr 3 1 true [.int .i64 0]),
  (2486, .arr 3 1 true [.int .i64 0]),
  (2492, .arr 61 15 false [.agg [.int .i64 0, .int .i64 0, .ref 2486 1 0 1 none, .ref 2487 1 0 1 none, .ref 2488 1 0 1 none, .imm 5 [] 9, .int .u8 0, .int .i64 0, .imm 0 [] 0, .str [], .str [], .imm 0 [] 0, .imm 0 [] 0, .imm 1 [] 9, .int .i64 0]]),
  (2480, .arr 3 1 true [.int .i64 0]),
  (2479, .arr 3 1 true [.int .i64 0]),
  (2482, .arr 56 2 false [.agg [.ref 2479 1 0 1 none, .ref 2480 1 0 1 none]]),
  (2493, .box [.int .i64 0, .ref 2482 2 0 1 none, .ref 2492 15 0 1 none, .imm 0 [] 0, .imm 0 [] 0, .imm 0 [] 0])], 2558,
 { d := .tuple [], vc := true, eff := [(2492, some (.arr 61 15 false [.agg [.int .i64 0, .int .i64 0, .ref 2680 1 0 1 none, .ref 2681 1 0 1 none, .ref 2682 1 0 1 none, .imm 5 [] 9, .int .u8 0, .int .i64 0, .imm 0 [] 0, .str [], .str [], .imm 0 [] 0, .imm 0 [] 0, .ref 2702 1 0 1 none, .int .i64 0]])),
  (2702, some (.arr 9 1 true [.str [2, 0, 1]])),
  (2682, some (.arr 9 1 true [.str [1, 0, 1, 0, 0, 0, 0]])),
  (2681, some (.arr 3 1 true [.int .i64 0])),
  (2680, some (.arr 3 1 true [.int .i64 0]))], nw := (2558, 2704), met := [2554, 2488, 2487, 2486, 2492, 2480, 2479, 2482, 2493] }⟩
theorem Tryz.rF27 : runFQ (getLQ Tryz.ftLF) Tryz.ptF Tryz.tm 2000 (callN (callKQ [Tryz.eF22] noCall) (getLQ Tryz.ftLF) Tryz.ptF Tryz.tm 2000 60) Tryz.eF27.K Tryz.eF27.args Tryz.eF27.heap Tryz.eF27.nx = some Tryz.eF27.out := by kernel_rfl
theorem Tryz.kF27 : EntOk Tryz.prog Tryz.eF27 := entOk_of_runN Tryz.tmOk Tryz.tmMixed Tryz.ftOkF (l := [Tryz.eF22]) (.cons Tryz.kF22 .nil) Tryz.rF27

def Tryz.eF28 : Ent := ⟨48, [.agg [.int .i64 0, .int .i64 0, .ref 1803 1 0 1 none, .ref 1804 1 0 1 none, .ref 1805 1 0 1 none, .imm 5 [] 9, .int .u8 0, .int .i64 0, .imm 0 [] 0, .str [], .str [], .imm 0 [] 0, .imm 0 [] 0, .imm 1 [] 9, .int .i64 0]],
 [(1805, .arr 9 1 true [.str [1, 0, 1, 0, 0, 0, 0]]),
  (1804, .arr 3 1 true [.int .i64 0]),
  (1803, .arr 3 1 true [.int .i64 0])], 2495,
 { d := .ref 2553 7 0 1 none, vc := true, eff := [(2554, some (.arr 3 1 true [.int .i64 0])),
  (2553, some (.arr 123 7 false [.agg [.int .i64 0, .ref 2554 1 0 1 none, .int .i64 0, .str [], .str [], .int .i64 1, .bool false]]))], nw := (2495, 2557), met := [1805, 1804, 1803] }⟩
theorem Tryz.rF28 : runFQ (getLQ Tryz.ftLF) Tryz.ptF Tryz.tm 2000 (callN (callKQ [] noCall) (getLQ Tryz.ftLF) Tryz.ptF Tryz.tm 2000 60) Tryz.eF28.K Tryz.eF28.args Tryz.eF28.heap Tryz.eF28.nx = some Tryz.eF28.out := by kernel_rfl
theorem Tryz.kF28 : EntOk Tryz.prog Tryz.eF28 := entOk_of_runN Tryz.tmOk Tryz.tmMixed Tryz.ftOkF (l := []) .nil Tryz.rF28

def Tryz.eF29 : Ent := ⟨131, [.agg [.bool true, .int .i64 0, .ref 1799 2 0 1 none, .ref 1809 15 0 1 none, .imm 0 [] 0, .ref 1790 1 0 30 none, .imm 0 [] 0, .imm 0 [] 0], .bool true],
 [(1790, .arr 5 1 true [.int .u8 4, .int .u8 1, .int .u8 0, .int .u8 1, .int .u8 8, .int .u8 12, .int .u8 2, .int .u8 0, .int .u8 1, .int .u8 8, .int .u8 7, .int .u8 1, .int .u8 0, .int .u8 1, .int .u8 0, .int .u8 0, .int .u8 0, .int .u8 0, .int .u8 11, .int .u8 3, .int .u8 0, .int .u8 1, .int .u8 7, .int .u8 1, .int .u8 0, .int .u8 1, .int .u8 0, .int .u8 0, .int .u8 0, .int .u8 0]),
  (1805, .arr 9 1 true [.str [1, 0, 1, 0, 0, 0, 0]]),
  (1804, .arr 3 1 true [.int .i64 0]),
  (1803, .arr 3 1 true [.int .i64 0]),
  (1809, .arr 61 15 false [.agg [.int .i64 0, .int .i64 0, .ref 1803 1 0 1 none, .ref 1804 1 0 1 none, .ref 1805 1 0 1 none, .imm 5 [] 9, .int .u8 0, .int .i64 0, .imm 0 [] 0, .str [], .str [], .imm 0 [] 0, .imm 0 [] 0, .imm 1 [] 9, .int .i64 0]]),
  (1797, .arr 3 1 true [.int .i64 0]),
  (1796, .arr 3 1 true [.int .i64 0]),
  (1799, .arr 56 2 false [.agg [.ref 1796 1 0 1 none, .ref 1797 1 0 1 none]])], 2173,
 { d := .int .i64 0, vc := true, eff := [], nw := (2173, 2374), met := [1790, 1805, 1804, 1803, 1809, 1797, 1796, 1799] }⟩
theorem Tryz.rF29 : runFQ (getLQ Tryz.ftLF) Tryz.ptF Tryz.tm 2000 (callN (callKQ [Tryz.eF20, Tryz.eF19] noCall) (getLQ Tryz.ftLF) Tryz.ptF Tryz.tm 2000 60) Tryz.eF29.K Tryz.eF29.args Tryz.eF29.heap Tryz.eF29.nx = some Tryz.eF29.out := by kernel_rfl
theorem Tryz.kF29 : EntOk Tryz.prog Tryz.eF29 := entOk_of_runN Tryz.tmOk Tryz.tmMixed Tryz.ftOkF (l := [Tryz.eF20, Tryz.eF19]) (.cons Tryz.kF20 (.cons Tryz.kF19 .nil)) Tryz.rF29

def Tryz.eF30 : Ent := ⟨15, [.agg [.int .i64 0, .ref 1799 2 0 1 none, .ref 1809 15 0 1 none, .imm 0 [] 0]],
 [(1805, .arr 9 1 true [.str [1, 0, 1, 0, 0, 0, 0]]),
  (1804, .arr 3 1 true [.int .i64 0]),
  (1803, .arr 3 1 true [.int .i64 0]),
  (1809, .arr 61 15 false [.agg [.int .i64 0, .int .i64 0, .ref 1803 1 0 1 none, .ref 1804 1 0 1 none, .ref 1805 1 0 1 none, .imm 5 [] 9, .int .u8 0, .int .i64 0, .imm 0 [] 0, .str [], .str [], .imm 0 [] 0, .imm 0 [] 0, .imm 1 [] 9, .int .i64 0]]),
  (1797, .arr 3 1 true [.int .i64 0]),
  (1796, .arr 3 1 true [.int .i64 0]),
  (1799, .arr 56 2 false [.agg [.ref 1796 1 0 1 none, .ref 1797 1 0 1 none]])], 2374,
 { d := .tuple [.agg [.int .i64 0, .ref 2482 2 0 1 none, .ref 2492 15 0 1 none, .imm 0 [] 0], .ref 2870 5 0 3 none, .imm 10 [] 0, .int .i64 0], vc := true, eff := [(2870, some (.arr 287 5 true [.agg [.int .u8 1, .int .i64 0, .int .i64 2, .int .i64 8, .str []], .agg [.int .u8 2, .int .i64 0, .int .i64 2, .int .i64 8, .str [2, 0, 1]], .agg [.int .u8 3, .int .i64 0, .int .i64 2, .int .i64 0, .str [2, 0, 1]]])),
  (2754, some (.arr 9 1 true [.str []])),
  (2798, some (.arr 119 5 true [.agg [.int .i64 0, .int .i64 0, .int .i64 0, .int .i64 0, .str []]])),
  (2867, some (.arr 9 1 true [.str [1, 0, 1, 0, 0, 0, 0], .str [2, 0, 1]])),
  (2752, some (.arr 3 1 true [.int .i64 0])),
  (2751, some (.arr 3 1 true [.int .i64 0])),
  (2492, some (.arr 61 15 false [.agg [.int .i64 0, .int .i64 0, .ref 2751 1 0 1 none, .ref 2752 1 0 1 none, .ref 2867 1 0 2 none, .ref 2798 5 0 0 none, .int .u8 0, .int .i64 0, .imm 0 [] 0, .str [], .str [], .imm 0 [] 0, .imm 0 [] 0, .ref 2754 1 0 0 none, .int .i64 0]])),
  (2480, some (.arr 3 1 true [.int .i64 0])),
  (2479, some (.arr 3 1 true [.int .i64 0])),
  (2482, some (.arr 56 2 false [.agg [.ref 2479 1 0 1 none, .ref 2480 1 0 1 none]]))], nw := (2374, 2992), met := [1805, 1804, 1803, 1809, 1797, 1796, 1799] }⟩
theorem Tryz.rF30 : runFQ (getLQ Tryz.ftLF) Tryz.ptF Tryz.tm 2000 (callN (callKQ [Tryz.eF25, Tryz.eF26, Tryz.eF27, Tryz.eF28, Tryz.eF21] noCall) (getLQ Tryz.ftLF) Tryz.ptF Tryz.tm 2000 60) Tryz.eF30.K Tryz.eF30.args Tryz.eF30.heap Tryz.eF30.nx = some Tryz.eF30.out := by kernel_rfl
theorem Tryz.kF30 : EntOk Tryz.prog Tryz.eF30 := entOk_of_runN Tryz.tmOk Tryz.tmMixed Tryz.ftOkF (l := [Tryz.eF25, Tryz.eF26, Tryz.eF27, Tryz.eF28, Tryz.eF21]) (.cons Tryz.kF25 (.cons Tryz.kF26 (.cons Tryz.kF27 (.cons Tryz.kF28 (.cons Tryz.kF21 .nil))))) Tryz.rF30

def Tryz.eF31 : Ent := ⟨56, [.agg [.ref 1817 2 0 1 none, .ref 1854 8 0 1 none, .imm 10 [] 0]],
 [(1790, .arr 5 1 true [.int .u8 4, .int .u8 1, .int .u8 0, .int .u8 1, .int .u8 8, .int .u8 12, .int .u8 2, .int .u8 0, .int .u8 1, .int .u8 8, .int .u8 7, .int .u8 1, .int .u8 0, .int .u8 1, .int .u8 0, .int .u8 0, .int .u8 0, .int .u8 0, .int .u8 11, .int .u8 3, .int .u8 0, .int .u8 1, .int .u8 7, .int .u8 1, .int .u8 0, .int .u8 1, .int .u8 0, .int .u8 0, .int .u8 0, .int .u8 0]),
  (1805, .arr 9 1 true [.str [1, 0, 1, 0, 0, 0, 0]]),
  (1804, .arr 3 1 true [.int .i64 0]),
  (1803, .arr 3 1 true [.int .i64 0]),
  (1809, .arr 61 15 false [.agg [.int .i64 0, .int .i64 0, .ref 1803 1 0 1 none, .ref 1804 1 0 1 none, .ref 1805 1 0 1 none, .imm 5 [] 9, .int .u8 0, .int .i64 0, .imm 0 [] 0, .str [], .str [], .imm 0 [] 0, .imm 0 [] 0, .imm 1 [] 9, .int .i64 0]]),
  (1797, .arr 3 1 true [.int .i64 0]),
  (1796, .arr 3 1 true [.int .i64 0]),
  (1799, .arr 56 2 false [.agg [.ref 1796 1 0 1 none, .ref 1797 1 0 1 none]]),
  (1854, .arr 132 8 false [.agg [.bool true, .int .i64 0, .ref 1799 2 0 1 none, .ref 1809 15 0 1 none, .imm 0 [] 0, .ref 1790 1 0 30 none, .imm 0 [] 0, .imm 0 [] 0]]),
  (1815, .arr 3 1 true [.int .i64 0]),
  (1814, .arr 3 1 true [.int .i64 0]),
  (1817, .arr 56 2 false [.agg [.ref 1814 1 0 1 none, .ref 1815 1 0 1 none]])], 1933,
 { d := .int .i64 0, vc := true, eff := [], nw := (1933, 2167), met := [1790, 1805, 1804, 1803, 1809, 1797, 1796, 1799, 1854, 1815, 1814, 1817] }⟩
theorem Tryz.rF31 : runFQ (getLQ Tryz.ftLF) Tryz.ptF Tryz.tm 2000 (callN (callKQ [Tryz.eF18, Tryz.eF17] noCall) (getLQ Tryz.ftLF) Tryz.ptF Tryz.tm 2000 60) Tryz.eF31.K Tryz.eF31.args Tryz.eF31.heap Tryz.eF31.nx = some Tryz.eF31.out := by kernel_rfl
theorem Tryz.kF31 : EntOk Tryz.prog Tryz.eF31 := entOk_of_runN Tryz.tmOk Tryz.tmMixed Tryz.ftOkF (l := [Tryz.eF18, Tryz.eF17]) (.cons Tryz.kF18 (.cons Tryz.kF17 .nil)) Tryz.rF31

def Tryz.eF32 : Ent := ⟨91, [.ptr 3230 0],
 [(2754, .arr 9 1 true [.str []]),
  (2798, .arr 119 5 true [.agg [.int .i64 0, .int .i64 0, .int .i64 0, .int .i64 0, .str []]]),
  (2867, .arr 9 1 true [.str [1, 0, 1, 0, 0, 0, 0], .str [2, 0, 1]]),
  (2752, .arr 3 1 true [.int .i64 0]),
  (2751, .arr 3 1 true [.int .i64 0]),
  (2492, .arr 61 15 false [.agg [.int .i64 0, .int .i64 0, .ref 2751 1 0 1 none, .ref 2752 1 0 1 none, .ref 2867 1 0 2 none, .ref 2798 5 0 0 none, .int .u8 0, .int .i64 0, .imm 0 [] 0, .str [], .str [], .imm 0 [] 0, .imm 0 [] 0, .ref 2754 1 0 0 none, .int .i64 0]]),
  (2480, .arr 3 1 true [.int .i64 0]),
  (2479, .arr 3 1 true [.int .i64 0]),
  (2482, .arr 56 2 false [.agg [.ref 2479 1 0 1 none, .ref 2480 1 0 1 none]]),
  (3230, .box [.int .i64 0, .ref 2482 2 0 1 none, .ref 2492 15 0 1 none, .imm 0 [] 0, .imm 0 [] 0, .imm 0 [] 0])], 3280,
 { d := .mref 3280, vc := true, eff := [(3280, some (.map []))], nw := (3280, 3400), met := [2754, 2798, 2867, 2752, 2751, 2492, 2480, 2479, 2482, 3230] }⟩
theorem Tryz.rF32 : runFQ (getLQ Tryz.ftLF) Tryz.ptF Tryz.tm 2000 (callN (callKQ [] noCall) (getLQ Tryz.ftLF) Tryz.ptF Tryz.tm 2000 60) Tryz.eF32.K Tryz.eF32.args Tryz.eF32.heap Tryz.eF32.nx = some Tryz.eF32.out := by kernel_rfl
theorem Tryz.kF32 : EntOk Tryz.prog Tryz.eF32 := entOk_of_runN Tryz.tmOk Tryz.tmMixed Tryz.ftOkF (l := []) .nil Tryz.rF32

def Tryz.eF33 : Ent := ⟨210, [.str [2, 0, 1, 8, 7, 1, 0, 1, 0, 0, 0, 0]],
 [], 3498,
 { d := .tuple [.agg [.int .u8 2, .int .i64 0, .int .i64 1, .int .i64 8, .str [1, 0, 1, 0, 0, 0, 0]], .int .i64 0], vc := true, eff := [], nw := (3498, 3503), met := [] }⟩
theorem Tryz.rF33 : runFQ (getLQ Tryz.ftLF) Tryz.ptF Tryz.tm 2000 (callN (callKQ [] noCall) (getLQ Tryz.ftLF) Tryz.ptF Tryz.tm 2000 60) Tryz.eF33.K Tryz.eF33.args Tryz.eF33.heap Tryz.eF33.nx = some Tryz.eF33.out := by kernel_rfl
theorem Tryz.kF33 : EntOk Tryz.prog Tryz.eF33 := entOk_of_runN Tryz.tmOk Tryz.tmMixed Tryz.ftOkF (l := []) .nil Tryz.rF33

def Tryz.eF34 : Ent := ⟨210, [.str [2, 0, 2, 8, 3, 2, 0, 1]],
 [], 3548,
 { d := .tuple [.agg [.int .u8 2, .int .i64 0, .int .i64 2, .int .i64 8, .str [2, 0, 1]], .int .i64 0], vc := true, eff := [], nw := (3548, 3553), met := [] }⟩
theorem Tryz.rF34 : runFQ (getLQ Tryz.ftLF) Tryz.ptF Tryz.tm 2000 (callN (callKQ [] noCall) (getLQ Tryz.ftLF) Tryz.ptF Tryz.tm 2000 60) Tryz.eF34.K Tryz.eF34.args Tryz.eF34.heap Tryz.eF34.nx = some Tryz.eF34.out := by kernel_rfl
theorem Tryz.kF34 : EntOk Tryz.prog Tryz.eF34 := entOk_of_runN Tryz.tmOk Tryz.tmMixed Tryz.ftOkF (l := []) .nil Tryz.rF34

def Tryz.eF35 : Ent := ⟨210, [.str [1, 0, 1, 8]],
 [], 3483,
 { d := .tuple [.agg [.int .u8 1, .int .i64 0, .int .i64 1, .int .i64 8, .str []], .int .i64 0], vc := true, eff := [], nw := (3483, 3488), met := [] }⟩
theorem Tryz.rF35 : runFQ (getLQ Tryz.ftLF) Tryz.ptF Tryz.tm 2000 (callN (callKQ [] noCall) (getLQ Tryz.ftLF) Tryz.ptF Tryz.tm 2000 60) Tryz.eF35.K Tryz.eF35.args Tryz.eF35.heap Tryz.eF35.nx = some Tryz.eF35.out := by kernel_rfl
theorem Tryz.kF35 : EntOk Tryz.prog Tryz.eF35 := entOk_of_runN Tryz.tmOk Tryz.tmMixed Tryz.ftOkF (l := []) .nil Tryz.rF35

def Tryz.eF36 : Ent := ⟨138, [.int .i64 1, .ref 3426 1 0 6 none],
 [(3426, .arr 9 1 true [.str [1, 0, 1, 8], .str [2, 0, 1, 8, 7, 1, 0, 1, 0, 0, 0, 0], .str [3, 0, 1, 7, 1, 0, 1, 0, 0, 0, 0], .str [1, 0, 2, 8], .str [2, 0, 2, 8, 3, 2, 0, 1], .str [3, 0, 2, 3, 2, 0, 1]])], 3479,
 { d := .tuple [.agg [.ref 3481 1 0 1 (some 1), .ref 3497 5 0 0 none], .int .i64 0], vc := true, eff := [(3497, some (.arr 119 5 true [.agg [.int .i64 0, .int .i64 0, .int .i64 0, .int .i64 0, .str []]])),
  (3583, some (.arr 9 1 true [.str [1, 0, 1, 0, 0, 0, 0], .str [2, 0, 1]])),
  (3481, some (.arr 40 1 false [.ref 3583 1 0 2 none]))], nw := (3479, 3584), met := [3426] }⟩
theorem Tryz.rF36 : runFQ (getLQ Tryz.ftLF) Tryz.ptF Tryz.tm 2000 (callN (callKQ [Tryz.eF33, Tryz.eF34, Tryz.eF35] noCall) (getLQ Tryz.ftLF) Tryz.ptF Tryz.tm 2000 60) Tryz.eF36.K Tryz.eF36.args Tryz.eF36.heap Tryz.eF36.nx = some Tryz.eF36.out := by kernel_rfl
theorem Tryz.kF36 : EntOk Tryz.prog Tryz.eF36 := entOk_of_runN Tryz.tmOk Tryz.tmMixed Tryz.ftOkF (l := [Tryz.eF33, Tryz.eF34, Tryz.eF35]) (.cons Tryz.kF33 (.cons Tryz.kF34 (.cons Tryz.kF35 .nil))) Tryz.rF36

def Tryz.eF37 : Ent := ⟨41, [.agg [.int .i64 0, .ref 2482 2 0 1 none, .ref 2492 15 0 1 none, .imm 0 [] 0]],
 [(2754, .arr 9 1 true [.str []]),
  (2798, .arr 119 5 true [.agg [.int .i64 0, .int .i64 0, .int .i64 0, .int .i64 0, .str []]]),
  (2867, .arr 9 1 true [.str [1, 0, 1, 0, 0, 0, 0], .str [2, 0, 1]]),
  (2752, .arr 3 1 true [.int .i64 0]),
  (2751, .arr 3 1 true [.int .i64 0]),
  (2492, .arr 61 15 false [.agg [.int .i64 0, .int .i64 0, .ref 2751 1 0 1 none, .ref 2752 1 0 1 none, .ref 2867 1 0 2 none, .ref 2798 5 0 0 none, .int .u8 0, .int .i64 0, .imm 0 [] 0, .str [], .str [], .imm 0 [] 0, .imm 0 [] 0, .ref 2754 1 0 0 none, .int .i64 0]]),
  (2480, .arr 3 1 true [.int .i64 0]),
  (2479, .arr 3 1 true [.int .i64 0]),
  (2482, .arr 56 2 false [.agg [.ref 2479 1 0 1 none, .ref 2480 1 0 1 none]])], 3229,
 { d := .int .i64 0, vc := true, eff := [], nw := (3229, 3400), met := [2754, 2798, 2867, 2752, 2751, 2492, 2480, 2479, 2482] }⟩
theorem Tryz.rF37 : runFQ (getLQ Tryz.ftLF) Tryz.ptF Tryz.tm 2000 (callN (callKQ [Tryz.eF32] noCall) (getLQ Tryz.ftLF) Tryz.ptF Tryz.tm 2000 60) Tryz.eF37.K Tryz.eF37.args Tryz.eF37.heap Tryz.eF37.nx = some Tryz.eF37.out := by kernel_rfl
theorem Tryz.kF37 : EntOk Tryz.prog Tryz.eF37 := entOk_of_runN Tryz.tmOk Tryz.tmMixed Tryz.ftOkF (l := [Tryz.eF32]) (.cons Tryz.kF32 .nil) Tryz.rF37

def Tryz.eF38 : Ent := ⟨91, [.ptr 3614 0],
 [(2754, .arr 9 1 true [.str []]),
  (2798, .arr 119 5 true [.agg [.int .i64 0, .int .i64 0, .int .i64 0, .int .i64 0, .str []]]),
  (2867, .arr 9 1 true [.str [1, 0, 1, 0, 0, 0, 0], .str [2, 0, 1]]),
  (2752, .arr 3 1 true [.int .i64 0]),
  (2751, .arr 3 1 true [.int .i64 0]),
  (2492, .arr 61 15 false [.agg [.int .i64 0, .int .i64 0, .ref 2751 1 0 1 none, .ref 2752 1 0 1 none, .ref 2867 1 0 2 none, .ref 2798 5 0 0 none, .int .u8 0, .int .i64 0, .imm 0 [] 0, .str [], .str [], .imm 0 [] 0, .imm 0 [] 0, .ref 2754 1 0 0 none, .int .i64 0]]),
  (2480, .arr 3 1 true [.int .i64 0]),
  (2479, .arr 3 1 true [.int .i64 0]),
  (2482, .arr 56 2 false [.agg [.ref 2479 1 0 1 none, .ref 2480 1 0 1 none]]),
  (3614, .box [.int .i64 0, .ref 2482 2 0 1 none, .ref 2492 15 0 1 none, .imm 0 [] 0, .imm 0 [] 0, .imm 0 [] 0])], 3664,
 { d := .mref 3664, vc := true, eff := [(3664, some (.map []))], nw := (3664, 3784), met := [2754, 2798, 2867, 2752, 2751, 2492, 2480, 2479, 2482, 3614] }⟩
theorem Tryz.rF38 : runFQ (getLQ Tryz.ftLF) Tryz.ptF Tryz.tm 2000 (callN (callKQ [] noCall) (getLQ Tryz.ftLF) Tryz.ptF Tryz.tm 2000 60) Tryz.eF38.K Tryz.eF38.args Tryz.eF38.heap Tryz.eF38.nx = some Tryz.eF38.out := by kernel_rfl
theorem Tryz.kF38 : EntOk Tryz.prog Tryz.eF38 := entOk_of_runN Tryz.tmOk Tryz.tmMixed Tryz.ftOkF (l := []) .nil Tryz.rF38

def Tryz.eF39 : Ent := ⟨210, [.str [2, 0, 1, 8, 7, 1, 0, 1, 0, 0, 0, 0]],
 [], 3882,
 { d := .tuple [.agg [.int .u8 2, .int .i64 0, .int .i64 1, .int .i64 8, .str [1, 0, 1, 0, 0, 0, 0]], .int .i64 0], vc := true, eff := [], nw := (3882, 3887), met := [] }⟩
theorem Tryz.rF39 : runFQ (getLQ Tryz.ftLF) Tryz.ptF Tryz.tm 2000 (callN (callKQ [] noCall) (getLQ Tryz.ftLF) Tryz.ptF Tryz.tm 2000 60) Tryz.eF39.K Tryz.eF39.args Tryz.eF39.heap Tryz.eF39.nx = some Tryz.eF39.out := by kernel_rfl
theorem Tryz.kF39 : EntOk Tryz.prog Tryz.eF39 := entOk_of_runN Tryz.tmOk Tryz.tmMixed Tryz.ftOkF (l := []) .nil Tryz.rF39

def Tryz.eF40 : Ent := ⟨210, [.str [2, 0, 2, 8, 3, 2, 0, 1]],
 [], 3932,
 { d := .tuple [.agg [.int .u8 2, .int .i64 0, .int .i64 2, .int .i64 8, .str [2, 0, 1]], .int .i64 0], vc := true, eff := [], nw := (3932, 3937), met := [] }⟩
theorem Tryz.rF40 : runFQ (getLQ Tryz.ftLF) Tryz.ptF Tryz.tm 2000 (callN (callKQ [] noCall) (getLQ Tryz.ftLF) Tryz.ptF Tryz.tm 2000 60) Tryz.eF40.K Tryz.eF40.args Tryz.eF40.heap Tryz.eF40.nx = some Tryz.eF40.out := by kernel_rfl
theorem Tryz.kF40 : EntOk Tryz.prog Tryz.eF40 := entOk_of_runN Tryz.tmOk Tryz.tmMixed Tryz.ftOkF (l := []) .nil Tryz.rF40

def Tryz.eF41 : Ent := ⟨210, [.str [1, 0, 1, 8]],
 [], 3867,
 { d := .tuple [.agg [.int .u8 1, .int .i64 0, .int .i64 1, .int .i64 8, .str []], .int .i64 0], vc := true, eff := [], nw := (3867, 3872), met := [] }⟩
theorem Tryz.rF41 : runFQ (getLQ Tryz.ftLF) Tryz.ptF Tryz.tm 2000 (callN (callKQ [] noCall) (getLQ Tryz.ftLF) Tryz.ptF Tryz.tm 2000 60) Tryz.eF41.K Tryz.eF41.args Tryz.eF41.heap Tryz.eF41.nx = some Tryz.eF41.out := by kernel_rfl
theorem Tryz.kF41 : EntOk Tryz.prog Tryz.eF41 := entOk_of_runN Tryz.tmOk Tryz.tmMixed Tryz.ftOkF (l := []) .nil Tryz.rF41

def Tryz.eF42 : Ent := ⟨138, [.int .i64 1, .ref 3810 1 0 6 none],
 [(3810, .arr 9 1 true [.str [1, 0, 1, 8], .str [2, 0, 1, 8, 7, 1, 0, 1, 0, 0, 0, 0], .str [3, 0, 1, 7, 1, 0, 1, 0, 0, 0, 0], .str [1, 0, 2, 8], .str [2, 0, 2, 8, 3, 2, 0, 1], .str [3, 0, 2, 3, 2, 0, 1]])], 3863,
 { d := .tuple [.agg [.ref 3865 1 0 1 (some 1), .ref 3881 5 0 0 none], .int .i64 0], vc := true, eff := [(3881, some (.arr 119 5 true [.agg [.int .i64 0, .int .i64 0, .int .i64 0, .int .i64 0, .str []]])),
  (3967, some (.arr 9 1 true [.str [1, 0, 1, 0, 0, 0, 0], .str [2, 0, 1]])),
  (3865, some (.arr 40 1 false [.ref 3967 1 0 2 none]))], nw := (3863, 3968), met := [3810] }⟩
theorem Tryz.rF42 : runFQ (getLQ Tryz.ftLF) Tryz.ptF Tryz.tm 2000 (callN (callKQ [Tryz.eF39, Tryz.eF40, Tryz.eF41] noCall) (getLQ Tryz.ftLF) Tryz.ptF Tryz.tm 2000 60) Tryz.eF42.K Tryz.eF42.args Tryz.eF42.heap Tryz.eF42.nx = some Tryz.eF42.out := by kernel_rfl
theorem Tryz.kF42 : EntOk Tryz.prog Tryz.eF42 := entOk_of_runN Tryz.tmOk Tryz.tmMixed Tryz.ftOkF (l := [Tryz.eF39, Tryz.eF40, Tryz.eF41]) (.cons Tryz.kF39 (.cons Tryz.kF40 (.cons Tryz.kF41 .nil))) Tryz.rF42

def Tryz.eF43 : Ent := ⟨41, [.agg [.int .i64 0, .ref 2482 2 0 1 none, .ref 2492 15 0 1 none, .imm 0 [] 0]],
 [(2754, .arr 9 1 true [.str []]),
  (2798, .arr 119 5 true [.agg [.int .i64 0, .int .i64 0, .int .i64 0, .int .i64 0, .str []]]),
  (2867, .arr 9 1 true [.str [1, 0, 1, 0, 0, 0, 0], .str [2, 0, 1]]),
  (2752, .arr 3 1 true [.int .i64 0]),
  (2751, .arr 3 1 true [.int .i64 0]),
  (2492, .arr 61 15 false [.agg [.int .i64 0, .int .i64 0, .ref 2751 1 0 1 none, .ref 2752 1 0 1 none, .ref 2867 1 0 2 none, .ref 2798 5 0 0 none, .int .u8 0, .int .i64 0, .imm 0 [] 0, .str [], .str [], .imm 0 [] 0, .imm 0 [] 0, .ref 2754 1 0 0 none, .int .i64 0]]),
  (2480, .arr 3 1 true [.int .i64 0]),
  (2479, .arr 3 1 true [.int .i64 0]),
  (2482, .arr 56 2 false [.agg [.ref 2479 1 0 1 none, .ref 2480 1 0 1 none]])], 3613,
 { d := .int .i64 0, vc := true, eff := [], nw := (3613, 3784), met := [2754, 2798, 2867, 2752, 2751, 2492, 2480, 2479, 2482] }⟩
theorem Tryz.rF43 : runFQ (getLQ Tryz.ftLF) Tryz.ptF Tryz.tm 2000 (callN (callKQ [Tryz.eF38] noCall) (getLQ Tryz.ftLF) Tryz.ptF Tryz.tm 2000 60) Tryz.eF43.K Tryz.eF43.args Tryz.eF43.heap Tryz.eF43.nx = some Tryz.eF43.out := by kernel_rfl
theorem Tryz.kF43 : EntOk Tryz.prog Tryz.eF43 := entOk_of_runN Tryz.tmOk Tryz.tmMixed Tryz.ftOkF (l := [Tryz.eF38]) (.cons Tryz.kF38 .nil) Tryz.rF43

def Tryz.eF44 : Ent := ⟨67, [.agg [.ref 3161 2 0 1 none, .ref 3187 8 0 1 none, .imm 0 [] 0], .int .i64 0],
 [(3145, .arr 5 1 true [.int .u8 7, .int .u8 3, .int .u8 0, .int .u8 2, .int .u8 3, .int .u8 2, .int .u8 0, .int .u8 1]),
  (3141, .arr 5 1 true [.int .u8 8, .int .u8 2, .int .u8 0, .int .u8 2, .int .u8 8, .int .u8 3, .int .u8 2, .int .u8 0, .int .u8 1]),
  (3137, .arr 5 1 true [.int .u8 4, .int .u8 1, .int .u8 0, .int .u8 2, .int .u8 8]),
  (3147, .arr 307 2 false [.agg [.bool false, .ref 3137 1 0 5 none], .agg [.bool false, .ref 3141 1 0 9 none], .agg [.bool false, .ref 3145 1 0 8 none]]),
  (3132, .arr 5 1 true [.int .u8 4, .int .u8 1, .int .u8 0, .int .u8 1, .int .u8 8, .int .u8 12, .int .u8 2, .int .u8 0, .int .u8 1, .int .u8 8, .int .u8 7, .int .u8 1, .int .u8 0, .int .u8 1, .int .u8 0, .int .u8 0, .int .u8 0, .int .u8 0, .int .u8 11, .int .u8 3, .int .u8 0, .int .u8 1, .int .u8 7, .int .u8 1, .int .u8 0, .int .u8 1, .int .u8 0, .int .u8 0, .int .u8 0, .int .u8 0]),
  (2754, .arr 9 1 true [.str []]),
  (2798, .arr 119 5 true [.agg [.int .i64 0, .int .i64 0, .int .i64 0, .int .i64 0, .str []]]),
  (2867, .arr 9 1 true [.str [1, 0, 1, 0, 0, 0, 0], .str [2, 0, 1]]),
  (2752, .arr 3 1 true [.int .i64 0]),
  (2751, .arr 3 1 true [.int .i64 0]),
  (2492, .arr 61 15 false [.agg [.int .i64 0, .int .i64 0, .ref 2751 1 0 1 none, .ref 2752 1 0 1 none, .ref 2867 1 0 2 none, .ref 2798 5 0 0 none, .int .u8 0, .int .i64 0, .imm 0 [] 0, .str [], .str [], .imm 0 [] 0, .imm 0 [] 0, .ref 2754 1 0 0 none, .int .i64 0]]),
  (2480, .arr 3 1 true [.int .i64 0]),
  (2479, .arr 3 1 true [.int .i64 0]),
  (2482, .arr 56 2 false [.agg [.ref 2479 1 0 1 none, .ref 2480 1 0 1 none]]),
  (3187, .arr 132 8 false [.agg [.bool true, .int .i64 0, .ref 2482 2 0 1 none, .ref 2492 15 0 1 none, .imm 0 [] 0, .ref 3132 1 0 30 none, .ref 3147 2 0 3 none, .imm 10 [] 0]]),
  (3159, .arr 3 1 true [.int .i64 0]),
  (3158, .arr 3 1 true [.int .i64 0]),
  (3161, .arr 56 2 false [.agg [.ref 3158 1 0 1 none, .ref 3159 1 0 1 none]])], 3597,
 { d := .tuple [.agg [.ref 4018 2 0 1 none, .ref 4056 8 0 1 none, .imm 10 [] 0], .int .i64 0], vc := true, eff := [(3991, some (.arr 5 1 true [.int .u8 4, .int .u8 1, .int .u8 0, .int .u8 1, .int .u8 8, .int .u8 12, .int .u8 2, .int .u8 0, .int .u8 1, .int .u8 8, .int .u8 7, .int .u8 1, .int .u8 0, .int .u8 1, .int .u8 0, .int .u8 0, .int .u8 0, .int .u8 0, .int .u8 11, .int .u8 3, .int .u8 0, .int .u8 1, .int .u8 7, .int .u8 1, .int .u8 0, .int .u8 1, .int .u8 0, .int .u8 0, .int .u8 0, .int .u8 0, .int .u8 4, .int .u8 1, .int .u8 0, .int .u8 2, .int .u8 8, .int .u8 8, .int .u8 2, .int .u8 0, .int .u8 2, .int .u8 8, .int .u8 3, .int .u8 2, .int .u8 0, .int .u8 1, .int .u8 7, .int .u8 3, .int .u8 0, .int .u8 2, .int .u8 3, .int .u8 2, .int .u8 0, .int .u8 1])),
  (4006, some (.arr 9 1 true [.str [1, 0, 1, 0, 0, 0, 0], .str [2, 0, 1]])),
  (4005, some (.arr 3 1 true [.int .i64 0])),
  (4004, some (.arr 3 1 true [.int .i64 0])),
  (4010, some (.arr 61 15 false [.agg [.int .i64 0, .int .i64 0, .ref 4004 1 0 1 none, .ref 4005 1 0 1 none, .ref 4006 1 0 2 none, .imm 5 [] 9, .int .u8 0, .int .i64 0, .imm 0 [] 0, .str [], .str [], .imm 0 [] 0, .imm 0 [] 0, .imm 1 [] 9, .int .i64 0]])),
  (3998, some (.arr 3 1 true [.int .i64 0])),
  (3997, some (.arr 3 1 true [.int .i64 0])),
  (4000, some (.arr 56 2 false [.agg [.ref 3997 1 0 1 none, .ref 3998 1 0 1 none]])),
  (4056, some (.arr 132 8 false [.agg [.bool true, .int .i64 0, .ref 4000 2 0 1 none, .ref 4010 15 0 1 none, .imm 0 [] 0, .ref 3991 1 0 52 none, .imm 0 [] 0, .imm 0 [] 0]])),
  (4016, some (.arr 3 1 true [.int .i64 0])),
  (4015, some (.arr 3 1 true [.int .i64 0])),
  (4018, some (.arr 56 2 false [.agg [.ref 4015 1 0 1 none, .ref 4016 1 0 1 none]]))], nw := (3597, 4059), met := [3145, 3141, 3137, 3147, 3132, 2754, 2798, 2867, 2752, 2751, 2492, 2480, 2479, 2482, 3187, 3159, 3158, 3161] }⟩
theorem Tryz.rF44 : runFQ (getLQ Tryz.ftLF) Tryz.ptF Tryz.tm 2000 (callN (callKQ [Tryz.eF42, Tryz.eF43] noCall) (getLQ Tryz.ftLF) Tryz.ptF Tryz.tm 2000 60) Tryz.eF44.K Tryz.eF44.args Tryz.eF44.heap Tryz.eF44.nx = some Tryz.eF44.out := by kernel_rfl
theorem Tryz.kF44 : EntOk Tryz.prog Tryz.eF44 := entOk_of_runN Tryz.tmOk Tryz.tmMixed Tryz.ftOkF (l := [Tryz.eF42, Tryz.eF43]) (.cons Tryz.kF42 (.cons Tryz.kF43 .nil)) Tryz.rF44

def Tryz.eF45 : Ent := ⟨146, [.ptr 581 0],
 [(3991, .arr 5 1 true [.int .u8 4, .int .u8 1, .int .u8 0, .int .u8 1, .int .u8 8, .int .u8 12, .int .u8 2, .int .u8 0, .int .u8 1, .int .u8 8, .int .u8 7, .int .u8 1, .int .u8 0, .int .u8 1, .int .u8 0, .int .u8 0, .int .u8 0, .int .u8 0, .int .u8 11, .int .u8 3, .int .u8 0, .int .u8 1, .int .u8 7, .int .u8 1, .int .u8 0, .int .u8 1, .int .u8 0, .int .u8 0, .int .u8 0, .int .u8 0, .int .u8 4, .int .u8 1, .int .u8 0, .int .u8 2, .int .u8 8, .int .u8 8, .int .u8 2, .int .u8 0, .int .u8 2, .int .u8 8, .int .u8 3, .int .u8 2, .int .u8 0, .int .u8 1, .int .u8 7, .int .u8 3, .int .u8 0, .int .u8 2, .int .u8 3, .int .u8 2, .int .u8 0, .int .u8 1]),
  (4006, .arr 9 1 true [.str [1, 0, 1, 0, 0, 0, 0], .str [2, 0, 1]]),
  (4005, .arr 3 1 true [.int .i64 0]),
  (4004, .arr 3 1 true [.int .i64 0]),
  (4010, .arr 61 15 false [.agg [.int .i64 0, .int .i64 0, .ref 4004 1 0 1 none, .ref 4005 1 0 1 none, .ref 4006 1 0 2 none, .imm 5 [] 9, .int .u8 0, .int .i64 0, .imm 0 [] 0, .str [], .str [], .imm 0 [] 0, .imm 0 [] 0, .imm 1 [] 9, .int .i64 0]]),
  (3998, .arr 3 1 true [.int .i64 0]),
  (3997, .arr 3 1 true [.int .i64 0]),
  (4000, .arr 56 2 false [.agg [.ref 3997 1 0 1 none, .ref 3998 1 0 1 none]]),
  (4056, .arr 132 8 false [.agg [.bool true, .int .i64 0, .ref 4000 2 0 1 none, .ref 4010 15 0 1 none, .imm 0 [] 0, .ref 3991 1 0 52 none, .imm 0 [] 0, .imm 0 [] 0]]),
  (4016, .arr 3 1 true [.int .i64 0]),
  (4015, .arr 3 1 true [.int .i64 0]),
  (4018, .arr 56 2 false [.agg [.ref 4015 1 0 1 none, .ref 4016 1 0 1 none]]),
  (581, .box [.ref 4018 2 0 1 none, .ref 4056 8 0 1 none, .imm 10 [] 0, .int .i64 4])], 4060,
 { d := .int .i64 0, vc := true, eff := [], nw := (4060, 4063), met := [3991, 4006, 4005, 4004, 4010, 3998, 3997, 4000, 4056, 4016, 4015, 4018, 581] }⟩
theorem Tryz.rF45 : runFI (getL Tryz.frLF) (getL Tryz.fyLF) Tryz.ptF Tryz.tm 2000 (callN (callKQ [] noCall) (getLQ Tryz.ftLF) Tryz.ptF Tryz.tm 2000 60) Tryz.eF45.K Tryz.eF45.args Tryz.eF45.heap Tryz.eF45.nx = some Tryz.eF45.out := by kernel_rfl
theorem Tryz.kF45 : EntOk Tryz.prog Tryz.eF45 := entOk_of_runNI Tryz.tmOk Tryz.tmMixed Tryz.ftOkF Tryz.frOkF Tryz.fyOkF (l := []) .nil Tryz.rF45

end Go.Proofs
